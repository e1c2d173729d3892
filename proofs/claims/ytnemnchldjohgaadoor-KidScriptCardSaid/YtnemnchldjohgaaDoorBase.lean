/- Small words: rows of bytes, worlds that grow. -/
import Derived.Test.YtnemnchldjohgaaDoorProg
import Derived.WalkKit
import Derived.WalkSpells
import Derived.Lib.Hide
import Derived.Maps.AppendAt
import Derived.Laws.AppendOwnNone
import Derived.Deep.QuietTactic
import Derived.BigQuiet
set_option linter.unusedVariables false
namespace Go.Proofs.YtnemnchldjohgaaDoor
open Go.RowKit
theorem below_then {B : Nat} {w w1 w2 : World} (h : Below B w w1) (hB : B ≤ w1.heap.size) (k : Below w1.heap.size w1 w2) : Below B w w2 :=
  h.trans (k.mono hB)
theorem belowDrewN {B : Nat} {w w1 : World} (h : Below B w w1) (n : Nat) : Below B w (w1.drewN n) := h.trans ⟨rfl, rfl, rfl, Nat.le_refl _, fun _ _ => rfl⟩
theorem grown_of_below {w w1 : World} (h : Below w.heap.size w w1) (row : Option Nat) : w.grownBy w1 row := ⟨h.os, h.tape, h.output, h.size, fun i hi _ => h.block i hi⟩
/-- Bytes as values. -/
def byt (xs : List Int) : List Value := xs.map (Value.int .u8)
theorem byt_length (xs : List Int) : (byt xs).length = xs.length := by simp [byt]
/-- v is a slice of the bytes xs in a block of its own, from B on. -/
def OwnB (B : Nat) (v : Value) (xs : List Int) (w : World) : Prop := w.ownsRow B 5 1 v xs.length (byt xs)
theorem OwnB.nil (B : Nat) (w : World) : OwnB B (.slice none 0 0) [] w := ⟨by simp [byt], .inl ⟨rfl, rfl⟩⟩
theorem OwnB.below {B : Nat} {v : Value} {xs : List Int} {w w1 : World} (h : OwnB B v xs w) (hb : Below w.heap.size w w1) : OwnB B v xs w1 :=
  World.ownsRow.kept h (grown_of_below hb none) (by cases v.ownBlock <;> simp)
theorem OwnB.mono {B B' : Nat} {v : Value} {xs : List Int} {w : World} (h : OwnB B v xs w) (hB : B' ≤ B) : OwnB B' v xs w := by
  obtain ⟨h1, h2⟩ := h
  refine ⟨h1, h2.imp_right fun ⟨g, cap, cur, e, hg, r⟩ => ⟨g, cap, cur, e, by omega, r⟩⟩
theorem OwnB.base {B : Nat} {v : Value} {xs : List Int} {w : World} (h : OwnB B v xs w) (k : Nat) (hk : v.ownBlock = some k) : B ≤ k ∧ k < w.heap.size := by
  rcases h.2 with ⟨rfl, _⟩ | ⟨g, cap, cur, rfl, hb, hh, _⟩
  · simp [Value.ownBlock] at hk
  · have : g = k := by simpa [Value.ownBlock] using hk
    subst this
    exact ⟨hb, (Array.getElem?_eq_some_iff.1 hh).1⟩
/-- What is read of it. -/
def ReadB (v : Value) (xs : List Int) (w : World) : Prop :=
  ∃ ad c, v = .slice ad xs.length c ∧ xs.length ≤ c ∧ xs.length ≤ 9223372036854775807 ∧ (0 < xs.length → ∃ b o, ad = some ⟨b, o, none⟩ ∧ ∀ j, j < xs.length → w.cell? ⟨b, o + j, none⟩ = some (.int .u8 (xs.getD j 0)))
theorem OwnB.reads {B : Nat} {v : Value} {xs : List Int} {w : World} (h : OwnB B v xs w) : ReadB v xs w := by
  have hc : ∀ g, v.ownBlock = some g → ∀ j, j < xs.length → w.cell? ⟨g, 0 + j, none⟩ = some (.int .u8 (xs.getD j 0)) := fun g hg j hj => by
    have h1 := World.ownsRow.cells h (g := g) hg j (.int .u8 (xs.getD j 0)) (by simp [byt, List.getD_eq_getElem?_getD, List.getElem?_eq_getElem hj])
    have ha : (⟨g, 0, none⟩ : Addr).add j = ⟨g, 0 + j, none⟩ := by unfold Addr.add; split <;> simp_all
    rwa [ha] at h1
  rcases h.2 with ⟨rfl, h0⟩ | ⟨g, cap, cur, rfl, hb, hh, h1, h2, _⟩
  · exact ⟨none, 0, by rw [h0], by omega, by omega, fun hp => by omega⟩
  · simp only [maxLen] at h2
    exact ⟨some ⟨g, 0, none⟩, cap, rfl, h1, by omega, fun _ => ⟨g, 0, rfl, hc g rfl⟩⟩
theorem ReadB.below {v : Value} {xs : List Int} {w w1 : World} (h : ReadB v xs w) (hb : Below w.heap.size w w1) : ReadB v xs w1 := by
  obtain ⟨ad, c, e, h1, h2, h3⟩ := h
  refine ⟨ad, c, e, h1, h2, fun hp => ?_⟩
  obtain ⟨b, o, ha, hc⟩ := h3 hp
  refine ⟨b, o, ha, fun j hj => ?_⟩
  have hlt := World.block_lt_of_cell? w _ (hc j hj)
  exact (hb.cell (p := ⟨b, o + j, none⟩) hlt).trans (hc j hj)
/-- A slice of bytes comes back, in memory of its own. -/
def RetB (xs : List Int) (w : World) (e : Ending) (w' : World) : Prop := ∃ v, e = .returned v ∧ Below w.heap.size w w' ∧ OwnB w.heap.size v xs w'
theorem infoB : (Tryd.prog.info? 5).map (fun i => (i.zero, i.size, i.bytes)) = some (some (.int .u8 0), 1, 1) := by kernel_rfl
section
variable {ops : Array Oper} {rest : List Oper} {o : Oper} {a : Act} {Q : Exit → Act → World → Prop}
/-- append(v, y), v in memory of the call's own. -/
theorem app_byte {W : World} (base : Nat) (hgd : o.guard = none) (s x : Operand)
    (ho : o.op = .call { callee := .builtin .append, args := #[s, x], argTypes := #[31, 31] })
    (v : Value) (xs : List Int) (y : Int) (hs : a.eval s = v) (hx : a.eval x = .slice (some ⟨W.heap.size, 0, none⟩) 1 1)
    (HO : OwnB base v xs W) (hbase : base ≤ W.heap.size) (hl : xs.length + 1 ≤ 140737488355328)
    (h : ∀ v1 w1, OwnB base v1 (xs ++ [y]) w1 → W.grownBy w1 v.ownBlock → (v1.ownBlock = v.ownBlock ∨ ∃ b, v1.ownBlock = some b ∧ W.heap.size ≤ b) → wpList Tryd.prog ops Q rest (a.put o.dst v1) w1) :
    wpList Tryd.prog ops Q (o :: rest) a (W.alloc (.cells #[.int .u8 y] 5)) := by
  obtain ⟨i0, hi, hzz⟩ := Option.map_eq_some_iff.1 infoB
  simp only [Prod.mk.injEq] at hzz
  obtain ⟨hz0, hz1, hz2⟩ := hzz
  refine wpList_append_own_at (W.alloc (.cells #[.int .u8 y] 5)) hgd s x 31 ho base 5 i0 (.int .u8 0) 1 1 Tryd.underlying31 hi hz0 hz1 hz2 rfl (by omega) v xs.length (byt xs) hs (World.ownsRow.alloc HO _) ⟨W.heap.size, 0, none⟩ 1 1 [.int .u8 y] hx rfl
    (cell_one_new _ _ _) (by simp [Value.oneCell']) (by simp only [maxLen]; omega) (by omega) (by simp; omega) ?_
  intro v1 w1 hown hg _ hat
  have hgb : W.grownBy w1 v.ownBlock := World.grownBy.trans (World.grownBy_alloc W _ _) hg
  refine h v1 w1 (by unfold OwnB; simpa [byt] using hown) hgb ?_
  rcases hat with hat | hat
  · exact .inl hat
  · exact .inr ⟨_, hat, by simp⟩
/-- append([]byte{y}, v...). -/
theorem prep_byte {W : World} (base : Nat) (hgd : o.guard = none) (s x : Operand)
    (ho : o.op = .call { callee := .builtin .append, args := #[s, x], argTypes := #[31, 31] })
    (v : Value) (ys : List Int) (y : Int) (hs : a.eval s = .slice (some ⟨W.heap.size, 0, none⟩) 1 1) (hx : a.eval x = v)
    (HO : OwnB base v ys W) (hbase : base ≤ W.heap.size) (hl : ys.length + 1 ≤ 140737488355328)
    (h : ∀ v1 w1, OwnB base v1 (y :: ys) w1 → Below W.heap.size W w1 → wpList Tryd.prog ops Q rest (a.put o.dst v1) w1) :
    wpList Tryd.prog ops Q (o :: rest) a (W.alloc (.cells #[.int .u8 y] 5)) := by
  obtain ⟨i0, hi, hzz⟩ := Option.map_eq_some_iff.1 infoB
  simp only [Prod.mk.injEq] at hzz
  obtain ⟨hz0, hz1, hz2⟩ := hzz
  have hown : (W.alloc (.cells #[.int .u8 y] 5)).ownsRow base 5 1 (.slice (some ⟨W.heap.size, 0, none⟩) 1 1) 1 [.int .u8 y] :=
    ⟨rfl, .inr ⟨W.heap.size, 1, #[.int .u8 y], rfl, hbase, heap_alloc_new W _, Nat.le_refl _, by simp only [maxLen]; omega, rfl, rfl⟩⟩
  have hB0 : Below W.heap.size W (W.alloc (.cells #[.int .u8 y] 5)) := (Below.refl _ _).alloc (Nat.le_refl _) _
  rcases HO.2 with ⟨rfl, h0⟩ | ⟨g, cap, cur, rfl, hb, hh, hnc, hcm, hcs, ht⟩
  · obtain rfl : ys = [] := List.eq_nil_of_length_eq_zero h0
    refine wpList_append_own_none hgd s x 31 ho base 5 i0 1 Tryd.underlying31 hi _ 1 _ hs hown hx ?_
    exact h _ _ hown hB0
  · have hlt := (Array.getElem?_eq_some_iff.1 hh).1
    have HO2 : (W.alloc (.cells #[.int .u8 y] 5)).ownsRow base 5 1 (.slice (some ⟨g, 0, none⟩) ys.length cap) ys.length (byt ys) := World.ownsRow.alloc HO _
    refine wpList_append_own_at (W.alloc (.cells #[.int .u8 y] 5)) hgd s x 31 ho base 5 i0 (.int .u8 0) 1 1 Tryd.underlying31 hi hz0 hz1 hz2 rfl (by omega) _ 1 [.int .u8 y] hs hown ⟨g, 0, none⟩ ys.length cap (byt ys) hx (by rw [byt_length]; omega)
      (World.ownsRow.cells HO2 rfl) (by intro u hu; obtain ⟨z, _, rfl⟩ := List.mem_map.1 hu; rfl) (by simp only [maxLen]; omega) (by omega) (by simp; omega) ?_
    intro v1 w1 hown1 hg _ hat
    refine h v1 w1 ?_ (hB0.grown hg (by simp) fun k hk => by simp [Value.ownBlock] at hk; omega)
    unfold OwnB
    rw [show (y :: ys).length = 1 + ys.length by simp; omega]
    exact hown1
end
end Go.Proofs.YtnemnchldjohgaaDoor
