/- The blocks that a law keeps, while calls make more. -/
import Derived.Test.YtnemnchldjohgaaDoorBlk
set_option linter.unusedVariables false
namespace Go.Proofs.YtnemnchldjohgaaDoor
open Go.RowKit
/-- Below B the world is as w0 was; the blocks of the list hold what it says. -/
structure Sx (B : Nat) (w0 : World) (bs : List (Nat × Array Value × TypeId)) (w : World) : Prop where
  low : Below B w0 w
  base : B ≤ w.heap.size
  blk : ∀ p ∈ bs, Blk p.1 p.2.1 p.2.2 w
section
variable {B : Nat} {w0 w w' : World} {bs : List (Nat × Array Value × TypeId)}
theorem Sx.start (w : World) : Sx w.heap.size w [] w := ⟨Below.refl _ _, Nat.le_refl _, fun _ h => by cases h⟩
theorem Sx.below (h : Sx B w0 bs w) (hb : Below w.heap.size w w') : Sx B w0 bs w' :=
  ⟨below_then h.low h.base hb, Nat.le_trans h.base hb.size, fun p hp => (h.blk p hp).below hb⟩
theorem Sx.alloc (h : Sx B w0 bs w) (o : Obj) : Sx B w0 bs (w.alloc o) := h.below ((Below.refl _ _).alloc (Nat.le_refl _) _)
theorem Sx.new (h : Sx B w0 bs w) (cs : Array Value) (t : TypeId) : Sx B w0 ((w.heap.size, cs, t) :: bs) (w.alloc (.cells cs t)) :=
  ⟨(h.alloc _).low, (h.alloc _).base, fun p hp => by
    rcases List.mem_cons.1 hp with rfl | hp
    · exact Blk.new w cs t
    · exact (h.alloc _).blk p hp⟩
theorem Sx.drew (h : Sx B w0 bs w) : Sx B w0 bs w.drew := h.below (Below.drew (Below.refl _ _))
theorem Sx.drewN (h : Sx B w0 bs w) (n : Nat) : Sx B w0 bs (w.drewN n) := h.below (belowDrewN (Below.refl _ _) n)
theorem Sx.grown {g : Nat} (h : Sx B w0 bs w) (hg : w.grownBy w' (some g)) (hB : B ≤ g) (hne : ∀ p ∈ bs, p.1 ≠ g) : Sx B w0 bs w' :=
  ⟨h.low.grown hg h.base fun k e => by injection e with e; omega, Nat.le_trans h.base hg.size, fun p hp => (h.blk p hp).grown hg fun e => by injection e with e; exact hne p hp e⟩
theorem Sx.grownO {row : Option Nat} (h : Sx B w0 bs w) (hg : w.grownBy w' row) (hB : ∀ k, row = some k → B ≤ k ∧ ∀ p ∈ bs, p.1 ≠ k) : Sx B w0 bs w' :=
  ⟨h.low.grown hg h.base fun k e => (hB k e).1, Nat.le_trans h.base hg.size, fun p hp => (h.blk p hp).grown hg fun e => (hB p.1 e.symm).2 p hp rfl⟩
theorem Sx.grownNew (h : Sx B w0 bs w) {o : Obj} (hg : (w.alloc o).grownBy w' (some w.heap.size)) : Sx B w0 bs w' :=
  (h.alloc o).grown hg h.base fun p hp => by have := (h.blk p hp).lt; omega
theorem Sx.add {g : Nat} {cs : Array Value} {t : TypeId} (h : Sx B w0 bs w) (hb : Blk g cs t w) : Sx B w0 ((g, cs, t) :: bs) w :=
  ⟨h.low, h.base, fun p hp => by
    rcases List.mem_cons.1 hp with rfl | hp
    · exact hb
    · exact h.blk p hp⟩
theorem Sx.less {cs : List (Nat × Array Value × TypeId)} (h : Sx B w0 bs w) (hs : ∀ p ∈ cs, p ∈ bs) : Sx B w0 cs w := ⟨h.low, h.base, fun p hp => h.blk p (hs p hp)⟩
end
/-- .. and slices of bytes in memory of the call's own. -/
structure Sr (B : Nat) (w0 : World) (bs : List (Nat × Array Value × TypeId)) (rows : List (Nat × Value × List Int)) (w : World) : Prop where
  sx : Sx B w0 bs w
  own : ∀ p ∈ rows, OwnB p.1 p.2.1 p.2.2 w
section
variable {B : Nat} {w0 w w' : World} {bs : List (Nat × Array Value × TypeId)} {rows : List (Nat × Value × List Int)}
theorem Sr.below (h : Sr B w0 bs rows w) (hb : Below w.heap.size w w') : Sr B w0 bs rows w' := ⟨h.sx.below hb, fun p hp => (h.own p hp).below hb⟩
theorem Sr.blk (h : Sr B w0 bs rows w) (p : Nat × Array Value × TypeId) (hp : p ∈ bs) : Blk p.1 p.2.1 p.2.2 w := h.sx.blk p hp
theorem Sr.drewN (h : Sr B w0 bs rows w) (n : Nat) : Sr B w0 bs rows (w.drewN n) := h.below (belowDrewN (Below.refl _ _) n)
theorem Sr.drew (h : Sr B w0 bs rows w) : Sr B w0 bs rows w.drew := h.below (Below.drew (Below.refl _ _))
theorem Sr.alloc (h : Sr B w0 bs rows w) (o : Obj) : Sr B w0 bs rows (w.alloc o) := h.below ((Below.refl _ _).alloc (Nat.le_refl _) _)
theorem Sr.add {b : Nat} {v : Value} {xs : List Int} (h : Sr B w0 bs rows w) (ho : OwnB b v xs w) : Sr B w0 bs ((b, v, xs) :: rows) w :=
  ⟨h.sx, fun p hp => by
    rcases List.mem_cons.1 hp with rfl | hp
    · exact ho
    · exact h.own p hp⟩
theorem Sr.less {bs' : List (Nat × Array Value × TypeId)} {rows' : List (Nat × Value × List Int)} (h : Sr B w0 bs rows w) (hs : ∀ p ∈ bs', p ∈ bs) (hr : ∀ p ∈ rows', p ∈ rows) : Sr B w0 bs' rows' w := ⟨h.sx.less hs, fun p hp => h.own p (hr p hp)⟩
theorem Sr.row {b : Nat} {v : Value} {xs : List Int} (h : Sr B w0 bs ((b, v, xs) :: rows) w) : OwnB b v xs w := h.own (b, v, xs) (List.mem_cons_self ..)
theorem Sr.row2 {b b' : Nat} {v v' : Value} {xs xs' : List Int} (h : Sr B w0 bs ((b', v', xs') :: (b, v, xs) :: rows) w) : OwnB b v xs w := h.own (b, v, xs) (List.mem_cons_of_mem _ (List.mem_cons_self ..))
/-- One row is appended to, the others live on. -/
theorem Sr.app {b : Nat} {v : Value} {xs : List Int} {row : Option Nat} (h : Sr B w0 bs rows w) (ho : OwnB b v xs w) (hg : w.grownBy w' row) (hrow : row = v.ownBlock) (hB : B ≤ b) (hbs : ∀ p ∈ bs, p.1 < b) (hr : ∀ p ∈ rows, p.2.1.ownBlock = none ∨ p.2.1.ownBlock ≠ v.ownBlock) : Sr B w0 bs rows w' :=
  ⟨h.sx.grownO hg fun k e => by
    have := (ho.base k (hrow ▸ e)).1
    exact ⟨by omega, fun p hp => by have := hbs p hp; omega⟩, fun p hp => World.ownsRow.kept (h.own p hp) hg (by rw [hrow]; exact hr p hp)⟩
theorem Sr.app1 {b : Nat} {v v1 : Value} {xs ys : List Int} (h : Sr B w0 bs ((b, v, xs) :: rows) w) (ho : OwnB b v1 ys w') (hg : w.grownBy w' v.ownBlock) (hB : B ≤ b) (hbs : ∀ p ∈ bs, p.1 < b) (hr : ∀ p ∈ rows, p.2.1.ownBlock = none ∨ p.2.1.ownBlock ≠ v.ownBlock) : Sr B w0 bs ((b, v1, ys) :: rows) w' :=
  (Sr.app (h.less (bs' := bs) (rows' := rows) (fun _ hp => hp) fun _ hp => List.mem_cons_of_mem _ hp) h.row hg rfl hB hbs hr).add ho
end
theorem grown_setCells (w : World) (g : Nat) (vs : List Value) (o : Nat) : w.grownBy (w.setCells g o vs) (some g) ∧ (w.setCells g o vs).heap.size = w.heap.size := by
  induction vs generalizing w o with
  | nil => exact ⟨⟨rfl, rfl, rfl, Nat.le_refl _, fun _ _ _ => rfl⟩, rfl⟩
  | cons v vs ih =>
    obtain ⟨h1, h2⟩ := ih (w.setCell ⟨g, o, none⟩ v) (o + 1)
    have hs : (w.setCell ⟨g, o, none⟩ v).heap.size = w.heap.size := by simp [World.setCell]
    have h0 : w.grownBy (w.setCell ⟨g, o, none⟩ v) (some g) := ⟨rfl, rfl, rfl, by omega, fun k hk hne => heap_setCell_other w ⟨g, o, none⟩ k v fun e => hne (congrArg some e)⟩
    exact ⟨World.grownBy.trans h0 h1, h2.trans hs⟩
section
variable {P : Program} {ops : Array Oper} {rest : List Oper} {o : Oper} {a : Act} {w : World} {Q : Exit → Act → World → Prop}
/-- A whole value goes into a block. -/
theorem wpList_store_whole (hgd : o.guard = none) (ty : TypeId) (x y : Operand) (ho : o.op = .store ty x y) (g : Nat) (cs ds : Array Value) (t : TypeId)
    (hx : a.eval x = .pointer (some ⟨g, 0, none⟩)) (hy : a.eval y = .agg ds) (hb : Blk g cs t w) (hs : cs.size = ds.size) (hi : (P.info? ty).map (·.size) = some ds.size) (h1 : ds.all (·.oneCell') = true)
    (h : ∀ w', Blk g ds t w' → w.grownBy w' (some g) → w'.heap.size = w.heap.size → wpList P ops Q rest (a.put o.dst undef) w') : wpList P ops Q (o :: rest) a w := by
  refine wpList_store_mid hgd ty x y ho g 0 ds hx hy (by have := hb.there; rwa [hs] at this) hi h1 ?_
  obtain ⟨g1, g2⟩ := grown_setCells w g ds.toList 0
  exact h _ (setCells_toList cs ds hs w g t hb) g1 g2
/-- A whole value is read out of a block that is known; the operation may be guarded. -/
theorem wpList_load_G (hw : Region.wanted o (yielded ops a.tmps) = true) (ty : TypeId) (x : Operand) (ho : o.op = .load ty x) (g : Nat) (cs : Array Value) (t : TypeId) (d : TypeDesc)
    (hx : a.eval x = .pointer (some ⟨g, 0, none⟩)) (hb : Blk g cs t w) (hu : P.underlying ty = some d) (hd : (match d with | .struct _ | .array _ _ => true | _ => false) = true) (hi : (P.info? ty).map (·.size) = some cs.size)
    (h : wpList P ops Q rest (a.put o.dst (.agg cs)) w) : wpList P ops Q (o :: rest) a w :=
  wpList_step fun K hK => by rw [if_pos hw]; exact wp_load_row ty x ho g hx t cs (0, 0) d hb hu hd hi (hK _ _ h)
/-- A new block takes a whole value at once. -/
theorem store_new (w : World) (cs ds : Array Value) (t : TypeId) (hs : cs.size = ds.size) : (w.alloc (.cells cs t)).setCells w.heap.size 0 ds.toList = w.alloc (.cells ds t) := by
  have hb := setCells_toList cs ds hs _ _ t (Blk.new w cs t)
  obtain ⟨g1, g2⟩ := grown_setCells (w.alloc (.cells cs t)) w.heap.size ds.toList 0
  have hh : ((w.alloc (.cells cs t)).setCells w.heap.size 0 ds.toList).heap = (w.alloc (.cells ds t)).heap := by
    apply Array.ext_getElem?
    intro k
    by_cases hk : k = w.heap.size
    · subst hk; rw [heap_alloc_new]; exact hb
    · by_cases hlt : k < w.heap.size
      · rw [g1.block k (by simp; omega) (fun e => hk (by injection e)), Below.heap_alloc _ _ _ hlt, Below.heap_alloc _ _ _ hlt]
      · rw [Array.getElem?_eq_none (by rw [g2]; simp; omega), Array.getElem?_eq_none (by simp; omega)]
  have hd : ∀ (vs : List Value) (o : Nat) (w : World) (g : Nat), (w.setCells g o vs).drawn = w.drawn := by
    intro vs
    induction vs with
    | nil => intros; rfl
    | cons v vs ih => intro o w g; exact (ih (o + 1) _ g).trans rfl
  have ho := g1.os
  have htp := g1.tape
  have hou := g1.output
  have hdr := hd ds.toList 0 (w.alloc (.cells cs t)) w.heap.size
  generalize (w.alloc (.cells cs t)).setCells w.heap.size 0 ds.toList = W at *
  cases W
  simp only at hh ho htp hou hdr
  subst hh ho htp hou hdr
  rfl
end
end Go.Proofs.YtnemnchldjohgaaDoor
