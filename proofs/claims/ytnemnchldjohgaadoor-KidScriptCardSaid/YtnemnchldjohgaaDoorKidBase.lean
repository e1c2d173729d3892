/- A node of children: its cells. -/
import Derived.Test.YtnemnchldjohgaaDoorSx
import Derived.Laws.Tables
set_option linter.unusedVariables false
namespace Go.Proofs.YtnemnchldjohgaaDoor
open Go.RowKit
theorem infoM : (Tryd.prog.info? 49).map (·.size) = some 4 := by kernel_rfl
theorem mk4_size (M : Nat → Bool) : (mk4 M).size = 4 := rfl
theorem mk4_one (M : Nat → Bool) : (mk4 M).all (·.oneCell') = true := by
  unfold mk4
  rw [show (#[Value.int .u64 (wd M 0 : Int), .int .u64 (wd M 1 : Int), .int .u64 (wd M 2 : Int), .int .u64 (wd M 3 : Int)] : Array Value) = [Value.int .u64 (wd M 0 : Int), .int .u64 (wd M 1 : Int), .int .u64 (wd M 2 : Int), .int .u64 (wd M 3 : Int)].toArray from rfl]
  exact all_oneCell_toArray (by simp [Value.oneCell'])
theorem mk4_get (M : Nat → Bool) (i : Nat) (h : i < 4) : (mk4 M)[i]? = some (.int .u64 (wd M i : Int)) := by
  have : i = 0 ∨ i = 1 ∨ i = 2 ∨ i = 3 := by omega
  rcases this with rfl | rfl | rfl | rfl <;> rfl
/-- The children that are there. -/
def nz (H : Nat → Nat) : Nat → Bool := fun x => H x != 0
def upd (H : Nat → Nat) (b h : Nat) : Nat → Nat := fun x => if x = b then h else H x
theorem nz_put (H : Nat → Nat) (b h : Nat) (hh : h ≠ 0) : nz (upd H b h) = ins (nz H) b := by
  funext x; unfold nz upd ins
  by_cases e : x = b
  · subst e; simp [hh]
  · simp [e]
theorem nz_drop (H : Nat → Nat) (b : Nat) : nz (upd H b 0) = del (nz H) b := by
  funext x; unfold nz upd del
  by_cases e : x = b
  · subst e; simp
  · simp [e]
def ks (H : Nat → Nat) : List Value := (List.range 256).map fun x => .int .u32 (H x : Int)
theorem ks_length (H : Nat → Nat) : (ks H).length = 256 := by simp [ks]
theorem ks_get (H : Nat → Nat) (x : Nat) (h : x < 256) : (ks H)[x]? = some (.int .u32 (H x : Int)) := by simp [ks, h]
theorem ks_set (H : Nat → Nat) (b h : Nat) : (ks H).set b (.int .u32 (h : Int)) = ks (upd H b h) := by
  apply List.ext_getElem?
  intro j
  rw [List.getElem?_set]
  by_cases hj : j < 256
  · rw [ks_get _ j hj, ks_get _ j hj, ks_length]
    unfold upd
    by_cases e : b = j
    · subst e; simp [hj]
    · simp [e, Ne.symm e]
  · have h1 : (ks H)[j]? = none := List.getElem?_eq_none (by rw [ks_length]; omega)
    have h2 : (ks (upd H b h))[j]? = none := List.getElem?_eq_none (by rw [ks_length]; omega)
    rw [h1, h2, ks_length]
    by_cases e : b = j
    · subst e; simp [hj]
    · simp [e]
/-- The cells: the kind, the set, the handles. -/
def nd (q : Nat) (M : Nat → Bool) (H : Nat → Nat) : Array Value :=
  (Value.int .i64 (q : Int) :: .int .u64 (wd M 0 : Int) :: .int .u64 (wd M 1 : Int) :: .int .u64 (wd M 2 : Int) :: .int .u64 (wd M 3 : Int) :: ks H).toArray
theorem nd_size (q : Nat) (M : Nat → Bool) (H : Nat → Nat) : (nd q M H).size = 261 := by simp [nd, ks_length]
theorem nd_kind (q : Nat) (M : Nat → Bool) (H : Nat → Nat) : (nd q M H)[0]? = some (.int .i64 (q : Int)) := by simp [nd]
theorem nd_kid (q : Nat) (M : Nat → Bool) (H : Nat → Nat) (x : Nat) (h : x < 256) : (nd q M H)[5 + x]? = some (.int .u32 (H x : Int)) := by
  rw [show 5 + x = x + 1 + 1 + 1 + 1 + 1 by omega]
  simp only [nd, List.getElem?_toArray, List.getElem?_cons_succ, ks_get H x h]
theorem nd_setKind (q r : Nat) (M : Nat → Bool) (H : Nat → Nat) : (nd q M H).setIfInBounds 0 (.int .i64 (r : Int)) = nd r M H := by simp [nd]
theorem nd_setKid (q : Nat) (M : Nat → Bool) (H : Nat → Nat) (b h : Nat) : (nd q M H).setIfInBounds (5 + b) (.int .u32 (h : Int)) = nd q M (upd H b h) := by
  rw [show 5 + b = b + 1 + 1 + 1 + 1 + 1 by omega]
  simp only [nd, List.setIfInBounds_toArray, List.set_cons_succ, ks_set]
section
variable {g q : Nat} {M M' : Nat → Bool} {H : Nat → Nat} {t : TypeId} {w : World}
theorem nd_setMask (h : Blk g (nd q M H) t w) : Blk g (nd q M' H) t (w.setCells g 1 (mk4 M').toList) := by
  have h4 := (((h.set 1 (.int .u64 (wd M' 0 : Int))).set 2 (.int .u64 (wd M' 1 : Int))).set 3 (.int .u64 (wd M' 2 : Int))).set 4 (.int .u64 (wd M' 3 : Int))
  have e : ((((nd q M H).setIfInBounds 1 (.int .u64 (wd M' 0 : Int))).setIfInBounds 2 (.int .u64 (wd M' 1 : Int))).setIfInBounds 3 (.int .u64 (wd M' 2 : Int))).setIfInBounds 4 (.int .u64 (wd M' 3 : Int)) = nd q M' H := by
    simp only [nd, List.setIfInBounds_toArray, List.set_cons_succ, List.set_cons_zero]
  rw [e] at h4
  exact h4
theorem nd_maskRange (h : Blk g (nd q M H) t w) : w.rangeAt g 1 (mk4 M).toList := fun j v hv => by
  have hj : j < 4 := by
    have := (List.getElem?_eq_some_iff.1 hv).1
    simpa [mk4] using this
  rw [h.cell (1 + j), ← hv]
  have : j = 0 ∨ j = 1 ∨ j = 2 ∨ j = 3 := by omega
  rcases this with rfl | rfl | rfl | rfl <;> simp [nd, mk4]
theorem nd_maskThere (h : Blk g (nd q M H) t w) : w.there g 1 4 := fun j hj => by
  rw [h.cell, h.frozen]
  have : (1 + j) < (nd q M H).size := by rw [nd_size]; omega
  simp [Array.getElem?_eq_getElem this]
end
/-- The zero value. -/
def nd0 : Array Value := nd 0 (fun _ => false) (fun _ => 0)
theorem builtN : Tryd.prog.built 51 [] = some nd0 := by kernel_rfl
section
variable {P : Program} {ops : Array Oper} {rest : List Oper} {o : Oper} {a : Act} {w : World} {Q : Exit → Act → World → Prop}
theorem wpList_build_is (hg : o.guard = none) (t : TypeId) (parts : Array (Nat × Operand)) (ho : o.op = .build t parts) (cs : Array Value)
    (hb : P.built t (parts.map fun (i, x) => (i, a.eval x)).toList = some cs) (h : wpList P ops Q rest (a.put o.dst (.agg cs)) w) : wpList P ops Q (o :: rest) a w := by
  refine wpList_build hg t parts ho (by rw [hb]; rfl) ?_
  rw [hb]
  exact h
/-- A value's own new variable. -/
theorem wpList_box_is (hg : o.guard = none) (t : TypeId) (x : Operand) (ho : o.op = .box t x) (cs : Array Value) (hx : a.eval x = .agg cs)
    (h : wpList P ops Q rest (a.put o.dst (.pointer (some ⟨w.heap.size, 0, none⟩))) (w.alloc (.cells cs t))) : wpList P ops Q (o :: rest) a w := by
  refine wpList_plain hg fun K hK => ?_
  unfold Oper.wp execOp
  simp only [ho, hx, Sem.run_bind, Instr.box, newVar, newRow, run_newObj_alloc, Sem.run_pure, Result.andThen_ok]
  exact hK _ _ h
end
section
variable {ops : Array Oper} {rest : List Oper} {o : Oper} {a : Act} {w : World} {Q : Exit → Act → World → Prop}
/-- The set is read out of a node. -/
theorem wpList_load_mask (hw : Region.wanted o (yielded ops a.tmps) = true) (x : Operand) (ho : o.op = .load 49 x) (g q : Nat) (M : Nat → Bool) (H : Nat → Nat) (t : TypeId) (hx : a.eval x = .pointer (some ⟨g, 1, none⟩)) (hb : Blk g (nd q M H) t w)
    (h : wpList Tryd.prog ops Q rest (a.put o.dst (.agg (mk4 M))) w) : wpList Tryd.prog ops Q (o :: rest) a w :=
  wpList_step fun K hK => by
    rw [if_pos hw]
    exact wp_load_mid 49 x ho g 1 hx (mk4 M).toList _ (nd_maskRange hb) Tryd.underlying49 rfl (by rw [infoM]; rfl) (by rw [Array.toArray_toList]; exact hK _ _ h)
end
/-- How many a kind has at most; at how many it becomes the one before. -/
def room (q : Nat) : Int := if q = 0 then 4 else if q = 1 then 16 else if q = 2 then 48 else 256
def left (q : Nat) : Int := if q = 0 then -1 else if q = 1 then 3 else if q = 2 then 12 else 40
/-- The two tables lie in the first two blocks. -/
def RL (w : World) : Prop := ∀ q, q < 4 → w.cell? ⟨0, q, none⟩ = some (.int .i64 (room q)) ∧ w.cell? ⟨1, q, none⟩ = some (.int .i64 (left q))
theorem RL.two {w : World} (h : RL w) : 2 ≤ w.heap.size := by
  have := World.block_lt_of_cell? w _ (h 0 (by omega)).2
  exact this
theorem RL.below {B : Nat} {w w' : World} (h : RL w) (hb : Below B w w') (hB : 2 ≤ B) : RL w' := fun q hq => ⟨(hb.cell (p := ⟨0, q, none⟩) (show 0 < B by omega)).trans (h q hq).1, (hb.cell (p := ⟨1, q, none⟩) (show 1 < B by omega)).trans (h q hq).2⟩
theorem cell_of_heap {w w' : World} (b o : Nat) (h : w'.heap[b]? = w.heap[b]?) : w'.cell? ⟨b, o, none⟩ = w.cell? ⟨b, o, none⟩ := by
  unfold World.cell?
  simp [h]
theorem RL.grown {g : Nat} {w w' : World} (h : RL w) (hg : w.grownBy w' (some g)) (h2 : 2 ≤ g) : RL w' := fun q hq => by
  have := h.two
  exact ⟨(cell_of_heap 0 q (hg.block 0 (by omega) (fun e => by injection e; omega))).trans (h q hq).1, (cell_of_heap 1 q (hg.block 1 (by omega) (fun e => by injection e; omega))).trans (h q hq).2⟩
end Go.Proofs.YtnemnchldjohgaaDoor
