/- A block of cells that is known whole; sets as 256 bools. -/
import Derived.Test.YtnemnchldjohgaaDoorBase
import Derived.Test.YtnemnchldjohgaaDoorMaskFns
import Derived.Deep.MidRow
set_option linter.unusedVariables false
namespace Go.Proofs.YtnemnchldjohgaaDoor
open Go.RowKit
def Blk (g : Nat) (cs : Array Value) (t : TypeId) (w : World) : Prop := w.heap[g]? = some (.cells cs t (0, 0))
section
variable {g : Nat} {cs : Array Value} {t : TypeId} {w w' : World}
theorem Blk.lt (h : Blk g cs t w) : g < w.heap.size := (Array.getElem?_eq_some_iff.1 h).1
theorem Blk.below (h : Blk g cs t w) (hb : Below w.heap.size w w') : Blk g cs t w' := (hb.block g h.lt).trans h
theorem Blk.grown {row : Option Nat} (h : Blk g cs t w) (hg : w.grownBy w' row) (hne : some g ≠ row) : Blk g cs t w' := (hg.block g h.lt hne).trans h
theorem Blk.alloc (h : Blk g cs t w) (o : Obj) : Blk g cs t (w.alloc o) := (Below.heap_alloc w o g h.lt).trans h
theorem Blk.drew (h : Blk g cs t w) : Blk g cs t w.drew := h
theorem Blk.new (w : World) (cs : Array Value) (t : TypeId) : Blk w.heap.size cs t (w.alloc (.cells cs t)) := heap_alloc_new w _
theorem Blk.cell (h : Blk g cs t w) (j : Nat) : w.cell? ⟨g, j, none⟩ = cs[j]? := cell_of_row w g j cs t (0, 0) h
theorem Blk.frozen (h : Blk g cs t w) (j : Nat) : w.frozen? ⟨g, j, none⟩ = false := frozen_of_row w g j cs t h
theorem Blk.set (h : Blk g cs t w) (j : Nat) (v : Value) : Blk g (cs.setIfInBounds j v) t (w.setCell ⟨g, j, none⟩ v) := heap_setCell_same w g j cs t v h
theorem Blk.set_other (h : Blk g cs t w) (a : Addr) (v : Value) (hne : g ≠ a.block) : Blk g cs t (w.setCell a v) := (heap_setCell_other w a g v hne).trans h
theorem Blk.range (h : Blk g cs t w) : w.rangeAt g 0 cs.toList := fun j v hv => by rw [Nat.zero_add, h.cell j]; simpa using hv
theorem Blk.there (h : Blk g cs t w) : w.there g 0 cs.size := fun j hj => by
  rw [Nat.zero_add, h.cell j, h.frozen j]
  simp [Array.getElem?_eq_getElem hj]
end
theorem setCells_toList (cs ds : Array Value) (h : cs.size = ds.size) : ∀ (w : World) (g : Nat) (t : TypeId), Blk g cs t w → Blk g ds t (w.setCells g 0 ds.toList) := by
  have key : ∀ (vs : List Value) (o : Nat) (w : World) (cs : Array Value) (g : Nat) (t : TypeId), Blk g cs t w → ∃ ds : Array Value, Blk g ds t (w.setCells g o vs) ∧ ds.size = cs.size ∧
      ∀ j, ds[j]? = if o ≤ j ∧ j < o + vs.length ∧ j < cs.size then vs[j - o]? else cs[j]? := by
    intro vs
    induction vs with
    | nil => intro o w cs g t hb; exact ⟨cs, hb, rfl, fun j => by rw [if_neg (by simp; omega)]⟩
    | cons v vs ih =>
      intro o w cs g t hb
      obtain ⟨ds, h1, h2, h3⟩ := ih (o + 1) _ _ g t (hb.set o v)
      refine ⟨ds, h1, by rw [h2, Array.size_setIfInBounds], fun j => ?_⟩
      rw [h3 j, Array.size_setIfInBounds, Array.getElem?_setIfInBounds, List.length_cons]
      by_cases e : j = o
      · subst e
        by_cases hj : j < cs.size
        · rw [if_neg (by omega), if_pos rfl, if_pos hj, if_pos (by omega)]; simp
        · rw [if_neg (by omega), if_pos rfl, if_neg hj, if_neg (by omega)]; simp [Array.getElem?_eq_none (Nat.le_of_not_lt hj)]
      · by_cases hc : o ≤ j ∧ j < o + (vs.length + 1) ∧ j < cs.size
        · rw [if_pos (by omega), if_pos hc, show j - o = (j - (o + 1)) + 1 by omega, List.getElem?_cons_succ]
        · rw [if_neg (by omega), if_neg hc, if_neg (Ne.symm e)]
  intro w g t hb
  obtain ⟨es, h1, h2, h3⟩ := key ds.toList 0 w cs g t hb
  have : es = ds := by
    apply Array.ext_getElem?
    intro j
    rw [h3 j]
    by_cases hj : j < ds.size
    · rw [if_pos (by simp; omega)]; simp
    · rw [if_neg (by simp; omega), Array.getElem?_eq_none (by omega), Array.getElem?_eq_none (by omega)]
  rwa [this] at h1
theorem below_setCells {B : Nat} {w0 : World} (g : Nat) (hg : B ≤ g) : ∀ (vs : List Value) (o : Nat) (w : World), Below B w0 w → Below B w0 (w.setCells g o vs)
  | [], _, _, h => h
  | v :: vs, o, w, h => below_setCells g hg vs (o + 1) _ (h.setCell (p := ⟨g, o, none⟩) hg v)
theorem setCells_other {g : Nat} {cs : Array Value} {t : TypeId} (g' : Nat) (hg : g ≠ g') : ∀ (vs : List Value) (o : Nat) (w : World), Blk g cs t w → Blk g cs t (w.setCells g' o vs)
  | [], _, _, h => h
  | v :: vs, o, w, h => setCells_other g' hg vs (o + 1) _ (h.set_other ⟨g', o, none⟩ v hg)
/-- 256 bools. -/
def bl (M : Nat → Bool) : Array Value := ((List.range 256).map fun i => Value.bool (M i)).toArray
theorem bl_size (M : Nat → Bool) : (bl M).size = 256 := by simp [bl]
theorem bl_get (M : Nat → Bool) (i : Nat) (h : i < 256) : (bl M)[i]? = some (.bool (M i)) := by simp [bl, h]
theorem bl_one (M : Nat → Bool) : (bl M).all (·.oneCell') = true := by
  rw [bl]; exact all_oneCell_toArray fun v hv => by
    obtain ⟨i, _, rfl⟩ := List.mem_map.1 hv; rfl
theorem bl_congr {M M' : Nat → Bool} (h : ∀ x, x < 256 → M x = M' x) : bl M = bl M' := by
  unfold bl
  congr 1
  exact List.map_congr_left fun i hi => by rw [h i (List.mem_range.1 hi)]
theorem bl_set (M : Nat → Bool) (k : Nat) (b : Bool) : (bl M).setIfInBounds k (.bool b) = bl (fun x => if x = k then b else M x) := by
  apply Array.ext_getElem?
  intro j
  rw [Array.getElem?_setIfInBounds]
  by_cases hj : j < 256
  · rw [bl_get _ j hj, bl_get _ j hj]
    by_cases e : k = j
    · subst e; simp [bl_size, hj]
    · simp [e, Ne.symm e]
  · have h1 : (bl M)[j]? = none := Array.getElem?_eq_none (by rw [bl_size]; omega)
    have h2 : (bl fun x => if x = k then b else M x)[j]? = none := Array.getElem?_eq_none (by rw [bl_size]; omega)
    rw [h1, h2]
    by_cases e : k = j
    · subst e; simp [bl_size, hj]
    · simp [e]
section
variable {P : Program} {ops : Array Oper} {rest : List Oper} {o : Oper} {a : Act} {w : World} {Q : Exit → Act → World → Prop}
/-- A new variable, its zero value by its name. -/
theorem wpList_alloc_zero (hgd : o.guard = none) (t : TypeId) (ho : o.op = .alloc t) (z : Value) (hz : (P.info? t).map (·.zero) = some (some z))
    (h : wpList P ops Q rest (a.put o.dst (.pointer (some ⟨w.heap.size, 0, none⟩))) (w.alloc (.cells z.cells t))) : wpList P ops Q (o :: rest) a w := by
  refine wpList_plain hgd fun K hK => ?_
  obtain ⟨i, hi, hzz⟩ := Option.map_eq_some_iff.1 hz
  unfold Oper.wp execOp
  have : (Instr.alloc t true (.tuple #[])).run P w = .ok (.pointer (some ⟨w.heap.size, 0, none⟩)) (w.alloc (.cells z.cells t)) := by
    simp [Instr.alloc, zeroValue, typeInfo, hi, hzz, newVar, newRow, Sem.run_bind]
  simp only [ho, Sem.run_bind, this, Result.andThen_ok, Sem.run_pure]
  exact hK _ _ h
end
end Go.Proofs.YtnemnchldjohgaaDoor
