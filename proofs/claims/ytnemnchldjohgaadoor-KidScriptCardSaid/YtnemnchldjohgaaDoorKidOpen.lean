/- Slices of bytes and of bools, as parameters. -/
import Derived.Test.YtnemnchldjohgaaDoorKidRow
import Derived.Test.YtnemnchldjohgaaDoorKidSteps
import Derived.Deep.Slices
import Derived.Carry
set_option linter.unusedVariables false
namespace Go.Proofs.YtnemnchldjohgaaDoor
open Go.ChangeShapes Go.WideShapes Go.ChangeAt Go.WideElems Go.RowKit Go.Deep
theorem Tryd.laidOut : laidOutB Tryd.prog = true := by kernel_rfl
theorem cellsB : Tryd.prog.cellsOf 5 = 1 := by kernel_rfl
theorem cellsT : Tryd.prog.cellsOf 4 = 1 := by kernel_rfl
def bolOf : Value → Bool
  | .bool b => b
  | _ => false
theorem getD_map {α : Type} (f : Nat → α) (n j : Nat) (d : α) (h : j < n) : ((List.range n).map f).getD j d = f j := by
  rw [List.getD_eq_getElem?_getD, List.getElem?_map, List.getElem?_range h]; rfl
theorem add_none (b o j : Nat) : (⟨b, o, none⟩ : Addr).add j = ⟨b, o + j, none⟩ := by unfold Addr.add; split <;> simp_all
theorem open_bytes {H : Type} {enc : TypeId × Value → H} {W : World} {sp : Nat → Bool} {hl : Bool} {v : Value} {d : DataW H} {p : List MemPlace} (hv : ∃ a l c, v = .slice a l c)
    (h : DataW.Trod enc Tryd.prog W 0 sp hl 31 v d p) : ∃ xs, ReadB v xs W ∧ ∀ x ∈ xs, 0 ≤ x ∧ x ≤ 255 := by
  obtain ⟨a0, l0, c0, rfl⟩ := hv
  obtain ⟨fuel, hf⟩ := h
  rcases open_slice1 Tryd.underlying31 cellsB hf with ⟨hcs, hx⟩ | ⟨a, len, cap, m, n, V, D, Pl, hcs, hb, hl1, hm, hmm, hx, hel⟩
  · simp [Value.cells] at hcs
    obtain ⟨rfl, rfl, rfl⟩ := hcs
    exact ⟨[], ⟨none, 0, rfl, by simp, by simp, fun h => by simp at h⟩, fun x hx => by cases hx⟩
  · simp [Value.cells] at hcs
    obtain ⟨rfl, rfl, rfl⟩ := hcs
    have hlm : l0 ≤ m := by rw [hmm]; split <;> omega
    have hint : ∀ i, i < l0 → ∃ x, V i = .int .u8 x ∧ 0 ≤ x ∧ x ≤ 255 := fun i hi => by
      obtain ⟨h1, h2⟩ := hel i (by omega)
      obtain ⟨x, e1, _, wx⟩ := DataW.trod_int Tryd.underlying5 h2
      simp [Lit.wf, IntKind.min, IntKind.max, IntKind.signed, IntKind.bits] at wx
      exact ⟨x, by simpa using e1, by omega, by omega⟩
    refine ⟨(List.range l0).map fun i => intOf (V i), ⟨some a, c0, by simp, by simpa using hl1, by simp; unfold maxLen at hm; omega, fun hp => ?_⟩, fun x hx => ?_⟩
    · simp at hp
      obtain ⟨b, o, spot⟩ := a
      have hspot : spot = none := by simpa [Addr.add] using World.cell?_spot (hel 0 (by omega)).1
      subst hspot
      refine ⟨b, o, rfl, fun j hj => ?_⟩
      simp at hj
      have h1 := (hel j (by omega)).1
      rw [add_none] at h1
      rw [h1, getD_map _ _ _ _ hj]
      obtain ⟨x, hx1, _, _⟩ := hint j hj
      rw [hx1]
      rfl
    · obtain ⟨i, hi, rfl⟩ := List.mem_map.1 hx
      obtain ⟨x, hx1, hx2, hx3⟩ := hint i (List.mem_range.1 hi)
      rw [hx1]
      exact ⟨hx2, hx3⟩
theorem open_bools {H : Type} {enc : TypeId × Value → H} {W : World} {sp : Nat → Bool} {hl : Bool} {v : Value} {d : DataW H} {p : List MemPlace} (hv : ∃ a l c, v = .slice a l c)
    (h : DataW.Trod enc Tryd.prog W 0 sp hl 37 v d p) : ∃ ts, ReadT v ts W := by
  obtain ⟨a0, l0, c0, rfl⟩ := hv
  obtain ⟨fuel, hf⟩ := h
  rcases open_slice1 Tryd.underlying37 cellsT hf with ⟨hcs, hx⟩ | ⟨a, len, cap, m, n, V, D, Pl, hcs, hb, hl1, hm, hmm, hx, hel⟩
  · simp [Value.cells] at hcs
    obtain ⟨rfl, rfl, rfl⟩ := hcs
    exact ⟨[], ⟨none, 0, rfl, by simp, fun h => by simp at h⟩⟩
  · simp [Value.cells] at hcs
    obtain ⟨rfl, rfl, rfl⟩ := hcs
    have hlm : l0 ≤ m := by rw [hmm]; split <;> omega
    refine ⟨(List.range l0).map fun i => bolOf (V i), ⟨some a, c0, by simp, by simp; unfold maxLen at hm; omega, fun hp => ?_⟩⟩
    simp at hp
    obtain ⟨b, o, spot⟩ := a
    have hspot : spot = none := by simpa [Addr.add] using World.cell?_spot (hel 0 (by omega)).1
    subst hspot
    refine ⟨b, o, rfl, fun j hj => ?_⟩
    simp at hj
    obtain ⟨h1, h2⟩ := hel j (by omega)
    rw [add_none] at h1
    rw [h1, getD_map _ _ _ _ hj]
    obtain ⟨x, e1, _⟩ := DataW.trod_bool Tryd.underlying4 h2
    have e2 : V j = .bool x := by simpa using e1
    rw [e2]
    rfl
end Go.Proofs.YtnemnchldjohgaaDoor
