/- What the listed variables give the walks. -/
import Derived.Test.YtnemnchldjohgaaDoorRows
import Derived.Test.YtnemnchldjohgaaDoorCards
import Derived.Test.YtnemnchldjohgaaDoorTie
import Derived.Test.YtnemnchldjohgaaDoorKidBase
import Derived.ProofKit
import Derived.Laws.IdiomArrays
import Derived.LaidMore
import Derived.OpenShut
import Derived.Stop.Joined
import Derived.SevenTiedAt
set_option linter.unusedVariables false
namespace Go.Proofs.YtnemnchldjohgaaDoor
open Go.ChangeShapes Go.WideShapes Go.ChangeAt Go.WideElems Go.RowKit
theorem Tryd.own : ownKnob Tryd.prog.godebug = none := by kernel_rfl
theorem gRoom : Tryd.prog.globalNamed "bramble/kid.room" = some 0 := by kernel_rfl
theorem gLeft : Tryd.prog.globalNamed "bramble/kid.left" = some 1 := by kernel_rfl
theorem tRoom : (Tryd.prog.globals[0]?).map (·.type) = some 53 := by kernel_rfl
theorem tLeft : (Tryd.prog.globals[1]?).map (·.type) = some 53 := by kernel_rfl
/-- The two, as the rows list them. -/
def laid2 : List (String × DataW Unit) := [("bramble/kid.room", Rows.laid_bramble_kid_room), ("bramble/kid.left", Rows.laid_bramble_kid_left)]
theorem door_met (os : Os) (args : Array Value) : laidMetH Tryd.prog laid2 ((World.doorLaid Tryd.prog 400 os).forCall (fun _ _ => 0) ⟨#[], args, []⟩).memory :=
  laidMetH_of_parts3 (fuel := 8) (laidMet_of_run' 8 (by kernel_rfl) (by kernel_rfl)) (by kernel_rfl) (by kernel_rfl)
theorem list4 {α : Type} (l : List α) (h : l.length = 4) : ∃ a b c d, l = [a, b, c, d] := by
  match l, h with
  | [a, b, c, d], _ => exact ⟨a, b, c, d, rfl⟩
theorem cells4 : Tryd.prog.cellsOf 53 = 4 := by kernel_rfl
theorem cells1 : Tryd.prog.cellsOf 3 = 1 := by kernel_rfl
theorem tab4 {W : World} {cs : Array Value} {a b c d : Int} {fuel : Nat} {sp : Nat → Bool} {p : List MemPlace} {enc : TypeId × Value → Unit}
    (h : DataW.trod enc Tryd.prog W 0 sp false fuel 53 cs.toList = some (.agg [.lit (.int .i64 a), .lit (.int .i64 b), .lit (.int .i64 c), .lit (.int .i64 d)], p)) : cs.toList = [.int .i64 a, .int .i64 b, .int .i64 c, .int .i64 d] := by
  obtain ⟨_, _, _, _, hl, _⟩ := DataW.trod_array Tryd.underlying53 h
  rw [cells4] at hl
  obtain ⟨c0, c1, c2, c3, hc⟩ := list4 cs.toList hl
  rw [hc] at h ⊢
  obtain ⟨y0, y1, y2, y3, m, hx, hy0, hy1, hy2, hy3⟩ := trod_array4 Tryd.underlying53 cells1 h
  obtain ⟨x0, e0, rfl, w0⟩ := DataW.trod_int Tryd.underlying3 hy0
  obtain ⟨x1, e1, rfl, w1⟩ := DataW.trod_int Tryd.underlying3 hy1
  obtain ⟨x2, e2, rfl, w2⟩ := DataW.trod_int Tryd.underlying3 hy2
  obtain ⟨x3, e3, rfl, w3⟩ := DataW.trod_int Tryd.underlying3 hy3
  simp at e0 e1 e2 e3 hx
  obtain ⟨⟨rfl, rfl, rfl, rfl⟩, _⟩ := hx
  rw [e0, e1, e2, e3]
theorem of_laid {W : World} (h : laidMetH Tryd.prog laid2 W) : RL W := by
  rw [MakeChecks.laidMetH_plain _ _ _ (by kernel_rfl)] at h
  obtain ⟨ps, ⟨g0, t0, cs0, f0, p0, q0, hg0, ht0, hv0, hd0, ⟨g1, t1, cs1, f1, p1, q1, hg1, ht1, hv1, hd1, _, _⟩, _⟩, _, _⟩ := h
  obtain rfl := Option.some.inj (gRoom.symm.trans hg0)
  obtain rfl := Option.some.inj (gLeft.symm.trans hg1)
  obtain rfl := Option.some.inj (tRoom.symm.trans ht0)
  obtain rfl := Option.some.inj (tLeft.symm.trans ht1)
  have e0 := tab4 hd0
  have e1 := tab4 hd1
  intro q hq
  rw [World.var?_cell hg0 hv0 q, World.var?_cell hg1 hv1 q, ← Array.getElem?_toList, ← Array.getElem?_toList, e0, e1]
  have : q = 0 ∨ q = 1 ∨ q = 2 ∨ q = 3 := by omega
  rcases this with rfl | rfl | rfl | rfl <;> exact ⟨rfl, rfl⟩
end Go.Proofs.YtnemnchldjohgaaDoor
