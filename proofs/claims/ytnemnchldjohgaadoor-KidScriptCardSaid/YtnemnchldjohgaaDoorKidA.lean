/- A node of children: what only looks at it. -/
import Derived.Test.YtnemnchldjohgaaDoorKidBase
import Derived.Test.YtnemnchldjohgaaDoorMaskC
import Derived.Test.YtnemnchldjohgaaDoorMaskD
set_option linter.unusedVariables false
set_option linter.unusedSimpArgs false
namespace Go.Proofs.YtnemnchldjohgaaDoor
open Go.RowKit
attribute [local irreducible] mk4 wd allTo rnk nd ks
/-- A pointer to a node. -/
abbrev pn (g : Nat) : Value := .pointer (some ⟨g, 0, none⟩)
set_option maxHeartbeats 1000000 in
set_option maxRecDepth 20000 in
theorem new_any (w : World) : Calls Tryd.prog 8 #[] w fun e w' => e = .returned (pn w.heap.size) ∧ w' = w.alloc (.cells nd0 51) := by
  have hz : ∀ w : World, (zeroValue 51).run Tryd.prog w = .ok (.agg nd0) w := fun w => by kernel_rfl
  go_enter Tryd.func8, Tryd.ntmps8
  go_wp2_with (first | refine wpList_box_is rfl 51 _ rfl nd0 rfl ?_ | fail)
  go_ret
  exact ⟨rfl, rfl⟩
set_option maxHeartbeats 1000000 in
set_option maxRecDepth 20000 in
theorem kind_any (g q : Nat) (M : Nat → Bool) (H : Nat → Nat) (hq : q < 4) (w : World) (hb : Blk g (nd q M H) 51 w) : Calls Tryd.prog 10 #[pn g] w fun e w' => e = .returned (.int .i64 (6 + (q : Int))) ∧ Below w.heap.size w w' := by
  have hc : w.cell? ⟨g, 0, none⟩ = some (.int .i64 (q : Int)) := (hb.cell 0).trans (nd_kind q M H)
  have HB := Lib.hid hb
  clear hb
  go_enter Tryd.func10, Tryd.ntmps10
  go_wp2_with fail
  go_ret
  exact ⟨by go_num, Below.refl _ _⟩
set_option maxHeartbeats 1000000 in
set_option maxRecDepth 20000 in
theorem len_any (g q : Nat) (M : Nat → Bool) (H : Nat → Nat) (w : World) (hb : Blk g (nd q M H) 51 w) : Calls Tryd.prog 11 #[pn g] w fun e w' => e = .returned (.int .i64 ((rnk M 256 : Nat) : Int)) ∧ Below w.heap.size w w' := by
  go_enter Tryd.func11, Tryd.ntmps11
  go_wp2_with (first | refine wpList_load_mask rfl _ rfl g q M H 51 rfl hb ?_ | fail)
  refine (count_any M _).mono ?_
  rintro e w1 ⟨rfl, hb1⟩
  go_wp2_with fail
  go_ret
  exact ⟨rfl, hb1⟩
set_option maxHeartbeats 1000000 in
set_option maxRecDepth 20000 in
theorem bytes_any (g q : Nat) (M : Nat → Bool) (H : Nat → Nat) (w : World) (hb : Blk g (nd q M H) 51 w) : Calls Tryd.prog 13 #[pn g] w (RetB (allTo M 256) w) := by
  go_enter Tryd.func13, Tryd.ntmps13
  go_wp2_with (first | refine wpList_load_mask rfl _ rfl g q M H 51 rfl hb ?_ | fail)
  refine (all_any M _).mono ?_
  rintro e w1 ⟨v, rfl, hb1, hO⟩
  go_wp2_with fail
  go_ret
  exact ⟨v, rfl, hb1, hO⟩
set_option maxHeartbeats 1000000 in
set_option maxRecDepth 20000 in
theorem get_any (g q : Nat) (M : Nat → Bool) (H : Nat → Nat) (b : Nat) (h1 : b ≤ 255) (w : World) (hb : Blk g (nd q M H) 51 w) : Calls Tryd.prog 16 #[pn g, .int .u8 (b : Int)] w fun e w' => e = .returned (.int .u32 (H b : Int)) ∧ Below w.heap.size w w' := by
  have hc : w.cell? ⟨g, 5 + b, none⟩ = some (.int .u32 (H b : Int)) := (hb.cell (5 + b)).trans (nd_kid q M H b (by omega))
  have HB := Lib.hid hb
  clear hb
  go_enter Tryd.func16, Tryd.ntmps16
  go_wp2_with fail
  go_ret
  exact ⟨rfl, Below.refl _ _⟩
end Go.Proofs.YtnemnchldjohgaaDoor
