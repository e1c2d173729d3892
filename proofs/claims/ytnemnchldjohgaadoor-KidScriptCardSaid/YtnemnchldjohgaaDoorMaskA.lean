/- Walks over the functions of mask. -/
import Derived.Test.YtnemnchldjohgaaDoorProg
import Derived.Test.YtnemnchldjohgaaDoorMaskMath
import Derived.WalkKit
import Derived.WalkSpells
import Derived.Lib.Hide
import Derived.Test.YtnemnchldjohgaaDoorBase
set_option linter.unusedVariables false
set_option linter.unusedSimpArgs false
namespace Go.Proofs.YtnemnchldjohgaaDoor
open Go.RowKit
theorem quart (b : Int) (hb0 : 0 ≤ b) (hb : b ≤ 255) : b / 64 = 0 ∨ b / 64 = 1 ∨ b / 64 = 2 ∨ b / 64 = 3 := by omega
set_option maxHeartbeats 400000 in
theorem has_any (M : Nat → Bool) (b : Int) (hb0 : 0 ≤ b) (hb : b ≤ 255) (w : World) :
    Calls Tryd.prog 25 #[.agg (mk4 M), .int .u8 b] w fun e w' => e = .returned (.bool (M b.toNat)) ∧ Below w.heap.size w w' := by
  unfold mk4
  rcases quart b hb0 hb with hi | hi | hi | hi
  · have H1 := has_word M b hb0 0 hi
    go_enter Tryd.func25, Tryd.ntmps25
    go_wp2
    go_ret
    exact ⟨rfl, (Below.refl _ _).alloc (Nat.le_refl _) _⟩
  · have H1 := has_word M b hb0 1 hi
    go_enter Tryd.func25, Tryd.ntmps25
    go_wp2
    go_ret
    exact ⟨rfl, (Below.refl _ _).alloc (Nat.le_refl _) _⟩
  · have H1 := has_word M b hb0 2 hi
    go_enter Tryd.func25, Tryd.ntmps25
    go_wp2
    go_ret
    exact ⟨rfl, (Below.refl _ _).alloc (Nat.le_refl _) _⟩
  · have H1 := has_word M b hb0 3 hi
    go_enter Tryd.func25, Tryd.ntmps25
    go_wp2
    go_ret
    exact ⟨rfl, (Below.refl _ _).alloc (Nat.le_refl _) _⟩
set_option maxHeartbeats 400000 in
theorem with_any (M : Nat → Bool) (b : Int) (hb0 : 0 ≤ b) (hb : b ≤ 255) (w : World) :
    Calls Tryd.prog 23 #[.agg (mk4 M), .int .u8 b] w fun e w' => e = .returned (.agg (mk4 (ins M b.toNat))) ∧ Below w.heap.size w w' := by
  unfold mk4
  rcases quart b hb0 hb with hi | hi | hi | hi
  · have H1 := or_word M b hb0 0 hi
    go_enter Tryd.func23, Tryd.ntmps23
    go_wp2
    refine bodyPost_ret (v := .agg #[.int .u64 (wd (ins M b.toNat) 0 : Int), .int .u64 (wd (ins M b.toNat) 1 : Int), .int .u64 (wd (ins M b.toNat) 2 : Int), .int .u64 (wd (ins M b.toNat) 3 : Int)]) (by simp [results, Tryd.results23, go_sem]; refine ⟨congrArg Nat.cast (ins_other M b hb0 1 (by omega)).symm, congrArg Nat.cast (ins_other M b hb0 2 (by omega)).symm, congrArg Nat.cast (ins_other M b hb0 3 (by omega)).symm⟩) rfl ⟨rfl, ((Below.refl _ _).alloc (Nat.le_refl _) _).alloc (by simp) _⟩
  · have H1 := or_word M b hb0 1 hi
    go_enter Tryd.func23, Tryd.ntmps23
    go_wp2
    refine bodyPost_ret (v := .agg #[.int .u64 (wd (ins M b.toNat) 0 : Int), .int .u64 (wd (ins M b.toNat) 1 : Int), .int .u64 (wd (ins M b.toNat) 2 : Int), .int .u64 (wd (ins M b.toNat) 3 : Int)]) (by simp [results, Tryd.results23, go_sem]; refine ⟨congrArg Nat.cast (ins_other M b hb0 0 (by omega)).symm, congrArg Nat.cast (ins_other M b hb0 2 (by omega)).symm, congrArg Nat.cast (ins_other M b hb0 3 (by omega)).symm⟩) rfl ⟨rfl, ((Below.refl _ _).alloc (Nat.le_refl _) _).alloc (by simp) _⟩
  · have H1 := or_word M b hb0 2 hi
    go_enter Tryd.func23, Tryd.ntmps23
    go_wp2
    refine bodyPost_ret (v := .agg #[.int .u64 (wd (ins M b.toNat) 0 : Int), .int .u64 (wd (ins M b.toNat) 1 : Int), .int .u64 (wd (ins M b.toNat) 2 : Int), .int .u64 (wd (ins M b.toNat) 3 : Int)]) (by simp [results, Tryd.results23, go_sem]; refine ⟨congrArg Nat.cast (ins_other M b hb0 0 (by omega)).symm, congrArg Nat.cast (ins_other M b hb0 1 (by omega)).symm, congrArg Nat.cast (ins_other M b hb0 3 (by omega)).symm⟩) rfl ⟨rfl, ((Below.refl _ _).alloc (Nat.le_refl _) _).alloc (by simp) _⟩
  · have H1 := or_word M b hb0 3 hi
    go_enter Tryd.func23, Tryd.ntmps23
    go_wp2
    refine bodyPost_ret (v := .agg #[.int .u64 (wd (ins M b.toNat) 0 : Int), .int .u64 (wd (ins M b.toNat) 1 : Int), .int .u64 (wd (ins M b.toNat) 2 : Int), .int .u64 (wd (ins M b.toNat) 3 : Int)]) (by simp [results, Tryd.results23, go_sem]; refine ⟨congrArg Nat.cast (ins_other M b hb0 0 (by omega)).symm, congrArg Nat.cast (ins_other M b hb0 1 (by omega)).symm, congrArg Nat.cast (ins_other M b hb0 2 (by omega)).symm⟩) rfl ⟨rfl, ((Below.refl _ _).alloc (Nat.le_refl _) _).alloc (by simp) _⟩
set_option maxHeartbeats 400000 in
theorem without_any (M : Nat → Bool) (b : Int) (hb0 : 0 ≤ b) (hb : b ≤ 255) (w : World) :
    Calls Tryd.prog 26 #[.agg (mk4 M), .int .u8 b] w fun e w' => e = .returned (.agg (mk4 (del M b.toNat))) ∧ Below w.heap.size w w' := by
  unfold mk4
  rcases quart b hb0 hb with hi | hi | hi | hi
  · have H1 := not_word M b hb0 0 hi
    go_enter Tryd.func26, Tryd.ntmps26
    go_wp2
    refine bodyPost_ret (v := .agg #[.int .u64 (wd (del M b.toNat) 0 : Int), .int .u64 (wd (del M b.toNat) 1 : Int), .int .u64 (wd (del M b.toNat) 2 : Int), .int .u64 (wd (del M b.toNat) 3 : Int)]) (by simp [results, Tryd.results26, go_sem]; refine ⟨congrArg Nat.cast (del_other M b hb0 1 (by omega)).symm, congrArg Nat.cast (del_other M b hb0 2 (by omega)).symm, congrArg Nat.cast (del_other M b hb0 3 (by omega)).symm⟩) rfl ⟨rfl, ((Below.refl _ _).alloc (Nat.le_refl _) _).alloc (by simp) _⟩
  · have H1 := not_word M b hb0 1 hi
    go_enter Tryd.func26, Tryd.ntmps26
    go_wp2
    refine bodyPost_ret (v := .agg #[.int .u64 (wd (del M b.toNat) 0 : Int), .int .u64 (wd (del M b.toNat) 1 : Int), .int .u64 (wd (del M b.toNat) 2 : Int), .int .u64 (wd (del M b.toNat) 3 : Int)]) (by simp [results, Tryd.results26, go_sem]; refine ⟨congrArg Nat.cast (del_other M b hb0 0 (by omega)).symm, congrArg Nat.cast (del_other M b hb0 2 (by omega)).symm, congrArg Nat.cast (del_other M b hb0 3 (by omega)).symm⟩) rfl ⟨rfl, ((Below.refl _ _).alloc (Nat.le_refl _) _).alloc (by simp) _⟩
  · have H1 := not_word M b hb0 2 hi
    go_enter Tryd.func26, Tryd.ntmps26
    go_wp2
    refine bodyPost_ret (v := .agg #[.int .u64 (wd (del M b.toNat) 0 : Int), .int .u64 (wd (del M b.toNat) 1 : Int), .int .u64 (wd (del M b.toNat) 2 : Int), .int .u64 (wd (del M b.toNat) 3 : Int)]) (by simp [results, Tryd.results26, go_sem]; refine ⟨congrArg Nat.cast (del_other M b hb0 0 (by omega)).symm, congrArg Nat.cast (del_other M b hb0 1 (by omega)).symm, congrArg Nat.cast (del_other M b hb0 3 (by omega)).symm⟩) rfl ⟨rfl, ((Below.refl _ _).alloc (Nat.le_refl _) _).alloc (by simp) _⟩
  · have H1 := not_word M b hb0 3 hi
    go_enter Tryd.func26, Tryd.ntmps26
    go_wp2
    refine bodyPost_ret (v := .agg #[.int .u64 (wd (del M b.toNat) 0 : Int), .int .u64 (wd (del M b.toNat) 1 : Int), .int .u64 (wd (del M b.toNat) 2 : Int), .int .u64 (wd (del M b.toNat) 3 : Int)]) (by simp [results, Tryd.results26, go_sem]; refine ⟨congrArg Nat.cast (del_other M b hb0 0 (by omega)).symm, congrArg Nat.cast (del_other M b hb0 1 (by omega)).symm, congrArg Nat.cast (del_other M b hb0 2 (by omega)).symm⟩) rfl ⟨rfl, ((Below.refl _ _).alloc (Nat.le_refl _) _).alloc (by simp) _⟩
end Go.Proofs.YtnemnchldjohgaaDoor
