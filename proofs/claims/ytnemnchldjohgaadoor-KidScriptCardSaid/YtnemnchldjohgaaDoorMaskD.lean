/- OnesCount64, Count. -/
import Derived.Test.YtnemnchldjohgaaDoorMaskB
import Derived.Test.YtnemnchldjohgaaDoorMaskPop
set_option linter.unusedVariables false
set_option linter.unusedSimpArgs false
namespace Go.Proofs.YtnemnchldjohgaaDoor
open Go.RowKit
theorem and_c (x c : Nat) (X C : Int) (hX : X = x) (hC : C = c) (hx : x < 18446744073709551616) (hc : c < 18446744073709551616) : bits .and .u64 X C = ((x &&& c : Nat) : Int) := by
  rw [hX, hC]; exact bits_and_u64_nat x c hx hc
theorem wrap_c (X : Int) (y : Nat) (h : X = y) (hy : y < 18446744073709551616) : IntKind.u64.wrap X = y := by
  rw [h, IntKind.wrap_u64]; omega
theorem and127 (x : Nat) (hx : x < 9223372036854775808) : bits .and .i64 (x : Int) 127 = ((x % 128 : Nat) : Int) := by
  have h1 : (BitVec.ofInt 64 (x : Int)).toNat = x := by rw [BitVec.ofInt_natCast, BitVec.toNat_ofNat]; exact Nat.mod_eq_of_lt (by omega)
  have h2 : (BitVec.ofInt 64 (127 : Int)).toNat = 127 := by decide
  show IntKind.i64.wrap ((BitVec.ofInt 64 (x : Int) &&& BitVec.ofInt 64 (127 : Int)).toNat : Int) = _
  rw [BitVec.toNat_and, h1, h2, show x &&& 127 = x % 128 from Nat.and_two_pow_sub_one_eq_mod x 7, IntKind.wrap_i64]
  omega
set_option maxHeartbeats 1000000 in
set_option maxRecDepth 20000 in
theorem ones_any (x : Nat) (hx : x < 18446744073709551616) (w : World) : Calls Tryd.prog 38 #[.int .u64 (x : Int)] w fun e w' => e = .returned (.int .i64 (pop 64 x : Int)) ∧ w = w' := by
  obtain ⟨y1, y2, y3, b1, b2, b3, e1, e2, c3, e3, c4, c5, c6, e6⟩ := steps x hx
  have g1 : IntKind.u64.wrap (bits BinOp.and IntKind.u64 (↑x / 2) 6148914691236517205 + bits BinOp.and IntKind.u64 (↑x) 6148914691236517205) = (y1 : Int) := by
    rw [and_c (x / 2) 6148914691236517205 ((x : Int) / 2) 6148914691236517205 (by omega) rfl (by omega) (by decide), and_c x 6148914691236517205 (x : Int) 6148914691236517205 rfl rfl hx (by decide)]
    exact wrap_c _ _ (by rw [← e1]; omega) b1
  have g2 : IntKind.u64.wrap (bits BinOp.and IntKind.u64 (↑y1 / 4) 3689348814741910323 + bits BinOp.and IntKind.u64 (↑y1) 3689348814741910323) = (y2 : Int) := by
    rw [and_c (y1 / 4) 3689348814741910323 ((y1 : Int) / 4) 3689348814741910323 (by omega) rfl (by omega) (by decide), and_c y1 3689348814741910323 (y1 : Int) 3689348814741910323 rfl rfl b1 (by decide)]
    exact wrap_c _ _ (by rw [← e2]; omega) b2
  have g3 : bits BinOp.and IntKind.u64 (IntKind.u64.wrap (↑y2 / 16 + ↑y2)) 1085102592571150095 = (y3 : Int) := by
    rw [wrap_c _ (y2 / 16 + y2) (by omega) c3, and_c (y2 / 16 + y2) 1085102592571150095 ((y2 / 16 + y2 : Nat) : Int) 1085102592571150095 rfl rfl c3 (by decide), e3]
  have g4 : IntKind.u64.wrap (↑y3 + ↑y3 / 256) = ((y3 + y3 / 256 : Nat) : Int) := wrap_c _ _ (by omega) (by omega)
  have g5 : IntKind.u64.wrap (((y3 + y3 / 256 : Nat) : Int) + ((y3 + y3 / 256 : Nat) : Int) / 65536) = (((y3 + y3 / 256) + (y3 + y3 / 256) / 65536 : Nat) : Int) := wrap_c _ _ (by omega) (by omega)
  generalize y3 + y3 / 256 = y4 at *
  generalize y4 + y4 / 65536 = y5 at *
  have g6 : IntKind.u64.wrap ((y5 : Int) + (y5 : Int) / 4294967296) = ((y5 + y5 / 4294967296 : Nat) : Int) := wrap_c _ _ (by omega) (by omega)
  generalize y5 + y5 / 4294967296 = y6 at *
  have g7 : bits .and .i64 (y6 : Int) 127 = (pop 64 x : Int) := by rw [and127 y6 c6, e6]
  have G7 := Lib.hid g7
  clear g7 e6 e3 e2 e1 c3 c4 c5 b1 b2 b3
  go_enter Tryd.func38, Tryd.ntmps38
  go_wp2_with fail
  go_ret
  exact ⟨by rw [← G7.out]; rfl, rfl⟩
set_option maxHeartbeats 1000000 in
set_option maxRecDepth 20000 in
theorem count_any (M : Nat → Bool) (w : World) : Calls Tryd.prog 24 #[.agg (mk4 M)] w fun e w' => e = .returned (.int .i64 (rnk M 256 : Int)) ∧ Below w.heap.size w w' := by
  have i0 : ∀ w : World, (Instr.index 49 (.agg #[.int .u64 (wd M 0 : Int), .int .u64 (wd M 1 : Int), .int .u64 (wd M 2 : Int), .int .u64 (wd M 3 : Int)]) (.int .i64 0)).run Tryd.prog w = .ok (.int .u64 (wd M 0 : Int)) w := fun _ => by kernel_rfl
  have i1 : ∀ w : World, (Instr.index 49 (.agg #[.int .u64 (wd M 0 : Int), .int .u64 (wd M 1 : Int), .int .u64 (wd M 2 : Int), .int .u64 (wd M 3 : Int)]) (.int .i64 1)).run Tryd.prog w = .ok (.int .u64 (wd M 1 : Int)) w := fun _ => by kernel_rfl
  have i2 : ∀ w : World, (Instr.index 49 (.agg #[.int .u64 (wd M 0 : Int), .int .u64 (wd M 1 : Int), .int .u64 (wd M 2 : Int), .int .u64 (wd M 3 : Int)]) (.int .i64 2)).run Tryd.prog w = .ok (.int .u64 (wd M 2 : Int)) w := fun _ => by kernel_rfl
  have i3 : ∀ w : World, (Instr.index 49 (.agg #[.int .u64 (wd M 0 : Int), .int .u64 (wd M 1 : Int), .int .u64 (wd M 2 : Int), .int .u64 (wd M 3 : Int)]) (.int .i64 3)).run Tryd.prog w = .ok (.int .u64 (wd M 3 : Int)) w := fun _ => by kernel_rfl
  unfold mk4
  go_enter Tryd.func24, Tryd.ntmps24
  go_wp2_with fail
  go_loopw [3, 7] (fun n i wr => ∃ k r : Nat, k ≤ 4 ∧ i = .int .i64 k ∧ n = .int .i64 r ∧ r ≤ 256 ∧ Hid (r = rnk M (64 * k)) ∧ Hid (Below w.heap.size w wr)) (fun _ i _ => 4 - (intOf i).toNat)
  case atStart => exact ⟨0, 0, by omega, rfl, rfl, by omega, rfl, (Below.refl _ _).alloc (Nat.le_refl _) _⟩
  case round =>
    obtain ⟨k, r, hk, rfl, rfl, hr, hR, hB⟩ := hrel
    have hk5 : k = 0 ∨ k = 1 ∨ k = 2 ∨ k = 3 ∨ k = 4 := by omega
    rcases hk5 with rfl | rfl | rfl | rfl | rfl
    · have hp := pop_wd M 0 64 (by omega)
      have hr2 := rnk_le M (64 * 0 + 64)
      have hR' := hR.out
      have hp1 : pop 64 (wd M 0) ≤ 256 := by omega
      have hp2 : r + pop 64 (wd M 0) ≤ 256 := by omega
      have HP := Lib.hid hp
      clear hp hr2 hR'
      go_wp2_with (go_at_call 38; refine (ones_any (wd M 0) (wd_lt M 0) _).mono ?_; rintro e w1 ⟨rfl, rfl⟩)
      exact ⟨⟨1, r + pop 64 (wd M 0), by omega, rfl, by go_num, by omega, by have h1 := HP.out; have h2 := hR.out; show r + pop 64 (wd M 0) = rnk M (64 * 1); rw [show 64 * 1 = 64 * 0 + 64 from rfl]; omega, hB⟩, by simp [intOf]⟩
    · have hp := pop_wd M 1 64 (by omega)
      have hr2 := rnk_le M (64 * 1 + 64)
      have hR' := hR.out
      have hp1 : pop 64 (wd M 1) ≤ 256 := by omega
      have hp2 : r + pop 64 (wd M 1) ≤ 256 := by omega
      have HP := Lib.hid hp
      clear hp hr2 hR'
      go_wp2_with (go_at_call 38; refine (ones_any (wd M 1) (wd_lt M 1) _).mono ?_; rintro e w1 ⟨rfl, rfl⟩)
      exact ⟨⟨2, r + pop 64 (wd M 1), by omega, rfl, by go_num, by omega, by have h1 := HP.out; have h2 := hR.out; show r + pop 64 (wd M 1) = rnk M (64 * 2); rw [show 64 * 2 = 64 * 1 + 64 from rfl]; omega, hB⟩, by simp [intOf]⟩
    · have hp := pop_wd M 2 64 (by omega)
      have hr2 := rnk_le M (64 * 2 + 64)
      have hR' := hR.out
      have hp1 : pop 64 (wd M 2) ≤ 256 := by omega
      have hp2 : r + pop 64 (wd M 2) ≤ 256 := by omega
      have HP := Lib.hid hp
      clear hp hr2 hR'
      go_wp2_with (go_at_call 38; refine (ones_any (wd M 2) (wd_lt M 2) _).mono ?_; rintro e w1 ⟨rfl, rfl⟩)
      exact ⟨⟨3, r + pop 64 (wd M 2), by omega, rfl, by go_num, by omega, by have h1 := HP.out; have h2 := hR.out; show r + pop 64 (wd M 2) = rnk M (64 * 3); rw [show 64 * 3 = 64 * 2 + 64 from rfl]; omega, hB⟩, by simp [intOf]⟩
    · have hp := pop_wd M 3 64 (by omega)
      have hr2 := rnk_le M (64 * 3 + 64)
      have hR' := hR.out
      have hp1 : pop 64 (wd M 3) ≤ 256 := by omega
      have hp2 : r + pop 64 (wd M 3) ≤ 256 := by omega
      have HP := Lib.hid hp
      clear hp hr2 hR'
      go_wp2_with (go_at_call 38; refine (ones_any (wd M 3) (wd_lt M 3) _).mono ?_; rintro e w1 ⟨rfl, rfl⟩)
      exact ⟨⟨4, r + pop 64 (wd M 3), by omega, rfl, by go_num, by omega, by have h1 := HP.out; have h2 := hR.out; show r + pop 64 (wd M 3) = rnk M (64 * 4); rw [show 64 * 4 = 64 * 3 + 64 from rfl]; omega, hB⟩, by simp [intOf]⟩
    · go_wp2_with fail
      go_ret
      exact ⟨by rw [show rnk M 256 = r from hR.out.symm]; rfl, hB⟩
end Go.Proofs.YtnemnchldjohgaaDoor
