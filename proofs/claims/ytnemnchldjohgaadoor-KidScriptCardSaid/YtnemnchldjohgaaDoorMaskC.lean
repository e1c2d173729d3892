/- Walks over the functions of mask: All. -/
import Derived.Test.YtnemnchldjohgaaDoorMaskB
set_option linter.unusedVariables false
set_option linter.unusedSimpArgs false
namespace Go.Proofs.YtnemnchldjohgaaDoor
open Go.RowKit
def leftOf (v : Value) : Nat := (257 - (if intOf v < 0 then 257 else intOf v)).toNat
theorem leftOf_next {M : Nat → Bool} {k : Nat} (hk : k < 256) {n : Int} (hn : n = next M ((k : Int) + 1)) : leftOf (.int .i64 n) < leftOf (.int .i64 (k : Int)) := by
  have hb := next_bd M ((k : Int) + 1)
  have h0 : n < 0 ∨ (k : Int) < n := by
    rcases nxt_range M (256 - (max ((k : Int) + 1) 0).toNat) (max ((k : Int) + 1) 0).toNat with e | ⟨e1, e2, _⟩
    · exact .inl (by rw [hn]; unfold next; omega)
    · exact .inr (by rw [hn]; unfold next; omega)
  have e1 : leftOf (.int .i64 n) = (257 - (if n < 0 then 257 else n)).toNat := rfl
  have e2 : leftOf (.int .i64 (k : Int)) = (257 - (if (k : Int) < 0 then 257 else (k : Int))).toNat := rfl
  rw [e1, e2, if_neg (by omega : ¬ (k : Int) < 0)]
  split <;> omega
set_option maxHeartbeats 1000000 in
set_option maxRecDepth 20000 in
theorem all_any (M : Nat → Bool) (w : World) : Calls Tryd.prog 27 #[.agg (mk4 M)] w (RetB (allTo M 256) w) := by
  have hz := coll_zero M
  have HZ := Lib.hid hz; clear hz
  unfold mk4
  go_enter Tryd.func27, Tryd.ntmps27
  go_wp2_with (go_at_call 29; refine (next_any M 0 (by omega) (by omega) _).mono ?_; rintro e w1 ⟨rfl, hb1⟩)
  have hA : MaskAt M w.heap.size w1 := (MaskAt.new M w).below hb1
  have hB : Below w.heap.size w w1 := below_then ((Below.refl _ _).alloc (Nat.le_refl _) _) (by simp) hb1
  go_loopw [3, 4] (fun v i wr => ∃ (n : Int) (xs : List Int), Hid (Coll M n xs) ∧ i = .int .i64 n ∧ OwnB (w.heap.size + 1) v xs wr ∧ Below w.heap.size w wr ∧ MaskAt M w.heap.size wr) (fun _ i _ => leftOf i)
  case atStart => exact ⟨next M 0, [], HZ, rfl, OwnB.nil _ _, hB, hA⟩
  case round =>
    obtain ⟨n, xs, hC, rfl, hO, hBr, hAr⟩ := hrel
    clear hA hB hb1
    by_cases hn : 0 ≤ n
    · obtain ⟨k, rfl, hk, hM, hxs⟩ : ∃ k : Nat, n = k ∧ k < 256 ∧ M k = true ∧ xs = allTo M k := by
        rcases hC.out with ⟨e, _⟩ | h
        · omega
        · exact h
      have hl : xs.length ≤ 256 := by rw [hxs]; exact Nat.le_trans (allTo_le M k) (by omega)
      have hC2 := coll_next hk hM
      rw [← hxs] at hC2
      have HC := Lib.hid hC2
      clear hC hC2 hxs hM
      have HA := Lib.hid hAr
      obtain ⟨c0, c1, c2, c3, hlt⟩ := hAr
      go_wp2_with (at_builtin; refine app_byte (w.heap.size + 1) rfl _ _ rfl u3 xs k rfl rfl hO (by omega) (by omega) ?_; intro v1 w2 hO2 hG2 _; have hA2 := HA.out.grown hG2 (fun e => by have := (hO.base _ e.symm).1; omega); have hB2 := hBr.grown hG2 (by omega) (fun j e => by have := (hO.base _ e).1; omega); have HA2 := Lib.hid hA2; obtain ⟨d0, d1, d2, d3, hlt2⟩ := hA2; clear c0 c1 c2 c3 hlt HA hO hBr)
      refine (next_any M ((k : Int) + 1) (by omega) (by omega) _).mono ?_
      rintro e w3 ⟨rfl, hb3⟩
      have hA3 := HA2.out.below hb3
      have hB3 := below_then hB2 (by omega) hb3
      have hO3 := hO2.below hb3
      go_wp2_with fail
      go_roundw
      case rel => exact ⟨_, _, HC, rfl, hO3, hB3, hA3⟩
      case measure => exact leftOf_next hk rfl
    · have hxs : xs = allTo M 256 := by
        rcases hC.out with ⟨_, e⟩ | ⟨k, e, _⟩
        · exact e
        · omega
      have HX := Lib.hid hxs
      clear hxs
      go_wp2_with fail
      go_ret
      exact ⟨u3, rfl, hBr, by rw [← HX.out]; exact hO.mono (by omega)⟩
end Go.Proofs.YtnemnchldjohgaaDoor
