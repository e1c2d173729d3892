/- What every program answers that is one. -/
import Derived.Test.YtnemnchldjohgaaDoorKidC
set_option linter.unusedVariables false
set_option linter.unusedSimpArgs false
namespace Go.Proofs.YtnemnchldjohgaaDoor
open Go.RowKit
def H7 (k : Nat) : Nat → Nat := fun x => if x < k then 7 else 0
theorem H7_step (k : Nat) : upd (H7 k) k 7 = H7 (k + 1) := by
  funext x; unfold upd H7
  by_cases e : x = k
  · subst e; simp
  · rw [if_neg e]
    by_cases h : x < k
    · simp [h, show x < k + 1 by omega]
    · simp [h, show ¬ x < k + 1 by omega]
theorem H7_cnt (k : Nat) (h : k ≤ 5) : cnt (H7 k) = k := by
  induction k with
  | zero => exact (congrArg cnt (funext fun x => by simp [H7])).trans cnt_zero
  | succ k ih =>
    rw [← H7_step, cnt_new (H7 k) k 7 (by omega) (by omega) (by simp [H7]), ih (by omega)]
theorem H7_drop : upd (H7 5) 4 0 = H7 4 := by
  funext x; unfold upd H7
  by_cases e : x = 4
  · subst e; simp
  · rw [if_neg e]
    by_cases h : x < 4
    · simp [h, show x < 5 by omega]
    · simp [h, show ¬ x < 5 by omega]
theorem H7_kdr : kdr (H7 5) (bq 5) 4 = 1 := by
  unfold kdr
  rw [H7_drop, H7_cnt 4 (by omega), if_neg (by simp [H7])]
  decide
theorem H7_next : next (nz (H7 4)) 2 = 2 := by
  have : nxt (nz (H7 4)) (256 - 2) 2 = 2 := nxt_hit (by omega) (by simp [nz, H7])
  exact this
attribute [local irreducible] mk4 wd allTo rnk nd ks room left nz kn cnt next prev hat bq kput kdr
set_option maxHeartbeats 1000000 in
set_option maxRecDepth 20000 in
theorem awake_any (w : World) (hL : RL w) : Calls Tryd.prog 14 #[] w fun e w' => e = .returned (.bool true) ∧ Below w.heap.size w w' := by
  have h2 := hL.two
  go_enter Tryd.func14, Tryd.ntmps14
  go_wp2_with fail
  refine (new_any _).mono ?_
  rintro e w1 ⟨rfl, rfl⟩
  have hS : Sx w.heap.size w [(w.heap.size, kn (bq 0) (H7 0), 51)] (w.alloc (.cells nd0 51)) := by
    have h := (Sx.start w).new nd0 51
    rw [show nd0 = kn (bq 0) (H7 0) from newK.trans (by rw [show (fun _ => 0 : Nat → Nat) = H7 0 from funext fun x => by simp [H7]]; unfold bq; rfl)] at h
    rw [show nd0 = kn (bq 0) (H7 0) from newK.trans (by rw [show (fun _ => 0 : Nat → Nat) = H7 0 from funext fun x => by simp [H7]]; unfold bq; rfl)]
    exact h
  go_wp2_with fail
  go_loopw [2] (fun i wr => ∃ k : Nat, k ≤ 5 ∧ i = .int .i64 k ∧ Sx w.heap.size w [(w.heap.size, kn (bq k) (H7 k), 51)] wr) (fun i _ => 5 - (intOf i).toNat)
  case atStart => exact ⟨0, by omega, rfl, hS⟩
  case round =>
    clear hS
    obtain ⟨k, hk, rfl, hS⟩ := hrel
    by_cases hlt : (k : Int) < 5
    · have hw8 : IntKind.u8.wrap (k : Int) = k := by rw [IntKind.wrap_u8]; omega
      go_wp2_with fail
      refine (kput_k w.heap.size (bq k) (H7 k) k 7 (bq_lt k) (by omega) (by omega) w.heap.size w _ [] hL h2 hS (Nat.le_refl _) (by simp)).mono ?_
      rintro e w2 ⟨rfl, hS2⟩
      rw [H7_step, H7_cnt (k + 1) (by omega), kput_bq k (by omega)] at hS2
      clear hS
      go_wp2_with fail
      go_roundw
      case rel => exact ⟨k + 1, by omega, by go_num, hS2⟩
      case measure => (try simp [intOf]); (try omega)
    · have hk5 : k = 5 := by omega
      subst hk5
      clear hlt hk
      go_wp2_with fail
      refine (kkind w.heap.size (bq 5) (H7 5) wr (hS.blk (w.heap.size, kn (bq 5) (H7 5), 51) (by simp)) (bq_lt 5)).mono ?_
      rintro e w2 ⟨rfl, hb2⟩
      have hS2 := hS.below hb2
      clear hS hb2
      rw [show (6 + ((bq 5 : Nat) : Int)) = 7 by unfold bq; rfl]
      go_wp2_with fail
      refine (kdrop_k w.heap.size (bq 5) (H7 5) 4 (bq_lt 5) (by omega) w.heap.size w _ [] hL h2 hS2 (Nat.le_refl _) (by simp)).mono ?_
      rintro e w3 ⟨rfl, hS3⟩
      rw [H7_drop, H7_kdr] at hS3
      rw [show nz (H7 5) 4 = true by simp [nz, H7], show H7 5 4 = 7 by simp [H7]]
      clear hS2
      go_wp2_with fail
      refine (knext w.heap.size 1 (H7 4) w3 (hS3.blk (w.heap.size, kn 1 (H7 4), 51) (by simp)) 2 (by omega) (by omega)).mono ?_
      rintro e w4 ⟨rfl, hb4⟩
      have hS4 := hS3.below hb4
      clear hS3 hb4
      rw [H7_next, show hat (H7 4) 2 = 7 by unfold hat; simp [H7]]
      go_wp2_with fail
      refine (kkind w.heap.size 1 (H7 4) w4 (hS4.blk (w.heap.size, kn 1 (H7 4), 51) (by simp)) (by omega)).mono ?_
      rintro e w5 ⟨rfl, hb5⟩
      have hS5 := hS4.below hb5
      clear hS4 hb5
      rw [show (6 + ((1 : Nat) : Int)) = 7 by omega]
      go_wp2_with fail
      refine (klen w.heap.size 1 (H7 4) w5 (hS5.blk (w.heap.size, kn 1 (H7 4), 51) (by simp))).mono ?_
      rintro e w6 ⟨rfl, hb6⟩
      have hS6 := hS5.below hb6
      clear hS5 hb6
      rw [H7_cnt 4 (by omega)]
      go_wp2_with fail
      refine (put_zero w.heap.size 1 w6).mono ?_
      rintro e w7 ⟨rfl, rfl⟩
      go_wp2_with fail
      go_ret
      exact ⟨rfl, hS6.low⟩
end Go.Proofs.YtnemnchldjohgaaDoor
