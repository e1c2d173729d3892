/- Walks over the document's sets: All, Of, Words. -/
import Derived.Test.YtnemnchldjohgaaSetA
set_option linter.unusedVariables false
set_option linter.unusedSimpArgs false
namespace Go.Proofs.Ytnemnchldjohgaa
open Go.RowKit
theorem allTo_yes {M : Nat → Bool} {k : Nat} (h : M k = true) : allTo M (k + 1) = allTo M k ++ [(k : Int)] := by rw [allTo, if_pos h]
theorem allTo_no {M : Nat → Bool} {k : Nat} (h : M k = false) : allTo M (k + 1) = allTo M k := by rw [allTo, if_neg (by simp [h]), List.append_nil]
set_option maxHeartbeats 1000000 in
set_option maxRecDepth 20000 in
theorem sall_any (M : Nat → Bool) (w : World) : Calls Try.prog 19 #[.agg (bl M)] w (RetB (allTo M 256) w) := by
  go_enter Try.func19, Try.ntmps19
  go_wp2_with fail
  go_loopw [3, 4] (fun v i wr => ∃ (k : Nat) (xs : List Int), k ≤ 256 ∧ Hid (xs = allTo M k) ∧ i = .int .i64 k ∧ OwnB (w.heap.size + 1) v xs wr ∧ Below w.heap.size w wr ∧ Hid (Blk w.heap.size (bl M) 26 wr)) (fun _ i _ => 256 - (intOf i).toNat)
  case atStart => exact ⟨0, [], by omega, rfl, rfl, OwnB.nil _ _, (Below.refl _ _).alloc (Nat.le_refl _) _, Blk.new _ _ _⟩
  case round =>
    obtain ⟨k, xs, hk, hX, rfl, hO, hB, hA⟩ := hrel
    have hl : xs.length ≤ 256 := by rw [hX.out]; exact Nat.le_trans (allTo_le M k) (by omega)
    have hlt := hA.out.lt
    by_cases hlt2 : (k : Int) < 256
    · cases hM : M k
      all_goals
        have HM := Lib.hid hM; clear hM
        have hc := (hA.out.cell k).trans (bl_get M k (by omega))
        rw [HM.out] at hc
      · go_wp2_with fail
        go_roundw
        case rel => exact ⟨k + 1, xs, by omega, hX.out.trans (allTo_no HM.out).symm, by go_num, hO, hB, hA⟩
        case measure => (try simp [intOf]); (try omega)
      · go_wp2_with (at_builtin; refine app_byte (w.heap.size + 1) rfl _ _ rfl u3 xs k rfl rfl hO (by omega) (by omega) ?_; intro v1 w2 hO2 hG2 _; have hA2 := Lib.hid (hA.out.grown hG2 (fun e => by have := (hO.base _ e.symm).1; omega)); have hB2 := hB.grown hG2 (by omega) (fun j e => by have := (hO.base _ e).1; omega); clear hA hO hB hlt hc)
        go_roundw
        case rel => exact ⟨k + 1, xs ++ [(k : Int)], by omega, by show _ = _; rw [allTo_yes HM.out, hX.out], by go_num, hO2, hB2, hA2⟩
        case measure => (try simp [intOf]); (try omega)
    · have hxs : xs = allTo M 256 := by rw [hX.out, show k = 256 by omega]
      have HX := Lib.hid hxs
      clear hxs
      go_wp2_with fail
      go_ret
      exact ⟨u3, rfl, hB, by rw [← HX.out]; exact hO.mono (by omega)⟩
theorem mk4_get (M : Nat → Bool) (i : Nat) (h : i < 4) : (mk4 M)[i]? = some (.int .u64 (wd M i : Int)) := by
  have : i = 0 ∨ i = 1 ∨ i = 2 ∨ i = 3 := by omega
  rcases this with rfl | rfl | rfl | rfl <;> rfl
theorem bl_push (M : Nat → Bool) (k : Nat) : (bl fun x => decide (x < k) && M x).setIfInBounds k (.bool (M k)) = bl fun x => decide (x < k + 1) && M x := by
  rw [bl_set]
  refine bl_congr fun x hx => ?_
  by_cases h : x = k
  · subst h; simp
  · rw [if_neg h]
    by_cases h2 : x < k
    · simp [h2, show x < k + 1 by omega]
    · simp [h2, show ¬ x < k + 1 by omega]
set_option maxHeartbeats 1000000 in
set_option maxRecDepth 20000 in
theorem sof_any (M : Nat → Bool) (w : World) : Calls Try.prog 6 #[.agg (mk4 M)] w fun e w' => e = .returned (.agg (bl M)) ∧ Below w.heap.size w w' := by
  go_enter Try.func6, Try.ntmps6
  go_wp2_with (refine wpList_alloc_zero rfl 26 rfl _ zeroS ?_)
  go_loopw [4] (fun i wr => ∃ k : Nat, k ≤ 256 ∧ i = .int .i64 k ∧ Below w.heap.size w wr ∧ Hid (Blk w.heap.size (mk4 M) 23 wr) ∧ Hid (Blk (w.heap.size + 1) (bl fun _ => false) 26 wr) ∧ Hid (Blk (w.heap.size + 1 + 1) (bl fun x => decide (x < k) && M x) 26 wr)) (fun i _ => 256 - (intOf i).toNat)
  case atStart =>
    refine ⟨0, by omega, rfl, (((Below.refl _ _).alloc (Nat.le_refl _) _).alloc (by simp) _).alloc (by simp; omega) _, ?_, ?_, ?_⟩
    · exact ((Blk.new _ _ _).alloc _).alloc _
    · exact Blk.alloc (by have := Blk.new (w.alloc (.cells (mk4 M) 23)) (bl fun _ => false) 26; simpa using this) _
    · have := Blk.new ((w.alloc (.cells (mk4 M) 23)).alloc (.cells (bl fun _ => false) 26)) (bl fun _ => false) 26
      show Blk _ _ _ _
      simpa using this
  case round =>
    obtain ⟨k, hk, rfl, hB, hA, hA1, hA2⟩ := hrel
    by_cases hlt2 : (k : Int) < 256
    · have hc := (hA.out.cell (k / 64)).trans (mk4_get M (k / 64) (by omega))
      have hc2 := (hA2.out.cell k).trans (bl_get _ k (by omega))
      have hf2 := hA2.out.frozen k
      have hw := has_word M k (by omega) (k / 64) (by omega)
      rw [Int.toNat_natCast, show ((k : Int) % 64).toNat = k % 64 by omega] at hw
      go_wp2_with fail
      go_roundw
      case rel =>
        refine ⟨k + 1, by omega, by go_num, hB.setCell (by simp; omega) _, hA.out.set_other _ _ (by simp; omega), hA1.out.set_other _ _ (by simp), ?_⟩
        have h := hA2.out.set k (.bool (M k))
        rw [bl_push] at h
        exact h
      case measure => (try simp [intOf]); (try omega)
    · have hk6 : k = 256 := by omega
      have hA3 : Blk (w.heap.size + 1 + 1) (bl M) 26 wr := by
        have h := hA2.out
        rw [show (bl fun x => decide (x < k) && M x) = bl M from bl_congr fun x hx => by simp [hk6, hx]] at h
        exact h
      have HA3 := Lib.hid hA3
      clear hA3 hk6
      go_wp2_with (first | refine wpList_load_row rfl 26 _ rfl (w.heap.size + 1 + 1) rfl 26 (bl M) (0, 0) _ HA3.out Try.underlying26 rfl (by rw [bl_size]; exact infoS) ?_ | refine wpList_store_mid rfl 26 _ _ rfl (w.heap.size + 1) 0 (bl M) rfl rfl (by have := hA1.out.there; rwa [bl_size] at this ⊢) (by rw [bl_size]; exact infoS) (bl_one M) ?_)
      have hR := setCells_toList (bl fun _ => false) (bl M) (by rw [bl_size, bl_size]) wr (w.heap.size + 1) 26 hA1.out
      exact bodyPost_ret (v := .agg (bl M)) (results_cell_row (p := 2) (ty := 26) rfl _ _ (w.heap.size + 1) 26 (bl M) (0, 0) _ rfl hR Try.underlying26 rfl (by rw [bl_size]; exact infoS)) rfl ⟨rfl, below_setCells _ (by omega) _ _ _ hB⟩
end Go.Proofs.Ytnemnchldjohgaa
