/- Walks over the document's sets. -/
import Derived.Test.YtnemnchldjohgaaBlk
import Derived.Test.YtnemnchldjohgaaMaskC
set_option linter.unusedVariables false
set_option linter.unusedSimpArgs false
namespace Go.Proofs.Ytnemnchldjohgaa
open Go.RowKit
set_option maxHeartbeats 1000000 in
set_option maxRecDepth 20000 in
theorem snext_any (M : Nat → Bool) (b : Int) (hb0 : -9223372036854775808 ≤ b) (hb : b ≤ 9223372036854775807) (w : World) :
    Calls Try.prog 13 #[.agg (bl M), .int .i64 b] w fun e w' => e = .returned (.int .i64 (next M b)) ∧ Below w.heap.size w w' := by
  have hn0 : b < 0 → next M b = nxt M (256 - 0) 0 := fun h => by unfold next; rw [show max b 0 = 0 by omega]; rfl
  have hn1 : 0 ≤ b → next M b = nxt M (256 - b.toNat) b.toNat := fun h => by unfold next; rw [show max b 0 = b by omega]
  have HN0 := Lib.hid hn0; clear hn0
  have HN1 := Lib.hid hn1; clear hn1
  go_enter Try.func13, Try.ntmps13
  go_wp2_with fail
  all_goals
    go_loopw [1] (fun i wr => ∃ k : Nat, (k : Int) ≤ 9223372036854775807 ∧ i = .int .i64 k ∧ Hid (next M b = nxt M (256 - k) k) ∧ Below w.heap.size w wr ∧ Hid (Blk w.heap.size (bl M) 26 wr)) (fun i _ => 256 - (intOf i).toNat)
    case atStart =>
      first
      | exact ⟨0, by omega, rfl, HN0.out ‹_›, (Below.refl _ _).alloc (Nat.le_refl _) _, Blk.new _ _ _⟩
      | exact ⟨b.toNat, by omega, by rw [Int.toNat_of_nonneg ‹_›], HN1.out ‹_›, (Below.refl _ _).alloc (Nat.le_refl _) _, Blk.new _ _ _⟩
    case round =>
      obtain ⟨k, hk, rfl, hN, hB, hA⟩ := hrel
      by_cases hlt2 : (k : Int) < 256
      · cases hM : M k
        all_goals
          have HM := Lib.hid hM; clear hM
          have hc := (hA.out.cell k).trans (bl_get M k (by omega))
          rw [HM.out] at hc
        · go_wp2_with fail
          go_roundw
          case rel => exact ⟨k + 1, by omega, by go_num, (hN.out.trans (nxt_miss (by omega) HM.out) : _), hB, hA⟩
          case measure => (try simp [intOf]); (try omega)
        · go_wp2_with fail
          go_ret
          exact ⟨by rw [hN.out, nxt_hit (by omega) HM.out] <;> rfl, hB⟩
      · go_wp2_with fail
        go_ret
        exact ⟨by rw [hN.out, nxt_end (by omega)] <;> rfl, hB⟩
set_option maxHeartbeats 1000000 in
set_option maxRecDepth 20000 in
theorem sprev_any (M : Nat → Bool) (b : Int) (hb0 : -9223372036854775808 ≤ b) (hb : b ≤ 9223372036854775807) (w : World) :
    Calls Try.prog 15 #[.agg (bl M), .int .i64 b] w fun e w' => e = .returned (.int .i64 (prev M b)) ∧ Below w.heap.size w w' := by
  have hn0 : 255 ≤ b → prev M b = prv M ((255 : Int) + 1).toNat := fun h => by unfold prev; rw [show min b 255 = 255 by omega]
  have hn1 : b ≤ 255 → prev M b = prv M (b + 1).toNat := fun h => by unfold prev; rw [show min b 255 = b by omega]
  have HN0 := Lib.hid hn0; clear hn0
  have HN1 := Lib.hid hn1; clear hn1
  go_enter Try.func15, Try.ntmps15
  go_wp2_with fail
  all_goals
    go_loopw [1] (fun i wr => ∃ n : Int, -9223372036854775808 ≤ n ∧ n ≤ 255 ∧ i = .int .i64 n ∧ Hid (prev M b = prv M (n + 1).toNat) ∧ Below w.heap.size w wr ∧ Hid (Blk w.heap.size (bl M) 26 wr)) (fun i _ => (intOf i + 1).toNat)
    case atStart =>
      first
      | exact ⟨b, by omega, by omega, rfl, HN1.out (by omega), (Below.refl _ _).alloc (Nat.le_refl _) _, Blk.new _ _ _⟩
      | exact ⟨255, by omega, by omega, rfl, HN0.out (by omega), (Below.refl _ _).alloc (Nat.le_refl _) _, Blk.new _ _ _⟩
    case round =>
      obtain ⟨n, hn, hn', rfl, hN, hB, hA⟩ := hrel
      by_cases hlt2 : 0 ≤ n
      · obtain ⟨k, rfl⟩ := Int.eq_ofNat_of_zero_le hlt2
        rw [show ((k : Int) + 1).toNat = k + 1 by omega] at hN
        cases hM : M k
        all_goals
          have HM := Lib.hid hM; clear hM
          have hc := (hA.out.cell k).trans (bl_get M k (by omega))
          rw [HM.out] at hc
        · go_wp2_with fail
          go_roundw
          case rel => exact ⟨(k : Int) - 1, by omega, by omega, rfl, by rw [show ((k : Int) - 1 + 1).toNat = k by omega]; exact hN.out.trans (by rw [prv, if_neg (by rw [HM.out]; simp)]), hB, hA⟩
          case measure => (try simp [intOf]); (try omega)
        · go_wp2_with fail
          go_ret
          exact ⟨by rw [hN.out, prv, if_pos HM.out] <;> rfl, hB⟩
      · go_wp2_with fail
        go_ret
        exact ⟨by rw [hN.out, show (n + 1).toNat = 0 by omega] <;> rfl, hB⟩
set_option maxHeartbeats 1000000 in
set_option maxRecDepth 20000 in
theorem srank_any (M : Nat → Bool) (b : Int) (hb0 : -9223372036854775808 ≤ b) (hb : b ≤ 9223372036854775807) (w : World) :
    Calls Try.prog 17 #[.agg (bl M), .int .i64 b] w fun e w' => e = .returned (.int .i64 (rank M b)) ∧ Below w.heap.size w w' := by
  have hn0 : 256 ≤ b → rank M b = rnk M 256 := fun h => by unfold rank; rw [show min b 256 = 256 by omega]; rfl
  have hn1 : b ≤ 256 → rank M b = rnk M b.toNat := fun h => by unfold rank; rw [show min b 256 = b by omega]
  have HN0 := Lib.hid hn0; clear hn0
  have HN1 := Lib.hid hn1; clear hn1
  have hle := rnk_le M
  have HL := Lib.hid hle; clear hle
  go_enter Try.func17, Try.ntmps17
  go_wp2_with fail
  go_loopw [5, 6] (fun n i wr => ∃ k : Nat, k ≤ 256 ∧ (k = 0 ∨ (k : Int) ≤ b) ∧ i = .int .i64 k ∧ n = .int .i64 (rnk M k) ∧ Below w.heap.size w wr ∧ Hid (Blk w.heap.size (bl M) 26 wr)) (fun _ i _ => 256 - (intOf i).toNat)
  case atStart => exact ⟨0, by omega, by omega, rfl, rfl, (Below.refl _ _).alloc (Nat.le_refl _) _, Blk.new _ _ _⟩
  case round =>
    obtain ⟨k, hk, hkb, rfl, rfl, hB, hA⟩ := hrel
    have hr := HL.out k
    by_cases hlt3 : (k : Int) < 256
    · by_cases hlt4 : (k : Int) < b
      · cases hM : M k
        all_goals
          have HM := Lib.hid hM; clear hM
          have hc := (hA.out.cell k).trans (bl_get M k (by omega))
          rw [HM.out] at hc
          go_wp2_with fail
          go_roundw
          case rel => exact ⟨k + 1, by omega, by omega, by go_num, by first | exact congrArg (fun x : Nat => Value.int .i64 (x : Int)) (rnk_no HM.out).symm | (rw [rnk_yes HM.out]; go_num), hB, hA⟩
          case measure => (try simp [intOf]); (try omega)
      · have hfin : rank M b = rnk M k := by rw [HN1.out (by omega), show b.toNat = k by omega]
        have HF := Lib.hid hfin; clear hfin
        clear hkb hr hk
        go_wp2_with fail
        go_ret
        exact ⟨by rw [HF.out]; rfl, hB⟩
    · have hfin : rank M b = rnk M k := by rw [HN0.out (by omega), show k = 256 by omega]
      have HF := Lib.hid hfin; clear hfin
      clear hkb hr hk
      go_wp2_with fail
      go_ret
      exact ⟨by rw [HF.out]; rfl, hB⟩
end Go.Proofs.Ytnemnchldjohgaa
