/- The document's node: its cells; what only looks at it. -/
import Derived.Test.YtnemnchldjohgaaDoorKidC
import Derived.Test.YtnemnchldjohgaaDoorStepMath
set_option linter.unusedVariables false
set_option linter.unusedSimpArgs false
namespace Go.Proofs.YtnemnchldjohgaaDoor
open Go.RowKit
/-- The cells: the handles, the kind. -/
def rd (q : Nat) (H : Nat → Nat) : Array Value := (ks H ++ [Value.int .i64 (6 + (q : Int))]).toArray
theorem rd_kid (q : Nat) (H : Nat → Nat) (x : Nat) (h : x < 256) : (rd q H)[x]? = some (.int .u32 (H x : Int)) := by
  simp only [rd, List.getElem?_toArray, List.getElem?_append_left (show x < (ks H).length by rw [ks_length]; exact h), ks_get H x h]
theorem rd_kind (q : Nat) (H : Nat → Nat) : (rd q H)[256]? = some (.int .i64 (6 + (q : Int))) := by
  simp only [rd, List.getElem?_toArray, List.getElem?_append_right (show (ks H).length ≤ 256 by rw [ks_length]; exact Nat.le_refl _), ks_length]
  rfl
theorem rd_setKid (q : Nat) (H : Nat → Nat) (b h : Nat) (hb : b < 256) : (rd q H).setIfInBounds b (.int .u32 (h : Int)) = rd q (upd H b h) := by
  simp only [rd, List.setIfInBounds_toArray, List.set_append_left _ _ (show b < (ks H).length by rw [ks_length]; exact hb), ks_set]
theorem rd_setKind (q r : Nat) (H : Nat → Nat) : (rd q H).setIfInBounds 256 (.int .i64 (6 + (r : Int))) = rd r H := by
  simp only [rd, List.setIfInBounds_toArray, List.set_append_right _ _ (show (ks H).length ≤ 256 by rw [ks_length]; exact Nat.le_refl _), ks_length]
  rfl
attribute [local irreducible] ks rnk nz next prev hat
set_option maxHeartbeats 1000000 in
set_option maxRecDepth 20000 in
theorem rlen_any (g q : Nat) (H : Nat → Nat) (w : World) (hA : Blk g (rd q H) 57 w) : Calls Tryd.prog 31 #[pn g] w fun e w' => e = .returned (.int .i64 ((cnt H : Nat) : Int)) ∧ w' = w := by
  rw [cnt_eq]
  have HA := Lib.hid hA
  clear hA
  go_enter Tryd.func31, Tryd.ntmps31
  go_wp2_with fail
  go_loopw [3, 4] (fun n i wr => ∃ k : Nat, k ≤ 256 ∧ i = .int .i64 k ∧ n = .int .i64 ((rnk (nz H) k : Nat) : Int) ∧ wr = w) (fun _ i _ => 256 - (intOf i).toNat)
  case atStart => exact ⟨0, by omega, rfl, by rw [rnk_zero]; rfl, rfl⟩
  case round =>
    obtain ⟨k, hk, rfl, rfl, rfl⟩ := hrel
    have hrk : ((rnk (nz H) k : Nat) : Int) ≤ 256 := by have := rnk_le (nz H) k; omega
    by_cases hlt : (k : Int) < 256
    · have hc := (HA.out.cell k).trans (rd_kid q H k (by omega))
      cases hM : nz H k
      · have h0 : ((H k : Int) != 0) = false := by simp [nz_false hM]
        have HR := Lib.hid (rnk_no hM)
        clear hM
        go_wp2_with fail
        go_roundw
        case rel => exact ⟨k + 1, by omega, by go_num, by rw [HR.out], (by first | rfl | trivial)⟩
        case measure => (try simp [intOf]); (try omega)
      · have h0 : ((H k : Int) != 0) = true := by have := nz_true hM; simp; omega
        have HR := Lib.hid (rnk_yes hM)
        clear hM
        go_wp2_with fail
        go_roundw
        case rel => exact ⟨k + 1, by omega, by go_num, by rw [HR.out]; go_num, (by first | rfl | trivial)⟩
        case measure => (try simp [intOf]); (try omega)
    · have hk6 : k = 256 := by omega
      subst hk6
      go_wp2_with fail
      go_ret
      exact ⟨rfl, rfl⟩
set_option maxHeartbeats 1000000 in
set_option maxRecDepth 20000 in
theorem rmost_any (q : Nat) (hq : q < 4) (w : World) : Calls Tryd.prog 32 #[.int .i64 (6 + (q : Int))] w fun e w' => e = .returned (.int .i64 (room q)) ∧ w' = w := by
  have : q = 0 ∨ q = 1 ∨ q = 2 ∨ q = 3 := by omega
  rcases this with rfl | rfl | rfl | rfl
  all_goals
    go_enter Tryd.func32, Tryd.ntmps32
    go_wp2_with fail
    go_ret
    exact ⟨rfl, rfl⟩
set_option maxHeartbeats 1000000 in
set_option maxRecDepth 20000 in
theorem rleast_any (q : Nat) (hq : q < 4) (w : World) : Calls Tryd.prog 33 #[.int .i64 (6 + (q : Int))] w fun e w' => e = .returned (.int .i64 (left q)) ∧ w' = w := by
  have : q = 0 ∨ q = 1 ∨ q = 2 ∨ q = 3 := by omega
  rcases this with rfl | rfl | rfl | rfl
  all_goals
    go_enter Tryd.func33, Tryd.ntmps33
    go_wp2_with fail
    go_ret
    exact ⟨rfl, rfl⟩
set_option maxHeartbeats 1000000 in
set_option maxRecDepth 20000 in
theorem rnext_any (g q : Nat) (H : Nat → Nat) (b : Int) (hb0 : -9223372036854775808 ≤ b) (hb : b ≤ 9223372036854775807) (w : World) (hA : Blk g (rd q H) 57 w) :
    Calls Tryd.prog 34 #[pn g, .int .i64 b] w fun e w' => e = .returned (.tuple #[.int .i64 (next (nz H) b), .int .u32 (hat H (next (nz H) b))]) ∧ Below w.heap.size w w' := by
  have hn0 : b < 0 → next (nz H) b = nxt (nz H) (256 - 0) 0 := fun h => by unfold next; rw [show max b 0 = 0 by omega]; rfl
  have hn1 : 0 ≤ b → next (nz H) b = nxt (nz H) (256 - b.toNat) b.toNat := fun h => by unfold next; rw [show max b 0 = b by omega]
  have HN0 := Lib.hid hn0; clear hn0
  have HN1 := Lib.hid hn1; clear hn1
  have HA := Lib.hid hA; clear hA
  go_enter Tryd.func34, Tryd.ntmps34
  go_wp2_with fail
  all_goals
    go_loopw [1] (fun i wr => ∃ k : Nat, (k : Int) ≤ 9223372036854775807 ∧ i = .int .i64 k ∧ Hid (next (nz H) b = nxt (nz H) (256 - k) k) ∧ wr = w) (fun i _ => 256 - (intOf i).toNat)
    case atStart =>
      first
      | exact ⟨0, by omega, rfl, HN0.out ‹_›, rfl⟩
      | exact ⟨b.toNat, by omega, by rw [Int.toNat_of_nonneg ‹_›], HN1.out ‹_›, rfl⟩
    case round =>
      obtain ⟨k, hk, rfl, hN, rfl⟩ := hrel
      by_cases hlt2 : (k : Int) < 256
      · have hc := (HA.out.cell k).trans (rd_kid q H k (by omega))
        cases hM : nz H k
        · have h0 : ((H k : Int) != 0) = false := by simp [nz_false hM]
          have HM := Lib.hid hM; clear hM
          go_wp2_with fail
          go_roundw
          case rel => exact ⟨k + 1, by omega, by go_num, (hN.out.trans (nxt_miss (by omega) HM.out) : _), (by first | rfl | trivial)⟩
          case measure => (try simp [intOf]); (try omega)
        · have h0 : ((H k : Int) != 0) = true := by have := nz_true hM; simp; omega
          have HM := Lib.hid hM; clear hM
          go_wp2_with fail
          go_region
          go_wp2_with fail
          go_ret2
          exact ⟨by rw [hN.out, nxt_hit (by omega) HM.out, hat_nat] <;> rfl, (Below.refl _ _).drew⟩
      · go_wp2_with fail
        go_ret2
        exact ⟨by rw [hN.out, nxt_end (by omega), hat_neg] <;> rfl, Below.refl _ _⟩
set_option maxHeartbeats 1000000 in
set_option maxRecDepth 20000 in
theorem rprev_any (g q : Nat) (H : Nat → Nat) (b : Int) (hb0 : -9223372036854775808 ≤ b) (hb : b ≤ 9223372036854775807) (w : World) (hA : Blk g (rd q H) 57 w) :
    Calls Tryd.prog 35 #[pn g, .int .i64 b] w fun e w' => e = .returned (.tuple #[.int .i64 (prev (nz H) b), .int .u32 (hat H (prev (nz H) b))]) ∧ Below w.heap.size w w' := by
  have hn0 : 255 ≤ b → prev (nz H) b = prv (nz H) ((255 : Int) + 1).toNat := fun h => by unfold prev; rw [show min b 255 = 255 by omega]
  have hn1 : b ≤ 255 → prev (nz H) b = prv (nz H) (b + 1).toNat := fun h => by unfold prev; rw [show min b 255 = b by omega]
  have HN0 := Lib.hid hn0; clear hn0
  have HN1 := Lib.hid hn1; clear hn1
  have HA := Lib.hid hA; clear hA
  go_enter Tryd.func35, Tryd.ntmps35
  go_wp2_with fail
  all_goals
    go_loopw [1] (fun i wr => ∃ n : Int, -9223372036854775808 ≤ n ∧ n ≤ 255 ∧ i = .int .i64 n ∧ Hid (prev (nz H) b = prv (nz H) (n + 1).toNat) ∧ wr = w) (fun i _ => (intOf i + 1).toNat)
    case atStart =>
      first
      | exact ⟨b, by omega, by omega, rfl, HN1.out (by omega), rfl⟩
      | exact ⟨255, by omega, by omega, rfl, HN0.out (by omega), rfl⟩
    case round =>
      obtain ⟨n, hn, hn', rfl, hN, rfl⟩ := hrel
      by_cases hlt2 : 0 ≤ n
      · obtain ⟨k, rfl⟩ := Int.eq_ofNat_of_zero_le hlt2
        rw [show ((k : Int) + 1).toNat = k + 1 by omega] at hN
        have hc := (HA.out.cell k).trans (rd_kid q H k (by omega))
        cases hM : nz H k
        · have h0 : ((H k : Int) != 0) = false := by simp [nz_false hM]
          have HM := Lib.hid hM; clear hM
          go_wp2_with fail
          go_roundw
          case rel => exact ⟨(k : Int) - 1, by omega, by omega, rfl, by rw [show ((k : Int) - 1 + 1).toNat = k by omega]; exact hN.out.trans (by rw [prv, if_neg (by rw [HM.out]; simp)]), (by first | rfl | trivial)⟩
          case measure => (try simp [intOf]); (try omega)
        · have h0 : ((H k : Int) != 0) = true := by have := nz_true hM; simp; omega
          have HM := Lib.hid hM; clear hM
          go_wp2_with fail
          go_region
          go_wp2_with fail
          go_ret2
          exact ⟨by rw [hN.out, prv, if_pos HM.out, hat_nat] <;> rfl, (Below.refl _ _).drew⟩
      · go_wp2_with fail
        go_ret2
        exact ⟨by rw [hN.out, show (n + 1).toNat = 0 by omega, prv, hat_neg] <;> rfl, Below.refl _ _⟩
end Go.Proofs.YtnemnchldjohgaaDoor
