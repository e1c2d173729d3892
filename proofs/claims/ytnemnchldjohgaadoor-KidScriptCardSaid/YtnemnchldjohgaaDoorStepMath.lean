/- From child to child: the plain law. -/
import Derived.Test.YtnemnchldjohgaaDoorKidMath
set_option linter.unusedVariables false
namespace Go.Proofs.YtnemnchldjohgaaDoor
open Go.RowKit
theorem kput_lt {q n : Nat} (hq : q < 4) (hn : n ≤ 256) : kput q n < 4 := by
  by_cases h : q = 3
  · subst h
    have hr : room 3 = 256 := by decide
    unfold kput
    rw [hr, if_neg (by omega)]
    omega
  · unfold kput
    split <;> omega
theorem kdr_lt {H : Nat → Nat} {q b : Nat} (hq : q < 4) : kdr H q b < 4 := by
  unfold kdr kdrop
  split
  · omega
  · split <;> omega
/-- The handles alone, as an array. -/
def hs (H : Nat → Nat) : Array Value := (ks H).toArray
theorem hs_size (H : Nat → Nat) : (hs H).size = 256 := by simp [hs, ks_length]
theorem hs_get (H : Nat → Nat) (x : Nat) (h : x < 256) : (hs H)[x]? = some (.int .u32 (H x : Int)) := by simp [hs, ks_get H x h]
theorem hs_set (H : Nat → Nat) (b h : Nat) : (hs H).setIfInBounds b (.int .u32 (h : Int)) = hs (upd H b h) := by
  simp only [hs, List.setIfInBounds_toArray, ks_set]
theorem rnk_same {M : Nat → Bool} {s n : Nat} (hn : s ≤ n) (h : ∀ j, s ≤ j → j < n → M j = false) : rnk M n = rnk M s := by
  obtain ⟨d, rfl⟩ := Nat.exists_eq_add_of_le hn
  clear hn
  induction d with
  | zero => rfl
  | succ d ih =>
    rw [← Nat.add_assoc, rnk_no (h (s + d) (by omega) (by omega))]
    exact ih fun j h1 h2 => h j h1 (by omega)
theorem rnk_mono (M : Nat → Bool) {s n : Nat} (hn : s ≤ n) : rnk M s ≤ rnk M n := by
  obtain ⟨d, rfl⟩ := Nat.exists_eq_add_of_le hn
  clear hn
  induction d with
  | zero => exact Nat.le_refl _
  | succ d ih =>
    rw [← Nat.add_assoc]
    cases h : M (s + d)
    · rw [rnk_no h]; exact ih
    · rw [rnk_yes h]; omega
/-- Where one stands: at number s, so many met. -/
theorem next_cases (M : Nat → Bool) (s : Nat) (hs : s ≤ 256) : (next M (s : Int) = -1 ∧ rnk M 256 = rnk M s) ∨ ∃ n : Nat, next M (s : Int) = n ∧ s ≤ n ∧ n < 256 ∧ M n = true ∧ rnk M (n + 1) = rnk M s + 1 := by
  have e : next M (s : Int) = nxt M (256 - s) s := by unfold next; rw [show max (s : Int) 0 = s by omega, Int.toNat_natCast]
  rw [e]
  rcases nxt_range M (256 - s) s with h | ⟨h1, h2, h3⟩
  · exact .inl ⟨h, rnk_same hs fun j a b => nxt_none (256 - s) s h j a (by omega)⟩
  · obtain ⟨n, hn⟩ := Int.eq_ofNat_of_zero_le (show 0 ≤ nxt M (256 - s) s by omega)
    obtain ⟨a, b, c, d⟩ := nxt_some (256 - s) s n hn
    exact .inr ⟨n, hn, a, by omega, c, by rw [rnk_yes c, rnk_same a d]⟩
/-- The last one is the one before the end. -/
theorem prev_last (M : Nat → Bool) : (rnk M 256 = 0 → prev M 255 = -1) ∧ ∀ l, l < 256 → M l = true → rnk M 256 = rnk M (l + 1) → prev M 255 = l := by
  have e : prev M 255 = prv M 256 := by unfold prev; rfl
  rw [e]
  rcases prv_cases M 256 with ⟨h1, h2⟩ | ⟨j, h1, h2, h3, h4⟩
  · have h0 : rnk M 256 = 0 := by rw [← allTo_length, h2]; rfl
    refine ⟨fun _ => h1, fun l hl hM hr => ?_⟩
    have := rnk_yes hM
    omega
  · have h0 : rnk M 256 = rnk M (j + 1) := by rw [← allTo_length, h4, allTo_length]
    have hy := rnk_yes h3
    refine ⟨fun h => by omega, fun l hl hM hr => ?_⟩
    have hz := rnk_yes hM
    rw [h1]
    by_cases a : j < l
    · have := rnk_mono M (show j + 1 ≤ l by omega); omega
    · by_cases b : l < j
      · have := rnk_mono M (show l + 1 ≤ j by omega); omega
      · have : j = l := by omega
        rw [this]
theorem hat_neg (H : Nat → Nat) : hat H (-1) = 0 := by unfold hat; rw [if_pos (by omega)]
theorem hat_nat (H : Nat → Nat) (n : Nat) : hat H (n : Int) = (H n : Int) := by unfold hat; rw [if_neg (by omega), Int.toNat_natCast]
theorem nz_false {H : Nat → Nat} {x : Nat} (h : nz H x = false) : H x = 0 := by simpa [nz] using h
theorem nz_true {H : Nat → Nat} {x : Nat} (h : nz H x = true) : 0 < H x := by
  have : H x ≠ 0 := by simpa [nz] using h
  omega
theorem rnk_zero (M : Nat → Bool) : rnk M 0 = 0 := rfl
theorem cnt_eq (H : Nat → Nat) : cnt H = rnk (nz H) 256 := rfl
end Go.Proofs.YtnemnchldjohgaaDoor
