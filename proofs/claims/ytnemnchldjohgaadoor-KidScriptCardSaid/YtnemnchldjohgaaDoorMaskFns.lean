/- What the questions about a set of bytes come to: plain functions. -/
import Derived.Test.YtnemnchldjohgaaDoorMaskMath
set_option linter.unusedVariables false
namespace Go.Proofs.YtnemnchldjohgaaDoor
/-- The least of i, i + 1, .. (k of them) that is there; -1. -/
def nxt (M : Nat → Bool) : Nat → Nat → Int
  | 0, _ => -1
  | k + 1, i => if M i then i else nxt M k (i + 1)
def next (M : Nat → Bool) (b : Int) : Int := nxt M (256 - (max b 0).toNat) (max b 0).toNat
/-- The greatest below k that is there; -1. -/
def prv (M : Nat → Bool) : Nat → Int
  | 0 => -1
  | k + 1 => if M k then k else prv M k
def prev (M : Nat → Bool) (b : Int) : Int := prv M (min b 255 + 1).toNat
/-- How many below k are there. -/
def rnk (M : Nat → Bool) : Nat → Nat
  | 0 => 0
  | k + 1 => rnk M k + if M k then 1 else 0
def rank (M : Nat → Bool) (b : Int) : Nat := rnk M (min b 256).toNat
/-- Those below k that are there, rising. -/
def allTo (M : Nat → Bool) : Nat → List Int
  | 0 => []
  | k + 1 => allTo M k ++ if M k then [(k : Int)] else []
theorem nxt_hit {M : Nat → Bool} {k : Nat} (hk : k < 256) (h : M k = true) : nxt M (256 - k) k = k := by
  obtain ⟨m, hm⟩ : ∃ m, 256 - k = m + 1 := ⟨255 - k, by omega⟩
  rw [hm, nxt, if_pos h]
theorem nxt_miss {M : Nat → Bool} {k : Nat} (hk : k < 256) (h : M k = false) : nxt M (256 - k) k = nxt M (256 - (k + 1)) (k + 1) := by
  obtain ⟨m, hm⟩ : ∃ m, 256 - k = m + 1 := ⟨255 - k, by omega⟩
  rw [hm, nxt, if_neg (by simp [h]), show 256 - (k + 1) = m by omega]
theorem nxt_end {M : Nat → Bool} {k : Nat} (hk : 256 ≤ k) : nxt M (256 - k) k = -1 := by
  rw [show 256 - k = 0 by omega, nxt]
theorem nxt_range (M : Nat → Bool) (k i : Nat) : nxt M k i = -1 ∨ (i : Int) ≤ nxt M k i ∧ nxt M k i < i + k ∧ M (nxt M k i).toNat = true := by
  induction k generalizing i with
  | zero => exact .inl rfl
  | succ k ih =>
    rw [nxt]
    by_cases h : M i = true
    · rw [if_pos h]; exact .inr ⟨by omega, by omega, by simpa using h⟩
    · rw [if_neg h]
      rcases ih (i + 1) with e | ⟨e1, e2, e3⟩
      · exact .inl e
      · exact .inr ⟨by omega, by omega, e3⟩
theorem rnk_yes {M : Nat → Bool} {k : Nat} (h : M k = true) : rnk M (k + 1) = rnk M k + 1 := by rw [rnk, if_pos h]
theorem rnk_no {M : Nat → Bool} {k : Nat} (h : M k = false) : rnk M (k + 1) = rnk M k := by rw [rnk, if_neg (by simp [h])]; rfl
theorem rnk_le (M : Nat → Bool) (k : Nat) : rnk M k ≤ k := by
  induction k with
  | zero => simp [rnk]
  | succ k ih => rw [rnk]; split <;> omega
theorem allTo_length (M : Nat → Bool) (k : Nat) : (allTo M k).length = rnk M k := by
  induction k with
  | zero => rfl
  | succ k ih => rw [allTo, rnk, List.length_append, ih]; split <;> simp
/-- What the walk over All needs: from k on the next one, and what has been collected till then. -/
theorem allTo_skip {M : Nat → Bool} (k d : Nat) (h : ∀ j, k ≤ j → j < k + d → M j = false) : allTo M (k + d) = allTo M k := by
  induction d with
  | zero => rfl
  | succ d ih => rw [← Nat.add_assoc, allTo, ih fun j h1 h2 => h j h1 (by omega), h (k + d) (by omega) (by omega)]; simp
theorem nxt_none {M : Nat → Bool} (k i : Nat) (h : nxt M k i = -1) : ∀ j, i ≤ j → j < i + k → M j = false := by
  induction k generalizing i with
  | zero => intro j h1 h2; omega
  | succ k ih =>
    rw [nxt] at h
    by_cases hM : M i = true
    · rw [if_pos hM] at h; omega
    · rw [if_neg hM] at h
      intro j h1 h2
      by_cases e : j = i
      · subst e; simpa using hM
      · exact ih (i + 1) h j (by omega) (by omega)
theorem nxt_some {M : Nat → Bool} (k i n : Nat) (h : nxt M k i = n) : i ≤ n ∧ n < i + k ∧ M n = true ∧ ∀ j, i ≤ j → j < n → M j = false := by
  induction k generalizing i with
  | zero => simp only [nxt] at h; omega
  | succ k ih =>
    rw [nxt] at h
    by_cases hM : M i = true
    · rw [if_pos hM] at h
      have e : i = n := by omega
      subst e
      exact ⟨by omega, by omega, hM, fun j h1 h2 => by omega⟩
    · rw [if_neg hM] at h
      obtain ⟨h1, h2, h3, h4⟩ := ih (i + 1) h
      refine ⟨by omega, by omega, h3, fun j g1 g2 => ?_⟩
      by_cases e : j = i
      · subst e; simpa using hM
      · exact h4 j (by omega) g2
/-- From k on: the next one, and what has been collected till there. -/
def Coll (M : Nat → Bool) (n : Int) (xs : List Int) : Prop := (n = -1 ∧ xs = allTo M 256) ∨ ∃ k : Nat, n = k ∧ k < 256 ∧ M k = true ∧ xs = allTo M k
theorem coll_from {M : Nat → Bool} (k : Nat) (hk : k ≤ 256) : Coll M (next M k) (allTo M k) := by
  unfold next
  rw [show max (k : Int) 0 = k by omega, Int.toNat_natCast]
  rcases nxt_range M (256 - k) k with e | ⟨e1, e2, e3⟩
  · refine .inl ⟨e, ?_⟩
    have := allTo_skip (M := M) k (256 - k) (nxt_none _ _ e)
    rw [show k + (256 - k) = 256 by omega] at this
    exact this.symm
  · obtain ⟨n, hn⟩ : ∃ n : Nat, nxt M (256 - k) k = n := ⟨(nxt M (256 - k) k).toNat, by omega⟩
    obtain ⟨h1, h2, h3, h4⟩ := nxt_some _ _ _ hn
    refine .inr ⟨n, hn, by omega, h3, ?_⟩
    have := allTo_skip (M := M) k (n - k) (fun j g1 g2 => h4 j g1 (by omega))
    rw [show k + (n - k) = n by omega] at this
    exact this.symm
theorem coll_next {M : Nat → Bool} {k : Nat} (hk : k < 256) (h : M k = true) : Coll M (next M ((k : Int) + 1)) (allTo M k ++ [(k : Int)]) := by
  have := coll_from (M := M) (k + 1) (by omega)
  rwa [allTo, if_pos h, show ((k + 1 : Nat) : Int) = (k : Int) + 1 by omega] at this
theorem coll_zero (M : Nat → Bool) : Coll M (next M 0) [] := coll_from (M := M) 0 (by omega)
theorem allTo_le (M : Nat → Bool) (k : Nat) : (allTo M k).length ≤ k := by rw [allTo_length]; exact rnk_le M k
theorem next_bd (M : Nat → Bool) (b : Int) : -1 ≤ next M b ∧ next M b ≤ 255 := by
  unfold next
  rcases nxt_range M (256 - (max b 0).toNat) (max b 0).toNat with e | ⟨e1, e2, _⟩ <;> omega
theorem prv_cases (M : Nat → Bool) (k : Nat) : (prv M k = -1 ∧ allTo M k = []) ∨ ∃ j : Nat, prv M k = j ∧ j < k ∧ M j = true ∧ allTo M k = allTo M (j + 1) := by
  induction k with
  | zero => exact .inl ⟨rfl, rfl⟩
  | succ k ih =>
    rw [prv]
    by_cases h : M k = true
    · rw [if_pos h]; exact .inr ⟨k, rfl, by omega, h, rfl⟩
    · rw [if_neg h, show allTo M (k + 1) = allTo M k by rw [allTo, if_neg h, List.append_nil]]
      rcases ih with h1 | ⟨j, h1, h2, h3, h4⟩
      · exact .inl h1
      · exact .inr ⟨j, h1, by omega, h3, h4⟩
/-- From above down to n: what has been collected. -/
def CollD (M : Nat → Bool) (n : Int) (ys : List Int) : Prop := (n = -1 ∧ ys = allTo M 256) ∨ ∃ k : Nat, n = k ∧ k < 256 ∧ M k = true ∧ allTo M 256 = allTo M (k + 1) ++ ys
theorem collD_from {M : Nat → Bool} (k : Nat) (hk : k ≤ 256) (ys : List Int) (h : allTo M 256 = allTo M k ++ ys) : CollD M (prv M k) ys := by
  rcases prv_cases M k with ⟨e, h1⟩ | ⟨j, e, h1, h2, h3⟩
  · exact .inl ⟨e, by rw [h, h1]; rfl⟩
  · exact .inr ⟨j, e, by omega, h2, by rw [h, h3]⟩
theorem collD_zero (M : Nat → Bool) : CollD M (prev M 300) [] := by
  have := collD_from (M := M) 256 (by omega) [] (by simp)
  exact this
theorem collD_next {M : Nat → Bool} {k : Nat} (hk : k < 256) {ys : List Int} (hM : M k = true) (h : allTo M 256 = allTo M (k + 1) ++ ys) : CollD M (prev M ((k : Int) - 1)) ((k : Int) :: ys) := by
  have := collD_from (M := M) k (by omega) ((k : Int) :: ys) (by rw [h, allTo, if_pos hM, List.append_assoc]; rfl)
  unfold prev
  rwa [show min ((k : Int) - 1) 255 + 1 = k by omega, Int.toNat_natCast]
theorem prv_bd (M : Nat → Bool) (k : Nat) : -1 ≤ prv M k ∧ prv M k < k := by
  rcases prv_cases M k with ⟨e, _⟩ | ⟨j, e, h, _⟩ <;> omega
theorem prev_bd (M : Nat → Bool) (b : Int) : -1 ≤ prev M b ∧ prev M b ≤ 255 := by
  have := prv_bd M (min b 255 + 1).toNat
  unfold prev; omega
theorem collD_len {M : Nat → Bool} {k : Nat} {ys : List Int} (h : allTo M 256 = allTo M (k + 1) ++ ys) : ys.length ≤ 256 := by
  have := congrArg List.length h
  rw [List.length_append] at this
  have := allTo_le M 256
  omega
end Go.Proofs.YtnemnchldjohgaaDoor
