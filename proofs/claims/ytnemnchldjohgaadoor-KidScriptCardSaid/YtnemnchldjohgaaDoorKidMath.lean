/- Children that come one by one, and go: the plain law. -/
import Derived.Test.YtnemnchldjohgaaDoorKidC
set_option linter.unusedVariables false
namespace Go.Proofs.YtnemnchldjohgaaDoor
open Go.RowKit
/-- The byte of number i. -/
def bt (m from_ : Int) (i : Nat) : Nat := ((from_ + (i : Int) * m) % 256).toNat
theorem bt_le (m from_ : Int) (i : Nat) : bt m from_ i ≤ 255 := by unfold bt; omega
theorem bt_int (m from_ : Int) (i : Nat) : (bt m from_ i : Int) = (from_ + (i : Int) * m) % 256 := by unfold bt; omega
theorem bt_wrap (m from_ : Int) (i : Nat) : IntKind.u8.wrap (IntKind.i64.wrap (from_ + (i : Int) * m)) = (bt m from_ i : Int) := by
  rw [bt_int, IntKind.wrap_i64, IntKind.wrap_u8]
  omega
theorem bt_wrap64 (m from_ : Int) (i : Nat) : wrap64 (from_ + (i : Int) * m) % 256 = (bt m from_ i : Int) := by
  rw [bt_int]
  unfold wrap64
  omega
theorem bt_inj7 {from_ : Int} {i j : Nat} (hi : i < 256) (hj : j < 256) (h : bt 7 from_ i = bt 7 from_ j) : i = j := by
  have h' : (bt 7 from_ i : Int) = bt 7 from_ j := by rw [h]
  rw [bt_int, bt_int] at h'
  omega
theorem bt_inj13 {from_ : Int} {i j : Nat} (hi : i < 256) (hj : j < 256) (h : bt 13 from_ i = bt 13 from_ j) : i = j := by
  have h' : (bt 13 from_ i : Int) = bt 13 from_ j := by rw [h]
  rw [bt_int, bt_int] at h'
  omega
/-- Bytes that are all apart. -/
def Apart (f : Nat → Nat) : Prop := (∀ i, f i ≤ 255) ∧ ∀ i j, i < 256 → j < 256 → f i = f j → i = j
theorem apart7 (from_ : Int) : Apart (bt 7 from_) := ⟨bt_le 7 from_, fun i j hi hj h => bt_inj7 hi hj h⟩
theorem apart13 (from_ : Int) : Apart (bt 13 from_) := ⟨bt_le 13 from_, fun i j hi hj h => bt_inj13 hi hj h⟩
/-- The first i are there, number j with handle j + 1. -/
def Hn (f : Nat → Nat) : Nat → Nat → Nat
  | 0 => fun _ => 0
  | i + 1 => upd (Hn f i) (f i) (i + 1)
theorem Hn_at {f : Nat → Nat} (hf : Apart f) (i : Nat) (hi : i ≤ 256) (j : Nat) (hj : j < 256) : Hn f i (f j) = if j < i then j + 1 else 0 := by
  induction i with
  | zero => rfl
  | succ i ih =>
    show upd (Hn f i) (f i) (i + 1) (f j) = _
    unfold upd
    by_cases e : f j = f i
    · obtain rfl := hf.2 j i hj (by omega) e
      simp
    · rw [if_neg e, ih (by omega)]
      have : j ≠ i := fun h => e (by rw [h])
      by_cases h : j < i
      · rw [if_pos h, if_pos (by omega)]
      · rw [if_neg h, if_neg (by omega)]
theorem Hn_succ (f : Nat → Nat) (i : Nat) : upd (Hn f i) (f i) (i + 1) = Hn f (i + 1) := rfl
theorem Hn_cnt {f : Nat → Nat} (hf : Apart f) (i : Nat) (hi : i ≤ 256) : cnt (Hn f i) = i := by
  induction i with
  | zero => exact cnt_zero
  | succ i ih =>
    show cnt (upd (Hn f i) (f i) (i + 1)) = i + 1
    rw [cnt_new _ _ _ (hf.1 i) (by omega) (by rw [Hn_at hf i (by omega) i (by omega)]; simp), ih (by omega)]
/-- .. and of n the first i went. -/
def Dn (f : Nat → Nat) (n : Nat) : Nat → Nat → Nat
  | 0 => Hn f n
  | i + 1 => upd (Dn f n i) (f i) 0
theorem Dn_at {f : Nat → Nat} (hf : Apart f) (n : Nat) (hn : n ≤ 256) (i : Nat) (hi : i ≤ n) (j : Nat) (hj : j < n) : Dn f n i (f j) = if j < i then 0 else j + 1 := by
  induction i with
  | zero =>
    show Hn f n (f j) = _
    rw [Hn_at hf n hn j (by omega), if_pos hj]
    simp
  | succ i ih =>
    show upd (Dn f n i) (f i) 0 (f j) = _
    unfold upd
    by_cases e : f j = f i
    · obtain rfl := hf.2 j i (by omega) (by omega) e
      simp
    · rw [if_neg e, ih (by omega)]
      have : j ≠ i := fun h => e (by rw [h])
      by_cases h : j < i
      · rw [if_pos h, if_pos (by omega)]
      · rw [if_neg h, if_neg (by omega)]
theorem Dn_succ (f : Nat → Nat) (n i : Nat) : upd (Dn f n i) (f i) 0 = Dn f n (i + 1) := rfl
theorem Dn_cnt {f : Nat → Nat} (hf : Apart f) (n : Nat) (hn : n ≤ 256) (i : Nat) (hi : i ≤ n) : cnt (Dn f n i) + i = n := by
  induction i with
  | zero => exact (Nat.add_zero _).trans (Hn_cnt hf n hn)
  | succ i ih =>
    have h := cnt_drop (Dn f n i) (f i) (hf.1 i) (by rw [Dn_at hf n hn i (by omega) i (by omega)]; simp)
    show cnt (upd (Dn f n i) (f i) 0) + (i + 1) = n
    have := ih (by omega)
    omega
theorem bq_up {k : Nat} (h : k = 4 ∨ k = 16 ∨ k = 48) : bq (k + 1) = bq k + 1 := by
  rcases h with rfl | rfl | rfl <;> decide
theorem bq_same {k : Nat} (h : k ≠ 4 ∧ k ≠ 16 ∧ k ≠ 48) : bq (k + 1) = bq k := by
  unfold bq
  by_cases h1 : k < 4
  · simp [show k < 5 by omega, show k + 1 < 5 by omega]
  · have e1 : ¬ k < 5 := by omega
    have e2 : ¬ k + 1 < 5 := by omega
    by_cases h2 : k < 16
    · simp [e1, e2, show k < 17 by omega, show k + 1 < 17 by omega]
    · have e3 : ¬ k < 17 := by omega
      have e4 : ¬ k + 1 < 17 := by omega
      by_cases h3 : k < 48
      · simp [e1, e2, e3, e4, show k < 49 by omega, show k + 1 < 49 by omega]
      · simp [e1, e2, e3, e4, show ¬ k < 49 by omega, show ¬ k + 1 < 49 by omega]
/-- The kind lies in its band. -/
def Band (q c : Nat) : Prop := q < 4 ∧ (q = 3 → 41 ≤ c) ∧ (q = 2 → 13 ≤ c) ∧ (q = 1 → 4 ≤ c)
theorem band_bq (n : Nat) : Band (bq n) n := by
  refine ⟨bq_lt n, ?_⟩
  unfold bq
  split
  · omega
  · split
    · omega
    · split <;> omega
/-- What a drop makes of the kind, as the law tells it. -/
theorem kdrop_band {q c : Nat} (h : Band q (c + 1)) : kdrop q c = (if q = 3 ∧ c = 40 ∨ q = 2 ∧ c = 12 ∨ q = 1 ∧ c = 3 then q - 1 else q) ∧ Band (kdrop q c) c := by
  obtain ⟨h0, h1, h2, h3⟩ := h
  have : q = 0 ∨ q = 1 ∨ q = 2 ∨ q = 3 := by omega
  unfold kdrop left Band
  rcases this with rfl | rfl | rfl | rfl
  · simp <;> omega
  · by_cases e : c = 3
    · subst e; simp
    · simp [e, show ¬ (c : Int) ≤ 3 by omega] <;> omega
  · by_cases e : c = 12
    · subst e; simp
    · simp [e, show ¬ (c : Int) ≤ 12 by omega] <;> omega
  · by_cases e : c = 40
    · subst e; simp
    · simp [e, show ¬ (c : Int) ≤ 40 by omega] <;> omega
theorem Dn_zero (f : Nat → Nat) (n : Nat) : Hn f n = Dn f n 0 := rfl
theorem Dn_hit {f : Nat → Nat} (hf : Apart f) (n : Nat) (hn : n ≤ 256) (k c : Nat) (h : n = k + c + 1) (q : Nat) :
    Dn f n k (f k) = k + 1 ∧ nz (Dn f n k) (f k) = true ∧ kdr (Dn f n k) q (f k) = kdrop q c ∧ cnt (Dn f n (k + 1)) = c := by
  have h1 : Dn f n k (f k) = k + 1 := by rw [Dn_at hf n hn k (by omega) k (by omega)]; simp
  have h2 : cnt (Dn f n (k + 1)) = c := by have := Dn_cnt hf n hn (k + 1) (by omega); omega
  refine ⟨h1, by unfold nz; rw [h1]; simp, ?_, h2⟩
  unfold kdr
  rw [if_neg (by rw [h1]; omega), Dn_succ, h2]
end Go.Proofs.YtnemnchldjohgaaDoor
