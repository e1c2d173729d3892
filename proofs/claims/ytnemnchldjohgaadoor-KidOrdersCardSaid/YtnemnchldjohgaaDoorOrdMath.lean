/- Children that come in another order: the plain law. -/
import Derived.Test.YtnemnchldjohgaaDoorKidMath
set_option linter.unusedVariables false
namespace Go.Proofs.YtnemnchldjohgaaDoor
open Go.RowKit
/-- Byte fs i with handle hs i, one after the other. -/
def Pn (fs hs : Nat → Nat) : Nat → Nat → Nat
  | 0 => fun _ => 0
  | i + 1 => upd (Pn fs hs i) (fs i) (hs i)
theorem Pn_succ (fs hs : Nat → Nat) (i : Nat) : upd (Pn fs hs i) (fs i) (hs i) = Pn fs hs (i + 1) := rfl
/-- All apart below n. -/
def ApartN (n : Nat) (f : Nat → Nat) : Prop := (∀ i, f i ≤ 255) ∧ ∀ i j, i < n → j < n → f i = f j → i = j
theorem Pn_at {n : Nat} {fs hs : Nat → Nat} (hf : ApartN n fs) (m : Nat) (hm : m ≤ n) (j : Nat) (hj : j < n) : Pn fs hs m (fs j) = if j < m then hs j else 0 := by
  induction m with
  | zero => rfl
  | succ m ih =>
    show upd (Pn fs hs m) (fs m) (hs m) (fs j) = _
    unfold upd
    by_cases e : fs j = fs m
    · obtain rfl := hf.2 j m hj (by omega) e
      simp
    · rw [if_neg e, ih (by omega)]
      have : j ≠ m := fun h => e (by rw [h])
      by_cases h : j < m
      · rw [if_pos h, if_pos (by omega)]
      · rw [if_neg h, if_neg (by omega)]
theorem Pn_out {fs hs : Nat → Nat} (m x : Nat) (h : ∀ i, i < m → fs i ≠ x) : Pn fs hs m x = 0 := by
  induction m with
  | zero => rfl
  | succ m ih =>
    show upd (Pn fs hs m) (fs m) (hs m) x = 0
    unfold upd
    rw [if_neg (fun e => h m (by omega) e.symm)]
    exact ih fun i hi => h i (by omega)
theorem Pn_cnt {n : Nat} {fs hs : Nat → Nat} (hf : ApartN n fs) (hh : ∀ i, 0 < hs i) (m : Nat) (hm : m ≤ n) : cnt (Pn fs hs m) = m := by
  induction m with
  | zero => exact cnt_zero
  | succ m ih =>
    show cnt (upd (Pn fs hs m) (fs m) (hs m)) = m + 1
    rw [cnt_new _ _ _ (hf.1 m) (hh m) (by rw [Pn_at hf m (by omega) m (by omega)]; simp), ih (by omega)]
/-- Turned by t. -/
def rot (n t i : Nat) : Nat := (i + t) % n
theorem rot_lt {n : Nat} (t i : Nat) (hn : 0 < n) : rot n t i < n := Nat.mod_lt _ hn
theorem rot_eq {n t i : Nat} (hi : i < n) : rot n t i = if i + t % n < n then i + t % n else i + t % n - n := by
  have hn : 0 < n := by omega
  have ht := Nat.mod_lt t hn
  unfold rot
  rw [Nat.add_mod, Nat.mod_eq_of_lt hi]
  by_cases h : i + t % n < n
  · rw [if_pos h, Nat.mod_eq_of_lt h]
  · rw [if_neg h, Nat.mod_eq_sub_mod (by omega), Nat.mod_eq_of_lt (by omega)]
theorem rot_inj {n t i j : Nat} (hi : i < n) (hj : j < n) (h : rot n t i = rot n t j) : i = j := by
  have ht := Nat.mod_lt t (show 0 < n by omega)
  rw [rot_eq hi, rot_eq hj] at h
  split at h <;> split at h <;> omega
theorem rot_sur {n t j : Nat} (hj : j < n) : ∃ i, i < n ∧ rot n t i = j := by
  have ht := Nat.mod_lt t (show 0 < n by omega)
  by_cases h : t % n ≤ j
  · refine ⟨j - t % n, by omega, ?_⟩
    rw [rot_eq (by omega), if_pos (by omega)]
    omega
  · refine ⟨j + n - t % n, by omega, ?_⟩
    rw [rot_eq (by omega), if_neg (by omega)]
    omega
/-- The turned order. -/
def fr (f : Nat → Nat) (n t : Nat) : Nat → Nat := fun i => f (rot n t i)
def hr (n t : Nat) : Nat → Nat := fun i => rot n t i + 1
theorem apart_fr {f : Nat → Nat} (hf : Apart f) {n : Nat} (hn : n ≤ 256) (t : Nat) : ApartN n (fr f n t) :=
  ⟨fun i => hf.1 _, fun i j hi hj h => by
    have h1 := rot_lt (n := n) t i (by omega)
    have h2 := rot_lt (n := n) t j (by omega)
    exact rot_inj hi hj (hf.2 _ _ (by omega) (by omega) h)⟩
theorem turned {f : Nat → Nat} (hf : Apart f) {n : Nat} (hn : n ≤ 256) (t : Nat) : Pn (fr f n t) (hr n t) n = Hn f n := by
  funext x
  by_cases h : ∃ j, j < n ∧ f j = x
  · obtain ⟨j, hj, rfl⟩ := h
    obtain ⟨i, hi, hij⟩ := rot_sur (t := t) hj
    have h1 := Pn_at (hs := hr n t) (apart_fr hf hn t) n (Nat.le_refl _) i hi
    rw [if_pos hi] at h1
    rw [Hn_at hf n hn j (by omega), if_pos hj, ← hij]
    exact h1
  · have h0 : Pn (fr f n t) (hr n t) n x = 0 := Pn_out n x fun i hi e => h ⟨rot n t i, rot_lt t i (by omega), e⟩
    rw [h0]
    have h2 : ∀ m, m ≤ n → Hn f m x = 0 := fun m => by
      induction m with
      | zero => intro _; rfl
      | succ m ih =>
        intro hm
        show upd (Hn f m) (f m) (m + 1) x = 0
        unfold upd
        rw [if_neg fun e => h ⟨m, by omega, e.symm⟩]
        exact ih (by omega)
    exact (h2 n (Nat.le_refl _)).symm
/-- .. put again with other handles. -/
def En (f : Nat → Nat) (n : Nat) : Nat → Nat → Nat
  | 0 => Hn f n
  | i + 1 => upd (En f n i) (f i) (1000 + i)
theorem En_succ (f : Nat → Nat) (n i : Nat) : upd (En f n i) (f i) (1000 + i) = En f n (i + 1) := rfl
theorem En_at {f : Nat → Nat} (hf : Apart f) (n : Nat) (hn : n ≤ 256) (i : Nat) (hi : i ≤ n) (j : Nat) (hj : j < n) : En f n i (f j) = if j < i then 1000 + j else j + 1 := by
  induction i with
  | zero =>
    show Hn f n (f j) = _
    rw [Hn_at hf n hn j (by omega), if_pos hj]
    simp
  | succ i ih =>
    show upd (En f n i) (f i) (1000 + i) (f j) = _
    unfold upd
    by_cases e : f j = f i
    · obtain rfl := hf.2 j i (by omega) (by omega) e
      simp
    · rw [if_neg e, ih (by omega)]
      have : j ≠ i := fun h => e (by rw [h])
      by_cases h : j < i
      · rw [if_pos h, if_pos (by omega)]
      · rw [if_neg h, if_neg (by omega)]
theorem En_cnt {f : Nat → Nat} (hf : Apart f) (n : Nat) (hn : n ≤ 256) (i : Nat) (hi : i ≤ n) : cnt (En f n i) = n := by
  induction i with
  | zero => exact Hn_cnt hf n hn
  | succ i ih =>
    show cnt (upd (En f n i) (f i) (1000 + i)) = n
    rw [cnt_old _ _ _ (by omega) (by rw [En_at hf n hn i (by omega) i (by omega)]; simp), ih (by omega)]
theorem Pn_rot (f : Nat → Nat) (n t k : Nat) : upd (Pn (fr f n t) (hr n t) k) (f (rot n t k)) (rot n t k + 1) = Pn (fr f n t) (hr n t) (k + 1) := rfl
theorem Pn_rot_cnt {f : Nat → Nat} (hf : Apart f) {n : Nat} (hn : n ≤ 256) (t k : Nat) (hk : k ≤ n) : cnt (Pn (fr f n t) (hr n t) k) = k := Pn_cnt (apart_fr hf hn t) (fun i => by unfold hr; omega) k hk
theorem En_zero (f : Nat → Nat) (n : Nat) : Hn f n = En f n 0 := rfl
theorem tmod_rot (k t n : Nat) : Int.tmod ((k : Int) + (t : Int)) (n : Int) = ((rot n t k : Nat) : Int) := by
  unfold rot
  rw [show ((k : Int) + (t : Int)) = ((k + t : Nat) : Int) by omega, Int.tmod_eq_emod_of_nonneg (by omega)]
  omega
end Go.Proofs.YtnemnchldjohgaaDoor
