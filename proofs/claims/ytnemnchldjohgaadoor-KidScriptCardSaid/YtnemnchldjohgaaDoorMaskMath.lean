/- Sets of bytes as four words: plain facts, no program. -/
import Derived.WalkKit
set_option linter.unusedVariables false
namespace Go.Proofs.YtnemnchldjohgaaDoor
/-- The number whose lowest k bits are M s, M (s + 1), .. -/
def bitsOf (M : Nat → Bool) (s : Nat) : Nat → Nat
  | 0 => 0
  | k + 1 => bitsOf M s k + if M (s + k) then 2 ^ k else 0
theorem bitsOf_lt (M : Nat → Bool) (s k : Nat) : bitsOf M s k < 2 ^ k := by
  induction k with
  | zero => simp [bitsOf]
  | succ k ih => simp only [bitsOf]; rw [Nat.pow_succ]; split <;> omega
theorem testBit_bitsOf (M : Nat → Bool) (s k j : Nat) : (bitsOf M s k).testBit j = (decide (j < k) && M (s + j)) := by
  induction k with
  | zero => simp [bitsOf]
  | succ k ih =>
    simp only [bitsOf]
    have hl := bitsOf_lt M s k
    by_cases hM : M (s + k) = true
    · rw [if_pos hM, Nat.add_comm]
      have e := Nat.testBit_two_pow_mul_add 1 hl j
      rw [Nat.mul_one] at e
      rw [e, ih]
      by_cases h1 : j < k
      · simp [h1, Nat.lt_succ_of_lt h1]
      · rw [if_neg h1]
        by_cases h2 : j = k
        · subst h2; simp [hM]
        · have : j - k ≠ 0 := by omega
          rw [show (1 : Nat) = 2 ^ 0 from rfl, Nat.testBit_two_pow]
          simp [show ¬ j < k + 1 by omega]
          omega
    · rw [if_neg hM, Nat.add_zero, ih]
      by_cases h2 : j = k
      · subst h2; simp [hM]
      · by_cases h1 : j < k
        · simp [h1, Nat.lt_succ_of_lt h1]
        · simp [h1, show ¬ j < k + 1 by omega]
/-- Word i of a set. -/
def wd (M : Nat → Bool) (i : Nat) : Nat := bitsOf M (64 * i) 64
theorem wd_lt (M : Nat → Bool) (i : Nat) : wd M i < 18446744073709551616 := bitsOf_lt M _ 64
theorem wd_bit (M : Nat → Bool) (i j : Nat) (h : j < 64) : (wd M i).testBit j = M (64 * i + j) := by
  unfold wd; rw [testBit_bitsOf]; simp [h]
theorem wd_bit_ge (M : Nat → Bool) (i j : Nat) (h : ¬ j < 64) : (wd M i).testBit j = false := by
  unfold wd; rw [testBit_bitsOf]; simp [h]
theorem wd_of (M : Nat → Bool) (i x : Nat) (hx : x < 18446744073709551616) (h : ∀ j, j < 64 → x.testBit j = M (64 * i + j)) : x = wd M i := by
  apply Nat.eq_of_testBit_eq
  intro j
  by_cases hj : j < 64
  · rw [wd_bit M i j hj, h j hj]
  · rw [wd_bit_ge M i j hj]
    exact Nat.testBit_lt_two_pow (Nat.lt_of_lt_of_le hx (Nat.pow_le_pow_right (by decide : 2 > 0) (by omega : 64 ≤ j)))
theorem wd_congr {M M' : Nat → Bool} {i : Nat} (h : ∀ j, j < 64 → M (64 * i + j) = M' (64 * i + j)) : wd M i = wd M' i :=
  wd_of M' i _ (wd_lt M i) fun j hj => by rw [wd_bit M i j hj, h j hj]
/-- The set of four words. -/
def ofW (a b c d : Nat) (x : Nat) : Bool := (if x < 64 then a else if x < 128 then b else if x < 192 then c else d).testBit (x % 64)
theorem wd_ofW (a b c d : Nat) (ha : a < 18446744073709551616) (hb : b < 18446744073709551616) (hc : c < 18446744073709551616) (hd : d < 18446744073709551616) :
    wd (ofW a b c d) 0 = a ∧ wd (ofW a b c d) 1 = b ∧ wd (ofW a b c d) 2 = c ∧ wd (ofW a b c d) 3 = d := by
  refine ⟨(wd_of _ 0 a ha fun j hj => ?_).symm, (wd_of _ 1 b hb fun j hj => ?_).symm, (wd_of _ 2 c hc fun j hj => ?_).symm, (wd_of _ 3 d hd fun j hj => ?_).symm⟩
  · unfold ofW; rw [if_pos (by omega)]; congr 1; omega
  · unfold ofW; rw [if_neg (by omega), if_pos (by omega)]; congr 1; omega
  · unfold ofW; rw [if_neg (by omega), if_neg (by omega), if_pos (by omega)]; congr 1; omega
  · unfold ofW; rw [if_neg (by omega), if_neg (by omega), if_neg (by omega)]; congr 1; omega
def ins (M : Nat → Bool) (b : Nat) : Nat → Bool := fun x => x == b || M x
def del (M : Nat → Bool) (b : Nat) : Nat → Bool := fun x => x != b && M x
/-- The cells of a mask. -/
def mk4 (M : Nat → Bool) : Array Value := #[.int .u64 (wd M 0 : Int), .int .u64 (wd M 1 : Int), .int .u64 (wd M 2 : Int), .int .u64 (wd M 3 : Int)]
theorem mk4_congr {M M' : Nat → Bool} (h : ∀ x, x < 256 → M x = M' x) : mk4 M = mk4 M' := by
  unfold mk4
  rw [wd_congr (i := 0) fun j hj => h _ (by omega), wd_congr (i := 1) fun j hj => h _ (by omega), wd_congr (i := 2) fun j hj => h _ (by omega), wd_congr (i := 3) fun j hj => h _ (by omega)]
theorem mk4_inj {M M' : Nat → Bool} (h : mk4 M = mk4 M') : ∀ x, x < 256 → M x = M' x := by
  have h0 : wd M 0 = wd M' 0 := Int.ofNat.inj (Value.int.inj (congrArg (fun a : Array Value => a.getD 0 undef) h : Value.int .u64 (wd M 0 : Int) = .int .u64 (wd M' 0 : Int))).2
  have h1 : wd M 1 = wd M' 1 := Int.ofNat.inj (Value.int.inj (congrArg (fun a : Array Value => a.getD 1 undef) h : Value.int .u64 (wd M 1 : Int) = .int .u64 (wd M' 1 : Int))).2
  have h2 : wd M 2 = wd M' 2 := Int.ofNat.inj (Value.int.inj (congrArg (fun a : Array Value => a.getD 2 undef) h : Value.int .u64 (wd M 2 : Int) = .int .u64 (wd M' 2 : Int))).2
  have h3 : wd M 3 = wd M' 3 := Int.ofNat.inj (Value.int.inj (congrArg (fun a : Array Value => a.getD 3 undef) h : Value.int .u64 (wd M 3 : Int) = .int .u64 (wd M' 3 : Int))).2
  intro x hx
  have e : x = 64 * (x / 64) + x % 64 := by omega
  have hj : x % 64 < 64 := by omega
  rw [e, ← wd_bit M _ _ hj, ← wd_bit M' _ _ hj]
  have : x / 64 = 0 ∨ x / 64 = 1 ∨ x / 64 = 2 ∨ x / 64 = 3 := by omega
  rcases this with e | e | e | e <;> rw [e]
  · rw [h0]
  · rw [h1]
  · rw [h2]
  · rw [h3]
theorem pow_toNat (n : Nat) : ((2 : Int) ^ n) = ((2 ^ n : Nat) : Int) := by simp
theorem shl_one (b : Int) (hb0 : 0 ≤ b) : IntKind.u64.wrap (2 ^ (b % 64).toNat) = ((2 ^ (b % 64).toNat : Nat) : Int) := by
  have h : (b % 64).toNat < 64 := by omega
  have : (2 : Nat) ^ (b % 64).toNat < 2 ^ 64 := Nat.pow_lt_pow_right (by decide : 1 < 2) h
  rw [IntKind.wrap_u64, pow_toNat]
  generalize 2 ^ (b % 64).toNat = p at this
  omega
theorem has_word (M : Nat → Bool) (b : Int) (hb0 : 0 ≤ b) (i : Nat) (hi : b / 64 = i) : (bits .and .u64 ((wd M i : Int) / 2 ^ (b % 64).toNat) 1 == 1) = M b.toNat := by
  have e : b.toNat = 64 * i + (b % 64).toNat := by omega
  have hl : wd M i / 2 ^ (b % 64).toNat < 18446744073709551616 := Nat.lt_of_le_of_lt (Nat.div_le_self _ _) (wd_lt M i)
  rw [pow_toNat, ← Int.natCast_ediv, show (1 : Int) = ((1 : Nat) : Int) from rfl, bits_and_u64_nat _ _ hl (by decide), e, ← wd_bit M i _ (by omega), Nat.testBit_eq_decide_div_mod_eq, Nat.and_one_is_mod]
  generalize wd M i / 2 ^ (b % 64).toNat = q
  rw [Bool.eq_iff_iff, beq_iff_eq, decide_eq_true_eq]
  omega
theorem or_word (M : Nat → Bool) (b : Int) (hb0 : 0 ≤ b) (i : Nat) (hi : b / 64 = i) : bits .or .u64 (wd M i : Int) (IntKind.u64.wrap (2 ^ (b % 64).toNat)) = (wd (ins M b.toNat) i : Int) := by
  have e : b.toNat = 64 * i + (b % 64).toNat := by omega
  have hj : (b % 64).toNat < 64 := by omega
  have hp : (2 : Nat) ^ (b % 64).toNat < 18446744073709551616 := Nat.pow_lt_pow_right (n := 64) (by decide : 1 < 2) hj
  rw [shl_one b hb0, bits_or_u64_nat _ _ (wd_lt M i) hp]
  congr 1
  refine wd_of _ i _ (Nat.or_lt_two_pow (n := 64) (wd_lt M i) hp) fun j hj => ?_
  rw [Nat.testBit_or, wd_bit M i j hj, Nat.testBit_two_pow, ins, Bool.or_comm]
  congr 1
  rw [Bool.eq_iff_iff]; simp; omega
theorem not_word (M : Nat → Bool) (b : Int) (hb0 : 0 ≤ b) (i : Nat) (hi : b / 64 = i) : bits .andNot .u64 (wd M i : Int) (IntKind.u64.wrap (2 ^ (b % 64).toNat)) = (wd (del M b.toNat) i : Int) := by
  have e : b.toNat = 64 * i + (b % 64).toNat := by omega
  have hj : (b % 64).toNat < 64 := by omega
  have hp : (2 : Nat) ^ (b % 64).toNat < 18446744073709551616 := Nat.pow_lt_pow_right (n := 64) (by decide : 1 < 2) hj
  rw [shl_one b hb0, u64_andNot_nat _ _ (wd_lt M i) hp]
  congr 1
  refine wd_of _ i _ (Nat.and_lt_two_pow (n := 64) _ (Nat.lt_of_le_of_lt (Nat.sub_le _ _) (by decide))) fun j hj => ?_
  rw [show 18446744073709551615 - 2 ^ (b % 64).toNat = 2 ^ 64 - (2 ^ (b % 64).toNat + 1) by omega, Nat.testBit_and, wd_bit M i j hj, Nat.testBit_two_pow_sub_succ (by exact hp), Nat.testBit_two_pow, del, Bool.and_comm]
  congr 1
  rw [Bool.eq_iff_iff]; simp [hj]; omega
theorem ins_other (M : Nat → Bool) (b : Int) (hb0 : 0 ≤ b) (i : Nat) (hi : b / 64 ≠ i) : wd (ins M b.toNat) i = wd M i := wd_congr fun j hj => by
  have : 64 * i + j ≠ b.toNat := by omega
  simp [ins, this]
theorem del_other (M : Nat → Bool) (b : Int) (hb0 : 0 ≤ b) (i : Nat) (hi : b / 64 ≠ i) : wd (del M b.toNat) i = wd M i := wd_congr fun j hj => by
  have : 64 * i + j ≠ b.toNat := by omega
  simp [del, this]
end Go.Proofs.YtnemnchldjohgaaDoor
