/- How many bits a number has: the steps of OnesCount64, as plain arithmetic. -/
import Derived.Test.YtnemnchldjohgaaDoorMaskFns
set_option linter.unusedVariables false
namespace Go.Proofs.YtnemnchldjohgaaDoor
/-- How many of the lowest n bits are one. -/
def pop : Nat → Nat → Nat
  | 0, _ => 0
  | n + 1, x => pop n x + (x.testBit n).toNat
theorem pop_wd (M : Nat → Bool) (i n : Nat) (hn : n ≤ 64) : rnk M (64 * i + n) = rnk M (64 * i) + pop n (wd M i) := by
  induction n with
  | zero => rfl
  | succ n ih =>
    rw [← Nat.add_assoc, rnk, ih (by omega), pop, wd_bit M i n (by omega)]
    cases M (64 * i + n) <;> simp [Nat.add_assoc]
theorem pop_split (m n x : Nat) : pop (m + n) x = pop m (x % 2 ^ m) + pop n (x / 2 ^ m) := by
  induction n with
  | zero =>
    rw [Nat.add_zero, pop, Nat.add_zero]
    have : ∀ k, k ≤ m → pop k x = pop k (x % 2 ^ m) := by
      intro k hk
      induction k with
      | zero => rfl
      | succ k ih => rw [pop, pop, ih (by omega), Nat.testBit_mod_two_pow]; simp [show k < m by omega]
    exact this m (Nat.le_refl _)
  | succ n ih => rw [← Nat.add_assoc, pop, pop, ih, Nat.testBit_div_two_pow, Nat.add_assoc, Nat.add_comm n m]
theorem and_split (k a c b d : Nat) (ha : a < 2 ^ k) (hc : c < 2 ^ k) : (2 ^ k * b + a) &&& (2 ^ k * d + c) = 2 ^ k * (b &&& d) + (a &&& c) := by
  apply Nat.eq_of_testBit_eq
  intro j
  have hx : a &&& c < 2 ^ k := Nat.and_lt_two_pow _ hc
  rw [Nat.testBit_and, Nat.testBit_two_pow_mul_add b ha, Nat.testBit_two_pow_mul_add d hc, Nat.testBit_two_pow_mul_add _ hx]
  by_cases h : j < k
  · simp [h]
  · simp [h]
/-- Eight bytes. -/
def by8 (a0 a1 a2 a3 a4 a5 a6 a7 : Nat) : Nat := 256 * (256 * (256 * (256 * (256 * (256 * (256 * a7 + a6) + a5) + a4) + a3) + a2) + a1) + a0
theorem by8_of (x : Nat) (hx : x < 18446744073709551616) : x = by8 (x % 256) (x / 256 % 256) (x / 65536 % 256) (x / 16777216 % 256) (x / 4294967296 % 256) (x / 1099511627776 % 256) (x / 281474976710656 % 256) (x / 72057594037927936) := by
  unfold by8; omega
theorem and8 (c a0 a1 a2 a3 a4 a5 a6 a7 : Nat) (hc : c < 256) (h0 : a0 < 256) (h1 : a1 < 256) (h2 : a2 < 256) (h3 : a3 < 256) (h4 : a4 < 256) (h5 : a5 < 256) (h6 : a6 < 256) :
    by8 a0 a1 a2 a3 a4 a5 a6 a7 &&& by8 c c c c c c c c = by8 (a0 &&& c) (a1 &&& c) (a2 &&& c) (a3 &&& c) (a4 &&& c) (a5 &&& c) (a6 &&& c) (a7 &&& c) := by
  unfold by8
  rw [and_split 8 _ _ _ _ h0 hc, and_split 8 _ _ _ _ h1 hc, and_split 8 _ _ _ _ h2 hc, and_split 8 _ _ _ _ h3 hc, and_split 8 _ _ _ _ h4 hc, and_split 8 _ _ _ _ h5 hc, and_split 8 _ _ _ _ h6 hc]
theorem pop8 (a0 a1 a2 a3 a4 a5 a6 a7 : Nat) (h0 : a0 < 256) (h1 : a1 < 256) (h2 : a2 < 256) (h3 : a3 < 256) (h4 : a4 < 256) (h5 : a5 < 256) (h6 : a6 < 256) :
    pop 64 (by8 a0 a1 a2 a3 a4 a5 a6 a7) = pop 8 a0 + (pop 8 a1 + (pop 8 a2 + (pop 8 a3 + (pop 8 a4 + (pop 8 a5 + (pop 8 a6 + pop 8 a7)))))) := by
  have s : ∀ (n a b : Nat), a < 256 → pop (8 + n) (256 * b + a) = pop 8 a + pop n b := by
    intro n a b ha
    rw [pop_split 8 n, show (256 * b + a) % 2 ^ 8 = a by omega, show (256 * b + a) / 2 ^ 8 = b by omega]
  unfold by8
  rw [show 64 = 8 + 56 from rfl, s _ _ _ h0, show 56 = 8 + 48 from rfl, s _ _ _ h1, show 48 = 8 + 40 from rfl, s _ _ _ h2, show 40 = 8 + 32 from rfl, s _ _ _ h3, show 32 = 8 + 24 from rfl, s _ _ _ h4, show 24 = 8 + 16 from rfl, s _ _ _ h5, show 16 = 8 + 8 from rfl, s _ _ _ h6]
def e1 (a : Nat) : Nat := (a / 2 &&& 85) + (a &&& 85)
def e2 (a : Nat) : Nat := (a / 4 &&& 51) + (a &&& 51)
def e3 (a : Nat) : Nat := (a / 16 + a) &&& 15
theorem e_all : ∀ a, a < 256 → e1 a < 256 ∧ (a / 2 + 128 * 0) &&& 85 = a / 2 &&& 85 ∧ (a / 2 + 128) &&& 85 = a / 2 &&& 85 ∧ e2 (e1 a) < 69 ∧ e2 (e1 a) % 16 < 5 ∧ e3 (e2 (e1 a)) = pop 8 a ∧ pop 8 a ≤ 8 := by decide +kernel
theorem sh2 : ∀ a, a < 256 → ∀ d, d < 4 → (a / 4 + 64 * d) &&& 51 = a / 4 &&& 51 := by decide +kernel
theorem sh4 : ∀ a, a < 69 → ∀ d, d < 5 → (a / 16 + 16 * d + a) &&& 15 = e3 a := by decide +kernel
theorem by8_lt (a0 a1 a2 a3 a4 a5 a6 a7 : Nat) (h0 : a0 < 256) (h1 : a1 < 256) (h2 : a2 < 256) (h3 : a3 < 256) (h4 : a4 < 256) (h5 : a5 < 256) (h6 : a6 < 256) (h7 : a7 < 256) : by8 a0 a1 a2 a3 a4 a5 a6 a7 < 18446744073709551616 := by
  unfold by8; omega
/-- The steps of the function, each on numbers. -/
theorem steps (x : Nat) (hx : x < 18446744073709551616) : ∃ y1 y2 y3 : Nat, y1 < 18446744073709551616 ∧ y2 < 18446744073709551616 ∧ y3 < 18446744073709551616 ∧
    (x / 2 &&& 6148914691236517205) + (x &&& 6148914691236517205) = y1 ∧ (y1 / 4 &&& 3689348814741910323) + (y1 &&& 3689348814741910323) = y2 ∧
    y2 / 16 + y2 < 18446744073709551616 ∧ (y2 / 16 + y2 &&& 1085102592571150095) = y3 ∧ y3 + y3 / 256 < 9223372036854775808 ∧ (y3 + y3 / 256) + (y3 + y3 / 256) / 65536 < 9223372036854775808 ∧
    (y3 + y3 / 256) + (y3 + y3 / 256) / 65536 + ((y3 + y3 / 256) + (y3 + y3 / 256) / 65536) / 4294967296 < 9223372036854775808 ∧
    ((y3 + y3 / 256) + (y3 + y3 / 256) / 65536 + ((y3 + y3 / 256) + (y3 + y3 / 256) / 65536) / 4294967296) % 128 = pop 64 x := by
  obtain ⟨a0, a1, a2, a3, a4, a5, a6, a7, h0, h1, h2, h3, h4, h5, h6, h7, rfl⟩ : ∃ a0 a1 a2 a3 a4 a5 a6 a7, a0 < 256 ∧ a1 < 256 ∧ a2 < 256 ∧ a3 < 256 ∧ a4 < 256 ∧ a5 < 256 ∧ a6 < 256 ∧ a7 < 256 ∧ x = by8 a0 a1 a2 a3 a4 a5 a6 a7 :=
    ⟨_, _, _, _, _, _, _, _, Nat.mod_lt _ (by decide), Nat.mod_lt _ (by decide), Nat.mod_lt _ (by decide), Nat.mod_lt _ (by decide), Nat.mod_lt _ (by decide), Nat.mod_lt _ (by decide), Nat.mod_lt _ (by decide), by omega, by8_of x hx⟩
  rw [pop8 a0 a1 a2 a3 a4 a5 a6 a7 h0 h1 h2 h3 h4 h5 h6]
  obtain ⟨l0, p0, q0, m0, n0, r0, t0⟩ := e_all a0 h0
  obtain ⟨l1, p1, q1, m1, n1, r1, t1⟩ := e_all a1 h1
  obtain ⟨l2, p2, q2, m2, n2, r2, t2⟩ := e_all a2 h2
  obtain ⟨l3, p3, q3, m3, n3, r3, t3⟩ := e_all a3 h3
  obtain ⟨l4, p4, q4, m4, n4, r4, t4⟩ := e_all a4 h4
  obtain ⟨l5, p5, q5, m5, n5, r5, t5⟩ := e_all a5 h5
  obtain ⟨l6, p6, q6, m6, n6, r6, t6⟩ := e_all a6 h6
  obtain ⟨l7, p7, q7, m7, n7, r7, t7⟩ := e_all a7 h7
  have half : ∀ a, a < 256 → ∀ b, (a / 2 + 128 * (b % 2)) &&& 85 = a / 2 &&& 85 := fun a ha b => by
    have := (e_all a ha).2.1
    have := (e_all a ha).2.2.1
    have : b % 2 = 0 ∨ b % 2 = 1 := by omega
    rcases this with e | e <;> rw [e] <;> assumption
  have m85 : (6148914691236517205 : Nat) = by8 85 85 85 85 85 85 85 85 := rfl
  have m51 : (3689348814741910323 : Nat) = by8 51 51 51 51 51 51 51 51 := rfl
  have m15 : (1085102592571150095 : Nat) = by8 15 15 15 15 15 15 15 15 := rfl
  have s1 : by8 a0 a1 a2 a3 a4 a5 a6 a7 / 2 = by8 (a0 / 2 + 128 * (a1 % 2)) (a1 / 2 + 128 * (a2 % 2)) (a2 / 2 + 128 * (a3 % 2)) (a3 / 2 + 128 * (a4 % 2)) (a4 / 2 + 128 * (a5 % 2)) (a5 / 2 + 128 * (a6 % 2)) (a6 / 2 + 128 * (a7 % 2)) (a7 / 2 + 128 * (0 % 2)) := by
    unfold by8; omega
  have x1 : (by8 a0 a1 a2 a3 a4 a5 a6 a7 / 2 &&& 6148914691236517205) + (by8 a0 a1 a2 a3 a4 a5 a6 a7 &&& 6148914691236517205) = by8 (e1 a0) (e1 a1) (e1 a2) (e1 a3) (e1 a4) (e1 a5) (e1 a6) (e1 a7) := by
    rw [s1, m85, and8 85 _ _ _ _ _ _ _ _ (by decide) (by omega) (by omega) (by omega) (by omega) (by omega) (by omega) (by omega), and8 85 _ _ _ _ _ _ _ _ (by decide) h0 h1 h2 h3 h4 h5 h6,
      half a0 h0, half a1 h1, half a2 h2, half a3 h3, half a4 h4, half a5 h5, half a6 h6, half a7 h7]
    unfold by8 e1; omega
  generalize e1 a0 = b0 at *
  generalize e1 a1 = b1 at *
  generalize e1 a2 = b2 at *
  generalize e1 a3 = b3 at *
  generalize e1 a4 = b4 at *
  generalize e1 a5 = b5 at *
  generalize e1 a6 = b6 at *
  generalize e1 a7 = b7 at *
  have s2 : by8 b0 b1 b2 b3 b4 b5 b6 b7 / 4 = by8 (b0 / 4 + 64 * (b1 % 4)) (b1 / 4 + 64 * (b2 % 4)) (b2 / 4 + 64 * (b3 % 4)) (b3 / 4 + 64 * (b4 % 4)) (b4 / 4 + 64 * (b5 % 4)) (b5 / 4 + 64 * (b6 % 4)) (b6 / 4 + 64 * (b7 % 4)) (b7 / 4 + 64 * (0 % 4)) := by
    unfold by8; omega
  have x2 : (by8 b0 b1 b2 b3 b4 b5 b6 b7 / 4 &&& 3689348814741910323) + (by8 b0 b1 b2 b3 b4 b5 b6 b7 &&& 3689348814741910323) = by8 (e2 b0) (e2 b1) (e2 b2) (e2 b3) (e2 b4) (e2 b5) (e2 b6) (e2 b7) := by
    rw [s2, m51, and8 51 _ _ _ _ _ _ _ _ (by decide) (by omega) (by omega) (by omega) (by omega) (by omega) (by omega) (by omega), and8 51 _ _ _ _ _ _ _ _ (by decide) l0 l1 l2 l3 l4 l5 l6,
      sh2 b0 l0 _ (Nat.mod_lt _ (by decide)), sh2 b1 l1 _ (Nat.mod_lt _ (by decide)), sh2 b2 l2 _ (Nat.mod_lt _ (by decide)), sh2 b3 l3 _ (Nat.mod_lt _ (by decide)), sh2 b4 l4 _ (Nat.mod_lt _ (by decide)), sh2 b5 l5 _ (Nat.mod_lt _ (by decide)), sh2 b6 l6 _ (Nat.mod_lt _ (by decide)), sh2 b7 l7 _ (Nat.mod_lt _ (by decide))]
    unfold by8 e2; omega
  clear s1 s2 half p0 p1 p2 p3 p4 p5 p6 p7 q0 q1 q2 q3 q4 q5 q6 q7
  generalize e2 b0 = c0 at *
  generalize e2 b1 = c1 at *
  generalize e2 b2 = c2 at *
  generalize e2 b3 = c3 at *
  generalize e2 b4 = c4 at *
  generalize e2 b5 = c5 at *
  generalize e2 b6 = c6 at *
  generalize e2 b7 = c7 at *
  have s3 : by8 c0 c1 c2 c3 c4 c5 c6 c7 / 16 + by8 c0 c1 c2 c3 c4 c5 c6 c7 = by8 (c0 / 16 + 16 * (c1 % 16) + c0) (c1 / 16 + 16 * (c2 % 16) + c1) (c2 / 16 + 16 * (c3 % 16) + c2) (c3 / 16 + 16 * (c4 % 16) + c3) (c4 / 16 + 16 * (c5 % 16) + c4) (c5 / 16 + 16 * (c6 % 16) + c5) (c6 / 16 + 16 * (c7 % 16) + c6) (c7 / 16 + 16 * (0 % 16) + c7) := by
    unfold by8; omega
  have x3 : (by8 c0 c1 c2 c3 c4 c5 c6 c7 / 16 + by8 c0 c1 c2 c3 c4 c5 c6 c7 &&& 1085102592571150095) = by8 (e3 c0) (e3 c1) (e3 c2) (e3 c3) (e3 c4) (e3 c5) (e3 c6) (e3 c7) := by
    rw [s3, m15, and8 15 _ _ _ _ _ _ _ _ (by decide) (by omega) (by omega) (by omega) (by omega) (by omega) (by omega) (by omega),
      sh4 c0 m0 _ n1, sh4 c1 m1 _ n2, sh4 c2 m2 _ n3, sh4 c3 m3 _ n4, sh4 c4 m4 _ n5, sh4 c5 m5 _ n6, sh4 c6 m6 _ n7, sh4 c7 m7 _ (by decide)]
  have b3 : by8 c0 c1 c2 c3 c4 c5 c6 c7 / 16 + by8 c0 c1 c2 c3 c4 c5 c6 c7 < 18446744073709551616 := by rw [s3]; exact by8_lt _ _ _ _ _ _ _ _ (by omega) (by omega) (by omega) (by omega) (by omega) (by omega) (by omega) (by omega)
  rw [r0, r1, r2, r3, r4, r5, r6, r7] at x3
  refine ⟨_, _, _, by8_lt _ _ _ _ _ _ _ _ l0 l1 l2 l3 l4 l5 l6 l7, by8_lt _ _ _ _ _ _ _ _ (by omega) (by omega) (by omega) (by omega) (by omega) (by omega) (by omega) (by omega), by8_lt _ _ _ _ _ _ _ _ (by omega) (by omega) (by omega) (by omega) (by omega) (by omega) (by omega) (by omega), x1, x2, b3, x3, ?_⟩
  clear x1 x2 x3 s3 b3 m85 m51 m15 hx r0 r1 r2 r3 r4 r5 r6 r7 m0 m1 m2 m3 m4 m5 m6 m7 n0 n1 n2 n3 n4 n5 n6 n7 l0 l1 l2 l3 l4 l5 l6 l7 h0 h1 h2 h3 h4 h5 h6 h7
  generalize pop 8 a0 = p0 at *
  generalize pop 8 a1 = p1 at *
  generalize pop 8 a2 = p2 at *
  generalize pop 8 a3 = p3 at *
  generalize pop 8 a4 = p4 at *
  generalize pop 8 a5 = p5 at *
  generalize pop 8 a6 = p6 at *
  generalize pop 8 a7 = p7 at *
  clear c0 c1 c2 c3 c4 c5 c6 c7 b0 b1 b2 b3 b4 b5 b6 b7 a0 a1 a2 a3 a4 a5 a6 a7
  have g4 : by8 p0 p1 p2 p3 p4 p5 p6 p7 + by8 p0 p1 p2 p3 p4 p5 p6 p7 / 256 = by8 (p0 + p1) (p1 + p2) (p2 + p3) (p3 + p4) (p4 + p5) (p5 + p6) (p6 + p7) p7 := by
    unfold by8; omega
  have g5 : by8 (p0 + p1) (p1 + p2) (p2 + p3) (p3 + p4) (p4 + p5) (p5 + p6) (p6 + p7) p7 + by8 (p0 + p1) (p1 + p2) (p2 + p3) (p3 + p4) (p4 + p5) (p5 + p6) (p6 + p7) p7 / 65536 = by8 (p0 + p1 + p2 + p3) (p1 + p2 + p3 + p4) (p2 + p3 + p4 + p5) (p3 + p4 + p5 + p6) (p4 + p5 + p6 + p7) (p5 + p6 + p7) (p6 + p7) p7 := by
    unfold by8; omega
  have g6 : by8 (p0 + p1 + p2 + p3) (p1 + p2 + p3 + p4) (p2 + p3 + p4 + p5) (p3 + p4 + p5 + p6) (p4 + p5 + p6 + p7) (p5 + p6 + p7) (p6 + p7) p7 + by8 (p0 + p1 + p2 + p3) (p1 + p2 + p3 + p4) (p2 + p3 + p4 + p5) (p3 + p4 + p5 + p6) (p4 + p5 + p6 + p7) (p5 + p6 + p7) (p6 + p7) p7 / 4294967296 = by8 (p0 + p1 + p2 + p3 + p4 + p5 + p6 + p7) (p1 + p2 + p3 + p4 + p5 + p6 + p7) (p2 + p3 + p4 + p5 + p6 + p7) (p3 + p4 + p5 + p6 + p7) (p4 + p5 + p6 + p7) (p5 + p6 + p7) (p6 + p7) p7 := by
    unfold by8; omega
  rw [g4, g5, g6]
  refine ⟨?_, ?_, ?_, ?_⟩
  · unfold by8; omega
  · unfold by8; omega
  · unfold by8; omega
  · unfold by8; omega
end Go.Proofs.YtnemnchldjohgaaDoor
