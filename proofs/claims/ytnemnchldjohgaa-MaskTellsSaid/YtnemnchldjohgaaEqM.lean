/- Two masks compared. -/
import Derived.Test.YtnemnchldjohgaaMaskA
import Derived.Laws.StructEq
set_option linter.unusedVariables false
set_option linter.unusedSimpArgs false
namespace Go.Proofs.Ytnemnchldjohgaa
open Go.RowKit
def same4 (A B : Nat → Bool) : Bool := wd A 0 == wd B 0 && (wd A 1 == wd B 1 && (wd A 2 == wd B 2 && wd A 3 == wd B 3))
theorem same4_self (A : Nat → Bool) : same4 A A = true := by simp [same4]
theorem same4_of {A B : Nat → Bool} (h : mk4 A = mk4 B) : same4 A B = true := by
  have h' := mk4_inj h
  unfold same4
  rw [wd_congr (i := 0) fun j hj => h' _ (by omega), wd_congr (i := 1) fun j hj => h' _ (by omega), wd_congr (i := 2) fun j hj => h' _ (by omega), wd_congr (i := 3) fun j hj => h' _ (by omega)]
  simp
theorem same4_ne {A B : Nat → Bool} (b : Nat) (hb : b < 256) (h : A b ≠ B b) : same4 A B = false := by
  rw [Bool.eq_false_iff]
  intro e
  simp only [same4, Bool.and_eq_true, beq_iff_eq] at e
  obtain ⟨e0, e1, e2, e3⟩ := e
  apply h
  refine mk4_inj (M := A) (M' := B) ?_ b hb
  unfold mk4
  rw [e0, e1, e2, e3]
theorem und22 : Try.prog.underlying 22 = some (.int .u64) := Try.underlying22
theorem cast_beq (a b : Nat) : ((a : Int) == (b : Int)) = (a == b) := by
  rw [Bool.eq_iff_iff, beq_iff_eq, beq_iff_eq]; omega
theorem eqM (A B : Nat → Bool) (w : World) : (Op.equalIn 10000 24 (.agg (mk4 A)) (.agg (mk4 B))).run Try.prog w = .ok (same4 A B) w := by
  have u3 := Try.underlying22
  have a3 := Try.isAgg22
  have z3 := Try.sizeOf22
  unfold mk4 same4
  rw [← cast_beq, ← cast_beq, ← cast_beq, ← cast_beq]
  generalize (wd A 0 : Int) = a0
  generalize (wd A 1 : Int) = a1
  generalize (wd A 2 : Int) = a2
  generalize (wd A 3 : Int) = a3'
  generalize (wd B 0 : Int) = b0
  generalize (wd B 1 : Int) = b1
  generalize (wd B 2 : Int) = b2
  generalize (wd B 3 : Int) = b3
  rw [show (10000 : Nat) = 9999 + 1 from rfl, Op.equalIn]
  simp only [Sem.run_bind, run_underlying Try.underlying24, Result.andThen_ok]
  simp only [Std.Legacy.Range.forIn_eq_forIn_range', Std.Legacy.Range.size, Nat.sub_zero, Nat.add_sub_cancel, Nat.div_one, List.range'_succ, List.range'_zero, List.forIn_cons, List.forIn_nil]
  go_simp
  by_cases h1 : a0 = b0 <;> by_cases h2 : a1 = b1 <;> by_cases h3 : a2 = b2 <;> by_cases h4 : a3' = b3 <;> simp [h1, h2, h3, h4]
end Go.Proofs.Ytnemnchldjohgaa
