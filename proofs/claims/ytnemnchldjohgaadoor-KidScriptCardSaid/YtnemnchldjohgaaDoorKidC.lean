/- A node of children by its handles alone; how many; a nil node. -/
import Derived.Test.YtnemnchldjohgaaDoorKidB
set_option linter.unusedVariables false
set_option linter.unusedSimpArgs false
namespace Go.Proofs.YtnemnchldjohgaaDoor
open Go.RowKit
theorem rnk_ins (M : Nat → Bool) (b n : Nat) : rnk (ins M b) n = rnk M n + (if b < n ∧ M b = false then 1 else 0) := by
  induction n with
  | zero => simp [rnk]
  | succ n ih =>
    rw [rnk, rnk, ih]
    unfold ins
    by_cases e : n = b
    · subst e
      cases h : M n <;> simp [h]
    · simp only [show (n == b) = false by simpa using e, Bool.false_or]
      by_cases h1 : b < n
      · simp [h1, show b < n + 1 by omega]; omega
      · simp [h1, show ¬ b < n + 1 by omega]
theorem rnk_del (M : Nat → Bool) (b n : Nat) : rnk (del M b) n + (if b < n ∧ M b = true then 1 else 0) = rnk M n := by
  induction n with
  | zero => simp [rnk]
  | succ n ih =>
    rw [rnk, rnk, ← ih]
    unfold del
    by_cases e : n = b
    · subst e
      cases h : M n <;> simp [h]
    · simp only [show (n != b) = true by simpa using e, Bool.true_and]
      by_cases h1 : b < n
      · simp [h1, show b < n + 1 by omega]; omega
      · simp [h1, show ¬ b < n + 1 by omega]
/-- A node by its handles; how many children. -/
def kn (q : Nat) (H : Nat → Nat) : Array Value := nd q (nz H) H
def cnt (H : Nat → Nat) : Nat := rnk (nz H) 256
theorem cnt_le (H : Nat → Nat) : cnt H ≤ 256 := rnk_le _ 256
theorem cnt_new (H : Nat → Nat) (b h : Nat) (hb : b ≤ 255) (hh : 0 < h) (h0 : H b = 0) : cnt (upd H b h) = cnt H + 1 := by
  unfold cnt
  rw [nz_put H b h (by omega), rnk_ins, if_pos ⟨by omega, by simp [nz, h0]⟩]
theorem cnt_old (H : Nat → Nat) (b h : Nat) (hh : 0 < h) (h0 : 0 < H b) : cnt (upd H b h) = cnt H := by
  unfold cnt
  rw [nz_put H b h (by omega), rnk_ins, if_neg (by simp [nz]; omega)]
  omega
theorem cnt_drop (H : Nat → Nat) (b : Nat) (hb : b ≤ 255) (h0 : 0 < H b) : cnt (upd H b 0) + 1 = cnt H := by
  unfold cnt
  rw [nz_drop, ← rnk_del (nz H) b 256, if_pos ⟨by omega, by simp [nz]; omega⟩]
theorem cnt_zero : cnt (fun _ => 0) = 0 := by
  have : ∀ n, rnk (nz fun _ => 0) n = 0 := fun n => by
    induction n with
    | zero => rfl
    | succ n ih => rw [rnk, ih]; simp [nz]
  exact this 256
theorem newK : nd0 = kn 0 (fun _ => 0) := by
  unfold nd0 kn
  congr 1
/-- The kind behind a drop. -/
def kdr (H : Nat → Nat) (q b : Nat) : Nat := if H b = 0 then q else kdrop q (cnt (upd H b 0))
attribute [local irreducible] mk4 wd allTo rnk nd ks room left nz
section
variable (g q : Nat) (H : Nat → Nat) (w : World) (hb : Blk g (kn q H) 51 w)
include hb
theorem kkind (hq : q < 4) : Calls Tryd.prog 10 #[pn g] w fun e w' => e = .returned (.int .i64 (6 + (q : Int))) ∧ Below w.heap.size w w' := kind_any g q (nz H) H hq w hb
theorem klen : Calls Tryd.prog 11 #[pn g] w fun e w' => e = .returned (.int .i64 ((cnt H : Nat) : Int)) ∧ Below w.heap.size w w' := len_any g q (nz H) H w hb
theorem kbytes : Calls Tryd.prog 13 #[pn g] w (RetB (allTo (nz H) 256) w) := bytes_any g q (nz H) H w hb
theorem kget (b : Nat) (h1 : b ≤ 255) : Calls Tryd.prog 16 #[pn g, .int .u8 (b : Int)] w fun e w' => e = .returned (.int .u32 (H b : Int)) ∧ Below w.heap.size w w' := get_any g q (nz H) H b h1 w hb
theorem knext (n : Int) (h0 : -9223372036854775808 ≤ n) (h1 : n ≤ 9223372036854775807) : Calls Tryd.prog 17 #[pn g, .int .i64 n] w fun e w' => e = .returned (.tuple #[.int .i64 (next (nz H) n), .int .u32 (hat H (next (nz H) n))]) ∧ Below w.heap.size w w' := knext_any g q (nz H) H n h0 h1 w hb
theorem kprev (n : Int) (h0 : -9223372036854775808 ≤ n) (h1 : n ≤ 9223372036854775807) : Calls Tryd.prog 18 #[pn g, .int .i64 n] w fun e w' => e = .returned (.tuple #[.int .i64 (prev (nz H) n), .int .u32 (hat H (prev (nz H) n))]) ∧ Below w.heap.size w w' := kprev_any g q (nz H) H n h0 h1 w hb
end
theorem kput_k (g q : Nat) (H : Nat → Nat) (b h : Nat) (hq : q < 4) (hb : b ≤ 255) (hh : 0 < h) (B : Nat) (w0 w : World) (bs : List (Nat × Array Value × TypeId)) (hL : RL w0) (h2 : 2 ≤ B) (hS : Sx B w0 ((g, kn q H, 51) :: bs) w) (hB : B ≤ g) (hne : ∀ p ∈ bs, p.1 ≠ g) :
    Calls Tryd.prog 9 #[pn g, .int .u8 (b : Int), .int .u32 (h : Int)] w fun e w' => e = .returned (.int .i64 0) ∧ Sx B w0 ((g, kn (kput q (cnt (upd H b h))) (upd H b h), 51) :: bs) w' := by
  have h1 := put_any g q (nz H) H b h hq hb hh B w0 w bs hL h2 hS hB hne
  rw [← nz_put H b h (by omega)] at h1
  exact h1
theorem kdrop_k (g q : Nat) (H : Nat → Nat) (b : Nat) (hq : q < 4) (hb : b ≤ 255) (B : Nat) (w0 w : World) (bs : List (Nat × Array Value × TypeId)) (hL : RL w0) (h2 : 2 ≤ B) (hS : Sx B w0 ((g, kn q H, 51) :: bs) w) (hB : B ≤ g) (hne : ∀ p ∈ bs, p.1 ≠ g) :
    Calls Tryd.prog 12 #[pn g, .int .u8 (b : Int)] w fun e w' => e = .returned (.tuple #[.int .u32 (H b : Int), .bool (nz H b)]) ∧ Sx B w0 ((g, kn (kdr H q b) (upd H b 0), 51) :: bs) w' := by
  by_cases h0 : H b = 0
  · have hM : nz H b = false := by simp [nz, h0]
    have hu : upd H b 0 = H := by
      funext x; unfold upd
      by_cases e : x = b
      · subst e; simp [h0]
      · simp [e]
    refine (drop_none g q (nz H) H b hb hM w (hS.blk (g, kn q H, 51) (List.mem_cons_self ..))).mono ?_
    rintro e w1 ⟨rfl, hb1⟩
    refine ⟨by rw [hM, h0]; rfl, ?_⟩
    rw [hu, show kdr H q b = q by unfold kdr; rw [if_pos h0]]
    exact hS.below hb1
  · have hM : nz H b = true := by simp [nz, h0]
    have h1 := drop_some g q (nz H) H b hq hb hM B w0 w bs hL h2 hS hB hne
    rw [← nz_drop] at h1
    refine h1.mono ?_
    rintro e w1 ⟨rfl, hS1⟩
    refine ⟨by rw [hM], ?_⟩
    rw [show kdr H q b = kdrop q (cnt (upd H b 0)) by unfold kdr; rw [if_neg h0]]
    exact hS1
set_option maxHeartbeats 1000000 in
set_option maxRecDepth 20000 in
theorem nil_put (w : World) : Calls Tryd.prog 9 #[.pointer none, .int .u8 1, .int .u32 1] w fun e w' => e = .returned (.int .i64 1) ∧ w' = w := by
  go_enter Tryd.func9, Tryd.ntmps9
  go_wp2_with fail
  go_ret
  exact ⟨rfl, rfl⟩
set_option maxHeartbeats 1000000 in
set_option maxRecDepth 20000 in
theorem nil_drop (w : World) : Calls Tryd.prog 12 #[.pointer none, .int .u8 1] w fun e w' => e = .returned (.tuple #[.int .u32 0, .bool false]) ∧ w' = w := by
  go_enter Tryd.func12, Tryd.ntmps12
  go_wp2_with fail
  go_ret2
  exact ⟨rfl, rfl⟩
set_option maxHeartbeats 1000000 in
set_option maxRecDepth 20000 in
theorem nil_kind (w : World) : Calls Tryd.prog 10 #[.pointer none] w fun e w' => e = .returned (.int .i64 0) ∧ w' = w := by
  go_enter Tryd.func10, Tryd.ntmps10
  go_wp2_with fail
  go_ret
  exact ⟨rfl, rfl⟩
set_option maxHeartbeats 1000000 in
set_option maxRecDepth 20000 in
theorem nil_len (w : World) : Calls Tryd.prog 11 #[.pointer none] w fun e w' => e = .returned (.int .i64 0) ∧ w' = w := by
  go_enter Tryd.func11, Tryd.ntmps11
  go_wp2_with fail
  go_ret
  exact ⟨rfl, rfl⟩
set_option maxHeartbeats 1000000 in
set_option maxRecDepth 20000 in
theorem nil_bytes (w : World) : Calls Tryd.prog 13 #[.pointer none] w fun e w' => e = .returned (.slice none 0 0) ∧ w' = w := by
  go_enter Tryd.func13, Tryd.ntmps13
  go_wp2_with fail
  go_ret
  exact ⟨rfl, rfl⟩
/-- The kind of so many that came one by one. -/
def bq (n : Nat) : Nat := if n < 5 then 0 else if n < 17 then 1 else if n < 49 then 2 else 3
theorem bq_lt (n : Nat) : bq n < 4 := by unfold bq; split; omega; split; omega; split <;> omega
theorem kput_bq (n : Nat) (h : n ≤ 255) : kput (bq n) (n + 1) = bq (n + 1) := by
  unfold kput bq room
  by_cases h1 : n < 4
  · simp [show n < 5 by omega, show n + 1 < 5 by omega]; omega
  · by_cases h2 : n = 4
    · subst h2; decide
    · by_cases h3 : n < 16
      · simp [show ¬ n < 5 by omega, show ¬ n + 1 < 5 by omega, show n < 17 by omega, show n + 1 < 17 by omega]; omega
      · by_cases h4 : n = 16
        · subst h4; decide
        · by_cases h5 : n < 48
          · simp [show ¬ n < 5 by omega, show ¬ n + 1 < 5 by omega, show ¬ n < 17 by omega, show ¬ n + 1 < 17 by omega, show n < 49 by omega, show n + 1 < 49 by omega]; omega
          · by_cases h6 : n = 48
            · subst h6; decide
            · simp [show ¬ n < 5 by omega, show ¬ n + 1 < 5 by omega, show ¬ n < 17 by omega, show ¬ n + 1 < 17 by omega, show ¬ n < 49 by omega, show ¬ n + 1 < 49 by omega]; omega
theorem kput_same (n : Nat) (h : n ≤ 256) : kput (bq n) n = bq n := by
  unfold kput
  rw [if_neg]
  unfold bq room
  by_cases h1 : n < 5
  · simp [h1]; omega
  · by_cases h2 : n < 17
    · simp [h1, h2]; omega
    · by_cases h3 : n < 49
      · simp [h1, h2, h3]; omega
      · simp [h1, h2, h3]; omega
end Go.Proofs.YtnemnchldjohgaaDoor
