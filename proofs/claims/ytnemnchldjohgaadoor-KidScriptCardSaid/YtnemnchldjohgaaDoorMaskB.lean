/- Walks over the functions of mask: loops. -/
import Derived.Test.YtnemnchldjohgaaDoorMaskA
import Derived.Test.YtnemnchldjohgaaDoorMaskFns
set_option linter.unusedVariables false
set_option linter.unusedSimpArgs false
namespace Go.Proofs.YtnemnchldjohgaaDoor
open Go.RowKit
theorem bcell {W w1 : World} (hb : Below W.heap.size W w1) : (∀ b o, b < W.heap.size → w1.cell? ⟨b, o, none⟩ = W.cell? ⟨b, o, none⟩) ∧ (∀ b o, b < W.heap.size → w1.frozen? ⟨b, o, none⟩ = W.frozen? ⟨b, o, none⟩) :=
  ⟨fun b o h => hb.cell (p := ⟨b, o, none⟩) h, fun b o h => hb.frozen (p := ⟨b, o, none⟩) h⟩
/-- A mask lies in block g. -/
structure MaskAt (M : Nat → Bool) (g : Nat) (w : World) : Prop where
  c0 : w.cell? ⟨g, 0, none⟩ = some (.int .u64 (wd M 0 : Int))
  c1 : w.cell? ⟨g, 1, none⟩ = some (.int .u64 (wd M 1 : Int))
  c2 : w.cell? ⟨g, 2, none⟩ = some (.int .u64 (wd M 2 : Int))
  c3 : w.cell? ⟨g, 3, none⟩ = some (.int .u64 (wd M 3 : Int))
  lt : g < w.heap.size
theorem MaskAt.below {M : Nat → Bool} {g : Nat} {w w' : World} (h : MaskAt M g w) (hb : Below w.heap.size w w') : MaskAt M g w' :=
  ⟨(hb.cell (p := ⟨g, 0, none⟩) h.lt).trans h.c0, (hb.cell (p := ⟨g, 1, none⟩) h.lt).trans h.c1, (hb.cell (p := ⟨g, 2, none⟩) h.lt).trans h.c2, (hb.cell (p := ⟨g, 3, none⟩) h.lt).trans h.c3, Nat.lt_of_lt_of_le h.lt hb.size⟩
theorem MaskAt.grown {M : Nat → Bool} {g : Nat} {w w' : World} {row : Option Nat} (h : MaskAt M g w) (hg : w.grownBy w' row) (hne : some g ≠ row) : MaskAt M g w' := by
  have hb := hg.block g h.lt hne
  exact ⟨(World.cell?_of_block (a := ⟨g, 0, none⟩) hb).trans h.c0, (World.cell?_of_block (a := ⟨g, 1, none⟩) hb).trans h.c1, (World.cell?_of_block (a := ⟨g, 2, none⟩) hb).trans h.c2, (World.cell?_of_block (a := ⟨g, 3, none⟩) hb).trans h.c3, Nat.lt_of_lt_of_le h.lt hg.size⟩
theorem MaskAt.new (M : Nat → Bool) (w : World) : MaskAt M w.heap.size (w.alloc (.cells #[.int .u64 (wd M 0 : Int), .int .u64 (wd M 1 : Int), .int .u64 (wd M 2 : Int), .int .u64 (wd M 3 : Int)] 49)) :=
  ⟨by simp [go_sem], by simp [go_sem], by simp [go_sem], by simp [go_sem], by simp⟩
set_option maxHeartbeats 1000000 in
theorem next_any (M : Nat → Bool) (b : Int) (hb0 : -9223372036854775808 ≤ b) (hb : b ≤ 9223372036854775807) (w : World) :
    Calls Tryd.prog 29 #[.agg (mk4 M), .int .i64 b] w fun e w' => e = .returned (.int .i64 (next M b)) ∧ Below w.heap.size w w' := by
  have hn0 : b < 0 → next M b = nxt M (256 - 0) 0 := fun h => by unfold next; rw [show max b 0 = 0 by omega]; rfl
  have hn1 : 0 ≤ b → next M b = nxt M (256 - b.toNat) b.toNat := fun h => by unfold next; rw [show max b 0 = b by omega]
  have HN0 := Lib.hid hn0; clear hn0
  have HN1 := Lib.hid hn1; clear hn1
  unfold mk4
  go_enter Tryd.func29, Tryd.ntmps29
  go_wp2_with fail
  all_goals
    go_loopw [5] (fun i wr => ∃ k : Nat, (k : Int) ≤ 9223372036854775807 ∧ i = .int .i64 k ∧ Hid (next M b = nxt M (256 - k) k) ∧ Below w.heap.size w wr ∧ MaskAt M w.heap.size wr) (fun i _ => 256 - (intOf i).toNat)
    case atStart =>
      first
      | exact ⟨0, by omega, rfl, HN0.out ‹_›, (Below.refl _ _).alloc (Nat.le_refl _) _, MaskAt.new M w⟩
      | exact ⟨b.toNat, by omega, by rw [Int.toNat_of_nonneg ‹_›], HN1.out ‹_›, (Below.refl _ _).alloc (Nat.le_refl _) _, MaskAt.new M w⟩
    case round =>
      obtain ⟨k, hk, rfl, hN, hB, hA⟩ := hrel
      have HA := Lib.hid hA
      obtain ⟨c0, c1, c2, c3, hlt⟩ := hA
      by_cases hlt2 : (k : Int) ≤ 255
      · go_wp2_with fail
        cases hM : M k
        all_goals
          have HM := Lib.hid hM; clear hM
          refine (has_any M k (by omega) (by omega) wr).mono ?_
          rintro e w1 ⟨rfl, hb1⟩
          rw [Int.toNat_natCast, HM.out]
        · have hB1 := below_then hB (by omega) hb1
          have hA1 := HA.out.below hb1
          go_wp2_with fail
          go_roundw
          case rel => exact ⟨k + 1, by omega, by go_num, (hN.out.trans (nxt_miss (by omega) HM.out) : _), hB1, hA1⟩
          case measure => (try simp [intOf]); (try omega)
        · have hB1 := below_then hB (by omega) hb1
          go_wp2_with fail
          go_ret
          exact ⟨by rw [hN.out, nxt_hit (by omega) HM.out]; rfl, hB1⟩
      · go_wp2_with fail
        go_ret
        exact ⟨by rw [hN.out, nxt_end (by omega)]; rfl, hB⟩
set_option maxHeartbeats 1000000 in
theorem prev_any (M : Nat → Bool) (b : Int) (hb0 : -9223372036854775808 ≤ b) (hb : b ≤ 9223372036854775807) (w : World) :
    Calls Tryd.prog 30 #[.agg (mk4 M), .int .i64 b] w fun e w' => e = .returned (.int .i64 (prev M b)) ∧ Below w.heap.size w w' := by
  have hn0 : 255 ≤ b → prev M b = prv M ((255 : Int) + 1).toNat := fun h => by unfold prev; rw [show min b 255 = 255 by omega]
  have hn1 : b ≤ 255 → prev M b = prv M (b + 1).toNat := fun h => by unfold prev; rw [show min b 255 = b by omega]
  have HN0 := Lib.hid hn0; clear hn0
  have HN1 := Lib.hid hn1; clear hn1
  unfold mk4
  go_enter Tryd.func30, Tryd.ntmps30
  go_wp2_with fail
  all_goals
    go_loopw [5] (fun i wr => ∃ n : Int, -9223372036854775808 ≤ n ∧ n ≤ 255 ∧ i = .int .i64 n ∧ Hid (prev M b = prv M (n + 1).toNat) ∧ Below w.heap.size w wr ∧ MaskAt M w.heap.size wr) (fun i _ => (intOf i + 1).toNat)
    case atStart =>
      first
      | exact ⟨b, by omega, by omega, rfl, HN1.out (by omega), (Below.refl _ _).alloc (Nat.le_refl _) _, MaskAt.new M w⟩
      | exact ⟨255, by omega, by omega, rfl, HN0.out (by omega), (Below.refl _ _).alloc (Nat.le_refl _) _, MaskAt.new M w⟩
    case round =>
      obtain ⟨n, hn, hn', rfl, hN, hB, hA⟩ := hrel
      have HA := Lib.hid hA
      obtain ⟨c0, c1, c2, c3, hlt⟩ := hA
      by_cases hlt2 : 0 ≤ n
      · obtain ⟨k, rfl⟩ := Int.eq_ofNat_of_zero_le hlt2
        rw [show ((k : Int) + 1).toNat = k + 1 by omega] at hN
        go_wp2_with fail
        cases hM : M k
        all_goals
          have HM := Lib.hid hM; clear hM
          refine (has_any M k (by omega) (by omega) wr).mono ?_
          rintro e w1 ⟨rfl, hb1⟩
          rw [Int.toNat_natCast, HM.out]
        · have hB1 := below_then hB (by omega) hb1
          have hA1 := HA.out.below hb1
          go_wp2_with fail
          go_roundw
          case rel => exact ⟨(k : Int) - 1, by omega, by omega, rfl, by rw [show ((k : Int) - 1 + 1).toNat = k by omega]; exact hN.out.trans (by rw [prv, if_neg (by rw [HM.out]; simp)]), hB1, hA1⟩
          case measure => (try simp [intOf]); (try omega)
        · have hB1 := below_then hB (by omega) hb1
          go_wp2_with fail
          go_ret
          exact ⟨by rw [hN.out, prv, if_pos HM.out] <;> rfl, hB1⟩
      · go_wp2_with fail
        go_ret
        exact ⟨by rw [hN.out, show (n + 1).toNat = 0 by omega] <;> rfl, hB⟩
end Go.Proofs.YtnemnchldjohgaaDoor
