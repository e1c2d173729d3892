/- Walks over the document's sets: Words; Of of mask. -/
import Derived.Test.YtnemnchldjohgaaSetB
import Derived.Deep.RegionHeld3
set_option linter.unusedVariables false
set_option linter.unusedSimpArgs false
namespace Go.Proofs.Ytnemnchldjohgaa
open Go.RowKit
theorem zeroW : (Try.prog.info? 23).map (·.zero) = some (some (.agg (mk4 fun _ => false))) := by kernel_rfl
theorem zeroM : (Try.prog.info? 24).map (·.zero) = some (some (.agg (mk4 fun _ => false))) := by kernel_rfl
theorem infoW : (Try.prog.info? 23).map (·.size) = some 4 := by kernel_rfl
theorem infoM : (Try.prog.info? 24).map (·.size) = some 4 := by kernel_rfl
theorem mk4_size (M : Nat → Bool) : (mk4 M).size = 4 := rfl
theorem mk4_one (M : Nat → Bool) : (mk4 M).all (·.oneCell') = true := by
  unfold mk4
  rw [show (#[Value.int .u64 (wd M 0 : Int), .int .u64 (wd M 1 : Int), .int .u64 (wd M 2 : Int), .int .u64 (wd M 3 : Int)] : Array Value) = [Value.int .u64 (wd M 0 : Int), .int .u64 (wd M 1 : Int), .int .u64 (wd M 2 : Int), .int .u64 (wd M 3 : Int)].toArray from rfl]
  exact all_oneCell_toArray (by simp [Value.oneCell'])
theorem mk4_ins (M : Nat → Bool) (k : Nat) (hk : k < 256) : (mk4 M).setIfInBounds (k / 64) (.int .u64 (wd (ins M k) (k / 64) : Int)) = mk4 (ins M k) := by
  have ho : ∀ i, k / 64 ≠ i → wd (ins M k) i = wd M i := fun i hi => by
    have := ins_other M (k : Int) (by omega) i (by omega)
    rwa [Int.toNat_natCast] at this
  have : k / 64 = 0 ∨ k / 64 = 1 ∨ k / 64 = 2 ∨ k / 64 = 3 := by omega
  unfold mk4
  rcases this with e | e | e | e <;> rw [e]
  · rw [ho 1 (by omega), ho 2 (by omega), ho 3 (by omega)]; rfl
  · rw [ho 0 (by omega), ho 2 (by omega), ho 3 (by omega)]; rfl
  · rw [ho 0 (by omega), ho 1 (by omega), ho 3 (by omega)]; rfl
  · rw [ho 0 (by omega), ho 1 (by omega), ho 2 (by omega)]; rfl
theorem mk4_step_yes {M : Nat → Bool} {k : Nat} (hk : k < 256) (h : M k = true) : mk4 (ins (fun x => decide (x < k) && M x) k) = mk4 (fun x => decide (x < k + 1) && M x) :=
  mk4_congr fun x _ => by
    unfold ins
    by_cases e : x = k
    · subst e; simp [h]
    · by_cases h2 : x < k
      · simp [h2, show x < k + 1 by omega, e]
      · simp [h2, show ¬ x < k + 1 by omega, e]
theorem mk4_step_no {M : Nat → Bool} {k : Nat} (h : M k = false) : mk4 (fun x => decide (x < k) && M x) = mk4 (fun x => decide (x < k + 1) && M x) :=
  mk4_congr fun x _ => by
    by_cases e : x = k
    · subst e; simp [h]
    · by_cases h2 : x < k
      · simp [h2, show x < k + 1 by omega]
      · simp [h2, show ¬ x < k + 1 by omega]
set_option maxHeartbeats 1000000 in
set_option maxRecDepth 20000 in
theorem words_any (M : Nat → Bool) (w : World) : Calls Try.prog 10 #[.agg (bl M)] w fun e w' => e = .returned (.agg (mk4 M)) ∧ Below w.heap.size w w' := by
  go_enter Try.func10, Try.ntmps10
  go_wp2_with (refine wpList_alloc_zero rfl 23 rfl _ zeroW ?_)
  go_loopw [4] (fun i wr => ∃ k : Nat, k ≤ 256 ∧ i = .int .i64 k ∧ Below w.heap.size w wr ∧ Hid (Blk w.heap.size (bl M) 26 wr) ∧ Hid (Blk (w.heap.size + 1) (mk4 fun _ => false) 23 wr) ∧ Hid (Blk (w.heap.size + 1 + 1) (mk4 fun x => decide (x < k) && M x) 23 wr)) (fun i _ => 256 - (intOf i).toNat)
  case atStart =>
    refine ⟨0, by omega, rfl, (((Below.refl _ _).alloc (Nat.le_refl _) _).alloc (by simp) _).alloc (by simp; omega) _, ?_, ?_, ?_⟩
    · exact ((Blk.new _ _ _).alloc _).alloc _
    · exact Blk.alloc (by have := Blk.new (w.alloc (.cells (bl M) 26)) (mk4 fun _ => false) 23; simpa using this) _
    · have := Blk.new ((w.alloc (.cells (bl M) 26)).alloc (.cells (mk4 fun _ => false) 23)) (mk4 fun _ => false) 23
      show Blk _ _ _ _
      simpa using this
  case round =>
    obtain ⟨k, hk, rfl, hB, hA, hA1, hA2⟩ := hrel
    by_cases hlt2 : (k : Int) < 256
    · have hc := (hA.out.cell k).trans (bl_get M k (by omega))
      cases hM : M k
      all_goals
        have HM := Lib.hid hM; clear hM
        rw [HM.out] at hc
      · go_wp2_with fail
        go_roundw
        case rel => exact ⟨k + 1, by omega, by go_num, hB, hA, hA1, by have := hA2.out; rw [mk4_step_no HM.out] at this; exact this⟩
        case measure => (try simp [intOf]); (try omega)
      · have hc2 := (hA2.out.cell (k / 64)).trans (mk4_get _ (k / 64) (by omega))
        have hf2 := hA2.out.frozen (k / 64)
        go_wp2_with fail
        have hw := or_word (fun x => decide (x < k) && M x) k (by omega) (k / 64) (by omega)
        rw [Int.toNat_natCast, show ((k : Int) % 64).toNat = k % 64 by omega] at hw
        have HW := Lib.hid hw
        clear hw
        go_region
        go_wp2_with fail
        go_roundw
        case rel =>
          rw [HW.out]
          refine ⟨k + 1, by omega, by go_num, (hB.setCell (by simp; omega) _).drew, (hA.out.set_other _ _ (by simp; omega)).drew, (hA1.out.set_other _ _ (by simp)).drew, ?_⟩
          have h := hA2.out.set (k / 64) (.int .u64 (wd (ins (fun x => decide (x < k) && M x) k) (k / 64) : Int))
          rw [mk4_ins _ k (by omega), mk4_step_yes (by omega) HM.out] at h
          exact h.drew
        case measure => (try simp [intOf]); (try omega)
    · have hk6 : k = 256 := by omega
      have hA3 : Blk (w.heap.size + 1 + 1) (mk4 M) 23 wr := by
        have h := hA2.out
        rw [show (mk4 fun x => decide (x < k) && M x) = mk4 M from mk4_congr fun x hx => by simp [hk6, hx]] at h
        exact h
      have HA3 := Lib.hid hA3
      clear hA3 hk6
      go_wp2_with (first | refine wpList_load_row rfl 23 _ rfl (w.heap.size + 1 + 1) rfl 23 (mk4 M) (0, 0) _ HA3.out Try.underlying23 rfl (by rw [mk4_size]; exact infoW) ?_ | refine wpList_store_mid rfl 23 _ _ rfl (w.heap.size + 1) 0 (mk4 M) rfl rfl (by have := hA1.out.there; rwa [mk4_size] at this ⊢) (by rw [mk4_size]; exact infoW) (mk4_one M) ?_)
      have hR := setCells_toList (mk4 fun _ => false) (mk4 M) (by rw [mk4_size, mk4_size]) wr (w.heap.size + 1) 23 hA1.out
      exact bodyPost_ret (v := .agg (mk4 M)) (results_cell_row (p := 2) (ty := 23) rfl _ _ (w.heap.size + 1) 23 (mk4 M) (0, 0) _ rfl hR Try.underlying23 rfl (by rw [mk4_size]; exact infoW)) rfl ⟨rfl, below_setCells _ (by omega) _ _ _ hB⟩
theorem zlit : (mk4 fun _ => false) = #[Value.int .u64 0, .int .u64 0, .int .u64 0, .int .u64 0] := by kernel_rfl
/-- The set of some bytes. -/
def setOf (xs : List Int) : Nat → Bool := xs.foldl (fun M x => ins M x.toNat) (fun _ => false)
theorem setOf_snoc (xs : List Int) (x : Int) : setOf (xs ++ [x]) = ins (setOf xs) x.toNat := by simp [setOf]
theorem take_snoc' (xs : List Int) (k : Nat) (h : k < xs.length) : xs.take (k + 1) = xs.take k ++ [xs.getD k 0] := by
  rw [List.take_succ_eq_append_getElem h, List.getD_eq_getElem?_getD, List.getElem?_eq_getElem h]; rfl
set_option maxHeartbeats 1000000 in
set_option maxRecDepth 20000 in
theorem of_any (v : Value) (xs : List Int) (hx : ∀ x ∈ xs, 0 ≤ x ∧ x ≤ 255) (w : World) (hr : ReadB v xs w) : Calls Try.prog 25 #[v] w fun e w' => e = .returned (.agg (mk4 (setOf xs))) ∧ Below w.heap.size w w' := by
  obtain ⟨ad, c, rfl, hlc, hl6, hcell⟩ := hr
  have hgen : ∀ k, k < xs.length → 0 ≤ xs.getD k 0 ∧ xs.getD k 0 ≤ 255 := fun k hk => hx _ (by rw [List.getD_eq_getElem?_getD, List.getElem?_eq_getElem hk]; exact List.getElem_mem hk)
  generalize hn : xs.length = n at *
  have HN := Lib.hid hn; clear hn
  have HG := Lib.hid hgen; clear hgen
  have HC := Lib.hid hcell; clear hcell hx
  go_enter Try.func25, Try.ntmps25
  go_wp2_with fail
  go_loopw [9] (fun i wr => ∃ k : Nat, k ≤ n ∧ i = .int .i64 k ∧ Below w.heap.size w wr ∧ Hid (Blk w.heap.size (mk4 fun _ => false) 24 wr) ∧ Hid (Blk (w.heap.size + 1) (mk4 (setOf (xs.take k))) 24 wr)) (fun i _ => n - (intOf i).toNat)
  case atStart =>
    refine ⟨0, by omega, rfl, ((Below.refl _ _).alloc (Nat.le_refl _) _).alloc (by simp) _, ?_, ?_⟩
    · rw [zlit]; exact (Blk.new _ _ _).alloc _
    · rw [show mk4 (setOf (xs.take 0)) = #[Value.int .u64 0, .int .u64 0, .int .u64 0, .int .u64 0] from zlit]
      have := Blk.new (w.alloc (.cells #[Value.int .u64 0, .int .u64 0, .int .u64 0, .int .u64 0] 24)) #[Value.int .u64 0, .int .u64 0, .int .u64 0, .int .u64 0] 24
      show Blk _ _ _ _
      simpa using this
  case round =>
    obtain ⟨k, hk, rfl, hB, hA, hA1⟩ := hrel
    by_cases hlt2 : (k : Int) < n
    · obtain ⟨b, o, rfl, hc⟩ := HC.out (by omega)
      have hc1 := hc k (by omega)
      have hbl := World.block_lt_of_cell? w _ hc1
      have hc2 := (hB.cell (p := ⟨b, o + k, none⟩) hbl).trans hc1
      have hg := HG.out k (by omega)
      have ht := take_snoc' xs k (by rw [HN.out]; omega)
      have HT := Lib.hid ht
      clear ht hc hc1
      generalize hx : xs.getD k 0 = x at *
      have HX := Lib.hid hx; clear hx
      obtain ⟨hg1, hg2⟩ := hg
      go_wp2_with (first | refine wpList_load_row rfl 24 _ rfl (w.heap.size + 1) rfl 24 (mk4 (setOf (xs.take k))) (0, 0) _ hA1.out Try.underlying24 rfl (by rw [mk4_size]; exact infoM) ?_ | fail)
      refine (with_any (setOf (xs.take k)) x hg1 hg2 wr).mono ?_
      rintro e w1 ⟨rfl, hb1⟩
      have hB1 := below_then hB (by have := hA.out.lt; omega) hb1
      have hA1' := hA1.out.below hb1
      have hA0' := hA.out.below hb1
      have HA1 := Lib.hid hA1'; clear hA1' hA1
      have HA0 := Lib.hid hA0'; clear hA0' hA
      go_wp2_with (refine wpList_store_mid rfl 24 _ _ rfl (w.heap.size + 1) 0 (mk4 (ins (setOf (xs.take k)) x.toNat)) rfl rfl (by have := HA1.out.there; rwa [mk4_size] at this ⊢) (by rw [mk4_size]; exact infoM) (mk4_one _) ?_)
      go_roundw
      case rel =>
        refine ⟨k + 1, by omega, by go_num, below_setCells _ (by omega) _ _ _ hB1, setCells_other _ (by omega) _ _ _ HA0.out, ?_⟩
        rw [HT.out, setOf_snoc]
        exact setCells_toList _ _ (by rw [mk4_size, mk4_size]) _ _ _ HA1.out
      case measure => (try simp [intOf]); (try omega)
    · have hxs : xs.take k = xs := List.take_of_length_le (by rw [HN.out]; omega)
      have hA3 := hA1.out
      rw [hxs] at hA3
      have HA3 := Lib.hid hA3
      clear hA3 hxs
      go_wp2_with (first | refine wpList_load_row rfl 24 _ rfl (w.heap.size + 1) rfl 24 (mk4 (setOf xs)) (0, 0) _ HA3.out Try.underlying24 rfl (by rw [mk4_size]; exact infoM) ?_ | refine wpList_store_mid rfl 24 _ _ rfl w.heap.size 0 (mk4 (setOf xs)) rfl rfl (by have := hA.out.there; rwa [mk4_size] at this ⊢) (by rw [mk4_size]; exact infoM) (mk4_one _) ?_)
      have hR := setCells_toList (mk4 fun _ => false) (mk4 (setOf xs)) (by rw [mk4_size, mk4_size]) wr w.heap.size 24 hA.out
      exact bodyPost_ret (v := .agg (mk4 (setOf xs))) (results_cell_row (p := 2) (ty := 24) rfl _ _ w.heap.size 24 (mk4 (setOf xs)) (0, 0) _ rfl hR Try.underlying24 rfl (by rw [mk4_size]; exact infoM)) rfl ⟨rfl, below_setCells _ (by omega) _ _ _ hB⟩
end Go.Proofs.Ytnemnchldjohgaa
