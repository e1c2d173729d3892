/- MaskSteps: the walk. -/
import Derived.Test.YtnemnchldjohgaaAwake
set_option linter.unusedVariables false
set_option linter.unusedSimpArgs false
namespace Go.Proofs.Ytnemnchldjohgaa
open Go.RowKit
attribute [local irreducible] mk4 wd bl setOf
theorem OwnB.grownNe {B : Nat} {v : Value} {xs : List Int} {w w1 : World} {row : Option Nat} (h : OwnB B v xs w) (hg : w.grownBy w1 row) (hne : v.ownBlock = none ∨ v.ownBlock ≠ row) : OwnB B v xs w1 := World.ownsRow.kept h hg hne
set_option maxHeartbeats 2000000 in
set_option maxRecDepth 100000 in
theorem steps_any (M : Nat → Bool) (w : World) : Calls Try.prog 4 #[.agg (mk4 M)] w fun e w' => e = .returned (.bool true) ∧ Below w.heap.size w w' := by
  have hz : Coll M (next M (-5)) [] := coll_zero M
  have HZ := Lib.hid hz; clear hz
  have hz := collD_zero M
  have HZD := Lib.hid hz; clear hz
  go_enter Try.func4, Try.ntmps4
  have hS0 := (Sx.start w).new (mk4 M) 23
  go_wp2_with (first | refine wpList_load_G rfl 23 _ rfl w.heap.size (mk4 M) 23 _ rfl (Sx.blk (by assumption) (w.heap.size, mk4 M, 23) (by simp)) Try.underlying23 rfl (by rw [mk4_size]; exact infoW) ?_ | (refine wpList_store_whole rfl 24 _ _ rfl (w.heap.size + 1) #[.int .u64 0, .int .u64 0, .int .u64 0, .int .u64 0] (mk4 M) 24 rfl rfl (by have := Blk.new (w.alloc (.cells (mk4 M) 23)) #[.int .u64 0, .int .u64 0, .int .u64 0, .int .u64 0] 24; simpa using this) (by rw [mk4_size]; rfl) (by rw [mk4_size]; exact infoM) (mk4_one _) ?_; intro w2 hk2 hg2 hz2; have hS2 := ((hS0.alloc (.cells #[.int .u64 0, .int .u64 0, .int .u64 0, .int .u64 0] 24)).grown hg2 (by omega) (by simp)).add hk2; clear hk2 hg2 hS0) | refine wpList_load_G rfl 24 _ rfl (w.heap.size + 1) (mk4 M) 24 _ rfl (Sx.blk (by assumption) (w.heap.size + 1, mk4 M, 24) (by simp)) Try.underlying24 rfl (by rw [mk4_size]; exact infoM) ?_ | fail)
  refine (next_any M (-5) (by omega) (by omega) _).mono ?_
  rintro e w3 ⟨rfl, hb3⟩
  have hR3 : Sr w.heap.size w [(w.heap.size + 1, mk4 M, 24)] [] w3 := ⟨(hS2.below hb3).less (by simp), by simp⟩
  clear hS2 hb3 hz2
  go_wp2_with fail
  go_loopw [4, 6] (fun v i wr => ∃ (n : Int) (xs : List Int), Hid (Coll M n xs) ∧ i = .int .i64 n ∧ Sr w.heap.size w [(w.heap.size + 1, mk4 M, 24)] [(w.heap.size + 2, v, xs)] wr) (fun _ i _ => leftOf i)
  case atStart => exact ⟨next M (-5), [], HZ, rfl, hR3.add (OwnB.nil _ _)⟩
  case round =>
    obtain ⟨n, xs, hC, rfl, hR⟩ := hrel
    clear hR3
    by_cases hn : 0 ≤ n
    · obtain ⟨k, rfl, hk, hM, hxs⟩ : ∃ k : Nat, n = k ∧ k < 256 ∧ M k = true ∧ xs = allTo M k := by
        rcases hC.out with ⟨e, _⟩ | h
        · omega
        · exact h
      have hl : xs.length ≤ 256 := by rw [hxs]; exact Nat.le_trans (allTo_le M k) (by omega)
      have hC2 := coll_next hk hM
      rw [← hxs] at hC2
      have hrk : rank M (k : Int) = xs.length := by
        unfold rank
        rw [show min (k : Int) 256 = k by omega, Int.toNat_natCast, hxs, allTo_length]
      have HC := Lib.hid hC2
      have HM := Lib.hid hM
      have HRK := Lib.hid hrk
      clear hC hC2 hxs hM hrk
      obtain ⟨ad, c, rfl, hlc, _, _⟩ := hR.row.reads
      have hne : ((xs.length : Int) != (xs.length : Int)) = false := by simp
      have hl300 : (xs.length : Int) < 300 := by omega
      go_wp2_with (first | refine wpList_load_G rfl 24 _ rfl (w.heap.size + 1) (mk4 M) 24 _ rfl (Sr.blk (by assumption) (w.heap.size + 1, mk4 M, 24) (by simp)) Try.underlying24 rfl (by rw [mk4_size]; exact infoM) ?_ | (go_at_call 16; refine (rank_any M k (by omega) (by omega) _).mono ?_; rintro e wn ⟨rfl, hb⟩; have hS := Sr.below (by assumption) hb; clear hb; rw [HRK.out]) | (go_at_call 8; refine (has_any M k (by omega) (by omega) _).mono ?_; rintro e wn ⟨rfl, hb⟩; have hS := Sr.below (by assumption) hb; clear hb; rw [Int.toNat_natCast, HM.out]) | (go_at_call 12; refine (next_any M ((k : Int) + 1) (by omega) (by omega) _).mono ?_; rintro e wn ⟨rfl, hb⟩; have hS := Sr.below (by assumption) hb; clear hb) | (at_builtin; refine app_byte (w.heap.size + 2) rfl _ _ rfl (.slice ad xs.length c) xs k rfl rfl (Sr.row (by assumption)) (Nat.succ_le_of_lt (Sr.blk (by assumption) (w.heap.size + 1, mk4 M, 24) (by simp)).lt) (by omega) ?_; intro v1 wn hO2 hG2 _; have hS := Sr.app1 (by assumption) hO2 hG2 (by omega) (by simp) (by simp)) | fail)
      go_roundw
      case rel => exact ⟨_, _, HC, rfl, by assumption⟩
      case measure => exact leftOf_next hk rfl
    · have hxs : xs = allTo M 256 := by
        rcases hC.out with ⟨_, e⟩ | ⟨k, e, _⟩
        · exact e
        · omega
      have HX := Lib.hid hxs
      clear hC hxs
      go_wp2_with (first | refine wpList_load_G rfl 24 _ rfl (w.heap.size + 1) (mk4 M) 24 _ rfl (Sr.blk (by assumption) (w.heap.size + 1, mk4 M, 24) (by simp)) Try.underlying24 rfl (by rw [mk4_size]; exact infoM) ?_ | (go_at_call 14; refine (prev_any M 300 (by omega) (by omega) _).mono ?_; rintro e wn ⟨rfl, hb⟩; have hS := Sr.below (by assumption) hb; clear hb) | fail)
      clear hR
      go_loopw [5, 7] (fun v i wr => ∃ (n : Int) (ys : List Int), Hid (CollD M n ys) ∧ i = .int .i64 n ∧ Sr w.heap.size w [(w.heap.size + 1, mk4 M, 24)] [(w.heap.size + 2, v, ys), (w.heap.size + 2, u4, xs)] wr) (fun _ i _ => (intOf i + 1).toNat)
      case atStart =>
        refine ⟨prev M 300, [], HZD, rfl, ?_⟩
        exact Sr.add (by assumption) (OwnB.nil _ _)
      case round =>
        obtain ⟨m, ys, hC, rfl, hR⟩ := hrel
        clear hS
        by_cases hn2 : 0 ≤ m
        · obtain ⟨k, rfl, hk, hM, hys⟩ : ∃ k : Nat, m = k ∧ k < 256 ∧ M k = true ∧ allTo M 256 = allTo M (k + 1) ++ ys := by
            rcases hC.out with ⟨e, _⟩ | h
            · omega
            · exact h
          have hl := collD_len hys
          have hC2 := collD_next hk hM hys
          have hpb := prv_bd M k
          have hpm : -1 ≤ prev M ((k : Int) - 1) ∧ prev M ((k : Int) - 1) < k := by
            unfold prev
            rw [show min ((k : Int) - 1) 255 + 1 = k by omega, Int.toNat_natCast]
            exact hpb
          have HC := Lib.hid hC2
          have HP := Lib.hid hpm
          clear hC hC2 hys hM hpb hpm
          obtain ⟨ad, c, rfl, hlc, _, _⟩ := hR.row.reads
          have hl300 : (ys.length : Int) < 300 := by omega
          go_wp2_with (first | refine wpList_load_G rfl 24 _ rfl (w.heap.size + 1) (mk4 M) 24 _ rfl (Sr.blk (by assumption) (w.heap.size + 1, mk4 M, 24) (by simp)) Try.underlying24 rfl (by rw [mk4_size]; exact infoM) ?_ | (go_at_call 14; refine (prev_any M ((k : Int) - 1) (by omega) (by omega) _).mono ?_; rintro e wn ⟨rfl, hb⟩; have hS := Sr.below (by assumption) hb; clear hb) | (at_builtin; refine prep_byte (w.heap.size + 2) rfl _ _ rfl (.slice ad ys.length c) ys k rfl rfl (Sr.row (by assumption)) (Nat.succ_le_of_lt (Sr.blk (by assumption) (w.heap.size + 1, mk4 M, 24) (by simp)).lt) (by omega) ?_; intro v1 wn hO2 hb; have hS := ((Sr.below (by assumption) hb).less (bs' := [(w.heap.size + 1, mk4 M, 24)]) (rows' := [(w.heap.size + 2, u4, xs)]) (by simp) (by simp)).add hO2; clear hb) | fail)
          go_roundw
          case rel => exact ⟨_, _, HC, rfl, by assumption⟩
          case measure => have := HP.out; simp [intOf]; omega
        · have hys : ys = allTo M 256 := by
            rcases hC.out with ⟨_, e⟩ | ⟨k, e, _⟩
            · exact e
            · omega
          have HY := Lib.hid hys
          clear hC hys
          go_wp2_with (first | refine wpList_load_G rfl 24 _ rfl (w.heap.size + 1) (mk4 M) 24 _ rfl (Sr.blk (by assumption) (w.heap.size + 1, mk4 M, 24) (by simp)) Try.underlying24 rfl (by rw [mk4_size]; exact infoM) ?_ | fail)
          refine (all_any M _).mono ?_
          rintro e wa ⟨va, rfl, hba, hoa⟩
          have hRa := hR.below hba
          have hra := hoa.reads
          clear hR hba hoa
          go_wp2_with fail
          refine (same_any u4 va xs (allTo M 256) wa hRa.row2.reads hra).mono ?_
          rintro e wb ⟨rfl, hbb⟩
          rw [decide_eq_true HX.out]
          have hRb := hRa.below hbb
          clear hRa hbb hra
          go_wp2_with fail
          refine (same_any u5 u4 ys xs wb hRb.row.reads hRb.row2.reads).mono ?_
          rintro e wc ⟨rfl, hbc⟩
          rw [decide_eq_true (HY.out.trans HX.out.symm)]
          have hRc := hRb.below hbc
          clear hRb hbc
          have hlen : rnk M 256 = xs.length := by rw [HX.out, allTo_length]
          have HL := Lib.hid hlen
          clear hlen
          obtain ⟨ad, c, rfl, hlc, hl6, _⟩ := hRc.row2.reads
          have heq : ((xs.length : Int) == (xs.length : Int)) = true := by simp
          go_wp2_with (first | refine wpList_load_G rfl 24 _ rfl (w.heap.size + 1) (mk4 M) 24 _ rfl (Sr.blk (by assumption) (w.heap.size + 1, mk4 M, 24) (by simp)) Try.underlying24 rfl (by rw [mk4_size]; exact infoM) ?_ | fail)
          refine (count_any M _).mono ?_
          rintro e wd ⟨rfl, hbd⟩
          rw [HL.out]
          have hRd := hRc.below hbd
          clear hRc hbd
          go_wp2_with (first | refine wpList_load_G rfl 24 _ rfl (w.heap.size + 1) (mk4 M) 24 _ rfl (Sr.blk (by assumption) (w.heap.size + 1, mk4 M, 24) (by simp)) Try.underlying24 rfl (by rw [mk4_size]; exact infoM) ?_ | fail)
          refine (rank_any M 999 (by omega) (by omega) _).mono ?_
          rintro e we ⟨rfl, hbe⟩
          rw [show rank M 999 = xs.length from HL.out]
          have hRe := hRd.below hbe
          clear hRd hbe
          go_wp2_with fail
          refine (awake_any _).mono ?_
          rintro e wf ⟨rfl, hbf⟩
          have hRf := hRe.below hbf
          go_wp2_with fail
          go_ret
          exact ⟨rfl, hRf.sx.low⟩
end Go.Proofs.Ytnemnchldjohgaa
