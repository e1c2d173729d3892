/- KidBands: the walk. -/
import Derived.Test.YtnemnchldjohgaaDoorKidAwake
import Derived.Test.YtnemnchldjohgaaDoorKidMath
import Derived.Test.YtnemnchldjohgaaDoorSame
set_option linter.unusedVariables false
set_option linter.unusedSimpArgs false
namespace Go.Proofs.YtnemnchldjohgaaDoor
open Go.RowKit
attribute [local irreducible] mk4 wd allTo rnk nd ks room left nz kn cnt next prev hat bq kput kdr Hn Dn bt low kdrop
set_option maxHeartbeats 2000000 in
set_option maxRecDepth 20000 in
theorem bands_any (many from_ take : Int) (m0 : -9223372036854775808 ≤ many) (m1 : many ≤ 9223372036854775807) (t0 : -9223372036854775808 ≤ take) (t1 : take ≤ 9223372036854775807) (w : World) (hL : RL w) :
    Calls Tryd.prog 3 #[.int .i64 many, .int .i64 from_, .int .i64 take] w fun e w' => e = .returned (.bool true) ∧ Below w.heap.size w w' := by
  have h2 := hL.two
  have hf := apart7 from_
  go_enter Tryd.func3, Tryd.ntmps3
  go_wp2_with fail
  refine (low_any many 257 m0 m1 (by omega) (by omega) _).mono ?_
  rintro e w1 ⟨rfl, rfl⟩
  have hbd := low_bd many 257 (by omega)
  obtain ⟨n, hn⟩ := Int.eq_ofNat_of_zero_le hbd.1
  rw [hn] at hbd ⊢
  go_wp2_with fail
  refine (low_any take 257 t0 t1 (by omega) (by omega) _).mono ?_
  rintro e w1 ⟨rfl, rfl⟩
  have hbd2 := low_bd take 257 (by omega)
  obtain ⟨tk, htk⟩ := Int.eq_ofNat_of_zero_le hbd2.1
  rw [htk] at hbd2 ⊢
  have hn6 : n ≤ 256 := by omega
  have ht6 : tk ≤ 256 := by omega
  clear hn htk hbd hbd2 m0 m1 t0 t1
  go_wp2_with fail
  refine (new_any _).mono ?_
  rintro e w1 ⟨rfl, rfl⟩
  have hS : Sx w.heap.size w [(w.heap.size, kn (bq 0) (Hn (bt 7 from_) 0), 51)] (w.alloc (.cells nd0 51)) := by
    have h := (Sx.start w).new nd0 51
    have e : nd0 = kn (bq 0) (Hn (bt 7 from_) 0) := newK.trans (by unfold Hn bq; rfl)
    rw [e] at h
    rw [e]
    exact h
  go_wp2_with fail
  go_loopw [8, 9] (fun u i wr => ∃ k : Nat, k ≤ n ∧ u = .int .i64 (6 + ((bq k : Nat) : Int)) ∧ i = .int .i64 k ∧ Sx w.heap.size w [(w.heap.size, kn (bq k) (Hn (bt 7 from_) k), 51)] wr) (fun _ i _ => n - (intOf i).toNat)
  case atStart => exact ⟨0, by omega, by unfold bq; rfl, rfl, hS⟩
  case round =>
    clear hS
    obtain ⟨k, hk, rfl, rfl, hS⟩ := hrel
    by_cases hlt : (k : Int) < n
    · have hw2 := bt_wrap64 7 from_ k
      have hbl := bq_lt k
      have HS := Lib.hid hS
      clear hS
      go_wp2_with fail
      rw [hw2, show ((k : Int) + 1) = ((k + 1 : Nat) : Int) by omega]
      refine (kput_k w.heap.size (bq k) (Hn (bt 7 from_) k) (bt 7 from_ k) (k + 1) (bq_lt k) (bt_le 7 from_ k) (by omega) w.heap.size w _ [] hL h2 HS.out (Nat.le_refl _) (by simp)).mono ?_
      rintro e w2 ⟨rfl, hS2⟩
      rw [Hn_succ, Hn_cnt hf (k + 1) (by omega), kput_bq k (by omega)] at hS2
      clear HS hw2
      have hcases : k = 4 ∨ k = 16 ∨ k = 48 ∨ (k ≠ 4 ∧ k ≠ 16 ∧ k ≠ 48) := by omega
      have fin : ∀ w3 : World, Sx w.heap.size w [(w.heap.size, kn (bq (k + 1)) (Hn (bt 7 from_) (k + 1)), 51)] w3 → cnt (Hn (bt 7 from_) (k + 1)) = k + 1 := fun _ _ => Hn_cnt hf (k + 1) (by omega)
      have hcn := fin _ hS2
      clear fin
      rcases hcases with hk4 | hk4 | hk4 | hk4
      all_goals
        try have hup := bq_up (k := k) (by omega)
        try have hup := bq_same (k := k) (by omega)
        try have he5 : ((k : Int) + 1 == 5) = true := by rw [hk4]; decide
        try have he5 : ((k : Int) + 1 == 5) = false := by simp; omega
        try have he6 : ((k : Int) + 1 == 17) = true := by rw [hk4]; decide
        try have he6 : ((k : Int) + 1 == 17) = false := by simp; omega
        try have he7 : ((k : Int) + 1 == 49) = true := by rw [hk4]; decide
        try have he7 : ((k : Int) + 1 == 49) = false := by simp; omega
        have HUP := Lib.hid hup
        have HCN := Lib.hid hcn
        clear hup hcn hk4
        go_wp2_with fail
        refine (kkind w.heap.size _ _ _ (hS2.blk (w.heap.size, kn (bq (k + 1)) (Hn (bt 7 from_) (k + 1)), 51) (by simp)) (bq_lt (k + 1))).mono ?_
        rintro e w3 ⟨rfl, hb3⟩
        have hS3 := hS2.below hb3
        clear hb3 hS2
        rw [show (6 + ((bq (k + 1) : Nat) : Int)) = 6 + ((bq k : Nat) : Int) + (((bq (k + 1) : Nat) : Int) - ((bq k : Nat) : Int)) by omega, HUP.out]
        first
          | rw [show (((bq k + 1 : Nat) : Int) - ((bq k : Nat) : Int)) = 1 by omega]
          | rw [show (((bq k : Nat) : Int) - ((bq k : Nat) : Int)) = 0 by omega, Int.add_zero]
        go_wp2_with fail
        refine (klen w.heap.size _ _ _ (hS3.blk (w.heap.size, kn (bq (k + 1)) (Hn (bt 7 from_) (k + 1)), 51) (by simp))).mono ?_
        rintro e w4 ⟨rfl, hb4⟩
        have hS4 := hS3.below hb4
        clear hb4 hS3
        rw [HCN.out, show ((k + 1 : Nat) : Int) = (k : Int) + 1 by omega]
        go_wp2_with fail
        go_roundw
        case rel => exact ⟨k + 1, by omega, by (rw [HUP.out]); try go_num, by go_num, hS4⟩
        case measure => (try simp [intOf]); (try omega)
    · have hkn : k = n := by omega
      subst hkn
      rw [Dn_zero] at hS
      have HS := Lib.hid hS
      clear hS hlt hk
      go_wp2_with fail
      go_loopw [8, 10] (fun u i wr => ∃ j q : Nat, j ≤ k ∧ Band q (k - j) ∧ u = .int .i64 (6 + (q : Int)) ∧ i = .int .i64 j ∧ Sx w.heap.size w [(w.heap.size, kn q (Dn (bt 7 from_) k j), 51)] wr) (fun _ i _ => k - (intOf i).toNat)
      case atStart => exact ⟨0, bq k, by omega, by simpa using band_bq k, rfl, rfl, HS.out⟩
      case round =>
        clear HS
        obtain ⟨j, q, hj, hbq, rfl, rfl, hS⟩ := hrel
        have hq4 : q < 4 := hbq.1
        by_cases hlt : (j : Int) < k
        · by_cases hlt2 : (j : Int) < tk
          · obtain ⟨c, hc⟩ : ∃ c, k = j + c + 1 := ⟨k - j - 1, by omega⟩
            have hw2 := bt_wrap64 7 from_ j
            have HS := Lib.hid hS
            have HQ := Lib.hid hbq
            have HC := Lib.hid hc
            clear hS hbq hc
            go_wp2_with fail
            rw [hw2]
            refine (kdrop_k w.heap.size q (Dn (bt 7 from_) k j) (bt 7 from_ j) hq4 (bt_le 7 from_ j) w.heap.size w _ [] hL h2 HS.out (Nat.le_refl _) (by simp)).mono ?_
            rintro e w2 ⟨rfl, hS2⟩
            obtain ⟨g1, g2, g3, g4⟩ := Dn_hit hf k hn6 j c HC.out q
            rw [Dn_succ, g3] at hS2
            rw [g1, g2, show ((j + 1 : Nat) : Int) = (j : Int) + 1 by omega]
            clear HS hw2 g1 g2 g3
            have HG := Lib.hid g4
            clear g4
            go_wp2_with fail
            refine (klen w.heap.size _ _ _ (hS2.blk (w.heap.size, kn (kdrop q c) (Dn (bt 7 from_) k (j + 1)), 51) (by simp))).mono ?_
            rintro e w3 ⟨rfl, hb3⟩
            have hS3 := hS2.below hb3
            clear hb3 hS2
            rw [HG.out, show ((c : Nat) : Int) = (k : Int) - 1 - j by have := HC.out; omega]
            obtain ⟨hkd, hband⟩ := kdrop_band (q := q) (c := c) (by have := HQ.out; have hc := HC.out; rwa [show k - j = c + 1 by omega] at this)
            have HB := Lib.hid hband
            clear hband
            have hcases : (q = 3 ∧ c = 40) ∨ (q = 3 ∧ c ≠ 40) ∨ (q = 2 ∧ c = 12) ∨ (q = 2 ∧ c ≠ 12) ∨ (q = 1 ∧ c = 3) ∨ (q = 1 ∧ c ≠ 3) ∨ q = 0 := by omega
            rcases hcases with hx | hx | hx | hx | hx | hx | hx
            all_goals
              have hc := HC.out
              try have hk' : kdrop q c = q - 1 := by rw [hkd, if_pos (by omega)]
              try have hk' : kdrop q c = q := by rw [hkd, if_neg (by omega)]
              try have hn7 : ((q - 1 : Nat) : Int) = (q : Int) - 1 := by omega
              try have e40 : ((k : Int) - 1 - j == 40) = true := by simp; omega
              try have e40 : ((k : Int) - 1 - j == 40) = false := by simp; omega
              try have e12 : ((k : Int) - 1 - j == 12) = true := by simp; omega
              try have e12 : ((k : Int) - 1 - j == 12) = false := by simp; omega
              try have e3 : ((k : Int) - 1 - j == 3) = true := by simp; omega
              try have e3 : ((k : Int) - 1 - j == 3) = false := by simp; omega
              try have q9 : (6 + (q : Int) == 9) = true := by simp; omega
              try have q9 : (6 + (q : Int) == 9) = false := by simp; omega
              try have q8 : (6 + (q : Int) == 8) = true := by simp; omega
              try have q8 : (6 + (q : Int) == 8) = false := by simp; omega
              try have q7 : (6 + (q : Int) == 7) = true := by simp; omega
              try have q7 : (6 + (q : Int) == 7) = false := by simp; omega
              have HK := Lib.hid hk'
              clear hk' hkd hx hc
              go_wp2_with fail
              refine (kkind w.heap.size _ _ _ (hS3.blk (w.heap.size, kn (kdrop q c) (Dn (bt 7 from_) k (j + 1)), 51) (by simp)) HB.out.1).mono ?_
              rintro e w4 ⟨rfl, hb4⟩
              have hS4 := hS3.below hb4
              clear hb4 hS3
              rw [HK.out]
              try rw [hn7, show (6 + ((q : Int) - 1)) = 6 + (q : Int) - 1 by omega]
              go_wp2_with fail
              go_roundw
              case rel => have hc := HC.out; exact ⟨j + 1, kdrop q c, by omega, by have := HB.out; rwa [show k - (j + 1) = c by omega], by (rw [HK.out]); try go_num, by go_num, hS4⟩
              case measure => (try simp [intOf]); (try omega)
          · have HS := Lib.hid hS
            clear hS hbq hj
            go_wp2_with fail
            refine (nil_drop _).mono ?_
            rintro e w2 ⟨rfl, rfl⟩
            go_wp2_with fail
            refine (nil_put _).mono ?_
            rintro e w3 ⟨rfl, rfl⟩
            go_wp2_with fail
            refine (nil_len _).mono ?_
            rintro e w4 ⟨rfl, rfl⟩
            go_wp2_with fail
            refine (nil_kind _).mono ?_
            rintro e w5 ⟨rfl, rfl⟩
            go_wp2_with fail
            refine (nil_bytes _).mono ?_
            rintro e w6 ⟨rfl, rfl⟩
            go_wp2_with fail
            refine (awake_any _ (hL.below HS.out.low h2)).mono ?_
            rintro e w7 ⟨rfl, hb7⟩
            go_wp2_with fail
            go_ret
            exact ⟨rfl, (HS.out.below hb7).low⟩
        · have HS := Lib.hid hS
          clear hS hbq hj
          go_wp2_with fail
          refine (nil_drop _).mono ?_
          rintro e w2 ⟨rfl, rfl⟩
          go_wp2_with fail
          refine (nil_put _).mono ?_
          rintro e w3 ⟨rfl, rfl⟩
          go_wp2_with fail
          refine (nil_len _).mono ?_
          rintro e w4 ⟨rfl, rfl⟩
          go_wp2_with fail
          refine (nil_kind _).mono ?_
          rintro e w5 ⟨rfl, rfl⟩
          go_wp2_with fail
          refine (nil_bytes _).mono ?_
          rintro e w6 ⟨rfl, rfl⟩
          go_wp2_with fail
          refine (awake_any _ (hL.below HS.out.low h2)).mono ?_
          rintro e w7 ⟨rfl, hb7⟩
          go_wp2_with fail
          go_ret
          exact ⟨rfl, (HS.out.below hb7).low⟩
end Go.Proofs.YtnemnchldjohgaaDoor
