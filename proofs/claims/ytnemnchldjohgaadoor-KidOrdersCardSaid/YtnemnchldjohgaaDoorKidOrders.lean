/- KidOrders: the walk. -/
import Derived.Test.YtnemnchldjohgaaDoorKidAwake
import Derived.Test.YtnemnchldjohgaaDoorOrdMath
import Derived.Test.YtnemnchldjohgaaDoorSame
set_option linter.unusedVariables false
set_option linter.unusedSimpArgs false
namespace Go.Proofs.YtnemnchldjohgaaDoor
open Go.RowKit
attribute [local irreducible] mk4 wd allTo rnk nd ks room left nz kn cnt next prev hat bq kput kdr Hn Dn bt low kdrop Pn En rot fr hr
set_option maxHeartbeats 2000000 in
set_option maxRecDepth 20000 in
theorem orders_any (many turn from_ : Int) (m0 : -9223372036854775808 ≤ many) (m1 : many ≤ 9223372036854775807) (t0 : -9223372036854775808 ≤ turn) (t1 : turn ≤ 9223372036854775807) (w : World) (hL : RL w) :
    Calls Tryd.prog 4 #[.int .i64 many, .int .i64 turn, .int .i64 from_] w fun e w' => e = .returned (.bool true) ∧ Below w.heap.size w w' := by
  have h2 := hL.two
  have hf := apart13 from_
  go_enter Tryd.func4, Tryd.ntmps4
  go_wp2_with fail
  refine (low_any many 257 m0 m1 (by omega) (by omega) _).mono ?_
  rintro e w1 ⟨rfl, rfl⟩
  have hbd := low_bd many 257 (by omega)
  obtain ⟨n, hn⟩ := Int.eq_ofNat_of_zero_le hbd.1
  rw [hn] at hbd ⊢
  have hn6 : n ≤ 256 := by omega
  clear hn hbd
  go_wp2_with fail
  refine (new_any _).mono ?_
  rintro e w1 ⟨rfl, rfl⟩
  have e0 : nd0 = kn (bq 0) (Hn (bt 13 from_) 0) := newK.trans (by unfold Hn bq; rfl)
  have e1 : nd0 = kn (bq 0) (Pn (fr (bt 13 from_) n (low turn 256).toNat) (hr n (low turn 256).toNat) 0) := newK.trans (by unfold Pn bq; rfl)
  obtain ⟨tt, htt⟩ := Int.eq_ofNat_of_zero_le (low_bd turn 256 (by omega)).1
  have htb : tt < 256 := by have := (low_bd turn 256 (by omega)).2; omega
  rw [show (low turn 256).toNat = tt by omega] at e1
  have E0 := Lib.hid e0
  have E1 := Lib.hid e1
  have HT := Lib.hid htt
  clear e0 e1 htt
  have hS := (Sx.start w).new nd0 51
  go_wp2_with fail
  refine (new_any _).mono ?_
  rintro e w1 ⟨rfl, rfl⟩
  have hS0 := hS.new nd0 51
  rw [show (w.alloc (.cells nd0 51)).heap.size = w.heap.size + 1 by simp] at hS0 ⊢
  clear hS
  have hS : Sx w.heap.size w [(w.heap.size, kn (bq 0) (Hn (bt 13 from_) 0), 51), (w.heap.size + 1, kn (bq 0) (Pn (fr (bt 13 from_) n tt) (hr n tt) 0), 51)] ((w.alloc (.cells nd0 51)).alloc (.cells nd0 51)) := by
    rw [← E0.out, ← E1.out]
    exact hS0.less (by simp)
  clear hS0
  generalize ((w.alloc (.cells nd0 51)).alloc (.cells nd0 51)) = wz at *
  go_wp2_with fail
  go_loopw [9] (fun i wr => ∃ k : Nat, k ≤ n ∧ i = .int .i64 k ∧ Sx w.heap.size w [(w.heap.size, kn (bq k) (Hn (bt 13 from_) k), 51), (w.heap.size + 1, kn (bq k) (Pn (fr (bt 13 from_) n tt) (hr n tt) k), 51)] wr) (fun i _ => n - (intOf i).toNat)
  case atStart => exact ⟨0, by omega, rfl, hS⟩
  case round =>
    clear hS
    obtain ⟨k, hk, rfl, hS⟩ := hrel
    by_cases hlt : (k : Int) < n
    · have HS := Lib.hid hS
      clear hS
      go_wp2_with fail
      refine (low_any turn 256 t0 t1 (by omega) (by omega) _).mono ?_
      rintro e w1 ⟨rfl, rfl⟩
      rw [HT.out]
      have hrm := tmod_rot k tt n
      have hrl := rot_lt (n := n) tt k (by omega)
      have hn0 : ((n : Int) == 0) = false := by simp; omega
      have hw2 := bt_wrap64 13 from_ k
      go_wp2_with fail
      rw [hw2, show ((k : Int) + 1) = ((k + 1 : Nat) : Int) by omega]
      refine (kput_k w.heap.size (bq k) (Hn (bt 13 from_) k) (bt 13 from_ k) (k + 1) (bq_lt k) (bt_le 13 from_ k) (by omega) w.heap.size w _ [(w.heap.size + 1, kn (bq k) (Pn (fr (bt 13 from_) n tt) (hr n tt) k), 51)] hL h2 HS.out (Nat.le_refl _) (by simp)).mono ?_
      rintro e w2 ⟨rfl, hS2⟩
      rw [Hn_succ, Hn_cnt hf (k + 1) (by omega), kput_bq k (by omega)] at hS2
      clear HS hw2 hrm
      have hw3 := bt_wrap64 13 from_ (rot n tt k)
      have HS2 := Lib.hid (hS2.less (cs := [(w.heap.size + 1, kn (bq k) (Pn (fr (bt 13 from_) n tt) (hr n tt) k), 51), (w.heap.size, kn (bq (k + 1)) (Hn (bt 13 from_) (k + 1)), 51)]) (by simp))
      clear hS2
      go_wp2_with fail
      rw [hw3, show ((rot n tt k : Int) + 1) = ((rot n tt k + 1 : Nat) : Int) by omega]
      refine (kput_k (w.heap.size + 1) (bq k) (Pn (fr (bt 13 from_) n tt) (hr n tt) k) (bt 13 from_ (rot n tt k)) (rot n tt k + 1) (bq_lt k) (bt_le 13 from_ _) (by omega) w.heap.size w _ [(w.heap.size, kn (bq (k + 1)) (Hn (bt 13 from_) (k + 1)), 51)] hL h2 HS2.out (by omega) (by simp)).mono ?_
      rintro e w3 ⟨rfl, hS3⟩
      rw [Pn_rot, Pn_rot_cnt hf hn6 tt (k + 1) (by omega), kput_bq k (by omega)] at hS3
      clear HS2 hw3
      go_wp2_with fail
      go_roundw
      case rel => exact ⟨k + 1, by omega, by go_num, hS3.less (by simp)⟩
      case measure => (try simp [intOf]); (try omega)
    · have hkn : k = n := by omega
      subst hkn
      rw [turned hf hn6 tt] at hS
      have HS := Lib.hid hS
      have hbl := bq_lt k
      have HCN := Lib.hid (Hn_cnt hf k hn6)
      clear hS hlt hk
      generalize hga : w.heap.size = ga at *
      have HGA := Lib.hid hga
      clear hga
      go_wp2_with fail
      refine (kkind ga _ _ _ (HS.out.blk (ga, kn (bq k) (Hn (bt 13 from_) k), 51) (by simp)) (bq_lt k)).mono ?_
      rintro e w1 ⟨rfl, hb1⟩
      have HS1 := Lib.hid (HS.out.below hb1)
      clear HS hb1
      go_wp2_with fail
      refine (kkind (ga + 1) _ _ _ (HS1.out.blk (ga + 1, kn (bq k) (Hn (bt 13 from_) k), 51) (by simp)) (bq_lt k)).mono ?_
      rintro e w2 ⟨rfl, hb2⟩
      have HS2 := Lib.hid (HS1.out.below hb2)
      clear HS1 hb2
      go_wp2_with fail
      refine (klen ga _ _ _ (HS2.out.blk (ga, kn (bq k) (Hn (bt 13 from_) k), 51) (by simp))).mono ?_
      rintro e w3 ⟨rfl, hb3⟩
      have HS3 := Lib.hid (HS2.out.below hb3)
      clear HS2 hb3
      rw [HCN.out]
      go_wp2_with fail
      refine (klen (ga + 1) _ _ _ (HS3.out.blk (ga + 1, kn (bq k) (Hn (bt 13 from_) k), 51) (by simp))).mono ?_
      rintro e w4 ⟨rfl, hb4⟩
      have HS4 := Lib.hid (HS3.out.below hb4)
      clear HS3 hb4
      rw [HCN.out]
      go_wp2_with fail
      refine (kbytes ga _ _ _ (HS4.out.blk (ga, kn (bq k) (Hn (bt 13 from_) k), 51) (by simp))).mono ?_
      rintro e w5 ⟨va, rfl, hb5, hOa⟩
      have HS5 := Lib.hid (HS4.out.below hb5)
      have HRa := Lib.hid hOa.reads
      clear HS4 hb5 hOa
      go_wp2_with fail
      refine (kbytes (ga + 1) _ _ _ (HS5.out.blk (ga + 1, kn (bq k) (Hn (bt 13 from_) k), 51) (by simp))).mono ?_
      rintro e w6 ⟨vb, rfl, hb6, hOb⟩
      have HS6 := Lib.hid (HS5.out.below hb6)
      have HRb := Lib.hid hOb.reads
      have HRa6 := Lib.hid (HRa.out.below hb6)
      clear HS5 hb6 hOb HRa
      go_wp2_with fail
      refine (same_any va vb _ _ _ HRa6.out HRb.out).mono ?_
      rintro e w7 ⟨rfl, hb7⟩
      rw [decide_eq_true rfl]
      have HS7 := Lib.hid (HS6.out.below hb7)
      clear HS6 hb7 HRa6 HRb
      go_wp2_with fail
      go_loopw [12] (fun i wr => ∃ j : Nat, j ≤ k ∧ i = .int .i64 j ∧ Sx ga w [(ga, kn (bq k) (En (bt 13 from_) k j), 51), (ga + 1, kn (bq k) (Hn (bt 13 from_) k), 51)] wr) (fun i _ => k - (intOf i).toNat)
      case atStart => exact ⟨0, by omega, rfl, by rw [← En_zero]; exact HS7.out⟩
      case round =>
        clear HS7
        obtain ⟨j, hj, rfl, hS⟩ := hrel
        by_cases hlt : (j : Int) < k
        · have HS := Lib.hid hS
          clear hS
          have hw2 := bt_wrap64 13 from_ j
          have hj6 : (j : Int) ≤ 256 := by omega
          have g1 := En_at hf k hn6 j hj j (by omega)
          rw [if_neg (by omega)] at g1
          have g2 := Hn_at hf k hn6 j (by omega)
          rw [if_pos (by omega)] at g2
          have g3 := En_at hf k hn6 (j + 1) (by omega) j (by omega)
          rw [if_pos (by omega)] at g3
          have G1 := Lib.hid g1
          have G2 := Lib.hid g2
          have G3 := Lib.hid g3
          clear g1 g2 g3
          go_wp2_with fail
          rw [hw2]
          clear hw2
          refine (kget ga _ _ _ (HS.out.blk (ga, kn (bq k) (En (bt 13 from_) k j), 51) (by simp)) (bt 13 from_ j) (bt_le 13 from_ j)).mono ?_
          rintro e w8 ⟨rfl, hb8⟩
          rw [G1.out]
          have HS8 := Lib.hid (HS.out.below hb8)
          clear HS hb8
          go_wp2_with fail
          refine (kget (ga + 1) _ _ _ (HS8.out.blk (ga + 1, kn (bq k) (Hn (bt 13 from_) k), 51) (by simp)) (bt 13 from_ j) (bt_le 13 from_ j)).mono ?_
          rintro e w9 ⟨rfl, hb9⟩
          rw [G2.out]
          have HS9 := Lib.hid (HS8.out.below hb9)
          clear HS8 hb9
          go_wp2_with fail
          rw [show (1000 + (j : Int)) = ((1000 + j : Nat) : Int) by omega]
          refine (kput_k ga (bq k) (En (bt 13 from_) k j) (bt 13 from_ j) (1000 + j) (bq_lt k) (bt_le 13 from_ j) (by omega) ga w _ [(ga + 1, kn (bq k) (Hn (bt 13 from_) k), 51)] hL h2 HS9.out (Nat.le_refl _) (by simp)).mono ?_
          rintro e w10 ⟨rfl, hS10⟩
          rw [En_succ, En_cnt hf k hn6 (j + 1) (by omega), kput_same k hn6] at hS10
          have HS10 := Lib.hid hS10
          clear HS9 hS10
          go_wp2_with fail
          refine (kget ga _ _ _ (HS10.out.blk (ga, kn (bq k) (En (bt 13 from_) k (j + 1)), 51) (by simp)) (bt 13 from_ j) (bt_le 13 from_ j)).mono ?_
          rintro e w11 ⟨rfl, hb11⟩
          rw [G3.out, show ((1000 + j : Nat) : Int) = 1000 + (j : Int) by omega]
          have HS11 := Lib.hid (HS10.out.below hb11)
          clear HS10 hb11
          go_wp2_with fail
          go_roundw
          case rel => exact ⟨j + 1, by omega, by go_num, HS11.out⟩
          case measure => (try simp [intOf]); (try omega)
        · have hjk : j = k := by omega
          subst hjk
          have HS := Lib.hid hS
          have HC2 := Lib.hid (En_cnt hf j hn6 j (Nat.le_refl _))
          clear hS hlt hj
          go_wp2_with fail
          refine (kkind ga _ _ _ (HS.out.blk (ga, kn (bq j) (En (bt 13 from_) j j), 51) (by simp)) (bq_lt j)).mono ?_
          rintro e w8 ⟨rfl, hb8⟩
          have HS8 := Lib.hid (HS.out.below hb8)
          clear HS hb8
          go_wp2_with fail
          refine (klen ga _ _ _ (HS8.out.blk (ga, kn (bq j) (En (bt 13 from_) j j), 51) (by simp))).mono ?_
          rintro e w9 ⟨rfl, hb9⟩
          rw [HC2.out]
          have HS9 := Lib.hid (HS8.out.below hb9)
          clear HS8 hb9
          go_wp2_with fail
          refine (awake_any _ (hL.below HS9.out.low h2)).mono ?_
          rintro e w10 ⟨rfl, hb10⟩
          go_wp2_with fail
          go_ret
          exact ⟨rfl, by rw [HGA.out]; exact (HS9.out.below hb10).low⟩
end Go.Proofs.YtnemnchldjohgaaDoor
