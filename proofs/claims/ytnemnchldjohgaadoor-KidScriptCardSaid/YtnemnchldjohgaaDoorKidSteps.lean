/- KidSteps: the walk. -/
import Derived.Test.YtnemnchldjohgaaDoorKidAwake
import Derived.Test.YtnemnchldjohgaaDoorStepMath
set_option linter.unusedVariables false
set_option linter.unusedSimpArgs false
namespace Go.Proofs.YtnemnchldjohgaaDoor
open Go.RowKit
/-- A slice of bools that can be read. -/
def ReadT (v : Value) (ts : List Bool) (w : World) : Prop :=
  ∃ ad c, v = .slice ad ts.length c ∧ ts.length ≤ 9223372036854775807 ∧ (0 < ts.length → ∃ b o, ad = some ⟨b, o, none⟩ ∧ ∀ j, j < ts.length → w.cell? ⟨b, o + j, none⟩ = some (.bool (ts.getD j false)))
theorem infoH : (Tryd.prog.info? 38).map (·.size) = some 256 := by kernel_rfl
theorem zeroH : (Tryd.prog.info? 38).map (·.zero) = some (some (.agg (hs fun _ => 0))) := by kernel_rfl
attribute [local irreducible] mk4 wd allTo rnk nd ks room left nz kn cnt next prev hat bq kput kdr kdrop hs upd
set_option maxHeartbeats 2000000 in
set_option maxRecDepth 20000 in
theorem steps_any (u v : Value) (xs : List Int) (ts : List Bool) (hx : ∀ x ∈ xs, 0 ≤ x ∧ x ≤ 255) (w : World) (hL : RL w) (hu : ReadB u xs w) (hv : ReadT v ts w) :
    Calls Tryd.prog 5 #[u, v] w fun e w' => e = .returned (.bool true) ∧ Below w.heap.size w w' := by
  have h2 := hL.two
  obtain ⟨ad, c, rfl, hlc, hl6, hcell⟩ := hu
  obtain ⟨ad2, c2, rfl, hl7, hcell2⟩ := hv
  have hgen : ∀ k, k < xs.length → 0 ≤ xs.getD k 0 ∧ xs.getD k 0 ≤ 255 := fun k hk => hx _ (by rw [List.getD_eq_getElem?_getD, List.getElem?_eq_getElem hk]; exact List.getElem_mem hk)
  generalize hn : xs.length = n at *
  generalize hm : ts.length = m at *
  have HN := Lib.hid hn; clear hn
  have HM := Lib.hid hm; clear hm
  have HG := Lib.hid hgen; clear hgen
  have HC := Lib.hid hcell; clear hcell hx
  have HC2 := Lib.hid hcell2; clear hcell2
  by_cases hbig : (n : Int) > 256 ∨ (m : Int) > 256
  · by_cases hb1 : (n : Int) > 256
    · go_enter Tryd.func5, Tryd.ntmps5
      go_wp2_with fail
      refine (awake_any _ hL).mono ?_
      rintro e w1 ⟨rfl, hb⟩
      go_wp2_with fail
      go_ret
      exact ⟨rfl, hb⟩
    · have hb2 : (m : Int) > 256 := by omega
      go_enter Tryd.func5, Tryd.ntmps5
      go_wp2_with fail
      refine (awake_any _ hL).mono ?_
      rintro e w1 ⟨rfl, hb⟩
      go_wp2_with fail
      go_ret
      exact ⟨rfl, hb⟩
  · have hn6 : (n : Int) ≤ 256 := by omega
    have hm6 : (m : Int) ≤ 256 := by omega
    clear hbig
    go_enter Tryd.func5, Tryd.ntmps5
    go_wp2_with fail
    refine (new_any _).mono ?_
    rintro e w1 ⟨rfl, rfl⟩
    have hS := (Sx.start w).new nd0 51
    go_wp2_with (first | refine wpList_alloc_zero rfl 38 rfl _ zeroH ?_ | fail)
    have hS1 := hS.new (hs fun _ => 0) 38
    rw [show (w.alloc (.cells nd0 51)).heap.size = w.heap.size + 1 by simp] at hS1
    have hS2 : Sx w.heap.size w [(w.heap.size, kn 0 (fun _ => 0), 51), (w.heap.size + 1, hs fun _ => 0, 38)] ((w.alloc (.cells nd0 51)).alloc (.cells (hs fun _ => 0) 38)) := by
      rw [← newK]
      exact hS1.less (by simp)
    clear hS hS1
    generalize ((w.alloc (.cells nd0 51)).alloc (.cells (hs fun _ => 0) 38)) = wz at *
    generalize hga : w.heap.size = ga at *
    have HGA := Lib.hid hga
    clear hga
    have HS2 := Lib.hid hS2
    clear hS2
    go_loopw [7] (fun i wr => ∃ (k q : Nat) (H : Nat → Nat), k ≤ n ∧ q < 4 ∧ i = .int .i64 k ∧ Sx ga w [(ga, kn q H, 51), (ga + 1, hs H, 38)] wr) (fun i _ => n - (intOf i).toNat)
    case atStart => exact ⟨0, 0, fun _ => 0, by omega, by omega, rfl, HS2.out⟩
    case round =>
      clear HS2
      obtain ⟨k, q, H, hk, hq, rfl, hS⟩ := hrel
      by_cases hlt : (k : Int) < n
      · obtain ⟨b, o, rfl, hc⟩ := HC.out (by omega)
        have hc1 := hc k (by omega)
        obtain ⟨xg0, xg1⟩ := HG.out k (by omega)
        obtain ⟨xb, hxb⟩ := Int.eq_ofNat_of_zero_le xg0
        rw [hxb] at hc1 xg1
        have hb255 : xb ≤ 255 := by omega
        have hblk := World.block_lt_of_cell? w _ hc1
        have hc2 := (hS.low.cell (p := ⟨b, o + k, none⟩) (by rw [← HGA.out]; exact hblk)).trans hc1
        have HS := Lib.hid hS
        have HC1 := Lib.hid hc1
        have HBL := Lib.hid hblk
        clear hS hc hc1 hxb xg0 xg1 hblk
        go_wp2_with fail
        rw [show ((k : Int) + 1) = ((k + 1 : Nat) : Int) by omega]
        refine (kput_k ga q H xb (k + 1) hq hb255 (by omega) ga w _ [(ga + 1, hs H, 38)] hL h2 HS.out (Nat.le_refl _) (by simp)).mono ?_
        rintro e w2 ⟨rfl, hS3⟩
        have hc3 := (hS3.low.cell (p := ⟨b, o + k, none⟩) (by rw [← HGA.out]; exact HBL.out)).trans HC1.out
        have hbh := hS3.blk (ga + 1, hs H, 38) (by simp)
        have hc4 := (hbh.cell xb).trans (hs_get H xb (by omega))
        have hf4 : w2.frozen? ⟨ga + 1, xb, none⟩ = false := hbh.frozen xb
        have HS3 := Lib.hid hS3
        clear HS hc2 hS3 hbh
        have hxlt : (xb : Int) < 256 := by omega
        go_wp2_with fail
        go_roundw
        case rel =>
          have h5 := Sx.set (HS3.out.less (cs := [(ga + 1, hs H, 38), (ga, kn (kput q (cnt (upd H xb (k + 1)))) (upd H xb (k + 1)), 51)]) (by simp)) (by omega) (by simp) xb (.int .u32 ((k + 1 : Nat) : Int))
          rw [hs_set] at h5
          exact ⟨k + 1, kput q (cnt (upd H xb (k + 1))), upd H xb (k + 1), by omega, kput_lt hq (cnt_le _), by go_num, h5.less (by simp)⟩
        case measure => (try simp [intOf]); (try omega)
      · have hkn : k = n := by omega
        subst hkn
        have HS := Lib.hid hS
        clear hS hlt hk
        go_wp2_with fail
        go_loopw [8] (fun i wr => ∃ (j q : Nat) (H : Nat → Nat), j ≤ k ∧ q < 4 ∧ i = .int .i64 j ∧ Sx ga w [(ga, kn q H, 51), (ga + 1, hs H, 38)] wr) (fun i _ => k - (intOf i).toNat)
        case atStart => exact ⟨0, q, H, by omega, hq, rfl, HS.out⟩
        case round =>
          clear HS
          clear hq
          obtain ⟨j, q, H, hj, hq, rfl, hS⟩ := hrel
          by_cases hlt : (j : Int) < k ∧ (j : Int) < m
          · obtain ⟨hlt1, hlt2⟩ := hlt
            obtain ⟨b, o, rfl, hc⟩ := HC.out (by omega)
            obtain ⟨b2, o2, rfl, hcT⟩ := HC2.out (by omega)
            have hc1 := hc j (by omega)
            have hT1 := hcT j (by omega)
            obtain ⟨xg0, xg1⟩ := HG.out j (by omega)
            obtain ⟨xb, hxb⟩ := Int.eq_ofNat_of_zero_le xg0
            rw [hxb] at hc1 xg1
            have hb255 : xb ≤ 255 := by omega
            have hblk := World.block_lt_of_cell? w _ hc1
            have hblk2 := World.block_lt_of_cell? w _ hT1
            have hc2 := (hS.low.cell (p := ⟨b, o + j, none⟩) (by rw [← HGA.out]; exact hblk)).trans hc1
            have hT2 := (hS.low.cell (p := ⟨b2, o2 + j, none⟩) (by rw [← HGA.out]; exact hblk2)).trans hT1
            have HS := Lib.hid hS
            have HC1 := Lib.hid hc1
            have HBL := Lib.hid hblk
            clear hS hc hc1 hxb xg0 xg1 hblk hcT hT1 hblk2
            cases htb : ts.getD j false
            · rw [htb] at hT2
              have HTB := Lib.hid htb
              clear htb
              go_wp2_with fail
              go_roundw
              case rel => exact ⟨j + 1, q, H, by omega, hq, by go_num, HS.out⟩
              case measure => (try simp [intOf]); (try omega)
            · rw [htb] at hT2
              have HTB := Lib.hid htb
              clear htb
              go_wp2_with fail
              refine (kdrop_k ga q H xb hq hb255 ga w _ [(ga + 1, hs H, 38)] hL h2 HS.out (Nat.le_refl _) (by simp)).mono ?_
              rintro e w2 ⟨rfl, hS3⟩
              have hc3 := (hS3.low.cell (p := ⟨b, o + j, none⟩) (by rw [← HGA.out]; exact HBL.out)).trans HC1.out
              have hbh := hS3.blk (ga + 1, hs H, 38) (by simp)
              have hc4 := (hbh.cell xb).trans (hs_get H xb (by omega))
              have hf4 : w2.frozen? ⟨ga + 1, xb, none⟩ = false := hbh.frozen xb
              have HS3 := Lib.hid hS3
              clear HS hc2 hS3 hbh hT2
              have hxlt : (xb : Int) < 256 := by omega
              go_wp2_with fail
              go_roundw
              case rel =>
                have h5 := Sx.set (HS3.out.less (cs := [(ga + 1, hs H, 38), (ga, kn (kdr H q xb) (upd H xb 0), 51)]) (by simp)) (by omega) (by simp) xb (.int .u32 ((0 : Nat) : Int))
                rw [hs_set] at h5
                exact ⟨j + 1, kdr H q xb, upd H xb 0, by omega, kdr_lt hq, by go_num, h5.less (by simp)⟩
              case measure => (try simp [intOf]); (try omega)
          · have HS := Lib.hid hS
            clear hS
            by_cases hlt1 : (j : Int) < k
            · have hlt2 : ¬ (j : Int) < m := by omega
              clear hlt
              go_wp2_with fail
              generalize hMM : nz H = M at *
              have HMM := Lib.hid hMM
              clear hMM hj
              go_loopw [9, 10, 11] (fun mv lv iv wr => ∃ s : Nat, s ≤ 256 ∧ Hid (s = 0 ∨ M (s - 1) = true) ∧ mv = .int .i64 ((rnk M s : Nat) : Int) ∧ lv = .int .i64 ((s : Int) - 1) ∧ iv = .int .i64 ((rnk M s : Nat) : Int) ∧ Sx ga w [(ga, kn q H, 51), (ga + 1, hs H, 38)] wr) (fun _ lv _ _ => (256 - intOf lv).toNat)
              case atStart => exact ⟨0, by omega, Or.inl rfl, by rw [rnk_zero]; rfl, rfl, by rw [rnk_zero]; rfl, HS.out⟩
              case round =>
                clear HS
                obtain ⟨s, hs6, HM1, rfl, rfl, rfl, hS⟩ := hrel
                have hr6 : ((rnk M s : Nat) : Int) ≤ 256 := by have := rnk_le M s; omega
                have HS := Lib.hid hS
                clear hS
                have hs1 : (s : Int) - 1 + 1 = s := by omega
                go_wp2_with fail
                try rw [hs1]
                refine (knext ga q H _ (HS.out.blk (ga, kn q H, 51) (by simp)) (s : Int) (by omega) (by omega)).mono ?_
                rintro e w2 ⟨rfl, hb2⟩
                have HS3 := Lib.hid (HS.out.below hb2)
                clear HS hb2 hs1
                rw [HMM.out]
                rcases next_cases M s hs6 with ⟨hx, hR⟩ | ⟨nx, hx, hnx1, hnx2, hnx3, hnx4⟩
                · rw [hx, show hat H (-1) = 0 from hat_neg H]
                  have HR := Lib.hid hR
                  clear hx hR
                  go_wp2_with fail
                  go_loopw [14, 15] (fun wv xv wr => ∃ x : Nat, x ≤ 256 ∧ wv = .int .i64 ((rnk M x : Nat) : Int) ∧ xv = .int .i64 (x : Int) ∧ Sx ga w [(ga, kn q H, 51), (ga + 1, hs H, 38)] wr) (fun _ xv _ => (256 - intOf xv).toNat)
                  case atStart => exact ⟨0, by omega, by rw [rnk_zero]; rfl, rfl, HS3.out⟩
                  case round =>
                    clear HS3
                    obtain ⟨x, hx6, rfl, rfl, hS⟩ := hrel
                    have hrx : ((rnk M x : Nat) : Int) ≤ 256 := by have := rnk_le M x; omega
                    by_cases hlt9 : (x : Int) < 256
                    · have hbh := hS.blk (ga + 1, hs H, 38) (by simp)
                      have hc4 := (hbh.cell x).trans (hs_get H x (by omega))
                      have HS4 := Lib.hid hS
                      clear hS hbh
                      cases hMx : M x
                      · have h0 : ((H x : Int) != 0) = false := by have := hMx; rw [← HMM.out] at this; have h1 := nz_false this; simp [h1]
                        have hrn := rnk_no hMx
                        have HRN := Lib.hid hrn
                        clear hrn hMx
                        go_wp2_with fail
                        go_roundw
                        case rel => exact ⟨x + 1, by omega, by rw [HRN.out], by go_num, HS4.out⟩
                        case measure => (try simp [intOf]); (try omega)
                      · have h0 : ((H x : Int) != 0) = true := by have := hMx; rw [← HMM.out] at this; have h1 := nz_true this; simp; omega
                        have hrn := rnk_yes hMx
                        have HRN := Lib.hid hrn
                        clear hrn hMx
                        go_wp2_with fail
                        go_roundw
                        case rel => exact ⟨x + 1, by omega, by rw [HRN.out]; go_num, by go_num, HS4.out⟩
                        case measure => (try simp [intOf]); (try omega)
                    · have hx9 : x = 256 := by omega
                      subst hx9
                      have HS4 := Lib.hid hS
                      clear hS hlt9 hx6
                      obtain ⟨hp0, hp1⟩ := prev_last M
                      have HP0 := Lib.hid hp0
                      have HP1 := Lib.hid hp1
                      clear hp0 hp1
                      go_wp2_with fail
                      refine (kprev ga q H _ (HS4.out.blk (ga, kn q H, 51) (by simp)) 255 (by omega) (by omega)).mono ?_
                      rintro e w3 ⟨rfl, hb3⟩
                      have HS5 := Lib.hid (HS4.out.below hb3)
                      clear HS4 hb3
                      rw [HMM.out]
                      rcases Nat.eq_zero_or_pos s with hs0 | hs0
                      · subst hs0
                        have hz : rnk M 256 = 0 := HR.out.trans (rnk_zero M)
                        rw [HP0.out hz, show hat H (-1) = 0 from hat_neg H, hz, rnk_zero M]
                        have HZ := Lib.hid hz
                        clear hz hr6 hrx
                        go_wp2_with fail
                        refine (klen ga q H _ (HS5.out.blk (ga, kn q H, 51) (by simp))).mono ?_
                        rintro e w4 ⟨rfl, hb4⟩
                        rw [show cnt H = 0 by rw [cnt_eq, HMM.out]; exact HZ.out]
                        have HS6 := Lib.hid (HS5.out.below hb4)
                        clear HS5 hb4
                        go_wp2_with fail
                        refine (awake_any _ (hL.below HS6.out.low h2)).mono ?_
                        rintro e w5 ⟨rfl, hb5⟩
                        go_wp2_with fail
                        go_ret
                        exact ⟨rfl, by rw [HGA.out]; exact (HS6.out.below hb5).low⟩
                      · obtain ⟨l, rfl⟩ : ∃ l, s = l + 1 := ⟨s - 1, by omega⟩
                        have hMl : M l = true := by rcases HM1.out with h | h; omega; simpa using h
                        have hpl := HP1.out l (by omega) hMl HR.out
                        have hry := rnk_yes hMl
                        rw [hpl, hat_nat, HR.out]
                        have hl1 : (((l + 1 : Nat) : Int) - 1) = l := by omega
                        rw [hl1]
                        have hr0 : (0 : Int) < ((rnk M (l + 1) : Nat) : Int) := by omega
                        have hre : (((rnk M (l + 1) : Nat) : Int) == 0) = false := by simp; omega
                        have hbh := HS5.out.blk (ga + 1, hs H, 38) (by simp)
                        have hc4 := (hbh.cell l).trans (hs_get H l (by omega))
                        have hl6 : (l : Int) < 256 := by omega
                        have HML := Lib.hid hMl
                        clear hMl hpl hry hl1 hbh hrx
                        go_wp2_with fail
                        refine (klen ga q H _ (HS5.out.blk (ga, kn q H, 51) (by simp))).mono ?_
                        rintro e w4 ⟨rfl, hb4⟩
                        rw [show cnt H = rnk M (l + 1) by rw [cnt_eq, HMM.out]; exact HR.out]
                        have HS6 := Lib.hid (HS5.out.below hb4)
                        have hbh6 := HS6.out.blk (ga + 1, hs H, 38) (by simp)
                        have hc6 := (hbh6.cell l).trans (hs_get H l (by omega))
                        clear HS5 hb4 hbh6 hc4
                        go_wp2_with fail
                        refine (awake_any _ (hL.below HS6.out.low h2)).mono ?_
                        rintro e w5 ⟨rfl, hb5⟩
                        go_wp2_with fail
                        go_ret
                        exact ⟨rfl, by rw [HGA.out]; exact (HS6.out.below hb5).low⟩
                · rw [hx, hat_nat]
                  have h0 : ((H nx : Int) == 0) = false := by have := hnx3; rw [← HMM.out] at this; have h1 := nz_true this; simp; omega
                  have hle : (s : Int) ≤ nx := by omega
                  have hnx6 : (nx : Int) < 256 := by omega
                  have hbh := HS3.out.blk (ga + 1, hs H, 38) (by simp)
                  have hc4 := (hbh.cell nx).trans (hs_get H nx (by omega))
                  have hw8 : IntKind.u8.wrap (nx : Int) = nx := by rw [IntKind.wrap_u8]; omega
                  have HN3 := Lib.hid hnx3
                  have HN4 := Lib.hid hnx4
                  clear hx hnx3 hnx4 hbh
                  go_wp2_with fail
                  refine (kget ga q H _ (HS3.out.blk (ga, kn q H, 51) (by simp)) nx (by omega)).mono ?_
                  rintro e w3 ⟨rfl, hb3⟩
                  have HS4 := Lib.hid (HS3.out.below hb3)
                  clear HS3 hb3
                  go_wp2_with fail
                  go_roundw
                  case rel => exact ⟨nx + 1, by omega, Or.inr (by simpa using HN3.out), by rw [HN4.out]; go_num, by rw [show (((nx + 1 : Nat) : Int) - 1) = nx by omega], by rw [HN4.out]; go_num, HS4.out⟩
                  case measure => (try simp [intOf]); (try omega)
            · clear hlt
              go_wp2_with fail
              generalize hMM : nz H = M at *
              have HMM := Lib.hid hMM
              clear hMM hj
              go_loopw [9, 10, 11] (fun mv lv iv wr => ∃ s : Nat, s ≤ 256 ∧ Hid (s = 0 ∨ M (s - 1) = true) ∧ mv = .int .i64 ((rnk M s : Nat) : Int) ∧ lv = .int .i64 ((s : Int) - 1) ∧ iv = .int .i64 ((rnk M s : Nat) : Int) ∧ Sx ga w [(ga, kn q H, 51), (ga + 1, hs H, 38)] wr) (fun _ lv _ _ => (256 - intOf lv).toNat)
              case atStart => exact ⟨0, by omega, Or.inl rfl, by rw [rnk_zero]; rfl, rfl, by rw [rnk_zero]; rfl, HS.out⟩
              case round =>
                clear HS
                obtain ⟨s, hs6, HM1, rfl, rfl, rfl, hS⟩ := hrel
                have hr6 : ((rnk M s : Nat) : Int) ≤ 256 := by have := rnk_le M s; omega
                have HS := Lib.hid hS
                clear hS
                have hs1 : (s : Int) - 1 + 1 = s := by omega
                go_wp2_with fail
                try rw [hs1]
                refine (knext ga q H _ (HS.out.blk (ga, kn q H, 51) (by simp)) (s : Int) (by omega) (by omega)).mono ?_
                rintro e w2 ⟨rfl, hb2⟩
                have HS3 := Lib.hid (HS.out.below hb2)
                clear HS hb2 hs1
                rw [HMM.out]
                rcases next_cases M s hs6 with ⟨hx, hR⟩ | ⟨nx, hx, hnx1, hnx2, hnx3, hnx4⟩
                · rw [hx, show hat H (-1) = 0 from hat_neg H]
                  have HR := Lib.hid hR
                  clear hx hR
                  go_wp2_with fail
                  go_loopw [14, 15] (fun wv xv wr => ∃ x : Nat, x ≤ 256 ∧ wv = .int .i64 ((rnk M x : Nat) : Int) ∧ xv = .int .i64 (x : Int) ∧ Sx ga w [(ga, kn q H, 51), (ga + 1, hs H, 38)] wr) (fun _ xv _ => (256 - intOf xv).toNat)
                  case atStart => exact ⟨0, by omega, by rw [rnk_zero]; rfl, rfl, HS3.out⟩
                  case round =>
                    clear HS3
                    obtain ⟨x, hx6, rfl, rfl, hS⟩ := hrel
                    have hrx : ((rnk M x : Nat) : Int) ≤ 256 := by have := rnk_le M x; omega
                    by_cases hlt9 : (x : Int) < 256
                    · have hbh := hS.blk (ga + 1, hs H, 38) (by simp)
                      have hc4 := (hbh.cell x).trans (hs_get H x (by omega))
                      have HS4 := Lib.hid hS
                      clear hS hbh
                      cases hMx : M x
                      · have h0 : ((H x : Int) != 0) = false := by have := hMx; rw [← HMM.out] at this; have h1 := nz_false this; simp [h1]
                        have hrn := rnk_no hMx
                        have HRN := Lib.hid hrn
                        clear hrn hMx
                        go_wp2_with fail
                        go_roundw
                        case rel => exact ⟨x + 1, by omega, by rw [HRN.out], by go_num, HS4.out⟩
                        case measure => (try simp [intOf]); (try omega)
                      · have h0 : ((H x : Int) != 0) = true := by have := hMx; rw [← HMM.out] at this; have h1 := nz_true this; simp; omega
                        have hrn := rnk_yes hMx
                        have HRN := Lib.hid hrn
                        clear hrn hMx
                        go_wp2_with fail
                        go_roundw
                        case rel => exact ⟨x + 1, by omega, by rw [HRN.out]; go_num, by go_num, HS4.out⟩
                        case measure => (try simp [intOf]); (try omega)
                    · have hx9 : x = 256 := by omega
                      subst hx9
                      have HS4 := Lib.hid hS
                      clear hS hlt9 hx6
                      obtain ⟨hp0, hp1⟩ := prev_last M
                      have HP0 := Lib.hid hp0
                      have HP1 := Lib.hid hp1
                      clear hp0 hp1
                      go_wp2_with fail
                      refine (kprev ga q H _ (HS4.out.blk (ga, kn q H, 51) (by simp)) 255 (by omega) (by omega)).mono ?_
                      rintro e w3 ⟨rfl, hb3⟩
                      have HS5 := Lib.hid (HS4.out.below hb3)
                      clear HS4 hb3
                      rw [HMM.out]
                      rcases Nat.eq_zero_or_pos s with hs0 | hs0
                      · subst hs0
                        have hz : rnk M 256 = 0 := HR.out.trans (rnk_zero M)
                        rw [HP0.out hz, show hat H (-1) = 0 from hat_neg H, hz, rnk_zero M]
                        have HZ := Lib.hid hz
                        clear hz hr6 hrx
                        go_wp2_with fail
                        refine (klen ga q H _ (HS5.out.blk (ga, kn q H, 51) (by simp))).mono ?_
                        rintro e w4 ⟨rfl, hb4⟩
                        rw [show cnt H = 0 by rw [cnt_eq, HMM.out]; exact HZ.out]
                        have HS6 := Lib.hid (HS5.out.below hb4)
                        clear HS5 hb4
                        go_wp2_with fail
                        refine (awake_any _ (hL.below HS6.out.low h2)).mono ?_
                        rintro e w5 ⟨rfl, hb5⟩
                        go_wp2_with fail
                        go_ret
                        exact ⟨rfl, by rw [HGA.out]; exact (HS6.out.below hb5).low⟩
                      · obtain ⟨l, rfl⟩ : ∃ l, s = l + 1 := ⟨s - 1, by omega⟩
                        have hMl : M l = true := by rcases HM1.out with h | h; omega; simpa using h
                        have hpl := HP1.out l (by omega) hMl HR.out
                        have hry := rnk_yes hMl
                        rw [hpl, hat_nat, HR.out]
                        have hl1 : (((l + 1 : Nat) : Int) - 1) = l := by omega
                        rw [hl1]
                        have hr0 : (0 : Int) < ((rnk M (l + 1) : Nat) : Int) := by omega
                        have hre : (((rnk M (l + 1) : Nat) : Int) == 0) = false := by simp; omega
                        have hbh := HS5.out.blk (ga + 1, hs H, 38) (by simp)
                        have hc4 := (hbh.cell l).trans (hs_get H l (by omega))
                        have hl6 : (l : Int) < 256 := by omega
                        have HML := Lib.hid hMl
                        clear hMl hpl hry hl1 hbh hrx
                        go_wp2_with fail
                        refine (klen ga q H _ (HS5.out.blk (ga, kn q H, 51) (by simp))).mono ?_
                        rintro e w4 ⟨rfl, hb4⟩
                        rw [show cnt H = rnk M (l + 1) by rw [cnt_eq, HMM.out]; exact HR.out]
                        have HS6 := Lib.hid (HS5.out.below hb4)
                        have hbh6 := HS6.out.blk (ga + 1, hs H, 38) (by simp)
                        have hc6 := (hbh6.cell l).trans (hs_get H l (by omega))
                        clear HS5 hb4 hbh6 hc4
                        go_wp2_with fail
                        refine (awake_any _ (hL.below HS6.out.low h2)).mono ?_
                        rintro e w5 ⟨rfl, hb5⟩
                        go_wp2_with fail
                        go_ret
                        exact ⟨rfl, by rw [HGA.out]; exact (HS6.out.below hb5).low⟩
                · rw [hx, hat_nat]
                  have h0 : ((H nx : Int) == 0) = false := by have := hnx3; rw [← HMM.out] at this; have h1 := nz_true this; simp; omega
                  have hle : (s : Int) ≤ nx := by omega
                  have hnx6 : (nx : Int) < 256 := by omega
                  have hbh := HS3.out.blk (ga + 1, hs H, 38) (by simp)
                  have hc4 := (hbh.cell nx).trans (hs_get H nx (by omega))
                  have hw8 : IntKind.u8.wrap (nx : Int) = nx := by rw [IntKind.wrap_u8]; omega
                  have HN3 := Lib.hid hnx3
                  have HN4 := Lib.hid hnx4
                  clear hx hnx3 hnx4 hbh
                  go_wp2_with fail
                  refine (kget ga q H _ (HS3.out.blk (ga, kn q H, 51) (by simp)) nx (by omega)).mono ?_
                  rintro e w3 ⟨rfl, hb3⟩
                  have HS4 := Lib.hid (HS3.out.below hb3)
                  clear HS3 hb3
                  go_wp2_with fail
                  go_roundw
                  case rel => exact ⟨nx + 1, by omega, Or.inr (by simpa using HN3.out), by rw [HN4.out]; go_num, by rw [show (((nx + 1 : Nat) : Int) - 1) = nx by omega], by rw [HN4.out]; go_num, HS4.out⟩
                  case measure => (try simp [intOf]); (try omega)
end Go.Proofs.YtnemnchldjohgaaDoor
