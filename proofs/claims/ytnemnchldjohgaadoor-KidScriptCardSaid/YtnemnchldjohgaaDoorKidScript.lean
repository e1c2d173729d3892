/- KidScript: the walk. -/
import Derived.Test.YtnemnchldjohgaaDoorKidSame
import Derived.Test.YtnemnchldjohgaaDoorKidAwake
import Derived.Test.YtnemnchldjohgaaDoorKidSteps
set_option linter.unusedVariables false
set_option linter.unusedSimpArgs false
namespace Go.Proofs.YtnemnchldjohgaaDoor
open Go.RowKit
theorem enter9 (vs : Array Value) (w : World) : (callFunc 9 vs).run Tryd.prog w = .ok (.enter 9 vs) w := by kernel_rfl
theorem enter20 (vs : Array Value) (w : World) : (callFunc 20 vs).run Tryd.prog w = .ok (.enter 20 vs) w := by kernel_rfl
theorem put_zero2 (g b k : Nat) (hk : k = 0) (w : World) : Calls Tryd.prog 9 #[pn g, .int .u8 (b : Int), .int .u32 (k : Int)] w fun e w' => e = .returned (.int .i64 2) ∧ w' = w := by subst hk; exact put_zero g b w
theorem rput_zero2 (g b k : Nat) (hk : k = 0) (w : World) : Calls Tryd.prog 20 #[pn g, .int .u8 (b : Int), .int .u32 (k : Int)] w fun e w' => e = .returned (.int .i64 2) ∧ w' = w := by subst hk; exact rput_zero g b w
attribute [local irreducible] ks rnk nz next prev hat rd cnt room left upd kput kdrop kdr rz kn allTo
set_option maxHeartbeats 4000000 in
set_option maxRecDepth 100000 in
theorem script_any (u v : Value) (xs : List Int) (ts : List Bool) (at_ : Int) (a0 : -9223372036854775808 ≤ at_) (a1 : at_ ≤ 9223372036854775807) (hx : ∀ x ∈ xs, 0 ≤ x ∧ x ≤ 255) (w : World) (hL : RL w) (hu : ReadB u xs w) (hv : ReadT v ts w) :
    Calls Tryd.prog 6 #[u, v, .int .i64 at_] w fun e w' => e = .returned (.bool true) ∧ Below w.heap.size w w' := by
  have h2 := hL.two
  obtain ⟨ad, c, rfl, hlc, hl6, hcell⟩ := hu
  obtain ⟨ad2, c2, rfl, hl7, hcell2⟩ := hv
  have hgen : ∀ k, k < xs.length → 0 ≤ xs.getD k 0 ∧ xs.getD k 0 ≤ 255 := fun k hk => hx _ (by rw [List.getD_eq_getElem?_getD, List.getElem?_eq_getElem hk]; exact List.getElem_mem hk)
  generalize hn : xs.length = n at *
  generalize hm : ts.length = m at *
  have HN := Lib.hid hn; clear hn
  have HM := Lib.hid hm; clear hm
  have HG := Lib.hid hgen; clear hgen
  have HC := Lib.hid hcell; clear hcell hx
  have HC2 := Lib.hid hcell2; clear hcell2
  by_cases hbig : (n : Int) > 300 ∨ (m : Int) > 300
  · by_cases hb1 : (n : Int) > 300
    · go_enter Tryd.func6, Tryd.ntmps6
      go_wp2_with fail
      refine (awake_any _ hL).mono ?_
      rintro e w1 ⟨rfl, hb⟩
      go_wp2_with fail
      go_ret
      exact ⟨rfl, hb⟩
    · have hb2 : (m : Int) > 300 := by omega
      go_enter Tryd.func6, Tryd.ntmps6
      go_wp2_with fail
      refine (awake_any _ hL).mono ?_
      rintro e w1 ⟨rfl, hb⟩
      go_wp2_with fail
      go_ret
      exact ⟨rfl, hb⟩
  · have hn6 : (n : Int) ≤ 300 := by omega
    have hm6 : (m : Int) ≤ 300 := by omega
    clear hbig
    go_enter Tryd.func6, Tryd.ntmps6
    go_wp2_with fail
    refine (new_any _).mono ?_
    rintro e w1 ⟨rfl, rfl⟩
    have hS := (Sx.start w).new nd0 51
    go_wp2_with fail
    refine (rnew_any _).mono ?_
    rintro e w1 ⟨rfl, rfl⟩
    have hS1 := hS.new (rd 0 fun _ => 0) 57
    rw [show (w.alloc (.cells nd0 51)).heap.size = w.heap.size + 1 by simp] at hS1 ⊢
    have hS2 : Sx w.heap.size w [(w.heap.size, kn 0 (fun _ => 0), 51), (w.heap.size + 1, rd 0 fun _ => 0, 57)] ((w.alloc (.cells nd0 51)).alloc (.cells (rd 0 fun _ => 0) 57)) := by
      rw [← newK]
      exact hS1.less (by simp)
    clear hS hS1
    generalize ((w.alloc (.cells nd0 51)).alloc (.cells (rd 0 fun _ => 0) 57)) = wz at *
    generalize hga : w.heap.size = ga at *
    have HGA := Lib.hid hga
    clear hga
    have HS2 := Lib.hid hS2
    clear hS2
    go_wp2_with fail
    go_loopw [9] (fun i wr => ∃ (k q : Nat) (H : Nat → Nat), k ≤ n ∧ q < 4 ∧ i = .int .i64 k ∧ Sx ga w [(ga, kn q H, 51), (ga + 1, rd q H, 57)] wr) (fun i _ => n - (intOf i).toNat)
    case atStart => exact ⟨0, 0, fun _ => 0, by omega, by omega, rfl, HS2.out⟩
    case round =>
      clear HS2
      obtain ⟨k, q, H, hk, hq, rfl, hS⟩ := hrel
      by_cases hlt : (k : Int) < n
      · obtain ⟨b, o, rfl, hc⟩ := HC.out (by omega)
        have hc1 := hc k (by omega)
        obtain ⟨xg0, xg1⟩ := HG.out k (by omega)
        obtain ⟨xb, hxb⟩ := Int.eq_ofNat_of_zero_le xg0
        rw [hxb] at hc1 xg1
        have hb255 : xb ≤ 255 := by omega
        have h32 : IntKind.u32.wrap (k : Int) = k := by rw [IntKind.wrap_u32]; omega
        have hblk := World.block_lt_of_cell? w _ hc1
        have HS := Lib.hid hS
        have HC1 := Lib.hid hc1
        have HBL := Lib.hid hblk
        clear hS hc hc1 hxb xg0 xg1 hblk
        by_cases hkm : (m : Int) ≤ k
        · go_wp2_with fail
          have hS := HS.out
          have hS2 := hS
          by_cases hk00 : k = 0
          · have HK00 := Lib.hid hk00
            clear hk00 hS2
            have hS := hS.drew
            refine region_fin [(0, true), (1, true), (2, true), (3, true), (4, true), (5, true), (6, true), (7, true), (8, true), (10, true), (11, true), (12, true), (13, true), (14, true), (15, true), (16, true), (9, false), (17, false), (18, true), (19, true)] folm (by kernel_rfl) (by kernel_rfl) (by kernel_rfl) (fun d _ _ _ _ h => by cases d <;> exact h) (Below ga w) (hS.low) ?_
            refine Fin.mv (some 44) none (Operand.tmp 10) (.bool true) rfl rfl rfl ?_
            simp only [Act.put, List.setIfInBounds_toArray, List.set_cons_zero, List.set_cons_succ]
            refine Fin.mv (some 45) none (Operand.tmp 44) (.bool true) rfl rfl rfl ?_
            simp only [Act.put, List.setIfInBounds_toArray, List.set_cons_zero, List.set_cons_succ]
            refine Fin.mv (some 46) (some (1, true)) (Operand.tmp 7) (.pointer (some ⟨ga, 0, none⟩)) rfl rfl rfl ?_
            simp only [Act.put, List.setIfInBounds_toArray, List.set_cons_zero, List.set_cons_succ]
            refine Fin.mv (some 47) (some (1, true)) (Operand.tmp 0) (.slice (some ⟨b, o, none⟩) n c) rfl rfl rfl ?_
            simp only [Act.put, List.setIfInBounds_toArray, List.set_cons_zero, List.set_cons_succ]
            refine Fin.mv (some 48) (some (1, true)) (Operand.tmp 9) (.int .i64 (k : Int)) rfl rfl rfl ?_
            simp only [Act.put, List.setIfInBounds_toArray, List.set_cons_zero, List.set_cons_succ]
            refine Fin.ix (some 49) (some (1, true)) 31 (Operand.tmp 47) (Operand.tmp 48) (.slice (some ⟨b, o, none⟩) n c) (.int .i64 (k : Int)) (.pointer (some ⟨b, o + k, none⟩)) rfl rfl rfl rfl (fun w_ => by first | (go_simp; done) | (go_simp; intro _; omega) | (go_simp; omega)) ?_
            simp only [Act.put, List.setIfInBounds_toArray, List.set_cons_zero, List.set_cons_succ]
            refine Fin.load1 (some 50) (some (1, true)) 5 (Operand.tmp 49) ⟨b, o + k, none⟩ (.int .u8 (xb : Int)) rfl rfl rfl (fun w_ h_ => by have hc := ((h_ : Below ga w w_).cell (p := ⟨b, o + k, none⟩) (by rw [← HGA.out]; exact HBL.out)).trans HC1.out; go_simp) ?_
            simp only [Act.put, List.setIfInBounds_toArray, List.set_cons_zero, List.set_cons_succ]
            refine Fin.mv (some 51) (some (1, true)) (Operand.tmp 9) (.int .i64 (k : Int)) rfl rfl rfl ?_
            simp only [Act.put, List.setIfInBounds_toArray, List.set_cons_zero, List.set_cons_succ]
            refine Fin.conv (some 52) (some (1, true)) 3 27 (Operand.tmp 51) (.int .i64 (k : Int)) (.int .u32 (k : Int)) rfl rfl rfl (fun w_ h_ => by have hw := h32; go_simp; try exact h32) ?_
            simp only [Act.put, List.setIfInBounds_toArray, List.set_cons_zero, List.set_cons_succ]
            refine Fin.mv (some 54) (some (1, true)) (Operand.tmp 8) (.pointer (some ⟨ga + 1, 0, none⟩)) rfl rfl rfl ?_
            simp only [Act.put, List.setIfInBounds_toArray, List.set_cons_zero, List.set_cons_succ]
            refine Fin.mv (some 55) (some (1, true)) (Operand.tmp 0) (.slice (some ⟨b, o, none⟩) n c) rfl rfl rfl ?_
            simp only [Act.put, List.setIfInBounds_toArray, List.set_cons_zero, List.set_cons_succ]
            refine Fin.mv (some 56) (some (1, true)) (Operand.tmp 9) (.int .i64 (k : Int)) rfl rfl rfl ?_
            simp only [Act.put, List.setIfInBounds_toArray, List.set_cons_zero, List.set_cons_succ]
            refine Fin.ix (some 57) (some (1, true)) 31 (Operand.tmp 55) (Operand.tmp 56) (.slice (some ⟨b, o, none⟩) n c) (.int .i64 (k : Int)) (.pointer (some ⟨b, o + k, none⟩)) rfl rfl rfl rfl (fun w_ => by first | (go_simp; done) | (go_simp; intro _; omega) | (go_simp; omega)) ?_
            simp only [Act.put, List.setIfInBounds_toArray, List.set_cons_zero, List.set_cons_succ]
            refine Fin.load1 (some 58) (some (1, true)) 5 (Operand.tmp 57) ⟨b, o + k, none⟩ (.int .u8 (xb : Int)) rfl rfl rfl (fun w_ h_ => by have hc := ((h_ : Below ga w w_).cell (p := ⟨b, o + k, none⟩) (by rw [← HGA.out]; exact HBL.out)).trans HC1.out; go_simp) ?_
            simp only [Act.put, List.setIfInBounds_toArray, List.set_cons_zero, List.set_cons_succ]
            refine Fin.mv (some 59) (some (1, true)) (Operand.tmp 9) (.int .i64 (k : Int)) rfl rfl rfl ?_
            simp only [Act.put, List.setIfInBounds_toArray, List.set_cons_zero, List.set_cons_succ]
            refine Fin.conv (some 60) (some (1, true)) 3 27 (Operand.tmp 59) (.int .i64 (k : Int)) (.int .u32 (k : Int)) rfl rfl rfl (fun w_ h_ => by have hw := h32; go_simp; try exact h32) ?_
            simp only [Act.put, List.setIfInBounds_toArray, List.set_cons_zero, List.set_cons_succ]
            refine Fin.call (some 53) (some (1, true)) 9 #[Operand.tmp 46, Operand.tmp 50, Operand.tmp 52] #[23, 5, 27] #[.pointer (some ⟨ga, 0, none⟩), .int .u8 (xb : Int), .int .u32 (k : Int)] rfl rfl rfl (enter9 _) ?_
            refine (put_zero2 ga xb k HK00.out _).mono ?_
            rintro e wn9 ⟨rfl, rfl⟩
            refine ⟨_, rfl, hS.low, ?_⟩
            simp only [Act.put, List.setIfInBounds_toArray, List.set_cons_zero, List.set_cons_succ]
            refine Fin.call (some 61) (some (1, true)) 20 #[Operand.tmp 54, Operand.tmp 58, Operand.tmp 60] #[42, 5, 27] #[.pointer (some ⟨ga + 1, 0, none⟩), .int .u8 (xb : Int), .int .u32 (k : Int)] rfl rfl rfl (enter20 _) ?_
            refine (rput_zero2 (ga + 1) xb k HK00.out _).mono ?_
            rintro e wn17 ⟨rfl, rfl⟩
            refine ⟨_, rfl, hS.low, ?_⟩
            simp only [Act.put, List.setIfInBounds_toArray, List.set_cons_zero, List.set_cons_succ]
            refine Fin.bin (some 62) (some (1, true)) .neq 25 25 (Operand.tmp 53) (Operand.tmp 61) (.int .i64 2) (.int .i64 2) (.bool false) rfl rfl rfl rfl (fun w_ => ⟨by first | rfl | go_simp, by go_simp⟩) ?_
            simp only [Act.put, List.setIfInBounds_toArray, List.set_cons_zero, List.set_cons_succ]
            refine Fin.pick (some 63) none (Operand.tmp 45) (Operand.tmp 62) (Operand.const (Value.bool false)) true (.bool false) rfl rfl rfl rfl ?_
            simp only [Act.put, List.setIfInBounds_toArray, List.set_cons_zero, List.set_cons_succ]
            simp only [Fin]
            have hc5 := (hS.low.cell (p := ⟨b, o + k, none⟩) (by rw [← HGA.out]; exact HBL.out)).trans HC1.out
            go_wp2_with fail
            refine (alike_any ga (ga + 1) (q) (H) at_ (hq) a0 a1 _ (hS.blk (ga, kn (q) (H), 51) (by simp)) (hS.blk (ga + 1, rd (q) (H), 57) (by simp))).mono ?_
            rintro e w8 ⟨rfl, hb8⟩
            have hS8 := hS.below hb8
            have hc8 := (hS8.low.cell (p := ⟨b, o + k, none⟩) (by rw [← HGA.out]; exact HBL.out)).trans HC1.out
            clear hS hb8 hc5
            go_wp2_with fail
            refine (alike_any ga (ga + 1) (q) (H) xb (hq) (by omega) (by omega) _ (hS8.blk (ga, kn (q) (H), 51) (by simp)) (hS8.blk (ga + 1, rd (q) (H), 57) (by simp))).mono ?_
            rintro e w9 ⟨rfl, hb9⟩
            have hS9 := hS8.below hb9
            clear hS8 hb9 hc8
            go_wp2_with fail
            go_roundw
            case rel => exact ⟨k + 1, q, H, by omega, hq, by go_num, hS9⟩
            case measure => (try simp [intOf]); (try omega)
          · have hk0 : 0 < k := by omega
            clear hS2
            have hS := hS.drew
            refine region_fin [(0, true), (1, true), (2, true), (3, true), (4, true), (5, true), (6, true), (7, true), (8, true), (10, true), (11, true), (12, true), (13, true), (14, true), (15, true), (16, true), (9, false), (17, false), (18, true), (19, true)] folm (by kernel_rfl) (by kernel_rfl) (by kernel_rfl) (fun d _ _ _ _ h => by cases d <;> exact h) (Below ga w) (hS.low) ?_
            refine Fin.mv (some 44) none (Operand.tmp 10) (.bool true) rfl rfl rfl ?_
            simp only [Act.put, List.setIfInBounds_toArray, List.set_cons_zero, List.set_cons_succ]
            refine Fin.mv (some 45) none (Operand.tmp 44) (.bool true) rfl rfl rfl ?_
            simp only [Act.put, List.setIfInBounds_toArray, List.set_cons_zero, List.set_cons_succ]
            refine Fin.mv (some 46) (some (1, true)) (Operand.tmp 7) (.pointer (some ⟨ga, 0, none⟩)) rfl rfl rfl ?_
            simp only [Act.put, List.setIfInBounds_toArray, List.set_cons_zero, List.set_cons_succ]
            refine Fin.mv (some 47) (some (1, true)) (Operand.tmp 0) (.slice (some ⟨b, o, none⟩) n c) rfl rfl rfl ?_
            simp only [Act.put, List.setIfInBounds_toArray, List.set_cons_zero, List.set_cons_succ]
            refine Fin.mv (some 48) (some (1, true)) (Operand.tmp 9) (.int .i64 (k : Int)) rfl rfl rfl ?_
            simp only [Act.put, List.setIfInBounds_toArray, List.set_cons_zero, List.set_cons_succ]
            refine Fin.ix (some 49) (some (1, true)) 31 (Operand.tmp 47) (Operand.tmp 48) (.slice (some ⟨b, o, none⟩) n c) (.int .i64 (k : Int)) (.pointer (some ⟨b, o + k, none⟩)) rfl rfl rfl rfl (fun w_ => by first | (go_simp; done) | (go_simp; intro _; omega) | (go_simp; omega)) ?_
            simp only [Act.put, List.setIfInBounds_toArray, List.set_cons_zero, List.set_cons_succ]
            refine Fin.load1 (some 50) (some (1, true)) 5 (Operand.tmp 49) ⟨b, o + k, none⟩ (.int .u8 (xb : Int)) rfl rfl rfl (fun w_ h_ => by have hc := ((h_ : Below ga w w_).cell (p := ⟨b, o + k, none⟩) (by rw [← HGA.out]; exact HBL.out)).trans HC1.out; go_simp) ?_
            simp only [Act.put, List.setIfInBounds_toArray, List.set_cons_zero, List.set_cons_succ]
            refine Fin.mv (some 51) (some (1, true)) (Operand.tmp 9) (.int .i64 (k : Int)) rfl rfl rfl ?_
            simp only [Act.put, List.setIfInBounds_toArray, List.set_cons_zero, List.set_cons_succ]
            refine Fin.conv (some 52) (some (1, true)) 3 27 (Operand.tmp 51) (.int .i64 (k : Int)) (.int .u32 (k : Int)) rfl rfl rfl (fun w_ h_ => by have hw := h32; go_simp; try exact h32) ?_
            simp only [Act.put, List.setIfInBounds_toArray, List.set_cons_zero, List.set_cons_succ]
            refine Fin.mv (some 54) (some (1, true)) (Operand.tmp 8) (.pointer (some ⟨ga + 1, 0, none⟩)) rfl rfl rfl ?_
            simp only [Act.put, List.setIfInBounds_toArray, List.set_cons_zero, List.set_cons_succ]
            refine Fin.mv (some 55) (some (1, true)) (Operand.tmp 0) (.slice (some ⟨b, o, none⟩) n c) rfl rfl rfl ?_
            simp only [Act.put, List.setIfInBounds_toArray, List.set_cons_zero, List.set_cons_succ]
            refine Fin.mv (some 56) (some (1, true)) (Operand.tmp 9) (.int .i64 (k : Int)) rfl rfl rfl ?_
            simp only [Act.put, List.setIfInBounds_toArray, List.set_cons_zero, List.set_cons_succ]
            refine Fin.ix (some 57) (some (1, true)) 31 (Operand.tmp 55) (Operand.tmp 56) (.slice (some ⟨b, o, none⟩) n c) (.int .i64 (k : Int)) (.pointer (some ⟨b, o + k, none⟩)) rfl rfl rfl rfl (fun w_ => by first | (go_simp; done) | (go_simp; intro _; omega) | (go_simp; omega)) ?_
            simp only [Act.put, List.setIfInBounds_toArray, List.set_cons_zero, List.set_cons_succ]
            refine Fin.load1 (some 58) (some (1, true)) 5 (Operand.tmp 57) ⟨b, o + k, none⟩ (.int .u8 (xb : Int)) rfl rfl rfl (fun w_ h_ => by have hc := ((h_ : Below ga w w_).cell (p := ⟨b, o + k, none⟩) (by rw [← HGA.out]; exact HBL.out)).trans HC1.out; go_simp) ?_
            simp only [Act.put, List.setIfInBounds_toArray, List.set_cons_zero, List.set_cons_succ]
            refine Fin.mv (some 59) (some (1, true)) (Operand.tmp 9) (.int .i64 (k : Int)) rfl rfl rfl ?_
            simp only [Act.put, List.setIfInBounds_toArray, List.set_cons_zero, List.set_cons_succ]
            refine Fin.conv (some 60) (some (1, true)) 3 27 (Operand.tmp 59) (.int .i64 (k : Int)) (.int .u32 (k : Int)) rfl rfl rfl (fun w_ h_ => by have hw := h32; go_simp; try exact h32) ?_
            simp only [Act.put, List.setIfInBounds_toArray, List.set_cons_zero, List.set_cons_succ]
            refine Fin.call (some 53) (some (1, true)) 9 #[Operand.tmp 46, Operand.tmp 50, Operand.tmp 52] #[23, 5, 27] #[.pointer (some ⟨ga, 0, none⟩), .int .u8 (xb : Int), .int .u32 (k : Int)] rfl rfl rfl (enter9 _) ?_
            refine (kput_k ga q H xb k hq hb255 hk0 ga w _ [(ga + 1, rd q H, 57)] hL h2 hS (Nat.le_refl _) (by simp)).mono ?_
            rintro e wn9 ⟨rfl, hS⟩
            refine ⟨_, rfl, hS.low, ?_⟩
            simp only [Act.put, List.setIfInBounds_toArray, List.set_cons_zero, List.set_cons_succ]
            refine Fin.call (some 61) (some (1, true)) 20 #[Operand.tmp 54, Operand.tmp 58, Operand.tmp 60] #[42, 5, 27] #[.pointer (some ⟨ga + 1, 0, none⟩), .int .u8 (xb : Int), .int .u32 (k : Int)] rfl rfl rfl (enter20 _) ?_
            refine (rput_any (ga + 1) q H xb k hq hb255 hk0 ga w _ [(ga, kn (kput q (cnt (upd H xb k))) (upd H xb k), 51)] (hS.less (by simp)) (by omega) (by simp)).mono ?_
            rintro e wn17 ⟨rfl, hS⟩
            have hS := hS.less (cs := [(ga, kn (kput q (cnt (upd H xb k))) (upd H xb k), 51), (ga + 1, rd (kput q (cnt (upd H xb k))) (upd H xb k), 57)]) (by simp)
            refine ⟨_, rfl, hS.low, ?_⟩
            simp only [Act.put, List.setIfInBounds_toArray, List.set_cons_zero, List.set_cons_succ]
            refine Fin.bin (some 62) (some (1, true)) .neq 25 25 (Operand.tmp 53) (Operand.tmp 61) (.int .i64 0) (.int .i64 0) (.bool false) rfl rfl rfl rfl (fun w_ => ⟨by first | rfl | go_simp, by go_simp⟩) ?_
            simp only [Act.put, List.setIfInBounds_toArray, List.set_cons_zero, List.set_cons_succ]
            refine Fin.pick (some 63) none (Operand.tmp 45) (Operand.tmp 62) (Operand.const (Value.bool false)) true (.bool false) rfl rfl rfl rfl ?_
            simp only [Act.put, List.setIfInBounds_toArray, List.set_cons_zero, List.set_cons_succ]
            simp only [Fin]
            have hc5 := (hS.low.cell (p := ⟨b, o + k, none⟩) (by rw [← HGA.out]; exact HBL.out)).trans HC1.out
            go_wp2_with fail
            refine (alike_any ga (ga + 1) (kput q (cnt (upd H xb k))) (upd H xb k) at_ (kput_lt hq (cnt_le _)) a0 a1 _ (hS.blk (ga, kn (kput q (cnt (upd H xb k))) (upd H xb k), 51) (by simp)) (hS.blk (ga + 1, rd (kput q (cnt (upd H xb k))) (upd H xb k), 57) (by simp))).mono ?_
            rintro e w8 ⟨rfl, hb8⟩
            have hS8 := hS.below hb8
            have hc8 := (hS8.low.cell (p := ⟨b, o + k, none⟩) (by rw [← HGA.out]; exact HBL.out)).trans HC1.out
            clear hS hb8 hc5
            go_wp2_with fail
            refine (alike_any ga (ga + 1) (kput q (cnt (upd H xb k))) (upd H xb k) xb (kput_lt hq (cnt_le _)) (by omega) (by omega) _ (hS8.blk (ga, kn (kput q (cnt (upd H xb k))) (upd H xb k), 51) (by simp)) (hS8.blk (ga + 1, rd (kput q (cnt (upd H xb k))) (upd H xb k), 57) (by simp))).mono ?_
            rintro e w9 ⟨rfl, hb9⟩
            have hS9 := hS8.below hb9
            clear hS8 hb9 hc8
            go_wp2_with fail
            go_roundw
            case rel => exact ⟨k + 1, kput q (cnt (upd H xb k)), upd H xb k, by omega, kput_lt hq (cnt_le _), by go_num, hS9⟩
            case measure => (try simp [intOf]); (try omega)
        · obtain ⟨b2, o2, rfl, hcT⟩ := HC2.out (by omega)
          have hT1 := hcT k (by omega)
          have hblk2 := World.block_lt_of_cell? w _ hT1
          have hT2 := (HS.out.low.cell (p := ⟨b2, o2 + k, none⟩) (by rw [← HGA.out]; exact hblk2)).trans hT1
          have hkm2 : (k : Int) < m := by omega
          clear hcT hT1 hblk2
          cases htb : ts.getD k false
          · rw [htb] at hT2
            have HTB := Lib.hid htb
            clear htb
            go_wp2_with fail
            clear hT2
            have hS := HS.out
            have hS := hS.drew
            refine region_fin [(0, true), (1, true), (2, true), (3, true), (4, true), (5, true), (6, true), (7, true), (8, true), (9, true), (10, true), (11, true), (12, true), (13, true), (14, true), (15, true), (16, true), (17, true), (18, true), (19, true)] folm (by kernel_rfl) (by kernel_rfl) (by kernel_rfl) (fun d _ _ _ _ h => by cases d <;> exact h) (Below ga w) (hS.low) ?_
            refine Fin.mv (some 44) none (Operand.tmp 10) (.bool false) rfl rfl rfl ?_
            simp only [Act.put, List.setIfInBounds_toArray, List.set_cons_zero, List.set_cons_succ]
            refine Fin.mv (some 45) none (Operand.tmp 44) (.bool false) rfl rfl rfl ?_
            simp only [Act.put, List.setIfInBounds_toArray, List.set_cons_zero, List.set_cons_succ]
            refine Fin.skip (some 46) _ (some (1, true)) rfl rfl ?_
            simp only [Act.put, List.setIfInBounds_toArray, List.set_cons_zero, List.set_cons_succ]
            refine Fin.skip (some 47) _ (some (1, true)) rfl rfl ?_
            simp only [Act.put, List.setIfInBounds_toArray, List.set_cons_zero, List.set_cons_succ]
            refine Fin.skip (some 48) _ (some (1, true)) rfl rfl ?_
            simp only [Act.put, List.setIfInBounds_toArray, List.set_cons_zero, List.set_cons_succ]
            refine Fin.skip (some 49) _ (some (1, true)) rfl rfl ?_
            simp only [Act.put, List.setIfInBounds_toArray, List.set_cons_zero, List.set_cons_succ]
            refine Fin.skip (some 50) _ (some (1, true)) rfl rfl ?_
            simp only [Act.put, List.setIfInBounds_toArray, List.set_cons_zero, List.set_cons_succ]
            refine Fin.skip (some 51) _ (some (1, true)) rfl rfl ?_
            simp only [Act.put, List.setIfInBounds_toArray, List.set_cons_zero, List.set_cons_succ]
            refine Fin.skip (some 52) _ (some (1, true)) rfl rfl ?_
            simp only [Act.put, List.setIfInBounds_toArray, List.set_cons_zero, List.set_cons_succ]
            refine Fin.skip (some 53) _ (some (1, true)) rfl rfl ?_
            simp only [Act.put, List.setIfInBounds_toArray, List.set_cons_zero, List.set_cons_succ]
            refine Fin.skip (some 54) _ (some (1, true)) rfl rfl ?_
            simp only [Act.put, List.setIfInBounds_toArray, List.set_cons_zero, List.set_cons_succ]
            refine Fin.skip (some 55) _ (some (1, true)) rfl rfl ?_
            simp only [Act.put, List.setIfInBounds_toArray, List.set_cons_zero, List.set_cons_succ]
            refine Fin.skip (some 56) _ (some (1, true)) rfl rfl ?_
            simp only [Act.put, List.setIfInBounds_toArray, List.set_cons_zero, List.set_cons_succ]
            refine Fin.skip (some 57) _ (some (1, true)) rfl rfl ?_
            simp only [Act.put, List.setIfInBounds_toArray, List.set_cons_zero, List.set_cons_succ]
            refine Fin.skip (some 58) _ (some (1, true)) rfl rfl ?_
            simp only [Act.put, List.setIfInBounds_toArray, List.set_cons_zero, List.set_cons_succ]
            refine Fin.skip (some 59) _ (some (1, true)) rfl rfl ?_
            simp only [Act.put, List.setIfInBounds_toArray, List.set_cons_zero, List.set_cons_succ]
            refine Fin.skip (some 60) _ (some (1, true)) rfl rfl ?_
            simp only [Act.put, List.setIfInBounds_toArray, List.set_cons_zero, List.set_cons_succ]
            refine Fin.skip (some 61) _ (some (1, true)) rfl rfl ?_
            simp only [Act.put, List.setIfInBounds_toArray, List.set_cons_zero, List.set_cons_succ]
            refine Fin.skip (some 62) _ (some (1, true)) rfl rfl ?_
            simp only [Act.put, List.setIfInBounds_toArray, List.set_cons_zero, List.set_cons_succ]
            refine Fin.pick (some 63) none (Operand.tmp 45) (Operand.tmp 62) (Operand.const (Value.bool false)) false (.bool false) rfl rfl rfl rfl ?_
            simp only [Act.put, List.setIfInBounds_toArray, List.set_cons_zero, List.set_cons_succ]
            simp only [Fin]
            have hc3 := (hS.low.cell (p := ⟨b, o + k, none⟩) (by rw [← HGA.out]; exact HBL.out)).trans HC1.out
            go_wp2_with fail
            refine (kdrop_k ga q H xb hq hb255 ga w _ [(ga + 1, rd q H, 57)] hL h2 hS (Nat.le_refl _) (by simp)).mono ?_
            rintro e w2 ⟨rfl, hS2⟩
            have hc4 := (hS2.low.cell (p := ⟨b, o + k, none⟩) (by rw [← HGA.out]; exact HBL.out)).trans HC1.out
            clear hS hc3
            go_wp2_with fail
            refine (rdrop_any (ga + 1) q H xb hq hb255 ga w _ [(ga, kn (kdr H q xb) (upd H xb 0), 51)] (hS2.less (by simp)) (by omega) (by simp)).mono ?_
            rintro e w3 ⟨rfl, hS3⟩
            have hS := hS3.less (cs := [(ga, kn (kdr H q xb) (upd H xb 0), 51), (ga + 1, rd (kdr H q xb) (upd H xb 0), 57)]) (by simp)
            clear hS2 hS3 hc4
            have hc5 := (hS.low.cell (p := ⟨b, o + k, none⟩) (by rw [← HGA.out]; exact HBL.out)).trans HC1.out
            go_wp2_with fail
            refine (alike_any ga (ga + 1) (kdr H q xb) (upd H xb 0) at_ (kdr_lt hq) a0 a1 _ (hS.blk (ga, kn (kdr H q xb) (upd H xb 0), 51) (by simp)) (hS.blk (ga + 1, rd (kdr H q xb) (upd H xb 0), 57) (by simp))).mono ?_
            rintro e w8 ⟨rfl, hb8⟩
            have hS8 := hS.below hb8
            have hc8 := (hS8.low.cell (p := ⟨b, o + k, none⟩) (by rw [← HGA.out]; exact HBL.out)).trans HC1.out
            clear hS hb8 hc5
            go_wp2_with fail
            refine (alike_any ga (ga + 1) (kdr H q xb) (upd H xb 0) xb (kdr_lt hq) (by omega) (by omega) _ (hS8.blk (ga, kn (kdr H q xb) (upd H xb 0), 51) (by simp)) (hS8.blk (ga + 1, rd (kdr H q xb) (upd H xb 0), 57) (by simp))).mono ?_
            rintro e w9 ⟨rfl, hb9⟩
            have hS9 := hS8.below hb9
            clear hS8 hb9 hc8
            go_wp2_with fail
            go_roundw
            case rel => exact ⟨k + 1, kdr H q xb, upd H xb 0, by omega, kdr_lt hq, by go_num, hS9⟩
            case measure => (try simp [intOf]); (try omega)
          · rw [htb] at hT2
            have HTB := Lib.hid htb
            clear htb
            go_wp2_with fail
            clear hT2
            have hS := HS.out
            have hS2 := hS
            by_cases hk00 : k = 0
            · have HK00 := Lib.hid hk00
              clear hk00 hS2
              have hS := hS.drew
              refine region_fin [(0, true), (1, true), (2, true), (3, true), (4, true), (5, true), (6, true), (7, true), (8, true), (10, true), (11, true), (12, true), (13, true), (14, true), (15, true), (16, true), (9, false), (17, false), (18, true), (19, true)] folm (by kernel_rfl) (by kernel_rfl) (by kernel_rfl) (fun d _ _ _ _ h => by cases d <;> exact h) (Below ga w) (hS.low) ?_
              refine Fin.mv (some 44) none (Operand.tmp 10) (.bool true) rfl rfl rfl ?_
              simp only [Act.put, List.setIfInBounds_toArray, List.set_cons_zero, List.set_cons_succ]
              refine Fin.mv (some 45) none (Operand.tmp 44) (.bool true) rfl rfl rfl ?_
              simp only [Act.put, List.setIfInBounds_toArray, List.set_cons_zero, List.set_cons_succ]
              refine Fin.mv (some 46) (some (1, true)) (Operand.tmp 7) (.pointer (some ⟨ga, 0, none⟩)) rfl rfl rfl ?_
              simp only [Act.put, List.setIfInBounds_toArray, List.set_cons_zero, List.set_cons_succ]
              refine Fin.mv (some 47) (some (1, true)) (Operand.tmp 0) (.slice (some ⟨b, o, none⟩) n c) rfl rfl rfl ?_
              simp only [Act.put, List.setIfInBounds_toArray, List.set_cons_zero, List.set_cons_succ]
              refine Fin.mv (some 48) (some (1, true)) (Operand.tmp 9) (.int .i64 (k : Int)) rfl rfl rfl ?_
              simp only [Act.put, List.setIfInBounds_toArray, List.set_cons_zero, List.set_cons_succ]
              refine Fin.ix (some 49) (some (1, true)) 31 (Operand.tmp 47) (Operand.tmp 48) (.slice (some ⟨b, o, none⟩) n c) (.int .i64 (k : Int)) (.pointer (some ⟨b, o + k, none⟩)) rfl rfl rfl rfl (fun w_ => by first | (go_simp; done) | (go_simp; intro _; omega) | (go_simp; omega)) ?_
              simp only [Act.put, List.setIfInBounds_toArray, List.set_cons_zero, List.set_cons_succ]
              refine Fin.load1 (some 50) (some (1, true)) 5 (Operand.tmp 49) ⟨b, o + k, none⟩ (.int .u8 (xb : Int)) rfl rfl rfl (fun w_ h_ => by have hc := ((h_ : Below ga w w_).cell (p := ⟨b, o + k, none⟩) (by rw [← HGA.out]; exact HBL.out)).trans HC1.out; go_simp) ?_
              simp only [Act.put, List.setIfInBounds_toArray, List.set_cons_zero, List.set_cons_succ]
              refine Fin.mv (some 51) (some (1, true)) (Operand.tmp 9) (.int .i64 (k : Int)) rfl rfl rfl ?_
              simp only [Act.put, List.setIfInBounds_toArray, List.set_cons_zero, List.set_cons_succ]
              refine Fin.conv (some 52) (some (1, true)) 3 27 (Operand.tmp 51) (.int .i64 (k : Int)) (.int .u32 (k : Int)) rfl rfl rfl (fun w_ h_ => by have hw := h32; go_simp; try exact h32) ?_
              simp only [Act.put, List.setIfInBounds_toArray, List.set_cons_zero, List.set_cons_succ]
              refine Fin.mv (some 54) (some (1, true)) (Operand.tmp 8) (.pointer (some ⟨ga + 1, 0, none⟩)) rfl rfl rfl ?_
              simp only [Act.put, List.setIfInBounds_toArray, List.set_cons_zero, List.set_cons_succ]
              refine Fin.mv (some 55) (some (1, true)) (Operand.tmp 0) (.slice (some ⟨b, o, none⟩) n c) rfl rfl rfl ?_
              simp only [Act.put, List.setIfInBounds_toArray, List.set_cons_zero, List.set_cons_succ]
              refine Fin.mv (some 56) (some (1, true)) (Operand.tmp 9) (.int .i64 (k : Int)) rfl rfl rfl ?_
              simp only [Act.put, List.setIfInBounds_toArray, List.set_cons_zero, List.set_cons_succ]
              refine Fin.ix (some 57) (some (1, true)) 31 (Operand.tmp 55) (Operand.tmp 56) (.slice (some ⟨b, o, none⟩) n c) (.int .i64 (k : Int)) (.pointer (some ⟨b, o + k, none⟩)) rfl rfl rfl rfl (fun w_ => by first | (go_simp; done) | (go_simp; intro _; omega) | (go_simp; omega)) ?_
              simp only [Act.put, List.setIfInBounds_toArray, List.set_cons_zero, List.set_cons_succ]
              refine Fin.load1 (some 58) (some (1, true)) 5 (Operand.tmp 57) ⟨b, o + k, none⟩ (.int .u8 (xb : Int)) rfl rfl rfl (fun w_ h_ => by have hc := ((h_ : Below ga w w_).cell (p := ⟨b, o + k, none⟩) (by rw [← HGA.out]; exact HBL.out)).trans HC1.out; go_simp) ?_
              simp only [Act.put, List.setIfInBounds_toArray, List.set_cons_zero, List.set_cons_succ]
              refine Fin.mv (some 59) (some (1, true)) (Operand.tmp 9) (.int .i64 (k : Int)) rfl rfl rfl ?_
              simp only [Act.put, List.setIfInBounds_toArray, List.set_cons_zero, List.set_cons_succ]
              refine Fin.conv (some 60) (some (1, true)) 3 27 (Operand.tmp 59) (.int .i64 (k : Int)) (.int .u32 (k : Int)) rfl rfl rfl (fun w_ h_ => by have hw := h32; go_simp; try exact h32) ?_
              simp only [Act.put, List.setIfInBounds_toArray, List.set_cons_zero, List.set_cons_succ]
              refine Fin.call (some 53) (some (1, true)) 9 #[Operand.tmp 46, Operand.tmp 50, Operand.tmp 52] #[23, 5, 27] #[.pointer (some ⟨ga, 0, none⟩), .int .u8 (xb : Int), .int .u32 (k : Int)] rfl rfl rfl (enter9 _) ?_
              refine (put_zero2 ga xb k HK00.out _).mono ?_
              rintro e wn9 ⟨rfl, rfl⟩
              refine ⟨_, rfl, hS.low, ?_⟩
              simp only [Act.put, List.setIfInBounds_toArray, List.set_cons_zero, List.set_cons_succ]
              refine Fin.call (some 61) (some (1, true)) 20 #[Operand.tmp 54, Operand.tmp 58, Operand.tmp 60] #[42, 5, 27] #[.pointer (some ⟨ga + 1, 0, none⟩), .int .u8 (xb : Int), .int .u32 (k : Int)] rfl rfl rfl (enter20 _) ?_
              refine (rput_zero2 (ga + 1) xb k HK00.out _).mono ?_
              rintro e wn17 ⟨rfl, rfl⟩
              refine ⟨_, rfl, hS.low, ?_⟩
              simp only [Act.put, List.setIfInBounds_toArray, List.set_cons_zero, List.set_cons_succ]
              refine Fin.bin (some 62) (some (1, true)) .neq 25 25 (Operand.tmp 53) (Operand.tmp 61) (.int .i64 2) (.int .i64 2) (.bool false) rfl rfl rfl rfl (fun w_ => ⟨by first | rfl | go_simp, by go_simp⟩) ?_
              simp only [Act.put, List.setIfInBounds_toArray, List.set_cons_zero, List.set_cons_succ]
              refine Fin.pick (some 63) none (Operand.tmp 45) (Operand.tmp 62) (Operand.const (Value.bool false)) true (.bool false) rfl rfl rfl rfl ?_
              simp only [Act.put, List.setIfInBounds_toArray, List.set_cons_zero, List.set_cons_succ]
              simp only [Fin]
              have hc5 := (hS.low.cell (p := ⟨b, o + k, none⟩) (by rw [← HGA.out]; exact HBL.out)).trans HC1.out
              go_wp2_with fail
              refine (alike_any ga (ga + 1) (q) (H) at_ (hq) a0 a1 _ (hS.blk (ga, kn (q) (H), 51) (by simp)) (hS.blk (ga + 1, rd (q) (H), 57) (by simp))).mono ?_
              rintro e w8 ⟨rfl, hb8⟩
              have hS8 := hS.below hb8
              have hc8 := (hS8.low.cell (p := ⟨b, o + k, none⟩) (by rw [← HGA.out]; exact HBL.out)).trans HC1.out
              clear hS hb8 hc5
              go_wp2_with fail
              refine (alike_any ga (ga + 1) (q) (H) xb (hq) (by omega) (by omega) _ (hS8.blk (ga, kn (q) (H), 51) (by simp)) (hS8.blk (ga + 1, rd (q) (H), 57) (by simp))).mono ?_
              rintro e w9 ⟨rfl, hb9⟩
              have hS9 := hS8.below hb9
              clear hS8 hb9 hc8
              go_wp2_with fail
              go_roundw
              case rel => exact ⟨k + 1, q, H, by omega, hq, by go_num, hS9⟩
              case measure => (try simp [intOf]); (try omega)
            · have hk0 : 0 < k := by omega
              clear hS2
              have hS := hS.drew
              refine region_fin [(0, true), (1, true), (2, true), (3, true), (4, true), (5, true), (6, true), (7, true), (8, true), (10, true), (11, true), (12, true), (13, true), (14, true), (15, true), (16, true), (9, false), (17, false), (18, true), (19, true)] folm (by kernel_rfl) (by kernel_rfl) (by kernel_rfl) (fun d _ _ _ _ h => by cases d <;> exact h) (Below ga w) (hS.low) ?_
              refine Fin.mv (some 44) none (Operand.tmp 10) (.bool true) rfl rfl rfl ?_
              simp only [Act.put, List.setIfInBounds_toArray, List.set_cons_zero, List.set_cons_succ]
              refine Fin.mv (some 45) none (Operand.tmp 44) (.bool true) rfl rfl rfl ?_
              simp only [Act.put, List.setIfInBounds_toArray, List.set_cons_zero, List.set_cons_succ]
              refine Fin.mv (some 46) (some (1, true)) (Operand.tmp 7) (.pointer (some ⟨ga, 0, none⟩)) rfl rfl rfl ?_
              simp only [Act.put, List.setIfInBounds_toArray, List.set_cons_zero, List.set_cons_succ]
              refine Fin.mv (some 47) (some (1, true)) (Operand.tmp 0) (.slice (some ⟨b, o, none⟩) n c) rfl rfl rfl ?_
              simp only [Act.put, List.setIfInBounds_toArray, List.set_cons_zero, List.set_cons_succ]
              refine Fin.mv (some 48) (some (1, true)) (Operand.tmp 9) (.int .i64 (k : Int)) rfl rfl rfl ?_
              simp only [Act.put, List.setIfInBounds_toArray, List.set_cons_zero, List.set_cons_succ]
              refine Fin.ix (some 49) (some (1, true)) 31 (Operand.tmp 47) (Operand.tmp 48) (.slice (some ⟨b, o, none⟩) n c) (.int .i64 (k : Int)) (.pointer (some ⟨b, o + k, none⟩)) rfl rfl rfl rfl (fun w_ => by first | (go_simp; done) | (go_simp; intro _; omega) | (go_simp; omega)) ?_
              simp only [Act.put, List.setIfInBounds_toArray, List.set_cons_zero, List.set_cons_succ]
              refine Fin.load1 (some 50) (some (1, true)) 5 (Operand.tmp 49) ⟨b, o + k, none⟩ (.int .u8 (xb : Int)) rfl rfl rfl (fun w_ h_ => by have hc := ((h_ : Below ga w w_).cell (p := ⟨b, o + k, none⟩) (by rw [← HGA.out]; exact HBL.out)).trans HC1.out; go_simp) ?_
              simp only [Act.put, List.setIfInBounds_toArray, List.set_cons_zero, List.set_cons_succ]
              refine Fin.mv (some 51) (some (1, true)) (Operand.tmp 9) (.int .i64 (k : Int)) rfl rfl rfl ?_
              simp only [Act.put, List.setIfInBounds_toArray, List.set_cons_zero, List.set_cons_succ]
              refine Fin.conv (some 52) (some (1, true)) 3 27 (Operand.tmp 51) (.int .i64 (k : Int)) (.int .u32 (k : Int)) rfl rfl rfl (fun w_ h_ => by have hw := h32; go_simp; try exact h32) ?_
              simp only [Act.put, List.setIfInBounds_toArray, List.set_cons_zero, List.set_cons_succ]
              refine Fin.mv (some 54) (some (1, true)) (Operand.tmp 8) (.pointer (some ⟨ga + 1, 0, none⟩)) rfl rfl rfl ?_
              simp only [Act.put, List.setIfInBounds_toArray, List.set_cons_zero, List.set_cons_succ]
              refine Fin.mv (some 55) (some (1, true)) (Operand.tmp 0) (.slice (some ⟨b, o, none⟩) n c) rfl rfl rfl ?_
              simp only [Act.put, List.setIfInBounds_toArray, List.set_cons_zero, List.set_cons_succ]
              refine Fin.mv (some 56) (some (1, true)) (Operand.tmp 9) (.int .i64 (k : Int)) rfl rfl rfl ?_
              simp only [Act.put, List.setIfInBounds_toArray, List.set_cons_zero, List.set_cons_succ]
              refine Fin.ix (some 57) (some (1, true)) 31 (Operand.tmp 55) (Operand.tmp 56) (.slice (some ⟨b, o, none⟩) n c) (.int .i64 (k : Int)) (.pointer (some ⟨b, o + k, none⟩)) rfl rfl rfl rfl (fun w_ => by first | (go_simp; done) | (go_simp; intro _; omega) | (go_simp; omega)) ?_
              simp only [Act.put, List.setIfInBounds_toArray, List.set_cons_zero, List.set_cons_succ]
              refine Fin.load1 (some 58) (some (1, true)) 5 (Operand.tmp 57) ⟨b, o + k, none⟩ (.int .u8 (xb : Int)) rfl rfl rfl (fun w_ h_ => by have hc := ((h_ : Below ga w w_).cell (p := ⟨b, o + k, none⟩) (by rw [← HGA.out]; exact HBL.out)).trans HC1.out; go_simp) ?_
              simp only [Act.put, List.setIfInBounds_toArray, List.set_cons_zero, List.set_cons_succ]
              refine Fin.mv (some 59) (some (1, true)) (Operand.tmp 9) (.int .i64 (k : Int)) rfl rfl rfl ?_
              simp only [Act.put, List.setIfInBounds_toArray, List.set_cons_zero, List.set_cons_succ]
              refine Fin.conv (some 60) (some (1, true)) 3 27 (Operand.tmp 59) (.int .i64 (k : Int)) (.int .u32 (k : Int)) rfl rfl rfl (fun w_ h_ => by have hw := h32; go_simp; try exact h32) ?_
              simp only [Act.put, List.setIfInBounds_toArray, List.set_cons_zero, List.set_cons_succ]
              refine Fin.call (some 53) (some (1, true)) 9 #[Operand.tmp 46, Operand.tmp 50, Operand.tmp 52] #[23, 5, 27] #[.pointer (some ⟨ga, 0, none⟩), .int .u8 (xb : Int), .int .u32 (k : Int)] rfl rfl rfl (enter9 _) ?_
              refine (kput_k ga q H xb k hq hb255 hk0 ga w _ [(ga + 1, rd q H, 57)] hL h2 hS (Nat.le_refl _) (by simp)).mono ?_
              rintro e wn9 ⟨rfl, hS⟩
              refine ⟨_, rfl, hS.low, ?_⟩
              simp only [Act.put, List.setIfInBounds_toArray, List.set_cons_zero, List.set_cons_succ]
              refine Fin.call (some 61) (some (1, true)) 20 #[Operand.tmp 54, Operand.tmp 58, Operand.tmp 60] #[42, 5, 27] #[.pointer (some ⟨ga + 1, 0, none⟩), .int .u8 (xb : Int), .int .u32 (k : Int)] rfl rfl rfl (enter20 _) ?_
              refine (rput_any (ga + 1) q H xb k hq hb255 hk0 ga w _ [(ga, kn (kput q (cnt (upd H xb k))) (upd H xb k), 51)] (hS.less (by simp)) (by omega) (by simp)).mono ?_
              rintro e wn17 ⟨rfl, hS⟩
              have hS := hS.less (cs := [(ga, kn (kput q (cnt (upd H xb k))) (upd H xb k), 51), (ga + 1, rd (kput q (cnt (upd H xb k))) (upd H xb k), 57)]) (by simp)
              refine ⟨_, rfl, hS.low, ?_⟩
              simp only [Act.put, List.setIfInBounds_toArray, List.set_cons_zero, List.set_cons_succ]
              refine Fin.bin (some 62) (some (1, true)) .neq 25 25 (Operand.tmp 53) (Operand.tmp 61) (.int .i64 0) (.int .i64 0) (.bool false) rfl rfl rfl rfl (fun w_ => ⟨by first | rfl | go_simp, by go_simp⟩) ?_
              simp only [Act.put, List.setIfInBounds_toArray, List.set_cons_zero, List.set_cons_succ]
              refine Fin.pick (some 63) none (Operand.tmp 45) (Operand.tmp 62) (Operand.const (Value.bool false)) true (.bool false) rfl rfl rfl rfl ?_
              simp only [Act.put, List.setIfInBounds_toArray, List.set_cons_zero, List.set_cons_succ]
              simp only [Fin]
              have hc5 := (hS.low.cell (p := ⟨b, o + k, none⟩) (by rw [← HGA.out]; exact HBL.out)).trans HC1.out
              go_wp2_with fail
              refine (alike_any ga (ga + 1) (kput q (cnt (upd H xb k))) (upd H xb k) at_ (kput_lt hq (cnt_le _)) a0 a1 _ (hS.blk (ga, kn (kput q (cnt (upd H xb k))) (upd H xb k), 51) (by simp)) (hS.blk (ga + 1, rd (kput q (cnt (upd H xb k))) (upd H xb k), 57) (by simp))).mono ?_
              rintro e w8 ⟨rfl, hb8⟩
              have hS8 := hS.below hb8
              have hc8 := (hS8.low.cell (p := ⟨b, o + k, none⟩) (by rw [← HGA.out]; exact HBL.out)).trans HC1.out
              clear hS hb8 hc5
              go_wp2_with fail
              refine (alike_any ga (ga + 1) (kput q (cnt (upd H xb k))) (upd H xb k) xb (kput_lt hq (cnt_le _)) (by omega) (by omega) _ (hS8.blk (ga, kn (kput q (cnt (upd H xb k))) (upd H xb k), 51) (by simp)) (hS8.blk (ga + 1, rd (kput q (cnt (upd H xb k))) (upd H xb k), 57) (by simp))).mono ?_
              rintro e w9 ⟨rfl, hb9⟩
              have hS9 := hS8.below hb9
              clear hS8 hb9 hc8
              go_wp2_with fail
              go_roundw
              case rel => exact ⟨k + 1, kput q (cnt (upd H xb k)), upd H xb k, by omega, kput_lt hq (cnt_le _), by go_num, hS9⟩
              case measure => (try simp [intOf]); (try omega)
      · have HS := Lib.hid hS
        clear hS
        go_wp2_with fail
        refine (awake_any _ (hL.below HS.out.low h2)).mono ?_
        rintro e w5 ⟨rfl, hb5⟩
        go_wp2_with fail
        go_ret
        exact ⟨rfl, by rw [HGA.out]; exact (HS.out.below hb5).low⟩
end Go.Proofs.YtnemnchldjohgaaDoor
