/- Both nodes stand alike. -/
import Derived.Test.YtnemnchldjohgaaDoorRefB
import Derived.Test.YtnemnchldjohgaaDoorSame
set_option linter.unusedVariables false
set_option linter.unusedSimpArgs false
namespace Go.Proofs.YtnemnchldjohgaaDoor
open Go.RowKit
theorem enter10 (vs : Array Value) (w : World) : (callFunc 10 vs).run Tryd.prog w = .ok (.enter 10 vs) w := by kernel_rfl
theorem enter15 (vs : Array Value) (w : World) : (callFunc 15 vs).run Tryd.prog w = .ok (.enter 15 vs) w := by kernel_rfl
theorem enter16 (vs : Array Value) (w : World) : (callFunc 16 vs).run Tryd.prog w = .ok (.enter 16 vs) w := by kernel_rfl
theorem enter36 (vs : Array Value) (w : World) : (callFunc 36 vs).run Tryd.prog w = .ok (.enter 36 vs) w := by kernel_rfl
theorem allTo_yes {M : Nat → Bool} {k : Nat} (h : M k = true) : allTo M (k + 1) = allTo M k ++ [(k : Int)] := by rw [allTo, if_pos h]
theorem allTo_no {M : Nat → Bool} {k : Nat} (h : M k = false) : allTo M (k + 1) = allTo M k := by rw [allTo, if_neg (by simp [h]), List.append_nil]
attribute [local irreducible] ks rnk nz next prev hat rd cnt room left upd kput kdrop kdr rz kn allTo
set_option maxHeartbeats 1000000 in
set_option maxRecDepth 20000 in
theorem rbytes_any (g q : Nat) (H : Nat → Nat) (w : World) (hA0 : Blk g (rd q H) 57 w) : Calls Tryd.prog 36 #[pn g] w (RetB (allTo (nz H) 256) w) := by
  have hgl := hA0.lt
  have HA0 := Lib.hid hA0
  clear hA0
  go_enter Tryd.func36, Tryd.ntmps36
  go_wp2_with fail
  go_loopw [3, 4] (fun v i wr => ∃ (k : Nat) (xs : List Int), k ≤ 256 ∧ Hid (xs = allTo (nz H) k) ∧ i = .int .i64 k ∧ OwnB w.heap.size v xs wr ∧ Below w.heap.size w wr ∧ Hid (Blk g (rd q H) 57 wr)) (fun _ i _ => 256 - (intOf i).toNat)
  case atStart => exact ⟨0, [], by omega, by show _ = _; unfold allTo; rfl, rfl, OwnB.nil _ _, Below.refl _ _, HA0⟩
  case round =>
    obtain ⟨k, xs, hk, hX, rfl, hO, hB, hA⟩ := hrel
    have hl : xs.length ≤ 256 := by rw [hX.out]; exact Nat.le_trans (allTo_le _ k) (by omega)
    have hbs := hB.size
    by_cases hlt2 : (k : Int) < 256
    · have hc := (hA.out.cell k).trans (rd_kid q H k (by omega))
      cases hM : nz H k
      · have h0 : ((H k : Int) != 0) = false := by simp [nz_false hM]
        have HM := Lib.hid hM; clear hM
        go_wp2_with fail
        go_roundw
        case rel => exact ⟨k + 1, xs, by omega, hX.out.trans (allTo_no HM.out).symm, by go_num, hO, hB, hA⟩
        case measure => (try simp [intOf]); (try omega)
      · have h0 : ((H k : Int) != 0) = true := by have := nz_true hM; simp; omega
        have HM := Lib.hid hM; clear hM
        have hw8 : IntKind.u8.wrap (k : Int) = k := by rw [IntKind.wrap_u8]; omega
        go_wp2_with (at_builtin; refine app_byte w.heap.size rfl _ _ rfl u3 xs k rfl rfl hO (by omega) (by omega) ?_; intro v1 w2 hO2 hG2 _; have hA2 := Lib.hid (hA.out.grown hG2 (fun e => by have := (hO.base _ e.symm).1; omega)); have hB2 := hB.grown hG2 (by omega) (fun j e => by have := (hO.base _ e).1; omega); clear hA hO hB hc)
        go_roundw
        case rel => exact ⟨k + 1, xs ++ [(k : Int)], by omega, by show _ = _; rw [allTo_yes HM.out, hX.out], by go_num, hO2, hB2, hA2⟩
        case measure => (try simp [intOf]); (try omega)
    · have hxs : xs = allTo (nz H) 256 := by rw [hX.out, show k = 256 by omega]
      have HX := Lib.hid hxs
      clear hxs
      go_wp2_with fail
      go_ret
      exact ⟨u3, rfl, hB, by rw [← HX.out]; exact hO⟩
set_option maxHeartbeats 2000000 in
set_option maxRecDepth 100000 in
theorem alike_any (g gr q : Nat) (H : Nat → Nat) (at_ : Int) (hq : q < 4) (a0 : -9223372036854775808 ≤ at_) (a1 : at_ ≤ 9223372036854775807) (w : World) (hk : Blk g (kn q H) 51 w) (hr : Blk gr (rd q H) 57 w) :
    Calls Tryd.prog 22 #[pn g, pn gr, .int .i64 at_] w fun e w' => e = .returned (.bool true) ∧ Below w.heap.size w w' := by
  obtain ⟨ba, hba, hbw⟩ : ∃ ba : Nat, ba ≤ 255 ∧ IntKind.u8.wrap at_ = (ba : Int) := ⟨(at_ % 256).toNat, by omega, by rw [IntKind.wrap_u8]; omega⟩
  have hgl := hk.lt
  have hrl := hr.lt
  have hS0 := ((Sx.start w).add hr).add hk
  clear hk hr
  go_enter Tryd.func22, Tryd.ntmps22
  go_wp2_with fail
  refine (knext g q H _ (hS0.blk (g, kn q H, 51) (by simp)) at_ a0 a1).mono ?_
  rintro e w1 ⟨rfl, hb1⟩
  have hS1 := hS0.below hb1
  clear hS0 hb1
  go_wp2_with fail
  refine (rnext_any gr q H at_ a0 a1 _ (hS1.blk (gr, rd q H, 57) (by simp))).mono ?_
  rintro e w2 ⟨rfl, hb2⟩
  have hS2 := hS1.below hb2
  clear hS1 hb2
  go_wp2_with fail
  refine (kprev g q H _ (hS2.blk (g, kn q H, 51) (by simp)) at_ a0 a1).mono ?_
  rintro e w3 ⟨rfl, hb3⟩
  have hS3 := hS2.below hb3
  clear hS2 hb3
  go_wp2_with fail
  refine (rprev_any gr q H at_ a0 a1 _ (hS3.blk (gr, rd q H, 57) (by simp))).mono ?_
  rintro e w4 ⟨rfl, hb4⟩
  have hS4 := hS3.below hb4
  clear hS3 hb4
  go_wp2_with fail
  refine (kbytes g q H _ (hS4.blk (g, kn q H, 51) (by simp))).mono ?_
  rintro e w5 ⟨va, rfl, hb5, hO5⟩
  have hSr : Sr w.heap.size w [(g, kn q H, 51), (gr, rd q H, 57)] [(w.heap.size, va, allTo (nz H) 256)] w5 :=
    ⟨hS4.below hb5, fun p hp => by rw [List.mem_singleton] at hp; subst hp; exact hO5.mono hS4.base⟩
  clear hS4 hb5 hO5
  go_wp2_with fail
  have hS := hSr.drew
  refine region_fin [(0, true), (2, true), (3, true), (4, true), (5, true), (1, false), (6, true), (7, true), (8, true), (10, true), (9, false), (11, false), (12, true), (13, true), (14, true), (15, true), (16, true), (17, true), (18, true), (19, true), (20, true), (21, true), (22, true), (23, true), (24, true), (25, true), (26, true), (27, true), (28, true), (29, true), (30, true), (31, true), (32, true), (33, true), (34, true), (35, true), (36, true), (37, false), (38, false), (39, true), (40, true), (41, true), (42, true), (43, true), (45, true), (46, true), (47, true), (48, true), (49, true), (50, true), (51, true), (44, false), (52, true), (53, true), (54, true)] folm (by kernel_rfl) (by kernel_rfl) (by kernel_rfl) (fun d _ _ _ _ h => by cases d <;> exact h) (Sr w.heap.size w [(g, kn q H, 51), (gr, rd q H, 57)] [(w.heap.size, va, allTo (nz H) 256)]) (hS) ?_
  refine Fin.mv (some 43) none (Operand.tmp 0) (.pointer (some ⟨g, 0, none⟩)) rfl rfl rfl ?_
  simp only [Act.put, List.setIfInBounds_toArray, List.set_cons_zero, List.set_cons_succ]
  refine Fin.mv (some 45) none (Operand.tmp 1) (.pointer (some ⟨gr, 0, none⟩)) rfl rfl rfl ?_
  simp only [Act.put, List.setIfInBounds_toArray, List.set_cons_zero, List.set_cons_succ]
  refine Fin.nil (some 46) none (Operand.tmp 45) ⟨gr, 0, none⟩ rfl rfl rfl ?_
  simp only [Act.put, List.setIfInBounds_toArray, List.set_cons_zero, List.set_cons_succ]
  refine Fin.fld (some 47) none 57 (Operand.tmp 46) 1 (.pointer (some ⟨gr, 0, none⟩)) (.pointer (some ⟨gr, 256, none⟩)) rfl rfl rfl (fun w_ => by go_simp) ?_
  simp only [Act.put, List.setIfInBounds_toArray, List.set_cons_zero, List.set_cons_succ]
  refine Fin.load1 (some 48) none 3 (Operand.tmp 47) ⟨gr, 256, none⟩ (.int .i64 (6 + (q : Int))) rfl rfl rfl (fun w_ h_ => by have hc := ((Sr.blk h_ (gr, rd q H, 57) (by simp)).cell 256).trans (rd_kind q H); go_simp) ?_
  simp only [Act.put, List.setIfInBounds_toArray, List.set_cons_zero, List.set_cons_succ]
  refine Fin.call (some 44) none 10 #[Operand.tmp 43] #[23] #[.pointer (some ⟨g, 0, none⟩)] rfl rfl rfl (enter10 _) ?_
  refine (kkind g q H _ (Sr.blk hS (g, kn q H, 51) (by simp)) hq).mono ?_
  rintro e wn1 ⟨rfl, hb⟩
  have hS := Sr.below hS hb
  clear hb
  refine ⟨_, rfl, hS, ?_⟩
  simp only [Act.put, List.setIfInBounds_toArray, List.set_cons_zero, List.set_cons_succ]
  refine Fin.bin (some 49) none .eql 3 3 (Operand.tmp 44) (Operand.tmp 48) (.int .i64 (6 + (q : Int))) (.int .i64 (6 + (q : Int))) (.bool true) rfl rfl rfl rfl (fun w_ => ⟨by first | rfl | go_simp, by go_simp⟩) ?_
  simp only [Act.put, List.setIfInBounds_toArray, List.set_cons_zero, List.set_cons_succ]
  refine Fin.mv (some 50) none (Operand.tmp 49) (.bool true) rfl rfl rfl ?_
  simp only [Act.put, List.setIfInBounds_toArray, List.set_cons_zero, List.set_cons_succ]
  refine Fin.mv (some 51) (some (7, true)) (Operand.tmp 0) (.pointer (some ⟨g, 0, none⟩)) rfl rfl rfl ?_
  simp only [Act.put, List.setIfInBounds_toArray, List.set_cons_zero, List.set_cons_succ]
  refine Fin.mv (some 53) (some (7, true)) (Operand.tmp 1) (.pointer (some ⟨gr, 0, none⟩)) rfl rfl rfl ?_
  simp only [Act.put, List.setIfInBounds_toArray, List.set_cons_zero, List.set_cons_succ]
  refine Fin.call (some 52) (some (7, true)) 11 #[Operand.tmp 51] #[23] #[.pointer (some ⟨g, 0, none⟩)] rfl rfl rfl (enter11 _) ?_
  refine (klen g q H _ (Sr.blk hS (g, kn q H, 51) (by simp))).mono ?_
  rintro e wn9 ⟨rfl, hb⟩
  have hS := Sr.below hS hb
  clear hb
  refine ⟨_, rfl, hS, ?_⟩
  simp only [Act.put, List.setIfInBounds_toArray, List.set_cons_zero, List.set_cons_succ]
  refine Fin.call (some 54) (some (7, true)) 31 #[Operand.tmp 53] #[42] #[.pointer (some ⟨gr, 0, none⟩)] rfl rfl rfl (enter31 _) ?_
  refine (rlen_any gr q H _ (Sr.blk hS (gr, rd q H, 57) (by simp))).mono ?_
  rintro e wn11 ⟨rfl, rfl⟩
  refine ⟨_, rfl, hS, ?_⟩
  simp only [Act.put, List.setIfInBounds_toArray, List.set_cons_zero, List.set_cons_succ]
  refine Fin.bin (some 55) (some (7, true)) .eql 3 3 (Operand.tmp 52) (Operand.tmp 54) (.int .i64 ((cnt H : Nat) : Int)) (.int .i64 ((cnt H : Nat) : Int)) (.bool true) rfl rfl rfl rfl (fun w_ => ⟨by first | rfl | go_simp, by go_simp⟩) ?_
  simp only [Act.put, List.setIfInBounds_toArray, List.set_cons_zero, List.set_cons_succ]
  refine Fin.pick (some 56) none (Operand.tmp 50) (Operand.tmp 55) (Operand.const (Value.bool false)) true (.bool true) rfl rfl rfl rfl ?_
  simp only [Act.put, List.setIfInBounds_toArray, List.set_cons_zero, List.set_cons_succ]
  refine Fin.mv (some 57) none (Operand.tmp 56) (.bool true) rfl rfl rfl ?_
  simp only [Act.put, List.setIfInBounds_toArray, List.set_cons_zero, List.set_cons_succ]
  refine Fin.mv (some 58) (some (14, true)) (Operand.tmp 7) (.int .i64 (next (nz H) at_)) rfl rfl rfl ?_
  simp only [Act.put, List.setIfInBounds_toArray, List.set_cons_zero, List.set_cons_succ]
  refine Fin.mv (some 59) (some (14, true)) (Operand.tmp 9) (.int .i64 (next (nz H) at_)) rfl rfl rfl ?_
  simp only [Act.put, List.setIfInBounds_toArray, List.set_cons_zero, List.set_cons_succ]
  refine Fin.bin (some 60) (some (14, true)) .eql 3 3 (Operand.tmp 58) (Operand.tmp 59) (.int .i64 (next (nz H) at_)) (.int .i64 (next (nz H) at_)) (.bool true) rfl rfl rfl rfl (fun w_ => ⟨by first | rfl | go_simp, by go_simp⟩) ?_
  simp only [Act.put, List.setIfInBounds_toArray, List.set_cons_zero, List.set_cons_succ]
  refine Fin.pick (some 61) none (Operand.tmp 57) (Operand.tmp 60) (Operand.const (Value.bool false)) true (.bool true) rfl rfl rfl rfl ?_
  simp only [Act.put, List.setIfInBounds_toArray, List.set_cons_zero, List.set_cons_succ]
  refine Fin.mv (some 62) none (Operand.tmp 61) (.bool true) rfl rfl rfl ?_
  simp only [Act.put, List.setIfInBounds_toArray, List.set_cons_zero, List.set_cons_succ]
  refine Fin.mv (some 63) (some (19, true)) (Operand.tmp 8) (.int .u32 (hat H (next (nz H) at_))) rfl rfl rfl ?_
  simp only [Act.put, List.setIfInBounds_toArray, List.set_cons_zero, List.set_cons_succ]
  refine Fin.mv (some 64) (some (19, true)) (Operand.tmp 10) (.int .u32 (hat H (next (nz H) at_))) rfl rfl rfl ?_
  simp only [Act.put, List.setIfInBounds_toArray, List.set_cons_zero, List.set_cons_succ]
  refine Fin.bin (some 65) (some (19, true)) .eql 27 27 (Operand.tmp 63) (Operand.tmp 64) (.int .u32 (hat H (next (nz H) at_))) (.int .u32 (hat H (next (nz H) at_))) (.bool true) rfl rfl rfl rfl (fun w_ => ⟨by first | rfl | go_simp, by go_simp⟩) ?_
  simp only [Act.put, List.setIfInBounds_toArray, List.set_cons_zero, List.set_cons_succ]
  refine Fin.pick (some 66) none (Operand.tmp 62) (Operand.tmp 65) (Operand.const (Value.bool false)) true (.bool true) rfl rfl rfl rfl ?_
  simp only [Act.put, List.setIfInBounds_toArray, List.set_cons_zero, List.set_cons_succ]
  refine Fin.mv (some 67) none (Operand.tmp 66) (.bool true) rfl rfl rfl ?_
  simp only [Act.put, List.setIfInBounds_toArray, List.set_cons_zero, List.set_cons_succ]
  refine Fin.mv (some 68) (some (24, true)) (Operand.tmp 11) (.int .i64 (prev (nz H) at_)) rfl rfl rfl ?_
  simp only [Act.put, List.setIfInBounds_toArray, List.set_cons_zero, List.set_cons_succ]
  refine Fin.mv (some 69) (some (24, true)) (Operand.tmp 13) (.int .i64 (prev (nz H) at_)) rfl rfl rfl ?_
  simp only [Act.put, List.setIfInBounds_toArray, List.set_cons_zero, List.set_cons_succ]
  refine Fin.bin (some 70) (some (24, true)) .eql 3 3 (Operand.tmp 68) (Operand.tmp 69) (.int .i64 (prev (nz H) at_)) (.int .i64 (prev (nz H) at_)) (.bool true) rfl rfl rfl rfl (fun w_ => ⟨by first | rfl | go_simp, by go_simp⟩) ?_
  simp only [Act.put, List.setIfInBounds_toArray, List.set_cons_zero, List.set_cons_succ]
  refine Fin.pick (some 71) none (Operand.tmp 67) (Operand.tmp 70) (Operand.const (Value.bool false)) true (.bool true) rfl rfl rfl rfl ?_
  simp only [Act.put, List.setIfInBounds_toArray, List.set_cons_zero, List.set_cons_succ]
  refine Fin.mv (some 72) none (Operand.tmp 71) (.bool true) rfl rfl rfl ?_
  simp only [Act.put, List.setIfInBounds_toArray, List.set_cons_zero, List.set_cons_succ]
  refine Fin.mv (some 73) (some (29, true)) (Operand.tmp 12) (.int .u32 (hat H (prev (nz H) at_))) rfl rfl rfl ?_
  simp only [Act.put, List.setIfInBounds_toArray, List.set_cons_zero, List.set_cons_succ]
  refine Fin.mv (some 74) (some (29, true)) (Operand.tmp 14) (.int .u32 (hat H (prev (nz H) at_))) rfl rfl rfl ?_
  simp only [Act.put, List.setIfInBounds_toArray, List.set_cons_zero, List.set_cons_succ]
  refine Fin.bin (some 75) (some (29, true)) .eql 27 27 (Operand.tmp 73) (Operand.tmp 74) (.int .u32 (hat H (prev (nz H) at_))) (.int .u32 (hat H (prev (nz H) at_))) (.bool true) rfl rfl rfl rfl (fun w_ => ⟨by first | rfl | go_simp, by go_simp⟩) ?_
  simp only [Act.put, List.setIfInBounds_toArray, List.set_cons_zero, List.set_cons_succ]
  refine Fin.pick (some 76) none (Operand.tmp 72) (Operand.tmp 75) (Operand.const (Value.bool false)) true (.bool true) rfl rfl rfl rfl ?_
  simp only [Act.put, List.setIfInBounds_toArray, List.set_cons_zero, List.set_cons_succ]
  refine Fin.mv (some 77) none (Operand.tmp 76) (.bool true) rfl rfl rfl ?_
  simp only [Act.put, List.setIfInBounds_toArray, List.set_cons_zero, List.set_cons_succ]
  refine Fin.mv (some 78) (some (34, true)) (Operand.tmp 15) (va) rfl rfl rfl ?_
  simp only [Act.put, List.setIfInBounds_toArray, List.set_cons_zero, List.set_cons_succ]
  refine Fin.mv (some 79) (some (34, true)) (Operand.tmp 1) (.pointer (some ⟨gr, 0, none⟩)) rfl rfl rfl ?_
  simp only [Act.put, List.setIfInBounds_toArray, List.set_cons_zero, List.set_cons_succ]
  refine Fin.call (some 80) (some (34, true)) 36 #[Operand.tmp 79] #[42] #[.pointer (some ⟨gr, 0, none⟩)] rfl rfl rfl (enter36 _) ?_
  refine (rbytes_any gr q H _ (Sr.blk hS (gr, rd q H, 57) (by simp))).mono ?_
  rintro e wn37 ⟨va37, rfl, hb, hO37⟩
  have hS := Sr.below hS hb
  clear hb
  refine ⟨_, rfl, hS, ?_⟩
  simp only [Act.put, List.setIfInBounds_toArray, List.set_cons_zero, List.set_cons_succ]
  refine Fin.call (some 81) (some (34, true)) 15 #[Operand.tmp 78, Operand.tmp 80] #[31, 31] #[va, va37] rfl rfl rfl (enter15 _) ?_
  refine (same_any va va37 (allTo (nz H) 256) (allTo (nz H) 256) _ hS.row.reads hO37.reads).mono ?_
  rintro e wn38 ⟨rfl, hb⟩
  rw [decide_eq_true rfl]
  have hS := Sr.below hS hb
  clear hb
  refine ⟨_, rfl, hS, ?_⟩
  simp only [Act.put, List.setIfInBounds_toArray, List.set_cons_zero, List.set_cons_succ]
  refine Fin.pick (some 82) none (Operand.tmp 77) (Operand.tmp 81) (Operand.const (Value.bool false)) true (.bool true) rfl rfl rfl rfl ?_
  simp only [Act.put, List.setIfInBounds_toArray, List.set_cons_zero, List.set_cons_succ]
  refine Fin.mv (some 83) none (Operand.tmp 82) (.bool true) rfl rfl rfl ?_
  simp only [Act.put, List.setIfInBounds_toArray, List.set_cons_zero, List.set_cons_succ]
  refine Fin.mv (some 84) (some (40, true)) (Operand.tmp 0) (.pointer (some ⟨g, 0, none⟩)) rfl rfl rfl ?_
  simp only [Act.put, List.setIfInBounds_toArray, List.set_cons_zero, List.set_cons_succ]
  refine Fin.mv (some 85) (some (40, true)) (Operand.tmp 2) (.int .i64 at_) rfl rfl rfl ?_
  simp only [Act.put, List.setIfInBounds_toArray, List.set_cons_zero, List.set_cons_succ]
  refine Fin.conv (some 86) (some (40, true)) 3 5 (Operand.tmp 85) (.int .i64 at_) (.int .u8 (ba : Int)) rfl rfl rfl (fun w_ h_ => by go_simp) ?_
  simp only [Act.put, List.setIfInBounds_toArray, List.set_cons_zero, List.set_cons_succ]
  refine Fin.mv (some 88) (some (40, true)) (Operand.tmp 1) (.pointer (some ⟨gr, 0, none⟩)) rfl rfl rfl ?_
  simp only [Act.put, List.setIfInBounds_toArray, List.set_cons_zero, List.set_cons_succ]
  refine Fin.mv (some 89) (some (40, true)) (Operand.tmp 2) (.int .i64 at_) rfl rfl rfl ?_
  simp only [Act.put, List.setIfInBounds_toArray, List.set_cons_zero, List.set_cons_succ]
  refine Fin.conv (some 90) (some (40, true)) 3 5 (Operand.tmp 89) (.int .i64 at_) (.int .u8 (ba : Int)) rfl rfl rfl (fun w_ h_ => by go_simp) ?_
  simp only [Act.put, List.setIfInBounds_toArray, List.set_cons_zero, List.set_cons_succ]
  refine Fin.nil (some 91) (some (40, true)) (Operand.tmp 88) ⟨gr, 0, none⟩ rfl rfl rfl ?_
  simp only [Act.put, List.setIfInBounds_toArray, List.set_cons_zero, List.set_cons_succ]
  refine Fin.fld (some 92) (some (40, true)) 57 (Operand.tmp 91) 0 (.pointer (some ⟨gr, 0, none⟩)) (.pointer (some ⟨gr, 0, none⟩)) rfl rfl rfl (fun w_ => by go_simp) ?_
  simp only [Act.put, List.setIfInBounds_toArray, List.set_cons_zero, List.set_cons_succ]
  refine Fin.ix (some 93) (some (40, true)) 38 (Operand.tmp 92) (Operand.tmp 90) (.pointer (some ⟨gr, 0, none⟩)) (.int .u8 (ba : Int)) (.pointer (some ⟨gr, ba, none⟩)) rfl rfl rfl rfl (fun w_ => by go_simp; intro _; omega) ?_
  simp only [Act.put, List.setIfInBounds_toArray, List.set_cons_zero, List.set_cons_succ]
  refine Fin.load1 (some 94) (some (40, true)) 27 (Operand.tmp 93) ⟨gr, ba, none⟩ (.int .u32 (H ba : Int)) rfl rfl rfl (fun w_ h_ => by have hc := ((Sr.blk h_ (gr, rd q H, 57) (by simp)).cell ba).trans (rd_kid q H ba (by omega)); go_simp) ?_
  simp only [Act.put, List.setIfInBounds_toArray, List.set_cons_zero, List.set_cons_succ]
  refine Fin.call (some 87) (some (40, true)) 16 #[Operand.tmp 84, Operand.tmp 86] #[23, 5] #[.pointer (some ⟨g, 0, none⟩), .int .u8 (ba : Int)] rfl rfl rfl (enter16 _) ?_
  refine (kget g q H _ (Sr.blk hS (g, kn q H, 51) (by simp)) ba hba).mono ?_
  rintro e wn44 ⟨rfl, hb⟩
  have hS := Sr.below hS hb
  clear hb
  refine ⟨_, rfl, hS, ?_⟩
  simp only [Act.put, List.setIfInBounds_toArray, List.set_cons_zero, List.set_cons_succ]
  refine Fin.bin (some 95) (some (40, true)) .eql 27 27 (Operand.tmp 87) (Operand.tmp 94) (.int .u32 (H ba : Int)) (.int .u32 (H ba : Int)) (.bool true) rfl rfl rfl rfl (fun w_ => ⟨by first | rfl | go_simp, by go_simp⟩) ?_
  simp only [Act.put, List.setIfInBounds_toArray, List.set_cons_zero, List.set_cons_succ]
  refine Fin.pick (some 96) none (Operand.tmp 83) (Operand.tmp 95) (Operand.const (Value.bool false)) true (.bool true) rfl rfl rfl rfl ?_
  simp only [Act.put, List.setIfInBounds_toArray, List.set_cons_zero, List.set_cons_succ]
  refine Fin.asg (some 16) none (Operand.tmp 96) (.bool true) rfl rfl rfl ?_
  simp only [Act.put, List.setIfInBounds_toArray, List.set_cons_zero, List.set_cons_succ]
  simp only [Fin]
  clear hSr
  go_wp2_with fail
  refine (over_any 0 _ (allTo (nz H) 256) _ (hS.row.mono (Nat.zero_le _)) (Nat.zero_le _) (by have := allTo_le (nz H) 256; omega)).mono ?_
  rintro e w6 ⟨rfl, hg6⟩
  have hS7 := hS.sx.grownO hg6 fun j hj => by
    have := (hS.row.base j hj).1
    refine ⟨by omega, ?_⟩
    simp only [List.forall_mem_cons]
    exact ⟨by omega, by omega, by simp⟩
  clear hS hg6
  go_wp2_with fail
  go_ret
  exact ⟨rfl, hS7.low⟩
end Go.Proofs.YtnemnchldjohgaaDoor
