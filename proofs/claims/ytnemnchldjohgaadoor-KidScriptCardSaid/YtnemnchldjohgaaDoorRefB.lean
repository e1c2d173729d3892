/- The document's node: new, put, drop. -/
import Derived.Test.YtnemnchldjohgaaDoorRefA
import Derived.Test.YtnemnchldjohgaaDoorRegK
set_option linter.unusedVariables false
set_option linter.unusedSimpArgs false
namespace Go.Proofs.YtnemnchldjohgaaDoor
open Go.RowKit
theorem enter31 (vs : Array Value) (w : World) : (callFunc 31 vs).run Tryd.prog w = .ok (.enter 31 vs) w := by kernel_rfl
theorem enter32 (vs : Array Value) (w : World) : (callFunc 32 vs).run Tryd.prog w = .ok (.enter 32 vs) w := by kernel_rfl
theorem enter33 (vs : Array Value) (w : World) : (callFunc 33 vs).run Tryd.prog w = .ok (.enter 33 vs) w := by kernel_rfl
def rz : Array Value := (ks (fun _ => 0) ++ [Value.int .i64 0]).toArray
theorem rz_size : rz.size = 257 := by simp [rz, ks_length]
theorem rz_set : rz.setIfInBounds 256 (.int .i64 6) = rd 0 fun _ => 0 := by
  simp only [rz, rd, List.setIfInBounds_toArray, List.set_append_right _ _ (show (ks fun _ => 0).length ≤ 256 by rw [ks_length]; exact Nat.le_refl _), ks_length]
  rfl
attribute [local irreducible] ks rnk nz next prev hat rd cnt room left upd kput kdrop kdr rz
set_option maxHeartbeats 1000000 in
set_option maxRecDepth 20000 in
theorem rput_any (g q : Nat) (H : Nat → Nat) (b h : Nat) (hq : q < 4) (hb : b ≤ 255) (hh : 0 < h) (B : Nat) (w0 w : World) (bs : List (Nat × Array Value × TypeId)) (hS : Sx B w0 ((g, rd q H, 57) :: bs) w) (hB : B ≤ g) (hne : ∀ p ∈ bs, p.1 ≠ g) :
    Calls Tryd.prog 20 #[pn g, .int .u8 (b : Int), .int .u32 (h : Int)] w fun e w' => e = .returned (.int .i64 0) ∧ Sx B w0 ((g, rd (kput q (cnt (upd H b h))) (upd H b h), 57) :: bs) w' := by
  have hnz : ((h : Int) == 0) = false := by simp; omega
  have hbk := hS.blk (g, rd q H, 57) (List.mem_cons_self ..)
  have hc := (hbk.cell b).trans (rd_kid q H b (by omega))
  have hf : w.frozen? ⟨g, b, none⟩ = false := hbk.frozen b
  have hlt : (b : Int) < 256 := by omega
  clear hbk
  go_enter Tryd.func20, Tryd.ntmps20
  go_wp2_with fail
  have hS := Sx.set hS hB hne b (.int .u32 (h : Int))
  rw [rd_setKid q H b h (by omega)] at hS
  clear hc hf
  have hS := hS.drew
  refine region_fin [(0, true), (2, true), (3, true), (4, true), (5, true), (1, false), (6, false), (7, true)] folm (by kernel_rfl) (by kernel_rfl) (by kernel_rfl) (fun d _ _ _ _ h => by cases d <;> exact h) (Sx B w0 ((g, rd q (upd H b h), 57) :: bs)) (hS) ?_
  refine Fin.mv (some 15) none (Operand.tmp 0) (.pointer (some ⟨g, 0, none⟩)) rfl rfl rfl ?_
  simp only [Act.put, List.setIfInBounds_toArray, List.set_cons_zero, List.set_cons_succ]
  refine Fin.mv (some 17) none (Operand.tmp 0) (.pointer (some ⟨g, 0, none⟩)) rfl rfl rfl ?_
  simp only [Act.put, List.setIfInBounds_toArray, List.set_cons_zero, List.set_cons_succ]
  refine Fin.nil (some 18) none (Operand.tmp 17) ⟨g, 0, none⟩ rfl rfl rfl ?_
  simp only [Act.put, List.setIfInBounds_toArray, List.set_cons_zero, List.set_cons_succ]
  refine Fin.fld (some 19) none 57 (Operand.tmp 18) 1 (.pointer (some ⟨g, 0, none⟩)) (.pointer (some ⟨g, 256, none⟩)) rfl rfl rfl (fun w_ => by go_simp) ?_
  simp only [Act.put, List.setIfInBounds_toArray, List.set_cons_zero, List.set_cons_succ]
  refine Fin.load1 (some 20) none 3 (Operand.tmp 19) ⟨g, 256, none⟩ (.int .i64 (6 + (q : Int))) rfl rfl rfl (fun w_ h_ => by have hc := ((Sx.blk h_ (g, rd q (upd H b h), 57) (List.mem_cons_self ..)).cell 256).trans (rd_kind q (upd H b h)); go_simp) ?_
  simp only [Act.put, List.setIfInBounds_toArray, List.set_cons_zero, List.set_cons_succ]
  refine Fin.call (some 16) none 31 #[Operand.tmp 15] #[42] #[.pointer (some ⟨g, 0, none⟩)] rfl rfl rfl (enter31 _) ?_
  refine (rlen_any g q (upd H b h) _ (Sx.blk hS (g, rd q (upd H b h), 57) (List.mem_cons_self ..))).mono ?_
  rintro e wn1 ⟨rfl, rfl⟩
  refine ⟨_, rfl, hS, ?_⟩
  simp only [Act.put, List.setIfInBounds_toArray, List.set_cons_zero, List.set_cons_succ]
  refine Fin.call (some 21) none 32 #[Operand.tmp 20] #[3] #[.int .i64 (6 + (q : Int))] rfl rfl rfl (enter32 _) ?_
  refine (rmost_any q hq _).mono ?_
  rintro e wn6 ⟨rfl, rfl⟩
  refine ⟨_, rfl, hS, ?_⟩
  simp only [Act.put, List.setIfInBounds_toArray, List.set_cons_zero, List.set_cons_succ]
  refine Fin.bin (some 22) none .gtr 3 3 (Operand.tmp 16) (Operand.tmp 21) (.int .i64 ((cnt (upd H b h) : Nat) : Int)) (.int .i64 (room q)) (.bool (decide (((cnt (upd H b h) : Nat) : Int) > room q))) rfl rfl rfl rfl (fun w_ => ⟨by first | rfl | go_simp, by go_simp⟩) ?_
  simp only [Act.put, List.setIfInBounds_toArray, List.set_cons_zero, List.set_cons_succ]
  simp only [Fin]
  have hb0 := hS.blk (g, rd q (upd H b h), 57) (List.mem_cons_self ..)
  have hc0 := (hb0.cell 256).trans (rd_kind q (upd H b h))
  have hf0 := hb0.frozen 256
  have HB0 := Lib.hid hb0
  clear hb0
  have hw1 : IntKind.i64.wrap (6 + (q : Int) + 1) = 6 + ((q + 1 : Nat) : Int) := by rw [IntKind.wrap_i64]; omega
  by_cases hr : ((cnt (upd H b h) : Nat) : Int) > room q
  · have hr' : decide (((cnt (upd H b h) : Nat) : Int) > room q) = true := decide_eq_true hr
    have hk : kput q (cnt (upd H b h)) = q + 1 := by unfold kput; rw [if_pos hr]
    rw [hr']
    clear hr'
    have HK := Lib.hid hk
    clear hk
    go_wp2_with fail
    go_ret
    rw [HK.out]
    have h9 := Sx.set hS hB hne 256 (.int .i64 (6 + ((q + 1 : Nat) : Int)))
    rw [rd_setKind] at h9
    exact ⟨rfl, by first | exact h9 | (rw [show (6 + ((q + 1 : Nat) : Int)) = 6 + (q : Int) + 1 by omega] at h9; exact h9)⟩
  · have hr' : decide (((cnt (upd H b h) : Nat) : Int) > room q) = false := decide_eq_false hr
    have hk : kput q (cnt (upd H b h)) = q := by unfold kput; rw [if_neg hr]
    rw [hr']
    clear hr'
    have HK := Lib.hid hk
    clear hk
    go_wp2_with fail
    go_ret
    rw [HK.out]
    exact ⟨rfl, hS⟩
set_option maxHeartbeats 1000000 in
set_option maxRecDepth 20000 in
theorem rput_zero (g b : Nat) (w : World) : Calls Tryd.prog 20 #[pn g, .int .u8 (b : Int), .int .u32 0] w fun e w' => e = .returned (.int .i64 2) ∧ w' = w := by
  go_enter Tryd.func20, Tryd.ntmps20
  go_wp2_with fail
  go_ret
  exact ⟨rfl, rfl⟩
set_option maxHeartbeats 1000000 in
set_option maxRecDepth 20000 in
theorem rdrop_any (g q : Nat) (H : Nat → Nat) (b : Nat) (hq : q < 4) (hb : b ≤ 255) (B : Nat) (w0 w : World) (bs : List (Nat × Array Value × TypeId)) (hS : Sx B w0 ((g, rd q H, 57) :: bs) w) (hB : B ≤ g) (hne : ∀ p ∈ bs, p.1 ≠ g) :
    Calls Tryd.prog 21 #[pn g, .int .u8 (b : Int)] w fun e w' => e = .returned (.tuple #[.int .u32 (H b : Int), .bool (nz H b)]) ∧ Sx B w0 ((g, rd (kdr H q b) (upd H b 0), 57) :: bs) w' := by
  have hbk := hS.blk (g, rd q H, 57) (List.mem_cons_self ..)
  have hc := (hbk.cell b).trans (rd_kid q H b (by omega))
  have hf : w.frozen? ⟨g, b, none⟩ = false := hbk.frozen b
  have hlt : (b : Int) < 256 := by omega
  clear hbk
  by_cases h0 : H b = 0
  · have hN : nz H b = false := by unfold nz; simp [h0]
    have hK : kdr H q b = q := by unfold kdr; rw [if_pos h0]
    have e0 : ((H b : Int) != 0) = false := by simp [h0]
    rw [hN, hK]
    have HH0 := Lib.hid h0
    clear hN hK h0
    go_enter Tryd.func21, Tryd.ntmps21
    go_wp2_with fail
    have hS := Sx.set hS hB hne b (.int .u32 ((0 : Nat) : Int))
    rw [rd_setKid q H b 0 (by omega)] at hS
    have hS : Sx B w0 ((g, rd q (upd H b 0), 57) :: bs) (w.setCell ⟨g, b, none⟩ (.int .u32 0)) := hS
    clear hc hf
    have hS := hS.drew
    refine region_fin [(0, true), (1, true), (2, true), (3, true), (4, true), (5, true), (6, true), (7, true), (8, true), (9, true), (10, true), (11, true)] folm (by kernel_rfl) (by kernel_rfl) (by kernel_rfl) (fun d _ _ _ _ h => by cases d <;> exact h) (Sx B w0 ((g, rd q (upd H b 0), 57) :: bs)) (hS) ?_
    refine Fin.mv (some 18) none (Operand.tmp 6) (.int .u32 (H b : Int)) rfl rfl rfl ?_
    simp only [Act.put, List.setIfInBounds_toArray, List.set_cons_zero, List.set_cons_succ]
    refine Fin.bin (some 19) none .neq 27 27 (Operand.tmp 18) (Operand.const (Value.int IntKind.u32 0)) (.int .u32 (H b : Int)) (Value.int IntKind.u32 0) (.bool false) rfl rfl rfl rfl (fun w_ => ⟨by first | rfl | go_simp, by go_simp⟩) ?_
    simp only [Act.put, List.setIfInBounds_toArray, List.set_cons_zero, List.set_cons_succ]
    refine Fin.mv (some 20) none (Operand.tmp 19) (.bool false) rfl rfl rfl ?_
    simp only [Act.put, List.setIfInBounds_toArray, List.set_cons_zero, List.set_cons_succ]
    refine Fin.skip (some 21) _ (some (2, true)) rfl rfl ?_
    simp only [Act.put, List.setIfInBounds_toArray, List.set_cons_zero, List.set_cons_succ]
    refine Fin.skip (some 22) _ (some (2, true)) rfl rfl ?_
    simp only [Act.put, List.setIfInBounds_toArray, List.set_cons_zero, List.set_cons_succ]
    refine Fin.skip (some 23) _ (some (2, true)) rfl rfl ?_
    simp only [Act.put, List.setIfInBounds_toArray, List.set_cons_zero, List.set_cons_succ]
    refine Fin.skip (some 24) _ (some (2, true)) rfl rfl ?_
    simp only [Act.put, List.setIfInBounds_toArray, List.set_cons_zero, List.set_cons_succ]
    refine Fin.skip (some 25) _ (some (2, true)) rfl rfl ?_
    simp only [Act.put, List.setIfInBounds_toArray, List.set_cons_zero, List.set_cons_succ]
    refine Fin.skip (some 26) _ (some (2, true)) rfl rfl ?_
    simp only [Act.put, List.setIfInBounds_toArray, List.set_cons_zero, List.set_cons_succ]
    refine Fin.skip (some 27) _ (some (2, true)) rfl rfl ?_
    simp only [Act.put, List.setIfInBounds_toArray, List.set_cons_zero, List.set_cons_succ]
    refine Fin.skip (some 28) _ (some (2, true)) rfl rfl ?_
    simp only [Act.put, List.setIfInBounds_toArray, List.set_cons_zero, List.set_cons_succ]
    refine Fin.pick (some 29) none (Operand.tmp 20) (Operand.tmp 28) (Operand.const (Value.bool false)) false (.bool false) rfl rfl rfl rfl ?_
    simp only [Act.put, List.setIfInBounds_toArray, List.set_cons_zero, List.set_cons_succ]
    simp only [Fin]
    go_wp2_with fail
    go_ret2
    exact ⟨rfl, hS⟩
  · have hN : nz H b = true := by unfold nz; simp [h0]
    have hK : kdr H q b = kdrop q (cnt (upd H b 0)) := by unfold kdr; rw [if_neg h0]
    have e0 : ((H b : Int) != 0) = true := by simp; omega
    rw [hN, hK]
    have HH0 := Lib.hid h0
    clear hN hK h0
    go_enter Tryd.func21, Tryd.ntmps21
    go_wp2_with fail
    have hS := Sx.set hS hB hne b (.int .u32 ((0 : Nat) : Int))
    rw [rd_setKid q H b 0 (by omega)] at hS
    have hS : Sx B w0 ((g, rd q (upd H b 0), 57) :: bs) (w.setCell ⟨g, b, none⟩ (.int .u32 0)) := hS
    clear hc hf
    have hS := hS.drew
    refine region_fin [(0, true), (1, true), (2, true), (3, true), (5, true), (6, true), (7, true), (8, true), (4, false), (9, false), (10, true), (11, true)] folm (by kernel_rfl) (by kernel_rfl) (by kernel_rfl) (fun d _ _ _ _ h => by cases d <;> exact h) (Sx B w0 ((g, rd q (upd H b 0), 57) :: bs)) (hS) ?_
    refine Fin.mv (some 18) none (Operand.tmp 6) (.int .u32 (H b : Int)) rfl rfl rfl ?_
    simp only [Act.put, List.setIfInBounds_toArray, List.set_cons_zero, List.set_cons_succ]
    refine Fin.bin (some 19) none .neq 27 27 (Operand.tmp 18) (Operand.const (Value.int IntKind.u32 0)) (.int .u32 (H b : Int)) (Value.int IntKind.u32 0) (.bool true) rfl rfl rfl rfl (fun w_ => ⟨by first | rfl | go_simp, by go_simp⟩) ?_
    simp only [Act.put, List.setIfInBounds_toArray, List.set_cons_zero, List.set_cons_succ]
    refine Fin.mv (some 20) none (Operand.tmp 19) (.bool true) rfl rfl rfl ?_
    simp only [Act.put, List.setIfInBounds_toArray, List.set_cons_zero, List.set_cons_succ]
    refine Fin.mv (some 21) (some (2, true)) (Operand.tmp 0) (.pointer (some ⟨g, 0, none⟩)) rfl rfl rfl ?_
    simp only [Act.put, List.setIfInBounds_toArray, List.set_cons_zero, List.set_cons_succ]
    refine Fin.mv (some 23) (some (2, true)) (Operand.tmp 0) (.pointer (some ⟨g, 0, none⟩)) rfl rfl rfl ?_
    simp only [Act.put, List.setIfInBounds_toArray, List.set_cons_zero, List.set_cons_succ]
    refine Fin.nil (some 24) (some (2, true)) (Operand.tmp 23) ⟨g, 0, none⟩ rfl rfl rfl ?_
    simp only [Act.put, List.setIfInBounds_toArray, List.set_cons_zero, List.set_cons_succ]
    refine Fin.fld (some 25) (some (2, true)) 57 (Operand.tmp 24) 1 (.pointer (some ⟨g, 0, none⟩)) (.pointer (some ⟨g, 256, none⟩)) rfl rfl rfl (fun w_ => by go_simp) ?_
    simp only [Act.put, List.setIfInBounds_toArray, List.set_cons_zero, List.set_cons_succ]
    refine Fin.load1 (some 26) (some (2, true)) 3 (Operand.tmp 25) ⟨g, 256, none⟩ (.int .i64 (6 + (q : Int))) rfl rfl rfl (fun w_ h_ => by have hc := ((Sx.blk h_ (g, rd q (upd H b 0), 57) (List.mem_cons_self ..)).cell 256).trans (rd_kind q (upd H b 0)); go_simp) ?_
    simp only [Act.put, List.setIfInBounds_toArray, List.set_cons_zero, List.set_cons_succ]
    refine Fin.call (some 22) (some (2, true)) 31 #[Operand.tmp 21] #[42] #[.pointer (some ⟨g, 0, none⟩)] rfl rfl rfl (enter31 _) ?_
    refine (rlen_any g q (upd H b 0) _ (Sx.blk hS (g, rd q (upd H b 0), 57) (List.mem_cons_self ..))).mono ?_
    rintro e wn4 ⟨rfl, rfl⟩
    refine ⟨_, rfl, hS, ?_⟩
    simp only [Act.put, List.setIfInBounds_toArray, List.set_cons_zero, List.set_cons_succ]
    refine Fin.call (some 27) (some (2, true)) 33 #[Operand.tmp 26] #[3] #[.int .i64 (6 + (q : Int))] rfl rfl rfl (enter33 _) ?_
    refine (rleast_any q hq _).mono ?_
    rintro e wn9 ⟨rfl, rfl⟩
    refine ⟨_, rfl, hS, ?_⟩
    simp only [Act.put, List.setIfInBounds_toArray, List.set_cons_zero, List.set_cons_succ]
    refine Fin.bin (some 28) (some (2, true)) .leq 3 3 (Operand.tmp 22) (Operand.tmp 27) (.int .i64 ((cnt (upd H b 0) : Nat) : Int)) (.int .i64 (left q)) (.bool (decide (((cnt (upd H b 0) : Nat) : Int) ≤ left q))) rfl rfl rfl rfl (fun w_ => ⟨by first | rfl | go_simp, by go_simp⟩) ?_
    simp only [Act.put, List.setIfInBounds_toArray, List.set_cons_zero, List.set_cons_succ]
    refine Fin.pick (some 29) none (Operand.tmp 20) (Operand.tmp 28) (Operand.const (Value.bool false)) true (.bool (decide (((cnt (upd H b 0) : Nat) : Int) ≤ left q))) rfl rfl rfl rfl ?_
    simp only [Act.put, List.setIfInBounds_toArray, List.set_cons_zero, List.set_cons_succ]
    simp only [Fin]
    have hb0 := hS.blk (g, rd q (upd H b 0), 57) (List.mem_cons_self ..)
    have hc0 := (hb0.cell 256).trans (rd_kind q (upd H b 0))
    have hf0 := hb0.frozen 256
    have HB0 := Lib.hid hb0
    clear hb0
    by_cases hr : ((cnt (upd H b 0) : Nat) : Int) ≤ left q
    · have hr' : decide (((cnt (upd H b 0) : Nat) : Int) ≤ left q) = true := decide_eq_true hr
      have hk : kdrop q (cnt (upd H b 0)) = q - 1 := by unfold kdrop; rw [if_pos hr]
      have hq0 : 0 < q := by
        rcases Nat.eq_zero_or_pos q with e | e
        · subst e; unfold left at hr; simp at hr; omega
        · exact e
      have hw1 : IntKind.i64.wrap (6 + (q : Int) - 1) = 6 + ((q - 1 : Nat) : Int) := by rw [IntKind.wrap_i64]; omega
      rw [hr']
      clear hr'
      have HK := Lib.hid hk
      clear hk
      go_wp2_with fail
      go_ret2
      rw [HK.out]
      have h9 := Sx.set hS hB hne 256 (.int .i64 (6 + ((q - 1 : Nat) : Int)))
      rw [rd_setKind] at h9
      exact ⟨rfl, by first | exact h9 | (rw [show (6 + ((q - 1 : Nat) : Int)) = 6 + (q : Int) - 1 by omega] at h9; exact h9)⟩
    · have hr' : decide (((cnt (upd H b 0) : Nat) : Int) ≤ left q) = false := decide_eq_false hr
      have hk : kdrop q (cnt (upd H b 0)) = q := by unfold kdrop; rw [if_neg hr]
      rw [hr']
      clear hr'
      have HK := Lib.hid hk
      clear hk
      go_wp2_with fail
      go_ret2
      rw [HK.out]
      exact ⟨rfl, hS⟩
set_option maxHeartbeats 1000000 in
set_option maxRecDepth 20000 in
theorem rnew_any (w : World) : Calls Tryd.prog 19 #[] w fun e w' => e = .returned (pn w.heap.size) ∧ w' = w.alloc (.cells (rd 0 fun _ => 0) 57) := by
  have hz : ∀ w : World, (zeroValue 57).run Tryd.prog w = .ok (.agg rz) w := fun w => by kernel_rfl
  have hsz := rz_size
  go_enter Tryd.func19, Tryd.ntmps19
  go_wp2_with (first | refine wpList_box_is rfl 57 _ rfl (rd 0 fun _ => 0) rfl ?_ | fail)
  go_ret
  rw [rz_set]
  exact ⟨rfl, rfl⟩
end Go.Proofs.YtnemnchldjohgaaDoor
