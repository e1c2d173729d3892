/- A node of children: next, the one before, put, drop. -/
import Derived.Test.YtnemnchldjohgaaDoorKidA
import Derived.Test.YtnemnchldjohgaaDoorRegK
set_option linter.unusedVariables false
set_option linter.unusedSimpArgs false
namespace Go.Proofs.YtnemnchldjohgaaDoor
open Go.RowKit
theorem Sx.set {B g : Nat} {cs : Array Value} {t : TypeId} {w0 w : World} {bs : List (Nat × Array Value × TypeId)} (h : Sx B w0 ((g, cs, t) :: bs) w) (hB : B ≤ g) (hne : ∀ p ∈ bs, p.1 ≠ g) (j : Nat) (v : Value) : Sx B w0 ((g, cs.setIfInBounds j v, t) :: bs) (w.setCell ⟨g, j, none⟩ v) :=
  ((h.less (cs := bs) fun p hp => List.mem_cons_of_mem _ hp).grown (grown_setCells w g [v] j).1 hB hne).add ((h.blk (g, cs, t) (List.mem_cons_self ..)).set j v)
theorem Sx.setMask {B g q : Nat} {M M' : Nat → Bool} {H : Nat → Nat} {t : TypeId} {w0 w : World} {bs : List (Nat × Array Value × TypeId)} (h : Sx B w0 ((g, nd q M H, t) :: bs) w) (hB : B ≤ g) (hne : ∀ p ∈ bs, p.1 ≠ g) : Sx B w0 ((g, nd q M' H, t) :: bs) (w.setCells g 1 (mk4 M').toList) :=
  ((h.less (cs := bs) fun p hp => List.mem_cons_of_mem _ hp).grown (grown_setCells w g (mk4 M').toList 1).1 hB hne).add (nd_setMask (h.blk (g, nd q M H, t) (List.mem_cons_self ..)))
theorem enter23 (vs : Array Value) (w : World) : (callFunc 23 vs).run Tryd.prog w = .ok (.enter 23 vs) w := by kernel_rfl
theorem enter26 (vs : Array Value) (w : World) : (callFunc 26 vs).run Tryd.prog w = .ok (.enter 26 vs) w := by kernel_rfl
theorem enter11 (vs : Array Value) (w : World) : (callFunc 11 vs).run Tryd.prog w = .ok (.enter 11 vs) w := by kernel_rfl
attribute [local irreducible] mk4 wd allTo rnk nd ks room left
/-- The handle of a byte, 0 of none. -/
def hat (H : Nat → Nat) (n : Int) : Int := if n < 0 then 0 else (H n.toNat : Int)
set_option maxHeartbeats 1000000 in
set_option maxRecDepth 20000 in
theorem one_any (g q : Nat) (M : Nat → Bool) (H : Nat → Nat) (n : Int) (h0 : -1 ≤ n) (h1 : n ≤ 255) (w : World) (hb : Blk g (nd q M H) 51 w) : Calls Tryd.prog 28 #[pn g, .int .i64 n] w fun e w' => e = .returned (.tuple #[.int .i64 n, .int .u32 (hat H n)]) ∧ Below w.heap.size w w' := by
  by_cases hn : n < 0
  · have hh : hat H n = 0 := by unfold hat; rw [if_pos hn]
    have hm : n = -1 := by omega
    rw [hh]
    subst hm
    clear hh
    go_enter Tryd.func28, Tryd.ntmps28
    go_wp2_with fail
    go_ret2
    exact ⟨rfl, Below.refl _ _⟩
  · obtain ⟨k, rfl⟩ := Int.eq_ofNat_of_zero_le (by omega : 0 ≤ n)
    have hh : hat H (k : Int) = (H k : Int) := by unfold hat; rw [if_neg hn, Int.toNat_natCast]
    rw [hh]
    clear hh
    have hc : w.cell? ⟨g, 5 + k, none⟩ = some (.int .u32 (H k : Int)) := (hb.cell (5 + k)).trans (nd_kid q M H k (by omega))
    have HB := Lib.hid hb
    clear hb
    go_enter Tryd.func28, Tryd.ntmps28
    go_wp2_with fail
    go_region
    go_wp2_with fail
    go_ret2
    exact ⟨rfl, (Below.refl _ _).drew⟩
set_option maxHeartbeats 1000000 in
set_option maxRecDepth 20000 in
theorem knext_any (g q : Nat) (M : Nat → Bool) (H : Nat → Nat) (n : Int) (h0 : -9223372036854775808 ≤ n) (h1 : n ≤ 9223372036854775807) (w : World) (hb : Blk g (nd q M H) 51 w) : Calls Tryd.prog 17 #[pn g, .int .i64 n] w fun e w' => e = .returned (.tuple #[.int .i64 (next M n), .int .u32 (hat H (next M n))]) ∧ Below w.heap.size w w' := by
  have hbd := next_bd M n
  go_enter Tryd.func17, Tryd.ntmps17
  go_wp2_with (first | refine wpList_load_mask rfl _ rfl g q M H 51 rfl hb ?_ | fail)
  refine (next_any M n h0 h1 _).mono ?_
  rintro e w1 ⟨rfl, hb1⟩
  have hB1 := hb.below hb1
  go_wp2_with fail
  refine (one_any g q M H (next M n) hbd.1 hbd.2 _ hB1).mono ?_
  rintro e w2 ⟨rfl, hb2⟩
  go_wp2_with fail
  go_ret2
  exact ⟨rfl, below_then hb1 hb1.size hb2⟩
set_option maxHeartbeats 1000000 in
set_option maxRecDepth 20000 in
theorem kprev_any (g q : Nat) (M : Nat → Bool) (H : Nat → Nat) (n : Int) (h0 : -9223372036854775808 ≤ n) (h1 : n ≤ 9223372036854775807) (w : World) (hb : Blk g (nd q M H) 51 w) : Calls Tryd.prog 18 #[pn g, .int .i64 n] w fun e w' => e = .returned (.tuple #[.int .i64 (prev M n), .int .u32 (hat H (prev M n))]) ∧ Below w.heap.size w w' := by
  have hbd := prev_bd M n
  go_enter Tryd.func18, Tryd.ntmps18
  go_wp2_with (first | refine wpList_load_mask rfl _ rfl g q M H 51 rfl hb ?_ | fail)
  refine (prev_any M n h0 h1 _).mono ?_
  rintro e w1 ⟨rfl, hb1⟩
  have hB1 := hb.below hb1
  go_wp2_with fail
  refine (one_any g q M H (prev M n) hbd.1 hbd.2 _ hB1).mono ?_
  rintro e w2 ⟨rfl, hb2⟩
  go_wp2_with fail
  go_ret2
  exact ⟨rfl, below_then hb1 hb1.size hb2⟩
/-- The kind behind a child that came, or went. -/
def kput (q n : Nat) : Nat := if (n : Int) > room q then q + 1 else q
def kdrop (q n : Nat) : Nat := if (n : Int) ≤ left q then q - 1 else q
set_option maxHeartbeats 1000000 in
set_option maxRecDepth 20000 in
theorem put_any (g q : Nat) (M : Nat → Bool) (H : Nat → Nat) (b h : Nat) (hq : q < 4) (hb : b ≤ 255) (hh : 0 < h) (B : Nat) (w0 w : World) (bs : List (Nat × Array Value × TypeId)) (hL : RL w0) (h2 : 2 ≤ B) (hS : Sx B w0 ((g, nd q M H, 51) :: bs) w) (hB : B ≤ g) (hne : ∀ p ∈ bs, p.1 ≠ g) :
    Calls Tryd.prog 9 #[pn g, .int .u8 (b : Int), .int .u32 (h : Int)] w fun e w' => e = .returned (.int .i64 0) ∧ Sx B w0 ((g, nd (kput q (rnk (ins M b) 256)) (ins M b) (upd H b h), 51) :: bs) w' := by
  have hnz : ((h : Int) == 0) = false := by simp; omega
  go_enter Tryd.func9, Tryd.ntmps9
  go_wp2_with fail
  have hS := hS.drew
  refine region_fin [(0, true), (1, true), (2, true), (3, true), (4, true), (5, true), (6, true), (8, true), (10, true), (11, true), (7, false), (9, false), (12, true), (13, false), (14, true), (15, true), (16, false)] folm (by kernel_rfl) (by kernel_rfl) (by kernel_rfl) (fun d _ _ _ _ h => by cases d <;> exact h) (fun _ => True) (trivial) ?_
  refine Fin.mv (some 13) none (Operand.tmp 0) (.pointer (some ⟨g, 0, none⟩)) rfl rfl rfl ?_
  simp only [Act.put, List.setIfInBounds_toArray, List.set_cons_zero, List.set_cons_succ]
  refine Fin.mv (some 14) none (Operand.tmp 1) (.int .u8 (b : Int)) rfl rfl rfl ?_
  simp only [Act.put, List.setIfInBounds_toArray, List.set_cons_zero, List.set_cons_succ]
  refine Fin.mv (some 15) none (Operand.tmp 0) (.pointer (some ⟨g, 0, none⟩)) rfl rfl rfl ?_
  simp only [Act.put, List.setIfInBounds_toArray, List.set_cons_zero, List.set_cons_succ]
  refine Fin.mv (some 16) none (Operand.tmp 2) (.int .u32 (h : Int)) rfl rfl rfl ?_
  simp only [Act.put, List.setIfInBounds_toArray, List.set_cons_zero, List.set_cons_succ]
  refine Fin.mv (some 17) none (Operand.tmp 0) (.pointer (some ⟨g, 0, none⟩)) rfl rfl rfl ?_
  simp only [Act.put, List.setIfInBounds_toArray, List.set_cons_zero, List.set_cons_succ]
  refine Fin.nil (some 18) none (Operand.tmp 17) ⟨g, 0, none⟩ rfl rfl rfl ?_
  simp only [Act.put, List.setIfInBounds_toArray, List.set_cons_zero, List.set_cons_succ]
  refine Fin.fld (some 19) none 51 (Operand.tmp 18) 1 (.pointer (some ⟨g, 0, none⟩)) (.pointer (some ⟨g, 1, none⟩)) rfl rfl rfl (fun w_ => by go_simp) ?_
  simp only [Act.put, List.setIfInBounds_toArray, List.set_cons_zero, List.set_cons_succ]
  refine Fin.mv (some 21) none (Operand.tmp 1) (.int .u8 (b : Int)) rfl rfl rfl ?_
  simp only [Act.put, List.setIfInBounds_toArray, List.set_cons_zero, List.set_cons_succ]
  refine Fin.nil (some 23) none (Operand.tmp 13) ⟨g, 0, none⟩ rfl rfl rfl ?_
  simp only [Act.put, List.setIfInBounds_toArray, List.set_cons_zero, List.set_cons_succ]
  refine Fin.fld (some 24) none 51 (Operand.tmp 23) 2 (.pointer (some ⟨g, 0, none⟩)) (.pointer (some ⟨g, 5, none⟩)) rfl rfl rfl (fun w_ => by go_simp) ?_
  simp only [Act.put, List.setIfInBounds_toArray, List.set_cons_zero, List.set_cons_succ]
  refine Fin.loadL (some 20) none 49 (Operand.tmp 19) (.pointer (some ⟨g, 1, none⟩)) (.agg (mk4 M)) rfl rfl rfl (run_loadMask g q M H 51 _ (hS.blk (g, nd q M H, 51) (List.mem_cons_self ..))) (trivial) ?_
  simp only [Act.put, List.setIfInBounds_toArray, List.set_cons_zero, List.set_cons_succ]
  refine Fin.call (some 22) none 23 #[Operand.tmp 20, Operand.tmp 21] #[49, 5] #[.agg (mk4 M), .int .u8 (b : Int)] rfl rfl rfl (enter23 _) ?_
  refine (with_any M b (by omega) (by omega) _).mono ?_
  rintro e wn9 ⟨rfl, hb⟩
  rw [Int.toNat_natCast]
  have hS := Sx.below hS hb
  clear hb
  refine ⟨_, rfl, trivial, ?_⟩
  simp only [Act.put, List.setIfInBounds_toArray, List.set_cons_zero, List.set_cons_succ]
  refine Fin.ix (some 25) none 38 (Operand.tmp 24) (Operand.tmp 14) (.pointer (some ⟨g, 5, none⟩)) (.int .u8 (b : Int)) (.pointer (some ⟨g, 5 + b, none⟩)) rfl rfl rfl rfl (fun w_ => by go_simp; intro _; omega) ?_
  simp only [Act.put, List.setIfInBounds_toArray, List.set_cons_zero, List.set_cons_succ]
  refine Fin.sto none 27 (Operand.tmp 25) (Operand.tmp 16) (.pointer (some ⟨g, 5 + b, none⟩)) (.int .u32 (h : Int)) (_) rfl rfl rfl rfl (by have hc := (hS.blk (g, nd q M H, 51) (List.mem_cons_self ..)).cell (5 + b) |>.trans (nd_kid q M H b (by omega)); have hf := (hS.blk (g, nd q M H, 51) (List.mem_cons_self ..)).frozen (5 + b); go_simp; rfl) (trivial) ?_
  refine Fin.nil (some 26) none (Operand.tmp 15) ⟨g, 0, none⟩ rfl rfl rfl ?_
  simp only [Act.put, List.setIfInBounds_toArray, List.set_cons_zero, List.set_cons_succ]
  refine Fin.fld (some 27) none 51 (Operand.tmp 26) 1 (.pointer (some ⟨g, 0, none⟩)) (.pointer (some ⟨g, 1, none⟩)) rfl rfl rfl (fun w_ => by go_simp) ?_
  simp only [Act.put, List.setIfInBounds_toArray, List.set_cons_zero, List.set_cons_succ]
  have hS := Sx.set hS hB hne (5 + b) (.int .u32 (((h : Nat)) : Int))
  rw [nd_setKid] at hS
  refine Fin.sto none 49 (Operand.tmp 27) (Operand.tmp 22) (.pointer (some ⟨g, 1, none⟩)) (.agg (mk4 (ins M b))) (_) rfl rfl rfl rfl (run_storeMask g q M (ins M b) (upd H b h) 51 _ (hS.blk (g, nd q M (upd H b h), 51) (List.mem_cons_self ..))) (trivial) ?_
  simp only [Fin]
  have hS := Sx.setMask (M' := ins M b) hS hB hne
  go_wp2_with fail
  have hS := hS.drew
  refine region_fin [(0, true), (2, true), (3, true), (4, true), (5, true), (6, true), (7, true), (1, false), (8, true)] folm (by kernel_rfl) (by kernel_rfl) (by kernel_rfl) (fun d _ _ _ _ h => by cases d <;> exact h) (Sx B w0 ((g, nd q (ins M b) (upd H b h), 51) :: bs)) (hS) ?_
  refine Fin.mv (some 28) none (Operand.tmp 0) (.pointer (some ⟨g, 0, none⟩)) rfl rfl rfl ?_
  simp only [Act.put, List.setIfInBounds_toArray, List.set_cons_zero, List.set_cons_succ]
  refine Fin.mv (some 30) none (Operand.tmp 0) (.pointer (some ⟨g, 0, none⟩)) rfl rfl rfl ?_
  simp only [Act.put, List.setIfInBounds_toArray, List.set_cons_zero, List.set_cons_succ]
  refine Fin.nil (some 31) none (Operand.tmp 30) ⟨g, 0, none⟩ rfl rfl rfl ?_
  simp only [Act.put, List.setIfInBounds_toArray, List.set_cons_zero, List.set_cons_succ]
  refine Fin.fld (some 32) none 51 (Operand.tmp 31) 0 (.pointer (some ⟨g, 0, none⟩)) (.pointer (some ⟨g, 0, none⟩)) rfl rfl rfl (fun w_ => by go_simp) ?_
  simp only [Act.put, List.setIfInBounds_toArray, List.set_cons_zero, List.set_cons_succ]
  refine Fin.load1 (some 33) none 3 (Operand.tmp 32) ⟨g, 0, none⟩ (.int .i64 (q : Int)) rfl rfl rfl (fun w_ h_ => by have hc := ((Sx.blk h_ (g, nd q (ins M b) (upd H b h), 51) (List.mem_cons_self ..)).cell 0).trans (nd_kind q (ins M b) (upd H b h)); go_simp) ?_
  simp only [Act.put, List.setIfInBounds_toArray, List.set_cons_zero, List.set_cons_succ]
  refine Fin.ix (some 34) none 53 (Operand.global 0) (Operand.tmp 33) (.pointer (some ⟨0, 0, none⟩)) (.int .i64 (q : Int)) (.pointer (some ⟨0, q, none⟩)) rfl rfl rfl rfl (fun w_ => by go_simp; intro _; omega) ?_
  simp only [Act.put, List.setIfInBounds_toArray, List.set_cons_zero, List.set_cons_succ]
  refine Fin.load1 (some 35) none 3 (Operand.tmp 34) ⟨0, q, none⟩ (.int .i64 (room q)) rfl rfl rfl (fun w_ h_ => by have hc := (RL.below hL (Sx.low h_) h2 q hq).1; go_simp) ?_
  simp only [Act.put, List.setIfInBounds_toArray, List.set_cons_zero, List.set_cons_succ]
  refine Fin.call (some 29) none 11 #[Operand.tmp 28] #[23] #[.pointer (some ⟨g, 0, none⟩)] rfl rfl rfl (enter11 _) ?_
  refine (len_any g q (ins M b) (upd H b h) _ (hS.blk (g, nd q (ins M b) (upd H b h), 51) (List.mem_cons_self ..))).mono ?_
  rintro e wn1 ⟨rfl, hb⟩
  have hS := Sx.below hS hb
  clear hb
  refine ⟨_, rfl, hS, ?_⟩
  simp only [Act.put, List.setIfInBounds_toArray, List.set_cons_zero, List.set_cons_succ]
  refine Fin.bin (some 36) none .gtr 3 3 (Operand.tmp 29) (Operand.tmp 35) (.int .i64 ((rnk (ins M b) 256 : Nat) : Int)) (.int .i64 (room q)) (.bool (decide (((rnk (ins M b) 256 : Nat) : Int) > room q))) rfl rfl rfl rfl (fun w_ => ⟨by first | rfl | go_simp, by go_simp⟩) ?_
  simp only [Act.put, List.setIfInBounds_toArray, List.set_cons_zero, List.set_cons_succ]
  simp only [Fin]
  have hb0 := hS.blk (g, nd q (ins M b) (upd H b h), 51) (List.mem_cons_self ..)
  have hc0 := (hb0.cell 0).trans (nd_kind q (ins M b) (upd H b h))
  have hf0 := hb0.frozen 0
  have HB0 := Lib.hid hb0
  clear hb0
  have hw1 : IntKind.i64.wrap ((q : Int) + 1) = ((q + 1 : Nat) : Int) := by rw [IntKind.wrap_i64]; omega
  by_cases hr : ((rnk (ins M b) 256 : Nat) : Int) > room q
  · have hr' : decide (((rnk (ins M b) 256 : Nat) : Int) > room q) = true := decide_eq_true hr
    have hk : kput q (rnk (ins M b) 256) = q + 1 := by unfold kput; rw [if_pos hr]
    rw [hr']
    clear hr'
    have HK := Lib.hid hk
    clear hk
    go_wp2_with fail
    go_ret
    rw [HK.out]
    have h9 := Sx.set hS hB hne 0 (.int .i64 ((q + 1 : Nat) : Int))
    rw [nd_setKind] at h9
    exact ⟨rfl, h9⟩
  · have hr' : decide (((rnk (ins M b) 256 : Nat) : Int) > room q) = false := decide_eq_false hr
    have hk : kput q (rnk (ins M b) 256) = q := by unfold kput; rw [if_neg hr]
    rw [hr']
    clear hr'
    have HK := Lib.hid hk
    clear hk
    go_wp2_with fail
    go_ret
    rw [HK.out]
    exact ⟨rfl, hS⟩
set_option maxHeartbeats 1000000 in
set_option maxRecDepth 20000 in
theorem put_zero (g b : Nat) (w : World) : Calls Tryd.prog 9 #[pn g, .int .u8 (b : Int), .int .u32 0] w fun e w' => e = .returned (.int .i64 2) ∧ w' = w := by
  go_enter Tryd.func9, Tryd.ntmps9
  go_wp2_with fail
  go_ret
  exact ⟨rfl, rfl⟩
set_option maxHeartbeats 1000000 in
set_option maxRecDepth 20000 in
theorem drop_none (g q : Nat) (M : Nat → Bool) (H : Nat → Nat) (b : Nat) (hb : b ≤ 255) (hM : M b = false) (w : World) (hk : Blk g (nd q M H) 51 w) :
    Calls Tryd.prog 12 #[pn g, .int .u8 (b : Int)] w fun e w' => e = .returned (.tuple #[.int .u32 0, .bool false]) ∧ Below w.heap.size w w' := by
  go_enter Tryd.func12, Tryd.ntmps12
  go_wp2_with (first | refine wpList_load_mask rfl _ rfl g q M H 51 rfl hk ?_ | fail)
  refine (has_any M b (by omega) (by omega) _).mono ?_
  rintro e w1 ⟨rfl, hb1⟩
  rw [Int.toNat_natCast, hM]
  go_wp2_with fail
  go_ret2
  exact ⟨rfl, hb1⟩
set_option maxHeartbeats 1000000 in
set_option maxRecDepth 20000 in
theorem drop_some (g q : Nat) (M : Nat → Bool) (H : Nat → Nat) (b : Nat) (hq : q < 4) (hb : b ≤ 255) (hM : M b = true) (B : Nat) (w0 w : World) (bs : List (Nat × Array Value × TypeId)) (hL : RL w0) (h2 : 2 ≤ B) (hS : Sx B w0 ((g, nd q M H, 51) :: bs) w) (hB : B ≤ g) (hne : ∀ p ∈ bs, p.1 ≠ g) :
    Calls Tryd.prog 12 #[pn g, .int .u8 (b : Int)] w fun e w' => e = .returned (.tuple #[.int .u32 (H b : Int), .bool true]) ∧ Sx B w0 ((g, nd (kdrop q (rnk (del M b) 256)) (del M b) (upd H b 0), 51) :: bs) w' := by
  go_enter Tryd.func12, Tryd.ntmps12
  go_wp2_with (first | refine wpList_load_mask rfl _ rfl g q M H 51 rfl (hS.blk (g, nd q M H, 51) (List.mem_cons_self ..)) ?_ | fail)
  refine (has_any M b (by omega) (by omega) _).mono ?_
  rintro e w1 ⟨rfl, hb1⟩
  rw [Int.toNat_natCast, hM]
  have hS := hS.below hb1
  have hcb := ((hS.blk (g, nd q M H, 51) (List.mem_cons_self ..)).cell (5 + b)).trans (nd_kid q M H b (by omega))
  go_wp2_with fail
  have hS := hS.drew
  clear hcb
  refine region_fin [(0, true), (1, true), (2, true), (3, true), (4, true), (5, true), (7, true), (9, true), (10, true), (6, false), (8, false), (11, true), (12, false), (13, true), (14, true), (15, false)] folm (by kernel_rfl) (by kernel_rfl) (by kernel_rfl) (fun d _ _ _ _ h => by cases d <;> exact h) (fun _ => True) (trivial) ?_
  refine Fin.mv (some 24) none (Operand.tmp 0) (.pointer (some ⟨g, 0, none⟩)) rfl rfl rfl ?_
  simp only [Act.put, List.setIfInBounds_toArray, List.set_cons_zero, List.set_cons_succ]
  refine Fin.mv (some 25) none (Operand.tmp 1) (.int .u8 (b : Int)) rfl rfl rfl ?_
  simp only [Act.put, List.setIfInBounds_toArray, List.set_cons_zero, List.set_cons_succ]
  refine Fin.mv (some 26) none (Operand.tmp 0) (.pointer (some ⟨g, 0, none⟩)) rfl rfl rfl ?_
  simp only [Act.put, List.setIfInBounds_toArray, List.set_cons_zero, List.set_cons_succ]
  refine Fin.mv (some 27) none (Operand.tmp 0) (.pointer (some ⟨g, 0, none⟩)) rfl rfl rfl ?_
  simp only [Act.put, List.setIfInBounds_toArray, List.set_cons_zero, List.set_cons_succ]
  refine Fin.nil (some 28) none (Operand.tmp 27) ⟨g, 0, none⟩ rfl rfl rfl ?_
  simp only [Act.put, List.setIfInBounds_toArray, List.set_cons_zero, List.set_cons_succ]
  refine Fin.fld (some 29) none 51 (Operand.tmp 28) 1 (.pointer (some ⟨g, 0, none⟩)) (.pointer (some ⟨g, 1, none⟩)) rfl rfl rfl (fun w_ => by go_simp) ?_
  simp only [Act.put, List.setIfInBounds_toArray, List.set_cons_zero, List.set_cons_succ]
  refine Fin.mv (some 31) none (Operand.tmp 1) (.int .u8 (b : Int)) rfl rfl rfl ?_
  simp only [Act.put, List.setIfInBounds_toArray, List.set_cons_zero, List.set_cons_succ]
  refine Fin.nil (some 33) none (Operand.tmp 24) ⟨g, 0, none⟩ rfl rfl rfl ?_
  simp only [Act.put, List.setIfInBounds_toArray, List.set_cons_zero, List.set_cons_succ]
  refine Fin.fld (some 34) none 51 (Operand.tmp 33) 2 (.pointer (some ⟨g, 0, none⟩)) (.pointer (some ⟨g, 5, none⟩)) rfl rfl rfl (fun w_ => by go_simp) ?_
  simp only [Act.put, List.setIfInBounds_toArray, List.set_cons_zero, List.set_cons_succ]
  refine Fin.loadL (some 30) none 49 (Operand.tmp 29) (.pointer (some ⟨g, 1, none⟩)) (.agg (mk4 M)) rfl rfl rfl (run_loadMask g q M H 51 _ (hS.blk (g, nd q M H, 51) (List.mem_cons_self ..))) (trivial) ?_
  simp only [Act.put, List.setIfInBounds_toArray, List.set_cons_zero, List.set_cons_succ]
  refine Fin.call (some 32) none 26 #[Operand.tmp 30, Operand.tmp 31] #[49, 5] #[.agg (mk4 M), .int .u8 (b : Int)] rfl rfl rfl (enter26 _) ?_
  refine (without_any M b (by omega) (by omega) _).mono ?_
  rintro e wn8 ⟨rfl, hb⟩
  rw [Int.toNat_natCast]
  have hS := Sx.below hS hb
  clear hb
  refine ⟨_, rfl, trivial, ?_⟩
  simp only [Act.put, List.setIfInBounds_toArray, List.set_cons_zero, List.set_cons_succ]
  refine Fin.ix (some 35) none 38 (Operand.tmp 34) (Operand.tmp 25) (.pointer (some ⟨g, 5, none⟩)) (.int .u8 (b : Int)) (.pointer (some ⟨g, 5 + b, none⟩)) rfl rfl rfl rfl (fun w_ => by go_simp; intro _; omega) ?_
  simp only [Act.put, List.setIfInBounds_toArray, List.set_cons_zero, List.set_cons_succ]
  refine Fin.sto none 27 (Operand.tmp 35) (Operand.const (Value.int IntKind.u32 0)) (.pointer (some ⟨g, 5 + b, none⟩)) (Value.int IntKind.u32 0) (_) rfl rfl rfl rfl (by have hc := (hS.blk (g, nd q M H, 51) (List.mem_cons_self ..)).cell (5 + b) |>.trans (nd_kid q M H b (by omega)); have hf := (hS.blk (g, nd q M H, 51) (List.mem_cons_self ..)).frozen (5 + b); go_simp; rfl) (trivial) ?_
  refine Fin.nil (some 36) none (Operand.tmp 26) ⟨g, 0, none⟩ rfl rfl rfl ?_
  simp only [Act.put, List.setIfInBounds_toArray, List.set_cons_zero, List.set_cons_succ]
  refine Fin.fld (some 37) none 51 (Operand.tmp 36) 1 (.pointer (some ⟨g, 0, none⟩)) (.pointer (some ⟨g, 1, none⟩)) rfl rfl rfl (fun w_ => by go_simp) ?_
  simp only [Act.put, List.setIfInBounds_toArray, List.set_cons_zero, List.set_cons_succ]
  have hS := Sx.set hS hB hne (5 + b) (.int .u32 (((0 : Nat)) : Int))
  rw [nd_setKid] at hS
  refine Fin.sto none 49 (Operand.tmp 37) (Operand.tmp 32) (.pointer (some ⟨g, 1, none⟩)) (.agg (mk4 (del M b))) (_) rfl rfl rfl rfl (run_storeMask g q M (del M b) (upd H b 0) 51 _ (hS.blk (g, nd q M (upd H b 0), 51) (List.mem_cons_self ..))) (trivial) ?_
  simp only [Fin]
  have hS := Sx.setMask (M' := del M b) hS hB hne
  go_wp2_with fail
  have hS := hS.drew
  refine region_fin [(0, true), (2, true), (3, true), (4, true), (5, true), (6, true), (7, true), (1, false), (8, true)] folm (by kernel_rfl) (by kernel_rfl) (by kernel_rfl) (fun d _ _ _ _ h => by cases d <;> exact h) (Sx B w0 ((g, nd q (del M b) (upd H b 0), 51) :: bs)) (hS) ?_
  refine Fin.mv (some 38) none (Operand.tmp 0) (.pointer (some ⟨g, 0, none⟩)) rfl rfl rfl ?_
  simp only [Act.put, List.setIfInBounds_toArray, List.set_cons_zero, List.set_cons_succ]
  refine Fin.mv (some 40) none (Operand.tmp 0) (.pointer (some ⟨g, 0, none⟩)) rfl rfl rfl ?_
  simp only [Act.put, List.setIfInBounds_toArray, List.set_cons_zero, List.set_cons_succ]
  refine Fin.nil (some 41) none (Operand.tmp 40) ⟨g, 0, none⟩ rfl rfl rfl ?_
  simp only [Act.put, List.setIfInBounds_toArray, List.set_cons_zero, List.set_cons_succ]
  refine Fin.fld (some 42) none 51 (Operand.tmp 41) 0 (.pointer (some ⟨g, 0, none⟩)) (.pointer (some ⟨g, 0, none⟩)) rfl rfl rfl (fun w_ => by go_simp) ?_
  simp only [Act.put, List.setIfInBounds_toArray, List.set_cons_zero, List.set_cons_succ]
  refine Fin.load1 (some 43) none 3 (Operand.tmp 42) ⟨g, 0, none⟩ (.int .i64 (q : Int)) rfl rfl rfl (fun w_ h_ => by have hc := ((Sx.blk h_ (g, nd q (del M b) (upd H b 0), 51) (List.mem_cons_self ..)).cell 0).trans (nd_kind q (del M b) (upd H b 0)); go_simp) ?_
  simp only [Act.put, List.setIfInBounds_toArray, List.set_cons_zero, List.set_cons_succ]
  refine Fin.ix (some 44) none 53 (Operand.global 1) (Operand.tmp 43) (.pointer (some ⟨1, 0, none⟩)) (.int .i64 (q : Int)) (.pointer (some ⟨1, q, none⟩)) rfl rfl rfl rfl (fun w_ => by go_simp; intro _; omega) ?_
  simp only [Act.put, List.setIfInBounds_toArray, List.set_cons_zero, List.set_cons_succ]
  refine Fin.load1 (some 45) none 3 (Operand.tmp 44) ⟨1, q, none⟩ (.int .i64 (left q)) rfl rfl rfl (fun w_ h_ => by have hc := (RL.below hL (Sx.low h_) h2 q hq).2; go_simp) ?_
  simp only [Act.put, List.setIfInBounds_toArray, List.set_cons_zero, List.set_cons_succ]
  refine Fin.call (some 39) none 11 #[Operand.tmp 38] #[23] #[.pointer (some ⟨g, 0, none⟩)] rfl rfl rfl (enter11 _) ?_
  refine (len_any g q (del M b) (upd H b 0) _ (hS.blk (g, nd q (del M b) (upd H b 0), 51) (List.mem_cons_self ..))).mono ?_
  rintro e wn1 ⟨rfl, hb⟩
  have hS := Sx.below hS hb
  clear hb
  refine ⟨_, rfl, hS, ?_⟩
  simp only [Act.put, List.setIfInBounds_toArray, List.set_cons_zero, List.set_cons_succ]
  refine Fin.bin (some 46) none .leq 3 3 (Operand.tmp 39) (Operand.tmp 45) (.int .i64 ((rnk (del M b) 256 : Nat) : Int)) (.int .i64 (left q)) (.bool (decide (((rnk (del M b) 256 : Nat) : Int) ≤ left q))) rfl rfl rfl rfl (fun w_ => ⟨by first | rfl | go_simp, by go_simp⟩) ?_
  simp only [Act.put, List.setIfInBounds_toArray, List.set_cons_zero, List.set_cons_succ]
  simp only [Fin]
  have hb0 := hS.blk (g, nd q (del M b) (upd H b 0), 51) (List.mem_cons_self ..)
  have hc0 := (hb0.cell 0).trans (nd_kind q (del M b) (upd H b 0))
  have hf0 := hb0.frozen 0
  have HB0 := Lib.hid hb0
  clear hb0
  by_cases hr : ((rnk (del M b) 256 : Nat) : Int) ≤ left q
  · have hr' : decide (((rnk (del M b) 256 : Nat) : Int) ≤ left q) = true := decide_eq_true hr
    have hk : kdrop q (rnk (del M b) 256) = q - 1 := by unfold kdrop; rw [if_pos hr]
    have hq0 : 0 < q := by
      rcases Nat.eq_zero_or_pos q with e | e
      · subst e; unfold left at hr; simp at hr; omega
      · exact e
    have hw1 : IntKind.i64.wrap ((q : Int) - 1) = ((q - 1 : Nat) : Int) := by rw [IntKind.wrap_i64]; omega
    rw [hr']
    clear hr'
    have HK := Lib.hid hk
    clear hk
    go_wp2_with fail
    go_ret2
    rw [HK.out]
    have h9 := Sx.set hS hB hne 0 (.int .i64 ((q - 1 : Nat) : Int))
    rw [nd_setKind] at h9
    exact ⟨rfl, h9⟩
  · have hr' : decide (((rnk (del M b) 256 : Nat) : Int) ≤ left q) = false := decide_eq_false hr
    have hk : kdrop q (rnk (del M b) 256) = q := by unfold kdrop; rw [if_neg hr]
    rw [hr']
    clear hr'
    have HK := Lib.hid hk
    clear hk
    go_wp2_with fail
    go_ret2
    rw [HK.out]
    exact ⟨rfl, hS⟩
end Go.Proofs.YtnemnchldjohgaaDoor
