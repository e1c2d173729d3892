/- MaskOthers: the walk. -/
import Derived.Test.YtnemnchldjohgaaAwake
import Derived.Test.YtnemnchldjohgaaReg
set_option linter.unusedVariables false
set_option linter.unusedSimpArgs false
namespace Go.Proofs.Ytnemnchldjohgaa
open Go.RowKit
/-- All others. -/
def oth (M : Nat → Bool) : Nat → Bool := fun x => !M x
theorem xor_word (M : Nat → Bool) (i : Nat) : bits .xor .u64 (if IntKind.u64.signed = true then -1 else IntKind.u64.max) (wd M i : Int) = (wd (oth M) i : Int) := by
  have hl := wd_lt M i
  rw [show (if IntKind.u64.signed = true then (-1 : Int) else IntKind.u64.max) = ((18446744073709551615 : Nat) : Int) from rfl, bits_xor_u64_nat _ _ (by decide) hl]
  congr 1
  refine wd_of _ i _ (Nat.xor_lt_two_pow (n := 64) (by decide) hl) fun j hj => ?_
  rw [Nat.testBit_xor, wd_bit M i j hj, show 18446744073709551615 = 2 ^ 64 - 1 from rfl, Nat.testBit_two_pow_sub_one]
  simp [oth, hj]
theorem mk4_set {M N : Nat → Bool} {k : Nat} (hk : k < 4) (h : ∀ i, i < 4 → i ≠ k → wd M i = wd N i) : (mk4 M).setIfInBounds k (.int .u64 (wd N k : Int)) = mk4 N := by
  have : k = 0 ∨ k = 1 ∨ k = 2 ∨ k = 3 := by omega
  unfold mk4
  rcases this with rfl | rfl | rfl | rfl
  · rw [h 1 (by omega) (by omega), h 2 (by omega) (by omega), h 3 (by omega) (by omega)]; rfl
  · rw [h 0 (by omega) (by omega), h 2 (by omega) (by omega), h 3 (by omega) (by omega)]; rfl
  · rw [h 0 (by omega) (by omega), h 1 (by omega) (by omega), h 3 (by omega) (by omega)]; rfl
  · rw [h 0 (by omega) (by omega), h 1 (by omega) (by omega), h 2 (by omega) (by omega)]; rfl
/-- The first k words of all others. -/
def othTo (M : Nat → Bool) (k : Nat) : Nat → Bool := fun x => decide (x < 64 * k) && oth M x
theorem othTo_zero (M : Nat → Bool) : mk4 (othTo M 0) = #[Value.int .u64 0, .int .u64 0, .int .u64 0, .int .u64 0] := by
  rw [← zlit]; exact mk4_congr fun x _ => by simp [othTo]
theorem othTo_four (M : Nat → Bool) : mk4 (othTo M 4) = mk4 (oth M) := mk4_congr fun x hx => by simp [othTo, hx]
theorem othTo_step (M : Nat → Bool) {k : Nat} (hk : k < 4) : (mk4 (othTo M k)).setIfInBounds k (.int .u64 (wd (oth M) k : Int)) = mk4 (othTo M (k + 1)) := by
  have e : wd (oth M) k = wd (othTo M (k + 1)) k := wd_congr fun j hj => by simp [othTo]; intro; omega
  rw [e]
  refine mk4_set hk fun i hi hne => wd_congr fun j hj => ?_
  unfold othTo
  by_cases h : i < k
  · simp [show 64 * i + j < 64 * k by omega, show 64 * i + j < 64 * (k + 1) by omega]
  · simp [show ¬ 64 * i + j < 64 * k by omega, show ¬ 64 * i + j < 64 * (k + 1) by omega]
theorem del_ins (M : Nat → Bool) (b x : Nat) : del (ins M b) b x = del M b x := by
  unfold del ins
  by_cases e : x = b
  · subst e; simp
  · rw [show (x == b) = false by simpa using e, Bool.false_or]
theorem ins_del (M : Nat → Bool) (b x : Nat) (h : M b = true) : ins (del M b) b x = M x := by
  unfold del ins
  by_cases e : x = b
  · subst e; simp [h]
  · have h1 : (x == b) = false := by simpa using e
    show (x == b || (!(x == b)) && M x) = M x
    rw [h1]; rfl
theorem del_same (M : Nat → Bool) (b x : Nat) (h : M b = false) : del M b x = M x := by
  unfold del
  by_cases e : x = b
  · subst e; simp [h]
  · simp [e]
theorem rnk_oth (M : Nat → Bool) (k : Nat) : rnk M k + rnk (oth M) k = k := by
  induction k with
  | zero => rfl
  | succ k ih =>
    rw [rnk, rnk]
    cases h : M k <;> simp [oth, h] at ih ⊢ <;> omega
theorem rank_oth (M : Nat → Bool) (b : Int) (h0 : 0 ≤ b) (h1 : b ≤ 255) : (rank M b : Int) + (rank (oth M) b : Int) = b := by
  unfold rank
  rw [show min b 256 = b by omega]
  have := rnk_oth M b.toNat
  omega
theorem folm : Try.prog.follows .mixedOrders = true := by kernel_rfl
theorem enter8 (vs : Array Value) (w : World) : (callFunc 8 vs).run Try.prog w = .ok (.enter 8 vs) w := by kernel_rfl
theorem enter20 (vs : Array Value) (w : World) : (callFunc 20 vs).run Try.prog w = .ok (.enter 20 vs) w := by kernel_rfl
theorem enter16 (vs : Array Value) (w : World) : (callFunc 16 vs).run Try.prog w = .ok (.enter 16 vs) w := by kernel_rfl
theorem enter7 (vs : Array Value) (w : World) : (callFunc 7 vs).run Try.prog w = .ok (.enter 7 vs) w := by kernel_rfl
theorem enter22 (vs : Array Value) (w : World) : (callFunc 22 vs).run Try.prog w = .ok (.enter 22 vs) w := by kernel_rfl
attribute [local irreducible] mk4 wd bl setOf allTo rnk rank
set_option maxHeartbeats 2000000 in
set_option maxRecDepth 100000 in
theorem others_any (M : Nat → Bool) (b : Int) (hb0 : 0 ≤ b) (hb : b ≤ 255) (w : World) : Calls Try.prog 5 #[.agg (mk4 M), .int .u8 b] w fun e w' => e = .returned (.bool true) ∧ Below w.heap.size w w' := by
  go_enter Try.func5, Try.ntmps5
  have hS0 := (Sx.start w).new (mk4 M) 23
  go_wp2_with (first | refine wpList_load_G rfl 23 _ rfl w.heap.size (mk4 M) 23 _ rfl (Sx.blk (by assumption) (w.heap.size, mk4 M, 23) (by simp)) Try.underlying23 rfl (by rw [mk4_size]; exact infoW) ?_ | (refine wpList_store_whole rfl 24 _ _ rfl (w.heap.size + 1) #[.int .u64 0, .int .u64 0, .int .u64 0, .int .u64 0] (mk4 M) 24 rfl rfl (by have := Blk.new (w.alloc (.cells (mk4 M) 23)) #[.int .u64 0, .int .u64 0, .int .u64 0, .int .u64 0] 24; simpa using this) (by rw [mk4_size]; rfl) (by rw [mk4_size]; exact infoM) (mk4_one _) ?_; intro w2 hk2 hg2 hz2; have hS2 := ((hS0.alloc (.cells #[.int .u64 0, .int .u64 0, .int .u64 0, .int .u64 0] 24)).grown hg2 (by omega) (by simp)).add hk2; clear hk2 hg2 hS0) | fail)
  have hz : w2.heap.size = w.heap.size + 1 + 1 := by rw [hz2]; simp
  have hR0 : Sx w.heap.size w [(w.heap.size + 1, mk4 M, 24), (w.heap.size, mk4 M, 23), (w.heap.size + 1 + 1, mk4 (othTo M 0), 24)] (w2.alloc (.cells #[.int .u64 0, .int .u64 0, .int .u64 0, .int .u64 0] 24)) := by
    have h := hS2.new (mk4 (othTo M 0)) 24
    rw [hz, othTo_zero] at h
    rw [othTo_zero]
    exact h.less (by simp)
  have HR0 := Lib.hid hR0
  clear hR0 hS2 hz2 hz
  go_loopw [7] (fun i wr => ∃ k : Nat, k ≤ 4 ∧ i = .int .i64 k ∧ Sx w.heap.size w [(w.heap.size + 1, mk4 M, 24), (w.heap.size, mk4 M, 23), (w.heap.size + 1 + 1, mk4 (othTo M k), 24)] wr) (fun i _ => 4 - (intOf i).toNat)
  case atStart => exact ⟨0, by omega, rfl, HR0.out⟩
  case round =>
    obtain ⟨k, hk, rfl, hS⟩ := hrel
    by_cases hlt : (k : Int) < 4
    · have hb1 := hS.blk (w.heap.size, mk4 M, 23) (by simp)
      have hb2 := hS.blk (w.heap.size + 1 + 1, mk4 (othTo M k), 24) (by simp)
      have hc1 : wr.cell? ⟨w.heap.size, k, none⟩ = some (.int .u64 (wd M k : Int)) := (hb1.cell k).trans (mk4_get M k (by omega))
      have hc2 : wr.cell? ⟨w.heap.size + 1 + 1, k, none⟩ = some (.int .u64 (wd (othTo M k) k : Int)) := (hb2.cell k).trans (mk4_get _ k (by omega))
      have hf2 : wr.frozen? ⟨w.heap.size + 1 + 1, k, none⟩ = false := hb2.frozen k
      have HB2 := Lib.hid hb2
      clear hb1 hb2
      have hx := xor_word M k
      have HX := Lib.hid hx
      clear hx
      go_wp2_with fail
      go_roundw
      case rel =>
        rw [HX.out]
        refine ⟨k + 1, by omega, by go_num, ?_⟩
        have hg : wr.grownBy (wr.setCell ⟨w.heap.size + 1 + 1, k, none⟩ (.int .u64 (wd (oth M) k : Int))) (some (w.heap.size + 1 + 1)) := (grown_setCells wr (w.heap.size + 1 + 1) [.int .u64 (wd (oth M) k : Int)] k).1
        have h1 := ((hS.less (cs := [(w.heap.size + 1, mk4 M, 24), (w.heap.size, mk4 M, 23)]) (by simp)).grown hg (by omega) (by simp; omega)).add (by have := HB2.out.set k (.int .u64 (wd (oth M) k : Int)); rwa [othTo_step M (by omega)] at this)
        exact h1.less (by simp)
      case measure => (try simp [intOf]); (try omega)
    · have hk4 : k = 4 := by omega
      rw [hk4, othTo_four] at hS
      clear hk4
      have hlow : low b 256 = b := by unfold low; omega
      go_wp2_with (fail)
      refine (low_any b 256 (by omega) (by omega) (by omega) (by omega) _).mono ?_
      rintro e w3 ⟨rfl, rfl⟩
      rw [hlow]
      clear hlow
      have hl1 := (hS.blk (w.heap.size + 1, mk4 M, 24) (by simp)).lt
      have hl2 := (hS.blk (w.heap.size + 1 + 1, mk4 (oth M), 24) (by simp)).lt
      go_wp2_with (first | refine wpList_load_G rfl 24 _ rfl (w.heap.size + 1) (mk4 (M)) 24 _ rfl (Sx.blk (by assumption) (w.heap.size + 1, mk4 (M), 24) (by simp)) Try.underlying24 rfl (by rw [mk4_size]; exact infoM) ?_ | fail)
      refine (with_any M b hb0 hb _).mono ?_
      rintro e w4 ⟨rfl, hb4⟩
      have hS4 := hS.below hb4
      have hl4 := hb4.size
      clear hS hb4
      go_wp2_with (first | (refine wpList_store_whole rfl 24 _ _ rfl (w4.heap.size) #[.int .u64 0, .int .u64 0, .int .u64 0, .int .u64 0] (mk4 (ins M b.toNat)) 24 rfl rfl (Blk.new _ _ _) (by rw [mk4_size]; rfl) (by rw [mk4_size]; exact infoM) (mk4_one _) ?_; intro wq hk hg _; have hS5 := (hS4.grownNew hg).add hk; clear hk hg) | refine wpList_load_G rfl 24 _ rfl (w4.heap.size) (mk4 (ins M b.toNat)) 24 _ rfl (Sx.blk (by assumption) (w4.heap.size, mk4 (ins M b.toNat), 24) (by simp)) Try.underlying24 rfl (by rw [mk4_size]; exact infoM) ?_ | fail)
      have h59 := hS5.less (cs := [(w4.heap.size, mk4 (ins M b.toNat), 24), (w.heap.size + 1, mk4 M, 24), (w.heap.size + 1 + 1, mk4 (oth M), 24)]) (by simp)
      generalize w4.heap.size = g9 at *
      clear hS4 hS5
      refine (without_any (ins M b.toNat) b hb0 hb _).mono ?_
      rintro e w6 ⟨rfl, hb6⟩
      have hS6 := h59.below hb6
      have hl6 := (h59.blk (g9, mk4 (ins M b.toNat), 24) (by simp)).lt
      have hl7 := hb6.size
      clear h59 hb6
      rw [show mk4 (del (ins M b.toNat) b.toNat) = mk4 (del M b.toNat) from mk4_congr fun x _ => del_ins M _ x]
      go_wp2_with (first | (refine wpList_store_whole rfl 24 _ _ rfl (w6.heap.size) #[.int .u64 0, .int .u64 0, .int .u64 0, .int .u64 0] (mk4 (del M b.toNat)) 24 rfl rfl (Blk.new _ _ _) (by rw [mk4_size]; rfl) (by rw [mk4_size]; exact infoM) (mk4_one _) ?_; intro wq hk hg _; have hS7 := (hS6.grownNew hg).add hk; clear hk hg) | refine wpList_load_G rfl 24 _ rfl (w.heap.size + 1) (mk4 (M)) 24 _ rfl (Sx.blk (by assumption) (w.heap.size + 1, mk4 (M), 24) (by simp)) Try.underlying24 rfl (by rw [mk4_size]; exact infoM) ?_ | fail)
      generalize w6.heap.size = g10 at *
      clear hS6
      refine (has_any M b hb0 hb _).mono ?_
      rintro e w8 ⟨rfl, hb8⟩
      have hS8 := hS7.below hb8
      clear hS7 hb8
      have hl10 := (hS8.blk (g10, mk4 (del M b.toNat), 24) (by simp)).lt
      have hg910 : g9 ≠ g10 := by omega
      clear HR0
      cases hM : M b.toNat
      · have HM := Lib.hid hM; clear hM
        go_wp2_with fail
        obtain ⟨T, hT, hZ⟩ : ∃ T : Nat → Bool, Hid (T b.toNat ≠ M b.toNat) ∧ Sx w.heap.size w [(g9, mk4 T, 24), (g10, mk4 M, 24), (w.heap.size + 1, mk4 M, 24), (w.heap.size + 1 + 1, mk4 (oth M), 24)] w8 := by
          refine ⟨ins M b.toNat, by show _ ≠ _; rw [HM.out]; simp [ins], ?_⟩
          have h := hS8
          rw [show mk4 (del M b.toNat) = mk4 M from mk4_congr fun x _ => del_same M _ x HM.out] at h
          exact h.less (by simp)
        clear hS8 HM
        go_loopw [11] (fun i wr => ∃ k : Nat, k ≤ 256 ∧ i = .int .i64 k ∧ Sx w.heap.size w [(g9, mk4 T, 24), (g10, mk4 M, 24), (w.heap.size + 1, mk4 M, 24), (w.heap.size + 1 + 1, mk4 (oth M), 24)] wr) (fun i _ => 256 - (intOf i).toNat)
        case atStart => exact ⟨0, by omega, rfl, hZ⟩
        case round =>
          clear hZ
          obtain ⟨k2, hk2, rfl, hZ⟩ := hrel
          by_cases hlt2 : (k2 : Int) < 256
          · have hw8 : IntKind.u8.wrap (k2 : Int) = k2 := by rw [IntKind.wrap_u8]; omega
            have hMM : (M k2 == !M k2) = false := by cases M k2 <;> rfl
            go_wp2_with fail
            have hS := hZ.drew
            refine region_fin [(0, true), (1, true), (2, true), (4, true), (5, true), (6, true), (3, false), (7, false), (8, true)] folm (by kernel_rfl) (by kernel_rfl) (by kernel_rfl) (fun d _ _ _ _ h => by cases d <;> exact h) (Sx w.heap.size w [(g9, mk4 T, 24), (g10, mk4 M, 24), (w.heap.size + 1, mk4 M, 24), (w.heap.size + 1 + 1, mk4 (oth M), 24)]) (hZ.drew) ?_
            refine Fin.load (some 45) none 24 (Operand.tmp 5) (w.heap.size + 1) (mk4 M) 24 _ rfl rfl rfl (fun w_ h_ => Sx.blk h_ (w.heap.size + 1, mk4 M, 24) (by simp)) Try.underlying24 rfl (by rw [mk4_size]; exact infoM) ?_
            simp only [Act.put, List.setIfInBounds_toArray, List.set_cons_zero, List.set_cons_succ]
            refine Fin.mv (some 46) none (Operand.tmp 11) (.int .i64 (k2 : Int)) rfl rfl rfl ?_
            simp only [Act.put, List.setIfInBounds_toArray, List.set_cons_zero, List.set_cons_succ]
            refine Fin.conv (some 47) none 3 5 (Operand.tmp 46) (.int .i64 (k2 : Int)) (.int .u8 (k2 : Int)) rfl rfl rfl (fun w_ h_ => by go_simp) ?_
            simp only [Act.put, List.setIfInBounds_toArray, List.set_cons_zero, List.set_cons_succ]
            refine Fin.load (some 49) none 24 (Operand.tmp 6) (w.heap.size + 1 + 1) (mk4 (oth M)) 24 _ rfl rfl rfl (fun w_ h_ => Sx.blk h_ (w.heap.size + 1 + 1, mk4 (oth M), 24) (by simp)) Try.underlying24 rfl (by rw [mk4_size]; exact infoM) ?_
            simp only [Act.put, List.setIfInBounds_toArray, List.set_cons_zero, List.set_cons_succ]
            refine Fin.mv (some 50) none (Operand.tmp 11) (.int .i64 (k2 : Int)) rfl rfl rfl ?_
            simp only [Act.put, List.setIfInBounds_toArray, List.set_cons_zero, List.set_cons_succ]
            refine Fin.conv (some 51) none 3 5 (Operand.tmp 50) (.int .i64 (k2 : Int)) (.int .u8 (k2 : Int)) rfl rfl rfl (fun w_ h_ => by go_simp) ?_
            simp only [Act.put, List.setIfInBounds_toArray, List.set_cons_zero, List.set_cons_succ]
            refine Fin.call (some 48) none 8 #[Operand.tmp 45, Operand.tmp 47] #[24, 5] #[.agg (mk4 M), .int .u8 (k2 : Int)] rfl rfl rfl (enter8 _) ?_
            refine (has_any (M) k2 (by omega) (by omega) _).mono ?_
            rintro e wn3 ⟨rfl, hb⟩
            rw [Int.toNat_natCast]
            have hS := Sx.below hS hb
            clear hb
            refine ⟨_, rfl, hS, ?_⟩
            simp only [Act.put, List.setIfInBounds_toArray, List.set_cons_zero, List.set_cons_succ]
            refine Fin.call (some 52) none 8 #[Operand.tmp 49, Operand.tmp 51] #[24, 5] #[.agg (mk4 (oth M)), .int .u8 (k2 : Int)] rfl rfl rfl (enter8 _) ?_
            refine (has_any (oth M) k2 (by omega) (by omega) _).mono ?_
            rintro e wn7 ⟨rfl, hb⟩
            rw [Int.toNat_natCast]; rw [show oth M k2 = !M k2 from rfl]
            have hS := Sx.below hS hb
            clear hb
            refine ⟨_, rfl, hS, ?_⟩
            simp only [Act.put, List.setIfInBounds_toArray, List.set_cons_zero, List.set_cons_succ]
            refine Fin.bin (some 53) none .eql 4 4 (Operand.tmp 48) (Operand.tmp 52) (.bool (M k2)) (.bool (!M k2)) (.bool false) rfl rfl rfl rfl (fun w_ => ⟨by first | rfl | go_simp, by cases M k2 <;> rfl⟩) ?_
            simp only [Act.put, List.setIfInBounds_toArray, List.set_cons_zero, List.set_cons_succ]
            simp only [Fin]
            clear hZ
            go_wp2_with fail
            go_roundw
            case rel => exact ⟨k2 + 1, by omega, by go_num, hS⟩
            case measure => (try simp [intOf]); (try omega)
          · have h58 : ((rnk M 256 : Nat) : Int) + ((rnk (oth M) 256 : Nat) : Int) = 256 := by have := rnk_oth M 256; omega
            have h67 := rank_oth M b hb0 hb
            have h88 : ((allTo M 256).length : Int) + ((allTo (oth M) 256).length : Int) = 256 := by rw [allTo_length, allTo_length]; have := rnk_oth M 256; omega
            have hq : ∀ W : World, (Op.equalIn 10000 24 (.agg (mk4 M)) (.agg (mk4 M))).run Try.prog W = .ok true W := fun W => (eqM _ _ W).trans (by rw [same4_self])
            have hn : ∀ W : World, (Op.equalIn 10000 24 (.agg (mk4 T)) (.agg (mk4 M))).run Try.prog W = .ok false W := fun W => (eqM _ _ W).trans (by rw [same4_ne b.toNat (by omega) hT.out])
            have hw256 : IntKind.i64.wrap 256 = 256 := by decide
            have hwb : IntKind.i64.wrap b = b := by rw [IntKind.wrap_i64]; omega
            go_wp2_with fail
            have hS := hZ.drew
            refine region_fin [(0, true), (2, true), (1, false), (3, false), (4, true), (5, true), (6, true), (7, true), (8, true), (10, true), (11, true), (14, true), (9, false), (12, false), (13, true), (15, true), (16, true), (17, true), (18, true), (19, true), (20, true), (21, true), (22, true), (23, true), (24, true), (25, true), (26, true), (27, true), (28, true), (31, true), (29, false), (30, true), (32, false), (33, true), (34, true), (35, true), (36, true), (37, true), (38, false), (39, true), (40, true)] folm (by kernel_rfl) (by kernel_rfl) (by kernel_rfl) (fun d _ _ _ _ h => by cases d <;> exact h) (Sx w.heap.size w [(g9, mk4 T, 24), (g10, mk4 M, 24), (w.heap.size + 1, mk4 M, 24), (w.heap.size + 1 + 1, mk4 (oth M), 24)]) (hZ.drew) ?_
            refine Fin.load (some 54) none 24 (Operand.tmp 5) (w.heap.size + 1) (mk4 M) 24 _ rfl rfl rfl (fun w_ h_ => Sx.blk h_ (w.heap.size + 1, mk4 M, 24) (by simp)) Try.underlying24 rfl (by rw [mk4_size]; exact infoM) ?_
            simp only [Act.put, List.setIfInBounds_toArray, List.set_cons_zero, List.set_cons_succ]
            refine Fin.load (some 56) none 24 (Operand.tmp 6) (w.heap.size + 1 + 1) (mk4 (oth M)) 24 _ rfl rfl rfl (fun w_ h_ => Sx.blk h_ (w.heap.size + 1 + 1, mk4 (oth M), 24) (by simp)) Try.underlying24 rfl (by rw [mk4_size]; exact infoM) ?_
            simp only [Act.put, List.setIfInBounds_toArray, List.set_cons_zero, List.set_cons_succ]
            refine Fin.call (some 55) none 20 #[Operand.tmp 54] #[24] #[.agg (mk4 M)] rfl rfl rfl (enter20 _) ?_
            refine (count_any (M) _).mono ?_
            rintro e wn1 ⟨rfl, hb⟩
            have hS := Sx.below hS hb
            clear hb
            refine ⟨_, rfl, hS, ?_⟩
            simp only [Act.put, List.setIfInBounds_toArray, List.set_cons_zero, List.set_cons_succ]
            refine Fin.call (some 57) none 20 #[Operand.tmp 56] #[24] #[.agg (mk4 (oth M))] rfl rfl rfl (enter20 _) ?_
            refine (count_any (oth M) _).mono ?_
            rintro e wn3 ⟨rfl, hb⟩
            have hS := Sx.below hS hb
            clear hb
            refine ⟨_, rfl, hS, ?_⟩
            simp only [Act.put, List.setIfInBounds_toArray, List.set_cons_zero, List.set_cons_succ]
            refine Fin.bin (some 58) none .add 3 3 (Operand.tmp 55) (Operand.tmp 57) (.int .i64 ((rnk (M) 256 : Nat) : Int)) (.int .i64 ((rnk (oth M) 256 : Nat) : Int)) (.int .i64 256) rfl rfl rfl rfl (fun w_ => ⟨by first | rfl | go_simp, by go_simp⟩) ?_
            simp only [Act.put, List.setIfInBounds_toArray, List.set_cons_zero, List.set_cons_succ]
            refine Fin.bin (some 59) none .eql 3 3 (Operand.tmp 58) (Operand.const (Value.int IntKind.i64 256)) (.int .i64 256) (Value.int IntKind.i64 256) (.bool true) rfl rfl rfl rfl (fun w_ => ⟨by first | rfl | go_simp, by go_simp⟩) ?_
            simp only [Act.put, List.setIfInBounds_toArray, List.set_cons_zero, List.set_cons_succ]
            refine Fin.mv (some 60) none (Operand.tmp 59) (.bool true) rfl rfl rfl ?_
            simp only [Act.put, List.setIfInBounds_toArray, List.set_cons_zero, List.set_cons_succ]
            refine Fin.load (some 61) (some (6, true)) 24 (Operand.tmp 5) (w.heap.size + 1) (mk4 M) 24 _ rfl rfl rfl (fun w_ h_ => Sx.blk h_ (w.heap.size + 1, mk4 M, 24) (by simp)) Try.underlying24 rfl (by rw [mk4_size]; exact infoM) ?_
            simp only [Act.put, List.setIfInBounds_toArray, List.set_cons_zero, List.set_cons_succ]
            refine Fin.mv (some 62) (some (6, true)) (Operand.tmp 8) (.int .i64 b) rfl rfl rfl ?_
            simp only [Act.put, List.setIfInBounds_toArray, List.set_cons_zero, List.set_cons_succ]
            refine Fin.load (some 64) (some (6, true)) 24 (Operand.tmp 6) (w.heap.size + 1 + 1) (mk4 (oth M)) 24 _ rfl rfl rfl (fun w_ h_ => Sx.blk h_ (w.heap.size + 1 + 1, mk4 (oth M), 24) (by simp)) Try.underlying24 rfl (by rw [mk4_size]; exact infoM) ?_
            simp only [Act.put, List.setIfInBounds_toArray, List.set_cons_zero, List.set_cons_succ]
            refine Fin.mv (some 65) (some (6, true)) (Operand.tmp 8) (.int .i64 b) rfl rfl rfl ?_
            simp only [Act.put, List.setIfInBounds_toArray, List.set_cons_zero, List.set_cons_succ]
            refine Fin.mv (some 68) (some (6, true)) (Operand.tmp 8) (.int .i64 b) rfl rfl rfl ?_
            simp only [Act.put, List.setIfInBounds_toArray, List.set_cons_zero, List.set_cons_succ]
            refine Fin.call (some 63) (some (6, true)) 16 #[Operand.tmp 61, Operand.tmp 62] #[24, 3] #[.agg (mk4 M), .int .i64 b] rfl rfl rfl (enter16 _) ?_
            refine (rank_any (M) b (by omega) (by omega) _).mono ?_
            rintro e wn9 ⟨rfl, hb⟩
            have hS := Sx.below hS hb
            clear hb
            refine ⟨_, rfl, hS, ?_⟩
            simp only [Act.put, List.setIfInBounds_toArray, List.set_cons_zero, List.set_cons_succ]
            refine Fin.call (some 66) (some (6, true)) 16 #[Operand.tmp 64, Operand.tmp 65] #[24, 3] #[.agg (mk4 (oth M)), .int .i64 b] rfl rfl rfl (enter16 _) ?_
            refine (rank_any (oth M) b (by omega) (by omega) _).mono ?_
            rintro e wn12 ⟨rfl, hb⟩
            have hS := Sx.below hS hb
            clear hb
            refine ⟨_, rfl, hS, ?_⟩
            simp only [Act.put, List.setIfInBounds_toArray, List.set_cons_zero, List.set_cons_succ]
            refine Fin.bin (some 67) (some (6, true)) .add 3 3 (Operand.tmp 63) (Operand.tmp 66) (.int .i64 ((rank (M) b : Nat) : Int)) (.int .i64 ((rank (oth M) b : Nat) : Int)) (.int .i64 b) rfl rfl rfl rfl (fun w_ => ⟨by first | rfl | go_simp, by go_simp⟩) ?_
            simp only [Act.put, List.setIfInBounds_toArray, List.set_cons_zero, List.set_cons_succ]
            refine Fin.bin (some 69) (some (6, true)) .eql 3 3 (Operand.tmp 67) (Operand.tmp 68) (.int .i64 b) (.int .i64 b) (.bool true) rfl rfl rfl rfl (fun w_ => ⟨by first | rfl | go_simp, by go_simp⟩) ?_
            simp only [Act.put, List.setIfInBounds_toArray, List.set_cons_zero, List.set_cons_succ]
            refine Fin.pick (some 70) none (Operand.tmp 60) (Operand.tmp 69) (Operand.const (Value.bool false)) true (.bool true) rfl rfl rfl rfl ?_
            simp only [Act.put, List.setIfInBounds_toArray, List.set_cons_zero, List.set_cons_succ]
            refine Fin.mv (some 71) none (Operand.tmp 70) (.bool true) rfl rfl rfl ?_
            simp only [Act.put, List.setIfInBounds_toArray, List.set_cons_zero, List.set_cons_succ]
            refine Fin.load (some 72) (some (17, true)) 24 (Operand.tmp 10) (g10) (mk4 M) 24 _ rfl rfl rfl (fun w_ h_ => Sx.blk h_ (g10, mk4 M, 24) (by simp)) Try.underlying24 rfl (by rw [mk4_size]; exact infoM) ?_
            simp only [Act.put, List.setIfInBounds_toArray, List.set_cons_zero, List.set_cons_succ]
            refine Fin.load (some 73) (some (17, true)) 24 (Operand.tmp 5) (w.heap.size + 1) (mk4 M) 24 _ rfl rfl rfl (fun w_ h_ => Sx.blk h_ (w.heap.size + 1, mk4 M, 24) (by simp)) Try.underlying24 rfl (by rw [mk4_size]; exact infoM) ?_
            simp only [Act.put, List.setIfInBounds_toArray, List.set_cons_zero, List.set_cons_succ]
            refine Fin.bin (some 74) (some (17, true)) .eql 24 24 (Operand.tmp 72) (Operand.tmp 73) (.agg (mk4 M)) (.agg (mk4 M)) (.bool true) rfl rfl rfl rfl (fun w_ => ⟨by first | rfl | go_simp, by go_simp⟩) ?_
            simp only [Act.put, List.setIfInBounds_toArray, List.set_cons_zero, List.set_cons_succ]
            refine Fin.pick (some 75) none (Operand.tmp 71) (Operand.tmp 74) (Operand.const (Value.bool false)) true (.bool true) rfl rfl rfl rfl ?_
            simp only [Act.put, List.setIfInBounds_toArray, List.set_cons_zero, List.set_cons_succ]
            refine Fin.mv (some 76) none (Operand.tmp 75) (.bool true) rfl rfl rfl ?_
            simp only [Act.put, List.setIfInBounds_toArray, List.set_cons_zero, List.set_cons_succ]
            refine Fin.load (some 77) (some (22, true)) 24 (Operand.tmp 9) (g9) (mk4 T) 24 _ rfl rfl rfl (fun w_ h_ => Sx.blk h_ (g9, mk4 T, 24) (by simp)) Try.underlying24 rfl (by rw [mk4_size]; exact infoM) ?_
            simp only [Act.put, List.setIfInBounds_toArray, List.set_cons_zero, List.set_cons_succ]
            refine Fin.load (some 78) (some (22, true)) 24 (Operand.tmp 5) (w.heap.size + 1) (mk4 M) 24 _ rfl rfl rfl (fun w_ h_ => Sx.blk h_ (w.heap.size + 1, mk4 M, 24) (by simp)) Try.underlying24 rfl (by rw [mk4_size]; exact infoM) ?_
            simp only [Act.put, List.setIfInBounds_toArray, List.set_cons_zero, List.set_cons_succ]
            refine Fin.bin (some 79) (some (22, true)) .neq 24 24 (Operand.tmp 77) (Operand.tmp 78) (.agg (mk4 T)) (.agg (mk4 M)) (.bool true) rfl rfl rfl rfl (fun w_ => ⟨by first | rfl | go_simp, by go_simp⟩) ?_
            simp only [Act.put, List.setIfInBounds_toArray, List.set_cons_zero, List.set_cons_succ]
            refine Fin.pick (some 80) none (Operand.tmp 76) (Operand.tmp 79) (Operand.const (Value.bool false)) true (.bool true) rfl rfl rfl rfl ?_
            simp only [Act.put, List.setIfInBounds_toArray, List.set_cons_zero, List.set_cons_succ]
            refine Fin.mv (some 81) none (Operand.tmp 80) (.bool true) rfl rfl rfl ?_
            simp only [Act.put, List.setIfInBounds_toArray, List.set_cons_zero, List.set_cons_succ]
            refine Fin.load (some 82) (some (27, true)) 24 (Operand.tmp 5) (w.heap.size + 1) (mk4 M) 24 _ rfl rfl rfl (fun w_ h_ => Sx.blk h_ (w.heap.size + 1, mk4 M, 24) (by simp)) Try.underlying24 rfl (by rw [mk4_size]; exact infoM) ?_
            simp only [Act.put, List.setIfInBounds_toArray, List.set_cons_zero, List.set_cons_succ]
            refine Fin.load (some 85) (some (27, true)) 24 (Operand.tmp 6) (w.heap.size + 1 + 1) (mk4 (oth M)) 24 _ rfl rfl rfl (fun w_ h_ => Sx.blk h_ (w.heap.size + 1 + 1, mk4 (oth M), 24) (by simp)) Try.underlying24 rfl (by rw [mk4_size]; exact infoM) ?_
            simp only [Act.put, List.setIfInBounds_toArray, List.set_cons_zero, List.set_cons_succ]
            refine Fin.call (some 83) (some (27, true)) 7 #[Operand.tmp 82] #[24] #[.agg (mk4 M)] rfl rfl rfl (enter7 _) ?_
            refine (all_any (M) _).mono ?_
            rintro e wn29 ⟨va29, rfl, hb, hO29⟩
            obtain ⟨ad29, c29, rfl, _, _, _⟩ := hO29.reads
            have hS := Sx.below hS hb
            clear hb hO29
            refine ⟨_, rfl, hS, ?_⟩
            simp only [Act.put, List.setIfInBounds_toArray, List.set_cons_zero, List.set_cons_succ]
            refine Fin.len (some 84) (some (27, true)) 28 (Operand.tmp 83) (ad29) ((allTo (M) 256).length) (c29) rfl rfl rfl (by kernel_rfl) ?_
            simp only [Act.put, List.setIfInBounds_toArray, List.set_cons_zero, List.set_cons_succ]
            refine Fin.call (some 86) (some (27, true)) 7 #[Operand.tmp 85] #[24] #[.agg (mk4 (oth M))] rfl rfl rfl (enter7 _) ?_
            refine (all_any (oth M) _).mono ?_
            rintro e wn32 ⟨va32, rfl, hb, hO32⟩
            obtain ⟨ad32, c32, rfl, _, _, _⟩ := hO32.reads
            have hS := Sx.below hS hb
            clear hb hO32
            refine ⟨_, rfl, hS, ?_⟩
            simp only [Act.put, List.setIfInBounds_toArray, List.set_cons_zero, List.set_cons_succ]
            refine Fin.len (some 87) (some (27, true)) 28 (Operand.tmp 86) (ad32) ((allTo (oth M) 256).length) (c32) rfl rfl rfl (by kernel_rfl) ?_
            simp only [Act.put, List.setIfInBounds_toArray, List.set_cons_zero, List.set_cons_succ]
            refine Fin.bin (some 88) (some (27, true)) .add 3 3 (Operand.tmp 84) (Operand.tmp 87) (.int .i64 (((allTo (M) 256).length : Nat) : Int)) (.int .i64 (((allTo (oth M) 256).length : Nat) : Int)) (.int .i64 256) rfl rfl rfl rfl (fun w_ => ⟨by first | rfl | go_simp, by go_simp⟩) ?_
            simp only [Act.put, List.setIfInBounds_toArray, List.set_cons_zero, List.set_cons_succ]
            refine Fin.bin (some 89) (some (27, true)) .eql 3 3 (Operand.tmp 88) (Operand.const (Value.int IntKind.i64 256)) (.int .i64 256) (Value.int IntKind.i64 256) (.bool true) rfl rfl rfl rfl (fun w_ => ⟨by first | rfl | go_simp, by go_simp⟩) ?_
            simp only [Act.put, List.setIfInBounds_toArray, List.set_cons_zero, List.set_cons_succ]
            refine Fin.pick (some 90) none (Operand.tmp 81) (Operand.tmp 89) (Operand.const (Value.bool false)) true (.bool true) rfl rfl rfl rfl ?_
            simp only [Act.put, List.setIfInBounds_toArray, List.set_cons_zero, List.set_cons_succ]
            refine Fin.mv (some 91) none (Operand.tmp 90) (.bool true) rfl rfl rfl ?_
            simp only [Act.put, List.setIfInBounds_toArray, List.set_cons_zero, List.set_cons_succ]
            refine Fin.call (some 92) (some (37, true)) 22 #[] #[] #[] rfl rfl rfl (enter22 _) ?_
            refine (awake_any _).mono ?_
            rintro e wn38 ⟨rfl, hb⟩
            have hS := Sx.below hS hb
            clear hb
            refine ⟨_, rfl, hS, ?_⟩
            simp only [Act.put, List.setIfInBounds_toArray, List.set_cons_zero, List.set_cons_succ]
            refine Fin.pick (some 93) none (Operand.tmp 91) (Operand.tmp 92) (Operand.const (Value.bool false)) true (.bool true) rfl rfl rfl rfl ?_
            simp only [Act.put, List.setIfInBounds_toArray, List.set_cons_zero, List.set_cons_succ]
            refine Fin.asg (some 4) none (Operand.tmp 93) (.bool true) rfl rfl rfl ?_
            simp only [Act.put, List.setIfInBounds_toArray, List.set_cons_zero, List.set_cons_succ]
            simp only [Fin]
            go_wp2_with fail
            go_ret
            exact ⟨rfl, hS.low⟩
      · have HM := Lib.hid hM; clear hM
        go_wp2_with (first | refine wpList_load_G rfl 24 _ rfl (w.heap.size + 1) (mk4 (M)) 24 _ rfl (Sx.blk (by assumption) (w.heap.size + 1, mk4 (M), 24) (by simp)) Try.underlying24 rfl (by rw [mk4_size]; exact infoM) ?_ | fail)
        refine (without_any M b hb0 hb _).mono ?_
        rintro e w9 ⟨rfl, hb9⟩
        have hS9 := hS8.below hb9
        clear hS8 hb9
        go_wp2_with (first | (refine wpList_store_whole rfl 24 _ _ rfl (g9) (mk4 (ins M b.toNat)) (mk4 (del M b.toNat)) 24 rfl rfl (Sx.blk (by assumption) (g9, mk4 (ins M b.toNat), 24) (by simp)) (by rw [mk4_size, mk4_size]) (by rw [mk4_size]; exact infoM) (mk4_one _) ?_; intro wx hk hg _; have hS10 := ((Sx.less (cs := [(g10, mk4 (del M b.toNat), 24), (w.heap.size + 1, mk4 M, 24), (w.heap.size + 1 + 1, mk4 (oth M), 24)]) (by assumption) (by simp)).grown hg (by omega) (by simp; omega)).add hk; clear hk hg) | refine wpList_load_G rfl 24 _ rfl (g9) (mk4 (del M b.toNat)) 24 _ rfl (Sx.blk (by assumption) (g9, mk4 (del M b.toNat), 24) (by simp)) Try.underlying24 rfl (by rw [mk4_size]; exact infoM) ?_ | fail)
        refine (with_any (del M b.toNat) b hb0 hb _).mono ?_
        rintro e w11 ⟨rfl, hb11⟩
        have hS11 := hS10.below hb11
        clear hS9 hS10 hb11
        rw [show mk4 (ins (del M b.toNat) b.toNat) = mk4 M from mk4_congr fun x _ => ins_del M _ x HM.out]
        go_wp2_with (first | (refine wpList_store_whole rfl 24 _ _ rfl (g10) (mk4 (del M b.toNat)) (mk4 (M)) 24 rfl rfl (Sx.blk (by assumption) (g10, mk4 (del M b.toNat), 24) (by simp)) (by rw [mk4_size, mk4_size]) (by rw [mk4_size]; exact infoM) (mk4_one _) ?_; intro wy hk hg _; have hS12 := ((Sx.less (cs := [(g9, mk4 (del M b.toNat), 24), (w.heap.size + 1, mk4 M, 24), (w.heap.size + 1 + 1, mk4 (oth M), 24)]) (by assumption) (by simp)).grown hg (by omega) (by simp; omega)).add hk; clear hk hg) | fail)
        obtain ⟨T, hT, hZ⟩ : ∃ T : Nat → Bool, Hid (T b.toNat ≠ M b.toNat) ∧ Sx w.heap.size w [(g9, mk4 T, 24), (g10, mk4 M, 24), (w.heap.size + 1, mk4 M, 24), (w.heap.size + 1 + 1, mk4 (oth M), 24)] wy :=
          ⟨del M b.toNat, by show _ ≠ _; rw [HM.out]; simp [del], hS12.less (by simp)⟩
        clear hS11 hS12 HM
        go_loopw [11] (fun i wr => ∃ k : Nat, k ≤ 256 ∧ i = .int .i64 k ∧ Sx w.heap.size w [(g9, mk4 T, 24), (g10, mk4 M, 24), (w.heap.size + 1, mk4 M, 24), (w.heap.size + 1 + 1, mk4 (oth M), 24)] wr) (fun i _ => 256 - (intOf i).toNat)
        case atStart => exact ⟨0, by omega, rfl, hZ⟩
        case round =>
          clear hZ
          obtain ⟨k2, hk2, rfl, hZ⟩ := hrel
          by_cases hlt2 : (k2 : Int) < 256
          · have hw8 : IntKind.u8.wrap (k2 : Int) = k2 := by rw [IntKind.wrap_u8]; omega
            have hMM : (M k2 == !M k2) = false := by cases M k2 <;> rfl
            go_wp2_with fail
            have hS := hZ.drew
            refine region_fin [(0, true), (1, true), (2, true), (4, true), (5, true), (6, true), (3, false), (7, false), (8, true)] folm (by kernel_rfl) (by kernel_rfl) (by kernel_rfl) (fun d _ _ _ _ h => by cases d <;> exact h) (Sx w.heap.size w [(g9, mk4 T, 24), (g10, mk4 M, 24), (w.heap.size + 1, mk4 M, 24), (w.heap.size + 1 + 1, mk4 (oth M), 24)]) (hZ.drew) ?_
            refine Fin.load (some 45) none 24 (Operand.tmp 5) (w.heap.size + 1) (mk4 M) 24 _ rfl rfl rfl (fun w_ h_ => Sx.blk h_ (w.heap.size + 1, mk4 M, 24) (by simp)) Try.underlying24 rfl (by rw [mk4_size]; exact infoM) ?_
            simp only [Act.put, List.setIfInBounds_toArray, List.set_cons_zero, List.set_cons_succ]
            refine Fin.mv (some 46) none (Operand.tmp 11) (.int .i64 (k2 : Int)) rfl rfl rfl ?_
            simp only [Act.put, List.setIfInBounds_toArray, List.set_cons_zero, List.set_cons_succ]
            refine Fin.conv (some 47) none 3 5 (Operand.tmp 46) (.int .i64 (k2 : Int)) (.int .u8 (k2 : Int)) rfl rfl rfl (fun w_ h_ => by go_simp) ?_
            simp only [Act.put, List.setIfInBounds_toArray, List.set_cons_zero, List.set_cons_succ]
            refine Fin.load (some 49) none 24 (Operand.tmp 6) (w.heap.size + 1 + 1) (mk4 (oth M)) 24 _ rfl rfl rfl (fun w_ h_ => Sx.blk h_ (w.heap.size + 1 + 1, mk4 (oth M), 24) (by simp)) Try.underlying24 rfl (by rw [mk4_size]; exact infoM) ?_
            simp only [Act.put, List.setIfInBounds_toArray, List.set_cons_zero, List.set_cons_succ]
            refine Fin.mv (some 50) none (Operand.tmp 11) (.int .i64 (k2 : Int)) rfl rfl rfl ?_
            simp only [Act.put, List.setIfInBounds_toArray, List.set_cons_zero, List.set_cons_succ]
            refine Fin.conv (some 51) none 3 5 (Operand.tmp 50) (.int .i64 (k2 : Int)) (.int .u8 (k2 : Int)) rfl rfl rfl (fun w_ h_ => by go_simp) ?_
            simp only [Act.put, List.setIfInBounds_toArray, List.set_cons_zero, List.set_cons_succ]
            refine Fin.call (some 48) none 8 #[Operand.tmp 45, Operand.tmp 47] #[24, 5] #[.agg (mk4 M), .int .u8 (k2 : Int)] rfl rfl rfl (enter8 _) ?_
            refine (has_any (M) k2 (by omega) (by omega) _).mono ?_
            rintro e wn3 ⟨rfl, hb⟩
            rw [Int.toNat_natCast]
            have hS := Sx.below hS hb
            clear hb
            refine ⟨_, rfl, hS, ?_⟩
            simp only [Act.put, List.setIfInBounds_toArray, List.set_cons_zero, List.set_cons_succ]
            refine Fin.call (some 52) none 8 #[Operand.tmp 49, Operand.tmp 51] #[24, 5] #[.agg (mk4 (oth M)), .int .u8 (k2 : Int)] rfl rfl rfl (enter8 _) ?_
            refine (has_any (oth M) k2 (by omega) (by omega) _).mono ?_
            rintro e wn7 ⟨rfl, hb⟩
            rw [Int.toNat_natCast]; rw [show oth M k2 = !M k2 from rfl]
            have hS := Sx.below hS hb
            clear hb
            refine ⟨_, rfl, hS, ?_⟩
            simp only [Act.put, List.setIfInBounds_toArray, List.set_cons_zero, List.set_cons_succ]
            refine Fin.bin (some 53) none .eql 4 4 (Operand.tmp 48) (Operand.tmp 52) (.bool (M k2)) (.bool (!M k2)) (.bool false) rfl rfl rfl rfl (fun w_ => ⟨by first | rfl | go_simp, by cases M k2 <;> rfl⟩) ?_
            simp only [Act.put, List.setIfInBounds_toArray, List.set_cons_zero, List.set_cons_succ]
            simp only [Fin]
            clear hZ
            go_wp2_with fail
            go_roundw
            case rel => exact ⟨k2 + 1, by omega, by go_num, hS⟩
            case measure => (try simp [intOf]); (try omega)
          · have h58 : ((rnk M 256 : Nat) : Int) + ((rnk (oth M) 256 : Nat) : Int) = 256 := by have := rnk_oth M 256; omega
            have h67 := rank_oth M b hb0 hb
            have h88 : ((allTo M 256).length : Int) + ((allTo (oth M) 256).length : Int) = 256 := by rw [allTo_length, allTo_length]; have := rnk_oth M 256; omega
            have hq : ∀ W : World, (Op.equalIn 10000 24 (.agg (mk4 M)) (.agg (mk4 M))).run Try.prog W = .ok true W := fun W => (eqM _ _ W).trans (by rw [same4_self])
            have hn : ∀ W : World, (Op.equalIn 10000 24 (.agg (mk4 T)) (.agg (mk4 M))).run Try.prog W = .ok false W := fun W => (eqM _ _ W).trans (by rw [same4_ne b.toNat (by omega) hT.out])
            have hw256 : IntKind.i64.wrap 256 = 256 := by decide
            have hwb : IntKind.i64.wrap b = b := by rw [IntKind.wrap_i64]; omega
            go_wp2_with fail
            have hS := hZ.drew
            refine region_fin [(0, true), (2, true), (1, false), (3, false), (4, true), (5, true), (6, true), (7, true), (8, true), (10, true), (11, true), (14, true), (9, false), (12, false), (13, true), (15, true), (16, true), (17, true), (18, true), (19, true), (20, true), (21, true), (22, true), (23, true), (24, true), (25, true), (26, true), (27, true), (28, true), (31, true), (29, false), (30, true), (32, false), (33, true), (34, true), (35, true), (36, true), (37, true), (38, false), (39, true), (40, true)] folm (by kernel_rfl) (by kernel_rfl) (by kernel_rfl) (fun d _ _ _ _ h => by cases d <;> exact h) (Sx w.heap.size w [(g9, mk4 T, 24), (g10, mk4 M, 24), (w.heap.size + 1, mk4 M, 24), (w.heap.size + 1 + 1, mk4 (oth M), 24)]) (hZ.drew) ?_
            refine Fin.load (some 54) none 24 (Operand.tmp 5) (w.heap.size + 1) (mk4 M) 24 _ rfl rfl rfl (fun w_ h_ => Sx.blk h_ (w.heap.size + 1, mk4 M, 24) (by simp)) Try.underlying24 rfl (by rw [mk4_size]; exact infoM) ?_
            simp only [Act.put, List.setIfInBounds_toArray, List.set_cons_zero, List.set_cons_succ]
            refine Fin.load (some 56) none 24 (Operand.tmp 6) (w.heap.size + 1 + 1) (mk4 (oth M)) 24 _ rfl rfl rfl (fun w_ h_ => Sx.blk h_ (w.heap.size + 1 + 1, mk4 (oth M), 24) (by simp)) Try.underlying24 rfl (by rw [mk4_size]; exact infoM) ?_
            simp only [Act.put, List.setIfInBounds_toArray, List.set_cons_zero, List.set_cons_succ]
            refine Fin.call (some 55) none 20 #[Operand.tmp 54] #[24] #[.agg (mk4 M)] rfl rfl rfl (enter20 _) ?_
            refine (count_any (M) _).mono ?_
            rintro e wn1 ⟨rfl, hb⟩
            have hS := Sx.below hS hb
            clear hb
            refine ⟨_, rfl, hS, ?_⟩
            simp only [Act.put, List.setIfInBounds_toArray, List.set_cons_zero, List.set_cons_succ]
            refine Fin.call (some 57) none 20 #[Operand.tmp 56] #[24] #[.agg (mk4 (oth M))] rfl rfl rfl (enter20 _) ?_
            refine (count_any (oth M) _).mono ?_
            rintro e wn3 ⟨rfl, hb⟩
            have hS := Sx.below hS hb
            clear hb
            refine ⟨_, rfl, hS, ?_⟩
            simp only [Act.put, List.setIfInBounds_toArray, List.set_cons_zero, List.set_cons_succ]
            refine Fin.bin (some 58) none .add 3 3 (Operand.tmp 55) (Operand.tmp 57) (.int .i64 ((rnk (M) 256 : Nat) : Int)) (.int .i64 ((rnk (oth M) 256 : Nat) : Int)) (.int .i64 256) rfl rfl rfl rfl (fun w_ => ⟨by first | rfl | go_simp, by go_simp⟩) ?_
            simp only [Act.put, List.setIfInBounds_toArray, List.set_cons_zero, List.set_cons_succ]
            refine Fin.bin (some 59) none .eql 3 3 (Operand.tmp 58) (Operand.const (Value.int IntKind.i64 256)) (.int .i64 256) (Value.int IntKind.i64 256) (.bool true) rfl rfl rfl rfl (fun w_ => ⟨by first | rfl | go_simp, by go_simp⟩) ?_
            simp only [Act.put, List.setIfInBounds_toArray, List.set_cons_zero, List.set_cons_succ]
            refine Fin.mv (some 60) none (Operand.tmp 59) (.bool true) rfl rfl rfl ?_
            simp only [Act.put, List.setIfInBounds_toArray, List.set_cons_zero, List.set_cons_succ]
            refine Fin.load (some 61) (some (6, true)) 24 (Operand.tmp 5) (w.heap.size + 1) (mk4 M) 24 _ rfl rfl rfl (fun w_ h_ => Sx.blk h_ (w.heap.size + 1, mk4 M, 24) (by simp)) Try.underlying24 rfl (by rw [mk4_size]; exact infoM) ?_
            simp only [Act.put, List.setIfInBounds_toArray, List.set_cons_zero, List.set_cons_succ]
            refine Fin.mv (some 62) (some (6, true)) (Operand.tmp 8) (.int .i64 b) rfl rfl rfl ?_
            simp only [Act.put, List.setIfInBounds_toArray, List.set_cons_zero, List.set_cons_succ]
            refine Fin.load (some 64) (some (6, true)) 24 (Operand.tmp 6) (w.heap.size + 1 + 1) (mk4 (oth M)) 24 _ rfl rfl rfl (fun w_ h_ => Sx.blk h_ (w.heap.size + 1 + 1, mk4 (oth M), 24) (by simp)) Try.underlying24 rfl (by rw [mk4_size]; exact infoM) ?_
            simp only [Act.put, List.setIfInBounds_toArray, List.set_cons_zero, List.set_cons_succ]
            refine Fin.mv (some 65) (some (6, true)) (Operand.tmp 8) (.int .i64 b) rfl rfl rfl ?_
            simp only [Act.put, List.setIfInBounds_toArray, List.set_cons_zero, List.set_cons_succ]
            refine Fin.mv (some 68) (some (6, true)) (Operand.tmp 8) (.int .i64 b) rfl rfl rfl ?_
            simp only [Act.put, List.setIfInBounds_toArray, List.set_cons_zero, List.set_cons_succ]
            refine Fin.call (some 63) (some (6, true)) 16 #[Operand.tmp 61, Operand.tmp 62] #[24, 3] #[.agg (mk4 M), .int .i64 b] rfl rfl rfl (enter16 _) ?_
            refine (rank_any (M) b (by omega) (by omega) _).mono ?_
            rintro e wn9 ⟨rfl, hb⟩
            have hS := Sx.below hS hb
            clear hb
            refine ⟨_, rfl, hS, ?_⟩
            simp only [Act.put, List.setIfInBounds_toArray, List.set_cons_zero, List.set_cons_succ]
            refine Fin.call (some 66) (some (6, true)) 16 #[Operand.tmp 64, Operand.tmp 65] #[24, 3] #[.agg (mk4 (oth M)), .int .i64 b] rfl rfl rfl (enter16 _) ?_
            refine (rank_any (oth M) b (by omega) (by omega) _).mono ?_
            rintro e wn12 ⟨rfl, hb⟩
            have hS := Sx.below hS hb
            clear hb
            refine ⟨_, rfl, hS, ?_⟩
            simp only [Act.put, List.setIfInBounds_toArray, List.set_cons_zero, List.set_cons_succ]
            refine Fin.bin (some 67) (some (6, true)) .add 3 3 (Operand.tmp 63) (Operand.tmp 66) (.int .i64 ((rank (M) b : Nat) : Int)) (.int .i64 ((rank (oth M) b : Nat) : Int)) (.int .i64 b) rfl rfl rfl rfl (fun w_ => ⟨by first | rfl | go_simp, by go_simp⟩) ?_
            simp only [Act.put, List.setIfInBounds_toArray, List.set_cons_zero, List.set_cons_succ]
            refine Fin.bin (some 69) (some (6, true)) .eql 3 3 (Operand.tmp 67) (Operand.tmp 68) (.int .i64 b) (.int .i64 b) (.bool true) rfl rfl rfl rfl (fun w_ => ⟨by first | rfl | go_simp, by go_simp⟩) ?_
            simp only [Act.put, List.setIfInBounds_toArray, List.set_cons_zero, List.set_cons_succ]
            refine Fin.pick (some 70) none (Operand.tmp 60) (Operand.tmp 69) (Operand.const (Value.bool false)) true (.bool true) rfl rfl rfl rfl ?_
            simp only [Act.put, List.setIfInBounds_toArray, List.set_cons_zero, List.set_cons_succ]
            refine Fin.mv (some 71) none (Operand.tmp 70) (.bool true) rfl rfl rfl ?_
            simp only [Act.put, List.setIfInBounds_toArray, List.set_cons_zero, List.set_cons_succ]
            refine Fin.load (some 72) (some (17, true)) 24 (Operand.tmp 10) (g10) (mk4 M) 24 _ rfl rfl rfl (fun w_ h_ => Sx.blk h_ (g10, mk4 M, 24) (by simp)) Try.underlying24 rfl (by rw [mk4_size]; exact infoM) ?_
            simp only [Act.put, List.setIfInBounds_toArray, List.set_cons_zero, List.set_cons_succ]
            refine Fin.load (some 73) (some (17, true)) 24 (Operand.tmp 5) (w.heap.size + 1) (mk4 M) 24 _ rfl rfl rfl (fun w_ h_ => Sx.blk h_ (w.heap.size + 1, mk4 M, 24) (by simp)) Try.underlying24 rfl (by rw [mk4_size]; exact infoM) ?_
            simp only [Act.put, List.setIfInBounds_toArray, List.set_cons_zero, List.set_cons_succ]
            refine Fin.bin (some 74) (some (17, true)) .eql 24 24 (Operand.tmp 72) (Operand.tmp 73) (.agg (mk4 M)) (.agg (mk4 M)) (.bool true) rfl rfl rfl rfl (fun w_ => ⟨by first | rfl | go_simp, by go_simp⟩) ?_
            simp only [Act.put, List.setIfInBounds_toArray, List.set_cons_zero, List.set_cons_succ]
            refine Fin.pick (some 75) none (Operand.tmp 71) (Operand.tmp 74) (Operand.const (Value.bool false)) true (.bool true) rfl rfl rfl rfl ?_
            simp only [Act.put, List.setIfInBounds_toArray, List.set_cons_zero, List.set_cons_succ]
            refine Fin.mv (some 76) none (Operand.tmp 75) (.bool true) rfl rfl rfl ?_
            simp only [Act.put, List.setIfInBounds_toArray, List.set_cons_zero, List.set_cons_succ]
            refine Fin.load (some 77) (some (22, true)) 24 (Operand.tmp 9) (g9) (mk4 T) 24 _ rfl rfl rfl (fun w_ h_ => Sx.blk h_ (g9, mk4 T, 24) (by simp)) Try.underlying24 rfl (by rw [mk4_size]; exact infoM) ?_
            simp only [Act.put, List.setIfInBounds_toArray, List.set_cons_zero, List.set_cons_succ]
            refine Fin.load (some 78) (some (22, true)) 24 (Operand.tmp 5) (w.heap.size + 1) (mk4 M) 24 _ rfl rfl rfl (fun w_ h_ => Sx.blk h_ (w.heap.size + 1, mk4 M, 24) (by simp)) Try.underlying24 rfl (by rw [mk4_size]; exact infoM) ?_
            simp only [Act.put, List.setIfInBounds_toArray, List.set_cons_zero, List.set_cons_succ]
            refine Fin.bin (some 79) (some (22, true)) .neq 24 24 (Operand.tmp 77) (Operand.tmp 78) (.agg (mk4 T)) (.agg (mk4 M)) (.bool true) rfl rfl rfl rfl (fun w_ => ⟨by first | rfl | go_simp, by go_simp⟩) ?_
            simp only [Act.put, List.setIfInBounds_toArray, List.set_cons_zero, List.set_cons_succ]
            refine Fin.pick (some 80) none (Operand.tmp 76) (Operand.tmp 79) (Operand.const (Value.bool false)) true (.bool true) rfl rfl rfl rfl ?_
            simp only [Act.put, List.setIfInBounds_toArray, List.set_cons_zero, List.set_cons_succ]
            refine Fin.mv (some 81) none (Operand.tmp 80) (.bool true) rfl rfl rfl ?_
            simp only [Act.put, List.setIfInBounds_toArray, List.set_cons_zero, List.set_cons_succ]
            refine Fin.load (some 82) (some (27, true)) 24 (Operand.tmp 5) (w.heap.size + 1) (mk4 M) 24 _ rfl rfl rfl (fun w_ h_ => Sx.blk h_ (w.heap.size + 1, mk4 M, 24) (by simp)) Try.underlying24 rfl (by rw [mk4_size]; exact infoM) ?_
            simp only [Act.put, List.setIfInBounds_toArray, List.set_cons_zero, List.set_cons_succ]
            refine Fin.load (some 85) (some (27, true)) 24 (Operand.tmp 6) (w.heap.size + 1 + 1) (mk4 (oth M)) 24 _ rfl rfl rfl (fun w_ h_ => Sx.blk h_ (w.heap.size + 1 + 1, mk4 (oth M), 24) (by simp)) Try.underlying24 rfl (by rw [mk4_size]; exact infoM) ?_
            simp only [Act.put, List.setIfInBounds_toArray, List.set_cons_zero, List.set_cons_succ]
            refine Fin.call (some 83) (some (27, true)) 7 #[Operand.tmp 82] #[24] #[.agg (mk4 M)] rfl rfl rfl (enter7 _) ?_
            refine (all_any (M) _).mono ?_
            rintro e wn29 ⟨va29, rfl, hb, hO29⟩
            obtain ⟨ad29, c29, rfl, _, _, _⟩ := hO29.reads
            have hS := Sx.below hS hb
            clear hb hO29
            refine ⟨_, rfl, hS, ?_⟩
            simp only [Act.put, List.setIfInBounds_toArray, List.set_cons_zero, List.set_cons_succ]
            refine Fin.len (some 84) (some (27, true)) 28 (Operand.tmp 83) (ad29) ((allTo (M) 256).length) (c29) rfl rfl rfl (by kernel_rfl) ?_
            simp only [Act.put, List.setIfInBounds_toArray, List.set_cons_zero, List.set_cons_succ]
            refine Fin.call (some 86) (some (27, true)) 7 #[Operand.tmp 85] #[24] #[.agg (mk4 (oth M))] rfl rfl rfl (enter7 _) ?_
            refine (all_any (oth M) _).mono ?_
            rintro e wn32 ⟨va32, rfl, hb, hO32⟩
            obtain ⟨ad32, c32, rfl, _, _, _⟩ := hO32.reads
            have hS := Sx.below hS hb
            clear hb hO32
            refine ⟨_, rfl, hS, ?_⟩
            simp only [Act.put, List.setIfInBounds_toArray, List.set_cons_zero, List.set_cons_succ]
            refine Fin.len (some 87) (some (27, true)) 28 (Operand.tmp 86) (ad32) ((allTo (oth M) 256).length) (c32) rfl rfl rfl (by kernel_rfl) ?_
            simp only [Act.put, List.setIfInBounds_toArray, List.set_cons_zero, List.set_cons_succ]
            refine Fin.bin (some 88) (some (27, true)) .add 3 3 (Operand.tmp 84) (Operand.tmp 87) (.int .i64 (((allTo (M) 256).length : Nat) : Int)) (.int .i64 (((allTo (oth M) 256).length : Nat) : Int)) (.int .i64 256) rfl rfl rfl rfl (fun w_ => ⟨by first | rfl | go_simp, by go_simp⟩) ?_
            simp only [Act.put, List.setIfInBounds_toArray, List.set_cons_zero, List.set_cons_succ]
            refine Fin.bin (some 89) (some (27, true)) .eql 3 3 (Operand.tmp 88) (Operand.const (Value.int IntKind.i64 256)) (.int .i64 256) (Value.int IntKind.i64 256) (.bool true) rfl rfl rfl rfl (fun w_ => ⟨by first | rfl | go_simp, by go_simp⟩) ?_
            simp only [Act.put, List.setIfInBounds_toArray, List.set_cons_zero, List.set_cons_succ]
            refine Fin.pick (some 90) none (Operand.tmp 81) (Operand.tmp 89) (Operand.const (Value.bool false)) true (.bool true) rfl rfl rfl rfl ?_
            simp only [Act.put, List.setIfInBounds_toArray, List.set_cons_zero, List.set_cons_succ]
            refine Fin.mv (some 91) none (Operand.tmp 90) (.bool true) rfl rfl rfl ?_
            simp only [Act.put, List.setIfInBounds_toArray, List.set_cons_zero, List.set_cons_succ]
            refine Fin.call (some 92) (some (37, true)) 22 #[] #[] #[] rfl rfl rfl (enter22 _) ?_
            refine (awake_any _).mono ?_
            rintro e wn38 ⟨rfl, hb⟩
            have hS := Sx.below hS hb
            clear hb
            refine ⟨_, rfl, hS, ?_⟩
            simp only [Act.put, List.setIfInBounds_toArray, List.set_cons_zero, List.set_cons_succ]
            refine Fin.pick (some 93) none (Operand.tmp 91) (Operand.tmp 92) (Operand.const (Value.bool false)) true (.bool true) rfl rfl rfl rfl ?_
            simp only [Act.put, List.setIfInBounds_toArray, List.set_cons_zero, List.set_cons_succ]
            refine Fin.asg (some 4) none (Operand.tmp 93) (.bool true) rfl rfl rfl ?_
            simp only [Act.put, List.setIfInBounds_toArray, List.set_cons_zero, List.set_cons_succ]
            simp only [Fin]
            go_wp2_with fail
            go_ret
            exact ⟨rfl, hS.low⟩
end Go.Proofs.Ytnemnchldjohgaa
