/- awake of bramblelaw4. -/
import Derived.Test.YtnemnchldjohgaaSetC
import Derived.Test.YtnemnchldjohgaaSame
import Derived.Test.YtnemnchldjohgaaEqM
import Derived.Test.YtnemnchldjohgaaMaskD
import Derived.Test.YtnemnchldjohgaaSx
set_option linter.unusedVariables false
set_option linter.unusedSimpArgs false
namespace Go.Proofs.Ytnemnchldjohgaa
open Go.RowKit
/-- A slice literal of two bytes, of one. -/
theorem lit2 (w : World) (a b : Int) : ReadB (.slice (some ⟨w.heap.size, 0, none⟩) 2 2) [a, b] (w.alloc (.cells #[.int .u8 a, .int .u8 b] 5)) :=
  ⟨_, 2, rfl, Nat.le_refl _, by simp, fun _ => ⟨_, 0, rfl, fun j hj => by
    have hb := Blk.new w #[.int .u8 a, .int .u8 b] 5
    rw [Nat.zero_add, hb.cell j]
    simp only [List.length_cons, List.length_nil] at hj
    have : j = 0 ∨ j = 1 := by omega
    rcases this with rfl | rfl <;> rfl⟩⟩
theorem lit1 (w : World) (a : Int) : ReadB (.slice (some ⟨w.heap.size, 0, none⟩) 1 1) [a] (w.alloc (.cells #[.int .u8 a] 5)) :=
  ⟨_, 1, rfl, Nat.le_refl _, by simp, fun _ => ⟨_, 0, rfl, fun j hj => by
    have hb := Blk.new w #[.int .u8 a] 5
    rw [Nat.zero_add, hb.cell j]
    simp only [List.length_cons, List.length_nil] at hj
    have : j = 0 := by omega
    subst this
    rfl⟩⟩
theorem lit0 (w : World) : ReadB (.slice none 0 0) [] w := ⟨_, 0, rfl, Nat.le_refl _, by simp, fun h => by simp at h⟩
theorem aw1 : setOf [3, 200] 3 = true := by decide +kernel
theorem aw2 : next (setOf [3, 200]) 4 = 200 := by decide +kernel
theorem aw3 : prev (setOf [3, 200]) 199 = 3 := by decide +kernel
theorem aw4 : rank (setOf [3, 200]) 200 = 1 := by decide +kernel
theorem aw5 : rnk (setOf [3, 200]) 256 = 2 := by decide +kernel
theorem aw6 : mk4 (setOf []) = #[Value.int .u64 0, Value.int .u64 0, Value.int .u64 0, Value.int .u64 0] := zlit
theorem aw7 : mk4 (del (setOf [3, 200]) 3) = mk4 (setOf [200]) := mk4_congr (by decide +kernel)
attribute [local irreducible] mk4 wd bl setOf
set_option maxHeartbeats 1000000 in
set_option maxRecDepth 20000 in
theorem awake_any (w : World) : Calls Try.prog 22 #[] w fun e w' => e = .returned (.bool true) ∧ Below w.heap.size w w' := by
  have f1 := aw1
  have f2 := aw2
  have f3 := aw3
  have f4 := aw4
  have f5 := aw5
  have f6 := aw6
  have f7 := aw7
  have F1 := Lib.hid f1; clear f1
  have F2 := Lib.hid f2; clear f2
  have F3 := Lib.hid f3; clear f3
  have F4 := Lib.hid f4; clear f4
  have F5 := Lib.hid f5; clear f5
  have F6 := Lib.hid f6; clear f6
  have F7 := Lib.hid f7; clear f7
  have hof := fun W => of_any _ [3, 200] (by decide) _ (lit2 W 3 200)
  have HOF := Lib.hid hof; clear hof
  have hq1_ : ∀ W : World, (Op.equalIn 10000 24 (.agg (mk4 (setOf [200]))) (.agg (mk4 (setOf [200])))).run Try.prog W = .ok true W := fun W => (eqM _ _ W).trans (by rw [same4_self])
  have HQ1 := Lib.hid hq1_; clear hq1_
  have hq0 : ∀ W : World, (Op.equalIn 10000 24 (.agg #[.int .u64 0, .int .u64 0, .int .u64 0, .int .u64 0]) (.agg #[.int .u64 0, .int .u64 0, .int .u64 0, .int .u64 0])).run Try.prog W = .ok true W := fun W => by
    have := eqM (fun _ => false) (fun _ => false) W
    rw [same4_self, zlit] at this
    exact this
  generalize setOf [3, 200] = M at *
  go_enter Try.func22, Try.ntmps22
  go_wp2_with fail
  refine (HOF.out _).mono ?_
  rintro e w1 ⟨rfl, hb1⟩
  have hS0 : Sx w.heap.size w [] w1 := (((Sx.start w).alloc _).below hb1)
  go_wp2_with (first | (refine wpList_store_whole rfl 24 _ _ rfl w1.heap.size #[.int .u64 0, .int .u64 0, .int .u64 0, .int .u64 0] (mk4 M) 24 rfl rfl (Blk.new _ _ _) (by rw [mk4_size]; rfl) (by rw [mk4_size]; exact infoM) (mk4_one _) ?_; intro w2 hk2 hg2 hz2; have hS2 := ((hS0.alloc (.cells #[.int .u64 0, .int .u64 0, .int .u64 0, .int .u64 0] 24)).grown hg2 hS0.base (by simp)).add hk2; clear hk2 hg2 hz2) | refine wpList_load_G rfl 24 _ rfl w1.heap.size (mk4 M) 24 _ rfl (Sx.blk (by assumption) (w1.heap.size, mk4 M, 24) (by simp)) Try.underlying24 rfl (by rw [mk4_size]; exact infoM) ?_ | (go_at_call 8; refine (has_any M 3 (by omega) (by omega) _).mono ?_; rintro e w3 ⟨rfl, hb⟩; have hS := Sx.below (by assumption) hb; clear hb; rw [show M (Int.toNat 3) = true from F1.out]) | (go_at_call 12; refine (next_any M 4 (by omega) (by omega) _).mono ?_; rintro e w4 ⟨rfl, hb⟩; have hS := Sx.below (by assumption) hb; clear hb; rw [F2.out]) | (go_at_call 14; refine (prev_any M 199 (by omega) (by omega) _).mono ?_; rintro e w5 ⟨rfl, hb⟩; have hS := Sx.below (by assumption) hb; clear hb; rw [F3.out]) | (go_at_call 16; refine (rank_any M 200 (by omega) (by omega) _).mono ?_; rintro e w6 ⟨rfl, hb⟩; have hS := Sx.below (by assumption) hb; clear hb; rw [F4.out]) | (go_at_call 20; refine (count_any M _).mono ?_; rintro e w7 ⟨rfl, hb⟩; have hS := Sx.below (by assumption) hb; clear hb; rw [F5.out]) | (go_at_call 25; refine (of_any _ [] (by decide) _ (lit0 _)).mono ?_; rintro e w8 ⟨rfl, hb⟩; have hS := Sx.below (by assumption) hb; clear hb; rw [F6.out]))
  refine (without_any M 3 (by omega) (by omega) _).mono ?_
  rintro e w9 ⟨rfl, hb9⟩
  rw [show mk4 (del M (Int.toNat 3)) = mk4 (setOf [200]) from F7.out]
  have hS9 := Sx.below (by assumption) hb9
  go_wp2_with fail
  refine (of_any _ [200] (by decide) _ (lit1 _ 200)).mono ?_
  rintro e w10 ⟨rfl, hb10⟩
  have hS10 := (hS9.alloc _).below hb10
  have hq1 := HQ1.out
  go_wp2_with fail
  go_ret
  exact ⟨rfl, hS10.low⟩
end Go.Proofs.Ytnemnchldjohgaa
