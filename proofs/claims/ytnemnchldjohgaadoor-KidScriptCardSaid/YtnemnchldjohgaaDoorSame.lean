/- Walks over Low, SameBytes, OverBytes. -/
import Derived.Test.YtnemnchldjohgaaDoorBase
import Derived.Deep.QuietTactic
import Derived.BigQuiet
set_option linter.unusedVariables false
set_option linter.unusedSimpArgs false
namespace Go.Proofs.YtnemnchldjohgaaDoor
open Go.RowKit
/-- l.Low. -/
def low (x : Int) (n : Int) : Int := (x % 18446744073709551616) % n
theorem low_eq (x n : Int) (hn : 1 ≤ n) (hn1 : n ≤ 1000000) : wrap64 ((IntKind.u64.wrap x).tmod n) = low x n := by
  have h0 : 0 ≤ x % 18446744073709551616 := Int.emod_nonneg _ (by decide)
  have h1 : 0 ≤ x % 18446744073709551616 % n := Int.emod_nonneg _ (by omega)
  have h2 : x % 18446744073709551616 % n < n := Int.emod_lt_of_pos _ (by omega)
  rw [IntKind.wrap_u64, Int.tmod_eq_emod_of_nonneg h0]
  unfold low
  generalize x % 18446744073709551616 % n = r at *
  unfold wrap64
  omega
theorem low_bd (x n : Int) (hn : 1 ≤ n) : 0 ≤ low x n ∧ low x n < n := ⟨Int.emod_nonneg _ (by omega), Int.emod_lt_of_pos _ (by omega)⟩
set_option maxHeartbeats 1000000 in
theorem low_any (x n : Int) (h0 : -9223372036854775808 ≤ x) (h1 : x ≤ 9223372036854775807) (hn : 1 ≤ n) (hn1 : n ≤ 1000000) (w : World) :
    Calls Tryd.prog 7 #[.int .i64 x, .int .i64 n] w fun e w' => e = .returned (.int .i64 (low x n)) ∧ w = w' := by
  go_enter Tryd.func7, Tryd.ntmps7
  go_wp2_with fail
  go_ret
  exact ⟨by rw [← low_eq x n hn hn1]; rfl, rfl⟩
theorem ne_at {xs ys : List Int} {k : Nat} (h : xs.getD k 0 ≠ ys.getD k 0) : xs ≠ ys := fun e => h (by rw [e])
theorem take_eq_next {xs ys : List Int} {k : Nat} (hx : k < xs.length) (hy : k < ys.length) (h : xs.take k = ys.take k) (e : xs.getD k 0 = ys.getD k 0) : xs.take (k + 1) = ys.take (k + 1) := by
  rw [List.take_succ_eq_append_getElem hx, List.take_succ_eq_append_getElem hy, h]
  rw [List.getD_eq_getElem?_getD, List.getD_eq_getElem?_getD, List.getElem?_eq_getElem hx, List.getElem?_eq_getElem hy] at e
  simp only [Option.getD_some] at e
  rw [e]
set_option maxHeartbeats 1000000 in
set_option maxRecDepth 20000 in
theorem same_any (u v : Value) (xs ys : List Int) (w : World) (hu : ReadB u xs w) (hv : ReadB v ys w) :
    Calls Tryd.prog 15 #[u, v] w fun e w' => e = .returned (.bool (decide (xs = ys))) ∧ Below w.heap.size w w' := by
  obtain ⟨au, cu, rfl, hlu, hmu, hcu⟩ := hu
  obtain ⟨av, cv, rfl, hlv, hmv, hcv⟩ := hv
  generalize hn : xs.length = n at *
  generalize hm : ys.length = m at *
  have HN := Lib.hid hn; clear hn
  have HM := Lib.hid hm; clear hm
  have HCU := Lib.hid hcu; clear hcu
  have HCV := Lib.hid hcv; clear hcv
  by_cases hnm : n = m
  · subst hnm
    have htest : ((n : Int) != (n : Int)) = false := by simp
    go_enter Tryd.func15, Tryd.ntmps15
    go_wp2_with fail
    go_loopw [5] (fun i wr => ∃ k : Nat, k ≤ n ∧ i = .int .i64 k ∧ Below w.heap.size w wr ∧ Hid (xs.take k = ys.take k)) (fun i _ => n - (intOf i).toNat)
    case atStart => exact ⟨0, by omega, rfl, Below.refl _ _, by show _ = _; simp⟩
    case round =>
      obtain ⟨k, hk, rfl, hB, hT⟩ := hrel
      by_cases hlt : (k : Int) < n
      · obtain ⟨b1, o1, rfl, hc1⟩ := HCU.out (by omega)
        obtain ⟨b2, o2, rfl, hc2⟩ := HCV.out (by omega)
        have e1 := (hB.cell (p := ⟨b1, o1 + k, none⟩) (World.block_lt_of_cell? w _ (hc1 k (by omega)))).trans (hc1 k (by omega))
        have e2 := (hB.cell (p := ⟨b2, o2 + k, none⟩) (World.block_lt_of_cell? w _ (hc2 k (by omega)))).trans (hc2 k (by omega))
        clear hc1 hc2
        have hlt1 : k < n := by omega
        have hk0 : (0 : Int) ≤ (k : Int) := by omega
        by_cases hd : xs.getD k 0 = ys.getD k 0
        · have ht := take_eq_next (by rw [HN.out]; omega) (by rw [HM.out]; omega) hT.out hd
          have HT := Lib.hid ht; clear ht
          rw [← hd] at e2
          clear hd
          generalize xs.getD k 0 = x at *
          have hxx : (x != x) = false := by simp
          go_wp2_with fail
          go_quiet (fail)
          go_wp2_with fail
          go_roundw
          case rel => exact ⟨k + 1, by omega, by go_num, belowDrewN hB _, HT⟩
          case measure => (try simp [intOf]); (try omega)
        · have hne := ne_at hd
          have HNE := Lib.hid hne; clear hne
          generalize xs.getD k 0 = x at *
          generalize ys.getD k 0 = y at *
          have hxx : (x != y) = true := by simpa using hd
          clear hd
          go_wp2_with fail
          go_quiet (fail)
          go_wp2_with fail
          go_ret
          exact ⟨by rw [decide_eq_false HNE.out]; rfl, belowDrewN hB _⟩
      · have he : xs = ys := by
          have := hT.out
          rwa [List.take_of_length_le (by rw [HN.out]; omega), List.take_of_length_le (by rw [HM.out]; omega)] at this
        have HE := Lib.hid he; clear he
        go_wp2_with fail
        go_ret
        exact ⟨by rw [decide_eq_true HE.out]; rfl, hB⟩
  · have hne : xs ≠ ys := fun e => hnm (by rw [← HN.out, ← HM.out, e])
    have HNE := Lib.hid hne; clear hne
    have htest : ((n : Int) != (m : Int)) = true := by rw [bne_iff_ne]; omega
    clear hnm
    go_enter Tryd.func15, Tryd.ntmps15
    go_wp2_with fail
    go_ret
    exact ⟨by rw [decide_eq_false HNE.out]; rfl, Below.refl _ _⟩
set_option maxHeartbeats 1000000 in
set_option maxRecDepth 20000 in
theorem over_any (B : Nat) (v : Value) (xs : List Int) (w : World) (hO : OwnB B v xs w) (hB : B ≤ w.heap.size) (hl : xs.length ≤ 100000) :
    Calls Tryd.prog 37 #[v] w fun e w' => e = .returned (.tuple #[]) ∧ w.grownBy w' v.ownBlock := by
  rcases hO.2 with ⟨rfl, h0⟩ | ⟨g, cap, cur, rfl, hg, hh, hnc, hcm, hcs, ht⟩
  · obtain rfl : xs = [] := List.eq_nil_of_length_eq_zero h0
    go_enter Tryd.func37, Tryd.ntmps37
    go_wp2_with fail
    go_loopw [2] (fun i wr => i = .int .i64 0 ∧ wr = w) (fun _ _ => 0)
    case atStart => exact ⟨rfl, rfl⟩
    case round =>
      obtain ⟨rfl, rfl⟩ := hrel
      go_wp2_with (at_builtin; refine app_byte B rfl _ _ rfl (.slice none 0 0) [] 238 rfl rfl hO hB (by simp) ?_; intro v1 w2 hO2 hG2 _)
      go_end0
      exact ⟨rfl, hG2⟩
  · have hlt := (Array.getElem?_eq_some_iff.1 hh).1
    have hO' := hO
    have hmax : (xs.length : Int) ≤ 100000 := by omega
    have hcap : (xs.length : Int) ≤ cap := by omega
    generalize hn : xs.length = n at *
    have HN := Lib.hid hn; clear hn
    clear hh hcm hcs ht hO
    go_enter Tryd.func37, Tryd.ntmps37
    go_wp2_with fail
    go_loopw [2] (fun i wr => ∃ (k : Nat) (ys : List Int), k ≤ n ∧ i = .int .i64 k ∧ Hid (ys.length = n) ∧ Hid (OwnB B (.slice (some ⟨g, 0, none⟩) n cap) ys wr) ∧ Hid (w.grownBy wr (some g))) (fun i _ => n - (intOf i).toNat)
    case atStart => exact ⟨0, xs, by omega, rfl, HN, hO', ⟨rfl, rfl, rfl, Nat.le_refl _, fun _ _ _ => rfl⟩⟩
    case round =>
      obtain ⟨k, ys, hk, rfl, hY, hOw, hG⟩ := hrel
      have hO2 : wr.ownsRow B 5 1 (.slice (some ⟨g, 0, none⟩) n cap) n (byt ys) := by have := hOw.out; unfold OwnB at this; rwa [hY.out] at this
      by_cases hlt2 : (k : Int) < n
      · have hkl : k < ys.length := by rw [hY.out]; omega
        have hc := hO2.cellAt k (by omega)
        rw [show (byt ys)[k]? = some (.int .u8 (ys.getD k 0)) by simp [byt, List.getD_eq_getElem?_getD, List.getElem?_eq_getElem hkl]] at hc
        have hf := hO2.frozenAt k
        have hS := hO2.stored k (.int .u8 238)
        have HS := Lib.hid hS; clear hS hO2 hkl
        go_wp2_with fail
        go_roundw
        case rel =>
          refine ⟨k + 1, ys.set k 238, by omega, by go_num, by show _ = _; rw [List.length_set]; exact hY.out, ?_, World.grownBy.trans hG.out HS.out.2⟩
          show OwnB _ _ _ _
          unfold OwnB
          rw [List.length_set, hY.out]
          have := HS.out.1
          rwa [show (byt ys).set k (.int .u8 238) = byt (ys.set k 238) by simp [byt, List.map_set]] at this
        case measure => (try simp [intOf]); (try omega)
      · have hsz : B ≤ wr.heap.size := Nat.le_trans hB hG.out.size
        have hyl : ys.length + 1 ≤ 140737488355328 := by rw [hY.out]; omega
        clear hO2
        go_wp2_with (at_builtin; refine app_byte B rfl _ _ rfl (.slice (some ⟨g, 0, none⟩) n cap) ys 238 rfl rfl hOw.out hsz hyl ?_; intro v1 w2 hO3 hG2 _)
        go_end0
        exact ⟨rfl, World.grownBy.trans hG.out hG2⟩
end Go.Proofs.YtnemnchldjohgaaDoor
