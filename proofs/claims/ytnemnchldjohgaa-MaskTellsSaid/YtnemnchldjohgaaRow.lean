/- An array of four words as a parameter: opened and shut. -/
import Derived.Test.YtnemnchldjohgaaRows
import Derived.Test.YtnemnchldjohgaaMaskMath
import Derived.ProofKit
import Derived.Laws.IdiomArrays
set_option linter.unusedVariables false
namespace Go.Proofs.Ytnemnchldjohgaa
open Go.ChangeShapes Go.WideShapes Go.ChangeAt Go.RowKit
theorem Try.own : ownKnob Try.prog.godebug = none := by kernel_rfl
theorem Try.cellsW : Try.prog.cellsOf 23 = 4 := by kernel_rfl
theorem Try.cellsU : Try.prog.cellsOf 22 = 1 := by kernel_rfl
theorem list4 {α : Type} (l : List α) (h : (⟨l⟩ : Array α).size = 4) : ∃ a b c d, l = [a, b, c, d] := by
  match l, h with
  | [a, b, c, d], _ => exact ⟨a, b, c, d, rfl⟩
/-- A set as data. -/
def dat {H : Type} (M : Nat → Bool) : DataW H := .agg [.lit (.int .u64 (wd M 0 : Int)), .lit (.int .u64 (wd M 1 : Int)), .lit (.int .u64 (wd M 2 : Int)), .lit (.int .u64 (wd M 3 : Int))]
theorem wf_bd {x : Int} (h : (Lit.int .u64 x).wf = true) : 0 ≤ x ∧ x < 18446744073709551616 := by
  simp [Lit.wf, IntKind.min, IntKind.max, IntKind.signed, IntKind.bits] at h
  omega
theorem wd_wf (M : Nat → Bool) (i : Nat) : (Lit.int .u64 (wd M i : Int)).wf = true := WalkArith.wf_u64 (by have := wd_lt M i; omega)
theorem open_arr {H : Type} {enc : TypeId × Value → H} {W : World} {base : Nat} {sp : Nat → Bool} {hl : Bool} {v : Value} {d : DataW H} {p : List MemPlace}
    (hv : Value.okWide Try.prog W .any base 23 v) (h : DataW.Trod enc Try.prog W 0 sp hl 23 v d p) : ∃ M, v = .agg (mk4 M) ∧ d = dat M ∧ p = [] := by
  obtain ⟨cs, rfl, hsz, _⟩ : ∃ cs, v = .agg cs ∧ cs.size = Try.prog.cellsOf 23 ∧ Row.okWide Try.prog W .any base 23 cs := by
    simpa [Value.okWide, Try.underlying23] using hv
  rw [Try.cellsW] at hsz
  obtain ⟨l⟩ := cs
  obtain ⟨c0, c1, c2, c3, rfl⟩ := list4 l hsz
  obtain ⟨fuel, hf⟩ := h
  obtain ⟨y0, y1, y2, y3, m, hx, hy0, hy1, hy2, hy3⟩ := trod_array4 Try.underlying23 Try.cellsU hf
  obtain ⟨x0, e0, rfl, w0⟩ := DataW.trod_int Try.underlying22 hy0
  obtain ⟨x1, e1, rfl, w1⟩ := DataW.trod_int Try.underlying22 hy1
  obtain ⟨x2, e2, rfl, w2⟩ := DataW.trod_int Try.underlying22 hy2
  obtain ⟨x3, e3, rfl, w3⟩ := DataW.trod_int Try.underlying22 hy3
  simp at e0 e1 e2 e3
  subst e0 e1 e2 e3
  simp only [Prod.mk.injEq] at hx
  obtain ⟨rfl, rfl⟩ := hx
  have b0 := wf_bd w0
  have b1 := wf_bd w1
  have b2 := wf_bd w2
  have b3 := wf_bd w3
  obtain ⟨n0, rfl⟩ := Int.eq_ofNat_of_zero_le b0.1
  obtain ⟨n1, rfl⟩ := Int.eq_ofNat_of_zero_le b1.1
  obtain ⟨n2, rfl⟩ := Int.eq_ofNat_of_zero_le b2.1
  obtain ⟨n3, rfl⟩ := Int.eq_ofNat_of_zero_le b3.1
  obtain ⟨h0, h1, h2, h3⟩ := wd_ofW n0 n1 n2 n3 (by omega) (by omega) (by omega) (by omega)
  refine ⟨ofW n0 n1 n2 n3, ?_, ?_, rfl⟩
  · unfold mk4; rw [h0, h1, h2, h3]
  · unfold dat; rw [h0, h1, h2, h3]
theorem shut_arr {H : Type} (enc : TypeId × Value → H) (W : World) (sp : Nat → Bool) (hl : Bool) (M : Nat → Bool) : DataW.Trod enc Try.prog W 0 sp hl 23 (.agg (mk4 M)) (dat M) [] :=
  ⟨2, by simp [DataW.trod, Value.cells, mk4, dat, Try.underlying23, Try.underlying22, Try.cellsW, Try.cellsU, wd_wf, show List.range 4 = [0, 1, 2, 3] from rfl]⟩
end Go.Proofs.Ytnemnchldjohgaa
