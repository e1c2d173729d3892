/-
  No cell of these rows narrows 'for every input' (looked for: loops, veiled, ifaces, maps, wideKeys, modest, calm, conditions, laid).
  DERIVED. THE GIVEN ROWS OF THIS SEAT. 3 by the template 'for every input the law returns true; each argument reads behind the call as it read before'; 0 by the template 'total and deterministic' (their statements: YtnemnchldjohgaaTotals.lean).
  GIVEN WITH THE SEED: the statements are not yours to turn. If you find one false, say at which input.
  Laid BY PROGRAM, IN A SANDBOX (cutbox-rows.mjs): the forced cells as the released guide's own fill.sh prints them over the translation 1abfec65017e69c5… (all of the seat's roots in one cut). By AI agents, Wed Nov 11 2026. No macro, syntax, notation, axiom, sorry.
-/
import Derived.Test.YtnemnchldjohgaaChecked
import GoSem.Claim
import GoSem.ClaimJoined
import GoSem.ClaimMapViews
import Derived.JoinedTies
import Derived.KernelRfl
namespace Go.Proofs.Ytnemnchldjohgaa
/- THE CELL 'sum', in the pinned program and in every row, IS THE sha256 OF THE DUMP (.gsa) THAT YtnemnchldjohgaaProg.lean LOADS. Nothing in Lean hashes anything: it is a label: what it is worth is what the hold of that sum in a sandbox is worth. -/
noncomputable def Try.pinned : Pinned := { name := "ytnemnchldjohgaa", sum := "1abfec65017e69c5ec76b388b2ba1f379f4216616f8dffc6ea2ab1f41f03bcda", checked := Try.checked }
namespace Rows
def none {H : Type} : Left H := { results := [], args := [] }

/-- 'bramblelaw4.MaskTells': WHATEVER THE INPUT: true; the input reads as it did. -/
def maskTellsSpec : ChangeSpec := { name := "maskTells", fn := fun _ => fun
  | [d1, d2, d3] => { results := [.lit (.bool true)], args := [d1, d2, d3] }
  | _ => none }
def maskTellsRow : OpenClaim := { program := "ytnemnchldjohgaa", sum := "1abfec65017e69c5ec76b388b2ba1f379f4216616f8dffc6ea2ab1f41f03bcda", func := "bramble/bramblelaw4.MaskTells", spec := "maskTells", apart := false }
def MaskTellsSaid : Prop := maskTellsRow.holds Try.pinned (OpenSpec.ofChange maskTellsSpec)

/-- ITS FALSE NEIGHBOUR: 'it returns false'. Refute it at one input. -/
def maskTellsWrong : ChangeSpec := { name := "maskTells", fn := fun _ => fun
  | [d1, d2, d3] => { results := [.lit (.bool false)], args := [d1, d2, d3] }
  | _ => none }
def MaskTellsWrongFalsely : Prop := maskTellsRow.holds Try.pinned (OpenSpec.ofChange maskTellsWrong)

/-- 'bramblelaw4.MaskSteps': WHATEVER THE INPUT: true; the input reads as it did. -/
def maskStepsSpec : ChangeSpec := { name := "maskSteps", fn := fun _ => fun
  | [d] => { results := [.lit (.bool true)], args := [d] }
  | _ => none }
def maskStepsRow : OpenClaim := { program := "ytnemnchldjohgaa", sum := "1abfec65017e69c5ec76b388b2ba1f379f4216616f8dffc6ea2ab1f41f03bcda", func := "bramble/bramblelaw4.MaskSteps", spec := "maskSteps", apart := false }
def MaskStepsSaid : Prop := maskStepsRow.holds Try.pinned (OpenSpec.ofChange maskStepsSpec)

/-- ITS FALSE NEIGHBOUR: 'it returns false'. Refute it at one input. -/
def maskStepsWrong : ChangeSpec := { name := "maskSteps", fn := fun _ => fun
  | [d] => { results := [.lit (.bool false)], args := [d] }
  | _ => none }
def MaskStepsWrongFalsely : Prop := maskStepsRow.holds Try.pinned (OpenSpec.ofChange maskStepsWrong)

/-- 'bramblelaw4.MaskOthers': WHATEVER THE INPUT: true; the input reads as it did. -/
def maskOthersSpec : ChangeSpec := { name := "maskOthers", fn := fun _ => fun
  | [d1, d2] => { results := [.lit (.bool true)], args := [d1, d2] }
  | _ => none }
def maskOthersRow : OpenClaim := { program := "ytnemnchldjohgaa", sum := "1abfec65017e69c5ec76b388b2ba1f379f4216616f8dffc6ea2ab1f41f03bcda", func := "bramble/bramblelaw4.MaskOthers", spec := "maskOthers", apart := false }
def MaskOthersSaid : Prop := maskOthersRow.holds Try.pinned (OpenSpec.ofChange maskOthersSpec)

/-- ITS FALSE NEIGHBOUR: 'it returns false'. Refute it at one input. -/
def maskOthersWrong : ChangeSpec := { name := "maskOthers", fn := fun _ => fun
  | [d1, d2] => { results := [.lit (.bool false)], args := [d1, d2] }
  | _ => none }
def MaskOthersWrongFalsely : Prop := maskOthersRow.holds Try.pinned (OpenSpec.ofChange maskOthersWrong)

/- THE SECOND FORM. 'bulk': how many values and letters a reading holds, each counted each time it is reached (what is shared counts as often as it is met; a slice's spare places count too). A statement '..UptoSaid' is the law's where the arguments, and the package variables that the reading takes, are together of bulk at most 1048576: NARROWER than '..Said'. Prove '..Said' where nothing that the law and all that it calls make is longer than what came in: it says more and counts as full. Else prove '..UptoSaid'. A law counts once. -/
mutual
def uptoBulk {H : Type} : DataW H → Nat
  | .lit (.string bytes) => bytes.length + 1
  | .lit _ => 1
  | .nil => 1
  | .ptr d => uptoBulk d + 1
  | .slice elems spare => uptoBulkAll elems + uptoBulkAll spare + 1
  | .agg parts => uptoBulkAll parts + 1
  | .iface _ d => uptoBulk d + 1
  | .map entries => uptoBulkEntries entries + 1
  | .held _ => 1
def uptoBulkAll {H : Type} : List (DataW H) → Nat
  | [] => 0
  | d :: r => uptoBulk d + uptoBulkAll r
def uptoBulkEntries {H : Type} : List (Lit × DataW H) → Nat
  | [] => 0
  | x :: r => uptoBulkEntry x + uptoBulkEntries r
def uptoBulkEntry {H : Type} : Lit × DataW H → Nat
  | (.string bytes, d) => bytes.length + uptoBulk d + 1
  | (_, d) => uptoBulk d + 1
 end
def uptoSmall : (H : Type) → List (DataW H) → Bool := fun _ ds => decide (uptoBulkAll ds ≤ 1048576)
def OpenSpec.upto (s : _root_.Go.ChangeSpec) : _root_.Go.OpenSpec := { _root_.Go.OpenSpec.ofChange s with cond := some uptoSmall }

/-- 'bramblelaw4.MaskTells', WHERE WHAT IT READS IS OF BULK AT MOST 1048576: true; the input reads as it did. -/
def maskTellsUptoRow : OpenClaim := { program := "ytnemnchldjohgaa", sum := "1abfec65017e69c5ec76b388b2ba1f379f4216616f8dffc6ea2ab1f41f03bcda", func := "bramble/bramblelaw4.MaskTells", spec := "maskTells", apart := false, narrowed := true }
def MaskTellsUptoSaid : Prop := maskTellsUptoRow.holds Try.pinned (OpenSpec.upto maskTellsSpec)

/-- 'bramblelaw4.MaskSteps', WHERE WHAT IT READS IS OF BULK AT MOST 1048576: true; the input reads as it did. -/
def maskStepsUptoRow : OpenClaim := { program := "ytnemnchldjohgaa", sum := "1abfec65017e69c5ec76b388b2ba1f379f4216616f8dffc6ea2ab1f41f03bcda", func := "bramble/bramblelaw4.MaskSteps", spec := "maskSteps", apart := false, narrowed := true }
def MaskStepsUptoSaid : Prop := maskStepsUptoRow.holds Try.pinned (OpenSpec.upto maskStepsSpec)

/-- 'bramblelaw4.MaskOthers', WHERE WHAT IT READS IS OF BULK AT MOST 1048576: true; the input reads as it did. -/
def maskOthersUptoRow : OpenClaim := { program := "ytnemnchldjohgaa", sum := "1abfec65017e69c5ec76b388b2ba1f379f4216616f8dffc6ea2ab1f41f03bcda", func := "bramble/bramblelaw4.MaskOthers", spec := "maskOthers", apart := false, narrowed := true }
def MaskOthersUptoSaid : Prop := maskOthersUptoRow.holds Try.pinned (OpenSpec.upto maskOthersSpec)

end Rows
end Go.Proofs.Ytnemnchldjohgaa
