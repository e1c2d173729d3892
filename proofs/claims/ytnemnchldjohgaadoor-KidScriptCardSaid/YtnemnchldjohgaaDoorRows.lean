/-
  NARROWER THAN 'FOR EVERY INPUT', by the rows' own cells (each row's printed sentence says how): KidBands: laid · KidOrders: laid · KidSteps: laid · KidScript: laid.
  DERIVED. THE GIVEN ROWS OF THIS SEAT. 4 by the template 'for every input the law returns true; each argument reads behind the call as it read before'; 0 by the template 'total and deterministic' (their statements: YtnemnchldjohgaaDoorTotals.lean).
  GIVEN WITH THE SEED: the statements are not yours to turn. If you find one false, say at which input.
  Laid BY PROGRAM, IN A SANDBOX (cutbox-rows.mjs): the forced cells as the released guide's own fill.sh prints them over the translation 0f51c3bbe4117fea… (all of the seat's roots in one cut). By AI agents, Wed Nov 11 2026. No macro, syntax, notation, axiom, sorry.
-/
import Derived.Test.YtnemnchldjohgaaDoorChecked
import GoSem.Claim
import GoSem.ClaimJoined
import GoSem.ClaimMapViews
import Derived.JoinedTies
import Derived.KernelRfl
namespace Go.Proofs.YtnemnchldjohgaaDoor
/- THE CELL 'sum', in the pinned program and in every row, IS THE sha256 OF THE DUMP (.gsa) THAT YtnemnchldjohgaaDoorProg.lean LOADS. Nothing in Lean hashes anything: it is a label: what it is worth is what the hold of that sum in a sandbox is worth. -/
noncomputable def Tryd.pinned : Pinned := { name := "ytnemnchldjohgaadoor", sum := "0f51c3bbe4117feadb7d6dc485a1d5095a26694e69b66f9a0b1d3b2e3423ac82", checked := Tryd.checked }
namespace Rows
def none {H : Type} : Left H := { results := [], args := [] }

/- WHAT THE LISTED PACKAGE-LEVEL VARIABLES READ AS WHEN THE CALL BEGINS. Each datum BY PROGRAM (the guide's laid-datum.mjs) off the statement by which the dump's own 'gosem.cut.vars' lays the variable. In a bare row this is a premise. The card (YtnemnchldjohgaaDoorCards.lean) ties it to the program's text. -/
def laid_bramble_kid_room {H : Type} : DataW H := .agg [.lit (.int .i64 4), .lit (.int .i64 16), .lit (.int .i64 48), .lit (.int .i64 256)]
def laid_bramble_kid_left {H : Type} : DataW H := .agg [.lit (.int .i64 (-1)), .lit (.int .i64 3), .lit (.int .i64 12), .lit (.int .i64 40)]

/-- 'bramblelaw9.KidBands': WHATEVER THE INPUT: true; the input reads as it did. -/
def kidBandsSpec : ChangeSpec := { name := "kidBands", fn := fun _ => fun
  | [d1, d2, d3] => { results := [.lit (.bool true)], args := [d1, d2, d3] }
  | _ => none }
def kidBandsRow : OpenClaim := { program := "ytnemnchldjohgaadoor", sum := "0f51c3bbe4117feadb7d6dc485a1d5095a26694e69b66f9a0b1d3b2e3423ac82", func := "bramble/bramblelaw9.KidBands", spec := "kidBands", named := ["bramble/kid.room", "bramble/kid.left"], apart := false, laid := [("bramble/kid.room", laid_bramble_kid_room), ("bramble/kid.left", laid_bramble_kid_left)] }
def KidBandsSaid : Prop := kidBandsRow.holds Tryd.pinned (OpenSpec.ofChange kidBandsSpec)

/-- ITS FALSE NEIGHBOUR: 'it returns false'. Refute it at one input. -/
def kidBandsWrong : ChangeSpec := { name := "kidBands", fn := fun _ => fun
  | [d1, d2, d3] => { results := [.lit (.bool false)], args := [d1, d2, d3] }
  | _ => none }
def KidBandsWrongFalsely : Prop := kidBandsRow.holds Tryd.pinned (OpenSpec.ofChange kidBandsWrong)

/-- 'bramblelaw9.KidOrders': WHATEVER THE INPUT: true; the input reads as it did. -/
def kidOrdersSpec : ChangeSpec := { name := "kidOrders", fn := fun _ => fun
  | [d1, d2, d3] => { results := [.lit (.bool true)], args := [d1, d2, d3] }
  | _ => none }
def kidOrdersRow : OpenClaim := { program := "ytnemnchldjohgaadoor", sum := "0f51c3bbe4117feadb7d6dc485a1d5095a26694e69b66f9a0b1d3b2e3423ac82", func := "bramble/bramblelaw9.KidOrders", spec := "kidOrders", named := ["bramble/kid.room", "bramble/kid.left"], apart := false, laid := [("bramble/kid.room", laid_bramble_kid_room), ("bramble/kid.left", laid_bramble_kid_left)] }
def KidOrdersSaid : Prop := kidOrdersRow.holds Tryd.pinned (OpenSpec.ofChange kidOrdersSpec)

/-- ITS FALSE NEIGHBOUR: 'it returns false'. Refute it at one input. -/
def kidOrdersWrong : ChangeSpec := { name := "kidOrders", fn := fun _ => fun
  | [d1, d2, d3] => { results := [.lit (.bool false)], args := [d1, d2, d3] }
  | _ => none }
def KidOrdersWrongFalsely : Prop := kidOrdersRow.holds Tryd.pinned (OpenSpec.ofChange kidOrdersWrong)

/-- 'bramblelaw9.KidSteps': WHATEVER THE INPUT: true; the input reads as it did. -/
def kidStepsSpec : ChangeSpec := { name := "kidSteps", fn := fun _ => fun
  | [d1, d2] => { results := [.lit (.bool true)], args := [d1, d2] }
  | _ => none }
def kidStepsRow : OpenClaim := { program := "ytnemnchldjohgaadoor", sum := "0f51c3bbe4117feadb7d6dc485a1d5095a26694e69b66f9a0b1d3b2e3423ac82", func := "bramble/bramblelaw9.KidSteps", spec := "kidSteps", named := ["bramble/kid.room", "bramble/kid.left"], apart := false, laid := [("bramble/kid.room", laid_bramble_kid_room), ("bramble/kid.left", laid_bramble_kid_left)] }
def KidStepsSaid : Prop := kidStepsRow.holds Tryd.pinned (OpenSpec.ofChange kidStepsSpec)

/-- ITS FALSE NEIGHBOUR: 'it returns false'. Refute it at one input. -/
def kidStepsWrong : ChangeSpec := { name := "kidSteps", fn := fun _ => fun
  | [d1, d2] => { results := [.lit (.bool false)], args := [d1, d2] }
  | _ => none }
def KidStepsWrongFalsely : Prop := kidStepsRow.holds Tryd.pinned (OpenSpec.ofChange kidStepsWrong)

/-- 'bramblelaw9.KidScript': WHATEVER THE INPUT: true; the input reads as it did. -/
def kidScriptSpec : ChangeSpec := { name := "kidScript", fn := fun _ => fun
  | [d1, d2, d3] => { results := [.lit (.bool true)], args := [d1, d2, d3] }
  | _ => none }
def kidScriptRow : OpenClaim := { program := "ytnemnchldjohgaadoor", sum := "0f51c3bbe4117feadb7d6dc485a1d5095a26694e69b66f9a0b1d3b2e3423ac82", func := "bramble/bramblelaw9.KidScript", spec := "kidScript", named := ["bramble/kid.room", "bramble/kid.left"], apart := false, laid := [("bramble/kid.room", laid_bramble_kid_room), ("bramble/kid.left", laid_bramble_kid_left)] }
def KidScriptSaid : Prop := kidScriptRow.holds Tryd.pinned (OpenSpec.ofChange kidScriptSpec)

/-- ITS FALSE NEIGHBOUR: 'it returns false'. Refute it at one input. -/
def kidScriptWrong : ChangeSpec := { name := "kidScript", fn := fun _ => fun
  | [d1, d2, d3] => { results := [.lit (.bool false)], args := [d1, d2, d3] }
  | _ => none }
def KidScriptWrongFalsely : Prop := kidScriptRow.holds Tryd.pinned (OpenSpec.ofChange kidScriptWrong)

/- THE SECOND FORM. 'bulk': how many values and letters a reading holds, each counted each time it is reached (what is shared counts as often as it is met; a slice's spare places count too). A statement '..UptoSaid' is the law's where the arguments, and the package variables that the reading takes, are together of bulk at most 1048576: NARROWER than '..Said'. Prove '..Said' where nothing that the law and all that it calls make is longer than what came in: it says more and counts as full. Else prove '..UptoSaid'. A law counts once. -/
mutual
def uptoBulk {H : Type} : DataW H → Nat
  | .lit (.string bytes) => bytes.length + 1
  | .lit _ => 1
  | .nil => 1
  | .ptr d => uptoBulk d + 1
  | .slice elems spare => uptoBulkAll elems + uptoBulkAll spare + 1
  | .agg parts => uptoBulkAll parts + 1
  | .iface _ d => uptoBulk d + 1
  | .map entries => uptoBulkEntries entries + 1
  | .held _ => 1
def uptoBulkAll {H : Type} : List (DataW H) → Nat
  | [] => 0
  | d :: r => uptoBulk d + uptoBulkAll r
def uptoBulkEntries {H : Type} : List (Lit × DataW H) → Nat
  | [] => 0
  | x :: r => uptoBulkEntry x + uptoBulkEntries r
def uptoBulkEntry {H : Type} : Lit × DataW H → Nat
  | (.string bytes, d) => bytes.length + uptoBulk d + 1
  | (_, d) => uptoBulk d + 1
 end
def uptoSmall : (H : Type) → List (DataW H) → Bool := fun _ ds => decide (uptoBulkAll ds ≤ 1048576)
def OpenSpec.upto (s : _root_.Go.ChangeSpec) : _root_.Go.OpenSpec := { _root_.Go.OpenSpec.ofChange s with cond := some uptoSmall }

/-- 'bramblelaw9.KidBands', WHERE WHAT IT READS IS OF BULK AT MOST 1048576: true; the input reads as it did. -/
def kidBandsUptoRow : OpenClaim := { program := "ytnemnchldjohgaadoor", sum := "0f51c3bbe4117feadb7d6dc485a1d5095a26694e69b66f9a0b1d3b2e3423ac82", func := "bramble/bramblelaw9.KidBands", spec := "kidBands", named := ["bramble/kid.room", "bramble/kid.left"], apart := false, laid := [("bramble/kid.room", laid_bramble_kid_room), ("bramble/kid.left", laid_bramble_kid_left)], narrowed := true }
def KidBandsUptoSaid : Prop := kidBandsUptoRow.holds Tryd.pinned (OpenSpec.upto kidBandsSpec)

/-- 'bramblelaw9.KidOrders', WHERE WHAT IT READS IS OF BULK AT MOST 1048576: true; the input reads as it did. -/
def kidOrdersUptoRow : OpenClaim := { program := "ytnemnchldjohgaadoor", sum := "0f51c3bbe4117feadb7d6dc485a1d5095a26694e69b66f9a0b1d3b2e3423ac82", func := "bramble/bramblelaw9.KidOrders", spec := "kidOrders", named := ["bramble/kid.room", "bramble/kid.left"], apart := false, laid := [("bramble/kid.room", laid_bramble_kid_room), ("bramble/kid.left", laid_bramble_kid_left)], narrowed := true }
def KidOrdersUptoSaid : Prop := kidOrdersUptoRow.holds Tryd.pinned (OpenSpec.upto kidOrdersSpec)

/-- 'bramblelaw9.KidSteps', WHERE WHAT IT READS IS OF BULK AT MOST 1048576: true; the input reads as it did. -/
def kidStepsUptoRow : OpenClaim := { program := "ytnemnchldjohgaadoor", sum := "0f51c3bbe4117feadb7d6dc485a1d5095a26694e69b66f9a0b1d3b2e3423ac82", func := "bramble/bramblelaw9.KidSteps", spec := "kidSteps", named := ["bramble/kid.room", "bramble/kid.left"], apart := false, laid := [("bramble/kid.room", laid_bramble_kid_room), ("bramble/kid.left", laid_bramble_kid_left)], narrowed := true }
def KidStepsUptoSaid : Prop := kidStepsUptoRow.holds Tryd.pinned (OpenSpec.upto kidStepsSpec)

/-- 'bramblelaw9.KidScript', WHERE WHAT IT READS IS OF BULK AT MOST 1048576: true; the input reads as it did. -/
def kidScriptUptoRow : OpenClaim := { program := "ytnemnchldjohgaadoor", sum := "0f51c3bbe4117feadb7d6dc485a1d5095a26694e69b66f9a0b1d3b2e3423ac82", func := "bramble/bramblelaw9.KidScript", spec := "kidScript", named := ["bramble/kid.room", "bramble/kid.left"], apart := false, laid := [("bramble/kid.room", laid_bramble_kid_room), ("bramble/kid.left", laid_bramble_kid_left)], narrowed := true }
def KidScriptUptoSaid : Prop := kidScriptUptoRow.holds Tryd.pinned (OpenSpec.upto kidScriptSpec)

end Rows
end Go.Proofs.YtnemnchldjohgaaDoor
