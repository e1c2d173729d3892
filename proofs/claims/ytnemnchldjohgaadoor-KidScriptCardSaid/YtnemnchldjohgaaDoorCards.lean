/-
  DERIVED. GIVEN WITH THE SEED: THE CARDS: each row of YtnemnchldjohgaaDoorRows.lean that lists a variable, with what it lists TIED to the program's text (the seventh form; the later family's looks); each row that meets fmt, with fmt's text TOLD by the authors' own Lean function (tested against real Go, not proved from fmt's source: count such statements apart). THE CARD IS WHAT COUNTS. Prove the row's statement (the work); the ties are given (YtnemnchldjohgaaDoorTie.lean); close each card by the builder's one call (the guide's Derived/Test/ToyasCard.lean, 'card_holds'). Laid BY PROGRAM, IN A SANDBOX (cutbox-door.mjs). By AI agents, Wed Nov 11 2026. No macro, syntax, notation, axiom, sorry.
-/
import Derived.Test.YtnemnchldjohgaaDoorRows
import GoSem.ClaimSeven
namespace Go.Proofs.YtnemnchldjohgaaDoor
namespace Rows

/-- THE TIED CARD OF 'bramblelaw9.KidBands'. -/
def kidBandsCard : Claim7 := { stood := { row := kidBandsRow, standIns := [], harness := (true, "87a464e409c581a973f1c0aad2f21b76b9b581620a480f47bcfcd5e8305205f3"), looks := false }, kinds := [], alts := [], laidByText := true, laidKinds := [.data, .data], laidTests := true, laidLooks := .later }
def KidBandsCardSaid : Prop := Claim7.holds Tryd.pinned (.plain (OpenSpec.ofChange kidBandsSpec)) kidBandsCard

/-- THE TIED CARD OF 'bramblelaw9.KidOrders'. -/
def kidOrdersCard : Claim7 := { stood := { row := kidOrdersRow, standIns := [], harness := (true, "87a464e409c581a973f1c0aad2f21b76b9b581620a480f47bcfcd5e8305205f3"), looks := false }, kinds := [], alts := [], laidByText := true, laidKinds := [.data, .data], laidTests := true, laidLooks := .later }
def KidOrdersCardSaid : Prop := Claim7.holds Tryd.pinned (.plain (OpenSpec.ofChange kidOrdersSpec)) kidOrdersCard

/-- THE TIED CARD OF 'bramblelaw9.KidSteps'. -/
def kidStepsCard : Claim7 := { stood := { row := kidStepsRow, standIns := [], harness := (true, "87a464e409c581a973f1c0aad2f21b76b9b581620a480f47bcfcd5e8305205f3"), looks := false }, kinds := [], alts := [], laidByText := true, laidKinds := [.data, .data], laidTests := true, laidLooks := .later }
def KidStepsCardSaid : Prop := Claim7.holds Tryd.pinned (.plain (OpenSpec.ofChange kidStepsSpec)) kidStepsCard

/-- THE TIED CARD OF 'bramblelaw9.KidScript'. -/
def kidScriptCard : Claim7 := { stood := { row := kidScriptRow, standIns := [], harness := (true, "87a464e409c581a973f1c0aad2f21b76b9b581620a480f47bcfcd5e8305205f3"), looks := false }, kinds := [], alts := [], laidByText := true, laidKinds := [.data, .data], laidTests := true, laidLooks := .later }
def KidScriptCardSaid : Prop := Claim7.holds Tryd.pinned (.plain (OpenSpec.ofChange kidScriptSpec)) kidScriptCard

/-- THE SECOND FORM's CARD OF 'bramblelaw9.KidBands'. -/
def kidBandsUptoCard : Claim7 := { stood := { row := kidBandsUptoRow, standIns := [], harness := (true, "87a464e409c581a973f1c0aad2f21b76b9b581620a480f47bcfcd5e8305205f3"), looks := false }, kinds := [], alts := [], laidByText := true, laidKinds := [.data, .data], laidTests := true, laidLooks := .later }
def KidBandsUptoCardSaid : Prop := Claim7.holds Tryd.pinned (.plain (OpenSpec.upto kidBandsSpec)) kidBandsUptoCard

/-- THE SECOND FORM's CARD OF 'bramblelaw9.KidOrders'. -/
def kidOrdersUptoCard : Claim7 := { stood := { row := kidOrdersUptoRow, standIns := [], harness := (true, "87a464e409c581a973f1c0aad2f21b76b9b581620a480f47bcfcd5e8305205f3"), looks := false }, kinds := [], alts := [], laidByText := true, laidKinds := [.data, .data], laidTests := true, laidLooks := .later }
def KidOrdersUptoCardSaid : Prop := Claim7.holds Tryd.pinned (.plain (OpenSpec.upto kidOrdersSpec)) kidOrdersUptoCard

/-- THE SECOND FORM's CARD OF 'bramblelaw9.KidSteps'. -/
def kidStepsUptoCard : Claim7 := { stood := { row := kidStepsUptoRow, standIns := [], harness := (true, "87a464e409c581a973f1c0aad2f21b76b9b581620a480f47bcfcd5e8305205f3"), looks := false }, kinds := [], alts := [], laidByText := true, laidKinds := [.data, .data], laidTests := true, laidLooks := .later }
def KidStepsUptoCardSaid : Prop := Claim7.holds Tryd.pinned (.plain (OpenSpec.upto kidStepsSpec)) kidStepsUptoCard

/-- THE SECOND FORM's CARD OF 'bramblelaw9.KidScript'. -/
def kidScriptUptoCard : Claim7 := { stood := { row := kidScriptUptoRow, standIns := [], harness := (true, "87a464e409c581a973f1c0aad2f21b76b9b581620a480f47bcfcd5e8305205f3"), looks := false }, kinds := [], alts := [], laidByText := true, laidKinds := [.data, .data], laidTests := true, laidLooks := .later }
def KidScriptUptoCardSaid : Prop := Claim7.holds Tryd.pinned (.plain (OpenSpec.upto kidScriptSpec)) kidScriptUptoCard
end Rows
end Go.Proofs.YtnemnchldjohgaaDoor
