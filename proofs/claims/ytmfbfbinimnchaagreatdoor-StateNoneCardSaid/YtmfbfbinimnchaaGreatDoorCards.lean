/-
  DERIVED. GIVEN WITH THE SEED: THE CARDS: each row of YtmfbfbinimnchaaGreatDoorRows.lean that lists a variable, with what it lists TIED to the program's text (the seventh form; the later family's looks); each row that meets fmt, with fmt's text TOLD by the authors' own Lean function (tested against real Go, not proved from fmt's source: count such statements apart). THE CARD IS WHAT COUNTS. Prove the row's statement (the work); the ties are given (YtmfbfbinimnchaaGreatDoorTie.lean); close each card by the builder's one call (the guide's Derived/Test/ToyasCard.lean, 'card_holds'). Laid BY PROGRAM, IN A SANDBOX (cutbox-door.mjs). By AI agents, Wed Nov 11 2026. No macro, syntax, notation, axiom, sorry.
-/
import Derived.Test.YtmfbfbinimnchaaGreatDoorRows
import GoSem.ClaimSeven
namespace Go.Proofs.YtmfbfbinimnchaaGreatDoor
namespace Rows

/-- THE TIED CARD OF 'grommetlaw29.LintFinds'. -/
def lintFindsCard : Claim7 := { stood := { row := lintFindsRow, standIns := [], harness := (true, "b15d62549e3d592b639edf52e1ba00d0a126127df53f4395b5c0117a536ee5f4"), looks := true }, kinds := [], alts := [], laidByText := true, laidKinds := [.data, .data, .data], laidTests := true, laidLooks := .later }
def LintFindsCardSaid : Prop := Claim7.holds Tryz.pinned (.plain (OpenSpec.ofChange lintFindsSpec)) lintFindsCard

/-- THE TIED CARD OF 'grommetlaw26.BudgetModules'. -/
def budgetModulesCard : Claim7 := { stood := { row := budgetModulesRow, standIns := [], harness := (true, "b15d62549e3d592b639edf52e1ba00d0a126127df53f4395b5c0117a536ee5f4"), looks := true }, kinds := [], alts := [], laidByText := true, laidKinds := [.data, .data, .data, .data, .sentinel, .sentinel, .pinned], laidTests := true, laidLooks := .later }
def BudgetModulesCardSaid : Prop := Claim7.holds Tryz.pinned (.plain (OpenSpec.ofChange budgetModulesSpec)) budgetModulesCard

/-- THE TIED CARD OF 'grommetlaw21.StateNone'. -/
def stateNoneCard : Claim7 := { stood := { row := stateNoneRow, standIns := [], harness := (true, "b15d62549e3d592b639edf52e1ba00d0a126127df53f4395b5c0117a536ee5f4"), looks := true }, kinds := [], alts := [], laidByText := true, laidKinds := [.data, .pinned], laidTests := true, laidLooks := .later }
def StateNoneCardSaid : Prop := Claim7.holds Tryz.pinned (.plain (OpenSpec.ofChange stateNoneSpec)) stateNoneCard

/-- THE SECOND FORM's CARD OF 'grommetlaw29.LintFinds'. -/
def lintFindsUptoCard : Claim7 := { stood := { row := lintFindsUptoRow, standIns := [], harness := (true, "b15d62549e3d592b639edf52e1ba00d0a126127df53f4395b5c0117a536ee5f4"), looks := true }, kinds := [], alts := [], laidByText := true, laidKinds := [.data, .data, .data], laidTests := true, laidLooks := .later }
def LintFindsUptoCardSaid : Prop := Claim7.holds Tryz.pinned (.plain (OpenSpec.upto lintFindsSpec)) lintFindsUptoCard

/-- THE SECOND FORM's CARD OF 'grommetlaw26.BudgetModules'. -/
def budgetModulesUptoCard : Claim7 := { stood := { row := budgetModulesUptoRow, standIns := [], harness := (true, "b15d62549e3d592b639edf52e1ba00d0a126127df53f4395b5c0117a536ee5f4"), looks := true }, kinds := [], alts := [], laidByText := true, laidKinds := [.data, .data, .data, .data, .sentinel, .sentinel, .pinned], laidTests := true, laidLooks := .later }
def BudgetModulesUptoCardSaid : Prop := Claim7.holds Tryz.pinned (.plain (OpenSpec.upto budgetModulesSpec)) budgetModulesUptoCard

/-- THE SECOND FORM's CARD OF 'grommetlaw21.StateNone'. -/
def stateNoneUptoCard : Claim7 := { stood := { row := stateNoneUptoRow, standIns := [], harness := (true, "b15d62549e3d592b639edf52e1ba00d0a126127df53f4395b5c0117a536ee5f4"), looks := true }, kinds := [], alts := [], laidByText := true, laidKinds := [.data, .pinned], laidTests := true, laidLooks := .later }
def StateNoneUptoCardSaid : Prop := Claim7.holds Tryz.pinned (.plain (OpenSpec.upto stateNoneSpec)) stateNoneUptoCard
end Rows
end Go.Proofs.YtmfbfbinimnchaaGreatDoor
