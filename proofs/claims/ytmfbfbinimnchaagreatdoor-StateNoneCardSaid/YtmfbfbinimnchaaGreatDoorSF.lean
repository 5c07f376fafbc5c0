/- The law StateNone: the row's closed facts. No condition. -/
import Derived.Test.YtmfbfbinimnchaaGreatDoorTie
import Derived.Test.YtmfbfbinimnchaaGreatDoorCards
import Derived.ProofKit
import Derived.Stop.Joined
set_option linter.unusedVariables false
namespace Go.Proofs.YtmfbfbinimnchaaGreatDoor
open Go.ChangeShapes Go.WideShapes Go.ChangeAt Go.RowKit

theorem and_mk {a b : Bool} (ha : a = true) (hb : b = true) : (a && b) = true := by rw [ha, hb]; rfl
theorem sn_inPlace : (Rows.stateNoneRow.inPlace == Tryz.prog.inPlace 5) = true := by kernel_rfl
theorem sn_unf : (Rows.stateNoneRow.unfollowed == Tryz.prog.unfollowed 5) = true := by kernel_rfl
theorem sn_rec : (Rows.stateNoneRow.recurses == Tryz.prog.recurses 5) = true := by kernel_rfl
theorem sn_named : (Rows.stateNoneRow.named == Tryz.prog.varsNamed 5) = true := by kernel_rfl
theorem sn_laid : laidOutB Tryz.prog = true := by kernel_rfl
theorem sn_maps : mapsRowed Tryz.prog = true := by kernel_rfl
theorem sn_closed : joinedFacts Tryz.prog 5 Tryz.f5 Rows.stateNoneSpec Rows.stateNoneRow = true := by
  unfold joinedFacts
  repeat' (with_reducible refine and_mk ?_ ?_)
  all_goals first | with_reducible exact sn_inPlace | with_reducible exact sn_unf | with_reducible exact sn_rec | with_reducible exact sn_named | with_reducible exact sn_laid | with_reducible exact sn_maps | (as_aux_lemma => kernel_rfl)
#print axioms sn_closed
end Go.Proofs.YtmfbfbinimnchaaGreatDoor
