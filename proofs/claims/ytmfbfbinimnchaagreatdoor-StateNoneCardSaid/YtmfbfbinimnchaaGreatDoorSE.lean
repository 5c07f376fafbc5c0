/- The law StateNone: the row and its tied card. No condition. -/
import Derived.Test.YtmfbfbinimnchaaGreatDoorTie
import Derived.Test.YtmfbfbinimnchaaGreatDoorCards
import Derived.Test.YtmfbfbinimnchaaGreatDoorSD
import Derived.Test.YtmfbfbinimnchaaGreatDoorSF
import Derived.ProofKit
import Derived.OpenShut
import Derived.LaidMore
import Derived.Lay
import Derived.SevenTiedAt
import Derived.Stop.Joined
set_option linter.unusedVariables false
namespace Go.Proofs.YtmfbfbinimnchaaGreatDoor.stateNone
open Go.ChangeShapes Go.WideShapes Go.ChangeAt Go.RowKit

theorem own : ownKnob Tryz.prog.godebug = none := by kernel_rfl
set_option maxRecDepth 100000 in
theorem lifted (os : Os) (started : os.Started) (H : Type) (enc : TypeId × Value → H) :
    ReturnsInHanded {} Tryz.checked os 5 .any (fun w args => (Rows.stateNoneSpec.pre enc Tryz.prog Tryz.f5 Rows.stateNoneRow.domain false w args ∧ laidMetH Tryz.prog Rows.stateNoneRow.laid w) ∧ sizedMet enc Tryz.prog Tryz.f5 (OpenSpec.ofChange Rows.stateNoneSpec) false w args)
      (Rows.stateNoneSpec.post enc Tryz.prog Tryz.f5 false true false false) := by
  refine returnsInHanded_of_change_and (C := Tryz.checked) (X := fun w _ => laidMetH Tryz.prog Rows.stateNoneRow.laid w) (fun _ _ _ hh h => h.of_heap hh) own started (by kernel_rfl) Tryz.func5
    (ChangeSpec.witness_shaped (enc := enc) (C := Tryz.checked) (os := os) (X := fun w _ => laidMetH Tryz.prog Rows.stateNoneRow.laid w) false (World.laidAll Tryz.prog os Rows.stateNoneRow.laid) #[.int .i64 0, .int .u64 0] 8 (World.laidAll_os _ _ _)
      (World.shaped_of_ZipB (by kernel_rfl) (by kernel_rfl)) (by kernel_rfl) (by kernel_rfl) (by kernel_rfl)
      (by rw [MakeChecks.laidMetH_plain _ _ _ (by kernel_rfl)]; exact laidMet_laidAll _ (by kernel_rfl) (by kernel_rfl))) ?_
  intro W base args ds gs before hval0 hW hc _ hL _
  have hval : ∀ (j : Nat) t v, Tryz.f5.params[j]? = some t → args[j]? = some v → Value.okWide Tryz.prog W .any base t v := hval0
  have hW' := hW
  obtain ⟨p, q, hA0, hV, rfl, hfz, hnd⟩ := hW
  have hA : DataW.TrodAll enc Tryz.prog W 0 (fun _ => true) true Tryz.f5.params.toList args.toList ds p := hA0
  rw [Tryz.params5] at hA hval
  obtain ⟨v0, vs0, d0, ds0, p0, q0, hargs, rfl, rfl, h0, r0⟩ := trodAll_cons hA
  obtain ⟨v1, vs1, d1, ds1, p1, q1, rfl, rfl, rfl, h1, r1⟩ := trodAll_cons r0
  obtain ⟨rfl, rfl, rfl⟩ := trodAll_nil r1
  obtain rfl : args = #[v0, v1] := by cases args; simp_all
  obtain ⟨rfl, rfl⟩ := trodVars_none hV
  obtain ⟨a0, rfl, rfl, rfl, w0⟩ := open_int Tryz.underlying3 (hval 0 3 v0 rfl rfl) h0
  obtain ⟨a1, rfl, rfl, rfl, w1⟩ := open_int Tryz.underlying48 (hval 1 48 v1 rfl rfl) h1
  clear hA0 hval0
  simp only [List.append_nil] at hW'
  refine (stateNone_any W a0 a1).mono fun e W' ⟨he, hg⟩ => ?_
  subst he
  refine ⟨_, rfl, _, _, _, [], [], [], hW', ?_, ?_, ?_, hg.frame _, fun h => by cases h⟩
  · exact trodAll_cons_mk (shut_bool Tryz.underlying4 _) trodAll_mk0
  · exact trodAll_cons_mk (shut_int Tryz.underlying3 w0) (trodAll_cons_mk (shut_int Tryz.underlying48 w1) trodAll_mk0)
  · rfl

theorem fname : Tryz.prog.funcNamed "grommet/grommetlaw21.StateNone" = some 5 := by kernel_rfl
set_option maxHeartbeats 4000000 in
theorem wrap : Tryz.f5.isWrapper Tryz.prog Rows.stateNoneRow.wrapper Rows.stateNoneRow.mainSum := by
  unfold Func.isWrapper; rw [if_neg (of_decide_eq_false (by kernel_rfl))]; exact ⟨rfl, rfl⟩
theorem inst : Tryz.f5.isInstance Tryz.prog Rows.stateNoneRow.origin Rows.stateNoneRow.targs := of_decide_eq_true (by kernel_rfl)
theorem over : Rows.stateNoneRow.holds Tryz.pinned (OpenSpec.ofChange Rows.stateNoneSpec) :=
  OpenClaim.holds_of_wide 5 Tryz.f5 rfl rfl rfl rfl rfl rfl rfl ⟨rfl, rfl, rfl, rfl, rfl⟩ rfl rfl rfl rfl rfl fname Tryz.func5 sn_closed inst wrap
    (fun os started H enc _ => lifted os started H enc)

theorem wft : Rows.stateNoneRow.wfByText (OpenSpec.ofChange Rows.stateNoneSpec) = true := by kernel_rfl
theorem mainis : Tryz.pinned.checked.prog.mainIs = some (true, "b15d62549e3d592b639edf52e1ba00d0a126127df53f4395b5c0117a536ee5f4".toList) := by kernel_rfl
theorem looks : true = Tryz.pinned.checked.prog.looks [] := by kernel_rfl
theorem stand : ([3, 48].all fun u => !Tryz.prog.wantsStandIn u) = true := by kernel_rfl
theorem goes : false = Rows.stateNoneRow.goesBy Tryz.pinned.checked.prog := by kernel_rfl
/-- ████ THE TIED CARD ████ -/
theorem card : Rows.StateNoneCardSaid :=
  Claim7.holds_tied_plain_at .later [] [.data, .pinned] true (true, "b15d62549e3d592b639edf52e1ba00d0a126127df53f4395b5c0117a536ee5f4") true over (fun _ h => by cases h) wft (fun _ h => by cases h) stateNone_row_tie rfl ⟨rfl, rfl⟩ mainis rfl
    (fun f fn hf hfn => by
      obtain rfl : f = 5 := (Option.some.inj (fname.symm.trans hf)).symm
      obtain rfl : fn = Tryz.f5 := (Option.some.inj (Tryz.func5.symm.trans hfn)).symm
      exact ⟨looks, fun j t ht => by
        rw [Tryz.params5] at ht
        have hm : t ∈ [3, 48] := by simpa using Array.mem_of_getElem? ht
        exact (show Tryz.prog.wantsStandIn t = false by simpa using List.all_eq_true.1 stand t hm)⟩)
    goes
#print axioms card
end Go.Proofs.YtmfbfbinimnchaaGreatDoor.stateNone
