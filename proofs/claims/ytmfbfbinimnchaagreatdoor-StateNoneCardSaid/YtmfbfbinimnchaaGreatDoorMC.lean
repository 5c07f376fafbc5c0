/- Walks: (*module.Module).Fit. No condition. -/
import Derived.Test.YtmfbfbinimnchaaGreatDoorMB
set_option linter.unusedVariables false
set_option linter.unusedSimpArgs false
namespace Go.Proofs.YtmfbfbinimnchaaGreatDoor
open Go.RowKit Go.Sort

theorem fit_ix0 (b : Nat) (w : World) : (Instr.index 321 (.agg #[.string ⟨#[115, 105, 103, 115]⟩, .func (.func 174) #[.pointer (some ⟨b, 0, none⟩)] #[], .string ⟨#[105, 109, 112, 111, 114, 116, 115]⟩, .func (.func 175) #[.pointer (some ⟨b, 0, none⟩)] #[], .string ⟨#[102, 117, 110, 99, 115]⟩, .func (.func 176) #[.pointer (some ⟨b, 0, none⟩)] #[], .string ⟨#[116, 97, 98, 108, 101]⟩, .func (.func 177) #[.pointer (some ⟨b, 0, none⟩)] #[], .string ⟨#[109, 101, 109, 115]⟩, .func (.func 178) #[.pointer (some ⟨b, 0, none⟩)] #[], .string ⟨#[103, 108, 111, 98, 97, 108, 115]⟩, .func (.func 179) #[.pointer (some ⟨b, 0, none⟩)] #[], .string ⟨#[101, 120, 112, 111, 114, 116, 115]⟩, .func (.func 180) #[.pointer (some ⟨b, 0, none⟩)] #[], .string ⟨#[115, 116, 97, 114, 116]⟩, .func (.func 181) #[.pointer (some ⟨b, 0, none⟩)] #[], .string ⟨#[101, 108, 101, 109, 115]⟩, .func (.func 182) #[.pointer (some ⟨b, 0, none⟩)] #[], .string ⟨#[100, 97, 116, 97]⟩, .func (.func 183) #[.pointer (some ⟨b, 0, none⟩)] #[]]) (.int .i64 0)).run Tryz.prog w = .ok (.agg #[.string ⟨#[115, 105, 103, 115]⟩, .func (.func 174) #[.pointer (some ⟨b, 0, none⟩)] #[]]) w := by kernel_rfl
theorem fit_ix1 (b : Nat) (w : World) : (Instr.index 321 (.agg #[.string ⟨#[115, 105, 103, 115]⟩, .func (.func 174) #[.pointer (some ⟨b, 0, none⟩)] #[], .string ⟨#[105, 109, 112, 111, 114, 116, 115]⟩, .func (.func 175) #[.pointer (some ⟨b, 0, none⟩)] #[], .string ⟨#[102, 117, 110, 99, 115]⟩, .func (.func 176) #[.pointer (some ⟨b, 0, none⟩)] #[], .string ⟨#[116, 97, 98, 108, 101]⟩, .func (.func 177) #[.pointer (some ⟨b, 0, none⟩)] #[], .string ⟨#[109, 101, 109, 115]⟩, .func (.func 178) #[.pointer (some ⟨b, 0, none⟩)] #[], .string ⟨#[103, 108, 111, 98, 97, 108, 115]⟩, .func (.func 179) #[.pointer (some ⟨b, 0, none⟩)] #[], .string ⟨#[101, 120, 112, 111, 114, 116, 115]⟩, .func (.func 180) #[.pointer (some ⟨b, 0, none⟩)] #[], .string ⟨#[115, 116, 97, 114, 116]⟩, .func (.func 181) #[.pointer (some ⟨b, 0, none⟩)] #[], .string ⟨#[101, 108, 101, 109, 115]⟩, .func (.func 182) #[.pointer (some ⟨b, 0, none⟩)] #[], .string ⟨#[100, 97, 116, 97]⟩, .func (.func 183) #[.pointer (some ⟨b, 0, none⟩)] #[]]) (.int .i64 1)).run Tryz.prog w = .ok (.agg #[.string ⟨#[105, 109, 112, 111, 114, 116, 115]⟩, .func (.func 175) #[.pointer (some ⟨b, 0, none⟩)] #[]]) w := by kernel_rfl
theorem fit_ix2 (b : Nat) (w : World) : (Instr.index 321 (.agg #[.string ⟨#[115, 105, 103, 115]⟩, .func (.func 174) #[.pointer (some ⟨b, 0, none⟩)] #[], .string ⟨#[105, 109, 112, 111, 114, 116, 115]⟩, .func (.func 175) #[.pointer (some ⟨b, 0, none⟩)] #[], .string ⟨#[102, 117, 110, 99, 115]⟩, .func (.func 176) #[.pointer (some ⟨b, 0, none⟩)] #[], .string ⟨#[116, 97, 98, 108, 101]⟩, .func (.func 177) #[.pointer (some ⟨b, 0, none⟩)] #[], .string ⟨#[109, 101, 109, 115]⟩, .func (.func 178) #[.pointer (some ⟨b, 0, none⟩)] #[], .string ⟨#[103, 108, 111, 98, 97, 108, 115]⟩, .func (.func 179) #[.pointer (some ⟨b, 0, none⟩)] #[], .string ⟨#[101, 120, 112, 111, 114, 116, 115]⟩, .func (.func 180) #[.pointer (some ⟨b, 0, none⟩)] #[], .string ⟨#[115, 116, 97, 114, 116]⟩, .func (.func 181) #[.pointer (some ⟨b, 0, none⟩)] #[], .string ⟨#[101, 108, 101, 109, 115]⟩, .func (.func 182) #[.pointer (some ⟨b, 0, none⟩)] #[], .string ⟨#[100, 97, 116, 97]⟩, .func (.func 183) #[.pointer (some ⟨b, 0, none⟩)] #[]]) (.int .i64 2)).run Tryz.prog w = .ok (.agg #[.string ⟨#[102, 117, 110, 99, 115]⟩, .func (.func 176) #[.pointer (some ⟨b, 0, none⟩)] #[]]) w := by kernel_rfl
theorem fit_ix3 (b : Nat) (w : World) : (Instr.index 321 (.agg #[.string ⟨#[115, 105, 103, 115]⟩, .func (.func 174) #[.pointer (some ⟨b, 0, none⟩)] #[], .string ⟨#[105, 109, 112, 111, 114, 116, 115]⟩, .func (.func 175) #[.pointer (some ⟨b, 0, none⟩)] #[], .string ⟨#[102, 117, 110, 99, 115]⟩, .func (.func 176) #[.pointer (some ⟨b, 0, none⟩)] #[], .string ⟨#[116, 97, 98, 108, 101]⟩, .func (.func 177) #[.pointer (some ⟨b, 0, none⟩)] #[], .string ⟨#[109, 101, 109, 115]⟩, .func (.func 178) #[.pointer (some ⟨b, 0, none⟩)] #[], .string ⟨#[103, 108, 111, 98, 97, 108, 115]⟩, .func (.func 179) #[.pointer (some ⟨b, 0, none⟩)] #[], .string ⟨#[101, 120, 112, 111, 114, 116, 115]⟩, .func (.func 180) #[.pointer (some ⟨b, 0, none⟩)] #[], .string ⟨#[115, 116, 97, 114, 116]⟩, .func (.func 181) #[.pointer (some ⟨b, 0, none⟩)] #[], .string ⟨#[101, 108, 101, 109, 115]⟩, .func (.func 182) #[.pointer (some ⟨b, 0, none⟩)] #[], .string ⟨#[100, 97, 116, 97]⟩, .func (.func 183) #[.pointer (some ⟨b, 0, none⟩)] #[]]) (.int .i64 3)).run Tryz.prog w = .ok (.agg #[.string ⟨#[116, 97, 98, 108, 101]⟩, .func (.func 177) #[.pointer (some ⟨b, 0, none⟩)] #[]]) w := by kernel_rfl
theorem fit_ix4 (b : Nat) (w : World) : (Instr.index 321 (.agg #[.string ⟨#[115, 105, 103, 115]⟩, .func (.func 174) #[.pointer (some ⟨b, 0, none⟩)] #[], .string ⟨#[105, 109, 112, 111, 114, 116, 115]⟩, .func (.func 175) #[.pointer (some ⟨b, 0, none⟩)] #[], .string ⟨#[102, 117, 110, 99, 115]⟩, .func (.func 176) #[.pointer (some ⟨b, 0, none⟩)] #[], .string ⟨#[116, 97, 98, 108, 101]⟩, .func (.func 177) #[.pointer (some ⟨b, 0, none⟩)] #[], .string ⟨#[109, 101, 109, 115]⟩, .func (.func 178) #[.pointer (some ⟨b, 0, none⟩)] #[], .string ⟨#[103, 108, 111, 98, 97, 108, 115]⟩, .func (.func 179) #[.pointer (some ⟨b, 0, none⟩)] #[], .string ⟨#[101, 120, 112, 111, 114, 116, 115]⟩, .func (.func 180) #[.pointer (some ⟨b, 0, none⟩)] #[], .string ⟨#[115, 116, 97, 114, 116]⟩, .func (.func 181) #[.pointer (some ⟨b, 0, none⟩)] #[], .string ⟨#[101, 108, 101, 109, 115]⟩, .func (.func 182) #[.pointer (some ⟨b, 0, none⟩)] #[], .string ⟨#[100, 97, 116, 97]⟩, .func (.func 183) #[.pointer (some ⟨b, 0, none⟩)] #[]]) (.int .i64 4)).run Tryz.prog w = .ok (.agg #[.string ⟨#[109, 101, 109, 115]⟩, .func (.func 178) #[.pointer (some ⟨b, 0, none⟩)] #[]]) w := by kernel_rfl
theorem fit_ix5 (b : Nat) (w : World) : (Instr.index 321 (.agg #[.string ⟨#[115, 105, 103, 115]⟩, .func (.func 174) #[.pointer (some ⟨b, 0, none⟩)] #[], .string ⟨#[105, 109, 112, 111, 114, 116, 115]⟩, .func (.func 175) #[.pointer (some ⟨b, 0, none⟩)] #[], .string ⟨#[102, 117, 110, 99, 115]⟩, .func (.func 176) #[.pointer (some ⟨b, 0, none⟩)] #[], .string ⟨#[116, 97, 98, 108, 101]⟩, .func (.func 177) #[.pointer (some ⟨b, 0, none⟩)] #[], .string ⟨#[109, 101, 109, 115]⟩, .func (.func 178) #[.pointer (some ⟨b, 0, none⟩)] #[], .string ⟨#[103, 108, 111, 98, 97, 108, 115]⟩, .func (.func 179) #[.pointer (some ⟨b, 0, none⟩)] #[], .string ⟨#[101, 120, 112, 111, 114, 116, 115]⟩, .func (.func 180) #[.pointer (some ⟨b, 0, none⟩)] #[], .string ⟨#[115, 116, 97, 114, 116]⟩, .func (.func 181) #[.pointer (some ⟨b, 0, none⟩)] #[], .string ⟨#[101, 108, 101, 109, 115]⟩, .func (.func 182) #[.pointer (some ⟨b, 0, none⟩)] #[], .string ⟨#[100, 97, 116, 97]⟩, .func (.func 183) #[.pointer (some ⟨b, 0, none⟩)] #[]]) (.int .i64 5)).run Tryz.prog w = .ok (.agg #[.string ⟨#[103, 108, 111, 98, 97, 108, 115]⟩, .func (.func 179) #[.pointer (some ⟨b, 0, none⟩)] #[]]) w := by kernel_rfl
theorem fit_ix6 (b : Nat) (w : World) : (Instr.index 321 (.agg #[.string ⟨#[115, 105, 103, 115]⟩, .func (.func 174) #[.pointer (some ⟨b, 0, none⟩)] #[], .string ⟨#[105, 109, 112, 111, 114, 116, 115]⟩, .func (.func 175) #[.pointer (some ⟨b, 0, none⟩)] #[], .string ⟨#[102, 117, 110, 99, 115]⟩, .func (.func 176) #[.pointer (some ⟨b, 0, none⟩)] #[], .string ⟨#[116, 97, 98, 108, 101]⟩, .func (.func 177) #[.pointer (some ⟨b, 0, none⟩)] #[], .string ⟨#[109, 101, 109, 115]⟩, .func (.func 178) #[.pointer (some ⟨b, 0, none⟩)] #[], .string ⟨#[103, 108, 111, 98, 97, 108, 115]⟩, .func (.func 179) #[.pointer (some ⟨b, 0, none⟩)] #[], .string ⟨#[101, 120, 112, 111, 114, 116, 115]⟩, .func (.func 180) #[.pointer (some ⟨b, 0, none⟩)] #[], .string ⟨#[115, 116, 97, 114, 116]⟩, .func (.func 181) #[.pointer (some ⟨b, 0, none⟩)] #[], .string ⟨#[101, 108, 101, 109, 115]⟩, .func (.func 182) #[.pointer (some ⟨b, 0, none⟩)] #[], .string ⟨#[100, 97, 116, 97]⟩, .func (.func 183) #[.pointer (some ⟨b, 0, none⟩)] #[]]) (.int .i64 6)).run Tryz.prog w = .ok (.agg #[.string ⟨#[101, 120, 112, 111, 114, 116, 115]⟩, .func (.func 180) #[.pointer (some ⟨b, 0, none⟩)] #[]]) w := by kernel_rfl
theorem fit_ix7 (b : Nat) (w : World) : (Instr.index 321 (.agg #[.string ⟨#[115, 105, 103, 115]⟩, .func (.func 174) #[.pointer (some ⟨b, 0, none⟩)] #[], .string ⟨#[105, 109, 112, 111, 114, 116, 115]⟩, .func (.func 175) #[.pointer (some ⟨b, 0, none⟩)] #[], .string ⟨#[102, 117, 110, 99, 115]⟩, .func (.func 176) #[.pointer (some ⟨b, 0, none⟩)] #[], .string ⟨#[116, 97, 98, 108, 101]⟩, .func (.func 177) #[.pointer (some ⟨b, 0, none⟩)] #[], .string ⟨#[109, 101, 109, 115]⟩, .func (.func 178) #[.pointer (some ⟨b, 0, none⟩)] #[], .string ⟨#[103, 108, 111, 98, 97, 108, 115]⟩, .func (.func 179) #[.pointer (some ⟨b, 0, none⟩)] #[], .string ⟨#[101, 120, 112, 111, 114, 116, 115]⟩, .func (.func 180) #[.pointer (some ⟨b, 0, none⟩)] #[], .string ⟨#[115, 116, 97, 114, 116]⟩, .func (.func 181) #[.pointer (some ⟨b, 0, none⟩)] #[], .string ⟨#[101, 108, 101, 109, 115]⟩, .func (.func 182) #[.pointer (some ⟨b, 0, none⟩)] #[], .string ⟨#[100, 97, 116, 97]⟩, .func (.func 183) #[.pointer (some ⟨b, 0, none⟩)] #[]]) (.int .i64 7)).run Tryz.prog w = .ok (.agg #[.string ⟨#[115, 116, 97, 114, 116]⟩, .func (.func 181) #[.pointer (some ⟨b, 0, none⟩)] #[]]) w := by kernel_rfl
theorem fit_ix8 (b : Nat) (w : World) : (Instr.index 321 (.agg #[.string ⟨#[115, 105, 103, 115]⟩, .func (.func 174) #[.pointer (some ⟨b, 0, none⟩)] #[], .string ⟨#[105, 109, 112, 111, 114, 116, 115]⟩, .func (.func 175) #[.pointer (some ⟨b, 0, none⟩)] #[], .string ⟨#[102, 117, 110, 99, 115]⟩, .func (.func 176) #[.pointer (some ⟨b, 0, none⟩)] #[], .string ⟨#[116, 97, 98, 108, 101]⟩, .func (.func 177) #[.pointer (some ⟨b, 0, none⟩)] #[], .string ⟨#[109, 101, 109, 115]⟩, .func (.func 178) #[.pointer (some ⟨b, 0, none⟩)] #[], .string ⟨#[103, 108, 111, 98, 97, 108, 115]⟩, .func (.func 179) #[.pointer (some ⟨b, 0, none⟩)] #[], .string ⟨#[101, 120, 112, 111, 114, 116, 115]⟩, .func (.func 180) #[.pointer (some ⟨b, 0, none⟩)] #[], .string ⟨#[115, 116, 97, 114, 116]⟩, .func (.func 181) #[.pointer (some ⟨b, 0, none⟩)] #[], .string ⟨#[101, 108, 101, 109, 115]⟩, .func (.func 182) #[.pointer (some ⟨b, 0, none⟩)] #[], .string ⟨#[100, 97, 116, 97]⟩, .func (.func 183) #[.pointer (some ⟨b, 0, none⟩)] #[]]) (.int .i64 8)).run Tryz.prog w = .ok (.agg #[.string ⟨#[101, 108, 101, 109, 115]⟩, .func (.func 182) #[.pointer (some ⟨b, 0, none⟩)] #[]]) w := by kernel_rfl
theorem fit_ix9 (b : Nat) (w : World) : (Instr.index 321 (.agg #[.string ⟨#[115, 105, 103, 115]⟩, .func (.func 174) #[.pointer (some ⟨b, 0, none⟩)] #[], .string ⟨#[105, 109, 112, 111, 114, 116, 115]⟩, .func (.func 175) #[.pointer (some ⟨b, 0, none⟩)] #[], .string ⟨#[102, 117, 110, 99, 115]⟩, .func (.func 176) #[.pointer (some ⟨b, 0, none⟩)] #[], .string ⟨#[116, 97, 98, 108, 101]⟩, .func (.func 177) #[.pointer (some ⟨b, 0, none⟩)] #[], .string ⟨#[109, 101, 109, 115]⟩, .func (.func 178) #[.pointer (some ⟨b, 0, none⟩)] #[], .string ⟨#[103, 108, 111, 98, 97, 108, 115]⟩, .func (.func 179) #[.pointer (some ⟨b, 0, none⟩)] #[], .string ⟨#[101, 120, 112, 111, 114, 116, 115]⟩, .func (.func 180) #[.pointer (some ⟨b, 0, none⟩)] #[], .string ⟨#[115, 116, 97, 114, 116]⟩, .func (.func 181) #[.pointer (some ⟨b, 0, none⟩)] #[], .string ⟨#[101, 108, 101, 109, 115]⟩, .func (.func 182) #[.pointer (some ⟨b, 0, none⟩)] #[], .string ⟨#[100, 97, 116, 97]⟩, .func (.func 183) #[.pointer (some ⟨b, 0, none⟩)] #[]]) (.int .i64 9)).run Tryz.prog w = .ok (.agg #[.string ⟨#[100, 97, 116, 97]⟩, .func (.func 183) #[.pointer (some ⟨b, 0, none⟩)] #[]]) w := by kernel_rfl
def FitPost (n : Int) (w : World) (e : Ending) (w' : World) : Prop := (∃ s : ByteArray, e = .returned (.tuple #[.string s, .int .i64 n])) ∧ Below w.heap.size w w'
theorem nz_zero (x : Int) (l : List Int) (h : x = 0) : nz (x :: l) = nz l := by simp [nz, h]
theorem nz_one (x : Int) (l : List Int) (h : ¬ x = 0) : nz (x :: l) = x := by simp [nz, h]
theorem tableE_zero (M : Mod) (h : tableE M = 0) : M.table ≤ 1000 ∧ -1 ≤ M.table := by
  unfold tableE whenE at h
  split at h
  · cases h
  · split at h <;> simp_all <;> omega
set_option maxRecDepth 100000 in
set_option maxHeartbeats 4000000 in
theorem fit_any (I : Nat → Prop) (b : Nat) (v0 v1 v2 v4 v5 v6 v8 v9 : Value) (M : Mod) (w : World) (hM : RMod I w b v0 v1 v2 v4 v5 v6 v8 v9 M) :
    Calls Tryz.prog 139 #[.pointer (some ⟨b, 0, none⟩)] w (FitPost (fitE M) w) := by
  have HM := Lib.hid (fun (w' : World) (h : Below w.heap.size w w') => hM.bl h)
  clear hM
  go_enter Tryz.func139, Tryz.ntmps139
  go_wp2
  go_loopw [40] (fun i wr => ∃ k : Nat, k ≤ 10 ∧ i = .int .i64 k ∧ Below w.heap.size w wr ∧ Hid (fitE M = nz ((partsE M).drop k)) ∧ Hid (4 ≤ k → tableE M = 0)) (fun i _ => 10 - (intOf i).toNat)
  case atStart => exact ⟨0, by omega, rfl, Below.refl _ _, Lib.hid rfl, Lib.hid (fun h => absurd h (by omega))⟩
  case round =>
    obtain ⟨k, hk, rfl, hb, hi, ht⟩ := hrel
    by_cases h10 : k = 10
    · subst h10
      have hz := Lib.hid (hi.out.trans (show _ = 0 from rfl))
      clear hi ht
      go_wp2
      go_ret2
      exact ⟨⟨_, by rw [hz.out]; rfl⟩, hb⟩
    · have hk9 : k = 0 ∨ k = 1 ∨ k = 2 ∨ k = 3 ∨ k = 4 ∨ k = 5 ∨ k = 6 ∨ k = 7 ∨ k = 8 ∨ k = 9 := by omega
      clear h10 hk
      rcases hk9 with rfl | rfl | rfl | rfl | rfl | rfl | rfl | rfl | rfl | rfl
      · have ix := fit_ix0 b
        have hb0 := Bl.alloc hb (.cells #[.string ⟨#[115, 105, 103, 115]⟩, .func (.func 174) #[.pointer (some ⟨b, 0, none⟩)] #[]] 320)
        have hc := Lib.hid (sigs_any I b v0 v1 v2 v4 v5 v6 v8 v9 M _ (HM.out _ hb0))
        by_cases hz : sigsE M = 0
        · have hn := Lib.hid (hi.out.trans (show _ = nz ((partsE M).drop 1) from nz_zero _ _ hz))
          have hz2 : (sigsE M != 0) = false := by simp [hz]
          have hz := Lib.hid hz
          generalize hE : sigsE M = E at hc hz2
          have HE := Lib.hid hE
          clear hE hi
          go_wp2_with fail
          refine hc.out.mono ?_
          rintro e w1 ⟨rfl, hb1⟩
          have hB := Bl.then hb0 hb1
          clear hb0 hb1
          go_wp2
          go_roundw
          case rel => exact ⟨1, by omega, rfl, hB, hn, Lib.hid (fun h => absurd h (by omega))⟩
          case measure => simp [intOf]
        · have hn := Lib.hid (hi.out.trans (show _ = sigsE M from nz_one _ _ hz))
          have hz2 : (sigsE M != 0) = true := by simp [hz]
          clear hz hi
          go_wp2_with fail
          refine hc.out.mono ?_
          rintro e w1 ⟨rfl, hb1⟩
          have hB := Bl.then hb0 hb1
          have d0 : w1.cell? ⟨wr.heap.size, 0, none⟩ = some (.string ⟨#[115, 105, 103, 115]⟩) := (below_cell hb1 (by simp) 0).trans (by simp)
          clear hb0 hb1
          go_wp2
          go_ret2
          exact ⟨⟨_, by rw [hn.out]; rfl⟩, hB⟩
      · have ix := fit_ix1 b
        have hb0 := Bl.alloc hb (.cells #[.string ⟨#[105, 109, 112, 111, 114, 116, 115]⟩, .func (.func 175) #[.pointer (some ⟨b, 0, none⟩)] #[]] 320)
        have hc := Lib.hid (imports_any I b v0 v1 v2 v4 v5 v6 v8 v9 M _ (HM.out _ hb0))
        by_cases hz : importsE M = 0
        · have hn := Lib.hid (hi.out.trans (show _ = nz ((partsE M).drop 2) from nz_zero _ _ hz))
          have hz2 : (importsE M != 0) = false := by simp [hz]
          have hz := Lib.hid hz
          generalize hE : importsE M = E at hc hz2
          have HE := Lib.hid hE
          clear hE hi
          go_wp2_with fail
          refine hc.out.mono ?_
          rintro e w1 ⟨rfl, hb1⟩
          have hB := Bl.then hb0 hb1
          clear hb0 hb1
          go_wp2
          go_roundw
          case rel => exact ⟨2, by omega, rfl, hB, hn, Lib.hid (fun h => absurd h (by omega))⟩
          case measure => simp [intOf]
        · have hn := Lib.hid (hi.out.trans (show _ = importsE M from nz_one _ _ hz))
          have hz2 : (importsE M != 0) = true := by simp [hz]
          clear hz hi
          go_wp2_with fail
          refine hc.out.mono ?_
          rintro e w1 ⟨rfl, hb1⟩
          have hB := Bl.then hb0 hb1
          have d0 : w1.cell? ⟨wr.heap.size, 0, none⟩ = some (.string ⟨#[105, 109, 112, 111, 114, 116, 115]⟩) := (below_cell hb1 (by simp) 0).trans (by simp)
          clear hb0 hb1
          go_wp2
          go_ret2
          exact ⟨⟨_, by rw [hn.out]; rfl⟩, hB⟩
      · have ix := fit_ix2 b
        have hb0 := Bl.alloc hb (.cells #[.string ⟨#[102, 117, 110, 99, 115]⟩, .func (.func 176) #[.pointer (some ⟨b, 0, none⟩)] #[]] 320)
        have hc := Lib.hid (funcs_any I b v0 v1 v2 v4 v5 v6 v8 v9 M _ (HM.out _ hb0))
        by_cases hz : funcsE M = 0
        · have hn := Lib.hid (hi.out.trans (show _ = nz ((partsE M).drop 3) from nz_zero _ _ hz))
          have hz2 : (funcsE M != 0) = false := by simp [hz]
          have hz := Lib.hid hz
          generalize hE : funcsE M = E at hc hz2
          have HE := Lib.hid hE
          clear hE hi
          go_wp2_with fail
          refine hc.out.mono ?_
          rintro e w1 ⟨rfl, hb1⟩
          have hB := Bl.then hb0 hb1
          clear hb0 hb1
          go_wp2
          go_roundw
          case rel => exact ⟨3, by omega, rfl, hB, hn, Lib.hid (fun h => absurd h (by omega))⟩
          case measure => simp [intOf]
        · have hn := Lib.hid (hi.out.trans (show _ = funcsE M from nz_one _ _ hz))
          have hz2 : (funcsE M != 0) = true := by simp [hz]
          clear hz hi
          go_wp2_with fail
          refine hc.out.mono ?_
          rintro e w1 ⟨rfl, hb1⟩
          have hB := Bl.then hb0 hb1
          have d0 : w1.cell? ⟨wr.heap.size, 0, none⟩ = some (.string ⟨#[102, 117, 110, 99, 115]⟩) := (below_cell hb1 (by simp) 0).trans (by simp)
          clear hb0 hb1
          go_wp2
          go_ret2
          exact ⟨⟨_, by rw [hn.out]; rfl⟩, hB⟩
      · have ix := fit_ix3 b
        have hb0 := Bl.alloc hb (.cells #[.string ⟨#[116, 97, 98, 108, 101]⟩, .func (.func 177) #[.pointer (some ⟨b, 0, none⟩)] #[]] 320)
        have hc := Lib.hid ((table_any I b v0 v1 v2 v4 v5 v6 v8 v9 M _ (HM.out _ hb0)).mono fun (e : Ending) w' ⟨h1, h2⟩ => (⟨h1, h2 ▸ Below.refl _ _⟩ : e = Ending.returned (.int .i64 (tableE M)) ∧ Below (wr.alloc (.cells #[.string ⟨#[116, 97, 98, 108, 101]⟩, .func (.func 177) #[.pointer (some ⟨b, 0, none⟩)] #[]] 320)).heap.size (wr.alloc (.cells #[.string ⟨#[116, 97, 98, 108, 101]⟩, .func (.func 177) #[.pointer (some ⟨b, 0, none⟩)] #[]] 320)) w'))
        by_cases hz : tableE M = 0
        · have hn := Lib.hid (hi.out.trans (show _ = nz ((partsE M).drop 4) from nz_zero _ _ hz))
          have hz2 : (tableE M != 0) = false := by simp [hz]
          have hz := Lib.hid hz
          generalize hE : tableE M = E at hc hz2
          have HE := Lib.hid hE
          clear hE hi
          go_wp2_with fail
          refine hc.out.mono ?_
          rintro e w1 ⟨rfl, hb1⟩
          have hB := Bl.then hb0 hb1
          clear hb0 hb1
          go_wp2
          go_roundw
          case rel => exact ⟨4, by omega, rfl, hB, hn, Lib.hid (fun _ => HE.out.symm.trans hz.out)⟩
          case measure => simp [intOf]
        · have hn := Lib.hid (hi.out.trans (show _ = tableE M from nz_one _ _ hz))
          have hz2 : (tableE M != 0) = true := by simp [hz]
          clear hz hi
          go_wp2_with fail
          refine hc.out.mono ?_
          rintro e w1 ⟨rfl, hb1⟩
          have hB := Bl.then hb0 hb1
          have d0 : w1.cell? ⟨wr.heap.size, 0, none⟩ = some (.string ⟨#[116, 97, 98, 108, 101]⟩) := (below_cell hb1 (by simp) 0).trans (by simp)
          clear hb0 hb1
          go_wp2
          go_ret2
          exact ⟨⟨_, by rw [hn.out]; rfl⟩, hB⟩
      · have ix := fit_ix4 b
        have hb0 := Bl.alloc hb (.cells #[.string ⟨#[109, 101, 109, 115]⟩, .func (.func 178) #[.pointer (some ⟨b, 0, none⟩)] #[]] 320)
        have hc := Lib.hid (mems_any I b v0 v1 v2 v4 v5 v6 v8 v9 M _ (HM.out _ hb0))
        by_cases hz : memsE M = 0
        · have hn := Lib.hid (hi.out.trans (show _ = nz ((partsE M).drop 5) from nz_zero _ _ hz))
          have hz2 : (memsE M != 0) = false := by simp [hz]
          have hz := Lib.hid hz
          generalize hE : memsE M = E at hc hz2
          have HE := Lib.hid hE
          clear hE hi
          go_wp2_with fail
          refine hc.out.mono ?_
          rintro e w1 ⟨rfl, hb1⟩
          have hB := Bl.then hb0 hb1
          clear hb0 hb1
          go_wp2
          go_roundw
          case rel => exact ⟨5, by omega, rfl, hB, hn, Lib.hid (fun _ => ht.out (by omega))⟩
          case measure => simp [intOf]
        · have hn := Lib.hid (hi.out.trans (show _ = memsE M from nz_one _ _ hz))
          have hz2 : (memsE M != 0) = true := by simp [hz]
          clear hz hi
          go_wp2_with fail
          refine hc.out.mono ?_
          rintro e w1 ⟨rfl, hb1⟩
          have hB := Bl.then hb0 hb1
          have d0 : w1.cell? ⟨wr.heap.size, 0, none⟩ = some (.string ⟨#[109, 101, 109, 115]⟩) := (below_cell hb1 (by simp) 0).trans (by simp)
          clear hb0 hb1
          go_wp2
          go_ret2
          exact ⟨⟨_, by rw [hn.out]; rfl⟩, hB⟩
      · have ix := fit_ix5 b
        have hb0 := Bl.alloc hb (.cells #[.string ⟨#[103, 108, 111, 98, 97, 108, 115]⟩, .func (.func 179) #[.pointer (some ⟨b, 0, none⟩)] #[]] 320)
        have hc := Lib.hid (globals_any I b v0 v1 v2 v4 v5 v6 v8 v9 M _ (HM.out _ hb0))
        by_cases hz : globalsE M = 0
        · have hn := Lib.hid (hi.out.trans (show _ = nz ((partsE M).drop 6) from nz_zero _ _ hz))
          have hz2 : (globalsE M != 0) = false := by simp [hz]
          have hz := Lib.hid hz
          generalize hE : globalsE M = E at hc hz2
          have HE := Lib.hid hE
          clear hE hi
          go_wp2_with fail
          refine hc.out.mono ?_
          rintro e w1 ⟨rfl, hb1⟩
          have hB := Bl.then hb0 hb1
          clear hb0 hb1
          go_wp2
          go_roundw
          case rel => exact ⟨6, by omega, rfl, hB, hn, Lib.hid (fun _ => ht.out (by omega))⟩
          case measure => simp [intOf]
        · have hn := Lib.hid (hi.out.trans (show _ = globalsE M from nz_one _ _ hz))
          have hz2 : (globalsE M != 0) = true := by simp [hz]
          clear hz hi
          go_wp2_with fail
          refine hc.out.mono ?_
          rintro e w1 ⟨rfl, hb1⟩
          have hB := Bl.then hb0 hb1
          have d0 : w1.cell? ⟨wr.heap.size, 0, none⟩ = some (.string ⟨#[103, 108, 111, 98, 97, 108, 115]⟩) := (below_cell hb1 (by simp) 0).trans (by simp)
          clear hb0 hb1
          go_wp2
          go_ret2
          exact ⟨⟨_, by rw [hn.out]; rfl⟩, hB⟩
      · have ix := fit_ix6 b
        have hb0 := Bl.alloc hb (.cells #[.string ⟨#[101, 120, 112, 111, 114, 116, 115]⟩, .func (.func 180) #[.pointer (some ⟨b, 0, none⟩)] #[]] 320)
        have hc := Lib.hid (exports_any I b v0 v1 v2 v4 v5 v6 v8 v9 M _ (HM.out _ hb0) (tableE_zero M (ht.out (by omega))).1 (tableE_zero M (ht.out (by omega))).2)
        by_cases hz : exportsE M = 0
        · have hn := Lib.hid (hi.out.trans (show _ = nz ((partsE M).drop 7) from nz_zero _ _ hz))
          have hz2 : (exportsE M != 0) = false := by simp [hz]
          have hz := Lib.hid hz
          generalize hE : exportsE M = E at hc hz2
          have HE := Lib.hid hE
          clear hE hi
          go_wp2_with fail
          refine hc.out.mono ?_
          rintro e w1 ⟨rfl, hb1⟩
          have hB := Bl.then hb0 hb1
          clear hb0 hb1
          go_wp2
          go_roundw
          case rel => exact ⟨7, by omega, rfl, hB, hn, Lib.hid (fun _ => ht.out (by omega))⟩
          case measure => simp [intOf]
        · have hn := Lib.hid (hi.out.trans (show _ = exportsE M from nz_one _ _ hz))
          have hz2 : (exportsE M != 0) = true := by simp [hz]
          clear hz hi
          go_wp2_with fail
          refine hc.out.mono ?_
          rintro e w1 ⟨rfl, hb1⟩
          have hB := Bl.then hb0 hb1
          have d0 : w1.cell? ⟨wr.heap.size, 0, none⟩ = some (.string ⟨#[101, 120, 112, 111, 114, 116, 115]⟩) := (below_cell hb1 (by simp) 0).trans (by simp)
          clear hb0 hb1
          go_wp2
          go_ret2
          exact ⟨⟨_, by rw [hn.out]; rfl⟩, hB⟩
      · have ix := fit_ix7 b
        have hb0 := Bl.alloc hb (.cells #[.string ⟨#[115, 116, 97, 114, 116]⟩, .func (.func 181) #[.pointer (some ⟨b, 0, none⟩)] #[]] 320)
        have hc := Lib.hid (start_any I b v0 v1 v2 v4 v5 v6 v8 v9 M _ (HM.out _ hb0))
        by_cases hz : startE M = 0
        · have hn := Lib.hid (hi.out.trans (show _ = nz ((partsE M).drop 8) from nz_zero _ _ hz))
          have hz2 : (startE M != 0) = false := by simp [hz]
          have hz := Lib.hid hz
          generalize hE : startE M = E at hc hz2
          have HE := Lib.hid hE
          clear hE hi
          go_wp2_with fail
          refine hc.out.mono ?_
          rintro e w1 ⟨rfl, hb1⟩
          have hB := Bl.then hb0 hb1
          clear hb0 hb1
          go_wp2
          go_roundw
          case rel => exact ⟨8, by omega, rfl, hB, hn, Lib.hid (fun _ => ht.out (by omega))⟩
          case measure => simp [intOf]
        · have hn := Lib.hid (hi.out.trans (show _ = startE M from nz_one _ _ hz))
          have hz2 : (startE M != 0) = true := by simp [hz]
          clear hz hi
          go_wp2_with fail
          refine hc.out.mono ?_
          rintro e w1 ⟨rfl, hb1⟩
          have hB := Bl.then hb0 hb1
          have d0 : w1.cell? ⟨wr.heap.size, 0, none⟩ = some (.string ⟨#[115, 116, 97, 114, 116]⟩) := (below_cell hb1 (by simp) 0).trans (by simp)
          clear hb0 hb1
          go_wp2
          go_ret2
          exact ⟨⟨_, by rw [hn.out]; rfl⟩, hB⟩
      · have ix := fit_ix8 b
        have hb0 := Bl.alloc hb (.cells #[.string ⟨#[101, 108, 101, 109, 115]⟩, .func (.func 182) #[.pointer (some ⟨b, 0, none⟩)] #[]] 320)
        have hc := Lib.hid (elems_any I b v0 v1 v2 v4 v5 v6 v8 v9 M _ (HM.out _ hb0))
        by_cases hz : elemsE M = 0
        · have hn := Lib.hid (hi.out.trans (show _ = nz ((partsE M).drop 9) from nz_zero _ _ hz))
          have hz2 : (elemsE M != 0) = false := by simp [hz]
          have hz := Lib.hid hz
          generalize hE : elemsE M = E at hc hz2
          have HE := Lib.hid hE
          clear hE hi
          go_wp2_with fail
          refine hc.out.mono ?_
          rintro e w1 ⟨rfl, hb1⟩
          have hB := Bl.then hb0 hb1
          clear hb0 hb1
          go_wp2
          go_roundw
          case rel => exact ⟨9, by omega, rfl, hB, hn, Lib.hid (fun _ => ht.out (by omega))⟩
          case measure => simp [intOf]
        · have hn := Lib.hid (hi.out.trans (show _ = elemsE M from nz_one _ _ hz))
          have hz2 : (elemsE M != 0) = true := by simp [hz]
          clear hz hi
          go_wp2_with fail
          refine hc.out.mono ?_
          rintro e w1 ⟨rfl, hb1⟩
          have hB := Bl.then hb0 hb1
          have d0 : w1.cell? ⟨wr.heap.size, 0, none⟩ = some (.string ⟨#[101, 108, 101, 109, 115]⟩) := (below_cell hb1 (by simp) 0).trans (by simp)
          clear hb0 hb1
          go_wp2
          go_ret2
          exact ⟨⟨_, by rw [hn.out]; rfl⟩, hB⟩
      · have ix := fit_ix9 b
        have hb0 := Bl.alloc hb (.cells #[.string ⟨#[100, 97, 116, 97]⟩, .func (.func 183) #[.pointer (some ⟨b, 0, none⟩)] #[]] 320)
        have hc := Lib.hid (datas_any I b v0 v1 v2 v4 v5 v6 v8 v9 M _ (HM.out _ hb0))
        by_cases hz : datasE M = 0
        · have hn := Lib.hid (hi.out.trans (show _ = nz ((partsE M).drop 10) from nz_zero _ _ hz))
          have hz2 : (datasE M != 0) = false := by simp [hz]
          have hz := Lib.hid hz
          generalize hE : datasE M = E at hc hz2
          have HE := Lib.hid hE
          clear hE hi
          go_wp2_with fail
          refine hc.out.mono ?_
          rintro e w1 ⟨rfl, hb1⟩
          have hB := Bl.then hb0 hb1
          clear hb0 hb1
          go_wp2
          go_roundw
          case rel => exact ⟨10, by omega, rfl, hB, hn, Lib.hid (fun _ => ht.out (by omega))⟩
          case measure => simp [intOf]
        · have hn := Lib.hid (hi.out.trans (show _ = datasE M from nz_one _ _ hz))
          have hz2 : (datasE M != 0) = true := by simp [hz]
          clear hz hi
          go_wp2_with fail
          refine hc.out.mono ?_
          rintro e w1 ⟨rfl, hb1⟩
          have hB := Bl.then hb0 hb1
          have d0 : w1.cell? ⟨wr.heap.size, 0, none⟩ = some (.string ⟨#[100, 97, 116, 97]⟩) := (below_cell hb1 (by simp) 0).trans (by simp)
          clear hb0 hb1
          go_wp2
          go_ret2
          exact ⟨⟨_, by rw [hn.out]; rfl⟩, hB⟩
end Go.Proofs.YtmfbfbinimnchaaGreatDoor
