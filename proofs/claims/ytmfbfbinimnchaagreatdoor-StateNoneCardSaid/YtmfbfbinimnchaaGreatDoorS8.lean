/- Walks: the state's methods of no state. No condition. -/
import Derived.Test.YtmfbfbinimnchaaGreatDoorS7
set_option linter.unusedVariables false
set_option linter.unusedSimpArgs false
namespace Go.Proofs.YtmfbfbinimnchaaGreatDoor
open Go.RowKit Go.Sort Go.Maps

theorem gone_nil (w : World) : Calls Tryz.prog 64 #[.pointer none] w fun e w' => e = .returned (.bool true) ∧ w = w' := by
  go_enter Tryz.func64, Tryz.ntmps64
  go_wp2
  go_ret
  exact ⟨rfl, rfl⟩
theorem gone_live (w : World) (s : Nat) (h : w.cell? ⟨s, 7, none⟩ = some (.bool false)) : Calls Tryz.prog 64 #[.pointer (some ⟨s, 0, none⟩)] w fun e w' => e = .returned (.bool false) ∧ w = w' := by
  go_enter Tryz.func64, Tryz.ntmps64
  go_wp2
  go_ret
  exact ⟨rfl, rfl⟩
theorem use_nil (w : World) (i : Int) (f : Value) : Calls Tryz.prog 60 #[.pointer none, .int .i64 i, f] w fun e w' => e = .returned (.int .i64 12) ∧ w = w' := by
  go_enter Tryz.func60, Tryz.ntmps60
  go_wp2_with fail
  refine (gone_nil w).mono ?_
  rintro e w1 ⟨rfl, rfl⟩
  go_wp2
  go_ret
  exact ⟨rfl, rfl⟩
theorem Global_nil (w : World) (i : Int) : Calls Tryz.prog 22 #[.pointer none, .int .i64 i] w fun e w' => e = .returned (.tuple #[.int .u64 0, .int .i64 12]) ∧ w = w' := by
  go_enter Tryz.func22, Tryz.ntmps22
  go_wp2_with fail
  refine (use_nil w _ _).mono ?_
  rintro e w1 ⟨rfl, rfl⟩
  go_wp2
  go_ret2
  exact ⟨rfl, rfl⟩
theorem Entry_nil (w : World) (i : Int) : Calls Tryz.prog 23 #[.pointer none, .int .i64 i] w fun e w' => e = .returned (.tuple #[.int .i64 0, .bool false, .int .i64 12]) ∧ w = w' := by
  go_enter Tryz.func23, Tryz.ntmps23
  go_wp2_with fail
  refine (use_nil w _ _).mono ?_
  rintro e w1 ⟨rfl, rfl⟩
  go_wp2
  refine bodyPost_ret (v := .tuple #[.int .i64 0, .bool false, .int .i64 12]) (by simp [results, Tryz.results23, go_sem, *]) rfl ⟨rfl, rfl⟩
theorem Memory_nil (w : World) (i : Int) : Calls Tryz.prog 24 #[.pointer none, .int .i64 i] w fun e w' => e = .returned (.tuple #[.pointer none, .bool false]) ∧ w = w' := by
  go_enter Tryz.func24, Tryz.ntmps24
  go_wp2_with fail
  refine (gone_nil w).mono ?_
  rintro e w1 ⟨rfl, rfl⟩
  go_wp2
  go_ret2
  exact ⟨rfl, rfl⟩
theorem Set_nil (w : World) (i v : Int) : Calls Tryz.prog 29 #[.pointer none, .int .i64 i, .int .u64 v] w fun e w' => e = .returned (.int .i64 12) ∧ w = w' := by
  go_enter Tryz.func29, Tryz.ntmps29
  go_wp2_with fail
  refine (use_nil w _ _).mono ?_
  rintro e w1 ⟨rfl, rfl⟩
  go_wp2
  go_ret
  exact ⟨rfl, rfl⟩
theorem Pages_nil (w : World) : Calls Tryz.prog 30 #[.pointer none] w fun e w' => e = .returned (.slice none 0 0) ∧ w = w' := by
  go_enter Tryz.func30, Tryz.ntmps30
  go_wp2_with fail
  refine (gone_nil w).mono ?_
  rintro e w1 ⟨rfl, rfl⟩
  go_wp2
  go_ret
  exact ⟨rfl, rfl⟩
theorem Module_nil (w : World) : Calls Tryz.prog 31 #[.pointer none] w fun e w' => e = .returned (.pointer none) ∧ w = w' := by
  go_enter Tryz.func31, Tryz.ntmps31
  go_wp2_with fail
  refine (gone_nil w).mono ?_
  rintro e w1 ⟨rfl, rfl⟩
  go_wp2
  go_ret
  exact ⟨rfl, rfl⟩
theorem Close_nil (w : World) : Calls Tryz.prog 32 #[.pointer none] w fun e w' => e = .returned (.int .i64 12) ∧ w = w' := by
  go_enter Tryz.func32, Tryz.ntmps32
  go_wp2_with fail
  refine (gone_nil w).mono ?_
  rintro e w1 ⟨rfl, rfl⟩
  go_wp2
  go_ret
  exact ⟨rfl, rfl⟩
theorem Empty_any (w : World) : Calls Tryz.prog 27 #[] w fun e w' => ∃ m, e = .returned (.pointer (some ⟨m, 0, none⟩)) ∧ Below w.heap.size w w' := by
  go_enter Tryz.func27, Tryz.ntmps27
  go_wp2
  go_ret
  exact ⟨_, rfl, Bl.alloc (Below.refl _ _) _⟩
/-- A state that isn't closed, with two globals. -/
theorem count_2 (w : World) (s m gv : Nat) (h0 : w.cell? ⟨s, 0, none⟩ = some (.pointer (some ⟨m, 0, none⟩))) (h5 : w.cell? ⟨m, 5, none⟩ = some (.slice (some ⟨gv, 0, none⟩) 2 2)) :
    Calls Tryz.prog 61 #[.pointer (some ⟨s, 0, none⟩)] w fun e w' => e = .returned (.int .i64 2) ∧ w = w' := by
  go_enter Tryz.func61, Tryz.ntmps61
  go_wp2
  go_ret
  exact ⟨rfl, rfl⟩
theorem use_2 (w : World) (s m gv : Nat) (i : Int) (hi : 0 ≤ i ∧ i < 2) (h7 : w.cell? ⟨s, 7, none⟩ = some (.bool false)) (h0 : w.cell? ⟨s, 0, none⟩ = some (.pointer (some ⟨m, 0, none⟩))) (h5 : w.cell? ⟨m, 5, none⟩ = some (.slice (some ⟨gv, 0, none⟩) 2 2)) :
    Calls Tryz.prog 60 #[.pointer (some ⟨s, 0, none⟩), .int .i64 i, .func (.func 61) #[.pointer (some ⟨s, 0, none⟩)] #[]] w fun e w' => e = .returned (.int .i64 0) ∧ w = w' := by
  have hc := Lib.hid (count_2 w s m gv h0 h5)
  have hcall := Tryz.call61
  go_enter Tryz.func60, Tryz.ntmps60
  go_wp2_with fail
  refine (gone_live w s h7).mono ?_
  rintro e w1 ⟨rfl, rfl⟩
  go_wp2_with fail
  refine hc.out.mono ?_
  rintro e w2 ⟨rfl, rfl⟩
  go_wp2
  go_ret
  exact ⟨rfl, rfl⟩
end Go.Proofs.YtmfbfbinimnchaaGreatDoor
