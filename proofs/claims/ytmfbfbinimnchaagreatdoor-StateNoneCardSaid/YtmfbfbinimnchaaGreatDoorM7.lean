/- Walks: (*module.Module).counts. No condition. -/
import Derived.Test.YtmfbfbinimnchaaGreatDoorM6
import Derived.Test.YtmfbfbinimnchaaGreatDoorR0
set_option linter.unusedVariables false
set_option linter.unusedSimpArgs false
namespace Go.Proofs.YtmfbfbinimnchaaGreatDoor
open Go.RowKit Go.Sort

theorem count_grown {I : Nat → Prop} {b : Nat} {v0 v1 v2 v4 v5 v6 v8 v9 : Value} {M : Mod} {w w0 : World} (h : Below w.heap.size w w0) (hM : RMod I w b v0 v1 v2 v4 v5 v6 v8 v9 M) (d : Nat) (os : Array Obj) :
    Calls Tryz.prog 38 #[.pointer (some ⟨b, 0, none⟩)] (grow (redrawn w0 d) os) fun e w'' => e = .returned (.int .i64 M.count) ∧ ∃ p : Regrown, w'' = grow (redrawn w0 p.d) p.os :=
  Calls.regrown_of ((count_any I b v0 v1 v2 v4 v5 v6 v8 v9 M _ (hM.bl (Bl.then h (below_regrown w0 d os)))).mono fun e w' ⟨he, k, hk⟩ => ⟨he, hk ▸ drewN_Bl _ _⟩)

theorem counts_any (I : Nat → Prop) (b : Nat) (v0 v1 v2 v4 v5 v6 v8 v9 : Value) (M : Mod) (w : World) (hM : RMod I w b v0 v1 v2 v4 v5 v6 v8 v9 M) (ht : M.table ≤ 1000) (ht' : -1 ≤ M.table) :
    Calls Tryz.prog 234 #[.pointer (some ⟨b, 0, none⟩)] w fun e w' => e = .returned (.agg #[.int .i64 M.count, .int .i64 (if M.table < 0 then 0 else 1), .int .i64 M.mems.length, .int .i64 M.globals.length]) ∧ Below w.heap.size w w' := by
  have hb0 := Bl.alloc (Below.refl w.heap.size w) (.cells #[.int .i64 0, .int .i64 0, .int .i64 0, .int .i64 0] 168)
  have HC := Lib.hid (fun d os => count_grown hb0 hM d os)
  obtain ⟨A4, k4, e4, l4⟩ := hM.ps.s4.form
  obtain ⟨A5, k5, e5, l5⟩ := hM.ps.s5.form
  have hb := hM.hb
  have k3 := fun d os => cell_regrown ((below_cell hb0 hb 3).trans hM.c3) d os
  have k4' := fun d os => cell_regrown ((below_cell hb0 hb 4).trans (hM.c4.trans (congrArg some e4))) d os
  have k5' := fun d os => cell_regrown ((below_cell hb0 hb 5).trans (hM.c5.trans (congrArg some e5))) d os
  clear hM e4 e5 hb0
  by_cases ht0 : M.table < 0
  · have et : M.table = -1 := by omega
    rw [et] at k3
    go_enter Tryz.func234, Tryz.ntmps234
    go_wp2
    refine region_tail 19 (by kernel_rfl) ?_
    simp only [List.take_succ_cons, List.take_zero, List.drop_succ_cons, List.drop_zero]
    repeat (any_goals (first | go_big_quiet_step ((go_at_call 38; exact HC.out _ _)) | quiet_step ((go_at_call 38; exact HC.out _ _))))
    refine wpQuiet_nil ?_
    rintro w2 ⟨p, rfl⟩
    have hg := grown_bl (w.alloc (.cells #[.int .i64 0, .int .i64 0, .int .i64 0, .int .i64 0] 168)) p
    have hB := Lib.hid (Bl.then (Bl.alloc (Below.refl w.heap.size w) _) hg)
    have hr := (hg.block w.heap.size (by simp)).trans (heap_alloc_new w _)
    clear hg k3 k4' k5' HC
    generalize grow (redrawn (w.alloc (.cells #[.int .i64 0, .int .i64 0, .int .i64 0, .int .i64 0] 168)) p.d) p.os = w2 at *
    have q := fun j => frozen_of_row w2 w.heap.size j _ _ hr
    have r0 := cell_of_row w2 w.heap.size 0 _ _ _ hr
    have r1 := cell_of_row w2 w.heap.size 1 _ _ _ hr
    have r2 := cell_of_row w2 w.heap.size 2 _ _ _ hr
    have r3 := cell_of_row w2 w.heap.size 3 _ _ _ hr
    simp at r0 r1 r2 r3
    clear hr
    go_wp2
    refine bodyPost_ret (v := .agg #[.int .i64 M.count, .int .i64 0, .int .i64 M.mems.length, .int .i64 M.globals.length]) (by simp [results, Tryz.results234, go_sem, *]) rfl ⟨by simp [ht0], ?_⟩
    exact ((((hB.out.setCell (Nat.le_refl _) _).setCell (Nat.le_refl _) _).setCell (Nat.le_refl _) _).setCell (Nat.le_refl _) _)
  · have hw1 : IntKind.i64.wrap (M.table + 1) = M.table + 1 := IntWalk.i64_in _ (by omega)
    have hmin : (if 1 < M.table + 1 then (1 : Int) else M.table + 1) = 1 := by split <;> omega
    go_enter Tryz.func234, Tryz.ntmps234
    go_wp2
    refine region_tail 19 (by kernel_rfl) ?_
    simp only [List.take_succ_cons, List.take_zero, List.drop_succ_cons, List.drop_zero]
    repeat (any_goals (first | go_big_quiet_step ((go_at_call 38; exact HC.out _ _)) | quiet_step ((go_at_call 38; exact HC.out _ _))))
    refine wpQuiet_nil ?_
    rintro w2 ⟨p, rfl⟩
    have hg := grown_bl (w.alloc (.cells #[.int .i64 0, .int .i64 0, .int .i64 0, .int .i64 0] 168)) p
    have hB := Lib.hid (Bl.then (Bl.alloc (Below.refl w.heap.size w) _) hg)
    have hr := (hg.block w.heap.size (by simp)).trans (heap_alloc_new w _)
    clear hg k3 k4' k5' HC
    generalize grow (redrawn (w.alloc (.cells #[.int .i64 0, .int .i64 0, .int .i64 0, .int .i64 0] 168)) p.d) p.os = w2 at *
    have q := fun j => frozen_of_row w2 w.heap.size j _ _ hr
    have r0 := cell_of_row w2 w.heap.size 0 _ _ _ hr
    have r1 := cell_of_row w2 w.heap.size 1 _ _ _ hr
    have r2 := cell_of_row w2 w.heap.size 2 _ _ _ hr
    have r3 := cell_of_row w2 w.heap.size 3 _ _ _ hr
    simp at r0 r1 r2 r3
    clear hr
    go_wp2
    refine bodyPost_ret (v := .agg #[.int .i64 M.count, .int .i64 1, .int .i64 M.mems.length, .int .i64 M.globals.length]) (by simp [results, Tryz.results234, go_sem, *]) rfl ⟨by simp [ht0], ?_⟩
    exact ((((hB.out.setCell (Nat.le_refl _) _).setCell (Nat.le_refl _) _).setCell (Nat.le_refl _) _).setCell (Nat.le_refl _) _)
end Go.Proofs.YtmfbfbinimnchaaGreatDoor
