/- Walks: (*state.State).Set at a state of two globals. No condition. -/
import Derived.Test.YtmfbfbinimnchaaGreatDoorS8
import Derived.Test.YtmfbfbinimnchaaGreatDoorT1
set_option linter.unusedVariables false
set_option linter.unusedSimpArgs false
namespace Go.Proofs.YtmfbfbinimnchaaGreatDoor
open Go.RowKit Go.Sort Go.Maps

def SetPost (a gb gt gg : Nat) (cur : Array Value) (h l i : Nat) (v : Int) (w : World) (e : Ending) (w' : World) : Prop :=
  e = .returned (.int .i64 0) ∧ ArA w' a gb gt gg 1000 (putV cur (8 * i) v 8) h l ∧ Ex (· = gb) w w'
set_option maxRecDepth 100000 in
set_option maxHeartbeats 2000000 in
theorem Set_2 (w : World) (s m gv a p gb gt gg : Nat) (cur : Array Value) (h l i : Nat) (v : Int) (hS : StC w s m a p 0 16) (hM : M2 w m gv) (A : ArA w a gb gt gg 1000 cur h l)
    (n1 : m ≠ gb) (n2 : gv ≠ gb) (n3 : s ≠ gb) (hi : i < 2) (hv : v = 5 ∨ v = 6) :
    Calls Tryz.prog 29 #[.pointer (some ⟨s, 0, none⟩), .int .i64 i, .int .u64 v] w (SetPost a gb gt gg cur h l i v w) := by
  have c0 := cell_of_row w s 0 _ _ _ hS
  have c1 := cell_of_row w s 1 _ _ _ hS
  have c4 := cell_of_row w s 4 _ _ _ hS
  have c7 := cell_of_row w s 7 _ _ _ hS
  simp at c0 c1 c4 c7
  obtain ⟨ty, ht⟩ : ∃ ty : Int, w.cell? ⟨gv, i * 3, none⟩ = some (.int .u8 ty) := by
    obtain rfl | rfl : i = 0 ∨ i = 1 := by omega
    · exact ⟨_, hM.g0⟩
    · exact ⟨_, hM.g3⟩
  have d5 := hM.c5
  have HU := Lib.hid (use_2 w s m gv i (by omega) c7 c0 d5)
  have HP := Lib.hid (fun p => put_8 (grow (redrawn w p.d) p.os) a gb gt gg 1000 cur h l (8 * i) v (A.keep (S := fun _ => False) (Ex.bl (grown_bl w p)) id id id id) (by omega) hv)
  have HS := Lib.hid hS
  have HM := Lib.hid hM
  clear hS hM A
  have hv1 : 0 ≤ v ∧ v < 256 := by omega
  go_enter Tryz.func29, Tryz.ntmps29
  go_wp2_with fail
  refine HU.out.mono ?_
  rintro e w1 ⟨rfl, rfl⟩
  go_wp2
  have HB := Lib.hid (fun d os => Calls.regrown_of ((bits_any ty (grow (redrawn w d) os)).mono fun e w' h => (⟨h.1, h.2 ▸ Below.refl _ _⟩ : _ ∧ Below (grow (redrawn w d) os).heap.size (grow (redrawn w d) os) w')))
  have HC := Lib.hid (fun d os => Calls.regrown_of ((cut_any (bitsF ty) v (grow (redrawn w d) os) hv1).mono fun e w' h => (⟨h.1, h.2 ▸ Below.refl _ _⟩ : _ ∧ Below (grow (redrawn w d) os).heap.size (grow (redrawn w d) os) w')))
  have k0 := fun d os => cell_regrown c0 d os
  have k1 := fun d os => cell_regrown c1 d os
  have k4 := fun d os => cell_regrown c4 d os
  have k5 := fun d os => cell_regrown d5 d os
  have kt := fun d os => cell_regrown ht d os
  clear c0 c1 c4 c7 d5 ht HU
  refine region_tail 25 (by kernel_rfl) ?_
  simp only [List.take_succ_cons, List.take_zero, List.drop_succ_cons, List.drop_zero]
  repeat (any_goals (first | go_big_quiet_step (first | (go_at_call 72; exact HB.out _ _) | (go_at_call 71; exact HC.out _ _)) | quiet_step (first | (go_at_call 72; exact HB.out _ _) | (go_at_call 71; exact HC.out _ _))))
  refine wpQuiet_nil ?_
  rintro w2 ⟨p, rfl⟩
  have hg := Lib.hid (grown_bl w p)
  have HP2 := Lib.hid (HP.out p)
  clear HP k0 k1 k4 k5 kt HB HC
  generalize grow (redrawn w p.d) p.os = w2 at *
  go_wp2_with fail
  refine HP2.out.mono ?_
  rintro e w3 ⟨rfl, A3, x3⟩
  have HA3 := Lib.hid A3
  have HX3 := Lib.hid x3
  clear A3 x3
  go_wp2
  go_ret
  exact ⟨rfl, HA3.out, (Ex.bl hg.out).trans HX3.out⟩
end Go.Proofs.YtmfbfbinimnchaaGreatDoor
