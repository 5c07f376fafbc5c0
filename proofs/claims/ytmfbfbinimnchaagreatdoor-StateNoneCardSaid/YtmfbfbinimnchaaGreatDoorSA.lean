/- Walks: (*state.State).fill, segments, Global at a state of two globals. No condition. -/
import Derived.Test.YtmfbfbinimnchaaGreatDoorS9
import Derived.Test.YtmfbfbinimnchaaGreatDoorM2
set_option linter.unusedVariables false
set_option linter.unusedSimpArgs false
namespace Go.Proofs.YtmfbfbinimnchaaGreatDoor
open Go.RowKit Go.Sort Go.Maps

def curK (cur : Array Value) : Nat → Array Value
  | 0 => cur
  | k + 1 => putV (curK cur k) (8 * k) (5 + k) 8
theorem M2.at_ {w : World} {m gv : Nat} (h : M2 w m gv) (k : Nat) (hk : k < 2) : ∃ ty : Int, w.cell? ⟨gv, k * 3, none⟩ = some (.int .u8 ty) ∧ w.cell? ⟨gv, k * 3 + 1, none⟩ = some (.bool false) ∧ w.cell? ⟨gv, k * 3 + 2, none⟩ = some (.int .u64 (5 + k)) := by
  obtain rfl | rfl : k = 0 ∨ k = 1 := by omega
  · exact ⟨_, h.g0, h.g1, h.g2⟩
  · exact ⟨_, h.g3, h.g4, h.g5⟩
def FillPost (a gb gt gg : Nat) (cur : Array Value) (h l : Nat) (w : World) (e : Ending) (w' : World) : Prop :=
  e = .returned (.tuple #[]) ∧ ArA w' a gb gt gg 1000 (curK cur 2) h l ∧ Ex (· = gb) w w'
set_option maxRecDepth 100000 in
set_option maxHeartbeats 2000000 in
theorem fill_2 (w : World) (s m gv a p gb gt gg : Nat) (cur : Array Value) (h l : Nat) (hS : StC w s m a p 0 16) (hM : M2 w m gv) (A : ArA w a gb gt gg 1000 cur h l)
    (n1 : m ≠ gb) (n2 : gv ≠ gb) (n3 : s ≠ gb) :
    Calls Tryz.prog 66 #[.pointer (some ⟨s, 0, none⟩)] w (FillPost a gb gt gg cur h l w) := by
  have c0 := cell_of_row w s 0 _ _ _ hS
  simp at c0
  have d5 := hM.c5
  have d4 := hM.c4
  have hsl := lt_of_heap hS
  have hlt := hM.lt
  have HS := Lib.hid hS
  have HM := Lib.hid hM
  have HA := Lib.hid A
  clear hS hM A
  go_enter Tryz.func66, Tryz.ntmps66
  go_wp2
  go_loopw [16] (fun i wr => ∃ k : Nat, k ≤ 2 ∧ i = .int .i64 k ∧ Hid (ArA wr a gb gt gg 1000 (curK cur k) h l) ∧ Hid (Ex (· = gb) w wr)) (fun i _ => 2 - (intOf i).toNat)
  case atStart => exact ⟨0, by omega, rfl, HA, Lib.hid (Ex.refl _ _)⟩
  case round =>
    obtain ⟨k, hk, rfl, HAr, HX⟩ := hrel
    have hSr := (HX.out.block s hsl n3).trans HS.out
    have hMr := HM.out.keep HX.out n1 n2
    by_cases hlt : k < 2
    · obtain ⟨ty, g0, g1, g2⟩ := hMr.at_ k hlt
      have HSr := Lib.hid hSr
      have HMr := Lib.hid hMr
      clear hSr hMr
      have HW := Lib.hid (fun o => (Ex.bl (S := (· = gb)) (Bl.alloc (Below.refl _ _) o) : Ex (· = gb) wr (wr.alloc o)))
      have HT := Lib.hid (fun o => Set_2 (wr.alloc o) s m gv a p gb gt gg (curK cur k) h l k (5 + k) (((Ex.bl (S := fun _ => False) (Bl.alloc (Below.refl _ _) o) : Ex (fun _ => False) wr (wr.alloc o)).block s (lt_of_heap HSr.out) id).trans HSr.out)
        (HMr.out.keep (Ex.bl (S := fun _ => False) (Bl.alloc (Below.refl _ _) o) : Ex (fun _ => False) wr (wr.alloc o)) id id) (HAr.out.keep (Ex.bl (S := fun _ => False) (Bl.alloc (Below.refl _ _) o) : Ex (fun _ => False) wr (wr.alloc o)) id id id id) n1 n2 n3 hlt (by omega))
      go_wp2_with fail
      refine (HT.out _).mono ?_
      rintro e w2 ⟨rfl, A2, x2⟩
      have HA2 := Lib.hid A2
      have HX2 := Lib.hid ((HX.out.trans (HW.out _)).trans x2)
      clear A2 x2 HT HW
      go_wp2
      go_roundw
      case rel => exact ⟨k + 1, by omega, by go_num, HA2, HX2⟩
      case measure => simp [intOf]; omega
    · obtain rfl : k = 2 := by omega
      have e0 := (cell_of_block ((HX.out.block s hsl n3)) 0).trans c0
      have e4 := hMr.c4
      clear hSr hMr
      go_wp2
      go_loopw [35] (fun i wr' => i = .int .i64 0 ∧ wr' = wr) (fun _ _ => 0)
      case atStart => exact ⟨rfl, rfl⟩
      case round =>
        obtain ⟨rfl, rfl⟩ := hrel
        go_wp2
        refine bodyPost_ret (v := .tuple #[]) (by simp [results, Tryz.results66, go_sem, *]) rfl ⟨rfl, HAr.out, HX.out⟩
theorem segments_2 (w : World) (s m gv a p : Nat) (hS : StC w s m a p 0 16) (hM : M2 w m gv) :
    Calls Tryz.prog 67 #[.pointer (some ⟨s, 0, none⟩)] w fun e w' => e = .returned (.tuple #[.int .i64 0, .int .i64 0]) ∧ w = w' := by
  have c0 := cell_of_row w s 0 _ _ _ hS
  simp at c0
  have d8 := hM.c8
  have d9 := hM.c9
  clear hS hM
  go_enter Tryz.func67, Tryz.ntmps67
  go_wp2
  go_loop [19] (fun i => i = .int .i64 0) (fun _ => 0)
  case atStart => exact rfl
  case round =>
    obtain rfl := hrel
    go_wp2
    go_loop [38] (fun i => i = .int .i64 0) (fun _ => 0)
    case atStart => exact rfl
    case round =>
      obtain rfl := hrel
      go_wp2
      go_ret2
      exact ⟨rfl, rfl⟩
theorem Global_2 (w : World) (s m gv a p gb gt gg : Nat) (cur : Array Value) (h l i : Nat) (v : Int) (hS : StC w s m a p 0 16) (hM : M2 w m gv) (A : ArA w a gb gt gg 1000 cur h l) (hi : i < 2) (hv : v = 5 ∨ v = 6)
    (hb : ∀ j, j < 8 → cur[8 * i + j]? = some (.int .u8 (v / 2 ^ (8 * j) % 256))) :
    Calls Tryz.prog 22 #[.pointer (some ⟨s, 0, none⟩), .int .i64 i] w fun e w' => e = .returned (.tuple #[.int .u64 v, .int .i64 0]) ∧ ∃ k, w' = w.drewN k := by
  have c0 := cell_of_row w s 0 _ _ _ hS
  have c1 := cell_of_row w s 1 _ _ _ hS
  have c4 := cell_of_row w s 4 _ _ _ hS
  have c7 := cell_of_row w s 7 _ _ _ hS
  simp at c0 c1 c4 c7
  have HU := Lib.hid (use_2 w s m gv i (by omega) c7 c0 hM.c5)
  have HG := Lib.hid (fun n => get_8 (w.drewN n) a gb gt gg 1000 cur h l (8 * i) v (A.keep (S := fun _ => False) ((Ex.refl _ w).drewN n) id id id id) (by omega) hv hb)
  clear hS hM A hb
  go_enter Tryz.func22, Tryz.ntmps22
  go_wp2_with fail
  refine HU.out.mono ?_
  rintro e w1 ⟨rfl, rfl⟩
  go_wp2
  go_quiet ((first | (go_at_call 62; exact quietS (HG.out _))))
  go_wp2
  go_ret2
  exact ⟨rfl, _, rfl⟩
end Go.Proofs.YtmfbfbinimnchaaGreatDoor
