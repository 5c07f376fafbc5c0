/- Walks: valid.Is of no module, and of a module of two globals. No condition. -/
import Derived.Test.YtmfbfbinimnchaaGreatDoorV2
set_option linter.unusedVariables false
set_option linter.unusedSimpArgs false
namespace Go.Proofs.YtmfbfbinimnchaaGreatDoor
open Go.RowKit Go.Sort

theorem fit_nil (w : World) : Calls Tryz.prog 139 #[.pointer none] w (FitPost 12 w) := by
  go_enter Tryz.func139, Tryz.ntmps139
  go_wp2
  go_ret2
  exact ⟨⟨_, rfl⟩, Below.refl _ _⟩
set_option maxHeartbeats 1000000 in
theorem all_nil (w : World) :
    Calls Tryz.prog 112 #[.pointer none] w (AllPost 1 w) := by
  have H := Lib.hid (fit_nil w)
  go_enter Tryz.func112, Tryz.ntmps112
  go_wp2_with fail
  refine H.out.mono ?_
  rintro e w1 ⟨⟨s, rfl⟩, hb⟩
  go_wp2
  go_ret
  refine ⟨_, _, rfl, ⟨rfl, .inr ⟨w1.heap.size, 1, #[.string s, .int .i64 (-1), .int .i64 0, .int .i64 12], rfl, hb.size, heap_alloc_new _ _, by omega, by simp [maxLen], rfl, rfl⟩⟩, fun _ => ⟨s, _, _, _, [], rfl⟩, Bl.alloc hb _⟩

theorem first_nil (w : World) :
    Calls Tryz.prog 77 #[.pointer none] w (FirstPost 1 w) := by
  have hb0 := Bl.alloc (Below.refl w.heap.size w) (.cells #[.string ⟨#[]⟩, .int .i64 0, .int .i64 0, .int .i64 0] 164)
  have H := Lib.hid (all_nil (w.alloc (.cells #[.string ⟨#[]⟩, .int .i64 0, .int .i64 0, .int .i64 0] 164)))
  generalize (1 : Nat) = n at *
  go_enter Tryz.func77, Tryz.ntmps77
  go_wp2_with fail
  refine H.out.mono ?_
  rintro e w1 ⟨v, xs, rfl, hown, hfst, hb1⟩
  have hB := Lib.hid (Bl.then hb0 hb1)
  have hr := (hb1.block w.heap.size (by simp)).trans (heap_alloc_new w _)
  have q := fun j => frozen_of_row w1 w.heap.size j _ _ hr
  have r0 := cell_of_row w1 w.heap.size 0 _ _ _ hr
  have r1 := cell_of_row w1 w.heap.size 1 _ _ _ hr
  have r2 := cell_of_row w1 w.heap.size 2 _ _ _ hr
  have r3 := cell_of_row w1 w.heap.size 3 _ _ _ hr
  simp at r0 r1 r2 r3
  clear hr hb1 hb0
  by_cases h0 : 0 < n
  · obtain ⟨s, a, p, c, ys, rfl⟩ := hfst h0
    obtain ⟨g, cap, rfl, hbg, hnc, hcm, hcs⟩ := own_at hown h0
    have e0 := hcs 0 (.string s) rfl
    have e1 := hcs 1 (.int .i64 a) rfl
    have e2 := hcs 2 (.int .i64 p) rfl
    have e3 := hcs 3 (.int .i64 c) rfl
    clear hcs
    have hne : ¬ g = w.heap.size := by simp at hbg; omega
    clear hown hfst
    have hn0 : ((n : Int) == 0) = false := by simp; omega
    go_wp2
    refine bodyPost_ret (v := .tuple #[.agg #[.string s, .int .i64 a, .int .i64 p, .int .i64 c], .bool true]) (by simp [results, Tryz.results77, go_sem, *]) rfl ⟨⟨s, a, p, c, by simp [h0]⟩, ?_⟩
    exact ((((hB.out.setCell (Nat.le_refl _) _).setCell (Nat.le_refl _) _).setCell (Nat.le_refl _) _).setCell (Nat.le_refl _) _)
  · obtain rfl : n = 0 := by omega
    obtain ⟨A, cc, rfl⟩ : ∃ A cc, v = .slice A 0 cc := by
      rcases hown.2 with ⟨rfl, _⟩ | ⟨g, cap, cur, rfl, _⟩
      · exact ⟨none, 0, rfl⟩
      · exact ⟨_, _, rfl⟩
    clear hown hfst
    go_wp2
    refine bodyPost_ret (v := .tuple #[.agg #[.string ⟨#[]⟩, .int .i64 0, .int .i64 0, .int .i64 0], .bool false]) (by simp [results, Tryz.results77, go_sem, *]) rfl ⟨⟨⟨#[]⟩, 0, 0, 0, by simp⟩, ?_⟩
    exact ((((hB.out.setCell (Nat.le_refl _) _).setCell (Nat.le_refl _) _).setCell (Nat.le_refl _) _).setCell (Nat.le_refl _) _)

theorem is_nil (w : World) :
    Calls Tryz.prog 34 #[.pointer none] w fun e w' => e = .returned (.bool false) ∧ Below w.heap.size w w' := by
  have H := Lib.hid (first_nil w)
  go_enter Tryz.func34, Tryz.ntmps34
  go_wp2_with fail
  refine H.out.mono ?_
  rintro e w1 ⟨⟨s, a, p, c, rfl⟩, hb1⟩
  go_wp2
  go_ret
  exact ⟨rfl, Bl.alloc hb1 _⟩

def M21 : Mod := ⟨[], [], [], -1, [], [⟨127, false, 5⟩, ⟨126, false, 6⟩], [], -1, [], []⟩
theorem RL_none {α : Type} (I : Nat → Prop) (sz : Nat) (R : World → List Value → α → Prop) (w : World) : RL I sz R w (.slice none 0 0) [] := ⟨_, _, rfl, by simp, fun h => by simp at h⟩
/-- The module of two globals. -/
structure M21C (w : World) (m gv : Nat) : Prop where
  hm : w.heap[m]? = some (.cells #[.slice none 0 0, .slice none 0 0, .slice none 0 0, .int .i64 (-1), .slice none 0 0, .slice (some ⟨gv, 0, none⟩) 2 2, .slice none 0 0, .int .i64 (-1), .slice none 0 0, .slice none 0 0] 105 (0, 0))
  hg : w.heap[gv]? = some (.cells #[.int .u8 127, .bool false, .int .u64 5, .int .u8 126, .bool false, .int .u64 6] 110 (0, 0))
theorem M21C.rmod {w : World} {m gv : Nat} (h : M21C w m gv) : RMod (fun _ => True) w m (.slice none 0 0) (.slice none 0 0) (.slice none 0 0) (.slice none 0 0) (.slice (some ⟨gv, 0, none⟩) 2 2) (.slice none 0 0) (.slice none 0 0) (.slice none 0 0) M21 := by
  have c := fun j => cell_of_row w m j _ _ _ h.hm
  have g := fun j => cell_of_row w gv j _ _ _ h.hg
  refine ⟨trivial, (Array.getElem?_eq_some_iff.1 h.hm).1, c 0, c 1, c 2, c 3, c 4, c 5, c 6, c 7, c 8, c 9, ⟨RL_none _ _ _ _, RL_none _ _ _ _, RL_none _ _ _ _, RL_none _ _ _ _, ?_, RL_none _ _ _ _, RL_none _ _ _ _, RL_none _ _ _ _, ⟨_, _, _, rfl, by omega, by omega⟩⟩, by unfold i64ok M21; simp⟩
  refine ⟨_, _, rfl, by simp [M21], fun _ => ⟨gv, 0, rfl, trivial, (Array.getElem?_eq_some_iff.1 h.hg).1, fun j hj => ?_⟩⟩
  have hj2 : j = 0 ∨ j = 1 := by simp [M21] at hj; omega
  rcases hj2 with rfl | rfl
  · refine ⟨_, rfl, fun f hf => ?_⟩
    obtain rfl | rfl | rfl : f = 0 ∨ f = 1 ∨ f = 2 := by omega
    · exact g 0
    · exact g 1
    · exact g 2
  · refine ⟨_, rfl, fun f hf => ?_⟩
    obtain rfl | rfl | rfl : f = 0 ∨ f = 1 ∨ f = 2 := by omega
    · exact g 3
    · exact g 4
    · exact g 5
theorem fit21 : fitE M21 = 0 := by decide
theorem is_2 (w : World) (m gv : Nat) (h : M21C w m gv) : Calls Tryz.prog 34 #[.pointer (some ⟨m, 0, none⟩)] w fun e w' => e = .returned (.bool true) ∧ Below w.heap.size w w' :=
  (is_any _ m _ _ _ _ _ _ _ _ M21 (fun _ => 0) w h.rmod (fun _ i hi => by simp [M21] at hi)).mono fun e w' ⟨h1, h2⟩ => ⟨h1, h2⟩
end Go.Proofs.YtmfbfbinimnchaaGreatDoor
