/- Walks: valid.First, valid.Is. No condition. -/
import Derived.Test.YtmfbfbinimnchaaGreatDoorV1
set_option linter.unusedVariables false
set_option linter.unusedSimpArgs false
namespace Go.Proofs.YtmfbfbinimnchaaGreatDoor
open Go.RowKit Go.Sort

def FirstPost (n : Nat) (w : World) (e : Ending) (w' : World) : Prop :=
  (∃ (s : ByteArray) (a p c : Int), e = .returned (.tuple #[.agg #[.string s, .int .i64 a, .int .i64 p, .int .i64 c], .bool (decide (0 < n))])) ∧ Below w.heap.size w w'

/-- an owned row that isn't empty: where it lies, what its cells hold -/
theorem own_at {w : World} {base n size : Nat} {e : TypeId} {v : Value} {xs : List Value} (h : w.ownsRow base e size v n xs) (h0 : 0 < n) :
    ∃ g cap, v = .slice (some ⟨g, 0, none⟩) n cap ∧ base ≤ g ∧ n ≤ cap ∧ cap ≤ maxLen ∧ ∀ j u, xs[j]? = some u → w.cell? ⟨g, j, none⟩ = some u := by
  rcases h.2 with ⟨_, h1⟩ | ⟨g, cap, cur, rfl, hb, hh, h1, h2, h3, h4⟩
  · omega
  · refine ⟨g, cap, rfl, hb, h1, h2, fun j u hj => ?_⟩
    rw [cell_of_row w g j _ _ _ hh]
    rw [← h4, List.getElem?_take] at hj
    split at hj
    · simpa using hj
    · cases hj

theorem first_finds (I : Nat → Prop) (b : Nat) (v0 v1 v2 v4 v5 v6 v8 v9 : Value) (M : Mod) (E : Nat → Int) (w : World) (hM : RMod I w b v0 v1 v2 v4 v5 v6 v8 v9 M) (hE : fitE M = 0 → Chk b M E w) :
    Calls Tryz.prog 77 #[.pointer (some ⟨b, 0, none⟩)] w (FirstPost (findN M E) w) := by
  have hb0 := Bl.alloc (Below.refl w.heap.size w) (.cells #[.string ⟨#[]⟩, .int .i64 0, .int .i64 0, .int .i64 0] 164)
  have H := Lib.hid (allof_any I b v0 v1 v2 v4 v5 v6 v8 v9 M E _ (hM.bl hb0) (fun h i hi w' hw => hE h i hi w' (Bl.then hb0 hw)))
  clear hM hE
  generalize findN M E = n at *
  go_enter Tryz.func77, Tryz.ntmps77
  go_wp2_with fail
  refine H.out.mono ?_
  rintro e w1 ⟨v, xs, rfl, hown, hfst, hb1⟩
  have hB := Lib.hid (Bl.then hb0 hb1)
  have hr := (hb1.block w.heap.size (by simp)).trans (heap_alloc_new w _)
  have q := fun j => frozen_of_row w1 w.heap.size j _ _ hr
  have r0 := cell_of_row w1 w.heap.size 0 _ _ _ hr
  have r1 := cell_of_row w1 w.heap.size 1 _ _ _ hr
  have r2 := cell_of_row w1 w.heap.size 2 _ _ _ hr
  have r3 := cell_of_row w1 w.heap.size 3 _ _ _ hr
  simp at r0 r1 r2 r3
  clear hr hb1 hb0
  by_cases h0 : 0 < n
  · obtain ⟨s, a, p, c, ys, rfl⟩ := hfst h0
    obtain ⟨g, cap, rfl, hbg, hnc, hcm, hcs⟩ := own_at hown h0
    have e0 := hcs 0 (.string s) rfl
    have e1 := hcs 1 (.int .i64 a) rfl
    have e2 := hcs 2 (.int .i64 p) rfl
    have e3 := hcs 3 (.int .i64 c) rfl
    clear hcs
    have hne : ¬ g = w.heap.size := by simp at hbg; omega
    clear hown hfst
    have hn0 : ((n : Int) == 0) = false := by simp; omega
    go_wp2
    refine bodyPost_ret (v := .tuple #[.agg #[.string s, .int .i64 a, .int .i64 p, .int .i64 c], .bool true]) (by simp [results, Tryz.results77, go_sem, *]) rfl ⟨⟨s, a, p, c, by simp [h0]⟩, ?_⟩
    exact ((((hB.out.setCell (Nat.le_refl _) _).setCell (Nat.le_refl _) _).setCell (Nat.le_refl _) _).setCell (Nat.le_refl _) _)
  · obtain rfl : n = 0 := by omega
    obtain ⟨A, cc, rfl⟩ : ∃ A cc, v = .slice A 0 cc := by
      rcases hown.2 with ⟨rfl, _⟩ | ⟨g, cap, cur, rfl, _⟩
      · exact ⟨none, 0, rfl⟩
      · exact ⟨_, _, rfl⟩
    clear hown hfst
    go_wp2
    refine bodyPost_ret (v := .tuple #[.agg #[.string ⟨#[]⟩, .int .i64 0, .int .i64 0, .int .i64 0], .bool false]) (by simp [results, Tryz.results77, go_sem, *]) rfl ⟨⟨⟨#[]⟩, 0, 0, 0, by simp⟩, ?_⟩
    exact ((((hB.out.setCell (Nat.le_refl _) _).setCell (Nat.le_refl _) _).setCell (Nat.le_refl _) _).setCell (Nat.le_refl _) _)

theorem is_any (I : Nat → Prop) (b : Nat) (v0 v1 v2 v4 v5 v6 v8 v9 : Value) (M : Mod) (E : Nat → Int) (w : World) (hM : RMod I w b v0 v1 v2 v4 v5 v6 v8 v9 M) (hE : fitE M = 0 → Chk b M E w) :
    Calls Tryz.prog 34 #[.pointer (some ⟨b, 0, none⟩)] w fun e w' => e = .returned (.bool (!decide (0 < findN M E))) ∧ Below w.heap.size w w' := by
  have H := Lib.hid (first_finds I b v0 v1 v2 v4 v5 v6 v8 v9 M E _ hM hE)
  clear hM hE
  go_enter Tryz.func34, Tryz.ntmps34
  go_wp2_with fail
  refine H.out.mono ?_
  rintro e w1 ⟨⟨s, a, p, c, rfl⟩, hb1⟩
  go_wp2
  go_ret
  exact ⟨rfl, Bl.alloc hb1 _⟩
end Go.Proofs.YtmfbfbinimnchaaGreatDoor
