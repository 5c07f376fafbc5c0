/- Walks: (*arena.Arena).part, word, Put, Get at eight bytes, word.Cut. No condition. -/
import Derived.Test.YtmfbfbinimnchaaGreatDoorS6
set_option linter.unusedVariables false
set_option linter.unusedSimpArgs false
namespace Go.Proofs.YtmfbfbinimnchaaGreatDoor
open Go.RowKit Go.Sort Go.Maps

set_option maxRecDepth 100000 in
theorem part_any (w : World) (a gb gt gg N : Nat) (cur : Array Value) (h l at_ n : Nat) (A : ArA w a gb gt gg N cur h l) (hn : at_ + n ≤ N) (h1 : 1 ≤ n) :
    Calls Tryz.prog 128 #[.pointer (some ⟨a, 0, none⟩), .int .i64 at_, .int .i64 n] w fun e w' => e = .returned (.tuple #[.slice (some ⟨gb, at_, none⟩) n (N - at_), .int .i64 0]) ∧ w = w' := by
  have hN := A.hN
  have c0 := cell_of_row w a 0 _ _ _ A.ha
  simp at c0
  have HA := Lib.hid A
  clear A
  go_enter Tryz.func128, Tryz.ntmps128
  have hne : ¬ N = at_ := by omega
  go_wp2
  all_goals first | omega | (go_ret2; exact ⟨by simp [Nat.add_sub_cancel_left], rfl⟩)
set_option maxRecDepth 100000 in
theorem word_8 (w : World) (a gb gt gg N : Nat) (cur : Array Value) (h l at_ : Nat) (A : ArA w a gb gt gg N cur h l) (hn : at_ + 8 ≤ N) :
    Calls Tryz.prog 100 #[.pointer (some ⟨a, 0, none⟩), .int .i64 at_, .int .i64 8] w fun e w' => e = .returned (.tuple #[.slice (some ⟨gb, at_, none⟩) 8 (N - at_), .int .i64 0]) ∧ w = w' := by
  have HP := Lib.hid (part_any w a gb gt gg N cur h l at_ 8 A hn (by omega))
  clear A
  go_enter Tryz.func100, Tryz.ntmps100
  go_wp2_with fail
  refine HP.out.mono ?_
  rintro e w1 ⟨rfl, rfl⟩
  go_wp2
  go_ret2
  exact ⟨rfl, rfl⟩
theorem cut_any (n : Int) (v : Int) (w : World) (hv : 0 ≤ v ∧ v < 256) : Calls Tryz.prog 71 #[.int .i64 n, .int .u64 v] w fun e w' => e = .returned (.int .u64 v) ∧ w = w' := by
  by_cases h : n = 32
  · subst h
    go_enter Tryz.func71, Tryz.ntmps71
    go_wp2
    go_ret
    exact ⟨rfl, rfl⟩
  · have hb : (n == 32) = false := by simp [h]
    go_enter Tryz.func71, Tryz.ntmps71
    go_wp2
    go_ret
    exact ⟨rfl, rfl⟩
def putV (cur : Array Value) (at_ : Nat) (v : Int) : Nat → Array Value
  | 0 => cur
  | k + 1 => (putV cur at_ v k).set! (at_ + k) (.int .u8 (v / 2 ^ (8 * k) % 256))
theorem putV_size (cur : Array Value) (at_ : Nat) (v : Int) (k : Nat) : (putV cur at_ v k).size = cur.size := by
  induction k with
  | zero => rfl
  | succ k ih => simp [putV, ih]
theorem ArA.setB {w : World} {a gb gt gg N : Nat} {cur : Array Value} {h l : Nat} (A : ArA w a gb gt gg N cur h l) (j : Nat) (v : Value) : ArA (w.setCell ⟨gb, j, none⟩ v) a gb gt gg N (cur.set! j v) h l := by
  refine ⟨?_, ?_, by simpa using A.hs, A.hN, ?_, ?_, A.ne⟩
  · rw [heap_setCell_other _ _ _ _ A.ab]; exact A.ha
  · rw [heap_setCell_same w gb j _ 5 _ A.hb]; simp
  · exact A.ht.keep (heap_setCell_other _ _ _ _ (Ne.symm A.bt))
  · rw [heap_setCell_other _ _ _ _ (Ne.symm A.bg)]; exact A.hg
def PutPost (a gb gt gg N : Nat) (cur : Array Value) (h l at_ : Nat) (v : Int) (w : World) (e : Ending) (w' : World) : Prop :=
  e = .returned (.int .i64 0) ∧ ArA w' a gb gt gg N (putV cur at_ v 8) h l ∧ Ex (· = gb) w w'
set_option maxRecDepth 100000 in
theorem put_8 (w : World) (a gb gt gg N : Nat) (cur : Array Value) (h l at_ : Nat) (v : Int) (A : ArA w a gb gt gg N cur h l) (hn : at_ + 8 ≤ N) (hv : v = 5 ∨ v = 6) :
    Calls Tryz.prog 70 #[.pointer (some ⟨a, 0, none⟩), .int .i64 at_, .int .i64 8, .int .u64 v] w (PutPost a gb gt gg N cur h l at_ v w) := by
  have HW := Lib.hid (word_8 w a gb gt gg N cur h l at_ A hn)
  have HA := Lib.hid A
  clear A
  go_enter Tryz.func70, Tryz.ntmps70
  go_wp2_with fail
  refine HW.out.mono ?_
  rintro e w1 ⟨rfl, rfl⟩
  go_wp2
  go_loopw [21] (fun i wr => ∃ k : Nat, k ≤ 8 ∧ i = .int .i64 k ∧ Hid (ArA wr a gb gt gg N (putV cur at_ v k) h l) ∧ Hid (Ex (· = gb) w wr)) (fun i _ => 8 - (intOf i).toNat)
  case atStart => exact ⟨0, by omega, rfl, HA, Lib.hid (Ex.refl _ _)⟩
  case round =>
    obtain ⟨k, hk, rfl, HAr, HX⟩ := hrel
    by_cases hlt : k < 8
    · obtain ⟨u, ck⟩ : ∃ u, wr.cell? ⟨gb, at_ + k, none⟩ = some u := ⟨_, (cell_of_row wr gb (at_ + k) _ _ _ HAr.out.hb).trans (Array.getElem?_eq_getElem (by rw [HAr.out.hs]; omega))⟩
      have q := fun j => frozen_of_row wr gb j _ _ HAr.out.hb
      go_wp2
      go_roundw
      case rel =>
        exact ⟨k + 1, by omega, by go_num, Lib.hid (HAr.out.setB _ _), Lib.hid (HX.out.setCell _ _ rfl)⟩
      case measure => simp [intOf]; omega
    · go_wp2
      go_ret
      obtain rfl : k = 8 := by omega
      exact ⟨rfl, HAr.out, HX.out⟩
theorem putV_other (cur : Array Value) (at_ : Nat) (v : Int) (k j : Nat) (h : j < at_ ∨ at_ + k ≤ j) : (putV cur at_ v k)[j]? = cur[j]? := by
  induction k with
  | zero => rfl
  | succ k ih =>
    simp only [putV, Array.set!_eq_setIfInBounds]
    rw [Array.getElem?_setIfInBounds_ne (by omega)]
    exact ih (by omega)
theorem putV_at (cur : Array Value) (at_ : Nat) (v : Int) (k j : Nat) (h : j < k) (hs : at_ + k ≤ cur.size) : (putV cur at_ v k)[at_ + j]? = some (.int .u8 (v / 2 ^ (8 * j) % 256)) := by
  induction k with
  | zero => omega
  | succ k ih =>
    simp only [putV, Array.set!_eq_setIfInBounds]
    by_cases e : j = k
    · subst e
      rw [Array.getElem?_setIfInBounds_self_of_lt (by rw [putV_size]; omega)]
    · rw [Array.getElem?_setIfInBounds_ne (by omega)]
      exact ih (by omega) (by omega)
theorem or_law (k : Nat) (hk : k < 8) (v : Int) (hv : v = 5 ∨ v = 6) :
    bits BinOp.or IntKind.u64 (if k = 0 then 0 else v) (IntKind.u64.wrap (v / 2 ^ (8 * k) % 256 * 2 ^ (8 * k))) = v := by
  obtain rfl | rfl | rfl | rfl | rfl | rfl | rfl | rfl : k = 0 ∨ k = 1 ∨ k = 2 ∨ k = 3 ∨ k = 4 ∨ k = 5 ∨ k = 6 ∨ k = 7 := by omega
  all_goals rcases hv with rfl | rfl <;> decide
set_option maxRecDepth 100000 in
theorem get_8 (w : World) (a gb gt gg N : Nat) (cur : Array Value) (h l at_ : Nat) (v : Int) (A : ArA w a gb gt gg N cur h l) (hn : at_ + 8 ≤ N) (hv : v = 5 ∨ v = 6)
    (hb : ∀ j, j < 8 → cur[at_ + j]? = some (.int .u8 (v / 2 ^ (8 * j) % 256))) :
    Calls Tryz.prog 62 #[.pointer (some ⟨a, 0, none⟩), .int .i64 at_, .int .i64 8] w fun e w' => e = .returned (.tuple #[.int .u64 v, .int .i64 0]) ∧ w = w' := by
  have HW := Lib.hid (word_8 w a gb gt gg N cur h l at_ A hn)
  have HB := Lib.hid (fun j (hj : j < 8) => (cell_of_row w gb (at_ + j) _ _ _ A.hb).trans (hb j hj))
  clear A hb
  go_enter Tryz.func62, Tryz.ntmps62
  go_wp2_with fail
  refine HW.out.mono ?_
  rintro e w1 ⟨rfl, rfl⟩
  go_wp2
  go_loop [25, 10] (fun i x => ∃ k : Nat, k ≤ 8 ∧ i = .int .i64 k ∧ x = .int .u64 (if k = 0 then 0 else v)) (fun i _ => 8 - (intOf i).toNat)
  case atStart => exact ⟨0, by omega, rfl, rfl⟩
  case round =>
    obtain ⟨k, hk, rfl, rfl⟩ := hrel
    by_cases hlt : k < 8
    · have ck := HB.out k hlt
      generalize hc : v / 2 ^ (8 * k) % 256 = c at ck
      generalize hx : (if k = 0 then 0 else v) = x
      have HC := Lib.hid hc
      have HXX := Lib.hid hx
      have hc1 : 0 ≤ c ∧ c < 256 := by omega
      have hx1 : 0 ≤ x ∧ x < 256 := by rw [← hx]; split <;> omega
      clear hc hx
      go_wp2
      go_round
      case rel => exact ⟨k + 1, by omega, by go_num, by rw [← HC.out, ← HXX.out, or_law k hlt v hv]; rfl⟩
      case measure => simp [intOf]; omega
    · go_wp2
      go_ret2
      obtain rfl : k = 8 := by omega
      exact ⟨rfl, rfl⟩
end Go.Proofs.YtmfbfbinimnchaaGreatDoor
