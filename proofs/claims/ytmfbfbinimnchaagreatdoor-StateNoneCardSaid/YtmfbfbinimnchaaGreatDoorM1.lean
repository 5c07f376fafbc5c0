/- Walks: (*module.Module).Count, Named, first, many. No condition. -/
import Derived.Test.YtmfbfbinimnchaaGreatDoorD0
set_option linter.unusedVariables false
set_option linter.unusedSimpArgs false
namespace Go.Proofs.YtmfbfbinimnchaaGreatDoor
open Go.RowKit

theorem drewN_Bl (w : World) (n : Nat) : Below w.heap.size w (w.drewN n) := Bl.drewN (Below.refl _ _) n

theorem RL.form {α : Type} {I : Nat → Prop} {sz : Nat} {R : World → List Value → α → Prop} {w : World} {v : Value} {xs : List α} (h : RL I sz R w v xs) :
    ∃ A c, v = .slice A xs.length c ∧ xs.length ≤ 140737488351232 := by obtain ⟨A, c, hv, hl, _⟩ := h; exact ⟨A, c, hv, hl⟩

theorem count_any (I : Nat → Prop) (b : Nat) (v0 v1 v2 v4 v5 v6 v8 v9 : Value) (M : Mod) (w : World) (hM : RMod I w b v0 v1 v2 v4 v5 v6 v8 v9 M) :
    Calls Tryz.prog 38 #[.pointer (some ⟨b, 0, none⟩)] w fun e w' => e = .returned (.int .i64 M.count) ∧ ∃ k, w' = w.drewN k := by
  obtain ⟨A1, k1, rfl, l1⟩ := hM.ps.s1.form
  obtain ⟨A2, k2, rfl, l2⟩ := hM.ps.s2.form
  have c1 := hM.c1
  have c2 := hM.c2
  clear hM
  unfold Mod.count
  go_enter Tryz.func38, Tryz.ntmps38
  go_wp2
  go_quiet (fail)
  go_wp2
  go_ret
  exact ⟨rfl, _, rfl⟩

theorem bytes_all_drop (s : ByteArray) (p : UInt8 → Bool) (k : Nat) (h : k < s.size) : (s.data.toList.drop k).all p = (p s[k] && (s.data.toList.drop (k + 1)).all p) := by
  have h' : k < s.data.toList.length := by simpa using h
  rw [List.drop_eq_getElem_cons h', List.all_cons]; rfl
def nmC (c : UInt8) : Bool := decide (33 ≤ (c.toNat : Int)) && decide ((c.toNat : Int) ≤ 126)
theorem namedF_bad (s : ByteArray) (h : s.data.toList.all nmC = false) : namedF s = false := by
  unfold namedF; rw [show (fun c : UInt8 => decide (33 ≤ (c.toNat : Int)) && decide ((c.toNat : Int) ≤ 126)) = nmC from rfl, h]; rfl
theorem namedF_good (s : ByteArray) (h : s.data.toList.all nmC = true) : namedF s = (!s.data.toList.isEmpty && decide (s.size ≤ 30)) := by
  unfold namedF; rw [show (fun c : UInt8 => decide (33 ≤ (c.toNat : Int)) && decide ((c.toNat : Int) ≤ 126)) = nmC from rfl, h]; simp
theorem named_any (s : ByteArray) (w : World) (hs : s.size ≤ 140737488351232) :
    Calls Tryz.prog 228 #[.string s] w fun e w' => e = .returned (.bool (namedF s)) ∧ w = w' := by
  go_enter Tryz.func228, Tryz.ntmps228
  go_wp2
  go_loop [6] (fun i => ∃ k : Nat, k ≤ s.size ∧ i = .int .i64 k ∧ Hid (s.data.toList.all nmC = (s.data.toList.drop k).all nmC)) (fun i => s.size - (intOf i).toNat)
  case atStart => exact ⟨0, Nat.zero_le _, rfl, Lib.hid (by simp)⟩
  case round =>
    obtain ⟨k, hk, rfl, hi⟩ := hrel
    by_cases hlt : k < s.size
    · have hd := bytes_all_drop s nmC k hlt
      by_cases h1 : (s[k].toNat : Int) < 33
      · have hn := Lib.hid (namedF_bad s (hi.out.trans (hd.trans (show _ = false by simp [nmC]; omega))))
        clear hd hi
        go_wp2
        all_goals (go_ret; exact ⟨ret_bool (by rw [hn.out]), rfl⟩)
      · by_cases h2 : (126 : Int) < s[k].toNat
        · have hn := Lib.hid (namedF_bad s (hi.out.trans (hd.trans (show _ = false by simp [nmC]; omega))))
          clear hd hi
          go_wp2
          all_goals (go_ret; exact ⟨ret_bool (by rw [hn.out]), rfl⟩)
        · have hnc : nmC s[k] = true := by unfold nmC; rw [Bool.and_eq_true]; exact ⟨decide_eq_true (by omega), decide_eq_true (by omega)⟩
          have hn := Lib.hid (hi.out.trans (hd.trans (by rw [hnc, Bool.true_and])))
          clear hnc
          clear hd hi
          go_wp2
          all_goals
            go_round
            case rel => exact ⟨k + 1, by omega, by go_num, hn⟩
            case measure => simp [intOf]; omega
    · have hn := Lib.hid (namedF_good s (hi.out.trans (show _ = true by rw [List.drop_of_length_le (by simpa using (by omega : s.size ≤ k))]; rfl)))
      rw [← ByteArray.toList_eq] at hn
      clear hi
      go_wp2
      all_goals (go_ret; refine ⟨ret_bool ?_, rfl⟩; rw [hn.out]; first | (rw [show s.toList = [] by assumption]; rfl) | (congr 1; exact decide_eq_decide.2 (by omega)))

/-! ### first, many: what a closure tells -/
theorem firstE_step (f : Nat → Int) (k n : Nat) (h : k < n) : firstE f k (n - k) = if f k == 0 then firstE f (k + 1) (n - (k + 1)) else f k := by
  obtain ⟨d, hd⟩ : ∃ d, n - k = d + 1 := ⟨n - k - 1, by omega⟩
  rw [hd, firstE, show n - (k + 1) = d by omega]
theorem first_any (K : Nat) (caps : Array Value) (f : Nat → Int) (n : Nat) (w : World) (hn : n ≤ 140737488351232)
    (hcall : ∀ args w, (callFunc K args).run Tryz.prog w = .ok (.enter K args) w)
    (hf : ∀ i, i < n → ∀ w', Below w.heap.size w w' → Calls Tryz.prog K (#[.int .i64 i] ++ caps) w' fun e w'' => e = .returned (.int .i64 (f i)) ∧ Below w'.heap.size w' w'') :
    Calls Tryz.prog 229 #[.int .i64 n, .func (.func K) #[] caps] w fun e w' => e = .returned (.int .i64 (firstE f 0 n)) ∧ Below w.heap.size w w' := by
  go_enter Tryz.func229, Tryz.ntmps229
  have H0 := Lib.hid hf; clear hf
  go_wp2
  go_loopw [8] (fun i wr => ∃ k : Nat, k ≤ n ∧ i = .int .i64 k ∧ Below w.heap.size w wr ∧ Hid (firstE f 0 n = firstE f k (n - k))) (fun i _ => n - (intOf i).toNat)
  case atStart => exact ⟨0, Nat.zero_le _, rfl, Below.refl _ _, Lib.hid (by simp)⟩
  case round =>
    obtain ⟨k, hk, rfl, hb, hi⟩ := hrel
    by_cases hlt : k < n
    · have hd := Lib.hid (hi.out.trans (firstE_step f k n hlt))
      clear hi
      go_wp2_with fail
      refine (H0.out k hlt wr hb).mono ?_
      rintro e w1 ⟨rfl, hb1⟩
      have hb2 := Bl.then hb hb1
      by_cases hp : f k = 0
      · have hd2 := Lib.hid (hd.out.trans (by rw [hp]; rfl : _ = firstE f (k + 1) (n - (k + 1))))
        have hp' : (f k == 0) = true := by simp [hp]
        have hp2 : (f k != 0) = false := by simp [hp]
        clear hp hd
        go_wp2
        go_roundw
        case rel => exact ⟨k + 1, by omega, by go_num, hb2, hd2⟩
        case measure => simp [intOf]; omega
      · have hp' : (f k == 0) = false := by simp [hp]
        have hp2 : (f k != 0) = true := by simp [hp]
        have hd2 := Lib.hid (hd.out.trans (by rw [hp']; rfl : _ = f k))
        clear hp hd
        go_wp2
        go_ret
        exact ⟨by rw [hd2.out]; rfl, hb2⟩
    · have hn := Lib.hid (hi.out.trans (show firstE f k (n - k) = 0 by rw [show n - k = 0 by omega]; rfl))
      clear hi
      go_wp2
      go_ret
      exact ⟨by rw [hn.out]; rfl, hb⟩
theorem many_any (K : Nat) (caps : Array Value) (f : Nat → Int) (n most : Nat) (w : World) (hn : n ≤ 140737488351232)
    (hcall : ∀ args w, (callFunc K args).run Tryz.prog w = .ok (.enter K args) w)
    (hf : ∀ i, i < n → ∀ w', Below w.heap.size w w' → Calls Tryz.prog K (#[.int .i64 i] ++ caps) w' fun e w'' => e = .returned (.int .i64 (f i)) ∧ Below w'.heap.size w' w'') :
    Calls Tryz.prog 223 #[.int .i64 n, .int .i64 most, .func (.func K) #[] caps] w fun e w' => e = .returned (.int .i64 (manyE n most f)) ∧ Below w.heap.size w w' := by
  have hc := Lib.hid (first_any K caps f n w hn hcall hf)
  clear hf hcall
  by_cases h : most < n
  · have hm := Lib.hid (show manyE n most f = 15 by simp [manyE, h])
    go_enter Tryz.func223, Tryz.ntmps223
    go_wp2
    go_ret
    exact ⟨by rw [hm.out]; rfl, Below.refl _ _⟩
  · have hm := Lib.hid (show manyE n most f = firstE f 0 n by simp [manyE, h])
    go_enter Tryz.func223, Tryz.ntmps223
    go_wp2_with fail
    refine hc.out.mono ?_
    rintro e w1 ⟨rfl, hb⟩
    go_wp2
    go_ret
    exact ⟨by rw [hm.out]; rfl, hb⟩
end Go.Proofs.YtmfbfbinimnchaaGreatDoor
