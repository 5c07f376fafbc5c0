/- Walks: valid.All, over whatever check.Func tells. No condition. -/
import Derived.Test.YtmfbfbinimnchaaGreatDoorMC
import Derived.OwnWalk
import Derived.Laws.AppendOwn
set_option linter.unusedVariables false
set_option linter.unusedSimpArgs false
namespace Go.Proofs.YtmfbfbinimnchaaGreatDoor
open Go.RowKit Go.Sort

theorem info164 : (Tryz.prog.info? 164).map (fun i => (i.zero, i.size, i.bytes)) = some (some (.agg #[.string ⟨#[]⟩, .int .i64 0, .int .i64 0, .int .i64 0]), 4, 40) := by kernel_rfl

/-- how many of the numbers E k, .., E (k + d - 1) aren't 0 -/
def badN (E : Nat → Int) : Nat → Nat → Nat
  | _, 0 => 0
  | k, d + 1 => (if E k == 0 then 0 else 1) + badN E (k + 1) d

/-- what the first of n findings reads as -/
def Fst (n : Nat) (xs : List Value) : Prop := 0 < n → ∃ (s : ByteArray) (a p c : Int) (ys : List Value), xs = .string s :: .int .i64 a :: .int .i64 p :: .int .i64 c :: ys
theorem Fst.app {n : Nat} {xs : List Value} (h : Fst n xs) (hl : xs.length = n * 4) (s : ByteArray) (a p c : Int) : Fst (n + 1) (xs ++ [.string s, .int .i64 a, .int .i64 p, .int .i64 c]) := by
  intro _
  by_cases h0 : 0 < n
  · obtain ⟨s', a', p', c', ys, rfl⟩ := h h0
    exact ⟨s', a', p', c', ys ++ [.string s, .int .i64 a, .int .i64 p, .int .i64 c], by simp⟩
  · have : xs = [] := List.eq_nil_of_length_eq_zero (by omega)
    subst this
    exact ⟨s, a, p, c, [], by simp⟩
def AllPost (n : Nat) (w : World) (e : Ending) (w' : World) : Prop :=
  ∃ v xs, e = .returned v ∧ w'.ownsRow w.heap.size 164 4 v n xs ∧ Fst n xs ∧ Below w.heap.size w w'

set_option maxHeartbeats 1000000 in
theorem all_bad (I : Nat → Prop) (b : Nat) (v0 v1 v2 v4 v5 v6 v8 v9 : Value) (M : Mod) (w : World) (hM : RMod I w b v0 v1 v2 v4 v5 v6 v8 v9 M) (h : ¬ fitE M = 0) :
    Calls Tryz.prog 112 #[.pointer (some ⟨b, 0, none⟩)] w (AllPost 1 w) := by
  have H := Lib.hid (fit_any I b v0 v1 v2 v4 v5 v6 v8 v9 M w hM)
  have hz2 : (fitE M != 0) = true := by simp [h]
  clear hM h
  go_enter Tryz.func112, Tryz.ntmps112
  go_wp2_with fail
  refine H.out.mono ?_
  rintro e w1 ⟨⟨s, rfl⟩, hb⟩
  go_wp2
  go_ret
  refine ⟨_, _, rfl, ⟨rfl, .inr ⟨w1.heap.size, 1, #[.string s, .int .i64 (-1), .int .i64 0, .int .i64 (fitE M)], rfl, hb.size, heap_alloc_new _ _, by omega, by simp [maxLen], rfl, rfl⟩⟩, fun _ => ⟨s, _, _, _, [], rfl⟩, Bl.alloc hb _⟩

def ChkPost (n : Int) (w : World) (e : Ending) (w' : World) : Prop := (∃ a : Int, e = .returned (.tuple #[.int .i64 a, .int .i64 n])) ∧ Below w.heap.size w w'

theorem badN_step (E : Nat → Int) (k n : Nat) (h : k < n) : badN E k (n - k) = (if E k == 0 then 0 else 1) + badN E (k + 1) (n - (k + 1)) := by
  obtain ⟨d, hd⟩ : ∃ d, n - k = d + 1 := ⟨n - k - 1, by omega⟩
  rw [hd, badN, show n - (k + 1) = d by omega]
theorem badN_le (E : Nat → Int) (d : Nat) : ∀ k, badN E k d ≤ d := by
  induction d with
  | zero => intro k; simp [badN]
  | succ d ih => intro k; have := ih (k + 1); simp only [badN]; split <;> omega

theorem news_new (w : World) (cs : Array Value) (t : TypeId) : ∀ j u, cs.toList[j]? = some u → (w.alloc (.cells cs t)).cell? ((⟨w.heap.size, 0, none⟩ : Addr).add j) = some u := by
  intro j u h
  have e : (⟨w.heap.size, 0, none⟩ : Addr).add j = ⟨w.heap.size, j, none⟩ := by unfold Addr.add; split <;> simp_all
  rw [e]; simpa using h
theorem own_bl {w w1 : World} {base n : Nat} {e : TypeId} {size : Nat} {v : Value} {xs : List Value} (h : w.ownsRow base e size v n xs) (hb : Below w.heap.size w w1) : w1.ownsRow base e size v n xs :=
  h.kept (show w.grownBy w1 none from ⟨hb.os, hb.tape, hb.output, hb.size, fun j hj _ => hb.block j hj⟩) (by cases v.ownBlock <;> simp)
theorem grown_Bl {w wr w1 : World} {v : Value} {xs : List Value} {n : Nat} (hb : Below w.heap.size w wr) (hown : wr.ownsRow w.heap.size 164 4 v n xs) {o : Obj} (hg : (wr.alloc o).grownBy w1 v.ownBlock) : Below w.heap.size w w1 :=
  (Bl.alloc hb o).grown hg (Nat.le_trans hb.size (by simp)) fun k hk => by
    rcases hown.2 with ⟨rfl, _⟩ | ⟨g, cap, cur, rfl, hbg, _⟩
    · simp [Value.ownBlock] at hk
    · simp [Value.ownBlock] at hk; omega

set_option maxHeartbeats 2000000 in
theorem all_fit (I : Nat → Prop) (b : Nat) (v0 v1 v2 v4 v5 v6 v8 v9 : Value) (M : Mod) (E : Nat → Int) (w : World) (hM : RMod I w b v0 v1 v2 v4 v5 v6 v8 v9 M) (h : fitE M = 0) (hlen : M.funcs.length ≤ 100)
    (hE : ∀ i, i < M.funcs.length → ∀ w', Below w.heap.size w w' → Calls Tryz.prog 140 #[.pointer (some ⟨b, 0, none⟩), .int .i64 i] w' (ChkPost (E i) w')) :
    Calls Tryz.prog 112 #[.pointer (some ⟨b, 0, none⟩)] w (AllPost (badN E 0 M.funcs.length) w) := by
  have H := Lib.hid (fit_any I b v0 v1 v2 v4 v5 v6 v8 v9 M w hM)
  rw [h] at H
  obtain ⟨i0, hi0, hz0, hz1, hz2⟩ := info_parts info164
  obtain ⟨A2, k2, e2, l2⟩ := hM.ps.s2.form
  have c2 := hM.c2.trans (congrArg some e2)
  have hb2 := hM.hb
  have HE := Lib.hid hE
  clear hM h hE e2 l2
  go_enter Tryz.func112, Tryz.ntmps112
  go_wp2_with fail
  refine H.out.mono ?_
  rintro e w1 ⟨⟨s, rfl⟩, hb⟩
  have d2 := (below_cell hb hb2 2).trans c2
  clear c2 H
  go_wp2
  go_loopw [25, 5] (fun i v wr => ∃ (k n : Nat) (xs : List Value), k ≤ M.funcs.length ∧ n ≤ k ∧ i = .int .i64 k ∧ Below w.heap.size w wr ∧ wr.ownsRow w.heap.size 164 4 v n xs ∧ Fst n xs ∧ Hid (badN E 0 M.funcs.length = n + badN E k (M.funcs.length - k))) (fun i _ _ => M.funcs.length - (intOf i).toNat)
  case atStart => exact ⟨0, 0, [], Nat.zero_le _, Nat.le_refl _, rfl, hb, ⟨rfl, .inl ⟨rfl, rfl⟩⟩, fun h => absurd h (by omega), Lib.hid (by simp)⟩
  case round =>
    obtain ⟨k, n, xs, hk, hnk, rfl, hbr, hown, hfst, hi⟩ := hrel
    have HF := Lib.hid hfst
    clear hfst
    by_cases hlt : k < M.funcs.length
    · have hd := Lib.hid (badN_step E k M.funcs.length hlt)
      go_wp2_with fail
      refine (HE.out k hlt wr hbr).mono ?_
      rintro e w2 ⟨⟨a, rfl⟩, hb3⟩
      have hown2 := own_bl hown hb3
      have hbr2 := Bl.then hbr hb3
      clear hown hbr hb3
      by_cases hz : E k = 0
      · have hz' : (E k != 0) = false := by simp [hz]
        have hn := Lib.hid (hi.out.trans (show _ = n + badN E (k + 1) (M.funcs.length - (k + 1)) by rw [hd.out]; simp [hz]))
        clear hi hd hz
        go_wp2
        go_roundw
        case rel => exact ⟨k + 1, n, xs, by omega, by omega, by go_num, hbr2, hown2, HF.out, hn⟩
        case measure => simp [intOf]; omega
      · have hz' : (E k != 0) = true := by simp [hz]
        have hn := Lib.hid (hi.out.trans (show _ = (n + 1) + badN E (k + 1) (M.funcs.length - (k + 1)) by rw [hd.out]; simp [hz]; omega))
        clear hi hd hz
        go_wp2_with (at_builtin; refine wpList_append_own _ rfl _ _ 241 rfl w.heap.size 164 i0 (.agg #[.string ⟨#[]⟩, .int .i64 0, .int .i64 0, .int .i64 0]) 4 40 Tryz.underlying241 hi0 hz0 hz1 hz2 rfl (by decide) _ _ _ rfl (hown2.alloc _) ⟨w2.heap.size, 0, none⟩ 1 1 [.string ⟨#[102, 117, 110, 99]⟩, .int .i64 k, .int .i64 a, .int .i64 (E k)] rfl rfl ?c1 ?c2 ?c3 ?c4 ?c5 ?_)
        case c1 => exact news_new w2 #[.string ⟨#[102, 117, 110, 99]⟩, .int .i64 k, .int .i64 a, .int .i64 (E k)] 164
        case c2 => simp [Value.oneCell']
        case c3 => unfold maxLen; omega
        case c4 => omega
        case c5 => simp; have := hbr2.size; omega
        intro v' w3 hown3 hg3 _
        have hbr3 := grown_Bl hbr2 hown2 hg3
        have HF2 := Lib.hid (HF.out.app hown2.1 ⟨#[102, 117, 110, 99]⟩ k a (E k))
        clear HF
        clear hown2 hbr2 hg3
        go_wp2
        go_roundw
        case rel => exact ⟨k + 1, n + 1, _, by omega, by omega, by go_num, hbr3, hown3, HF2.out, hn⟩
        case measure => simp [intOf]; omega
    · have hn : Hid (badN E 0 M.funcs.length = n) := hi.out.trans (by rw [show M.funcs.length - k = 0 by omega]; rfl)
      clear hi
      go_wp2
      go_ret
      rw [hn.out]
      exact ⟨_, _, rfl, hown, HF.out, hbr⟩

/-- the verdict's number: how many findings -/
def findN (M : Mod) (E : Nat → Int) : Nat := if fitE M = 0 then badN E 0 M.funcs.length else 1
def Chk (b : Nat) (M : Mod) (E : Nat → Int) (w : World) : Prop := ∀ i, i < M.funcs.length → ∀ w', Below w.heap.size w w' → Calls Tryz.prog 140 #[.pointer (some ⟨b, 0, none⟩), .int .i64 i] w' (ChkPost (E i) w')
theorem fit_funcs (M : Mod) (h : fitE M = 0) : M.funcs.length ≤ 100 := by
  have h1 : funcsE M = 0 := by
    unfold fitE partsE at h
    simp only [nz] at h
    split at h <;> rename_i e0
    · split at h <;> rename_i e1
      · split at h <;> rename_i e2
        · simpa using e2
        · simp_all
      · simp_all
    · simp_all
  unfold funcsE Mod.count at h1
  split at h1
  · cases h1
  · omega
theorem allof_any (I : Nat → Prop) (b : Nat) (v0 v1 v2 v4 v5 v6 v8 v9 : Value) (M : Mod) (E : Nat → Int) (w : World) (hM : RMod I w b v0 v1 v2 v4 v5 v6 v8 v9 M) (hE : fitE M = 0 → Chk b M E w) :
    Calls Tryz.prog 112 #[.pointer (some ⟨b, 0, none⟩)] w (AllPost (findN M E) w) := by
  unfold findN
  split
  · rename_i h; exact all_fit I b v0 v1 v2 v4 v5 v6 v8 v9 M E w hM h (fit_funcs M h) (hE h)
  · rename_i h; exact all_bad I b v0 v1 v2 v4 v5 v6 v8 v9 M w hM h
end Go.Proofs.YtmfbfbinimnchaaGreatDoor
