/- Walks: (*module.Module).number, Sig. No condition. -/
import Derived.Test.YtmfbfbinimnchaaGreatDoorM7
set_option linter.unusedVariables false
set_option linter.unusedSimpArgs false
namespace Go.Proofs.YtmfbfbinimnchaaGreatDoor
open Go.RowKit Go.Sort

def numV (o : Option Int) : Value := .tuple #[.int .i64 (o.getD 0), .bool o.isSome]
theorem number_any (I : Nat → Prop) (b : Nat) (v0 v1 v2 v4 v5 v6 v8 v9 : Value) (M : Mod) (w : World) (hM : RMod I w b v0 v1 v2 v4 v5 v6 v8 v9 M) (f : Int) :
    Calls Tryz.prog 113 #[.pointer (some ⟨b, 0, none⟩), .int .i64 f] w fun e w' => e = .returned (numV (M.number f)) ∧ Below w.heap.size w w' := by
  have HC := Lib.hid (fun (w' : World) (h : Below w.heap.size w w') => count_any I b v0 v1 v2 v4 v5 v6 v8 v9 M w' (hM.bl h))
  have H1 := Lib.hid hM.ps.s1
  have H2 := Lib.hid hM.ps.s2
  obtain ⟨A1, k1, rfl, l1⟩ := hM.ps.s1.form
  obtain ⟨A2, k2, rfl, l2⟩ := hM.ps.s2.form
  have c1 := hM.c1
  have c2 := hM.c2
  have hct : M.count = M.imports.length + M.funcs.length := rfl
  clear hM
  by_cases h0 : f < 0
  · have hn := Lib.hid (show M.number f = none by unfold Mod.number; rw [if_pos (.inl h0)])
    clear hct H1 H2
    go_enter Tryz.func113, Tryz.ntmps113
    go_wp2
    go_ret2
    exact ⟨by rw [hn.out]; rfl, Below.refl _ _⟩
  · by_cases h1 : M.count ≤ f
    · have hn := Lib.hid (show M.number f = none by unfold Mod.number; rw [if_pos (.inr h1)])
      clear hct H1 H2
      go_enter Tryz.func113, Tryz.ntmps113
      go_wp2_with (go_at_call 38; refine (HC.out _ (Below.refl _ _)).mono ?_; rintro e w1 ⟨rfl, k, rfl⟩)
      go_ret2
      exact ⟨by rw [hn.out]; rfl, drewN_Bl _ _⟩
    · by_cases h2 : f < M.imports.length
      · obtain ⟨m, rfl⟩ := Int.eq_ofNat_of_zero_le (show 0 ≤ f by omega)
        have hml : m < M.imports.length := by omega
        have hn := Lib.hid (show M.number m = some M.imports[m].sig by
          unfold Mod.number; rw [if_neg (by omega), if_pos h2, Int.toNat_natCast, getElem!_pos M.imports m hml])
        obtain ⟨g, o, c, cs, hs, _, hg, hl, hcs, hf⟩ := H1.out.at_ m hml
        obtain ⟨rfl, _⟩ := hcs
        obtain ⟨rfl, rfl⟩ : A1 = some ⟨g, o, none⟩ ∧ k1 = c := by simpa using hs
        have q2 : w.cell? ⟨g, o + m * 3 + 2, none⟩ = some (.int .i64 M.imports[m].sig) := hf 2 (by omega)
        clear hct H1 H2 hs hf h2
        go_enter Tryz.func113, Tryz.ntmps113
        go_wp2_with (go_at_call 38; refine (HC.out _ (Below.refl _ _)).mono ?_; rintro e w1 ⟨rfl, k, rfl⟩)
        go_ret2
        exact ⟨by rw [hn.out]; rfl, drewN_Bl _ _⟩
      · obtain ⟨m, hm⟩ := Int.eq_ofNat_of_zero_le (show 0 ≤ f - M.imports.length by omega)
        obtain rfl : f = M.imports.length + m := by omega
        have hml : m < M.funcs.length := by omega
        have hn := Lib.hid (show M.number (M.imports.length + m) = some M.funcs[m].sig by
          unfold Mod.number; rw [if_neg (by omega), if_neg h2, hm]; simp [getElem!_pos M.funcs m hml])
        obtain ⟨g, o, c, cs, hs, _, hg, hl, hcs, hf⟩ := H2.out.at_ m hml
        obtain ⟨vl, vL, rfl, _⟩ := hcs
        obtain ⟨rfl, rfl⟩ : A2 = some ⟨g, o, none⟩ ∧ k2 = c := by simpa using hs
        have q2 : w.cell? ⟨g, o + m * 3, none⟩ = some (.int .i64 M.funcs[m].sig) := hf 0 (by omega)
        clear hct H1 H2 hs hf hm
        go_enter Tryz.func113, Tryz.ntmps113
        go_wp2_with (go_at_call 38; refine (HC.out _ (Below.refl _ _)).mono ?_; rintro e w1 ⟨rfl, k, rfl⟩)
        go_ret2
        exact ⟨by rw [hn.out]; rfl, drewN_Bl _ _⟩

def GotSig (I : Nat → Prop) (w : World) (o : Option Sg) (e : Ending) (w' : World) : Prop :=
  (∃ vp vr, e = .returned (.tuple #[.agg #[vp, vr], .bool o.isSome]) ∧ RI I w .u8 vp (o.getD ⟨[], []⟩).P ∧ RI I w .u8 vr (o.getD ⟨[], []⟩).R) ∧ Below w.heap.size w w'
theorem RI.nil (I : Nat → Prop) (w : World) (k : IntKind) : RI I w k (.slice none 0 0) [] := ⟨none, 0, rfl, by simp, fun h => absurd h (by simp)⟩
theorem sig_any (I : Nat → Prop) (b : Nat) (v0 v1 v2 v4 v5 v6 v8 v9 : Value) (M : Mod) (w : World) (hM : RMod I w b v0 v1 v2 v4 v5 v6 v8 v9 M) (f : Int) :
    Calls Tryz.prog 83 #[.pointer (some ⟨b, 0, none⟩), .int .i64 f] w (GotSig I w (M.sig f)) := by
  have hb0 := Bl.alloc (Below.refl w.heap.size w) (.cells #[.slice none 0 0, .slice none 0 0] 115)
  have HN := Lib.hid (number_any I b v0 v1 v2 v4 v5 v6 v8 v9 M _ (hM.bl hb0) f)
  have H0 := Lib.hid hM.ps.s0
  obtain ⟨A0, k0, rfl, l0⟩ := hM.ps.s0.form
  have c0 := hM.c0
  have hb := hM.hb
  have NG := Lib.hid (RI.nil I w .u8)
  clear hM
  cases hn : M.number f with
  | none =>
    rw [hn] at HN
    have hs : M.sig f = none := by unfold Mod.sig; rw [hn]
    rw [hs]
    clear hs hn H0
    go_enter Tryz.func83, Tryz.ntmps83
    go_wp2_with fail
    refine HN.out.mono ?_
    rintro e w1 ⟨rfl, hb1⟩
    have hB := Lib.hid (Bl.then hb0 hb1)
    have hr := (hb1.block w.heap.size (by simp)).trans (heap_alloc_new w _)
    have q := fun j => frozen_of_row w1 w.heap.size j _ _ hr
    have r0 := cell_of_row w1 w.heap.size 0 _ _ _ hr
    have r1 := cell_of_row w1 w.heap.size 1 _ _ _ hr
    simp at r0 r1
    clear hr hb1 hb0
    unfold numV
    go_wp2
    refine bodyPost_ret (v := .tuple #[.agg #[.slice none 0 0, .slice none 0 0], .bool false]) (by simp [results, Tryz.results83, go_sem, *]) rfl ⟨⟨_, _, rfl, NG.out, NG.out⟩, ?_⟩
    exact (hB.out.setCell (Nat.le_refl _) _).setCell (Nat.le_refl _) _
  | some n =>
    rw [hn] at HN
    by_cases hh : hasB n M.sigs.length = true
    · have hh' : 0 ≤ n ∧ n < M.sigs.length := by simpa [hasB] using hh
      obtain ⟨m, rfl⟩ := Int.eq_ofNat_of_zero_le hh'.1
      have hml : m < M.sigs.length := by omega
      have hs : M.sig f = some M.sigs[m] := by unfold Mod.sig; rw [hn]; simp only [hh, if_true, Int.toNat_natCast]; simp [hml]
      rw [hs]
      obtain ⟨g, o, c, cs, hsl, _, hg, hl, ⟨vp, vr, rfl, hP, hR⟩, hf⟩ := H0.out.at_ m hml
      obtain ⟨rfl, rfl⟩ : A0 = some ⟨g, o, none⟩ ∧ k0 = c := by simpa using hsl
      have f0 : w.cell? ⟨g, o + m * 2, none⟩ = some vp := hf 0 (by omega)
      have f1 : w.cell? ⟨g, o + m * 2 + 1, none⟩ = some vr := hf 1 (by omega)
      have HP := Lib.hid hP
      have HR := Lib.hid hR
      obtain ⟨Ap, cp, rfl, lp⟩ := hP.at_
      obtain ⟨Ar, cr, rfl, lr⟩ := hR.at_
      clear hs hn hf hsl H0 hh' hP hR
      go_enter Tryz.func83, Tryz.ntmps83
      go_wp2_with fail
      refine HN.out.mono ?_
      rintro e w1 ⟨rfl, hb1⟩
      have hB0 := Bl.then hb0 hb1
      have hB := Lib.hid hB0
      have d0 := (below_cell hB0 hb 0).trans c0
      have e0 := (below_cell hB0 hg _).trans f0
      have e1 := (below_cell hB0 hg _).trans f1
      have hr := (hb1.block w.heap.size (by simp)).trans (heap_alloc_new w _)
      have q := fun j => frozen_of_row w1 w.heap.size j _ _ hr
      have r0 := cell_of_row w1 w.heap.size 0 _ _ _ hr
      have r1 := cell_of_row w1 w.heap.size 1 _ _ _ hr
      simp at r0 r1
      clear hr hb1 hb0 hB0 c0 f0 f1
      unfold numV
      go_wp2_with (go_at_call 114; refine (hasB_any _ _ _).mono ?_; rintro e w' ⟨rfl, rfl⟩)
      refine bodyPost_ret (v := .tuple #[.agg #[.slice Ap M.sigs[m].P.length cp, .slice Ar M.sigs[m].R.length cr], .bool true]) (by simp [results, Tryz.results83, go_sem, *]) rfl ⟨⟨_, _, rfl, HP.out, HR.out⟩, ?_⟩
      exact (hB.out.setCell (Nat.le_refl _) _).setCell (Nat.le_refl _) _
    · have hs : M.sig f = none := by unfold Mod.sig; rw [hn]; simp [hh]
      rw [hs]
      clear hs hn H0
      go_enter Tryz.func83, Tryz.ntmps83
      go_wp2_with fail
      refine HN.out.mono ?_
      rintro e w1 ⟨rfl, hb1⟩
      have hB0 := Bl.then hb0 hb1
      have hB := Lib.hid hB0
      have d0 := (below_cell hB0 hb 0).trans c0
      have hr := (hb1.block w.heap.size (by simp)).trans (heap_alloc_new w _)
      have q := fun j => frozen_of_row w1 w.heap.size j _ _ hr
      have r0 := cell_of_row w1 w.heap.size 0 _ _ _ hr
      have r1 := cell_of_row w1 w.heap.size 1 _ _ _ hr
      simp at r0 r1
      clear hr hb1 hb0 hB0 c0
      unfold numV
      go_wp2_with (go_at_call 114; refine (hasB_any _ _ _).mono ?_; rintro e w' ⟨rfl, rfl⟩)
      refine bodyPost_ret (v := .tuple #[.agg #[.slice none 0 0, .slice none 0 0], .bool false]) (by simp [results, Tryz.results83, go_sem, *]) rfl ⟨⟨_, _, rfl, NG.out, NG.out⟩, ?_⟩
      exact (hB.out.setCell (Nat.le_refl _) _).setCell (Nat.le_refl _) _
end Go.Proofs.YtmfbfbinimnchaaGreatDoor
