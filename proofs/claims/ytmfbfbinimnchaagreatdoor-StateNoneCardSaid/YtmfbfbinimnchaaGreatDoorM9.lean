/- Walks: (*module.Module).sigs, imports, funcs, table, mems, globals, start, elems, datas. No condition. -/
import Derived.Test.YtmfbfbinimnchaaGreatDoorM8
set_option linter.unusedVariables false
set_option linter.unusedSimpArgs false
namespace Go.Proofs.YtmfbfbinimnchaaGreatDoor
open Go.RowKit Go.Sort

theorem sigs_any (I : Nat → Prop) (b : Nat) (v0 v1 v2 v4 v5 v6 v8 v9 : Value) (M : Mod) (w : World) (hM : RMod I w b v0 v1 v2 v4 v5 v6 v8 v9 M) :
    Calls Tryz.prog 174 #[.pointer (some ⟨b, 0, none⟩)] w fun e w' => e = .returned (.int .i64 (sigsE M)) ∧ Below w.heap.size w w' := by
  have hb0 := Bl.alloc (Below.refl w.heap.size w) (.cells #[.pointer (some ⟨b, 0, none⟩)] 38)
  have hbx : (w.alloc (.cells #[.pointer (some ⟨b, 0, none⟩)] 38)).cell? ⟨w.heap.size, 0, none⟩ = some (.pointer (some ⟨b, 0, none⟩)) := by simp
  obtain ⟨A, k, e0, l0⟩ := hM.ps.s0.form
  have hc := hM.c0.trans (congrArg some e0)
  have hb := hM.hb
  have H := Lib.hid (many_any 224 #[.pointer (some ⟨w.heap.size, 0, none⟩)] (sigs1E M) M.sigs.length 50 _ l0 Tryz.call224
    (fun i hi w' hw => sigs1_any I b w.heap.size v0 v1 v2 v4 v5 v6 v8 v9 M w' (hM.bl (Bl.then hb0 hw)) ((below_cell hw (by simp) 0).trans hbx) i hi))
  unfold sigsE
  clear hM e0 hbx
  go_enter Tryz.func174, Tryz.ntmps174
  go_wp2_with fail
  refine H.out.mono ?_
  rintro e w1 ⟨rfl, hb1⟩
  have hB := Lib.hid (Bl.then hb0 hb1)
  clear hb1 hb0
  go_wp2
  go_ret
  exact ⟨rfl, hB.out⟩

theorem imports_any (I : Nat → Prop) (b : Nat) (v0 v1 v2 v4 v5 v6 v8 v9 : Value) (M : Mod) (w : World) (hM : RMod I w b v0 v1 v2 v4 v5 v6 v8 v9 M) :
    Calls Tryz.prog 175 #[.pointer (some ⟨b, 0, none⟩)] w fun e w' => e = .returned (.int .i64 (importsE M)) ∧ Below w.heap.size w w' := by
  have hb0 := Bl.alloc (Below.refl w.heap.size w) (.cells #[.pointer (some ⟨b, 0, none⟩)] 38)
  have hbx : (w.alloc (.cells #[.pointer (some ⟨b, 0, none⟩)] 38)).cell? ⟨w.heap.size, 0, none⟩ = some (.pointer (some ⟨b, 0, none⟩)) := by simp
  obtain ⟨A, k, e0, l0⟩ := hM.ps.s1.form
  have hc := hM.c1.trans (congrArg some e0)
  have hb := hM.hb
  have H := Lib.hid (many_any 227 #[.pointer (some ⟨w.heap.size, 0, none⟩)] (imports1E M) M.imports.length 20 _ l0 Tryz.call227
    (fun i hi w' hw => imports1_any I b w.heap.size v0 v1 v2 v4 v5 v6 v8 v9 M w' (hM.bl (Bl.then hb0 hw)) ((below_cell hw (by simp) 0).trans hbx) (Nat.lt_of_lt_of_le (by simp) hw.size) i hi))
  unfold importsE
  clear hM e0 hbx
  go_enter Tryz.func175, Tryz.ntmps175
  go_wp2_with fail
  refine H.out.mono ?_
  rintro e w1 ⟨rfl, hb1⟩
  have hB := Lib.hid (Bl.then hb0 hb1)
  clear hb1 hb0
  go_wp2
  go_ret
  exact ⟨rfl, hB.out⟩

theorem mems_any (I : Nat → Prop) (b : Nat) (v0 v1 v2 v4 v5 v6 v8 v9 : Value) (M : Mod) (w : World) (hM : RMod I w b v0 v1 v2 v4 v5 v6 v8 v9 M) :
    Calls Tryz.prog 178 #[.pointer (some ⟨b, 0, none⟩)] w fun e w' => e = .returned (.int .i64 (memsE M)) ∧ Below w.heap.size w w' := by
  have hb0 := Bl.alloc (Below.refl w.heap.size w) (.cells #[.pointer (some ⟨b, 0, none⟩)] 38)
  have hbx : (w.alloc (.cells #[.pointer (some ⟨b, 0, none⟩)] 38)).cell? ⟨w.heap.size, 0, none⟩ = some (.pointer (some ⟨b, 0, none⟩)) := by simp
  obtain ⟨A, k, e0, l0⟩ := hM.ps.s4.form
  have hc := hM.c4.trans (congrArg some e0)
  have hb := hM.hb
  have H := Lib.hid (many_any 231 #[.pointer (some ⟨w.heap.size, 0, none⟩)] (mems1E M) M.mems.length 4 _ l0 Tryz.call231
    (fun i hi w' hw => mems1_any I b w.heap.size v0 v1 v2 v4 v5 v6 v8 v9 M w' (hM.bl (Bl.then hb0 hw)) ((below_cell hw (by simp) 0).trans hbx) i hi))
  unfold memsE
  clear hM e0 hbx
  go_enter Tryz.func178, Tryz.ntmps178
  go_wp2_with fail
  refine H.out.mono ?_
  rintro e w1 ⟨rfl, hb1⟩
  have hB := Lib.hid (Bl.then hb0 hb1)
  clear hb1 hb0
  go_wp2
  go_ret
  exact ⟨rfl, hB.out⟩

theorem globals_any (I : Nat → Prop) (b : Nat) (v0 v1 v2 v4 v5 v6 v8 v9 : Value) (M : Mod) (w : World) (hM : RMod I w b v0 v1 v2 v4 v5 v6 v8 v9 M) :
    Calls Tryz.prog 179 #[.pointer (some ⟨b, 0, none⟩)] w fun e w' => e = .returned (.int .i64 (globalsE M)) ∧ Below w.heap.size w w' := by
  have hb0 := Bl.alloc (Below.refl w.heap.size w) (.cells #[.pointer (some ⟨b, 0, none⟩)] 38)
  have hbx : (w.alloc (.cells #[.pointer (some ⟨b, 0, none⟩)] 38)).cell? ⟨w.heap.size, 0, none⟩ = some (.pointer (some ⟨b, 0, none⟩)) := by simp
  obtain ⟨A, k, e0, l0⟩ := hM.ps.s5.form
  have hc := hM.c5.trans (congrArg some e0)
  have hb := hM.hb
  have H := Lib.hid (many_any 233 #[.pointer (some ⟨w.heap.size, 0, none⟩)] (globals1E M) M.globals.length 50 _ l0 Tryz.call233
    (fun i hi w' hw => globals1_any I b w.heap.size v0 v1 v2 v4 v5 v6 v8 v9 M w' (hM.bl (Bl.then hb0 hw)) ((below_cell hw (by simp) 0).trans hbx) i hi))
  unfold globalsE
  clear hM e0 hbx
  go_enter Tryz.func179, Tryz.ntmps179
  go_wp2_with fail
  refine H.out.mono ?_
  rintro e w1 ⟨rfl, hb1⟩
  have hB := Lib.hid (Bl.then hb0 hb1)
  clear hb1 hb0
  go_wp2
  go_ret
  exact ⟨rfl, hB.out⟩

theorem elems_any (I : Nat → Prop) (b : Nat) (v0 v1 v2 v4 v5 v6 v8 v9 : Value) (M : Mod) (w : World) (hM : RMod I w b v0 v1 v2 v4 v5 v6 v8 v9 M) :
    Calls Tryz.prog 182 #[.pointer (some ⟨b, 0, none⟩)] w fun e w' => e = .returned (.int .i64 (elemsE M)) ∧ Below w.heap.size w w' := by
  have hb0 := Bl.alloc (Below.refl w.heap.size w) (.cells #[.pointer (some ⟨b, 0, none⟩)] 38)
  have hbx : (w.alloc (.cells #[.pointer (some ⟨b, 0, none⟩)] 38)).cell? ⟨w.heap.size, 0, none⟩ = some (.pointer (some ⟨b, 0, none⟩)) := by simp
  obtain ⟨A, k, e0, l0⟩ := hM.ps.s8.form
  have hc := hM.c8.trans (congrArg some e0)
  have hb := hM.hb
  have H := Lib.hid (many_any 238 #[.pointer (some ⟨w.heap.size, 0, none⟩)] (elems1E M) M.elems.length 20 _ l0 Tryz.call238
    (fun i hi w' hw => elems1_any I b w.heap.size v0 v1 v2 v4 v5 v6 v8 v9 M w' (hM.bl (Bl.then hb0 hw)) ((below_cell hw (by simp) 0).trans hbx) (Nat.lt_of_lt_of_le (by simp) hw.size) i hi))
  unfold elemsE
  clear hM e0 hbx
  go_enter Tryz.func182, Tryz.ntmps182
  go_wp2_with fail
  refine H.out.mono ?_
  rintro e w1 ⟨rfl, hb1⟩
  have hB := Lib.hid (Bl.then hb0 hb1)
  clear hb1 hb0
  go_wp2
  go_ret
  exact ⟨rfl, hB.out⟩

theorem datas_any (I : Nat → Prop) (b : Nat) (v0 v1 v2 v4 v5 v6 v8 v9 : Value) (M : Mod) (w : World) (hM : RMod I w b v0 v1 v2 v4 v5 v6 v8 v9 M) :
    Calls Tryz.prog 183 #[.pointer (some ⟨b, 0, none⟩)] w fun e w' => e = .returned (.int .i64 (datasE M)) ∧ Below w.heap.size w w' := by
  have hb0 := Bl.alloc (Below.refl w.heap.size w) (.cells #[.pointer (some ⟨b, 0, none⟩)] 38)
  have hbx : (w.alloc (.cells #[.pointer (some ⟨b, 0, none⟩)] 38)).cell? ⟨w.heap.size, 0, none⟩ = some (.pointer (some ⟨b, 0, none⟩)) := by simp
  obtain ⟨A, k, e0, l0⟩ := hM.ps.s9.form
  have hc := hM.c9.trans (congrArg some e0)
  have hb := hM.hb
  have H := Lib.hid (many_any 241 #[.pointer (some ⟨w.heap.size, 0, none⟩)] (datas1E M) M.datas.length 20 _ l0 Tryz.call241
    (fun i hi w' hw => datas1_any I b w.heap.size v0 v1 v2 v4 v5 v6 v8 v9 M w' (hM.bl (Bl.then hb0 hw)) ((below_cell hw (by simp) 0).trans hbx) (Nat.lt_of_lt_of_le (by simp) hw.size) i hi))
  unfold datasE
  clear hM e0 hbx
  go_enter Tryz.func183, Tryz.ntmps183
  go_wp2_with fail
  refine H.out.mono ?_
  rintro e w1 ⟨rfl, hb1⟩
  have hB := Lib.hid (Bl.then hb0 hb1)
  clear hb1 hb0
  go_wp2
  go_ret
  exact ⟨rfl, hB.out⟩

theorem funcs_any (I : Nat → Prop) (b : Nat) (v0 v1 v2 v4 v5 v6 v8 v9 : Value) (M : Mod) (w : World) (hM : RMod I w b v0 v1 v2 v4 v5 v6 v8 v9 M) :
    Calls Tryz.prog 176 #[.pointer (some ⟨b, 0, none⟩)] w fun e w' => e = .returned (.int .i64 (funcsE M)) ∧ Below w.heap.size w w' := by
  have hb0 := Bl.alloc (Below.refl w.heap.size w) (.cells #[.pointer (some ⟨b, 0, none⟩)] 38)
  have hbx : ∀ k, ((w.alloc (.cells #[.pointer (some ⟨b, 0, none⟩)] 38)).drewN k).cell? ⟨w.heap.size, 0, none⟩ = some (.pointer (some ⟨b, 0, none⟩)) := by intro k; simp
  obtain ⟨A, k, e0, l0⟩ := hM.ps.s2.form
  have hc := hM.c2.trans (congrArg some e0)
  have hb := hM.hb
  have HC := Lib.hid (count_any I b v0 v1 v2 v4 v5 v6 v8 v9 M _ (hM.bl hb0))
  have H := Lib.hid (fun d => first_any 230 #[.pointer (some ⟨w.heap.size, 0, none⟩)] (funcs1E M) M.funcs.length _ l0 Tryz.call230
    (fun i hi w' hw => funcs1_any I b w.heap.size v0 v1 v2 v4 v5 v6 v8 v9 M w' (hM.bl (Bl.then (Bl.drewN hb0 d) hw)) ((below_cell hw (by simp) 0).trans (hbx d)) i hi))
  clear hM e0 hbx
  by_cases h1 : 100 < M.count
  · have he := Lib.hid (show funcsE M = 15 by unfold funcsE; rw [if_pos h1])
    go_enter Tryz.func176, Tryz.ntmps176
    go_wp2_with fail
    refine HC.out.mono ?_
    rintro e w1 ⟨rfl, d, rfl⟩
    go_wp2
    go_ret
    exact ⟨by rw [he.out]; rfl, Bl.drewN hb0 _⟩
  · have he := Lib.hid (show funcsE M = firstE (funcs1E M) 0 M.funcs.length by unfold funcsE; rw [if_neg h1])
    go_enter Tryz.func176, Tryz.ntmps176
    go_wp2_with fail
    refine HC.out.mono ?_
    rintro e w1 ⟨rfl, d, rfl⟩
    go_wp2_with fail
    refine (H.out d).mono ?_
    rintro e w1 ⟨rfl, hb1⟩
    have hB := Lib.hid (Bl.then (Bl.drewN hb0 d) hb1)
    clear hb1 hb0
    go_wp2
    go_ret
    exact ⟨by rw [he.out]; rfl, hB.out⟩

theorem table_any (I : Nat → Prop) (b : Nat) (v0 v1 v2 v4 v5 v6 v8 v9 : Value) (M : Mod) (w : World) (hM : RMod I w b v0 v1 v2 v4 v5 v6 v8 v9 M) :
    Calls Tryz.prog 177 #[.pointer (some ⟨b, 0, none⟩)] w fun e w' => e = .returned (.int .i64 (tableE M)) ∧ w = w' := by
  have hc := hM.c3
  clear hM
  by_cases h1 : M.table < -1
  · have he := Lib.hid (show tableE M = 2 by unfold tableE; rw [if_pos h1])
    go_enter Tryz.func177, Tryz.ntmps177
    go_wp2
    go_ret
    exact ⟨by rw [he.out]; rfl, rfl⟩
  · have he := Lib.hid (show tableE M = whenE (decide (1000 < M.table)) 15 by unfold tableE; rw [if_neg h1])
    go_enter Tryz.func177, Tryz.ntmps177
    go_wp2_with (go_at_call 225; refine (whenE_any _ _ _).mono ?_; rintro e w' ⟨rfl, rfl⟩)
    all_goals (go_ret; exact ⟨ret_i64 (by rw [he.out]), rfl⟩)

theorem start_any (I : Nat → Prop) (b : Nat) (v0 v1 v2 v4 v5 v6 v8 v9 : Value) (M : Mod) (w : World) (hM : RMod I w b v0 v1 v2 v4 v5 v6 v8 v9 M) :
    Calls Tryz.prog 181 #[.pointer (some ⟨b, 0, none⟩)] w fun e w' => e = .returned (.int .i64 (startE M)) ∧ Below w.heap.size w w' := by
  have H := Lib.hid (sig_any I b v0 v1 v2 v4 v5 v6 v8 v9 M w hM M.start)
  have hc := hM.c7
  clear hM
  by_cases h1 : M.start = -1
  · have he := Lib.hid (show startE M = 0 by unfold startE; rw [h1]; rfl)
    have h2 : (M.start == -1) = true := by simp [h1]
    clear h1
    go_enter Tryz.func181, Tryz.ntmps181
    go_wp2
    go_ret
    exact ⟨by rw [he.out]; rfl, Below.refl _ _⟩
  · have h2 : (M.start == -1) = false := by simp [h1]
    clear h1
    cases hs : M.sig M.start with
    | none =>
      rw [hs] at H
      have he := Lib.hid (show startE M = 2 by unfold startE; rw [h2, hs]; rfl)
      clear hs
      go_enter Tryz.func181, Tryz.ntmps181
      go_wp2_with fail
      refine H.out.mono ?_
      rintro e w1 ⟨⟨vp, vr, rfl, hP, hR⟩, hb⟩
      obtain ⟨Ap, cp, rfl, lp⟩ := hP.at_
      obtain ⟨Ar, cr, rfl, lr⟩ := hR.at_
      clear hP hR
      go_wp2
      go_ret
      exact ⟨by rw [he.out]; rfl, Bl.alloc hb _⟩
    | some s =>
      rw [hs] at H
      have he := Lib.hid (show startE M = whenE (decide (0 < s.P.length + s.R.length)) 5 by unfold startE; rw [h2, hs]; rfl)
      clear hs
      go_enter Tryz.func181, Tryz.ntmps181
      go_wp2_with fail
      refine H.out.mono ?_
      rintro e w1 ⟨⟨vp, vr, rfl, hP, hR⟩, hb⟩
      obtain ⟨Ap, cp, rfl, lp⟩ := hP.at_
      obtain ⟨Ar, cr, rfl, lr⟩ := hR.at_
      clear hP hR
      simp only [Option.getD_some] at lp lr
      simp only [Option.getD_some, Option.isSome_some]
      go_wp2_with (go_at_call 225; refine (whenE_any _ _ _).mono ?_; rintro e w' ⟨rfl, rfl⟩)
      go_ret
      refine ⟨ret_i64 ?_, Bl.alloc hb _⟩
      rw [he.out]
      exact congrArg (whenE · 5) (decide_eq_decide.2 (by omega))
end Go.Proofs.YtmfbfbinimnchaaGreatDoor
