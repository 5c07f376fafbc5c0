/- Walks: the closures of (*module.Module).elems, datas. No condition. -/
import Derived.Test.YtmfbfbinimnchaaGreatDoorM3
set_option linter.unusedVariables false
set_option linter.unusedSimpArgs false
namespace Go.Proofs.YtmfbfbinimnchaaGreatDoor
open Go.RowKit

theorem RI.at_ {I : Nat → Prop} {w : World} {k : IntKind} {v : Value} {xs : List Int} (h : RI I w k v xs) : ∃ A c, v = .slice A xs.length c ∧ xs.length ≤ 140737488351232 := by
  obtain ⟨A, c, hv, hl, _⟩ := h; exact ⟨A, c, hv, hl⟩

theorem elems11_any (I : Nat → Prop) (b bx : Nat) (v0 v1 v2 v4 v5 v6 v8 v9 : Value) (M : Mod) (w : World) (hM : RMod I w b v0 v1 v2 v4 v5 v6 v8 v9 M)
    (hbx : w.cell? ⟨bx, 0, none⟩ = some (.pointer (some ⟨b, 0, none⟩))) (f : Int) :
    Calls Tryz.prog 240 #[.int .i64 f, .pointer (some ⟨bx, 0, none⟩)] w fun e w' => e = .returned (.bool (!hasB f M.count)) ∧ Below w.heap.size w w' := by
  have hc := Lib.hid (count_any I b v0 v1 v2 v4 v5 v6 v8 v9 M w hM)
  clear hM
  go_enter Tryz.func240, Tryz.ntmps240
  go_wp2_with fail
  refine hc.out.mono ?_
  rintro e w1 ⟨rfl, k, rfl⟩
  go_wp2_with (go_at_call 114; refine (hasB_any _ _ _).mono ?_; rintro e w' ⟨rfl, rfl⟩)
  go_ret
  exact ⟨rfl, drewN_Bl _ _⟩

theorem elems1_any (I : Nat → Prop) (b bx : Nat) (v0 v1 v2 v4 v5 v6 v8 v9 : Value) (M : Mod) (w : World) (hM : RMod I w b v0 v1 v2 v4 v5 v6 v8 v9 M)
    (hbx : w.cell? ⟨bx, 0, none⟩ = some (.pointer (some ⟨b, 0, none⟩))) (hbl : bx < w.heap.size) (i : Nat) (hi : i < M.elems.length) :
    Calls Tryz.prog 238 #[.int .i64 i, .pointer (some ⟨bx, 0, none⟩)] w fun e w' => e = .returned (.int .i64 (elems1E M i)) ∧ Below w.heap.size w w' := by
  obtain ⟨g, o, c, cs, rfl, _, hg, hl, hcs, hf⟩ := hM.ps.s8.at_ i hi
  obtain ⟨vf, rfl, hfs⟩ := hcs
  have f0 : w.cell? ⟨g, o + i * 2, none⟩ = some (.int .u64 M.elems[i].at_) := hf 0 (by omega)
  have f1 : w.cell? ⟨g, o + i * 2 + 1, none⟩ = some vf := hf 1 (by omega)
  have HE := Lib.hid (show elems1E M i = if 20 < M.elems[i].fs.length then 15 else whenE (M.table == -1 || M.elems[i].fs.any (fun f => !hasB f M.count) || decide (4294967295 < M.elems[i].at_)) 2 by unfold elems1E; rw [getElem!_pos M.elems i hi])
  have hb := hM.hb
  have c3 := hM.c3
  have c8 := hM.c8
  have H1 := Lib.hid (fun (w' : World) (h : Below w.heap.size w w') => hM.bl h)
  have H2 := Lib.hid (fun (w' : World) (h : Below w.heap.size w w') => hfs.bl h)
  have H3 := Lib.hid (fun (w' : World) (h : Below w.heap.size w w') => (below_cell h hbl 0).trans hbx)
  obtain ⟨A, cf, rfl, lf⟩ := hfs.at_
  clear hf hM hfs
  by_cases h20 : 20 < M.elems[i].fs.length
  · go_enter Tryz.func238, Tryz.ntmps238
    go_wp2
    go_ret
    exact ⟨ret_i64 (by rw [HE.out]; simp [h20]), Bl.alloc (Below.refl _ _) _⟩
  · go_enter Tryz.func238, Tryz.ntmps238
    go_wp2_with fail
    have hb0 := Bl.alloc (Below.refl w.heap.size w) (.cells #[.int .u64 M.elems[i].at_, .slice A M.elems[i].fs.length cf] 162)
    refine (containsI64 240 #[.pointer (some ⟨bx, 0, none⟩)] (fun f => !hasB f M.count) M.elems[i].fs _ I _ Tryz.call240 (H2.out _ hb0)
      (fun f _ w' hw => elems11_any I b bx v0 v1 v2 v4 v5 v6 _ v9 M w' (H1.out w' (Bl.then hb0 hw)) (H3.out w' (Bl.then hb0 hw)) f)).mono ?_
    rintro e w1 ⟨rfl, hb1⟩
    have hb2 := Bl.then hb0 hb1
    have d0 : w1.cell? ⟨w.heap.size, 0, none⟩ = some (.int .u64 M.elems[i].at_) := (below_cell hb1 (by simp) 0).trans (by simp)
    have d1 := (below_cell hb2 hbl 0).trans hbx
    have d2 := (below_cell hb2 hb 3).trans c3
    clear hb0 hb1
    cases h1 : M.table == -1
    all_goals cases h2 : M.elems[i].fs.any (fun f => !hasB f M.count)
    all_goals
      go_wp2_with (go_at_call 225; refine (whenE_any _ _ _).mono ?_; rintro e w' ⟨rfl, rfl⟩)
      go_ret
      exact ⟨ret_i64 (by rw [HE.out]; simp [h1, h2, h20]), hb2⟩
end Go.Proofs.YtmfbfbinimnchaaGreatDoor
