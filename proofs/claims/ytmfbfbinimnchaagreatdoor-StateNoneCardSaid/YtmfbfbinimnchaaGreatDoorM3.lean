/- Walks: the closures of (*module.Module).imports, globals, elems, datas. No condition. -/
import Derived.Test.YtmfbfbinimnchaaGreatDoorM2
set_option linter.unusedVariables false
set_option linter.unusedSimpArgs false
namespace Go.Proofs.YtmfbfbinimnchaaGreatDoor
open Go.RowKit

theorem globals1_any (I : Nat → Prop) (b bx : Nat) (v0 v1 v2 v4 v5 v6 v8 v9 : Value) (M : Mod) (w : World) (hM : RMod I w b v0 v1 v2 v4 v5 v6 v8 v9 M)
    (hbx : w.cell? ⟨bx, 0, none⟩ = some (.pointer (some ⟨b, 0, none⟩))) (i : Nat) (hi : i < M.globals.length) :
    Calls Tryz.prog 233 #[.int .i64 i, .pointer (some ⟨bx, 0, none⟩)] w fun e w' => e = .returned (.int .i64 (globals1E M i)) ∧ Below w.heap.size w w' := by
  obtain ⟨g, o, c, cs, rfl, _, hg, hl, hcs, hf⟩ := hM.ps.s5.at_ i hi
  obtain rfl := hcs
  have c5 := hM.c5
  have f0 : w.cell? ⟨g, o + i * 3, none⟩ = some (.int .u8 M.globals[i].ty) := hf 0 (by omega)
  have f1 : w.cell? ⟨g, o + i * 3 + 1, none⟩ = some (.bool M.globals[i].mu) := hf 1 (by omega)
  have f2 : w.cell? ⟨g, o + i * 3 + 2, none⟩ = some (.int .u64 M.globals[i].val) := hf 2 (by omega)
  have he : globals1E M i = whenE (!typeOk M.globals[i].ty || M.globals[i].ty == 127 && decide (4294967295 < M.globals[i].val)) 5 := by unfold globals1E; rw [getElem!_pos M.globals i hi]
  rw [← bitsF_ok] at he
  have HE := Lib.hid he
  clear hf hM he
  go_enter Tryz.func233, Tryz.ntmps233
  cases h1 : bitsF M.globals[i].ty == 0
  all_goals cases h2 : M.globals[i].ty == 127
  all_goals
    go_wp2_with (first | (go_at_call 72; refine (bits_any _ _).mono ?_; rintro e w' ⟨rfl, rfl⟩) | (go_at_call 225; refine (whenE_any _ _ _).mono ?_; rintro e w' ⟨rfl, rfl⟩))
    go_ret
    exact ⟨ret_i64 (by rw [HE.out]; simp [h1, h2]), Bl.alloc (Below.refl _ _) _⟩

theorem imports1_any (I : Nat → Prop) (b bx : Nat) (v0 v1 v2 v4 v5 v6 v8 v9 : Value) (M : Mod) (w : World) (hM : RMod I w b v0 v1 v2 v4 v5 v6 v8 v9 M)
    (hbx : w.cell? ⟨bx, 0, none⟩ = some (.pointer (some ⟨b, 0, none⟩))) (hbl : bx < w.heap.size) (i : Nat) (hi : i < M.imports.length) :
    Calls Tryz.prog 227 #[.int .i64 i, .pointer (some ⟨bx, 0, none⟩)] w fun e w' => e = .returned (.int .i64 (imports1E M i)) ∧ Below w.heap.size w w' := by
  obtain ⟨g, o, c, cs, rfl, _, hg, hl, hcs, hf⟩ := hM.ps.s1.at_ i hi
  obtain ⟨A0, k0, rfl, l0⟩ := hM.ps.s0.form
  obtain ⟨rfl, l1, l2⟩ := hcs
  have c0 := hM.c0
  have c1 := hM.c1
  have hb := hM.hb
  have f0 : w.cell? ⟨g, o + i * 3, none⟩ = some (.string M.imports[i].m) := hf 0 (by omega)
  have f1 : w.cell? ⟨g, o + i * 3 + 1, none⟩ = some (.string M.imports[i].n) := hf 1 (by omega)
  have f2 : w.cell? ⟨g, o + i * 3 + 2, none⟩ = some (.int .i64 M.imports[i].sig) := hf 2 (by omega)
  have HE := Lib.hid (show imports1E M i = if !namedF M.imports[i].m || !namedF M.imports[i].n then 16 else whenE (!hasB M.imports[i].sig M.sigs.length) 2 by unfold imports1E; rw [getElem!_pos M.imports i hi])
  clear hf hM
  go_enter Tryz.func227, Tryz.ntmps227
  cases h1 : namedF M.imports[i].m
  all_goals cases h2 : namedF M.imports[i].n
  all_goals
    go_wp2_with (go_at_call 228; refine (named_any _ _ (by assumption)).mono ?_; rintro e w' ⟨rfl, rfl⟩)
  · go_ret
    exact ⟨ret_i64 (by rw [HE.out]; simp [h1, h2]), Bl.alloc (Below.refl _ _) _⟩
  · go_ret
    exact ⟨ret_i64 (by rw [HE.out]; simp [h1, h2]), Bl.alloc (Below.refl _ _) _⟩
  · go_ret
    exact ⟨ret_i64 (by rw [HE.out]; simp [h1, h2]), Bl.alloc (Below.refl _ _) _⟩
  · go_quiet ((first | (go_at_call 114; exact quietS (hasB_any _ _ _)) | (go_at_call 225; exact quietS (whenE_any _ _ _))))
    go_wp2
    go_ret
    exact ⟨ret_i64 (by rw [HE.out]; simp [h1, h2]), Bl.drewN (Bl.alloc (Below.refl _ _) _) _⟩
end Go.Proofs.YtmfbfbinimnchaaGreatDoor
