/- Walks: the closure of (*module.Module).datas. No condition. -/
import Derived.Test.YtmfbfbinimnchaaGreatDoorM4
set_option linter.unusedVariables false
set_option linter.unusedSimpArgs false
namespace Go.Proofs.YtmfbfbinimnchaaGreatDoor
open Go.RowKit

theorem datas1_any (I : Nat → Prop) (b bx : Nat) (v0 v1 v2 v4 v5 v6 v8 v9 : Value) (M : Mod) (w : World) (hM : RMod I w b v0 v1 v2 v4 v5 v6 v8 v9 M)
    (hbx : w.cell? ⟨bx, 0, none⟩ = some (.pointer (some ⟨b, 0, none⟩))) (hbl : bx < w.heap.size) (i : Nat) (hi : i < M.datas.length) :
    Calls Tryz.prog 241 #[.int .i64 i, .pointer (some ⟨bx, 0, none⟩)] w fun e w' => e = .returned (.int .i64 (datas1E M i)) ∧ Below w.heap.size w w' := by
  obtain ⟨g, o, c, cs, rfl, _, hg, hl, hcs, hf⟩ := hM.ps.s9.at_ i hi
  obtain ⟨vf, rfl, hfs⟩ := hcs
  obtain ⟨A, cf, rfl, lf⟩ := hfs.at_
  have f0 : w.cell? ⟨g, o + i * 3, none⟩ = some (.int .i64 M.datas[i].mem) := hf 0 (by omega)
  have f1 : w.cell? ⟨g, o + i * 3 + 1, none⟩ = some (.int .u64 M.datas[i].at_) := hf 1 (by omega)
  have f2 : w.cell? ⟨g, o + i * 3 + 2, none⟩ = some (.slice A M.datas[i].bs.length cf) := hf 2 (by omega)
  have HE := Lib.hid (show datas1E M i = if 4096 < M.datas[i].bs.length then 15 else whenE (!hasB M.datas[i].mem M.mems.length || !(M.mems[M.datas[i].mem.toNat]!).wide && decide (4294967295 < M.datas[i].at_)) 2 by unfold datas1E; rw [getElem!_pos M.datas i hi])
  have hb := hM.hb
  have c4 := hM.c4
  have c9 := hM.c9
  have H4 := Lib.hid hM.ps.s4
  obtain ⟨A4, k4, rfl, l4⟩ := hM.ps.s4.form
  clear hf hM hfs
  by_cases h20 : 4096 < M.datas[i].bs.length
  · clear H4
    go_enter Tryz.func241, Tryz.ntmps241
    go_wp2
    go_ret
    exact ⟨ret_i64 (by rw [HE.out]; simp [h20]), Bl.alloc (Below.refl _ _) _⟩
  · cases h1 : hasB M.datas[i].mem M.mems.length
    · clear H4
      go_enter Tryz.func241, Tryz.ntmps241
      go_wp2
      go_quiet ((first | (go_at_call 114; exact quietS (hasB_any _ _ _)) | (go_at_call 225; exact quietS (whenE_any _ _ _))))
      go_wp2
      go_ret
      exact ⟨ret_i64 (by rw [HE.out]; simp [h1, h20]), Bl.drewN (Bl.alloc (Below.refl _ _) _) _⟩
    · have hh : 0 ≤ M.datas[i].mem ∧ M.datas[i].mem < M.mems.length := by simpa [hasB] using h1
      obtain ⟨m, hm⟩ := Int.eq_ofNat_of_zero_le hh.1
      have hml : m < M.mems.length := by omega
      have HM := Lib.hid hm
      rw [hm] at f0 HE h1
      rw [Int.toNat_natCast, getElem!_pos M.mems m hml] at HE
      obtain ⟨g4, o4, c4', cs4, hs4, _, hg4, hl4, hcs4, hf4⟩ := H4.out.at_ m hml
      obtain rfl := hcs4
      obtain ⟨rfl, -, rfl⟩ : A4 = some ⟨g4, o4, none⟩ ∧ True ∧ k4 = c4' := by simpa using hs4
      have q2 : w.cell? ⟨g4, o4 + m * 3 + 2, none⟩ = some (.bool M.mems[m].wide) := hf4 2 (by omega)
      clear hf4 H4 hm hh hs4
      go_enter Tryz.func241, Tryz.ntmps241
      go_wp2
      cases h2 : M.mems[m].wide
      all_goals cases h3 : decide (4294967295 < M.datas[i].at_)
      all_goals
        go_quiet ((first | (go_at_call 114; exact quietS (hasB_any _ _ _)) | (go_at_call 225; exact quietS (whenE_any _ _ _))))
        go_wp2
        go_ret
        exact ⟨ret_i64 (by rw [HE.out]; simp [h1, h2, h3, h20]), Bl.drewN (Bl.alloc (Below.refl _ _) _) _⟩
end Go.Proofs.YtmfbfbinimnchaaGreatDoor
