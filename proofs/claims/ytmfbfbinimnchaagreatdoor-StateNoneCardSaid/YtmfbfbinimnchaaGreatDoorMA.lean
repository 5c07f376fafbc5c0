/- Walks: the closure of (*module.Module).exports, and that method. No condition. -/
import Derived.Test.YtmfbfbinimnchaaGreatDoorM9
set_option linter.unusedVariables false
set_option linter.unusedSimpArgs false
namespace Go.Proofs.YtmfbfbinimnchaaGreatDoor
open Go.RowKit Go.Sort

theorem hasB_4 (n : Int) (h : hasB n 4 = true) : n = 0 ∨ n = 1 ∨ n = 2 ∨ n = 3 := by
  simp [hasB] at h; omega

theorem exports1_any (I : Nat → Prop) (b bx by_ : Nat) (v0 v1 v2 v4 v5 v6 v8 v9 : Value) (M : Mod) (w : World) (hM : RMod I w b v0 v1 v2 v4 v5 v6 v8 v9 M)
    (hbx : w.cell? ⟨bx, 0, none⟩ = some (.pointer (some ⟨b, 0, none⟩))) (hbl : bx < w.heap.size) (hyl : by_ < w.heap.size)
    (hy0 : w.cell? ⟨by_, 0, none⟩ = some (.int .i64 M.count)) (hy1 : w.cell? ⟨by_, 1, none⟩ = some (.int .i64 (if M.table < 0 then 0 else 1)))
    (hy2 : w.cell? ⟨by_, 2, none⟩ = some (.int .i64 M.mems.length)) (hy3 : w.cell? ⟨by_, 3, none⟩ = some (.int .i64 M.globals.length)) (i : Nat) (hi : i < M.exports.length) :
    Calls Tryz.prog 235 #[.int .i64 i, .pointer (some ⟨bx, 0, none⟩), .pointer (some ⟨by_, 0, none⟩)] w fun e w' => e = .returned (.int .i64 (exports1E M i)) ∧ Below w.heap.size w w' := by
  have h6 := hM.ps.s6
  obtain ⟨A6, n6, k6, e6, hk6, hk6'⟩ := hM.ps.k6
  obtain ⟨g, o, c, cs, hs6, _, hg, hl, ⟨rfl, lnm⟩, hf⟩ := h6.at_ i hi
  rw [hs6] at e6 h6
  obtain ⟨rfl, rfl, rfl⟩ : some ⟨g, o, none⟩ = A6 ∧ M.exports.length = n6 ∧ c = k6 := by simpa using e6
  have c6 := hM.c6.trans (congrArg some hs6)
  have hb := hM.hb
  have f0 : w.cell? ⟨g, o + i * 3, none⟩ = some (.string M.exports[i].name) := hf 0 (by omega)
  have f1 : w.cell? ⟨g, o + i * 3 + 1, none⟩ = some (.int .i64 M.exports[i].kind) := hf 1 (by omega)
  have f2 : w.cell? ⟨g, o + i * 3 + 2, none⟩ = some (.int .i64 M.exports[i].ix) := hf 2 (by omega)
  have HE := Lib.hid (show exports1E M i = if !namedF M.exports[i].name || (M.exports.take i).any (fun y => y.name.toList == M.exports[i].name.toList) then 16
    else whenE (!hasB M.exports[i].kind 4 || !hasB M.exports[i].ix ((countsF M)[M.exports[i].kind.toNat]!)) 2 by unfold exports1E; rw [getElem!_pos M.exports i hi])
  have HR := Lib.hid h6
  have hb0 := Bl.alloc (Below.refl w.heap.size w) (.cells #[.string M.exports[i].name, .int .i64 M.exports[i].kind, .int .i64 M.exports[i].ix] 160)
  have hnew0 : ∀ w', Below (w.heap.size + 1) (w.alloc (.cells #[.string M.exports[i].name, .int .i64 M.exports[i].kind, .int .i64 M.exports[i].ix] 160)) w' → w'.cell? ⟨w.heap.size, 0, none⟩ = some (.string M.exports[i].name) := fun w' h => (below_cell h (by omega) 0).trans (by simp)
  have hc := Lib.hid (containsExp 237 #[.pointer (some ⟨w.heap.size, 0, none⟩)] (fun y => y.name.toList == M.exports[i].name.toList) (M.exports.take i) (.slice (some ⟨g, o, none⟩) i c) I
    (w.alloc (.cells #[.string M.exports[i].name, .int .i64 M.exports[i].kind, .int .i64 M.exports[i].ix] 160)) Tryz.call237 ((h6.kp (.of hb0) fun _ _ h => h).take i (by omega))
    (fun x _ cs w' hw hx => exports11_any x cs M.exports[i].name w.heap.size w' hx ((below_cell hw (by simp) 0).trans (by simp)) (Nat.lt_of_lt_of_le (by simp) hw.size)))
  clear hf hs6 hM h6 hnew0
  have hic : i ≤ c := by omega
  go_enter Tryz.func235, Tryz.ntmps235
  go_wp2_with fail
  refine hc.out.mono ?_
  rintro e w1 ⟨rfl, hb1⟩
  have hB0 := Bl.then hb0 hb1
  have hB := Lib.hid hB0
  have d0 : w1.cell? ⟨w.heap.size, 0, none⟩ = some (.string M.exports[i].name) := (below_cell hb1 (by simp) 0).trans (by simp)
  have d1 : w1.cell? ⟨w.heap.size, 1, none⟩ = some (.int .i64 M.exports[i].kind) := (below_cell hb1 (by simp) 1).trans (by simp)
  have d2 : w1.cell? ⟨w.heap.size, 2, none⟩ = some (.int .i64 M.exports[i].ix) := (below_cell hb1 (by simp) 2).trans (by simp)
  have z0 := (below_cell hB0 hyl 0).trans hy0
  have z1 := (below_cell hB0 hyl 1).trans hy1
  have z2 := (below_cell hB0 hyl 2).trans hy2
  have z3 := (below_cell hB0 hyl 3).trans hy3
  clear hb0 hb1 hB0 hy0 hy1 hy2 hy3 hbx c6 f0 f1 f2 hc HR
  cases hn : namedF M.exports[i].name
  · go_wp2_with (go_at_call 228; refine (named_any _ _ lnm).mono ?_; rintro e w' ⟨rfl, rfl⟩)
    go_ret
    exact ⟨ret_i64 (by rw [HE.out]; simp [hn]), hB.out⟩
  · cases ha : (M.exports.take i).any (fun y => y.name.toList == M.exports[i].name.toList)
    · cases hk : hasB M.exports[i].kind 4
      · have HE2 := Lib.hid (HE.out.trans (show _ = whenE true 2 by rw [hn, ha, hk]; rfl))
        clear HE ha
        go_wp2_with (go_at_call 228; refine (named_any _ _ lnm).mono ?_; rintro e w' ⟨rfl, rfl⟩)
        go_quiet ((first | (go_at_call 114; exact quietS (hasB_any _ _ _)) | (go_at_call 225; exact quietS (whenE_any _ _ _))))
        go_wp2
        go_ret
        exact ⟨ret_i64 (by rw [HE2.out]), Bl.drewN hB.out _⟩
      · have HE2 := Lib.hid (HE.out.trans (show _ = whenE (!hasB M.exports[i].ix ((countsF M)[M.exports[i].kind.toNat]!)) 2 by rw [hn, ha, hk]; rfl))
        clear HE ha
        have h4 := hasB_4 _ hk
        generalize M.exports[i].kind = kd at *
        rcases h4 with rfl | rfl | rfl | rfl
        · have HE3 := Lib.hid (HE2.out.trans (show _ = whenE (!hasB M.exports[i].ix M.count) 2 from rfl))
          clear HE2 z1 z2 z3
          go_wp2_with (go_at_call 228; refine (named_any _ _ lnm).mono ?_; rintro e w' ⟨rfl, rfl⟩)
          go_quiet ((first | (go_at_call 114; exact quietS (hasB_any _ _ _)) | (go_at_call 225; exact quietS (whenE_any _ _ _))))
          go_wp2
          go_ret
          exact ⟨ret_i64 (by rw [HE3.out]), Bl.drewN hB.out _⟩
        · have HE3 := Lib.hid (HE2.out.trans (show _ = whenE (!hasB M.exports[i].ix (if M.table < 0 then 0 else 1)) 2 from rfl))
          clear HE2 z0 z2 z3
          generalize (if M.table < 0 then (0 : Int) else 1) = tb at *
          go_wp2_with (go_at_call 228; refine (named_any _ _ lnm).mono ?_; rintro e w' ⟨rfl, rfl⟩)
          go_quiet ((first | (go_at_call 114; exact quietS (hasB_any _ _ _)) | (go_at_call 225; exact quietS (whenE_any _ _ _))))
          go_wp2
          go_ret
          exact ⟨ret_i64 (by rw [HE3.out]), Bl.drewN hB.out _⟩
        · have HE3 := Lib.hid (HE2.out.trans (show _ = whenE (!hasB M.exports[i].ix M.mems.length) 2 from rfl))
          clear HE2 z0 z1 z3
          go_wp2_with (go_at_call 228; refine (named_any _ _ lnm).mono ?_; rintro e w' ⟨rfl, rfl⟩)
          go_quiet ((first | (go_at_call 114; exact quietS (hasB_any _ _ _)) | (go_at_call 225; exact quietS (whenE_any _ _ _))))
          go_wp2
          go_ret
          exact ⟨ret_i64 (by rw [HE3.out]), Bl.drewN hB.out _⟩
        · have HE3 := Lib.hid (HE2.out.trans (show _ = whenE (!hasB M.exports[i].ix M.globals.length) 2 from rfl))
          clear HE2 z0 z1 z2
          go_wp2_with (go_at_call 228; refine (named_any _ _ lnm).mono ?_; rintro e w' ⟨rfl, rfl⟩)
          go_quiet ((first | (go_at_call 114; exact quietS (hasB_any _ _ _)) | (go_at_call 225; exact quietS (whenE_any _ _ _))))
          go_wp2
          go_ret
          exact ⟨ret_i64 (by rw [HE3.out]), Bl.drewN hB.out _⟩
    · have HE2 := Lib.hid (HE.out.trans (show _ = 16 by rw [hn, ha]; rfl))
      clear HE
      go_wp2_with (go_at_call 228; refine (named_any _ _ lnm).mono ?_; rintro e w' ⟨rfl, rfl⟩)
      go_ret
      exact ⟨ret_i64 (by rw [HE2.out]), hB.out⟩
end Go.Proofs.YtmfbfbinimnchaaGreatDoor
