/- Walks: (*module.Module).exports, Fit. No condition. -/
import Derived.Test.YtmfbfbinimnchaaGreatDoorMA
set_option linter.unusedVariables false
set_option linter.unusedSimpArgs false
namespace Go.Proofs.YtmfbfbinimnchaaGreatDoor
open Go.RowKit Go.Sort

theorem exports_any (I : Nat → Prop) (b : Nat) (v0 v1 v2 v4 v5 v6 v8 v9 : Value) (M : Mod) (w : World) (hM : RMod I w b v0 v1 v2 v4 v5 v6 v8 v9 M) (ht : M.table ≤ 1000) (ht' : -1 ≤ M.table) :
    Calls Tryz.prog 180 #[.pointer (some ⟨b, 0, none⟩)] w fun e w' => e = .returned (.int .i64 (exportsE M)) ∧ Below w.heap.size w w' := by
  have hb0 := Bl.alloc (Below.refl w.heap.size w) (.cells #[.pointer (some ⟨b, 0, none⟩)] 38)
  have hbx : ∀ w', Below (w.heap.size + 1) (w.alloc (.cells #[.pointer (some ⟨b, 0, none⟩)] 38)) w' → w'.cell? ⟨w.heap.size, 0, none⟩ = some (.pointer (some ⟨b, 0, none⟩)) := fun w' h => (below_cell h (by omega) 0).trans (by simp)
  have hbx0 : (w.alloc (.cells #[.pointer (some ⟨b, 0, none⟩)] 38)).cell? ⟨w.heap.size, 0, none⟩ = some (.pointer (some ⟨b, 0, none⟩)) := by simp
  obtain ⟨A, k, e0, l0⟩ := hM.ps.s6.form
  have hc := hM.c6.trans (congrArg some e0)
  have hb := hM.hb
  have HC := Lib.hid (counts_any I b v0 v1 v2 v4 v5 v6 v8 v9 M _ (hM.bl hb0) ht ht')
  have HM := Lib.hid (fun (w' : World) (h : Below w.heap.size w w') => hM.bl h)
  have HX := Lib.hid hbx
  unfold exportsE
  clear hM e0 hbx
  go_enter Tryz.func180, Tryz.ntmps180
  go_wp2_with fail
  refine HC.out.mono ?_
  rintro e w1 ⟨rfl, hb1⟩
  have hB := Bl.then hb0 hb1
  have hs : w.heap.size + 1 ≤ w1.heap.size := by have := hb1.size; simpa using this
  have g0 := HX.out w1 (by simpa using hb1)
  have g6 := (below_cell hB hb 6).trans hc
  clear hc hbx0
  have hs1 : w.heap.size < w1.heap.size := by omega
  have hs2 : b < w1.heap.size := by omega
  generalize htb : (if M.table < 0 then (0 : Int) else 1) = tb
  have HT := Lib.hid htb
  clear htb
  go_wp2_with fail
  have hB1 := Bl.alloc hB (.cells #[.int .i64 M.count, .int .i64 tb, .int .i64 M.mems.length, .int .i64 M.globals.length] 168)
  have hX1 : Below (w.heap.size + 1) (w.alloc (.cells #[.pointer (some ⟨b, 0, none⟩)] 38)) (w1.alloc (.cells #[.int .i64 M.count, .int .i64 tb, .int .i64 M.mems.length, .int .i64 M.globals.length] 168)) := Below.alloc (by simpa using hb1) hs _
  refine (many_any 235 #[.pointer (some ⟨w.heap.size, 0, none⟩), .pointer (some ⟨w1.heap.size, 0, none⟩)] (exports1E M) M.exports.length 50 _ l0 Tryz.call235 (fun i hi w' hw => ?_)).mono ?_
  · exact exports1_any I b w.heap.size w1.heap.size v0 v1 v2 v4 v5 v6 v8 v9 M w' (HM.out w' (Bl.then hB1 hw)) (HX.out w' (hX1.trans (Bl.lower hw (by simp; omega)))) (Nat.lt_of_lt_of_le (by simp; omega) hw.size) (Nat.lt_of_lt_of_le (by simp) hw.size)
      ((below_cell hw (by simp) 0).trans (by simp)) ((below_cell hw (by simp) 1).trans (by rw [HT.out]; simp)) ((below_cell hw (by simp) 2).trans (by simp)) ((below_cell hw (by simp) 3).trans (by simp)) i hi
  · rintro e w2 ⟨rfl, hb2⟩
    have hB2 := Lib.hid (Bl.then hB1 hb2)
    clear hb2 hB1 hB hX1 hb1 hb0
    go_wp2
    go_ret
    exact ⟨rfl, hB2.out⟩
end Go.Proofs.YtmfbfbinimnchaaGreatDoor
