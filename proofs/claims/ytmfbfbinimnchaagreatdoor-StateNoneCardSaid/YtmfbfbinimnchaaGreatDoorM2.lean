/- Walks: the closures of (*module.Module).sigs, imports, funcs, mems, globals. No condition. -/
import Derived.Test.YtmfbfbinimnchaaGreatDoorM1
set_option linter.unusedVariables false
set_option linter.unusedSimpArgs false
namespace Go.Proofs.YtmfbfbinimnchaaGreatDoor
open Go.RowKit

theorem quietS {f : FuncId} {args : Array Value} {w : World} {n : Nat} {v : Value}
    (h : Calls Tryz.prog f args (w.drewN n) fun e w' => e = .returned v ∧ w.drewN n = w') : Calls Tryz.prog f args (w.drewN n) fun e w'' => e = .returned v ∧ ∃ m, w'' = w.drewN m :=
  h.mono fun _ _ ⟨he, hm⟩ => ⟨he, n, hm.symm⟩

/-- An element of a slice that is read: where it lies, and what its cells hold. -/
theorem RL.at_ {α : Type} {I : Nat → Prop} {sz : Nat} {R : World → List Value → α → Prop} {w : World} {v : Value} {xs : List α} (h : RL I sz R w v xs) (k : Nat) (hk : k < xs.length) :
    ∃ g o c cs, v = .slice (some ⟨g, o, none⟩) xs.length c ∧ I g ∧ g < w.heap.size ∧ xs.length ≤ 140737488351232 ∧ R w cs xs[k] ∧ ∀ f, f < sz → w.cell? ⟨g, o + k * sz + f, none⟩ = some (cs.getD f undef) := by
  obtain ⟨A, c, hv, hl, hr⟩ := h
  obtain ⟨g, o, rfl, hI, hg, hc⟩ := hr (by omega)
  obtain ⟨cs, hcs, hf⟩ := hc k hk
  exact ⟨g, o, c, cs, hv, hI, hg, hl, hcs, hf⟩

theorem whenE_any (b : Bool) (n : Int) (w : World) : Calls Tryz.prog 225 #[.bool b, .int .i64 n] w fun e w' => e = .returned (.int .i64 (whenE b n)) ∧ w = w' := when_any b n w
theorem hasB_any (n m : Int) (w : World) : Calls Tryz.prog 114 #[.int .i64 n, .int .i64 m] w fun e w' => e = .returned (.bool (hasB n m)) ∧ w = w' := has_any n m w

theorem sigs1_any (I : Nat → Prop) (b bx : Nat) (v0 v1 v2 v4 v5 v6 v8 v9 : Value) (M : Mod) (w : World) (hM : RMod I w b v0 v1 v2 v4 v5 v6 v8 v9 M)
    (hbx : w.cell? ⟨bx, 0, none⟩ = some (.pointer (some ⟨b, 0, none⟩))) (i : Nat) (hi : i < M.sigs.length) :
    Calls Tryz.prog 224 #[.int .i64 i, .pointer (some ⟨bx, 0, none⟩)] w fun e w' => e = .returned (.int .i64 (sigs1E M i)) ∧ Below w.heap.size w w' := by
  obtain ⟨g, o, c, cs, rfl, _, hg, hl, hcs, hf⟩ := hM.ps.s0.at_ i hi
  have hr := Lib.hid (sigRight_any M.sigs[i] cs I w hcs)
  obtain ⟨vp, vr, rfl, _, _⟩ := hcs
  have c0 := hM.c0
  have f0 : w.cell? ⟨g, o + i * 2, none⟩ = some vp := hf 0 (by omega)
  have f1 : w.cell? ⟨g, o + i * 2 + 1, none⟩ = some vr := hf 1 (by omega)
  have he := Lib.hid (show sigs1E M i = whenE (!(M.sigs[i]).right) 5 by unfold sigs1E; rw [getElem!_pos M.sigs i hi])
  clear hf hM
  go_enter Tryz.func224, Tryz.ntmps224
  go_wp2_with fail
  refine hr.out.mono ?_
  rintro e w1 ⟨rfl, hb⟩
  go_wp2_with (go_at_call 225; refine (whenE_any _ _ _).mono ?_; rintro e w' ⟨rfl, rfl⟩)
  go_ret
  exact ⟨by rw [he.out]; rfl, hb⟩

theorem mems1_any (I : Nat → Prop) (b bx : Nat) (v0 v1 v2 v4 v5 v6 v8 v9 : Value) (M : Mod) (w : World) (hM : RMod I w b v0 v1 v2 v4 v5 v6 v8 v9 M)
    (hbx : w.cell? ⟨bx, 0, none⟩ = some (.pointer (some ⟨b, 0, none⟩))) (i : Nat) (hi : i < M.mems.length) :
    Calls Tryz.prog 231 #[.int .i64 i, .pointer (some ⟨bx, 0, none⟩)] w fun e w' => e = .returned (.int .i64 (mems1E M i)) ∧ Below w.heap.size w w' := by
  obtain ⟨g, o, c, cs, rfl, _, hg, hl, hcs, hf⟩ := hM.ps.s4.at_ i hi
  obtain rfl := hcs
  have hr := Lib.hid (limRight_any M.mems[i].mn M.mems[i].mx 65536 M.mems[i].wide w)
  have c4 := hM.c4
  have f0 : w.cell? ⟨g, o + i * 3, none⟩ = some (.int .i64 M.mems[i].mn) := hf 0 (by omega)
  have f1 : w.cell? ⟨g, o + i * 3 + 1, none⟩ = some (.int .i64 M.mems[i].mx) := hf 1 (by omega)
  have f2 : w.cell? ⟨g, o + i * 3 + 2, none⟩ = some (.bool M.mems[i].wide) := hf 2 (by omega)
  have he := Lib.hid (show mems1E M i = whenE (!limRight M.mems[i].mn M.mems[i].mx 65536) 5 by unfold mems1E; rw [getElem!_pos M.mems i hi])
  clear hf hM
  go_enter Tryz.func231, Tryz.ntmps231
  go_wp2_with fail
  refine hr.out.mono ?_
  rintro e w1 ⟨rfl, hb⟩
  go_wp2_with (go_at_call 225; refine (whenE_any _ _ _).mono ?_; rintro e w' ⟨rfl, rfl⟩)
  go_ret
  exact ⟨by rw [he.out]; rfl, hb⟩

theorem funcs1_any (I : Nat → Prop) (b bx : Nat) (v0 v1 v2 v4 v5 v6 v8 v9 : Value) (M : Mod) (w : World) (hM : RMod I w b v0 v1 v2 v4 v5 v6 v8 v9 M)
    (hbx : w.cell? ⟨bx, 0, none⟩ = some (.pointer (some ⟨b, 0, none⟩))) (i : Nat) (hi : i < M.funcs.length) :
    Calls Tryz.prog 230 #[.int .i64 i, .pointer (some ⟨bx, 0, none⟩)] w fun e w' => e = .returned (.int .i64 (funcs1E M i)) ∧ Below w.heap.size w w' := by
  obtain ⟨g, o, c, cs, rfl, _, hg, hl, hcs, hf⟩ := hM.ps.s2.at_ i hi
  obtain ⟨A0, k0, rfl, l0⟩ := hM.ps.s0.form
  obtain ⟨vl, vL, rfl, _⟩ := hcs
  have c0 := hM.c0
  have c2 := hM.c2
  have f0 : w.cell? ⟨g, o + i * 3, none⟩ = some (.int .i64 M.funcs[i].sig) := hf 0 (by omega)
  have he := Lib.hid (show funcs1E M i = whenE (!hasB M.funcs[i].sig M.sigs.length) 2 by unfold funcs1E; rw [getElem!_pos M.funcs i hi])
  clear hf hM
  go_enter Tryz.func230, Tryz.ntmps230
  go_wp2
  go_quiet ((first | (go_at_call 114; exact quietS (hasB_any _ _ _)) | (go_at_call 225; exact quietS (whenE_any _ _ _))))
  go_wp2
  go_ret
  exact ⟨by rw [he.out]; rfl, drewN_Bl _ _⟩
end Go.Proofs.YtmfbfbinimnchaaGreatDoor
