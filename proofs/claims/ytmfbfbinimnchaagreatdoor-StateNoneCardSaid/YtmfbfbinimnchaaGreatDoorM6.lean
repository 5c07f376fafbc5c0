/- Walks: slices.IndexFunc and ContainsFunc over structs; the closure of (*module.Module).exports. No condition. -/
import Derived.Test.YtmfbfbinimnchaaGreatDoorM5
set_option linter.unusedVariables false
set_option linter.unusedSimpArgs false
namespace Go.Proofs.YtmfbfbinimnchaaGreatDoor
open Go.RowKit

theorem indexExp (K : Nat) (caps : Array Value) (p : Exp → Bool) (xs : List Exp) (v : Value) (I : Nat → Prop) (w : World)
    (hcall : ∀ args w, (callFunc K args).run Tryz.prog w = .ok (.enter K args) w) (hv : RL I 3 RExp w v xs)
    (hcl : ∀ x ∈ xs, ∀ cs w', Below w.heap.size w w' → RExp w' cs x → Calls Tryz.prog K (#[.agg cs.toArray] ++ caps) w' fun e w'' => e = .returned (.bool (p x)) ∧ Below w'.heap.size w' w'') :
    Calls Tryz.prog 268 #[v, .func (.func K) #[] caps] w fun e w' => e = .returned (.int .i64 (idx p xs 0)) ∧ Below w.heap.size w w' := by
  obtain ⟨A, c, rfl, hl, hr⟩ := hv
  go_enter Tryz.func268, Tryz.ntmps268
  go_wp2
  have H0 := Lib.hid hcl; clear hcl
  go_loopw [8] (fun i wr => ∃ k : Nat, k ≤ xs.length ∧ i = .int .i64 k ∧ Below w.heap.size w wr ∧ Hid (idx p xs 0 = idx p (xs.drop k) k)) (fun i _ => xs.length - (intOf i).toNat)
  case atStart => exact ⟨0, Nat.zero_le _, rfl, Below.refl _ _, Lib.hid (by simp)⟩
  case round =>
    obtain ⟨k, hk, rfl, hb, hi⟩ := hrel
    by_cases hlt : k < xs.length
    · obtain ⟨g, o, rfl, _, hg, hc⟩ := hr (by omega)
      obtain ⟨cs, hcs, hf⟩ := hc k hlt
      have H1 := Lib.hid (H0.out xs[k] (List.getElem_mem hlt) cs wr hb hcs)
      obtain ⟨rfl, _⟩ := hcs
      have f0 : wr.cell? ⟨g, o + k * 3, none⟩ = some (.string xs[k].name) := (below_cell hb (by omega) _).trans (hf 0 (by omega))
      have f1 : wr.cell? ⟨g, o + k * 3 + 1, none⟩ = some (.int .i64 xs[k].kind) := (below_cell hb (by omega) _).trans (hf 1 (by omega))
      have f2 : wr.cell? ⟨g, o + k * 3 + 2, none⟩ = some (.int .i64 xs[k].ix) := (below_cell hb (by omega) _).trans (hf 2 (by omega))
      clear hc hr hf
      have hd := Lib.hid (idx_drop p xs k hlt)
      go_wp2_with fail
      refine H1.out.mono ?_
      rintro e w1 ⟨rfl, hb1⟩
      have hb2 := Bl.then hb hb1
      cases hp : p xs[k]
      · have hn := Lib.hid (show idx p xs 0 = idx p (xs.drop (k + 1)) (k + 1) by rw [hi.out, hd.out]; simp [hp])
        go_wp2
        go_roundw
        case rel => exact ⟨k + 1, by omega, by go_num, hb2, hn⟩
        case measure => simp [intOf]; omega
      · have hn := Lib.hid (show idx p xs 0 = k by rw [hi.out, hd.out]; simp [hp])
        go_wp2
        go_ret
        exact ⟨by rw [hn.out]; rfl, hb2⟩
    · go_wp2
      go_ret
      refine ⟨?_, hb⟩
      rw [hi.out, List.drop_of_length_le (by omega)]; rfl
theorem containsExp (K : Nat) (caps : Array Value) (p : Exp → Bool) (xs : List Exp) (v : Value) (I : Nat → Prop) (w : World)
    (hcall : ∀ args w, (callFunc K args).run Tryz.prog w = .ok (.enter K args) w) (hv : RL I 3 RExp w v xs)
    (hcl : ∀ x ∈ xs, ∀ cs w', Below w.heap.size w w' → RExp w' cs x → Calls Tryz.prog K (#[.agg cs.toArray] ++ caps) w' fun e w'' => e = .returned (.bool (p x)) ∧ Below w'.heap.size w' w'') :
    Calls Tryz.prog 236 #[v, .func (.func K) #[] caps] w fun e w' => e = .returned (.bool (xs.any p)) ∧ Below w.heap.size w w' := by
  have hx := Lib.hid (idx_any p xs 0)
  have hc := Lib.hid (indexExp K caps p xs v I w hcall hv hcl)
  clear hcl hv hcall
  go_enter Tryz.func236, Tryz.ntmps236
  go_wp2_with fail
  refine hc.out.mono ?_
  rintro e w1 ⟨rfl, hb⟩
  go_wp2
  go_ret
  exact ⟨by rw [← hx.out]; rfl, hb⟩

theorem indexIns (K : Nat) (caps : Array Value) (p : Ins → Bool) (xs : List Ins) (v : Value) (I : Nat → Prop) (w : World)
    (hcall : ∀ args w, (callFunc K args).run Tryz.prog w = .ok (.enter K args) w) (hv : RL I 5 (RIns I) w v xs)
    (hcl : ∀ x ∈ xs, ∀ cs w', Below w.heap.size w w' → RIns I w' cs x → Calls Tryz.prog K (#[.agg cs.toArray] ++ caps) w' fun e w'' => e = .returned (.bool (p x)) ∧ Below w'.heap.size w' w'') :
    Calls Tryz.prog 321 #[v, .func (.func K) #[] caps] w fun e w' => e = .returned (.int .i64 (idx p xs 0)) ∧ Below w.heap.size w w' := by
  obtain ⟨A, c, rfl, hl, hr⟩ := hv
  go_enter Tryz.func321, Tryz.ntmps321
  go_wp2
  have H0 := Lib.hid hcl; clear hcl
  go_loopw [8] (fun i wr => ∃ k : Nat, k ≤ xs.length ∧ i = .int .i64 k ∧ Below w.heap.size w wr ∧ Hid (idx p xs 0 = idx p (xs.drop k) k)) (fun i _ => xs.length - (intOf i).toNat)
  case atStart => exact ⟨0, Nat.zero_le _, rfl, Below.refl _ _, Lib.hid (by simp)⟩
  case round =>
    obtain ⟨k, hk, rfl, hb, hi⟩ := hrel
    by_cases hlt : k < xs.length
    · obtain ⟨g, o, rfl, _, hg, hc⟩ := hr (by omega)
      obtain ⟨cs, hcs, hf⟩ := hc k hlt
      have H1 := Lib.hid (H0.out xs[k] (List.getElem_mem hlt) cs wr hb (hcs.kp (.of hb)))
      obtain ⟨vl, rfl, _⟩ := hcs
      have f0 : wr.cell? ⟨g, o + k * 5, none⟩ = some (.int .i64 xs[k].code) := (below_cell hb (by omega) _).trans (hf 0 (by omega))
      have f1 : wr.cell? ⟨g, o + k * 5 + 1, none⟩ = some (.int .u64 xs[k].A) := (below_cell hb (by omega) _).trans (hf 1 (by omega))
      have f2 : wr.cell? ⟨g, o + k * 5 + 2, none⟩ = some (.int .u64 xs[k].B) := (below_cell hb (by omega) _).trans (hf 2 (by omega))
      have f3 : wr.cell? ⟨g, o + k * 5 + 3, none⟩ = some (.int .i64 xs[k].al) := (below_cell hb (by omega) _).trans (hf 3 (by omega))
      have f4 : wr.cell? ⟨g, o + k * 5 + 4, none⟩ = some (vl) := (below_cell hb (by omega) _).trans (hf 4 (by omega))
      clear hc hr hf
      have hd := Lib.hid (idx_drop p xs k hlt)
      go_wp2_with fail
      refine H1.out.mono ?_
      rintro e w1 ⟨rfl, hb1⟩
      have hb2 := Bl.then hb hb1
      cases hp : p xs[k]
      · have hn := Lib.hid (show idx p xs 0 = idx p (xs.drop (k + 1)) (k + 1) by rw [hi.out, hd.out]; simp [hp])
        go_wp2
        go_roundw
        case rel => exact ⟨k + 1, by omega, by go_num, hb2, hn⟩
        case measure => simp [intOf]; omega
      · have hn := Lib.hid (show idx p xs 0 = k by rw [hi.out, hd.out]; simp [hp])
        go_wp2
        go_ret
        exact ⟨by rw [hn.out]; rfl, hb2⟩
    · go_wp2
      go_ret
      refine ⟨?_, hb⟩
      rw [hi.out, List.drop_of_length_le (by omega)]; rfl
theorem containsIns (K : Nat) (caps : Array Value) (p : Ins → Bool) (xs : List Ins) (v : Value) (I : Nat → Prop) (w : World)
    (hcall : ∀ args w, (callFunc K args).run Tryz.prog w = .ok (.enter K args) w) (hv : RL I 5 (RIns I) w v xs)
    (hcl : ∀ x ∈ xs, ∀ cs w', Below w.heap.size w w' → RIns I w' cs x → Calls Tryz.prog K (#[.agg cs.toArray] ++ caps) w' fun e w'' => e = .returned (.bool (p x)) ∧ Below w'.heap.size w' w'') :
    Calls Tryz.prog 298 #[v, .func (.func K) #[] caps] w fun e w' => e = .returned (.bool (xs.any p)) ∧ Below w.heap.size w w' := by
  have hx := Lib.hid (idx_any p xs 0)
  have hc := Lib.hid (indexIns K caps p xs v I w hcall hv hcl)
  clear hcl hv hcall
  go_enter Tryz.func298, Tryz.ntmps298
  go_wp2_with fail
  refine hc.out.mono ?_
  rintro e w1 ⟨rfl, hb⟩
  go_wp2
  go_ret
  exact ⟨by rw [← hx.out]; rfl, hb⟩

theorem RL.take {α : Type} {I : Nat → Prop} {sz : Nat} {R : World → List Value → α → Prop} {w : World} {A : Option Addr} {n c c' : Nat} {xs : List α} (h : RL I sz R w (.slice A n c) xs) (i : Nat) (hi : i ≤ xs.length) :
    RL I sz R w (.slice A i c') (xs.take i) := by
  obtain ⟨A', c'', hv, hl, hr⟩ := h
  obtain ⟨rfl, rfl, rfl⟩ : A = A' ∧ n = xs.length ∧ c = c'' := by simpa using hv
  have e : (xs.take i).length = i := by simp; omega
  refine ⟨A, c', by rw [e], by omega, fun h0 => ?_⟩
  obtain ⟨g, o, hA, hI, hg, hc⟩ := hr (by omega)
  refine ⟨g, o, hA, hI, hg, fun j hj => ?_⟩
  obtain ⟨cs, hcs, hf⟩ := hc j (by omega)
  exact ⟨cs, by rw [List.getElem_take]; exact hcs, hf⟩

theorem exports11_any (x : Exp) (cs : List Value) (s : ByteArray) (bx : Nat) (w : World) (hx : RExp w cs x) (hbx : w.cell? ⟨bx, 0, none⟩ = some (.string s)) (hbl : bx < w.heap.size) :
    Calls Tryz.prog 237 #[.agg cs.toArray, .pointer (some ⟨bx, 0, none⟩)] w fun e w' => e = .returned (.bool (x.name.toList == s.toList)) ∧ Below w.heap.size w w' := by
  obtain ⟨rfl, hs⟩ := hx
  go_enter Tryz.func237, Tryz.ntmps237
  go_wp2
  go_ret
  exact ⟨rfl, Bl.alloc (Below.refl _ _) _⟩
end Go.Proofs.YtmfbfbinimnchaaGreatDoor
