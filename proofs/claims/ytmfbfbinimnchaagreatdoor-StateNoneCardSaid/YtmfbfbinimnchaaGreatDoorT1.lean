/- Walks: small functions of types, module, instr, lint; slices.IndexFunc and ContainsFunc over whole numbers. No condition. -/
import Derived.Test.YtmfbfbinimnchaaGreatDoorA0
set_option linter.unusedVariables false
set_option linter.unusedSimpArgs false
namespace Go.Proofs.YtmfbfbinimnchaaGreatDoor
open Go.RowKit

theorem has_any (n m : Int) (w : World) : Calls Tryz.prog 114 #[.int .i64 n, .int .i64 m] w fun e w' => e = .returned (.bool (decide (0 ≤ n) && decide (n < m))) ∧ w = w' := by
  go_enter Tryz.func114, Tryz.ntmps114
  go_wp2
  all_goals (go_ret; exact ⟨ret_bool (by simp_all <;> omega), rfl⟩)
theorem in_any (n m : Int) (w : World) : Calls Tryz.prog 88 #[.int .i64 n, .int .i64 m] w fun e w' => e = .returned (.bool (decide (0 ≤ n) && decide (n < m))) ∧ w = w' := by
  go_enter Tryz.func88, Tryz.ntmps88
  go_wp2
  all_goals (go_ret; exact ⟨ret_bool (by simp_all <;> omega), rfl⟩)
def bitsF (n : Int) : Int := if n = 127 then 32 else if n = 126 then 64 else 0
theorem bits_any (n : Int) (w : World) : Calls Tryz.prog 72 #[.int .u8 n] w fun e w' => e = .returned (.int .i64 (bitsF n)) ∧ w = w' := by
  unfold bitsF
  go_enter Tryz.func72, Tryz.ntmps72
  by_cases h1 : n = 127
  · subst h1
    go_wp2
    all_goals (go_ret; exact ⟨ret_i64 (by simp_all), rfl⟩)
  · by_cases h2 : n = 126
    · subst h2
      go_wp2
      all_goals (go_ret; exact ⟨ret_i64 (by simp_all), rfl⟩)
    · have e1 : (n == 127) = false := by simp [h1]
      have e2 : (n == 126) = false := by simp [h2]
      go_wp2
      all_goals (go_ret; exact ⟨ret_i64 (by simp_all), rfl⟩)
def typeOk (n : Int) : Bool := n == 127 || n == 126
theorem bitsF_ok (n : Int) : (bitsF n == 0) = !typeOk n := by
  unfold bitsF typeOk
  by_cases h1 : n = 127
  · simp [h1]
  · by_cases h2 : n = 126 <;> simp [h1, h2]
def stopsF (n : Int) : Bool := n == 0 || n == 12 || n == 14 || n == 15
theorem stops_any (n : Int) (w : World) : Calls Tryz.prog 80 #[.int .i64 n] w fun e w' => e = .returned (.bool (stopsF n)) ∧ w = w' := by
  unfold stopsF
  go_enter Tryz.func80, Tryz.ntmps80
  go_wp2
  all_goals (go_ret; exact ⟨ret_bool (by simp_all <;> omega), rfl⟩)
def boundF (n : Int) : Bool := decide (2 ≤ n) && decide (n ≤ 5) || n == 11
theorem bound_any (n : Int) (w : World) : Calls Tryz.prog 81 #[.int .i64 n] w fun e w' => e = .returned (.bool (boundF n)) ∧ w = w' := by
  unfold boundF
  go_enter Tryz.func81, Tryz.ntmps81
  go_wp2
  all_goals (go_ret; exact ⟨ret_bool (by simp_all <;> omega), rfl⟩)
theorem lawbound_any (n : Int) (w : World) : Calls Tryz.prog 52 #[.int .i64 n] w fun e w' => e = .returned (.bool (boundF n)) ∧ w = w' := by
  unfold boundF
  go_enter Tryz.func52, Tryz.ntmps52
  go_wp2
  all_goals (go_ret; exact ⟨ret_bool (by simp_all <;> omega), rfl⟩)
theorem when_any (b : Bool) (n : Int) (w : World) : Calls Tryz.prog 225 #[.bool b, .int .i64 n] w fun e w' => e = .returned (.int .i64 (if b then n else 0)) ∧ w = w' := by
  cases b
  all_goals
    go_enter Tryz.func225, Tryz.ntmps225
    go_wp2
    all_goals (go_ret; exact ⟨rfl, rfl⟩)
theorem all_any (n : Int) (w : World) : Calls Tryz.prog 39 #[.int .i64 n] w fun e w' => e = .returned (.bool true) ∧ w = w' := by
  go_enter Tryz.func39, Tryz.ntmps39
  go_wp2
  all_goals (go_ret; exact ⟨rfl, rfl⟩)
theorem small_any (n : Int) (w : World) : Calls Tryz.prog 324 #[.int .u64 n] w fun e w' => e = .returned (.bool (decide (n ≤ 4294967295))) ∧ w = w' := by
  go_enter Tryz.func324, Tryz.ntmps324
  go_wp2
  all_goals (go_ret; exact ⟨ret_bool (by simp_all <;> omega), rfl⟩)
def blockedF (n : Int) : Bool := n == 64 || n == 127 || n == 126
theorem blocked_any (n : Int) (w : World) : Calls Tryz.prog 323 #[.int .u64 n] w fun e w' => e = .returned (.bool (blockedF n)) ∧ w = w' := by
  unfold blockedF
  go_enter Tryz.func323, Tryz.ntmps323
  go_wp2
  all_goals (go_ret; exact ⟨ret_bool (by simp_all <;> omega), rfl⟩)
theorem few1_any (n : Int) (w : World) : Calls Tryz.prog 296 #[.int .u8 n] w fun e w' => e = .returned (.bool (!typeOk n)) ∧ w = w' := by
  rw [← bitsF_ok]
  go_enter Tryz.func296, Tryz.ntmps296
  go_wp2_with (go_at_call 72; refine (bits_any _ _).mono ?_; rintro e w' ⟨rfl, rfl⟩)
  all_goals (go_ret; exact ⟨ret_bool (by simp_all <;> omega), rfl⟩)
theorem right1_any (n : Int) (w : World) : Calls Tryz.prog 326 #[.int .u64 n] w fun e w' => e = .returned (.bool (!decide (n ≤ 4294967295))) ∧ w = w' := by
  go_enter Tryz.func326, Tryz.ntmps326
  go_wp2_with (go_at_call 324; refine (small_any _ _).mono ?_; rintro e w' ⟨rfl, rfl⟩)
  all_goals (go_ret; exact ⟨ret_bool (by simp_all <;> omega), rfl⟩)

theorem indexU8 (K : Nat) (caps : Array Value) (p : Int → Bool) (xs : List Int) (v : Value) (I : Nat → Prop) (w : World)
    (hcall : ∀ args w, (callFunc K args).run Tryz.prog w = .ok (.enter K args) w) (hv : RI I w .u8 v xs)
    (hf : ∀ x ∈ xs, ∀ w', Below w.heap.size w w' → Calls Tryz.prog K (#[.int .u8 x] ++ caps) w' fun e w'' => e = .returned (.bool (p x)) ∧ Below w'.heap.size w' w'') :
    Calls Tryz.prog 320 #[v, .func (.func K) #[] caps] w fun e w' => e = .returned (.int .i64 (idx p xs 0)) ∧ Below w.heap.size w w' := by
  obtain ⟨A, c, rfl, hl, hr⟩ := hv
  go_enter Tryz.func320, Tryz.ntmps320
  go_wp2
  have H0 := Lib.hid hf; clear hf
  go_loopw [8] (fun i wr => ∃ k : Nat, k ≤ xs.length ∧ i = .int .i64 k ∧ Below w.heap.size w wr ∧ Hid (idx p xs 0 = idx p (xs.drop k) k)) (fun i _ => xs.length - (intOf i).toNat)
  case atStart => exact ⟨0, Nat.zero_le _, rfl, Below.refl _ _, Lib.hid (by simp)⟩
  case round =>
    obtain ⟨k, hk, rfl, hb, hi⟩ := hrel
    by_cases hlt : k < xs.length
    · obtain ⟨g, o, rfl, _, hg, hc⟩ := hr (by omega)
      have hck := (below_cell hb (by omega) _).trans (hc k hlt)
      clear hc hr
      have hd := Lib.hid (idx_drop p xs k hlt)
      go_wp2_with fail
      refine (H0.out xs[k] (List.getElem_mem hlt) wr hb).mono ?_
      rintro e w1 ⟨rfl, hb1⟩
      have hb2 := Bl.then hb hb1
      cases hp : p xs[k]
      · have hn := Lib.hid (show idx p xs 0 = idx p (xs.drop (k + 1)) (k + 1) by rw [hi.out, hd.out]; simp [hp])
        go_wp2
        go_roundw
        case rel => exact ⟨k + 1, by omega, by go_num, hb2, hn⟩
        case measure => simp [intOf]; omega
      · have hn := Lib.hid (show idx p xs 0 = k by rw [hi.out, hd.out]; simp [hp])
        go_wp2
        go_ret
        exact ⟨by rw [hn.out]; rfl, hb2⟩
    · go_wp2
      go_ret
      refine ⟨?_, hb⟩
      rw [hi.out, List.drop_of_length_le (by omega)]; rfl
theorem containsU8 (K : Nat) (caps : Array Value) (p : Int → Bool) (xs : List Int) (v : Value) (I : Nat → Prop) (w : World)
    (hcall : ∀ args w, (callFunc K args).run Tryz.prog w = .ok (.enter K args) w) (hv : RI I w .u8 v xs)
    (hf : ∀ x ∈ xs, ∀ w', Below w.heap.size w w' → Calls Tryz.prog K (#[.int .u8 x] ++ caps) w' fun e w'' => e = .returned (.bool (p x)) ∧ Below w'.heap.size w' w'') :
    Calls Tryz.prog 295 #[v, .func (.func K) #[] caps] w fun e w' => e = .returned (.bool (xs.any p)) ∧ Below w.heap.size w w' := by
  have hx := Lib.hid (idx_any p xs 0)
  have hc := Lib.hid (indexU8 K caps p xs v I w hcall hv hf)
  clear hf hv hcall
  go_enter Tryz.func295, Tryz.ntmps295
  go_wp2_with fail
  refine hc.out.mono ?_
  rintro e w1 ⟨rfl, hb⟩
  go_wp2
  go_ret
  exact ⟨by rw [← hx.out]; rfl, hb⟩

theorem indexU64 (K : Nat) (caps : Array Value) (p : Int → Bool) (xs : List Int) (v : Value) (I : Nat → Prop) (w : World)
    (hcall : ∀ args w, (callFunc K args).run Tryz.prog w = .ok (.enter K args) w) (hv : RI I w .u64 v xs)
    (hf : ∀ x ∈ xs, ∀ w', Below w.heap.size w w' → Calls Tryz.prog K (#[.int .u64 x] ++ caps) w' fun e w'' => e = .returned (.bool (p x)) ∧ Below w'.heap.size w' w'') :
    Calls Tryz.prog 346 #[v, .func (.func K) #[] caps] w fun e w' => e = .returned (.int .i64 (idx p xs 0)) ∧ Below w.heap.size w w' := by
  obtain ⟨A, c, rfl, hl, hr⟩ := hv
  go_enter Tryz.func346, Tryz.ntmps346
  go_wp2
  have H0 := Lib.hid hf; clear hf
  go_loopw [8] (fun i wr => ∃ k : Nat, k ≤ xs.length ∧ i = .int .i64 k ∧ Below w.heap.size w wr ∧ Hid (idx p xs 0 = idx p (xs.drop k) k)) (fun i _ => xs.length - (intOf i).toNat)
  case atStart => exact ⟨0, Nat.zero_le _, rfl, Below.refl _ _, Lib.hid (by simp)⟩
  case round =>
    obtain ⟨k, hk, rfl, hb, hi⟩ := hrel
    by_cases hlt : k < xs.length
    · obtain ⟨g, o, rfl, _, hg, hc⟩ := hr (by omega)
      have hck := (below_cell hb (by omega) _).trans (hc k hlt)
      clear hc hr
      have hd := Lib.hid (idx_drop p xs k hlt)
      go_wp2_with fail
      refine (H0.out xs[k] (List.getElem_mem hlt) wr hb).mono ?_
      rintro e w1 ⟨rfl, hb1⟩
      have hb2 := Bl.then hb hb1
      cases hp : p xs[k]
      · have hn := Lib.hid (show idx p xs 0 = idx p (xs.drop (k + 1)) (k + 1) by rw [hi.out, hd.out]; simp [hp])
        go_wp2
        go_roundw
        case rel => exact ⟨k + 1, by omega, by go_num, hb2, hn⟩
        case measure => simp [intOf]; omega
      · have hn := Lib.hid (show idx p xs 0 = k by rw [hi.out, hd.out]; simp [hp])
        go_wp2
        go_ret
        exact ⟨by rw [hn.out]; rfl, hb2⟩
    · go_wp2
      go_ret
      refine ⟨?_, hb⟩
      rw [hi.out, List.drop_of_length_le (by omega)]; rfl
theorem containsU64 (K : Nat) (caps : Array Value) (p : Int → Bool) (xs : List Int) (v : Value) (I : Nat → Prop) (w : World)
    (hcall : ∀ args w, (callFunc K args).run Tryz.prog w = .ok (.enter K args) w) (hv : RI I w .u64 v xs)
    (hf : ∀ x ∈ xs, ∀ w', Below w.heap.size w w' → Calls Tryz.prog K (#[.int .u64 x] ++ caps) w' fun e w'' => e = .returned (.bool (p x)) ∧ Below w'.heap.size w' w'') :
    Calls Tryz.prog 325 #[v, .func (.func K) #[] caps] w fun e w' => e = .returned (.bool (xs.any p)) ∧ Below w.heap.size w w' := by
  have hx := Lib.hid (idx_any p xs 0)
  have hc := Lib.hid (indexU64 K caps p xs v I w hcall hv hf)
  clear hf hv hcall
  go_enter Tryz.func325, Tryz.ntmps325
  go_wp2_with fail
  refine hc.out.mono ?_
  rintro e w1 ⟨rfl, hb⟩
  go_wp2
  go_ret
  exact ⟨by rw [← hx.out]; rfl, hb⟩

theorem indexI64 (K : Nat) (caps : Array Value) (p : Int → Bool) (xs : List Int) (v : Value) (I : Nat → Prop) (w : World)
    (hcall : ∀ args w, (callFunc K args).run Tryz.prog w = .ok (.enter K args) w) (hv : RI I w .i64 v xs)
    (hf : ∀ x ∈ xs, ∀ w', Below w.heap.size w w' → Calls Tryz.prog K (#[.int .i64 x] ++ caps) w' fun e w'' => e = .returned (.bool (p x)) ∧ Below w'.heap.size w' w'') :
    Calls Tryz.prog 269 #[v, .func (.func K) #[] caps] w fun e w' => e = .returned (.int .i64 (idx p xs 0)) ∧ Below w.heap.size w w' := by
  obtain ⟨A, c, rfl, hl, hr⟩ := hv
  go_enter Tryz.func269, Tryz.ntmps269
  go_wp2
  have H0 := Lib.hid hf; clear hf
  go_loopw [8] (fun i wr => ∃ k : Nat, k ≤ xs.length ∧ i = .int .i64 k ∧ Below w.heap.size w wr ∧ Hid (idx p xs 0 = idx p (xs.drop k) k)) (fun i _ => xs.length - (intOf i).toNat)
  case atStart => exact ⟨0, Nat.zero_le _, rfl, Below.refl _ _, Lib.hid (by simp)⟩
  case round =>
    obtain ⟨k, hk, rfl, hb, hi⟩ := hrel
    by_cases hlt : k < xs.length
    · obtain ⟨g, o, rfl, _, hg, hc⟩ := hr (by omega)
      have hck := (below_cell hb (by omega) _).trans (hc k hlt)
      clear hc hr
      have hd := Lib.hid (idx_drop p xs k hlt)
      go_wp2_with fail
      refine (H0.out xs[k] (List.getElem_mem hlt) wr hb).mono ?_
      rintro e w1 ⟨rfl, hb1⟩
      have hb2 := Bl.then hb hb1
      cases hp : p xs[k]
      · have hn := Lib.hid (show idx p xs 0 = idx p (xs.drop (k + 1)) (k + 1) by rw [hi.out, hd.out]; simp [hp])
        go_wp2
        go_roundw
        case rel => exact ⟨k + 1, by omega, by go_num, hb2, hn⟩
        case measure => simp [intOf]; omega
      · have hn := Lib.hid (show idx p xs 0 = k by rw [hi.out, hd.out]; simp [hp])
        go_wp2
        go_ret
        exact ⟨by rw [hn.out]; rfl, hb2⟩
    · go_wp2
      go_ret
      refine ⟨?_, hb⟩
      rw [hi.out, List.drop_of_length_le (by omega)]; rfl
theorem containsI64 (K : Nat) (caps : Array Value) (p : Int → Bool) (xs : List Int) (v : Value) (I : Nat → Prop) (w : World)
    (hcall : ∀ args w, (callFunc K args).run Tryz.prog w = .ok (.enter K args) w) (hv : RI I w .i64 v xs)
    (hf : ∀ x ∈ xs, ∀ w', Below w.heap.size w w' → Calls Tryz.prog K (#[.int .i64 x] ++ caps) w' fun e w'' => e = .returned (.bool (p x)) ∧ Below w'.heap.size w' w'') :
    Calls Tryz.prog 239 #[v, .func (.func K) #[] caps] w fun e w' => e = .returned (.bool (xs.any p)) ∧ Below w.heap.size w w' := by
  have hx := Lib.hid (idx_any p xs 0)
  have hc := Lib.hid (indexI64 K caps p xs v I w hcall hv hf)
  clear hf hv hcall
  go_enter Tryz.func239, Tryz.ntmps239
  go_wp2_with fail
  refine hc.out.mono ?_
  rintro e w1 ⟨rfl, hb⟩
  go_wp2
  go_ret
  exact ⟨by rw [← hx.out]; rfl, hb⟩

def fewF (l : List Int) : Bool := decide (l.length ≤ 20) && l.all typeOk
theorem any_not {α : Type} (l : List α) (p : α → Bool) : l.any (fun x => !p x) = !l.all p := by
  induction l with
  | nil => rfl
  | cons x l ih => simp [ih]
theorem few_any (xs : List Int) (v : Value) (I : Nat → Prop) (w : World) (hv : RI I w .u8 v xs) :
    Calls Tryz.prog 267 #[v] w fun e w' => e = .returned (.bool (fewF xs)) ∧ Below w.heap.size w w' := by
  have hc := Lib.hid (containsU8 296 #[] (fun n => !typeOk n) xs v I w Tryz.call296 hv (fun x _ w' _ => (few1_any x w').mono (fun e w'' ⟨h1, h2⟩ => ⟨h1, h2 ▸ Below.refl _ _⟩)))
  rw [any_not] at hc
  obtain ⟨A, c, rfl, hl, hr⟩ := hv
  clear hr
  unfold fewF
  by_cases h20 : xs.length ≤ 20
  · go_enter Tryz.func267, Tryz.ntmps267
    go_wp2_with (go_at_call 295; refine hc.out.mono ?_; rintro e w' ⟨rfl, hb⟩)
    all_goals (go_ret; exact ⟨ret_bool (by simp_all), by assumption⟩)
  · go_enter Tryz.func267, Tryz.ntmps267
    go_wp2_with (go_at_call 295; refine hc.out.mono ?_; rintro e w' ⟨rfl, hb⟩)
    all_goals (go_ret; exact ⟨ret_bool (by simp_all <;> omega), Below.refl _ _⟩)

/-- A signature's value. -/
structure Sg where
  P : List Int
  R : List Int
def RSg (I : Nat → Prop) (w : World) (cs : List Value) (s : Sg) : Prop := ∃ vp vr, cs = [vp, vr] ∧ RI I w .u8 vp s.P ∧ RI I w .u8 vr s.R
theorem RSg.kp {I : Nat → Prop} {w w' : World} {cs : List Value} {s : Sg} (h : RSg I w cs s) (hk : Kp I w w') : RSg I w' cs s := by
  obtain ⟨vp, vr, hc, h1, h2⟩ := h
  exact ⟨vp, vr, hc, h1.kp hk, h2.kp hk⟩
def Sg.right (s : Sg) : Bool := fewF s.P && fewF s.R
theorem sigRight_any (s : Sg) (cs : List Value) (I : Nat → Prop) (w : World) (hs : RSg I w cs s) :
    Calls Tryz.prog 226 #[.agg cs.toArray] w fun e w' => e = .returned (.bool s.right) ∧ Below w.heap.size w w' := by
  obtain ⟨vp, vr, rfl, h1, h2⟩ := hs
  have h1' : ∀ w', Below w.heap.size w w' → RI I w' .u8 vp s.P := fun w' hb => h1.bl hb
  have h2' : ∀ w', Below w.heap.size w w' → RI I w' .u8 vr s.R := fun w' hb => h2.bl hb
  clear h1 h2
  have H1 := Lib.hid h1'; clear h1'
  have H2 := Lib.hid h2'; clear h2'
  unfold Sg.right
  go_enter Tryz.func226, Tryz.ntmps226
  go_wp2_with fail
  refine (few_any s.P vp I _ (H1.out _ (Bl.alloc (Below.refl _ _) _))).mono ?_
  rintro e w1 ⟨rfl, hb⟩
  have hb1 := Bl.then (Bl.alloc (Below.refl w.heap.size w) _) hb
  have hc := fun o => below_cell hb (g := w.heap.size) (by simp) o
  cases hp : fewF s.P
  · go_wp2
    go_ret
    exact ⟨ret_bool (by simp [hp]), hb1⟩
  · go_wp2_with fail
    refine (few_any s.R vr I _ (H2.out _ hb1)).mono ?_
    rintro e w2 ⟨rfl, hb2⟩
    go_wp2
    go_ret
    exact ⟨ret_bool (by simp [hp]), Bl.then hb1 hb2⟩
def limRight (mn mx most : Int) : Bool := decide (0 ≤ mn) && decide (mn ≤ most) && (decide (mx < 0) || decide (mn ≤ mx) && decide (mx ≤ most))
theorem limRight_any (mn mx most : Int) (b : Bool) (w : World) :
    Calls Tryz.prog 232 #[.agg #[.int .i64 mn, .int .i64 mx, .bool b], .int .i64 most] w fun e w' => e = .returned (.bool (limRight mn mx most)) ∧ Below w.heap.size w w' := by
  unfold limRight
  go_enter Tryz.func232, Tryz.ntmps232
  go_wp2
  all_goals (go_ret; exact ⟨ret_bool (by simp_all <;> omega), Bl.alloc (Below.refl _ _) _⟩)
end Go.Proofs.YtmfbfbinimnchaaGreatDoor
