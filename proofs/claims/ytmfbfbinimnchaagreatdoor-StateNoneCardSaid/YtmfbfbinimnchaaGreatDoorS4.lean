/- Walks: (*arena.Arena).place, Take, where nothing was given back so far. No condition. -/
import Derived.Test.YtmfbfbinimnchaaGreatDoorS3
import Derived.Maps.OwnOps
set_option linter.unusedVariables false
set_option linter.unusedSimpArgs false
namespace Go.Proofs.YtmfbfbinimnchaaGreatDoor
open Go.RowKit Go.Sort Go.Maps

theorem heap_drewN (w : World) (n : Nat) : (w.drewN n).heap = w.heap := rfl
theorem key_int (c : Nat) (hc : c ≤ 8388608) : ∃ l, keyOf Tryz.prog 3 (.int .i64 c) = some l := ⟨_, keyOf_int_mk Tryz.underlying3 (WalkArith.wf_i64 (by omega))⟩

theorem wpList_lookup_eq {ops : Array Oper} {rest : List Oper} {o : Oper} {a : Act} {Q : Exit → Act → World → Prop} {w : World} (hg : o.guard = none) (t : TypeId) (x y : Operand) (b : Bool) (hop : o.op = .lookup t x y b)
    (m k z : Value) (hm : a.eval x = m) (hk : a.eval y = k) (hrun : (Instr.lookup t m k b).run Tryz.prog w = .ok z w) (hK : wpList Tryz.prog ops Q rest (a.put o.dst z) w) : wpList Tryz.prog ops Q (o :: rest) a w := by
  refine wpList_plain hg fun K' hK' => ?_
  unfold Oper.wp
  simp [execOp, hop, hm, hk, hrun, Result.andThen]
  exact hK' _ _ hK

def PlacePost (a gb gt gg N : Nat) (cur : Array Value) (h l c : Nat) (w : World) (e : Ending) (w' : World) : Prop :=
  e = .returned (.tuple #[.int .i64 h, .bool true]) ∧ ArA w' a gb gt gg N cur (h + c) l ∧ Ex (· = a) w w'
set_option maxRecDepth 100000 in
theorem place_any (w : World) (a gb gt gg N : Nat) (cur : Array Value) (h l c : Nat) (A : ArA w a gb gt gg N cur h l) (hc : h + c ≤ N) :
    Calls Tryz.prog 129 #[.pointer (some ⟨a, 0, none⟩), .int .i64 c] w (PlacePost a gb gt gg N cur h l c w) := by
  have hN := A.hN
  obtain ⟨kl, hk⟩ := key_int c (by omega)
  have hlook := run_lookup_none (t := 142) (e := 82) (z := .slice none 0 0) c kl hk Tryz.underlying142 (Tryz.zeroValue82 w) A.hg
  have c0 := cell_of_row w a 0 _ _ _ A.ha
  have c1 := cell_of_row w a 1 _ _ _ A.ha
  have c4 := cell_of_row w a 4 _ _ _ A.ha
  have q := fun j => frozen_of_row w a j _ _ A.ha
  simp at c0 c1 c4
  have HA := Lib.hid A
  have HL := Lib.hid hlook
  clear A hk hlook
  go_enter Tryz.func129, Tryz.ntmps129
  go_wp2_with (at_lookup; refine wpList_lookup_eq rfl 142 _ _ false rfl (.map (some gg)) (.int .i64 c) (.slice none 0 0) rfl rfl HL.out ?_)
  go_quiet (fail)
  have hd : decide ((N : Int) - (h : Int) < (c : Int)) = false := decide_eq_false (by omega)
  go_wp2
  go_ret2
  refine ⟨rfl, ⟨?_, ?_, HA.out.hs, HA.out.hN, ?_, ?_, HA.out.ne⟩, ((Ex.refl _ w).drewN _).setCell _ _ rfl⟩
  · have := heap_setCell_same (w.drewN nq) a 1 _ 144 (.int .i64 ((h : Int) + (c : Int))) (show (w.drewN nq).heap[a]? = _ from HA.out.ha)
    rw [this]; simp
  · rw [heap_setCell_other _ _ _ _ (Ne.symm HA.out.ab)]; exact HA.out.hb
  · exact HA.out.ht.keep (heap_setCell_other _ _ _ _ (Ne.symm HA.out.at_))
  · rw [heap_setCell_other _ _ _ _ (Ne.symm HA.out.ag)]; exact HA.out.hg

def clrF (cur : Array Value) (h c : Nat) : Array Value := (cur.toList.take h ++ List.replicate c (Value.int .u8 0) ++ cur.toList.drop (h + c)).toArray
theorem clrF_size (cur : Array Value) (h c : Nat) (hl : h + c ≤ cur.size) : (clrF cur h c).size = cur.size := by simp [clrF]; omega
theorem clsGo_le (f : Nat) : ∀ c n, 16 ≤ c → 16 ≤ clsGo f c n := by
  induction f with
  | zero => intro c n h; exact h
  | succ f ih => intro c n h; simp only [clsGo]; split; exact ih _ _ (by omega); exact h
theorem setRow_other (w : World) (g k : Nat) (cs : Array Value) (h : k ≠ g) : (w.setRow g cs).heap[k]? = w.heap[k]? := by
  unfold World.setRow
  simp [Array.getElem?_modify, Ne.symm h]
theorem setRow_size (w : World) (g : Nat) (cs : Array Value) : (w.setRow g cs).heap.size = w.heap.size := by simp [World.setRow]
theorem Ex.setRow (w : World) (g : Nat) (cs : Array Value) : Ex (· = g) w (w.setRow g cs) :=
  ⟨rfl, rfl, rfl, (setRow_size w g cs).symm ▸ Nat.le_refl _, fun k _ hne => setRow_other w g k cs hne⟩
section
variable {ops : Array Oper} {rest : List Oper} {o : Oper} {f : Act} {Q : Exit → Act → World → Prop} {w : World} {a gb gt gg N : Nat} {cur : Array Value} {h l : Nat}
theorem wpList_clearA (A : ArA w a gb gt gg N cur h l) (hg : o.guard = none) (x : Operand) (hop : o.op = .call { callee := .builtin .clear, args := #[x], argTypes := #[50] }) (at_ n cap : Nat)
    (hx : f.eval x = .slice (some ⟨gb, at_, none⟩) n cap) (hl : at_ + n ≤ N)
    (hK : ∀ w', ArA w' a gb gt gg N (clrF cur at_ n) h l → Ex (· = gb) w w' → wpList Tryz.prog ops Q rest (f.put o.dst (.tuple #[])) w') : wpList Tryz.prog ops Q (o :: rest) f w := by
  have hs : at_ + n ≤ cur.size := by rw [A.hs]; exact hl
  refine wpList_clear50 hg x hop gb at_ n cap cur hx A.hb hs (hK _ ⟨?_, setRow_heap w gb cur _ 5 (0, 0) A.hb, ?_, A.hN, ?_, ?_, A.ne⟩ (Ex.setRow w gb _))
  · rw [setRow_other _ _ _ _ A.ab]; exact A.ha
  · exact (clrF_size cur at_ n hs).trans A.hs
  · exact A.ht.keep (setRow_other _ _ _ _ (Ne.symm A.bt))
  · rw [setRow_other _ _ _ _ (Ne.symm A.bg)]; exact A.hg
theorem wpList_updA (A : ArA w a gb gt gg N cur h l) (hg : o.guard = none) (m x v : Operand) (k : Int) (val : Value) (li : Lit) (hop : o.op = .mapUpdate 141 m x v)
    (hm : f.eval m = .map (some gt)) (hx : f.eval x = .int .i64 k) (hv : f.eval v = val) (hk : keyOf Tryz.prog 3 (.int .i64 k) = some li)
    (hK : ∀ w', ArA w' a gb gt gg N cur h l → Ex (· = gt) w w' → wpList Tryz.prog ops Q rest (f.put o.dst undef) w') : wpList Tryz.prog ops Q (o :: rest) f w :=
  wpList_mapUpdate_any hg m x v 141 3 gt k val li hop Tryz.underlying141 hm hx hv hk A.ht fun w' hx' _ hM =>
    hK w' ⟨(hx'.block a (lt_of_heap A.ha) A.at_).trans A.ha, (hx'.block gb (lt_of_heap A.hb) A.bt).trans A.hb, A.hs, A.hN, hM, (hx'.block gg (lt_of_heap A.hg) (Ne.symm A.ne)).trans A.hg, A.ne⟩ hx'
end

def TakePost (a gb gt gg N : Nat) (cur : Array Value) (h l c : Nat) (w : World) (e : Ending) (w' : World) : Prop :=
  e = .returned (.tuple #[.int .i64 h, .int .i64 0]) ∧ ArA w' a gb gt gg N (clrF cur h c) (h + c) (l + c) ∧ Ex (fun k => k = a ∨ k = gb ∨ k = gt) w w'
set_option maxRecDepth 100000 in
theorem take_any (w : World) (a gb gt gg N : Nat) (cur : Array Value) (h l n : Nat) (A : ArA w a gb gt gg N cur h l) (hn : n ≤ 4194304) (hc : h + clsF n ≤ N) (hl : l ≤ 8388608) :
    Calls Tryz.prog 101 #[.pointer (some ⟨a, 0, none⟩), .int .i64 n] w (TakePost a gb gt gg N cur h l (clsF n) w) := by
  have hN := A.hN
  have hcl := Lib.hid (class_any n w hn)
  have h16 : 16 ≤ clsF n := clsGo_le _ _ _ (by omega)
  generalize clsF n = c at *
  have hp := Lib.hid (place_any w a gb gt gg N cur h l c A hc)
  obtain ⟨kl, hk⟩ := key_int h (by omega)
  have HK := Lib.hid hk
  clear A hk
  go_enter Tryz.func101, Tryz.ntmps101
  go_wp2_with fail
  refine hcl.out.mono ?_
  rintro e w1 ⟨rfl, rfl⟩
  go_wp2_with fail
  refine hp.out.mono ?_
  rintro e w1 ⟨rfl, A1, hx1⟩
  have c0 := cell_of_row w1 a 0 _ _ _ A1.ha
  have c2 := cell_of_row w1 a 2 _ _ _ A1.ha
  have c3 := cell_of_row w1 a 3 _ _ _ A1.ha
  simp at c0 c2 c3
  have HA := Lib.hid A1
  have HX := Lib.hid hx1
  clear A1 hx1
  go_wp2_with (first | (refine wpList_clearA HA.out rfl _ rfl h (h + c - h) (N - h) rfl (by omega) ?_; intro w2 A2 x2; rw [Nat.add_sub_cancel_left] at A2; have d0 := cell_of_row w2 a 0 _ _ _ A2.ha; have d2 := cell_of_row w2 a 2 _ _ _ A2.ha; have d3 := cell_of_row w2 a 3 _ _ _ A2.ha; simp at d0 d2 d3; have HA2 := Lib.hid A2; have HX2 := Lib.hid x2; clear A2 x2) | (at_mapUpdate; refine wpList_updA HA2.out rfl _ _ _ h _ _ rfl rfl rfl rfl HK.out ?_; intro w3 A3 x3; have e2 := cell_of_row w3 a 2 _ _ _ A3.ha; have q := fun j => frozen_of_row w3 a j _ _ A3.ha; simp at e2; have HA3 := Lib.hid A3; have HX3 := Lib.hid x3; clear A3 x3))
  go_ret2
  have x := ((HX.out.sub (T := fun k => k = a ∨ k = gb ∨ k = gt) fun k h => .inl h).trans (HX2.out.sub fun k h => .inr (.inl h))).trans (HX3.out.sub fun k h => .inr (.inr h))
  refine ⟨rfl, ⟨?_, ?_, HA3.out.hs, HA3.out.hN, ?_, ?_, HA3.out.ne⟩, x.setCell _ _ (.inl rfl)⟩
  · rw [heap_setCell_same w3 a 2 _ 144 _ HA3.out.ha]; simp
  · rw [heap_setCell_other _ _ _ _ (Ne.symm HA3.out.ab)]; exact HA3.out.hb
  · exact HA3.out.ht.keep (heap_setCell_other _ _ _ _ (Ne.symm HA3.out.at_))
  · rw [heap_setCell_other _ _ _ _ (Ne.symm HA3.out.ag)]; exact HA3.out.hg
end Go.Proofs.YtmfbfbinimnchaaGreatDoor
