/- Walks: state.New at the module of two globals, and where it gives none. No condition. -/
import Derived.Test.YtmfbfbinimnchaaGreatDoorSA
import Derived.Test.YtmfbfbinimnchaaGreatDoorSB
set_option linter.unusedVariables false
set_option linter.unusedSimpArgs false
namespace Go.Proofs.YtmfbfbinimnchaaGreatDoor
open Go.RowKit Go.Sort Go.Maps

theorem M21C.m2 {w : World} {m gv : Nat} (h : M21C w m gv) : M2 w m gv := by
  have c := fun j => cell_of_row w m j _ _ _ h.hm
  have g := fun j => cell_of_row w gv j _ _ _ h.hg
  exact ⟨c 3, c 4, c 5, c 8, c 9, g 0, g 1, g 2, g 3, g 4, g 5⟩
theorem M21C.keep {w w' : World} {m gv : Nat} (h : M21C w m gv) {S : Nat → Prop} (hx : Ex S w w') (h1 : ¬ S m) (h2 : ¬ S gv) : M21C w' m gv :=
  ⟨(hx.block m (lt_of_heap h.hm) h1).trans h.hm, (hx.block gv (lt_of_heap h.hg) h2).trans h.hg⟩
theorem Ex.step {T U : Nat → Prop} {a b c : World} (h : Ex T a b) (k : Ex U b c) (hT : ∀ j, j < a.heap.size → U j → T j) : Ex T a c :=
  ⟨k.os.trans h.os, k.tape.trans h.tape, k.output.trans h.output, Nat.le_trans h.size k.size, fun i hi hs => (k.block i (Nat.lt_of_lt_of_le hi h.size) (fun ht => hs (hT i hi ht))).trans (h.block i hi hs)⟩
theorem new_state (w : World) (v : Value) : Calls Tryz.prog 26 #[v, .pointer none, .pointer none, .int .i64 0] w fun e w' => e = .returned (.tuple #[.pointer none, .int .i64 0, .int .i64 12]) ∧ w = w' := by
  go_enter Tryz.func26, Tryz.ntmps26
  go_wp2
  refine bodyPost_ret (v := .tuple #[.pointer none, .int .i64 0, .int .i64 12]) (by simp [results, Tryz.results26, go_sem, *]) rfl ⟨rfl, rfl⟩
theorem new_type (w : World) (a p : Nat) : Calls Tryz.prog 26 #[.pointer none, .pointer (some ⟨a, 0, none⟩), .pointer (some ⟨p, 0, none⟩), .int .i64 0] w fun e w' => e = .returned (.tuple #[.pointer none, .int .i64 0, .int .i64 5]) ∧ Below w.heap.size w w' := by
  have H := Lib.hid (is_nil w)
  go_enter Tryz.func26, Tryz.ntmps26
  go_wp2_with fail
  refine H.out.mono ?_
  rintro e w1 ⟨rfl, hb⟩
  go_wp2
  refine bodyPost_ret (v := .tuple #[.pointer none, .int .i64 0, .int .i64 5]) (by simp [results, Tryz.results26, go_sem, *]) rfl ⟨rfl, hb⟩
def cur21 : Array Value := curK (clrF (clrF (zeros 1000) 0 16) 16 16) 2
def NewPost (m gv a p gb gt gg : Nat) (w : World) (e : Ending) (w' : World) : Prop :=
  ∃ s, e = .returned (.tuple #[.pointer (some ⟨s, 0, none⟩), .int .i64 0, .int .i64 0]) ∧ w.heap.size ≤ s ∧ StC w' s m a p 0 16 ∧ M2 w' m gv ∧ ArA w' a gb gt gg 1000 cur21 32 32 ∧ Ex (fun k => k = a ∨ k = gb ∨ k = gt) w w'
set_option maxRecDepth 100000 in
set_option maxHeartbeats 2000000 in
theorem new_2 (w : World) (m gv a p gb gt gg : Nat) (hM : M21C w m gv) (A : ArA w a gb gt gg 1000 (zeros 1000) 0 0)
    (n1 : ¬ (m = a ∨ m = gb ∨ m = gt)) (n2 : ¬ (gv = a ∨ gv = gb ∨ gv = gt)) :
    Calls Tryz.prog 26 #[.pointer (some ⟨m, 0, none⟩), .pointer (some ⟨a, 0, none⟩), .pointer (some ⟨p, 0, none⟩), .int .i64 0] w (NewPost m gv a p gb gt gg w) := by
  have HI := Lib.hid (is_2 w m gv hM)
  have la := lt_of_heap A.ha
  have lb := lt_of_heap A.hb
  have lg := lt_of_heap A.hg
  have lt : gt < w.heap.size := by obtain ⟨es, ck, hm, _⟩ := A.ht; exact lt_of_heap hm
  have lm := lt_of_heap hM.hm
  have lv := lt_of_heap hM.hg
  have HM := Lib.hid hM
  have HA := Lib.hid A
  clear hM A
  go_enter Tryz.func26, Tryz.ntmps26
  go_wp2_with fail
  refine HI.out.mono ?_
  rintro e w1 ⟨rfl, hb⟩
  have HB := Lib.hid hb
  have hsz := hb.size
  clear hb
  have x2 : Ex (fun _ => False) w (w1.alloc (.cells #[.pointer (some ⟨m, 0, none⟩), .pointer (some ⟨a, 0, none⟩), .pointer (some ⟨p, 0, none⟩), .int .i64 0, .int .i64 0, .int .i64 0, .slice none 0 0, .bool false] 139)) := Ex.bl (Bl.alloc HB.out _)
  have HR := Lib.hid (rooms_2 _ w1.heap.size m gv a p gb gt gg (heap_alloc_new _ _) ((HM.out.keep x2 id id).m2) (HA.out.keep x2 id id id id) (by omega) (by omega) (by omega) (by omega))
  have HX2 := Lib.hid x2
  clear x2
  go_wp2_with fail
  refine HR.out.mono ?_
  rintro e w3 ⟨rfl, hS3, A3, x3⟩
  have x3' : Ex (fun k => k = a ∨ k = gb ∨ k = gt) w w3 := (HX2.out.sub (T := fun k => k = a ∨ k = gb ∨ k = gt) fun _ h => h.elim).step x3 (by omega)
  have hM3 := (HM.out.keep HX2.out id id).m2.keep x3 (by omega) (by omega)
  clear HR HX2 x3
  have HS3 := Lib.hid hS3
  have HA3 := Lib.hid A3
  have HX3 := Lib.hid x3'
  have HM3 := Lib.hid hM3
  have HF := Lib.hid (fill_2 w3 w1.heap.size m gv a p gb gt gg _ _ _ hS3 hM3 A3 (by omega) (by omega) (by omega))
  clear hS3 A3 x3' hM3
  go_wp2_with fail
  refine HF.out.mono ?_
  rintro e w4 ⟨rfl, A4, x4⟩
  have hS4 := (x4.block _ (lt_of_heap HS3.out) (by omega)).trans HS3.out
  have hM4 := HM3.out.keep x4 (by omega) (by omega)
  have HS4 := Lib.hid hS4
  have HM4 := Lib.hid hM4
  have HA4 := Lib.hid A4
  have HX4 := Lib.hid (HX3.out.step x4 (by omega))
  have HG := Lib.hid (segments_2 w4 w1.heap.size m gv a p hS4 hM4)
  clear HF HS3 HM3 HX3 HA3 A4 x4 hS4 hM4
  go_wp2_with fail
  refine HG.out.mono ?_
  rintro e w5 ⟨rfl, rfl⟩
  go_wp2
  refine bodyPost_ret (v := .tuple #[.pointer (some ⟨w1.heap.size, 0, none⟩), .int .i64 0, .int .i64 0]) (by simp [results, Tryz.results26, go_sem, *]) rfl ⟨w1.heap.size, rfl, hsz, HS4.out, HM4.out, HA4.out, HX4.out⟩
end Go.Proofs.YtmfbfbinimnchaaGreatDoor
