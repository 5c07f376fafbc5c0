/- Walks: (*state.State).rooms at a module of two globals without a table. No condition. -/
import Derived.Test.YtmfbfbinimnchaaGreatDoorS5
import Derived.Deep.RegionHeld3
set_option linter.unusedVariables false
set_option linter.unusedSimpArgs false
namespace Go.Proofs.YtmfbfbinimnchaaGreatDoor
open Go.RowKit Go.Sort Go.Maps

/-- A state's cells. -/
def StC (w : World) (s m a p : Nat) (gl tb : Int) : Prop :=
  w.heap[s]? = some (.cells #[.pointer (some ⟨m, 0, none⟩), .pointer (some ⟨a, 0, none⟩), .pointer (some ⟨p, 0, none⟩), .int .i64 0, .int .i64 gl, .int .i64 tb, .slice none 0 0, .bool false] 139 (0, 0))
/-- What stays: the module's cells that are read. -/
structure M2 (w : World) (m gv : Nat) : Prop where
  c3 : w.cell? ⟨m, 3, none⟩ = some (.int .i64 (-1))
  c4 : w.cell? ⟨m, 4, none⟩ = some (.slice none 0 0)
  c5 : w.cell? ⟨m, 5, none⟩ = some (.slice (some ⟨gv, 0, none⟩) 2 2)
  c8 : w.cell? ⟨m, 8, none⟩ = some (.slice none 0 0)
  c9 : w.cell? ⟨m, 9, none⟩ = some (.slice none 0 0)
  g0 : w.cell? ⟨gv, 0, none⟩ = some (.int .u8 127)
  g1 : w.cell? ⟨gv, 1, none⟩ = some (.bool false)
  g2 : w.cell? ⟨gv, 2, none⟩ = some (.int .u64 5)
  g3 : w.cell? ⟨gv, 3, none⟩ = some (.int .u8 126)
  g4 : w.cell? ⟨gv, 4, none⟩ = some (.bool false)
  g5 : w.cell? ⟨gv, 5, none⟩ = some (.int .u64 6)
theorem M2.lt {w : World} {m gv : Nat} (h : M2 w m gv) : m < w.heap.size ∧ gv < w.heap.size := ⟨World.block_lt_of_cell? w ⟨m, 3, none⟩ h.c3, World.block_lt_of_cell? w ⟨gv, 0, none⟩ h.g0⟩
theorem M2.keep {w w' : World} {m gv : Nat} (h : M2 w m gv) {S : Nat → Prop} (hx : Ex S w w') (h1 : ¬ S m) (h2 : ¬ S gv) : M2 w' m gv := by
  have e1 := fun o => cell_of_block (hx.block m h.lt.1 h1) o
  have e2 := fun o => cell_of_block (hx.block gv h.lt.2 h2) o
  exact ⟨(e1 _).trans h.c3, (e1 _).trans h.c4, (e1 _).trans h.c5, (e1 _).trans h.c8, (e1 _).trans h.c9, (e2 _).trans h.g0, (e2 _).trans h.g1, (e2 _).trans h.g2, (e2 _).trans h.g3, (e2 _).trans h.g4, (e2 _).trans h.g5⟩

theorem cls16 : clsF 16 = 16 := by decide
theorem cls0 : clsF 0 = 16 := by decide
theorem cell_set_ne (w : World) (b o b' o' : Nat) (v : Value) (h : b ≠ b' ∨ o ≠ o') : (w.setCell ⟨b, o, none⟩ v).cell? ⟨b', o', none⟩ = w.cell? ⟨b', o', none⟩ :=
  World.cell?_setCell_other w _ _ v (by intro e; simp at e; omega)
def RoomsPost (s m a p gb gt gg : Nat) (w : World) (e : Ending) (w' : World) : Prop :=
  e = .returned (.int .i64 0) ∧ StC w' s m a p 0 16 ∧ ArA w' a gb gt gg 1000 (clrF (clrF (zeros 1000) 0 16) 16 16) (0 + 16 + 16) (0 + 16 + 16) ∧ Ex (fun k => k = s ∨ k = a ∨ k = gb ∨ k = gt) w w'
set_option maxRecDepth 100000 in
set_option maxHeartbeats 2000000 in
theorem rooms_2 (w : World) (s m gv a p gb gt gg : Nat) (hS : StC w s m a p 0 0) (hM : M2 w m gv) (A : ArA w a gb gt gg 1000 (zeros 1000) 0 0)
    (n1 : ¬ (m = s ∨ m = a ∨ m = gb ∨ m = gt)) (n2 : ¬ (gv = s ∨ gv = a ∨ gv = gb ∨ gv = gt)) (n3 : ¬ (s = a ∨ s = gb ∨ s = gt)) (n4 : gg ≠ s) :
    Calls Tryz.prog 65 #[.pointer (some ⟨s, 0, none⟩)] w (RoomsPost s m a p gb gt gg w) := by
  have c0 := cell_of_row w s 0 _ _ _ hS
  have c1 := cell_of_row w s 1 _ _ _ hS
  have c4 := cell_of_row w s 4 _ _ _ hS
  have q := fun j => frozen_of_row w s j _ _ hS
  simp at c0 c1 c4
  have d5 := hM.c5
  have HT := Lib.hid (fun n => take_any (w.drewN n) a gb gt gg 1000 (zeros 1000) 0 0 16 (A.keep (S := fun _ => False) ((Ex.refl _ w).drewN n) id id id id) (by omega) (by rw [cls16]; omega) (by omega))
  have HK := Lib.hid (fun (X : World) (hx : Ex (fun k => k = a ∨ k = gb ∨ k = gt) w X) => (⟨(cell_of_block (hx.block s (lt_of_heap hS) n3) 0).trans c0, (cell_of_block (hx.block s (lt_of_heap hS) n3) 1).trans c1, (cell_of_block (hx.block m hM.lt.1 (by omega)) 5).trans d5⟩ :
    X.cell? ⟨s, 0, none⟩ = some (.pointer (some ⟨m, 0, none⟩)) ∧ X.cell? ⟨s, 1, none⟩ = some (.pointer (some ⟨a, 0, none⟩)) ∧ X.cell? ⟨m, 5, none⟩ = some (.slice (some ⟨gv, 0, none⟩) 2 2)))
  have HK2 := Lib.hid (fun (X : World) (j : Nat) (v : Value) (hj : 4 ≤ j) (h : X.cell? ⟨s, 0, none⟩ = some (.pointer (some ⟨m, 0, none⟩)) ∧ X.cell? ⟨s, 1, none⟩ = some (.pointer (some ⟨a, 0, none⟩)) ∧ X.cell? ⟨m, 5, none⟩ = some (.slice (some ⟨gv, 0, none⟩) 2 2)) =>
    (⟨(cell_set_ne X s j s 0 v (.inr (by omega))).trans h.1, (cell_set_ne X s j s 1 v (.inr (by omega))).trans h.2.1, (cell_set_ne X s j m 5 v (.inl (by omega))).trans h.2.2⟩ :
    (X.setCell ⟨s, j, none⟩ v).cell? ⟨s, 0, none⟩ = some (.pointer (some ⟨m, 0, none⟩)) ∧ (X.setCell ⟨s, j, none⟩ v).cell? ⟨s, 1, none⟩ = some (.pointer (some ⟨a, 0, none⟩)) ∧ (X.setCell ⟨s, j, none⟩ v).cell? ⟨m, 5, none⟩ = some (.slice (some ⟨gv, 0, none⟩) 2 2)))
  have HS := Lib.hid hS
  have HM := Lib.hid hM
  have HA := Lib.hid A
  clear hS hM A
  go_enter Tryz.func65, Tryz.ntmps65
  go_wp2
  go_region_held3 (fun X => X.cell? ⟨s, 0, none⟩ = some (.pointer (some ⟨m, 0, none⟩)) ∧ X.cell? ⟨s, 1, none⟩ = some (.pointer (some ⟨a, 0, none⟩)) ∧ X.cell? ⟨m, 5, none⟩ = some (.slice (some ⟨gv, 0, none⟩) 2 2)) (first | exact HK.out _ (((Ex.refl _ w).drewN _).trans (by assumption)) | exact HK2.out _ _ _ (by omega) (HK.out _ (((Ex.refl _ w).drewN _).trans (by assumption))) | go_keep) ((go_at_call 101; refine (HT.out _).mono ?_; rintro e w1 ⟨rfl, A1, x1⟩; have hs1 := (x1.block s (lt_of_heap HS.out) n3).trans HS.out; have q1 := fun j => frozen_of_row w1 s j _ _ hs1; have e4 := cell_of_row w1 s 4 _ _ _ hs1; simp at e4; have HS1 := Lib.hid hs1; clear hs1; rw [cls16] at A1; have HA1 := Lib.hid A1; clear A1))
  go_wp2
  have xs1 : Ex (· = s) w1 (w1.setCell ⟨s, 4, none⟩ (.int .i64 0)) := (Ex.refl _ w1).setCell _ _ rfl
  have xs2 : Ex (fun k => k = s ∨ k = a ∨ k = gb ∨ k = gt) w (w1.setCell ⟨s, 4, none⟩ (.int .i64 0)) := ((((Ex.refl (fun k => k = a ∨ k = gb ∨ k = gt) w).drewN _).trans x1).sub fun k h => .inr h).trans (xs1.sub fun k h => .inl h)
  have hA1 := HA1.out.keep xs1 (by omega) (by omega) (by omega) n4
  have hS1 : (w1.setCell ⟨s, 4, none⟩ (.int .i64 0)).heap[s]? = some (.cells #[.pointer (some ⟨m, 0, none⟩), .pointer (some ⟨a, 0, none⟩), .pointer (some ⟨p, 0, none⟩), .int .i64 0, .int .i64 0, .int .i64 0, .slice none 0 0, .bool false] 139 (0, 0)) := by
    rw [heap_setCell_same w1 s 4 _ 139 _ HS1.out]; simp
  have hM1 := HM.out.keep xs2 n1 n2
  generalize w1.setCell ⟨s, 4, none⟩ (.int .i64 0) = w2 at *
  have HS2 := Lib.hid hS1
  have HA2 := Lib.hid hA1
  have HX2 := Lib.hid xs2
  have d0 := cell_of_row w2 s 0 _ _ _ hS1
  have d1 := cell_of_row w2 s 1 _ _ _ hS1
  have d3 := hM1.c3
  simp at d0 d1
  have HM2 := Lib.hid hM1
  clear hS1 hA1 hM1 xs1 xs2 x1 HK HK2 HA1 HS1 HS HA HT e4 q1 c0 c1 c4 q
  have HT := Lib.hid (fun n => take_any (w2.drewN n) a gb gt gg 1000 (clrF (zeros 1000) 0 16) 16 16 0 (HA2.out.keep (S := fun _ => False) ((Ex.refl _ w2).drewN n) id id id id) (by omega) (by rw [cls0]; omega) (by omega))
  have HK := Lib.hid (fun (X : World) (hx : Ex (fun k => k = a ∨ k = gb ∨ k = gt) w2 X) => (⟨(cell_of_block (hx.block s (lt_of_heap HS2.out) n3) 0).trans d0, (cell_of_block (hx.block s (lt_of_heap HS2.out) n3) 1).trans d1, (cell_of_block (hx.block m HM2.out.lt.1 (by omega)) 3).trans d3⟩ :
    X.cell? ⟨s, 0, none⟩ = some (.pointer (some ⟨m, 0, none⟩)) ∧ X.cell? ⟨s, 1, none⟩ = some (.pointer (some ⟨a, 0, none⟩)) ∧ X.cell? ⟨m, 3, none⟩ = some (.int .i64 (-1))))
  have HK2 := Lib.hid (fun (X : World) (j : Nat) (v : Value) (hj : 4 ≤ j) (h : X.cell? ⟨s, 0, none⟩ = some (.pointer (some ⟨m, 0, none⟩)) ∧ X.cell? ⟨s, 1, none⟩ = some (.pointer (some ⟨a, 0, none⟩)) ∧ X.cell? ⟨m, 3, none⟩ = some (.int .i64 (-1))) =>
    (⟨(cell_set_ne X s j s 0 v (.inr (by omega))).trans h.1, (cell_set_ne X s j s 1 v (.inr (by omega))).trans h.2.1, (cell_set_ne X s j m 3 v (.inl (by omega))).trans h.2.2⟩ :
    (X.setCell ⟨s, j, none⟩ v).cell? ⟨s, 0, none⟩ = some (.pointer (some ⟨m, 0, none⟩)) ∧ (X.setCell ⟨s, j, none⟩ v).cell? ⟨s, 1, none⟩ = some (.pointer (some ⟨a, 0, none⟩)) ∧ (X.setCell ⟨s, j, none⟩ v).cell? ⟨m, 3, none⟩ = some (.int .i64 (-1))))
  go_region_held3 (fun X => X.cell? ⟨s, 0, none⟩ = some (.pointer (some ⟨m, 0, none⟩)) ∧ X.cell? ⟨s, 1, none⟩ = some (.pointer (some ⟨a, 0, none⟩)) ∧ X.cell? ⟨m, 3, none⟩ = some (.int .i64 (-1))) (first | exact HK.out _ (((Ex.refl _ w2).drewN _).trans (by assumption)) | exact HK2.out _ _ _ (by omega) (HK.out _ (((Ex.refl _ w2).drewN _).trans (by assumption))) | go_keep) ((go_at_call 101; refine (HT.out _).mono ?_; rintro e w3 ⟨rfl, A1, x3⟩; have hs3 := (x3.block s (lt_of_heap HS2.out) n3).trans HS2.out; have q3 := fun j => frozen_of_row w3 s j _ _ hs3; have e5 := cell_of_row w3 s 5 _ _ _ hs3; simp at e5; have HS3 := Lib.hid hs3; clear hs3; rw [cls0] at A1; have HA3 := Lib.hid A1; clear A1))
  go_wp2
  go_ret
  have xs3 : Ex (· = s) w3 (w3.setCell ⟨s, 5, none⟩ (.int .i64 16)) := (Ex.refl _ w3).setCell _ _ rfl
  refine ⟨rfl, ?_, HA3.out.keep xs3 (by omega) (by omega) (by omega) n4, HX2.out.trans (((((Ex.refl (fun k => k = a ∨ k = gb ∨ k = gt) w2).drewN _).trans x3).sub fun k h => .inr h).trans (xs3.sub fun k h => .inl h))⟩
  have := heap_setCell_same w3 s 5 _ 139 (.int .i64 16) HS3.out
  unfold StC
  rw [this]; simp
end Go.Proofs.YtmfbfbinimnchaaGreatDoor
