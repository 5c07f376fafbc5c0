/- Walks: grommetlaw21.awake, StateNone. No condition. -/
import Derived.Test.YtmfbfbinimnchaaGreatDoorSC
set_option linter.unusedVariables false
set_option linter.unusedSimpArgs false
namespace Go.Proofs.YtmfbfbinimnchaaGreatDoor
open Go.RowKit Go.Sort Go.Maps

theorem curK_2 (X : Array Value) : curK X 2 = putV (putV X 0 5 8) 8 6 8 := by simp [curK]
theorem curK_at (X : Array Value) (hX : X.size = 1000) (j : Nat) (hj : j < 8) : (curK X 2)[8 * 1 + j]? = some (.int .u8 (6 / 2 ^ (8 * j) % 256)) := by
  rw [curK_2]
  exact putV_at _ _ _ _ _ hj (by rw [putV_size, hX]; omega)
theorem base_size : (clrF (clrF (zeros 1000) 0 16) 16 16).size = 1000 := by
  have h0 := zeros_size 1000
  generalize zeros 1000 = X at *
  have h1 := clrF_size X 0 16 (by omega)
  generalize clrF X 0 16 = Y at *
  rw [clrF_size Y 16 16 (by omega)]; omega
theorem cur21_at (j : Nat) (hj : j < 8) : cur21[8 * 1 + j]? = some (.int .u8 (6 / 2 ^ (8 * j) % 256)) := by
  unfold cur21
  exact curK_at _ base_size j hj
def W21 (w : World) : World := (w.alloc (.cells #[.int .u8 127, .bool false, .int .u64 5, .int .u8 126, .bool false, .int .u64 6] 110)).alloc
  (.cells #[.slice none 0 0, .slice none 0 0, .slice none 0 0, .int .i64 (-1), .slice none 0 0, .slice (some ⟨w.heap.size, 0, none⟩) 2 2, .slice none 0 0, .int .i64 (-1), .slice none 0 0, .slice none 0 0] 105)
theorem W21_m (w : World) : M21C (W21 w) (w.heap.size + 1) w.heap.size := by
  constructor
  · simp only [W21, heap_alloc_if, World.size_alloc]; simp
  · simp only [W21, heap_alloc_if, World.size_alloc]; (repeat' split) <;> first | rfl | (exfalso; omega) | simp_all
theorem W21_bl (w : World) : Below w.heap.size w (W21 w) := Bl.alloc (Bl.alloc (Below.refl _ _) _) _
theorem W21_size (w : World) : (W21 w).heap.size = w.heap.size + 2 := by simp [W21]
set_option maxRecDepth 100000 in
theorem awake_any (w : World) : Calls Tryz.prog 21 #[] w fun e w' => e = .returned (.bool true) ∧ Below w.heap.size w w' := by
  have HN := Lib.hid (arenaNew_any 1000 (W21 w) (by omega))
  have hm := W21_m w
  have hb0 := W21_bl w
  have hsz := W21_size w
  go_enter Tryz.func21, Tryz.ntmps21
  go_wp2_with fail
  show Calls Tryz.prog 25 _ (W21 w) _
  generalize W21 w = w0 at *
  refine HN.out.mono ?_
  rintro e w1 ⟨a, gb, gt, gg, rfl, A, h1, h2, h3, h4, hb1⟩
  have hM1 := hm.keep (S := fun _ => False) (Ex.bl hb1) id id
  have HM1 := Lib.hid hM1
  have HA1 := Lib.hid A
  have HB1 := Lib.hid (Bl.then hb0 hb1)
  have la := lt_of_heap A.ha
  have lb := lt_of_heap A.hb
  have lt : gt < w1.heap.size := by obtain ⟨es, ck, hm, _⟩ := A.ht; exact lt_of_heap hm
  have hs1 := hb1.size
  clear hm hM1 A hb0 hb1 HN
  go_wp2_with fail
  refine (pager08_2 w1).mono ?_
  rintro e w2 ⟨⟨p, rfl, hp⟩, hb2⟩
  have x2 : Ex (fun _ => False) w1 w2 := Ex.bl hb2
  have hs2 := hb2.size
  have HB2 := Lib.hid (Bl.then HB1.out hb2)
  have hM2 := HM1.out.keep x2 id id
  have hA2 := HA1.out.keep x2 id id id id
  have HNew := Lib.hid (new_2 w2 (w.heap.size + 1) w.heap.size a p gb gt gg hM2 hA2 (by omega) (by omega))
  clear x2 hb2 HB1 hM2 hA2 HM1 HA1
  go_wp2_with fail
  refine HNew.out.mono ?_
  rintro e w3 ⟨s, rfl, hs, hS3, hM3, A3, x3⟩
  have HG := Lib.hid (Global_2 w3 s (w.heap.size + 1) w.heap.size a p gb gt gg cur21 32 32 1 6 hS3 hM3 A3 (by omega) (.inr rfl) cur21_at)
  have HB3 := Lib.hid (HB2.out.trans (x3.below HB2.out.size (by omega)))
  clear hS3 hM3 A3 x3 HNew
  go_wp2_with fail
  refine HG.out.mono ?_
  rintro e w4 ⟨rfl, k, rfl⟩
  go_wp2
  go_ret
  exact ⟨rfl, Bl.drewN HB3.out _⟩
set_option maxRecDepth 100000 in
theorem stateNone_any (w : World) (i v : Int) : Calls Tryz.prog 5 #[.int .i64 i, .int .u64 v] w fun e w' => e = .returned (.bool true) ∧ Below w.heap.size w w' := by
  have HA := Lib.hid (awake_any w)
  go_enter Tryz.func5, Tryz.ntmps5
  go_wp2_with fail
  refine HA.out.mono ?_
  rintro e w1 ⟨rfl, hb1⟩
  have HB1 := Lib.hid hb1
  clear hb1 HA
  go_wp2_with fail
  refine (Global_nil w1 i).mono ?_
  rintro e w2 ⟨rfl, rfl⟩
  go_wp2_with fail
  refine (Entry_nil w1 i).mono ?_
  rintro e w2 ⟨rfl, rfl⟩
  go_wp2_with fail
  refine (Memory_nil w1 i).mono ?_
  rintro e w2 ⟨rfl, rfl⟩
  go_wp2_with fail
  refine (arenaNew_any 100 w1 (by omega)).mono ?_
  rintro e w2 ⟨a, gb, gt, gg, rfl, A, h1, h2, h3, h4, hb2⟩
  have HB2 := Lib.hid (Bl.then HB1.out hb2)
  clear A h1 h2 h3 h4 hb2 HB1
  go_wp2_with fail
  refine (Empty_any w2).mono ?_
  rintro e w3 ⟨m, rfl, hb3⟩
  have HB3 := Lib.hid (Bl.then HB2.out hb3)
  clear hb3 HB2
  go_wp2_with fail
  refine (new_state w3 _).mono ?_
  rintro e w4 ⟨rfl, rfl⟩
  go_wp2_with fail
  refine (pager08_1 w3).mono ?_
  rintro e w4 ⟨⟨p, rfl, hp⟩, hb4⟩
  have HB4 := Lib.hid (Bl.then HB3.out hb4)
  clear hb4 hp HB3
  go_wp2_with fail
  refine (new_type w4 a p).mono ?_
  rintro e w5 ⟨rfl, hb5⟩
  have HB5 := Lib.hid (Bl.then HB4.out hb5)
  clear hb5 HB4
  go_wp2_with fail
  refine (Set_nil w5 i v).mono ?_
  rintro e w6 ⟨rfl, rfl⟩
  go_wp2_with fail
  refine (Pages_nil w5).mono ?_
  rintro e w6 ⟨rfl, rfl⟩
  go_wp2_with fail
  refine (Module_nil w5).mono ?_
  rintro e w6 ⟨rfl, rfl⟩
  go_wp2_with fail
  refine (Close_nil w5).mono ?_
  rintro e w6 ⟨rfl, rfl⟩
  go_wp2
  go_ret
  exact ⟨rfl, HB5.out⟩
end Go.Proofs.YtmfbfbinimnchaaGreatDoor
