/- Walks: block.New, (*block.Store).Size, pager.New, grommetlaw08.Pager. No condition. -/
import Derived.Test.YtmfbfbinimnchaaGreatDoorS4
import Derived.Laws.AppendOwn
set_option linter.unusedVariables false
set_option linter.unusedSimpArgs false
namespace Go.Proofs.YtmfbfbinimnchaaGreatDoor
open Go.RowKit Go.Sort Go.Maps

theorem own_ex {w w1 : World} {base n : Nat} {e : TypeId} {size : Nat} {v : Value} {xs : List Value} (h : w.ownsRow base e size v n xs) {S : Nat → Prop} (hx : Ex S w w1) (hS : ∀ k, S k → k < base) : w1.ownsRow base e size v n xs := by
  refine ⟨h.1, ?_⟩
  rcases h.2 with h2 | ⟨g, cap, cur, hv, hb, hh, h3⟩
  · exact .inl h2
  · exact .inr ⟨g, cap, cur, hv, hb, (hx.block g (lt_of_heap hh) (fun hs => by have := hS g hs; omega)).trans hh, h3⟩
theorem Ex.new {S T : Nat → Prop} {a b c : World} (h : Ex S a b) (k : Ex T b c) (hT : ∀ j, T j → a.heap.size ≤ j) : Ex S a c :=
  ⟨k.os.trans h.os, k.tape.trans h.tape, k.output.trans h.output, Nat.le_trans h.size k.size, fun i hi hs => (k.block i (Nat.lt_of_lt_of_le hi h.size) (fun ht => by have := hT i ht; omega)).trans (h.block i hi hs)⟩
theorem news_at (w : World) (cs : Array Value) (t : TypeId) : ∀ j u, cs.toList[j]? = some u → (w.alloc (.cells cs t)).cell? ((⟨w.heap.size, 0, none⟩ : Addr).add j) = some u := by
  intro j u h
  have e : (⟨w.heap.size, 0, none⟩ : Addr).add j = ⟨w.heap.size, j, none⟩ := by unfold Addr.add; split <;> simp_all
  rw [e]; simpa using h

def NewStore (w : World) (e : Ending) (w' : World) : Prop :=
  ∃ s, e = .returned (.tuple #[.pointer (some ⟨s, 0, none⟩), .int .i64 0]) ∧ w.heap.size ≤ s ∧ s < w'.heap.size ∧ w'.cell? ⟨s, 0, none⟩ = some (.int .i64 64) ∧ Below w.heap.size w w'
theorem blockNew_64 (w : World) : Calls Tryz.prog 68 #[.int .i64 64, .int .i64 4096] w (NewStore w) := by
  have hmm := @run_makeMap Tryz.prog
  go_enter Tryz.func68, Tryz.ntmps68
  go_wp2
  go_ret2
  exact ⟨w.heap.size + 1, rfl, by omega, by simp, by simp, Bl.alloc (Bl.alloc (Below.refl _ _) _) _⟩
theorem blockSize_any (s : Nat) (n : Int) (w : World) (h : w.cell? ⟨s, 0, none⟩ = some (.int .i64 n)) : Calls Tryz.prog 106 #[.pointer (some ⟨s, 0, none⟩)] w fun e w' => e = .returned (.int .i64 n) ∧ w = w' := by
  go_enter Tryz.func106, Tryz.ntmps106
  go_wp2
  go_ret
  exact ⟨rfl, rfl⟩

theorem info231 : (Tryz.prog.info? 231).map (fun i => (i.zero, i.size, i.bytes)) = some (some (.agg #[.int .i64 0, .int .i64 0, .int .i64 0, .bool false, .bool false, .bool false]), 6, 32) := by kernel_rfl
theorem cls64 : clsF 64 = 64 := by decide

def NewPager (w : World) (S : Nat → Prop) (e : Ending) (w' : World) : Prop :=
  ∃ p, e = .returned (.tuple #[.pointer (some ⟨p, 0, none⟩), .int .i64 0]) ∧ w.heap.size ≤ p ∧ Ex S w w'
set_option maxRecDepth 100000 in
set_option maxHeartbeats 2000000 in
theorem pagerNew_any (w : World) (a gb gt gg N s : Nat) (cur : Array Value) (h l n : Nat) (A : ArA w a gb gt gg N cur h l) (hs : w.cell? ⟨s, 0, none⟩ = some (.int .i64 64)) (hsl : s < w.heap.size)
    (hsa : ¬ (s = a ∨ s = gb ∨ s = gt)) (hn : 1 ≤ n) (hn' : n ≤ 64) (hN : h + 64 * n ≤ N) (hl : l + 64 * n ≤ 8388608) :
    Calls Tryz.prog 69 #[.pointer (some ⟨a, 0, none⟩), .pointer (some ⟨s, 0, none⟩), .int .i64 n] w (NewPager w (fun k => k = a ∨ k = gb ∨ k = gt)) := by
  have hmm := @run_makeMap Tryz.prog
  obtain ⟨i0, hi0, hz0, hz1, hz2⟩ := info_parts info231
  have la := lt_of_heap A.ha
  have lb := lt_of_heap A.hb
  have lt : gt < w.heap.size := by obtain ⟨es, ck, hm, _⟩ := A.ht; exact lt_of_heap hm
  have HA := Lib.hid A
  have HS := Lib.hid hsa
  have HC := Lib.hid hs
  clear A hsa hs
  go_enter Tryz.func69, Tryz.ntmps69
  go_wp2
  go_loopw [32] (fun i wr => ∃ (k : Nat) (cur' : Array Value) (v : Value) (xs : List Value), k ≤ n ∧ i = .int .i64 k ∧ Hid (ArA wr a gb gt gg N cur' (h + 64 * k) (l + 64 * k)) ∧
      Hid (wr.heap[w.heap.size + 1 + 1]? = some (.cells #[.pointer (some ⟨a, 0, none⟩), .pointer (some ⟨s, 0, none⟩), v, .int .i64 0, .map (some w.heap.size), .map (some (w.heap.size + 1)), .int .i64 0, .bool false] 227 (0, 0))) ∧
      Hid (wr.ownsRow (w.heap.size + 3) 231 6 v k xs) ∧ Hid (Ex (fun k => k = a ∨ k = gb ∨ k = gt) w wr) ∧ w.heap.size + 3 ≤ wr.heap.size) (fun i _ => n - (intOf i).toNat)
  case atStart =>
    have e0 : Ex (fun k => k = a ∨ k = gb ∨ k = gt) w (((w.alloc (.map #[] 0)).alloc (.map #[] 0)).alloc (.cells #[.pointer (some ⟨a, 0, none⟩), .pointer (some ⟨s, 0, none⟩), .slice none 0 0, .int .i64 0, .map (some w.heap.size), .map (some (w.heap.size + 1)), .int .i64 0, .bool false] 227)) := Ex.bl (Bl.alloc (Bl.alloc (Bl.alloc (Below.refl _ _) _) _) _)
    refine ⟨0, cur, .slice none 0 0, [], Nat.zero_le _, rfl, Lib.hid (by simpa using HA.out.keep (Ex.bl (S := fun _ => False) (Bl.alloc (Bl.alloc (Bl.alloc (Below.refl _ _) _) _) _)) id id id id), Lib.hid ?_, Lib.hid ⟨rfl, .inl ⟨rfl, rfl⟩⟩, Lib.hid e0, by simp⟩
    simp only [heap_alloc_if, World.size_alloc]; (repeat' split) <;> first | rfl | (exfalso; omega) | simp_all
  case round =>
    obtain ⟨k, cur', v, xs, hk, rfl, HAr, HP, HO, HX, hsz⟩ := hrel
    by_cases hlt : k < n
    · have p2 := cell_of_row wr _ 2 _ _ _ HP.out
      have hs2 := (cell_of_block (HX.out.block s hsl HS.out) 0).trans HC.out
      simp at p2
      have ht := take_any wr a gb gt gg N cur' (h + 64 * k) (l + 64 * k) 64 HAr.out (by omega) (by rw [cls64]; omega) (by omega)
      rw [cls64] at ht
      have HT := Lib.hid ht
      clear ht
      go_wp2_with fail
      refine (blockSize_any s 64 _ hs2).mono ?_
      rintro e w1 ⟨rfl, rfl⟩
      go_wp2_with fail
      refine HT.out.mono ?_
      rintro e w1 ⟨rfl, A1, x1⟩
      have lg := lt_of_heap HA.out.hg
      have hp1 := (x1.block _ (lt_of_heap HP.out) (by omega)).trans HP.out
      have ho1 := own_ex HO.out x1 (by omega)
      have hsz1 := Nat.le_trans hsz x1.size
      have hX1 := HX.out.trans x1
      have q2 := cell_of_row w1 _ 2 _ _ _ hp1
      simp at q2
      have HA1 := Lib.hid A1
      have HP1 := Lib.hid hp1
      have HO1 := Lib.hid ho1
      have HX1 := Lib.hid hX1
      clear HAr HP HO HX p2 hs2 HT A1 x1 hp1 ho1 hX1
      go_wp2_with (at_builtin; refine wpList_append_own _ rfl _ _ 225 rfl (w.heap.size + 3) 231 i0 (.agg #[.int .i64 0, .int .i64 0, .int .i64 0, .bool false, .bool false, .bool false]) 6 32 Tryz.underlying225 hi0 hz0 hz1 hz2 rfl (by decide) _ _ _ rfl (HO1.out.alloc _) ⟨w1.heap.size, 0, none⟩ 1 1 [.int .i64 ((h : Int) + 64 * (k : Int)), .int .i64 0, .int .i64 0, .bool false, .bool false, .bool false] rfl rfl ?c1 ?c2 ?c3 ?c4 ?c5 ?_)
      case c1 => exact news_at w1 #[.int .i64 ((h : Int) + 64 * (k : Int)), .int .i64 0, .int .i64 0, .bool false, .bool false, .bool false] 231
      case c2 => simp [Value.oneCell']
      case c3 => unfold maxLen; omega
      case c4 => omega
      case c5 => simp; omega
      intro v' w3 hown3 hg3 _
      obtain ⟨A', c', rfl⟩ : ∃ A' c', v' = .slice A' (k + 1) c' := by
        rcases hown3.2 with ⟨_, h0⟩ | ⟨g, cap, cu, rfl, _⟩
        · omega
        · exact ⟨_, _, rfl⟩
      have hrow : ∀ j, some j = v.ownBlock → w.heap.size + 3 ≤ j := by
        intro j hj
        rcases HO1.out.2 with ⟨rfl, _⟩ | ⟨g, cap, cu, rfl, hbg, _⟩
        · simp [Value.ownBlock] at hj
        · simp [Value.ownBlock] at hj; omega
      have x3 : Ex (fun j => w.heap.size + 3 ≤ j) w1 w3 := (Ex.bl (Bl.alloc (Below.refl _ _) _)).trans ⟨hg3.os, hg3.tape, hg3.output, hg3.size, fun j hj hs => hg3.block j hj (fun e => hs (hrow j e))⟩
      have HA3 := Lib.hid (HA1.out.keep x3 (by omega) (by omega) (by omega) (by omega))
      have hp3 := (x3.block _ (lt_of_heap HP1.out) (by omega)).trans HP1.out
      have hsz3 := Nat.le_trans hsz1 x3.size
      have f3 := fun j => frozen_of_row w3 (w.heap.size + 1 + 1) j _ _ hp3
      have q3 := cell_of_row w3 _ 2 _ _ _ hp3
      simp at q3
      have HX3 := Lib.hid x3
      have HP3 := Lib.hid hp3
      have HO3 := Lib.hid hown3
      clear HA1 HO1 HP1 q2 hg3 hrow x3 hp3 hown3
      go_wp2
      go_roundw
      case rel =>
        have xp : Ex (· = w.heap.size + 1 + 1) w3 (w3.setCell ⟨w.heap.size + 1 + 1, 2, none⟩ (.slice A' (k + 1) c')) := (Ex.refl _ w3).setCell _ _ rfl
        refine ⟨k + 1, _, _, _, by omega, by go_num, Lib.hid (HA3.out.keep xp (by omega) (by omega) (by omega) (by omega)), Lib.hid ?_, Lib.hid (own_ex HO3.out xp (by omega)), Lib.hid ((HX1.out.new HX3.out (by omega)).new xp (by omega)), by simpa using hsz3⟩
        rw [heap_setCell_same w3 _ 2 _ 227 _ HP3.out]; simp
      case measure => simp [intOf]; omega
    · go_wp2
      go_ret2
      exact ⟨_, rfl, by omega, HX.out⟩
theorem pager08_2 (w : World) : Calls Tryz.prog 28 #[.int .i64 2] w fun e w' => (∃ p, e = .returned (.pointer (some ⟨p, 0, none⟩)) ∧ w.heap.size ≤ p) ∧ Below w.heap.size w w' := by
  have HN := Lib.hid (arenaNew_any 65536 w (by omega))
  go_enter Tryz.func28, Tryz.ntmps28
  go_wp2_with fail
  refine HN.out.mono ?_
  rintro e w1 ⟨a, gb, gt, gg, rfl, A, h1, h2, h3, h4, hb1⟩
  have HA := Lib.hid A
  clear A
  go_wp2_with fail
  refine (blockNew_64 w1).mono ?_
  rintro e w2 ⟨s, rfl, hs1, hs2, hs3, hb2⟩
  have la := lt_of_heap HA.out.ha
  have lb := lt_of_heap HA.out.hb
  have lt : gt < w1.heap.size := by obtain ⟨es, ck, hm, _⟩ := HA.out.ht; exact lt_of_heap hm
  have HP := Lib.hid (pagerNew_any w2 a gb gt gg 65536 s (zeros 65536) 0 0 3 (HA.out.keep (Ex.bl (S := fun _ => False) hb2) id id id id) hs3 hs2 (by omega) (by omega) (by omega) (by omega) (by omega))
  have HB := Lib.hid (Bl.then hb1 hb2)
  have hsz := HB.out.size
  clear hs3 hb1
  go_wp2_with fail
  refine HP.out.mono ?_
  rintro e w3 ⟨p, rfl, hp, hx⟩
  have hB3 := Lib.hid (HB.out.trans (hx.below hsz (by omega)))
  clear hx hb2
  go_wp2
  go_ret
  exact ⟨⟨p, rfl, by omega⟩, hB3.out⟩

theorem pager08_1 (w : World) : Calls Tryz.prog 28 #[.int .i64 1] w fun e w' => (∃ p, e = .returned (.pointer (some ⟨p, 0, none⟩)) ∧ w.heap.size ≤ p) ∧ Below w.heap.size w w' := by
  have HN := Lib.hid (arenaNew_any 65536 w (by omega))
  go_enter Tryz.func28, Tryz.ntmps28
  go_wp2_with fail
  refine HN.out.mono ?_
  rintro e w1 ⟨a, gb, gt, gg, rfl, A, h1, h2, h3, h4, hb1⟩
  have HA := Lib.hid A
  clear A
  go_wp2_with fail
  refine (blockNew_64 w1).mono ?_
  rintro e w2 ⟨s, rfl, hs1, hs2, hs3, hb2⟩
  have la := lt_of_heap HA.out.ha
  have lb := lt_of_heap HA.out.hb
  have lt : gt < w1.heap.size := by obtain ⟨es, ck, hm, _⟩ := HA.out.ht; exact lt_of_heap hm
  have HP := Lib.hid (pagerNew_any w2 a gb gt gg 65536 s (zeros 65536) 0 0 2 (HA.out.keep (Ex.bl (S := fun _ => False) hb2) id id id id) hs3 hs2 (by omega) (by omega) (by omega) (by omega) (by omega))
  have HB := Lib.hid (Bl.then hb1 hb2)
  have hsz := HB.out.size
  clear hs3 hb1
  go_wp2_with fail
  refine HP.out.mono ?_
  rintro e w3 ⟨p, rfl, hp, hx⟩
  have hB3 := Lib.hid (HB.out.trans (hx.below hsz (by omega)))
  clear hx hb2
  go_wp2
  go_ret
  exact ⟨⟨p, rfl, by omega⟩, hB3.out⟩
end Go.Proofs.YtmfbfbinimnchaaGreatDoor
