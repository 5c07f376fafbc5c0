/- Walks: arena.Class, arena.New; laws on maps with whole numbers as keys. No condition. -/
import Derived.Test.YtmfbfbinimnchaaGreatDoorR0
import Derived.Laws.CopyRow
import Derived.Laws.OwnMore
import Derived.OwnWalk
import Derived.Maps.Keyed
set_option linter.unusedVariables false
set_option linter.unusedSimpArgs false
namespace Go.Proofs.YtmfbfbinimnchaaGreatDoor
open Go.RowKit Go.Sort Go.Maps

/-- Nothing that was there has turned but blocks among S. -/
structure Ex (S : Nat → Prop) (w w' : World) : Prop where
  os : w'.os = w.os
  tape : w'.tape = w.tape
  output : w'.output = w.output
  size : w.heap.size ≤ w'.heap.size
  block : ∀ k, k < w.heap.size → ¬ S k → w'.heap[k]? = w.heap[k]?
theorem Ex.refl (S : Nat → Prop) (w : World) : Ex S w w := ⟨rfl, rfl, rfl, Nat.le_refl _, fun _ _ _ => rfl⟩
theorem Ex.trans {S : Nat → Prop} {a b c : World} (h : Ex S a b) (k : Ex S b c) : Ex S a c :=
  ⟨k.os.trans h.os, k.tape.trans h.tape, k.output.trans h.output, Nat.le_trans h.size k.size, fun i hi hs => (k.block i (Nat.lt_of_lt_of_le hi h.size) hs).trans (h.block i hi hs)⟩
theorem Ex.bl {S : Nat → Prop} {w w' : World} (h : Below w.heap.size w w') : Ex S w w' := ⟨h.os, h.tape, h.output, h.size, fun k hk _ => h.block k hk⟩
theorem Ex.below {S : Nat → Prop} {B : Nat} {w w' : World} (h : Ex S w w') (hB : B ≤ w.heap.size) (hS : ∀ k, k < B → ¬ S k) : Below B w w' := ⟨h.os, h.tape, h.output, h.size, fun k hk => h.block k (by omega) (hS k hk)⟩
theorem Ex.sub {S T : Nat → Prop} {w w' : World} (h : Ex S w w') (hS : ∀ k, S k → T k) : Ex T w w' := ⟨h.os, h.tape, h.output, h.size, fun k hk ht => h.block k hk fun hs => ht (hS k hs)⟩
theorem Ex.setCell {S : Nat → Prop} {w w' : World} (h : Ex S w w') (p : Addr) (v : Value) (hp : S p.block) : Ex S w (w'.setCell p v) :=
  h.trans ⟨rfl, rfl, rfl, by simp [World.setCell], fun k hk hs => heap_setCell_other w' p k v (fun e => hs (e ▸ hp))⟩
theorem Ex.drewN {S : Nat → Prop} {w w' : World} (h : Ex S w w') (n : Nat) : Ex S w (w'.drewN n) := ⟨h.os, h.tape, h.output, h.size, h.block⟩

/-! ### Class -/
def clsGo : Nat → Nat → Nat → Nat
  | 0, c, _ => c
  | f + 1, c, n => if c < n then clsGo f (c * 2) n else c
def clsF (n : Nat) : Nat := clsGo 32 16 n
theorem class_any (n : Nat) (w : World) (hn : n ≤ 4194304) : Calls Tryz.prog 58 #[.int .i64 n] w fun e w' => e = .returned (.int .i64 (clsF n)) ∧ w = w' := by
  go_enter Tryz.func58, Tryz.ntmps58
  go_wp2
  go_loop [3] (fun i => ∃ f c : Nat, i = .int .i64 c ∧ 16 ≤ c ∧ c ≤ 8388608 ∧ Hid (clsF n = clsGo f c n) ∧ Hid (4194304 < c * 2 ^ f)) (fun i => 8388608 - (intOf i).toNat)
  case atStart => exact ⟨32, 16, rfl, by omega, by omega, Lib.hid rfl, Lib.hid (by decide)⟩
  case round =>
    obtain ⟨f, c, rfl, h16, hc, hi, hf⟩ := hrel
    by_cases hlt : c < n
    · obtain ⟨f, rfl⟩ : ∃ g, f = g + 1 := by
        cases f with
        | zero => have := hf.out; omega
        | succ g => exact ⟨g, rfl⟩
      have hn2 := Lib.hid (hi.out.trans (show _ = clsGo f (c * 2) n by rw [clsGo, if_pos hlt]))
      have hf2 := Lib.hid (show 4194304 < c * 2 * 2 ^ f by have := hf.out; rw [Nat.pow_succ] at this; rw [Nat.mul_assoc, Nat.mul_comm 2]; exact this)
      clear hi hf
      go_wp2
      go_round
      case rel => exact ⟨f, c * 2, by go_num, by omega, by omega, hn2, hf2⟩
      case measure => simp [intOf]; omega
    · have hn2 := Lib.hid (hi.out.trans (show _ = c by cases f with | zero => rfl | succ f => rw [clsGo, if_neg hlt]))
      clear hi hf
      go_wp2
      go_ret
      exact ⟨by rw [hn2.out]; rfl, rfl⟩

/-! ### Maps -/
theorem key3 : Keyed Tryz.prog 3 := int_keyed Tryz.underlying3
/-- A map with whole numbers as keys. -/
def MapI (w : World) (g : Nat) : Prop := ∃ es ck, w.heap[g]? = some (.map es ck) ∧ ∀ e ∈ es.toList, ∃ l, keyOf Tryz.prog 3 e.key = some l
theorem run_lookup_none {t e g ck : Nat} {w : World} {z : Value} (k : Int) (l : Lit) (hk : keyOf Tryz.prog 3 (.int .i64 k) = some l) (ht : Tryz.prog.underlying t = some (.map 3 e)) (hz : (zeroValue e).run Tryz.prog w = .ok z w) (hg : w.heap[g]? = some (.map #[] ck)) :
    (Instr.lookup t (.map (some g)) (.int .i64 k) false).run Tryz.prog w = .ok z w := by
  have h1 := key3.check w true hk
  have h2 : (Instr.findKey 3 (.int .i64 k) []).run Tryz.prog w = .ok none w := by
    rcases key3.find w hk [] (by simp) with h | ⟨j, e, _, h, _⟩
    · exact h.1
    · cases h
  unfold Instr.lookup
  simp [run_underlying ht, getObj, Sem.run, hg, h1, h2, hz, Result.andThen]
theorem run_mapUpdate_any {t e g : Nat} {w : World} (k : Int) (v : Value) (l : Lit) (hk : keyOf Tryz.prog 3 (.int .i64 k) = some l) (ht : Tryz.prog.underlying t = some (.map 3 e)) (hg : MapI w g) :
    ∃ w', (Instr.mapUpdate t (.map (some g)) (.int .i64 k) v).run Tryz.prog w = .ok () w' ∧ Ex (· = g) w w' ∧ w'.heap.size = w.heap.size ∧ MapI w' g := by
  obtain ⟨es, ck, hg, hes⟩ := hg
  have hlt : g < w.heap.size := (Array.getElem?_eq_some_iff.1 hg).1
  have fin : ∀ es' ck', (∀ e ∈ (es' : Array MapEntry).toList, ∃ l, keyOf Tryz.prog 3 e.key = some l) → Ex (· = g) w { w with heap := w.heap.setIfInBounds g (.map es' ck') } ∧ MapI { w with heap := w.heap.setIfInBounds g (.map es' ck') } g := fun es' ck' h =>
    ⟨⟨rfl, rfl, rfl, by simp, fun j hj hne => by simp; rw [Array.getElem?_setIfInBounds_ne]; omega⟩, ⟨es', ck', by simp [hlt], h⟩⟩
  rcases key3.find w hk es.toList hes with ⟨h2, _⟩ | ⟨j, e, h2, he, hek⟩
  · refine ⟨{ w with heap := w.heap.setIfInBounds g (.map (es.push { key := .int .i64 k, val := v, born := ck }) (ck + 1)) }, ?_, (fin _ _ ?_).1, by simp, (fin _ _ ?_).2⟩
    · unfold Instr.mapUpdate
      simp [run_underlying ht, getObj, setObj, Sem.run, hg, key3.check w false hk, h2, Result.andThen]
    all_goals
      intro e he
      simp only [Array.toList_push, List.mem_append, List.mem_singleton] at he
      rcases he with he | rfl
      · exact hes e he
      · exact ⟨l, hk⟩
  · refine ⟨{ w with heap := w.heap.setIfInBounds g (.map (es.modify j fun e => { e with key := .int .i64 k, val := v }) ck) }, ?_, (fin _ _ ?_).1, by simp, (fin _ _ ?_).2⟩
    · unfold Instr.mapUpdate
      have he' : es[j]? = some e := by simpa using he
      simp [run_underlying ht, getObj, setObj, Sem.run, hg, key3.check w false hk, h2, he', hek, key3.stays w hk, Result.andThen]
    all_goals
      intro e he
      obtain ⟨i, hi, rfl⟩ := List.getElem_of_mem he
      simp only [Array.getElem_toList, Array.getElem_modify]
      split
      · exact ⟨l, hk⟩
      · exact hes _ (by simp)
end Go.Proofs.YtmfbfbinimnchaaGreatDoor
