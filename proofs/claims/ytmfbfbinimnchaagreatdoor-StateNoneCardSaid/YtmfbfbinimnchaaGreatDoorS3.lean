/- Walks: arena.New, (*arena.Arena).place, Take, where nothing was given back so far. No condition. -/
import Derived.Test.YtmfbfbinimnchaaGreatDoorS2
set_option linter.unusedVariables false
set_option linter.unusedSimpArgs false
namespace Go.Proofs.YtmfbfbinimnchaaGreatDoor
open Go.RowKit Go.Sort Go.Maps

/-- An arena to which nothing was given back so far. -/
structure ArA (w : World) (a gb gt gg N : Nat) (cur : Array Value) (h l : Nat) : Prop where
  ha : w.heap[a]? = some (.cells #[.slice (some ⟨gb, 0, none⟩) N N, .int .i64 h, .int .i64 l, .map (some gt), .map (some gg)] 144 (0, 0))
  hb : w.heap[gb]? = some (.cells cur 5 (0, 0))
  hs : cur.size = N
  hN : N ≤ 4194304
  ht : MapI w gt
  hg : w.heap[gg]? = some (.map #[] 0)
  ne : gt ≠ gg

theorem lt_of_heap {w : World} {k : Nat} {o : Obj} (h : w.heap[k]? = some o) : k < w.heap.size := (Array.getElem?_eq_some_iff.1 h).1
theorem ArA.ab {w : World} {a gb gt gg N : Nat} {cur : Array Value} {h l : Nat} (A : ArA w a gb gt gg N cur h l) : a ≠ gb := fun e => by
  have := A.ha; rw [e, A.hb] at this; simp at this
theorem ArA.at_ {w : World} {a gb gt gg N : Nat} {cur : Array Value} {h l : Nat} (A : ArA w a gb gt gg N cur h l) : a ≠ gt := fun e => by
  obtain ⟨es, ck, hm, _⟩ := A.ht
  have := A.ha; rw [e, hm] at this; simp at this
theorem ArA.ag {w : World} {a gb gt gg N : Nat} {cur : Array Value} {h l : Nat} (A : ArA w a gb gt gg N cur h l) : a ≠ gg := fun e => by
  have := A.ha; rw [e, A.hg] at this; simp at this
theorem ArA.bt {w : World} {a gb gt gg N : Nat} {cur : Array Value} {h l : Nat} (A : ArA w a gb gt gg N cur h l) : gb ≠ gt := fun e => by
  obtain ⟨es, ck, hm, _⟩ := A.ht
  have := A.hb; rw [e, hm] at this; simp at this
theorem ArA.bg {w : World} {a gb gt gg N : Nat} {cur : Array Value} {h l : Nat} (A : ArA w a gb gt gg N cur h l) : gb ≠ gg := fun e => by
  have := A.hb; rw [e, A.hg] at this; simp at this
theorem MapI.keep {w w' : World} {g : Nat} (h : MapI w g) (e : w'.heap[g]? = w.heap[g]?) : MapI w' g := by
  obtain ⟨es, ck, h1, h2⟩ := h; exact ⟨es, ck, e.trans h1, h2⟩
theorem ArA.keep {w w' : World} {a gb gt gg N : Nat} {cur : Array Value} {h l : Nat} (A : ArA w a gb gt gg N cur h l) {S : Nat → Prop} (hx : Ex S w w') (h1 : ¬ S a) (h2 : ¬ S gb) (h3 : ¬ S gt) (h4 : ¬ S gg) : ArA w' a gb gt gg N cur h l := by
  have l3 : gt < w.heap.size := by obtain ⟨es, ck, hm, _⟩ := A.ht; exact lt_of_heap hm
  exact ⟨(hx.block a (lt_of_heap A.ha) h1).trans A.ha, (hx.block gb (lt_of_heap A.hb) h2).trans A.hb, A.hs, A.hN, A.ht.keep (hx.block gt l3 h3), (hx.block gg (lt_of_heap A.hg) h4).trans A.hg, A.ne⟩

theorem heap_alloc_if (w : World) (o : Obj) (k : Nat) : (w.alloc o).heap[k]? = if k = w.heap.size then some o else w.heap[k]? := by
  show (w.heap.push o)[k]? = _
  rw [Array.getElem?_push]
def NewArena (N : Nat) (w : World) (e : Ending) (w' : World) : Prop :=
  ∃ a gb gt gg, e = .returned (.tuple #[.pointer (some ⟨a, 0, none⟩), .int .i64 0]) ∧ ArA w' a gb gt gg N (zeros N) 0 0 ∧ w.heap.size ≤ a ∧ w.heap.size ≤ gb ∧ w.heap.size ≤ gt ∧ w.heap.size ≤ gg ∧ Below w.heap.size w w'
theorem zeros_size (n : Nat) : (zeros n).size = n := by simp [zeros]
theorem arenaNew_any (N : Nat) (w : World) (hN : N ≤ 4194304) : Calls Tryz.prog 25 #[.int .i64 N] w (NewArena N w) := by
  have hmm := @run_makeMap Tryz.prog
  have hms := fun w' => run_make50 w' N hN
  go_enter Tryz.func25, Tryz.ntmps25
  go_wp2
  go_ret2
  refine ⟨w.heap.size + 3, w.heap.size, w.heap.size + 1, w.heap.size + 2, rfl, ⟨?_, ?_, zeros_size N, hN, ⟨#[], 0, ?_, by simp⟩, ?_, by omega⟩, by omega, by omega, by omega, by omega, ?_⟩
  · simp only [heap_alloc_if, World.size_alloc]; (repeat' split) <;> first | rfl | (exfalso; omega) | simp_all
  · simp only [heap_alloc_if, World.size_alloc]; (repeat' split) <;> first | rfl | (exfalso; omega) | simp_all
  · simp only [heap_alloc_if, World.size_alloc]; (repeat' split) <;> first | rfl | (exfalso; omega) | simp_all
  · simp only [heap_alloc_if, World.size_alloc]; (repeat' split) <;> first | rfl | (exfalso; omega) | simp_all
  · exact Bl.alloc (Bl.alloc (Bl.alloc (Bl.alloc (Below.refl _ _) _) _) _) _
end Go.Proofs.YtmfbfbinimnchaaGreatDoor
