/- Words of the walks: how slices and structs are read in a world. No condition. -/
import Derived.Test.YtmfbfbinimnchaaGreatDoorProg
import Derived.WalkKit
import Derived.WalkLawsBesides
import Derived.WalkSpells
import Derived.Deep.QuietTactic
import Derived.BigQuiet
import Derived.RegionTactic
import Derived.BigRegion
import Derived.ChangeAlike
import Derived.LoopTactic
import Derived.Outline
import Derived.Lib.Hide
import Derived.Laws.NewBlocks
import Derived.Deep.LoopGhost
import Derived.Carry
import Derived.Laws.ResultCell
import Derived.Laws.EntriesVeiled
set_option linter.unusedVariables false
set_option linter.unusedSimpArgs false
namespace Go.Proofs.YtmfbfbinimnchaaGreatDoor
open Go.RowKit

theorem ret_bool {a b : Bool} (h : a = b) : Ending.returned (.bool a) = .returned (.bool b) := by rw [h]
theorem ret_i64 {a b : Int} (h : a = b) : Ending.returned (.int .i64 a) = .returned (.int .i64 b) := by rw [h]
theorem ret_int {k : IntKind} {a b : Int} (h : a = b) : Ending.returned (.int k a) = .returned (.int k b) := by rw [h]

theorem Bl.lower {B B' : Nat} {w w' : World} (h : Below B w w') (hb : B' ≤ B) : Below B' w w' := ⟨h.os, h.tape, h.output, h.size, fun k hk => h.block k (by omega)⟩
/-- two calls, one behind the other -/
theorem Bl.then {w w1 w2 : World} (h : Below w.heap.size w w1) (k : Below w1.heap.size w1 w2) : Below w.heap.size w w2 := h.trans (Bl.lower k h.size)
theorem Bl.alloc {w w1 : World} (h : Below w.heap.size w w1) (o : Obj) : Below w.heap.size w (w1.alloc o) := h.alloc h.size o
theorem Bl.drewN {B : Nat} {w W : World} (h : Below B w W) (n : Nat) : Below B w (W.drewN n) := ⟨h.os, h.tape, h.output, h.size, h.block⟩
theorem below_cell {B : Nat} {w w' : World} (h : Below B w w') {g : Nat} (hg : g < B) (o : Nat) : w'.cell? ⟨g, o, none⟩ = w.cell? ⟨g, o, none⟩ := h.cell (p := ⟨g, o, none⟩) hg

/-- A slice of whole numbers that is read; the blocks that hold it are among I. -/
def RI (I : Nat → Prop) (w : World) (k : IntKind) (v : Value) (xs : List Int) : Prop :=
  ∃ A c, v = .slice A xs.length c ∧ xs.length ≤ 140737488351232 ∧ (0 < xs.length → ∃ g o, A = some ⟨g, o, none⟩ ∧ I g ∧ g < w.heap.size ∧ ∀ j, j < xs.length → w.cell? ⟨g, o + j, none⟩ = some (.int k (xs.getD j 0)))

theorem cell_of_block {w w' : World} {g : Nat} (h : w'.heap[g]? = w.heap[g]?) (o : Nat) : w'.cell? ⟨g, o, none⟩ = w.cell? ⟨g, o, none⟩ := by simp [World.cell?, h]

/-- What is among I stays. -/
def Kp (I : Nat → Prop) (w w' : World) : Prop := w.heap.size ≤ w'.heap.size ∧ ∀ g, g < w.heap.size → I g → w'.heap[g]? = w.heap[g]?
theorem Kp.of {I : Nat → Prop} {w w' : World} (h : Below w.heap.size w w') : Kp I w w' := ⟨h.size, fun g hg _ => h.block g hg⟩
theorem Kp.refl (I : Nat → Prop) (w : World) : Kp I w w := ⟨Nat.le_refl _, fun _ _ _ => rfl⟩
theorem Kp.trans {I : Nat → Prop} {w w1 w2 : World} (h : Kp I w w1) (k : Kp I w1 w2) : Kp I w w2 :=
  ⟨Nat.le_trans h.1 k.1, fun g hg hi => (k.2 g (Nat.lt_of_lt_of_le hg h.1) hi).trans (h.2 g hg hi)⟩

theorem RI.kp {I : Nat → Prop} {w w' : World} {k : IntKind} {v : Value} {xs : List Int} (h : RI I w k v xs) (hk : Kp I w w') : RI I w' k v xs := by
  obtain ⟨A, c, hv, hl, hr⟩ := h
  refine ⟨A, c, hv, hl, fun h0 => ?_⟩
  obtain ⟨g, o, hA, hI, hg, hc⟩ := hr h0
  exact ⟨g, o, hA, hI, Nat.lt_of_lt_of_le hg hk.1, fun j hj => (cell_of_block (hk.2 g hg hI) _).trans (hc j hj)⟩
theorem RI.bl {I : Nat → Prop} {w w' : World} {k : IntKind} {v : Value} {xs : List Int} (h : RI I w k v xs) (hk : Below w.heap.size w w') : RI I w' k v xs := h.kp (.of hk)
theorem RI.sub {I J : Nat → Prop} {w : World} {k : IntKind} {v : Value} {xs : List Int} (h : RI I w k v xs) (hk : ∀ g, I g → J g) : RI J w k v xs := by
  obtain ⟨A, c, hv, hl, hr⟩ := h
  refine ⟨A, c, hv, hl, fun h0 => ?_⟩
  obtain ⟨g, o, hA, hI, hg, hc⟩ := hr h0
  exact ⟨g, o, hA, hk g hI, hg, hc⟩

/-- A slice of elements of sz cells each that is read: R says what an element's cells read as. -/
def RL {α : Type} (I : Nat → Prop) (sz : Nat) (R : World → List Value → α → Prop) (w : World) (v : Value) (xs : List α) : Prop :=
  ∃ A c, v = .slice A xs.length c ∧ xs.length ≤ 140737488351232 ∧ (0 < xs.length → ∃ g o, A = some ⟨g, o, none⟩ ∧ I g ∧ g < w.heap.size ∧
    ∀ j (h : j < xs.length), ∃ cs : List Value, R w cs xs[j] ∧ ∀ f, f < sz → w.cell? ⟨g, o + j * sz + f, none⟩ = some (cs.getD f undef))

theorem RL.kp {α : Type} {I : Nat → Prop} {sz : Nat} {R : World → List Value → α → Prop} {w w' : World} {v : Value} {xs : List α} (h : RL I sz R w v xs) (hk : Kp I w w')
    (hR : ∀ cs x, R w cs x → R w' cs x) : RL I sz R w' v xs := by
  obtain ⟨A, c, hv, hl, hr⟩ := h
  refine ⟨A, c, hv, hl, fun h0 => ?_⟩
  obtain ⟨g, o, hA, hI, hg, hc⟩ := hr h0
  refine ⟨g, o, hA, hI, Nat.lt_of_lt_of_le hg hk.1, fun j hj => ?_⟩
  obtain ⟨cs, hcs, hf⟩ := hc j hj
  exact ⟨cs, hR _ _ hcs, fun f hff => (cell_of_block (hk.2 g hg hI) _).trans (hf f hff)⟩

/-- the first place at which p holds -/
def idx {α : Type} (p : α → Bool) : List α → Nat → Int
  | [], _ => -1
  | x :: l, n => if p x then n else idx p l (n + 1)
theorem idx_drop {α : Type} (p : α → Bool) (l : List α) (k : Nat) (h : k < l.length) : idx p (l.drop k) k = if p l[k] then (k : Int) else idx p (l.drop (k + 1)) (k + 1) := by
  rw [List.drop_eq_getElem_cons h]; rfl
theorem idx_any {α : Type} (p : α → Bool) (l : List α) : ∀ n : Nat, decide (0 ≤ idx p l n) = l.any p := by
  induction l with
  | nil => intro n; rfl
  | cons x l ih => intro n; simp only [idx, List.any_cons]; split <;> simp_all
end Go.Proofs.YtmfbfbinimnchaaGreatDoor
