/- Walks: arena.New; laws on clear, a map's update. No condition. -/
import Derived.Test.YtmfbfbinimnchaaGreatDoorS1
set_option linter.unusedVariables false
set_option linter.unusedSimpArgs false
namespace Go.Proofs.YtmfbfbinimnchaaGreatDoor
open Go.RowKit Go.Sort Go.Maps

section
variable {ops : Array Oper} {rest : List Oper} {o : Oper} {a : Act} {Q : Exit → Act → World → Prop} {w : World}
theorem wpList_mapUpdate_any (hg : o.guard = none) (m x v : Operand) (t e g : Nat) (k : Int) (val : Value) (l : Lit) (hop : o.op = .mapUpdate t m x v) (ht : Tryz.prog.underlying t = some (.map 3 e))
    (hm : a.eval m = .map (some g)) (hx : a.eval x = .int .i64 k) (hv : a.eval v = val) (hk : keyOf Tryz.prog 3 (.int .i64 k) = some l) (hmap : MapI w g)
    (hK : ∀ w', Ex (· = g) w w' → w'.heap.size = w.heap.size → MapI w' g → wpList Tryz.prog ops Q rest (a.put o.dst undef) w') : wpList Tryz.prog ops Q (o :: rest) a w := by
  refine wpList_plain hg fun K' hK' => ?_
  obtain ⟨w', hrun, r1, r2, r3⟩ := run_mapUpdate_any k val l hk ht hmap
  unfold Oper.wp
  simp [execOp, hop, hm, hx, hv, hrun, Result.andThen]
  exact hK' _ _ (hK w' r1 r2 r3)

theorem zeroCells_one (z : Value) (n : Nat) : (Builtin.zeroCells #[z] n).toList = List.replicate n z := by
  apply List.ext_getElem
  · simp [Builtin.zeroCells]
  · intro i h1 h2
    simp [Builtin.zeroCells, Nat.mod_one]
theorem run_clear50 (w : World) (g at_ n cap : Nat) (ty : TypeId) (cur : Array Value) (hr : w.heap[g]? = some (.cells cur 5 (0, 0))) (hl : at_ + n ≤ cur.size) :
    (Builtin.clear_ #[50] ty #[.slice (some ⟨g, at_, none⟩) n cap]).run Tryz.prog w =
      .ok (.tuple #[]) (w.setRow g (cur.toList.take at_ ++ List.replicate n (Value.int .u8 0) ++ cur.toList.drop (at_ + n)).toArray) := by
  by_cases hn : n = 0
  · subst hn
    have e : (w.setRow g (cur.toList.take at_ ++ List.replicate 0 (Value.int .u8 0) ++ cur.toList.drop (at_ + 0)).toArray) = w := by
      simp only [List.replicate_zero, List.append_nil, Nat.add_zero, List.take_append_drop, Array.toArray_toList]
      exact setRow_self w g cur 5 (0, 0) hr
    rw [e]
    unfold Builtin.clear_
    simp [Sem.run, run_underlying Tryz.underlying50, Result.andThen]
  · have h := run_storeCells_at (P := Tryz.prog) g at_ 5 (List.replicate n (Value.int .u8 0)) 0 cur w hr (by simpa using hl) (fun v hv => by rw [List.eq_of_mem_replicate hv]; rfl)
    simp only [Nat.add_zero, List.length_replicate] at h
    obtain ⟨m, rfl⟩ : ∃ m, n = m + 1 := ⟨n - 1, by omega⟩
    unfold Builtin.clear_
    simp [Sem.run, run_underlying Tryz.underlying50, Tryz.zeroValue5, Value.cells, zeroCells_one, h, Result.andThen]
theorem wpList_clear50 (hg : o.guard = none) (x : Operand) (hop : o.op = .call { callee := .builtin .clear, args := #[x], argTypes := #[50] }) (g at_ n cap : Nat) (cur : Array Value)
    (hx : a.eval x = .slice (some ⟨g, at_, none⟩) n cap) (hr : w.heap[g]? = some (.cells cur 5 (0, 0))) (hl : at_ + n ≤ cur.size)
    (hK : wpList Tryz.prog ops Q rest (a.put o.dst (.tuple #[])) (w.setRow g (cur.toList.take at_ ++ List.replicate n (Value.int .u8 0) ++ cur.toList.drop (at_ + n)).toArray)) : wpList Tryz.prog ops Q (o :: rest) a w := by
  refine wpList_plain hg fun K' hK' => ?_
  have h := run_clear50 w g at_ n cap o.type cur hr hl
  unfold Oper.wp
  simp [execOp, hop, hx, resolve, invoke, builtin, h, Result.andThen]
  exact hK' _ _ (by simpa using hK)
end

def zeros (n : Nat) : Array Value := (List.replicate n (Value.int .u8 0)).toArray
theorem info5 : (Tryz.prog.info? 5).map (fun i => (i.zero, i.size, i.bytes)) = some (some (.int .u8 0), 1, 1) := by kernel_rfl
theorem madeCells_one (z : Value) (n : Nat) : madeCells #[z] n = (List.replicate n z).toArray := by
  apply Array.ext
  · simp [madeCells]
  · intro i h1 h2
    simp [madeCells, Nat.mod_one]
theorem run_make50 (w : World) (n : Nat) (hn : n ≤ 4194304) : (Instr.makeSlice 50 (.int .i64 (n : Int)) (.int .i64 (n : Int))).run Tryz.prog w = .ok (.slice (some ⟨w.heap.size, 0, none⟩) n n) (w.alloc (.cells (zeros n) 5)) := by
  obtain ⟨i0, hi0, hz0, hz1, hz2⟩ := info_parts info5
  have hr := run_make (P := Tryz.prog) w 50 5 i0 (.int .u8 0) Tryz.underlying50 hi0 hz0 .i64 .i64 n n (by omega) (Int.le_refl _) (by rw [hz2]; omega) (by omega)
  simp only [Int.toNat_natCast, hz1, Nat.mul_one, Value.cells] at hr
  rw [hr, madeCells_one]; rfl
end Go.Proofs.YtmfbfbinimnchaaGreatDoor
