/- The data of the program's modules, as plain Lean; what Fit computes of them. No condition. -/
import Derived.Test.YtmfbfbinimnchaaGreatDoorT1
set_option linter.unusedVariables false
set_option linter.unusedSimpArgs false
namespace Go.Proofs.YtmfbfbinimnchaaGreatDoor
open Go.RowKit

structure Ins where
  code : Int
  A : Int
  B : Int
  al : Int
  L : List Int
structure Bod where
  locals : List Int
  L : List Ins
structure Fnn where
  sig : Int
  body : Bod
structure Imp where
  m : ByteArray
  n : ByteArray
  sig : Int
structure Lim where
  mn : Int
  mx : Int
  wide : Bool
structure Glo where
  ty : Int
  mu : Bool
  val : Int
structure Exp where
  name : ByteArray
  kind : Int
  ix : Int
structure Elm where
  at_ : Int
  fs : List Int
structure Dat where
  mem : Int
  at_ : Int
  bs : List Int
structure Mod where
  sigs : List Sg
  imports : List Imp
  funcs : List Fnn
  table : Int
  mems : List Lim
  globals : List Glo
  exports : List Exp
  start : Int
  elems : List Elm
  datas : List Dat

def i64ok (n : Int) : Prop := -9223372036854775808 ≤ n ∧ n ≤ 9223372036854775807
def u64ok (n : Int) : Prop := 0 ≤ n ∧ n ≤ 18446744073709551615
def u8ok (n : Int) : Prop := 0 ≤ n ∧ n ≤ 255

/-! What the cells of an element read as. -/
def RIns (I : Nat → Prop) (w : World) (cs : List Value) (x : Ins) : Prop :=
  ∃ vl, cs = [.int .i64 x.code, .int .u64 x.A, .int .u64 x.B, .int .i64 x.al, vl] ∧ RI I w .u64 vl x.L ∧ i64ok x.code ∧ u64ok x.A ∧ u64ok x.B ∧ i64ok x.al ∧ ∀ y ∈ x.L, u64ok y
def RBod (I : Nat → Prop) (w : World) (vl vL : Value) (b : Bod) : Prop := RI I w .u8 vl b.locals ∧ RL I 5 (RIns I) w vL b.L
def RFnn (I : Nat → Prop) (w : World) (cs : List Value) (x : Fnn) : Prop := ∃ vl vL, cs = [.int .i64 x.sig, vl, vL] ∧ RBod I w vl vL x.body
def RImp (_ : World) (cs : List Value) (x : Imp) : Prop := cs = [.string x.m, .string x.n, .int .i64 x.sig] ∧ x.m.size ≤ 140737488351232 ∧ x.n.size ≤ 140737488351232
def RLim (_ : World) (cs : List Value) (x : Lim) : Prop := cs = [.int .i64 x.mn, .int .i64 x.mx, .bool x.wide]
def RGlo (_ : World) (cs : List Value) (x : Glo) : Prop := cs = [.int .u8 x.ty, .bool x.mu, .int .u64 x.val]
def RExp (_ : World) (cs : List Value) (x : Exp) : Prop := cs = [.string x.name, .int .i64 x.kind, .int .i64 x.ix] ∧ x.name.size ≤ 140737488351232
def RElm (I : Nat → Prop) (w : World) (cs : List Value) (x : Elm) : Prop := ∃ vf, cs = [.int .u64 x.at_, vf] ∧ RI I w .i64 vf x.fs
def RDat (I : Nat → Prop) (w : World) (cs : List Value) (x : Dat) : Prop := ∃ vb, cs = [.int .i64 x.mem, .int .u64 x.at_, vb] ∧ RI I w .u8 vb x.bs

theorem RIns.kp {I : Nat → Prop} {w w' : World} {cs : List Value} {x : Ins} (h : RIns I w cs x) (hk : Kp I w w') : RIns I w' cs x := by
  obtain ⟨vl, h1, h2, h3⟩ := h
  exact ⟨vl, h1, h2.kp hk, h3⟩
theorem RBod.kp {I : Nat → Prop} {w w' : World} {vl vL : Value} {x : Bod} (h : RBod I w vl vL x) (hk : Kp I w w') : RBod I w' vl vL x :=
  ⟨h.1.kp hk, h.2.kp hk fun _ _ hr => hr.kp hk⟩
theorem RFnn.kp {I : Nat → Prop} {w w' : World} {cs : List Value} {x : Fnn} (h : RFnn I w cs x) (hk : Kp I w w') : RFnn I w' cs x := by
  obtain ⟨vl, vL, h1, h2⟩ := h
  exact ⟨vl, vL, h1, h2.kp hk⟩
theorem RElm.kp {I : Nat → Prop} {w w' : World} {cs : List Value} {x : Elm} (h : RElm I w cs x) (hk : Kp I w w') : RElm I w' cs x := by
  obtain ⟨vf, h1, h2⟩ := h
  exact ⟨vf, h1, h2.kp hk⟩
theorem RDat.kp {I : Nat → Prop} {w w' : World} {cs : List Value} {x : Dat} (h : RDat I w cs x) (hk : Kp I w w') : RDat I w' cs x := by
  obtain ⟨vf, h1, h2⟩ := h
  exact ⟨vf, h1, h2.kp hk⟩

/-- A slice's capacity is no less than its length. -/
def CapOk (v : Value) : Prop := ∃ A n c, v = .slice A n c ∧ n ≤ c ∧ c ≤ 9223372036854775807

/-- The ten parts of a module's value. -/
structure RParts (I : Nat → Prop) (w : World) (v0 v1 v2 v4 v5 v6 v8 v9 : Value) (M : Mod) : Prop where
  s0 : RL I 2 (RSg I) w v0 M.sigs
  s1 : RL I 3 RImp w v1 M.imports
  s2 : RL I 3 (RFnn I) w v2 M.funcs
  s4 : RL I 3 RLim w v4 M.mems
  s5 : RL I 3 RGlo w v5 M.globals
  s6 : RL I 3 RExp w v6 M.exports
  s8 : RL I 2 (RElm I) w v8 M.elems
  s9 : RL I 3 (RDat I) w v9 M.datas
  k6 : CapOk v6
theorem RParts.kp {I : Nat → Prop} {w w' : World} {v0 v1 v2 v4 v5 v6 v8 v9 : Value} {M : Mod} (h : RParts I w v0 v1 v2 v4 v5 v6 v8 v9 M) (hk : Kp I w w') : RParts I w' v0 v1 v2 v4 v5 v6 v8 v9 M :=
  ⟨h.s0.kp hk fun _ _ hr => hr.kp hk, h.s1.kp hk fun _ _ hr => hr, h.s2.kp hk fun _ _ hr => hr.kp hk, h.s4.kp hk fun _ _ hr => hr, h.s5.kp hk fun _ _ hr => hr, h.s6.kp hk fun _ _ hr => hr,
    h.s8.kp hk fun _ _ hr => hr.kp hk, h.s9.kp hk fun _ _ hr => hr.kp hk, h.k6⟩

/-- A pointer to a module. -/
structure RMod (I : Nat → Prop) (w : World) (b : Nat) (v0 v1 v2 v4 v5 v6 v8 v9 : Value) (M : Mod) : Prop where
  hI : I b
  hb : b < w.heap.size
  c0 : w.cell? ⟨b, 0, none⟩ = some v0
  c1 : w.cell? ⟨b, 1, none⟩ = some v1
  c2 : w.cell? ⟨b, 2, none⟩ = some v2
  c3 : w.cell? ⟨b, 3, none⟩ = some (.int .i64 M.table)
  c4 : w.cell? ⟨b, 4, none⟩ = some v4
  c5 : w.cell? ⟨b, 5, none⟩ = some v5
  c6 : w.cell? ⟨b, 6, none⟩ = some v6
  c7 : w.cell? ⟨b, 7, none⟩ = some (.int .i64 M.start)
  c8 : w.cell? ⟨b, 8, none⟩ = some v8
  c9 : w.cell? ⟨b, 9, none⟩ = some v9
  ps : RParts I w v0 v1 v2 v4 v5 v6 v8 v9 M
  ht : i64ok M.table
theorem RMod.kp {I : Nat → Prop} {w w' : World} {b : Nat} {v0 v1 v2 v4 v5 v6 v8 v9 : Value} {M : Mod} (h : RMod I w b v0 v1 v2 v4 v5 v6 v8 v9 M) (hk : Kp I w w') : RMod I w' b v0 v1 v2 v4 v5 v6 v8 v9 M := by
  have e := fun o => cell_of_block (hk.2 b h.hb h.hI) o
  exact ⟨h.hI, Nat.lt_of_lt_of_le h.hb hk.1, (e _).trans h.c0, (e _).trans h.c1, (e _).trans h.c2, (e _).trans h.c3, (e _).trans h.c4, (e _).trans h.c5, (e _).trans h.c6, (e _).trans h.c7, (e _).trans h.c8, (e _).trans h.c9, h.ps.kp hk, h.ht⟩
theorem RMod.bl {I : Nat → Prop} {w w' : World} {b : Nat} {v0 v1 v2 v4 v5 v6 v8 v9 : Value} {M : Mod} (h : RMod I w b v0 v1 v2 v4 v5 v6 v8 v9 M) (hk : Below w.heap.size w w') : RMod I w' b v0 v1 v2 v4 v5 v6 v8 v9 M := h.kp (.of hk)

/-! ### What Fit computes -/
def namedF (s : ByteArray) : Bool := s.data.toList.all (fun c => decide (33 ≤ (c.toNat : Int)) && decide ((c.toNat : Int) ≤ 126)) && !s.data.toList.isEmpty && decide (s.size ≤ 30)
def hasB (n : Int) (m : Int) : Bool := decide (0 ≤ n) && decide (n < m)
def whenE (b : Bool) (n : Int) : Int := if b then n else 0
def firstE (f : Nat → Int) : Nat → Nat → Int
  | _, 0 => 0
  | k, d + 1 => if f k == 0 then firstE f (k + 1) d else f k
def manyE (n most : Nat) (f : Nat → Int) : Int := if most < n then 15 else firstE f 0 n
instance : Inhabited Sg := ⟨⟨[], []⟩⟩
instance : Inhabited Imp := ⟨⟨default, default, 0⟩⟩
instance : Inhabited Fnn := ⟨⟨0, ⟨[], []⟩⟩⟩
instance : Inhabited Lim := ⟨⟨0, 0, false⟩⟩
instance : Inhabited Glo := ⟨⟨0, false, 0⟩⟩
instance : Inhabited Exp := ⟨⟨default, 0, 0⟩⟩
instance : Inhabited Elm := ⟨⟨0, []⟩⟩
instance : Inhabited Dat := ⟨⟨0, 0, []⟩⟩
instance : Inhabited Ins := ⟨⟨0, 0, 0, 0, []⟩⟩
def Mod.count (M : Mod) : Int := M.imports.length + M.funcs.length
def Mod.number (M : Mod) (f : Int) : Option Int :=
  if f < 0 ∨ M.count ≤ f then none else if f < M.imports.length then some (M.imports[f.toNat]!).sig else some (M.funcs[(f - M.imports.length).toNat]!).sig
def Mod.sig (M : Mod) (f : Int) : Option Sg :=
  match M.number f with
  | none => none
  | some n => if hasB n M.sigs.length then M.sigs[n.toNat]? else none
def sigs1E (M : Mod) (i : Nat) : Int := whenE (!(M.sigs[i]!).right) 5
def imports1E (M : Mod) (i : Nat) : Int := if !namedF (M.imports[i]!).m || !namedF (M.imports[i]!).n then 16 else whenE (!hasB (M.imports[i]!).sig M.sigs.length) 2
def funcs1E (M : Mod) (i : Nat) : Int := whenE (!hasB (M.funcs[i]!).sig M.sigs.length) 2
def mems1E (M : Mod) (i : Nat) : Int := whenE (!limRight (M.mems[i]!).mn (M.mems[i]!).mx 65536) 5
def globals1E (M : Mod) (i : Nat) : Int := whenE (!typeOk (M.globals[i]!).ty || (M.globals[i]!).ty == 127 && decide (4294967295 < (M.globals[i]!).val)) 5
def countsF (M : Mod) : List Int := [M.count, if M.table < 0 then 0 else 1, M.mems.length, M.globals.length]
def exports1E (M : Mod) (i : Nat) : Int :=
  if !namedF (M.exports[i]!).name || (M.exports.take i).any (fun y => y.name.toList == (M.exports[i]!).name.toList) then 16
  else whenE (!hasB (M.exports[i]!).kind 4 || !hasB (M.exports[i]!).ix ((countsF M)[(M.exports[i]!).kind.toNat]!)) 2
def elems1E (M : Mod) (i : Nat) : Int :=
  if 20 < (M.elems[i]!).fs.length then 15 else whenE (M.table == -1 || (M.elems[i]!).fs.any (fun f => !hasB f M.count) || decide (4294967295 < (M.elems[i]!).at_)) 2
def datas1E (M : Mod) (i : Nat) : Int :=
  if 4096 < (M.datas[i]!).bs.length then 15 else whenE (!hasB (M.datas[i]!).mem M.mems.length || !(M.mems[(M.datas[i]!).mem.toNat]!).wide && decide (4294967295 < (M.datas[i]!).at_)) 2
def sigsE (M : Mod) : Int := manyE M.sigs.length 50 (sigs1E M)
def importsE (M : Mod) : Int := manyE M.imports.length 20 (imports1E M)
def funcsE (M : Mod) : Int := if 100 < M.count then 15 else firstE (funcs1E M) 0 M.funcs.length
def tableE (M : Mod) : Int := if M.table < -1 then 2 else whenE (decide (1000 < M.table)) 15
def memsE (M : Mod) : Int := manyE M.mems.length 4 (mems1E M)
def globalsE (M : Mod) : Int := manyE M.globals.length 50 (globals1E M)
def exportsE (M : Mod) : Int := manyE M.exports.length 50 (exports1E M)
def startE (M : Mod) : Int :=
  if M.start == -1 then 0 else
    match M.sig M.start with
    | none => 2
    | some s => whenE (decide (0 < s.P.length + s.R.length)) 5
def elemsE (M : Mod) : Int := manyE M.elems.length 20 (elems1E M)
def datasE (M : Mod) : Int := manyE M.datas.length 20 (datas1E M)
def partsE (M : Mod) : List Int := [sigsE M, importsE M, funcsE M, tableE M, memsE M, globalsE M, exportsE M, startE M, elemsE M, datasE M]
def nz : List Int → Int
  | [] => 0
  | x :: l => if x == 0 then nz l else x
def fitE (M : Mod) : Int := nz (partsE M)
end Go.Proofs.YtmfbfbinimnchaaGreatDoor
