/-
  One operation: what it asks and what it leaves, in terms of what is known. No condition.
-/
import Derived.Test.YtokidokmcbkodaaGvBase
namespace Go.Gv
open Go.RowKit

/-- Is it this bool? -/
def isB (want : Bool) : Value → Bool
  | .bool b => b == want
  | _ => false
@[simp] theorem isB_bool (want b : Bool) : isB want (.bool b) = (b == want) := rfl
@[simp] theorem isB_undef (want : Bool) : isB want undef = false := rfl
@[simp] theorem isB_vite (want b : Bool) (x y : Value) : isB want (vite b x y) = if b then isB want x else isB want y := by cases b <;> rfl

/-- The operations, their types read. -/
inductive ROp where
  | mv (x : Opd)
  | pick (c a b : Opd)
  | fad (off : Nat) (x : Opd)
  | nil (x : Opd)
  | bin (op : BinOp) (x y : Opd)
  | bbool (pos : Bool) (x y : Opd)
  | eqs (pos : Bool) (ks : List (Nat × Nat)) (x y : Opd)
  | isnil (k : Nat) (pos : Bool) (x : Opd)
  | un (op : UnOp) (x : Opd)
  | cvi (k : IntKind) (x : Opd)
  | cvs (x : Opd)
  | mki (t : TypeId) (x : Opd)
  | mkf (fn : Fn) (first cap : List Opd)
  | fld (off : Nat) (n : Option Nat) (x : Opd)
  | iad (sz : Nat) (x i : Opd)
  | iaa (len sz : Nat) (x i : Opd)
  | ist (x i : Opd)
  | iag (len sz : Nat) (n : Option Nat) (x i : Opd)
  | sl (sz : Nat) (x : Opd) (lo hi mx : Option Opd)
  | sst (x : Opd) (lo hi : Option Opd)
  | ext (i : Nat) (x : Opd)
  | len (x : Opd)
  | lst (x : Opd)
  | cap (x : Opd)
  | mm (max : Bool) (x y : Opd)
  | bld (zs : List Value) (pl : List (Nat × Nat)) (parts : List (Nat × Opd))
  | ta (t : TypeId) (z : Value) (x : Opd)
  | ld (n : Option Nat) (hint : Option (Nat × Nat)) (x : Opd)
  | new (lab : Nat) (e : TypeId) (zs : List Value)
  | box (lab : Nat) (e : TypeId) (x : Opd)
  | bsl (lab : Option Nat) (e : TypeId) (len sz : Nat) (zs : List Value) (pl : List (Nat × Nat)) (parts : List (Nat × Opd))
  | st (n : Nat) (lab i : Nat) (x v : Opd)
  | app (lab : Option Nat) (lab' : Nat) (e : TypeId) (sz bytes : Nat) (x y : Opd)
  | apx (own : Bool) (hint : Option (Nat × Nat)) (lab : Option Nat) (lab' : Nat) (e : TypeId) (sz bytes : Nat) (x y : Opd)
  | apz (lab' : Nat) (e : TypeId) (sz bytes : Nat) (z : List Value) (x y : Opd)
  | mks (lab : Nat) (e : TypeId) (sz bytes : Nat) (z : List Value) (l c : Opd)
  | mkt (lab : Nat) (e : TypeId) (sz bytes : Nat) (l c : Opd)
  | mkm (lab : Nat)
  | call (lin lout : List Nat) (f : FuncId) (args : List Opd)
  | callv (lin lout : List Nat) (x : Opd) (args : List Opd)
  | calli (lin lout : List Nat) (x : Opd) (name : String) (args : List Opd)
  | pan (x : Opd)
  | dfr (x : Opd) (args : List Opd)

structure RStep where
  dst : Option Nat
  g : Option (Nat × Bool × Bool)
  op : ROp

/-- What is asked where the first test holds. -/
def obl (c g : Bool) : Prop := c = true → g = true
@[simp] theorem obl_true (c : Bool) : obl c true = True := by simp [obl]
@[simp] theorem obl_same (c : Bool) : obl c c = True := by simp [obl]
@[simp] theorem obl_of_true (g : Bool) : obl true g = (g = true) := by simp [obl]
@[simp] theorem obl_and (c g : Bool) : obl (c && g) g = True := by simp [obl]
@[simp] theorem obl_and' (c g : Bool) : obl (g && c) g = True := by simp only [obl, Bool.and_eq_true]; simp; exact fun h _ => h
def with1 (fr : Fr) (c : Bool) (x : Opd) (K : Value → Prop) : Prop :=
  match ev fr x with
  | some (g, v) => obl c g ∧ K v
  | none => False
theorem with1_iff {fr : Fr} {c : Bool} {x : Opd} {K : Value → Prop} (h : with1 fr c x K) : ∃ v, (c = true → ev fr x = some (true, v)) ∧ K v := by
  unfold with1 at h
  split at h
  · rename_i g v hv
    exact ⟨v, fun hc => by rw [hv, h.1 hc], h.2⟩
  · exact h.elim
def withs (fr : Fr) (c : Bool) : List Opd → (List Value → Prop) → Prop
  | [], K => K []
  | x :: r, K => with1 fr c x fun v => withs fr c r fun vs => K (v :: vs)
def evs (fr : Fr) : List Opd → List Value → Prop
  | [], vs => vs = []
  | x :: r, v :: vs => ev fr x = some (true, v) ∧ evs fr r vs
  | _, _ => False
theorem withs_iff {fr : Fr} {c : Bool} : ∀ {x : List Opd} {K : List Value → Prop}, withs fr c x K → ∃ v, (c = true → evs fr x v) ∧ K v
  | [], K, h => ⟨[], fun _ => rfl, h⟩
  | x :: r, K, h => by
    obtain ⟨v, hv, h⟩ := with1_iff h
    obtain ⟨vs, hvs, h⟩ := withs_iff h
    exact ⟨v :: vs, fun hc => ⟨hv hc, hvs hc⟩, h⟩

/-- Numbers of one kind. -/
def binI (c : Bool) (op : BinOp) (k : IntKind) (a b : Int) (K : Value → Prop) : Prop :=
  match op with
  | .add => K (.int k (k.wrap (a + b)))
  | .sub => K (.int k (k.wrap (a - b)))
  | .mul => K (.int k (k.wrap (a * b)))
  | .quo => (c = true → b ≠ 0) ∧ K (.int k (k.wrap (a.tdiv b)))
  | .rem => (c = true → b ≠ 0) ∧ K (.int k (a.tmod b))
  | .and => K (.int k (k.wrap (BitVec.ofInt k.bits a &&& BitVec.ofInt k.bits b).toNat))
  | .or => K (.int k (k.wrap (BitVec.ofInt k.bits a ||| BitVec.ofInt k.bits b).toNat))
  | .xor => K (.int k (k.wrap (BitVec.ofInt k.bits a ^^^ BitVec.ofInt k.bits b).toNat))
  | .andNot => K (.int k (k.wrap (BitVec.ofInt k.bits a &&& ~~~BitVec.ofInt k.bits b).toNat))
  | .eql => K (.bool (decide (a = b)))
  | .neq => K (.bool (decide (a ≠ b)))
  | .lss => K (.bool (decide (a < b)))
  | .leq => K (.bool (decide (a ≤ b)))
  | .gtr => K (.bool (decide (b < a)))
  | .geq => K (.bool (decide (b ≤ a)))
  | _ => c = false ∧ K undef
def binS (c : Bool) (op : BinOp) (a b : ByteArray) (K : Value → Prop) : Prop :=
  match op with
  | .add => (c = true → ((a.size + b.size : Nat) : Int) ≤ 9223372036854775807) ∧ K (.string (a ++ b))
  | .eql => K (.bool (a.toList == b.toList))
  | .neq => K (.bool (!(a.toList == b.toList)))
  | .lss => K (.bool (Op.bytesLess a.toList b.toList))
  | .leq => K (.bool (Op.bytesLess a.toList b.toList || a.toList == b.toList))
  | .gtr => K (.bool (!(Op.bytesLess a.toList b.toList || a.toList == b.toList)))
  | .geq => K (.bool (!(Op.bytesLess a.toList b.toList)))
  | _ => c = false ∧ K undef
def binV (c : Bool) (op : BinOp) (x y : Value) (K : Value → Prop) : Prop :=
  match x, y with
  | .int k a, .int k' b =>
    match op with
    | .shl => (c = true → 0 ≤ b) ∧ K (.int k (k.wrap (a * 2 ^ min b.toNat k.bits)))
    | .shr => (c = true → 0 ≤ b) ∧ K (.int k (a.fdiv (2 ^ min b.toNat k.bits)))
    | _ => (c = true → k = k') ∧ binI c op k a b K
  | .string a, .string b => binS c op a b K
  | _, _ => c = false ∧ K undef
/-- Is it nil? -/
def nilV : Nat → Value → Option Bool
  | 0, .pointer none | 1, .slice none _ _ | 2, .map none | 3, .nilFunc | 4, .nilIface => some true
  | 0, .pointer (some _) | 1, .slice (some _) _ _ | 2, .map (some _) | 3, .func _ _ _ | 4, .iface _ _ => some false
  | _, _ => none
def partV (c : Bool) (cs : List Value) (off : Nat) (n : Option Nat) (K : Value → Prop) : Prop :=
  match n with
  | some n => K (.agg ((cs.drop off).take n).toArray)
  | none => match cs[off]? with
    | some v => K v
    | none => c = false ∧ K undef
def boundV (c : Bool) (x : Value) (y : Nat) (K : Nat → Prop) : Prop :=
  match x with
  | .int _ i => (c = true → 0 ≤ i ∧ i ≤ y) ∧ K i.toNat
  | _ => c = false ∧ K 0
def boundO (fr : Fr) (c : Bool) (x : Option Opd) (d y : Nat) (K : Nat → Prop) : Prop :=
  match x with
  | some x => with1 fr c x fun v => boundV c v y K
  | none => K d

/-- A byte of a string. -/
def sAt (s : ByteArray) (j : Int) : Nat := ((s[j.toNat]?).getD 0).toNat

def eqOne : Nat → Value → Value → Option Bool
  | 0, .int k a, .int k' b => if k = k' then some (a == b) else none
  | 1, .bool a, .bool b => some (a == b)
  | 2, .string a, .string b => some (a == b)
  | _, _, _ => none
def eqFl : List (Nat × Nat) → List Value → List Value → Option Bool
  | [], _, _ => some true
  | (off, k) :: r, xs, ys => match xs[off]?, ys[off]? with
    | some x, some y => match eqOne k x y, eqFl r xs ys with
      | some b, some b' => some (b && b')
      | _, _ => none
    | _, _ => none

/-- Operations that neither read nor write memory. -/
def stillP (P : Program) (fr : Fr) (c : Bool) (K : Value → Prop) : ROp → Prop
  | .mv x => with1 fr c x K
  | .pick t a b => with1 fr c t fun v => match v with
    | .bool x => with1 fr (c && x) a fun va => with1 fr (c && !x) b fun vb => K (vite x va vb)
    | _ => c = false ∧ K undef
  | .fad off x => with1 fr c x fun v => match v with
    | .pointer (some ⟨b, o, none⟩) => K (.pointer (some ⟨b, o + off, none⟩))
    | _ => c = false ∧ K undef
  | .nil x => with1 fr c x fun v => match v with
    | .pointer (some a) => K (.pointer (some a))
    | .iface t u => K (.iface t u)
    | .func (.func f) first cap => K (.func (.func f) first cap)
    | .func (.method name) first cap => (c = true → ∃ t u, first[0]? = some (.iface t u) ∧ ∀ w, (nilAhead (P.types.size + Made.depth) t u name).run P w = .ok (some false) w) ∧ K (.func (.method name) first cap)
    | _ => c = false ∧ K undef
  | .bin op x y => with1 fr c x fun v => with1 fr c y fun u => binV c op v u K
  | .bbool pos x y => with1 fr c x fun v => with1 fr c y fun u => match v, u with
    | .bool a, .bool b => K (.bool ((a == b) == pos))
    | _, _ => c = false ∧ K undef
  | .eqs pos ks x y => with1 fr c x fun v => with1 fr c y fun u => match v, u with
    | .agg xs, .agg ys => match eqFl ks xs.toList ys.toList with
      | some b => K (.bool (b == pos))
      | none => c = false ∧ K undef
    | _, _ => c = false ∧ K undef
  | .isnil k pos x => with1 fr c x fun v => match nilV k v with
    | some b => K (.bool (b == pos))
    | none => c = false ∧ K undef
  | .un op x => with1 fr c x fun v => match op, v with
    | .neg, .int k n => K (.int k (k.wrap (0 - n)))
    | .xor, .int k n => binI c .xor k (if k.signed then -1 else k.max) n K
    | .not, .bool b => K (.bool !b)
    | _, _ => c = false ∧ K undef
  | .cvi k x => with1 fr c x fun v => match v with
    | .int _ n => K (.int k (k.wrap n))
    | _ => c = false ∧ K undef
  | .cvs x => with1 fr c x fun v => match v with
    | .string s => K (.string s)
    | _ => c = false ∧ K undef
  | .mki t x => with1 fr c x fun v => K (.iface t v)
  | .mkf fn first cap => withs fr c first fun vs => withs fr c cap fun us => K (.func fn vs.toArray us.toArray)
  | .fld off n x => with1 fr c x fun v => match v with
    | .agg cs => partV c cs.toList off n K
    | _ => c = false ∧ K undef
  | .iad sz x i => with1 fr c x fun v => with1 fr c i fun u => match v, u with
    | .slice a n _, .int _ j => (c = true → 0 ≤ j ∧ j < n) ∧ match a with
      | some ⟨b, o, none⟩ => K (.pointer (some ⟨b, o + j.toNat * sz, none⟩))
      | _ => c = false ∧ K undef
    | _, _ => c = false ∧ K undef
  | .iaa len sz x i => with1 fr c x fun v => with1 fr c i fun u => match v, u with
    | .pointer (some ⟨b, o, none⟩), .int _ j => (c = true → 0 ≤ j ∧ j < len) ∧ K (.pointer (some ⟨b, o + j.toNat * sz, none⟩))
    | _, _ => c = false ∧ K undef
  | .ist x i => with1 fr c x fun v => with1 fr c i fun u => match v, u with
    | .string s, .int _ j => (c = true → 0 ≤ j ∧ j < s.size) ∧ K (.int .u8 (sAt s j))
    | _, _ => c = false ∧ K undef
  | .iag len sz n x i => with1 fr c x fun v => with1 fr c i fun u => match v, u with
    | .agg cs, .int _ j => (c = true → 0 ≤ j ∧ j < len) ∧ partV c cs.toList (j.toNat * sz) n K
    | _, _ => c = false ∧ K undef
  | .sl sz x lo hi mx => with1 fr c x fun v => match v with
    | .slice a n cap => boundO fr c mx cap cap fun m => boundO fr c hi n m fun h => boundO fr c lo 0 h fun l => K (.slice (if m = l then a else a.map (·.add (l * sz))) (h - l) (m - l))
    | _ => c = false ∧ K undef
  | .sst x lo hi => with1 fr c x fun v => match v with
    | .string s => boundO fr c hi s.size s.size fun h => boundO fr c lo 0 h fun l => K (.string (s.extract l h))
    | _ => c = false ∧ K undef
  | .ext i x => with1 fr c x fun v => match v with
    | .tuple vs => match vs.toList[i]? with
      | some u => K u
      | none => c = false ∧ K undef
    | _ => c = false ∧ K undef
  | .len x => with1 fr c x fun v => match v with
    | .slice _ n _ => K (.int .i64 n)
    | _ => c = false ∧ K undef
  | .cap x => with1 fr c x fun v => match v with
    | .slice _ _ m => K (.int .i64 m)
    | _ => c = false ∧ K undef
  | .lst x => with1 fr c x fun v => match v with
    | .string s => K (.int .i64 s.size)
    | _ => c = false ∧ K undef
  | .mm max x y => with1 fr c x fun v => with1 fr c y fun u => match v, u with
    | .int k a, .int _ b => K (.int k (if max then (if b > a then b else a) else (if b < a then b else a)))
    | _, _ => c = false ∧ K undef
  | .bld zs pl parts => withs fr c (parts.map (·.2)) fun vs => match Instr.fill (pl[·]?) zs.toArray ((parts.map (·.1)).zip vs) with
    | some cs => K (.agg cs)
    | none => c = false ∧ K undef
  | .ta t z x => with1 fr c x fun v => match v with
    | .nilIface => K (.tuple #[z, .bool false])
    | .iface u w => if u = t then K (.tuple #[w, .bool true]) else K (.tuple #[z, .bool false])
    | _ => c = false ∧ K undef
  | _ => False
end Go.Gv
