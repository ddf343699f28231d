/-
  How a running function is walked: the rules by which its meaning is worked out, none of which looks under a binder. No condition.
-/
import Derived.Test.YtokidokmcbkodaaGvRun
namespace Go.Gv
open Go.RowKit

def w1 (c : Bool) (o : Option (Bool × Value)) (κ : Value → Prop) : Prop :=
  match o with
  | some (g, v) => obl c g ∧ κ v
  | none => False
theorem w1_some (c g : Bool) (v : Value) (κ : Value → Prop) : w1 c (some (g, v)) κ = (obl c g ∧ κ v) := rfl
theorem w1_true (c : Bool) (v : Value) (κ : Value → Prop) : w1 c (some (true, v)) κ = κ v := by simp [w1]
theorem ev_c (fr : Fr) (v : Value) : ev fr (.c v) = some (true, v) := rfl
theorem ev_t (fr : Fr) (n : Nat) : ev fr (.t n) = fr.get n := rfl
theorem get_cons (m : Nat) (x : Bool × Value) (r : Fr) (n : Nat) : Fr.get ((m, x) :: r) n = if n = m then some x else Fr.get r n := rfl

/-- What follows a value. -/
def fin (d : Option Nat) (c : Bool) (fr : Fr) (G : GH) (M : Mem) (D : List Deferred) (K : Fr → GH → Mem → List Deferred → Prop) (v : Value) : Prop := K (fr.put d c v) G M D
theorem fin_some (n : Nat) (c : Bool) (fr : Fr) (G : GH) (M : Mem) (D : List Deferred) (K : Fr → GH → Mem → List Deferred → Prop) (v : Value) : fin (some n) c fr G M D K v = K ((n, c, v) :: fr) G M D := rfl
theorem fin_none (c : Bool) (fr : Fr) (G : GH) (M : Mem) (D : List Deferred) (K : Fr → GH → Mem → List Deferred → Prop) (v : Value) : fin none c fr G M D K v = K fr G M D := rfl
def panQ (Q : QQ) (f0 : Fr) (v : Value) (G : GH) (M : Mem) (D : List Deferred) : Prop := Q (.pan v) f0 G M D

def ws (c : Bool) : List (Option (Bool × Value)) → (List Value → Prop) → Prop
  | [], κ => κ []
  | o :: r, κ => w1 c o fun v => ws c r fun vs => κ (v :: vs)
def consK (κ : List Value → Prop) (v : Value) (vs : List Value) : Prop := κ (v :: vs)
theorem ws_nil (c : Bool) (κ : List Value → Prop) : ws c [] κ = κ [] := rfl
theorem ws_cons (c g : Bool) (v : Value) (r : List (Option (Bool × Value))) (κ : List Value → Prop) : ws c (some (g, v) :: r) κ = (obl c g ∧ ws c r (consK κ v)) := rfl
theorem ws_true (c : Bool) (v : Value) (r : List (Option (Bool × Value))) (κ : List Value → Prop) : ws c (some (true, v) :: r) κ = ws c r (consK κ v) := by simp [ws_cons]
theorem consK_eq (κ : List Value → Prop) (v : Value) (vs : List Value) : consK κ v vs = κ (v :: vs) := rfl
theorem withs_eq (fr : Fr) (c : Bool) : ∀ (xs : List Opd) (κ : List Value → Prop), withs fr c xs κ = ws c (xs.map (ev fr)) κ
  | [], κ => rfl
  | x :: r, κ => by simp only [withs, List.map_cons, ws, with1, w1, withs_eq fr c r]; rfl
theorem map_nil (fr : Fr) : ([] : List Opd).map (ev fr) = [] := rfl
theorem map_cons (fr : Fr) (x : Opd) (r : List Opd) : (x :: r).map (ev fr) = ev fr x :: r.map (ev fr) := rfl

section still
variable (P : Program) (fr : Fr) (c : Bool) (κ : Value → Prop)
theorem s_mv (x : Opd) : stillP P fr c κ (.mv x) = w1 c (ev fr x) κ := rfl
def pickK (c : Bool) (oa ob : Option (Bool × Value)) (κ : Value → Prop) (v : Value) : Prop :=
  match v with
  | .bool x => w1 (c && x) oa fun va => w1 (c && !x) ob fun vb => κ (vite x va vb)
  | _ => c = false ∧ κ undef
theorem s_pick (t a b : Opd) : stillP P fr c κ (.pick t a b) = w1 c (ev fr t) (pickK c (ev fr a) (ev fr b) κ) := rfl
theorem pickK_eq (x ga gb : Bool) (va vb : Value) : pickK c (some (ga, va)) (some (gb, vb)) κ (.bool x) = (obl (c && x) ga ∧ obl (c && !x) gb ∧ κ (vite x va vb)) := rfl
def fadK (off : Nat) (c : Bool) (κ : Value → Prop) (v : Value) : Prop :=
  match v with
  | .pointer (some ⟨b, o, none⟩) => κ (.pointer (some ⟨b, o + off, none⟩))
  | _ => c = false ∧ κ undef
theorem s_fad (off : Nat) (x : Opd) : stillP P fr c κ (.fad off x) = w1 c (ev fr x) (fadK off c κ) := rfl
theorem fadK_eq (off b o : Nat) : fadK off c κ (.pointer (some ⟨b, o, none⟩)) = κ (.pointer (some ⟨b, o + off, none⟩)) := rfl
def nilK (P : Program) (c : Bool) (κ : Value → Prop) (v : Value) : Prop :=
  match v with
  | .pointer (some a) => κ (.pointer (some a))
  | .iface t u => κ (.iface t u)
  | .func (.func f) first cap => κ (.func (.func f) first cap)
  | .func (.method name) first cap => (c = true → ∃ t u, first[0]? = some (.iface t u) ∧ ∀ w, (nilAhead (P.types.size + Made.depth) t u name).run P w = .ok (some false) w) ∧ κ (.func (.method name) first cap)
  | _ => c = false ∧ κ undef
theorem s_nil (x : Opd) : stillP P fr c κ (.nil x) = w1 c (ev fr x) (nilK P c κ) := rfl
theorem nilK_ptr (a : Addr) : nilK P c κ (.pointer (some a)) = κ (.pointer (some a)) := rfl
theorem nilK_if (t : TypeId) (u : Value) : nilK P c κ (.iface t u) = κ (.iface t u) := rfl
theorem nilK_fn (f : FuncId) (x y : Array Value) : nilK P c κ (.func (.func f) x y) = κ (.func (.func f) x y) := rfl
def binK (op : BinOp) (c : Bool) (oy : Option (Bool × Value)) (κ : Value → Prop) (v : Value) : Prop := w1 c oy fun u => binV c op v u κ
def binK2 (op : BinOp) (c : Bool) (κ : Value → Prop) (v u : Value) : Prop := binV c op v u κ
theorem s_bin (op : BinOp) (x y : Opd) : stillP P fr c κ (.bin op x y) = w1 c (ev fr x) (binK op c (ev fr y) κ) := rfl
theorem binK_eq (op : BinOp) (oy : Option (Bool × Value)) (v : Value) : binK op c oy κ v = w1 c oy (binK2 op c κ v) := rfl
section ints
variable (k : IntKind) (a b : Int)
theorem b_add : binK2 .add c κ (.int k a) (.int k b) = κ (.int k (k.wrap (a + b))) := by simp [binK2, binV, binI]
theorem b_sub : binK2 .sub c κ (.int k a) (.int k b) = κ (.int k (k.wrap (a - b))) := by simp [binK2, binV, binI]
theorem b_mul : binK2 .mul c κ (.int k a) (.int k b) = κ (.int k (k.wrap (a * b))) := by simp [binK2, binV, binI]
theorem b_quo : binK2 .quo c κ (.int k a) (.int k b) = ((c = true → b ≠ 0) ∧ κ (.int k (k.wrap (a.tdiv b)))) := by simp [binK2, binV, binI]
theorem b_rem : binK2 .rem c κ (.int k a) (.int k b) = ((c = true → b ≠ 0) ∧ κ (.int k (a.tmod b))) := by simp [binK2, binV, binI]
theorem b_and : binK2 .and c κ (.int k a) (.int k b) = κ (.int k (k.wrap (BitVec.ofInt k.bits a &&& BitVec.ofInt k.bits b).toNat)) := by simp [binK2, binV, binI]
theorem b_or : binK2 .or c κ (.int k a) (.int k b) = κ (.int k (k.wrap (BitVec.ofInt k.bits a ||| BitVec.ofInt k.bits b).toNat)) := by simp [binK2, binV, binI]
theorem b_xor : binK2 .xor c κ (.int k a) (.int k b) = κ (.int k (k.wrap (BitVec.ofInt k.bits a ^^^ BitVec.ofInt k.bits b).toNat)) := by simp [binK2, binV, binI]
theorem b_eql : binK2 .eql c κ (.int k a) (.int k b) = κ (.bool (decide (a = b))) := by simp [binK2, binV, binI]
theorem b_neq : binK2 .neq c κ (.int k a) (.int k b) = κ (.bool (decide (a ≠ b))) := by simp [binK2, binV, binI]
theorem b_lss : binK2 .lss c κ (.int k a) (.int k b) = κ (.bool (decide (a < b))) := by simp [binK2, binV, binI]
theorem b_leq : binK2 .leq c κ (.int k a) (.int k b) = κ (.bool (decide (a ≤ b))) := by simp [binK2, binV, binI]
theorem b_gtr : binK2 .gtr c κ (.int k a) (.int k b) = κ (.bool (decide (b < a))) := by simp [binK2, binV, binI]
theorem b_geq : binK2 .geq c κ (.int k a) (.int k b) = κ (.bool (decide (b ≤ a))) := by simp [binK2, binV, binI]
theorem b_shl (k' : IntKind) : binK2 .shl c κ (.int k a) (.int k' b) = ((c = true → 0 ≤ b) ∧ κ (.int k (k.wrap (a * 2 ^ min b.toNat k.bits)))) := rfl
theorem b_shr (k' : IntKind) : binK2 .shr c κ (.int k a) (.int k' b) = ((c = true → 0 ≤ b) ∧ κ (.int k (a.fdiv (2 ^ min b.toNat k.bits)))) := rfl
end ints
theorem b_str (op : BinOp) (a b : ByteArray) : binK2 op c κ (.string a) (.string b) = binS c op a b κ := rfl
def bboolK (pos c : Bool) (oy : Option (Bool × Value)) (κ : Value → Prop) (v : Value) : Prop := w1 c oy fun u => match v, u with
    | .bool a, .bool b => κ (.bool ((a == b) == pos))
    | _, _ => c = false ∧ κ undef
theorem s_bbool (pos : Bool) (x y : Opd) : stillP P fr c κ (.bbool pos x y) = w1 c (ev fr x) (bboolK pos c (ev fr y) κ) := rfl
theorem bboolK_eq (pos a b g : Bool) : bboolK pos c (some (g, .bool b)) κ (.bool a) = (obl c g ∧ κ (.bool ((a == b) == pos))) := rfl
def eqsK2 (pos : Bool) (ks : List (Nat × Nat)) (c : Bool) (κ : Value → Prop) (v u : Value) : Prop := match v, u with
    | .agg xs, .agg ys => match eqFl ks xs.toList ys.toList with
      | some b => κ (.bool (b == pos))
      | none => c = false ∧ κ undef
    | _, _ => c = false ∧ κ undef
def eqsK (pos : Bool) (ks : List (Nat × Nat)) (c : Bool) (oy : Option (Bool × Value)) (κ : Value → Prop) (v : Value) : Prop := w1 c oy (eqsK2 pos ks c κ v)
theorem s_eqs (pos : Bool) (ks : List (Nat × Nat)) (x y : Opd) : stillP P fr c κ (.eqs pos ks x y) = w1 c (ev fr x) (eqsK pos ks c (ev fr y) κ) := rfl
theorem eqsK_eq (pos : Bool) (ks : List (Nat × Nat)) (oy : Option (Bool × Value)) (v : Value) : eqsK pos ks c oy κ v = w1 c oy (eqsK2 pos ks c κ v) := rfl
def eqsO (pos c : Bool) (κ : Value → Prop) (o : Option Bool) : Prop := match o with
  | some b => κ (.bool (b == pos))
  | none => c = false ∧ κ undef
theorem eqsK2_eq (pos : Bool) (ks : List (Nat × Nat)) (xs ys : List Value) : eqsK2 pos ks c κ (.agg xs.toArray) (.agg ys.toArray) = eqsO pos c κ (eqFl ks xs ys) := rfl
theorem eqsO_some (pos b : Bool) : eqsO pos c κ (some b) = κ (.bool (b == pos)) := rfl
def isnilK (k : Nat) (pos c : Bool) (κ : Value → Prop) (v : Value) : Prop :=
  match nilV k v with
  | some b => κ (.bool (b == pos))
  | none => c = false ∧ κ undef
theorem s_isnil (k : Nat) (pos : Bool) (x : Opd) : stillP P fr c κ (.isnil k pos x) = w1 c (ev fr x) (isnilK k pos c κ) := rfl
section nils
variable (pos : Bool)
theorem n_p0 : isnilK 0 pos c κ (.pointer none) = κ (.bool (true == pos)) := rfl
theorem n_p1 (a : Addr) : isnilK 0 pos c κ (.pointer (some a)) = κ (.bool (false == pos)) := rfl
theorem n_s0 (n m : Nat) : isnilK 1 pos c κ (.slice none n m) = κ (.bool (true == pos)) := rfl
theorem n_s1 (a : Addr) (n m : Nat) : isnilK 1 pos c κ (.slice (some a) n m) = κ (.bool (false == pos)) := rfl
theorem n_m0 : isnilK 2 pos c κ (.map none) = κ (.bool (true == pos)) := rfl
theorem n_m1 (a : Nat) : isnilK 2 pos c κ (.map (some a)) = κ (.bool (false == pos)) := rfl
theorem n_f0 : isnilK 3 pos c κ .nilFunc = κ (.bool (true == pos)) := rfl
theorem n_f1 (f : Fn) (x y : Array Value) : isnilK 3 pos c κ (.func f x y) = κ (.bool (false == pos)) := rfl
theorem n_i0 : isnilK 4 pos c κ .nilIface = κ (.bool (true == pos)) := rfl
theorem n_i1 (t : TypeId) (v : Value) : isnilK 4 pos c κ (.iface t v) = κ (.bool (false == pos)) := rfl
end nils
def unK (op : UnOp) (c : Bool) (κ : Value → Prop) (v : Value) : Prop := match op, v with
    | .neg, .int k n => κ (.int k (k.wrap (0 - n)))
    | .xor, .int k n => binI c .xor k (if k.signed then -1 else k.max) n κ
    | .not, .bool b => κ (.bool !b)
    | _, _ => c = false ∧ κ undef
theorem s_un (op : UnOp) (x : Opd) : stillP P fr c κ (.un op x) = w1 c (ev fr x) (unK op c κ) := rfl
theorem unK_not (b : Bool) : unK .not c κ (.bool b) = κ (.bool !b) := rfl
theorem unK_neg (k : IntKind) (n : Int) : unK .neg c κ (.int k n) = κ (.int k (k.wrap (0 - n))) := rfl
def cviK (k : IntKind) (c : Bool) (κ : Value → Prop) (v : Value) : Prop := match v with
    | .int _ n => κ (.int k (k.wrap n))
    | _ => c = false ∧ κ undef
theorem s_cvi (k : IntKind) (x : Opd) : stillP P fr c κ (.cvi k x) = w1 c (ev fr x) (cviK k c κ) := rfl
theorem cviK_eq (k k' : IntKind) (n : Int) : cviK k c κ (.int k' n) = κ (.int k (k.wrap n)) := rfl
def cvsK (c : Bool) (κ : Value → Prop) (v : Value) : Prop := match v with
    | .string s => κ (.string s)
    | _ => c = false ∧ κ undef
theorem s_cvs (x : Opd) : stillP P fr c κ (.cvs x) = w1 c (ev fr x) (cvsK c κ) := rfl
theorem cvsK_eq (s : ByteArray) : cvsK c κ (.string s) = κ (.string s) := rfl
def mkiK (t : TypeId) (κ : Value → Prop) (v : Value) : Prop := κ (.iface t v)
theorem s_mki (t : TypeId) (x : Opd) : stillP P fr c κ (.mki t x) = w1 c (ev fr x) (mkiK t κ) := rfl
theorem mkiK_eq (t : TypeId) (v : Value) : mkiK t κ v = κ (.iface t v) := rfl
def mkfK (fn : Fn) (c : Bool) (cap : List (Option (Bool × Value))) (κ : Value → Prop) (vs : List Value) : Prop := ws c cap fun us => κ (.func fn vs.toArray us.toArray)
def mkfK2 (fn : Fn) (κ : Value → Prop) (vs us : List Value) : Prop := κ (.func fn vs.toArray us.toArray)
theorem s_mkf (fn : Fn) (first cap : List Opd) : stillP P fr c κ (.mkf fn first cap) = ws c (first.map (ev fr)) (mkfK fn c (cap.map (ev fr)) κ) := by
  simp only [stillP, withs_eq]; rfl
theorem mkfK_eq (fn : Fn) (cap : List (Option (Bool × Value))) (vs : List Value) : mkfK fn c cap κ vs = ws c cap (mkfK2 fn κ vs) := rfl
theorem mkfK2_eq (fn : Fn) (vs us : List Value) : mkfK2 fn κ vs us = κ (.func fn vs.toArray us.toArray) := rfl
def fldK (off : Nat) (n : Option Nat) (c : Bool) (κ : Value → Prop) (v : Value) : Prop := match v with
    | .agg cs => partV c cs.toList off n κ
    | _ => c = false ∧ κ undef
theorem s_fld (off : Nat) (n : Option Nat) (x : Opd) : stillP P fr c κ (.fld off n x) = w1 c (ev fr x) (fldK off n c κ) := rfl
def wo (o : Option Value) (c : Bool) (κ : Value → Prop) : Prop := match o with
    | some v => κ v
    | none => c = false ∧ κ undef
theorem wo_some (v : Value) : wo (some v) c κ = κ v := rfl
theorem fldK_none (off : Nat) (cs : List Value) : fldK off none c κ (.agg cs.toArray) = wo cs[off]? c κ := rfl
theorem fldK_some (off n : Nat) (cs : List Value) : fldK off (some n) c κ (.agg cs.toArray) = κ (.agg ((cs.drop off).take n).toArray) := rfl
def iadK (sz : Nat) (c : Bool) (oi : Option (Bool × Value)) (κ : Value → Prop) (v : Value) : Prop := w1 c oi fun u => match v, u with
    | .slice a n _, .int _ j => (c = true → 0 ≤ j ∧ j < n) ∧ match a with
      | some ⟨b, o, none⟩ => κ (.pointer (some ⟨b, o + j.toNat * sz, none⟩))
      | _ => c = false ∧ κ undef
    | _, _ => c = false ∧ κ undef
theorem s_iad (sz : Nat) (x i : Opd) : stillP P fr c κ (.iad sz x i) = w1 c (ev fr x) (iadK sz c (ev fr i) κ) := rfl
theorem iadK_eq (sz b o n m : Nat) (g : Bool) (k : IntKind) (j : Int) : iadK sz c (some (g, .int k j)) κ (.slice (some ⟨b, o, none⟩) n m) = (obl c g ∧ (c = true → 0 ≤ j ∧ j < n) ∧ κ (.pointer (some ⟨b, o + j.toNat * sz, none⟩))) := rfl
def iaaK (len sz : Nat) (c : Bool) (oi : Option (Bool × Value)) (κ : Value → Prop) (v : Value) : Prop := w1 c oi fun u => match v, u with
    | .pointer (some ⟨b, o, none⟩), .int _ j => (c = true → 0 ≤ j ∧ j < len) ∧ κ (.pointer (some ⟨b, o + j.toNat * sz, none⟩))
    | _, _ => c = false ∧ κ undef
theorem s_iaa (len sz : Nat) (x i : Opd) : stillP P fr c κ (.iaa len sz x i) = w1 c (ev fr x) (iaaK len sz c (ev fr i) κ) := rfl
theorem iaaK_eq (len sz b o : Nat) (g : Bool) (k : IntKind) (j : Int) : iaaK len sz c (some (g, .int k j)) κ (.pointer (some ⟨b, o, none⟩)) = (obl c g ∧ (c = true → 0 ≤ j ∧ j < len) ∧ κ (.pointer (some ⟨b, o + j.toNat * sz, none⟩))) := rfl
def istK (c : Bool) (oi : Option (Bool × Value)) (κ : Value → Prop) (v : Value) : Prop := w1 c oi fun u => match v, u with
    | .string s, .int _ j => (c = true → 0 ≤ j ∧ j < s.size) ∧ κ (.int .u8 (sAt s j))
    | _, _ => c = false ∧ κ undef
theorem s_ist (x i : Opd) : stillP P fr c κ (.ist x i) = w1 c (ev fr x) (istK c (ev fr i) κ) := rfl
theorem istK_eq (s : ByteArray) (g : Bool) (k : IntKind) (j : Int) : istK c (some (g, .int k j)) κ (.string s) = (obl c g ∧ (c = true → 0 ≤ j ∧ j < s.size) ∧ κ (.int .u8 (sAt s j))) := rfl
def iagK (len sz : Nat) (n : Option Nat) (c : Bool) (oi : Option (Bool × Value)) (κ : Value → Prop) (v : Value) : Prop := w1 c oi fun u => match v, u with
    | .agg cs, .int _ j => (c = true → 0 ≤ j ∧ j < len) ∧ partV c cs.toList (j.toNat * sz) n κ
    | _, _ => c = false ∧ κ undef
theorem s_iag (len sz : Nat) (n : Option Nat) (x i : Opd) : stillP P fr c κ (.iag len sz n x i) = w1 c (ev fr x) (iagK len sz n c (ev fr i) κ) := rfl
theorem iagK_none (len sz : Nat) (cs : List Value) (g : Bool) (k : IntKind) (j : Int) : iagK len sz none c (some (g, .int k j)) κ (.agg cs.toArray) = (obl c g ∧ (c = true → 0 ≤ j ∧ j < len) ∧ wo cs[j.toNat * sz]? c κ) := rfl
theorem iagK_some (len sz n : Nat) (cs : List Value) (g : Bool) (k : IntKind) (j : Int) : iagK len sz (some n) c (some (g, .int k j)) κ (.agg cs.toArray) = (obl c g ∧ (c = true → 0 ≤ j ∧ j < len) ∧ κ (.agg ((cs.drop (j.toNat * sz)).take n).toArray)) := rfl
def evO (fr : Fr) : Option Opd → Option (Option (Bool × Value))
  | none => none
  | some x => some (ev fr x)
theorem evO_none : evO fr none = none := rfl
theorem evO_some (x : Opd) : evO fr (some x) = some (ev fr x) := rfl
def bo (c : Bool) (x : Option (Option (Bool × Value))) (d y : Nat) (κ : Nat → Prop) : Prop := match x with
  | none => κ d
  | some o => w1 c o fun v => boundV c v y κ
theorem bo_none (d y : Nat) (κ : Nat → Prop) : bo c none d y κ = κ d := rfl
theorem bo_some (d y : Nat) (κ : Nat → Prop) (g : Bool) (k : IntKind) (j : Int) : bo c (some (some (g, .int k j))) d y κ = (obl c g ∧ (c = true → 0 ≤ j ∧ j ≤ y) ∧ κ j.toNat) := rfl
theorem boundO_eq (x : Option Opd) (d y : Nat) (κ : Nat → Prop) : boundO fr c x d y κ = bo c (evO fr x) d y κ := by cases x <;> rfl
def slK3 (sz : Nat) (a : Option Addr) (κ : Value → Prop) (m h l : Nat) : Prop := κ (.slice (if m = l then a else a.map (·.add (l * sz))) (h - l) (m - l))
def slK2 (sz : Nat) (c : Bool) (olo : Option (Option (Bool × Value))) (a : Option Addr) (κ : Value → Prop) (m h : Nat) : Prop := bo c olo 0 h (slK3 sz a κ m h)
def slK1 (sz : Nat) (c : Bool) (olo ohi : Option (Option (Bool × Value))) (a : Option Addr) (n : Nat) (κ : Value → Prop) (m : Nat) : Prop := bo c ohi n m (slK2 sz c olo a κ m)
def slK (sz : Nat) (c : Bool) (olo ohi omx : Option (Option (Bool × Value))) (κ : Value → Prop) (v : Value) : Prop := match v with
    | .slice a n cap => bo c omx cap cap (slK1 sz c olo ohi a n κ)
    | _ => c = false ∧ κ undef
theorem s_sl (sz : Nat) (x : Opd) (lo hi mx : Option Opd) : stillP P fr c κ (.sl sz x lo hi mx) = w1 c (ev fr x) (slK sz c (evO fr lo) (evO fr hi) (evO fr mx) κ) := by
  simp only [stillP, boundO_eq]; rfl
theorem slK_eq (sz : Nat) (olo ohi omx : Option (Option (Bool × Value))) (a : Option Addr) (n cap : Nat) : slK sz c olo ohi omx κ (.slice a n cap) = bo c omx cap cap (slK1 sz c olo ohi a n κ) := rfl
theorem slK1_eq (sz : Nat) (olo ohi : Option (Option (Bool × Value))) (a : Option Addr) (n m : Nat) : slK1 sz c olo ohi a n κ m = bo c ohi n m (slK2 sz c olo a κ m) := rfl
theorem slK2_eq (sz : Nat) (olo : Option (Option (Bool × Value))) (a : Option Addr) (m h : Nat) : slK2 sz c olo a κ m h = bo c olo 0 h (slK3 sz a κ m h) := rfl
/-- Where a part of a slice lies. -/
def slA (a : Option Addr) (m l sz : Nat) : Option Addr := if m = l then a else a.map (·.add (l * sz))
theorem slK3_eq (sz : Nat) (a : Option Addr) (m h l : Nat) : slK3 sz a κ m h l = κ (.slice (slA a m l sz) (h - l) (m - l)) := rfl
theorem slA_zero (a : Option Addr) (m sz : Nat) : slA a m 0 sz = a := by
  unfold slA
  split
  · rfl
  · cases a with
    | none => rfl
    | some x => obtain ⟨b, o, s⟩ := x; cases s <;> simp [Addr.add]
theorem slA_some (b o m l sz : Nat) : slA (some ⟨b, o, none⟩) m l sz = some ⟨b, o + (if m = l then 0 else l * sz), none⟩ := by
  unfold slA
  split
  · rfl
  · simp [addr_add]
theorem slA_none (m l sz : Nat) : slA none m l sz = none := by unfold slA; split <;> rfl
def sstK2 (s : ByteArray) (κ : Value → Prop) (h l : Nat) : Prop := κ (.string (s.extract l h))
def sstK1 (c : Bool) (olo : Option (Option (Bool × Value))) (s : ByteArray) (κ : Value → Prop) (h : Nat) : Prop := bo c olo 0 h (sstK2 s κ h)
def sstK (c : Bool) (olo ohi : Option (Option (Bool × Value))) (κ : Value → Prop) (v : Value) : Prop := match v with
    | .string s => bo c ohi s.size s.size (sstK1 c olo s κ)
    | _ => c = false ∧ κ undef
theorem s_sst (x : Opd) (lo hi : Option Opd) : stillP P fr c κ (.sst x lo hi) = w1 c (ev fr x) (sstK c (evO fr lo) (evO fr hi) κ) := by
  simp only [stillP, boundO_eq]; rfl
theorem sstK_eq (olo ohi : Option (Option (Bool × Value))) (s : ByteArray) : sstK c olo ohi κ (.string s) = bo c ohi s.size s.size (sstK1 c olo s κ) := rfl
theorem sstK1_eq (olo : Option (Option (Bool × Value))) (s : ByteArray) (h : Nat) : sstK1 c olo s κ h = bo c olo 0 h (sstK2 s κ h) := rfl
theorem sstK2_eq (s : ByteArray) (h l : Nat) : sstK2 s κ h l = κ (.string (s.extract l h)) := rfl
def extK (i : Nat) (c : Bool) (κ : Value → Prop) (v : Value) : Prop := match v with
    | .tuple vs => wo vs.toList[i]? c κ
    | _ => c = false ∧ κ undef
theorem s_ext (i : Nat) (x : Opd) : stillP P fr c κ (.ext i x) = w1 c (ev fr x) (extK i c κ) := by
  simp only [stillP, with1]; congr
theorem extK_eq (i : Nat) (vs : List Value) : extK i c κ (.tuple vs.toArray) = wo vs[i]? c κ := rfl
def lenK (c : Bool) (κ : Value → Prop) (v : Value) : Prop := match v with
    | .slice _ n _ => κ (.int .i64 n)
    | _ => c = false ∧ κ undef
theorem s_len (x : Opd) : stillP P fr c κ (.len x) = w1 c (ev fr x) (lenK c κ) := rfl
theorem lenK_eq (a : Option Addr) (n m : Nat) : lenK c κ (.slice a n m) = κ (.int .i64 n) := rfl
def capK (c : Bool) (κ : Value → Prop) (v : Value) : Prop := match v with
    | .slice _ _ m => κ (.int .i64 m)
    | _ => c = false ∧ κ undef
theorem s_cap (x : Opd) : stillP P fr c κ (.cap x) = w1 c (ev fr x) (capK c κ) := rfl
theorem capK_eq (a : Option Addr) (n m : Nat) : capK c κ (.slice a n m) = κ (.int .i64 m) := rfl
def lstK (c : Bool) (κ : Value → Prop) (v : Value) : Prop := match v with
    | .string s => κ (.int .i64 s.size)
    | _ => c = false ∧ κ undef
theorem s_lst (x : Opd) : stillP P fr c κ (.lst x) = w1 c (ev fr x) (lstK c κ) := rfl
theorem lstK_eq (s : ByteArray) : lstK c κ (.string s) = κ (.int .i64 s.size) := rfl
def mmK (max c : Bool) (oy : Option (Bool × Value)) (κ : Value → Prop) (v : Value) : Prop := w1 c oy fun u => match v, u with
    | .int k a, .int _ b => κ (.int k (if max then (if b > a then b else a) else (if b < a then b else a)))
    | _, _ => c = false ∧ κ undef
theorem s_mm (max : Bool) (x y : Opd) : stillP P fr c κ (.mm max x y) = w1 c (ev fr x) (mmK max c (ev fr y) κ) := rfl
theorem mmK_max (g : Bool) (k k' : IntKind) (a b : Int) : mmK true c (some (g, .int k' b)) κ (.int k a) = (obl c g ∧ κ (.int k (if b > a then b else a))) := rfl
theorem mmK_min (g : Bool) (k k' : IntKind) (a b : Int) : mmK false c (some (g, .int k' b)) κ (.int k a) = (obl c g ∧ κ (.int k (if b < a then b else a))) := rfl
def taK (t : TypeId) (z : Value) (c : Bool) (κ : Value → Prop) (v : Value) : Prop := match v with
    | .nilIface => κ (.tuple #[z, .bool false])
    | .iface u w => if u = t then κ (.tuple #[w, .bool true]) else κ (.tuple #[z, .bool false])
    | _ => c = false ∧ κ undef
theorem s_ta (t : TypeId) (z : Value) (x : Opd) : stillP P fr c κ (.ta t z x) = w1 c (ev fr x) (taK t z c κ) := rfl
theorem taK_nil (t : TypeId) (z : Value) : taK t z c κ .nilIface = κ (.tuple #[z, .bool false]) := rfl
theorem taK_if (t u : TypeId) (z w : Value) : taK t z c κ (.iface u w) = if u = t then κ (.tuple #[w, .bool true]) else κ (.tuple #[z, .bool false]) := rfl
end still
end Go.Gv
