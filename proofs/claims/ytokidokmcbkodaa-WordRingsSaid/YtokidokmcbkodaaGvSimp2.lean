/-
  How a running function is walked: memory, calls, regions, code. No condition.
-/
import Derived.Test.YtokidokmcbkodaaGvSimp
namespace Go.Gv
open Go.RowKit

/-- A value's cells. -/
def cellsL (v : Value) : List Value := v.cells.toList
theorem cellsL_agg (cs : List Value) : cellsL (.agg cs.toArray) = cs := rfl
theorem cellsL_int (k : IntKind) (a : Int) : cellsL (.int k a) = [.int k a] := rfl
theorem cellsL_bool (b : Bool) : cellsL (.bool b) = [.bool b] := rfl
theorem cellsL_string (s : ByteArray) : cellsL (.string s) = [.string s] := rfl
theorem cellsL_pointer (a : Option Addr) : cellsL (.pointer a) = [.pointer a] := rfl
theorem cellsL_slice (a : Option Addr) (n c : Nat) : cellsL (.slice a n c) = [.slice a n c] := rfl
theorem cellsL_map (a : Option Nat) : cellsL (.map a) = [.map a] := rfl
theorem cellsL_func (f : Fn) (x y : Array Value) : cellsL (.func f x y) = [.func f x y] := rfl
theorem cellsL_nilFunc : cellsL .nilFunc = [.nilFunc] := rfl
theorem cellsL_nilIface : cellsL .nilIface = [.nilIface] := rfl
theorem cellsL_iface (t : TypeId) (v : Value) : cellsL (.iface t v) = [.iface t v] := rfl

/-- The parts of a value that is built. -/
def fillL (pl : List (Nat × Nat)) : List Value → List (Nat × Value) → Option (List Value)
  | cs, [] => some cs
  | cs, (i, v) :: r => match pl[i]? with
    | some (off, size) => if (cellsL v).length = size ∧ off + size ≤ cs.length then fillL pl (setL cs off (cellsL v)) r else none
    | none => none
theorem foldl_setL (vs : List Value) : ∀ (off j : Nat) (cs : Array Value), ((vs.zipIdx j).foldl (fun cs (x : Value × Nat) => cs.setIfInBounds (off + x.2) x.1) cs) = (setL cs.toList (off + j) vs).toArray := by
  induction vs with
  | nil => intro off j cs; simp [setL]
  | cons v r ih =>
    intro off j cs
    rw [List.zipIdx_cons, List.foldl_cons, ih]
    simp [setL, Nat.add_assoc]
theorem fill_eq (pl : List (Nat × Nat)) : ∀ (l : List (Nat × Value)) (cs : List Value), Instr.fill (pl[·]?) cs.toArray l = (fillL pl cs l).map (·.toArray)
  | [], cs => rfl
  | (i, v) :: r, cs => by
    simp only [Instr.fill, fillL]
    cases hp : pl[i]? with
    | none => rfl
    | some x =>
      obtain ⟨off, size⟩ := x
      have hl : (cellsL v).length = v.cells.size := by simp [cellsL]
      simp only []
      by_cases h : (cellsL v).length = size ∧ off + size ≤ cs.length
      · rw [if_pos h, if_neg (by simp; omega), ← fill_eq pl r]
        congr 1
        have := foldl_setL v.cells.toList off 0 cs.toArray
        rw [← Array.foldl_toList, Array.toList_zipIdx]
        simpa [cellsL] using this
      · rw [if_neg h, if_pos (by simp; omega)]; rfl

section
variable (P : Program) (d : Option Nat) (fr : Fr) (c : Bool) (κ : Value → Prop) (G : GH) (M : Mem) (D : List Deferred) (K : Fr → GH → Mem → List Deferred → Prop) (QP : Value → GH → Mem → List Deferred → Prop)

def woL (o : Option (List Value)) (c : Bool) (κ : List Value → Prop) : Prop := match o with
  | some v => κ v
  | none => c = false ∧ κ []
theorem woL_some (vs : List Value) (κ : List Value → Prop) : woL (some vs) c κ = κ vs := rfl
def bldK (zs : List Value) (pl : List (Nat × Nat)) (is : List Nat) (c : Bool) (κ : Value → Prop) (vs : List Value) : Prop :=
  match Instr.fill (pl[·]?) zs.toArray (is.zip vs) with
  | some cs => κ (.agg cs)
  | none => c = false ∧ κ undef
theorem s_bld (zs : List Value) (pl : List (Nat × Nat)) (parts : List (Nat × Opd)) : stillP P fr c κ (.bld zs pl parts) = ws c ((parts.map (·.2)).map (ev fr)) (bldK zs pl (parts.map (·.1)) c κ) := by
  simp only [stillP, withs_eq]; rfl
def bldE (o : Option (List Value)) (c : Bool) (κ : Value → Prop) : Prop := match o with
  | some cs => κ (.agg cs.toArray)
  | none => c = false ∧ κ undef
theorem bldK_eq (zs : List Value) (pl : List (Nat × Nat)) (is : List Nat) (vs : List Value) : bldK zs pl is c κ vs = bldE (fillL pl zs (is.zip vs)) c κ := by
  unfold bldK
  rw [fill_eq]
  cases fillL pl zs (is.zip vs) <;> rfl
theorem bldE_some (cs : List Value) : bldE (some cs) c κ = κ (.agg cs.toArray) := rfl
theorem snds_nil : ([] : List (Nat × Opd)).map (·.2) = [] := rfl
theorem snds_cons (x : Nat × Opd) (r : List (Nat × Opd)) : (x :: r).map (·.2) = x.2 :: r.map (·.2) := rfl
theorem fsts_nil : ([] : List (Nat × Opd)).map (·.1) = [] := rfl
theorem fsts_cons (x : Nat × Opd) (r : List (Nat × Opd)) : (x :: r).map (·.1) = x.1 :: r.map (·.1) := rfl

/-! What is carried out. -/
theorem o_mv (x : Opd) : opP P d fr G M D K QP (.mv x) = w1 true (ev fr x) (fin d true fr G M D K) := rfl
theorem o_pick (t x y : Opd) : opP P d fr G M D K QP (.pick t x y) = stillP P fr true (fin d true fr G M D K) (.pick t x y) := rfl
theorem o_fad (o : Nat) (x : Opd) : opP P d fr G M D K QP (.fad o x) = stillP P fr true (fin d true fr G M D K) (.fad o x) := rfl
theorem o_nil (x : Opd) : opP P d fr G M D K QP (.nil x) = stillP P fr true (fin d true fr G M D K) (.nil x) := rfl
theorem o_bin (op : BinOp) (x y : Opd) : opP P d fr G M D K QP (.bin op x y) = stillP P fr true (fin d true fr G M D K) (.bin op x y) := rfl
theorem o_bbool (p : Bool) (x y : Opd) : opP P d fr G M D K QP (.bbool p x y) = stillP P fr true (fin d true fr G M D K) (.bbool p x y) := rfl
theorem o_eqs (p : Bool) (ks : List (Nat × Nat)) (x y : Opd) : opP P d fr G M D K QP (.eqs p ks x y) = stillP P fr true (fin d true fr G M D K) (.eqs p ks x y) := rfl
theorem o_isnil (k : Nat) (p : Bool) (x : Opd) : opP P d fr G M D K QP (.isnil k p x) = stillP P fr true (fin d true fr G M D K) (.isnil k p x) := rfl
theorem o_un (op : UnOp) (x : Opd) : opP P d fr G M D K QP (.un op x) = stillP P fr true (fin d true fr G M D K) (.un op x) := rfl
theorem o_cvi (k : IntKind) (x : Opd) : opP P d fr G M D K QP (.cvi k x) = stillP P fr true (fin d true fr G M D K) (.cvi k x) := rfl
theorem o_cvs (x : Opd) : opP P d fr G M D K QP (.cvs x) = stillP P fr true (fin d true fr G M D K) (.cvs x) := rfl
theorem o_mki (t : TypeId) (x : Opd) : opP P d fr G M D K QP (.mki t x) = stillP P fr true (fin d true fr G M D K) (.mki t x) := rfl
theorem o_mkf (f : Fn) (x y : List Opd) : opP P d fr G M D K QP (.mkf f x y) = stillP P fr true (fin d true fr G M D K) (.mkf f x y) := rfl
theorem o_fld (o : Nat) (n : Option Nat) (x : Opd) : opP P d fr G M D K QP (.fld o n x) = stillP P fr true (fin d true fr G M D K) (.fld o n x) := rfl
theorem o_iad (s : Nat) (x i : Opd) : opP P d fr G M D K QP (.iad s x i) = stillP P fr true (fin d true fr G M D K) (.iad s x i) := rfl
theorem o_iaa (l s : Nat) (x i : Opd) : opP P d fr G M D K QP (.iaa l s x i) = stillP P fr true (fin d true fr G M D K) (.iaa l s x i) := rfl
theorem o_ist (x i : Opd) : opP P d fr G M D K QP (.ist x i) = stillP P fr true (fin d true fr G M D K) (.ist x i) := rfl
theorem o_iag (l s : Nat) (n : Option Nat) (x i : Opd) : opP P d fr G M D K QP (.iag l s n x i) = stillP P fr true (fin d true fr G M D K) (.iag l s n x i) := rfl
theorem o_sl (s : Nat) (x : Opd) (a b e : Option Opd) : opP P d fr G M D K QP (.sl s x a b e) = stillP P fr true (fin d true fr G M D K) (.sl s x a b e) := rfl
theorem o_sst (x : Opd) (a b : Option Opd) : opP P d fr G M D K QP (.sst x a b) = stillP P fr true (fin d true fr G M D K) (.sst x a b) := rfl
theorem o_ext (i : Nat) (x : Opd) : opP P d fr G M D K QP (.ext i x) = stillP P fr true (fin d true fr G M D K) (.ext i x) := rfl
theorem o_len (x : Opd) : opP P d fr G M D K QP (.len x) = stillP P fr true (fin d true fr G M D K) (.len x) := rfl
theorem o_cap (x : Opd) : opP P d fr G M D K QP (.cap x) = stillP P fr true (fin d true fr G M D K) (.cap x) := rfl
theorem o_lst (x : Opd) : opP P d fr G M D K QP (.lst x) = stillP P fr true (fin d true fr G M D K) (.lst x) := rfl
theorem o_mm (m : Bool) (x y : Opd) : opP P d fr G M D K QP (.mm m x y) = stillP P fr true (fin d true fr G M D K) (.mm m x y) := rfl
theorem o_bld (z : List Value) (pl : List (Nat × Nat)) (ps : List (Nat × Opd)) : opP P d fr G M D K QP (.bld z pl ps) = stillP P fr true (fin d true fr G M D K) (.bld z pl ps) := rfl
theorem o_ta (t : TypeId) (z : Value) (x : Opd) : opP P d fr G M D K QP (.ta t z x) = stillP P fr true (fin d true fr G M D K) (.ta t z x) := rfl

/-- The cells of a settled row. -/
def cellsG (G : GH) (b o : Nat) : Nat → Option (List Value)
  | 0 => some []
  | n + 1 => match G b o, cellsG G b (o + 1) n with
    | some v, some vs => some (v :: vs)
    | _, _ => none
theorem cellsG_iff (G : GH) (b : Nat) : ∀ (n o : Nat) (vs : List Value), cellsG G b o n = some vs ↔ vs.length = n ∧ CellsAt G b o vs
  | 0, o, vs => by
    simp only [cellsG, Option.some.injEq]
    constructor
    · rintro rfl; exact ⟨rfl, fun j v h => by simp at h⟩
    · rintro ⟨h, _⟩; exact (List.eq_nil_of_length_eq_zero h).symm
  | n + 1, o, vs => by
    simp only [cellsG]
    cases hv : G b o with
    | none =>
      simp only [reduceCtorEq, false_iff]
      rintro ⟨h, hc⟩
      cases vs with
      | nil => simp at h
      | cons u r => have := hc 0 u rfl; simp [hv] at this
    | some v =>
      cases hr : cellsG G b (o + 1) n with
      | none =>
        simp only [reduceCtorEq, false_iff]
        rintro ⟨h, hc⟩
        cases vs with
        | nil => simp at h
        | cons u r =>
          have : cellsG G b (o + 1) n = some r := (cellsG_iff G b n (o + 1) r).2 ⟨by simpa using h, fun j x hx => by have := hc (j + 1) x (by simpa using hx); rwa [show o + 1 + j = o + (j + 1) by omega]⟩
          rw [hr] at this; cases this
      | some us =>
        obtain ⟨h1, h2⟩ := (cellsG_iff G b n (o + 1) us).1 hr
        simp only [Option.some.injEq]
        constructor
        · rintro rfl
          refine ⟨by simp [h1], fun j x hx => ?_⟩
          cases j with
          | zero => simp at hx; subst hx; exact hv
          | succ j => have := h2 j x (by simpa using hx); rwa [show o + (j + 1) = o + 1 + j by omega]
        · rintro ⟨h, hc⟩
          cases vs with
          | nil => simp at h
          | cons u r =>
            have e1 := hc 0 u rfl
            simp [hv] at e1
            subst e1
            have : cellsG G b (o + 1) n = some r := (cellsG_iff G b n (o + 1) r).2 ⟨by simpa using h, fun j x hx => by have := hc (j + 1) x (by simpa using hx); rwa [show o + 1 + j = o + (j + 1) by omega]⟩
            rw [hr] at this; simpa using this
def aggK (κ : Value → Prop) (vs : List Value) : Prop := κ (.agg vs.toArray)
theorem aggK_eq (vs : List Value) : aggK κ vs = κ (.agg vs.toArray) := rfl
def ldK (G : GH) (M : Mem) (n : Option Nat) (h : Option (Nat × Nat)) (κ : Value → Prop) (v : Value) : Prop := ldP G M n h v κ
theorem o_ld (n : Option Nat) (h : Option (Nat × Nat)) (x : Opd) : opP P d fr G M D K QP (.ld n h x) = w1 true (ev fr x) (ldK G M n h (fin d true fr G M D K)) := rfl
theorem ldK_G (b o : Nat) : ldK G M none none κ (.pointer (some ⟨b, o, none⟩)) = wo (G b o) true κ := by
  simp only [ldK, ldP, wo]
  cases G b o <;> simp
theorem ldK_Gs (n b o : Nat) : ldK G M (some n) none κ (.pointer (some ⟨b, o, none⟩)) = woL (cellsG G b o n) true (aggK κ) := by
  simp only [ldK, ldP, woL, aggK]
  cases h : cellsG G b o n with
  | none =>
    simp only [eq_iff_iff]
    refine ⟨fun ⟨vs, h1, h2, _⟩ => ?_, fun h => by simp at h⟩
    rw [(cellsG_iff G b n o vs).2 ⟨h1, h2⟩] at h; cases h
  | some us =>
    obtain ⟨h1, h2⟩ := (cellsG_iff G b n o us).1 h
    simp only [eq_iff_iff]
    refine ⟨fun ⟨vs, h3, h4, hk⟩ => ?_, fun hk => ⟨us, h1, h2, hk⟩⟩
    have := (cellsG_iff G b n o vs).2 ⟨h3, h4⟩
    rw [h] at this; cases this; exact hk
def ldE (n : Option Nat) (b o : Nat) (κ : Value → Prop) (x : Option Ent) : Prop := match x with
  | some (.var b' _ cs) => b = b' ∧ match n with
    | none => wo cs[o]? true κ
    | some n => o + n ≤ cs.length ∧ κ (.agg ((cs.drop o).take n).toArray)
  | _ => False
theorem ldK_M (n : Option Nat) (l i b o : Nat) : ldK G M n (some (l, i)) κ (.pointer (some ⟨b, o, none⟩)) = ldE n b o κ (M.ent l i) := by
  simp only [ldK, ldP]
  cases hx : M.ent l i with
  | none => rfl
  | some x =>
    cases x with
    | var b' e cs =>
      cases n with
      | none => simp only [ldE, wo]; cases cs[o]? <;> simp
      | some n => rfl
    | _ => rfl
theorem ldE_none (b b' o : Nat) (e : TypeId) (cs : List Value) : ldE none b o κ (some (.var b' e cs)) = (b = b' ∧ wo cs[o]? true κ) := rfl
theorem ldE_some (n b b' o : Nat) (e : TypeId) (cs : List Value) : ldE (some n) b o κ (some (.var b' e cs)) = (b = b' ∧ o + n ≤ cs.length ∧ κ (.agg ((cs.drop o).take n).toArray)) := rfl
theorem ent_eq (l i : Nat) : M.ent l i = (M.get l).bind (·[i]?) := by unfold Mem.ent; cases M.get l <;> rfl
theorem mget_cons (m : Nat) (es : List Ent) (r : Mem) (n : Nat) : Mem.get ((m, es) :: r) n = if n = m then some es else Mem.get r n := rfl

def finM (d : Option Nat) (fr : Fr) (G : GH) (D : List Deferred) (K : Fr → GH → Mem → List Deferred → Prop) (v : Value) (M : Mem) : Prop := K (fr.put d true v) G M D
theorem finM_some (n : Nat) (v : Value) : finM (some n) fr G D K v M = K ((n, true, v) :: fr) G M D := rfl
theorem finM_none (v : Value) : finM none fr G D K v M = K fr G M D := rfl
theorem o_new (lab : Nat) (e : TypeId) (zs : List Value) : opP P d fr G M D K QP (.new lab e zs) = ∀ b, finM d fr G D K (.pointer (some ⟨b, 0, none⟩)) ((lab, [.var b e zs]) :: M) := rfl
def boxK (lab : Nat) (e : TypeId) (d : Option Nat) (fr : Fr) (G : GH) (M : Mem) (D : List Deferred) (K : Fr → GH → Mem → List Deferred → Prop) (v : Value) : Prop :=
  ∀ b, finM d fr G D K (.pointer (some ⟨b, 0, none⟩)) ((lab, [.var b e (cellsL v)]) :: M)
theorem o_box (lab : Nat) (e : TypeId) (x : Opd) : opP P d fr G M D K QP (.box lab e x) = w1 true (ev fr x) (boxK lab e d fr G M D K) := rfl
theorem boxK_eq (lab : Nat) (e : TypeId) (v : Value) : boxK lab e d fr G M D K v = ∀ b, finM d fr G D K (.pointer (some ⟨b, 0, none⟩)) ((lab, [.var b e (cellsL v)]) :: M) := rfl
def ones : List Value → Bool
  | [] => true
  | v :: r => v.oneCell' && ones r
theorem ones_nil : ones [] = true := rfl
theorem ones_int (k : IntKind) (a : Int) (r : List Value) : ones (.int k a :: r) = ones r := rfl
theorem ones_bool (b : Bool) (r : List Value) : ones (.bool b :: r) = ones r := rfl
theorem ones_string (s : ByteArray) (r : List Value) : ones (.string s :: r) = ones r := rfl
theorem ones_pointer (a : Option Addr) (r : List Value) : ones (.pointer a :: r) = ones r := rfl
theorem ones_slice (a : Option Addr) (n c : Nat) (r : List Value) : ones (.slice a n c :: r) = ones r := rfl
theorem ones_map (a : Option Nat) (r : List Value) : ones (.map a :: r) = ones r := rfl
theorem ones_func (f : Fn) (x y : Array Value) (r : List Value) : ones (.func f x y :: r) = ones r := rfl
theorem ones_nilFunc (r : List Value) : ones (.nilFunc :: r) = ones r := rfl
theorem ones_nilIface (r : List Value) : ones (.nilIface :: r) = ones r := rfl
theorem ones_iface (t : TypeId) (v : Value) (r : List Value) : ones (.iface t v :: r) = ones r := rfl
theorem ones_iff (l : List Value) : ones l = true ↔ ∀ y ∈ l, y.oneCell' = true := by
  induction l with
  | nil => simp [ones]
  | cons v r ih => simp [ones, ih]
def stE (n lab i b o : Nat) (u : Value) (M : Mem) (κ : Mem → Prop) (x : Option Ent) : Prop := match x with
  | some (.var b' e cs) => b = b' ∧ o + n ≤ cs.length ∧ (cellsL u).length = n ∧ ones (cellsL u) = true ∧ κ (M.put lab i (.var b' e (setL cs o (cellsL u))))
  | _ => False
def stK2 (n lab i : Nat) (M : Mem) (κ : Mem → Prop) (p u : Value) : Prop := match p with
  | .pointer (some ⟨b, o, none⟩) => stE n lab i b o u M κ (M.ent lab i)
  | _ => False
def stK (n lab i : Nat) (M : Mem) (ou : Option (Bool × Value)) (κ : Mem → Prop) (p : Value) : Prop := w1 true ou (stK2 n lab i M κ p)
theorem o_st (n lab i : Nat) (x v : Opd) : opP P d fr G M D K QP (.st n lab i x v) = w1 true (ev fr x) (stK n lab i M (ev fr v) (finM d fr G D K undef)) := by
  simp only [opP, effP, with1, w1]
  congr
  funext g p
  congr 1
  simp only [stK, w1]
  congr
  funext g u
  congr 1
  simp only [stK2, stE, cellsL, ones_iff, Array.length_toList]
  rfl
theorem stK_eq (n lab i : Nat) (ou : Option (Bool × Value)) (κ : Mem → Prop) (p : Value) : stK n lab i M ou κ p = w1 true ou (stK2 n lab i M κ p) := rfl
theorem stK2_eq (n lab i b o : Nat) (κ : Mem → Prop) (u : Value) : stK2 n lab i M κ (.pointer (some ⟨b, o, none⟩)) u = stE n lab i b o u M κ (M.ent lab i) := rfl
theorem stE_eq (n lab i b b' o : Nat) (e : TypeId) (cs : List Value) (κ : Mem → Prop) (u : Value) : stE n lab i b o u M κ (some (.var b' e cs)) = (b = b' ∧ o + n ≤ cs.length ∧ (cellsL u).length = n ∧ ones (cellsL u) = true ∧ κ (M.put lab i (.var b' e (setL cs o (cellsL u))))) := rfl
theorem put_eq (l i : Nat) (e : Ent) : M.put l i e = match M.get l with | some es => M.set l (es.set i e) | none => M := rfl
theorem set_cons (m : Nat) (es fs : List Ent) (r : Mem) (n : Nat) : Mem.set ((m, es) :: r) n fs = if n = m then (m, fs) :: r else (m, es) :: Mem.set r n fs := rfl
theorem setL_nil (cs : List Value) (o : Nat) : setL cs o [] = cs := rfl
theorem setL_cons (cs r : List Value) (o : Nat) (v : Value) : setL cs o (v :: r) = setL (cs.set o v) (o + 1) r := rfl

/-! Slices that are made. -/
def bslQ (lab : Option Nat) (e : TypeId) (len sz : Nat) (cs : List Value) (d : Option Nat) (fr : Fr) (G : GH) (M : Mem) (D : List Deferred) (K : Fr → GH → Mem → List Deferred → Prop) : Prop :=
  ∀ b G', GLe G G' → CellsAt G' b 0 cs → (∀ o v, G' b o = some v → cs[o]? = some v) →
    finM d fr G' D K (.slice (some ⟨b, 0, none⟩) len len) (match lab with | none => M | some l => (l, [.tip b e (len * sz) (len * sz)]) :: M)
def bslE (lab : Option Nat) (e : TypeId) (len sz : Nat) (d : Option Nat) (fr : Fr) (G : GH) (M : Mem) (D : List Deferred) (K : Fr → GH → Mem → List Deferred → Prop) (o : Option (List Value)) : Prop := match o with
  | some cs => bslQ lab e len sz cs d fr G M D K
  | none => False
theorem bslE_some (lab : Option Nat) (e : TypeId) (len sz : Nat) (cs : List Value) : bslE lab e len sz d fr G M D K (some cs) = bslQ lab e len sz cs d fr G M D K := rfl
def bslK (lab : Option Nat) (e : TypeId) (len sz : Nat) (zs : List Value) (pl : List (Nat × Nat)) (is : List Nat) (d : Option Nat) (fr : Fr) (G : GH) (M : Mem) (D : List Deferred) (K : Fr → GH → Mem → List Deferred → Prop) (vs : List Value) : Prop :=
  bslE lab e len sz d fr G M D K (fillL pl zs (is.zip vs))
theorem bslK_eq (lab : Option Nat) (e : TypeId) (len sz : Nat) (zs : List Value) (pl : List (Nat × Nat)) (is : List Nat) (vs : List Value) : bslK lab e len sz zs pl is d fr G M D K vs = bslE lab e len sz d fr G M D K (fillL pl zs (is.zip vs)) := rfl
theorem o_bsl (lab : Option Nat) (e : TypeId) (len sz : Nat) (zs : List Value) (pl : List (Nat × Nat)) (parts : List (Nat × Opd)) :
    opP P d fr G M D K QP (.bsl lab e len sz zs pl parts) = ws true ((parts.map (·.2)).map (ev fr)) (bslK lab e len sz zs pl (parts.map (·.1)) d fr G M D K) := by
  simp only [opP, effP, withs_eq]
  congr
  funext vs
  rw [fill_eq, bslK]
  cases fillL pl zs ((parts.map (·.1)).zip vs) <;> rfl
theorem bsl_intro {e : TypeId} {len sz : Nat} {cs : List Value} {d : Option Nat} {fr : Fr} {G : GH} {M : Mem} {D : List Deferred} {K : Fr → GH → Mem → List Deferred → Prop} (h : ∀ b G', GLe G G' → CellsAt G' b 0 cs → finM d fr G' D K (.slice (some ⟨b, 0, none⟩) len len) M) : bslQ none e len sz cs d fr G M D K :=
  fun b G' hg hc _ => h b G' hg hc
theorem bsl_own {l : Nat} {e : TypeId} {len sz : Nat} {cs : List Value} {d : Option Nat} {fr : Fr} {G : GH} {M : Mem} {D : List Deferred} {K : Fr → GH → Mem → List Deferred → Prop} (hl : cs.length = len * sz) (hm : len ≤ maxLen)
    (h : ∀ v' es' G', GLe G G' → OwnS G' e sz v' cs es' → finM d fr G' D K v' ((l, es') :: M)) : bslQ (some l) e len sz cs d fr G M D K :=
  fun b G' hg hc _ => h _ [.tip b e (len * sz) (len * sz)] G' hg ⟨len, len, Nat.le_refl _, hm, hl, .inr ⟨b, rfl, rfl, hc⟩⟩
def mksK2 (lab : Nat) (e : TypeId) (bytes : Nat) (z : List Value) (l : Int) (d : Option Nat) (fr : Fr) (G : GH) (M : Mem) (D : List Deferred) (K : Fr → GH → Mem → List Deferred → Prop) (vc : Value) : Prop := match vc with
  | .int _ c => 0 ≤ l ∧ l ≤ c ∧ bytes * c ≤ 281474976710656 ∧ c ≤ 9223372036854775807 ∧
      ∀ b, finM d fr G D K (.slice (some ⟨b, 0, none⟩) l.toNat c.toNat) ((lab, [.var b e (List.replicate c.toNat z).flatten]) :: M)
  | _ => False
def mksK (lab : Nat) (e : TypeId) (bytes : Nat) (z : List Value) (oc : Option (Bool × Value)) (d : Option Nat) (fr : Fr) (G : GH) (M : Mem) (D : List Deferred) (K : Fr → GH → Mem → List Deferred → Prop) (vl : Value) : Prop := match vl with
  | .int _ l => w1 true oc (mksK2 lab e bytes z l d fr G M D K)
  | _ => w1 true oc fun _ => False
theorem mksK_eq (lab : Nat) (e : TypeId) (bytes : Nat) (z : List Value) (oc : Option (Bool × Value)) (k : IntKind) (l : Int) : mksK lab e bytes z oc d fr G M D K (.int k l) = w1 true oc (mksK2 lab e bytes z l d fr G M D K) := rfl
theorem mksK2_eq (lab : Nat) (e : TypeId) (bytes : Nat) (z : List Value) (k : IntKind) (l c : Int) : mksK2 lab e bytes z l d fr G M D K (.int k c) = (0 ≤ l ∧ l ≤ c ∧ bytes * c ≤ 281474976710656 ∧ c ≤ 9223372036854775807 ∧
      ∀ b, finM d fr G D K (.slice (some ⟨b, 0, none⟩) l.toNat c.toNat) ((lab, [.var b e (List.replicate c.toNat z).flatten]) :: M)) := rfl
theorem o_mks (lab : Nat) (e : TypeId) (sz bytes : Nat) (z : List Value) (l c : Opd) : opP P d fr G M D K QP (.mks lab e sz bytes z l c) = w1 true (ev fr l) (mksK lab e bytes z (ev fr c) d fr G M D K) := by
  simp only [opP, effP, with1, w1]
  congr
  funext g vl
  congr 1
  cases vl <;> simp only [mksK, w1]
  all_goals first
    | (congr; done)
    | (congr; funext g vc; congr 1; cases vc <;> rfl)
def mktK2 (lab : Nat) (e : TypeId) (sz bytes : Nat) (l : Int) (d : Option Nat) (fr : Fr) (G : GH) (M : Mem) (D : List Deferred) (K : Fr → GH → Mem → List Deferred → Prop) (vc : Value) : Prop := match vc with
  | .int _ c => l = 0 ∧ 0 ≤ c ∧ bytes * c ≤ 281474976710656 ∧ c ≤ 9223372036854775807 ∧ ∀ v' es', OwnS G e sz v' [] es' → finM d fr G D K v' ((lab, es') :: M)
  | _ => False
def mktK (lab : Nat) (e : TypeId) (sz bytes : Nat) (oc : Option (Bool × Value)) (d : Option Nat) (fr : Fr) (G : GH) (M : Mem) (D : List Deferred) (K : Fr → GH → Mem → List Deferred → Prop) (vl : Value) : Prop := match vl with
  | .int _ l => w1 true oc (mktK2 lab e sz bytes l d fr G M D K)
  | _ => w1 true oc fun _ => False
theorem mktK_eq (lab : Nat) (e : TypeId) (sz bytes : Nat) (oc : Option (Bool × Value)) (k : IntKind) (l : Int) : mktK lab e sz bytes oc d fr G M D K (.int k l) = w1 true oc (mktK2 lab e sz bytes l d fr G M D K) := rfl
theorem mktK2_eq (lab : Nat) (e : TypeId) (sz bytes : Nat) (k : IntKind) (l c : Int) : mktK2 lab e sz bytes l d fr G M D K (.int k c) = (l = 0 ∧ 0 ≤ c ∧ bytes * c ≤ 281474976710656 ∧ c ≤ 9223372036854775807 ∧ ∀ v' es', OwnS G e sz v' [] es' → finM d fr G D K v' ((lab, es') :: M)) := rfl
theorem o_mkt (lab : Nat) (e : TypeId) (sz bytes : Nat) (l c : Opd) : opP P d fr G M D K QP (.mkt lab e sz bytes l c) = w1 true (ev fr l) (mktK lab e sz bytes (ev fr c) d fr G M D K) := by
  simp only [opP, effP, with1, w1]
  congr
  funext g vl
  congr 1
  cases vl <;> simp only [mktK, w1]
  all_goals first
    | (congr; done)
    | (congr; funext g vc; congr 1; cases vc <;> rfl)
def apzK2 (lab' : Nat) (e : TypeId) (sz bytes : Nat) (z : List Value) (d : Option Nat) (fr : Fr) (G : GH) (M : Mem) (D : List Deferred) (K : Fr → GH → Mem → List Deferred → Prop) (vy : Value) : Prop := match vy with
  | .int _ n => 0 < n ∧ n * bytes ≤ 140737488355328 ∧ n.toNat ≤ maxLen ∧ ∀ v' es', OwnV e sz v' (List.replicate n.toNat z).flatten es' → finM d fr G D K v' ((lab', es') :: M)
  | _ => False
def apzK (lab' : Nat) (e : TypeId) (sz bytes : Nat) (z : List Value) (oy : Option (Bool × Value)) (d : Option Nat) (fr : Fr) (G : GH) (M : Mem) (D : List Deferred) (K : Fr → GH → Mem → List Deferred → Prop) (vx : Value) : Prop := match vx with
  | .slice none 0 0 => w1 true oy (apzK2 lab' e sz bytes z d fr G M D K)
  | _ => w1 true oy fun _ => False
theorem apzK_eq (lab' : Nat) (e : TypeId) (sz bytes : Nat) (z : List Value) (oy : Option (Bool × Value)) : apzK lab' e sz bytes z oy d fr G M D K (.slice none 0 0) = w1 true oy (apzK2 lab' e sz bytes z d fr G M D K) := rfl
theorem apzK2_eq (lab' : Nat) (e : TypeId) (sz bytes : Nat) (z : List Value) (k : IntKind) (n : Int) : apzK2 lab' e sz bytes z d fr G M D K (.int k n) = (0 < n ∧ n * bytes ≤ 140737488355328 ∧ n.toNat ≤ maxLen ∧ ∀ v' es', OwnV e sz v' (List.replicate n.toNat z).flatten es' → finM d fr G D K v' ((lab', es') :: M)) := rfl
theorem o_apz (lab' : Nat) (e : TypeId) (sz bytes : Nat) (z : List Value) (x y : Opd) : opP P d fr G M D K QP (.apz lab' e sz bytes z x y) = w1 true (ev fr x) (apzK lab' e sz bytes z (ev fr y) d fr G M D K) := by
  simp only [opP, effP, with1, w1]
  generalize ev fr x = ox
  generalize ev fr y = oy
  cases ox with
  | none => rfl
  | some p =>
    obtain ⟨g, vx⟩ := p
    dsimp only
    congr 1
    by_cases h : vx = .slice none 0 0
    · subst h
      cases oy with
      | none => rfl
      | some q => obtain ⟨g', vy⟩ := q; cases vy <;> rfl
    · have e2 : apzK lab' e sz bytes z oy d fr G M D K vx = w1 true oy fun _ => False := by
        unfold apzK
        split
        · exact absurd rfl h
        · rfl
      rw [e2]
      cases oy with
      | none => rfl
      | some q =>
        obtain ⟨g', vy⟩ := q
        dsimp only [w1]
        congr 1
        split
        · exact absurd rfl h
        · rfl
theorem o_mkm (lab : Nat) : opP P d fr G M D K QP (.mkm lab) = ∀ b, finM d fr G D K (.map (some b)) ((lab, [.map b [] 0]) :: M) := rfl

/-! Calls. -/
def outK (lout : List Nat) (M2 : Mem) (d : Option Nat) (fr : Fr) (D : List Deferred) (K : Fr → GH → Mem → List Deferred → Prop) (QP : Value → GH → Mem → List Deferred → Prop) (o : Out) (G' : GH) (Es' : List (List Ent)) : Prop := match o with
  | .ret v => finM d fr G' D K v (lout.zip Es' ++ M2)
  | .pan v => QP v G' (lout.zip Es' ++ M2) D
theorem outK_ret (lout : List Nat) (M2 : Mem) (Es' : List (List Ent)) (v : Value) : outK lout M2 d fr D K QP (.ret v) G Es' = finM d fr G D K v (lout.zip Es' ++ M2) := rfl
theorem outK_pan (lout : List Nat) (M2 : Mem) (Es' : List (List Ent)) (v : Value) : outK lout M2 d fr D K QP (.pan v) G Es' = QP v G (lout.zip Es' ++ M2) D := rfl
def callE (P : Program) (lout : List Nat) (f : FuncId) (d : Option Nat) (fr : Fr) (G : GH) (D : List Deferred) (K : Fr → GH → Mem → List Deferred → Prop) (QP : Value → GH → Mem → List Deferred → Prop) (vs : List Value) (x : Option (List (List Ent) × Mem)) : Prop := match x with
  | some (Es, M2) => ACalls P f vs G Es (outK lout M2 d fr D K QP)
  | none => False
theorem callE_some (lout : List Nat) (f : FuncId) (vs : List Value) (Es : List (List Ent)) (M2 : Mem) : callE P lout f d fr G D K QP vs (some (Es, M2)) = ACalls P f vs G Es (outK lout M2 d fr D K QP) := rfl
def callK (P : Program) (lin lout : List Nat) (f : FuncId) (d : Option Nat) (fr : Fr) (G : GH) (M : Mem) (D : List Deferred) (K : Fr → GH → Mem → List Deferred → Prop) (QP : Value → GH → Mem → List Deferred → Prop) (vs : List Value) : Prop :=
  callE P lout f d fr G D K QP vs (M.pulls lin)
theorem callK_eq (lin lout : List Nat) (f : FuncId) (vs : List Value) : callK P lin lout f d fr G M D K QP vs = callE P lout f d fr G D K QP vs (M.pulls lin) := rfl
theorem callP_eq (lin lout : List Nat) (f : FuncId) (vs : List Value) :
    callP P lin lout f vs G M (fun v G' M' => K (fr.put d true v) G' M' D) (fun v G' M' => QP v G' M' D) = callE P lout f d fr G D K QP vs (M.pulls lin) := by
  simp only [callP, callE]
  cases M.pulls lin with
  | none => rfl
  | some x =>
    obtain ⟨Es, M2⟩ := x
    simp only []
    congr 1
theorem o_call (lin lout : List Nat) (f : FuncId) (xs : List Opd) : opP P d fr G M D K QP (.call lin lout f xs) = ws true (xs.map (ev fr)) (callK P lin lout f d fr G M D K QP) := by
  simp only [opP, withs_eq, callP_eq]; rfl
def callvK (P : Program) (lin lout : List Nat) (xs : List (Option (Bool × Value))) (d : Option Nat) (fr : Fr) (G : GH) (M : Mem) (D : List Deferred) (K : Fr → GH → Mem → List Deferred → Prop) (QP : Value → GH → Mem → List Deferred → Prop) (u : Value) : Prop :=
  ws true xs fun vs => targetP P u vs fun f args => callE P lout f d fr G D K QP args (M.pulls lin)
def callvK2 (P : Program) (lin lout : List Nat) (d : Option Nat) (fr : Fr) (G : GH) (M : Mem) (D : List Deferred) (K : Fr → GH → Mem → List Deferred → Prop) (QP : Value → GH → Mem → List Deferred → Prop) (u : Value) (vs : List Value) : Prop :=
  targetP P u vs fun f args => callE P lout f d fr G D K QP args (M.pulls lin)
theorem o_callv (lin lout : List Nat) (x : Opd) (xs : List Opd) : opP P d fr G M D K QP (.callv lin lout x xs) = w1 true (ev fr x) (callvK P lin lout (xs.map (ev fr)) d fr G M D K QP) := by
  simp only [opP, withs_eq, callP_eq]; rfl
theorem callvK_eq (lin lout : List Nat) (xs : List (Option (Bool × Value))) (u : Value) : callvK P lin lout xs d fr G M D K QP u = ws true xs (callvK2 P lin lout d fr G M D K QP u) := rfl
theorem callvK2_fn (lin lout : List Nat) (f : FuncId) (x y vs : List Value) : callvK2 P lin lout d fr G M D K QP (.func (.func f) x.toArray y.toArray) vs = callE P lout f d fr G D K QP (x ++ vs ++ y) (M.pulls lin) := rfl
theorem callvK2_me (lin lout : List Nat) (name : String) (t : TypeId) (u : Value) (x vs : List Value) (y : Array Value) :
    callvK2 P lin lout d fr G M D K QP (.func (.method name) (Value.iface t u :: x).toArray y) vs = ∃ f r, Meth P t u name f r ∧ callE P lout f d fr G D K QP (r :: (x ++ vs)) (M.pulls lin) := rfl
def calliK (P : Program) (lin lout : List Nat) (name : String) (xs : List (Option (Bool × Value))) (d : Option Nat) (fr : Fr) (G : GH) (M : Mem) (D : List Deferred) (K : Fr → GH → Mem → List Deferred → Prop) (QP : Value → GH → Mem → List Deferred → Prop) (u : Value) : Prop :=
  ws true xs fun vs => match u with
    | .iface t y => ∃ f r, Meth P t y name f r ∧ callE P lout f d fr G D K QP (r :: vs) (M.pulls lin)
    | _ => False
def calliK2 (P : Program) (lin lout : List Nat) (name : String) (t : TypeId) (y : Value) (d : Option Nat) (fr : Fr) (G : GH) (M : Mem) (D : List Deferred) (K : Fr → GH → Mem → List Deferred → Prop) (QP : Value → GH → Mem → List Deferred → Prop) (vs : List Value) : Prop :=
  ∃ f r, Meth P t y name f r ∧ callE P lout f d fr G D K QP (r :: vs) (M.pulls lin)
theorem o_calli (lin lout : List Nat) (x : Opd) (name : String) (xs : List Opd) : opP P d fr G M D K QP (.calli lin lout x name xs) = w1 true (ev fr x) (calliK P lin lout name (xs.map (ev fr)) d fr G M D K QP) := by
  simp only [opP, withs_eq, callP_eq]; rfl
theorem calliK_eq (lin lout : List Nat) (name : String) (xs : List (Option (Bool × Value))) (t : TypeId) (y : Value) : calliK P lin lout name xs d fr G M D K QP (.iface t y) = ws true xs (calliK2 P lin lout name t y d fr G M D K QP) := rfl
def panK (G : GH) (M : Mem) (D : List Deferred) (QP : Value → GH → Mem → List Deferred → Prop) (u : Value) : Prop := match u with
  | .iface t v => QP (.iface t v) G M D
  | _ => False
theorem o_pan (x : Opd) : opP P d fr G M D K QP (.pan x) = w1 true (ev fr x) (panK G M D QP) := rfl
theorem panK_eq (t : TypeId) (v : Value) : panK G M D QP (.iface t v) = QP (.iface t v) G M D := rfl
def dfrK2 (d : Option Nat) (fr : Fr) (G : GH) (M : Mem) (D : List Deferred) (K : Fr → GH → Mem → List Deferred → Prop) (u : Value) (vs : List Value) : Prop := match u with
  | .func fn first cap => fin d true fr G M ({ target := .fn fn cap, args := first ++ vs.toArray } :: D) K undef
  | _ => False
def dfrK (xs : List (Option (Bool × Value))) (d : Option Nat) (fr : Fr) (G : GH) (M : Mem) (D : List Deferred) (K : Fr → GH → Mem → List Deferred → Prop) (u : Value) : Prop := ws true xs (dfrK2 d fr G M D K u)
theorem o_dfr (x : Opd) (xs : List Opd) : opP P d fr G M D K QP (.dfr x xs) = w1 true (ev fr x) (dfrK (xs.map (ev fr)) d fr G M D K) := by
  simp only [opP, withs_eq]; rfl
theorem dfrK_eq (xs : List (Option (Bool × Value))) (u : Value) : dfrK xs d fr G M D K u = ws true xs (dfrK2 d fr G M D K u) := rfl
theorem dfrK2_eq (fn : Fn) (x y : Array Value) (vs : List Value) : dfrK2 d fr G M D K (.func fn x y) vs = fin d true fr G M ({ target := .fn fn y, args := x ++ vs.toArray } :: D) K undef := rfl
end
end Go.Gv
