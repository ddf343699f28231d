/-
  How a running function is walked: tests, regions, code, the function. No condition.
-/
import Derived.Test.YtokidokmcbkodaaGvSimp2
namespace Go.Gv
open Go.RowKit
section
variable (P : Program) (d : Option Nat) (fr : Fr) (c : Bool) (κ : Value → Prop) (G : GH) (M : Mem) (D : List Deferred) (K : Fr → GH → Mem → List Deferred → Prop) (QP : Value → GH → Mem → List Deferred → Prop)
theorem g_mv (x : Opd) : gopP P true c d fr G M D K QP (.mv x) = stillP P fr c (fin d c fr G M D K) (.mv x) := rfl
theorem g_pick (t x y : Opd) : gopP P true c d fr G M D K QP (.pick t x y) = stillP P fr c (fin d c fr G M D K) (.pick t x y) := rfl
theorem g_fad (o : Nat) (x : Opd) : gopP P true c d fr G M D K QP (.fad o x) = stillP P fr c (fin d c fr G M D K) (.fad o x) := rfl
theorem g_nil (x : Opd) : gopP P true c d fr G M D K QP (.nil x) = stillP P fr c (fin d c fr G M D K) (.nil x) := rfl
theorem g_bin (op : BinOp) (x y : Opd) : gopP P true c d fr G M D K QP (.bin op x y) = stillP P fr c (fin d c fr G M D K) (.bin op x y) := rfl
theorem g_bbool (p : Bool) (x y : Opd) : gopP P true c d fr G M D K QP (.bbool p x y) = stillP P fr c (fin d c fr G M D K) (.bbool p x y) := rfl
theorem g_eqs (p : Bool) (ks : List (Nat × Nat)) (x y : Opd) : gopP P true c d fr G M D K QP (.eqs p ks x y) = stillP P fr c (fin d c fr G M D K) (.eqs p ks x y) := rfl
theorem g_isnil (k : Nat) (p : Bool) (x : Opd) : gopP P true c d fr G M D K QP (.isnil k p x) = stillP P fr c (fin d c fr G M D K) (.isnil k p x) := rfl
theorem g_un (op : UnOp) (x : Opd) : gopP P true c d fr G M D K QP (.un op x) = stillP P fr c (fin d c fr G M D K) (.un op x) := rfl
theorem g_cvi (k : IntKind) (x : Opd) : gopP P true c d fr G M D K QP (.cvi k x) = stillP P fr c (fin d c fr G M D K) (.cvi k x) := rfl
theorem g_cvs (x : Opd) : gopP P true c d fr G M D K QP (.cvs x) = stillP P fr c (fin d c fr G M D K) (.cvs x) := rfl
theorem g_mki (t : TypeId) (x : Opd) : gopP P true c d fr G M D K QP (.mki t x) = stillP P fr c (fin d c fr G M D K) (.mki t x) := rfl
theorem g_mkf (f : Fn) (x y : List Opd) : gopP P true c d fr G M D K QP (.mkf f x y) = stillP P fr c (fin d c fr G M D K) (.mkf f x y) := rfl
theorem g_fld (o : Nat) (n : Option Nat) (x : Opd) : gopP P true c d fr G M D K QP (.fld o n x) = stillP P fr c (fin d c fr G M D K) (.fld o n x) := rfl
theorem g_iad (s : Nat) (x i : Opd) : gopP P true c d fr G M D K QP (.iad s x i) = stillP P fr c (fin d c fr G M D K) (.iad s x i) := rfl
theorem g_iaa (l s : Nat) (x i : Opd) : gopP P true c d fr G M D K QP (.iaa l s x i) = stillP P fr c (fin d c fr G M D K) (.iaa l s x i) := rfl
theorem g_ist (x i : Opd) : gopP P true c d fr G M D K QP (.ist x i) = stillP P fr c (fin d c fr G M D K) (.ist x i) := rfl
theorem g_iag (l s : Nat) (n : Option Nat) (x i : Opd) : gopP P true c d fr G M D K QP (.iag l s n x i) = stillP P fr c (fin d c fr G M D K) (.iag l s n x i) := rfl
theorem g_sl (s : Nat) (x : Opd) (a b e : Option Opd) : gopP P true c d fr G M D K QP (.sl s x a b e) = stillP P fr c (fin d c fr G M D K) (.sl s x a b e) := rfl
theorem g_sst (x : Opd) (a b : Option Opd) : gopP P true c d fr G M D K QP (.sst x a b) = stillP P fr c (fin d c fr G M D K) (.sst x a b) := rfl
theorem g_ext (i : Nat) (x : Opd) : gopP P true c d fr G M D K QP (.ext i x) = stillP P fr c (fin d c fr G M D K) (.ext i x) := rfl
theorem g_len (x : Opd) : gopP P true c d fr G M D K QP (.len x) = stillP P fr c (fin d c fr G M D K) (.len x) := rfl
theorem g_cap (x : Opd) : gopP P true c d fr G M D K QP (.cap x) = stillP P fr c (fin d c fr G M D K) (.cap x) := rfl
theorem g_lst (x : Opd) : gopP P true c d fr G M D K QP (.lst x) = stillP P fr c (fin d c fr G M D K) (.lst x) := rfl
theorem g_mm (m : Bool) (x y : Opd) : gopP P true c d fr G M D K QP (.mm m x y) = stillP P fr c (fin d c fr G M D K) (.mm m x y) := rfl
theorem g_bld (z : List Value) (pl : List (Nat × Nat)) (ps : List (Nat × Opd)) : gopP P true c d fr G M D K QP (.bld z pl ps) = stillP P fr c (fin d c fr G M D K) (.bld z pl ps) := rfl
theorem g_ta (t : TypeId) (z : Value) (x : Opd) : gopP P true c d fr G M D K QP (.ta t z x) = stillP P fr c (fin d c fr G M D K) (.ta t z x) := rfl
theorem g_no (r : ROp) : gopP P false false d fr G M D K QP r = fin d false fr G M D K undef := by simp [gopP, condP, fin]
theorem g_yes (r : ROp) : gopP P false true d fr G M D K QP r = opP P d fr G M D K QP r := by simp [gopP, condP]
theorem ldP_ex {n : Option Nat} {hint : Option (Nat × Nat)} {x : Value} {κ : Value → Prop} (h : ldP G M n hint x κ) : ∃ v, ldP G M n hint x (fun u => u = v) ∧ κ v := by
  unfold ldP at *
  split at h
  · split at h
    · split at h
      · obtain ⟨h1, h2⟩ := h
        cases n with
        | none =>
          simp only at h2
          split at h2
          · rename_i v hv; exact ⟨v, ⟨h1, by simp⟩, h2⟩
          · exact h2.elim
        | some n => exact ⟨_, ⟨h1, h2.1, rfl⟩, h2.2⟩
      · exact h.elim
    · cases n with
      | none => obtain ⟨v, h1, h2⟩ := h; exact ⟨v, ⟨v, h1, rfl⟩, h2⟩
      | some n => obtain ⟨v, h1, h2, h3⟩ := h; exact ⟨_, ⟨v, h1, h2, rfl⟩, h3⟩
  · exact h.elim
/-- A load under a test. -/
def gld (c : Bool) (d : Option Nat) (fr : Fr) (G : GH) (M : Mem) (D : List Deferred) (K : Fr → GH → Mem → List Deferred → Prop) (n : Option Nat) (h : Option (Nat × Nat)) (o : Option (Bool × Value)) : Prop :=
  ∃ v, (c = true → w1 true o (ldK G M n h fun u => u = v)) ∧ fin d c fr G M D K v
theorem g_ld (n : Option Nat) (x : Opd) : gopP P true c d fr G M D K QP (.ld n none x) = gld c d fr G M D K n none (ev fr x) := rfl
def ldCE (c : Bool) (n : Option Nat) (b o : Nat) (κ : Value → Prop) (x : Option Ent) : Prop := match x with
    | some (.var b' _ cs) => (c = true → b = b') ∧ match n with
      | none => wo cs[o]? c κ
      | some n => (c = true → o + n ≤ cs.length) ∧ κ (.agg ((cs.drop o).take n).toArray)
    | _ => c = false ∧ κ undef
def ldCK (c : Bool) (M : Mem) (n : Option Nat) (l i : Nat) (κ : Value → Prop) (p : Value) : Prop := ldC c M n l i p κ
theorem g_ldh (n : Option Nat) (l i : Nat) (x : Opd) : gopP P true c d fr G M D K QP (.ld n (some (l, i)) x) = w1 c (ev fr x) (ldCK c M n l i (fin d c fr G M D K)) := rfl
theorem ldCK_eq (n : Option Nat) (l i b o : Nat) : ldCK c M n l i κ (.pointer (some ⟨b, o, none⟩)) = ldCE c n b o κ (M.ent l i) := by
  simp only [ldCK, ldC]
  cases M.ent l i with
  | none => rfl
  | some x =>
    cases x with
    | var b' e cs =>
      cases n with
      | none => simp only [ldCE, wo]; rfl
      | some n => rfl
    | _ => rfl
theorem ldCE_none (b b' o : Nat) (e : TypeId) (cs : List Value) : ldCE c none b o κ (some (.var b' e cs)) = ((c = true → b = b') ∧ wo cs[o]? c κ) := rfl
theorem ldCE_some (n b b' o : Nat) (e : TypeId) (cs : List Value) : ldCE c (some n) b o κ (some (.var b' e cs)) = ((c = true → b = b') ∧ (c = true → o + n ≤ cs.length) ∧ κ (.agg ((cs.drop o).take n).toArray)) := rfl
/-- A call under a test, whose value is known. -/
theorem gcall_pure {P : Program} {c : Bool} {d : Option Nat} {fr : Fr} {G : GH} {M : Mem} {D : List Deferred} {K : Fr → GH → Mem → List Deferred → Prop} {QP : Value → GH → Mem → List Deferred → Prop} {lin lout : List Nat} {f : FuncId} {xs : List Opd} (v : Value)
    (h1 : c = true → opP P d fr G M D (fun fr' G' M' D' => fr' = fr.put d true v ∧ G' = G ∧ M' = M ∧ D' = D) (fun _ _ _ _ => False) (.call lin lout f xs)) (h2 : fin d c fr G M D K v) : gopP P true c d fr G M D K QP (.call lin lout f xs) := .inl ⟨v, h1, h2⟩
theorem gcallv_pure {P : Program} {c : Bool} {d : Option Nat} {fr : Fr} {G : GH} {M : Mem} {D : List Deferred} {K : Fr → GH → Mem → List Deferred → Prop} {QP : Value → GH → Mem → List Deferred → Prop} {lin lout : List Nat} {x : Opd} {xs : List Opd} (v : Value)
    (h1 : c = true → opP P d fr G M D (fun fr' G' M' D' => fr' = fr.put d true v ∧ G' = G ∧ M' = M ∧ D' = D) (fun _ _ _ _ => False) (.callv lin lout x xs)) (h2 : fin d c fr G M D K v) : gopP P true c d fr G M D K QP (.callv lin lout x xs) := .inl ⟨v, h1, h2⟩
theorem gld_true (n : Option Nat) (h : Option (Nat × Nat)) (o : Option (Bool × Value)) : gld true d fr G M D K n h o = w1 true o (ldK G M n h (fin d true fr G M D K)) := by
  simp only [gld, w1, eq_iff_iff]
  cases o with
  | none => simp
  | some x =>
    obtain ⟨g, p⟩ := x
    simp only [ldK, forall_const]
    constructor
    · rintro ⟨v, ⟨h1, h2⟩, h3⟩
      exact ⟨h1, ldP_mono h2 fun u hu => by subst hu; exact h3⟩
    · rintro ⟨h1, h2⟩
      obtain ⟨v, h3, h4⟩ := ldP_ex G M h2
      exact ⟨v, ⟨h1, h3⟩, h4⟩
theorem gld_intro {n : Option Nat} {h : Option (Nat × Nat)} {o : Option (Bool × Value)} (v : Value) (h1 : c = true → w1 true o (ldK G M n h fun u => u = v)) (h2 : fin d c fr G M D K v) : gld c d fr G M D K n h o := ⟨v, h1, h2⟩

def gA (P : Program) (sp want : Bool) (d : Option Nat) (op : ROp) (fr : Fr) (G : GH) (M : Mem) (D : List Deferred) (K : Fr → GH → Mem → List Deferred → Prop) (QP : Value → GH → Mem → List Deferred → Prop) (o : Option (Bool × Value)) : Prop :=
  match o with
  | some (g, v) => gopP P sp (g && isB want v) d fr G M D K QP op
  | none => False
theorem gA_some (sp want g : Bool) (op : ROp) (v : Value) : gA P sp want d op fr G M D K QP (some (g, v)) = gopP P sp (g && isB want v) d fr G M D K QP op := rfl
theorem l_nil (Q : QQ) (f0 : Fr) : RunL P Q f0 [] fr G M D = Q .normal fr G M D := rfl
theorem l_cons (Q : QQ) (f0 : Fr) (op : ROp) (r : List RStep) : RunL P Q f0 (⟨d, none, op⟩ :: r) fr G M D = opP P d fr G M D (RunL P Q f0 r) (panQ Q f0) op := rfl
theorem l_consg (Q : QQ) (f0 : Fr) (t : Nat) (want sp : Bool) (op : ROp) (r : List RStep) : RunL P Q f0 (⟨d, some (t, want, sp), op⟩ :: r) fr G M D = gA P sp want d op fr G M D (RunL P Q f0 r) (panQ Q f0) (fr.get t) := rfl

/-! Drawn orders. -/
theorem t_done (Q : QQ) (f0 : Fr) (H : Hold) : RunT P Q f0 .done H fr G M D = Q .normal fr G M D := rfl
theorem t_take (Q : QQ) (f0 : Fr) (H : Hold) (i : Nat) (op : ROp) (t : RTree) : RunT P Q f0 (.take i ⟨d, none, op⟩ t) H fr G M D = stillP P fr true (fin d true fr G M D (RunT P Q f0 t H)) op := rfl
def tC (P : Program) (c : Bool) (d : Option Nat) (op : ROp) (fr : Fr) (G : GH) (M : Mem) (D : List Deferred) (K : Fr → GH → Mem → List Deferred → Prop) : Prop := match c with
  | true => stillP P fr true (fin d true fr G M D K) op
  | false => fin d false fr G M D K undef
theorem tC_true (op : ROp) : tC P true d op fr G M D K = stillP P fr true (fin d true fr G M D K) op := rfl
theorem tC_false (op : ROp) : tC P false d op fr G M D K = fin d false fr G M D K undef := rfl
def tA (P : Program) (want sp : Bool) (d : Option Nat) (op : ROp) (fr : Fr) (G : GH) (M : Mem) (D : List Deferred) (K : Fr → GH → Mem → List Deferred → Prop) (o : Option (Bool × Value)) : Prop :=
  match o with
  | some (g, b) => match sp with
    | true => stillP P fr (g && isB want b) (fin d (g && isB want b) fr G M D K) op
    | false => tC P (g && isB want b) d op fr G M D K
  | none => False
theorem t_takeg (Q : QQ) (f0 : Fr) (H : Hold) (i t0 : Nat) (want sp : Bool) (op : ROp) (t : RTree) : RunT P Q f0 (.take i ⟨d, some (t0, want, sp), op⟩ t) H fr G M D = tA P want sp d op fr G M D (RunT P Q f0 t H) (fr.get t0) := by
  simp only [RunT, takeP, tA]
  cases fr.get t0 with
  | none => rfl
  | some x =>
    obtain ⟨g, b⟩ := x
    cases sp with
    | true => rfl
    | false =>
      simp only []
      cases (g && isB want b) <;> simp [condP, tC, fin]
      rfl
theorem tA_some (want g : Bool) (op : ROp) (b : Value) : tA P want true d op fr G M D K (some (g, b)) = stillP P fr (g && isB want b) (fin d (g && isB want b) fr G M D K) op := rfl
theorem tA_split (want g : Bool) (op : ROp) (b : Value) : tA P want false d op fr G M D K (some (g, b)) = tC P (g && isB want b) d op fr G M D K := rfl
def heldF (i : Nat) (n : Option Nat) (h : Option (Nat × Nat)) (p : Value) (H : Hold) (d : Option Nat) (fr : Fr) (G : GH) (M : Mem) (D : List Deferred) (K : Hold → Fr → GH → Mem → List Deferred → Prop) (v : Value) : Prop := K ((i, n, h, p, v) :: H) (fr.put d true v) G M D
theorem heldF_some (i : Nat) (n : Option Nat) (h : Option (Nat × Nat)) (p : Value) (H : Hold) (k : Nat) (K : Hold → Fr → GH → Mem → List Deferred → Prop) (v : Value) : heldF i n h p H (some k) fr G M D K v = K ((i, n, h, p, v) :: H) ((k, true, v) :: fr) G M D := rfl
def heldK (i : Nat) (n : Option Nat) (h : Option (Nat × Nat)) (H : Hold) (d : Option Nat) (fr : Fr) (G : GH) (M : Mem) (D : List Deferred) (K : Hold → Fr → GH → Mem → List Deferred → Prop) (p : Value) : Prop := ldK G M n h (heldF i n h p H d fr G M D K) p
theorem heldK_eq (i : Nat) (n : Option Nat) (h : Option (Nat × Nat)) (H : Hold) (K : Hold → Fr → GH → Mem → List Deferred → Prop) (p : Value) : heldK i n h H d fr G M D K p = ldK G M n h (heldF i n h p H d fr G M D K) p := rfl
theorem t_held (Q : QQ) (f0 : Fr) (H : Hold) (i : Nat) (n : Option Nat) (h : Option (Nat × Nat)) (x : Opd) (t : RTree) : RunT P Q f0 (.held i ⟨d, none, .ld n h x⟩ t) H fr G M D = w1 true (ev fr x) (heldK i n h H d fr G M D (RunT P Q f0 t)) := rfl
def hgA (P : Program) (Q : QQ) (f0 : Fr) (i : Nat) (want : Bool) (d : Option Nat) (n : Option Nat) (h : Option (Nat × Nat)) (x : Opd) (t : RTree) (H : Hold) (fr : Fr) (G : GH) (M : Mem) (D : List Deferred) (o : Option (Bool × Value)) : Prop :=
  match o with
  | some (g, b) => ((g && isB want b) = true → w1 true (ev fr x) (heldK i n h H d fr G M D (RunT P Q f0 t))) ∧ ((g && isB want b) = false → fin d false fr G M D (RunT P Q f0 t H) undef)
  | none => False
theorem t_heldg (Q : QQ) (f0 : Fr) (H : Hold) (i t0 : Nat) (want sp : Bool) (n : Option Nat) (h : Option (Nat × Nat)) (x : Opd) (t : RTree) : RunT P Q f0 (.held i ⟨d, some (t0, want, sp), .ld n h x⟩ t) H fr G M D = hgA P Q f0 i want d n h x t H fr G M D (fr.get t0) := rfl
def hgB (P : Program) (Q : QQ) (f0 : Fr) (i : Nat) (c : Bool) (d : Option Nat) (n : Option Nat) (h : Option (Nat × Nat)) (x : Opd) (t : RTree) (H : Hold) (fr : Fr) (G : GH) (M : Mem) (D : List Deferred) : Prop := match c with
  | true => w1 true (ev fr x) (heldK i n h H d fr G M D (RunT P Q f0 t))
  | false => fin d false fr G M D (RunT P Q f0 t H) undef
theorem hgA_some (Q : QQ) (f0 : Fr) (i : Nat) (want g : Bool) (n : Option Nat) (h : Option (Nat × Nat)) (x : Opd) (t : RTree) (H : Hold) (b : Value) : hgA P Q f0 i want d n h x t H fr G M D (some (g, b)) = hgB P Q f0 i (g && isB want b) d n h x t H fr G M D := by
  simp only [hgA]
  cases (g && isB want b) <;> simp [hgB]
theorem hgB_true (Q : QQ) (f0 : Fr) (i : Nat) (n : Option Nat) (h : Option (Nat × Nat)) (x : Opd) (t : RTree) (H : Hold) : hgB P Q f0 i true d n h x t H fr G M D = w1 true (ev fr x) (heldK i n h H d fr G M D (RunT P Q f0 t)) := rfl
theorem hgB_false (Q : QQ) (f0 : Fr) (i : Nat) (n : Option Nat) (h : Option (Nat × Nat)) (x : Opd) (t : RTree) (H : Hold) : hgB P Q f0 i false d n h x t H fr G M D = fin d false fr G M D (RunT P Q f0 t H) undef := rfl
def exK (H : Hold) (K : Hold → Fr → GH → Mem → List Deferred → Prop) (fr : Fr) (G : GH) (M : Mem) (D : List Deferred) : Prop := holdP G M H ∧ K H fr G M D
theorem exK_eq (H : Hold) (K : Hold → Fr → GH → Mem → List Deferred → Prop) : exK H K fr G M D = (holdP G M H ∧ K H fr G M D) := rfl
def eqK (v u : Value) : Prop := u = v
theorem eqK_eq (v u : Value) : eqK v u = (u = v) := rfl
theorem dropH_nil (dr : List Nat) : dropH dr [] = [] := rfl
theorem inL_nil (n : Nat) : inL [] n = false := rfl
theorem inL_cons (m n : Nat) (r : List Nat) : inL (m :: r) n = if n = m then true else inL r n := rfl
theorem dropH_no (H : Hold) : dropH [] H = H := by
  induction H with
  | nil => rfl
  | cons x r ih => simp only [dropH, inL, Bool.false_eq_true, if_false, ih]
def dropA (b : Bool) (x : Nat × Option Nat × Option (Nat × Nat) × Value × Value) (H : Hold) : Hold := match b with
  | true => H
  | false => x :: H
theorem dropA_true (x : Nat × Option Nat × Option (Nat × Nat) × Value × Value) (H : Hold) : dropA true x H = H := rfl
theorem dropA_false (x : Nat × Option Nat × Option (Nat × Nat) × Value × Value) (H : Hold) : dropA false x H = x :: H := rfl
theorem dropH_cons (dr : List Nat) (i : Nat) (x : Option Nat × Option (Nat × Nat) × Value × Value) (r : Hold) : dropH dr ((i, x) :: r) = dropA (inL dr i) (i, x) (dropH dr r) := by
  simp only [dropH, dropA]; cases inL dr i <;> rfl
theorem hold_nil : holdP G M [] = True := rfl
theorem hold_cons (i : Nat) (n : Option Nat) (h : Option (Nat × Nat)) (p v : Value) (r : Hold) : holdP G M ((i, n, h, p, v) :: r) = (ldK G M n h (eqK v) p ∧ holdP G M r) := rfl
theorem t_exec (Q : QQ) (f0 : Fr) (H : Hold) (dr : List Nat) (i : Nat) (s : RStep) (t : RTree) : RunT P Q f0 (.exec dr i s t) H fr G M D = stepP P s fr G M D (exK (dropH dr H) (RunT P Q f0 t)) (panQ Q f0) := rfl
theorem t_fork (Q : QQ) (f0 : Fr) (H : Hold) (i j : Nat) (s s' : RStep) (t t' : RTree) : RunT P Q f0 (.fork i s t j s' t') H fr G M D = (stepP P s fr G M D (exK H (RunT P Q f0 t)) (panQ Q f0) ∧ stepP P s' fr G M D (exK H (RunT P Q f0 t')) (panQ Q f0)) := rfl
theorem t_fork3 (Q : QQ) (f0 : Fr) (H : Hold) (i j k : Nat) (s s' s'' : RStep) (t t' t'' : RTree) : RunT P Q f0 (.fork3 i s t j s' t' k s'' t'') H fr G M D = (stepP P s fr G M D (exK H (RunT P Q f0 t)) (panQ Q f0) ∧ stepP P s' fr G M D (exK H (RunT P Q f0 t')) (panQ Q f0) ∧ stepP P s'' fr G M D (exK H (RunT P Q f0 t'')) (panQ Q f0)) := rfl
theorem step_no (op : ROp) : stepP P ⟨d, none, op⟩ fr G M D K QP = opP P d fr G M D K QP op := rfl
theorem step_g (t : Nat) (want sp : Bool) (op : ROp) : stepP P ⟨d, some (t, want, sp), op⟩ fr G M D K QP = gA P sp want d op fr G M D K QP (fr.get t) := rfl

/-! Code. -/
variable (Q : QQ)
def seqQ (P : Program) (b : RCode) (Q : QQ) : QQ := thenQ (Run P b Q) Q
theorem r_skip : Run P .skip Q fr G M D = Q .normal fr G M D := rfl
theorem r_reg (ps : List Nat) (l : List RStep) : Run P (.reg ps l) Q fr G M D = RunL P Q (fr.keep ps) l fr G M D := rfl
theorem r_dreg (ps : List Nat) (t : RTree) : Run P (.dreg ps t) Q fr G M D = RunT P Q (fr.keep ps) t [] fr G M D := rfl
theorem r_norm (ts ls : List Nat) (a : RCode) : Run P (.norm ts ls a) Q fr G M D = Run P a (normQ ts ls Q) fr G M D := rfl
theorem q_norm_n (ts ls : List Nat) : normQ ts ls Q .normal fr G M D = Q .normal (fr.keep ts) G (M.only ls) D := rfl
theorem q_norm_e (ts ls : List Nat) (i : Nat) : normQ ts ls Q (.exit i) fr G M D = Q (.exit i) fr G M D := rfl
theorem q_norm_r (ts ls : List Nat) : normQ ts ls Q .ret fr G M D = Q .ret fr G M D := rfl
theorem q_norm_p (ts ls : List Nat) (v : Value) : normQ ts ls Q (.pan v) fr G M D = Q (.pan v) fr G M D := rfl
/-- What is agreed on between two parts. -/
def midP (P : Program) (a : RCode) (Q : QQ) (fr : Fr) (G : GH) (M : Mem) (D : List Deferred) : Prop := Run P (.mid a) Q fr G M D
theorem r_mid (a : RCode) : Run P (.mid a) Q fr G M D = midP P a Q fr G M D := rfl
def midQ (K : Fr → GH → Mem → List Deferred → Prop) (Q : QQ) : QQ := thenQ K Q
theorem q_mid_n (K : Fr → GH → Mem → List Deferred → Prop) : midQ K Q .normal fr G M D = K fr G M D := rfl
theorem q_mid_e (K : Fr → GH → Mem → List Deferred → Prop) (i : Nat) : midQ K Q (.exit i) fr G M D = Q (.exit i) fr G M D := rfl
theorem q_mid_r (K : Fr → GH → Mem → List Deferred → Prop) : midQ K Q .ret fr G M D = Q .ret fr G M D := rfl
theorem q_mid_p (K : Fr → GH → Mem → List Deferred → Prop) (v : Value) : midQ K Q (.pan v) fr G M D = Q (.pan v) fr G M D := rfl
theorem mid_intro {P : Program} {a : RCode} {Q : QQ} {fr : Fr} {G : GH} {M : Mem} {D : List Deferred} (K : Fr → GH → Mem → List Deferred → Prop) (h1 : Run P a (midQ K Q) fr G M D) (h2 : ∀ fr' G' M' D', GLe G G' → K fr' G' M' D' → Q .normal fr' G' M' D') : midP P a Q fr G M D := ⟨K, h1, h2⟩
theorem r_seq (a b : RCode) : Run P (.seq a b) Q fr G M D = Run P a (seqQ P b Q) fr G M D := rfl
theorem q_seq_n (b : RCode) : seqQ P b Q .normal fr G M D = Run P b Q fr G M D := rfl
theorem q_seq_e (b : RCode) (i : Nat) : seqQ P b Q (.exit i) fr G M D = Q (.exit i) fr G M D := rfl
theorem q_seq_r (b : RCode) : seqQ P b Q .ret fr G M D = Q .ret fr G M D := rfl
theorem q_seq_p (b : RCode) (v : Value) : seqQ P b Q (.pan v) fr G M D = Q (.pan v) fr G M D := rfl
theorem r_block (i : Nat) (a : RCode) : Run P (.block i a) Q fr G M D = Run P a (blkQ i Q) fr G M D := rfl
theorem q_blk_n (i : Nat) : blkQ i Q .normal fr G M D = Q .normal fr G M D := rfl
theorem q_blk_e (i j : Nat) : blkQ i Q (.exit j) fr G M D = if j = i then Q .normal fr G M D else Q (.exit j) fr G M D := by
  simp only [blkQ]; split <;> rfl
theorem q_blk_r (i : Nat) : blkQ i Q .ret fr G M D = Q .ret fr G M D := rfl
theorem q_blk_p (i : Nat) (v : Value) : blkQ i Q (.pan v) fr G M D = Q (.pan v) fr G M D := rfl
theorem r_exit (i : Nat) : Run P (.exit i) Q fr G M D = Q (.exit i) fr G M D := rfl
theorem r_ret : Run P .ret Q fr G M D = Q .ret fr G M D := rfl
theorem q_pan (f0 : Fr) (v : Value) : panQ Q f0 v G M D = Q (.pan v) f0 G M D := rfl
/-- Where the code parts. -/
def condR (P : Program) (x : Bool) (a b : RCode) (Q : QQ) (fr : Fr) (G : GH) (M : Mem) (D : List Deferred) : Prop := condP x (Run P a Q fr G M D) (Run P b Q fr G M D)
def condK (P : Program) (a b : RCode) (Q : QQ) (fr : Fr) (G : GH) (M : Mem) (D : List Deferred) (v : Value) : Prop := match v with
  | .bool x => condR P x a b Q fr G M D
  | _ => False
theorem r_cond (o : Opd) (a b : RCode) : Run P (.cond o a b) Q fr G M D = w1 true (ev fr o) (condK P a b Q fr G M D) := rfl
theorem condK_eq (x : Bool) (a b : RCode) : condK P a b Q fr G M D (.bool x) = condR P x a b Q fr G M D := rfl
theorem cond_yes (a b : RCode) : condR P true a b Q fr G M D = Run P a Q fr G M D := by simp [condR, condP]
theorem cond_no (a b : RCode) : condR P false a b Q fr G M D = Run P b Q fr G M D := by simp [condR, condP]
theorem cond_intro {P : Program} {x : Bool} {a b : RCode} {Q : QQ} {fr : Fr} {G : GH} {M : Mem} {D : List Deferred} (h1 : x = true → Run P a Q fr G M D) (h2 : x = false → Run P b Q fr G M D) : condR P x a b Q fr G M D := ⟨h1, h2⟩
theorem cond_dec {P : Program} {p : Prop} [Decidable p] {a b : RCode} {Q : QQ} {fr : Fr} {G : GH} {M : Mem} {D : List Deferred} (h1 : p → Run P a Q fr G M D) (h2 : ¬p → Run P b Q fr G M D) : condR P (decide p) a b Q fr G M D :=
  ⟨fun h => h1 (of_decide_eq_true h), fun h => h2 (of_decide_eq_false h)⟩
/-- A loop. -/
def loopP (P : Program) (ts ls : List Nat) (a : RCode) (Q : QQ) (fr : Fr) (G : GH) (M : Mem) (D : List Deferred) : Prop := ∃ I : Nat → Fr → GH → Mem → Prop, (∃ n, I n fr G M) ∧
      ∀ n fr G1 M, GLe G G1 → I n fr G1 M → Run P a (thenQ (fun fr' G' M' D' => D' = D ∧ ∃ m, m < n ∧ I m (fr'.keep ts) G' (M'.only ls)) Q) fr G1 M D
theorem r_loop (ts ls : List Nat) (a : RCode) : Run P (.loop ts ls a) Q fr G M D = loopP P ts ls a Q (fr.keep ts) G (M.only ls) D := rfl
def againQ (ts ls : List Nat) (I : Nat → Fr → GH → Mem → Prop) (D : List Deferred) (n : Nat) (Q : QQ) : QQ := thenQ (fun fr' G' M' D' => D' = D ∧ ∃ m, m < n ∧ I m (fr'.keep ts) G' (M'.only ls)) Q
theorem loop_intro {P : Program} {ts ls : List Nat} {a : RCode} {Q : QQ} {fr : Fr} {G : GH} {M : Mem} {D : List Deferred} (I : Nat → Fr → GH → Mem → Prop) (n : Nat) (h0 : I n fr G M)
    (h : ∀ n fr G1 M, GLe G G1 → I n fr G1 M → Run P a (againQ ts ls I D n Q) fr G1 M D) : loopP P ts ls a Q fr G M D := ⟨I, ⟨n, h0⟩, h⟩
theorem q_ag_n (ts ls : List Nat) (I : Nat → Fr → GH → Mem → Prop) (D' : List Deferred) (n : Nat) : againQ ts ls I D' n Q .normal fr G M D = (D = D' ∧ ∃ m, m < n ∧ I m (fr.keep ts) G (M.only ls)) := rfl
theorem q_ag_e (ts ls : List Nat) (I : Nat → Fr → GH → Mem → Prop) (D' : List Deferred) (n i : Nat) : againQ ts ls I D' n Q (.exit i) fr G M D = Q (.exit i) fr G M D := rfl
theorem q_ag_r (ts ls : List Nat) (I : Nat → Fr → GH → Mem → Prop) (D' : List Deferred) (n : Nat) : againQ ts ls I D' n Q .ret fr G M D = Q .ret fr G M D := rfl
theorem q_ag_p (ts ls : List Nat) (I : Nat → Fr → GH → Mem → Prop) (D' : List Deferred) (n : Nat) (v : Value) : againQ ts ls I D' n Q (.pan v) fr G M D = Q (.pan v) fr G M D := rfl
theorem r_keep (ts : List Nat) (a : RCode) : Run P (.keep ts a) Q fr G M D = Run P a Q (fr.keep ts) G M D := rfl
theorem r_only (ls : List Nat) (a : RCode) : Run P (.only ls a) Q fr G M D = Run P a Q fr G (M.only ls) D := rfl
theorem r_ghost (l : Nat) (a : RCode) : Run P (.ghost l a) Q fr G M D = Run P a Q fr G ((l, []) :: M) D := rfl
def settleK (P : Program) (b : Nat) (cs : List Value) (a : RCode) (Q : QQ) (fr : Fr) (G : GH) (M : Mem) (D : List Deferred) : Prop := ∀ G', GLe G G' → CellsAt G' b 0 cs → Run P a Q fr G' M D
def settleP (P : Program) (a : RCode) (Q : QQ) (fr : Fr) (G : GH) (D : List Deferred) (x : Option (List Ent × Mem)) : Prop := match x with
    | some ([.var b _ cs], M2) => settleK P b cs a Q fr G M2 D
    | _ => False
theorem r_settle (l : Nat) (a : RCode) : Run P (.settle l a) Q fr G M D = settleP P a Q fr G D (M.pull l) := rfl
theorem settleP_some (b : Nat) (e : TypeId) (cs : List Value) (a : RCode) (M2 : Mem) : settleP P a Q fr G D (some ([.var b e cs], M2)) = settleK P b cs a Q fr G M2 D := rfl
theorem settle_intro {P : Program} {b : Nat} {cs : List Value} {a : RCode} {Q : QQ} {fr : Fr} {G : GH} {M : Mem} {D : List Deferred} (h : ∀ G', GLe G G' → CellsAt G' b 0 cs → Run P a Q fr G' M D) : settleK P b cs a Q fr G M D := h
theorem keep_nil : Fr.keep fr [] = [] := rfl
def keepA (n : Nat) (o : Option (Bool × Value)) (r : Fr) : Fr := match o with
  | some v => (n, v) :: r
  | none => r
theorem keep_cons (n : Nat) (r : List Nat) : Fr.keep fr (n :: r) = keepA n (fr.get n) (fr.keep r) := by
  simp only [Fr.keep, keepA]; cases fr.get n <;> rfl
theorem keepA_some (n : Nat) (v : Bool × Value) (r : Fr) : keepA n (some v) r = (n, v) :: r := rfl
theorem keepA_none (n : Nat) (r : Fr) : keepA n none r = r := rfl
theorem get_nil (n : Nat) : Fr.get [] n = none := rfl
def pullG (x : Nat × List Ent) (o : Option (List Ent × Mem)) : Option (List Ent × Mem) := match o with
  | some (fs, r) => some (fs, x :: r)
  | none => none
theorem pull_cons (m : Nat) (es : List Ent) (r : Mem) (n : Nat) : Mem.pull ((m, es) :: r) n = if n = m then some (es, r) else pullG (m, es) (Mem.pull r n) := by
  simp only [Mem.pull, pullG]; split <;> rfl
theorem pullG_some (x : Nat × List Ent) (fs : List Ent) (r : Mem) : pullG x (some (fs, r)) = some (fs, x :: r) := rfl
def pullF (es : List Ent) (o : Option (List (List Ent) × Mem)) : Option (List (List Ent) × Mem) := match o with
  | some (ess, r) => some (es :: ess, r)
  | none => none
theorem pullF_some (es : List Ent) (ess : List (List Ent)) (r : Mem) : pullF es (some (ess, r)) = some (es :: ess, r) := rfl
def pullE (ls : List Nat) (o : Option (List Ent × Mem)) : Option (List (List Ent) × Mem) := match o with
  | some (es, r) => pullF es (r.pulls ls)
  | none => none
theorem pullE_some (ls : List Nat) (es : List Ent) (r : Mem) : pullE ls (some (es, r)) = pullF es (r.pulls ls) := rfl
theorem pulls_nil : Mem.pulls M [] = some ([], M) := rfl
theorem pulls_cons (l : Nat) (r : List Nat) : Mem.pulls M (l :: r) = pullE r (M.pull l) := by
  simp only [Mem.pulls, pullE]
  cases M.pull l with
  | none => rfl
  | some x => obtain ⟨es, M1⟩ := x; simp only [pullF]; cases M1.pulls r <;> rfl
def onlyE (M : Mem) (l : Nat) (ls : List Nat) (o : Option (List Ent × Mem)) : Mem := match o with
  | some (es, M1) => (l, es) :: M1.only ls
  | none => M.only ls
theorem only_nil : Mem.only M [] = [] := by unfold Mem.only; rfl
theorem only_cons (l : Nat) (ls : List Nat) : Mem.only M (l :: ls) = onlyE M l ls (M.pull l) := by
  simp only [Mem.only]; cases M.pull l with
  | none => rfl
  | some x => rfl
theorem onlyE_some (l : Nat) (ls : List Nat) (es : List Ent) (r : Mem) : onlyE M l ls (some (es, r)) = (l, es) :: r.only ls := rfl
theorem onlyE_none (l : Nat) (ls : List Nat) : onlyE M l ls none = M.only ls := rfl
theorem pull_nil (n : Nat) : Mem.pull [] n = none := rfl
theorem pullG_none (x : Nat × List Ent) : pullG x none = none := rfl

/-! The function. -/
variable (F : List Ent) (R : Out → GH → List (List Ent) → Prop)
def lastK (F : List Ent) (κ : List (List Ent) → Prop) (o : Option (List (List Ent) × Mem)) : Prop := match o with
  | some (F' :: Es, _) => F' = F ∧ κ Es
  | _ => False
theorem lastK_some (κ : List (List Ent) → Prop) (F' : List Ent) (Es : List (List Ent)) (r : Mem) : lastK F κ (some (F' :: Es, r)) = (F' = F ∧ κ Es) := rfl
def retK (lo : List Nat) (F : List Ent) (R : Out → GH → List (List Ent) → Prop) (G : GH) (M : Mem) (vs : List Value) : Prop := lastK F (R (.ret (resV vs)) G) (M.pulls (1000000 :: lo))
theorem retK_eq (lo : List Nat) (vs : List Value) : retK lo F R G M vs = lastK F (R (.ret (resV vs)) G) (M.pulls (1000000 :: lo)) := rfl
def resA (fr : Fr) (G : GH) (M : Mem) (l : List RRes) (κ : List Value → Prop) : Prop := resP fr G M l κ
def resK (fr : Fr) (G : GH) (M : Mem) (r : List RRes) (κ : List Value → Prop) (v : Value) : Prop := resA fr G M r fun vs => κ (v :: vs)
theorem resK_eq (r : List RRes) (κ : List Value → Prop) (v : Value) : resK fr G M r κ v = resA fr G M r (consK κ v) := rfl
theorem resA_nil (κ : List Value → Prop) : resA fr G M [] κ = κ [] := rfl
theorem resA_tmp (t : Nat) (r : List RRes) (κ : List Value → Prop) : resA fr G M (.tmp t :: r) κ = w1 true (fr.get t) (resK fr G M r κ) := rfl
theorem resA_cell (n : Option Nat) (h : Option (Nat × Nat)) (t : Nat) (r : List RRes) (κ : List Value → Prop) : resA fr G M (.cell n h t :: r) κ = w1 true (fr.get t) (ldK G M n h (resK fr G M r κ)) := rfl
/-- What is asked where a function ends. -/
def endQ (res : List RRes) (lo po : List Nat) (F : List Ent) (R : Out → GH → List (List Ent) → Prop) : QQ
  | .normal, fr, G, M, D => D = [] ∧ resA fr G M res (retK lo F R G M)
  | .ret, fr, G, M, D => D = [] ∧ resA fr G M res (retK lo F R G M)
  | .pan v, _, G, M, D => D = [] ∧ lastK F (R (.pan v) G) (M.pulls (1000000 :: po))
  | .exit _, _, _, _, _ => False
theorem e_n (res : List RRes) (lo po : List Nat) : endQ res lo po F R .normal fr G M D = (D = [] ∧ resA fr G M res (retK lo F R G M)) := rfl
theorem e_r (res : List RRes) (lo po : List Nat) : endQ res lo po F R .ret fr G M D = (D = [] ∧ resA fr G M res (retK lo F R G M)) := rfl
theorem e_p (res : List RRes) (lo po : List Nat) (v : Value) : endQ res lo po F R (.pan v) fr G M D = (D = [] ∧ lastK F (R (.pan v) G) (M.pulls (1000000 :: po))) := rfl
end

theorem acalls {P : Program} {G : GH} {f : FuncId} {nt : Nat} {code : RCode} {res : List RRes} {lo po : List Nat} {args : List Value} {Es : List (List Ent)} {R : Out → GH → List (List Ent) → Prop} (hm : P.follows .mixedOrders = true)
    (hr : rbFn P f ⟨nt, code, res, lo, po⟩ = some ⟨nt, code, res, lo, po⟩) (ha : args.length ≤ nt) (h : ∀ F, Run P code (endQ res lo po F R) (frArgs 0 args) G (memArgs F 0 Es) []) : ACalls P f args G Es R := by
  refine acalls_of hm hr ha fun F => ?_
  have e : fnQ ⟨nt, code, res, lo, po⟩ F R = endQ res lo po F R := by
    funext x fr G M D
    cases x <;> rfl
  rw [e]
  exact h F
end Go.Gv
