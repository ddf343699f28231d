/-
  The operations that touch no memory: read off the program, and sound. No condition.
-/
import Derived.Test.YtokidokmcbkodaaGvStep
namespace Go.Gv
open Go.RowKit

def opd : Operand → Opd
  | .tmp n => .t n
  | .const v => .c v
  | .global g => .c (.pointer (some ⟨g, 0, none⟩))
  | .func f => .c (.func (.func f) #[] #[])

theorem opd_eval {nt : Nat} {fr : Fr} {a : Act} (h : FrOk nt fr a) (x : Operand) {v : Value} (hv : ev fr (opd x) = some (true, v)) : a.eval x = v := by
  cases x with
  | tmp n => exact h.eval hv
  | const u => simp [opd, ev] at hv; exact hv
  | global g => simp [opd, ev] at hv; exact hv
  | func f => simp [opd, ev] at hv; exact hv

theorem opds_eval {nt : Nat} {fr : Fr} {a : Act} (h : FrOk nt fr a) : ∀ (xs : List Operand) {vs : List Value}, evs fr (xs.map opd) vs → xs.map a.eval = vs
  | [], vs, hv => by simp [evs] at hv; simp [hv]
  | x :: r, [], hv => by simp [evs] at hv
  | x :: r, v :: vs, hv => by
    simp only [List.map_cons, evs] at hv
    simp [opd_eval h x hv.1, opds_eval h r hv.2]

def szOf (P : Program) (t : TypeId) : Option Nat := (P.info? t).map (·.size)
/-- How many cells a value of this type has, where it is a struct or an array. -/
def aggN (P : Program) (t : TypeId) : Option (Option Nat) :=
  match P.underlying t with
  | some (.struct _) | some (.array _ _) => (szOf P t).map some
  | some _ => some none
  | none => none
def scal (P : Program) (t : TypeId) : Bool :=
  match P.underlying t with
  | some (.int _) | some .string => true
  | _ => false
def niltype (P : Program) (t : TypeId) : Option Nat :=
  match P.underlying t with
  | some (.pointer _) => some 0
  | some (.slice _) => some 1
  | some (.map _ _) => some 2
  | some (.func _ _ _) => some 3
  | some (.interface _) => some 4
  | _ => none
def isNilC : Nat → Operand → Bool
  | 0, .const (.pointer none) | 1, .const (.slice none 0 0) | 2, .const (.map none) | 3, .const .nilFunc | 4, .const .nilIface => true
  | _, _ => false
def fieldOf (P : Program) (t : TypeId) (f : Nat) : Option Field :=
  match P.underlying t with
  | some (.struct fs) => fs[f]?
  | _ => none
def places (P : Program) (t : TypeId) (n : Nat) : Option (List (Nat × Nat)) :=
  match P.underlying t with
  | some (.struct fs) => fs.toList.mapM fun f => (szOf P f.type).map fun s => (f.offset, s)
  | some (.array _ e) => (szOf P e).map fun s => (List.range n).map fun i => (i * s, s)
  | _ => none
def zeroOf (P : Program) (t : TypeId) : Option (List Value) := ((P.info? t).bind (·.zero)).map (·.cells.toList)

/-- The scalar kinds of a flat struct's fields. -/
def flatKind (P : Program) (f : Field) : Option Nat :=
  if f.name = "_" then none else
    match P.underlying f.type with
    | some (.int _) => some 0
    | some .bool => some 1
    | some .string => some 2
    | _ => none
def flatKinds (P : Program) (fs : List Field) : Option (List (Nat × Nat)) := fs.mapM fun f => (flatKind P f).map fun k => (f.offset, k)

def rbStill (P : Program) (op : Op) (s : ROp) : Option ROp :=
  match op with
  | .move x | .assign x => some (.mv (opd x))
  | .pick c a b => some (.pick (opd c) (opd a) (opd b))
  | .fieldAddr t x f =>
    match fieldOf P t f with
    | some fl => if szOf P fl.type = some 0 ∨ szOf P fl.type = none then none else some (.fad fl.offset (opd x))
    | none => none
  | .nilCheck x => some (.nil (opd x))
  | .binOp op t x y _ =>
    match s with
    | .isnil _ _ _ =>
      match niltype P t, op with
      | some k, .eql => if isNilC k y then some (.isnil k true (opd x)) else none
      | some k, .neq => if isNilC k y then some (.isnil k false (opd x)) else none
      | _, _ => none
    | .eqs _ _ _ _ =>
      match P.underlying t, op with
      | some (.struct fs), .eql => match P.stoodInHeld t, P.eqGuardType P.depth t, flatKinds P fs.toList with
        | false, false, some ks => some (.eqs true ks (opd x) (opd y))
        | _, _, _ => none
      | some (.struct fs), .neq => match P.stoodInHeld t, P.eqGuardType P.depth t, flatKinds P fs.toList with
        | false, false, some ks => some (.eqs false ks (opd x) (opd y))
        | _, _, _ => none
      | _, _ => none
    | .bbool _ _ _ =>
      match P.underlying t, op with
      | some .bool, .eql => some (.bbool true (opd x) (opd y))
      | some .bool, .neq => some (.bbool false (opd x) (opd y))
      | _, _ => none
    | _ => if scal P t then some (.bin op (opd x) (opd y)) else none
  | .unOp op _ x => some (.un op (opd x))
  | .convert src dst x =>
    match P.underlying src, P.underlying dst with
    | some (.int _), some (.int k) => some (.cvi k (opd x))
    | some .string, some .string => some (.cvs (opd x))
    | _, _ => none
  | .makeInterface t x =>
    match P.underlying t with
    | some (.interface _) | none => none
    | _ => some (.mki t (opd x))
  | .makeFunc fn first cap => some (.mkf fn (first.toList.map opd) (cap.toList.map opd))
  | .field t x f =>
    match fieldOf P t f with
    | some fl => (aggN P fl.type).map fun n => .fld fl.offset n (opd x)
    | none => none
  | .indexAddr t x i =>
    match P.underlying t with
    | some (.slice e) => (szOf P e).map fun s => .iad s (opd x) (opd i)
    | some (.array n e) => (szOf P e).map fun s => .iaa n s (opd x) (opd i)
    | _ => none
  | .index t x i =>
    match P.underlying t with
    | some .string => some (.ist (opd x) (opd i))
    | some (.array n e) =>
      match szOf P e, aggN P e with
      | some s, some m => some (.iag n s m (opd x) (opd i))
      | _, _ => none
    | _ => none
  | .slice t x lo hi mx =>
    match P.underlying t with
    | some (.slice e) => if mx.isSome && hi.isNone then none else (szOf P e).map fun s => .sl s (opd x) (lo.map opd) (hi.map opd) (mx.map opd)
    | some .string => if mx.isSome then none else some (.sst (opd x) (lo.map opd) (hi.map opd))
    | _ => none
  | .extract x i => some (.ext i (opd x))
  | .call { callee := .builtin .len, args, argTypes } =>
    match args.toList, argTypes.toList with
    | [x], [t] =>
      match P.underlying t with
      | some (.slice _) => some (.len (opd x))
      | some .string => some (.lst (opd x))
      | _ => none
    | _, _ => none
  | .call { callee := .builtin .cap, args, argTypes } =>
    match args.toList, argTypes.toList with
    | [x], [t] =>
      match P.underlying t with
      | some (.slice _) => some (.cap (opd x))
      | _ => none
    | _, _ => none
  | .call { callee := .builtin .max, args, .. } =>
    match args.toList with
    | [x, y] => some (.mm true (opd x) (opd y))
    | _ => none
  | .call { callee := .builtin .min, args, .. } =>
    match args.toList with
    | [x, y] => some (.mm false (opd x) (opd y))
    | _ => none
  | .build t parts =>
    match zeroOf P t, places P t (parts.size + (szOf P t).getD 0) with
    | some zs, some pl => some (.bld zs pl (parts.toList.map fun p => (p.1, opd p.2)))
    | _, _ => none
  | .typeAssert x _ t ok =>
    match ok, P.underlying t, (P.info? t).bind (·.zero) with
    | true, some (.int _), some z => some (.ta t z (opd x))
    | true, some (.struct _), some z => some (.ta t z (opd x))
    | _, _, _ => none
  | _ => none

section
variable {P : Program} {nt : Nat} {fr : Fr} {a : Act}

theorem szOf_run {t : TypeId} {n : Nat} (h : szOf P t = some n) (w : World) : (sizeOf t).run P w = .ok n w := by
  simp only [szOf, Option.map_eq_some_iff] at h
  obtain ⟨i, hi, rfl⟩ := h
  simp [sizeOf, typeInfo, hi]
theorem isAgg_run {t : TypeId} {n : Option Nat} (h : aggN P t = some n) (w : World) : (isAgg t).run P w = .ok n.isSome w ∧ ∀ m, n = some m → (sizeOf t).run P w = .ok m w := by
  unfold aggN at h
  split at h
  · rename_i fs hu
    simp only [Option.map_eq_some_iff] at h
    obtain ⟨m, hm, rfl⟩ := h
    exact ⟨by simp [isAgg, run_underlying hu], fun k hk => by simp at hk; subst hk; exact szOf_run hm w⟩
  · rename_i k e hu
    simp only [Option.map_eq_some_iff] at h
    obtain ⟨m, hm, rfl⟩ := h
    exact ⟨by simp [isAgg, run_underlying hu], fun k hk => by simp at hk; subst hk; exact szOf_run hm w⟩
  · rename_i d h1 h2 hu
    simp at h; subst h
    exact ⟨by cases d <;> simp_all [isAgg, run_underlying hu], fun m hm => by simp at hm⟩
  · simp at h
theorem part_run {c : Bool} {t : TypeId} {n : Option Nat} {cs : Array Value} {off : Nat} {K : Value → Prop} (h : aggN P t = some n) (hK : partV c cs.toList off n K) :
    ∃ v, K v ∧ (c = true → ∀ w, (part t cs off).run P w = .ok v w) := by
  cases n with
  | some m =>
    refine ⟨_, hK, fun hc w => ?_⟩
    obtain ⟨h1, h2⟩ := isAgg_run h w
    simp only [part, Sem.run_bind, h1, Result.andThen_ok, Option.isSome_some, if_true, h2 m rfl, Sem.run_pure]
    congr 2
    apply Array.ext'
    simp [List.take_drop]
  | none =>
    simp only [partV] at hK
    split at hK
    · rename_i v hv
      refine ⟨v, hK, fun hc w => ?_⟩
      obtain ⟨h1, _⟩ := isAgg_run h w
      have hv' : cs[off]? = some v := by simpa using hv
      simp [part, h1, hv']
    · exact ⟨undef, hK.2, fun hc => by simp [hK.1] at hc⟩

theorem bound_run {c : Bool} {x : Value} {y : Nat} {K : Nat → Prop} (h : boundV c x y K) (code : BoundsCode) : ∃ n, K n ∧ (c = true → ∀ w, (Instr.sliceBound x y code).run P w = .ok n w) := by
  unfold boundV at h
  split at h
  · obtain ⟨h0, hk⟩ := h
    exact ⟨_, hk, fun hc w => by simp [Instr.sliceBound, asIntOf, h0 hc]⟩
  · exact ⟨0, h.2, fun hc => by simp [h.1] at hc⟩

theorem boundO_iff {c : Bool} {x : Option Opd} {d y : Nat} {K : Nat → Prop} (h : boundO fr c x d y K) :
    (x = none ∧ K d) ∨ ∃ o v, x = some o ∧ (c = true → ev fr o = some (true, v)) ∧ boundV c v y K := by
  cases x with
  | none => exact .inl ⟨rfl, h⟩
  | some o =>
    obtain ⟨v, hv, hk⟩ := with1_iff h
    exact .inr ⟨o, v, rfl, hv, hk⟩

theorem binI_run {c : Bool} {op : BinOp} {k : IntKind} {x y : Int} {K : Value → Prop} (h : binI c op k x y K) (t : TypeId) :
    ∃ v, K v ∧ (c = true → ∀ w, (binOp op t (.int k x) (.int k y)).run P w = .ok v w) := by
  cases op <;> simp only [binI] at h
  case eql => exact ⟨_, h, fun hc w => by simp only [binOp, Op.intCmp, ne_eq, not_true_eq_false, if_false, Sem.run_pure]; congr 2⟩
  case neq => exact ⟨_, h, fun hc w => by simp only [binOp, Op.intCmp, ne_eq, not_true_eq_false, if_false, Sem.run_pure]; congr 2; rw [Bool.eq_iff_iff]; simp⟩
  case quo => exact ⟨_, h.2, fun hc w => by simp [binOp, Op.intDiv, h.1 hc]⟩
  case rem => exact ⟨_, h.2, fun hc w => by simp [binOp, Op.intDiv, h.1 hc]⟩
  all_goals first
    | exact ⟨undef, h.2, fun hc => by simp [h.1] at hc⟩
    | exact ⟨_, h, fun hc w => by simp [binOp, Op.intArith, Op.intBits, Op.intCmp]; done⟩
    | exact ⟨_, h, fun hc w => by simp [binOp, Op.intArith, Op.intBits, Op.intCmp]; rfl⟩


theorem eqGuard_int {op : BinOp} {t : TypeId} {x y : Operand} {k k' : IntKind} {i j : Int} (w : World) : (eqGuard op t x y (.int k i) (.int k' j)).run P w = .ok () w := by
  unfold eqGuard; split <;> simp
theorem eqGuard_string {op : BinOp} {t : TypeId} {x y : Operand} {i j : ByteArray} (w : World) : (eqGuard op t x y (.string i) (.string j)).run P w = .ok () w := by
  unfold eqGuard; split <;> simp
theorem eqGuard_bool {op : BinOp} {t : TypeId} {x y : Operand} {i j : Bool} (w : World) : (eqGuard op t x y (.bool i) (.bool j)).run P w = .ok () w := by
  unfold eqGuard; split <;> simp

theorem binV_run {c : Bool} {op : BinOp} {x y : Value} {K : Value → Prop} (h : binV c op x y K) (t : TypeId) (ox oy : Operand) :
    ∃ v, K v ∧ (c = true → ∀ w, ((do eqGuard op t ox oy x y; binOp op t x y) : Sem Value).run P w = .ok v w) := by
  unfold binV at h
  split at h
  · rename_i k i k' j
    split at h
    · exact ⟨_, h.2, fun hc w => by have := h.1 hc; simp only [Sem.run_bind, eqGuard_int, Result.andThen_ok]; simp [binOp, Op.shift]; omega⟩
    · exact ⟨_, h.2, fun hc w => by have := h.1 hc; simp only [Sem.run_bind, eqGuard_int, Result.andThen_ok]; simp [binOp, Op.shift]; omega⟩
    · obtain ⟨hkk, h⟩ := h
      obtain ⟨v, hv, hr⟩ := binI_run (P := P) h t
      exact ⟨v, hv, fun hc w => by obtain rfl := hkk hc; simp only [Sem.run_bind, eqGuard_int, Result.andThen_ok, hr hc]⟩
  · rename_i s u
    unfold binS at h
    split at h <;> first
      | exact ⟨undef, h.2, fun hc => by simp [h.1] at hc⟩
      | exact ⟨_, h, fun hc w => by simp only [Sem.run_bind, eqGuard_string, Result.andThen_ok]; simp [binOp, Op.stringOp]⟩
      | exact ⟨_, h.2, fun hc w => by
          have h1 := h.1 hc
          simp only [Sem.run_bind, eqGuard_string, Result.andThen_ok]
          simp only [binOp, Op.stringOp]
          rw [if_neg (by rw [show IntKind.max .i64 = 9223372036854775807 from rfl]; omega)]; rfl⟩
  · exact ⟨undef, h.2, fun hc => by simp [h.1] at hc⟩

theorem equal_bool {t : TypeId} (hu : P.underlying t = some .bool) (i j : Bool) (w : World) : (Op.equal t (.bool i) (.bool j)).run P w = .ok (i == j) w := by
  have h : ∀ d, (Op.equalIn (d + 1) t (.bool i) (.bool j)).run P w = .ok (i == j) w := fun d => by simp [Op.equalIn, run_underlying hu]
  exact h 9999
theorem eqGuard_agg {op : BinOp} {t : TypeId} {x y : Operand} {xs ys : Array Value} (h : P.eqGuardType P.depth t = false) (w : World) : (eqGuard op t x y (.agg xs) (.agg ys)).run P w = .ok () w := by
  have hp : Sem.run P program w = .ok P w := rfl
  unfold eqGuard; split <;> simp [hp, h]
theorem eqGuard_nil {op : BinOp} {t : TypeId} {x y : Operand} {k : Nat} (hy : isNilC k y = true) (v : Value) (w : World) : (eqGuard op t x y v (a.eval y)).run P w = .ok () w := by
  unfold isNilC at hy
  split at hy <;> first
    | (cases hy; done)
    | (cases v <;> simp only [eqGuard, Act.eval] <;> split <;> simp)
/-- A value that can be held against nil, and whether it is nil. -/
inductive NilForm : Nat → Value → Bool → Prop
  | p0 : NilForm 0 (.pointer none) true
  | p1 (a : Addr) : NilForm 0 (.pointer (some a)) false
  | s0 (n c : Nat) : NilForm 1 (.slice none n c) true
  | s1 (a : Addr) (n c : Nat) : NilForm 1 (.slice (some a) n c) false
  | m0 : NilForm 2 (.map none) true
  | m1 (r : Nat) : NilForm 2 (.map (some r)) false
  | f0 : NilForm 3 .nilFunc true
  | f1 (f : Fn) (x y : Array Value) : NilForm 3 (.func f x y) false
  | i0 : NilForm 4 .nilIface true
  | i1 (t : TypeId) (v : Value) : NilForm 4 (.iface t v) false
theorem nilForm {k : Nat} {v : Value} {b : Bool} (h : nilV k v = some b) : NilForm k v b := by
  unfold nilV at h
  split at h <;> simp at h <;> subst h <;> constructor
theorem nilc_form {k : Nat} {y : Operand} (hy : isNilC k y = true) (a : Act) :
    (k = 0 ∧ a.eval y = .pointer none) ∨ (k = 1 ∧ a.eval y = .slice none 0 0) ∨ (k = 2 ∧ a.eval y = .map none) ∨ (k = 3 ∧ a.eval y = .nilFunc) ∨ (k = 4 ∧ a.eval y = .nilIface) := by
  unfold isNilC at hy
  split at hy
  · exact .inl ⟨rfl, rfl⟩
  · exact .inr (.inl ⟨rfl, rfl⟩)
  · exact .inr (.inr (.inl ⟨rfl, rfl⟩))
  · exact .inr (.inr (.inr (.inl ⟨rfl, rfl⟩)))
  · exact .inr (.inr (.inr (.inr ⟨rfl, rfl⟩)))
  · cases hy
theorem niltype_form {t : TypeId} {k : Nat} (h : niltype P t = some k) :
    (k = 0 ∧ ∃ e, P.underlying t = some (.pointer e)) ∨ (k = 1 ∧ ∃ e, P.underlying t = some (.slice e)) ∨ (k = 2 ∧ ∃ e f, P.underlying t = some (.map e f)) ∨
    (k = 3 ∧ ∃ p r v, P.underlying t = some (.func p r v)) ∨ (k = 4 ∧ ∃ ms, P.underlying t = some (.interface ms)) := by
  unfold niltype at h
  split at h <;> rename_i hu <;> simp at h <;> subst h
  · exact .inl ⟨rfl, _, hu⟩
  · exact .inr (.inl ⟨rfl, _, hu⟩)
  · exact .inr (.inr (.inl ⟨rfl, _, _, hu⟩))
  · exact .inr (.inr (.inr (.inl ⟨rfl, _, _, _, hu⟩)))
  · exact .inr (.inr (.inr (.inr ⟨rfl, _, hu⟩)))
theorem equalIn_nil {t : TypeId} {k : Nat} (hk : niltype P t = some k) {y : Operand} (hy : isNilC k y = true) {v : Value} {b : Bool} (hv : NilForm k v b) (a : Act) (w : World) (d : Nat) :
    (Op.equalIn (d + 1) t v (a.eval y)).run P w = .ok b w := by
  rcases niltype_form hk with ⟨rfl, e, hu⟩ | ⟨rfl, e, hu⟩ | ⟨rfl, e, f, hu⟩ | ⟨rfl, p, r, z, hu⟩ | ⟨rfl, ms, hu⟩ <;>
  rcases nilc_form hy a with ⟨h, he⟩ | ⟨h, he⟩ | ⟨h, he⟩ | ⟨h, he⟩ | ⟨h, he⟩ <;> (try (cases h; done)) <;> rw [he] <;>
  cases hv <;> simp only [Op.equalIn, Sem.run_bind, run_underlying hu, Result.andThen_ok] <;> simp
theorem binOp_nil {t : TypeId} {k : Nat} (hk : niltype P t = some k) {y : Operand} (hy : isNilC k y = true) {v : Value} {b : Bool} (hv : nilV k v = some b) (a : Act) (w : World) :
    (binOp .eql t v (a.eval y)).run P w = .ok (.bool b) w ∧ (binOp .neq t v (a.eval y)).run P w = .ok (.bool (!b)) w := by
  have hv' := nilForm hv
  have he : (Op.equal t v (a.eval y)).run P w = .ok b w := equalIn_nil hk hy hv' a w 9999
  rcases nilc_form hy a with ⟨rfl, h⟩ | ⟨rfl, h⟩ | ⟨rfl, h⟩ | ⟨rfl, h⟩ | ⟨rfl, h⟩ <;> rw [h] at he ⊢ <;> cases hv' <;> simp only [binOp, Sem.run_bind, he, Result.andThen_ok, Sem.run_pure, and_self]

theorem fill_mono {p q : Nat → Option (Nat × Nat)} (hpq : ∀ i x, p i = some x → q i = some x) : ∀ (l : List (Nat × Value)) (cells cs : Array Value), Instr.fill p cells l = some cs → Instr.fill q cells l = some cs
  | [], cells, cs, h => h
  | (i, v) :: r, cells, cs, h => by
    simp only [Instr.fill] at h ⊢
    cases hp : p i with
    | none => rw [hp] at h; simp at h
    | some x =>
      rw [hp] at h; rw [hpq i x hp]
      simp only [] at h ⊢
      split at h
      · simp at h
      · rename_i hc; rw [if_neg hc]; exact fill_mono hpq r _ _ h
theorem placesL_run : ∀ (l : List Field) (pl : List (Nat × Nat)), (l.mapM fun f => (szOf P f.type).map fun s => (f.offset, s)) = some pl → ∀ w,
    (l.mapM fun f => (Prod.mk f.offset <$> sizeOf f.type : Sem (Nat × Nat))).run P w = .ok pl w
  | [], pl, h, w => by simp at h; subst h; simp
  | f :: r, pl, h, w => by
    simp only [List.mapM_cons, Option.bind_eq_bind, Option.bind_eq_some_iff, Option.map_eq_some_iff, Option.pure_def, Option.some.injEq] at h
    obtain ⟨x, ⟨s, hs, rfl⟩, ys, hy, rfl⟩ := h
    simp only [List.mapM_cons, Sem.run_bind, Sem.run_map, szOf_run hs, Result.andThen_ok, Sem.run_pure, placesL_run r ys hy w]
theorem places_run {fs : Array Field} {pl : List (Nat × Nat)} (h : (fs.toList.mapM fun f => (szOf P f.type).map fun s => (f.offset, s)) = some pl) (w : World) :
    ∃ ps : Array (Nat × Nat), (fs.mapM fun f => (Prod.mk f.offset <$> sizeOf f.type : Sem (Nat × Nat))).run P w = .ok ps w ∧ ps.toList = pl := by
  refine ⟨pl.toArray, ?_, by simp⟩
  rw [Array.mapM_eq_mapM_toList, Sem.run_map, placesL_run _ _ h w]
  rfl

theorem eqOne_run {f : Field} {k : Nat} (hf : flatKind P f = some k) {x y : Value} {b : Bool} (h : eqOne k x y = some b) (d : Nat) (w : World) : (Op.equalIn (d + 1) f.type x y).run P w = .ok b w := by
  unfold flatKind at hf
  split at hf
  · cases hf
  · split at hf <;> (try (cases hf; done)) <;> rename_i hu <;> simp at hf <;> subst hf <;> unfold eqOne at h <;> split at h <;> (try (cases h; done))
    all_goals first
      | (rename_i hk; cases hk; done)
      | skip
    · split at h
      · rename_i hk
        simp at h; subst h hk
        simp [Op.equalIn, run_underlying hu]
      · cases h
    · simp at h; subst h
      simp [Op.equalIn, run_underlying hu]
    · simp at h; subst h
      simp [Op.equalIn, run_underlying hu]
theorem flat_agg {f : Field} {k : Nat} (hf : flatKind P f = some k) : aggN P f.type = some none := by
  unfold flatKind at hf
  split at hf
  · cases hf
  · split at hf <;> (try (cases hf; done)) <;> rename_i hu <;> simp [aggN, hu]
theorem eq_fields {xs ys : Array Value} (d : Nat) (w : World) : ∀ (l : List Field) {ks : List (Nat × Nat)} {b : Bool}, flatKinds P l = some ks → eqFl ks xs.toList ys.toList = some b →
    (forIn l (none, ()) fun f (_ : Option Bool × Unit) =>
      (if f.name ≠ "_" then do
        if (!(← Op.equalIn (d + 1) f.type (← part f.type xs f.offset) (← part f.type ys f.offset))) = true then pure (ForInStep.done (some false, ())) else pure (ForInStep.yield (none, ()))
      else pure (ForInStep.yield (none, ())) : Sem (ForInStep (Option Bool × Unit)))).run P w = .ok (if b then none else some false, ()) w
  | [], ks, b, hk, h => by simp [flatKinds] at hk; subst hk; simp [eqFl] at h; subst h; simp
  | f :: r, ks, b, hk, h => by
    simp only [flatKinds, List.mapM_cons, Option.bind_eq_bind, Option.bind_eq_some_iff, Option.map_eq_some_iff, Option.pure_def, Option.some.injEq] at hk
    obtain ⟨x, ⟨k, hf, rfl⟩, ks', hr, rfl⟩ := hk
    simp only [eqFl] at h
    split at h
    · rename_i x y hx hy
      split at h
      · rename_i b1 b2 h1 h2
        simp at h; subst h
        have ih := eq_fields d w r hr h2
        have hn : f.name ≠ "_" := fun e => by simp [flatKind, e] at hf
        obtain ⟨vx, hvx, hpx⟩ := part_run (P := P) (c := true) (K := fun v => v = x) (flat_agg hf) (show partV true xs.toList f.offset none (fun v => v = x) by simp [partV, hx])
        obtain ⟨vy, hvy, hpy⟩ := part_run (P := P) (c := true) (K := fun v => v = y) (flat_agg hf) (show partV true ys.toList f.offset none (fun v => v = y) by simp [partV, hy])
        subst hvx hvy
        have he := eqOne_run hf h1 d w
        rw [List.forIn_cons]
        simp only [hn, ne_eq, not_false_eq_true, if_true, Sem.run_bind, hpx rfl w, hpy rfl w, he, Result.andThen_ok]
        cases b1 with
        | true => simpa using ih
        | false => simp
      · cases h
    · cases h
theorem equal_struct {t : TypeId} {fs : Array Field} (hu : P.underlying t = some (.struct fs)) (hs : P.stoodInHeld t = false) {ks : List (Nat × Nat)} (hk : flatKinds P fs.toList = some ks) {xs ys : Array Value} {b : Bool}
    (h : eqFl ks xs.toList ys.toList = some b) (w : World) : (Op.equal t (.agg xs) (.agg ys)).run P w = .ok b w := by
  have hx : ∀ d, (Op.equalIn (d + 1 + 1) t (.agg xs) (.agg ys)).run P w = .ok b w := by
    intro d
    rw [Op.equalIn]
    have hp : Sem.run P program w = .ok P w := rfl
    simp only [Sem.run_bind, run_underlying hu, Result.andThen_ok, hp, hs, Bool.false_eq_true, if_false]
    rw [← Array.forIn_toList, eq_fields d w fs.toList hk h]
    cases b <;> simp
  exact hx 9998

/-- **An operation that touches no memory does what is said of it, in whatever world.** -/
theorem still_run {c : Bool} {o : Oper} {s r : ROp} (hr : rbStill P o.op s = some r) (hf : FrOk nt fr a) {K : Value → Prop} (h : stillP P fr c K r) :
    ∃ v, K v ∧ (c = true → ∀ w, (execOp a.eval o).run P w = .ok (.value v) w) := by
  obtain ⟨dst, op, type, pos, after, guard⟩ := o
  simp only at hr
  cases op <;> simp only [rbStill] at hr <;> (try (cases hr; done))
  case move x =>
    simp at hr; subst hr
    obtain ⟨v, hv, hk⟩ := with1_iff h
    exact ⟨v, hk, fun hc w => by simp [execOp, opd_eval hf x (hv hc)]⟩
  case assign x =>
    simp at hr; subst hr
    obtain ⟨v, hv, hk⟩ := with1_iff h
    exact ⟨v, hk, fun hc w => by simp [execOp, opd_eval hf x (hv hc)]⟩
  case pick t x y =>
    simp at hr; subst hr
    obtain ⟨v, hv, hk⟩ := with1_iff h
    split at hk
    · rename_i b
      obtain ⟨va, ha, hk⟩ := with1_iff hk
      obtain ⟨vb, hb, hk⟩ := with1_iff hk
      refine ⟨_, hk, fun hc w => ?_⟩
      simp only [execOp, opd_eval hf t (hv hc), asBool, Sem.run_bind, Sem.run_pure, Result.andThen_ok]
      cases b with
      | true => simp [opd_eval hf x (ha (by simp [hc]))]
      | false => simp [opd_eval hf y (hb (by simp [hc]))]
    · exact ⟨undef, hk.2, fun hc => by simp [hk.1] at hc⟩
  case fieldAddr t x f =>
    split at hr
    · rename_i fl hfl
      split at hr
      · simp at hr
      · rename_i hz
        simp at hr; subst hr
        obtain ⟨v, hv, hk⟩ := with1_iff h
        split at hk
        · rename_i b o
          refine ⟨_, hk, fun hc w => ?_⟩
          unfold fieldOf at hfl
          split at hfl
          · rename_i fs hu
            obtain ⟨n, hn⟩ : ∃ n, szOf P fl.type = some (n + 1) := by
              cases hs : szOf P fl.type with
              | none => simp [hs] at hz
              | some m => cases m with
                | zero => simp [hs] at hz
                | succ m => exact ⟨m, rfl⟩
            simp [execOp, Instr.fieldAt, opd_eval hf x (hv hc), run_underlying hu, hfl, Instr.sureAddr, fieldPlace, szOf_run hn, Addr.add]
          · simp at hfl
        · exact ⟨undef, hk.2, fun hc => by simp [hk.1] at hc⟩
    · simp at hr
  case nilCheck x =>
    simp at hr; subst hr
    obtain ⟨v, hv, hk⟩ := with1_iff h
    split at hk
    · exact ⟨_, hk, fun hc w => by simp [execOp, opd_eval hf x (hv hc)]⟩
    · exact ⟨_, hk, fun hc w => by simp [execOp, opd_eval hf x (hv hc)]⟩
    · exact ⟨_, hk, fun hc w => by simp [execOp, opd_eval hf x (hv hc)]⟩
    · rename_i name first cap
      obtain ⟨hfn, hk⟩ := hk
      refine ⟨_, hk, fun hc w => ?_⟩
      obtain ⟨t, u, hfi, hn⟩ := hfn hc
      simp only [execOp, opd_eval hf x (hv hc), hfi]
      simp [hn w]
    · exact ⟨undef, hk.2, fun hc => by simp [hk.1] at hc⟩
  case binOp op t x y yt =>
    split at hr
    · split at hr
      · rename_i k _ hk0
        split at hr
        · rename_i hy
          simp at hr; subst hr
          obtain ⟨v, hv, hk⟩ := with1_iff h
          split at hk
          · rename_i b hb
            refine ⟨_, hk, fun hc w => ?_⟩
            simp only [execOp, opd_eval hf x (hv hc), Sem.run_bind, eqGuard_nil hy, Result.andThen_ok, (binOp_nil hk0 hy hb a w).1, Sem.run_pure]
            cases b <;> rfl
          · exact ⟨undef, hk.2, fun hc => by simp [hk.1] at hc⟩
        · simp at hr
      · rename_i k _ hk0
        split at hr
        · rename_i hy
          simp at hr; subst hr
          obtain ⟨v, hv, hk⟩ := with1_iff h
          split at hk
          · rename_i b hb
            refine ⟨_, hk, fun hc w => ?_⟩
            simp only [execOp, opd_eval hf x (hv hc), Sem.run_bind, eqGuard_nil hy, Result.andThen_ok, (binOp_nil hk0 hy hb a w).2, Sem.run_pure]
            cases b <;> rfl
          · exact ⟨undef, hk.2, fun hc => by simp [hk.1] at hc⟩
        · simp at hr
      · simp at hr
    · split at hr
      · rename_i fs hu
        split at hr
        · rename_i ks h1 h2 hk
          simp at hr; subst hr
          obtain ⟨v, hv, hkk⟩ := with1_iff h
          obtain ⟨u, hu', hkk⟩ := with1_iff hkk
          split at hkk
          · split at hkk
            · rename_i b hb
              refine ⟨_, hkk, fun hc w => ?_⟩
              simp only [execOp, opd_eval hf x (hv hc), opd_eval hf y (hu' hc), Sem.run_bind, eqGuard_agg h2, Result.andThen_ok, binOp, equal_struct hu h1 hk hb, Sem.run_pure]
              cases b <;> rfl
            · exact ⟨undef, hkk.2, fun hc => by simp [hkk.1] at hc⟩
          · exact ⟨undef, hkk.2, fun hc => by simp [hkk.1] at hc⟩
        · cases hr
      · rename_i fs hu
        split at hr
        · rename_i ks h1 h2 hk
          simp at hr; subst hr
          obtain ⟨v, hv, hkk⟩ := with1_iff h
          obtain ⟨u, hu', hkk⟩ := with1_iff hkk
          split at hkk
          · split at hkk
            · rename_i b hb
              refine ⟨_, hkk, fun hc w => ?_⟩
              simp only [execOp, opd_eval hf x (hv hc), opd_eval hf y (hu' hc), Sem.run_bind, eqGuard_agg h2, Result.andThen_ok, binOp, equal_struct hu h1 hk hb, Sem.run_pure]
              cases b <;> rfl
            · exact ⟨undef, hkk.2, fun hc => by simp [hkk.1] at hc⟩
          · exact ⟨undef, hkk.2, fun hc => by simp [hkk.1] at hc⟩
        · cases hr
      · cases hr
    · split at hr
      · rename_i hu
        simp at hr; subst hr
        obtain ⟨v, hv, hk⟩ := with1_iff h
        obtain ⟨u, hu', hk⟩ := with1_iff hk
        split at hk
        · rename_i i j
          refine ⟨_, hk, fun hc w => ?_⟩
          simp only [execOp, opd_eval hf x (hv hc), opd_eval hf y (hu' hc), Sem.run_bind, eqGuard_bool, Result.andThen_ok]
          simp [binOp, equal_bool hu]
        · exact ⟨undef, hk.2, fun hc => by simp [hk.1] at hc⟩
      · rename_i hu
        simp at hr; subst hr
        obtain ⟨v, hv, hk⟩ := with1_iff h
        obtain ⟨u, hu', hk⟩ := with1_iff hk
        split at hk
        · rename_i i j
          refine ⟨_, hk, fun hc w => ?_⟩
          simp only [execOp, opd_eval hf x (hv hc), opd_eval hf y (hu' hc), Sem.run_bind, eqGuard_bool, Result.andThen_ok]
          simp [binOp, equal_bool hu]
        · exact ⟨undef, hk.2, fun hc => by simp [hk.1] at hc⟩
      · simp at hr
    · split at hr
      · simp at hr; subst hr
        obtain ⟨v, hv, hk⟩ := with1_iff h
        obtain ⟨u, hu', hk⟩ := with1_iff hk
        obtain ⟨v', hk', hrun⟩ := binV_run (P := P) hk t x y
        refine ⟨v', hk', fun hc w => ?_⟩
        have := hrun hc w
        simp only [Sem.run_bind] at this
        simp only [execOp, opd_eval hf x (hv hc), opd_eval hf y (hu' hc), Sem.run_bind, this, Result.andThen_ok, Sem.run_pure]
      · simp at hr
  case unOp op t x =>
    simp at hr; subst hr
    obtain ⟨v, hv, hk⟩ := with1_iff h
    split at hk
    · exact ⟨_, hk, fun hc w => by simp [execOp, opd_eval hf x (hv hc), Op.unary, Op.intArith]⟩
    · exact ⟨_, hk, fun hc w => by simp [execOp, opd_eval hf x (hv hc), Op.unary, Op.intBits]⟩
    · exact ⟨_, hk, fun hc w => by simp [execOp, opd_eval hf x (hv hc), Op.unary]⟩
    · exact ⟨undef, hk.2, fun hc => by simp [hk.1] at hc⟩
  case convert src dst x =>
    split at hr
    · rename_i k1 k2 h1 h2
      simp at hr; subst hr
      obtain ⟨v, hv, hk⟩ := with1_iff h
      split at hk
      · exact ⟨_, hk, fun hc w => by simp [execOp, opd_eval hf x (hv hc), convert, run_underlying h1, run_underlying h2, Conv.intToInt]⟩
      · exact ⟨undef, hk.2, fun hc => by simp [hk.1] at hc⟩
    · rename_i h1 h2
      simp at hr; subst hr
      obtain ⟨v, hv, hk⟩ := with1_iff h
      split at hk
      · exact ⟨_, hk, fun hc w => by simp [execOp, opd_eval hf x (hv hc), convert, run_underlying h1, run_underlying h2]⟩
      · exact ⟨undef, hk.2, fun hc => by simp [hk.1] at hc⟩
    · simp at hr
  case makeInterface t x =>
    have hmk : ∀ w, (Instr.makeInterface t (a.eval x)).run P w = .ok (.iface t (a.eval x)) w ∧ r = .mki t (opd x) := by
      intro w
      split at hr
      · simp at hr
      · simp at hr
      · rename_i d h1 h2
        simp at hr
        cases hd : P.underlying t with
        | none => exact absurd hd h2
        | some d =>
          refine ⟨?_, hr.symm⟩
          cases d <;> first | (exact absurd hd (h1 _)) | simp [Instr.makeInterface, run_underlying hd]
    obtain rfl := (hmk default).2
    obtain ⟨v, hv, hk⟩ := with1_iff h
    refine ⟨_, hk, fun hc w => ?_⟩
    have := (hmk w).1
    rw [opd_eval hf x (hv hc)] at this
    simp [execOp, opd_eval hf x (hv hc), this]
  case makeFunc fn first cap =>
    simp at hr; subst hr
    obtain ⟨vs, hv, hk⟩ := withs_iff h
    obtain ⟨us, hu, hk⟩ := withs_iff hk
    refine ⟨_, hk, fun hc w => ?_⟩
    have e1 : first.map a.eval = vs.toArray := by apply Array.ext'; simpa using opds_eval hf _ (hv hc)
    have e2 : cap.map a.eval = us.toArray := by apply Array.ext'; simpa using opds_eval hf _ (hu hc)
    simp [execOp, Instr.makeFunc, e1, e2]
  case field t x f =>
    split at hr
    · rename_i fl hfl
      simp only [Option.map_eq_some_iff] at hr
      obtain ⟨n, hn, rfl⟩ := hr
      obtain ⟨v, hv, hk⟩ := with1_iff h
      split at hk
      · rename_i cs
        obtain ⟨u, hk, hrun⟩ := part_run hn hk
        refine ⟨u, hk, fun hc w => ?_⟩
        unfold fieldOf at hfl
        split at hfl
        · rename_i fs hu
          simp [execOp, Instr.field, opd_eval hf x (hv hc), run_underlying hu, hfl, asAgg, hrun hc w]
        · simp at hfl
      · exact ⟨undef, hk.2, fun hc => by simp [hk.1] at hc⟩
    · simp at hr
  case indexAddr t x i =>
    split at hr
    · rename_i e hu
      simp only [Option.map_eq_some_iff] at hr
      obtain ⟨n, hn, rfl⟩ := hr
      obtain ⟨v, hv, hk⟩ := with1_iff h
      obtain ⟨u, hi, hk⟩ := with1_iff hk
      split at hk
      · obtain ⟨h01, hk⟩ := hk
        split at hk
        · rename_i b o
          refine ⟨_, hk, fun hc w => ?_⟩
          obtain ⟨h0, h1⟩ := h01 hc
          simp [execOp, Instr.indexAt, opd_eval hf x (hv hc), opd_eval hf i (hi hc), asIntOf, run_underlying hu, h0, h1, szOf_run hn, Addr.add]
        · exact ⟨undef, hk.2, fun hc => by simp [hk.1] at hc⟩
      · exact ⟨undef, hk.2, fun hc => by simp [hk.1] at hc⟩
    · rename_i m e hu
      simp only [Option.map_eq_some_iff] at hr
      obtain ⟨n, hn, rfl⟩ := hr
      obtain ⟨v, hv, hk⟩ := with1_iff h
      obtain ⟨u, hi, hk⟩ := with1_iff hk
      split at hk
      · obtain ⟨h01, hk⟩ := hk
        refine ⟨_, hk, fun hc w => ?_⟩
        obtain ⟨h0, h1⟩ := h01 hc
        simp [execOp, Instr.indexAt, opd_eval hf x (hv hc), opd_eval hf i (hi hc), asIntOf, run_underlying hu, h0, h1, szOf_run hn, Addr.add, Instr.sureAddr]
      · exact ⟨undef, hk.2, fun hc => by simp [hk.1] at hc⟩
    · simp at hr
  case index t x i =>
    split at hr
    · rename_i hu
      simp at hr; subst hr
      obtain ⟨v, hv, hk⟩ := with1_iff h
      obtain ⟨u, hi, hk⟩ := with1_iff hk
      split at hk
      · rename_i s _ j _
        obtain ⟨h01, hk⟩ := hk
        refine ⟨_, hk, fun hc w => ?_⟩
        obtain ⟨h0, h1⟩ := h01 hc
        have hlt : j.toNat < s.size := by omega
        have hs : s[j.toNat]? = some s[j.toNat] := getElem?_pos s j.toNat hlt
        simp [execOp, Instr.index, opd_eval hf x (hv hc), opd_eval hf i (hi hc), asIntOf, run_underlying hu, h0, hs, sAt]
      · exact ⟨undef, hk.2, fun hc => by simp [hk.1] at hc⟩
    · rename_i m e hu
      split at hr
      · rename_i sz n hs hn
        simp at hr; subst hr
        obtain ⟨v, hv, hk⟩ := with1_iff h
        obtain ⟨u, hi, hk⟩ := with1_iff hk
        split at hk
        · obtain ⟨h01, hk⟩ := hk
          obtain ⟨v', hk, hrun⟩ := part_run hn hk
          refine ⟨_, hk, fun hc w => ?_⟩
          obtain ⟨h0, h1⟩ := h01 hc
          simp [execOp, Instr.index, opd_eval hf x (hv hc), opd_eval hf i (hi hc), asIntOf, run_underlying hu, h0, h1, szOf_run hs, hrun hc w]
        · exact ⟨undef, hk.2, fun hc => by simp [hk.1] at hc⟩
      · simp at hr
    · simp at hr
  case extract x i =>
    simp at hr; subst hr
    obtain ⟨v, hv, hk⟩ := with1_iff h
    split at hk
    · rename_i vs
      split at hk
      · rename_i u hu
        have hu' : vs[i]? = some u := by simpa using hu
        exact ⟨_, hk, fun hc w => by simp [execOp, opd_eval hf x (hv hc), Instr.extract, hu']⟩
      · exact ⟨undef, hk.2, fun hc => by simp [hk.1] at hc⟩
    · exact ⟨undef, hk.2, fun hc => by simp [hk.1] at hc⟩
  case typeAssert x xt t ok =>
    split at hr
    · rename_i k z hu hz
      simp at hr; subst hr
      obtain ⟨v, hv, hk⟩ := with1_iff h
      simp only [Option.bind_eq_some_iff] at hz
      obtain ⟨i, hi, hz⟩ := hz
      split at hk
      · exact ⟨_, hk, fun hc w => by simp [execOp, opd_eval hf x (hv hc), Instr.typeAssert, run_underlying hu, zeroValue, typeInfo, hi, hz]⟩
      · rename_i u y
        split at hk
        · rename_i e
          exact ⟨_, hk, fun hc w => by simp [execOp, opd_eval hf x (hv hc), Instr.typeAssert, run_underlying hu, e]⟩
        · rename_i e
          exact ⟨_, hk, fun hc w => by simp [execOp, opd_eval hf x (hv hc), Instr.typeAssert, run_underlying hu, e, zeroValue, typeInfo, hi, hz]⟩
      · exact ⟨undef, hk.2, fun hc => by simp [hk.1] at hc⟩
    · rename_i k z hu hz
      simp at hr; subst hr
      obtain ⟨v, hv, hk⟩ := with1_iff h
      simp only [Option.bind_eq_some_iff] at hz
      obtain ⟨i, hi, hz⟩ := hz
      split at hk
      · exact ⟨_, hk, fun hc w => by simp [execOp, opd_eval hf x (hv hc), Instr.typeAssert, run_underlying hu, zeroValue, typeInfo, hi, hz]⟩
      · rename_i u y
        split at hk
        · rename_i e
          exact ⟨_, hk, fun hc w => by simp [execOp, opd_eval hf x (hv hc), Instr.typeAssert, run_underlying hu, e]⟩
        · rename_i e
          exact ⟨_, hk, fun hc w => by simp [execOp, opd_eval hf x (hv hc), Instr.typeAssert, run_underlying hu, e, zeroValue, typeInfo, hi, hz]⟩
      · exact ⟨undef, hk.2, fun hc => by simp [hk.1] at hc⟩
    · simp at hr
  case slice t x lo hi mx =>
    split at hr
    · rename_i e hu
      split at hr
      · simp at hr
      · rename_i hmh
        simp only [Option.map_eq_some_iff] at hr
        obtain ⟨n, hn, rfl⟩ := hr
        obtain ⟨v, hv, hk⟩ := with1_iff h
        split at hk
        · rename_i A len cap
          have key : ∃ l hh m, (c = true → ∀ w, (Instr.sliceBounds true len cap (lo.map a.eval) (hi.map a.eval) (mx.map a.eval)).run P w = .ok (l, hh, m) w) ∧
              K (.slice (if m = l then A else A.map (·.add (l * n))) (hh - l) (m - l)) := by
            clear h hv
            rcases boundO_iff hk with ⟨hm, hk1⟩ | ⟨o, u, hm, hu', hk1⟩ <;> clear hk
            · have hm' : mx = none := Option.map_eq_none_iff.1 hm
              clear hm
              subst hm'
              rcases boundO_iff hk1 with ⟨hh, hk2⟩ | ⟨o, u, hh, hu', hk2⟩ <;> clear hk1
              · have hh' : hi = none := Option.map_eq_none_iff.1 hh
                clear hh
                subst hh'
                rcases boundO_iff hk2 with ⟨hl, hk3⟩ | ⟨o, u, hl, hu', hk3⟩ <;> clear hk2
                · have hl' : lo = none := Option.map_eq_none_iff.1 hl
                  subst hl'
                  exact ⟨0, len, cap, fun hc w => by simp [Instr.sliceBounds], hk3⟩
                · obtain ⟨lo', rfl, rfl⟩ := Option.map_eq_some_iff.1 hl
                  obtain ⟨l, hk, hb⟩ := bound_run (P := P) hk3 .sliceB
                  exact ⟨l, len, cap, fun hc w => by simp [Instr.sliceBounds, opd_eval hf lo' (hu' hc), hb hc w], hk⟩
              · obtain ⟨hi', rfl, rfl⟩ := Option.map_eq_some_iff.1 hh
                obtain ⟨h', hk, hb⟩ := bound_run (P := P) hk2 .sliceAcap
                rcases boundO_iff hk with ⟨hl, hk3⟩ | ⟨o, u, hl, hu'', hk3⟩ <;> clear hk
                · have hl' : lo = none := Option.map_eq_none_iff.1 hl
                  subst hl'
                  exact ⟨0, h', cap, fun hc w => by simp [Instr.sliceBounds, opd_eval hf hi' (hu' hc), hb hc w], hk3⟩
                · obtain ⟨lo', rfl, rfl⟩ := Option.map_eq_some_iff.1 hl
                  obtain ⟨l, hk, hb'⟩ := bound_run (P := P) hk3 .sliceB
                  exact ⟨l, h', cap, fun hc w => by simp [Instr.sliceBounds, opd_eval hf hi' (hu' hc), hb hc w, opd_eval hf lo' (hu'' hc), hb' hc w], hk⟩
            · obtain ⟨mx', rfl, rfl⟩ := Option.map_eq_some_iff.1 hm
              obtain ⟨m, hk, hbm⟩ := bound_run (P := P) hk1 .slice3Acap
              rcases boundO_iff hk with ⟨hh, hk2⟩ | ⟨o, u, hh, hu'', hk2⟩ <;> clear hk
              · exact absurd (Option.map_eq_none_iff.1 hh) (by simpa using hmh)
              · obtain ⟨hi', rfl, rfl⟩ := Option.map_eq_some_iff.1 hh
                obtain ⟨h', hk, hb⟩ := bound_run (P := P) hk2 .slice3B
                rcases boundO_iff hk with ⟨hl, hk3⟩ | ⟨o, u, hl, hu3, hk3⟩ <;> clear hk
                · have hl' : lo = none := Option.map_eq_none_iff.1 hl
                  subst hl'
                  exact ⟨0, h', m, fun hc w => by simp [Instr.sliceBounds, opd_eval hf mx' (hu' hc), hbm hc w, opd_eval hf hi' (hu'' hc), hb hc w], hk3⟩
                · obtain ⟨lo', rfl, rfl⟩ := Option.map_eq_some_iff.1 hl
                  obtain ⟨l, hk, hb'⟩ := bound_run (P := P) hk3 .slice3C
                  exact ⟨l, h', m, fun hc w => by simp [Instr.sliceBounds, opd_eval hf mx' (hu' hc), hbm hc w, opd_eval hf hi' (hu'' hc), hb hc w, opd_eval hf lo' (hu3 hc), hb' hc w], hk⟩
          obtain ⟨l, hh, m, hb, hk⟩ := key
          exact ⟨_, hk, fun hc w => by simp [execOp, Instr.sliceAt, Instr.slice, run_underlying hu, opd_eval hf x (hv hc), hb hc w, szOf_run hn]⟩
        · exact ⟨undef, hk.2, fun hc => by simp [hk.1] at hc⟩
    · rename_i hu
      split at hr
      · simp at hr
      · rename_i hm
        have hm' : mx = none := by simpa using hm
        subst hm'
        simp at hr; subst hr
        obtain ⟨v, hv, hk⟩ := with1_iff h
        split at hk
        · rename_i s
          have key : ∃ l hh m, (c = true → ∀ w, (Instr.sliceBounds false s.size s.size (lo.map a.eval) (hi.map a.eval) none).run P w = .ok (l, hh, m) w) ∧ K (.string (s.extract l hh)) := by
            clear h hv
            rcases boundO_iff hk with ⟨hh, hk2⟩ | ⟨o, u, hh, hu', hk2⟩ <;> clear hk
            · have hh' : hi = none := Option.map_eq_none_iff.1 hh
              clear hh
              subst hh'
              rcases boundO_iff hk2 with ⟨hl, hk3⟩ | ⟨o, u, hl, hu', hk3⟩ <;> clear hk2
              · have hl' : lo = none := Option.map_eq_none_iff.1 hl
                subst hl'
                exact ⟨0, _, s.size, fun hc w => by simp [Instr.sliceBounds], hk3⟩
              · obtain ⟨lo', rfl, rfl⟩ := Option.map_eq_some_iff.1 hl
                obtain ⟨l, hk, hb⟩ := bound_run (P := P) hk3 .sliceB
                exact ⟨l, _, s.size, fun hc w => by simp [Instr.sliceBounds, opd_eval hf lo' (hu' hc), hb hc w], hk⟩
            · obtain ⟨hi', rfl, rfl⟩ := Option.map_eq_some_iff.1 hh
              obtain ⟨h', hk, hb⟩ := bound_run (P := P) hk2 .sliceAlen
              rcases boundO_iff hk with ⟨hl, hk3⟩ | ⟨o, u, hl, hu'', hk3⟩ <;> clear hk
              · have hl' : lo = none := Option.map_eq_none_iff.1 hl
                subst hl'
                exact ⟨0, h', s.size, fun hc w => by simp [Instr.sliceBounds, opd_eval hf hi' (hu' hc), hb hc w], hk3⟩
              · obtain ⟨lo', rfl, rfl⟩ := Option.map_eq_some_iff.1 hl
                obtain ⟨l, hk, hb'⟩ := bound_run (P := P) hk3 .sliceB
                exact ⟨l, h', s.size, fun hc w => by simp [Instr.sliceBounds, opd_eval hf hi' (hu' hc), hb hc w, opd_eval hf lo' (hu'' hc), hb' hc w], hk⟩
          obtain ⟨l, hh, m, hb, hk⟩ := key
          exact ⟨_, hk, fun hc w => by simp [execOp, Instr.sliceAt, Instr.slice, run_underlying hu, opd_eval hf x (hv hc), hb hc w]⟩
        · exact ⟨undef, hk.2, fun hc => by simp [hk.1] at hc⟩
    · simp at hr
  case build t parts =>
    split at hr
    · rename_i zs pl hz hp
      simp at hr; subst hr
      obtain ⟨vs, hv, hk⟩ := withs_iff h
      split at hk
      · rename_i cs hfc
        refine ⟨_, hk, fun hc w => ?_⟩
        have e1 : parts.toList.map (fun (x : Nat × Operand) => (x.1, a.eval x.2)) = (List.map (fun p => p.1) parts.toList).zip vs := by
          have h1 := opds_eval hf (parts.toList.map (·.2)) (vs := vs) (by simpa [List.map_map, Function.comp_def] using hv hc)
          subst h1
          generalize parts.toList = l
          induction l with
          | nil => rfl
          | cons x r ih => simp only [List.map_cons, List.zip_cons_cons, ih]
        have e2 : List.map (fun x => x.1) (List.map (fun (p : Nat × Operand) => (p.1, opd p.2)) parts.toList) = List.map (fun p => p.1) parts.toList := by simp [List.map_map, Function.comp_def]
        rw [e2] at hfc
        obtain ⟨z, hz1, hz2⟩ : ∃ z, (zeroValue t).run P w = .ok z w ∧ z.cells.toList = zs := by
          simp only [zeroOf, Option.map_eq_some_iff, Option.bind_eq_some_iff] at hz
          obtain ⟨z, ⟨i, hi, hz⟩, rfl⟩ := hz
          exact ⟨z, by simp [zeroValue, typeInfo, hi, hz], rfl⟩
        have hz3 : z.cells = zs.toArray := by apply Array.ext'; simpa using hz2
        unfold places at hp
        split at hp
        · rename_i fs hu
          obtain ⟨ps, hp1, hp2⟩ := places_run hp w
          have hf2 := fill_mono (q := (ps[·]?)) (fun i x hx => by rw [← hp2] at hx; simpa using hx) _ _ _ hfc
          simp [execOp, Instr.build, hz1, hz3, run_underlying hu, hp1, e1, hf2]
        · rename_i n e hu
          simp only [Option.map_eq_some_iff] at hp
          obtain ⟨sz, hs, rfl⟩ := hp
          have hf2 := fill_mono (q := fun i => some (i * sz, sz)) (fun i x hx => by
            rw [List.getElem?_map] at hx
            simp only [Option.map_eq_some_iff] at hx
            obtain ⟨j, hj, rfl⟩ := hx
            have := List.getElem?_eq_some_iff.1 hj
            obtain ⟨_, h2⟩ := this
            simp at h2; subst h2; rfl) _ _ _ hfc
          simp [execOp, Instr.build, hz1, hz3, run_underlying hu, szOf_run hs, e1, hf2]
        · simp at hp
      · exact ⟨undef, hk.2, fun hc => by simp [hk.1] at hc⟩
    · simp at hr
  case call cc =>
    obtain ⟨callee, args, argTypes⟩ := cc
    cases callee with
    | value f => simp at hr
    | invoke f n => simp at hr
    | builtin b =>
      cases b <;> simp only [] at hr <;> (try (simp at hr; done))
      case len =>
        split at hr
        · rename_i x t hx ht
          have hx' : args = #[x] := by apply Array.ext'; simpa using hx
          have ht' : argTypes = #[t] := by apply Array.ext'; simpa using ht
          subst hx' ht'
          split at hr
          · rename_i e hu
            simp at hr; subst hr
            obtain ⟨v, hv, hk⟩ := with1_iff h
            split at hk
            · exact ⟨_, hk, fun hc w => by simp [execOp, resolve, invoke, builtin, Builtin.len_, opd_eval hf x (hv hc), run_underlying hu, goInt]⟩
            · exact ⟨undef, hk.2, fun hc => by simp [hk.1] at hc⟩
          · rename_i hu
            simp at hr; subst hr
            obtain ⟨v, hv, hk⟩ := with1_iff h
            split at hk
            · exact ⟨_, hk, fun hc w => by simp [execOp, resolve, invoke, builtin, Builtin.len_, opd_eval hf x (hv hc), run_underlying hu, goInt]⟩
            · exact ⟨undef, hk.2, fun hc => by simp [hk.1] at hc⟩
          · simp at hr
        · simp at hr
      case cap =>
        split at hr
        · rename_i x t hx ht
          have hx' : args = #[x] := by apply Array.ext'; simpa using hx
          have ht' : argTypes = #[t] := by apply Array.ext'; simpa using ht
          subst hx' ht'
          split at hr
          · rename_i e hu
            simp at hr; subst hr
            obtain ⟨v, hv, hk⟩ := with1_iff h
            split at hk
            · exact ⟨_, hk, fun hc w => by simp [execOp, resolve, invoke, builtin, Builtin.cap_, opd_eval hf x (hv hc), run_underlying hu, goInt]⟩
            · exact ⟨undef, hk.2, fun hc => by simp [hk.1] at hc⟩
          · simp at hr
        · simp at hr
      case max =>
        split at hr
        · rename_i x y hx
          have hx' : args = #[x, y] := by apply Array.ext'; simpa using hx
          subst hx'
          simp at hr; subst hr
          obtain ⟨v, hv, hk⟩ := with1_iff h
          obtain ⟨u, hu, hk⟩ := with1_iff hk
          split at hk
          · refine ⟨_, hk, fun hc w => ?_⟩
            simp [execOp, resolve, invoke, builtin, Builtin.max_, Builtin.max2, opd_eval hf x (hv hc), opd_eval hf y (hu hc)]
          · exact ⟨undef, hk.2, fun hc => by simp [hk.1] at hc⟩
        · simp at hr
      case min =>
        split at hr
        · rename_i x y hx
          have hx' : args = #[x, y] := by apply Array.ext'; simpa using hx
          subst hx'
          simp at hr; subst hr
          obtain ⟨v, hv, hk⟩ := with1_iff h
          obtain ⟨u, hu, hk⟩ := with1_iff hk
          split at hk
          · refine ⟨_, hk, fun hc w => ?_⟩
            simp [execOp, resolve, invoke, builtin, Builtin.min_, Builtin.min2, opd_eval hf x (hv hc), opd_eval hf y (hu hc)]
          · exact ⟨undef, hk.2, fun hc => by simp [hk.1] at hc⟩
        · simp at hr
end
end Go.Gv
