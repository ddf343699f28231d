/-
  The ground of a small program logic over the given model: what is known of memory while a function runs. No condition.
  A state is: the temporaries that are known (Fr); cells that are settled and never written again (GH); a list of blocks that belong to this run alone (Mem).
-/
import Derived.WalkKit
import Derived.Orders
import Derived.KernelRfl
namespace Go.Gv
open Go.RowKit

/-- An operand: a temporary, or a value. -/
inductive Opd where
  | t (n : Nat)
  | c (v : Value)

/-- A value that hangs on a test. -/
def vite (b : Bool) (x y : Value) : Value := if b then x else y
@[simp] theorem vite_true (x y : Value) : vite true x y = x := rfl
@[simp] theorem vite_false (x y : Value) : vite false x y = y := rfl
@[simp] theorem vite_same (x : Bool) (v : Value) : vite x v v = v := by cases x <;> rfl
theorem vite_or (x y : Bool) : vite x (.bool true) (.bool y) = .bool (x || y) := by cases x <;> rfl
theorem vite_and (x y : Bool) : vite x (.bool y) (.bool false) = .bool (x && y) := by cases x <;> rfl
@[simp] theorem vite_bools (x y z : Bool) : vite x (.bool y) (.bool z) = .bool (if x then y else z) := by cases x <;> rfl

/-- The temporaries that are known: the value, if the test holds, and nothing, if not. -/
abbrev Fr := List (Nat × Bool × Value)
def Fr.get : Fr → Nat → Option (Bool × Value)
  | [], _ => none
  | (m, v) :: r, n => if n = m then some v else Fr.get r n
def ev (fr : Fr) : Opd → Option (Bool × Value)
  | .t n => fr.get n
  | .c v => some (true, v)
def Fr.put (fr : Fr) (d : Option Nat) (g : Bool) (v : Value) : Fr :=
  match d with
  | some n => (n, g, v) :: fr
  | none => fr
def Fr.keep (fr : Fr) : List Nat → Fr
  | [] => []
  | n :: r => match fr.get n with
    | some v => (n, v) :: fr.keep r
    | none => fr.keep r

/-- The temporaries of a running function are as known. -/
structure FrOk (nt : Nat) (fr : Fr) (a : Act) : Prop where
  size : a.tmps.size = nt
  val : ∀ n g v, fr.get n = some (g, v) → a.tmps[n]? = some (vite g v undef)

theorem FrOk.eval {nt : Nat} {fr : Fr} {a : Act} (h : FrOk nt fr a) {n : Nat} {v : Value} (hv : fr.get n = some (true, v)) : a.eval (.tmp n) = v := by
  simp [Act.eval, h.val n _ v hv]

theorem FrOk.put {nt : Nat} {fr : Fr} {a : Act} (h : FrOk nt fr a) {d : Option Nat} (hd : ∀ n, d = some n → n < nt) (g : Bool) (v : Value) : FrOk nt (fr.put d g v) (a.put d (vite g v undef)) := by
  cases d with
  | none => exact h
  | some n =>
    refine ⟨by simp [Act.put, h.size], fun m g' u hu => ?_⟩
    have hn := hd n rfl
    simp only [Fr.put, Fr.get] at hu
    simp only [Act.put, Array.getElem?_setIfInBounds]
    by_cases e : m = n
    · subst e; simp at hu; obtain ⟨rfl, rfl⟩ := hu; simp [h.size, hn]
    · rw [if_neg e] at hu
      rw [if_neg (fun e' => e e'.symm)]
      exact h.val m g' u hu

theorem Fr.get_keep (fr : Fr) : ∀ (l : List Nat) (n : Nat) (v : Bool × Value), (fr.keep l).get n = some v → fr.get n = some v
  | [], n, v, h => by simp [Fr.keep, Fr.get] at h
  | m :: r, n, v, h => by
    simp only [Fr.keep] at h
    cases hm : fr.get m with
    | none => rw [hm] at h; exact Fr.get_keep fr r n v h
    | some u =>
      rw [hm] at h
      simp only [Fr.get] at h
      by_cases e : n = m
      · subst e; simp at h; subst h; exact hm
      · rw [if_neg e] at h; exact Fr.get_keep fr r n v h

theorem FrOk.keep {nt : Nat} {fr : Fr} {a : Act} (h : FrOk nt fr a) (l : List Nat) : FrOk nt (fr.keep l) a :=
  ⟨h.size, fun n g v hv => h.val n g v (Fr.get_keep fr l n _ hv)⟩

theorem FrOk.defers {nt : Nat} {fr : Fr} {a : Act} (h : FrOk nt fr a) (ds : List Deferred) : FrOk nt fr { a with defers := ds } := ⟨h.size, h.val⟩

/-- The settled cells. -/
abbrev GH := Nat → Nat → Option Value
def GLe (G G' : GH) : Prop := ∀ b o v, G b o = some v → G' b o = some v
theorem GLe.refl (G : GH) : GLe G G := fun _ _ _ h => h
theorem GLe.trans {G G' G'' : GH} (h : GLe G G') (h' : GLe G' G'') : GLe G G'' := fun b o v hv => h' b o v (h b o v hv)

/-- A block that belongs to this run alone. -/
inductive Ent where
  | var (b : Nat) (e : TypeId) (cs : List Value)
  | tip (b : Nat) (e : TypeId) (n size : Nat)
  | map (b : Nat) (es : List MapEntry) (ck : Nat)
def Ent.blk : Ent → Nat
  | .var b .. | .tip b .. | .map b .. => b
abbrev Mem := List (Nat × List Ent)
def Mem.all (M : Mem) : List Ent := M.flatMap (·.2)
def Mem.get : Mem → Nat → Option (List Ent)
  | [], _ => none
  | (m, es) :: r, n => if n = m then some es else Mem.get r n
def Mem.set : Mem → Nat → List Ent → Mem
  | [], _, _ => []
  | (m, es) :: r, n, fs => if n = m then (m, fs) :: r else (m, es) :: Mem.set r n fs
def Mem.keep (M : Mem) (l : List Nat) : Mem := M.filter fun x => l.contains x.1

def Ent.ok (w0 : World) (G : GH) (w : World) : Ent → Prop
  | .var b e cs => w0.heap.size ≤ b ∧ w.heap[b]? = some (.cells cs.toArray e (0, 0)) ∧ ∀ o, G b o = none
  | .tip b e n size => w0.heap.size ≤ b ∧ ∃ C, w.heap[b]? = some (.cells C e (0, 0)) ∧ C.size = size ∧ n ≤ size ∧ ∀ o, n ≤ o → G b o = none
  | .map b es ck => w0.heap.size ≤ b ∧ w.heap[b]? = some (.map es.toArray ck)

/-- What is known of memory, and what has become of the memory that was there when the run began. -/
structure View (w0 : World) (G : GH) (M : Mem) (w : World) : Prop where
  below : Below w0.heap.size w0 w
  cells : ∀ b o v, G b o = some v → w.cell? ⟨b, o, none⟩ = some v
  ents : ∀ x ∈ M.all, Ent.ok w0 G w x
  apart : M.all.Pairwise fun x y => x.blk ≠ y.blk

section
variable {w0 w : World} {G : GH} {M : Mem}
theorem View.lt (h : View w0 G M w) {x : Ent} (hx : x ∈ M.all) : x.blk < w.heap.size := by
  have := h.ents x hx
  cases x <;> simp only [Ent.ok] at this
  · exact (Array.getElem?_eq_some_iff.1 this.2.1).1
  · obtain ⟨_, C, hC, _⟩ := this; exact (Array.getElem?_eq_some_iff.1 hC).1
  · exact (Array.getElem?_eq_some_iff.1 this.2).1
theorem View.base (h : View w0 G M w) {x : Ent} (hx : x ∈ M.all) : w0.heap.size ≤ x.blk := by
  have := h.ents x hx
  cases x <;> exact this.1
theorem View.new (h : View w0 G M w) (o : Nat) : G w.heap.size o = none := by
  cases hg : G w.heap.size o with
  | none => rfl
  | some v =>
    have := World.block_lt_of_cell? w _ (h.cells _ _ _ hg)
    simp at this

/-- Fewer blocks are known. -/
theorem View.drop (h : View w0 G M w) {M' : Mem} (hs : M'.all.Sublist M.all) : View w0 G M' w :=
  ⟨h.below, h.cells, fun x hx => h.ents x (hs.subset hx), h.apart.sublist hs⟩

theorem View.perm0 (h : View w0 G M w) {M' : Mem} (hp : M.all.Perm M'.all) : View w0 G M' w :=
  ⟨h.below, h.cells, fun x hx => h.ents x (hp.mem_iff.2 hx), h.apart.perm hp fun e => e.symm⟩

/-- Only other blocks have turned. -/
theorem Ent.ok_step {w' : World} {x : Ent} (h : Ent.ok w0 G w x) (hb : w'.heap[x.blk]? = w.heap[x.blk]?) : Ent.ok w0 G w' x := by
  cases x <;> simp only [Ent.ok, Ent.blk] at * <;> rw [hb] <;> exact h

theorem Ent.ok_gh {G' : GH} {x : Ent} (h : Ent.ok w0 G w x) (hb : ∀ o, G' x.blk o = G x.blk o) : Ent.ok w0 G' w x := by
  cases x <;> simp only [Ent.ok, Ent.blk] at *
  · exact ⟨h.1, h.2.1, fun o => (hb o).trans (h.2.2 o)⟩
  · obtain ⟨h1, C, h2, h3, h4, h5⟩ := h; exact ⟨h1, C, h2, h3, h4, fun o ho => (hb o).trans (h5 o ho)⟩
  · exact h

theorem View.drew (h : View w0 G M w) : View w0 G M w.drew := ⟨h.below.drew, h.cells, h.ents, h.apart⟩
theorem View.drawn (h : View w0 G M w) (n : Nat) : View w0 G M { w with drawn := n } := ⟨⟨h.below.os, h.below.tape, h.below.output, h.below.size, h.below.block⟩, h.cells, h.ents, h.apart⟩

/-- A new block. -/
theorem View.alloc (h : View w0 G M w) (l : Nat) (e : TypeId) (cs : List Value) : View w0 G ((l, [.var w.heap.size e cs]) :: M) (w.alloc (.cells cs.toArray e)) := by
  refine ⟨h.below.alloc h.below.size _, fun b o v hv => ?_, fun x hx => ?_, ?_⟩
  · have hc := h.cells b o v hv
    rw [World.cell?_alloc_lt _ _ _ (World.block_lt_of_cell? w _ hc)]; exact hc
  · simp only [Mem.all, List.flatMap_cons, List.cons_append, List.nil_append, List.mem_cons] at hx
    rcases hx with rfl | hx
    · exact ⟨h.below.size, heap_alloc_new w _, fun o => h.new o⟩
    · exact Ent.ok_step (h.ents x hx) (Below.heap_alloc w _ _ (h.lt hx))
  · simp only [Mem.all, List.flatMap_cons, List.cons_append, List.nil_append, List.pairwise_cons]
    exact ⟨fun y hy => by have := h.lt hy; simp only [Ent.blk] at *; omega, h.apart⟩

theorem View.alloc_map (h : View w0 G M w) (l : Nat) (es : List MapEntry) (ck : Nat) : View w0 G ((l, [.map w.heap.size es ck]) :: M) (w.alloc (.map es.toArray ck)) := by
  refine ⟨h.below.alloc h.below.size _, fun b o v hv => ?_, fun x hx => ?_, ?_⟩
  · have hc := h.cells b o v hv
    rw [World.cell?_alloc_lt _ _ _ (World.block_lt_of_cell? w _ hc)]; exact hc
  · simp only [Mem.all, List.flatMap_cons, List.cons_append, List.nil_append, List.mem_cons] at hx
    rcases hx with rfl | hx
    · exact ⟨h.below.size, heap_alloc_new w _⟩
    · exact Ent.ok_step (h.ents x hx) (Below.heap_alloc w _ _ (h.lt hx))
  · simp only [Mem.all, List.flatMap_cons, List.cons_append, List.nil_append, List.pairwise_cons]
    exact ⟨fun y hy => by have := h.lt hy; simp only [Ent.blk] at *; omega, h.apart⟩

/-- The blocks of a known list, and where an entry stands. -/
theorem Mem.mem_all {M : Mem} {l : Nat} {es : List Ent} (h : M.get l = some es) {x : Ent} (hx : x ∈ es) : x ∈ M.all := by
  induction M with
  | nil => simp [Mem.get] at h
  | cons y r ih =>
    obtain ⟨m, fs⟩ := y
    simp only [Mem.get] at h
    simp only [Mem.all, List.flatMap_cons, List.mem_append]
    split at h
    · simp at h; subst h; exact .inl hx
    · exact .inr (ih h)

theorem Mem.all_set {M : Mem} {l : Nat} {es : List Ent} (h : M.get l = some es) :
    ∃ p s, M.all = p ++ es ++ s ∧ ∀ fs, (M.set l fs).all = p ++ fs ++ s := by
  induction M with
  | nil => simp [Mem.get] at h
  | cons y r ih =>
    obtain ⟨m, gs⟩ := y
    simp only [Mem.get] at h
    by_cases e : l = m
    · rw [if_pos e] at h; simp at h; subst h
      refine ⟨[], Mem.all r, ?_, fun fs => ?_⟩
      · simp [Mem.all]
      · simp [Mem.all, Mem.set, e]
    · rw [if_neg e] at h
      obtain ⟨p, s, h1, h2⟩ := ih h
      refine ⟨gs ++ p, s, ?_, fun fs => ?_⟩
      · simp only [Mem.all, List.flatMap_cons] at h1 ⊢; rw [h1]; simp
      · have h2 := h2 fs
        simp only [Mem.all, List.flatMap_cons, Mem.set, if_neg e] at h2 ⊢; rw [h2]; simp

theorem Mem.all_keep (M : Mem) (l : List Nat) : (M.keep l).all.Sublist M.all := by
  induction M with
  | nil => simp [Mem.keep, Mem.all]
  | cons y r ih =>
    simp only [Mem.keep, List.filter_cons, Mem.all] at *
    split
    · simp only [List.flatMap_cons]; exact (List.Sublist.refl _).append ih
    · simp only [List.flatMap_cons]; exact (ih).trans (List.sublist_append_right _ _)
end
end Go.Gv
