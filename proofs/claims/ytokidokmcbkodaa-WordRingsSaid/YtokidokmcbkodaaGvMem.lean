/-
  The operations that read and write memory. No condition.
-/
import Derived.Test.YtokidokmcbkodaaGvStill
import Derived.Deep.MidRow
namespace Go.Gv
open Go.RowKit

def CellsAt (G : GH) (b o : Nat) (l : List Value) : Prop := ∀ j v, l[j]? = some v → G b (o + j) = some v
theorem CellsAt.mono {G G' : GH} {b o : Nat} {l : List Value} (h : CellsAt G b o l) (hg : GLe G G') : CellsAt G' b o l := fun j v hv => hg _ _ _ (h j v hv)
def setL (cs : List Value) (o : Nat) : List Value → List Value
  | [] => cs
  | v :: r => setL (cs.set o v) (o + 1) r
theorem setL_length (o : Nat) : ∀ (vs cs : List Value), (setL cs o vs).length = cs.length
  | [], _ => rfl
  | v :: r, cs => by
    unfold setL
    have := setL_length (o + 1) r (cs.set o v)
    simpa using this

def Mem.ent (M : Mem) (l i : Nat) : Option Ent :=
  match M.get l with
  | some es => es[i]?
  | none => none
def Mem.put (M : Mem) (l i : Nat) (e : Ent) : Mem :=
  match M.get l with
  | some es => M.set l (es.set i e)
  | none => M

theorem Mem.ent_all {M : Mem} {l i : Nat} {x : Ent} (h : M.ent l i = some x) (y : Ent) : ∃ p s, M.all = p ++ x :: s ∧ (M.put l i y).all = p ++ y :: s := by
  unfold Mem.ent at h
  split at h
  · rename_i es hes
    obtain ⟨p, s, h1, h2⟩ := Mem.all_set hes
    obtain ⟨hi, hx⟩ := List.getElem?_eq_some_iff.1 h
    refine ⟨p ++ es.take i, es.drop (i + 1) ++ s, ?_, ?_⟩
    · rw [h1]
      have : es = es.take i ++ x :: es.drop (i + 1) := by rw [← hx]; simp
      conv => lhs; rw [this]
      simp
    · simp only [Mem.put, hes, h2]
      rw [List.set_eq_take_append_cons_drop, if_pos hi]
      simp
  · cases h

section
variable {w0 w w' : World} {G G' : GH} {M M' : Mem}
/-- One block has turned. -/
theorem View.turn (h : View w0 G M w) {p s : List Ent} {x y : Ent} (hM : M.all = p ++ x :: s) (hM' : M'.all = p ++ y :: s) (hb : y.blk = x.blk)
    (hbel : Below w0.heap.size w0 w') (hw : ∀ k, k ≠ x.blk → w'.heap[k]? = w.heap[k]?) (hG : ∀ b, b ≠ x.blk → ∀ o, G' b o = G b o)
    (hx : ∀ o v, G' x.blk o = some v → w'.cell? ⟨x.blk, o, none⟩ = some v) (hy : Ent.ok w0 G' w' y) : View w0 G' M' w' := by
  have hne : ∀ z, z ∈ p ++ s → z.blk ≠ x.blk := by
    intro z hz
    have := h.apart
    rw [hM] at this
    rcases List.mem_append.1 hz with hz | hz
    · exact (List.pairwise_append.1 this).2.2 z hz x (by simp)
    · exact fun e => (List.pairwise_cons.1 (List.pairwise_append.1 this).2.1).1 z hz e.symm
  refine ⟨hbel, fun b o v hv => ?_, fun z hz => ?_, ?_⟩
  · by_cases e : b = x.blk
    · subst e; exact hx o v hv
    · rw [hG b e] at hv
      rw [World.cell?_of_block (w := w) (a := ⟨b, o, none⟩) (hw b e)]
      exact h.cells b o v hv
  · rw [hM'] at hz
    rcases List.mem_append.1 hz with hz | hz
    · exact Ent.ok_gh (Ent.ok_step (h.ents z (by rw [hM]; simp [hz])) (hw _ (hne z (by simp [hz])))) (hG _ (hne z (by simp [hz])))
    · rcases List.mem_cons.1 hz with rfl | hz
      · exact hy
      · exact Ent.ok_gh (Ent.ok_step (h.ents z (by rw [hM]; simp [hz])) (hw _ (hne z (by simp [hz])))) (hG _ (hne z (by simp [hz])))
  · have := h.apart
    rw [hM] at this
    rw [hM']
    rw [List.pairwise_append] at this ⊢
    obtain ⟨h1, h2, h3⟩ := this
    rw [List.pairwise_cons] at h2 ⊢
    refine ⟨h1, ⟨fun z hz => by rw [hb]; exact h2.1 z hz, h2.2⟩, fun u hu z hz => ?_⟩
    rcases List.mem_cons.1 hz with rfl | hz
    · rw [hb]; exact h3 u hu x (by simp)
    · exact h3 u hu z (by simp [hz])

/-- A settled cell more. -/
theorem View.settle (h : View w0 G M w) (hc : ∀ b o v, G' b o = some v → w.cell? ⟨b, o, none⟩ = some v) (he : ∀ x ∈ M.all, ∀ o, G' x.blk o = G x.blk o) : View w0 G' M w :=
  ⟨h.below, hc, fun x hx => Ent.ok_gh (h.ents x hx) (he x hx), h.apart⟩

/-- A new entry, over a block that no other entry has. -/
theorem View.cons (h : View w0 G M w) {x : Ent} {l : Nat} (hx : Ent.ok w0 G w x) (hn : ∀ y ∈ M.all, y.blk ≠ x.blk) : View w0 G ((l, [x]) :: M) w := by
  refine ⟨h.below, h.cells, fun z hz => ?_, ?_⟩
  · simp only [Mem.all, List.flatMap_cons, List.cons_append, List.nil_append, List.mem_cons] at hz
    rcases hz with rfl | hz
    · exact hx
    · exact h.ents z hz
  · simp only [Mem.all, List.flatMap_cons, List.cons_append, List.nil_append, List.pairwise_cons]
    exact ⟨fun y hy => (hn y hy).symm, h.apart⟩
end

/-- What a load gives. -/
def ldP (G : GH) (M : Mem) (n : Option Nat) (hint : Option (Nat × Nat)) (x : Value) (K : Value → Prop) : Prop :=
  match x with
  | .pointer (some ⟨b, o, none⟩) =>
    match hint with
    | some (l, i) =>
      match M.ent l i with
      | some (.var b' _ cs) => b = b' ∧
        match n with
        | none => match cs[o]? with
          | some v => K v
          | none => False
        | some n => o + n ≤ cs.length ∧ K (.agg ((cs.drop o).take n).toArray)
      | _ => False
    | none =>
      match n with
      | none => ∃ v, G b o = some v ∧ K v
      | some n => ∃ vs : List Value, vs.length = n ∧ CellsAt G b o vs ∧ K (.agg vs.toArray)
  | _ => False

section
variable {P : Program} {w0 w : World} {G : GH} {M : Mem}
theorem addr_add (b o j : Nat) : (⟨b, o, none⟩ : Addr).add j = ⟨b, o + j, none⟩ := by unfold Addr.add; split <;> simp_all
theorem var_cell (h : View w0 G M w) {l i b : Nat} {e : TypeId} {cs : List Value} (hx : M.ent l i = some (.var b e cs)) (o : Nat) : w.cell? ⟨b, o, none⟩ = cs[o]? := by
  obtain ⟨p, s, h1, _⟩ := Mem.ent_all hx (.var b e cs)
  obtain ⟨_, hb, _⟩ := h.ents (.var b e cs) (by rw [h1]; simp)
  simp [World.cell?, hb]
theorem loadVar_run {t : TypeId} {n : Option Nat} (ht : aggN P t = some n) {b o : Nat} {v : Value}
    (hc : match n with
      | none => w.cell? ⟨b, o, none⟩ = some v
      | some n => ∃ vs : List Value, vs.length = n ∧ v = .agg vs.toArray ∧ ∀ j u, vs[j]? = some u → w.cell? ⟨b, o + j, none⟩ = some u) :
    (loadVar t ⟨b, o, none⟩).run P w = .ok v w := by
  obtain ⟨h1, h2⟩ := isAgg_run ht w
  cases n with
  | none => simp only [] at hc; simp [loadVar, h1, hc]
  | some n =>
    obtain ⟨vs, hl, rfl, hc⟩ := hc
    simp only [loadVar, Sem.run_bind, h1, Result.andThen_ok, Option.isSome_some, if_true, h2 n rfl]
    rw [← hl, run_loadCells_list w ⟨b, o, none⟩ vs (fun j u hu => by rw [addr_add]; exact hc j u hu)]
    simp
theorem ld_run (h : View w0 G M w) {t : TypeId} {n : Option Nat} (ht : aggN P t = some n) {hint : Option (Nat × Nat)} {x : Value} {K : Value → Prop} (hk : ldP G M n hint x K) :
    ∃ v, K v ∧ (Instr.loadAt t x).run P w = .ok v w := by
  unfold ldP at hk
  split at hk
  · rename_i b o
    cases hint with
    | some li =>
      obtain ⟨l, i⟩ := li
      simp only [] at hk
      split at hk
      · rename_i b' e cs hx
        obtain ⟨rfl, hk⟩ := hk
        cases n with
        | none =>
          simp only [] at hk
          split at hk
          · rename_i v hv
            exact ⟨v, hk, by simp only [Instr.loadAt, Instr.sureAddr, Sem.run_bind, Sem.run_pure, Result.andThen_ok]; exact loadVar_run ht (by simp only []; rw [var_cell h hx]; exact hv)⟩
          · exact hk.elim
        | some n =>
          obtain ⟨hl, hk⟩ := hk
          refine ⟨_, hk, ?_⟩
          simp only [Instr.loadAt, Instr.sureAddr, Sem.run_bind, Sem.run_pure, Result.andThen_ok]
          refine loadVar_run ht ⟨_, by simp; omega, rfl, fun j u hu => ?_⟩
          rw [var_cell h hx]
          rw [List.getElem?_take] at hu
          split at hu
          · rw [List.getElem?_drop] at hu; exact hu
          · cases hu
      · exact hk.elim
    | none =>
      simp only [] at hk
      cases n with
      | none =>
        obtain ⟨v, hv, hk⟩ := hk
        exact ⟨v, hk, by simp only [Instr.loadAt, Instr.sureAddr, Sem.run_bind, Sem.run_pure, Result.andThen_ok]; exact loadVar_run ht (h.cells _ _ _ hv)⟩
      | some n =>
        obtain ⟨vs, hl, hc, hk⟩ := hk
        refine ⟨_, hk, ?_⟩
        simp only [Instr.loadAt, Instr.sureAddr, Sem.run_bind, Sem.run_pure, Result.andThen_ok]
        exact loadVar_run ht ⟨vs, hl, rfl, fun j u hu => h.cells _ _ _ (hc j u hu)⟩
  · exact hk.elim

/-- The world with another row in a block. -/
def putRow (w : World) (b : Nat) (e : TypeId) (cs : List Value) : World := { w with heap := w.heap.setIfInBounds b (.cells cs.toArray e (0, 0)) }
theorem putRow_heap {w : World} {b : Nat} {e : TypeId} {cs : List Value} (hb : b < w.heap.size) : (putRow w b e cs).heap[b]? = some (.cells cs.toArray e (0, 0)) := by
  simp [putRow, hb]
theorem putRow_other {w : World} {b k : Nat} {e : TypeId} {cs : List Value} (hk : k ≠ b) : (putRow w b e cs).heap[k]? = w.heap[k]? := by
  simp only [putRow, Array.getElem?_setIfInBounds]
  rw [if_neg (fun e => hk e.symm)]
theorem setCell_row {w : World} {b o : Nat} {e : TypeId} {cs : List Value} (hb : w.heap[b]? = some (.cells cs.toArray e (0, 0))) (v : Value) :
    w.setCell ⟨b, o, none⟩ v = putRow w b e (cs.set o v) := by
  have hlt := (Array.getElem?_eq_some_iff.1 hb).1
  simp only [World.setCell, putRow]
  congr 1
  apply Array.ext_getElem?
  intro k
  rw [Array.getElem?_modify, Array.getElem?_setIfInBounds]
  by_cases ek : b = k
  · subst ek
    rw [if_pos rfl, if_pos rfl, if_pos hlt, hb]
    simp
  · simp [ek]
theorem putRow_putRow {w : World} {b : Nat} {e : TypeId} {cs cs' : List Value} : putRow (putRow w b e cs) b e cs' = putRow w b e cs' := by
  simp [putRow]
theorem putRow_same {w : World} {b : Nat} {e : TypeId} {cs : List Value} (hb : w.heap[b]? = some (.cells cs.toArray e (0, 0))) : putRow w b e cs = w := by
  have : w.heap.setIfInBounds b (.cells cs.toArray e (0, 0)) = w.heap := by
    apply Array.ext_getElem?
    intro k
    rw [Array.getElem?_setIfInBounds]
    by_cases ek : b = k
    · subst ek; simp [hb]; exact (Array.getElem?_eq_some_iff.1 hb).1
    · simp [ek]
  simp [putRow, this]
theorem storeCells_run {b o : Nat} {e : TypeId} : ∀ (vs cs : List Value) (i : Nat) (w : World), w.heap[b]? = some (.cells cs.toArray e (0, 0)) → o + i + vs.length ≤ cs.length → (∀ v ∈ vs, v.oneCell' = true) →
    (storeCells ⟨b, o, none⟩ vs i).run P w = .ok () (putRow w b e (setL cs (o + i) vs))
  | [], cs, i, w, hb, _, _ => by simp [storeCells, setL, putRow_same hb]
  | v :: r, cs, i, w, hb, hl, h1 => by
    have hlt := (Array.getElem?_eq_some_iff.1 hb).1
    have hc : w.cell? ⟨b, o + i, none⟩ = some (cs[o + i]'(by simp at hl; omega)) := by simp [World.cell?, hb]
    have hfr : w.frozen? ⟨b, o + i, none⟩ = false := by simp [World.frozen?, hb]
    have hs : (store ⟨b, o + i, none⟩ v).run P w = .ok () (putRow w b e (cs.set (o + i) v)) := by
      rw [run_store P w _ v .plain (h1 v (by simp)), hc]
      simp only [hfr, Bool.false_eq_true, if_false]
      rw [setCell_row hb]
    simp only [storeCells, Sem.run_bind, addr_add, hs, Result.andThen_ok]
    rw [storeCells_run r (cs.set (o + i) v) (i + 1) (putRow w b e (cs.set (o + i) v)) (putRow_heap hlt) (by simp at hl ⊢; omega) (fun u hu => h1 u (by simp [hu])), putRow_putRow]
    rfl
end
end Go.Gv
