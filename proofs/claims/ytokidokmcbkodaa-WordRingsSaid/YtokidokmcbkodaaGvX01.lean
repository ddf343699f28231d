/-
  What rows of additions to a board do to the values of its gates. No condition.
-/
import Derived.Test.YtokidokmcbkodaaGvW28
namespace Go.Gv.W
set_option linter.unusedSimpArgs false
set_option linter.unusedVariables false
set_option linter.unusedSectionVars false
open Go.RowKit Go.Proofs

theorem valsA_append (p : Nat) (ins : List Nat) : ∀ (gs hs : List Gate) (vs : List Nat), valsA p ins vs (gs ++ hs) = valsA p ins (valsA p ins vs gs) hs
  | [], _, _ => rfl
  | g :: gs, hs, vs => by simp only [List.cons_append, valsA]; exact valsA_append p ins gs hs _
theorem valsA_get (p : Nat) (ins : List Nat) : ∀ (gs : List Gate) (vs : List Nat) (i : Nat), i < vs.length → (valsA p ins vs gs)[i]? = vs[i]?
  | [], _, _, _ => rfl
  | g :: gs, vs, i, h => by
    simp only [valsA]
    rw [valsA_get p ins gs _ i (by simp; omega), List.getElem?_append_left h]
theorem valsA_len (p : Nat) (ins : List Nat) : ∀ (gs : List Gate) (vs : List Nat), (valsA p ins vs gs).length = vs.length + gs.length
  | [], vs => rfl
  | g :: gs, vs => by simp only [valsA]; rw [valsA_len p ins gs]; simp; omega
theorem valsG_len (p : Nat) (ins : List Nat) (gs : List Gate) : (valsG p ins gs).length = gs.length := by simp [valsG, valsA_len]
theorem valsG_snoc (p : Nat) (ins : List Nat) (gs : List Gate) (g : Gate) : valsG p ins (gs ++ [g]) = valsG p ins gs ++ [gval p ins (valsG p ins gs) g] := by
  simp only [valsG, valsA_append, valsA]
theorem valsG_at (p : Nat) (ins : List Nat) (gs hs : List Gate) {k : Int} (h0 : 0 ≤ k) (h : k < gs.length) : at0 (valsG p ins (gs ++ hs)) k = at0 (valsG p ins gs) k := by
  simp only [at0, List.getD_eq_getElem?_getD, valsG, valsA_append]
  rw [valsA_get _ _ _ _ _ (by rw [valsA_len]; simp; omega)]

theorem gatesErr_snoc (p s : Nat) (g : Gate) : ∀ (gs : List Gate) (i : Nat), gatesErr p s i gs = 0 → gateErr p s (i + gs.length) g = 0 → gatesErr p s i (gs ++ [g]) = 0
  | [], i, _, h => by
    simp only [List.length_nil, Nat.add_zero] at h
    simp only [List.nil_append, gatesErr, h, ne_eq, not_true_eq_false, if_false]
  | a :: gs, i, h, hg => by
    simp only [List.cons_append, gatesErr] at h ⊢
    by_cases h1 : gateErr p s i a ≠ 0
    · rw [if_pos h1] at h; exact absurd h h1
    · rw [if_neg h1] at h ⊢
      exact gatesErr_snoc p s g gs (i + 1) h (by rw [show i + 1 + gs.length = i + (a :: gs).length by simp; omega]; exact hg)

/-- A board whose circuit is in order, and its inputs. -/
structure Good (ins : List Nat) (B : Bd) : Prop where
  p3 : 3 ≤ B.p
  p16 : B.p ≤ 65537
  gates : gatesErr B.p B.c.slots.length 0 B.c.gates = 0
  lim : B.c.gates.length ≤ 65536
  small : ∀ x ∈ ins, x < B.p
/-- A gate's value. -/
def Vl (ins : List Nat) (B : Bd) (i : Int) (v : Nat) : Prop := (0 ≤ i ∧ i < B.c.gates.length) ∧ at0 (valsG B.p ins B.c.gates) i = v
/-- A board with so many gates more at most, and so many products. -/
def More (B B' : Bd) (n mu : Nat) : Prop := ∃ gs, B' = { B with c := { B.c with gates := B.c.gates ++ gs } } ∧ gs.length ≤ n ∧ countG 5 gs ≤ mu
theorem More.refl (B : Bd) : More B B 0 0 := ⟨[], by simp, by simp, by simp [countG]⟩
theorem countG_append (k : Int) : ∀ (a b : List Gate), countG k (a ++ b) = countG k a + countG k b := by
  intro a b
  induction a with
  | nil => simp [countG]
  | cons g r ih => simp only [List.cons_append, countG, ih]; omega
theorem More.trans {A B C : Bd} {n n' mu mu' : Nat} (h : More A B n mu) (h' : More B C n' mu') : More A C (n + n') (mu + mu') := by
  obtain ⟨g, rfl, h1, h2⟩ := h
  obtain ⟨g', rfl, h3, h4⟩ := h'
  exact ⟨g ++ g', by simp, by simp; omega, by rw [countG_append]; omega⟩
theorem More.mono {A B : Bd} {n n' mu mu' : Nat} (h : More A B n mu) (h1 : n ≤ n') (h2 : mu ≤ mu') : More A B n' mu' := by
  obtain ⟨g, h3, h4, h5⟩ := h
  exact ⟨g, h3, by omega, by omega⟩
theorem Vl.up {ins : List Nat} {B B' : Bd} {n mu : Nat} {i : Int} {v : Nat} (h : Vl ins B i v) (hm : More B B' n mu) : Vl ins B' i v := by
  obtain ⟨gs, rfl, -, -⟩ := hm
  obtain ⟨h1, h2⟩ := h
  refine ⟨⟨h1.1, by simp; omega⟩, ?_⟩
  show at0 (valsG B.p ins (B.c.gates ++ gs)) i = v
  rw [valsG_at _ _ _ _ h1.1 h1.2]
  exact h2
theorem valsA_lt {p : Nat} {ins : List Nat} (hp : 0 < p) (hi : ∀ x ∈ ins, x < p) : ∀ (gs : List Gate) (vs : List Nat) (s i : Nat), (∀ x ∈ vs, x < p) → gatesErr p s i gs = 0 → ∀ x ∈ valsA p ins vs gs, x < p
  | [], vs, s, i, h, _ => h
  | g :: gs, vs, s, i, h, he => by
    simp only [valsA]
    have h1 : gateErr p s i g = 0 := by
      simp only [gatesErr] at he
      by_cases h1 : gateErr p s i g ≠ 0
      · rw [if_pos h1] at he; exact he
      · exact Decidable.not_not.1 h1
    simp only [gatesErr, h1, ne_eq, not_true_eq_false, if_false] at he
    refine valsA_lt hp hi gs _ s (i + 1) ?_ he
    intro x hx
    rcases List.mem_append.1 hx with hx | hx
    · exact h x hx
    · rw [List.mem_singleton] at hx
      subst hx
      have h2 := (gateErr_ok h1).2.2.2.2
      unfold gval
      repeat' split
      all_goals first | exact at0_lt hi hp _ | exact Nat.mod_lt _ hp | exact h2
theorem Vl.lt {ins : List Nat} {B : Bd} {i : Int} {v : Nat} (hg : Good ins B) (h : Vl ins B i v) : v < B.p := by
  rw [← h.2]
  exact at0_lt (valsA_lt (by have := hg.p3; omega) hg.small B.c.gates [] B.c.slots.length 0 (by simp) hg.gates) (by have := hg.p3; omega) i

/-- What a row of additions does: with at most n gates more and mu products it ends well and Q holds, or it runs out of gates. -/
def Sp {α : Type} (ins : List Nat) (m : Rm α) (B : Bd) (n mu : Nat) (Q : α → Bd → Prop) : Prop := match m B with
  | .ok x B' => More B B' n mu ∧ Good ins B' ∧ Q x B'
  | .bad e _ => e = 3 ∧ 65536 < B.c.gates.length + n
theorem Sp.pure {α : Type} {ins : List Nat} {B : Bd} {x : α} {Q : α → Bd → Prop} (hg : Good ins B) (h : Q x B) : Sp ins (Rm.pure x) B 0 0 Q := ⟨More.refl B, hg, h⟩
theorem Sp.bind {α β : Type} {ins : List Nat} {m : Rm α} {f : α → Rm β} {B : Bd} {n mu n' mu' : Nat} {Q : α → Bd → Prop} {R : β → Bd → Prop} (h : Sp ins m B n mu Q)
    (h' : ∀ x B', More B B' n mu → Good ins B' → Q x B' → Sp ins (f x) B' n' mu' R) : Sp ins (m.bind f) B (n + n') (mu + mu') R := by
  unfold Sp at h ⊢
  unfold Rm.bind
  cases hm : m B with
  | bad e B' => rw [hm] at h; exact ⟨h.1, by omega⟩
  | ok x B' =>
    rw [hm] at h
    have h2 := h' x B' h.1 h.2.1 h.2.2
    unfold Sp at h2
    simp only
    cases hf : f x B' with
    | bad e B'' =>
      rw [hf] at h2
      obtain ⟨gs, rfl, h3, -⟩ := h.1
      refine ⟨h2.1, ?_⟩
      have := h2.2
      simp at this
      omega
    | ok y B'' => rw [hf] at h2; exact ⟨h.1.trans h2.1, h2.2⟩
theorem Sp.mono {α : Type} {ins : List Nat} {m : Rm α} {B : Bd} {n mu n' mu' : Nat} {Q R : α → Bd → Prop} (h : Sp ins m B n mu Q) (h1 : n ≤ n') (h2 : mu ≤ mu') (hq : ∀ x B', Q x B' → R x B') : Sp ins m B n' mu' R := by
  unfold Sp at h ⊢
  cases hm : m B with
  | bad e B' => rw [hm] at h; exact ⟨h.1, by omega⟩
  | ok x B' => rw [hm] at h; exact ⟨h.1.mono h1 h2, h.2.1, hq _ _ h.2.2⟩

theorem sp_put {ins : List Nat} {B : Bd} {g : Gate} (hg : Good ins B) (he : gateErr B.p B.c.slots.length B.c.gates.length g = 0) :
    Sp ins (rPut g) B 1 (if g.kind = 5 then 1 else 0) fun x B' => Vl ins B' x (gval B.p ins (valsG B.p ins B.c.gates) g) := by
  have hp : B.p ≠ 0 := by have := hg.p3; omega
  unfold Sp rPut
  by_cases hl : 65536 ≤ B.c.gates.length
  · have e : B.put g = (0, 3, B) := by simp only [Bd.put, if_neg hp, he, if_pos hl]; simp
    rw [e]
    simp only
    rw [if_neg (by omega)]
    exact ⟨rfl, by omega⟩
  · have e : B.put g = (((B.c.gates.length : Nat) : Int), 0, { B with c := { B.c with gates := B.c.gates ++ [g] } }) := by simp only [Bd.put, if_neg hp, he, if_neg hl]; simp
    rw [e]
    simp only [if_true]
    refine ⟨⟨[g], rfl, by simp, ?_⟩, ⟨hg.p3, hg.p16, gatesErr_snoc _ _ _ _ _ hg.gates (by simpa using he), by simp; omega, hg.small⟩, ⟨by omega, by simp; omega⟩, ?_⟩
    · by_cases h5 : g.kind = 5 <;> simp [countG, h5]
    · simp only [valsG_snoc, at0, List.getD_eq_getElem?_getD, Int.toNat_natCast]
      rw [List.getElem?_append_right (by rw [valsG_len]; exact Nat.le_refl _), valsG_len, Nat.sub_self]
      rfl
end Go.Gv.W
