/-
  Regions whose order is drawn: a load is taken first, and what it gives is answered for until something that waits for it is carried out. No condition.
-/
import Derived.Test.YtokidokmcbkodaaGvCall
import Derived.OrdersHeld
namespace Go.Gv
open Go.RowKit

section
variable {P : Program} {ops : Array Oper} {Q : Exit → Act → World → Prop} {S S' : List Nat → World → Prop}

/-- Nothing that waits for this one has been carried out. -/
def clearD (ops : Array Oper) (x : Nat) (dn : List Nat) : Prop := ∀ j ∈ dn, ∀ oj, ops[j]? = some oj → ∀ e ∈ oj.after, Region.binds .any e = true → e.on ≠ x
/-- What has been carried out had all before it listed. -/
def Inv (ops : Array Oper) (l : Array Bool) (dn : List Nat) : Prop := ∀ j ∈ dn, ∀ oj, ops[j]? = some oj → ∀ e ∈ oj.after, Region.binds .any e = true → l.getD e.on false = true

/-- Whatever order is picked; dn is what is carried out. -/
def wpAnyD (P : Program) (ops : Array Oper) (Q : Exit → Act → World → Prop) (S : List Nat → World → Prop) : Nat → Array Bool → List Nat → Act → World → Prop
  | 0, l, _, a, w => Region.ready .any ops l = [] ∧ Q .normal a w
  | fuel + 1, l, dn, a, w => (Region.ready .any ops l = [] → Q .normal a w) ∧
    ∀ i ∈ Region.ready .any ops l, wpOp P ops Q i (fun a' w' => S (i :: dn) w' ∧ wpAnyD P ops Q S fuel (l.setIfInBounds i true) (i :: dn) a' w') a w

theorem wpAny_of_D : ∀ (fuel : Nat) (l : Array Bool) (dn : List Nat) (a : Act) (w : World), wpAnyD P ops Q S fuel l dn a w → wpAny P .any ops Q fuel l a w
  | 0, _, _, _, _, h => h
  | fuel + 1, _, _, _, _, h => ⟨h.1, fun i hi => wpOp_mono (fun a' w' h' => wpAny_of_D fuel _ _ a' w' h'.2) (h.2 i hi)⟩

theorem wpAnyD_weaken {j : Nat} (hs : ∀ dn w, j ∈ dn → S' dn w → S dn w) : ∀ (fuel : Nat) (l : Array Bool) (dn : List Nat) (a : Act) (w : World), j ∈ dn → wpAnyD P ops Q S' fuel l dn a w → wpAnyD P ops Q S fuel l dn a w
  | 0, _, _, _, _, _, h => h
  | fuel + 1, _, _, _, _, hj, h => ⟨h.1, fun i hi => wpOp_mono (fun a' w' h' => ⟨hs _ _ (List.mem_cons_of_mem _ hj) h'.1, wpAnyD_weaken hs fuel _ _ a' w' (List.mem_cons_of_mem _ hj) h'.2⟩) (h.2 i hi)⟩
theorem wpAnyD_weaken' (hs : ∀ dn w, S' dn w → S dn w) : ∀ (fuel : Nat) (l : Array Bool) (dn : List Nat) (a : Act) (w : World), wpAnyD P ops Q S' fuel l dn a w → wpAnyD P ops Q S fuel l dn a w
  | 0, _, _, _, _, h => h
  | fuel + 1, _, _, _, _, h => ⟨h.1, fun i hi => wpOp_mono (fun a' w' h' => ⟨hs _ _ h'.1, wpAnyD_weaken' hs fuel _ _ a' w' h'.2⟩) (h.2 i hi)⟩
theorem wpAnyD_more (hs : ∀ dn dn' w, (∀ x ∈ dn, x ∈ dn') → S dn w → S dn' w) : ∀ (fuel : Nat) (l : Array Bool) (dn dn' : List Nat) (a : Act) (w : World), (∀ x ∈ dn, x ∈ dn') → wpAnyD P ops Q S fuel l dn a w → wpAnyD P ops Q S fuel l dn' a w
  | 0, _, _, _, _, _, _, h => h
  | fuel + 1, _, dn, dn', _, _, hsub, h => ⟨h.1, fun i hi => wpOp_mono (fun a' w' h' => by
      have hs' : ∀ x ∈ i :: dn, x ∈ i :: dn' := fun x hx => by
        rcases List.mem_cons.1 hx with rfl | hx
        · exact List.mem_cons_self ..
        · exact List.mem_cons_of_mem _ (hsub x hx)
      exact ⟨hs _ _ _ hs' h'.1, wpAnyD_more hs fuel _ _ _ a' w' hs' h'.2⟩) (h.2 i hi)⟩

/-- One that may come up now may be taken first. -/
theorem wpAnyD_first {i : Nat} {oi : Oper} {v : Value} (hS : ∀ dn dn' w, (∀ x ∈ dn, x ∈ dn') → S dn w → S dn' w) (hi : ops[i]? = some oi) (hsel : ∀ (j : Nat) (o : Oper) cs b, ops[j]? = some o → o.op ≠ .select cs b)
    (hQ : ∀ c a w, Q (.panic c) (a.put oi.dst v) w → Q (.panic c) a w) :
    ∀ (fuel : Nat) (l : Array Bool) (dn : List Nat) (a : Act) (w : World),
      (∀ j oj, ops[j]? = some oj → j ≠ i → l.getD j true = false → (∀ e ∈ oj.after, Region.binds .any e = true → e.on ≠ i) → oi.apart ops oj = true) →
      i ∈ Region.ready .any ops l → Inv ops l dn → YieldsIf P ops (fun w => ∃ dn, clearD ops i dn ∧ S dn w) oi v a → S dn w →
      wpAnyD P ops Q S fuel (l.setIfInBounds i true) dn (a.put oi.dst v) w → wpAnyD P ops Q S (fuel + 1) l dn a w := by
  have hclear : ∀ {l : Array Bool} {dn : List Nat}, i ∈ Region.ready .any ops l → Inv ops l dn → clearD ops i dn := by
    intro l dn hr hI j hj oj hoj e he hb heq
    have h1 := hI j hj oj hoj e he hb
    have h0 := (mem_ready.1 hr).1
    rw [heq] at h1
    rcases Nat.lt_or_ge i l.size with h' | h'
    · simp [h'] at h0 h1; rw [h0] at h1; cases h1
    · simp [Array.getElem?_eq_none h'] at h1
  intro fuel
  induction fuel with
  | zero =>
    intro l dn a w _ hr hI hy hSw H
    refine ⟨fun h => (by rw [h] at hr; cases hr), fun j hj => ?_⟩
    by_cases hji : j = i
    · subst hji
      exact hy.wpOp hi ⟨dn, hclear hr hI, hSw⟩ ⟨hS _ _ _ (fun x hx => List.mem_cons_of_mem _ hx) hSw, H⟩
    · have := ready_mono hj hji
      rw [H.1] at this
      cases this
  | succ fuel ih =>
    intro l dn a w hfree hr hI hy hSw H
    refine ⟨fun h => (by rw [h] at hr; cases hr), fun j hj => ?_⟩
    by_cases hji : j = i
    · subst hji
      have hsub : ∀ x ∈ dn, x ∈ j :: dn := fun x hx => List.mem_cons_of_mem _ hx
      exact hy.wpOp hi ⟨dn, hclear hr hI, hSw⟩ ⟨hS _ _ _ hsub hSw, wpAnyD_more hS _ _ _ _ _ _ hsub H⟩
    · have h1 := H.2 j (ready_mono hj hji)
      obtain ⟨hjun, oj, hoj, hall⟩ := mem_ready.1 hj
      have hnot : ∀ e ∈ oj.after, Region.binds .any e = true → e.on ≠ i := fun e he hb heq => by
        have h1 := hall e he hb
        have h0 := (mem_ready.1 hr).1
        rw [heq] at h1
        rcases Nat.lt_or_ge i l.size with h' | h'
        · simp [h'] at h0 h1; rw [h0] at h1; cases h1
        · simp [Array.getElem?_eq_none h'] at h1
      have h2 := wpOp_putIf hoj (hfree j oj hoj hji hjun hnot) (fun cs b => hsel i oi cs b hi) (fun cs b => hsel j oj cs b hoj) hQ hy h1
      have hfree' : ∀ k ok, ops[k]? = some ok → k ≠ i → (l.setIfInBounds j true).getD k true = false →
          (∀ e ∈ ok.after, Region.binds .any e = true → e.on ≠ i) → oi.apart ops ok = true := fun k ok hk hki hun hno => by
        refine hfree k ok hk hki ?_ hno
        by_cases hjk : j = k
        · subst hjk; exact hjun
        · rw [getD_set_ne true hjk] at hun; exact hun
      have hI' : Inv ops (l.setIfInBounds j true) (j :: dn) := by
        intro k hk ok hok e he hb
        rcases List.mem_cons.1 hk with rfl | hk
        · rw [hoj] at hok; cases hok
          exact getD_set_true (hall e he hb)
        · exact getD_set_true (hI k hk ok hok e he hb)
      refine wpOp_mono (fun a' w' h3 => ⟨h3.2.1, ih (l.setIfInBounds j true) (j :: dn) a' w' hfree' (ready_mono hr (Ne.symm hji)) hI' h3.1 h3.2.1 ?_⟩) h2
      rw [Array.setIfInBounds_comm _ _ hji]
      exact h3.2.2

theorem wpAnyD_take {i : Nat} {oi : Oper} {v : Value} {fuel : Nat} {l : Array Bool} {dn : List Nat} {a : Act} {w : World} (hS : ∀ dn dn' w, (∀ x ∈ dn, x ∈ dn') → S dn w → S dn' w) (hi : ops[i]? = some oi)
    (hs : Region.noSelect ops = true) (hf : Region.free .any ops l i = true) (hr : (Region.ready .any ops l).contains i = true) (hI : Inv ops l dn)
    (hQ : ∀ c a w, Q (.panic c) (a.put oi.dst v) w → Q (.panic c) a w) (hy : YieldsIf P ops (fun w => ∃ dn, clearD ops i dn ∧ S dn w) oi v a) (hSw : S dn w)
    (h : wpAnyD P ops Q S fuel (l.setIfInBounds i true) dn (a.put oi.dst v) w) : wpAnyD P ops Q S (fuel + 1) l dn a w :=
  wpAnyD_first hS hi (Region.noSelect_spec hs) hQ fuel l dn a w (Region.free_spec hi hf) (by simpa using hr) hI hy hSw h

theorem wpAnyD_all {rs : List Nat} {fuel : Nat} {l : Array Bool} {dn : List Nat} {a : Act} {w : World} (hr : Region.ready .any ops l = rs) (hne : rs ≠ [])
    (h : ∀ i ∈ rs, wpOp P ops Q i (fun a' w' => S (i :: dn) w' ∧ wpAnyD P ops Q S fuel (l.setIfInBounds i true) (i :: dn) a' w') a w) : wpAnyD P ops Q S (fuel + 1) l dn a w :=
  ⟨fun h0 => absurd (hr ▸ h0) hne, hr ▸ h⟩
theorem wpAnyD_done {l : Array Bool} {dn : List Nat} {a : Act} {w : World} (hr : Region.ready .any ops l = []) (h : Q .normal a w) : ∀ fuel, wpAnyD P ops Q S fuel l dn a w
  | 0 => ⟨hr, h⟩
  | _ + 1 => ⟨fun _ => h, by rw [hr]; simp⟩
theorem wp_region_D {id : Nat} {a : Act} {w : World} (hm : P.follows .mixedOrders = true)
    (h : wpAnyD P ops Q S ops.size (Array.replicate ops.size false) [] a { w with drawn := w.drawn + 1 }) : (Code.region id ops true).wp P Q a w :=
  wp_region_any hm (wpAny_of_D _ _ _ _ _ h)
theorem Inv.nil (l : Array Bool) : Inv ops l [] := fun _ h => by cases h
theorem Inv.take {l : Array Bool} {dn : List Nat} (h : Inv ops l dn) (i : Nat) : Inv ops (l.setIfInBounds i true) dn := fun j hj oj hoj e he hb => getD_set_true (h j hj oj hoj e he hb)
theorem Inv.exec {l : Array Bool} {dn : List Nat} (h : Inv ops l dn) {i : Nat} (hi : i ∈ Region.ready .any ops l) : Inv ops (l.setIfInBounds i true) (i :: dn) := by
  intro j hj oj hoj e he hb
  obtain ⟨_, o, ho, hall⟩ := mem_ready.1 hi
  rcases List.mem_cons.1 hj with rfl | hj
  · rw [ho] at hoj; cases hoj
    exact getD_set_true (hall e he hb)
  · exact getD_set_true (h j hj oj hoj e he hb)
end
end Go.Gv
