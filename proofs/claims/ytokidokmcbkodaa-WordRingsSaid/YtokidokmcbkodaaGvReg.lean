/-
  Regions: in their order, and where the order is drawn. No condition.
-/
import Derived.Test.YtokidokmcbkodaaGvOrd
namespace Go.Gv
open Go.RowKit

/-- Two ways. -/
def condP (b : Bool) (X Y : Prop) : Prop := (b = true → X) ∧ (b = false → Y)
/-- A load from what this run alone writes, under a test. -/
def ldC (c : Bool) (M : Mem) (n : Option Nat) (l i : Nat) (p : Value) (κ : Value → Prop) : Prop :=
  match p with
  | .pointer (some ⟨b, o, none⟩) => match M.ent l i with
    | some (.var b' _ cs) => (c = true → b = b') ∧ match n with
      | none => match cs[o]? with
        | some v => κ v
        | none => c = false ∧ κ undef
      | some n => (c = true → o + n ≤ cs.length) ∧ κ (.agg ((cs.drop o).take n).toArray)
    | _ => c = false ∧ κ undef
  | _ => c = false ∧ κ undef
theorem ldC_ex {c : Bool} {G : GH} {M : Mem} {n : Option Nat} {l i : Nat} {p : Value} {κ : Value → Prop} (h : ldC c M n l i p κ) : ∃ v, κ v ∧ (c = true → ldP G M n (some (l, i)) p fun u => u = v) := by
  unfold ldC at h
  split at h
  · split at h
    · rename_i b o b' e cs hent
      obtain ⟨hb, h⟩ := h
      cases n with
      | none =>
        simp only at h
        split at h
        · rename_i v hv
          exact ⟨v, h, fun hc => by simp [ldP, hent, hb hc, hv]⟩
        · exact ⟨undef, h.2, fun hc => by simp [h.1] at hc⟩
      | some n => exact ⟨_, h.2, fun hc => by simp [ldP, hent, hb hc, h.1 hc]⟩
    · exact ⟨undef, h.2, fun hc => by simp [h.1] at hc⟩
  · exact ⟨undef, h.2, fun hc => by simp [h.1] at hc⟩
/-- One operation under a test: on both ways at once, where that is asked for. -/
def gopP (P : Program) (sp c : Bool) (dst : Option Nat) (fr : Fr) (G : GH) (M : Mem) (D : List Deferred) (K : Fr → GH → Mem → List Deferred → Prop) (QP : Value → GH → Mem → List Deferred → Prop) (r : ROp) : Prop :=
  match sp with
  | false => condP c (opP P dst fr G M D K QP r) (K (fr.put dst false undef) G M D)
  | true => match r with
  | .ld n (some (l, i)) x => with1 fr c x fun p => ldC c M n l i p fun v => K (fr.put dst c v) G M D
  | .ld n none x => let h := none; ∃ v, (c = true → with1 fr true x fun p => ldP G M n h p fun u => u = v) ∧ K (fr.put dst c v) G M D
  | .call .. | .callv .. | .calli .. =>
    (∃ v, (c = true → opP P dst fr G M D (fun fr' G' M' D' => fr' = fr.put dst true v ∧ G' = G ∧ M' = M ∧ D' = D) (fun _ _ _ _ => False) r) ∧ K (fr.put dst c v) G M D) ∨
    ((c = true → opP P dst fr G M D K QP r) ∧ (c = false → K (fr.put dst false undef) G M D))
  | r => if r.still = true then stillP P fr c (fun v => K (fr.put dst c v) G M D) r else (c = true → opP P dst fr G M D K QP r) ∧ (c = false → K (fr.put dst false undef) G M D)

/-- One step. -/
def stepP (P : Program) (s : RStep) (fr : Fr) (G : GH) (M : Mem) (D : List Deferred) (K : Fr → GH → Mem → List Deferred → Prop) (QP : Value → GH → Mem → List Deferred → Prop) : Prop :=
  match s.g with
  | none => opP P s.dst fr G M D K QP s.op
  | some (t, want, sp) => match fr.get t with
    | some (g, v) => gopP P sp (g && isB want v) s.dst fr G M D K QP s.op
    | none => False

def rbStep (P : Program) (nt : Nat) (ops : Array Oper) (o : Oper) (s : RStep) : Option RStep :=
  match (match o.dst with | some n => decide (n < nt) | none => true), rbOp P o.op s.op, o.guard with
  | true, some r, none => some ⟨o.dst, none, r⟩
  | true, some r, some (j, want) => match (ops[j]?).bind (·.dst) with
    | some t => some ⟨o.dst, some (t, want, match s.g with | some (_, _, sp) => sp | none => true), r⟩
    | none => none
  | _, _, _ => none

section
variable {P : Program} {nt : Nat} {fr : Fr} {a : Act} {w0 w : World} {G : GH} {M : Mem} {ops : Array Oper}

theorem ldP_mono {n : Option Nat} {hint : Option (Nat × Nat)} {x : Value} {K K' : Value → Prop} (h : ldP G M n hint x K) (hk : ∀ v, K v → K' v) : ldP G M n hint x K' := by
  unfold ldP at *
  split at h
  · split at h
    · split at h
      · refine ⟨h.1, ?_⟩
        have h := h.2
        cases n with
        | none => simp only at h ⊢; split at h <;> simp_all
        | some n => exact ⟨h.1, hk _ h.2⟩
      · exact h.elim
    · cases n with
      | none => obtain ⟨v, h1, h2⟩ := h; exact ⟨v, h1, hk _ h2⟩
      | some n => obtain ⟨v, h1, h2, h3⟩ := h; exact ⟨v, h1, h2, hk _ h3⟩
  · exact h.elim
theorem ldP_self {n : Option Nat} {hint : Option (Nat × Nat)} {x : Value} {K : Value → Prop} (h : ldP G M n hint x K) : ldP G M n hint x fun v => ldP G M n hint x (fun u => u = v) ∧ K v := by
  unfold ldP at *
  split at h
  · split at h
    · split at h
      · refine ⟨h.1, ?_⟩
        have h := h.2
        cases n with
        | none => simp only at h ⊢; split at h <;> simp_all
        | some n => simp_all
      · exact h.elim
    · cases n with
      | none => obtain ⟨v, h1, h2⟩ := h; exact ⟨v, h1, ⟨v, h1, rfl⟩, h2⟩
      | some n => obtain ⟨v, h1, h2, h3⟩ := h; exact ⟨v, h1, h2, ⟨v, h1, h2, rfl⟩, h3⟩
  · exact h.elim
theorem wanted_eq {o : Oper} {j t : Nat} {want g : Bool} {v : Value} (hf : FrOk nt fr a) (hg : o.guard = some (j, want)) (ht : (ops[j]?).bind (·.dst) = some t) (hv : fr.get t = some (g, v)) :
    Region.wanted o (yielded ops a.tmps) = (g && isB want v) := by
  simp only [Region.wanted, hg, yielded, ht, Option.bind_some, hf.val t g v hv]
  cases g with
  | false => simp [undef]
  | true =>
    simp only [vite_true, Bool.true_and]
    cases v <;> simp [isB]

theorem step_run {o : Oper} {s r : RStep} (hr : rbStep P nt ops o s = some r) (hf : FrOk nt fr a) (hv : View w0 G M w)
    {K : Fr → GH → Mem → List Deferred → Prop} {QP : Value → GH → Mem → List Deferred → Prop} {Q : Exit → Act → World → Prop}
    (hQ : ∀ v G' M' w', GLe G G' → QP v G' M' a.defers → View w0 G' M' w' → Q (.panic [{ v, recovered := false }]) a w')
    (h : stepP P r fr G M a.defers K QP) :
    (Region.wanted o (yielded ops a.tmps) = true → o.wp P a w (Behind w0 nt G K) Q) ∧ (Region.wanted o (yielded ops a.tmps) = false → Behind w0 nt G K (a.put o.dst undef) w) := by
  unfold rbStep at hr
  split at hr
  · rename_i r1 hd hop hg
    simp at hr; subst hr
    have hd' : ∀ n, o.dst = some n → n < nt := fun n hn => by rw [hn] at hd; simpa using hd
    have hw : Region.wanted o (yielded ops a.tmps) = true := by simp [Region.wanted, hg]
    exact ⟨fun _ => op_run hop hf hv hd' hQ h, fun hn => by rw [hw] at hn; cases hn⟩
  · rename_i r1 j want hd hop hg
    have hd' : ∀ n, o.dst = some n → n < nt := fun n hn => by rw [hn] at hd; simpa using hd
    split at hr
    · rename_i t ht
      simp at hr; subst hr
      unfold stepP at h
      simp only at h
      split at h
      · rename_i g v hgv
        rw [wanted_eq hf hg ht hgv]
        generalize (g && isB want v) = c at h
        generalize (match s.g with | some (_, _, sp) => sp | none => true) = sp at h
        have hsplit : ((c = true → opP P o.dst fr G M a.defers K QP r1) ∧ (c = false → K (fr.put o.dst false undef) G M a.defers)) →
            (c = true → o.wp P a w (Behind w0 nt G K) Q) ∧ (c = false → Behind w0 nt G K (a.put o.dst undef) w) :=
          fun h => ⟨fun hc => op_run hop hf hv hd' hQ (h.1 hc), fun hc => Behind.put hf hd' (h.2 hc) (GLe.refl G) hv rfl⟩
        have hspec : (∃ v, (c = true → opP P o.dst fr G M a.defers (fun fr' G' M' D' => fr' = fr.put o.dst true v ∧ G' = G ∧ M' = M ∧ D' = a.defers) (fun _ _ _ _ => False) r1) ∧ K (fr.put o.dst c v) G M a.defers) →
            (c = true → o.wp P a w (Behind w0 nt G K) Q) ∧ (c = false → Behind w0 nt G K (a.put o.dst undef) w) := by
          rintro ⟨v, h1, h2⟩
          refine ⟨fun hc => ?_, fun hc => Behind.put hf hd' h2 (GLe.refl G) hv (by simp [hc])⟩
          refine Oper.wp_mono ?_ (op_run hop hf hv hd' (fun _ _ _ _ _ h _ => h.elim) (h1 hc))
          rintro a' w' ⟨fr', G', M', ⟨rfl, rfl, rfl, hD⟩, hg, hf', hv'⟩
          subst hc
          exact ⟨_, _, _, by rw [hD]; exact h2, hg, hf', hv'⟩
        have hrest : (if r1.still = true then stillP P fr c (fun v => K (fr.put o.dst c v) G M a.defers) r1 else (c = true → opP P o.dst fr G M a.defers K QP r1) ∧ (c = false → K (fr.put o.dst false undef) G M a.defers)) →
            (c = true → o.wp P a w (Behind w0 nt G K) Q) ∧ (c = false → Behind w0 nt G K (a.put o.dst undef) w) := by
          intro h
          split at h
          · rename_i hs
            cases c with
            | true =>
              have h' : opP P o.dst fr G M a.defers K QP r1 := by cases r1 <;> first | exact h | cases hs
              exact ⟨fun _ => op_run hop hf hv hd' hQ h', fun hc => by cases hc⟩
            | false =>
              refine ⟨fun hc => (by cases hc), fun _ => ?_⟩
              have hst : ∃ v, K (fr.put o.dst false v) G M a.defers := by
                obtain ⟨v, hk, _⟩ := still_run (rbOp_still hop hs) hf h
                exact ⟨v, hk⟩
              obtain ⟨v, hk⟩ := hst
              exact Behind.put hf hd' hk (GLe.refl G) hv rfl
          · exact hsplit h
        unfold gopP at h
        split at h
        · exact hsplit h
        split at h
        · rename_i n l i x
          obtain ⟨p, hp, h⟩ := with1_iff h
          obtain ⟨v, hk, h3⟩ := ldC_ex (G := G) h
          refine hspec ⟨v, fun hc => ?_, hk⟩
          simp only [opP, effP, with1, hp hc, obl_true, true_and]
          refine ldP_mono (h3 hc) ?_
          rintro u rfl
          simp
        · obtain ⟨v, h1, h2⟩ := h
          refine hspec ⟨v, fun hc => ?_, h2⟩
          obtain ⟨p, hp, h3⟩ := with1_iff (h1 hc)
          simp only [opP, effP, with1, hp rfl, obl_true, true_and]
          refine ldP_mono h3 ?_
          rintro u rfl
          simp
        · exact h.elim hspec hsplit
        · exact h.elim hspec hsplit
        · exact h.elim hspec hsplit
        · exact hrest h
      · exact h.elim
    · cases hr
  · cases hr

/-- How a piece of code ends. -/
inductive Ext where
  | normal
  | exit (id : Nat)
  | ret
  | pan (v : Value)
abbrev QQ := Ext → Fr → GH → Mem → List Deferred → Prop

def Conc (w0 : World) (nt : Nat) (G0 : GH) (Q : QQ) : Exit → Act → World → Prop
  | .normal, a, w => Behind w0 nt G0 (Q .normal) a w
  | .exit id, a, w => Behind w0 nt G0 (Q (.exit id)) a w
  | .ret, a, w => Behind w0 nt G0 (Q .ret) a w
  | .panic ch, a, w => ∃ v fr G M, ch = [{ v, recovered := false }] ∧ Q (.pan v) fr G M a.defers ∧ GLe G0 G ∧ FrOk nt fr a ∧ View w0 G M w
  | _, _, _ => False
/-- The same, where some temporaries are known at a panic. -/
def ConcF (w0 : World) (nt : Nat) (G0 : GH) (Q : QQ) (f0 : Fr) : Exit → Act → World → Prop
  | .panic ch, a, w => FrOk nt f0 a ∧ ∃ v G M, ch = [{ v, recovered := false }] ∧ Q (.pan v) f0 G M a.defers ∧ GLe G0 G ∧ View w0 G M w
  | e, a, w => Conc w0 nt G0 Q e a w
theorem ConcF.conc {G0 : GH} {Q : QQ} {f0 : Fr} {e : Exit} (h : ConcF w0 nt G0 Q f0 e a w) : Conc w0 nt G0 Q e a w := by
  cases e with
  | panic ch => obtain ⟨h0, v, G, M, h1, h2, h3, h4⟩ := h; exact ⟨v, f0, G, M, h1, h2, h3, h0, h4⟩
  | _ => exact h

/-- A step that leaves these temporaries as they are. -/
def RStep.offs (f : Fr) (s : RStep) : Prop := ∀ n, s.dst = some n → f.get n = none
def RStep.off (ps : List Nat) (s : RStep) : Bool := match s.dst with
  | some n => !ps.contains n
  | none => true
theorem Fr.get_keep_none (fr : Fr) : ∀ (l : List Nat) (n : Nat), l.contains n = false → (fr.keep l).get n = none
  | [], n, _ => rfl
  | m :: r, n, h => by
    simp only [List.contains_cons, Bool.or_eq_false_iff, beq_eq_false_iff_ne, ne_eq] at h
    simp only [Fr.keep]
    cases fr.get m with
    | none => exact Fr.get_keep_none fr r n h.2
    | some v => simp only [Fr.get, if_neg h.1]; exact Fr.get_keep_none fr r n h.2
theorem RStep.off_offs {ps : List Nat} {s : RStep} (h : s.off ps = true) (fr : Fr) : s.offs (fr.keep ps) := by
  intro n hn
  simp only [RStep.off, hn, Bool.not_eq_true'] at h
  exact Fr.get_keep_none fr ps n h
theorem FrOk.put_off {f0 : Fr} {dst : Option Nat} {v : Value} (h : FrOk nt f0 a) (hd : ∀ n, dst = some n → f0.get n = none) : FrOk nt f0 (a.put dst v) := by
  cases dst with
  | none => exact h
  | some n =>
    refine ⟨by simp [Act.put, h.size], fun m g u hu => ?_⟩
    have hne : n ≠ m := fun e => by subst e; rw [hd n rfl] at hu; cases hu
    simp only [Act.put, Array.getElem?_setIfInBounds, if_neg hne]
    exact h.val m g u hu
theorem FrOk.of_put {f0 : Fr} {dst : Option Nat} {v : Value} (h : FrOk nt f0 (a.put dst v)) (hd : ∀ n, dst = some n → f0.get n = none) : FrOk nt f0 a := by
  cases dst with
  | none => exact h
  | some n =>
    refine ⟨by simpa [Act.put] using h.size, fun m g u hu => ?_⟩
    have hne : n ≠ m := fun e => by subst e; rw [hd n rfl] at hu; cases hu
    have := h.val m g u hu
    simpa only [Act.put, Array.getElem?_setIfInBounds, if_neg hne] using this
/-- What an operation leaves of the activation. -/
theorem Oper.wp_put {o : Oper} {next : Act → World → Prop} {Q : Exit → Act → World → Prop} (h : o.wp P a w next Q) : o.wp P a w (fun a' w' => next a' w' ∧ ∃ D u, a' = ({ a with defers := D } : Act).put o.dst u) Q := by
  unfold Oper.wp Oper.upon at *
  split at h
  · exact ⟨h, a.defers, _, rfl⟩
  · exact ⟨h, a.defers, _, rfl⟩
  · exact ⟨h, _, _, rfl⟩
  · refine h.mono ?_
    intro e w' he
    cases e with
    | returned v => exact ⟨he, a.defers, _, rfl⟩
    | panicked ch => exact he
    | outgrown => exact he
  · exact h.mono fun v w' he => ⟨he, a.defers, _, rfl⟩
  · exact h
  · exact h.elim

/-- Operations in their order. -/
def RunL (P : Program) (Q : QQ) (f0 : Fr) : List RStep → Fr → GH → Mem → List Deferred → Prop
  | [], fr, G, M, D => Q .normal fr G M D
  | s :: r, fr, G, M, D => stepP P s fr G M D (RunL P Q f0 r) fun v G' M' D' => Q (.pan v) f0 G' M' D'

theorem rbStep_dst {o : Oper} {s r : RStep} (h : rbStep P nt ops o s = some r) : r.dst = o.dst := by
  unfold rbStep at h
  split at h
  · simp at h; subst h; rfl
  · split at h
    · simp at h; subst h; rfl
    · cases h
  · cases h

def rbL (P : Program) (nt : Nat) (ops : Array Oper) : List Nat → List RStep → Option (List RStep)
  | [], [] => some []
  | i :: is, s :: r => match ops[i]? with
    | some o => match rbStep P nt ops o s, rbL P nt ops is r with
      | some s', some r' => some (s' :: r')
      | _, _ => none
    | none => none
  | _, _ => none

theorem runL_sound {G0 : GH} {Q : QQ} {f0 : Fr} : ∀ (is : List Nat) {l l' : List RStep} {fr : Fr} {G : GH} {M : Mem} {a : Act} {w : World}, rbL P nt ops is l = some l' → (∀ s ∈ l', s.offs f0) → RunL P Q f0 l' fr G M a.defers → GLe G0 G → FrOk nt fr a → FrOk nt f0 a → View w0 G M w →
    wpOps P ops (ConcF w0 nt G0 Q f0) is a w
  | [], [], l', fr, G, M, a, w, hr, ho, h, hg, hf, hf0, hv => by
    simp [rbL] at hr; subst hr
    exact ⟨fr, G, M, h, hg, hf, hv⟩
  | [], _ :: _, l', fr, G, M, a, w, hr, ho, h, hg, hf, hf0, hv => by simp [rbL] at hr
  | i :: is, [], l', fr, G, M, a, w, hr, ho, h, hg, hf, hf0, hv => by simp [rbL] at hr
  | i :: is, s :: r, l', fr, G, M, a, w, hr, hoff, h, hg, hf, hf0, hv => by
    simp only [rbL] at hr
    split at hr
    · rename_i o ho
      split at hr
      · rename_i s' r' h1 h2
        simp at hr; subst hr
        simp only [RunL] at h
        have hQ : ∀ v G' M' w', GLe G G' → Q (.pan v) f0 G' M' a.defers → View w0 G' M' w' → ConcF w0 nt G0 Q f0 (.panic [{ v, recovered := false }]) a w' :=
          fun v G' M' w' hg' hq hv' => ⟨hf0, v, G', M', rfl, hq, hg.trans hg', hv'⟩
        obtain ⟨h3, h4⟩ := step_run h1 hf hv hQ h
        have hoff' : ∀ n, o.dst = some n → f0.get n = none := fun n hn => hoff s' (by simp) n (by rw [rbStep_dst h1]; exact hn)
        have next : ∀ a' w', FrOk nt f0 a' → Behind w0 nt G (RunL P Q f0 r') a' w' → wpOps P ops (ConcF w0 nt G0 Q f0) is a' w' := by
          rintro a' w' hf0' ⟨fr', G', M', hk, hg', hf', hv'⟩
          exact runL_sound is h2 (fun s hs => hoff s (by simp [hs])) hk (hg.trans hg') hf' hf0' hv'
        simp only [wpOps, ho]
        split
        · rename_i hw
          refine .inl (Oper.wp_mono ?_ (Oper.wp_put (h3 hw)))
          rintro a' w' ⟨hb, D, u, rfl⟩
          exact next _ _ ((hf0.defers D).put_off hoff') hb
        · rename_i hw
          exact next _ _ (hf0.put_off hoff') (h4 (by simpa using hw))
      · cases hr
    · cases hr

/-- A region whose order is drawn: what is taken first, and what comes up alone. -/
inductive RTree where
  | done
  | take (i : Nat) (s : RStep) (t : RTree)
  | held (i : Nat) (s : RStep) (t : RTree)
  | exec (dr : List Nat) (i : Nat) (s : RStep) (t : RTree)
  | fork (i : Nat) (s : RStep) (t : RTree) (j : Nat) (s' : RStep) (t' : RTree)
  | fork3 (i : Nat) (s : RStep) (t : RTree) (j : Nat) (s' : RStep) (t' : RTree) (k : Nat) (s'' : RStep) (t'' : RTree)
def RTree.offs (f : Fr) : RTree → Prop
  | .done => True
  | .take _ s t | .held _ s t | .exec _ _ s t => s.offs f ∧ t.offs f
  | .fork _ s t _ s' t' => (s.offs f ∧ t.offs f) ∧ s'.offs f ∧ t'.offs f
  | .fork3 _ s t _ s' t' _ s'' t'' => (s.offs f ∧ t.offs f) ∧ (s'.offs f ∧ t'.offs f) ∧ s''.offs f ∧ t''.offs f
def RTree.off (ps : List Nat) : RTree → Bool
  | .done => true
  | .take _ s t | .held _ s t | .exec _ _ s t => s.off ps && t.off ps
  | .fork _ s t _ s' t' => (s.off ps && t.off ps) && (s'.off ps && t'.off ps)
  | .fork3 _ s t _ s' t' _ s'' t'' => (s.off ps && t.off ps) && ((s'.off ps && t'.off ps) && (s''.off ps && t''.off ps))
theorem RTree.off_offs {ps : List Nat} (fr : Fr) : ∀ {t : RTree}, t.off ps = true → t.offs (fr.keep ps)
  | .done, _ => trivial
  | .take _ s t, h | .held _ s t, h | .exec _ _ s t, h => by
    simp only [RTree.off, Bool.and_eq_true] at h
    exact ⟨RStep.off_offs h.1 fr, RTree.off_offs fr h.2⟩
  | .fork _ s t _ s' t', h => by
    simp only [RTree.off, Bool.and_eq_true] at h
    exact ⟨⟨RStep.off_offs h.1.1 fr, RTree.off_offs fr h.1.2⟩, RStep.off_offs h.2.1 fr, RTree.off_offs fr h.2.2⟩
  | .fork3 _ s t _ s' t' _ s'' t'', h => by
    simp only [RTree.off, Bool.and_eq_true] at h
    exact ⟨⟨RStep.off_offs h.1.1 fr, RTree.off_offs fr h.1.2⟩, ⟨RStep.off_offs h.2.1.1 fr, RTree.off_offs fr h.2.1.2⟩, RStep.off_offs h.2.2.1 fr, RTree.off_offs fr h.2.2.2⟩

/-- What was loaded ahead. -/
abbrev Hold := List (Nat × Option Nat × Option (Nat × Nat) × Value × Value)
def holdP (G : GH) (M : Mem) : Hold → Prop
  | [] => True
  | (_, n, hint, p, v) :: r => ldP G M n hint p (fun u => u = v) ∧ holdP G M r
def HoldS (P : Program) (ops : Array Oper) (H : Hold) (dn : List Nat) (w : World) : Prop := ∀ x ∈ H, clearD ops x.1 dn → ∀ t, aggN P t = some x.2.1 → (Instr.loadAt t x.2.2.2.1).run P w = .ok x.2.2.2.2 w
theorem HoldS.more {P : Program} {ops : Array Oper} {H : Hold} (dn dn' : List Nat) (w : World) (hs : ∀ x ∈ dn, x ∈ dn') (h : HoldS P ops H dn w) : HoldS P ops H dn' w :=
  fun x hx hc t ht => h x hx (fun j hj => hc j (hs j hj)) t ht
def inL : List Nat → Nat → Bool
  | [], _ => false
  | m :: r, n => if n = m then true else inL r n
theorem inL_iff {n : Nat} : ∀ {l : List Nat}, inL l n = true ↔ n ∈ l
  | [] => by simp [inL]
  | m :: r => by simp only [inL, List.mem_cons]; split <;> simp_all [inL_iff]
/-- What need not be answered for any more is dropped. -/
def dropH (dr : List Nat) : Hold → Hold
  | [] => []
  | x :: r => if inL dr x.1 = true then dropH dr r else x :: dropH dr r
theorem mem_dropH {dr : List Nat} {x : Nat × Option Nat × Option (Nat × Nat) × Value × Value} : ∀ {H : Hold}, x ∈ H → x ∈ dropH dr H ∨ x.1 ∈ dr
  | [], h => by cases h
  | y :: r, h => by
    simp only [dropH]
    rcases List.mem_cons.1 h with rfl | h
    · split
      · rename_i hd; exact .inr (inL_iff.1 hd)
      · exact .inl (List.mem_cons_self ..)
    · rcases mem_dropH (dr := dr) h with h | h
      · split
        · exact .inl h
        · exact .inl (List.mem_cons_of_mem _ h)
      · exact .inr h
def waitsFor (o : Oper) (dr : List Nat) : Bool := dr.all fun d => o.after.any fun e => Region.binds .any e && e.on == d
theorem HoldS.drop {P : Program} {ops : Array Oper} {H : Hold} {dr : List Nat} {i : Nat} {o : Oper} (ho : ops[i]? = some o) (hw : waitsFor o dr = true) (dn : List Nat) (w : World) (hi : i ∈ dn) (h : HoldS P ops (dropH dr H) dn w) : HoldS P ops H dn w := by
  intro x hx hc t ht
  rcases mem_dropH (dr := dr) hx with h1 | h1
  · exact h x h1 hc t ht
  · exfalso
    have h2 := List.all_eq_true.1 hw x.1 h1
    obtain ⟨e, he, hb⟩ := Array.any_eq_true'.1 h2
    simp only [Bool.and_eq_true, beq_iff_eq] at hb
    exact hc i hi o ho e he hb.1 hb.2

def heldP (i : Nat) (s : RStep) (fr : Fr) (G : GH) (M : Mem) (H : Hold) (K : Hold → Fr → Prop) : Prop :=
  match s.op with
  | .ld n hint x =>
    match s.g with
    | none => with1 fr true x fun p => ldP G M n hint p fun v => K ((i, n, hint, p, v) :: H) (fr.put s.dst true v)
    | some (t, want, _) => match fr.get t with
      | some (g, b) => ((g && isB want b) = true → with1 fr true x fun p => ldP G M n hint p fun v => K ((i, n, hint, p, v) :: H) (fr.put s.dst true v)) ∧
          ((g && isB want b) = false → K H (fr.put s.dst false undef))
      | none => False
  | _ => False

def takeP (P : Program) (s : RStep) (fr : Fr) (K : Fr → Prop) : Prop :=
  match s.g with
  | none => stillP P fr true (fun v => K (fr.put s.dst true v)) s.op
  | some (t, want, sp) => match fr.get t with
    | some (g, b) => match sp with
      | true => stillP P fr (g && isB want b) (fun v => K (fr.put s.dst (g && isB want b) v)) s.op
      | false => condP (g && isB want b) (stillP P fr true (fun v => K (fr.put s.dst true v)) s.op) (K (fr.put s.dst false undef))
    | none => False

def RunT (P : Program) (Q : QQ) (f0 : Fr) : RTree → Hold → Fr → GH → Mem → List Deferred → Prop
  | .done, _, fr, G, M, D => Q .normal fr G M D
  | .take _ s t, H, fr, G, M, D => takeP P s fr fun fr' => RunT P Q f0 t H fr' G M D
  | .held i s t, H, fr, G, M, D => heldP i s fr G M H fun H' fr' => RunT P Q f0 t H' fr' G M D
  | .exec dr _ s t, H, fr, G, M, D => stepP P s fr G M D (fun fr' G' M' D' => holdP G' M' (dropH dr H) ∧ RunT P Q f0 t (dropH dr H) fr' G' M' D') fun v G' M' D' => Q (.pan v) f0 G' M' D'
  | .fork _ s t _ s' t', H, fr, G, M, D =>
    stepP P s fr G M D (fun fr' G' M' D' => holdP G' M' H ∧ RunT P Q f0 t H fr' G' M' D') (fun v G' M' D' => Q (.pan v) f0 G' M' D') ∧
    stepP P s' fr G M D (fun fr' G' M' D' => holdP G' M' H ∧ RunT P Q f0 t' H fr' G' M' D') (fun v G' M' D' => Q (.pan v) f0 G' M' D')
  | .fork3 _ s t _ s' t' _ s'' t'', H, fr, G, M, D =>
    stepP P s fr G M D (fun fr' G' M' D' => holdP G' M' H ∧ RunT P Q f0 t H fr' G' M' D') (fun v G' M' D' => Q (.pan v) f0 G' M' D') ∧
    stepP P s' fr G M D (fun fr' G' M' D' => holdP G' M' H ∧ RunT P Q f0 t' H fr' G' M' D') (fun v G' M' D' => Q (.pan v) f0 G' M' D') ∧
    stepP P s'' fr G M D (fun fr' G' M' D' => holdP G' M' H ∧ RunT P Q f0 t'' H fr' G' M' D') (fun v G' M' D' => Q (.pan v) f0 G' M' D')

def rbT (P : Program) (nt : Nat) (ops : Array Oper) (listed : Array Bool) : RTree → Option RTree
  | .done => if Region.ready .any ops listed = [] then some .done else none
  | .take i s t => match ops[i]? with
    | some o => if Region.free .any ops listed i = true ∧ (Region.ready .any ops listed).contains i = true then
        match rbStep P nt ops o s, rbT P nt ops (listed.setIfInBounds i true) t with
        | some s', some t' => if s'.op.still = true then some (.take i s' t') else none
        | _, _ => none
      else none
    | none => none
  | .held i s t => match ops[i]? with
    | some o => if Region.free .any ops listed i = true ∧ (Region.ready .any ops listed).contains i = true then
        match rbStep P nt ops o s, rbT P nt ops (listed.setIfInBounds i true) t with
        | some s', some t' => some (.held i s' t')
        | _, _ => none
      else none
    | none => none
  | .exec dr i s t => match ops[i]? with
    | some o => if Region.ready .any ops listed = [i] ∧ waitsFor o dr = true then
        match rbStep P nt ops o s, rbT P nt ops (listed.setIfInBounds i true) t with
        | some s', some t' => some (.exec dr i s' t')
        | _, _ => none
      else none
    | none => none
  | .fork i s t j s1 t1 => match ops[i]?, ops[j]? with
    | some o, some o1 => if Region.ready .any ops listed = [i, j] then
        match rbStep P nt ops o s, rbT P nt ops (listed.setIfInBounds i true) t, rbStep P nt ops o1 s1, rbT P nt ops (listed.setIfInBounds j true) t1 with
        | some s', some t', some s1', some t1' => some (.fork i s' t' j s1' t1')
        | _, _, _, _ => none
      else none
    | _, _ => none
  | .fork3 i s t j s1 t1 k s2 t2 => match ops[i]?, ops[j]?, ops[k]? with
    | some o, some o1, some o2 => if Region.ready .any ops listed = [i, j, k] then
        match rbStep P nt ops o s, rbT P nt ops (listed.setIfInBounds i true) t, rbStep P nt ops o1 s1, rbT P nt ops (listed.setIfInBounds j true) t1 with
        | some s', some t', some s1', some t1' => match rbStep P nt ops o2 s2, rbT P nt ops (listed.setIfInBounds k true) t2 with
          | some s2', some t2' => some (.fork3 i s' t' j s1' t1' k s2' t2')
          | _, _ => none
        | _, _, _, _ => none
      else none
    | _, _, _ => none
def RTree.size : RTree → Nat
  | .done => 0
  | .take _ _ t | .held _ _ t | .exec _ _ _ t => t.size + 1
  | .fork _ _ t _ _ t' => max t.size t'.size + 1
  | .fork3 _ _ t _ _ t' _ _ t'' => max (max t.size t'.size) t''.size + 1

theorem rbOp_ld {op : Op} {s : ROp} {n : Option Nat} {hint : Option (Nat × Nat)} {x : Opd} (h : rbOp P op s = some (.ld n hint x)) : ∃ t y, op = .load t y ∧ aggN P t = some n ∧ x = opd y := by
  have hst : ∀ r, rbStill P op s = some r → r ≠ .ld n hint x := fun r hr e => by subst e; cases rbStill_plain hr
  have he : rbEff P op s = some (.ld n hint x) := by
    have plain : (match rbEff P op s with | some r => some r | none => rbStill P op s) = some (.ld n hint x) → rbEff P op s = some (.ld n hint x) := by
      intro h
      split at h
      · rename_i r1 he; rw [he]; exact h
      · exact absurd rfl (hst _ h)
    cases s <;> first | exact plain h | skip
    all_goals
      simp only [rbOp] at h
      repeat' split at h
      all_goals first
        | (cases h; done)
        | (simp at h; done)
  clear h hst
  cases op <;> simp only [rbEff] at he
  case load t y =>
    split at he
    · simp only [Option.map_eq_some_iff] at he
      obtain ⟨m, hm, he⟩ := he
      cases he
      exact ⟨t, y, rfl, hm, rfl⟩
    · cases he
  all_goals
    exfalso
    revert he
    (repeat' split) <;> intro h <;> first
      | (cases h; done)
      | contradiction
      | (simp [Option.map_eq_some_iff] at h; done)

theorem hold_of {H : Hold} {dn : List Nat} (h : holdP G M H) (hv : View w0 G M w) : HoldS P ops H dn w := by
  induction H with
  | nil => intro x hx; cases hx
  | cons y r ih =>
    obtain ⟨i, n, hint, p, v⟩ := y
    intro x hx hc t ht
    rcases List.mem_cons.1 hx with rfl | hx
    · obtain ⟨u, rfl, hr⟩ := ld_run hv ht h.1
      exact hr
    · exact ih h.2 x hx hc t ht

theorem rbStep_iff {o : Oper} {s r : RStep} (h : rbStep P nt ops o s = some r) : r.dst = o.dst ∧ (∀ n, o.dst = some n → n < nt) ∧ rbOp P o.op s.op = some r.op ∧
    ((o.guard = none ∧ r.g = none) ∨ ∃ j want t sp, o.guard = some (j, want) ∧ (ops[j]?).bind (·.dst) = some t ∧ r.g = some (t, want, sp)) := by
  unfold rbStep at h
  split at h
  · rename_i r1 hd hop hg
    simp at h; subst h
    exact ⟨rfl, fun n hn => by rw [hn] at hd; simpa using hd, hop, .inl ⟨hg, rfl⟩⟩
  · rename_i r1 j want hd hop hg
    split at h
    · rename_i t ht
      simp at h; subst h
      exact ⟨rfl, fun n hn => by rw [hn] at hd; simpa using hd, hop, .inr ⟨j, want, t, _, hg, ht, rfl⟩⟩
    · cases h
  · cases h

theorem conc_put {G0 : GH} {Q : QQ} {f0 : Fr} {dst : Option Tmp} {v : Value} (hd : ∀ n, dst = some n → f0.get n = none) (c : List PanicEntry) (a : Act) (w : World) (h : ConcF w0 nt G0 Q f0 (.panic c) (a.put dst v) w) : ConcF w0 nt G0 Q f0 (.panic c) a w := by
  obtain ⟨h1, h2⟩ := h
  refine ⟨h1.of_put hd, ?_⟩
  cases dst <;> exact h2

theorem exec_sound {G0 : GH} {Q : QQ} {f0 : Fr} {i : Nat} {o : Oper} {s s' : RStep} {K : Fr → GH → Mem → List Deferred → Prop} {K' : Act → World → Prop} (ho : ops[i]? = some o) (hs : rbStep P nt ops o s = some s') (hoff : s'.offs f0)
    (h : stepP P s' fr G M a.defers K fun v G' M' D' => Q (.pan v) f0 G' M' D') (hg : GLe G0 G) (hf : FrOk nt fr a) (hf0 : FrOk nt f0 a) (hv : View w0 G M w)
    (hk : ∀ fr G M a w, K fr G M a.defers → GLe G0 G → FrOk nt fr a → FrOk nt f0 a → View w0 G M w → K' a w) : wpOp P ops (ConcF w0 nt G0 Q f0) i K' a w := by
  have hQ : ∀ v G' M' w', GLe G G' → Q (.pan v) f0 G' M' a.defers → View w0 G' M' w' → ConcF w0 nt G0 Q f0 (.panic [{ v, recovered := false }]) a w' :=
    fun v G' M' w' hg' hq hv' => ⟨hf0, v, G', M', rfl, hq, hg.trans hg', hv'⟩
  obtain ⟨h3, h4⟩ := step_run hs hf hv hQ h
  have hoff' : ∀ n, o.dst = some n → f0.get n = none := fun n hn => hoff n (by rw [rbStep_dst hs]; exact hn)
  have next : ∀ a' w', FrOk nt f0 a' → Behind w0 nt G K a' w' → K' a' w' := by
    rintro a' w' hf0' ⟨fr', G', M', hkk, hg', hf', hv'⟩
    exact hk _ _ _ _ _ hkk (hg.trans hg') hf' hf0' hv'
  unfold wpOp
  simp only [ho]
  split
  · rename_i hw
    refine .inl (Oper.wp_mono ?_ (Oper.wp_put (h3 hw)))
    rintro a' w' ⟨hb, D, u, rfl⟩
    exact next _ _ ((hf0.defers D).put_off hoff') hb
  · rename_i hw
    exact next _ _ (hf0.put_off hoff') (h4 (by simpa using hw))

theorem runT_sound {G0 : GH} {Q : QQ} {f0 : Fr} (hsel : Region.noSelect ops = true) : ∀ (t : RTree) {listed : Array Bool} {t' : RTree} {H : Hold} {fr : Fr} {G : GH} {M : Mem} {a : Act} {w : World} {fuel : Nat} {dn : List Nat},
    rbT P nt ops listed t = some t' → t.size ≤ fuel → t'.offs f0 → RunT P Q f0 t' H fr G M a.defers → GLe G0 G → FrOk nt fr a → FrOk nt f0 a → View w0 G M w → HoldS P ops H dn w → Inv ops listed dn →
    wpAnyD P ops (ConcF w0 nt G0 Q f0) (HoldS P ops H) fuel listed dn a w
  | .done, listed, t', H, fr, G, M, a, w, fuel, dn, hr, hfu, hoff, h, hg, hf, hf0, hv, hS, hI => by
    simp only [rbT] at hr
    split at hr
    · rename_i hrd
      simp at hr; subst hr
      exact wpAnyD_done hrd ⟨fr, G, M, h, hg, hf, hv⟩ fuel
    · cases hr
  | .take i s t, listed, t', H, fr, G, M, a, w, fuel, dn, hr, hfu, hoff, h, hg, hf, hf0, hv, hS, hI => by
    simp only [rbT] at hr
    split at hr
    · rename_i o ho
      split at hr
      · rename_i hfr
        split at hr
        · rename_i s' t1 h1 h2
          split at hr
          · rename_i hst
            simp at hr; subst hr
            obtain ⟨fuel, rfl⟩ : ∃ k, fuel = k + 1 := ⟨fuel - 1, by simp only [RTree.size] at hfu; omega⟩
            simp only [RTree.size] at hfu
            obtain ⟨hdst, hd, hop, hgd⟩ := rbStep_iff h1
            have hop' := rbOp_still hop hst
            simp only [RunT, takeP] at h
            have hmain0 : ∀ c v, Region.wanted o (yielded ops a.tmps) = c → (c = true → ∀ w, (execOp a.eval o).run P w = .ok (.value v) w) → RunT P Q f0 t1 H (fr.put s'.dst c v) G M a.defers → wpAnyD P ops (ConcF w0 nt G0 Q f0) (HoldS P ops H) (fuel + 1) listed dn a w := by
              intro c v hc hrun hk
              have hy : YieldsIf P ops (fun w => ∃ dn, clearD ops i dn ∧ HoldS P ops H dn w) o (vite c v undef) a := by
                cases c with
                | true => exact .inl ⟨hc, fun w _ => hrun rfl w⟩
                | false => exact .inr ⟨hc, rfl⟩
              refine wpAnyD_take HoldS.more ho hsel hfr.1 hfr.2 hI (fun c a w => conc_put (fun n hn => hoff.1 n (by rw [hdst]; exact hn)) c a w) hy hS ?_
              rw [hdst] at hk
              refine runT_sound hsel t h2 (by omega) hoff.2 (fr := fr.put o.dst c v) (G := G) (M := M) ?_ hg (hf.put hd c v) (hf0.put_off fun n hn => hoff.1 n (by rw [hdst]; exact hn)) hv hS (hI.take i)
              cases hdo : o.dst <;> rw [hdo] at hk <;> exact hk
            have hmain : ∀ c, Region.wanted o (yielded ops a.tmps) = c → stillP P fr c (fun v => RunT P Q f0 t1 H (fr.put s'.dst c v) G M a.defers) s'.op → wpAnyD P ops (ConcF w0 nt G0 Q f0) (HoldS P ops H) (fuel + 1) listed dn a w := by
              intro c hc h
              obtain ⟨v, hk, hrun⟩ := still_run hop' hf h
              exact hmain0 c v hc hrun hk
            rcases hgd with ⟨hg0, hg1⟩ | ⟨j, want, tt, sp, hg0, hgt, hg1⟩
            · rw [hg1] at h
              exact hmain true (by simp [Region.wanted, hg0]) h
            · rw [hg1] at h
              simp only at h
              split at h
              · rename_i g b hgb
                have hwe := wanted_eq hf hg0 hgt hgb
                cases sp with
                | true => exact hmain _ hwe h
                | false =>
                  simp only at h
                  cases hc : (g && isB want b) with
                  | true => exact hmain true (hwe.trans hc) (h.1 hc)
                  | false => exact hmain0 false undef (hwe.trans hc) (fun hx => by cases hx) (h.2 hc)
              · exact h.elim
          · cases hr
        · cases hr
      · cases hr
    · cases hr
  | .held i s t, listed, t', H, fr, G, M, a, w, fuel, dn, hr, hfu, hoff, h, hg, hf, hf0, hv, hS, hI => by
    simp only [rbT] at hr
    split at hr
    · rename_i o ho
      split at hr
      · rename_i hfr
        split at hr
        · rename_i s' t1 h1 h2
          simp at hr; subst hr
          obtain ⟨fuel, rfl⟩ : ∃ k, fuel = k + 1 := ⟨fuel - 1, by simp only [RTree.size] at hfu; omega⟩
          simp only [RTree.size] at hfu
          obtain ⟨hdst, hd, hop, hgd⟩ := rbStep_iff h1
          obtain ⟨dst, g, op⟩ := s'
          simp only at hdst hop hgd
          subst hdst
          simp only [RunT, heldP] at h
          split at h
          · rename_i n hint x
            obtain ⟨t0, y, hop1, hn, rfl⟩ := rbOp_ld hop
            have hyes : Region.wanted o (yielded ops a.tmps) = true → (with1 fr true (opd y) fun p => ldP G M n hint p fun v => RunT P Q f0 t1 ((i, n, hint, p, v) :: H) (fr.put o.dst true v) G M a.defers) →
                wpAnyD P ops (ConcF w0 nt G0 Q f0) (HoldS P ops H) (fuel + 1) listed dn a w := by
              intro hw h
              obtain ⟨p, hp, h⟩ := with1_iff h
              obtain ⟨v, ⟨hl, hk⟩, hrun⟩ := ld_run hv hn (K := fun v => ldP G M n hint p (fun u => u = v) ∧ RunT P Q f0 t1 ((i, n, hint, p, v) :: H) (fr.put o.dst true v) G M a.defers) (by
                exact ldP_self h)
              have hS' : HoldS P ops ((i, n, hint, p, v) :: H) dn w := by
                intro x hx hc t ht
                rcases List.mem_cons.1 hx with rfl | hx
                · obtain ⟨u, rfl, hr⟩ := ld_run hv ht hl
                  exact hr
                · exact hS x hx hc t ht
              have hy : YieldsIf P ops (fun w => ∃ dn, clearD ops i dn ∧ HoldS P ops ((i, n, hint, p, v) :: H) dn w) o v a := by
                refine .inl ⟨hw, fun w' ⟨dn', hc', hw'⟩ => ?_⟩
                have := hw' _ (List.mem_cons_self ..) hc' t0 hn
                obtain ⟨odst, oop, otype, opos, oafter, oguard⟩ := o
                simp only at hop1
                subst hop1
                simp only at this
                simp [execOp, opd_eval hf y (hp rfl), this]
              refine wpAnyD_weaken' (S' := HoldS P ops ((i, n, hint, p, v) :: H)) (fun dn w hw x hx => hw x (List.mem_cons_of_mem _ hx)) _ _ _ _ _ ?_
              refine wpAnyD_take HoldS.more ho hsel hfr.1 hfr.2 hI (fun c a w => conc_put (fun n hn => hoff.1 n hn) c a w) hy hS' ?_
              refine runT_sound hsel t h2 (by omega) hoff.2 (fr := fr.put o.dst true v) (G := G) (M := M) ?_ hg (hf.put hd true v) (hf0.put_off fun n hn => hoff.1 n hn) hv hS' (hI.take i)
              cases hdo : o.dst <;> rw [hdo] at hk <;> exact hk
            have hno : Region.wanted o (yielded ops a.tmps) = false → RunT P Q f0 t1 H (fr.put o.dst false undef) G M a.defers → wpAnyD P ops (ConcF w0 nt G0 Q f0) (HoldS P ops H) (fuel + 1) listed dn a w := by
              intro hw hk
              refine wpAnyD_take HoldS.more ho hsel hfr.1 hfr.2 hI (fun c a w => conc_put (fun n hn => hoff.1 n hn) c a w) (v := undef) (.inr ⟨hw, rfl⟩) hS ?_
              refine runT_sound hsel t h2 (by omega) hoff.2 (fr := fr.put o.dst false undef) (G := G) (M := M) ?_ hg (hf.put hd false undef) (hf0.put_off fun n hn => hoff.1 n hn) hv hS (hI.take i)
              cases hdo : o.dst <;> rw [hdo] at hk <;> exact hk
            rcases hgd with ⟨hg0, rfl⟩ | ⟨j, want, tt, sp, hg0, hgt, rfl⟩
            · exact hyes (by simp [Region.wanted, hg0]) h
            · simp only at h
              split at h
              · rename_i g b hgb
                have hwe := wanted_eq hf hg0 hgt hgb
                cases hc : (g && isB want b) with
                | true => exact hyes (hwe.trans hc) (h.1 hc)
                | false => exact hno (hwe.trans hc) (h.2 hc)
              · exact h.elim
          · exact h.elim
        · cases hr
      · cases hr
    · cases hr
  | .exec dr i s t, listed, t', H, fr, G, M, a, w, fuel, dn, hr, hfu, hoff, h, hg, hf, hf0, hv, hS, hI => by
    simp only [rbT] at hr
    split at hr
    · rename_i o ho
      split at hr
      · rename_i hrd
        split at hr
        · rename_i s' t1 h1 h2
          simp at hr; subst hr
          obtain ⟨fuel, rfl⟩ : ∃ k, fuel = k + 1 := ⟨fuel - 1, by simp only [RTree.size] at hfu; omega⟩
          simp only [RTree.size] at hfu
          simp only [RunT] at h
          have hI' : Inv ops (listed.setIfInBounds i true) (i :: dn) := hI.exec (by rw [hrd.1]; simp)
          refine wpAnyD_all hrd.1 (by simp) fun k hk => ?_
          simp only [List.mem_singleton] at hk
          subst hk
          refine exec_sound ho h1 hoff.1 h hg hf hf0 hv ?_
          rintro fr G M a w ⟨hh, hk⟩ hg hf hf0 hv
          refine ⟨HoldS.drop ho hrd.2 _ _ (List.mem_cons_self ..) (hold_of hh hv), ?_⟩
          exact wpAnyD_weaken (S' := HoldS P ops (dropH dr H)) (fun dn w hi h => HoldS.drop ho hrd.2 dn w hi h) _ _ _ _ _ (List.mem_cons_self ..) (runT_sound hsel t h2 (by omega) hoff.2 hk hg hf hf0 hv (hold_of hh hv) hI')
        · cases hr
      · cases hr
    · cases hr
  | .fork i s t j s1 t1, listed, t', H, fr, G, M, a, w, fuel, dn, hr, hfu, hoff, h, hg, hf, hf0, hv, hS, hI => by
    simp only [rbT] at hr
    split at hr
    · rename_i o o1 ho ho1
      split at hr
      · rename_i hrd
        split at hr
        · rename_i s' t' s1' t1' h1 h2 h3 h4
          simp at hr; subst hr
          obtain ⟨fuel, rfl⟩ : ∃ k, fuel = k + 1 := ⟨fuel - 1, by simp only [RTree.size] at hfu; omega⟩
          simp only [RTree.size] at hfu
          simp only [RunT] at h
          refine wpAnyD_all hrd (by simp) fun k hk => ?_
          have hI' : Inv ops (listed.setIfInBounds k true) (k :: dn) := hI.exec (by rw [hrd]; exact hk)
          simp only [List.mem_cons, List.not_mem_nil, or_false] at hk
          rcases hk with rfl | rfl
          · refine exec_sound ho h1 hoff.1.1 h.1 hg hf hf0 hv ?_
            rintro fr G M a w ⟨hh, hk⟩ hg hf hf0 hv
            exact ⟨hold_of hh hv, runT_sound hsel t h2 (by omega) hoff.1.2 hk hg hf hf0 hv (hold_of hh hv) hI'⟩
          · refine exec_sound ho1 h3 hoff.2.1 h.2 hg hf hf0 hv ?_
            rintro fr G M a w ⟨hh, hk⟩ hg hf hf0 hv
            exact ⟨hold_of hh hv, runT_sound hsel t1 h4 (by omega) hoff.2.2 hk hg hf hf0 hv (hold_of hh hv) hI'⟩
        · cases hr
      · cases hr
    · cases hr
  | .fork3 i s t j s1 t1 k s2 t2, listed, t', H, fr, G, M, a, w, fuel, dn, hr, hfu, hoff, h, hg, hf, hf0, hv, hS, hI => by
    simp only [rbT] at hr
    split at hr
    · rename_i o o1 o2 ho ho1 ho2
      split at hr
      · rename_i hrd
        split at hr
        · rename_i s' t' s1' t1' h1 h2 h3 h4
          split at hr
          · rename_i s2' t2' h5 h6
            simp at hr; subst hr
            obtain ⟨fuel, rfl⟩ : ∃ k, fuel = k + 1 := ⟨fuel - 1, by simp only [RTree.size] at hfu; omega⟩
            simp only [RTree.size] at hfu
            simp only [RunT] at h
            refine wpAnyD_all hrd (by simp) fun k hk => ?_
            have hI' : Inv ops (listed.setIfInBounds k true) (k :: dn) := hI.exec (by rw [hrd]; exact hk)
            simp only [List.mem_cons, List.not_mem_nil, or_false] at hk
            rcases hk with rfl | rfl | rfl
            · refine exec_sound ho h1 hoff.1.1 h.1 hg hf hf0 hv ?_
              rintro fr G M a w ⟨hh, hk⟩ hg hf hf0 hv
              exact ⟨hold_of hh hv, runT_sound hsel t h2 (by omega) hoff.1.2 hk hg hf hf0 hv (hold_of hh hv) hI'⟩
            · refine exec_sound ho1 h3 hoff.2.1.1 h.2.1 hg hf hf0 hv ?_
              rintro fr G M a w ⟨hh, hk⟩ hg hf hf0 hv
              exact ⟨hold_of hh hv, runT_sound hsel t1 h4 (by omega) hoff.2.1.2 hk hg hf hf0 hv (hold_of hh hv) hI'⟩
            · refine exec_sound ho2 h5 hoff.2.2.1 h.2.2 hg hf hf0 hv ?_
              rintro fr G M a w ⟨hh, hk⟩ hg hf hf0 hv
              exact ⟨hold_of hh hv, runT_sound hsel t2 h6 (by omega) hoff.2.2.2 hk hg hf hf0 hv (hold_of hh hv) hI'⟩
          · cases hr
        · cases hr
      · cases hr
    · cases hr
end
end Go.Gv
