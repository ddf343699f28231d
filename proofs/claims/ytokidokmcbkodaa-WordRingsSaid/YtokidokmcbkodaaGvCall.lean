/-
  Calls: what is known of a function that is entered, and one step of a running function, sound. No condition.
-/
import Derived.Test.YtokidokmcbkodaaGvEff
import Derived.Defers
namespace Go.Gv
open Go.RowKit

/-- How a call ends. -/
inductive Out where
  | ret (v : Value)
  | pan (v : Value)

/-- A function that is entered where it is called. -/
def FnOk (P : Program) (f : FuncId) : Bool :=
  match P.funcs[f]? with
  | some fn => fn.name != "runtime.NumGoroutine" && fn.body.isSome
  | none => false

/-- What a call does, with the blocks that are lent to it. -/
def ACalls (P : Program) (f : FuncId) (args : List Value) (G : GH) (Es : List (List Ent)) (R : Out → GH → List (List Ent) → Prop) : Prop :=
  FnOk P f = true ∧ ∀ (w0 w : World) (F : List Ent), View w0 G [(0, Es.flatten ++ F)] w →
    Calls P f args.toArray w fun e w' => ∃ o G' Es', GLe G G' ∧ View w0 G' [(0, Es'.flatten ++ F)] w' ∧ R o G' Es' ∧
      match e with
      | .returned v => o = .ret v
      | .panicked ch => ∃ v, o = .pan v ∧ ch = [{ v, recovered := false }]
      | .outgrown => False

theorem ACalls.mono {P : Program} {f : FuncId} {args : List Value} {G : GH} {Es : List (List Ent)} {R R' : Out → GH → List (List Ent) → Prop}
    (h : ACalls P f args G Es R) (hr : ∀ o G' Es', GLe G G' → R o G' Es' → R' o G' Es') : ACalls P f args G Es R' :=
  ⟨h.1, fun w0 w F hv => (h.2 w0 w F hv).mono fun _ _ ⟨o, G', Es', h1, h2, h3, h4⟩ => ⟨o, G', Es', h1, h2, hr _ _ _ h1 h3, h4⟩⟩

/-- A block list taken out of what is known. -/
def Mem.pull : Mem → Nat → Option (List Ent × Mem)
  | [], _ => none
  | (m, es) :: r, n => if n = m then some (es, r) else match Mem.pull r n with
    | some (fs, r') => some (fs, (m, es) :: r')
    | none => none
def Mem.pulls (M : Mem) : List Nat → Option (List (List Ent) × Mem)
  | [] => some ([], M)
  | l :: r => match M.pull l with
    | some (es, M1) => match Mem.pulls M1 r with
      | some (ess, M2) => some (es :: ess, M2)
      | none => none
    | none => none
theorem Mem.pull_all {M M1 : Mem} {l : Nat} {es : List Ent} (h : M.pull l = some (es, M1)) : M.all.Perm (es ++ M1.all) := by
  induction M generalizing M1 with
  | nil => simp [Mem.pull] at h
  | cons x r ih =>
    obtain ⟨m, fs⟩ := x
    simp only [Mem.pull] at h
    split at h
    · simp at h; obtain ⟨rfl, rfl⟩ := h; simp [Mem.all]
    · split at h
      · rename_i gs r' hr
        simp at h; obtain ⟨rfl, rfl⟩ := h
        have := ih hr
        simp only [Mem.all, List.flatMap_cons] at this ⊢
        refine (this.append_left fs).trans ?_
        rw [← List.append_assoc, ← List.append_assoc]
        exact List.perm_append_comm.append_right _
      · cases h
theorem Mem.pulls_all : ∀ {ls : List Nat} {M M2 : Mem} {Es : List (List Ent)}, M.pulls ls = some (Es, M2) → M.all.Perm (Es.flatten ++ M2.all)
  | [], M, M2, Es, h => by simp [Mem.pulls] at h; obtain ⟨rfl, rfl⟩ := h; simp
  | l :: r, M, M2, Es, h => by
    simp only [Mem.pulls] at h
    split at h
    · rename_i es M1 h1
      split at h
      · rename_i ess M3 h2
        simp at h; obtain ⟨rfl, rfl⟩ := h
        refine (Mem.pull_all h1).trans ?_
        rw [List.flatten_cons, List.append_assoc]
        exact (Mem.pulls_all h2).append_left es
      · cases h
    · cases h
theorem Mem.all_zip : ∀ (ls : List Nat) (Es : List (List Ent)), (Mem.all (ls.zip Es)).Sublist Es.flatten
  | [], Es => by simp [Mem.all]
  | l :: r, [] => by simp [Mem.all]
  | l :: r, es :: Es => by
    simp only [List.zip_cons_cons, Mem.all, List.flatMap_cons, List.flatten_cons]
    exact (List.Sublist.refl es).append (Mem.all_zip r Es)
/-- Only these, in this order, as far as they are there. -/
def Mem.only : Mem → List Nat → Mem
  | _, [] => []
  | M, l :: r => match M.pull l with
    | some (es, M1) => (l, es) :: Mem.only M1 r
    | none => Mem.only M r
theorem Mem.only_all : ∀ (ls : List Nat) (M : Mem), ∃ rest, M.all.Perm ((M.only ls).all ++ rest)
  | [], M => ⟨M.all, by simp [Mem.only, Mem.all]⟩
  | l :: r, M => by
    simp only [Mem.only]
    cases h : M.pull l with
    | none => exact Mem.only_all r M
    | some x =>
      obtain ⟨es, M1⟩ := x
      obtain ⟨rest, hr⟩ := Mem.only_all r M1
      refine ⟨rest, (Mem.pull_all h).trans ?_⟩
      simp only [Mem.all, List.flatMap_cons, List.append_assoc] at hr ⊢
      exact hr.append_left es

section
variable {P : Program} {nt : Nat} {fr : Fr} {a : Act} {w0 w : World} {G : GH} {M : Mem}
theorem View.perm (h : View w0 G M w) {M' : Mem} (hp : M.all.Perm M'.all) : View w0 G M' w :=
  ⟨h.below, h.cells, fun x hx => h.ents x (hp.mem_iff.2 hx), h.apart.perm hp fun e => e.symm⟩
theorem View.only (h : View w0 G M w) (ls : List Nat) : View w0 G (M.only ls) w := by
  obtain ⟨rest, hr⟩ := Mem.only_all ls M
  have h1 : View w0 G [(0, (M.only ls).all ++ rest)] w := h.perm (by simpa [Mem.all] using hr)
  refine h1.drop ?_
  simp only [Mem.all, List.flatMap_cons, List.flatMap_nil, List.append_nil]
  exact List.sublist_append_left _ _

/-- A call, with the blocks that are lent and those that come back. -/
def callP (P : Program) (lin lout : List Nat) (f : FuncId) (args : List Value) (G : GH) (M : Mem) (K QP : Value → GH → Mem → Prop) : Prop :=
  match M.pulls lin with
  | some (Es, M2) => ACalls P f args G Es fun o G' Es' => match o with
    | .ret v => K v G' (lout.zip Es' ++ M2)
    | .pan v => QP v G' (lout.zip Es' ++ M2)
  | none => False

theorem callP_run {lin lout : List Nat} {f : FuncId} {args : List Value} {K QP : Value → GH → Mem → Prop} (h : callP P lin lout f args G M K QP) (hv : View w0 G M w) :
    FnOk P f = true ∧ Calls P f args.toArray w fun e w' => ∃ G' M', GLe G G' ∧ View w0 G' M' w' ∧
      match e with
      | .returned v => K v G' M'
      | .panicked ch => ∃ v, ch = [{ v, recovered := false }] ∧ QP v G' M'
      | .outgrown => False := by
  unfold callP at h
  split at h
  · rename_i Es M2 hp
    have h1 : View w0 G [(0, Es.flatten ++ M2.all)] w := hv.perm (by simpa [Mem.all] using Mem.pulls_all hp)
    refine ⟨h.1, (h.2 w0 w _ h1).mono ?_⟩
    rintro e w' ⟨o, G', Es', hg, hv', hr, he⟩
    have h2 : View w0 G' (lout.zip Es' ++ M2) w' := hv'.drop (by
      simp only [Mem.all, List.flatMap_append, List.flatMap_cons, List.flatMap_nil, List.append_nil]
      exact (Mem.all_zip lout Es').append (List.Sublist.refl _))
    refine ⟨G', _, hg, h2, ?_⟩
    cases e with
    | returned v => subst he; exact hr
    | panicked ch => obtain ⟨v, rfl, rfl⟩ := he; exact ⟨v, rfl, hr⟩
    | outgrown => exact he.elim
  · exact h.elim

theorem callFunc_run {f : FuncId} (h : FnOk P f = true) (args : Array Value) (w : World) : (callFunc f args).run P w = .ok (.enter f args) w := by
  unfold FnOk at h
  split at h
  · rename_i fn hf
    simp only [Bool.and_eq_true, bne_iff_ne, ne_eq] at h
    obtain ⟨b, hb⟩ := Option.isSome_iff_exists.1 h.2
    simp [callFunc, hf, h.1, hb]
  · cases h

/-- The method that a name stands for. -/
def Meth (P : Program) (t : TypeId) (u : Value) (name : String) (f : FuncId) (r : Value) : Prop :=
  ∀ w, (method (P.types.size + Made.depth) t u name).run P w = .ok (f, r) w

/-- What a value of a function type enters. -/
def targetP (P : Program) (v : Value) (args : List Value) (K : FuncId → List Value → Prop) : Prop :=
  match v with
  | .func (.func f) first cap => K f (first.toList ++ args ++ cap.toList)
  | .func (.method name) first _ => match first.toList ++ args with
    | .iface t u :: rest => ∃ f r, Meth P t u name f r ∧ K f (r :: rest)
    | _ => False
  | _ => False

/-- One operation that is carried out. -/
def opP (P : Program) (dst : Option Nat) (fr : Fr) (G : GH) (M : Mem) (D : List Deferred) (K : Fr → GH → Mem → List Deferred → Prop) (QP : Value → GH → Mem → List Deferred → Prop) : ROp → Prop
  | .call lin lout f xs => withs fr true xs fun vs => callP P lin lout f vs G M (fun v G' M' => K (fr.put dst true v) G' M' D) (fun v G' M' => QP v G' M' D)
  | .callv lin lout x xs => with1 fr true x fun u => withs fr true xs fun vs => targetP P u vs fun f args => callP P lin lout f args G M (fun v G' M' => K (fr.put dst true v) G' M' D) (fun v G' M' => QP v G' M' D)
  | .calli lin lout x name xs => with1 fr true x fun u => withs fr true xs fun vs => match u with
    | .iface t y => ∃ f r, Meth P t y name f r ∧ callP P lin lout f (r :: vs) G M (fun v G' M' => K (fr.put dst true v) G' M' D) (fun v G' M' => QP v G' M' D)
    | _ => False
  | .pan x => with1 fr true x fun u => match u with
    | .iface t v => QP (.iface t v) G M D
    | _ => False
  | .dfr x xs => with1 fr true x fun u => withs fr true xs fun vs => match u with
    | .func fn first cap => K (fr.put dst true undef) G M ({ target := .fn fn cap, args := first ++ vs.toArray } :: D)
    | _ => False
  | r => effP P fr G M (fun v G' M' => K (fr.put dst true v) G' M' D) r

def rbOp (P : Program) (op : Op) (s : ROp) : Option ROp :=
  match s with
  | .call lin lout _ _ =>
    match op with
    | .call { callee := .value (.func f), args, .. } => some (.call lin lout f (args.toList.map opd))
    | _ => none
  | .callv lin lout _ _ =>
    match op with
    | .call { callee := .value x, args, .. } => some (.callv lin lout (opd x) (args.toList.map opd))
    | _ => none
  | .calli lin lout _ _ _ =>
    match op with
    | .call { callee := .invoke x name, args, .. } => some (.calli lin lout (opd x) name (args.toList.map opd))
    | _ => none
  | .pan _ =>
    match op with
    | .panic x => some (.pan (opd x))
    | .call { callee := .builtin .panic, args, .. } => match args.toList with
      | [x] => some (.pan (opd x))
      | _ => none
    | _ => none
  | .dfr _ _ =>
    match op with
    | .defer { callee := .value x, args, .. } => some (.dfr (opd x) (args.toList.map opd))
    | _ => none
  | s => match rbEff P op s with
    | some r => some r
    | none => rbStill P op s

def ROp.plain : ROp → Bool
  | .call .. | .callv .. | .calli .. | .pan .. | .dfr .. => false
  | _ => true
def ROp.still : ROp → Bool
  | .ld .. | .new .. | .box .. | .bsl .. | .st .. | .app .. | .apx .. | .apz .. | .mks .. | .mkt .. | .mkm .. => false
  | r => r.plain
theorem rbEff_plain {op : Op} {s r : ROp} (h : rbEff P op s = some r) : r.plain = true := by
  revert h
  cases op <;> simp only [rbEff] <;> (repeat' split) <;> intro h <;> first
    | (cases h; done)
    | (cases h; rfl)
    | (obtain ⟨_, _, rfl⟩ := Option.map_eq_some_iff.1 h; rfl)
theorem rbEff_still {op : Op} {s r : ROp} (h : rbEff P op s = some r) : r.still = false := by
  revert h
  cases op <;> simp only [rbEff] <;> (repeat' split) <;> intro h <;> first
    | (cases h; done)
    | (cases h; rfl)
    | (obtain ⟨_, _, rfl⟩ := Option.map_eq_some_iff.1 h; rfl)
theorem rbStill_plain {op : Op} {s r : ROp} (h : rbStill P op s = some r) : r.still = true := by
  revert h
  cases op <;> simp only [rbStill] <;> (repeat' split) <;> intro h <;> first
    | (cases h; done)
    | (cases h; rfl)
    | (obtain ⟨_, _, rfl⟩ := Option.map_eq_some_iff.1 h; rfl)

theorem rbOp_still {op : Op} {s r : ROp} (h : rbOp P op s = some r) (hs : r.still = true) : rbStill P op s = some r := by
  have plain : (match rbEff P op s with | some r => some r | none => rbStill P op s) = some r → rbStill P op s = some r := by
    intro h
    split at h
    · rename_i r1 he
      simp at h; subst h
      rw [rbEff_still he] at hs; cases hs
    · exact h
  cases s <;> first | exact plain h | skip
  all_goals
    simp only [rbOp] at h
    repeat' split at h
    all_goals first
      | (cases h; done)
      | (simp at h; subst h; cases hs)

/-- What is behind an operation. -/
def Behind (w0 : World) (nt : Nat) (G : GH) (K : Fr → GH → Mem → List Deferred → Prop) (a : Act) (w : World) : Prop :=
  ∃ fr G' M, K fr G' M a.defers ∧ GLe G G' ∧ FrOk nt fr a ∧ View w0 G' M w

theorem Behind.put {K : Fr → GH → Mem → List Deferred → Prop} {dst : Option Nat} {c : Bool} {v u : Value} {G' : GH} {M' : Mem} {w' : World} (hf : FrOk nt fr a) (hd : ∀ n, dst = some n → n < nt)
    (hk : K (fr.put dst c v) G' M' a.defers) (hg : GLe G G') (hv : View w0 G' M' w') (hu : vite c v undef = u) : Behind w0 nt G K (a.put dst u) w' := by
  subst hu
  refine ⟨_, G', M', ?_, hg, hf.put hd c v, hv⟩
  cases dst <;> exact hk

theorem op_run {o : Oper} {s r : ROp} (hr : rbOp P o.op s = some r) (hf : FrOk nt fr a) (hv : View w0 G M w) (hd : ∀ n, o.dst = some n → n < nt)
    {K : Fr → GH → Mem → List Deferred → Prop} {QP : Value → GH → Mem → List Deferred → Prop} {Q : Exit → Act → World → Prop}
    (hQ : ∀ v G' M' w', GLe G G' → QP v G' M' a.defers → View w0 G' M' w' → Q (.panic [{ v, recovered := false }]) a w')
    (h : opP P o.dst fr G M a.defers K QP r) : o.wp P a w (Behind w0 nt G K) Q := by
  obtain ⟨dst, op, type, pos, after, guard⟩ := o
  simp only at hr hd h
  have hcall : ∀ (lin lout : List Nat) (f : FuncId) (vs : List Value) (args : Array Value), args = vs.toArray →
      callP P lin lout f vs G M (fun v G' M' => K (fr.put dst true v) G' M' a.defers) (fun v G' M' => QP v G' M' a.defers) →
      Oper.upon P ⟨dst, op, type, pos, after, guard⟩ a (Behind w0 nt G K) Q ((callFunc f args).run P w) := by
    intro lin lout f vs args ha hc
    obtain ⟨h1, h2⟩ := callP_run hc hv
    subst ha
    rw [callFunc_run h1]
    simp only [Oper.upon]
    refine h2.mono ?_
    rintro e w' ⟨G', M', hg, hv', he⟩
    cases e with
    | returned v => exact Behind.put hf hd he hg hv' rfl
    | panicked ch => obtain ⟨v, rfl, hq⟩ := he; exact hQ v G' M' w' hg hq hv'
    | outgrown => exact he.elim
  have hplain : ∀ r', (match rbEff P op s with | some r => some r | none => rbStill P op s) = some r' → opP P dst fr G M a.defers K QP r' →
      Oper.wp P ⟨dst, op, type, pos, after, guard⟩ a w (Behind w0 nt G K) Q := by
    intro r' hr' hp
    split at hr'
    · rename_i r1 he
      simp at hr'; subst hr'
      have hpl := rbEff_plain he
      have hp' : effP P fr G M (fun v G' M' => K (fr.put dst true v) G' M' a.defers) r1 := by
        cases r1 <;> first | exact hp | cases hpl
      obtain ⟨v, G', M', w', hrun, hg, hv', hk⟩ := eff_run (o := ⟨dst, op, type, pos, after, guard⟩) he hf hv hp'
      unfold Oper.wp
      rcases hrun with hrun | ⟨hrun, rfl⟩ <;> rw [hrun] <;> simp only [Oper.upon] <;> exact Behind.put hf hd hk hg hv' rfl
    · have hpl := rbStill_plain hr'
      have hst : stillP P fr true (fun v => K (fr.put dst true v) G M a.defers) r' := by
        cases r' <;> first | exact hp | cases hpl
      obtain ⟨v, hk, hrun⟩ := still_run (o := ⟨dst, op, type, pos, after, guard⟩) hr' hf hst
      unfold Oper.wp
      rw [hrun rfl w]
      exact Behind.put hf hd hk (GLe.refl G) hv rfl
  cases s <;> first | exact hplain r hr h | skip
  case call lin lout f0 xs0 =>
    simp only [rbOp] at hr
    split at hr
    · rename_i f args at_
      simp at hr; subst hr
      obtain ⟨vs, hvs, hc⟩ := withs_iff h
      have e1 : args.map a.eval = vs.toArray := by apply Array.ext'; simpa using opds_eval hf _ (hvs rfl)
      have := hcall lin lout f vs (args.map a.eval) e1 hc
      simpa [Oper.wp, execOp, resolve, Deferred.ofValue, invoke, Act.eval] using this
    · cases hr
  case callv lin lout x0 xs0 =>
    simp only [rbOp] at hr
    split at hr
    · rename_i x args at_
      simp at hr; subst hr
      obtain ⟨u, hu, h⟩ := with1_iff h
      obtain ⟨vs, hvs, hc⟩ := withs_iff h
      have e1 : args.map a.eval = vs.toArray := by apply Array.ext'; simpa using opds_eval hf _ (hvs rfl)
      have e2 := opd_eval hf x (hu rfl)
      unfold targetP at hc
      split at hc
      · rename_i f first cap
        have := hcall lin lout f _ (first ++ args.map a.eval ++ cap) (by rw [e1]; apply Array.ext'; simp) hc
        simpa [Oper.wp, execOp, resolve, e2, Deferred.ofValue, invoke] using this
      · rename_i name first cap
        split at hc
        · rename_i t y rest heq
          obtain ⟨f, r, hm, hc⟩ := hc
          have e3 : first ++ args.map a.eval = #[.iface t y] ++ rest.toArray := by apply Array.ext'; rw [e1]; simpa using heq
          have := hcall lin lout f _ (#[r] ++ rest.toArray) (by simp) hc
          simp only [Oper.wp, execOp, resolve, e2, Deferred.ofValue, invoke, Sem.run_bind, Sem.run_pure, Result.andThen_ok, e3]
          simpa [callMethod, hm w] using this
        · exact hc.elim
      · exact hc.elim
    · cases hr
  case calli lin lout x0 n0 xs0 =>
    simp only [rbOp] at hr
    split at hr
    · rename_i x name args at_
      simp at hr; subst hr
      obtain ⟨u, hu, h⟩ := with1_iff h
      obtain ⟨vs, hvs, hc⟩ := withs_iff h
      have e1 : args.map a.eval = vs.toArray := by apply Array.ext'; simpa using opds_eval hf _ (hvs rfl)
      have e2 := opd_eval hf x (hu rfl)
      split at hc
      · rename_i t y
        obtain ⟨f, r, hm, hc⟩ := hc
        have := hcall lin lout f _ (#[r] ++ vs.toArray) (by simp) hc
        simp only [Oper.wp, execOp, resolve, e2, e1, invoke, Sem.run_bind, Sem.run_pure, Result.andThen_ok]
        simpa [callMethod, hm w] using this
      · exact hc.elim
    · cases hr
  case pan x0 =>
    simp only [rbOp] at hr
    split at hr
    · rename_i x
      simp at hr; subst hr
      obtain ⟨u, hu, h⟩ := with1_iff h
      have e2 := opd_eval hf x (hu rfl)
      split at h
      · have := hQ _ G M w (GLe.refl G) h hv
        simpa [Oper.wp, execOp, e2, Instr.panic, goPanic, Oper.upon] using this
      · exact h.elim
    · rename_i args at_
      split at hr
      · rename_i x hx
        have hx' : args = #[x] := by apply Array.ext'; simpa using hx
        subst hx'
        simp at hr; subst hr
        obtain ⟨u, hu, h⟩ := with1_iff h
        have e2 := opd_eval hf x (hu rfl)
        split at h
        · have := hQ _ G M w (GLe.refl G) h hv
          simpa [Oper.wp, execOp, resolve, invoke, builtin, e2, Instr.panic, goPanic, Oper.upon] using this
        · exact h.elim
      · cases hr
    · cases hr
  case dfr x0 xs0 =>
    simp only [rbOp] at hr
    split at hr
    · rename_i x args at_
      simp at hr; subst hr
      obtain ⟨u, hu, h⟩ := with1_iff h
      obtain ⟨vs, hvs, h⟩ := withs_iff h
      have e1 : args.map a.eval = vs.toArray := by apply Array.ext'; simpa using opds_eval hf _ (hvs rfl)
      have e2 := opd_eval hf x (hu rfl)
      split at h
      · rename_i fn first cap
        simp only [Oper.wp, execOp, resolve, e2, e1, Deferred.ofValue, Sem.run_bind, Sem.run_pure, Result.andThen_ok, Oper.upon]
        exact Behind.put (hf.defers _) hd h (GLe.refl G) hv rfl
      · exact h.elim
    · cases hr
end
end Go.Gv
