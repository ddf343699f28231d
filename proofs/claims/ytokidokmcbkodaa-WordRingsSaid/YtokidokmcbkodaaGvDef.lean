/-
  Functions that defer a call, and the deferred ones, which recover. No condition.
-/
import Derived.Test.YtokidokmcbkodaaGvRep
import Derived.Recover
namespace Go.Gv
open Go.RowKit

/-- What a deferred call does: rv is what recover gives to it. -/
def DCalls (P : Program) (f : FuncId) (args : List Value) (rv : Value) (G : GH) (Es : List (List Ent)) (R : GH → List (List Ent) → Prop) : Prop :=
  FnOk P f = true ∧ ∀ (w0 w : World) (F : List Ent) (u : FrameMode), View w0 G [(0, Es.flatten ++ F)] w →
    ((u = .returning ∧ rv = .nilIface) ∨ u = .panicking [{ v := rv, recovered := false }]) →
    CallsD P f args.toArray u w fun e u' w' => Go.settle u' = .returning ∧ ∃ v G' Es', e = .returned v ∧ GLe G G' ∧ View w0 G' [(0, Es'.flatten ++ F)] w' ∧ R G' Es'
theorem DCalls.mono {P : Program} {f : FuncId} {args : List Value} {rv : Value} {G : GH} {Es : List (List Ent)} {R R' : GH → List (List Ent) → Prop}
    (h : DCalls P f args rv G Es R) (hr : ∀ G' Es', GLe G G' → R G' Es' → R' G' Es') : DCalls P f args rv G Es R' :=
  ⟨h.1, fun w0 w F u hv hu => (h.2 w0 w F u hv hu).mono fun _ _ _ ⟨h1, v, G', Es', h2, h3, h4, h5⟩ => ⟨h1, v, G', Es', h2, h3, h4, hr _ _ h3 h5⟩⟩

def isRec (nt d : Nat) (o : Oper) : Bool :=
  match o.op, o.guard, o.dst with
  | .call { callee := .builtin .recover, args, .. }, none, some e => args.isEmpty && e == d && decide (d < nt)
  | _, _, _ => false
/-- A deferred function, its types read: its first operation is recover. -/
def rbD (P : Program) (f : FuncId) (d : Nat) (r : RFn) : Option RFn :=
  match P.funcs[f]? with
  | some fn => match fn.body, r.code with
    | some (.seq (.region _ ops false) y), .seq (.reg ps l) b => match ops[0]?, fn.name != "runtime.NumGoroutine", fn.results.toList with
      | some o, true, [] => if isRec fn.ntmps d o = true then
          match rbL P fn.ntmps ops (List.range' 1 (ops.size - 1)) l, rb P fn.ntmps b y with
          | some l', some b' => if l'.all (RStep.off ps) = true then some ⟨fn.ntmps, .seq (.reg ps l') b', [], r.lout, r.plout⟩ else none
          | _, _ => none
        else none
      | _, _, _ => none
    | _, _ => none
  | none => none

section
variable {P : Program} {nt : Nat} {fr : Fr} {a : Act} {w0 w : World} {G : GH} {M : Mem} {ops : Array Oper}
theorem runS_sound {G0 : GH} {Q : QQ} {f0 : Fr} {cs : List Frame} {QS : Exit → Act → List Frame → World → Prop} (hQS : ∀ e a w, ConcF w0 nt G0 Q f0 e a w → QS e a cs w) :
    ∀ (is : List Nat) {l l' : List RStep} {fr : Fr} {G : GH} {M : Mem} {a : Act} {w : World}, rbL P nt ops is l = some l' → (∀ s ∈ l', s.offs f0) → RunL P Q f0 l' fr G M a.defers → GLe G0 G → FrOk nt fr a → FrOk nt f0 a → View w0 G M w →
    wpOpsS P ops QS is a cs w
  | [], [], l', fr, G, M, a, w, hr, ho, h, hg, hf, hf0, hv => by
    simp [rbL] at hr; subst hr
    exact hQS .normal a w ⟨fr, G, M, h, hg, hf, hv⟩
  | [], _ :: _, l', fr, G, M, a, w, hr, ho, h, hg, hf, hf0, hv => by simp [rbL] at hr
  | i :: is, [], l', fr, G, M, a, w, hr, ho, h, hg, hf, hf0, hv => by simp [rbL] at hr
  | i :: is, s :: r, l', fr, G, M, a, w, hr, hoff, h, hg, hf, hf0, hv => by
    simp only [rbL] at hr
    split at hr
    · rename_i o ho
      split at hr
      · rename_i s' r' h1 h2
        simp at hr; subst hr
        simp only [RunL] at h
        have hQ : ∀ v G' M' w', GLe G G' → Q (.pan v) f0 G' M' a.defers → View w0 G' M' w' → QS (.panic [{ v, recovered := false }]) a cs w' :=
          fun v G' M' w' hg' hq hv' => hQS _ _ _ ⟨hf0, v, G', M', rfl, hq, hg.trans hg', hv'⟩
        obtain ⟨h3, h4⟩ := step_run (Q := fun e a w => QS e a cs w) h1 hf hv hQ h
        have hoff' : ∀ n, o.dst = some n → f0.get n = none := fun n hn => hoff s' (by simp) n (by rw [rbStep_dst h1]; exact hn)
        have next : ∀ a' w', FrOk nt f0 a' → Behind w0 nt G (RunL P Q f0 r') a' w' → wpOpsS P ops QS is a' cs w' := by
          rintro a' w' hf0' ⟨fr', G', M', hk, hg', hf', hv'⟩
          exact runS_sound hQS is h2 (fun s hs => hoff s (by simp [hs])) hk (hg.trans hg') hf' hf0' hv'
        simp only [wpOpsS, ho]
        split
        · rename_i hw
          have h5 : o.wp P a w (fun a' w' => wpOpsS P ops QS is a' cs w') (fun e a w => QS e a cs w) := by
            refine Oper.wp_mono ?_ (Oper.wp_put (h3 hw))
            rintro a' w' ⟨hb, D, u, rfl⟩
            exact next _ _ ((hf0.defers D).put_off hoff') hb
          unfold Oper.wp at h5
          split
          · rename_i w' hrun
            rw [hrun] at h5
            exact h5.elim
          · exact h5
        · rename_i hw
          exact next _ _ (hf0.put_off hoff') (h4 (by simpa using hw))
      · cases hr
    · cases hr

theorem isRec_run {d : Nat} {o : Oper} (h : isRec nt d o = true) : o.dst = some d ∧ d < nt ∧ o.guard = none ∧ ∀ (e : Operand → Value) (w : World), (execOp e o).run P w = .ok .recover w := by
  obtain ⟨dst, op, type, pos, after, guard⟩ := o
  unfold isRec at h
  split at h
  · rename_i args at_ e hop hg hd
    simp only at hop hg hd
    subst hop hg hd
    simp only [Bool.and_eq_true, beq_iff_eq, decide_eq_true_eq, Array.isEmpty_iff] at h
    obtain ⟨⟨rfl, rfl⟩, h2⟩ := h
    exact ⟨rfl, h2, rfl, fun e w => by simp [execOp, resolve, invoke, builtin]⟩
  · cases h

theorem dcalls_of {f : FuncId} {d : Nat} {r : RFn} {args : List Value} {rv : Value} {Es : List (List Ent)} {R : GH → List (List Ent) → Prop} (hm : P.follows .mixedOrders = true)
    (hr : rbD P f d r = some r) (ha : args.length ≤ r.nt) (h : ∀ F, Run P r.code (fnQ r F fun o G Es => (∃ v, o = .ret v) ∧ R G Es) ((d, true, rv) :: frArgs 0 args) G (memArgs F 0 Es) []) : DCalls P f args rv G Es R := by
  unfold rbD at hr
  split at hr
  · rename_i fn hf
    split at hr
    · rename_i id ops y ps l b hb hcode
      split at hr
      · rename_i o ho hn hres
        split at hr
        · rename_i hrec
          split at hr
          · rename_i l' b' hl hb'
            split at hr
            · rename_i hoff
              have hn' : fn.name ≠ "runtime.NumGoroutine" := by simpa using hn
              obtain ⟨nt, code, res, lout, plout⟩ := r
              simp only at hcode
              subst hcode
              simp only [Option.some.injEq, RFn.mk.injEq, and_true] at hr
              obtain ⟨hnt, hcc, hrr⟩ := hr
              simp only [RCode.seq.injEq, RCode.reg.injEq, true_and] at hcc
              obtain ⟨hl1, hb1⟩ := hcc
              subst hl1 hb1 hnt hrr
              obtain ⟨hdst, hdlt, hguard, hrun⟩ := isRec_run (P := P) hrec
              refine ⟨by simp [FnOk, hf, hb, hn'], fun w0 w F u hv hu => ?_⟩
              refine callsD_of_wpS hf hb fun c₀ cs hc => ?_
              have hv1 : View w0 G (memArgs F 0 Es) w := hv.perm (by rw [memArgs_all]; simp [Mem.all])
              have hf0 : FrOk fn.ntmps (frArgs 0 args) { tmps := args.toArray ++ Array.replicate (fn.ntmps - args.toArray.size) undef, defers := [] } := by
                refine ⟨by simp at ha ⊢; omega, fun n g v hg => ?_⟩
                obtain ⟨rfl, j, hj, hv⟩ := frArgs_get _ _ _ _ _ hg
                have hlt := (List.getElem?_eq_some_iff.1 hv).1
                have : n = j := by omega
                subst this
                rw [Array.getElem?_append]
                simp [hlt, (List.getElem?_eq_some_iff.1 hv).2]
              obtain ⟨a0, ha0⟩ : ∃ a0 : Act, a0 = { tmps := args.toArray ++ Array.replicate (fn.ntmps - args.toArray.size) undef, defers := [] } := ⟨_, rfl⟩
              have hD : a0.defers = [] := by rw [ha0]
              rw [← ha0] at hf0 ⊢
              clear ha0
              have hf1 : FrOk fn.ntmps ((d, true, rv) :: frArgs 0 args) (a0.put o.dst rv) := by
                have := hf0.put (d := some d) (fun n hn => by cases hn; exact hdlt) true rv
                rw [hdst]; exact this
              have hD1 : (a0.put o.dst rv).defers = [] := by rw [hdst]; exact hD
              have hrun1 := h F
              rw [← hD1] at hrun1
              have hmap : ∀ (u1 : FrameMode), Go.settle u1 = .returning → ∀ G1 e a w, GLe G G1 → Conc w0 fn.ntmps G1 (fnQ ⟨fn.ntmps, .seq (.reg ps l') b', [], lout, plout⟩ F fun o G Es => (∃ v, o = .ret v) ∧ R G Es) e a w →
                  bodyPostS P fn c₀ cs (fun e u' w' => Go.settle u' = .returning ∧ ∃ v G' Es', e = .returned v ∧ GLe G G' ∧ View w0 G' [(0, Es'.flatten ++ F)] w' ∧ R G' Es') e a ({ c₀ with mode := u1 } :: cs) w := by
                intro u1 hu1 G1 e a w hg1 hc1
                have hout : ∀ {M : Mem} {lo : List Nat} {K : List (List Ent) → Prop} {G' : GH} {w' : World}, outP M lo F K → View w0 G' M w' → ∃ Es', K Es' ∧ View w0 G' [(0, Es'.flatten ++ F)] w' := by
                  intro M lo K G' w' ho hv'
                  unfold outP at ho
                  split at ho
                  · rename_i F' Es' M2 hp
                    obtain ⟨rfl, hk⟩ := ho
                    refine ⟨Es', hk, ?_⟩
                    have h1 := hv'.perm (M' := [(0, (F' ++ Es'.flatten) ++ M2.all)]) (by
                      have := Mem.pulls_all hp
                      simpa [Mem.all] using this)
                    have h2 := h1.drop (M' := [(0, F' ++ Es'.flatten)]) (by simp [Mem.all])
                    exact h2.perm (by simpa [Mem.all] using List.perm_append_comm)
                  · exact ho.elim
                have hend : Behind w0 fn.ntmps G1 (fun fr G M D => D = [] ∧ resP fr G M [] fun vs => outP M lout F fun Es => (∃ v, Out.ret (resV vs) = .ret v) ∧ R G Es) a w →
                    a.defers = [] ∧ ∃ u', ({ c₀ with mode := u1 } :: cs : List Frame) = { c₀ with mode := u' } :: cs ∧ ∃ v, (results fn a.tmps).run P w = .ok v w ∧ Go.settle u' = .returning ∧ ∃ v' G' Es', Ending.returned v = .returned v' ∧ GLe G G' ∧ View w0 G' [(0, Es'.flatten ++ F)] w ∧ R G' Es' := by
                  rintro ⟨fr, G', M, ⟨hD, hres1⟩, hg, hf', hv'⟩
                  obtain ⟨vs, ho1, hrun2⟩ := results_run (rr := []) hv' hf' (by rw [hres]; rfl) hres1
                  obtain ⟨Es', ⟨_, hR⟩, hv2⟩ := hout ho1 hv'
                  exact ⟨hD, u1, rfl, _, hrun2, hu1, _, G', Es', rfl, hg1.trans hg, hv2, hR⟩
                cases e with
                | normal => exact hend hc1
                | ret => exact hend hc1
                | exit id => obtain ⟨fr, G', M, hh, _⟩ := hc1; exact hh.elim
                | goto l => exact hc1.elim
                | outgrown => exact hc1.elim
                | panic ch =>
                  obtain ⟨v, fr, G', M, rfl, ⟨_, ho1⟩, hg, _, hv'⟩ := hc1
                  obtain ⟨Es', ⟨⟨_, hx⟩, _⟩, _⟩ := hout ho1 hv'
                  cases hx
              have key : ∀ (u1 : FrameMode), Go.settle u1 = .returning → wpOpsS P ops (Exit.thenS (y.wpS P (bodyPostS P fn c₀ cs (fun e u' w' => Go.settle u' = .returning ∧ ∃ v G' Es', e = .returned v ∧ GLe G G' ∧ View w0 G' [(0, Es'.flatten ++ F)] w' ∧ R G' Es'))) (bodyPostS P fn c₀ cs (fun e u' w' => Go.settle u' = .returning ∧ ∃ v G' Es', e = .returned v ∧ GLe G G' ∧ View w0 G' [(0, Es'.flatten ++ F)] w' ∧ R G' Es')))
                  (List.range' 1 (ops.size - 1)) (a0.put o.dst rv) ({ c₀ with mode := u1 } :: cs) w := by
                intro u1 hu1
                refine runS_sound (w0 := w0) (G0 := G) ?_ _ hl (fun s hs => RStep.off_offs (List.all_eq_true.1 hoff s hs) _) hrun1 (GLe.refl G) hf1 (hf1.keep ps) hv1
                intro e a w hc1
                have hc2 := hc1.conc
                cases e with
                | normal =>
                  obtain ⟨fr, G', M, hk, hg, hf', hv'⟩ := hc2
                  exact wpS_of_wp (wp_mono (run_sound hm _ hb' hk hf' hv') fun e a w hc => hmap u1 hu1 G' e a w hg hc)
                | ret => exact hmap u1 hu1 G .ret a w (GLe.refl G) hc2
                | exit id => exact hmap u1 hu1 G (.exit id) a w (GLe.refl G) hc2
                | goto l => exact hc2.elim
                | outgrown => exact hc2.elim
                | panic ch => exact hmap u1 hu1 G (.panic ch) a w (GLe.refl G) hc2
              refine wpS_seq (wpS_region ?_)
              have hsz : 0 < ops.size := (Array.getElem?_eq_some_iff.1 ho).1
              have hrange : List.range ops.size = 0 :: List.range' 1 (ops.size - 1) := by
                obtain ⟨k, hk⟩ : ∃ k, ops.size = k + 1 := ⟨ops.size - 1, by omega⟩
                rw [hk, List.range_eq_range', List.range'_succ]; rfl
              have hw : Region.wanted o (yielded ops a0.tmps) = true := by simp [Region.wanted, hguard]
              rw [hrange]
              simp only [wpOpsS, ho, hw, if_true, hrun]
              rcases hu with ⟨rfl, rfl⟩ | rfl
              · simp only [recoverD, hc]
                have := key .returning rfl
                have e1 : ({ c₀ with mode := .returning } : Frame) = c₀ := by rw [← hc]
                rw [e1] at this
                exact this
              · simp only [recoverD, hc]
                exact key _ rfl
            · cases hr
          · cases hr
        · cases hr
      · cases hr
    · cases hr
  · cases hr

/-- How a function that has deferred a call ends. -/
def leaveP (P : Program) (r : RFn) (dl dr : List Nat) (F : List Ent) (R : Out → GH → List (List Ent) → Prop) (pv : Option Value) (fr : Fr) (G : GH) (M : Mem) : List Deferred → Prop
  | [] => match pv with
    | none => resP fr G M r.res fun vs => outP M r.lout F fun Es => R (.ret (resV vs)) G Es
    | some v => outP M r.plout F fun Es => R (.pan v) G Es
  | [d] => match d.target with
    | .fn (.func f) cap => match M.pulls dl with
      | some (Es, M2) => DCalls P f (d.args.toList ++ cap.toList) (pv.getD .nilIface) G Es fun G' Es' => resP fr G' (dr.zip Es' ++ M2) r.res fun vs => outP (dr.zip Es' ++ M2) r.lout F fun Es => R (.ret (resV vs)) G' Es
      | none => False
    | _ => False
  | _ => False
def fnD (P : Program) (r : RFn) (dl dr : List Nat) (F : List Ent) (R : Out → GH → List (List Ent) → Prop) : QQ
  | .normal, fr, G, M, D => leaveP P r dl dr F R none fr G M D
  | .ret, fr, G, M, D => leaveP P r dl dr F R none fr G M D
  | .pan v, fr, G, M, D => leaveP P r dl dr F R (some v) fr G M D
  | .exit _, _, _, _, _ => False

theorem acalls_of_defer {f : FuncId} {r : RFn} {dl dr : List Nat} {args : List Value} {Es : List (List Ent)} {R : Out → GH → List (List Ent) → Prop} (hm : P.follows .mixedOrders = true)
    (hr : rbFn P f r = some r) (ha : args.length ≤ r.nt) (h : ∀ F, Run P r.code (fnD P r dl dr F R) (frArgs 0 args) G (memArgs F 0 Es) []) : ACalls P f args G Es R := by
  unfold rbFn at hr
  split at hr
  · rename_i fn hf
    split at hr
    · rename_i c hb
      split at hr
      · rename_i hn
        split at hr
        · rename_i c' s hc hs
          have hn' : fn.name ≠ "runtime.NumGoroutine" := by simpa using hn
          obtain ⟨nt, code, res, lout, plout⟩ := r
          simp only [Option.some.injEq, RFn.mk.injEq, and_true] at hr
          obtain ⟨hnt, rfl, rfl⟩ := hr
          subst hnt
          refine ⟨by simp [FnOk, hf, hb, hn'], fun w0 w F hv => ?_⟩
          refine calls_of_wp_defers hf hb ?_
          have hv1 : View w0 G (memArgs F 0 Es) w := hv.perm (by rw [memArgs_all]; simp [Mem.all])
          have hf0 : FrOk fn.ntmps (frArgs 0 args) { tmps := args.toArray ++ Array.replicate (fn.ntmps - args.toArray.size) undef, defers := [] } := by
            refine ⟨by simp at ha ⊢; omega, fun n g v hg => ?_⟩
            obtain ⟨rfl, j, hj, hv⟩ := frArgs_get _ _ _ _ _ hg
            have hlt := (List.getElem?_eq_some_iff.1 hv).1
            have : n = j := by omega
            subst this
            rw [Array.getElem?_append]
            simp [hlt, (List.getElem?_eq_some_iff.1 hv).2]
          refine wp_mono (run_sound hm _ hc (h F) hf0 hv1) ?_
          have hout : ∀ {M : Mem} {lo : List Nat} {K : List (List Ent) → Prop} {G' : GH} {w' : World}, outP M lo F K → View w0 G' M w' → ∃ Es', K Es' ∧ View w0 G' [(0, Es'.flatten ++ F)] w' := by
            intro M lo K G' w' ho hv'
            unfold outP at ho
            split at ho
            · rename_i F' Es' M2 hp
              obtain ⟨rfl, hk⟩ := ho
              refine ⟨Es', hk, ?_⟩
              have h1 := hv'.perm (M' := [(0, (F' ++ Es'.flatten) ++ M2.all)]) (by
                have := Mem.pulls_all hp
                simpa [Mem.all] using this)
              have h2 := h1.drop (M' := [(0, F' ++ Es'.flatten)]) (by simp [Mem.all])
              exact h2.perm (by simpa [Mem.all] using List.perm_append_comm)
            · exact ho.elim
          have hleave : ∀ (pv : Option Value) (u : FrameMode) (a' : Act) (w' : World) (fr : Fr) (G' : GH) (M : Mem), ((pv = none ∧ u = .returning) ∨ ∃ v, pv = some v ∧ u = .panicking [{ v, recovered := false }]) →
              leaveP P ⟨fn.ntmps, c', s, lout, plout⟩ dl dr F R pv fr G' M a'.defers → GLe G G' → FrOk fn.ntmps fr a' → View w0 G' M w' →
              Leaves P fn a'.tmps (fun e w' => ∃ o G' Es', GLe G G' ∧ View w0 G' [(0, Es'.flatten ++ F)] w' ∧ R o G' Es' ∧
                match e with
                | .returned v => o = .ret v
                | .panicked ch => ∃ v, o = .pan v ∧ ch = [{ v, recovered := false }]
                | .outgrown => False) a'.defers u w' := by
            intro pv u a' w' fr G' M hu hl hg hf' hv'
            generalize a'.defers = D at hl
            unfold leaveP at hl
            split at hl
            · rcases hu with ⟨rfl, rfl⟩ | ⟨v, rfl, rfl⟩
              · obtain ⟨vs, ho, hrun⟩ := results_run hv' hf' hs hl
                obtain ⟨Es', hR, hv2⟩ := hout ho hv'
                exact ⟨_, hrun, _, G', Es', hg, hv2, hR, rfl⟩
              · obtain ⟨Es', hR, hv2⟩ := hout hl hv'
                exact ⟨_, G', Es', hg, hv2, hR, v, rfl, rfl⟩
            · rename_i d
              split at hl
              · rename_i f' cap htar
                split at hl
                · rename_i Es1 M2 hp
                  have h1 : View w0 G' [(0, Es1.flatten ++ M2.all)] w' := hv'.perm (by simpa [Mem.all] using Mem.pulls_all hp)
                  obtain ⟨dt, da⟩ := d
                  simp only at htar hl
                  subst htar
                  refine leaves_cons (f := f') (args := (da.toList ++ cap.toList).toArray) (by rcases hu with ⟨_, rfl⟩ | ⟨v, _, rfl⟩ <;> simp) ?_ ?_
                  · have := callFunc_run hl.1 (da ++ cap) w'
                    have e1 : (da.toList ++ cap.toList).toArray = da ++ cap := by apply Array.ext'; simp
                    rw [e1]
                    simpa [invoke] using this
                  · refine (hl.2 w0 w' _ u h1 (by rcases hu with ⟨rfl, rfl⟩ | ⟨v, rfl, rfl⟩ <;> simp)).mono ?_
                    rintro e u' w2 ⟨hset, v, G2, Es2, rfl, hg2, hv2, hres⟩
                    have h2 : View w0 G2 (dr.zip Es2 ++ M2) w2 := hv2.drop (by
                      simp only [Mem.all, List.flatMap_append, List.flatMap_cons, List.flatMap_nil, List.append_nil]
                      exact (Mem.all_zip dr Es2).append (List.Sublist.refl _))
                    obtain ⟨vs, ho, hrun⟩ := results_run h2 hf' hs hres
                    obtain ⟨Es', hR, hv3⟩ := hout ho h2
                    simp only [hset]
                    exact ⟨_, hrun, _, G2, Es', hg.trans hg2, hv3, hR, rfl⟩
                · exact hl.elim
              · exact hl.elim
            · exact hl.elim
          intro e a' w' he
          cases e with
          | normal => obtain ⟨fr, G', M, hl, hg, hf', hv'⟩ := he; exact hleave none .returning a' w' fr G' M (.inl ⟨rfl, rfl⟩) hl hg hf' hv'
          | ret => obtain ⟨fr, G', M, hl, hg, hf', hv'⟩ := he; exact hleave none .returning a' w' fr G' M (.inl ⟨rfl, rfl⟩) hl hg hf' hv'
          | exit id => obtain ⟨fr, G', M, hh, _⟩ := he; exact hh.elim
          | goto l => exact he.elim
          | outgrown => exact he.elim
          | panic ch => obtain ⟨v, fr, G', M, rfl, hl, hg, hf', hv'⟩ := he; exact hleave (some v) _ a' w' fr G' M (.inr ⟨v, rfl, rfl⟩) hl hg hf' hv'
        · cases hr
      · cases hr
    · cases hr
  · cases hr
end

/-! How they are walked. -/
def leftK (dr : List Nat) (M2 : Mem) (fr : Fr) (res : List RRes) (lo : List Nat) (F : List Ent) (R : Out → GH → List (List Ent) → Prop) (G' : GH) (Es' : List (List Ent)) : Prop := resA fr G' (dr.zip Es' ++ M2) res (retK lo F R G' (dr.zip Es' ++ M2))
theorem leftK_eq (dr : List Nat) (M2 : Mem) (fr : Fr) (res : List RRes) (lo : List Nat) (F : List Ent) (R : Out → GH → List (List Ent) → Prop) (G' : GH) (Es' : List (List Ent)) : leftK dr M2 fr res lo F R G' Es' = resA fr G' (dr.zip Es' ++ M2) res (retK lo F R G' (dr.zip Es' ++ M2)) := rfl
def leaveE (P : Program) (f : FuncId) (args : List Value) (rv : Value) (dr : List Nat) (res : List RRes) (lo : List Nat) (F : List Ent) (R : Out → GH → List (List Ent) → Prop) (fr : Fr) (G : GH) (x : Option (List (List Ent) × Mem)) : Prop := match x with
  | some (Es, M2) => DCalls P f args rv G Es (leftK dr M2 fr res lo F R)
  | none => False
theorem leaveE_some (P : Program) (f : FuncId) (args : List Value) (rv : Value) (dr : List Nat) (res : List RRes) (lo : List Nat) (F : List Ent) (R : Out → GH → List (List Ent) → Prop) (fr : Fr) (G : GH) (Es : List (List Ent)) (M2 : Mem) :
    leaveE P f args rv dr res lo F R fr G (some (Es, M2)) = DCalls P f args rv G Es (leftK dr M2 fr res lo F R) := rfl
def leaveR (P : Program) (res : List RRes) (lo po dl dr : List Nat) (F : List Ent) (R : Out → GH → List (List Ent) → Prop) (pv : Option Value) (fr : Fr) (G : GH) (M : Mem) : List Deferred → Prop
  | [] => match pv with
    | none => resA fr G M res (retK lo F R G M)
    | some v => lastK F (R (.pan v) G) (M.pulls (1000000 :: po))
  | [d] => match d.target with
    | .fn (.func f) cap => leaveE P f (d.args.toList ++ cap.toList) (pv.getD .nilIface) dr res lo F R fr G (M.pulls dl)
    | _ => False
  | _ => False
/-- What is asked where a function ends that has deferred a call. -/
def endD (P : Program) (res : List RRes) (lo po dl dr : List Nat) (F : List Ent) (R : Out → GH → List (List Ent) → Prop) : QQ
  | .normal, fr, G, M, D => leaveR P res lo po dl dr F R none fr G M D
  | .ret, fr, G, M, D => leaveR P res lo po dl dr F R none fr G M D
  | .pan v, fr, G, M, D => leaveR P res lo po dl dr F R (some v) fr G M D
  | .exit _, _, _, _, _ => False
section
variable (P : Program) (res : List RRes) (lo po dl dr : List Nat) (F : List Ent) (R : Out → GH → List (List Ent) → Prop) (fr : Fr) (G : GH) (M : Mem) (D : List Deferred)
theorem ed_n : endD P res lo po dl dr F R .normal fr G M D = leaveR P res lo po dl dr F R none fr G M D := rfl
theorem ed_r : endD P res lo po dl dr F R .ret fr G M D = leaveR P res lo po dl dr F R none fr G M D := rfl
theorem ed_p (v : Value) : endD P res lo po dl dr F R (.pan v) fr G M D = leaveR P res lo po dl dr F R (some v) fr G M D := rfl
theorem leave_no : leaveR P res lo po dl dr F R none fr G M [] = resA fr G M res (retK lo F R G M) := rfl
theorem leave_pan (v : Value) : leaveR P res lo po dl dr F R (some v) fr G M [] = lastK F (R (.pan v) G) (M.pulls (1000000 :: po)) := rfl
theorem leave_one (f : FuncId) (x y z : List Value) : leaveR P res lo po dl dr F R none fr G M [{ target := .fn (.func f) z.toArray, args := x.toArray ++ y.toArray }] = leaveE P f (x ++ y ++ z) .nilIface dr res lo F R fr G (M.pulls dl) := by
  simp [leaveR]
theorem leave_onep (v : Value) (f : FuncId) (x y z : List Value) : leaveR P res lo po dl dr F R (some v) fr G M [{ target := .fn (.func f) z.toArray, args := x.toArray ++ y.toArray }] = leaveE P f (x ++ y ++ z) v dr res lo F R fr G (M.pulls dl) := by
  simp [leaveR]
end
theorem acallsD {P : Program} {G : GH} {f : FuncId} {nt : Nat} {code : RCode} {res : List RRes} {lo po : List Nat} (dl dr : List Nat) {args : List Value} {Es : List (List Ent)} {R : Out → GH → List (List Ent) → Prop} (hm : P.follows .mixedOrders = true)
    (hr : rbFn P f ⟨nt, code, res, lo, po⟩ = some ⟨nt, code, res, lo, po⟩) (ha : args.length ≤ nt) (h : ∀ F, Run P code (endD P res lo po dl dr F R) (frArgs 0 args) G (memArgs F 0 Es) []) : ACalls P f args G Es R := by
  refine acalls_of_defer (dl := dl) (dr := dr) hm hr ha fun F => ?_
  have e : fnD P ⟨nt, code, res, lo, po⟩ dl dr F R = endD P res lo po dl dr F R := by
    funext x fr G M D
    have h1 : ∀ pv, leaveP P ⟨nt, code, res, lo, po⟩ dl dr F R pv fr G M D = leaveR P res lo po dl dr F R pv fr G M D := by
      intro pv
      match D with
      | [] => cases pv <;> rfl
      | [d] =>
        simp only [leaveP, leaveR]
        split
        · simp only [leaveE]; cases M.pulls dl <;> rfl
        · rfl
      | _ :: _ :: _ => rfl
    cases x with
    | exit i => rfl
    | normal => exact h1 none
    | ret => exact h1 none
    | pan v => exact h1 (some v)
  rw [e]
  exact h F
theorem dcalls {P : Program} {G : GH} {f : FuncId} {d nt : Nat} {code : RCode} {lo po : List Nat} {args : List Value} {rv : Value} {Es : List (List Ent)} {R : GH → List (List Ent) → Prop} (hm : P.follows .mixedOrders = true)
    (hr : rbD P f d ⟨nt, code, [], lo, po⟩ = some ⟨nt, code, [], lo, po⟩) (ha : args.length ≤ nt) (h : ∀ F, Run P code (endQ [] lo po F fun o G Es => (∃ v, o = .ret v) ∧ R G Es) ((d, true, rv) :: frArgs 0 args) G (memArgs F 0 Es) []) : DCalls P f args rv G Es R := by
  refine dcalls_of hm hr ha fun F => ?_
  have e : fnQ ⟨nt, code, [], lo, po⟩ F (fun o G Es => (∃ v, o = .ret v) ∧ R G Es) = endQ [] lo po F fun o G Es => (∃ v, o = .ret v) ∧ R G Es := by
    funext x fr G M D
    cases x <;> rfl
  rw [e]
  exact h F
end Go.Gv
