/-
  The code of a function, and the function. No condition.
-/
import Derived.Test.YtokidokmcbkodaaGvReg
namespace Go.Gv
open Go.RowKit

/-- Code, its types read. -/
inductive RCode where
  | skip
  | reg (ps : List Nat) (l : List RStep)
  | dreg (ps : List Nat) (t : RTree)
  | mid (a : RCode)
  | norm (ts ls : List Nat) (a : RCode)
  | seq (a b : RCode)
  | cond (c : Opd) (a b : RCode)
  | block (id : Nat) (a : RCode)
  | loop (ts ls : List Nat) (a : RCode)
  | exit (id : Nat)
  | ret
  | keep (ts : List Nat) (a : RCode)
  | only (ls : List Nat) (a : RCode)
  | ghost (l : Nat) (a : RCode)
  | settle (l : Nat) (a : RCode)

def thenQ (K : Fr → GH → Mem → List Deferred → Prop) (Q : QQ) : QQ
  | .normal => K
  | .exit id => Q (.exit id)
  | .ret => Q .ret
  | .pan v => Q (.pan v)
def blkQ (id : Nat) (Q : QQ) : QQ
  | .normal => Q .normal
  | .exit j => if j = id then Q .normal else Q (.exit j)
  | .ret => Q .ret
  | .pan v => Q (.pan v)

def normQ (ts ls : List Nat) (Q : QQ) : QQ
  | .normal, fr, G, M, D => Q .normal (fr.keep ts) G (M.only ls) D
  | .exit id, fr, G, M, D => Q (.exit id) fr G M D
  | .ret, fr, G, M, D => Q .ret fr G M D
  | .pan v, fr, G, M, D => Q (.pan v) fr G M D

def Run (P : Program) : RCode → QQ → Fr → GH → Mem → List Deferred → Prop
  | .skip, Q, fr, G, M, D => Q .normal fr G M D
  | .reg ps l, Q, fr, G, M, D => RunL P Q (fr.keep ps) l fr G M D
  | .dreg ps t, Q, fr, G, M, D => RunT P Q (fr.keep ps) t [] fr G M D
  | .norm ts ls a, Q, fr, G, M, D => Run P a (normQ ts ls Q) fr G M D
  | .mid a, Q, fr, G, M, D => ∃ K : Fr → GH → Mem → List Deferred → Prop, Run P a (thenQ K Q) fr G M D ∧ ∀ fr' G' M' D', GLe G G' → K fr' G' M' D' → Q .normal fr' G' M' D'
  | .seq a b, Q, fr, G, M, D => Run P a (thenQ (Run P b Q) Q) fr G M D
  | .cond c a b, Q, fr, G, M, D => with1 fr true c fun v => match v with
    | .bool x => condP x (Run P a Q fr G M D) (Run P b Q fr G M D)
    | _ => False
  | .block id a, Q, fr, G, M, D => Run P a (blkQ id Q) fr G M D
  | .loop ts ls a, Q, fr, G, M, D => ∃ I : Nat → Fr → GH → Mem → Prop, (∃ n, I n (fr.keep ts) G (M.only ls)) ∧
      ∀ n fr G1 M, GLe G G1 → I n fr G1 M → Run P a (thenQ (fun fr' G' M' D' => D' = D ∧ ∃ m, m < n ∧ I m (fr'.keep ts) G' (M'.only ls)) Q) fr G1 M D
  | .exit id, Q, fr, G, M, D => Q (.exit id) fr G M D
  | .ret, Q, fr, G, M, D => Q .ret fr G M D
  | .keep ts a, Q, fr, G, M, D => Run P a Q (fr.keep ts) G M D
  | .only ls a, Q, fr, G, M, D => Run P a Q fr G (M.only ls) D
  | .ghost l a, Q, fr, G, M, D => Run P a Q fr G ((l, []) :: M) D
  | .settle l a, Q, fr, G, M, D => match M.pull l with
    | some ([.var b _ cs], M2) => ∀ G', GLe G G' → CellsAt G' b 0 cs → Run P a Q fr G' M2 D
    | _ => False

def rb (P : Program) (nt : Nat) : RCode → Code → Option RCode
  | .skip, .skip => some .skip
  | .skip, .label _ => some .skip
  | .reg ps l, .region _ ops false => match rbL P nt ops (List.range ops.size) l with
    | some l' => if l'.all (RStep.off ps) = true then some (.reg ps l') else none
    | none => none
  | .dreg ps t, .region _ ops true => if Region.noSelect ops = true ∧ t.size ≤ ops.size then
      match rbT P nt ops (Array.replicate ops.size false) t with
      | some t' => if t'.off ps = true then some (.dreg ps t') else none
      | none => none
    else none
  | .mid a, x => (rb P nt a x).map .mid
  | .norm ts ls a, x => (rb P nt a x).map (.norm ts ls)
  | .seq a b, .seq x y => match rb P nt a x, rb P nt b y with
    | some a', some b' => some (.seq a' b')
    | _, _ => none
  | .cond _ a b, .cond c x y => match rb P nt a x, rb P nt b y with
    | some a', some b' => some (.cond (opd c) a' b')
    | _, _ => none
  | .block _ a, .block id x => (rb P nt a x).map (.block id)
  | .loop ts ls a, .loop x => (rb P nt a x).map (.loop ts ls)
  | .exit _, .exit id => some (.exit id)
  | .ret, .ret => some .ret
  | .keep ts a, x => (rb P nt a x).map (.keep ts)
  | .only ls a, x => (rb P nt a x).map (.only ls)
  | .ghost l a, x => (rb P nt a x).map (.ghost l)
  | .settle l a, x => (rb P nt a x).map (.settle l)
  | _, _ => none

section
variable {P : Program} {nt : Nat} {fr : Fr} {a : Act} {w0 w : World} {G : GH} {M : Mem}

theorem Behind.base {K : Fr → GH → Mem → List Deferred → Prop} {G0 : GH} (hg : GLe G0 G) (h : Behind w0 nt G K a w) : Behind w0 nt G0 K a w := by
  obtain ⟨fr, G', M, hk, hg', h⟩ := h
  exact ⟨fr, G', M, hk, hg.trans hg', h⟩
theorem Conc.base {Q : QQ} {G0 : GH} (hg : GLe G0 G) {e : Exit} (h : Conc w0 nt G Q e a w) : Conc w0 nt G0 Q e a w := by
  cases e with
  | normal => exact Behind.base hg h
  | exit id => exact Behind.base hg h
  | ret => exact Behind.base hg h
  | panic ch => obtain ⟨v, fr, G', M, h1, h2, hg', h3⟩ := h; exact ⟨v, fr, G', M, h1, h2, hg.trans hg', h3⟩
  | goto l => exact h.elim
  | outgrown => exact h.elim

/-- A block that will not be written again. -/
theorem View.settleVar {b : Nat} {e : TypeId} {cs : List Value} {M2 : Mem} (hv : View w0 G M w) (hp : M.all.Perm (.var b e cs :: M2.all)) : ∃ G', GLe G G' ∧ CellsAt G' b 0 cs ∧ View w0 G' M2 w := by
  have hv1 : View w0 G [(0, .var b e cs :: M2.all)] w := hv.perm (by simpa [Mem.all] using hp)
  obtain ⟨_, hb, hfree⟩ := hv1.ents (.var b e cs) (by simp [Mem.all])
  have hv2 : View w0 G M2 w := hv1.drop (by simp only [Mem.all, List.flatMap_cons, List.flatMap_nil, List.append_nil]; exact List.sublist_cons_self _ _)
  have hap : ∀ y ∈ M2.all, y.blk ≠ b := by
    have := hv1.apart
    simp only [Mem.all, List.flatMap_cons, List.flatMap_nil, List.append_nil, List.pairwise_cons] at this
    intro y hy e; exact this.1 y hy e.symm
  refine ⟨fun b' o => if b' = b then cs[o]? else G b' o, fun b' o v h => ?_, fun j v h => ?_, hv2.settle (fun b' o v h => ?_) (fun x hx o => if_neg (hap x hx))⟩
  · have hne : b' ≠ b := fun e => by subst e; rw [hfree] at h; cases h
    simp only [if_neg hne]; exact h
  · simp only [if_true, Nat.zero_add]; exact h
  · by_cases e' : b' = b
    · subst e'
      simp only [if_true] at h
      simp [World.cell?, hb, h]
    · simp only [if_neg e'] at h
      exact hv2.cells _ _ _ h

theorem least (p : Nat → Prop) (h : ∃ n, p n) : ∃ n, p n ∧ ∀ m, p m → n ≤ m := by
  obtain ⟨n, hn⟩ := h
  induction n using Nat.strongRecOn with
  | _ n ih =>
    by_cases hx : ∃ m, m < n ∧ p m
    · obtain ⟨m, hm, hp⟩ := hx; exact ih m hm hp
    · exact ⟨n, hn, fun m hm => Nat.le_of_not_lt fun hlt => hx ⟨m, hlt, hm⟩⟩

theorem loop_wp {Q : QQ} {ts ls : List Nat} {c : Code} {I : Nat → Fr → GH → Mem → Prop} {D : List Deferred}
    (body : ∀ n fr G1 M a w, GLe G G1 → I n fr G1 M → FrOk nt fr a → View w0 G1 M w → a.defers = D →
      c.wp P (Conc w0 nt G1 (thenQ (fun fr' G' M' D' => D' = D ∧ ∃ m, m < n ∧ I m (fr'.keep ts) G' (M'.only ls)) Q)) a w)
    {n : Nat} (h0 : I n (fr.keep ts) G (M.only ls)) (hf : FrOk nt fr a) (hv : View w0 G M w) (hd : a.defers = D) : (Code.loop c).wp P (Conc w0 nt G Q) a w := by
  let J : Nat → Act → World → Prop := fun n a' w' => ∃ fr G1 M, GLe G G1 ∧ I n fr G1 M ∧ FrOk nt fr a' ∧ View w0 G1 M w' ∧ a'.defers = D
  have hJ0 : J n a w := ⟨_, G, _, GLe.refl G, h0, hf.keep ts, hv.only ls, hd⟩
  have hex : ∀ a' w', ∃ k, ((∃ n, J n a' w') → J k a' w' ∧ ∀ m, J m a' w' → k ≤ m) := by
    intro a' w'
    by_cases h : ∃ n, J n a' w'
    · obtain ⟨k, hk⟩ := least (fun n => J n a' w') h
      exact ⟨k, fun _ => hk⟩
    · exact ⟨0, fun h' => absurd h' h⟩
  let μ : Act → World → Nat := fun a' w' => Classical.choose (hex a' w')
  have hμ : ∀ a' w', (∃ n, J n a' w') → J (μ a' w') a' w' ∧ ∀ m, J m a' w' → μ a' w' ≤ m := fun a' w' => Classical.choose_spec (hex a' w')
  refine wp_loop (fun a' w' => ∃ n, J n a' w') μ ⟨n, hJ0⟩ ?_
  intro a' w' hx
  obtain ⟨fr1, G1, M1, hg, hI, hf1, hv1, hd1⟩ := (hμ a' w' hx).1
  refine wp_mono (body _ fr1 G1 M1 a' w' hg hI hf1 hv1 hd1) ?_
  intro e a2 w2 h
  cases e with
  | normal =>
    obtain ⟨fr2, G2, M2, ⟨hD, m, hm, hI2⟩, hg2, hf2, hv2⟩ := h
    have hJ2 : J m a2 w2 := ⟨_, G2, _, hg.trans hg2, hI2, hf2.keep ts, hv2.only ls, hD⟩
    exact ⟨⟨m, hJ2⟩, Nat.lt_of_le_of_lt ((hμ a2 w2 ⟨m, hJ2⟩).2 m hJ2) hm⟩
  | exit id => exact Behind.base hg h
  | ret => exact Behind.base hg h
  | panic ch => exact Conc.base (nt := nt) (e := .panic ch) hg h
  | goto l => exact h.elim
  | outgrown => exact h.elim

theorem run_sound (hm : P.follows .mixedOrders = true) : ∀ (rc : RCode) {c : Code} {rc' : RCode} {Q : QQ} {fr : Fr} {G : GH} {M : Mem} {a : Act} {w : World},
    rb P nt rc c = some rc' → Run P rc' Q fr G M a.defers → FrOk nt fr a → View w0 G M w → c.wp P (Conc w0 nt G Q) a w
  | .skip, c, rc', Q, fr, G, M, a, w, hr, h, hf, hv => by
    cases c <;> simp only [rb] at hr <;> first | (cases hr; done) | skip
    · cases hr; exact wp_skip ⟨fr, G, M, h, GLe.refl G, hf, hv⟩
    · cases hr; exact wp_label ⟨fr, G, M, h, GLe.refl G, hf, hv⟩
  | .reg ps l, c, rc', Q, fr, G, M, a, w, hr, h, hf, hv => by
    cases c with
    | region id ops draw =>
      cases draw with
      | true => simp [rb] at hr
      | false =>
        simp only [rb] at hr
        split at hr
        · rename_i l' hl
          split at hr
          · rename_i hoff
            cases hr
            refine wp_mono (wp_region (runL_sound _ hl (fun s hs => RStep.off_offs (List.all_eq_true.1 hoff s hs) fr) h (GLe.refl G) hf (hf.keep ps) hv)) fun e a w h => h.conc
          · cases hr
        · cases hr
    | _ => simp [rb] at hr
  | .dreg ps t, c, rc', Q, fr, G, M, a, w, hr, h, hf, hv => by
    cases c with
    | region id ops draw =>
      cases draw with
      | false => simp [rb] at hr
      | true =>
        simp only [rb] at hr
        split at hr
        · rename_i hs
          split at hr
          · rename_i t' ht
            split at hr
            · rename_i hoff
              cases hr
              exact wp_mono (wp_region_D hm (runT_sound hs.1 t ht hs.2 (RTree.off_offs fr hoff) h (GLe.refl G) hf (hf.keep ps) (hv.drawn _) (fun x hx => by cases hx) (Inv.nil _))) fun e a w h => h.conc
            · cases hr
          · cases hr
        · cases hr
    | _ => simp [rb] at hr
  | .seq x y, c, rc', Q, fr, G, M, a, w, hr, h, hf, hv => by
    cases c with
    | seq cx cy =>
      simp only [rb] at hr
      split at hr
      · rename_i x' y' h1 h2
        cases hr
        refine wp_seq (wp_mono (run_sound hm x h1 h hf hv) ?_)
        intro e a' w' he
        cases e with
        | normal =>
          obtain ⟨fr', G', M', hk, hg, hf', hv'⟩ := he
          exact wp_mono (run_sound hm y h2 hk hf' hv') fun e a w h => Conc.base hg h
        | _ => exact he
      · cases hr
    | _ => simp [rb] at hr
  | .cond o x y, c, rc', Q, fr, G, M, a, w, hr, h, hf, hv => by
    cases c with
    | cond cc cx cy =>
      simp only [rb] at hr
      split at hr
      · rename_i x' y' h1 h2
        cases hr
        obtain ⟨v, hx, h⟩ := with1_iff h
        have he := opd_eval hf cc (hx rfl)
        split at h
        · rename_i b
          refine wp_cond he ?_
          cases b with
          | true => exact run_sound hm x h1 (h.1 rfl) hf hv
          | false => exact run_sound hm y h2 (h.2 rfl) hf hv
        · exact h.elim
      · cases hr
    | _ => simp [rb] at hr
  | .block i x, c, rc', Q, fr, G, M, a, w, hr, h, hf, hv => by
    cases c with
    | block id cx =>
      simp only [rb, Option.map_eq_some_iff] at hr
      obtain ⟨x', hx, rfl⟩ := hr
      refine wp_block (wp_mono (run_sound hm x hx h hf hv) ?_)
      intro e a' w' he
      cases e with
      | exit j =>
        simp only [Exit.inBlock]
        simp only [Conc, blkQ] at he
        split
        · rename_i hj; simp only [hj, if_true] at he; exact he
        · rename_i hj; simp only [hj, if_false] at he; exact he
      | _ => exact he
    | _ => simp [rb] at hr
  | .loop ts ls x, c, rc', Q, fr, G, M, a, w, hr, h, hf, hv => by
    cases c with
    | loop cx =>
      simp only [rb, Option.map_eq_some_iff] at hr
      obtain ⟨x', hx, rfl⟩ := hr
      obtain ⟨I, ⟨n, h0⟩, hb⟩ := h
      refine loop_wp (ts := ts) (ls := ls) (I := I) (D := a.defers) ?_ h0 hf hv rfl
      intro n fr1 G1 M1 a1 w1 hg hI hf1 hv1 hd1
      have h1 := hb n fr1 G1 M1 hg hI
      rw [← hd1] at h1 ⊢
      exact run_sound hm x hx h1 hf1 hv1
    | _ => simp [rb] at hr
  | .exit i, c, rc', Q, fr, G, M, a, w, hr, h, hf, hv => by
    cases c with
    | exit id => simp only [rb] at hr; cases hr; exact wp_exit ⟨fr, G, M, h, GLe.refl G, hf, hv⟩
    | _ => simp [rb] at hr
  | .ret, c, rc', Q, fr, G, M, a, w, hr, h, hf, hv => by
    cases c with
    | ret => simp only [rb] at hr; cases hr; exact wp_ret ⟨fr, G, M, h, GLe.refl G, hf, hv⟩
    | _ => simp [rb] at hr
  | .norm ts ls x, c, rc', Q, fr, G, M, a, w, hr, h, hf, hv => by
    simp only [rb, Option.map_eq_some_iff] at hr
    obtain ⟨x', hx, rfl⟩ := hr
    refine wp_mono (run_sound hm x hx h hf hv) ?_
    intro e a' w' he
    cases e with
    | normal =>
      obtain ⟨fr', G', M', hk, hg, hf', hv'⟩ := he
      exact ⟨_, G', _, hk, hg, hf'.keep ts, hv'.only ls⟩
    | _ => exact he
  | .mid x, c, rc', Q, fr, G, M, a, w, hr, h, hf, hv => by
    simp only [rb, Option.map_eq_some_iff] at hr
    obtain ⟨x', hx, rfl⟩ := hr
    obtain ⟨K, h1, h2⟩ := h
    refine wp_mono (run_sound hm x hx h1 hf hv) ?_
    intro e a' w' he
    cases e with
    | normal =>
      obtain ⟨fr', G', M', hk, hg, hf', hv'⟩ := he
      exact ⟨fr', G', M', h2 _ _ _ _ hg hk, hg, hf', hv'⟩
    | _ => exact he
  | .keep ts x, c, rc', Q, fr, G, M, a, w, hr, h, hf, hv => by
    simp only [rb, Option.map_eq_some_iff] at hr
    obtain ⟨x', hx, rfl⟩ := hr
    exact run_sound hm x hx h (hf.keep ts) hv
  | .only ls x, c, rc', Q, fr, G, M, a, w, hr, h, hf, hv => by
    simp only [rb, Option.map_eq_some_iff] at hr
    obtain ⟨x', hx, rfl⟩ := hr
    exact run_sound hm x hx h hf (hv.only ls)
  | .ghost l x, c, rc', Q, fr, G, M, a, w, hr, h, hf, hv => by
    simp only [rb, Option.map_eq_some_iff] at hr
    obtain ⟨x', hx, rfl⟩ := hr
    exact run_sound hm x hx h hf (hv.drop (by simp [Mem.all]))
  | .settle l x, c, rc', Q, fr, G, M, a, w, hr, h, hf, hv => by
    simp only [rb, Option.map_eq_some_iff] at hr
    obtain ⟨x', hx, rfl⟩ := hr
    simp only [Run] at h
    split at h
    · rename_i b e cs M2 hp
      obtain ⟨G', hg, hc, hv'⟩ := hv.settleVar (b := b) (e := e) (cs := cs) (M2 := M2) (by simpa using Mem.pull_all hp)
      exact wp_mono (run_sound hm x hx (h G' hg hc) hf hv') fun e a w h => Conc.base hg h
    · exact h.elim

/-- Where a function's results lie. -/
inductive RRes where
  | tmp (t : Nat)
  | cell (n : Option Nat) (hint : Option (Nat × Nat)) (t : Nat)
def rbRes (P : Program) : List ResultVar → List RRes → Option (List RRes)
  | [], [] => some []
  | .tmp t :: r, .tmp _ :: s => (rbRes P r s).map (.tmp t :: ·)
  | .cell t ty :: r, .cell _ h _ :: s => match aggN P ty, rbRes P r s with
    | some n, some s' => some (.cell n h t :: s')
    | _, _ => none
  | _, _ => none
def resP (fr : Fr) (G : GH) (M : Mem) : List RRes → (List Value → Prop) → Prop
  | [], K => K []
  | .tmp t :: r, K => with1 fr true (.t t) fun v => resP fr G M r fun vs => K (v :: vs)
  | .cell n h t :: r, K => with1 fr true (.t t) fun p => ldP G M n h p fun v => resP fr G M r fun vs => K (v :: vs)
def resV : List Value → Value
  | [v] => v
  | vs => .tuple vs.toArray

/-- A function, its types read. -/
structure RFn where
  nt : Nat
  code : RCode
  res : List RRes
  lout : List Nat
  plout : List Nat
def rbFn (P : Program) (f : FuncId) (r : RFn) : Option RFn :=
  match P.funcs[f]? with
  | some fn => match fn.body with
    | some c => if fn.name != "runtime.NumGoroutine" then
        match rb P fn.ntmps r.code c, rbRes P fn.results.toList r.res with
        | some c', some s => some ⟨fn.ntmps, c', s, r.lout, r.plout⟩
        | _, _ => none
      else none
    | none => none
  | none => none

def outP (M : Mem) (lout : List Nat) (F : List Ent) (K : List (List Ent) → Prop) : Prop :=
  match M.pulls (1000000 :: lout) with
  | some (F' :: Es, _) => F' = F ∧ K Es
  | _ => False
def fnQ (r : RFn) (F : List Ent) (R : Out → GH → List (List Ent) → Prop) : QQ
  | .normal, fr, G, M, D => D = [] ∧ resP fr G M r.res fun vs => outP M r.lout F fun Es => R (.ret (resV vs)) G Es
  | .ret, fr, G, M, D => D = [] ∧ resP fr G M r.res fun vs => outP M r.lout F fun Es => R (.ret (resV vs)) G Es
  | .pan v, _, G, M, D => D = [] ∧ outP M r.plout F fun Es => R (.pan v) G Es
  | .exit _, _, _, _, _ => False

def frArgs : Nat → List Value → Fr
  | _, [] => []
  | i, v :: r => (i, true, v) :: frArgs (i + 1) r
def memArgs (F : List Ent) : Nat → List (List Ent) → Mem
  | _, [] => [(1000000, F)]
  | i, v :: r => (i, v) :: memArgs F (i + 1) r

theorem frArgs_get : ∀ (l : List Value) (i n : Nat) (g : Bool) (v : Value), (frArgs i l).get n = some (g, v) → g = true ∧ ∃ j, n = i + j ∧ l[j]? = some v
  | [], i, n, g, v, h => by simp [frArgs, Fr.get] at h
  | u :: r, i, n, g, v, h => by
    simp only [frArgs, Fr.get] at h
    split at h
    · rename_i e
      simp at h; obtain ⟨rfl, rfl⟩ := h
      exact ⟨rfl, 0, by omega, rfl⟩
    · obtain ⟨h1, j, h2, h3⟩ := frArgs_get r (i + 1) n g v h
      exact ⟨h1, j + 1, by omega, by simpa using h3⟩
theorem memArgs_all (F : List Ent) : ∀ (l : List (List Ent)) (i : Nat), (memArgs F i l).all = l.flatten ++ F
  | [], i => by simp [memArgs, Mem.all]
  | x :: r, i => by
    have := memArgs_all F r (i + 1)
    simp only [Mem.all] at this
    simp [memArgs, Mem.all, this]

def resOne (tmps : Array Value) : ResultVar → Sem Value
  | .tmp t => pure (tmps.getD t undef)
  | .cell a t => do loadVar t (← asAddr (tmps.getD a undef))
theorem results_eq (fn : Func) (tmps : Array Value) : results fn tmps = (do
    let vs ← fn.results.mapM (resOne tmps)
    pure (if h : vs.size = 1 then vs[0] else .tuple vs)) := by
  unfold results
  congr 1

theorem ld_addr {n : Option Nat} {hint : Option (Nat × Nat)} {x : Value} {K : Value → Prop} (h : ldP G M n hint x K) : ∃ b o, x = .pointer (some ⟨b, o, none⟩) := by
  unfold ldP at h
  split at h
  · rename_i b o; exact ⟨b, o, rfl⟩
  · exact h.elim

theorem resL_run (hv : View w0 G M w) (hf : FrOk nt fr a) : ∀ (l : List ResultVar) (rr rr' : List RRes) (K : List Value → Prop), rbRes P l rr = some rr' → resP fr G M rr' K →
    ∃ vs, K vs ∧ (l.mapM (resOne a.tmps)).run P w = .ok vs w
  | [], rr, rr', K, hr, h => by
    cases rr with
    | nil => simp [rbRes] at hr; subst hr; exact ⟨[], h, by simp⟩
    | cons x r => simp [rbRes] at hr
  | .tmp t :: r, rr, rr', K, hr, h => by
    cases rr with
    | nil => simp [rbRes] at hr
    | cons y s =>
      cases y with
      | cell n hh t' => simp [rbRes] at hr
      | tmp t' =>
        simp only [rbRes, Option.map_eq_some_iff] at hr
        obtain ⟨s', hs, rfl⟩ := hr
        obtain ⟨v, hv1, h⟩ := with1_iff h
        obtain ⟨vs, hk, hrun⟩ := resL_run hv hf r s s' _ hs h
        have he := hf.eval (hv1 rfl)
        simp only [Act.eval] at he
        refine ⟨v :: vs, hk, ?_⟩
        rw [List.mapM_cons]
        simp only [resOne, he, Sem.run_bind, Sem.run_pure, Result.andThen_ok, hrun]
  | .cell t ty :: r, rr, rr', K, hr, h => by
    cases rr with
    | nil => simp [rbRes] at hr
    | cons y s =>
      cases y with
      | tmp t' => simp [rbRes] at hr
      | cell n hh t' =>
        simp only [rbRes] at hr
        split at hr
        · rename_i m s' hn hs
          simp at hr; subst hr
          obtain ⟨p, hp, h⟩ := with1_iff h
          obtain ⟨b, o, rfl⟩ := ld_addr h
          obtain ⟨v, h, hl⟩ := ld_run hv hn h
          obtain ⟨vs, hk, hrun⟩ := resL_run hv hf r s s' _ hs h
          have he := hf.eval (hp rfl)
          simp only [Act.eval] at he
          have hl' : (loadVar ty ⟨b, o, none⟩).run P w = .ok v w := by simpa [Instr.loadAt, Instr.sureAddr] using hl
          refine ⟨v :: vs, hk, ?_⟩
          rw [List.mapM_cons]
          simp only [resOne, he, asAddr, Sem.run_bind, Sem.run_pure, Result.andThen_ok, hrun, hl']
        · cases hr

theorem results_run {fn : Func} {rr rr' : List RRes} {K : List Value → Prop} (hv : View w0 G M w) (hf : FrOk nt fr a)
    (hr : rbRes P fn.results.toList rr = some rr') (h : resP fr G M rr' K) : ∃ vs, K vs ∧ (results fn a.tmps).run P w = .ok (resV vs) w := by
  obtain ⟨vs, hk, hrun⟩ := resL_run hv hf _ rr rr' K hr h
  refine ⟨vs, hk, ?_⟩
  rw [results_eq, Sem.run_bind, Array.mapM_eq_mapM_toList, Sem.run_map, hrun]
  match vs with
  | [] => rfl
  | [v] => rfl
  | u :: v :: r => simp [resV]

theorem acalls_of {f : FuncId} {r : RFn} {args : List Value} {Es : List (List Ent)} {R : Out → GH → List (List Ent) → Prop} (hm : P.follows .mixedOrders = true)
    (hr : rbFn P f r = some r) (ha : args.length ≤ r.nt) (h : ∀ F, Run P r.code (fnQ r F R) (frArgs 0 args) G (memArgs F 0 Es) []) : ACalls P f args G Es R := by
  unfold rbFn at hr
  split at hr
  · rename_i fn hf
    split at hr
    · rename_i c hb
      split at hr
      · rename_i hn
        split at hr
        · rename_i c' s hc hs
          have hn' : fn.name ≠ "runtime.NumGoroutine" := by simpa using hn
          obtain ⟨nt, code, res, lout, plout⟩ := r
          simp only [Option.some.injEq, RFn.mk.injEq, and_true] at hr
          obtain ⟨hnt, rfl, rfl⟩ := hr
          subst hnt
          refine ⟨by simp [FnOk, hf, hb, hn'], fun w0 w F hv => ?_⟩
          refine calls_of_wp hf hb ?_
          have hv1 : View w0 G (memArgs F 0 Es) w := hv.perm (by rw [memArgs_all]; simp [Mem.all])
          have hf0 : FrOk fn.ntmps (frArgs 0 args) { tmps := args.toArray ++ Array.replicate (fn.ntmps - args.toArray.size) undef, defers := [] } := by
            refine ⟨by simp at ha ⊢; omega, fun n g v hg => ?_⟩
            obtain ⟨rfl, j, hj, hv⟩ := frArgs_get _ _ _ _ _ hg
            have hlt := (List.getElem?_eq_some_iff.1 hv).1
            have : n = j := by omega
            subst this
            rw [Array.getElem?_append]
            simp [hlt, (List.getElem?_eq_some_iff.1 hv).2]
          refine wp_mono (run_sound hm _ hc (h F) hf0 hv1) ?_
          have hout : ∀ {M : Mem} {lo : List Nat} {K : List (List Ent) → Prop} {G' : GH} {w' : World}, outP M lo F K → View w0 G' M w' → ∃ Es', K Es' ∧ View w0 G' [(0, Es'.flatten ++ F)] w' := by
            intro M lo K G' w' ho hv'
            unfold outP at ho
            split at ho
            · rename_i F' Es' M2 hp
              obtain ⟨rfl, hk⟩ := ho
              refine ⟨Es', hk, ?_⟩
              have h1 := hv'.perm (M' := [(0, (F' ++ Es'.flatten) ++ M2.all)]) (by
                have := Mem.pulls_all hp
                simpa [Mem.all] using this)
              have h2 := h1.drop (M' := [(0, F' ++ Es'.flatten)]) (by simp [Mem.all])
              exact h2.perm (by simpa [Mem.all] using List.perm_append_comm)
            · exact ho.elim
          intro e a' w' he
          have hret : Behind w0 fn.ntmps G (fun fr G M D => D = [] ∧ resP fr G M s fun vs => outP M lout F fun Es => R (.ret (resV vs)) G Es) a' w' →
              a'.defers = [] ∧ ∃ v, (results fn a'.tmps).run P w' = .ok v w' ∧ ∃ o G' Es', GLe G G' ∧ View w0 G' [(0, Es'.flatten ++ F)] w' ∧ R o G' Es' ∧ o = .ret v := by
            rintro ⟨fr, G', M, ⟨hD, hres⟩, hg, hf', hv'⟩
            obtain ⟨vs, ho, hrun⟩ := results_run hv' hf' hs hres
            obtain ⟨Es', hR, hv2⟩ := hout ho hv'
            exact ⟨hD, _, hrun, _, G', Es', hg, hv2, hR, rfl⟩
          cases e with
          | normal => exact hret he
          | ret => exact hret he
          | exit id => obtain ⟨fr, G', M, hh, _⟩ := he; exact hh.elim
          | goto l => exact he.elim
          | outgrown => exact he.elim
          | panic ch =>
            obtain ⟨v, fr, G', M, rfl, ⟨hD, ho⟩, hg, _, hv'⟩ := he
            obtain ⟨Es', hR, hv2⟩ := hout ho hv'
            exact ⟨hD, _, G', Es', hg, hv2, hR, v, rfl, rfl⟩
        · cases hr
      · cases hr
    · cases hr
  · cases hr
end
end Go.Gv
