/-
  How data lie in memory that is settled. No condition.
-/
import Derived.Test.YtokidokmcbkodaaGvSimp3
namespace Go.Gv
open Go.RowKit

/-- What is known may be forgotten. -/
theorem View.less {w0 w : World} {G G' : GH} {M : Mem} (h : View w0 G' M w) (hg : GLe G G') : View w0 G M w := by
  have hn : ∀ b o, G' b o = none → G b o = none := by
    intro b o hb
    cases hx : G b o with
    | none => rfl
    | some v => rw [hg b o v hx] at hb; cases hb
  refine ⟨h.below, fun b o v hv => h.cells b o v (hg b o v hv), fun x hx => ?_, h.apart⟩
  have := h.ents x hx
  cases x <;> simp only [Ent.ok] at *
  · exact ⟨this.1, this.2.1, fun o => hn _ _ (this.2.2 o)⟩
  · obtain ⟨h1, C, h2, h3, h4, h5⟩ := this
    exact ⟨h1, C, h2, h3, h4, fun o ho => hn _ _ (h5 o ho)⟩
  · exact this
theorem ACalls.forget {P : Program} {f : FuncId} {args : List Value} {G : GH} {Es : List (List Ent)} {R : Out → List (List Ent) → Prop} (h : ACalls P f args G Es fun o _ Es' => R o Es') :
    ACalls P f args G Es fun o G' Es' => R o Es' ∧ G' = G :=
  ⟨h.1, fun w0 w F hv => (h.2 w0 w F hv).mono fun _ _ ⟨o, _, Es', h1, h2, h3, h4⟩ => ⟨o, G, Es', GLe.refl G, h2.less h1, ⟨h3, rfl⟩, h4⟩⟩
theorem cellsG_mono {G G' : GH} (hg : GLe G G') {b : Nat} : ∀ {n o : Nat} {vs : List Value}, cellsG G b o n = some vs → cellsG G' b o n = some vs := by
  intro n o vs h
  obtain ⟨h1, h2⟩ := (cellsG_iff G b n o vs).1 h
  exact (cellsG_iff G' b n o vs).2 ⟨h1, h2.mono hg⟩
theorem cellsG_one {G : GH} {b o : Nat} {v : Value} : cellsG G b o 1 = some [v] ↔ G b o = some v := by
  simp only [cellsG]
  cases G b o <;> simp

theorem flatten_get {sz : Nat} : ∀ {css : List (List Value)}, (∀ cs ∈ css, cs.length = sz) → ∀ {j : Nat} {cs : List Value}, css[j]? = some cs → ∀ {i : Nat} {v : Value}, cs[i]? = some v → css.flatten[j * sz + i]? = some v
  | [], _, j, cs, h, i, v, hv => by simp at h
  | c :: r, hl, 0, cs, h, i, v, hv => by
    simp at h; subst h
    rw [List.flatten_cons, Nat.zero_mul, Nat.zero_add, List.getElem?_append_left (List.getElem?_eq_some_iff.1 hv).1]; exact hv
  | c :: r, hl, j + 1, cs, h, i, v, hv => by
    have hc := hl c (by simp)
    have := flatten_get (fun cs hcs => hl cs (List.mem_cons_of_mem _ hcs)) (by simpa using h) hv
    rw [List.flatten_cons, List.getElem?_append_right (by rw [hc, Nat.succ_mul]; omega), hc, show (j + 1) * sz + i - sz = j * sz + i by rw [Nat.succ_mul]; omega]
    exact this
theorem flatten_length {sz : Nat} : ∀ {css : List (List Value)}, (∀ cs ∈ css, cs.length = sz) → css.flatten.length = css.length * sz
  | [], _ => by simp
  | c :: r, hl => by
    rw [List.flatten_cons, List.length_append, hl c (by simp), flatten_length (fun cs hcs => hl cs (List.mem_cons_of_mem _ hcs)), List.length_cons, Nat.succ_mul]; omega

/-- Rows of cells behind an address. -/
def Row (G : GH) (sz : Nat) (a : Option Addr) (css : List (List Value)) : Prop :=
  (∀ cs ∈ css, cs.length = sz) ∧
  match a with
  | some ⟨b, o, none⟩ => CellsAt G b o css.flatten
  | _ => css = []
theorem Row.mono {G G' : GH} {sz : Nat} {a : Option Addr} {css : List (List Value)} (h : Row G sz a css) (hg : GLe G G') : Row G' sz a css := by
  obtain ⟨hl, h⟩ := h
  refine ⟨hl, ?_⟩
  split at h
  · exact h.mono hg
  · exact h
theorem Row.cells {G : GH} {sz b o : Nat} {css : List (List Value)} (h : Row G sz (some ⟨b, o, none⟩) css) {j : Nat} {cs : List Value} (hj : css[j]? = some cs) : cellsG G b (o + j * sz) sz = some cs := by
  refine (cellsG_iff G b sz _ cs).2 ⟨h.1 cs (List.mem_of_getElem? hj), fun i v hv => ?_⟩
  rw [Nat.add_assoc]
  exact h.2 _ v (flatten_get h.1 hj hv)
theorem Row.get {G : GH} {sz : Nat} {a : Option Addr} {css : List (List Value)} (h : Row G sz a css) {j : Nat} {cs : List Value} (hj : css[j]? = some cs) : ∃ b o, a = some ⟨b, o, none⟩ ∧ cellsG G b (o + j * sz) sz = some cs := by
  have h2 := h.2
  split at h2
  · rename_i b o; exact ⟨b, o, rfl, h.cells hj⟩
  · subst h2; simp at hj
/-- What is appended. -/
theorem Row.src {G : GH} {sz : Nat} {a : Option Addr} {css : List (List Value)} (h : Row G sz a css) (ho : ∀ u ∈ css.flatten, u.oneCell' = true) : Src G sz css.length a css.flatten := by
  refine ⟨flatten_length h.1, ho, ?_⟩
  have h2 := h.2
  split at h2
  · exact h2
  · subst h2; rename_i hx; split; exact (hx _ _ rfl).elim; rfl
/-- What is owned is settled. -/
theorem OwnS.row {G : GH} {e : TypeId} {sz : Nat} {v : Value} {css : List (List Value)} {es : List Ent} (hl : ∀ cs ∈ css, cs.length = sz) (hp : 0 < sz) (h : OwnS G e sz v css.flatten es) :
    ∃ a c, v = .slice a css.length c ∧ css.length ≤ c ∧ c ≤ maxLen ∧ Row G sz a css := by
  obtain ⟨n, c, h1, h2, h3, h⟩ := h
  have hn : n = css.length := by
    rw [flatten_length hl] at h3
    exact (Nat.eq_of_mul_eq_mul_right hp h3).symm
  subst hn
  rcases h with ⟨rfl, h4, h5⟩ | ⟨b, rfl, h5, h6⟩
  · exact ⟨none, 0, by rw [h4], by omega, by omega, hl, List.eq_nil_of_length_eq_zero h4⟩
  · exact ⟨_, c, rfl, h1, h2, hl, h6⟩

/-- A slice whose rows are settled. -/
def Sl (G : GH) (sz : Nat) (v : Value) (css : List (List Value)) : Prop :=
  ∃ a c, v = .slice a css.length c ∧ css.length ≤ c ∧ c ≤ maxLen ∧ Row G sz a css
theorem Sl.mono {G G' : GH} {sz : Nat} {v : Value} {css : List (List Value)} (h : Sl G sz v css) (hg : GLe G G') : Sl G' sz v css := by
  obtain ⟨a, c, h1, h2, h3, h4⟩ := h
  exact ⟨a, c, h1, h2, h3, h4.mono hg⟩
theorem Sl.nil (G : GH) (sz : Nat) : Sl G sz (.slice none 0 0) [] := ⟨none, 0, rfl, Nat.le_refl _, Nat.zero_le _, by simp, rfl⟩

/-- Integers of one kind. -/
def encI (k : IntKind) (l : List Int) : List (List Value) := l.map fun x => [.int k x]
theorem encI_length (k : IntKind) (l : List Int) : (encI k l).length = l.length := by simp [encI]
theorem encI_get {k : IntKind} {l : List Int} {j : Nat} (h : j < l.length) : (encI k l)[j]? = some [.int k l[j]] := by simp [encI, h]
def SlI (G : GH) (k : IntKind) (v : Value) (l : List Int) : Prop := ∃ a c, v = .slice a l.length c ∧ l.length ≤ c ∧ c ≤ maxLen ∧ Row G 1 a (encI k l)
theorem SlI.mono {G G' : GH} {k : IntKind} {v : Value} {l : List Int} (h : SlI G k v l) (hg : GLe G G') : SlI G' k v l := by
  obtain ⟨a, c, h1, h2, h3, h4⟩ := h
  exact ⟨a, c, h1, h2, h3, h4.mono hg⟩
theorem SlI.sl {G : GH} {k : IntKind} {v : Value} {l : List Int} : SlI G k v l ↔ Sl G 1 v (encI k l) := by
  simp only [SlI, Sl, encI_length]
theorem RowI.get {G : GH} {k : IntKind} {a : Option Addr} {l : List Int} (h : Row G 1 a (encI k l)) {j : Nat} (hj : j < l.length) : ∃ b o, a = some ⟨b, o, none⟩ ∧ G b (o + j) = some (.int k l[j]) := by
  obtain ⟨b, o, h1, h2⟩ := h.get (encI_get hj)
  rw [Nat.mul_one] at h2
  exact ⟨b, o, h1, cellsG_one.1 h2⟩
theorem encI_len (k : IntKind) (l : List Int) : ∀ cs ∈ encI k l, cs.length = 1 := by
  intro cs h
  simp only [encI, List.mem_map] at h
  obtain ⟨x, _, rfl⟩ := h; rfl
theorem encI_one (k : IntKind) (l : List Int) : ∀ u ∈ (encI k l).flatten, u.oneCell' = true := by
  intro u h
  simp only [encI, List.mem_flatten, List.mem_map] at h
  obtain ⟨_, ⟨x, _, rfl⟩, h⟩ := h
  simp at h; subst h; rfl
theorem encI_append (k : IntKind) (l m : List Int) : encI k (l ++ m) = encI k l ++ encI k m := by simp [encI]

/-- Numbers without a sign. -/
def encN (l : List Nat) : List (List Value) := l.map fun (x : Nat) => [Value.int .u64 (x : Int)]
theorem encN_length (l : List Nat) : (encN l).length = l.length := by simp [encN]
theorem encN_get {l : List Nat} {j : Nat} (h : j < l.length) : (encN l)[j]? = some [.int .u64 (l[j] : Nat)] := by simp [encN, h]
def SlN (G : GH) (v : Value) (l : List Nat) : Prop := ∃ a c, v = .slice a l.length c ∧ l.length ≤ c ∧ c ≤ maxLen ∧ Row G 1 a (encN l)
theorem SlN.mono {G G' : GH} {v : Value} {l : List Nat} (h : SlN G v l) (hg : GLe G G') : SlN G' v l := by
  obtain ⟨a, c, h1, h2, h3, h4⟩ := h
  exact ⟨a, c, h1, h2, h3, h4.mono hg⟩
theorem RowN.get {G : GH} {a : Option Addr} {l : List Nat} (h : Row G 1 a (encN l)) {j : Nat} (hj : j < l.length) : ∃ b o, a = some ⟨b, o, none⟩ ∧ G b (o + j) = some (.int .u64 (l[j] : Nat)) := by
  obtain ⟨b, o, h1, h2⟩ := h.get (encN_get hj)
  rw [Nat.mul_one] at h2
  exact ⟨b, o, h1, cellsG_one.1 h2⟩
theorem encN_len (l : List Nat) : ∀ cs ∈ encN l, cs.length = 1 := by
  intro cs h
  simp only [encN, List.mem_map] at h
  obtain ⟨x, _, rfl⟩ := h; rfl
theorem encN_one (l : List Nat) : ∀ u ∈ (encN l).flatten, u.oneCell' = true := by
  intro u h
  simp only [encN, List.mem_flatten, List.mem_map] at h
  obtain ⟨_, ⟨x, _, rfl⟩, h⟩ := h
  simp at h; subst h; rfl
theorem encN_append (l m : List Nat) : encN (l ++ m) = encN l ++ encN m := by simp [encN]

theorem gld_use {c : Bool} {d : Option Nat} {fr : Fr} {G : GH} {M : Mem} {D : List Deferred} {K : Fr → GH → Mem → List Deferred → Prop} {n : Option Nat} {h : Option (Nat × Nat)} {o : Option (Bool × Value)} (v : Value)
    (h1 : c = true → w1 true o (ldK G M n h (eqK v))) (h2 : fin d c fr G M D K v) : gld c d fr G M D K n h o := ⟨v, h1, h2⟩

/-! Appends. -/
def appP (lab : Option Nat) (lab' : Nat) (e : TypeId) (sz bytes : Nat) (d : Option Nat) (fr : Fr) (G : GH) (M : Mem) (D : List Deferred) (K : Fr → GH → Mem → List Deferred → Prop) (vx vy : Value) : Prop := match vy with
    | .slice ay m _ => ∃ news, Src G sz m ay news ∧
      match lab with
      | none => match vx with
        | .slice ax n cx => n = 0 ∧ cx = 0 ∧ m * bytes ≤ 140737488355328 ∧ m ≤ maxLen ∧ (m = 0 → finM d fr G D K (.slice ax 0 0) M) ∧
          (0 < m → ∀ v' es' G', GLe G G' → OwnS G' e sz v' news es' → finM d fr G' D K v' ((lab', es') :: M))
        | _ => False
      | some l => match M.get l with
        | some es => ∃ olds, OwnS G e sz vx olds es ∧ (olds.length + news.length) * bytes ≤ 140737488355328 * sz ∧
          ∀ v' es' G', GLe G G' → OwnS G' e sz v' (olds ++ news) es' → finM d fr G' D K v' (M.set l es')
        | none => False
    | _ => False
def appK (lab : Option Nat) (lab' : Nat) (e : TypeId) (sz bytes : Nat) (oy : Option (Bool × Value)) (d : Option Nat) (fr : Fr) (G : GH) (M : Mem) (D : List Deferred) (K : Fr → GH → Mem → List Deferred → Prop) (vx : Value) : Prop :=
  w1 true oy (appP lab lab' e sz bytes d fr G M D K vx)
theorem o_app (P : Program) (d : Option Nat) (fr : Fr) (G : GH) (M : Mem) (D : List Deferred) (K : Fr → GH → Mem → List Deferred → Prop) (QP : Value → GH → Mem → List Deferred → Prop) (lab : Option Nat) (lab' : Nat) (e : TypeId) (sz bytes : Nat) (x y : Opd) :
    opP P d fr G M D K QP (.app lab lab' e sz bytes x y) = w1 true (ev fr x) (appK lab lab' e sz bytes (ev fr y) d fr G M D K) := rfl
theorem appK_eq (lab : Option Nat) (lab' : Nat) (e : TypeId) (sz bytes : Nat) (oy : Option (Bool × Value)) (d : Option Nat) (fr : Fr) (G : GH) (M : Mem) (D : List Deferred) (K : Fr → GH → Mem → List Deferred → Prop) (vx : Value) :
    appK lab lab' e sz bytes oy d fr G M D K vx = w1 true oy (appP lab lab' e sz bytes d fr G M D K vx) := rfl
section
variable {lab' : Nat} {e : TypeId} {sz bytes : Nat} {d : Option Nat} {fr : Fr} {G : GH} {M : Mem} {D : List Deferred} {K : Fr → GH → Mem → List Deferred → Prop}
/-- An append to a slice without room. -/
theorem app_copy {ax a : Option Addr} {css : List (List Value)} {c : Nat} (h : Row G sz a css) (ho : ∀ u ∈ css.flatten, u.oneCell' = true) (hb : css.length * bytes ≤ 140737488355328) (hm : css.length ≤ maxLen)
    (h0 : css = [] → finM d fr G D K (.slice ax 0 0) M) (h1 : css ≠ [] → ∀ v' es' G', GLe G G' → OwnS G' e sz v' css.flatten es' → finM d fr G' D K v' ((lab', es') :: M)) :
    appP none lab' e sz bytes d fr G M D K (.slice ax 0 0) (.slice a css.length c) :=
  ⟨css.flatten, h.src ho, rfl, rfl, hb, hm, fun hl => h0 (List.eq_nil_of_length_eq_zero hl), fun hl => h1 (fun e => by subst e; simp at hl)⟩
/-- An append to a slice that is owned. -/
theorem app_more {l : Nat} {es : List Ent} {vx : Value} {olds css : List (List Value)} {a : Option Addr} {c : Nat} (hes : M.get l = some es) (hx : OwnS G e sz vx olds.flatten es) (hlo : ∀ cs ∈ olds, cs.length = sz) (h : Row G sz a css)
    (ho : ∀ u ∈ css.flatten, u.oneCell' = true) (hb : (olds.length + css.length) * bytes ≤ 140737488355328)
    (h1 : ∀ v' es' G', GLe G G' → OwnS G' e sz v' (olds ++ css).flatten es' → finM d fr G' D K v' (M.set l es')) :
    appP (some l) lab' e sz bytes d fr G M D K vx (.slice a css.length c) := by
  refine ⟨css.flatten, h.src ho, ?_⟩
  simp only [hes]
  refine ⟨olds.flatten, hx, ?_, fun v' es' G' hg ho => h1 v' es' G' hg (by rw [List.flatten_append]; exact ho)⟩
  rw [flatten_length hlo, flatten_length h.1, ← Nat.add_mul, Nat.mul_right_comm]
  exact Nat.mul_le_mul_right _ hb
end

/-! Appends from and to what this run alone writes. -/
def apxP (own : Bool) (hint : Option (Nat × Nat)) (lab : Option Nat) (lab' : Nat) (e : TypeId) (sz bytes : Nat) (d : Option Nat) (fr : Fr) (G : GH) (M : Mem) (D : List Deferred) (K : Fr → GH → Mem → List Deferred → Prop) (vx vy : Value) : Prop := match vy with
    | .slice ay m _ => ∃ news, SrcH G M hint sz m ay news ∧
      match lab with
      | none => match vx with
        | .slice ax n cx => n = 0 ∧ cx = 0 ∧ m * bytes ≤ 140737488355328 ∧ m ≤ maxLen ∧ (m = 0 → finM d fr G D K (.slice ax 0 0) M) ∧
          (0 < m → match own with
            | true => ∀ v' es', OwnV e sz v' news es' → finM d fr G D K v' ((lab', es') :: M)
            | false => ∀ v' es' G', GLe G G' → OwnS G' e sz v' news es' → finM d fr G' D K v' ((lab', es') :: M))
        | _ => False
      | some l => match M.get l with
        | some es => ∃ olds, (olds.length + news.length) * bytes ≤ 140737488355328 * sz ∧
          match own with
          | true => OwnV e sz vx olds es ∧ ∀ v' es', OwnV e sz v' (olds ++ news) es' → finM d fr G D K v' (M.set l es')
          | false => OwnS G e sz vx olds es ∧ ∀ v' es' G', GLe G G' → OwnS G' e sz v' (olds ++ news) es' → finM d fr G' D K v' (M.set l es')
        | none => False
    | _ => False
def apxK (own : Bool) (hint : Option (Nat × Nat)) (lab : Option Nat) (lab' : Nat) (e : TypeId) (sz bytes : Nat) (oy : Option (Bool × Value)) (d : Option Nat) (fr : Fr) (G : GH) (M : Mem) (D : List Deferred) (K : Fr → GH → Mem → List Deferred → Prop) (vx : Value) : Prop :=
  w1 true oy (apxP own hint lab lab' e sz bytes d fr G M D K vx)
theorem o_apx (P : Program) (d : Option Nat) (fr : Fr) (G : GH) (M : Mem) (D : List Deferred) (K : Fr → GH → Mem → List Deferred → Prop) (QP : Value → GH → Mem → List Deferred → Prop) (own : Bool) (hint : Option (Nat × Nat)) (lab : Option Nat) (lab' : Nat) (e : TypeId) (sz bytes : Nat) (x y : Opd) :
    opP P d fr G M D K QP (.apx own hint lab lab' e sz bytes x y) = w1 true (ev fr x) (apxK own hint lab lab' e sz bytes (ev fr y) d fr G M D K) := rfl
theorem apxK_eq (own : Bool) (hint : Option (Nat × Nat)) (lab : Option Nat) (lab' : Nat) (e : TypeId) (sz bytes : Nat) (oy : Option (Bool × Value)) (d : Option Nat) (fr : Fr) (G : GH) (M : Mem) (D : List Deferred) (K : Fr → GH → Mem → List Deferred → Prop) (vx : Value) :
    apxK own hint lab lab' e sz bytes oy d fr G M D K vx = w1 true oy (apxP own hint lab lab' e sz bytes d fr G M D K vx) := rfl
section
variable {lab' : Nat} {e : TypeId} {sz bytes : Nat} {d : Option Nat} {fr : Fr} {G : GH} {M : Mem} {D : List Deferred} {K : Fr → GH → Mem → List Deferred → Prop}
/-- A copy of what this run alone writes; it is settled. -/
theorem apx_copyV {l i : Nat} {ax a : Option Addr} {n c : Nat} {olds : List Value} {es : List Ent} (hes : M.get l = some es) (hi : i = 0) (hv : OwnV e sz (.slice a n c) olds es) (ho : ∀ u ∈ olds, u.oneCell' = true) (hb : n * bytes ≤ 140737488355328) (hm : n ≤ maxLen)
    (h0 : n = 0 → finM d fr G D K (.slice ax 0 0) M) (h1 : n ≠ 0 → ∀ v' es' G', GLe G G' → OwnS G' e sz v' olds es' → finM d fr G' D K v' ((lab', es') :: M)) :
    apxP false (some (l, i)) none lab' e sz bytes d fr G M D K (.slice ax 0 0) (.slice a n c) := by
  subst hi
  obtain ⟨n', c', h2, h3, h4, h⟩ := hv
  refine ⟨olds, ?_, rfl, rfl, hb, hm, h0, fun hl => h1 (by omega)⟩
  rcases h with ⟨a0, ha0, h5, h6, h7⟩ | ⟨b, pad, h5, h6, h7⟩
  · cases h5; subst h6
    refine ⟨h4, ho, ?_⟩
    rcases ha0 with rfl | ⟨b, rfl⟩
    · rfl
    · exact .inl rfl
  · cases h5
    refine ⟨h4, ho, .inr ⟨b, e, olds ++ pad, by simp [Mem.ent, hes, h7], rfl, ?_⟩⟩
    rw [List.drop_zero, ← h4, List.take_left']; rfl
/-- An append of settled rows to a slice that this run alone writes. -/
theorem apx_moreV {l : Nat} {es : List Ent} {vx : Value} {olds css : List (List Value)} {a : Option Addr} {c : Nat} (hes : M.get l = some es) (hx : OwnV e sz vx olds.flatten es) (hlo : ∀ cs ∈ olds, cs.length = sz) (h : Row G sz a css)
    (ho : ∀ u ∈ css.flatten, u.oneCell' = true) (hb : (olds.length + css.length) * bytes ≤ 140737488355328)
    (h1 : ∀ v' es', OwnV e sz v' (olds ++ css).flatten es' → finM d fr G D K v' (M.set l es')) :
    apxP true none (some l) lab' e sz bytes d fr G M D K vx (.slice a css.length c) := by
  refine ⟨css.flatten, h.src ho, ?_⟩
  simp only [hes]
  refine ⟨olds.flatten, ?_, hx, fun v' es' ho => h1 v' es' (by rw [List.flatten_append]; exact ho)⟩
  rw [flatten_length hlo, flatten_length h.1, ← Nat.add_mul, Nat.mul_right_comm]
  exact Nat.mul_le_mul_right _ hb
end
section
variable {lab' : Nat} {e : TypeId} {sz bytes : Nat} {d : Option Nat} {fr : Fr} {G : GH} {M : Mem} {D : List Deferred} {K : Fr → GH → Mem → List Deferred → Prop}
theorem app_copyN {n : Nat} {ax a : Option Addr} {css : List (List Value)} {c : Nat} (h : Row G sz a css) (hn : css.length = n) (ho : ∀ u ∈ css.flatten, u.oneCell' = true) (hb : n * bytes ≤ 140737488355328) (hm : n ≤ maxLen)
    (h0 : css = [] → finM d fr G D K (.slice ax 0 0) M) (h1 : css ≠ [] → ∀ v' es' G', GLe G G' → OwnS G' e sz v' css.flatten es' → finM d fr G' D K v' ((lab', es') :: M)) :
    appP none lab' e sz bytes d fr G M D K (.slice ax 0 0) (.slice a n c) := by subst hn; exact app_copy h ho hb hm h0 h1
theorem app_moreN {n l : Nat} {es : List Ent} {vx : Value} {olds css : List (List Value)} {a : Option Addr} {c : Nat} (hes : M.get l = some es) (hx : OwnS G e sz vx olds.flatten es) (hlo : ∀ cs ∈ olds, cs.length = sz) (h : Row G sz a css) (hn : css.length = n)
    (ho : ∀ u ∈ css.flatten, u.oneCell' = true) (hb : (olds.length + n) * bytes ≤ 140737488355328)
    (h1 : ∀ v' es' G', GLe G G' → OwnS G' e sz v' (olds ++ css).flatten es' → finM d fr G' D K v' (M.set l es')) :
    appP (some l) lab' e sz bytes d fr G M D K vx (.slice a n c) := by subst hn; exact app_more hes hx hlo h ho hb h1
theorem apx_newVN {n : Nat} {ax a : Option Addr} {css : List (List Value)} {c : Nat} (h : Row G sz a css) (hn : css.length = n) (ho : ∀ u ∈ css.flatten, u.oneCell' = true) (hb : n * bytes ≤ 140737488355328) (hm : n ≤ maxLen)
    (h0 : css = [] → finM d fr G D K (.slice ax 0 0) M) (h1 : css ≠ [] → ∀ v' es', OwnV e sz v' css.flatten es' → finM d fr G D K v' ((lab', es') :: M)) :
    apxP true none none lab' e sz bytes d fr G M D K (.slice ax 0 0) (.slice a n c) := by
  subst hn
  exact ⟨css.flatten, h.src ho, rfl, rfl, hb, hm, fun hl => h0 (List.eq_nil_of_length_eq_zero hl), fun hl => h1 (fun e => by subst e; simp at hl)⟩
theorem apx_moreVN {n l : Nat} {es : List Ent} {vx : Value} {olds css : List (List Value)} {a : Option Addr} {c : Nat} (hes : M.get l = some es) (hx : OwnV e sz vx olds.flatten es) (hlo : ∀ cs ∈ olds, cs.length = sz) (h : Row G sz a css) (hn : css.length = n)
    (ho : ∀ u ∈ css.flatten, u.oneCell' = true) (hb : (olds.length + n) * bytes ≤ 140737488355328)
    (h1 : ∀ v' es', OwnV e sz v' (olds ++ css).flatten es' → finM d fr G D K v' (M.set l es')) :
    apxP true none (some l) lab' e sz bytes d fr G M D K vx (.slice a n c) := by subst hn; exact apx_moreV hes hx hlo h ho hb h1
end
/-- A slice that this run alone writes, cut. -/
theorem OwnV.cut {e : TypeId} {sz : Nat} {a : Option Addr} {n c : Nat} {cells : List Value} {es : List Ent} (h : OwnV e sz (.slice a n c) cells es) {k : Nat} (hk : k ≤ n) : OwnV e sz (.slice a k c) (cells.take (k * sz)) es := by
  obtain ⟨n', c', h1, h2, h3, h⟩ := h
  rcases h with ⟨a0, ha0, h4, h5, h6⟩ | ⟨b, pad, h4, h5, h6⟩
  · cases h4
    have : k = 0 := by omega
    subst this
    have : cells = [] := List.eq_nil_of_length_eq_zero (by rw [h3, h5, Nat.zero_mul])
    subst this
    exact ⟨0, 0, Nat.le_refl _, Nat.zero_le _, by simp, .inl ⟨_, ha0, rfl, rfl, h6⟩⟩
  · cases h4
    have hle : k * sz ≤ n * sz := Nat.mul_le_mul_right _ hk
    refine ⟨k, c, by omega, h2, by rw [List.length_take, h3]; omega, .inr ⟨b, cells.drop (k * sz) ++ pad, rfl, ?_, ?_⟩⟩
    · rw [List.length_append, List.length_drop, h3, h5, ← Nat.sub_mul, ← Nat.add_mul]; congr 1; omega
    · rw [h6, ← List.append_assoc, List.take_append_drop]
theorem OwnV.len {e : TypeId} {sz : Nat} {v : Value} {css : List (List Value)} {es : List Ent} (hl : ∀ cs ∈ css, cs.length = sz) (hp : 0 < sz) (h : OwnV e sz v css.flatten es) : ∃ a c, v = .slice a css.length c ∧ css.length ≤ c ∧ c ≤ maxLen := by
  obtain ⟨n, c, h1, h2, h3, h⟩ := h
  have hn : n = css.length := by
    rw [flatten_length hl] at h3
    exact (Nat.eq_of_mul_eq_mul_right hp h3).symm
  subst hn
  rcases h with ⟨a0, ha0, rfl, h4, h5⟩ | ⟨b, pad, rfl, h5, h6⟩
  · exact ⟨a0, 0, by rw [h4], by omega, by omega⟩
  · exact ⟨_, c, rfl, h1, h2⟩
/-- What a call hands back may be settled. -/
theorem ACalls.settle {P : Program} {f : FuncId} {args : List Value} {G : GH} {Es : List (List Ent)} {e : TypeId} {sz : Nat} {R : Out → Value → List (List Value) → GH → List (List Ent) → Prop}
    (hp : 0 < sz) (h : ACalls P f args G Es fun o G' Es' => ∃ v css es rest, (∀ cs ∈ css, cs.length = sz) ∧ OwnV e sz v css.flatten es ∧ Es' = es :: rest ∧ R o v css G' rest) :
    ACalls P f args G Es fun o G'' rest => ∃ v css G', GLe G' G'' ∧ Sl G'' sz v css ∧ R o v css G' rest := by
  refine ⟨h.1, fun w0 w F hv => (h.2 w0 w F hv).mono ?_⟩
  rintro x w' ⟨o, G', Es', hg, hv', ⟨v, css, es, rest, hl, hown, rfl, hR⟩, hx⟩
  obtain ⟨a, c, hv1, hc1, hc2⟩ := hown.len hl hp
  obtain ⟨n, c', h1, h2, h3, h4⟩ := hown
  rcases h4 with ⟨a0, ha0, rfl, h5, h6⟩ | ⟨b, pad, rfl, h5, h6⟩
  · subst h6
    have : css = [] := by
      rw [h5, Nat.zero_mul, flatten_length hl] at h3
      rcases Nat.mul_eq_zero.1 h3 with h | h
      · exact List.eq_nil_of_length_eq_zero h
      · omega
    subst this
    have hsl : Sl G' sz (.slice a0 0 0) [] := by
      refine ⟨a0, 0, rfl, Nat.le_refl _, Nat.zero_le _, by simp, ?_⟩
      rcases ha0 with rfl | ⟨b, rfl⟩
      · rfl
      · exact fun j v h => by simp at h
    exact ⟨o, G', rest, hg, by simpa using hv', ⟨_, [], G', GLe.refl _, hsl, hR⟩, hx⟩
  · subst h6
    obtain ⟨G2, hg2, hc, hv2⟩ := hv'.settleVar (b := b) (e := e) (cs := css.flatten ++ pad) (M2 := [(0, rest.flatten ++ F)]) (by simp [Mem.all])
    refine ⟨o, G2, rest, hg.trans hg2, hv2, ⟨_, css, G', hg2, ⟨a, c, hv1, hc1, hc2, hl, ?_⟩, hR⟩, hx⟩
    cases hv1
    intro j u hu
    exact hc j u (by rw [List.getElem?_append_left (List.getElem?_eq_some_iff.1 hu).1]; exact hu)

/-- Numbers that fit. -/
theorem wrap64 {x : Int} (h0 : -9223372036854775808 ≤ x) (h1 : x ≤ 9223372036854775807) : IntKind.i64.wrap x = x := by rw [IntKind.wrap_i64]; omega
theorem wrapn {n : Nat} (h : n < maxLen) : IntKind.i64.wrap ((n : Int) + 1) = ((n + 1 : Nat) : Int) := by
  simp only [maxLen] at h
  rw [IntKind.wrap_i64]; omega
end Go.Gv
