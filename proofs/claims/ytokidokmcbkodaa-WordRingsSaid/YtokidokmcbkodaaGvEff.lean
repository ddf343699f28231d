/-
  The operations that make and write memory, sound. No condition.
-/
import Derived.Test.YtokidokmcbkodaaGvMem
import Derived.OwnWalk
import Derived.Lib.AppendZeros
namespace Go.Gv
open Go.RowKit

/-- A slice that this run alone may append to, and its cells. -/
def OwnS (G : GH) (e : TypeId) (sz : Nat) (v : Value) (cells : List Value) (es : List Ent) : Prop :=
  ∃ n c, n ≤ c ∧ c ≤ maxLen ∧ cells.length = n * sz ∧
    ((v = .slice none 0 0 ∧ n = 0 ∧ es = []) ∨ ∃ b, v = .slice (some ⟨b, 0, none⟩) n c ∧ es = [.tip b e (n * sz) (c * sz)] ∧ CellsAt G b 0 cells)
theorem OwnS.mono {G G' : GH} {e : TypeId} {sz : Nat} {v : Value} {cells : List Value} {es : List Ent} (h : OwnS G e sz v cells es) (hg : GLe G G') : OwnS G' e sz v cells es := by
  obtain ⟨n, c, h1, h2, h3, h | ⟨b, h4, h5, h6⟩⟩ := h
  · exact ⟨n, c, h1, h2, h3, .inl h⟩
  · exact ⟨n, c, h1, h2, h3, .inr ⟨b, h4, h5, h6.mono hg⟩⟩
theorem OwnS.nil (G : GH) (e : TypeId) (sz : Nat) : OwnS G e sz (.slice none 0 0) [] [] := ⟨0, 0, Nat.le_refl _, by simp [maxLen], by simp, .inl ⟨rfl, rfl, rfl⟩⟩

/-- What is appended. -/
def Src (G : GH) (sz m : Nat) (ay : Option Addr) (news : List Value) : Prop :=
  news.length = m * sz ∧ (∀ u ∈ news, u.oneCell' = true) ∧
  match ay with
  | some ⟨b, o, none⟩ => CellsAt G b o news
  | _ => m = 0

/-- A slice that this run alone writes, and its cells. -/
def OwnV (e : TypeId) (sz : Nat) (v : Value) (cells : List Value) (es : List Ent) : Prop :=
  ∃ n c, n ≤ c ∧ c ≤ maxLen ∧ cells.length = n * sz ∧
    ((∃ a, (a = none ∨ ∃ b, a = some ⟨b, 0, none⟩) ∧ v = .slice a 0 0 ∧ n = 0 ∧ es = []) ∨ ∃ b pad, v = .slice (some ⟨b, 0, none⟩) n c ∧ pad.length = (c - n) * sz ∧ es = [.var b e (cells ++ pad)])
theorem OwnV.nil (e : TypeId) (sz : Nat) : OwnV e sz (.slice none 0 0) [] [] := ⟨0, 0, Nat.le_refl _, by simp [maxLen], by simp, .inl ⟨none, .inl rfl, rfl, rfl, rfl⟩⟩
theorem OwnV.zero (e : TypeId) (sz b : Nat) : OwnV e sz (.slice (some ⟨b, 0, none⟩) 0 0) [] [] := ⟨0, 0, Nat.le_refl _, by simp [maxLen], by simp, .inl ⟨_, .inr ⟨b, rfl⟩, rfl, rfl, rfl⟩⟩

/-- What is appended, from what is settled or from what this run alone writes. -/
def SrcH (G : GH) (M : Mem) (hint : Option (Nat × Nat)) (sz m : Nat) (ay : Option Addr) (news : List Value) : Prop :=
  match hint with
  | none => Src G sz m ay news
  | some (l, i) => news.length = m * sz ∧ (∀ u ∈ news, u.oneCell' = true) ∧
    match ay with
    | some ⟨b, o, none⟩ => m = 0 ∨ ∃ b' e cs, M.ent l i = some (.var b' e cs) ∧ b = b' ∧ news = (cs.drop o).take (m * sz)
    | none => m = 0
    | _ => False
/-- What is appended, as the world has it. -/
def SrcW (w : World) (sz m : Nat) (ay : Option Addr) (news : List Value) : Prop :=
  news.length = m * sz ∧ (∀ u ∈ news, u.oneCell' = true) ∧
  match ay with
  | some ad => ∀ j u, news[j]? = some u → w.cell? (ad.add j) = some u
  | none => m = 0

def effP (P : Program) (fr : Fr) (G : GH) (M : Mem) (K : Value → GH → Mem → Prop) : ROp → Prop
  | .ld n hint x => with1 fr true x fun v => ldP G M n hint v fun u => K u G M
  | .new lab e zs => ∀ b, K (.pointer (some ⟨b, 0, none⟩)) G ((lab, [.var b e zs]) :: M)
  | .box lab e x => with1 fr true x fun v => ∀ b, K (.pointer (some ⟨b, 0, none⟩)) G ((lab, [.var b e v.cells.toList]) :: M)
  | .bsl lab e len sz zs pl parts => withs fr true (parts.map (·.2)) fun vs => match Instr.fill (pl[·]?) zs.toArray ((parts.map (·.1)).zip vs) with
    | some cs => ∀ b G', GLe G G' → CellsAt G' b 0 cs.toList → (∀ o v, G' b o = some v → cs.toList[o]? = some v) →
      K (.slice (some ⟨b, 0, none⟩) len len) G' (match lab with | none => M | some l => (l, [.tip b e (len * sz) (len * sz)]) :: M)
    | none => False
  | .st n lab i x v => with1 fr true x fun p => with1 fr true v fun u => match p with
    | .pointer (some ⟨b, o, none⟩) =>
      match M.ent lab i with
      | some (.var b' e cs) => b = b' ∧ o + n ≤ cs.length ∧ u.cells.size = n ∧ (∀ y ∈ u.cells.toList, y.oneCell' = true) ∧ K undef G (M.put lab i (.var b' e (setL cs o u.cells.toList)))
      | _ => False
    | _ => False
  | .app lab lab' e sz bytes x y => with1 fr true x fun vx => with1 fr true y fun vy => match vy with
    | .slice ay m _ => ∃ news, Src G sz m ay news ∧
      match lab with
      | none => match vx with
        | .slice ax n cx => n = 0 ∧ cx = 0 ∧ m * bytes ≤ 140737488355328 ∧ m ≤ maxLen ∧ (m = 0 → K (.slice ax 0 0) G M) ∧
          (0 < m → ∀ v' es' G', GLe G G' → OwnS G' e sz v' news es' → K v' G' ((lab', es') :: M))
        | _ => False
      | some l => match M.get l with
        | some es => ∃ olds, OwnS G e sz vx olds es ∧ (olds.length + news.length) * bytes ≤ 140737488355328 * sz ∧
          ∀ v' es' G', GLe G G' → OwnS G' e sz v' (olds ++ news) es' → K v' G' (M.set l es')
        | none => False
    | _ => False
  | .apx own hint lab lab' e sz bytes x y => with1 fr true x fun vx => with1 fr true y fun vy => match vy with
    | .slice ay m _ => ∃ news, SrcH G M hint sz m ay news ∧
      match lab with
      | none => match vx with
        | .slice ax n cx => n = 0 ∧ cx = 0 ∧ m * bytes ≤ 140737488355328 ∧ m ≤ maxLen ∧ (m = 0 → K (.slice ax 0 0) G M) ∧
          (0 < m → match own with
            | true => ∀ v' es', OwnV e sz v' news es' → K v' G ((lab', es') :: M)
            | false => ∀ v' es' G', GLe G G' → OwnS G' e sz v' news es' → K v' G' ((lab', es') :: M))
        | _ => False
      | some l => match M.get l with
        | some es => ∃ olds, (olds.length + news.length) * bytes ≤ 140737488355328 * sz ∧
          match own with
          | true => OwnV e sz vx olds es ∧ ∀ v' es', OwnV e sz v' (olds ++ news) es' → K v' G (M.set l es')
          | false => OwnS G e sz vx olds es ∧ ∀ v' es' G', GLe G G' → OwnS G' e sz v' (olds ++ news) es' → K v' G' (M.set l es')
        | none => False
    | _ => False
  | .apz lab' e sz bytes z x y => with1 fr true x fun vx => with1 fr true y fun vy => match vx, vy with
    | .slice none 0 0, .int _ n => 0 < n ∧ n * bytes ≤ 140737488355328 ∧ n.toNat ≤ maxLen ∧ ∀ v' es', OwnV e sz v' (List.replicate n.toNat z).flatten es' → K v' G ((lab', es') :: M)
    | _, _ => False
  | .mks lab e _ bytes z l c => with1 fr true l fun vl => with1 fr true c fun vc => match vl, vc with
    | .int _ l, .int _ c => 0 ≤ l ∧ l ≤ c ∧ bytes * c ≤ 281474976710656 ∧ c ≤ 9223372036854775807 ∧
      ∀ b, K (.slice (some ⟨b, 0, none⟩) l.toNat c.toNat) G ((lab, [.var b e (List.replicate c.toNat z).flatten]) :: M)
    | _, _ => False
  | .mkt lab e sz bytes l c => with1 fr true l fun vl => with1 fr true c fun vc => match vl, vc with
    | .int _ l, .int _ c => l = 0 ∧ 0 ≤ c ∧ bytes * c ≤ 281474976710656 ∧ c ≤ 9223372036854775807 ∧
      ∀ v' es', OwnS G e sz v' [] es' → K v' G ((lab, es') :: M)
    | _, _ => False
  | .mkm lab => ∀ b, K (.map (some b)) G ((lab, [.map b [] 0]) :: M)
  | r => stillP P fr true (fun v => K v G M) r

/-- The element type's row of the table. -/
def rowOf (P : Program) (e : TypeId) : Option (Nat × Nat × List Value) :=
  match P.info? e with
  | some i => match i.zero with
    | some z => if z.cells.size = i.size ∧ 0 < i.size ∧ 0 < i.bytes then some (i.size, i.bytes, z.cells.toList) else none
    | none => none
  | none => none

def rbEff (P : Program) (op : Op) (s : ROp) : Option ROp :=
  match op with
  | .load t x =>
    match s with
    | .ld _ h _ => (aggN P t).map fun n => .ld n h (opd x)
    | _ => none
  | .alloc t =>
    match s with
    | .new lab _ _ => (zeroOf P t).map fun zs => .new lab t zs
    | _ => none
  | .box t x =>
    match s with
    | .box lab _ _ => some (.box lab t (opd x))
    | _ => none
  | .store t x v =>
    match s with
    | .st _ lab i _ _ => (szOf P t).map fun n => .st n lab i (opd x) (opd v)
    | _ => none
  | .buildSlice t len parts =>
    match s, P.underlying t with
    | .bsl lab _ _ _ _ _ _, some (.slice e) =>
      match rowOf P e with
      | some (sz, _, z) => if len * sz ≤ 16777216 ∧ len ≤ maxLen then
          some (.bsl lab e len sz (List.replicate len z).flatten ((List.range len).map fun i => (i * sz, sz)) (parts.toList.map fun p => (p.1, opd p.2))) else none
      | none => none
    | _, _ => none
  | .call { callee := .builtin .append, args, argTypes } =>
    match s, args.toList, argTypes.toList with
    | .app lab lab' _ _ _ _ _, [x, y], [t, t'] =>
      if t = t' then
        match P.underlying t with
        | some (.slice e) => match rowOf P e with
          | some (sz, bytes, _) => some (.app lab lab' e sz bytes (opd x) (opd y))
          | none => none
        | _ => none
      else none
    | .apx own hint lab lab' _ _ _ _ _, [x, y], [t, t'] =>
      if t = t' then
        match P.underlying t with
        | some (.slice e) => match rowOf P e with
          | some (sz, bytes, _) => some (.apx own hint lab lab' e sz bytes (opd x) (opd y))
          | none => none
        | _ => none
      else none
    | .apz lab' _ _ _ _ _ _, [x, y], [t, t'] =>
      match P.underlying t, P.underlying t' with
      | some (.slice e), some (.int _) => match rowOf P e with
        | some (sz, bytes, z) => some (.apz lab' e sz bytes z (opd x) (opd y))
        | none => none
      | _, _ => none
    | _, _, _ => none
  | .makeSlice t l c =>
    match s, P.underlying t with
    | .mks lab _ _ _ _ _ _, some (.slice e) => match rowOf P e with
      | some (sz, bytes, z) => some (.mks lab e sz bytes z (opd l) (opd c))
      | none => none
    | .mkt lab _ _ _ _ _, some (.slice e) => match rowOf P e with
      | some (sz, bytes, _) => some (.mkt lab e sz bytes (opd l) (opd c))
      | none => none
    | _, _ => none
  | .makeMap _ none =>
    match s with
    | .mkm lab => some (.mkm lab)
    | _ => none
  | _ => none

def Gext (G : GH) (b : Nat) (l : List Value) : GH := fun b' o => if b' = b then l[o]? else G b' o

section
variable {P : Program} {nt : Nat} {fr : Fr} {a : Act} {w0 w : World} {G : GH} {M : Mem}
theorem View.gext (h : View w0 G M w) (C : Array Value) (cs : List Value) (hp : ∀ (o : Nat) (v : Value), cs[o]? = some v → C[o]? = some v) (e : TypeId) :
    GLe G (Gext G w.heap.size cs) ∧ View w0 (Gext G w.heap.size cs) M (w.alloc (.cells C e)) := by
  have hn := h.new
  refine ⟨fun b o v hv => ?_, ?_⟩
  · unfold Gext; rw [if_neg (fun e => by subst e; rw [hn] at hv; cases hv)]; exact hv
  · have h1 := (h.alloc 0 e C.toList).drop (M' := M) (by simp [Mem.all])
    simp only [Array.toArray_toList] at h1
    refine h1.settle (fun b o v hv => ?_) (fun x hx o => ?_)
    · unfold Gext at hv
      split at hv
      · rename_i hb; subst hb; simp [hp o v hv]
      · exact h1.cells b o v hv
    · unfold Gext; rw [if_neg (fun e => by have := h.lt hx; omega)]
theorem View.insert {M' : Mem} (h : View w0 G M w) {p s : List Ent} {x : Ent} (hM : M.all = p ++ s) (hM' : M'.all = p ++ x :: s) (hx : Ent.ok w0 G w x) (hn : ∀ y ∈ M.all, y.blk ≠ x.blk) : View w0 G M' w := by
  refine ⟨h.below, h.cells, fun z hz => ?_, ?_⟩
  · rw [hM'] at hz
    rcases List.mem_append.1 hz with hz | hz
    · exact h.ents z (by rw [hM]; simp [hz])
    · rcases List.mem_cons.1 hz with rfl | hz
      · exact hx
      · exact h.ents z (by rw [hM]; simp [hz])
  · have ha := h.apart
    rw [hM] at ha hn
    rw [hM']
    rw [List.pairwise_append] at ha ⊢
    refine ⟨ha.1, List.pairwise_cons.2 ⟨fun z hz => (hn z (by simp [hz])).symm, ha.2.1⟩, fun u hu z hz => ?_⟩
    rcases List.mem_cons.1 hz with rfl | hz
    · exact hn u (by simp [hu])
    · exact ha.2.2 u hu z hz
theorem CellsAt.gext (G : GH) (b : Nat) (l : List Value) : CellsAt (Gext G b l) b 0 l := fun j v hv => by simp [Gext, hv]
theorem rowOf_info {e : TypeId} {sz bytes : Nat} {zs : List Value} (h : rowOf P e = some (sz, bytes, zs)) :
    ∃ i z, P.info? e = some i ∧ i.zero = some z ∧ i.size = sz ∧ i.bytes = bytes ∧ z.cells.size = sz ∧ 0 < sz ∧ z.cells.toList = zs ∧ 0 < bytes := by
  unfold rowOf at h
  split at h
  · rename_i i hi
    split at h
    · rename_i z hz
      split at h
      · rename_i hc
        simp at h
        exact ⟨i, z, hi, hz, h.1, h.2.1, by rw [← h.1]; exact hc.1, by rw [← h.1]; exact hc.2.1, h.2.2, by rw [← h.2.1]; exact hc.2.2⟩
      · simp at h
    · simp at h
  · simp at h

theorem Src.cells {sz m : Nat} {ay : Option Addr} {news : List Value} (h : Src G sz m ay news) (hv : View w0 G M w) {ad : Addr} (ha : ay = some ad) : ∀ j u, news[j]? = some u → w.cell? (ad.add j) = some u := by
  obtain ⟨h1, _, h3⟩ := h
  subst ha
  obtain ⟨b, o, sp⟩ := ad
  cases sp with
  | some _ =>
    have h4 : m = 0 := h3
    subst h4
    have : news = [] := List.eq_nil_of_length_eq_zero (by simpa using h1)
    subst this
    intro j u hu
    simp at hu
  | none => intro j u hu; rw [addr_add]; exact hv.cells _ _ _ (h3 j u hu)

theorem Src.world {sz m : Nat} {ay : Option Addr} {news : List Value} (h : Src G sz m ay news) (hv : View w0 G M w) : SrcW w sz m ay news := by
  refine ⟨h.1, h.2.1, ?_⟩
  cases ay with
  | none => exact h.2.2
  | some ad => exact h.cells hv rfl
theorem SrcH.world {hint : Option (Nat × Nat)} {sz m : Nat} {ay : Option Addr} {news : List Value} (h : SrcH G M hint sz m ay news) (hv : View w0 G M w) : SrcW w sz m ay news := by
  unfold SrcH at h
  split at h
  · exact h.world hv
  · rename_i l i
    obtain ⟨h1, h2, h3⟩ := h
    refine ⟨h1, h2, ?_⟩
    split at h3
    · rename_i b o
      rcases h3 with rfl | ⟨b', e, cs, hx, rfl, hn⟩
      · intro j u hu
        have : news = [] := List.eq_nil_of_length_eq_zero (by simpa using h1)
        subst this; simp at hu
      intro j u hu
      rw [addr_add, var_cell hv hx]
      rw [hn, List.getElem?_take] at hu
      split at hu
      · rw [List.getElem?_drop] at hu; exact hu
      · cases hu
    · exact h3
    · exact h3.elim
theorem app_nothing {t ty e : TypeId} {i : TypeInfo} (ht : P.underlying t = some (.slice e)) (hi : P.info? e = some i) (ax ay : Option Addr) {n c c' : Nat} (hn : n ≤ c) (w : World) :
    (Builtin.append_ #[t, t] ty #[.slice ax n c, .slice ay 0 c']).run P w = .ok (.slice ax n c) w := by
  cases ax <;> cases ay <;> simp [Builtin.append_, run_underlying ht, sizeOf, typeInfo, hi, Builtin.lenOf, Builtin.firstCells, hn, loadCells, loadCellsFrom, storeCells]

/-- A slice in a new block. -/
theorem app_new {t ty e : TypeId} {sz bytes : Nat} {zs : List Value} (ht : P.underlying t = some (.slice e)) (hrow : rowOf P e = some (sz, bytes, zs)) (hv : View w0 G M w)
    {p s : List Ent} (hM : ∃ es, M.all = p ++ es ++ s) {ax : Option Addr} {n c : Nat} {olds : List Value} (hlo : olds.length = n * sz) (hax : ∀ ad, ax = some ad → ∀ j u, olds[j]? = some u → w.cell? (ad.add j) = some u)
    (hn : ax = none → n = 0 ∧ c = 0) (hnc : n ≤ c) {ay : Option Addr} {m c' : Nat} {news : List Value} (hs : SrcW w sz m ay news) (hg : c < n + m) (h63 : n + m ≤ maxLen) (hb : (n + m) * bytes ≤ 140737488355328) :
    ∃ v' es' G' w', (Builtin.append_ #[t, t] ty #[.slice ax n c, .slice ay m c']).run P w = .ok v' w' ∧ GLe G G' ∧ OwnS G' e sz v' (olds ++ news) es' ∧
      ∀ M' : Mem, M'.all = p ++ es' ++ s → View w0 G' M' w' := by
  obtain ⟨i, z, hi, hz, hsz, hby, hzs, hpos, _, _⟩ := rowOf_info hrow
  have hm63 : ((n + m : Nat) : Int) ≤ 9223372036854775807 := by simp only [maxLen] at h63; omega
  have hl : news.length = m * i.size := by rw [hsz]; exact hs.1
  cases ay with
  | none => exact absurd (show m = 0 from hs.2.2) (by omega)
  | some ad =>
    have hnews := hs.2.2
    have key : ∃ k, (Builtin.append_ #[t, t] ty #[.slice ax n c, .slice (some ad) m c']).run P w =
        .ok (.slice (some ⟨w.heap.size, 0, none⟩) (n + m) (n + m + k)) (w.drew.alloc (.cells (olds.toArray ++ news.toArray ++ Builtin.zeroCells z.cells k) e)) ∧ n + m + k ≤ maxLen := by
      refine ⟨grownCap w (n + m) c e - (n + m), ?_⟩
      have hge := grownCap_ge w (n + m) c e
      have hle := grownCap_le_maxLen w (n + m) c e h63
      have e1 : n + m + (grownCap w (n + m) c e - (n + m)) = grownCap w (n + m) c e := by omega
      rw [e1]
      refine ⟨?_, hle⟩
      cases ax with
      | none =>
        obtain ⟨rfl, rfl⟩ := hn rfl
        simp only [Nat.zero_add] at hge hle hm63 ⊢
        have hol : olds = [] := List.eq_nil_of_length_eq_zero (by simpa using hlo)
        subst hol
        rw [run_append_nil w t ty e i z ht hi hz ad m c' news hl hnews (by omega) hm63 (by rw [hby]; rw [Nat.zero_add] at hb; omega)]
        simp
      | some bd =>
        exact run_append_grow w t ty e i z ht hi hz bd n c olds (by rw [hsz]; exact hlo) (hax bd rfl) ad m c' news hl hnews hg hm63 (growslice_fits hg (by rw [hby]; exact hb))
    obtain ⟨k, hrun, hk⟩ := key
    have hp : ∀ (o : Nat) (v : Value), (olds ++ news)[o]? = some v → (olds.toArray ++ news.toArray ++ Builtin.zeroCells z.cells k)[o]? = some v := by
      intro o v hov
      have hlt := (List.getElem?_eq_some_iff.1 hov).1
      have e2 : olds.toArray ++ news.toArray = (olds ++ news).toArray := by simp
      rw [e2, Array.getElem?_append, if_pos (by simpa using hlt)]
      simpa using hov
    obtain ⟨es, hes⟩ := hM
    have hd : View w0 G [(0, p ++ s)] w := hv.drop (by simp only [Mem.all, List.flatMap_cons, List.flatMap_nil, List.append_nil] at hes ⊢; rw [hes, List.append_assoc]; exact (List.Sublist.refl p).append (List.sublist_append_right es s))
    obtain ⟨hG, hw⟩ := hd.drew.gext _ (olds ++ news) hp e
    refine ⟨_, [.tip w.heap.size e ((n + m) * sz) ((n + m + k) * sz)], _, _, hrun, hG, ⟨n + m, n + m + k, by omega, hk, by rw [List.length_append, hlo, hs.1, Nat.add_mul], .inr ⟨_, rfl, rfl, CellsAt.gext _ _ _⟩⟩, fun M' hM' => ?_⟩
    refine hw.insert (p := p) (s := s) (x := .tip w.heap.size e ((n + m) * sz) ((n + m + k) * sz)) (by simp [Mem.all]) (by simpa using hM') ?_ ?_
    · refine ⟨hv.below.size, _, heap_alloc_new w.drew _, ?_, Nat.mul_le_mul_right _ (by omega), fun o ho => ?_⟩
      · have e3 := hs.1
        rw [Array.size_append, Array.size_append, size_zeroCells, hzs]
        simp only [List.size_toArray, hlo, e3]
        rw [Nat.add_mul, Nat.add_mul]
      · simp only [Gext, World.size_drew, if_true]
        exact List.getElem?_eq_none (by rw [List.length_append, hlo, hs.1, ← Nat.add_mul]; exact ho)
    · intro y hy
      have := hd.lt hy
      simp only [Ent.blk] at *
      omega

/-- A slice that this run alone may append to. -/
theorem app_own {t ty e : TypeId} {sz bytes : Nat} {zs : List Value} (ht : P.underlying t = some (.slice e)) (hrow : rowOf P e = some (sz, bytes, zs)) (hv : View w0 G M w)
    {l : Nat} {es : List Ent} (hM : M.get l = some es) {vx : Value} {olds : List Value} (ho : OwnS G e sz vx olds es) {ay : Option Addr} {m c' : Nat} {news : List Value} (hs : SrcW w sz m ay news)
    (hb : (olds.length + news.length) * bytes ≤ 140737488355328 * sz) :
    ∃ v' es' G' w', (Builtin.append_ #[t, t] ty #[vx, .slice ay m c']).run P w = .ok v' w' ∧ GLe G G' ∧ OwnS G' e sz v' (olds ++ news) es' ∧ View w0 G' (M.set l es') w' := by
  obtain ⟨i, z, hi, hz, hsz, hby, hzs, hpos, _, hbp⟩ := rowOf_info hrow
  obtain ⟨n, c, hnc, hcm, hlo, hv'⟩ := ho
  have hb' : (n + m) * bytes ≤ 140737488355328 := by
    rw [hlo, hs.1, ← Nat.add_mul, Nat.mul_right_comm] at hb
    exact Nat.le_of_mul_le_mul_right hb hpos
  have h63 : n + m ≤ maxLen := by
    have := Nat.le_trans (Nat.le_mul_of_pos_right (n + m) hbp) hb'
    simp only [maxLen]; omega
  obtain ⟨p, s, h1, hset⟩ := Mem.all_set hM
  rcases hv' with ⟨rfl, rfl, rfl⟩ | ⟨b, rfl, rfl, hca⟩
  · by_cases hm : m = 0
    · subst hm
      have hnl : news = [] := List.eq_nil_of_length_eq_zero (by simpa using hs.1)
      subst hnl
      have hol : olds = [] := List.eq_nil_of_length_eq_zero (by simpa using hlo)
      subst hol
      exact ⟨_, [], G, w, app_nothing ht hi none ay (Nat.le_refl 0) w, GLe.refl G, OwnS.nil G e sz, by refine hv.drop ?_; rw [hset, h1]; exact List.Sublist.refl _⟩
    · obtain ⟨v', es', G', w', hr, hg, hown, hview⟩ := app_new (ax := none) (n := 0) (c := 0) ht hrow hv ⟨[], h1⟩ hlo (fun ad h => by cases h) (fun _ => ⟨rfl, rfl⟩) (Nat.le_refl 0) hs (by omega) h63 hb'
      exact ⟨v', es', G', w', hr, hg, hown, hview _ (hset es')⟩
  · by_cases hroom : n + m ≤ c
    · cases ay with
      | none =>
        have hm0 : m = 0 := hs.2.2
        subst hm0
        have hnl : news = [] := List.eq_nil_of_length_eq_zero (by simpa using hs.1)
        subst hnl
        exact ⟨_, _, G, w, app_nothing ht hi _ none hnc w, GLe.refl G, ⟨n, c, hnc, hcm, by simpa using hlo, .inr ⟨b, rfl, rfl, by simpa using hca⟩⟩, by refine hv.drop ?_; rw [hset, h1]; exact List.Sublist.refl _⟩
      | some ad =>
        obtain ⟨hbase, C, hC, hCs, hns, hfree⟩ := hv.ents (.tip b e (n * sz) (c * sz)) (by rw [h1]; simp)
        have hsum : n * sz + news.length ≤ C.size := by rw [hs.1, hCs, ← Nat.add_mul]; exact Nat.mul_le_mul_right _ hroom
        have hrun := run_append_room (P := P) w t ty e i ht hi b n c C hC ad m c' news (by rw [hsz]; exact hs.1) hs.2.2 hs.2.1 hroom (by rw [hsz]; exact hsum)
        rw [hsz] at hrun
        have holds : olds = C.toList.take (n * sz) := by
          apply List.ext_getElem?
          intro j
          by_cases hj : j < n * sz
          · have h3 := hv.cells _ _ _ (hca j (olds[j]'(by omega)) (List.getElem?_eq_getElem _))
            simp only [World.cell?, hC, Nat.zero_add, Option.isSome_none, Bool.false_eq_true, if_false] at h3
            rw [List.getElem?_eq_getElem (by omega), List.getElem?_take, if_pos hj, ← h3]
            simp
          · rw [List.getElem?_eq_none (by omega), List.getElem?_eq_none (by simp; omega)]
        let G' : GH := fun b' o => if b' = b then (olds ++ news)[o]? else G b' o
        have hGb : ∀ o v, G b o = some v → olds[o]? = some v := by
          intro o v hv'
          have ho : o < n * sz := by
            rcases Nat.lt_or_ge o (n * sz) with h | h
            · exact h
            · rw [hfree o h] at hv'; cases hv'
          have h3 := hca o (olds[o]'(by omega)) (List.getElem?_eq_getElem _)
          rw [Nat.zero_add, hv'] at h3
          rw [List.getElem?_eq_getElem (by omega), ← h3]
        have hcell : ∀ (o : Nat) (v : Value), (olds ++ news)[o]? = some v → (C.toList.take (n * sz) ++ news ++ C.toList.drop (n * sz + news.length))[o]? = some v := by
          intro o v ho
          rw [← holds, List.getElem?_append, if_pos (List.getElem?_eq_some_iff.1 ho).1]; exact ho
        refine ⟨_, [.tip b e ((n + m) * sz) (c * sz)], G', _, hrun, fun b' o v hv' => ?_, ⟨n + m, c, hroom, hcm, by rw [List.length_append, hlo, hs.1, Nat.add_mul], .inr ⟨b, rfl, rfl, fun j v hj => by rw [Nat.zero_add]; simp only [G', if_true]; exact hj⟩⟩, ?_⟩
        · by_cases e : b' = b
          · subst e
            simp only [G', if_true]
            have := hGb o v hv'
            rw [List.getElem?_append, if_pos (List.getElem?_eq_some_iff.1 this).1]; exact this
          · simp only [G', if_neg e]; exact hv'
        · have hlt := (Array.getElem?_eq_some_iff.1 hC).1
          refine hv.turn (p := p) (s := s) (x := .tip b e (n * sz) (c * sz)) (y := .tip b e ((n + m) * sz) (c * sz)) (by rw [h1]; simp) (by rw [hset]; simp) rfl
            (hv.below.trans ⟨rfl, rfl, rfl, by simp, fun k hk => setRow_other w b k _ (by omega)⟩) (fun k hk => setRow_other w b k _ hk) (fun b' hb' o => if_neg hb') (fun o v ho => ?_) ?_
          · simp only [G', Ent.blk, if_true] at ho
            simp only [Ent.blk, World.cell?, setRow_heap w b C _ e _ hC]
            simpa using hcell o v ho
          · refine ⟨hbase, _, setRow_heap w b C _ e _ hC, ?_, Nat.mul_le_mul_right _ hroom, fun o ho => ?_⟩
            · simp only [List.size_toArray, List.length_append, List.length_take, List.length_drop, Array.length_toList]
              omega
            · simp only [G', if_true]
              exact List.getElem?_eq_none (by rw [List.length_append, hlo, hs.1, ← Nat.add_mul]; exact ho)
    · obtain ⟨v', es', G', w', hr, hg, hown, hview⟩ := app_new (ax := some ⟨b, 0, none⟩) (n := n) (c := c) ht hrow hv ⟨_, h1⟩ hlo
        (fun ad h j u hu => by cases h; rw [addr_add]; exact hv.cells _ _ _ (hca j u hu)) (fun h => by cases h) hnc hs (by omega) h63 hb'
      exact ⟨v', es', G', w', hr, hg, hown, hview _ (hset es')⟩

/-- A slice in a new block, which this run alone writes. -/
theorem app_newV {t ty e : TypeId} {sz bytes : Nat} {zs : List Value} (ht : P.underlying t = some (.slice e)) (hrow : rowOf P e = some (sz, bytes, zs)) (hv : View w0 G M w)
    {p s : List Ent} (hM : ∃ es, M.all = p ++ es ++ s) {ax : Option Addr} {n c : Nat} {olds : List Value} (hlo : olds.length = n * sz) (hax : ∀ ad, ax = some ad → ∀ j u, olds[j]? = some u → w.cell? (ad.add j) = some u)
    (hn : ax = none → n = 0 ∧ c = 0) (hnc : n ≤ c) {ay : Option Addr} {m c' : Nat} {news : List Value} (hs : SrcW w sz m ay news) (hg : c < n + m) (h63 : n + m ≤ maxLen) (hb : (n + m) * bytes ≤ 140737488355328) :
    ∃ v' es' w', (Builtin.append_ #[t, t] ty #[.slice ax n c, .slice ay m c']).run P w = .ok v' w' ∧ OwnV e sz v' (olds ++ news) es' ∧
      ∀ M' : Mem, M'.all = p ++ es' ++ s → View w0 G M' w' := by
  obtain ⟨i, z, hi, hz, hsz, hby, hzs, hpos, _, _⟩ := rowOf_info hrow
  have hm63 : ((n + m : Nat) : Int) ≤ 9223372036854775807 := by simp only [maxLen] at h63; omega
  have hl : news.length = m * i.size := by rw [hsz]; exact hs.1
  cases ay with
  | none => exact absurd (show m = 0 from hs.2.2) (by omega)
  | some ad =>
    have hnews := hs.2.2
    have key : ∃ k, (Builtin.append_ #[t, t] ty #[.slice ax n c, .slice (some ad) m c']).run P w =
        .ok (.slice (some ⟨w.heap.size, 0, none⟩) (n + m) (n + m + k)) (w.drew.alloc (.cells (olds.toArray ++ news.toArray ++ Builtin.zeroCells z.cells k) e)) ∧ n + m + k ≤ maxLen := by
      refine ⟨grownCap w (n + m) c e - (n + m), ?_⟩
      have hge := grownCap_ge w (n + m) c e
      have hle := grownCap_le_maxLen w (n + m) c e h63
      have e1 : n + m + (grownCap w (n + m) c e - (n + m)) = grownCap w (n + m) c e := by omega
      rw [e1]
      refine ⟨?_, hle⟩
      cases ax with
      | none =>
        obtain ⟨rfl, rfl⟩ := hn rfl
        simp only [Nat.zero_add] at hge hle hm63 ⊢
        have hol : olds = [] := List.eq_nil_of_length_eq_zero (by simpa using hlo)
        subst hol
        rw [run_append_nil w t ty e i z ht hi hz ad m c' news hl hnews (by omega) hm63 (by rw [hby]; rw [Nat.zero_add] at hb; omega)]
        simp
      | some bd =>
        exact run_append_grow w t ty e i z ht hi hz bd n c olds (by rw [hsz]; exact hlo) (hax bd rfl) ad m c' news hl hnews hg hm63 (growslice_fits hg (by rw [hby]; exact hb))
    obtain ⟨k, hrun, hk⟩ := key
    obtain ⟨es, hes⟩ := hM
    have hd : View w0 G [(0, p ++ s)] w := hv.drop (by simp only [Mem.all, List.flatMap_cons, List.flatMap_nil, List.append_nil] at hes ⊢; rw [hes, List.append_assoc]; exact (List.Sublist.refl p).append (List.sublist_append_right es s))
    have hcs : olds.toArray ++ news.toArray ++ Builtin.zeroCells z.cells k = (olds ++ news ++ (Builtin.zeroCells z.cells k).toList).toArray := by simp
    have hpad : (Builtin.zeroCells z.cells k).toList.length = k * sz := by rw [Array.length_toList, size_zeroCells, hzs]
    generalize (Builtin.zeroCells z.cells k).toList = pad at hcs hpad
    rw [hcs] at hrun
    have hw := hd.drew.alloc 0 e (olds ++ news ++ pad)
    refine ⟨_, [.var w.heap.size e (olds ++ news ++ pad)], _, hrun, ⟨n + m, n + m + k, by omega, hk, by rw [List.length_append, hlo, hs.1, Nat.add_mul], .inr ⟨_, pad, rfl, by rw [hpad, Nat.add_sub_cancel_left], rfl⟩⟩, fun M' hM' => ?_⟩
    refine hw.perm0 ?_
    rw [hM']
    simp only [Mem.all, List.flatMap_cons, List.flatMap_nil, List.append_nil, List.cons_append, List.nil_append, List.append_assoc]
    exact (List.perm_middle (l₁ := p) (l₂ := s)).symm

/-- A slice that this run alone writes. -/
theorem app_ownV {t ty e : TypeId} {sz bytes : Nat} {zs : List Value} (ht : P.underlying t = some (.slice e)) (hrow : rowOf P e = some (sz, bytes, zs)) (hv : View w0 G M w)
    {l : Nat} {es : List Ent} (hM : M.get l = some es) {vx : Value} {olds : List Value} (ho : OwnV e sz vx olds es) {ay : Option Addr} {m c' : Nat} {news : List Value} (hs : SrcW w sz m ay news)
    (hb : (olds.length + news.length) * bytes ≤ 140737488355328 * sz) :
    ∃ v' es' w', (Builtin.append_ #[t, t] ty #[vx, .slice ay m c']).run P w = .ok v' w' ∧ OwnV e sz v' (olds ++ news) es' ∧ View w0 G (M.set l es') w' := by
  obtain ⟨i, z, hi, hz, hsz, hby, hzs, hpos, _, hbp⟩ := rowOf_info hrow
  obtain ⟨n, c, hnc, hcm, hlo, hv'⟩ := ho
  have hb' : (n + m) * bytes ≤ 140737488355328 := by
    rw [hlo, hs.1, ← Nat.add_mul, Nat.mul_right_comm] at hb
    exact Nat.le_of_mul_le_mul_right hb hpos
  have h63 : n + m ≤ maxLen := by
    have := Nat.le_trans (Nat.le_mul_of_pos_right (n + m) hbp) hb'
    simp only [maxLen]; omega
  obtain ⟨p, s, h1, hset⟩ := Mem.all_set hM
  rcases hv' with ⟨a0, ha0, rfl, rfl, rfl⟩ | ⟨b, pad, rfl, hpad, rfl⟩
  · have hol : olds = [] := List.eq_nil_of_length_eq_zero (by simpa using hlo)
    subst hol
    by_cases hm : m = 0
    · subst hm
      have hnl : news = [] := List.eq_nil_of_length_eq_zero (by simpa using hs.1)
      subst hnl
      have hz : OwnV e sz (.slice a0 0 0) [] [] := ⟨0, 0, Nat.le_refl _, Nat.zero_le _, by simp, .inl ⟨a0, ha0, rfl, rfl, rfl⟩⟩
      exact ⟨_, [], w, app_nothing ht hi a0 ay (Nat.le_refl 0) w, hz, by refine hv.drop ?_; rw [hset, h1]; exact List.Sublist.refl _⟩
    · obtain ⟨v', es', w', hr, hown, hview⟩ := app_newV (ax := a0) (n := 0) (c := 0) ht hrow hv ⟨[], h1⟩ hlo (fun ad h j u hu => by simp at hu) (fun _ => ⟨rfl, rfl⟩) (Nat.le_refl 0) hs (by omega) h63 hb'
      exact ⟨v', es', w', hr, hown, hview _ (hset es')⟩
  · obtain ⟨hbase, hrowb, hfree⟩ := hv.ents (.var b e (olds ++ pad)) (by rw [h1]; simp)
    by_cases hroom : n + m ≤ c
    · cases ay with
      | none =>
        have hm0 : m = 0 := hs.2.2
        subst hm0
        have hnl : news = [] := List.eq_nil_of_length_eq_zero (by simpa using hs.1)
        subst hnl
        exact ⟨_, [.var b e (olds ++ pad)], w, app_nothing ht hi _ none hnc w, ⟨n, c, hnc, hcm, by simpa using hlo, .inr ⟨b, pad, rfl, hpad, by simp⟩⟩, by refine hv.drop ?_; rw [hset, h1]; exact List.Sublist.refl _⟩
      | some ad =>
        have hsize : (olds ++ pad).toArray.size = c * sz := by
          rw [List.size_toArray, List.length_append, hlo, hpad, ← Nat.add_mul]; congr 1; omega
        have hsum : n * sz + news.length ≤ (olds ++ pad).toArray.size := by rw [hs.1, hsize, ← Nat.add_mul]; exact Nat.mul_le_mul_right _ hroom
        have hrun := run_append_room (P := P) w t ty e i ht hi b n c (olds ++ pad).toArray hrowb ad m c' news (by rw [hsz]; exact hs.1) hs.2.2 hs.2.1 hroom (by rw [hsz]; exact hsum)
        rw [hsz] at hrun
        have hlt := (Array.getElem?_eq_some_iff.1 hrowb).1
        have hrow' : (olds ++ pad).toArray.toList.take (n * sz) ++ news ++ (olds ++ pad).toArray.toList.drop (n * sz + news.length) = olds ++ news ++ pad.drop news.length := by
          rw [← hlo, List.take_left', List.drop_append, List.drop_eq_nil_of_le (by omega), List.nil_append, Nat.add_sub_cancel_left]
          rfl
        refine ⟨_, [.var b e (olds ++ news ++ pad.drop news.length)], _, hrun, ⟨n + m, c, hroom, hcm, by rw [List.length_append, hlo, hs.1, Nat.add_mul], .inr ⟨b, _, rfl, by rw [List.length_drop, hpad, hs.1, ← Nat.sub_mul, Nat.sub_sub], rfl⟩⟩, ?_⟩
        refine hv.turn (p := p) (s := s) (x := .var b e (olds ++ pad)) (y := .var b e (olds ++ news ++ pad.drop news.length)) (by rw [h1]; simp) (by rw [hset]; simp) rfl
            (hv.below.trans ⟨rfl, rfl, rfl, by simp, fun k hk => setRow_other w b k _ (by omega)⟩) (fun k hk => setRow_other w b k _ hk) (fun _ _ _ => rfl) (fun o v ho => by rw [show (Ent.var b e (olds ++ pad)).blk = b from rfl, hfree] at ho; cases ho) ?_
        refine ⟨hbase, ?_, hfree⟩
        rw [← hrow']
        exact setRow_heap w b _ _ e _ hrowb
    · obtain ⟨v', es', w', hr, hown, hview⟩ := app_newV (ax := some ⟨b, 0, none⟩) (n := n) (c := c) ht hrow hv ⟨_, h1⟩ hlo
        (fun ad h j u hu => by
          cases h
          rw [addr_add, Nat.zero_add]
          simp only [World.cell?, hrowb]
          simp only [List.getElem?_toArray, Option.isSome_none, Bool.false_eq_true, if_false]
          rw [List.getElem?_append_left (List.getElem?_eq_some_iff.1 hu).1]; exact hu) (fun h => by cases h) hnc hs (by omega) h63 hb'
      exact ⟨v', es', w', hr, hown, hview _ (hset es')⟩

theorem flat_get (l : List Value) (hl : 0 < l.length) : ∀ n j, j < n * l.length → ((List.replicate n l).flatten)[j]? = l[j % l.length]?
  | 0, j, h => by simp at h
  | n + 1, j, h => by
    rw [List.replicate_succ, List.flatten_cons, List.getElem?_append]
    by_cases hj : j < l.length
    · rw [if_pos hj, Nat.mod_eq_of_lt hj]
    · rw [if_neg hj, flat_get l hl n (j - l.length) (by rw [Nat.succ_mul] at h; omega)]
      exact congrArg (l[·]?) (Nat.mod_eq_sub_mod (by omega)).symm
theorem cyc_eq {z : Array Value} {sz : Nat} (n : Nat) (hpos : 0 < sz) (hz : z.size = sz) : (Array.range (n * sz)).map (z[· % z.size]!) = (List.replicate n z.toList).flatten.toArray := by
  apply Array.ext_getElem?
  intro j
  by_cases hj : j < n * sz
  · rw [Array.getElem?_map, Array.getElem?_range, if_pos hj]
    rw [List.getElem?_toArray, flat_get z.toList (by simp [hz, hpos]) n j (by simpa [hz] using hj)]
    have hm : j % z.size < z.size := Nat.mod_lt _ (by omega)
    simp [hm]
  · rw [Array.getElem?_eq_none (by simp; omega), List.getElem?_toArray, List.getElem?_eq_none]
    rw [List.length_flatten, List.map_replicate, List.sum_replicate_nat, Array.length_toList, hz]; omega
theorem zeroCells_eq {z : Array Value} {sz : Nat} (n : Nat) (hpos : 0 < sz) (hz : z.size = sz) : (Builtin.zeroCells z n).toList = (List.replicate n z.toList).flatten := by
  unfold Builtin.zeroCells
  rw [hz]
  have := cyc_eq n hpos hz
  rw [hz] at this
  rw [this]
/-- Zeros in a new block. -/
theorem app_zeros {t tn ty e : TypeId} {sz bytes : Nat} {zs : List Value} {k kn : IntKind} (ht : P.underlying t = some (.slice e)) (htn : P.underlying tn = some (.int kn)) (hrow : rowOf P e = some (sz, bytes, zs)) (hv : View w0 G M w)
    {n : Nat} (h0 : 0 < n) (hm : n ≤ maxLen) (hb : n * bytes ≤ 140737488355328) (l : Nat) :
    ∃ v' es' w', (Builtin.append_ #[t, tn] ty #[.slice none 0 0, .int k n]).run P w = .ok v' w' ∧ OwnV e sz v' (List.replicate n zs).flatten es' ∧ View w0 G ((l, es') :: M) w' := by
  obtain ⟨i, z, hi, hz, hsz, hby, hzs, hpos, hzl, _⟩ := rowOf_info hrow
  have hrun := Lib.run_append_nil_zeros (P := P) w t tn ty e i z k kn ht htn hi hz n h0 (by omega) (by simp only [maxLen] at hm; omega) (by rw [hby]; omega)
  have hge := grownCap_ge w n 0 e
  have hle := grownCap_le_maxLen w n 0 e hm
  have hcs : Builtin.zeroCells z.cells n ++ Builtin.zeroCells z.cells (grownCap w n 0 e - n) = ((List.replicate n zs).flatten ++ (Builtin.zeroCells z.cells (grownCap w n 0 e - n)).toList).toArray := by
    rw [← hzl, ← zeroCells_eq n hpos hzs]
    simp
  have hpad : (Builtin.zeroCells z.cells (grownCap w n 0 e - n)).toList.length = (grownCap w n 0 e - n) * sz := by rw [Array.length_toList, size_zeroCells, hzs]
  rw [hcs] at hrun
  refine ⟨_, _, _, hrun, ⟨n, grownCap w n 0 e, hge, hle, ?_, .inr ⟨_, _, rfl, hpad, rfl⟩⟩, hv.drew.alloc l e _⟩
  rw [List.length_flatten, List.map_replicate, List.sum_replicate_nat, ← hzl, Array.length_toList, hzs]
theorem foldl_size (off : Nat) : ∀ (l : List (Value × Nat)) (cells : Array Value), (l.foldl (fun cs x => cs.setIfInBounds (off + x.2) x.1) cells).size = cells.size
  | [], cells => rfl
  | x :: l, cells => by rw [List.foldl_cons, foldl_size off l]; simp
theorem fill_size {p : Nat → Option (Nat × Nat)} : ∀ (l : List (Nat × Value)) (cells cs : Array Value), Instr.fill p cells l = some cs → cs.size = cells.size
  | [], cells, cs, h => by simp [Instr.fill] at h; simp [h]
  | (i, v) :: r, cells, cs, h => by
    simp only [Instr.fill] at h
    split at h
    · cases h
    · split at h
      · cases h
      · rw [fill_size r _ _ h]
        rw [← Array.foldl_toList]
        exact foldl_size _ _ _

/-- An operation's end. -/
def Done (P : Program) (o : Oper) (a : Act) (w : World) (v : Value) (w' : World) : Prop :=
  (execOp a.eval o).run P w = .ok (.value v) w' ∨ ((execOp a.eval o).run P w = .ok .skip w' ∧ v = undef)

theorem eff_bsl {dst : Option Tmp} {t : TypeId} {len : Nat} {parts : Array (Nat × Operand)} {type : TypeId} {pos : String} {after : Array Edge} {guard : Option (Nat × Bool)} {s r : ROp} (hr : rbEff P (.buildSlice t len parts) s = some r) (hf : FrOk nt fr a) (hv : View w0 G M w) {K : Value → GH → Mem → Prop} (h : effP P fr G M K r) :
    ∃ v G' M' w', Done P ⟨dst, .buildSlice t len parts, type, pos, after, guard⟩ a w v w' ∧ GLe G G' ∧ View w0 G' M' w' ∧ K v G' M' := by
  simp only [rbEff] at hr
  split at hr
  · rename_i _ lab e0 len0 sz0 zs0 pl0 parts0 e hu
    split at hr
    · rename_i sz bytes zl hrow
      split at hr
      · rename_i hlen
        simp at hr; subst hr
        obtain ⟨i, z, hi, hz, hsz, hby, hzs, hpos, hzl, _⟩ := rowOf_info hrow
        obtain ⟨vs, hvs, hk⟩ := withs_iff h
        split at hk
        · rename_i cs hc
          have e1 : parts.toList.map (fun (x : Nat × Operand) => (x.1, a.eval x.2)) = (List.map (fun p => p.1) parts.toList).zip vs := by
            have h1 := opds_eval hf (parts.toList.map (·.2)) (vs := vs) (by simpa [List.map_map, Function.comp_def] using hvs rfl)
            subst h1
            generalize parts.toList = l
            induction l with
            | nil => rfl
            | cons x r ih => simp only [List.map_cons, List.zip_cons_cons, ih]
          have e2 : List.map (fun x => x.1) (List.map (fun (p : Nat × Operand) => (p.1, opd p.2)) parts.toList) = List.map (fun p => p.1) parts.toList := by simp [List.map_map, Function.comp_def]
          rw [e2] at hc
          have hf2 := fill_mono (q := fun i => some (i * sz, sz)) (fun i x hx => by
            rw [List.getElem?_map] at hx
            simp only [Option.map_eq_some_iff] at hx
            obtain ⟨j, hj, rfl⟩ := hx
            obtain ⟨_, h2⟩ := List.getElem?_eq_some_iff.1 hj
            simp at h2; subst h2; rfl) _ _ _ hc
          obtain ⟨hG, hw⟩ := hv.gext cs cs.toList (fun o v h => by simpa using h) e
          have hfl : ((List.replicate len zl).flatten.toArray).size = len * sz := by
            rw [List.size_toArray, List.length_flatten, List.map_replicate, List.sum_replicate_nat, ← hzl, Array.length_toList, hzs]
          have hsize : cs.size = len * sz := (fill_size _ _ _ hf2).trans hfl
          refine ⟨_, _, _, w.alloc (.cells cs e), .inl ?_, hG, ?_, hk w.heap.size _ hG (CellsAt.gext _ _ _) (fun o v h => by simpa [Gext] using h)⟩
          · have hcyc : ∀ zz : Array Value, (len * sz ≠ 0 → zz = z.cells) → (Array.range (len * sz)).map (zz[· % zz.size]!) = (List.replicate len zl).flatten.toArray := by
              intro zz hzz
              by_cases h0 : len * sz = 0
              · rw [h0]
                apply Array.ext'
                simp only [Array.toList_map]
                have : (List.replicate len zl).flatten = [] := List.eq_nil_of_length_eq_zero (by simpa [h0] using hfl)
                rw [this]; rfl
              · rw [hzz h0, ← hzl]; exact cyc_eq _ (by omega) hzs
            have h24 : ¬ len * sz > 2 ^ 24 := by have := hlen.1; omega
            have hsz' : szOf P e = some sz := by simp [szOf, hi, hsz]
            have hrun : (Instr.buildSlice t len (parts.map fun p => (p.1, a.eval p.2))).run P w = .ok (.slice (some ⟨w.heap.size, 0, none⟩) len len) (w.alloc (.cells cs e)) := by
              by_cases h0 : len * sz = 0
              · have := hcyc #[] (fun h => absurd h0 h)
                have h25 : ¬ (0 > 2 ^ 24) := by decide
                simp only [Instr.buildSlice, Sem.run_bind, run_underlying hu, Result.andThen_ok, szOf_run hsz', h0, h25, if_true, if_false, Sem.run_pure, Array.toList_map] at this ⊢
                rw [this, e1, hf2]
                simp [newRow]
              · have := hcyc z.cells (fun _ => rfl)
                have hzv : (zeroValue e).run P w = .ok z w := by simp [zeroValue, typeInfo, hi, hz]
                simp only [Instr.buildSlice, Sem.run_bind, run_underlying hu, Result.andThen_ok, szOf_run hsz', h24, if_false, h0, Sem.run_pure, Array.toList_map, hzv]
                rw [this, e1, hf2]
                simp [newRow]
            simp only [execOp, Sem.run_bind, hrun, Result.andThen_ok, Sem.run_pure]
          · cases lab with
            | none => exact hw
            | some l =>
              refine hw.cons (x := .tip w.heap.size e (len * sz) (len * sz)) ⟨hv.below.size, cs, heap_alloc_new w _, hsize, Nat.le_refl _, fun o ho => ?_⟩ (fun y hy => by have := hv.lt hy; simp only [Ent.blk] at *; omega)
              simp only [Gext, if_true]
              exact List.getElem?_eq_none (by simpa [hsize] using ho)
        · exact hk.elim
      · cases hr
    · cases hr
  · cases hr

theorem eff_mks {dst : Option Tmp} {t : TypeId} {l c : Operand} {type : TypeId} {pos : String} {after : Array Edge} {guard : Option (Nat × Bool)} {s r : ROp} (hr : rbEff P (.makeSlice t l c) s = some r) (hf : FrOk nt fr a) (hv : View w0 G M w) {K : Value → GH → Mem → Prop} (h : effP P fr G M K r) :
    ∃ v G' M' w', Done P ⟨dst, .makeSlice t l c, type, pos, after, guard⟩ a w v w' ∧ GLe G G' ∧ View w0 G' M' w' ∧ K v G' M' := by
  simp only [rbEff] at hr
  split at hr
  · rename_i lab e0 sz0 b0 z0 l0 c0 e hu
    split at hr
    · rename_i sz bytes zs hrow
      simp at hr; subst hr
      obtain ⟨i, z, hi, hz, hsz, hby, hzs, hpos, hzl, _⟩ := rowOf_info hrow
      obtain ⟨vl, hl, hk⟩ := with1_iff h
      obtain ⟨vc, hc, hk⟩ := with1_iff hk
      split at hk
      · rename_i kl L kc C _
        obtain ⟨h0, h1, h2, h3, hk⟩ := hk
        have hrun := run_make (P := P) w t e i z hu hi hz kl kc L C h0 h1 (by rw [hby]; exact h2) h3
        have hal := hv.alloc lab e (List.replicate C.toNat zs).flatten
        have hcells : (madeCells z.cells (C.toNat * i.size)) = (List.replicate C.toNat zs).flatten.toArray := by
          rw [hsz, ← hzl]; exact cyc_eq _ hpos hzs
        rw [hcells] at hrun
        exact ⟨_, G, _, _, .inl (by simp [execOp, opd_eval hf l (hl rfl), opd_eval hf c (hc rfl), hrun]), GLe.refl G, hal, hk w.heap.size⟩
      · exact hk.elim
    · cases hr
  · rename_i lab e0 sz0 b0 l0 c0 e hu
    split at hr
    · rename_i sz bytes zs hrow
      simp at hr; subst hr
      obtain ⟨i, z, hi, hz, hsz, hby, hzs, hpos, hzl, _⟩ := rowOf_info hrow
      obtain ⟨vl, hl, hk⟩ := with1_iff h
      obtain ⟨vc, hc, hk⟩ := with1_iff hk
      split at hk
      · rename_i kl L kc C _
        obtain ⟨rfl, h1, h2, h3, hk⟩ := hk
        have hrun := run_make (P := P) w t e i z hu hi hz kl kc 0 C (Int.le_refl 0) h1 (by rw [hby]; exact h2) h3
        have hcells : (madeCells z.cells (C.toNat * i.size)) = (List.replicate C.toNat zs).flatten.toArray := by
          rw [hsz, ← hzl]; exact cyc_eq _ hpos hzs
        rw [hcells] at hrun
        have hsize : (List.replicate C.toNat zs).flatten.toArray.size = C.toNat * sz := by
          rw [List.size_toArray, List.length_flatten, List.map_replicate, List.sum_replicate_nat, ← hzl, Array.length_toList, hzs]
        refine ⟨_, G, (lab, [.tip w.heap.size e 0 (C.toNat * sz)]) :: M, _, .inl (by simp [execOp, opd_eval hf l (hl rfl), opd_eval hf c (hc rfl), hrun]; rfl), GLe.refl G, ?_, hk _ [.tip w.heap.size e 0 (C.toNat * sz)] ⟨0, C.toNat, Nat.zero_le _, by simp only [maxLen]; omega, by simp, .inr ⟨w.heap.size, rfl, by simp, fun j v hv => by simp at hv⟩⟩⟩
        have h2 := (hv.alloc lab e (List.replicate C.toNat zs).flatten).drop (M' := M) (by simp [Mem.all])
        refine h2.cons (x := .tip w.heap.size e 0 (C.toNat * sz)) ⟨hv.below.size, _, heap_alloc_new w _, hsize, Nat.zero_le _, fun o _ => hv.new o⟩ (fun y hy => by have := hv.lt hy; simp only [Ent.blk] at *; omega)
      · exact hk.elim
    · cases hr
  · cases hr

theorem eff_mkm {dst : Option Tmp} {t : TypeId} {r0 : Option Operand} {type : TypeId} {pos : String} {after : Array Edge} {guard : Option (Nat × Bool)} {s r : ROp} (hr : rbEff P (.makeMap t r0) s = some r) (_hf : FrOk nt fr a) (hv : View w0 G M w) {K : Value → GH → Mem → Prop} (h : effP P fr G M K r) :
    ∃ v G' M' w', Done P ⟨dst, .makeMap t r0, type, pos, after, guard⟩ a w v w' ∧ GLe G G' ∧ View w0 G' M' w' ∧ K v G' M' := by
  cases r0 with
  | some _ => simp [rbEff] at hr
  | none =>
    simp only [rbEff] at hr
    split at hr
    · rename_i lab
      simp at hr; subst hr
      exact ⟨_, G, _, _, .inl (by simp [execOp]; rfl), GLe.refl G, hv.alloc_map lab [] 0, h w.heap.size⟩
    · cases hr

theorem eff_call {dst : Option Tmp} {c : Call} {type : TypeId} {pos : String} {after : Array Edge} {guard : Option (Nat × Bool)} {s r : ROp} (hr : rbEff P (.call c) s = some r) (hf : FrOk nt fr a) (hv : View w0 G M w) {K : Value → GH → Mem → Prop} (h : effP P fr G M K r) :
    ∃ v G' M' w', Done P ⟨dst, .call c, type, pos, after, guard⟩ a w v w' ∧ GLe G G' ∧ View w0 G' M' w' ∧ K v G' M' := by
  obtain ⟨callee, args, argTypes⟩ := c
  cases callee with
  | value f => simp [rbEff] at hr
  | invoke f n => simp [rbEff] at hr
  | builtin b =>
    cases b <;> simp only [rbEff] at hr <;> (try (cases hr; done))
    case append =>
      split at hr
      · rename_i lab lab' e0 sz0 b0 x0 y0 x y t t' hx ht
        have hx' : args = #[x, y] := by apply Array.ext'; simpa using hx
        have ht' : argTypes = #[t, t'] := by apply Array.ext'; simpa using ht
        subst hx' ht'
        split at hr
        · rename_i htt
          subst htt
          split at hr
          · rename_i e hu
            split at hr
            · rename_i sz bytes zs hrow
              simp at hr; subst hr
              obtain ⟨vx, hvx, hk⟩ := with1_iff h
              obtain ⟨vy, hvy, hk⟩ := with1_iff hk
              have hrun0 : ∀ v' w', (Builtin.append_ #[t, t] type #[vx, vy]).run P w = .ok v' w' → Done P { dst, op := .call { callee := .builtin .append, args := #[x, y], argTypes := #[t, t] }, type, pos, after, guard } a w v' w' := by
                intro v' w' hr
                refine .inl ?_
                simp [execOp, resolve, invoke, builtin, opd_eval hf x (hvx rfl), opd_eval hf y (hvy rfl), hr]
              split at hk
              · rename_i ay m cy
                obtain ⟨news, hsrc, hk⟩ := hk
                cases lab with
                | none =>
                  dsimp only at hk
                  split at hk
                  · rename_i ax n cx _
                    obtain ⟨rfl, rfl, hb, h63, hk0, hk1⟩ := hk
                    obtain ⟨i, z, hi, _, _, _, _, _, _, _⟩ := rowOf_info hrow
                    by_cases hm : m = 0
                    · subst hm
                      exact ⟨_, G, M, w, hrun0 _ _ (app_nothing hu hi ax ay (Nat.le_refl 0) w), GLe.refl G, hv, hk0 rfl⟩
                    · obtain ⟨v', es', G', w', hr, hg, hown, hview⟩ := app_new (p := []) (s := M.all) (ax := ax) (n := 0) (c := 0) (olds := []) hu hrow hv ⟨[], by simp⟩ (by simp) (fun ad h j u hu' => by simp at hu')
                        (fun _ => ⟨rfl, rfl⟩) (Nat.le_refl 0) (hsrc.world hv) (by omega) (by omega) (by simpa using hb)
                      exact ⟨v', G', _, w', hrun0 _ _ hr, hg, hview ((lab', es') :: M) (by simp [Mem.all]), hk1 (by omega) v' es' G' hg hown⟩
                  · exact hk.elim
                | some l =>
                  dsimp only at hk
                  split at hk
                  · rename_i es hes
                    obtain ⟨olds, hown, hb, hk⟩ := hk
                    obtain ⟨v', es', G', w', hr, hg, hown', hview⟩ := app_own (ty := type) hu hrow hv hes hown (c' := cy) (hsrc.world hv) hb
                    exact ⟨v', G', _, w', hrun0 _ _ hr, hg, hview, hk v' es' G' hg hown'⟩
                  · exact hk.elim
              · exact hk.elim
            · cases hr
          · cases hr
        · cases hr
      · rename_i own hint lab lab' e0 sz0 b0 x0 y0 x y t t' hx ht
        have hx' : args = #[x, y] := by apply Array.ext'; simpa using hx
        have ht' : argTypes = #[t, t'] := by apply Array.ext'; simpa using ht
        subst hx' ht'
        split at hr
        · rename_i htt
          subst htt
          split at hr
          · rename_i e hu
            split at hr
            · rename_i sz bytes zs hrow
              simp at hr; subst hr
              obtain ⟨vx, hvx, hk⟩ := with1_iff h
              obtain ⟨vy, hvy, hk⟩ := with1_iff hk
              have hrun0 : ∀ v' w', (Builtin.append_ #[t, t] type #[vx, vy]).run P w = .ok v' w' → Done P { dst, op := .call { callee := .builtin .append, args := #[x, y], argTypes := #[t, t] }, type, pos, after, guard } a w v' w' := by
                intro v' w' hr
                refine .inl ?_
                simp [execOp, resolve, invoke, builtin, opd_eval hf x (hvx rfl), opd_eval hf y (hvy rfl), hr]
              split at hk
              · rename_i ay m cy
                obtain ⟨news, hsrc, hk⟩ := hk
                cases lab with
                | none =>
                  dsimp only at hk
                  split at hk
                  · rename_i ax n cx _
                    obtain ⟨rfl, rfl, hb, h63, hk0, hk1⟩ := hk
                    obtain ⟨i, z, hi, _, _, _, _, _, _, _⟩ := rowOf_info hrow
                    by_cases hm : m = 0
                    · subst hm
                      exact ⟨_, G, M, w, hrun0 _ _ (app_nothing hu hi ax ay (Nat.le_refl 0) w), GLe.refl G, hv, hk0 rfl⟩
                    · have hk1 := hk1 (by omega)
                      cases own with
                      | true =>
                        obtain ⟨v', es', w', hr, hown, hview⟩ := app_newV (p := []) (s := M.all) (ax := ax) (n := 0) (c := 0) (olds := []) hu hrow hv ⟨[], by simp⟩ (by simp) (fun ad h j u hu' => by simp at hu')
                          (fun _ => ⟨rfl, rfl⟩) (Nat.le_refl 0) (hsrc.world hv) (by omega) (by omega) (by simpa using hb)
                        exact ⟨v', G, _, w', hrun0 _ _ hr, GLe.refl G, hview ((lab', es') :: M) (by simp [Mem.all]), hk1 v' es' hown⟩
                      | false =>
                        obtain ⟨v', es', G', w', hr, hg, hown, hview⟩ := app_new (p := []) (s := M.all) (ax := ax) (n := 0) (c := 0) (olds := []) hu hrow hv ⟨[], by simp⟩ (by simp) (fun ad h j u hu' => by simp at hu')
                          (fun _ => ⟨rfl, rfl⟩) (Nat.le_refl 0) (hsrc.world hv) (by omega) (by omega) (by simpa using hb)
                        exact ⟨v', G', _, w', hrun0 _ _ hr, hg, hview ((lab', es') :: M) (by simp [Mem.all]), hk1 v' es' G' hg hown⟩
                  · exact hk.elim
                | some l =>
                  dsimp only at hk
                  split at hk
                  · rename_i es hes
                    obtain ⟨olds, hb, hk⟩ := hk
                    cases own with
                    | true =>
                      obtain ⟨v', es', w', hr, hown', hview⟩ := app_ownV (ty := type) hu hrow hv hes hk.1 (c' := cy) (hsrc.world hv) hb
                      exact ⟨v', G, _, w', hrun0 _ _ hr, GLe.refl G, hview, hk.2 v' es' hown'⟩
                    | false =>
                      obtain ⟨v', es', G', w', hr, hg, hown', hview⟩ := app_own (ty := type) hu hrow hv hes hk.1 (c' := cy) (hsrc.world hv) hb
                      exact ⟨v', G', _, w', hrun0 _ _ hr, hg, hview, hk.2 v' es' G' hg hown'⟩
                  · exact hk.elim
              · exact hk.elim
            · cases hr
          · cases hr
        · cases hr
      · rename_i lab' e0 sz0 b0 z0 x0 y0 x y t t' hx ht
        have hx' : args = #[x, y] := by apply Array.ext'; simpa using hx
        have ht' : argTypes = #[t, t'] := by apply Array.ext'; simpa using ht
        subst hx' ht'
        split at hr
        · rename_i e kn hu hun
          split at hr
          · rename_i sz bytes zs hrow
            simp at hr; subst hr
            obtain ⟨vx, hvx, hk⟩ := with1_iff h
            obtain ⟨vy, hvy, hk⟩ := with1_iff hk
            split at hk
            · rename_i k n _
              obtain ⟨h0, hb, hm, hk⟩ := hk
              obtain ⟨m, rfl⟩ := Int.eq_ofNat_of_zero_le (Int.le_of_lt h0)
              obtain ⟨v', es', w', hr, hown, hview⟩ := app_zeros (ty := type) (k := k) hu hun hrow hv (n := m) (by omega) hm (Int.ofNat_le.1 (by rw [Int.natCast_mul]; exact hb)) lab'
              refine ⟨v', G, _, w', .inl ?_, GLe.refl G, hview, hk v' es' hown⟩
              simp [execOp, resolve, invoke, builtin, opd_eval hf x (hvx rfl), opd_eval hf y (hvy rfl), hr]
            · exact hk.elim
          · cases hr
        · cases hr
      · cases hr

/-- **An operation that makes or writes memory does what is said of it.** -/
theorem eff_run {o : Oper} {s r : ROp} (hr : rbEff P o.op s = some r) (hf : FrOk nt fr a) (hv : View w0 G M w) {K : Value → GH → Mem → Prop} (h : effP P fr G M K r) :
    ∃ v G' M' w', Done P o a w v w' ∧ GLe G G' ∧ View w0 G' M' w' ∧ K v G' M' := by
  obtain ⟨dst, op, type, pos, after, guard⟩ := o
  simp only at hr
  cases op
  case buildSlice => exact eff_bsl hr hf hv h
  case makeSlice => exact eff_mks hr hf hv h
  case makeMap => exact eff_mkm hr hf hv h
  case call => exact eff_call hr hf hv h
  all_goals simp only [rbEff] at hr
  all_goals try (cases hr; done)
  case load t x =>
    split at hr
    · rename_i n0 hint x0
      simp only [Option.map_eq_some_iff] at hr
      obtain ⟨n, hn, rfl⟩ := hr
      obtain ⟨v, hx, hk⟩ := with1_iff h
      obtain ⟨u, hk, hrun⟩ := ld_run hv hn hk
      exact ⟨u, G, M, w, .inl (by simp [execOp, opd_eval hf x (hx rfl), hrun]), GLe.refl G, hv, hk⟩
    · cases hr
  case alloc t =>
    split at hr
    · rename_i lab e0 z0
      simp only [Option.map_eq_some_iff] at hr
      obtain ⟨zs, hz, rfl⟩ := hr
      simp only [zeroOf, Option.map_eq_some_iff, Option.bind_eq_some_iff] at hz
      obtain ⟨z, ⟨i, hi, hz⟩, rfl⟩ := hz
      have := hv.alloc lab t z.cells.toList
      simp only [Array.toArray_toList] at this
      exact ⟨_, G, _, _, .inl (by simp [execOp, Instr.alloc, zeroValue, typeInfo, hi, hz, newVar, newRow]), GLe.refl G, this, h w.heap.size⟩
    · cases hr
  case box t x =>
    split at hr
    · rename_i lab e0 x0
      simp at hr; subst hr
      obtain ⟨v, hx, hk⟩ := with1_iff h
      have := hv.alloc lab t v.cells.toList
      simp only [Array.toArray_toList] at this
      exact ⟨_, G, _, _, .inl (by simp [execOp, Instr.box, newVar, newRow, opd_eval hf x (hx rfl)]), GLe.refl G, this, hk w.heap.size⟩
    · cases hr
  case store t x y =>
    split at hr
    · rename_i n0 lab i x0 y0
      simp only [Option.map_eq_some_iff] at hr
      obtain ⟨n, hn, rfl⟩ := hr
      obtain ⟨p, hx, hk⟩ := with1_iff h
      obtain ⟨u, hy, hk⟩ := with1_iff hk
      split at hk
      · rename_i b o _
        split at hk
        · rename_i b' e cs hent
          obtain ⟨rfl, hl, hu, h1, hk⟩ := hk
          obtain ⟨pp, ss, ha, hb⟩ := Mem.ent_all hent (.var b e (setL cs o u.cells.toList))
          obtain ⟨hbase, hrow, hfree⟩ := hv.ents (.var b e cs) (by rw [ha]; simp)
          have hlt := (Array.getElem?_eq_some_iff.1 hrow).1
          have hs := storeCells_run (P := P) (o := o) u.cells.toList cs 0 w hrow (by simp [hu]; omega) h1
          rw [Nat.add_zero] at hs
          refine ⟨undef, G, _, putRow w b e (setL cs o u.cells.toList), .inr ⟨?_, rfl⟩, GLe.refl G, ?_, hk⟩
          · simp only [execOp, Instr.storeAt, opd_eval hf x (hx rfl), opd_eval hf y (hy rfl), Instr.sureAddr, Sem.run_bind, Sem.run_pure, Result.andThen_ok, storeVar, szOf_run hn, hu, ne_eq, not_true_eq_false, if_false, hs]
          · refine hv.turn (x := .var b e cs) (y := .var b e (setL cs o u.cells.toList)) ha hb rfl
              (hv.below.trans ⟨rfl, rfl, rfl, by simp [putRow], fun k hk => putRow_other (by omega)⟩) (fun k hk => putRow_other hk) (fun _ _ _ => rfl) (fun o v hg => by rw [show (Ent.var b e cs).blk = b from rfl, hfree] at hg; cases hg) ?_
            exact ⟨hbase, putRow_heap hlt, hfree⟩
        · exact hk.elim
      · exact hk.elim
    · cases hr
end
end Go.Gv
