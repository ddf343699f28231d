/-
  Copies of slices. No condition.
-/
import Derived.Test.YtokidokmcbkodaaGvW07
namespace Go.Gv.W
set_option linter.unusedSimpArgs false
set_option linter.unusedVariables false
set_option linter.unusedSectionVars false
open Go.RowKit Go.Proofs

/-- slices.Clone[[]junto/api.Slot,junto/api.Slot] -/
def r_slices_Clone_Sapi_Slot_api_Slot : RFn := ⟨8,
  .seq (.reg [] [
    ⟨(some 2), none, .mv (.c (.slice none 0 0))⟩]) <|
  .keep [0] <|
  .seq (.seq (.reg [] [
    ⟨(some 3), none, .mv (.t 0)⟩,
    ⟨(some 4), none, .isnil 1 true (.t 3)⟩]) <|
  .keep [0, 4] <|
  .cond (.t 4)
    (.seq (.reg [] [
      ⟨(some 2), none, .mv (.c (.slice none 0 0))⟩]) <|
    .ret)
    (.skip)) <|
  .keep [0] <|
  .seq (.reg [] [
    ⟨(some 5), none, .bsl none 30 0 2 [] [] []⟩,
    ⟨(some 6), none, .mv (.t 0)⟩,
    ⟨(some 7), none, .app none 110 30 2 16 (.t 5) (.t 6)⟩,
    ⟨(some 2), none, .mv (.t 7)⟩]) <|
  .ret,
  [.tmp 2], [], []⟩

theorem k_slices_Clone_Sapi_Slot_api_Slot : rbFn Try.prog 26 r_slices_Clone_Sapi_Slot_api_Slot = some r_slices_Clone_Sapi_Slot_api_Slot := by kernel_rfl

/-- slices.Clone[[]junto/api.Gate,junto/api.Gate] -/
def r_slices_Clone_Sapi_Gate_api_Gate : RFn := ⟨8,
  .seq (.reg [] [
    ⟨(some 2), none, .mv (.c (.slice none 0 0))⟩]) <|
  .keep [0] <|
  .seq (.seq (.reg [] [
    ⟨(some 3), none, .mv (.t 0)⟩,
    ⟨(some 4), none, .isnil 1 true (.t 3)⟩]) <|
  .keep [0, 4] <|
  .cond (.t 4)
    (.seq (.reg [] [
      ⟨(some 2), none, .mv (.c (.slice none 0 0))⟩]) <|
    .ret)
    (.skip)) <|
  .keep [0] <|
  .seq (.reg [] [
    ⟨(some 5), none, .bsl none 33 0 4 [] [] []⟩,
    ⟨(some 6), none, .mv (.t 0)⟩,
    ⟨(some 7), none, .apx false (some (0, 0)) none 110 33 4 32 (.t 5) (.t 6)⟩,
    ⟨(some 2), none, .mv (.t 7)⟩]) <|
  .ret,
  [.tmp 2], [0], [0]⟩

theorem k_slices_Clone_Sapi_Gate_api_Gate : rbFn Try.prog 27 r_slices_Clone_Sapi_Gate_api_Gate = some r_slices_Clone_Sapi_Gate_api_Gate := by kernel_rfl

/-- slices.Clone[[]int,int] -/
def r_slices_Clone_Sint_int : RFn := ⟨8,
  .seq (.reg [] [
    ⟨(some 2), none, .mv (.c (.slice none 0 0))⟩]) <|
  .keep [0] <|
  .seq (.seq (.reg [] [
    ⟨(some 3), none, .mv (.t 0)⟩,
    ⟨(some 4), none, .isnil 1 true (.t 3)⟩]) <|
  .keep [0, 4] <|
  .cond (.t 4)
    (.seq (.reg [] [
      ⟨(some 2), none, .mv (.c (.slice none 0 0))⟩]) <|
    .ret)
    (.skip)) <|
  .keep [0] <|
  .seq (.reg [] [
    ⟨(some 5), none, .bsl none 3 0 1 [] [] []⟩,
    ⟨(some 6), none, .mv (.t 0)⟩,
    ⟨(some 7), none, .app none 110 3 1 8 (.t 5) (.t 6)⟩,
    ⟨(some 2), none, .mv (.t 7)⟩]) <|
  .ret,
  [.tmp 2], [], []⟩

theorem k_slices_Clone_Sint_int : rbFn Try.prog 28 r_slices_Clone_Sint_int = some r_slices_Clone_Sint_int := by kernel_rfl


theorem ownS_slE {α : Type} {G : GH} {e : TypeId} {sz : Nat} {enc : α → List Value} {v : Value} {l : List α} {es : List Ent} (hl : ∀ x ∈ l, (enc x).length = sz) (hp : 0 < sz) (h : OwnS G e sz v (l.map enc).flatten es) : SlE G sz enc v l := by
  obtain ⟨a, c, h1, h2, h3, h4⟩ := h.row (css := l.map enc) (by intro cs hcs; obtain ⟨x, hx, rfl⟩ := List.mem_map.1 hcs; exact hl x hx) hp
  rw [List.length_map] at h1 h2
  exact ⟨a, c, h1, h2, h3, h4⟩
theorem ownS_slI {G : GH} {e : TypeId} {k : IntKind} {v : Value} {l : List Int} {es : List Ent} (h : OwnS G e 1 v (encI k l).flatten es) : SlI G k v l := by
  obtain ⟨a, c, h1, h2, h3, h4⟩ := h.row (css := encI k l) (encI_len k l) (by omega)
  rw [encI_length] at h1 h2
  exact ⟨a, c, h1, h2, h3, h4⟩
theorem slE_nil {α : Type} {G : GH} {sz : Nat} {enc : α → List Value} : SlE G sz enc (.slice none 0 0) ([] : List α) := ⟨none, 0, rfl, Nat.le_refl _, Nat.zero_le _, by simp, rfl⟩
theorem slI_nil {G : GH} {k : IntKind} : SlI G k (.slice none 0 0) [] := ⟨none, 0, rfl, Nat.le_refl _, Nat.zero_le _, by simp [encI], rfl⟩
theorem slE_zero {α : Type} {G : GH} {sz b : Nat} {enc : α → List Value} : SlE G sz enc (.slice (some ⟨b, 0, none⟩) 0 0) ([] : List α) :=
  ⟨_, 0, rfl, Nat.le_refl _, Nat.zero_le _, by simp, fun j v h => by simp at h⟩
theorem slI_zero {G : GH} {k : IntKind} {b : Nat} : SlI G k (.slice (some ⟨b, 0, none⟩) 0 0) [] :=
  ⟨_, 0, rfl, Nat.le_refl _, Nat.zero_le _, by simp [encI], fun j v h => by simp [encI] at h⟩
theorem slot_one (l : List Slot) : ∀ u ∈ (l.map Slot.enc).flatten, u.oneCell' = true := by
  intro u h
  simp only [List.mem_flatten, List.mem_map] at h
  obtain ⟨_, ⟨x, _, rfl⟩, h⟩ := h
  simp only [Slot.enc, List.mem_cons, List.not_mem_nil, or_false] at h
  rcases h with rfl | rfl <;> rfl
theorem gate_one (l : List Gate) : ∀ u ∈ (l.map Gate.enc).flatten, u.oneCell' = true := by
  intro u h
  simp only [List.mem_flatten, List.mem_map] at h
  obtain ⟨_, ⟨x, _, rfl⟩, h⟩ := h
  simp only [Gate.enc, List.mem_cons, List.not_mem_nil, or_false] at h
  rcases h with rfl | rfl | rfl | rfl <;> rfl
theorem slot_len (l : List Slot) : ∀ x ∈ l, (Slot.enc x).length = 2 := fun _ _ => rfl
theorem gate_len (l : List Gate) : ∀ x ∈ l, (Gate.enc x).length = 4 := fun _ _ => rfl
theorem gates_len (l : List Gate) : ∀ cs ∈ l.map Gate.enc, cs.length = 4 := by intro cs h; obtain ⟨x, _, rfl⟩ := List.mem_map.1 h; rfl
theorem slots_len (l : List Slot) : ∀ cs ∈ l.map Slot.enc, cs.length = 2 := by intro cs h; obtain ⟨x, _, rfl⟩ := List.mem_map.1 h; rfl

theorem c_CloneS {v : Value} {l : List Slot} {G : GH} (hv : SlE G 2 Slot.enc v l) (hm : l.length ≤ 65536) : ACalls Try.prog 26 [v] G [] fun o G' Es => ∃ v', o = .ret v' ∧ SlE G' 2 Slot.enc v' l ∧ Es = [] := by
  obtain ⟨a, c, rfl, h1, h2, hrow⟩ := hv
  refine acalls mixed k_slices_Clone_Sapi_Slot_api_Slot (by simp) fun F => ?_
  simp only [GV, frArgs, memArgs, resV, fillL, ← Bool.decide_or, ← Bool.decide_and, ← decide_not, ↓reduceIte, Nat.reduceEqDiff, Nat.reduceAdd, Nat.reduceMul, Nat.reduceLeDiff, Nat.reduceLT, Nat.reduceSub, Nat.succ_ne_zero, Nat.one_ne_zero, Nat.zero_ne_one, true_implies, false_implies, forall_const, implies_true, reduceCtorEq, eq_self, ite_true, ite_false, decide_true, decide_false, Nat.le_refl, Bool.false_eq_true, if_true, if_false]
  cases a with
  | none =>
    have hl : l = [] := by simpa using hrow.2
    subst hl
    simp only [GV, frArgs, memArgs, resV, fillL, ← Bool.decide_or, ← Bool.decide_and, ← decide_not, ↓reduceIte, Nat.reduceEqDiff, Nat.reduceAdd, Nat.reduceMul, Nat.reduceLeDiff, Nat.reduceLT, Nat.reduceSub, Nat.succ_ne_zero, Nat.one_ne_zero, Nat.zero_ne_one, true_implies, false_implies, forall_const, implies_true, reduceCtorEq, eq_self, ite_true, ite_false, decide_true, decide_false, Nat.le_refl, Bool.false_eq_true, if_true, if_false]
    exact ⟨_, rfl, slE_nil⟩
  | some ad =>
    simp only [GV, frArgs, memArgs, resV, fillL, ← Bool.decide_or, ← Bool.decide_and, ← decide_not, ↓reduceIte, Nat.reduceEqDiff, Nat.reduceAdd, Nat.reduceMul, Nat.reduceLeDiff, Nat.reduceLT, Nat.reduceSub, Nat.succ_ne_zero, Nat.one_ne_zero, Nat.zero_ne_one, true_implies, false_implies, forall_const, implies_true, reduceCtorEq, eq_self, ite_true, ite_false, decide_true, decide_false, Nat.le_refl, Bool.false_eq_true, if_true, if_false]
    refine bsl_intro fun b G1 hg hc => ?_
    simp only [GV, frArgs, memArgs, resV, fillL, ← Bool.decide_or, ← Bool.decide_and, ← decide_not, ↓reduceIte, Nat.reduceEqDiff, Nat.reduceAdd, Nat.reduceMul, Nat.reduceLeDiff, Nat.reduceLT, Nat.reduceSub, Nat.succ_ne_zero, Nat.one_ne_zero, Nat.zero_ne_one, true_implies, false_implies, forall_const, implies_true, reduceCtorEq, eq_self, ite_true, ite_false, decide_true, decide_false, Nat.le_refl, Bool.false_eq_true, if_true, if_false]
    have hrow' := hrow.mono hg
    refine app_copyN hrow' (by simp) (slot_one l) (by omega) (by simp [maxLen]; omega) (fun h0 => ?_) (fun h0 v' es' G2 hg2 ho => ?_)
    · have hl : l = [] := by simpa using h0
      subst hl
      simp only [GV, frArgs, memArgs, resV, fillL, ← Bool.decide_or, ← Bool.decide_and, ← decide_not, ↓reduceIte, Nat.reduceEqDiff, Nat.reduceAdd, Nat.reduceMul, Nat.reduceLeDiff, Nat.reduceLT, Nat.reduceSub, Nat.succ_ne_zero, Nat.one_ne_zero, Nat.zero_ne_one, true_implies, false_implies, forall_const, implies_true, reduceCtorEq, eq_self, ite_true, ite_false, decide_true, decide_false, Nat.le_refl, Bool.false_eq_true, if_true, if_false]
      exact ⟨_, rfl, slE_zero⟩
    · simp only [GV, frArgs, memArgs, resV, fillL, ← Bool.decide_or, ← Bool.decide_and, ← decide_not, ↓reduceIte, Nat.reduceEqDiff, Nat.reduceAdd, Nat.reduceMul, Nat.reduceLeDiff, Nat.reduceLT, Nat.reduceSub, Nat.succ_ne_zero, Nat.one_ne_zero, Nat.zero_ne_one, true_implies, false_implies, forall_const, implies_true, reduceCtorEq, eq_self, ite_true, ite_false, decide_true, decide_false, Nat.le_refl, Bool.false_eq_true, if_true, if_false]
      exact ⟨_, rfl, ownS_slE (slot_len l) (by omega) ho⟩
theorem c_CloneI {v : Value} {l : List Int} {G : GH} (hv : SlI G .i64 v l) (hm : l.length ≤ 65536) : ACalls Try.prog 28 [v] G [] fun o G' Es => ∃ v', o = .ret v' ∧ SlI G' .i64 v' l ∧ Es = [] := by
  obtain ⟨a, c, rfl, h1, h2, hrow⟩ := hv
  refine acalls mixed k_slices_Clone_Sint_int (by simp) fun F => ?_
  simp only [GV, frArgs, memArgs, resV, fillL, ← Bool.decide_or, ← Bool.decide_and, ← decide_not, ↓reduceIte, Nat.reduceEqDiff, Nat.reduceAdd, Nat.reduceMul, Nat.reduceLeDiff, Nat.reduceLT, Nat.reduceSub, Nat.succ_ne_zero, Nat.one_ne_zero, Nat.zero_ne_one, true_implies, false_implies, forall_const, implies_true, reduceCtorEq, eq_self, ite_true, ite_false, decide_true, decide_false, Nat.le_refl, Bool.false_eq_true, if_true, if_false]
  cases a with
  | none =>
    have hl : l = [] := by simpa [encI] using hrow.2
    subst hl
    simp only [GV, frArgs, memArgs, resV, fillL, ← Bool.decide_or, ← Bool.decide_and, ← decide_not, ↓reduceIte, Nat.reduceEqDiff, Nat.reduceAdd, Nat.reduceMul, Nat.reduceLeDiff, Nat.reduceLT, Nat.reduceSub, Nat.succ_ne_zero, Nat.one_ne_zero, Nat.zero_ne_one, true_implies, false_implies, forall_const, implies_true, reduceCtorEq, eq_self, ite_true, ite_false, decide_true, decide_false, Nat.le_refl, Bool.false_eq_true, if_true, if_false]
    exact ⟨_, rfl, slI_nil⟩
  | some ad =>
    simp only [GV, frArgs, memArgs, resV, fillL, ← Bool.decide_or, ← Bool.decide_and, ← decide_not, ↓reduceIte, Nat.reduceEqDiff, Nat.reduceAdd, Nat.reduceMul, Nat.reduceLeDiff, Nat.reduceLT, Nat.reduceSub, Nat.succ_ne_zero, Nat.one_ne_zero, Nat.zero_ne_one, true_implies, false_implies, forall_const, implies_true, reduceCtorEq, eq_self, ite_true, ite_false, decide_true, decide_false, Nat.le_refl, Bool.false_eq_true, if_true, if_false]
    refine bsl_intro fun b G1 hg hc => ?_
    simp only [GV, frArgs, memArgs, resV, fillL, ← Bool.decide_or, ← Bool.decide_and, ← decide_not, ↓reduceIte, Nat.reduceEqDiff, Nat.reduceAdd, Nat.reduceMul, Nat.reduceLeDiff, Nat.reduceLT, Nat.reduceSub, Nat.succ_ne_zero, Nat.one_ne_zero, Nat.zero_ne_one, true_implies, false_implies, forall_const, implies_true, reduceCtorEq, eq_self, ite_true, ite_false, decide_true, decide_false, Nat.le_refl, Bool.false_eq_true, if_true, if_false]
    have hrow' := hrow.mono hg
    refine app_copyN hrow' (encI_length _ _) (encI_one .i64 l) (by omega) (by simp [maxLen]; omega) (fun h0 => ?_) (fun h0 v' es' G2 hg2 ho => ?_)
    · have hl : l = [] := by simpa [encI] using h0
      subst hl
      simp only [GV, frArgs, memArgs, resV, fillL, ← Bool.decide_or, ← Bool.decide_and, ← decide_not, ↓reduceIte, Nat.reduceEqDiff, Nat.reduceAdd, Nat.reduceMul, Nat.reduceLeDiff, Nat.reduceLT, Nat.reduceSub, Nat.succ_ne_zero, Nat.one_ne_zero, Nat.zero_ne_one, true_implies, false_implies, forall_const, implies_true, reduceCtorEq, eq_self, ite_true, ite_false, decide_true, decide_false, Nat.le_refl, Bool.false_eq_true, if_true, if_false]
      exact ⟨_, rfl, slI_zero⟩
    · simp only [GV, frArgs, memArgs, resV, fillL, ← Bool.decide_or, ← Bool.decide_and, ← decide_not, ↓reduceIte, Nat.reduceEqDiff, Nat.reduceAdd, Nat.reduceMul, Nat.reduceLeDiff, Nat.reduceLT, Nat.reduceSub, Nat.succ_ne_zero, Nat.one_ne_zero, Nat.zero_ne_one, true_implies, false_implies, forall_const, implies_true, reduceCtorEq, eq_self, ite_true, ite_false, decide_true, decide_false, Nat.le_refl, Bool.false_eq_true, if_true, if_false]
      exact ⟨_, rfl, ownS_slI ho⟩
theorem c_CloneG {v : Value} {l : List Gate} {G : GH} {es : List Ent} (hv : OwnV 33 4 v (l.map Gate.enc).flatten es) (hm : l.length ≤ 65536) :
    ACalls Try.prog 27 [v] G [es] fun o G' Es => ∃ v', o = .ret v' ∧ SlE G' 4 Gate.enc v' l ∧ Es = [es] := by
  obtain ⟨a, c, rfl, h1, h2⟩ := hv.len (gates_len l) (by omega)
  rw [List.length_map] at *
  refine acalls mixed k_slices_Clone_Sapi_Gate_api_Gate (by simp) fun F => ?_
  simp only [GV, frArgs, memArgs, resV, fillL, ← Bool.decide_or, ← Bool.decide_and, ← decide_not, ↓reduceIte, Nat.reduceEqDiff, Nat.reduceAdd, Nat.reduceMul, Nat.reduceLeDiff, Nat.reduceLT, Nat.reduceSub, Nat.succ_ne_zero, Nat.one_ne_zero, Nat.zero_ne_one, true_implies, false_implies, forall_const, implies_true, reduceCtorEq, eq_self, ite_true, ite_false, decide_true, decide_false, Nat.le_refl, Bool.false_eq_true, if_true, if_false]
  cases a with
  | none =>
    have hl : l = [] := by
      obtain ⟨n, c', _, _, h5, h⟩ := hv
      rcases h with ⟨a0, ha0, h6, h7, _⟩ | ⟨b, pad, h6, _⟩
      · exact List.eq_nil_of_length_eq_zero (Value.slice.inj h6).2.1
      · cases h6
    subst hl
    simp only [GV, frArgs, memArgs, resV, fillL, ← Bool.decide_or, ← Bool.decide_and, ← decide_not, ↓reduceIte, Nat.reduceEqDiff, Nat.reduceAdd, Nat.reduceMul, Nat.reduceLeDiff, Nat.reduceLT, Nat.reduceSub, Nat.succ_ne_zero, Nat.one_ne_zero, Nat.zero_ne_one, true_implies, false_implies, forall_const, implies_true, reduceCtorEq, eq_self, ite_true, ite_false, decide_true, decide_false, Nat.le_refl, Bool.false_eq_true, if_true, if_false]
    exact ⟨_, rfl, slE_nil⟩
  | some ad =>
    simp only [GV, frArgs, memArgs, resV, fillL, ← Bool.decide_or, ← Bool.decide_and, ← decide_not, ↓reduceIte, Nat.reduceEqDiff, Nat.reduceAdd, Nat.reduceMul, Nat.reduceLeDiff, Nat.reduceLT, Nat.reduceSub, Nat.succ_ne_zero, Nat.one_ne_zero, Nat.zero_ne_one, true_implies, false_implies, forall_const, implies_true, reduceCtorEq, eq_self, ite_true, ite_false, decide_true, decide_false, Nat.le_refl, Bool.false_eq_true, if_true, if_false]
    refine bsl_intro fun b G1 hg hc => ?_
    simp only [GV, frArgs, memArgs, resV, fillL, ← Bool.decide_or, ← Bool.decide_and, ← decide_not, ↓reduceIte, Nat.reduceEqDiff, Nat.reduceAdd, Nat.reduceMul, Nat.reduceLeDiff, Nat.reduceLT, Nat.reduceSub, Nat.succ_ne_zero, Nat.one_ne_zero, Nat.zero_ne_one, true_implies, false_implies, forall_const, implies_true, reduceCtorEq, eq_self, ite_true, ite_false, decide_true, decide_false, Nat.le_refl, Bool.false_eq_true, if_true, if_false]
    refine apx_copyV (lab' := 110) (e := 33) (sz := 4) (bytes := 32) (ax := some ⟨b, 0, none⟩) (es := es) rfl rfl hv (gate_one l) (by omega) (by simp [maxLen]; omega) (fun h0 => ?_) (fun h0 v' es' G2 hg2 ho => ?_)
    · have hl : l = [] := List.eq_nil_of_length_eq_zero h0
      subst hl
      simp only [GV, frArgs, memArgs, resV, fillL, ← Bool.decide_or, ← Bool.decide_and, ← decide_not, ↓reduceIte, Nat.reduceEqDiff, Nat.reduceAdd, Nat.reduceMul, Nat.reduceLeDiff, Nat.reduceLT, Nat.reduceSub, Nat.succ_ne_zero, Nat.one_ne_zero, Nat.zero_ne_one, true_implies, false_implies, forall_const, implies_true, reduceCtorEq, eq_self, ite_true, ite_false, decide_true, decide_false, Nat.le_refl, Bool.false_eq_true, if_true, if_false]
      exact ⟨_, rfl, slE_zero⟩
    · simp only [GV, frArgs, memArgs, resV, fillL, ← Bool.decide_or, ← Bool.decide_and, ← decide_not, ↓reduceIte, Nat.reduceEqDiff, Nat.reduceAdd, Nat.reduceMul, Nat.reduceLeDiff, Nat.reduceLT, Nat.reduceSub, Nat.succ_ne_zero, Nat.one_ne_zero, Nat.zero_ne_one, true_implies, false_implies, forall_const, implies_true, reduceCtorEq, eq_self, ite_true, ite_false, decide_true, decide_false, Nat.le_refl, Bool.false_eq_true, if_true, if_false]
      exact ⟨_, rfl, ownS_slE (gate_len l) (by omega) ho⟩
end Go.Gv.W
