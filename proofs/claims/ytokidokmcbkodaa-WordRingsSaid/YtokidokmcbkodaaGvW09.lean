/-
  Boards: how they lie in memory, and their plain methods. No condition.
-/
import Derived.Test.YtokidokmcbkodaaGvW08
namespace Go.Gv.W
set_option linter.unusedSimpArgs false
set_option linter.unusedVariables false
set_option linter.unusedSectionVars false
open Go.RowKit Go.Proofs

structure Bd where
  p : Nat
  c : Circ
def Circ.none : Circ := ⟨[], [], []⟩
/-- Exits that this run alone may append to. -/
def OwnX (G : GH) (v : Value) (l : List Exit) (es : List Ent) : Prop := ∃ css : List (List Value), OwnS G 56 2 v css.flatten es ∧ ExitsV G css l
theorem ExitsV.mono {G G' : GH} {css : List (List Value)} {l : List Exit} (h : ExitsV G css l) (hg : GLe G G') : ExitsV G' css l := ⟨h.1, fun j h1 h2 => (h.2 j h1 h2).mono hg⟩
theorem OwnX.mono {G G' : GH} {v : Value} {l : List Exit} {es : List Ent} (h : OwnX G v l es) (hg : GLe G G') : OwnX G' v l es := by
  obtain ⟨css, h1, h2⟩ := h
  exact ⟨css, h1.mono hg, h2.mono hg⟩
theorem ExitsV.len {G : GH} {css : List (List Value)} {l : List Exit} (h : ExitsV G css l) : ∀ cs ∈ css, cs.length = 2 := by
  intro cs hcs
  obtain ⟨j, hj, rfl⟩ := List.mem_iff_getElem.1 hcs
  obtain ⟨v, u, h1, _⟩ := h.2 j (by rw [← h.1]; exact hj) hj
  rw [h1]; rfl
theorem ExitsV.one {G : GH} {css : List (List Value)} {l : List Exit} (h : ExitsV G css l) : ∀ u ∈ css.flatten, u.oneCell' = true := by
  intro u hu
  obtain ⟨cs, hcs, hu⟩ := List.mem_flatten.1 hu
  obtain ⟨j, hj, rfl⟩ := List.mem_iff_getElem.1 hcs
  obtain ⟨v, w, h1, ⟨a, c, rfl, _⟩, ⟨a', c', rfl, _⟩⟩ := h.2 j (by rw [← h.1]; exact hj) hj
  rw [h1] at hu
  simp only [List.mem_cons, List.not_mem_nil, or_false] at hu
  rcases hu with rfl | rfl <;> rfl
/-- A board that New made. -/
def BoardM (G : GH) (bb : Nat) (B : Bd) (Es : List (List Ent)) : Prop := ∃ v1 v2 v3 es1 es2 es3, Es = [[.var bb 61 [.int .u64 B.p, v1, v2, v3]], es1, es2, es3] ∧
  OwnS G 30 2 v1 (B.c.slots.map Slot.enc).flatten es1 ∧ OwnV 33 4 v2 (B.c.gates.map Gate.enc).flatten es2 ∧ OwnX G v3 B.c.exits es3 ∧
  B.p < 2 ^ 32 ∧ B.c.slots.length ≤ 256 ∧ B.c.gates.length ≤ 65536 ∧ B.c.exits.length ≤ 4096 ∧ ∀ x ∈ B.c.exits, x.to.length ≤ 13 ∧ x.gates.length ≤ 1024
/-- A board: none, a zero one, or one that New made. -/
def BoardV (G : GH) (v : Value) (B : Bd) (Es : List (List Ent)) : Prop :=
  (v = .pointer none ∧ B = ⟨0, .none⟩ ∧ Es = [[], [], [], []]) ∨ ∃ bb, v = .pointer (some ⟨bb, 0, none⟩) ∧ BoardM G bb B Es
theorem BoardM.mono {G G' : GH} {bb : Nat} {B : Bd} {Es : List (List Ent)} (h : BoardM G bb B Es) (hg : GLe G G') : BoardM G' bb B Es := by
  obtain ⟨v1, v2, v3, es1, es2, es3, h0, h1, h2, h3, h4⟩ := h
  exact ⟨v1, v2, v3, es1, es2, es3, h0, h1.mono hg, h2, h3.mono hg, h4⟩
theorem BoardV.mono {G G' : GH} {v : Value} {B : Bd} {Es : List (List Ent)} (h : BoardV G v B Es) (hg : GLe G G') : BoardV G' v B Es := by
  rcases h with h | ⟨bb, h1, h2⟩
  · exact .inl h
  · exact .inr ⟨bb, h1, h2.mono hg⟩
theorem OwnX.len {G : GH} {v : Value} {l : List Exit} {es : List Ent} (h : OwnX G v l es) : ∃ a c, v = .slice a l.length c := by
  obtain ⟨css, h1, h2⟩ := h
  obtain ⟨a, c, h3, _⟩ := h1.row h2.len (by omega)
  rw [h2.1] at h3
  exact ⟨a, c, h3⟩
theorem ownS_len {α : Type} {G : GH} {e : TypeId} {sz : Nat} {enc : α → List Value} {v : Value} {l : List α} {es : List Ent} (hl : ∀ x ∈ l, (enc x).length = sz) (hp : 0 < sz) (h : OwnS G e sz v (l.map enc).flatten es) : ∃ a c, v = .slice a l.length c := by
  obtain ⟨a, c, h1, _⟩ := ownS_slE hl hp h
  exact ⟨a, c, h1⟩
theorem gatesV_len {v : Value} {l : List Gate} {es : List Ent} (h : OwnV 33 4 v (l.map Gate.enc).flatten es) : ∃ a c, v = .slice a l.length c := by
  obtain ⟨a, c, h1, _⟩ := h.len (gates_len l) (by omega)
  rw [List.length_map] at h1
  exact ⟨a, c, h1⟩
theorem row_one {G : GH} {sz b : Nat} {cs : List Value} (h : CellsAt G b 0 cs) (hl : cs.length = sz) : Row G sz (some ⟨b, 0, none⟩) [cs] := ⟨by simpa using hl, by simpa using h⟩

/-- (*junto/word.Board).made -/
def r_word_Board_made : RFn := ⟨12,
  .seq (.reg [] [
    ⟨(some 2), none, .mv (.c (.bool false))⟩]) <|
  .keep [0] <|
  .seq (.reg [] [
    ⟨(some 3), none, .mv (.t 0)⟩,
    ⟨(some 4), none, .isnil 0 false (.t 3)⟩,
    ⟨(some 5), none, .mv (.t 4)⟩,
    ⟨(some 6), (some (5, true, false)), .mv (.t 0)⟩,
    ⟨(some 7), (some (5, true, false)), .nil (.t 6)⟩,
    ⟨(some 8), (some (5, true, false)), .fad 0 (.t 7)⟩,
    ⟨(some 9), (some (5, true, false)), .ld none (some (0, 0)) (.t 8)⟩,
    ⟨(some 10), (some (5, true, false)), .bin .neq (.t 9) (.c (.int .u64 0))⟩,
    ⟨(some 11), none, .pick (.t 5) (.t 10) (.c (.bool false))⟩,
    ⟨(some 2), none, .mv (.t 11)⟩]) <|
  .ret,
  [.tmp 2], [0], [0]⟩

theorem k_word_Board_made : rbFn Try.prog 24 r_word_Board_made = some r_word_Board_made := by kernel_rfl

/-- junto/word.New -/
def r_word_New : RFn := ⟨10,
  .ghost 0 <|
  .ghost 1 <|
  .ghost 2 <|
  .ghost 3 <|
  .seq (.reg [] [
    ⟨(some 2), none, .mv (.c (.pointer none))⟩,
    ⟨(some 3), none, .mv (.c (.int .i64 0))⟩]) <|
  .keep [0] <|
  .seq (.seq (.reg [] [
    ⟨(some 4), none, .mv (.t 0)⟩,
    ⟨(some 5), none, .call [] [] 23 [(.t 4)]⟩,
    ⟨(some 6), none, .un .not (.t 5)⟩]) <|
  .keep [0, 6] <|
  .cond (.t 6)
    (.seq (.reg [] [
      ⟨(some 2), none, .mv (.c (.pointer none))⟩,
      ⟨(some 3), none, .mv (.c (.int .i64 2))⟩]) <|
    .ret)
    (.skip)) <|
  .keep [0] <|
  .seq (.reg [] [
    ⟨(some 7), none, .mv (.t 0)⟩,
    ⟨(some 8), none, .bld [(.int .u64 0), (.slice none 0 0), (.slice none 0 0), (.slice none 0 0)] [(0, 1), (1, 3)] [(0, (.t 7))]⟩,
    ⟨(some 9), none, .box 0 61 (.t 8)⟩,
    ⟨(some 2), none, .mv (.t 9)⟩,
    ⟨(some 3), none, .mv (.c (.int .i64 0))⟩]) <|
  .ret,
  [.tmp 2, .tmp 3], [0, 1, 2, 3], []⟩

theorem k_word_New : rbFn Try.prog 6 r_word_New = some r_word_New := by kernel_rfl

/-- (*junto/word.Board).Put -/
def r_word_Board_Put : RFn := ⟨57,
  .seq (.reg [] [
    ⟨(some 3), none, .box 103 33 (.t 1)⟩,
    ⟨(some 4), none, .mv (.c (.int .i64 0))⟩,
    ⟨(some 5), none, .mv (.c (.int .i64 0))⟩]) <|
  .keep [0, 3] <|
  .seq (.seq (.reg [] [
    ⟨(some 7), none, .mv (.t 0)⟩,
    ⟨(some 8), none, .call [0] [0] 24 [(.t 7)]⟩,
    ⟨(some 9), none, .un .not (.t 8)⟩]) <|
  .keep [0, 3, 9] <|
  .cond (.t 9)
    (.seq (.reg [] [
      ⟨(some 4), none, .mv (.c (.int .i64 0))⟩,
      ⟨(some 5), none, .mv (.c (.int .i64 1))⟩]) <|
    .ret)
    (.skip)) <|
  .keep [0, 3] <|
  .seq (.seq (.dreg [] <|
    .take 0 ⟨(some 10), none, .mv (.t 0)⟩ <|
    .take 1 ⟨(some 11), none, .nil (.t 10)⟩ <|
    .take 2 ⟨(some 12), none, .fad 0 (.t 11)⟩ <|
    .take 4 ⟨(some 14), none, .mv (.t 0)⟩ <|
    .take 5 ⟨(some 15), none, .nil (.t 14)⟩ <|
    .take 6 ⟨(some 16), none, .fad 1 (.t 15)⟩ <|
    .take 7 ⟨(some 17), none, .fad 0 (.t 16)⟩ <|
    .take 10 ⟨(some 20), none, .mv (.t 0)⟩ <|
    .take 11 ⟨(some 21), none, .nil (.t 20)⟩ <|
    .take 12 ⟨(some 22), none, .fad 1 (.t 21)⟩ <|
    .take 13 ⟨(some 23), none, .fad 1 (.t 22)⟩ <|
    .held 3 ⟨(some 13), none, .ld none (some (0, 0)) (.t 12)⟩ <|
    .held 8 ⟨(some 18), none, .ld none (some (0, 0)) (.t 17)⟩ <|
    .take 9 ⟨(some 19), none, .len (.t 18)⟩ <|
    .held 14 ⟨(some 24), none, .ld none (some (0, 0)) (.t 23)⟩ <|
    .take 15 ⟨(some 25), none, .len (.t 24)⟩ <|
    .exec [] 16 ⟨(some 26), none, .ld (some 4) (some (103, 0)) (.t 3)⟩ <|
    .exec [] 17 ⟨(some 27), none, .call [] [] 25 [(.t 13), (.t 19), (.t 25), (.t 26)]⟩ <|
    .exec [] 18 ⟨(some 6), none, .mv (.t 27)⟩ <|
    .done) <|
  .keep [0, 3, 6] <|
  .seq (.reg [] [
    ⟨(some 28), none, .mv (.t 6)⟩,
    ⟨(some 29), none, .bin .neq (.t 28) (.c (.int .i64 0))⟩]) <|
  .keep [0, 3, 6, 29] <|
  .cond (.t 29)
    (.seq (.reg [] [
      ⟨(some 30), none, .mv (.t 6)⟩,
      ⟨(some 4), none, .mv (.c (.int .i64 0))⟩,
      ⟨(some 5), none, .mv (.t 30)⟩]) <|
    .ret)
    (.skip)) <|
  .keep [0, 3] <|
  .seq (.seq (.reg [] [
    ⟨(some 31), none, .mv (.t 0)⟩,
    ⟨(some 32), none, .nil (.t 31)⟩,
    ⟨(some 33), none, .fad 1 (.t 32)⟩,
    ⟨(some 34), none, .fad 1 (.t 33)⟩,
    ⟨(some 35), none, .ld none (some (0, 0)) (.t 34)⟩,
    ⟨(some 36), none, .len (.t 35)⟩,
    ⟨(some 37), none, .bin .geq (.t 36) (.c (.int .i64 65536))⟩]) <|
  .keep [0, 3, 37] <|
  .cond (.t 37)
    (.seq (.reg [] [
      ⟨(some 4), none, .mv (.c (.int .i64 0))⟩,
      ⟨(some 5), none, .mv (.c (.int .i64 3))⟩]) <|
    .ret)
    (.skip)) <|
  .keep [0, 3] <|
  .seq (.dreg [] <|
    .take 0 ⟨(some 38), none, .mv (.t 0)⟩ <|
    .take 1 ⟨(some 39), none, .mv (.t 0)⟩ <|
    .take 2 ⟨(some 40), none, .nil (.t 39)⟩ <|
    .take 3 ⟨(some 41), none, .fad 1 (.t 40)⟩ <|
    .take 4 ⟨(some 42), none, .fad 1 (.t 41)⟩ <|
    .held 5 ⟨(some 43), none, .ld none (some (0, 0)) (.t 42)⟩ <|
    .exec [] 6 ⟨(some 44), none, .ld (some 4) (some (103, 0)) (.t 3)⟩ <|
    .exec [] 7 ⟨(some 45), none, .bsl none 33 1 4 [(.int .i64 0), (.int .i64 0), (.int .i64 0), (.int .u64 0)] [(0, 4)] [(0, (.t 44))]⟩ <|
    .exec [5] 8 ⟨(some 46), none, .apx true none (some 2) 2 33 4 32 (.t 43) (.t 45)⟩ <|
    .exec [] 9 ⟨(some 47), none, .nil (.t 38)⟩ <|
    .exec [] 10 ⟨(some 48), none, .fad 1 (.t 47)⟩ <|
    .exec [] 11 ⟨(some 49), none, .fad 1 (.t 48)⟩ <|
    .exec [] 12 ⟨none, none, .st 1 0 0 (.t 49) (.t 46)⟩ <|
    .done) <|
  .keep [0] <|
  .seq (.reg [] [
    ⟨(some 50), none, .mv (.t 0)⟩,
    ⟨(some 51), none, .nil (.t 50)⟩,
    ⟨(some 52), none, .fad 1 (.t 51)⟩,
    ⟨(some 53), none, .fad 1 (.t 52)⟩,
    ⟨(some 54), none, .ld none (some (0, 0)) (.t 53)⟩,
    ⟨(some 55), none, .len (.t 54)⟩,
    ⟨(some 56), none, .bin .sub (.t 55) (.c (.int .i64 1))⟩,
    ⟨(some 4), none, .mv (.t 56)⟩,
    ⟨(some 5), none, .mv (.c (.int .i64 0))⟩]) <|
  .ret,
  [.tmp 4, .tmp 5], [0, 1, 2, 3], [0, 1, 2, 3]⟩

theorem k_word_Board_Put : rbFn Try.prog 8 r_word_Board_Put = some r_word_Board_Put := by kernel_rfl


theorem c_made {G : GH} {v : Value} {B : Bd} {es : List Ent} {Er : List (List Ent)} (h : BoardV G v B (es :: Er)) : ACalls Try.prog 24 [v] G [es] fun o G' Es => o = .ret (.bool (decide (B.p ≠ 0))) ∧ G' = G ∧ Es = [es] := by
  refine (ACalls.forget (R := fun o Es => o = .ret (.bool (decide (B.p ≠ 0))) ∧ Es = [es]) ?_).mono fun _ _ _ _ ⟨⟨h1, h2⟩, h3⟩ => ⟨h1, h3, h2⟩
  refine acalls mixed k_word_Board_made (by simp) fun F => ?_
  rcases h with ⟨rfl, rfl, h3⟩ | ⟨bb, rfl, v1, v2, v3, es1, es2, es3, h3, h4⟩
  · simp only [GV, frArgs, memArgs, resV, fillL, ← Bool.decide_or, ← Bool.decide_and, ← decide_not, ↓reduceIte, Nat.reduceEqDiff, Nat.reduceAdd, Nat.reduceMul, Nat.reduceLeDiff, Nat.reduceLT, Nat.reduceSub, Nat.succ_ne_zero, Nat.one_ne_zero, Nat.zero_ne_one, true_implies, false_implies, forall_const, implies_true, reduceCtorEq, eq_self, ite_true, ite_false, decide_true, decide_false, Nat.le_refl, Bool.false_eq_true, if_true, if_false]
    simp
  · simp only [List.cons.injEq] at h3
    obtain ⟨rfl, rfl⟩ := h3
    simp only [GV, frArgs, memArgs, resV, fillL, ← Bool.decide_or, ← Bool.decide_and, ← decide_not, ↓reduceIte, Nat.reduceEqDiff, Nat.reduceAdd, Nat.reduceMul, Nat.reduceLeDiff, Nat.reduceLT, Nat.reduceSub, Nat.succ_ne_zero, Nat.one_ne_zero, Nat.zero_ne_one, true_implies, false_implies, forall_const, implies_true, reduceCtorEq, eq_self, ite_true, ite_false, decide_true, decide_false, Nat.le_refl, Bool.false_eq_true, if_true, if_false]
    simp

theorem isP_lt {p : Nat} (h : isP p = true) : 3 ≤ p ∧ p ≤ 65537 := by
  simp only [isP, Bool.and_eq_true, decide_eq_true_eq] at h
  exact h.1
theorem c_New {p : Nat} {G : GH} : ACalls Try.prog 6 [.int .u64 p] G [] fun o G' Es => ∃ v, o = .ret (.tuple #[v, .int .i64 (if isP p then 0 else 2)]) ∧ BoardV G' v (if isP p then ⟨p, .none⟩ else ⟨0, .none⟩) Es := by
  refine acalls mixed k_word_New (by simp) fun F => ?_
  simp only [GV, frArgs, memArgs, resV, fillL, ← Bool.decide_or, ← Bool.decide_and, ← decide_not, ↓reduceIte, Nat.reduceEqDiff, Nat.reduceAdd, Nat.reduceMul, Nat.reduceLeDiff, Nat.reduceLT, Nat.reduceSub, Nat.succ_ne_zero, Nat.one_ne_zero, Nat.zero_ne_one, true_implies, false_implies, forall_const, implies_true, reduceCtorEq, eq_self, ite_true, ite_false, decide_true, decide_false, Nat.le_refl, Bool.false_eq_true, if_true, if_false]
  refine c_IsF.mono ?_
  rintro o G1 Es hg ⟨rfl, rfl, rfl⟩
  simp only [GV, frArgs, memArgs, resV, fillL, ← Bool.decide_or, ← Bool.decide_and, ← decide_not, ↓reduceIte, Nat.reduceEqDiff, Nat.reduceAdd, Nat.reduceMul, Nat.reduceLeDiff, Nat.reduceLT, Nat.reduceSub, Nat.succ_ne_zero, Nat.one_ne_zero, Nat.zero_ne_one, true_implies, false_implies, forall_const, implies_true, reduceCtorEq, eq_self, ite_true, ite_false, decide_true, decide_false, Nat.le_refl, Bool.false_eq_true, if_true, if_false]
  refine cond_intro (fun h => ?_) (fun h => ?_)
  · have hp : isP p = false := by simpa using h
    simp only [GV, frArgs, memArgs, resV, fillL, ← Bool.decide_or, ← Bool.decide_and, ← decide_not, ↓reduceIte, Nat.reduceEqDiff, Nat.reduceAdd, Nat.reduceMul, Nat.reduceLeDiff, Nat.reduceLT, Nat.reduceSub, Nat.succ_ne_zero, Nat.one_ne_zero, Nat.zero_ne_one, true_implies, false_implies, forall_const, implies_true, reduceCtorEq, eq_self, ite_true, ite_false, decide_true, decide_false, Nat.le_refl, Bool.false_eq_true, if_true, if_false, hp]
    exact ⟨_, rfl, .inl ⟨rfl, rfl, rfl⟩⟩
  · have hp : isP p = true := by simpa using h
    have := isP_lt hp
    simp only [GV, frArgs, memArgs, resV, fillL, ← Bool.decide_or, ← Bool.decide_and, ← decide_not, ↓reduceIte, Nat.reduceEqDiff, Nat.reduceAdd, Nat.reduceMul, Nat.reduceLeDiff, Nat.reduceLT, Nat.reduceSub, Nat.succ_ne_zero, Nat.one_ne_zero, Nat.zero_ne_one, true_implies, false_implies, forall_const, implies_true, reduceCtorEq, eq_self, ite_true, ite_false, decide_true, decide_false, Nat.le_refl, Bool.false_eq_true, if_true, if_false, hp]
    intro b
    refine ⟨_, rfl, .inr ⟨b, rfl, _, _, _, _, _, _, rfl, OwnS.nil _ _ _, OwnV.nil _ _, ⟨[], OwnS.nil _ _ _, rfl, fun j hj => by simp [Circ.none] at hj⟩, ?_, by simp [Circ.none], by simp [Circ.none], by simp [Circ.none], by simp [Circ.none]⟩⟩
    show p < 2 ^ 32
    omega

/-- A gate more, and what is wrong with it. -/
def Bd.put (B : Bd) (g : Gate) : Int × Int × Bd :=
  if B.p = 0 then (0, 1, B) else
    let e := gateErr B.p B.c.slots.length B.c.gates.length g
    if e ≠ 0 then (0, e, B) else if 65536 ≤ B.c.gates.length then (0, 3, B) else ((B.c.gates.length : Nat), 0, { B with c := { B.c with gates := B.c.gates ++ [g] } })

set_option maxHeartbeats 1000000 in
set_option maxRecDepth 20000 in
theorem c_Put {G : GH} {v : Value} {B : Bd} {Es : List (List Ent)} {g : Gate} (hb : BoardV G v B Es) :
    ACalls Try.prog 8 [v, .agg g.enc.toArray] G Es fun o G' Es' => o = .ret (.tuple #[.int .i64 (B.put g).1, .int .i64 (B.put g).2.1]) ∧ BoardV G' v (B.put g).2.2 Es' := by
  have hb0 := hb
  obtain ⟨k, x, y, z⟩ := g
  rcases hb with ⟨rfl, rfl, rfl⟩ | ⟨bb, rfl, v1, v2, v3, es1, es2, es3, rfl, h1, h2, h3, h4, h5, h6, h7⟩
  · refine acalls mixed k_word_Board_Put (by simp) fun F => ?_
    simp only [GV, frArgs, memArgs, resV, fillL, ← Bool.decide_or, ← Bool.decide_and, ← decide_not, ↓reduceIte, Nat.reduceEqDiff, Nat.reduceAdd, Nat.reduceMul, Nat.reduceLeDiff, Nat.reduceLT, Nat.reduceSub, Nat.succ_ne_zero, Nat.one_ne_zero, Nat.zero_ne_one, true_implies, false_implies, forall_const, implies_true, reduceCtorEq, eq_self, ite_true, ite_false, decide_true, decide_false, Nat.le_refl, Bool.false_eq_true, if_true, if_false]
    intro bg
    refine (c_made hb0).mono ?_
    rintro o G1 Es hg ⟨rfl, rfl, rfl⟩
    simp only [GV, frArgs, memArgs, resV, fillL, ← Bool.decide_or, ← Bool.decide_and, ← decide_not, ↓reduceIte, Nat.reduceEqDiff, Nat.reduceAdd, Nat.reduceMul, Nat.reduceLeDiff, Nat.reduceLT, Nat.reduceSub, Nat.succ_ne_zero, Nat.one_ne_zero, Nat.zero_ne_one, true_implies, false_implies, forall_const, implies_true, reduceCtorEq, eq_self, ite_true, ite_false, decide_true, decide_false, Nat.le_refl, Bool.false_eq_true, if_true, if_false, ne_eq, not_true_eq_false]
    exact ⟨rfl, hb0⟩
  · obtain ⟨p, ss, gs, xs⟩ := B
    simp only at *
    obtain ⟨a1, c1, rfl⟩ := ownS_len (slot_len ss) (by omega) h1
    obtain ⟨a2, c2, rfl⟩ := gatesV_len h2
    refine acalls mixed k_word_Board_Put (by simp) fun F => ?_
    simp only [GV, frArgs, memArgs, resV, fillL, ← Bool.decide_or, ← Bool.decide_and, ← decide_not, ↓reduceIte, Nat.reduceEqDiff, Nat.reduceAdd, Nat.reduceMul, Nat.reduceLeDiff, Nat.reduceLT, Nat.reduceSub, Nat.succ_ne_zero, Nat.one_ne_zero, Nat.zero_ne_one, true_implies, false_implies, forall_const, implies_true, reduceCtorEq, eq_self, ite_true, ite_false, decide_true, decide_false, Nat.le_refl, Bool.false_eq_true, if_true, if_false]
    intro bg
    refine (c_made hb0).mono ?_
    rintro o G1 Es hg ⟨rfl, rfl, rfl⟩
    simp only [GV, frArgs, memArgs, resV, fillL, ← Bool.decide_or, ← Bool.decide_and, ← decide_not, ↓reduceIte, Nat.reduceEqDiff, Nat.reduceAdd, Nat.reduceMul, Nat.reduceLeDiff, Nat.reduceLT, Nat.reduceSub, Nat.succ_ne_zero, Nat.one_ne_zero, Nat.zero_ne_one, true_implies, false_implies, forall_const, implies_true, reduceCtorEq, eq_self, ite_true, ite_false, decide_true, decide_false, Nat.le_refl, Bool.false_eq_true, if_true, if_false]
    refine cond_dec (fun hp => ?_) (fun hp => ?_)
    · have hp : p = 0 := by simpa using hp
      simp only [GV, frArgs, memArgs, resV, fillL, ← Bool.decide_or, ← Bool.decide_and, ← decide_not, ↓reduceIte, Nat.reduceEqDiff, Nat.reduceAdd, Nat.reduceMul, Nat.reduceLeDiff, Nat.reduceLT, Nat.reduceSub, Nat.succ_ne_zero, Nat.one_ne_zero, Nat.zero_ne_one, true_implies, false_implies, forall_const, implies_true, reduceCtorEq, eq_self, ite_true, ite_false, decide_true, decide_false, Nat.le_refl, Bool.false_eq_true, if_true, if_false, Bd.put, hp]
      simpa only [hp] using hb0
    · have hp : p ≠ 0 := by simpa using hp
      simp only [GV, frArgs, memArgs, resV, fillL, ← Bool.decide_or, ← Bool.decide_and, ← decide_not, ↓reduceIte, Nat.reduceEqDiff, Nat.reduceAdd, Nat.reduceMul, Nat.reduceLeDiff, Nat.reduceLT, Nat.reduceSub, Nat.succ_ne_zero, Nat.one_ne_zero, Nat.zero_ne_one, true_implies, false_implies, forall_const, implies_true, reduceCtorEq, eq_self, ite_true, ite_false, decide_true, decide_false, Nat.le_refl, Bool.false_eq_true, if_true, if_false, Gate.enc]
      refine (c_Gate (g := ⟨k, x, y, z⟩) (by omega)).mono ?_
      rintro o G2 Es hg2 ⟨rfl, rfl, rfl⟩
      simp only [GV, frArgs, memArgs, resV, fillL, ← Bool.decide_or, ← Bool.decide_and, ← decide_not, ↓reduceIte, Nat.reduceEqDiff, Nat.reduceAdd, Nat.reduceMul, Nat.reduceLeDiff, Nat.reduceLT, Nat.reduceSub, Nat.succ_ne_zero, Nat.one_ne_zero, Nat.zero_ne_one, true_implies, false_implies, forall_const, implies_true, reduceCtorEq, eq_self, ite_true, ite_false, decide_true, decide_false, Nat.le_refl, Bool.false_eq_true, if_true, if_false]
      refine cond_dec (fun he => ?_) (fun he => ?_)
      · simp only [GV, frArgs, memArgs, resV, fillL, ← Bool.decide_or, ← Bool.decide_and, ← decide_not, ↓reduceIte, Nat.reduceEqDiff, Nat.reduceAdd, Nat.reduceMul, Nat.reduceLeDiff, Nat.reduceLT, Nat.reduceSub, Nat.succ_ne_zero, Nat.one_ne_zero, Nat.zero_ne_one, true_implies, false_implies, forall_const, implies_true, reduceCtorEq, eq_self, ite_true, ite_false, decide_true, decide_false, Nat.le_refl, Bool.false_eq_true, if_true, if_false, Bd.put, if_neg hp, if_pos he]
        exact hb0
      simp only [GV, frArgs, memArgs, resV, fillL, ← Bool.decide_or, ← Bool.decide_and, ← decide_not, ↓reduceIte, Nat.reduceEqDiff, Nat.reduceAdd, Nat.reduceMul, Nat.reduceLeDiff, Nat.reduceLT, Nat.reduceSub, Nat.succ_ne_zero, Nat.one_ne_zero, Nat.zero_ne_one, true_implies, false_implies, forall_const, implies_true, reduceCtorEq, eq_self, ite_true, ite_false, decide_true, decide_false, Nat.le_refl, Bool.false_eq_true, if_true, if_false]
      refine cond_dec (fun h8 => ?_) (fun h8 => ?_)
      · simp only [GV, frArgs, memArgs, resV, fillL, ← Bool.decide_or, ← Bool.decide_and, ← decide_not, ↓reduceIte, Nat.reduceEqDiff, Nat.reduceAdd, Nat.reduceMul, Nat.reduceLeDiff, Nat.reduceLT, Nat.reduceSub, Nat.succ_ne_zero, Nat.one_ne_zero, Nat.zero_ne_one, true_implies, false_implies, forall_const, implies_true, reduceCtorEq, eq_self, ite_true, ite_false, decide_true, decide_false, Nat.le_refl, Bool.false_eq_true, if_true, if_false, Bd.put, if_neg hp, if_neg he, if_pos (show 65536 ≤ gs.length by omega)]
        exact hb0
      simp only [GV, frArgs, memArgs, resV, fillL, ← Bool.decide_or, ← Bool.decide_and, ← decide_not, ↓reduceIte, Nat.reduceEqDiff, Nat.reduceAdd, Nat.reduceMul, Nat.reduceLeDiff, Nat.reduceLT, Nat.reduceSub, Nat.succ_ne_zero, Nat.one_ne_zero, Nat.zero_ne_one, true_implies, false_implies, forall_const, implies_true, reduceCtorEq, eq_self, ite_true, ite_false, decide_true, decide_false, Nat.le_refl, Bool.false_eq_true, if_true, if_false]
      refine bsl_intro fun b G3 hg3 hc => ?_
      simp only [GV, frArgs, memArgs, resV, fillL, ← Bool.decide_or, ← Bool.decide_and, ← decide_not, ↓reduceIte, Nat.reduceEqDiff, Nat.reduceAdd, Nat.reduceMul, Nat.reduceLeDiff, Nat.reduceLT, Nat.reduceSub, Nat.succ_ne_zero, Nat.one_ne_zero, Nat.zero_ne_one, true_implies, false_implies, forall_const, implies_true, reduceCtorEq, eq_self, ite_true, ite_false, decide_true, decide_false, Nat.le_refl, Bool.false_eq_true, if_true, if_false]
      refine apx_moreVN rfl h2 (gates_len gs) (row_one hc rfl) rfl (gate_one [(⟨k, x, y, z⟩ : Gate)]) (by simp; omega) (fun v' es' ho => ?_)
      have ho' : OwnV 33 4 v' ((gs ++ [(⟨k, x, y, z⟩ : Gate)]).map Gate.enc).flatten es' := by rw [List.map_append]; exact ho
      obtain ⟨a3, c3, rfl⟩ := gatesV_len ho'
      have hw : IntKind.i64.wrap (((gs ++ [(⟨k, x, y, z⟩ : Gate)]).length : Nat) - 1) = ((gs.length : Nat) : Int) := by
        rw [List.length_append, wrap64] <;> simp <;> omega
      simp only [GV, frArgs, memArgs, resV, fillL, ← Bool.decide_or, ← Bool.decide_and, ← decide_not, ↓reduceIte, Nat.reduceEqDiff, Nat.reduceAdd, Nat.reduceMul, Nat.reduceLeDiff, Nat.reduceLT, Nat.reduceSub, Nat.succ_ne_zero, Nat.one_ne_zero, Nat.zero_ne_one, true_implies, false_implies, forall_const, implies_true, reduceCtorEq, eq_self, ite_true, ite_false, decide_true, decide_false, Nat.le_refl, Bool.false_eq_true, if_true, if_false, Bd.put, if_neg hp, if_neg he, if_neg (show ¬ 65536 ≤ gs.length by omega), hw]
      refine .inr ⟨bb, rfl, _, _, _, _, _, _, rfl, h1.mono hg3, ho', h3.mono hg3, h4, h5, ?_, h7⟩
      simp only [List.length_append, List.length_cons, List.length_nil]; omega
end Go.Gv.W
