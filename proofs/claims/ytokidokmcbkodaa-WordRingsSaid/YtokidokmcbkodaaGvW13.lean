/-
  Boards as rings: what is added, and where there is no room. No condition.
-/
import Derived.Test.YtokidokmcbkodaaGvW12
namespace Go.Gv.W
set_option linter.unusedSimpArgs false
set_option linter.unusedVariables false
set_option linter.unusedSectionVars false
open Go.RowKit Go.Proofs

/-- What a row of additions gives: a value, or an error. -/
inductive Res (α : Type) where
  | ok (x : α) (B : Bd)
  | bad (e : Int) (B : Bd)
abbrev Rm (α : Type) := Bd → Res α
def Rm.pure {α : Type} (x : α) : Rm α := fun B => .ok x B
def Rm.bind {α β : Type} (m : Rm α) (f : α → Rm β) : Rm β := fun B => match m B with
  | .ok x B' => f x B'
  | .bad e B' => .bad e B'
def rPut (g : Gate) : Rm Int := fun B => if (B.put g).2.1 = 0 then .ok (B.put g).1 (B.put g).2.2 else .bad (B.put g).2.1 (B.put g).2.2
def rFixed (k : Nat) : Rm Int := fun B => rPut ⟨2, 0, 0, k % B.p⟩ B
def rSum (x y : Int) : Rm Int := rPut ⟨3, x, y, 0⟩
def rLess (x y : Int) : Rm Int := rPut ⟨4, x, y, 0⟩
def rProd (x y : Int) : Rm Int := rPut ⟨5, x, y, 0⟩
def Res.bd {α : Type} : Res α → Bd
  | .ok _ B => B
  | .bad _ B => B

/-- How a call ends that adds to a board. -/
def WR {α : Type} (bb : Nat) (enc : α → GH → Value → Prop) (r : Res α) (o : Out) (G' : GH) (Es' : List (List Ent)) : Prop := match r with
  | .ok x B' => (∃ v, o = .ret v ∧ enc x G' v) ∧ BoardM G' bb B' Es' ∧ B'.p ≠ 0
  | .bad e B' => o = .pan (.iface 23 (.int .i64 e)) ∧ BoardM G' bb B' Es' ∧ B'.p ≠ 0
def encZ (x : Int) (_ : GH) (v : Value) : Prop := v = .int .i64 x
def encW (x : List Int) (G : GH) (v : Value) : Prop := SlI G .i64 v x
theorem BoardM.es {G : GH} {bb : Nat} {B : Bd} {Es : List (List Ent)} (h : BoardM G bb B Es) : ∃ a b c d, Es = [a, b, c, d] := by
  obtain ⟨v1, v2, v3, es1, es2, es3, h0, _⟩ := h
  exact ⟨_, _, _, _, h0⟩
/-- A board as a ring, as a value. -/
def wv (bb : Nat) : Value := .agg #[.pointer (some ⟨bb, 0, none⟩)]

/-- (junto/word.wires).put -/
def r_word_wires_put : RFn := ⟨19,
  .seq (.reg [] [
    ⟨(some 2), none, .box 102 115 (.t 0)⟩,
    ⟨(some 3), none, .box 103 33 (.t 1)⟩,
    ⟨(some 4), none, .mv (.c (.int .i64 0))⟩]) <|
  .keep [2, 3] <|
  .seq (.reg [] [
    ⟨(some 8), none, .fad 0 (.t 2)⟩,
    ⟨(some 9), none, .ld none (some (102, 0)) (.t 8)⟩,
    ⟨(some 10), none, .ld (some 4) (some (103, 0)) (.t 3)⟩,
    ⟨(some 11), none, .call [0, 1, 2, 3] [0, 1, 2, 3] 8 [(.t 9), (.t 10)]⟩,
    ⟨(some 7), none, .mv (.t 11)⟩,
    ⟨(some 12), none, .ext 0 (.t 7)⟩,
    ⟨(some 13), none, .ext 1 (.t 7)⟩,
    ⟨(some 5), none, .mv (.t 12)⟩,
    ⟨(some 6), none, .mv (.t 13)⟩]) <|
  .keep [5, 6] <|
  .seq (.seq (.reg [] [
    ⟨(some 14), none, .mv (.t 6)⟩,
    ⟨(some 15), none, .bin .neq (.t 14) (.c (.int .i64 0))⟩]) <|
  .keep [5, 6, 15] <|
  .cond (.t 15)
    (.reg [] [
      ⟨(some 16), none, .mv (.t 6)⟩,
      ⟨(some 17), none, .mki 23 (.t 16)⟩,
      ⟨none, none, .pan (.t 17)⟩])
    (.skip)) <|
  .keep [5] <|
  .seq (.reg [] [
    ⟨(some 18), none, .mv (.t 5)⟩,
    ⟨(some 4), none, .mv (.t 18)⟩]) <|
  .ret,
  [.tmp 4], [0, 1, 2, 3], [0, 1, 2, 3]⟩

theorem k_word_wires_put : rbFn Try.prog 111 r_word_wires_put = some r_word_wires_put := by kernel_rfl

/-- (junto/word.wires).Fixed -/
def r_word_wires_Fixed : RFn := ⟨15,
  .seq (.reg [] [
    ⟨(some 2), none, .box 102 115 (.t 0)⟩,
    ⟨(some 4), none, .mv (.c (.int .i64 0))⟩]) <|
  .keep [1, 2] <|
  .seq (.dreg [] <|
    .take 1 ⟨(some 6), none, .mv (.t 1)⟩ <|
    .take 2 ⟨(some 7), none, .fad 0 (.t 2)⟩ <|
    .held 0 ⟨(some 5), none, .ld (some 1) (some (102, 0)) (.t 2)⟩ <|
    .exec [] 3 ⟨(some 8), none, .ld none (some (102, 0)) (.t 7)⟩ <|
    .exec [] 4 ⟨(some 9), none, .nil (.t 8)⟩ <|
    .exec [] 5 ⟨(some 10), none, .fad 0 (.t 9)⟩ <|
    .exec [] 6 ⟨(some 11), none, .ld none (some (0, 0)) (.t 10)⟩ <|
    .exec [] 7 ⟨(some 12), none, .bin .rem (.t 6) (.t 11)⟩ <|
    .exec [] 8 ⟨(some 13), none, .bld [(.int .i64 0), (.int .i64 0), (.int .i64 0), (.int .u64 0)] [(0, 1), (1, 1), (2, 1), (3, 1)] [(0, (.c (.int .i64 2))), (3, (.t 12))]⟩ <|
    .exec [] 9 ⟨(some 14), none, .call [0, 1, 2, 3] [0, 1, 2, 3] 111 [(.t 5), (.t 13)]⟩ <|
    .exec [] 10 ⟨(some 4), none, .mv (.t 14)⟩ <|
    .done) <|
  .ret,
  [.tmp 4], [0, 1, 2, 3], [0, 1, 2, 3]⟩

theorem k_word_wires_Fixed : rbFn Try.prog 107 r_word_wires_Fixed = some r_word_wires_Fixed := by kernel_rfl

/-- (junto/word.wires).Sum -/
def r_word_wires_Sum : RFn := ⟨12,
  .seq (.reg [] [
    ⟨(some 3), none, .box 103 115 (.t 0)⟩,
    ⟨(some 6), none, .mv (.c (.int .i64 0))⟩]) <|
  .keep [1, 2, 3] <|
  .seq (.reg [] [
    ⟨(some 7), none, .ld (some 1) (some (103, 0)) (.t 3)⟩,
    ⟨(some 8), none, .mv (.t 1)⟩,
    ⟨(some 9), none, .mv (.t 2)⟩,
    ⟨(some 10), none, .bld [(.int .i64 0), (.int .i64 0), (.int .i64 0), (.int .u64 0)] [(0, 1), (1, 1), (2, 1), (3, 1)] [(0, (.c (.int .i64 3))), (1, (.t 8)), (2, (.t 9))]⟩,
    ⟨(some 11), none, .call [0, 1, 2, 3] [0, 1, 2, 3] 111 [(.t 7), (.t 10)]⟩,
    ⟨(some 6), none, .mv (.t 11)⟩]) <|
  .ret,
  [.tmp 6], [0, 1, 2, 3], [0, 1, 2, 3]⟩

theorem k_word_wires_Sum : rbFn Try.prog 110 r_word_wires_Sum = some r_word_wires_Sum := by kernel_rfl

/-- (junto/word.wires).Less -/
def r_word_wires_Less : RFn := ⟨12,
  .seq (.reg [] [
    ⟨(some 3), none, .box 103 115 (.t 0)⟩,
    ⟨(some 6), none, .mv (.c (.int .i64 0))⟩]) <|
  .keep [1, 2, 3] <|
  .seq (.reg [] [
    ⟨(some 7), none, .ld (some 1) (some (103, 0)) (.t 3)⟩,
    ⟨(some 8), none, .mv (.t 1)⟩,
    ⟨(some 9), none, .mv (.t 2)⟩,
    ⟨(some 10), none, .bld [(.int .i64 0), (.int .i64 0), (.int .i64 0), (.int .u64 0)] [(0, 1), (1, 1), (2, 1), (3, 1)] [(0, (.c (.int .i64 4))), (1, (.t 8)), (2, (.t 9))]⟩,
    ⟨(some 11), none, .call [0, 1, 2, 3] [0, 1, 2, 3] 111 [(.t 7), (.t 10)]⟩,
    ⟨(some 6), none, .mv (.t 11)⟩]) <|
  .ret,
  [.tmp 6], [0, 1, 2, 3], [0, 1, 2, 3]⟩

theorem k_word_wires_Less : rbFn Try.prog 108 r_word_wires_Less = some r_word_wires_Less := by kernel_rfl

/-- (junto/word.wires).Product -/
def r_word_wires_Product : RFn := ⟨12,
  .seq (.reg [] [
    ⟨(some 3), none, .box 103 115 (.t 0)⟩,
    ⟨(some 6), none, .mv (.c (.int .i64 0))⟩]) <|
  .keep [1, 2, 3] <|
  .seq (.reg [] [
    ⟨(some 7), none, .ld (some 1) (some (103, 0)) (.t 3)⟩,
    ⟨(some 8), none, .mv (.t 1)⟩,
    ⟨(some 9), none, .mv (.t 2)⟩,
    ⟨(some 10), none, .bld [(.int .i64 0), (.int .i64 0), (.int .i64 0), (.int .u64 0)] [(0, 1), (1, 1), (2, 1), (3, 1)] [(0, (.c (.int .i64 5))), (1, (.t 8)), (2, (.t 9))]⟩,
    ⟨(some 11), none, .call [0, 1, 2, 3] [0, 1, 2, 3] 111 [(.t 7), (.t 10)]⟩,
    ⟨(some 6), none, .mv (.t 11)⟩]) <|
  .ret,
  [.tmp 6], [0, 1, 2, 3], [0, 1, 2, 3]⟩

theorem k_word_wires_Product : rbFn Try.prog 109 r_word_wires_Product = some r_word_wires_Product := by kernel_rfl


theorem put_p (B : Bd) (g : Gate) : (B.put g).2.2.p = B.p := by
  unfold Bd.put
  split
  · rfl
  · simp only []; split
    · rfl
    · split <;> rfl
set_option maxHeartbeats 1000000 in
theorem c_wput {G : GH} {bb : Nat} {B : Bd} {Es : List (List Ent)} {g : Gate} (hb : BoardM G bb B Es) (hp : B.p ≠ 0) :
    ACalls Try.prog 111 [wv bb, .agg g.enc.toArray] G Es (WR bb encZ (rPut g B)) := by
  obtain ⟨es0, es1, es2, es3, rfl⟩ := hb.es
  have hc := c_Put (g := g) (.inr ⟨bb, rfl, hb⟩)
  obtain ⟨k, x, y, z⟩ := g
  refine acalls mixed k_word_wires_put (by simp) fun F => ?_
  simp only [GV, frArgs, memArgs, resV, fillL, ← Bool.decide_or, ← Bool.decide_and, ← decide_not, ↓reduceIte, Nat.reduceEqDiff, Nat.reduceAdd, Nat.reduceMul, Nat.reduceLeDiff, Nat.reduceLT, Nat.reduceSub, Nat.succ_ne_zero, Nat.one_ne_zero, Nat.zero_ne_one, true_implies, false_implies, forall_const, implies_true, reduceCtorEq, eq_self, ite_true, ite_false, decide_true, decide_false, Nat.le_refl, Bool.false_eq_true, if_true, if_false, Gate.enc, wv]
  intro b1 b2
  refine hc.mono ?_
  rintro o G1 Es hg ⟨rfl, h⟩
  have h' : BoardM G1 bb (B.put ⟨k, x, y, z⟩).2.2 Es := by
    rcases h with ⟨h, _⟩ | ⟨b, h, h'⟩
    · cases h
    · cases h; exact h'
  obtain ⟨es0, es1, es2, es3, rfl⟩ := h'.es
  have hp' : (B.put ⟨k, x, y, z⟩).2.2.p ≠ 0 := by rw [put_p]; exact hp
  simp only [GV, frArgs, memArgs, resV, fillL, ← Bool.decide_or, ← Bool.decide_and, ← decide_not, ↓reduceIte, Nat.reduceEqDiff, Nat.reduceAdd, Nat.reduceMul, Nat.reduceLeDiff, Nat.reduceLT, Nat.reduceSub, Nat.succ_ne_zero, Nat.one_ne_zero, Nat.zero_ne_one, true_implies, false_implies, forall_const, implies_true, reduceCtorEq, eq_self, ite_true, ite_false, decide_true, decide_false, Nat.le_refl, Bool.false_eq_true, if_true, if_false]
  refine cond_dec (fun h1 => ?_) (fun h1 => ?_)
  · simp only [GV, frArgs, memArgs, resV, fillL, ← Bool.decide_or, ← Bool.decide_and, ← decide_not, ↓reduceIte, Nat.reduceEqDiff, Nat.reduceAdd, Nat.reduceMul, Nat.reduceLeDiff, Nat.reduceLT, Nat.reduceSub, Nat.succ_ne_zero, Nat.one_ne_zero, Nat.zero_ne_one, true_implies, false_implies, forall_const, implies_true, reduceCtorEq, eq_self, ite_true, ite_false, decide_true, decide_false, Nat.le_refl, Bool.false_eq_true, if_true, if_false, WR, rPut, if_neg h1]
    exact ⟨h', hp'⟩
  · simp only [GV, frArgs, memArgs, resV, fillL, ← Bool.decide_or, ← Bool.decide_and, ← decide_not, ↓reduceIte, Nat.reduceEqDiff, Nat.reduceAdd, Nat.reduceMul, Nat.reduceLeDiff, Nat.reduceLT, Nat.reduceSub, Nat.succ_ne_zero, Nat.one_ne_zero, Nat.zero_ne_one, true_implies, false_implies, forall_const, implies_true, reduceCtorEq, eq_self, ite_true, ite_false, decide_true, decide_false, Nat.le_refl, Bool.false_eq_true, if_true, if_false, WR, rPut, if_pos (Decidable.not_not.1 h1)]
    exact ⟨⟨_, rfl, rfl⟩, h', hp'⟩
theorem WR.mono {α : Type} {bb : Nat} {enc : α → GH → Value → Prop} {r : Res α} {o : Out} {G' : GH} {Es' : List (List Ent)} (h : WR bb enc r o G' Es') : (∃ x B' v, r = .ok x B' ∧ o = .ret v ∧ enc x G' v ∧ BoardM G' bb B' Es' ∧ B'.p ≠ 0) ∨ ∃ e B', r = .bad e B' ∧ o = .pan (.iface 23 (.int .i64 e)) ∧ BoardM G' bb B' Es' ∧ B'.p ≠ 0 := by
  unfold WR at h
  split at h
  · obtain ⟨⟨v, h1, h2⟩, h3, h4⟩ := h
    exact .inl ⟨_, _, v, rfl, h1, h2, h3, h4⟩
  · obtain ⟨h1, h2, h3⟩ := h
    exact .inr ⟨_, _, rfl, h1, h2, h3⟩
theorem c_wFixed {G : GH} {bb : Nat} {B : Bd} {Es : List (List Ent)} {k : Nat} (hb : BoardM G bb B Es) (hp : B.p ≠ 0) :
    ACalls Try.prog 107 [wv bb, .int .u64 k] G Es (WR bb encZ (rFixed k B)) := by
  have hb0 := hb
  obtain ⟨v1, v2, v3, es1, es2, es3, rfl, -⟩ := hb
  refine acalls mixed k_word_wires_Fixed (by simp) fun F => ?_
  simp only [GV, frArgs, memArgs, resV, fillL, ← Bool.decide_or, ← Bool.decide_and, ← decide_not, ↓reduceIte, Nat.reduceEqDiff, Nat.reduceAdd, Nat.reduceMul, Nat.reduceLeDiff, Nat.reduceLT, Nat.reduceSub, Nat.succ_ne_zero, Nat.one_ne_zero, Nat.zero_ne_one, true_implies, false_implies, forall_const, implies_true, reduceCtorEq, eq_self, ite_true, ite_false, decide_true, decide_false, Nat.le_refl, Bool.false_eq_true, if_true, if_false, wv, tmodn]
  intro b1
  refine ⟨by omega, ?_⟩
  refine (c_wput (g := ⟨2, 0, 0, k % B.p⟩) hb0 hp).mono ?_
  rintro o G1 Es hg h
  have h0 := h
  rcases h.mono with ⟨x, B', v, h1, rfl, h2, h3, h4⟩ | ⟨e, B', h1, rfl, h3, h4⟩
  · obtain ⟨es0, es1, es2, es3, rfl⟩ := h3.es
    simp only [GV, frArgs, memArgs, resV, fillL, ← Bool.decide_or, ← Bool.decide_and, ← decide_not, ↓reduceIte, Nat.reduceEqDiff, Nat.reduceAdd, Nat.reduceMul, Nat.reduceLeDiff, Nat.reduceLT, Nat.reduceSub, Nat.succ_ne_zero, Nat.one_ne_zero, Nat.zero_ne_one, true_implies, false_implies, forall_const, implies_true, reduceCtorEq, eq_self, ite_true, ite_false, decide_true, decide_false, Nat.le_refl, Bool.false_eq_true, if_true, if_false]
    exact h0
  · obtain ⟨es0, es1, es2, es3, rfl⟩ := h3.es
    simp only [GV, frArgs, memArgs, resV, fillL, ← Bool.decide_or, ← Bool.decide_and, ← decide_not, ↓reduceIte, Nat.reduceEqDiff, Nat.reduceAdd, Nat.reduceMul, Nat.reduceLeDiff, Nat.reduceLT, Nat.reduceSub, Nat.succ_ne_zero, Nat.one_ne_zero, Nat.zero_ne_one, true_implies, false_implies, forall_const, implies_true, reduceCtorEq, eq_self, ite_true, ite_false, decide_true, decide_false, Nat.le_refl, Bool.false_eq_true, if_true, if_false]
    exact h0
theorem c_wSum {G : GH} {bb : Nat} {B : Bd} {Es : List (List Ent)} {x y : Int} (hb : BoardM G bb B Es) (hp : B.p ≠ 0) :
    ACalls Try.prog 110 [wv bb, .int .i64 x, .int .i64 y] G Es (WR bb encZ (rSum x y B)) := by
  obtain ⟨es0, es1, es2, es3, rfl⟩ := hb.es
  refine acalls mixed k_word_wires_Sum (by simp) fun F => ?_
  simp only [GV, frArgs, memArgs, resV, fillL, ← Bool.decide_or, ← Bool.decide_and, ← decide_not, ↓reduceIte, Nat.reduceEqDiff, Nat.reduceAdd, Nat.reduceMul, Nat.reduceLeDiff, Nat.reduceLT, Nat.reduceSub, Nat.succ_ne_zero, Nat.one_ne_zero, Nat.zero_ne_one, true_implies, false_implies, forall_const, implies_true, reduceCtorEq, eq_self, ite_true, ite_false, decide_true, decide_false, Nat.le_refl, Bool.false_eq_true, if_true, if_false, wv]
  intro b1
  refine (c_wput (g := ⟨3, x, y, 0⟩) hb hp).mono ?_
  rintro o G1 Es hg h
  have h0 := h
  rcases h.mono with ⟨x, B', v, h1, rfl, h2, h3, h4⟩ | ⟨e, B', h1, rfl, h3, h4⟩
  · obtain ⟨es0, es1, es2, es3, rfl⟩ := h3.es
    simp only [GV, frArgs, memArgs, resV, fillL, ← Bool.decide_or, ← Bool.decide_and, ← decide_not, ↓reduceIte, Nat.reduceEqDiff, Nat.reduceAdd, Nat.reduceMul, Nat.reduceLeDiff, Nat.reduceLT, Nat.reduceSub, Nat.succ_ne_zero, Nat.one_ne_zero, Nat.zero_ne_one, true_implies, false_implies, forall_const, implies_true, reduceCtorEq, eq_self, ite_true, ite_false, decide_true, decide_false, Nat.le_refl, Bool.false_eq_true, if_true, if_false]
    exact h0
  · obtain ⟨es0, es1, es2, es3, rfl⟩ := h3.es
    simp only [GV, frArgs, memArgs, resV, fillL, ← Bool.decide_or, ← Bool.decide_and, ← decide_not, ↓reduceIte, Nat.reduceEqDiff, Nat.reduceAdd, Nat.reduceMul, Nat.reduceLeDiff, Nat.reduceLT, Nat.reduceSub, Nat.succ_ne_zero, Nat.one_ne_zero, Nat.zero_ne_one, true_implies, false_implies, forall_const, implies_true, reduceCtorEq, eq_self, ite_true, ite_false, decide_true, decide_false, Nat.le_refl, Bool.false_eq_true, if_true, if_false]
    exact h0
theorem c_wLess {G : GH} {bb : Nat} {B : Bd} {Es : List (List Ent)} {x y : Int} (hb : BoardM G bb B Es) (hp : B.p ≠ 0) :
    ACalls Try.prog 108 [wv bb, .int .i64 x, .int .i64 y] G Es (WR bb encZ (rLess x y B)) := by
  obtain ⟨es0, es1, es2, es3, rfl⟩ := hb.es
  refine acalls mixed k_word_wires_Less (by simp) fun F => ?_
  simp only [GV, frArgs, memArgs, resV, fillL, ← Bool.decide_or, ← Bool.decide_and, ← decide_not, ↓reduceIte, Nat.reduceEqDiff, Nat.reduceAdd, Nat.reduceMul, Nat.reduceLeDiff, Nat.reduceLT, Nat.reduceSub, Nat.succ_ne_zero, Nat.one_ne_zero, Nat.zero_ne_one, true_implies, false_implies, forall_const, implies_true, reduceCtorEq, eq_self, ite_true, ite_false, decide_true, decide_false, Nat.le_refl, Bool.false_eq_true, if_true, if_false, wv]
  intro b1
  refine (c_wput (g := ⟨4, x, y, 0⟩) hb hp).mono ?_
  rintro o G1 Es hg h
  have h0 := h
  rcases h.mono with ⟨x, B', v, h1, rfl, h2, h3, h4⟩ | ⟨e, B', h1, rfl, h3, h4⟩
  · obtain ⟨es0, es1, es2, es3, rfl⟩ := h3.es
    simp only [GV, frArgs, memArgs, resV, fillL, ← Bool.decide_or, ← Bool.decide_and, ← decide_not, ↓reduceIte, Nat.reduceEqDiff, Nat.reduceAdd, Nat.reduceMul, Nat.reduceLeDiff, Nat.reduceLT, Nat.reduceSub, Nat.succ_ne_zero, Nat.one_ne_zero, Nat.zero_ne_one, true_implies, false_implies, forall_const, implies_true, reduceCtorEq, eq_self, ite_true, ite_false, decide_true, decide_false, Nat.le_refl, Bool.false_eq_true, if_true, if_false]
    exact h0
  · obtain ⟨es0, es1, es2, es3, rfl⟩ := h3.es
    simp only [GV, frArgs, memArgs, resV, fillL, ← Bool.decide_or, ← Bool.decide_and, ← decide_not, ↓reduceIte, Nat.reduceEqDiff, Nat.reduceAdd, Nat.reduceMul, Nat.reduceLeDiff, Nat.reduceLT, Nat.reduceSub, Nat.succ_ne_zero, Nat.one_ne_zero, Nat.zero_ne_one, true_implies, false_implies, forall_const, implies_true, reduceCtorEq, eq_self, ite_true, ite_false, decide_true, decide_false, Nat.le_refl, Bool.false_eq_true, if_true, if_false]
    exact h0
theorem c_wProd {G : GH} {bb : Nat} {B : Bd} {Es : List (List Ent)} {x y : Int} (hb : BoardM G bb B Es) (hp : B.p ≠ 0) :
    ACalls Try.prog 109 [wv bb, .int .i64 x, .int .i64 y] G Es (WR bb encZ (rProd x y B)) := by
  obtain ⟨es0, es1, es2, es3, rfl⟩ := hb.es
  refine acalls mixed k_word_wires_Product (by simp) fun F => ?_
  simp only [GV, frArgs, memArgs, resV, fillL, ← Bool.decide_or, ← Bool.decide_and, ← decide_not, ↓reduceIte, Nat.reduceEqDiff, Nat.reduceAdd, Nat.reduceMul, Nat.reduceLeDiff, Nat.reduceLT, Nat.reduceSub, Nat.succ_ne_zero, Nat.one_ne_zero, Nat.zero_ne_one, true_implies, false_implies, forall_const, implies_true, reduceCtorEq, eq_self, ite_true, ite_false, decide_true, decide_false, Nat.le_refl, Bool.false_eq_true, if_true, if_false, wv]
  intro b1
  refine (c_wput (g := ⟨5, x, y, 0⟩) hb hp).mono ?_
  rintro o G1 Es hg h
  have h0 := h
  rcases h.mono with ⟨x, B', v, h1, rfl, h2, h3, h4⟩ | ⟨e, B', h1, rfl, h3, h4⟩
  · obtain ⟨es0, es1, es2, es3, rfl⟩ := h3.es
    simp only [GV, frArgs, memArgs, resV, fillL, ← Bool.decide_or, ← Bool.decide_and, ← decide_not, ↓reduceIte, Nat.reduceEqDiff, Nat.reduceAdd, Nat.reduceMul, Nat.reduceLeDiff, Nat.reduceLT, Nat.reduceSub, Nat.succ_ne_zero, Nat.one_ne_zero, Nat.zero_ne_one, true_implies, false_implies, forall_const, implies_true, reduceCtorEq, eq_self, ite_true, ite_false, decide_true, decide_false, Nat.le_refl, Bool.false_eq_true, if_true, if_false]
    exact h0
  · obtain ⟨es0, es1, es2, es3, rfl⟩ := h3.es
    simp only [GV, frArgs, memArgs, resV, fillL, ← Bool.decide_or, ← Bool.decide_and, ← decide_not, ↓reduceIte, Nat.reduceEqDiff, Nat.reduceAdd, Nat.reduceMul, Nat.reduceLeDiff, Nat.reduceLT, Nat.reduceSub, Nat.succ_ne_zero, Nat.one_ne_zero, Nat.zero_ne_one, true_implies, false_implies, forall_const, implies_true, reduceCtorEq, eq_self, ite_true, ite_false, decide_true, decide_false, Nat.le_refl, Bool.false_eq_true, if_true, if_false]
    exact h0
theorem meth_Fixed (u : Value) : Meth Try.prog 115 u "Fixed" 107 u := fun w => by kernel_rfl
theorem meth_Sum (u : Value) : Meth Try.prog 115 u "Sum" 110 u := fun w => by kernel_rfl
theorem meth_Less (u : Value) : Meth Try.prog 115 u "Less" 108 u := fun w => by kernel_rfl
theorem meth_Prod (u : Value) : Meth Try.prog 115 u "Product" 109 u := fun w => by kernel_rfl
theorem nil_Sum (c : Bool) (κ : Value → Prop) (u : Value) (x : Array Value) : nilK Try.prog c κ (.func (.method "Sum") #[.iface 115 u] x) = κ (.func (.method "Sum") #[.iface 115 u] x) := by
  simp only [nilK, eq_iff_iff, and_iff_right_iff_imp]
  exact fun _ _ => ⟨_, _, rfl, fun w => by kernel_rfl⟩
theorem nil_Less (c : Bool) (κ : Value → Prop) (u : Value) (x : Array Value) : nilK Try.prog c κ (.func (.method "Less") #[.iface 115 u] x) = κ (.func (.method "Less") #[.iface 115 u] x) := by
  simp only [nilK, eq_iff_iff, and_iff_right_iff_imp]
  exact fun _ _ => ⟨_, _, rfl, fun w => by kernel_rfl⟩
theorem nil_Prod (c : Bool) (κ : Value → Prop) (u : Value) (x : Array Value) : nilK Try.prog c κ (.func (.method "Product") #[.iface 115 u] x) = κ (.func (.method "Product") #[.iface 115 u] x) := by
  simp only [nilK, eq_iff_iff, and_iff_right_iff_imp]
  exact fun _ _ => ⟨_, _, rfl, fun w => by kernel_rfl⟩
theorem WR.ok {α : Type} {bb : Nat} {enc : α → GH → Value → Prop} {r : Res α} {G' : GH} {Es' : List (List Ent)} {x : α} {B' : Bd} {v : Value} (hr : r = .ok x B') (hv : enc x G' v) (hb : BoardM G' bb B' Es') (hp : B'.p ≠ 0) : WR bb enc r (.ret v) G' Es' := by
  subst hr; exact ⟨⟨v, rfl, hv⟩, hb, hp⟩
theorem WR.bad {α : Type} {bb : Nat} {enc : α → GH → Value → Prop} {r : Res α} {G' : GH} {Es' : List (List Ent)} {e : Int} {B' : Bd} (hr : r = .bad e B') (hb : BoardM G' bb B' Es') (hp : B'.p ≠ 0) : WR bb enc r (.pan (.iface 23 (.int .i64 e))) G' Es' := by
  subst hr; exact ⟨rfl, hb, hp⟩
/-- A call that adds to a board. -/
theorem wcall {α : Type} {name : String} {f : FuncId} {lin lout : List Nat} {t : TypeId} {u : Value} {d : Option Nat} {fr : Fr} {G : GH} {M M2 : Mem} {D : List Deferred} {K : Fr → GH → Mem → List Deferred → Prop} {QP : Value → GH → Mem → List Deferred → Prop} {vs : List Value}
    {Es : List (List Ent)} {bb : Nat} {enc : α → GH → Value → Prop} {r : Res α} (hm : Meth Try.prog t u name f u) (hp : M.pulls lin = some (Es, M2)) (hc : ACalls Try.prog f (u :: vs) G Es (WR bb enc r))
    (hok : ∀ x B' v G' e0 e1 e2 e3, GLe G G' → r = .ok x B' → enc x G' v → BoardM G' bb B' [e0, e1, e2, e3] → B'.p ≠ 0 → finM d fr G' D K v (lout.zip [e0, e1, e2, e3] ++ M2))
    (hbad : ∀ e B' G' e0 e1 e2 e3, GLe G G' → r = .bad e B' → BoardM G' bb B' [e0, e1, e2, e3] → B'.p ≠ 0 → QP (.iface 23 (.int .i64 e)) G' (lout.zip [e0, e1, e2, e3] ++ M2) D) :
    calliK2 Try.prog lin lout name t u d fr G M D K QP vs := by
  refine ⟨f, u, hm, ?_⟩
  rw [hp, callE_some]
  refine hc.mono ?_
  intro o G' Es' hg h
  rcases h.mono with ⟨x, B', v, h1, rfl, h2, h3, h4⟩ | ⟨e, B', h1, rfl, h3, h4⟩
  · obtain ⟨e0, e1, e2, e3, rfl⟩ := h3.es
    exact hok x B' v G' _ _ _ _ hg h1 h2 h3 h4
  · obtain ⟨e0, e1, e2, e3, rfl⟩ := h3.es
    exact hbad e B' G' _ _ _ _ hg h1 h3 h4
/-- A call of a function that adds to a board. -/
theorem wcallf {α : Type} {f : FuncId} {lout : List Nat} {d : Option Nat} {fr : Fr} {G : GH} {M2 : Mem} {D : List Deferred} {K : Fr → GH → Mem → List Deferred → Prop} {QP : Value → GH → Mem → List Deferred → Prop} {vs : List Value}
    {Es : List (List Ent)} {bb : Nat} {enc : α → GH → Value → Prop} {r : Res α} (hc : ACalls Try.prog f vs G Es (WR bb enc r))
    (hok : ∀ x B' v G' e0 e1 e2 e3, GLe G G' → r = .ok x B' → enc x G' v → BoardM G' bb B' [e0, e1, e2, e3] → B'.p ≠ 0 → finM d fr G' D K v (lout.zip [e0, e1, e2, e3] ++ M2))
    (hbad : ∀ e B' G' e0 e1 e2 e3, GLe G G' → r = .bad e B' → BoardM G' bb B' [e0, e1, e2, e3] → B'.p ≠ 0 → QP (.iface 23 (.int .i64 e)) G' (lout.zip [e0, e1, e2, e3] ++ M2) D) :
    ACalls Try.prog f vs G Es (outK lout M2 d fr D K QP) := by
  refine hc.mono ?_
  intro o G' Es' hg h
  rcases h.mono with ⟨x, B', v, h1, rfl, h2, h3, h4⟩ | ⟨e, B', h1, rfl, h3, h4⟩
  · obtain ⟨e0, e1, e2, e3, rfl⟩ := h3.es
    exact hok x B' v G' _ _ _ _ hg h1 h2 h3 h4
  · obtain ⟨e0, e1, e2, e3, rfl⟩ := h3.es
    exact hbad e B' G' _ _ _ _ hg h1 h3 h4
end Go.Gv.W
