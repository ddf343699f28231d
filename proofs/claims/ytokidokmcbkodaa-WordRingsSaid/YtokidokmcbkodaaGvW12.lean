/-
  Boards: the circuit. No condition.
-/
import Derived.Test.YtokidokmcbkodaaGvW11
namespace Go.Gv.W
set_option linter.unusedSimpArgs false
set_option linter.unusedVariables false
set_option linter.unusedSectionVars false
open Go.RowKit Go.Proofs

/-- (*junto/word.Board).Circuit -/
def r_word_Board_Circuit : RFn := ⟨47,
  .ghost 111 <|
  .seq (.reg [] [
    ⟨(some 2), none, .new 102 39 [(.slice none 0 0), (.slice none 0 0), (.slice none 0 0)]⟩]) <|
  .keep [0, 2] <|
  .seq (.seq (.reg [] [
    ⟨(some 6), none, .mv (.t 0)⟩,
    ⟨(some 7), none, .call [0] [0] 24 [(.t 6)]⟩,
    ⟨(some 8), none, .un .not (.t 7)⟩]) <|
  .keep [0, 2, 8] <|
  .cond (.t 8)
    (.seq (.reg [] [
      ⟨(some 9), none, .bld [(.slice none 0 0), (.slice none 0 0), (.slice none 0 0)] [(0, 1), (1, 1), (2, 1)] []⟩,
      ⟨none, none, .st 3 102 0 (.t 2) (.t 9)⟩]) <|
    .ret)
    (.skip)) <|
  .keep [0, 2] <|
  .seq (.mid <| .norm [0, 2, 3] [0, 1, 2, 3, 111, 102, 103, 1000000] <| .dreg [] <|
    .take 0 ⟨(some 10), none, .mv (.t 0)⟩ <|
    .take 1 ⟨(some 11), none, .nil (.t 10)⟩ <|
    .take 2 ⟨(some 12), none, .fad 1 (.t 11)⟩ <|
    .take 3 ⟨(some 13), none, .fad 0 (.t 12)⟩ <|
    .take 6 ⟨(some 16), none, .mv (.t 0)⟩ <|
    .take 7 ⟨(some 17), none, .nil (.t 16)⟩ <|
    .take 8 ⟨(some 18), none, .fad 1 (.t 17)⟩ <|
    .take 9 ⟨(some 19), none, .fad 1 (.t 18)⟩ <|
    .held 4 ⟨(some 14), none, .ld none (some (0, 0)) (.t 13)⟩ <|
    .held 10 ⟨(some 20), none, .ld none (some (0, 0)) (.t 19)⟩ <|
    .fork 5 ⟨(some 15), none, .call [] [] 26 [(.t 14)]⟩
    (.fork 11 ⟨(some 21), none, .call [2] [2] 27 [(.t 20)]⟩
      (.take 12 ⟨(some 22), none, .bld [(.slice none 0 0), (.slice none 0 0), (.slice none 0 0)] [(0, 1), (1, 1), (2, 1)] [(0, (.t 15)), (1, (.t 21))]⟩ <|
        .exec [] 13 ⟨(some 3), none, .new 103 39 [(.slice none 0 0), (.slice none 0 0), (.slice none 0 0)]⟩ <|
        .exec [] 14 ⟨none, none, .st 3 103 0 (.t 3) (.t 22)⟩ <|
        .done)
      13 ⟨(some 3), none, .new 103 39 [(.slice none 0 0), (.slice none 0 0), (.slice none 0 0)]⟩
      (.exec [] 11 ⟨(some 21), none, .call [2] [2] 27 [(.t 20)]⟩ <|
        .exec [] 12 ⟨(some 22), none, .bld [(.slice none 0 0), (.slice none 0 0), (.slice none 0 0)] [(0, 1), (1, 1), (2, 1)] [(0, (.t 15)), (1, (.t 21))]⟩ <|
        .exec [] 14 ⟨none, none, .st 3 103 0 (.t 3) (.t 22)⟩ <|
        .done))
    13 ⟨(some 3), none, .new 103 39 [(.slice none 0 0), (.slice none 0 0), (.slice none 0 0)]⟩
    (.exec [] 5 ⟨(some 15), none, .call [] [] 26 [(.t 14)]⟩ <|
      .exec [] 11 ⟨(some 21), none, .call [2] [2] 27 [(.t 20)]⟩ <|
      .exec [] 12 ⟨(some 22), none, .bld [(.slice none 0 0), (.slice none 0 0), (.slice none 0 0)] [(0, 1), (1, 1), (2, 1)] [(0, (.t 15)), (1, (.t 21))]⟩ <|
      .exec [] 14 ⟨none, none, .st 3 103 0 (.t 3) (.t 22)⟩ <|
      .done)) <|
  .keep [0, 2, 3] <|
  .seq (.seq (.reg [] [
    ⟨(some 23), none, .mv (.t 0)⟩,
    ⟨(some 24), none, .nil (.t 23)⟩,
    ⟨(some 25), none, .fad 1 (.t 24)⟩,
    ⟨(some 26), none, .fad 2 (.t 25)⟩,
    ⟨(some 27), none, .ld none (some (0, 0)) (.t 26)⟩,
    ⟨(some 28), none, .len (.t 27)⟩,
    ⟨(some 29), none, .mv (.c (.int .i64 0))⟩]) <|
  .keep [2, 3, 27, 28, 29] <|
  .block 0 <|
  .loop [2, 3, 27, 28, 29] [0, 1, 2, 3, 111, 102, 103, 1000000] <|
  .seq (.reg [] [
    ⟨(some 30), none, .bin .lss (.t 29) (.t 28)⟩]) <|
  .keep [2, 3, 27, 28, 29, 30] <|
  .seq (.cond (.t 30)
    (.skip)
    (.exit 0)) <|
  .keep [2, 3, 27, 28, 29] <|
  .seq (.block 1 <|
  .seq (.reg [] [
    ⟨(some 31), none, .iad 2 (.t 27) (.t 29)⟩,
    ⟨(some 32), none, .ld (some 2) none (.t 31)⟩,
    ⟨(some 5), none, .new 105 56 [(.slice none 0 0), (.slice none 0 0)]⟩,
    ⟨none, none, .st 2 105 0 (.t 5) (.t 32)⟩]) <|
  .keep [2, 3, 5, 27, 28, 29] <|
  .dreg [] <|
    .take 0 ⟨(some 33), none, .fad 2 (.t 3)⟩ <|
    .take 2 ⟨(some 35), none, .fad 0 (.t 5)⟩ <|
    .take 5 ⟨(some 38), none, .fad 1 (.t 5)⟩ <|
    .held 1 ⟨(some 34), none, .ld none (some (103, 0)) (.t 33)⟩ <|
    .held 3 ⟨(some 36), none, .ld none (some (105, 0)) (.t 35)⟩ <|
    .held 6 ⟨(some 39), none, .ld none (some (105, 0)) (.t 38)⟩ <|
    .exec [] 4 ⟨(some 37), none, .call [] [] 28 [(.t 36)]⟩ <|
    .exec [] 7 ⟨(some 40), none, .call [] [] 28 [(.t 39)]⟩ <|
    .exec [] 8 ⟨(some 41), none, .bld [(.slice none 0 0), (.slice none 0 0)] [(0, 1), (1, 1)] [(0, (.t 37)), (1, (.t 40))]⟩ <|
    .exec [] 9 ⟨(some 42), none, .bsl none 56 1 2 [(.slice none 0 0), (.slice none 0 0)] [(0, 2)] [(0, (.t 41))]⟩ <|
    .exec [1] 10 ⟨(some 43), none, .app (some 111) 111 56 2 48 (.t 34) (.t 42)⟩ <|
    .exec [] 11 ⟨(some 44), none, .fad 2 (.t 3)⟩ <|
    .exec [] 12 ⟨none, none, .st 1 103 0 (.t 44) (.t 43)⟩ <|
    .done) <|
  .keep [2, 3, 27, 28, 29] <|
  .reg [] [
    ⟨(some 45), none, .bin .add (.t 29) (.c (.int .i64 1))⟩,
    ⟨(some 29), none, .mv (.t 45)⟩]) <|
  .keep [2, 3] <|
  .seq (.reg [] [
    ⟨(some 46), none, .ld (some 3) (some (103, 0)) (.t 3)⟩,
    ⟨none, none, .st 3 102 0 (.t 2) (.t 46)⟩]) <|
  .ret,
  [.cell (some 3) (some (102, 0)) 2], [0, 1, 2, 3], [0, 1, 2, 3]⟩

theorem k_word_Board_Circuit : rbFn Try.prog 10 r_word_Board_Circuit = some r_word_Board_Circuit := by kernel_rfl


theorem exits_nil {G : GH} : ExitsV G [] [] := ⟨rfl, fun j h => by simp at h⟩
theorem ownX_nil (G : GH) : OwnX G (.slice none 0 0) [] [] := ⟨[], OwnS.nil _ _ _, exits_nil⟩
theorem OwnX.slX {G : GH} {v : Value} {l : List Exit} {es : List Ent} (h : OwnX G v l es) : SlX G v l := by
  obtain ⟨css, h1, h2⟩ := h
  obtain ⟨a, c, h3, h4, h5, h6⟩ := h1.row h2.len (by omega)
  rw [h2.1] at h3 h4
  exact ⟨css, a, c, h3, h4, h5, h6, h2⟩
theorem SlX.mono {G G' : GH} {v : Value} {l : List Exit} (h : SlX G v l) (hg : GLe G G') : SlX G' v l := by
  obtain ⟨css, a, c, h1, h2, h3, h4, h5⟩ := h
  exact ⟨css, a, c, h1, h2, h3, h4.mono hg, h5.mono hg⟩
theorem slX_nil {G : GH} : SlX G (.slice none 0 0) [] := ⟨[], none, 0, rfl, Nat.le_refl _, Nat.zero_le _, ⟨by simp, rfl⟩, exits_nil⟩
/-- The exits, one by one. -/
theorem SlX.at {G : GH} {v : Value} {l : List Exit} (h : SlX G v l) {i : Nat} (hi : i < l.length) : ∃ b o c vt vg, v = .slice (some ⟨b, o, none⟩) l.length c ∧ cellsG G b (o + i * 2) 2 = some [vt, vg] ∧ SlI G .i64 vt l[i].to ∧ SlI G .i64 vg l[i].gates := by
  obtain ⟨css, a, c, h1, h2, h3, h4, h5⟩ := h
  have hi' : i < css.length := by rw [h5.1]; exact hi
  obtain ⟨b, o, rfl, hx⟩ := h4.get (List.getElem?_eq_getElem hi')
  obtain ⟨vt, vg, e, ht, hg⟩ := h5.2 i hi hi'
  rw [e] at hx
  exact ⟨b, o, c, vt, vg, h1, hx, ht, hg⟩
theorem circV_none {G : GH} : CircV G (.agg #[.slice none 0 0, .slice none 0 0, .slice none 0 0]) .none := ⟨_, _, _, rfl, slE_nil, slE_nil, slX_nil⟩

set_option maxHeartbeats 1000000 in
set_option maxRecDepth 20000 in
theorem c_Circuit {G : GH} {v : Value} {B : Bd} {Es : List (List Ent)} (hb : BoardV G v B Es) :
    ACalls Try.prog 10 [v] G Es fun o G' Es' => ∃ w, o = .ret w ∧ CircV G' w (if B.p = 0 then .none else B.c) ∧ Es' = Es := by
  have hb0 := hb
  rcases hb with ⟨rfl, rfl, rfl⟩ | ⟨bb, rfl, v1, v2, v3, es1, es2, es3, rfl, h1, h2, h3, h4, h5, h6, h7⟩
  · refine acalls mixed k_word_Board_Circuit (by simp) fun F => ?_
    simp only [GV, frArgs, memArgs, resV, fillL, ← Bool.decide_or, ← Bool.decide_and, ← decide_not, ↓reduceIte, Nat.reduceEqDiff, Nat.reduceAdd, Nat.reduceMul, Nat.reduceLeDiff, Nat.reduceLT, Nat.reduceSub, Nat.succ_ne_zero, Nat.one_ne_zero, Nat.zero_ne_one, true_implies, false_implies, forall_const, implies_true, reduceCtorEq, eq_self, ite_true, ite_false, decide_true, decide_false, Nat.le_refl, Bool.false_eq_true, if_true, if_false]
    intro bc
    refine (c_made hb0).mono ?_
    rintro o G1 Es hg ⟨rfl, rfl, rfl⟩
    simp only [GV, frArgs, memArgs, resV, fillL, ← Bool.decide_or, ← Bool.decide_and, ← decide_not, ↓reduceIte, Nat.reduceEqDiff, Nat.reduceAdd, Nat.reduceMul, Nat.reduceLeDiff, Nat.reduceLT, Nat.reduceSub, Nat.succ_ne_zero, Nat.one_ne_zero, Nat.zero_ne_one, true_implies, false_implies, forall_const, implies_true, reduceCtorEq, eq_self, ite_true, ite_false, decide_true, decide_false, Nat.le_refl, Bool.false_eq_true, if_true, if_false, ne_eq, not_true_eq_false]
    exact ⟨_, rfl, circV_none⟩
  · obtain ⟨p, ss, gs, xs⟩ := B
    simp only at *
    have h1' := ownS_slE (slot_len ss) (by omega) h1
    have h3' := h3.slX
    have h1'' := h1'
    obtain ⟨a1, c1, rfl, -⟩ := h1''
    obtain ⟨a2, c2, rfl⟩ := gatesV_len h2
    obtain ⟨a3, c3, rfl⟩ := h3.len
    refine acalls mixed k_word_Board_Circuit (by simp) fun F => ?_
    simp only [GV, frArgs, memArgs, resV, fillL, ← Bool.decide_or, ← Bool.decide_and, ← decide_not, ↓reduceIte, Nat.reduceEqDiff, Nat.reduceAdd, Nat.reduceMul, Nat.reduceLeDiff, Nat.reduceLT, Nat.reduceSub, Nat.succ_ne_zero, Nat.one_ne_zero, Nat.zero_ne_one, true_implies, false_implies, forall_const, implies_true, reduceCtorEq, eq_self, ite_true, ite_false, decide_true, decide_false, Nat.le_refl, Bool.false_eq_true, if_true, if_false]
    intro bc
    refine (c_made hb0).mono ?_
    rintro o G1 Es hg ⟨rfl, rfl, rfl⟩
    simp only [GV, frArgs, memArgs, resV, fillL, ← Bool.decide_or, ← Bool.decide_and, ← decide_not, ↓reduceIte, Nat.reduceEqDiff, Nat.reduceAdd, Nat.reduceMul, Nat.reduceLeDiff, Nat.reduceLT, Nat.reduceSub, Nat.succ_ne_zero, Nat.one_ne_zero, Nat.zero_ne_one, true_implies, false_implies, forall_const, implies_true, reduceCtorEq, eq_self, ite_true, ite_false, decide_true, decide_false, Nat.le_refl, Bool.false_eq_true, if_true, if_false]
    refine cond_dec (fun hp => ?_) (fun hp => ?_)
    · have hp : p = 0 := by simpa using hp
      simp only [GV, frArgs, memArgs, resV, fillL, ← Bool.decide_or, ← Bool.decide_and, ← decide_not, ↓reduceIte, Nat.reduceEqDiff, Nat.reduceAdd, Nat.reduceMul, Nat.reduceLeDiff, Nat.reduceLT, Nat.reduceSub, Nat.succ_ne_zero, Nat.one_ne_zero, Nat.zero_ne_one, true_implies, false_implies, forall_const, implies_true, reduceCtorEq, eq_self, ite_true, ite_false, decide_true, decide_false, Nat.le_refl, Bool.false_eq_true, if_true, if_false, hp]
      exact ⟨_, rfl, circV_none⟩
    have hp : p ≠ 0 := by simpa using hp
    simp only [GV, frArgs, memArgs, resV, fillL, ← Bool.decide_or, ← Bool.decide_and, ← decide_not, ↓reduceIte, Nat.reduceEqDiff, Nat.reduceAdd, Nat.reduceMul, Nat.reduceLeDiff, Nat.reduceLT, Nat.reduceSub, Nat.succ_ne_zero, Nat.one_ne_zero, Nat.zero_ne_one, true_implies, false_implies, forall_const, implies_true, reduceCtorEq, eq_self, ite_true, ite_false, decide_true, decide_false, Nat.le_refl, Bool.false_eq_true, if_true, if_false]
    refine mid_intro (fun fr G' M D => D = [] ∧ GLe G1 G' ∧ ∃ b3 w1 w2, SlE G' 2 Slot.enc w1 ss ∧ SlE G' 4 Gate.enc w2 gs ∧
      fr = [(0, true, .pointer (some ⟨bb, 0, none⟩)), (2, true, .pointer (some ⟨bc, 0, none⟩)), (3, true, .pointer (some ⟨b3, 0, none⟩))] ∧
      M = [(0, [.var bb 61 [.int .u64 p, .slice a1 ss.length c1, .slice a2 gs.length c2, .slice a3 xs.length c3]]), (1, es1), (2, es2), (3, es3), (111, []), (102, [.var bc 39 [.slice none 0 0, .slice none 0 0, .slice none 0 0]]),
        (103, [.var b3 39 [w1, w2, .slice none 0 0]]), (1000000, F)]) ?_ ?_
    · simp only [GV, frArgs, memArgs, resV, fillL, ← Bool.decide_or, ← Bool.decide_and, ← decide_not, ↓reduceIte, Nat.reduceEqDiff, Nat.reduceAdd, Nat.reduceMul, Nat.reduceLeDiff, Nat.reduceLT, Nat.reduceSub, Nat.succ_ne_zero, Nat.one_ne_zero, Nat.zero_ne_one, true_implies, false_implies, forall_const, implies_true, reduceCtorEq, eq_self, ite_true, ite_false, decide_true, decide_false, Nat.le_refl, Bool.false_eq_true, if_true, if_false]
      refine ⟨?_, ?_⟩
      · refine (c_CloneS h1' (by omega)).mono ?_
        rintro o G2 Es hg2 ⟨w1, rfl, hw1, rfl⟩
        have hw1' := hw1
        obtain ⟨d1, e1, rfl, -⟩ := hw1'
        simp only [GV, frArgs, memArgs, resV, fillL, ← Bool.decide_or, ← Bool.decide_and, ← decide_not, ↓reduceIte, Nat.reduceEqDiff, Nat.reduceAdd, Nat.reduceMul, Nat.reduceLeDiff, Nat.reduceLT, Nat.reduceSub, Nat.succ_ne_zero, Nat.one_ne_zero, Nat.zero_ne_one, true_implies, false_implies, forall_const, implies_true, reduceCtorEq, eq_self, ite_true, ite_false, decide_true, decide_false, Nat.le_refl, Bool.false_eq_true, if_true, if_false]
        refine ⟨?_, ?_⟩
        · refine (c_CloneG h2 (by omega)).mono ?_
          rintro o G3 Es hg3 ⟨w2, rfl, hw2, rfl⟩
          have hw2' := hw2
          obtain ⟨d2, e2, rfl, -⟩ := hw2'
          simp only [GV, frArgs, memArgs, resV, fillL, ← Bool.decide_or, ← Bool.decide_and, ← decide_not, ↓reduceIte, Nat.reduceEqDiff, Nat.reduceAdd, Nat.reduceMul, Nat.reduceLeDiff, Nat.reduceLT, Nat.reduceSub, Nat.succ_ne_zero, Nat.one_ne_zero, Nat.zero_ne_one, true_implies, false_implies, forall_const, implies_true, reduceCtorEq, eq_self, ite_true, ite_false, decide_true, decide_false, Nat.le_refl, Bool.false_eq_true, if_true, if_false]
          intro b3
          exact ⟨hg2.trans hg3, b3, _, _, hw1.mono hg3, hw2, rfl, rfl⟩
        · intro b3
          refine (c_CloneG h2 (by omega)).mono ?_
          rintro o G3 Es hg3 ⟨w2, rfl, hw2, rfl⟩
          have hw2' := hw2
          obtain ⟨d2, e2, rfl, -⟩ := hw2'
          simp only [GV, frArgs, memArgs, resV, fillL, ← Bool.decide_or, ← Bool.decide_and, ← decide_not, ↓reduceIte, Nat.reduceEqDiff, Nat.reduceAdd, Nat.reduceMul, Nat.reduceLeDiff, Nat.reduceLT, Nat.reduceSub, Nat.succ_ne_zero, Nat.one_ne_zero, Nat.zero_ne_one, true_implies, false_implies, forall_const, implies_true, reduceCtorEq, eq_self, ite_true, ite_false, decide_true, decide_false, Nat.le_refl, Bool.false_eq_true, if_true, if_false]
          exact ⟨hg2.trans hg3, b3, _, _, hw1.mono hg3, hw2, rfl, rfl⟩
      · intro b3
        refine (c_CloneS h1' (by omega)).mono ?_
        rintro o G2 Es hg2 ⟨w1, rfl, hw1, rfl⟩
        have hw1' := hw1
        obtain ⟨d1, e1, rfl, -⟩ := hw1'
        simp only [GV, frArgs, memArgs, resV, fillL, ← Bool.decide_or, ← Bool.decide_and, ← decide_not, ↓reduceIte, Nat.reduceEqDiff, Nat.reduceAdd, Nat.reduceMul, Nat.reduceLeDiff, Nat.reduceLT, Nat.reduceSub, Nat.succ_ne_zero, Nat.one_ne_zero, Nat.zero_ne_one, true_implies, false_implies, forall_const, implies_true, reduceCtorEq, eq_self, ite_true, ite_false, decide_true, decide_false, Nat.le_refl, Bool.false_eq_true, if_true, if_false]
        refine (c_CloneG h2 (by omega)).mono ?_
        rintro o G3 Es hg3 ⟨w2, rfl, hw2, rfl⟩
        have hw2' := hw2
        obtain ⟨d2, e2, rfl, -⟩ := hw2'
        simp only [GV, frArgs, memArgs, resV, fillL, ← Bool.decide_or, ← Bool.decide_and, ← decide_not, ↓reduceIte, Nat.reduceEqDiff, Nat.reduceAdd, Nat.reduceMul, Nat.reduceLeDiff, Nat.reduceLT, Nat.reduceSub, Nat.succ_ne_zero, Nat.one_ne_zero, Nat.zero_ne_one, true_implies, false_implies, forall_const, implies_true, reduceCtorEq, eq_self, ite_true, ite_false, decide_true, decide_false, Nat.le_refl, Bool.false_eq_true, if_true, if_false]
        exact ⟨hg2.trans hg3, b3, _, _, hw1.mono hg3, hw2, rfl, rfl⟩
    rintro fr G2 M D hg2 ⟨rfl, -, b3, w1, w2, hw1, hw2, rfl, rfl⟩
    simp only [GV, frArgs, memArgs, resV, fillL, ← Bool.decide_or, ← Bool.decide_and, ← decide_not, ↓reduceIte, Nat.reduceEqDiff, Nat.reduceAdd, Nat.reduceMul, Nat.reduceLeDiff, Nat.reduceLT, Nat.reduceSub, Nat.succ_ne_zero, Nat.one_ne_zero, Nat.zero_ne_one, true_implies, false_implies, forall_const, implies_true, reduceCtorEq, eq_self, ite_true, ite_false, decide_true, decide_false, Nat.le_refl, Bool.false_eq_true, if_true, if_false]
    refine loop_intro (fun n fr G' M => ∃ (i : Nat) (v4 : Value) (es4 : List Ent), n = xs.length - i ∧ i ≤ xs.length ∧ GLe G2 G' ∧ OwnX G' v4 (xs.take i) es4 ∧
      fr = [(2, true, .pointer (some ⟨bc, 0, none⟩)), (3, true, .pointer (some ⟨b3, 0, none⟩)), (27, true, .slice a3 xs.length c3), (28, true, .int .i64 xs.length), (29, true, .int .i64 i)] ∧
      M = [(0, [.var bb 61 [.int .u64 p, .slice a1 ss.length c1, .slice a2 gs.length c2, .slice a3 xs.length c3]]), (1, es1), (2, es2), (3, es3), (111, es4), (102, [.var bc 39 [.slice none 0 0, .slice none 0 0, .slice none 0 0]]),
        (103, [.var b3 39 [w1, w2, v4]]), (1000000, F)]) xs.length ⟨0, _, _, by simp, by simp, GLe.refl _, by rw [List.take_zero]; exact ownX_nil _, rfl, rfl⟩ ?_
    rintro n fr G3 M hg3 ⟨i, v4, es4, rfl, hi, -, hx4, rfl, rfl⟩
    obtain ⟨a4, c4, rfl⟩ := hx4.len
    simp only [GV, frArgs, memArgs, resV, fillL, ← Bool.decide_or, ← Bool.decide_and, ← decide_not, ↓reduceIte, Nat.reduceEqDiff, Nat.reduceAdd, Nat.reduceMul, Nat.reduceLeDiff, Nat.reduceLT, Nat.reduceSub, Nat.succ_ne_zero, Nat.one_ne_zero, Nat.zero_ne_one, true_implies, false_implies, forall_const, implies_true, reduceCtorEq, eq_self, ite_true, ite_false, decide_true, decide_false, Nat.le_refl, Bool.false_eq_true, if_true, if_false]
    refine cond_dec (fun h => ?_) (fun h => ?_)
    · have hlt : i < xs.length := by omega
      obtain ⟨b, o, c, vt, vg, e, hx, ht, hgt⟩ := (h3'.mono (hg2.trans hg3)).at hlt
      cases e
      have ht' := ht
      have hgt' := hgt
      obtain ⟨at_, ct, rfl, -⟩ := ht'
      obtain ⟨ag, cg, rfl, -⟩ := hgt'
      simp only [GV, frArgs, memArgs, resV, fillL, ← Bool.decide_or, ← Bool.decide_and, ← decide_not, ↓reduceIte, Nat.reduceEqDiff, Nat.reduceAdd, Nat.reduceMul, Nat.reduceLeDiff, Nat.reduceLT, Nat.reduceSub, Nat.succ_ne_zero, Nat.one_ne_zero, Nat.zero_ne_one, true_implies, false_implies, forall_const, implies_true, reduceCtorEq, eq_self, ite_true, ite_false, decide_true, decide_false, Nat.le_refl, Bool.false_eq_true, if_true, if_false, hx]
      refine ⟨by omega, fun b5 => ?_⟩
      have hok := h7.2 xs[i] (List.getElem_mem hlt)
      refine (c_CloneI ht (by omega)).mono ?_
      rintro o G4 Es hg4 ⟨w', rfl, hw', rfl⟩
      have hw0 := hw'
      obtain ⟨aw, cw, rfl, -⟩ := hw'
      simp only [GV, frArgs, memArgs, resV, fillL, ← Bool.decide_or, ← Bool.decide_and, ← decide_not, ↓reduceIte, Nat.reduceEqDiff, Nat.reduceAdd, Nat.reduceMul, Nat.reduceLeDiff, Nat.reduceLT, Nat.reduceSub, Nat.succ_ne_zero, Nat.one_ne_zero, Nat.zero_ne_one, true_implies, false_implies, forall_const, implies_true, reduceCtorEq, eq_self, ite_true, ite_false, decide_true, decide_false, Nat.le_refl, Bool.false_eq_true, if_true, if_false]
      refine (c_CloneI (hgt.mono hg4) (by omega)).mono ?_
      rintro o G5 Es hg5 ⟨u', rfl, hu', rfl⟩
      have hu0 := hu'
      obtain ⟨au, cu, rfl, -⟩ := hu'
      simp only [GV, frArgs, memArgs, resV, fillL, ← Bool.decide_or, ← Bool.decide_and, ← decide_not, ↓reduceIte, Nat.reduceEqDiff, Nat.reduceAdd, Nat.reduceMul, Nat.reduceLeDiff, Nat.reduceLT, Nat.reduceSub, Nat.succ_ne_zero, Nat.one_ne_zero, Nat.zero_ne_one, true_implies, false_implies, forall_const, implies_true, reduceCtorEq, eq_self, ite_true, ite_false, decide_true, decide_false, Nat.le_refl, Bool.false_eq_true, if_true, if_false]
      refine bsl_intro fun b6 G6 hg6 hc => ?_
      obtain ⟨css, h9, h10⟩ := ((hx4.mono hg4).mono hg5).mono hg6
      have hlen := h10.1
      rw [List.length_take_of_le hi] at hlen
      simp only [GV, frArgs, memArgs, resV, fillL, ← Bool.decide_or, ← Bool.decide_and, ← decide_not, ↓reduceIte, Nat.reduceEqDiff, Nat.reduceAdd, Nat.reduceMul, Nat.reduceLeDiff, Nat.reduceLT, Nat.reduceSub, Nat.succ_ne_zero, Nat.one_ne_zero, Nat.zero_ne_one, true_implies, false_implies, forall_const, implies_true, reduceCtorEq, eq_self, ite_true, ite_false, decide_true, decide_false, Nat.le_refl, Bool.false_eq_true, if_true, if_false]
      refine app_moreN rfl h9 h10.len (row_one hc rfl) rfl (by simp; exact ⟨rfl, rfl⟩) (by omega) (fun v' es' G7 hg7 ho => ?_)
      have hx : OwnX G7 v' (xs.take (i + 1)) es' := by
        rw [List.take_succ_eq_append_getElem hlt]
        exact ⟨_, ho, exits_more (h10.mono hg7) ((hw0.mono hg5).mono (hg6.trans hg7)) (hu0.mono (hg6.trans hg7))⟩
      obtain ⟨a5, c5, rfl⟩ := hx.len
      simp only [GV, frArgs, memArgs, resV, fillL, ← Bool.decide_or, ← Bool.decide_and, ← decide_not, ↓reduceIte, Nat.reduceEqDiff, Nat.reduceAdd, Nat.reduceMul, Nat.reduceLeDiff, Nat.reduceLT, Nat.reduceSub, Nat.succ_ne_zero, Nat.one_ne_zero, Nat.zero_ne_one, true_implies, false_implies, forall_const, implies_true, reduceCtorEq, eq_self, ite_true, ite_false, decide_true, decide_false, Nat.le_refl, Bool.false_eq_true, if_true, if_false, wrapn (show i < maxLen by simp only [maxLen]; omega)]
      exact ⟨xs.length - (i + 1), by omega, i + 1, _, es', rfl, by omega, hg3.trans (hg4.trans (hg5.trans (hg6.trans hg7))), hx, rfl, rfl⟩
    · have et : xs.take i = xs := List.take_of_length_le (by omega)
      rw [et] at hx4
      have hc4 := hx4.slX
      have hw1' := hw1
      obtain ⟨d1, e1, rfl, -⟩ := hw1'
      have hw2' := hw2
      obtain ⟨d2, e2, rfl, -⟩ := hw2'
      simp only [GV, frArgs, memArgs, resV, fillL, ← Bool.decide_or, ← Bool.decide_and, ← decide_not, ↓reduceIte, Nat.reduceEqDiff, Nat.reduceAdd, Nat.reduceMul, Nat.reduceLeDiff, Nat.reduceLT, Nat.reduceSub, Nat.succ_ne_zero, Nat.one_ne_zero, Nat.zero_ne_one, true_implies, false_implies, forall_const, implies_true, reduceCtorEq, eq_self, ite_true, ite_false, decide_true, decide_false, Nat.le_refl, Bool.false_eq_true, if_true, if_false, if_neg hp, et]
      exact ⟨_, rfl, _, _, _, rfl, hw1.mono hg3, hw2.mono hg3, hc4⟩
end Go.Gv.W
