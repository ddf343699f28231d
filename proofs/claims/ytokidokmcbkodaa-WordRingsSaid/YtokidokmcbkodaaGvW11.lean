/-
  Boards: exits, and the circuit. No condition.
-/
import Derived.Test.YtokidokmcbkodaaGvW10
namespace Go.Gv.W
set_option linter.unusedSimpArgs false
set_option linter.unusedVariables false
set_option linter.unusedSectionVars false
open Go.RowKit Go.Proofs

/-- (*junto/word.Board).Tell -/
def r_word_Board_Tell : RFn := ⟨45,
  .seq (.reg [] [
    ⟨(some 3), none, .box 103 56 (.t 1)⟩,
    ⟨(some 4), none, .mv (.c (.int .i64 0))⟩]) <|
  .keep [0, 3] <|
  .seq (.seq (.reg [] [
    ⟨(some 6), none, .mv (.t 0)⟩,
    ⟨(some 7), none, .call [0] [0] 24 [(.t 6)]⟩,
    ⟨(some 8), none, .un .not (.t 7)⟩]) <|
  .keep [0, 3, 8] <|
  .cond (.t 8)
    (.seq (.reg [] [
      ⟨(some 4), none, .mv (.c (.int .i64 1))⟩]) <|
    .ret)
    (.skip)) <|
  .keep [0, 3] <|
  .seq (.seq (.dreg [] <|
    .take 0 ⟨(some 9), none, .mv (.t 0)⟩ <|
    .take 1 ⟨(some 10), none, .nil (.t 9)⟩ <|
    .take 2 ⟨(some 11), none, .fad 1 (.t 10)⟩ <|
    .take 3 ⟨(some 12), none, .fad 1 (.t 11)⟩ <|
    .held 4 ⟨(some 13), none, .ld none (some (0, 0)) (.t 12)⟩ <|
    .take 5 ⟨(some 14), none, .len (.t 13)⟩ <|
    .exec [] 6 ⟨(some 15), none, .ld (some 2) (some (103, 0)) (.t 3)⟩ <|
    .exec [] 7 ⟨(some 16), none, .call [] [] 70 [(.t 14), (.t 15)]⟩ <|
    .exec [] 8 ⟨(some 5), none, .mv (.t 16)⟩ <|
    .done) <|
  .keep [0, 3, 5] <|
  .seq (.reg [] [
    ⟨(some 17), none, .mv (.t 5)⟩,
    ⟨(some 18), none, .bin .neq (.t 17) (.c (.int .i64 0))⟩]) <|
  .keep [0, 3, 5, 18] <|
  .cond (.t 18)
    (.seq (.reg [] [
      ⟨(some 19), none, .mv (.t 5)⟩,
      ⟨(some 4), none, .mv (.t 19)⟩]) <|
    .ret)
    (.skip)) <|
  .keep [0, 3] <|
  .seq (.seq (.reg [] [
    ⟨(some 20), none, .mv (.t 0)⟩,
    ⟨(some 21), none, .nil (.t 20)⟩,
    ⟨(some 22), none, .fad 1 (.t 21)⟩,
    ⟨(some 23), none, .fad 2 (.t 22)⟩,
    ⟨(some 24), none, .ld none (some (0, 0)) (.t 23)⟩,
    ⟨(some 25), none, .len (.t 24)⟩,
    ⟨(some 26), none, .bin .geq (.t 25) (.c (.int .i64 4096))⟩]) <|
  .keep [0, 3, 26] <|
  .cond (.t 26)
    (.seq (.reg [] [
      ⟨(some 4), none, .mv (.c (.int .i64 3))⟩]) <|
    .ret)
    (.skip)) <|
  .keep [0, 3] <|
  .seq (.dreg [] <|
    .take 0 ⟨(some 27), none, .mv (.t 0)⟩ <|
    .take 1 ⟨(some 28), none, .mv (.t 0)⟩ <|
    .take 2 ⟨(some 29), none, .nil (.t 28)⟩ <|
    .take 3 ⟨(some 30), none, .fad 1 (.t 29)⟩ <|
    .take 4 ⟨(some 31), none, .fad 2 (.t 30)⟩ <|
    .take 6 ⟨(some 33), none, .fad 0 (.t 3)⟩ <|
    .take 9 ⟨(some 36), none, .fad 1 (.t 3)⟩ <|
    .held 5 ⟨(some 32), none, .ld none (some (0, 0)) (.t 31)⟩ <|
    .held 7 ⟨(some 34), none, .ld none (some (103, 0)) (.t 33)⟩ <|
    .held 10 ⟨(some 37), none, .ld none (some (103, 0)) (.t 36)⟩ <|
    .exec [] 8 ⟨(some 35), none, .call [] [] 28 [(.t 34)]⟩ <|
    .exec [] 11 ⟨(some 38), none, .call [] [] 28 [(.t 37)]⟩ <|
    .exec [] 12 ⟨(some 39), none, .bld [(.slice none 0 0), (.slice none 0 0)] [(0, 1), (1, 1)] [(0, (.t 35)), (1, (.t 38))]⟩ <|
    .exec [] 13 ⟨(some 40), none, .bsl none 56 1 2 [(.slice none 0 0), (.slice none 0 0)] [(0, 2)] [(0, (.t 39))]⟩ <|
    .exec [5] 14 ⟨(some 41), none, .app (some 3) 3 56 2 48 (.t 32) (.t 40)⟩ <|
    .exec [] 15 ⟨(some 42), none, .nil (.t 27)⟩ <|
    .exec [] 16 ⟨(some 43), none, .fad 1 (.t 42)⟩ <|
    .exec [] 17 ⟨(some 44), none, .fad 2 (.t 43)⟩ <|
    .exec [] 18 ⟨none, none, .st 1 0 0 (.t 44) (.t 41)⟩ <|
    .done) <|
  .keep [] <|
  .seq (.reg [] [
    ⟨(some 4), none, .mv (.c (.int .i64 0))⟩]) <|
  .ret,
  [.tmp 4], [0, 1, 2, 3], [0, 1, 2, 3]⟩

theorem k_word_Board_Tell : rbFn Try.prog 44 r_word_Board_Tell = some r_word_Board_Tell := by kernel_rfl


/-- An exit more. -/
def Bd.tell (B : Bd) (x : Exit) : Int × Bd :=
  if B.p = 0 then (1, B) else if exitErr B.c.gates.length x ≠ 0 then (exitErr B.c.gates.length x, B) else if 4096 ≤ B.c.exits.length then (3, B) else
    (0, { B with c := { B.c with exits := B.c.exits ++ [x] } })
theorem exitErr_ok {n : Nat} {x : Exit} (h : exitErr n x = 0) : x.to.length ≤ 13 ∧ x.gates.length ≤ 1024 := by
  have hr : risingB 13 0 x.to = true := by
    cases hr : risingB 13 0 x.to with
    | true => rfl
    | false => rw [exitErr, if_pos hr] at h; cases h
  have hg : x.gates.length ≤ 1024 := by
    rw [exitErr, if_neg (by rw [hr]; simp)] at h
    split at h
    · cases h
    · omega
  refine ⟨?_, hg⟩
  have key : ∀ (l : List Int) (m : Int), m ≤ 13 → risingB 13 m l = true → (l.length : Int) + m ≤ 13 := by
    intro l
    induction l with
    | nil => intro m hm _; simpa using hm
    | cons t r ih =>
      intro m _ h
      simp only [risingB, Bool.and_eq_true, decide_eq_true_eq] at h
      have := ih t h.1.2 h.2
      simp only [List.length_cons]; omega
  have := key x.to 0 (by omega) hr
  omega
theorem exits_more {G : GH} {css : List (List Value)} {l : List Exit} {v u : Value} {x : Exit} (h : ExitsV G css l) (hv : SlI G .i64 v x.to) (hu : SlI G .i64 u x.gates) : ExitsV G (css ++ [[v, u]]) (l ++ [x]) := by
  refine ⟨by simp [h.1], fun j h1 h2 => ?_⟩
  rcases Nat.lt_or_ge j l.length with h3 | h3
  · rw [List.getElem_append_left (by rw [h.1]; exact h3), List.getElem_append_left h3]
    exact h.2 j h3 _
  · have : j = l.length := by simp at h1; omega
    subst this
    rw [List.getElem_append_right (by rw [h.1]; exact Nat.le_refl _), List.getElem_append_right (Nat.le_refl _)]
    simp only [h.1, Nat.sub_self, List.getElem_cons_zero]
    exact ⟨v, u, rfl, hv, hu⟩

set_option maxHeartbeats 1000000 in
set_option maxRecDepth 20000 in
theorem c_Tell {G : GH} {v w u : Value} {B : Bd} {Es : List (List Ent)} {x : Exit} (hb : BoardV G v B Es) (hto : SlI G .i64 w x.to) (hga : SlI G .i64 u x.gates) :
    ACalls Try.prog 44 [v, .agg #[w, u]] G Es fun o G' Es' => o = .ret (.int .i64 (B.tell x).1) ∧ BoardV G' v (B.tell x).2 Es' := by
  have hb0 := hb
  have hto0 := hto
  have hga0 := hga
  obtain ⟨at_, ct, rfl, -⟩ := hto
  obtain ⟨ag, cg, rfl, -⟩ := hga
  rcases hb with ⟨rfl, rfl, rfl⟩ | ⟨bb, rfl, v1, v2, v3, es1, es2, es3, rfl, h1, h2, h3, h4, h5, h6, h7⟩
  · refine acalls mixed k_word_Board_Tell (by simp) fun F => ?_
    simp only [GV, frArgs, memArgs, resV, fillL, ← Bool.decide_or, ← Bool.decide_and, ← decide_not, ↓reduceIte, Nat.reduceEqDiff, Nat.reduceAdd, Nat.reduceMul, Nat.reduceLeDiff, Nat.reduceLT, Nat.reduceSub, Nat.succ_ne_zero, Nat.one_ne_zero, Nat.zero_ne_one, true_implies, false_implies, forall_const, implies_true, reduceCtorEq, eq_self, ite_true, ite_false, decide_true, decide_false, Nat.le_refl, Bool.false_eq_true, if_true, if_false]
    intro bg
    refine (c_made hb0).mono ?_
    rintro o G1 Es hg ⟨rfl, rfl, rfl⟩
    simp only [GV, frArgs, memArgs, resV, fillL, ← Bool.decide_or, ← Bool.decide_and, ← decide_not, ↓reduceIte, Nat.reduceEqDiff, Nat.reduceAdd, Nat.reduceMul, Nat.reduceLeDiff, Nat.reduceLT, Nat.reduceSub, Nat.succ_ne_zero, Nat.one_ne_zero, Nat.zero_ne_one, true_implies, false_implies, forall_const, implies_true, reduceCtorEq, eq_self, ite_true, ite_false, decide_true, decide_false, Nat.le_refl, Bool.false_eq_true, if_true, if_false, ne_eq, not_true_eq_false]
    exact ⟨rfl, hb0⟩
  · obtain ⟨p, ss, gs, xs⟩ := B
    simp only at *
    obtain ⟨a2, c2, rfl⟩ := gatesV_len h2
    obtain ⟨a3, c3, rfl⟩ := h3.len
    refine acalls mixed k_word_Board_Tell (by simp) fun F => ?_
    simp only [GV, frArgs, memArgs, resV, fillL, ← Bool.decide_or, ← Bool.decide_and, ← decide_not, ↓reduceIte, Nat.reduceEqDiff, Nat.reduceAdd, Nat.reduceMul, Nat.reduceLeDiff, Nat.reduceLT, Nat.reduceSub, Nat.succ_ne_zero, Nat.one_ne_zero, Nat.zero_ne_one, true_implies, false_implies, forall_const, implies_true, reduceCtorEq, eq_self, ite_true, ite_false, decide_true, decide_false, Nat.le_refl, Bool.false_eq_true, if_true, if_false]
    intro bg
    refine (c_made hb0).mono ?_
    rintro o G1 Es hg ⟨rfl, rfl, rfl⟩
    simp only [GV, frArgs, memArgs, resV, fillL, ← Bool.decide_or, ← Bool.decide_and, ← decide_not, ↓reduceIte, Nat.reduceEqDiff, Nat.reduceAdd, Nat.reduceMul, Nat.reduceLeDiff, Nat.reduceLT, Nat.reduceSub, Nat.succ_ne_zero, Nat.one_ne_zero, Nat.zero_ne_one, true_implies, false_implies, forall_const, implies_true, reduceCtorEq, eq_self, ite_true, ite_false, decide_true, decide_false, Nat.le_refl, Bool.false_eq_true, if_true, if_false]
    refine cond_dec (fun hp => ?_) (fun hp => ?_)
    · have hp : p = 0 := by simpa using hp
      simp only [GV, frArgs, memArgs, resV, fillL, ← Bool.decide_or, ← Bool.decide_and, ← decide_not, ↓reduceIte, Nat.reduceEqDiff, Nat.reduceAdd, Nat.reduceMul, Nat.reduceLeDiff, Nat.reduceLT, Nat.reduceSub, Nat.succ_ne_zero, Nat.one_ne_zero, Nat.zero_ne_one, true_implies, false_implies, forall_const, implies_true, reduceCtorEq, eq_self, ite_true, ite_false, decide_true, decide_false, Nat.le_refl, Bool.false_eq_true, if_true, if_false, Bd.tell, hp]
      simpa only [hp] using hb0
    have hp : p ≠ 0 := by simpa using hp
    simp only [GV, frArgs, memArgs, resV, fillL, ← Bool.decide_or, ← Bool.decide_and, ← decide_not, ↓reduceIte, Nat.reduceEqDiff, Nat.reduceAdd, Nat.reduceMul, Nat.reduceLeDiff, Nat.reduceLT, Nat.reduceSub, Nat.succ_ne_zero, Nat.one_ne_zero, Nat.zero_ne_one, true_implies, false_implies, forall_const, implies_true, reduceCtorEq, eq_self, ite_true, ite_false, decide_true, decide_false, Nat.le_refl, Bool.false_eq_true, if_true, if_false]
    refine (c_Exit (x := x) hto0 hga0).mono ?_
    rintro o G2 Es hg2 ⟨rfl, rfl, rfl⟩
    simp only [GV, frArgs, memArgs, resV, fillL, ← Bool.decide_or, ← Bool.decide_and, ← decide_not, ↓reduceIte, Nat.reduceEqDiff, Nat.reduceAdd, Nat.reduceMul, Nat.reduceLeDiff, Nat.reduceLT, Nat.reduceSub, Nat.succ_ne_zero, Nat.one_ne_zero, Nat.zero_ne_one, true_implies, false_implies, forall_const, implies_true, reduceCtorEq, eq_self, ite_true, ite_false, decide_true, decide_false, Nat.le_refl, Bool.false_eq_true, if_true, if_false]
    refine cond_dec (fun he => ?_) (fun he => ?_)
    · simp only [GV, frArgs, memArgs, resV, fillL, ← Bool.decide_or, ← Bool.decide_and, ← decide_not, ↓reduceIte, Nat.reduceEqDiff, Nat.reduceAdd, Nat.reduceMul, Nat.reduceLeDiff, Nat.reduceLT, Nat.reduceSub, Nat.succ_ne_zero, Nat.one_ne_zero, Nat.zero_ne_one, true_implies, false_implies, forall_const, implies_true, reduceCtorEq, eq_self, ite_true, ite_false, decide_true, decide_false, Nat.le_refl, Bool.false_eq_true, if_true, if_false, Bd.tell, if_neg hp, if_pos he]
      exact hb0
    simp only [GV, frArgs, memArgs, resV, fillL, ← Bool.decide_or, ← Bool.decide_and, ← decide_not, ↓reduceIte, Nat.reduceEqDiff, Nat.reduceAdd, Nat.reduceMul, Nat.reduceLeDiff, Nat.reduceLT, Nat.reduceSub, Nat.succ_ne_zero, Nat.one_ne_zero, Nat.zero_ne_one, true_implies, false_implies, forall_const, implies_true, reduceCtorEq, eq_self, ite_true, ite_false, decide_true, decide_false, Nat.le_refl, Bool.false_eq_true, if_true, if_false]
    refine cond_dec (fun h8 => ?_) (fun h8 => ?_)
    · simp only [GV, frArgs, memArgs, resV, fillL, ← Bool.decide_or, ← Bool.decide_and, ← decide_not, ↓reduceIte, Nat.reduceEqDiff, Nat.reduceAdd, Nat.reduceMul, Nat.reduceLeDiff, Nat.reduceLT, Nat.reduceSub, Nat.succ_ne_zero, Nat.one_ne_zero, Nat.zero_ne_one, true_implies, false_implies, forall_const, implies_true, reduceCtorEq, eq_self, ite_true, ite_false, decide_true, decide_false, Nat.le_refl, Bool.false_eq_true, if_true, if_false, Bd.tell, if_neg hp, if_neg he, if_pos (show 4096 ≤ xs.length by omega)]
      exact hb0
    have hok := exitErr_ok (Decidable.not_not.1 he)
    simp only [GV, frArgs, memArgs, resV, fillL, ← Bool.decide_or, ← Bool.decide_and, ← decide_not, ↓reduceIte, Nat.reduceEqDiff, Nat.reduceAdd, Nat.reduceMul, Nat.reduceLeDiff, Nat.reduceLT, Nat.reduceSub, Nat.succ_ne_zero, Nat.one_ne_zero, Nat.zero_ne_one, true_implies, false_implies, forall_const, implies_true, reduceCtorEq, eq_self, ite_true, ite_false, decide_true, decide_false, Nat.le_refl, Bool.false_eq_true, if_true, if_false]
    refine (c_CloneI hto0 (by omega)).mono ?_
    rintro o G3 Es hg3 ⟨w', rfl, hw', rfl⟩
    have hw0 := hw'
    obtain ⟨aw, cw, rfl, -⟩ := hw'
    simp only [GV, frArgs, memArgs, resV, fillL, ← Bool.decide_or, ← Bool.decide_and, ← decide_not, ↓reduceIte, Nat.reduceEqDiff, Nat.reduceAdd, Nat.reduceMul, Nat.reduceLeDiff, Nat.reduceLT, Nat.reduceSub, Nat.succ_ne_zero, Nat.one_ne_zero, Nat.zero_ne_one, true_implies, false_implies, forall_const, implies_true, reduceCtorEq, eq_self, ite_true, ite_false, decide_true, decide_false, Nat.le_refl, Bool.false_eq_true, if_true, if_false]
    refine (c_CloneI (hga0.mono hg3) (by omega)).mono ?_
    rintro o G4 Es hg4 ⟨u', rfl, hu', rfl⟩
    have hu0 := hu'
    obtain ⟨au, cu, rfl, -⟩ := hu'
    simp only [GV, frArgs, memArgs, resV, fillL, ← Bool.decide_or, ← Bool.decide_and, ← decide_not, ↓reduceIte, Nat.reduceEqDiff, Nat.reduceAdd, Nat.reduceMul, Nat.reduceLeDiff, Nat.reduceLT, Nat.reduceSub, Nat.succ_ne_zero, Nat.one_ne_zero, Nat.zero_ne_one, true_implies, false_implies, forall_const, implies_true, reduceCtorEq, eq_self, ite_true, ite_false, decide_true, decide_false, Nat.le_refl, Bool.false_eq_true, if_true, if_false]
    refine bsl_intro fun b G5 hg5 hc => ?_
    obtain ⟨css, h9, h10⟩ := ((h3.mono hg3).mono hg4).mono hg5
    simp only [GV, frArgs, memArgs, resV, fillL, ← Bool.decide_or, ← Bool.decide_and, ← decide_not, ↓reduceIte, Nat.reduceEqDiff, Nat.reduceAdd, Nat.reduceMul, Nat.reduceLeDiff, Nat.reduceLT, Nat.reduceSub, Nat.succ_ne_zero, Nat.one_ne_zero, Nat.zero_ne_one, true_implies, false_implies, forall_const, implies_true, reduceCtorEq, eq_self, ite_true, ite_false, decide_true, decide_false, Nat.le_refl, Bool.false_eq_true, if_true, if_false]
    have hlen := h10.1
    refine app_moreN rfl h9 h10.len (row_one hc rfl) rfl (by simp; exact ⟨rfl, rfl⟩) (by omega) (fun v' es' G6 hg6 ho => ?_)
    have hx : OwnX G6 v' (xs ++ [x]) es' := ⟨_, ho, exits_more (h10.mono hg6) ((hw0.mono hg4).mono (hg5.trans hg6)) (hu0.mono (hg5.trans hg6))⟩
    obtain ⟨a5, c5, rfl⟩ := hx.len
    simp only [GV, frArgs, memArgs, resV, fillL, ← Bool.decide_or, ← Bool.decide_and, ← decide_not, ↓reduceIte, Nat.reduceEqDiff, Nat.reduceAdd, Nat.reduceMul, Nat.reduceLeDiff, Nat.reduceLT, Nat.reduceSub, Nat.succ_ne_zero, Nat.one_ne_zero, Nat.zero_ne_one, true_implies, false_implies, forall_const, implies_true, reduceCtorEq, eq_self, ite_true, ite_false, decide_true, decide_false, Nat.le_refl, Bool.false_eq_true, if_true, if_false, Bd.tell, if_neg hp, if_neg he, if_neg (show ¬ 4096 ≤ xs.length by omega)]
    refine .inr ⟨bb, rfl, _, _, _, _, _, _, rfl, h1.mono (hg3.trans (hg4.trans (hg5.trans hg6))), h2, hx, h4, h5, h6, ?_, fun y hy => ?_⟩
    · simp only [List.length_append, List.length_cons, List.length_nil]; omega
    · rcases List.mem_append.1 hy with hy | hy
      · exact h7.2 y hy
      · simp only [List.mem_cons, List.not_mem_nil, or_false] at hy
        subst hy; exact hok
end Go.Gv.W
