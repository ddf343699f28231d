/-
  Boards: slots, constants, exits. No condition.
-/
import Derived.Test.YtokidokmcbkodaaGvW09
namespace Go.Gv.W
set_option linter.unusedSimpArgs false
set_option linter.unusedVariables false
set_option linter.unusedSectionVars false
open Go.RowKit Go.Proofs

/-- (*junto/word.Board).Slot -/
def r_word_Board_Slot : RFn := ⟨74,
  .seq (.reg [] [
    ⟨(some 3), none, .box 103 30 (.t 1)⟩,
    ⟨(some 4), none, .mv (.c (.int .i64 0))⟩,
    ⟨(some 5), none, .mv (.c (.int .i64 0))⟩]) <|
  .keep [0, 3] <|
  .seq (.block 0 <|
  .seq (.reg [] [
    ⟨(some 7), none, .mv (.t 0)⟩,
    ⟨(some 8), none, .call [0] [0] 24 [(.t 7)]⟩,
    ⟨(some 9), none, .un .not (.t 8)⟩,
    ⟨(some 6), none, .mv (.t 9)⟩]) <|
  .keep [0, 3, 6] <|
  .cond (.t 6)
    (.seq (.reg [] [
      ⟨(some 4), none, .mv (.c (.int .i64 0))⟩,
      ⟨(some 5), none, .mv (.c (.int .i64 1))⟩]) <|
    .ret)
    (.seq (.reg [] [
      ⟨(some 11), none, .fad 0 (.t 3)⟩,
      ⟨(some 12), none, .ld none (some (103, 0)) (.t 11)⟩,
      ⟨(some 13), none, .bin .lss (.t 12) (.c (.int .i64 1))⟩,
      ⟨(some 14), none, .mv (.t 13)⟩,
      ⟨(some 15), (some (14, false, true)), .fad 0 (.t 3)⟩,
      ⟨(some 16), (some (14, false, true)), .ld none (some (103, 0)) (.t 15)⟩,
      ⟨(some 17), (some (14, false, true)), .bin .gtr (.t 16) (.c (.int .i64 13))⟩,
      ⟨(some 18), none, .pick (.t 14) (.c (.bool true)) (.t 17)⟩,
      ⟨(some 10), none, .mv (.t 18)⟩]) <|
    .keep [0, 3, 10] <|
    .cond (.t 10)
      (.seq (.reg [] [
        ⟨(some 4), none, .mv (.c (.int .i64 0))⟩,
        ⟨(some 5), none, .mv (.c (.int .i64 2))⟩]) <|
      .ret)
      (.seq (.reg [] [
        ⟨(some 20), none, .mv (.t 0)⟩,
        ⟨(some 21), none, .nil (.t 20)⟩,
        ⟨(some 22), none, .fad 1 (.t 21)⟩,
        ⟨(some 23), none, .fad 0 (.t 22)⟩,
        ⟨(some 24), none, .ld none (some (0, 0)) (.t 23)⟩,
        ⟨(some 25), none, .len (.t 24)⟩,
        ⟨(some 26), none, .bin .geq (.t 25) (.c (.int .i64 256))⟩,
        ⟨(some 27), none, .mv (.t 26)⟩,
        ⟨(some 28), (some (27, false, true)), .mv (.t 0)⟩,
        ⟨(some 29), (some (27, false, true)), .nil (.t 28)⟩,
        ⟨(some 30), (some (27, false, true)), .fad 1 (.t 29)⟩,
        ⟨(some 31), (some (27, false, true)), .fad 1 (.t 30)⟩,
        ⟨(some 32), (some (27, false, true)), .ld none (some (0, 0)) (.t 31)⟩,
        ⟨(some 33), (some (27, false, true)), .len (.t 32)⟩,
        ⟨(some 34), (some (27, false, true)), .bin .geq (.t 33) (.c (.int .i64 65536))⟩,
        ⟨(some 35), none, .pick (.t 27) (.c (.bool true)) (.t 34)⟩,
        ⟨(some 19), none, .mv (.t 35)⟩]) <|
      .keep [0, 3, 19] <|
      .cond (.t 19)
        (.seq (.reg [] [
          ⟨(some 4), none, .mv (.c (.int .i64 0))⟩,
          ⟨(some 5), none, .mv (.c (.int .i64 3))⟩]) <|
        .ret)
        (.skip)))) <|
  .keep [0, 3] <|
  .seq (.dreg [] <|
    .take 0 ⟨(some 36), none, .mv (.t 0)⟩ <|
    .take 1 ⟨(some 37), none, .mv (.t 0)⟩ <|
    .take 2 ⟨(some 38), none, .nil (.t 37)⟩ <|
    .take 3 ⟨(some 39), none, .fad 1 (.t 38)⟩ <|
    .take 4 ⟨(some 40), none, .fad 0 (.t 39)⟩ <|
    .held 5 ⟨(some 41), none, .ld none (some (0, 0)) (.t 40)⟩ <|
    .exec [] 6 ⟨(some 42), none, .ld (some 2) (some (103, 0)) (.t 3)⟩ <|
    .exec [] 7 ⟨(some 43), none, .bsl none 30 1 2 [(.int .i64 0), (.bool false)] [(0, 2)] [(0, (.t 42))]⟩ <|
    .exec [5] 8 ⟨(some 44), none, .app (some 1) 1 30 2 16 (.t 41) (.t 43)⟩ <|
    .exec [] 9 ⟨(some 45), none, .nil (.t 36)⟩ <|
    .exec [] 10 ⟨(some 46), none, .fad 1 (.t 45)⟩ <|
    .exec [] 11 ⟨(some 47), none, .fad 0 (.t 46)⟩ <|
    .exec [] 12 ⟨none, none, .st 1 0 0 (.t 47) (.t 44)⟩ <|
    .done) <|
  .keep [0] <|
  .seq (.dreg [] <|
    .take 0 ⟨(some 48), none, .mv (.t 0)⟩ <|
    .take 1 ⟨(some 49), none, .mv (.t 0)⟩ <|
    .take 2 ⟨(some 50), none, .nil (.t 49)⟩ <|
    .take 3 ⟨(some 51), none, .fad 1 (.t 50)⟩ <|
    .take 4 ⟨(some 52), none, .fad 1 (.t 51)⟩ <|
    .take 6 ⟨(some 54), none, .mv (.t 0)⟩ <|
    .take 7 ⟨(some 55), none, .nil (.t 54)⟩ <|
    .take 8 ⟨(some 56), none, .fad 1 (.t 55)⟩ <|
    .take 9 ⟨(some 57), none, .fad 0 (.t 56)⟩ <|
    .held 5 ⟨(some 53), none, .ld none (some (0, 0)) (.t 52)⟩ <|
    .exec [] 10 ⟨(some 58), none, .ld none (some (0, 0)) (.t 57)⟩ <|
    .exec [] 11 ⟨(some 59), none, .len (.t 58)⟩ <|
    .exec [] 12 ⟨(some 60), none, .bin .sub (.t 59) (.c (.int .i64 1))⟩ <|
    .exec [] 13 ⟨(some 61), none, .bld [(.int .i64 0), (.int .i64 0), (.int .i64 0), (.int .u64 0)] [(0, 1), (1, 1), (2, 1), (3, 1)] [(0, (.c (.int .i64 1))), (1, (.t 60))]⟩ <|
    .exec [] 14 ⟨(some 62), none, .bsl none 33 1 4 [(.int .i64 0), (.int .i64 0), (.int .i64 0), (.int .u64 0)] [(0, 4)] [(0, (.t 61))]⟩ <|
    .exec [5] 15 ⟨(some 63), none, .apx true none (some 2) 2 33 4 32 (.t 53) (.t 62)⟩ <|
    .exec [] 16 ⟨(some 64), none, .nil (.t 48)⟩ <|
    .exec [] 17 ⟨(some 65), none, .fad 1 (.t 64)⟩ <|
    .exec [] 18 ⟨(some 66), none, .fad 1 (.t 65)⟩ <|
    .exec [] 19 ⟨none, none, .st 1 0 0 (.t 66) (.t 63)⟩ <|
    .done) <|
  .keep [0] <|
  .seq (.reg [] [
    ⟨(some 67), none, .mv (.t 0)⟩,
    ⟨(some 68), none, .nil (.t 67)⟩,
    ⟨(some 69), none, .fad 1 (.t 68)⟩,
    ⟨(some 70), none, .fad 1 (.t 69)⟩,
    ⟨(some 71), none, .ld none (some (0, 0)) (.t 70)⟩,
    ⟨(some 72), none, .len (.t 71)⟩,
    ⟨(some 73), none, .bin .sub (.t 72) (.c (.int .i64 1))⟩,
    ⟨(some 4), none, .mv (.t 73)⟩,
    ⟨(some 5), none, .mv (.c (.int .i64 0))⟩]) <|
  .ret,
  [.tmp 4, .tmp 5], [0, 1, 2, 3], [0, 1, 2, 3]⟩

theorem k_word_Board_Slot : rbFn Try.prog 7 r_word_Board_Slot = some r_word_Board_Slot := by kernel_rfl

/-- (*junto/word.Board).Const -/
def r_word_Board_Const : RFn := ⟨12,
  .seq (.reg [] [
    ⟨(some 4), none, .mv (.c (.int .i64 0))⟩,
    ⟨(some 5), none, .mv (.c (.int .i64 0))⟩]) <|
  .keep [0, 1] <|
  .seq (.reg [] [
    ⟨(some 6), none, .mv (.t 0)⟩,
    ⟨(some 7), none, .mv (.t 1)⟩,
    ⟨(some 8), none, .bld [(.int .i64 0), (.int .i64 0), (.int .i64 0), (.int .u64 0)] [(0, 1), (1, 1), (2, 1), (3, 1)] [(0, (.c (.int .i64 2))), (3, (.t 7))]⟩,
    ⟨(some 9), none, .call [0, 1, 2, 3] [0, 1, 2, 3] 8 [(.t 6), (.t 8)]⟩,
    ⟨(some 10), none, .ext 0 (.t 9)⟩,
    ⟨(some 11), none, .ext 1 (.t 9)⟩,
    ⟨(some 4), none, .mv (.t 10)⟩,
    ⟨(some 5), none, .mv (.t 11)⟩]) <|
  .ret,
  [.tmp 4, .tmp 5], [0, 1, 2, 3], [0, 1, 2, 3]⟩

theorem k_word_Board_Const : rbFn Try.prog 9 r_word_Board_Const = some r_word_Board_Const := by kernel_rfl


/-- A slot more. -/
def Bd.slot (B : Bd) (x : Slot) : Int × Int × Bd :=
  if B.p = 0 then (0, 1, B) else if x.party < 1 ∨ 13 < x.party then (0, 2, B) else if 256 ≤ B.c.slots.length ∨ 65536 ≤ B.c.gates.length then (0, 3, B) else
    ((B.c.gates.length : Nat), 0, { B with c := { B.c with slots := B.c.slots ++ [x], gates := B.c.gates ++ [⟨1, (B.c.slots.length : Nat), 0, 0⟩] } })

set_option maxHeartbeats 1000000 in
set_option maxRecDepth 20000 in
theorem c_Slot {G : GH} {v : Value} {B : Bd} {Es : List (List Ent)} {s : Slot} (hb : BoardV G v B Es) :
    ACalls Try.prog 7 [v, .agg s.enc.toArray] G Es fun o G' Es' => o = .ret (.tuple #[.int .i64 (B.slot s).1, .int .i64 (B.slot s).2.1]) ∧ BoardV G' v (B.slot s).2.2 Es' := by
  have hb0 := hb
  obtain ⟨y, z⟩ := s
  rcases hb with ⟨rfl, rfl, rfl⟩ | ⟨bb, rfl, v1, v2, v3, es1, es2, es3, rfl, h1, h2, h3, h4, h5, h6, h7⟩
  · refine acalls mixed k_word_Board_Slot (by simp) fun F => ?_
    simp only [GV, frArgs, memArgs, resV, fillL, ← Bool.decide_or, ← Bool.decide_and, ← decide_not, ↓reduceIte, Nat.reduceEqDiff, Nat.reduceAdd, Nat.reduceMul, Nat.reduceLeDiff, Nat.reduceLT, Nat.reduceSub, Nat.succ_ne_zero, Nat.one_ne_zero, Nat.zero_ne_one, true_implies, false_implies, forall_const, implies_true, reduceCtorEq, eq_self, ite_true, ite_false, decide_true, decide_false, Nat.le_refl, Bool.false_eq_true, if_true, if_false, Slot.enc]
    intro bg
    refine (c_made hb0).mono ?_
    rintro o G1 Es hg ⟨rfl, rfl, rfl⟩
    simp only [GV, frArgs, memArgs, resV, fillL, ← Bool.decide_or, ← Bool.decide_and, ← decide_not, ↓reduceIte, Nat.reduceEqDiff, Nat.reduceAdd, Nat.reduceMul, Nat.reduceLeDiff, Nat.reduceLT, Nat.reduceSub, Nat.succ_ne_zero, Nat.one_ne_zero, Nat.zero_ne_one, true_implies, false_implies, forall_const, implies_true, reduceCtorEq, eq_self, ite_true, ite_false, decide_true, decide_false, Nat.le_refl, Bool.false_eq_true, if_true, if_false, ne_eq, not_true_eq_false]
    exact ⟨rfl, hb0⟩
  · obtain ⟨p, ss, gs, xs⟩ := B
    simp only at *
    obtain ⟨a1, c1, rfl⟩ := ownS_len (slot_len ss) (by omega) h1
    obtain ⟨a2, c2, rfl⟩ := gatesV_len h2
    refine acalls mixed k_word_Board_Slot (by simp) fun F => ?_
    simp only [GV, frArgs, memArgs, resV, fillL, ← Bool.decide_or, ← Bool.decide_and, ← decide_not, ↓reduceIte, Nat.reduceEqDiff, Nat.reduceAdd, Nat.reduceMul, Nat.reduceLeDiff, Nat.reduceLT, Nat.reduceSub, Nat.succ_ne_zero, Nat.one_ne_zero, Nat.zero_ne_one, true_implies, false_implies, forall_const, implies_true, reduceCtorEq, eq_self, ite_true, ite_false, decide_true, decide_false, Nat.le_refl, Bool.false_eq_true, if_true, if_false, Slot.enc]
    intro bg
    refine (c_made hb0).mono ?_
    rintro o G1 Es hg ⟨rfl, rfl, rfl⟩
    simp only [GV, frArgs, memArgs, resV, fillL, ← Bool.decide_or, ← Bool.decide_and, ← decide_not, ↓reduceIte, Nat.reduceEqDiff, Nat.reduceAdd, Nat.reduceMul, Nat.reduceLeDiff, Nat.reduceLT, Nat.reduceSub, Nat.succ_ne_zero, Nat.one_ne_zero, Nat.zero_ne_one, true_implies, false_implies, forall_const, implies_true, reduceCtorEq, eq_self, ite_true, ite_false, decide_true, decide_false, Nat.le_refl, Bool.false_eq_true, if_true, if_false]
    refine cond_dec (fun hp => ?_) (fun hp => ?_)
    · have hp : p = 0 := by simpa using hp
      simp only [GV, frArgs, memArgs, resV, fillL, ← Bool.decide_or, ← Bool.decide_and, ← decide_not, ↓reduceIte, Nat.reduceEqDiff, Nat.reduceAdd, Nat.reduceMul, Nat.reduceLeDiff, Nat.reduceLT, Nat.reduceSub, Nat.succ_ne_zero, Nat.one_ne_zero, Nat.zero_ne_one, true_implies, false_implies, forall_const, implies_true, reduceCtorEq, eq_self, ite_true, ite_false, decide_true, decide_false, Nat.le_refl, Bool.false_eq_true, if_true, if_false, Bd.slot, hp]
      simpa only [hp] using hb0
    have hp : p ≠ 0 := by simpa using hp
    simp only [GV, frArgs, memArgs, resV, fillL, ← Bool.decide_or, ← Bool.decide_and, ← decide_not, ↓reduceIte, Nat.reduceEqDiff, Nat.reduceAdd, Nat.reduceMul, Nat.reduceLeDiff, Nat.reduceLT, Nat.reduceSub, Nat.succ_ne_zero, Nat.one_ne_zero, Nat.zero_ne_one, true_implies, false_implies, forall_const, implies_true, reduceCtorEq, eq_self, ite_true, ite_false, decide_true, decide_false, Nat.le_refl, Bool.false_eq_true, if_true, if_false]
    refine cond_dec (fun h8 => ?_) (fun h8 => ?_)
    · simp only [GV, frArgs, memArgs, resV, fillL, ← Bool.decide_or, ← Bool.decide_and, ← decide_not, ↓reduceIte, Nat.reduceEqDiff, Nat.reduceAdd, Nat.reduceMul, Nat.reduceLeDiff, Nat.reduceLT, Nat.reduceSub, Nat.succ_ne_zero, Nat.one_ne_zero, Nat.zero_ne_one, true_implies, false_implies, forall_const, implies_true, reduceCtorEq, eq_self, ite_true, ite_false, decide_true, decide_false, Nat.le_refl, Bool.false_eq_true, if_true, if_false, Bd.slot, if_neg hp, if_pos (show y < 1 ∨ 13 < y by omega)]
      exact hb0
    simp only [GV, frArgs, memArgs, resV, fillL, ← Bool.decide_or, ← Bool.decide_and, ← decide_not, ↓reduceIte, Nat.reduceEqDiff, Nat.reduceAdd, Nat.reduceMul, Nat.reduceLeDiff, Nat.reduceLT, Nat.reduceSub, Nat.succ_ne_zero, Nat.one_ne_zero, Nat.zero_ne_one, true_implies, false_implies, forall_const, implies_true, reduceCtorEq, eq_self, ite_true, ite_false, decide_true, decide_false, Nat.le_refl, Bool.false_eq_true, if_true, if_false]
    refine cond_dec (fun h9 => ?_) (fun h9 => ?_)
    · simp only [GV, frArgs, memArgs, resV, fillL, ← Bool.decide_or, ← Bool.decide_and, ← decide_not, ↓reduceIte, Nat.reduceEqDiff, Nat.reduceAdd, Nat.reduceMul, Nat.reduceLeDiff, Nat.reduceLT, Nat.reduceSub, Nat.succ_ne_zero, Nat.one_ne_zero, Nat.zero_ne_one, true_implies, false_implies, forall_const, implies_true, reduceCtorEq, eq_self, ite_true, ite_false, decide_true, decide_false, Nat.le_refl, Bool.false_eq_true, if_true, if_false, Bd.slot, if_neg hp, if_neg (show ¬ (y < 1 ∨ 13 < y) by omega), if_pos (show 256 ≤ ss.length ∨ 65536 ≤ gs.length by omega)]
      exact hb0
    simp only [GV, frArgs, memArgs, resV, fillL, ← Bool.decide_or, ← Bool.decide_and, ← decide_not, ↓reduceIte, Nat.reduceEqDiff, Nat.reduceAdd, Nat.reduceMul, Nat.reduceLeDiff, Nat.reduceLT, Nat.reduceSub, Nat.succ_ne_zero, Nat.one_ne_zero, Nat.zero_ne_one, true_implies, false_implies, forall_const, implies_true, reduceCtorEq, eq_self, ite_true, ite_false, decide_true, decide_false, Nat.le_refl, Bool.false_eq_true, if_true, if_false]
    refine bsl_intro fun b G3 hg3 hc => ?_
    simp only [GV, frArgs, memArgs, resV, fillL, ← Bool.decide_or, ← Bool.decide_and, ← decide_not, ↓reduceIte, Nat.reduceEqDiff, Nat.reduceAdd, Nat.reduceMul, Nat.reduceLeDiff, Nat.reduceLT, Nat.reduceSub, Nat.succ_ne_zero, Nat.one_ne_zero, Nat.zero_ne_one, true_implies, false_implies, forall_const, implies_true, reduceCtorEq, eq_self, ite_true, ite_false, decide_true, decide_false, Nat.le_refl, Bool.false_eq_true, if_true, if_false]
    refine app_moreN rfl (h1.mono hg3) (slots_len ss) (row_one hc rfl) rfl (slot_one [(⟨y, z⟩ : Slot)]) (by simp; omega) (fun v' es' G4 hg4 ho => ?_)
    have ho' : OwnS G4 30 2 v' ((ss ++ [(⟨y, z⟩ : Slot)]).map Slot.enc).flatten es' := by rw [List.map_append]; exact ho
    obtain ⟨a3, c3, rfl⟩ := ownS_len (slot_len _) (by omega) ho'
    have hw : IntKind.i64.wrap (((ss ++ [(⟨y, z⟩ : Slot)]).length : Nat) - 1) = ((ss.length : Nat) : Int) := by
      rw [List.length_append, wrap64] <;> simp <;> omega
    simp only [GV, frArgs, memArgs, resV, fillL, ← Bool.decide_or, ← Bool.decide_and, ← decide_not, ↓reduceIte, Nat.reduceEqDiff, Nat.reduceAdd, Nat.reduceMul, Nat.reduceLeDiff, Nat.reduceLT, Nat.reduceSub, Nat.succ_ne_zero, Nat.one_ne_zero, Nat.zero_ne_one, true_implies, false_implies, forall_const, implies_true, reduceCtorEq, eq_self, ite_true, ite_false, decide_true, decide_false, Nat.le_refl, Bool.false_eq_true, if_true, if_false, hw]
    refine bsl_intro fun b2 G5 hg5 hc2 => ?_
    simp only [GV, frArgs, memArgs, resV, fillL, ← Bool.decide_or, ← Bool.decide_and, ← decide_not, ↓reduceIte, Nat.reduceEqDiff, Nat.reduceAdd, Nat.reduceMul, Nat.reduceLeDiff, Nat.reduceLT, Nat.reduceSub, Nat.succ_ne_zero, Nat.one_ne_zero, Nat.zero_ne_one, true_implies, false_implies, forall_const, implies_true, reduceCtorEq, eq_self, ite_true, ite_false, decide_true, decide_false, Nat.le_refl, Bool.false_eq_true, if_true, if_false]
    refine apx_moreVN rfl h2 (gates_len gs) (row_one hc2 rfl) rfl (gate_one [(⟨1, (ss.length : Nat), 0, 0⟩ : Gate)]) (by simp; omega) (fun v' es' ho2 => ?_)
    have ho3 : OwnV 33 4 v' ((gs ++ [(⟨1, (ss.length : Nat), 0, 0⟩ : Gate)]).map Gate.enc).flatten es' := by rw [List.map_append]; exact ho2
    obtain ⟨a4, c4, rfl⟩ := gatesV_len ho3
    have hw2 : IntKind.i64.wrap (((gs ++ [(⟨1, (ss.length : Nat), 0, 0⟩ : Gate)]).length : Nat) - 1) = ((gs.length : Nat) : Int) := by
      rw [List.length_append, wrap64] <;> simp <;> omega
    simp only [GV, frArgs, memArgs, resV, fillL, ← Bool.decide_or, ← Bool.decide_and, ← decide_not, ↓reduceIte, Nat.reduceEqDiff, Nat.reduceAdd, Nat.reduceMul, Nat.reduceLeDiff, Nat.reduceLT, Nat.reduceSub, Nat.succ_ne_zero, Nat.one_ne_zero, Nat.zero_ne_one, true_implies, false_implies, forall_const, implies_true, reduceCtorEq, eq_self, ite_true, ite_false, decide_true, decide_false, Nat.le_refl, Bool.false_eq_true, if_true, if_false, hw2, Bd.slot, if_neg hp, if_neg (show ¬ (y < 1 ∨ 13 < y) by omega), if_neg (show ¬ (256 ≤ ss.length ∨ 65536 ≤ gs.length) by omega)]
    refine .inr ⟨bb, rfl, _, _, _, _, _, _, rfl, ho'.mono hg5, ho3, ((h3.mono hg3).mono hg4).mono hg5, h4, ?_, ?_, h7⟩
    · simp only [List.length_append, List.length_cons, List.length_nil]; omega
    · simp only [List.length_append, List.length_cons, List.length_nil]; omega

theorem c_Const {G : GH} {v : Value} {B : Bd} {Es : List (List Ent)} {k : Nat} (hb : BoardV G v B Es) :
    ACalls Try.prog 9 [v, .int .u64 k] G Es fun o G' Es' => o = .ret (.tuple #[.int .i64 (B.put ⟨2, 0, 0, k⟩).1, .int .i64 (B.put ⟨2, 0, 0, k⟩).2.1]) ∧ BoardV G' v (B.put ⟨2, 0, 0, k⟩).2.2 Es' := by
  obtain ⟨es0, es1, es2, es3, rfl⟩ : ∃ a b c d, Es = [a, b, c, d] := by
    rcases hb with ⟨_, _, rfl⟩ | ⟨bb, _, v1, v2, v3, es1, es2, es3, rfl, _⟩ <;> exact ⟨_, _, _, _, rfl⟩
  refine acalls mixed k_word_Board_Const (by simp) fun F => ?_
  simp only [GV, frArgs, memArgs, resV, fillL, ← Bool.decide_or, ← Bool.decide_and, ← decide_not, ↓reduceIte, Nat.reduceEqDiff, Nat.reduceAdd, Nat.reduceMul, Nat.reduceLeDiff, Nat.reduceLT, Nat.reduceSub, Nat.succ_ne_zero, Nat.one_ne_zero, Nat.zero_ne_one, true_implies, false_implies, forall_const, implies_true, reduceCtorEq, eq_self, ite_true, ite_false, decide_true, decide_false, Nat.le_refl, Bool.false_eq_true, if_true, if_false]
  refine (c_Put (g := ⟨2, 0, 0, k⟩) hb).mono ?_
  rintro o G1 Es hg ⟨rfl, h⟩
  obtain ⟨es0, es1, es2, es3, rfl⟩ : ∃ a b c d, Es = [a, b, c, d] := by
    rcases h with ⟨_, _, rfl⟩ | ⟨bb, _, v1, v2, v3, es1, es2, es3, rfl, _⟩ <;> exact ⟨_, _, _, _, rfl⟩
  simp only [GV, frArgs, memArgs, resV, fillL, ← Bool.decide_or, ← Bool.decide_and, ← decide_not, ↓reduceIte, Nat.reduceEqDiff, Nat.reduceAdd, Nat.reduceMul, Nat.reduceLeDiff, Nat.reduceLT, Nat.reduceSub, Nat.succ_ne_zero, Nat.one_ne_zero, Nat.zero_ne_one, true_implies, false_implies, forall_const, implies_true, reduceCtorEq, eq_self, ite_true, ite_false, decide_true, decide_false, Nat.le_refl, Bool.false_eq_true, if_true, if_false]
  exact h
end Go.Gv.W
