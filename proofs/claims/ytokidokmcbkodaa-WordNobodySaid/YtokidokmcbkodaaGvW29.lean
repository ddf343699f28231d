/-
  The law that a full board takes nothing more holds at every start. No condition.
-/
import Derived.Test.YtokidokmcbkodaaGvW28
namespace Go.Gv.W
set_option linter.unusedSimpArgs false
set_option linter.unusedVariables false
set_option linter.unusedSectionVars false
open Go.RowKit Go.Proofs

/-- junto/juntolaw13.WordFull -/
def r_law13_WordFull : RFn := ⟨102,
  .seq (.reg [] [
    ⟨(some 0), none, .mv (.c (.bool false))⟩]) <|
  .keep [] <|
  .seq (.reg [] [
    ⟨(some 16), none, .call [] [0, 1, 2, 3] 6 [(.c (.int .u64 7))]⟩,
    ⟨(some 15), none, .mv (.t 16)⟩,
    ⟨(some 17), none, .ext 0 (.t 15)⟩,
    ⟨(some 18), none, .ext 1 (.t 15)⟩,
    ⟨(some 1), none, .mv (.t 17)⟩,
    ⟨(some 2), none, .mv (.t 18)⟩]) <|
  .keep [1, 2] <|
  .seq (.seq (.reg [] [
    ⟨(some 19), none, .mv (.t 2)⟩,
    ⟨(some 20), none, .bin .neq (.t 19) (.c (.int .i64 0))⟩]) <|
  .keep [1, 20] <|
  .cond (.t 20)
    (.seq (.reg [] [
      ⟨(some 0), none, .mv (.c (.bool false))⟩]) <|
    .ret)
    (.skip)) <|
  .keep [1] <|
  .seq (.seq (.reg [] [
    ⟨(some 21), none, .mv (.c (.int .i64 0))⟩]) <|
  .keep [1, 21] <|
  .block 0 <|
  .loop [1, 21] [0, 1, 2, 3, 1000000] <|
  .seq (.reg [] [
    ⟨(some 22), none, .bin .lss (.t 21) (.c (.int .i64 256))⟩]) <|
  .keep [1, 21, 22] <|
  .seq (.cond (.t 22)
    (.skip)
    (.exit 0)) <|
  .keep [1, 21] <|
  .seq (.block 1 <|
  .seq (.reg [] [
    ⟨(some 24), none, .mv (.t 1)⟩,
    ⟨(some 25), none, .bld [(.int .i64 0), (.bool false)] [(0, 1), (1, 1)] [(0, (.c (.int .i64 1)))]⟩,
    ⟨(some 26), none, .call [0, 1, 2, 3] [0, 1, 2, 3] 7 [(.t 24), (.t 25)]⟩,
    ⟨(some 23), none, .mv (.t 26)⟩,
    ⟨(some 27), none, .ext 0 (.t 23)⟩,
    ⟨(some 28), none, .ext 1 (.t 23)⟩,
    ⟨(some 3), none, .mv (.t 27)⟩,
    ⟨(some 4), none, .mv (.t 28)⟩]) <|
  .keep [1, 4, 21] <|
  .seq (.reg [] [
    ⟨(some 29), none, .mv (.t 4)⟩,
    ⟨(some 30), none, .bin .neq (.t 29) (.c (.int .i64 0))⟩]) <|
  .keep [1, 21, 30] <|
  .cond (.t 30)
    (.seq (.reg [] [
      ⟨(some 0), none, .mv (.c (.bool false))⟩]) <|
    .ret)
    (.skip)) <|
  .keep [1, 21] <|
  .reg [] [
    ⟨(some 31), none, .bin .add (.t 21) (.c (.int .i64 1))⟩,
    ⟨(some 21), none, .mv (.t 31)⟩]) <|
  .keep [1] <|
  .seq (.reg [] [
    ⟨(some 33), none, .mv (.t 1)⟩,
    ⟨(some 34), none, .bld [(.int .i64 0), (.bool false)] [(0, 1), (1, 1)] [(0, (.c (.int .i64 1)))]⟩,
    ⟨(some 35), none, .call [0, 1, 2, 3] [0, 1, 2, 3] 7 [(.t 33), (.t 34)]⟩,
    ⟨(some 32), none, .mv (.t 35)⟩,
    ⟨(some 36), none, .ext 0 (.t 32)⟩,
    ⟨(some 37), none, .ext 1 (.t 32)⟩,
    ⟨(some 2), none, .mv (.t 37)⟩]) <|
  .keep [1, 2] <|
  .seq (.seq (.reg [] [
    ⟨(some 5), none, .mv (.c (.int .i64 256))⟩]) <|
  .keep [1, 2, 5] <|
  .block 2 <|
  .loop [1, 2, 5] [0, 1, 2, 3, 1000000] <|
  .seq (.seq (.reg [] [
    ⟨(some 38), none, .mv (.t 5)⟩,
    ⟨(some 39), none, .bin .lss (.t 38) (.c (.int .i64 65536))⟩]) <|
  .keep [1, 2, 5, 39] <|
  .cond (.t 39)
    (.skip)
    (.exit 2)) <|
  .keep [1, 2, 5] <|
  .seq (.block 3 <|
  .seq (.reg [] [
    ⟨(some 43), none, .mv (.t 1)⟩,
    ⟨(some 44), none, .bld [(.int .i64 0), (.int .i64 0), (.int .i64 0), (.int .u64 0)] [(0, 1), (1, 1), (2, 1), (3, 1)] [(0, (.c (.int .i64 2)))]⟩,
    ⟨(some 45), none, .call [0, 1, 2, 3] [0, 1, 2, 3] 8 [(.t 43), (.t 44)]⟩,
    ⟨(some 42), none, .mv (.t 45)⟩,
    ⟨(some 46), none, .ext 0 (.t 42)⟩,
    ⟨(some 47), none, .ext 1 (.t 42)⟩,
    ⟨(some 6), none, .mv (.t 46)⟩,
    ⟨(some 7), none, .mv (.t 47)⟩]) <|
  .keep [1, 2, 5, 6, 7] <|
  .seq (.reg [] [
    ⟨(some 48), none, .mv (.t 7)⟩,
    ⟨(some 49), none, .bin .neq (.t 48) (.c (.int .i64 0))⟩,
    ⟨(some 50), none, .mv (.t 49)⟩,
    ⟨(some 51), (some (50, false, false)), .mv (.t 6)⟩,
    ⟨(some 52), (some (50, false, false)), .mv (.t 5)⟩,
    ⟨(some 53), (some (50, false, false)), .bin .neq (.t 51) (.t 52)⟩,
    ⟨(some 54), none, .pick (.t 50) (.c (.bool true)) (.t 53)⟩]) <|
  .keep [1, 2, 5, 54] <|
  .cond (.t 54)
    (.seq (.reg [] [
      ⟨(some 0), none, .mv (.c (.bool false))⟩]) <|
    .ret)
    (.skip)) <|
  .keep [1, 2, 5] <|
  .reg [] [
    ⟨(some 40), none, .mv (.t 5)⟩,
    ⟨(some 41), none, .bin .add (.t 40) (.c (.int .i64 1))⟩,
    ⟨(some 5), none, .mv (.t 41)⟩]) <|
  .keep [1, 2] <|
  .seq (.reg [] [
    ⟨(some 56), none, .mv (.t 1)⟩,
    ⟨(some 57), none, .call [0, 1, 2, 3] [0, 1, 2, 3] 9 [(.t 56), (.c (.int .u64 1))]⟩,
    ⟨(some 55), none, .mv (.t 57)⟩,
    ⟨(some 58), none, .ext 0 (.t 55)⟩,
    ⟨(some 59), none, .ext 1 (.t 55)⟩,
    ⟨(some 8), none, .mv (.t 58)⟩,
    ⟨(some 9), none, .mv (.t 59)⟩]) <|
  .keep [1, 2, 9] <|
  .seq (.reg [] [
    ⟨(some 61), none, .mv (.t 1)⟩,
    ⟨(some 62), none, .bld [(.int .i64 0), (.int .i64 0), (.int .i64 0), (.int .u64 0)] [(0, 1), (1, 1), (2, 1), (3, 1)] [(0, (.c (.int .i64 3)))]⟩,
    ⟨(some 63), none, .call [0, 1, 2, 3] [0, 1, 2, 3] 8 [(.t 61), (.t 62)]⟩,
    ⟨(some 60), none, .mv (.t 63)⟩,
    ⟨(some 64), none, .ext 0 (.t 60)⟩,
    ⟨(some 65), none, .ext 1 (.t 60)⟩,
    ⟨(some 10), none, .mv (.t 64)⟩,
    ⟨(some 11), none, .mv (.t 65)⟩]) <|
  .keep [1, 2, 9, 11] <|
  .seq (.reg [] [
    ⟨(some 67), none, .mv (.t 1)⟩,
    ⟨(some 68), none, .call [0, 1, 2, 3] [0, 1, 2, 3] 9 [(.t 67), (.c (.int .u64 7))]⟩,
    ⟨(some 66), none, .mv (.t 68)⟩,
    ⟨(some 69), none, .ext 0 (.t 66)⟩,
    ⟨(some 70), none, .ext 1 (.t 66)⟩,
    ⟨(some 12), none, .mv (.t 69)⟩,
    ⟨(some 13), none, .mv (.t 70)⟩]) <|
  .keep [1, 2, 9, 11, 13] <|
  .seq (.reg [] [
    ⟨(some 71), none, .mv (.t 1)⟩,
    ⟨(some 72), none, .call [0, 1, 2, 3] [0, 1, 2, 3] 10 [(.t 71)]⟩,
    ⟨(some 14), none, .new 114 39 [(.slice none 0 0), (.slice none 0 0), (.slice none 0 0)]⟩,
    ⟨none, none, .st 3 114 0 (.t 14) (.t 72)⟩]) <|
  .keep [2, 9, 11, 13, 14] <|
  .seq (.reg [] [
    ⟨(some 73), none, .mv (.t 2)⟩,
    ⟨(some 74), none, .bin .eql (.t 73) (.c (.int .i64 3))⟩,
    ⟨(some 75), none, .mv (.t 74)⟩,
    ⟨(some 76), (some (75, true, false)), .mv (.t 9)⟩,
    ⟨(some 77), (some (75, true, false)), .bin .eql (.t 76) (.c (.int .i64 3))⟩,
    ⟨(some 78), none, .pick (.t 75) (.t 77) (.c (.bool false))⟩,
    ⟨(some 79), none, .mv (.t 78)⟩,
    ⟨(some 80), (some (79, true, false)), .mv (.t 11)⟩,
    ⟨(some 81), (some (79, true, false)), .bin .eql (.t 80) (.c (.int .i64 3))⟩,
    ⟨(some 82), none, .pick (.t 79) (.t 81) (.c (.bool false))⟩,
    ⟨(some 83), none, .mv (.t 82)⟩,
    ⟨(some 84), (some (83, true, false)), .mv (.t 13)⟩,
    ⟨(some 85), (some (83, true, false)), .bin .eql (.t 84) (.c (.int .i64 2))⟩,
    ⟨(some 86), none, .pick (.t 83) (.t 85) (.c (.bool false))⟩,
    ⟨(some 87), none, .mv (.t 86)⟩,
    ⟨(some 88), (some (87, true, false)), .fad 1 (.t 14)⟩,
    ⟨(some 89), (some (87, true, false)), .ld none (some (114, 0)) (.t 88)⟩,
    ⟨(some 90), (some (87, true, false)), .len (.t 89)⟩,
    ⟨(some 91), (some (87, true, false)), .bin .eql (.t 90) (.c (.int .i64 65536))⟩,
    ⟨(some 92), none, .pick (.t 87) (.t 91) (.c (.bool false))⟩,
    ⟨(some 93), none, .mv (.t 92)⟩,
    ⟨(some 94), (some (93, true, false)), .fad 0 (.t 14)⟩,
    ⟨(some 95), (some (93, true, false)), .ld none (some (114, 0)) (.t 94)⟩,
    ⟨(some 96), (some (93, true, false)), .len (.t 95)⟩,
    ⟨(some 97), (some (93, true, false)), .bin .eql (.t 96) (.c (.int .i64 256))⟩,
    ⟨(some 98), none, .pick (.t 93) (.t 97) (.c (.bool false))⟩,
    ⟨(some 99), none, .mv (.t 98)⟩,
    ⟨(some 100), (some (99, true, false)), .call [] [] 11 []⟩,
    ⟨(some 101), none, .pick (.t 99) (.t 100) (.c (.bool false))⟩,
    ⟨(some 0), none, .mv (.t 101)⟩]) <|
  .ret,
  [.tmp 0], [], []⟩

theorem k_law13_WordFull : rbFn Try.prog 3 r_law13_WordFull = some r_law13_WordFull := by kernel_rfl


theorem slot_ok {B : Bd} {s : Slot} (hp : B.p ≠ 0) (hs : ¬(s.party < 1 ∨ 13 < s.party)) (h1 : B.c.slots.length < 256) (h2 : B.c.gates.length < 65536) :
    (B.slot s).2.1 = 0 ∧ (B.slot s).2.2.p = B.p ∧ (B.slot s).2.2.c.slots.length = B.c.slots.length + 1 ∧ (B.slot s).2.2.c.gates.length = B.c.gates.length + 1 := by
  simp only [Bd.slot, if_neg hp, if_neg hs, if_neg (show ¬(256 ≤ B.c.slots.length ∨ 65536 ≤ B.c.gates.length) by omega)]
  simp
theorem slot_full {B : Bd} {s : Slot} (hp : B.p ≠ 0) (hs : ¬(s.party < 1 ∨ 13 < s.party)) (h1 : 256 ≤ B.c.slots.length) : (B.slot s).2.1 = 3 ∧ (B.slot s).2.2 = B := by
  simp only [Bd.slot, if_neg hp, if_neg hs, if_pos (show (256 ≤ B.c.slots.length ∨ 65536 ≤ B.c.gates.length) by omega)]
  simp
theorem put_ok {B : Bd} {g : Gate} (hp : B.p ≠ 0) (hg : gateErr B.p B.c.slots.length B.c.gates.length g = 0) (h2 : B.c.gates.length < 65536) :
    (B.put g).1 = (B.c.gates.length : Nat) ∧ (B.put g).2.1 = 0 ∧ (B.put g).2.2.p = B.p ∧ (B.put g).2.2.c.slots.length = B.c.slots.length ∧ (B.put g).2.2.c.gates.length = B.c.gates.length + 1 := by
  simp only [Bd.put, if_neg hp, hg, if_neg (show ¬65536 ≤ B.c.gates.length by omega)]
  simp
theorem put_full {B : Bd} {g : Gate} (hp : B.p ≠ 0) (hg : gateErr B.p B.c.slots.length B.c.gates.length g = 0) (h2 : 65536 ≤ B.c.gates.length) : (B.put g).2.1 = 3 ∧ (B.put g).2.2 = B := by
  simp only [Bd.put, if_neg hp, hg, if_pos h2]
  simp
theorem put_bad {B : Bd} {g : Gate} {e : Int} (hp : B.p ≠ 0) (hg : gateErr B.p B.c.slots.length B.c.gates.length g = e) (he : e ≠ 0) : (B.put g).2.1 = e ∧ (B.put g).2.2 = B := by
  simp only [Bd.put, if_neg hp, hg, if_pos he]
  simp
theorem const_err {s n k : Nat} (h : k < 7) : gateErr 7 s n ⟨2, 0, 0, k⟩ = 0 := by
  simp [gateErr]; omega
theorem const_err7 {s n : Nat} : gateErr 7 s n ⟨2, 0, 0, 7⟩ = 2 := by simp [gateErr]
theorem add_err {s n : Nat} (h : 0 < n) : gateErr 7 s n ⟨3, 0, 0, 0⟩ = 0 := by
  simp [gateErr]; omega

set_option maxHeartbeats 2000000 in
set_option maxRecDepth 20000 in
theorem c_WordFull {G : GH} : ACalls Try.prog 3 [] G [] fun o G' Es' => o = .ret (.bool true) ∧ Es' = [] := by
  refine acalls mixed k_law13_WordFull (by simp) fun F => ?_
  simp only [GV, frArgs, memArgs, resV, fillL, ← Bool.decide_or, ← Bool.decide_and, ← decide_not, ↓reduceIte, Nat.reduceEqDiff, Nat.reduceAdd, Nat.reduceMul, Nat.reduceLeDiff, Nat.reduceLT, Nat.reduceSub, Nat.succ_ne_zero, Nat.one_ne_zero, Nat.zero_ne_one, true_implies, false_implies, forall_const, implies_true, reduceCtorEq, eq_self, ite_true, ite_false, decide_true, decide_false, Nat.le_refl, Bool.false_eq_true, if_true, if_false]
  refine (c_New (p := 7)).mono ?_
  rintro o G1 Es hg1 ⟨vb, rfl, hb⟩
  rw [show isP 7 = true from by kernel_rfl] at hb
  simp only [if_true] at hb
  obtain ⟨e0, e1, e2, e3, rfl⟩ := boardV_es hb
  simp only [GV, frArgs, memArgs, resV, fillL, ← Bool.decide_or, ← Bool.decide_and, ← decide_not, ↓reduceIte, Nat.reduceEqDiff, Nat.reduceAdd, Nat.reduceMul, Nat.reduceLeDiff, Nat.reduceLT, Nat.reduceSub, Nat.succ_ne_zero, Nat.one_ne_zero, Nat.zero_ne_one, true_implies, false_implies, forall_const, implies_true, reduceCtorEq, eq_self, ite_true, ite_false, decide_true, decide_false, Nat.le_refl, Bool.false_eq_true, if_true, if_false, show isP 7 = true from by kernel_rfl]
  refine cond_dec (fun h => absurd rfl h) (fun _ => ?_)
  simp only [GV, frArgs, memArgs, resV, fillL, ← Bool.decide_or, ← Bool.decide_and, ← decide_not, ↓reduceIte, Nat.reduceEqDiff, Nat.reduceAdd, Nat.reduceMul, Nat.reduceLeDiff, Nat.reduceLT, Nat.reduceSub, Nat.succ_ne_zero, Nat.one_ne_zero, Nat.zero_ne_one, true_implies, false_implies, forall_const, implies_true, reduceCtorEq, eq_self, ite_true, ite_false, decide_true, decide_false, Nat.le_refl, Bool.false_eq_true, if_true, if_false]
  refine loop_intro (fun m fr G' M => ∃ (i : Nat) (B : Bd) (e0 e1 e2 e3 : List Ent), m = 256 - i ∧ i ≤ 256 ∧ B.p = 7 ∧ B.c.slots.length = i ∧ B.c.gates.length = i ∧ BoardV G' vb B [e0, e1, e2, e3] ∧
      fr = [(1, true, vb), (21, true, .int .i64 i)] ∧
      M = [(0, e0), (1, e1), (2, e2), (3, e3), (1000000, F)]) 256 ⟨0, _, e0, e1, e2, e3, by simp, by simp, rfl, rfl, rfl, hb, rfl, rfl⟩ ?_
  clear hb
  rintro m fr G2 M - ⟨i, B, e0, e1, e2, e3, rfl, hi, hp, hsl, hga, hb, rfl, rfl⟩
  have hp0 : B.p ≠ 0 := by omega
  simp only [GV, frArgs, memArgs, resV, fillL, ← Bool.decide_or, ← Bool.decide_and, ← decide_not, ↓reduceIte, Nat.reduceEqDiff, Nat.reduceAdd, Nat.reduceMul, Nat.reduceLeDiff, Nat.reduceLT, Nat.reduceSub, Nat.succ_ne_zero, Nat.one_ne_zero, Nat.zero_ne_one, true_implies, false_implies, forall_const, implies_true, reduceCtorEq, eq_self, ite_true, ite_false, decide_true, decide_false, Nat.le_refl, Bool.false_eq_true, if_true, if_false]
  refine cond_dec (fun h => ?_) (fun h => ?_)
  · simp only [GV, frArgs, memArgs, resV, fillL, ← Bool.decide_or, ← Bool.decide_and, ← decide_not, ↓reduceIte, Nat.reduceEqDiff, Nat.reduceAdd, Nat.reduceMul, Nat.reduceLeDiff, Nat.reduceLT, Nat.reduceSub, Nat.succ_ne_zero, Nat.one_ne_zero, Nat.zero_ne_one, true_implies, false_implies, forall_const, implies_true, reduceCtorEq, eq_self, ite_true, ite_false, decide_true, decide_false, Nat.le_refl, Bool.false_eq_true, if_true, if_false]
    obtain ⟨k1, k2, k3, k4⟩ := slot_ok (s := ⟨1, false⟩) hp0 (by simp) (show B.c.slots.length < 256 by omega) (by omega)
    refine (c_Slot (s := ⟨1, false⟩) hb).mono ?_
    rintro o G3 Es hg ⟨rfl, hb⟩
    obtain ⟨e0, e1, e2, e3, rfl⟩ := boardV_es hb
    simp only [GV, frArgs, memArgs, resV, fillL, ← Bool.decide_or, ← Bool.decide_and, ← decide_not, ↓reduceIte, Nat.reduceEqDiff, Nat.reduceAdd, Nat.reduceMul, Nat.reduceLeDiff, Nat.reduceLT, Nat.reduceSub, Nat.succ_ne_zero, Nat.one_ne_zero, Nat.zero_ne_one, true_implies, false_implies, forall_const, implies_true, reduceCtorEq, eq_self, ite_true, ite_false, decide_true, decide_false, Nat.le_refl, Bool.false_eq_true, if_true, if_false, k1]
    refine cond_dec (fun h => absurd rfl h) (fun _ => ?_)
    simp only [GV, frArgs, memArgs, resV, fillL, ← Bool.decide_or, ← Bool.decide_and, ← decide_not, ↓reduceIte, Nat.reduceEqDiff, Nat.reduceAdd, Nat.reduceMul, Nat.reduceLeDiff, Nat.reduceLT, Nat.reduceSub, Nat.succ_ne_zero, Nat.one_ne_zero, Nat.zero_ne_one, true_implies, false_implies, forall_const, implies_true, reduceCtorEq, eq_self, ite_true, ite_false, decide_true, decide_false, Nat.le_refl, Bool.false_eq_true, if_true, if_false, wrapn (show i < maxLen by simp only [maxLen]; omega)]
    exact ⟨256 - (i + 1), by omega, i + 1, _, e0, e1, e2, e3, rfl, by omega, by omega, by omega, by omega, hb, rfl, rfl⟩
  have hi : i = 256 := by omega
  subst hi
  clear h
  simp only [GV, frArgs, memArgs, resV, fillL, ← Bool.decide_or, ← Bool.decide_and, ← decide_not, ↓reduceIte, Nat.reduceEqDiff, Nat.reduceAdd, Nat.reduceMul, Nat.reduceLeDiff, Nat.reduceLT, Nat.reduceSub, Nat.succ_ne_zero, Nat.one_ne_zero, Nat.zero_ne_one, true_implies, false_implies, forall_const, implies_true, reduceCtorEq, eq_self, ite_true, ite_false, decide_true, decide_false, Nat.le_refl, Bool.false_eq_true, if_true, if_false]
  obtain ⟨k1, k2⟩ := slot_full (s := ⟨1, false⟩) hp0 (by simp) (show 256 ≤ B.c.slots.length by omega)
  refine (c_Slot (s := ⟨1, false⟩) hb).mono ?_
  rintro o G3 Es hg ⟨rfl, hb⟩
  obtain ⟨e0, e1, e2, e3, rfl⟩ := boardV_es hb
  rw [k2] at hb
  simp only [GV, frArgs, memArgs, resV, fillL, ← Bool.decide_or, ← Bool.decide_and, ← decide_not, ↓reduceIte, Nat.reduceEqDiff, Nat.reduceAdd, Nat.reduceMul, Nat.reduceLeDiff, Nat.reduceLT, Nat.reduceSub, Nat.succ_ne_zero, Nat.one_ne_zero, Nat.zero_ne_one, true_implies, false_implies, forall_const, implies_true, reduceCtorEq, eq_self, ite_true, ite_false, decide_true, decide_false, Nat.le_refl, Bool.false_eq_true, if_true, if_false, k1]
  refine loop_intro (fun m fr G' M => ∃ (i : Nat) (B : Bd) (e0 e1 e2 e3 : List Ent), m = 65536 - i ∧ 256 ≤ i ∧ i ≤ 65536 ∧ B.p = 7 ∧ B.c.slots.length = 256 ∧ B.c.gates.length = i ∧ BoardV G' vb B [e0, e1, e2, e3] ∧
      fr = [(1, true, vb), (2, true, .int .i64 3), (5, true, .int .i64 i)] ∧
      M = [(0, e0), (1, e1), (2, e2), (3, e3), (1000000, F)]) (65536 - 256) ⟨256, _, e0, e1, e2, e3, by simp, by simp, by simp, hp, hsl, hga, hb, rfl, rfl⟩ ?_
  clear hb hp hsl hga k1 k2 hp0
  rintro m fr G4 M - ⟨i, B, e0, e1, e2, e3, rfl, hi, hi2, hp, hsl, hga, hb, rfl, rfl⟩
  have hp0 : B.p ≠ 0 := by omega
  simp only [GV, frArgs, memArgs, resV, fillL, ← Bool.decide_or, ← Bool.decide_and, ← decide_not, ↓reduceIte, Nat.reduceEqDiff, Nat.reduceAdd, Nat.reduceMul, Nat.reduceLeDiff, Nat.reduceLT, Nat.reduceSub, Nat.succ_ne_zero, Nat.one_ne_zero, Nat.zero_ne_one, true_implies, false_implies, forall_const, implies_true, reduceCtorEq, eq_self, ite_true, ite_false, decide_true, decide_false, Nat.le_refl, Bool.false_eq_true, if_true, if_false]
  refine cond_dec (fun h => ?_) (fun h => ?_)
  · simp only [GV, frArgs, memArgs, resV, fillL, ← Bool.decide_or, ← Bool.decide_and, ← decide_not, ↓reduceIte, Nat.reduceEqDiff, Nat.reduceAdd, Nat.reduceMul, Nat.reduceLeDiff, Nat.reduceLT, Nat.reduceSub, Nat.succ_ne_zero, Nat.one_ne_zero, Nat.zero_ne_one, true_implies, false_implies, forall_const, implies_true, reduceCtorEq, eq_self, ite_true, ite_false, decide_true, decide_false, Nat.le_refl, Bool.false_eq_true, if_true, if_false]
    obtain ⟨k0, k1, k2, k3, k4⟩ := put_ok (g := ⟨2, 0, 0, 0⟩) hp0 (by rw [hp]; exact const_err (by omega)) (show B.c.gates.length < 65536 by omega)
    refine (c_Put (g := ⟨2, 0, 0, 0⟩) hb).mono ?_
    rintro o G5 Es hg ⟨rfl, hb⟩
    obtain ⟨e0, e1, e2, e3, rfl⟩ := boardV_es hb
    simp only [GV, frArgs, memArgs, resV, fillL, ← Bool.decide_or, ← Bool.decide_and, ← decide_not, ↓reduceIte, Nat.reduceEqDiff, Nat.reduceAdd, Nat.reduceMul, Nat.reduceLeDiff, Nat.reduceLT, Nat.reduceSub, Nat.succ_ne_zero, Nat.one_ne_zero, Nat.zero_ne_one, true_implies, false_implies, forall_const, implies_true, reduceCtorEq, eq_self, ite_true, ite_false, decide_true, decide_false, Nat.le_refl, Bool.false_eq_true, if_true, if_false, k0, k1, hga, ne_eq, not_true_eq_false, not_false_eq_true, decide_false, decide_true, wrapn (show i < maxLen by simp only [maxLen]; omega)]
    exact ⟨65536 - (i + 1), by omega, i + 1, _, e0, e1, e2, e3, rfl, by omega, by omega, by omega, by omega, by omega, hb, rfl, rfl⟩
  have hi3 : i = 65536 := by omega
  subst hi3
  clear h hi hi2
  simp only [GV, frArgs, memArgs, resV, fillL, ← Bool.decide_or, ← Bool.decide_and, ← decide_not, ↓reduceIte, Nat.reduceEqDiff, Nat.reduceAdd, Nat.reduceMul, Nat.reduceLeDiff, Nat.reduceLT, Nat.reduceSub, Nat.succ_ne_zero, Nat.one_ne_zero, Nat.zero_ne_one, true_implies, false_implies, forall_const, implies_true, reduceCtorEq, eq_self, ite_true, ite_false, decide_true, decide_false, Nat.le_refl, Bool.false_eq_true, if_true, if_false]
  obtain ⟨k1, k2⟩ := put_full (g := ⟨2, 0, 0, 1⟩) hp0 (by rw [hp]; exact const_err (by omega)) (show 65536 ≤ B.c.gates.length by omega)
  refine (c_Const (k := 1) hb).mono ?_
  rintro o G5 Es hg ⟨rfl, hb⟩
  rw [k2] at hb
  obtain ⟨e0, e1, e2, e3, rfl⟩ := boardV_es hb
  simp only [GV, frArgs, memArgs, resV, fillL, ← Bool.decide_or, ← Bool.decide_and, ← decide_not, ↓reduceIte, Nat.reduceEqDiff, Nat.reduceAdd, Nat.reduceMul, Nat.reduceLeDiff, Nat.reduceLT, Nat.reduceSub, Nat.succ_ne_zero, Nat.one_ne_zero, Nat.zero_ne_one, true_implies, false_implies, forall_const, implies_true, reduceCtorEq, eq_self, ite_true, ite_false, decide_true, decide_false, Nat.le_refl, Bool.false_eq_true, if_true, if_false, k1]
  clear k1 k2
  obtain ⟨k1, k2⟩ := put_full (g := ⟨3, 0, 0, 0⟩) hp0 (by rw [hp]; exact add_err (by omega)) (show 65536 ≤ B.c.gates.length by omega)
  refine (c_Put (g := ⟨3, 0, 0, 0⟩) hb).mono ?_
  rintro o G5 Es hg ⟨rfl, hb⟩
  rw [k2] at hb
  obtain ⟨e0, e1, e2, e3, rfl⟩ := boardV_es hb
  simp only [GV, frArgs, memArgs, resV, fillL, ← Bool.decide_or, ← Bool.decide_and, ← decide_not, ↓reduceIte, Nat.reduceEqDiff, Nat.reduceAdd, Nat.reduceMul, Nat.reduceLeDiff, Nat.reduceLT, Nat.reduceSub, Nat.succ_ne_zero, Nat.one_ne_zero, Nat.zero_ne_one, true_implies, false_implies, forall_const, implies_true, reduceCtorEq, eq_self, ite_true, ite_false, decide_true, decide_false, Nat.le_refl, Bool.false_eq_true, if_true, if_false, k1]
  clear k1 k2
  obtain ⟨k1, k2⟩ := put_bad (g := ⟨2, 0, 0, 7⟩) (e := 2) hp0 (by rw [hp]; exact const_err7) (by omega)
  refine (c_Const (k := 7) hb).mono ?_
  rintro o G5 Es hg ⟨rfl, hb⟩
  rw [k2] at hb
  obtain ⟨e0, e1, e2, e3, rfl⟩ := boardV_es hb
  simp only [GV, frArgs, memArgs, resV, fillL, ← Bool.decide_or, ← Bool.decide_and, ← decide_not, ↓reduceIte, Nat.reduceEqDiff, Nat.reduceAdd, Nat.reduceMul, Nat.reduceLeDiff, Nat.reduceLT, Nat.reduceSub, Nat.succ_ne_zero, Nat.one_ne_zero, Nat.zero_ne_one, true_implies, false_implies, forall_const, implies_true, reduceCtorEq, eq_self, ite_true, ite_false, decide_true, decide_false, Nat.le_refl, Bool.false_eq_true, if_true, if_false, k1]
  clear k1 k2
  refine (c_Circuit hb).mono ?_
  rintro o G6 Es hg ⟨w, rfl, hw, rfl⟩
  rw [if_neg hp0] at hw
  obtain ⟨w1, w2, w3, rfl, ⟨b1, c1, rfl, hw1⟩, ⟨b2, c2, rfl, hw2⟩, hw3⟩ := hw
  obtain ⟨b3, c3, rfl⟩ := hw3.len
  have hsl2 : ((B.c.slots.length : Nat) : Int) = 256 := by omega
  have hga2 : ((B.c.gates.length : Nat) : Int) = 65536 := by omega
  simp only [GV, frArgs, memArgs, resV, fillL, ← Bool.decide_or, ← Bool.decide_and, ← decide_not, ↓reduceIte, Nat.reduceEqDiff, Nat.reduceAdd, Nat.reduceMul, Nat.reduceLeDiff, Nat.reduceLT, Nat.reduceSub, Nat.succ_ne_zero, Nat.one_ne_zero, Nat.zero_ne_one, true_implies, false_implies, forall_const, implies_true, reduceCtorEq, eq_self, ite_true, ite_false, decide_true, decide_false, Nat.le_refl, Bool.false_eq_true, if_true, if_false, ne_eq, not_true_eq_false, not_false_eq_true, decide_false, decide_true, hsl2, hga2]
  intro b7
  refine c_alive.mono ?_
  rintro o G7 Es hg7 ⟨rfl, rfl⟩
  simp only [GV, frArgs, memArgs, resV, fillL, ← Bool.decide_or, ← Bool.decide_and, ← decide_not, ↓reduceIte, Nat.reduceEqDiff, Nat.reduceAdd, Nat.reduceMul, Nat.reduceLeDiff, Nat.reduceLT, Nat.reduceSub, Nat.succ_ne_zero, Nat.one_ne_zero, Nat.zero_ne_one, true_implies, false_implies, forall_const, implies_true, reduceCtorEq, eq_self, ite_true, ite_false, decide_true, decide_false, Nat.le_refl, Bool.false_eq_true, if_true, if_false, hsl2, hga2]
end Go.Gv.W
