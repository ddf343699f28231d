/-
  Whether two circuits are one. No condition.
-/
import Derived.Test.YtokidokmcbkodaaGvW23
namespace Go.Gv.W
set_option linter.unusedSimpArgs false
set_option linter.unusedVariables false
set_option linter.unusedSectionVars false
open Go.RowKit Go.Proofs

/-- junto/juntoref12.Same -/
def r_ref12_Same : RFn := ⟨106,
  .seq (.reg [] [
    ⟨(some 2), none, .box 102 39 (.t 0)⟩,
    ⟨(some 3), none, .box 103 39 (.t 1)⟩,
    ⟨(some 4), none, .mv (.c (.bool false))⟩]) <|
  .keep [2, 3] <|
  .seq (.seq (.reg [] [
    ⟨(some 8), none, .fad 0 (.t 2)⟩,
    ⟨(some 9), none, .ld none (some (102, 0)) (.t 8)⟩,
    ⟨(some 10), none, .len (.t 9)⟩,
    ⟨(some 11), none, .fad 0 (.t 3)⟩,
    ⟨(some 12), none, .ld none (some (103, 0)) (.t 11)⟩,
    ⟨(some 13), none, .len (.t 12)⟩,
    ⟨(some 14), none, .bin .neq (.t 10) (.t 13)⟩,
    ⟨(some 15), none, .mv (.t 14)⟩,
    ⟨(some 16), (some (15, false, true)), .fad 1 (.t 2)⟩,
    ⟨(some 17), (some (15, false, true)), .ld none (some (102, 0)) (.t 16)⟩,
    ⟨(some 18), (some (15, false, true)), .len (.t 17)⟩,
    ⟨(some 19), (some (15, false, true)), .fad 1 (.t 3)⟩,
    ⟨(some 20), (some (15, false, true)), .ld none (some (103, 0)) (.t 19)⟩,
    ⟨(some 21), (some (15, false, true)), .len (.t 20)⟩,
    ⟨(some 22), (some (15, false, true)), .bin .neq (.t 18) (.t 21)⟩,
    ⟨(some 23), none, .pick (.t 15) (.c (.bool true)) (.t 22)⟩,
    ⟨(some 24), none, .mv (.t 23)⟩,
    ⟨(some 25), (some (24, false, true)), .fad 2 (.t 2)⟩,
    ⟨(some 26), (some (24, false, true)), .ld none (some (102, 0)) (.t 25)⟩,
    ⟨(some 27), (some (24, false, true)), .len (.t 26)⟩,
    ⟨(some 28), (some (24, false, true)), .fad 2 (.t 3)⟩,
    ⟨(some 29), (some (24, false, true)), .ld none (some (103, 0)) (.t 28)⟩,
    ⟨(some 30), (some (24, false, true)), .len (.t 29)⟩,
    ⟨(some 31), (some (24, false, true)), .bin .neq (.t 27) (.t 30)⟩,
    ⟨(some 32), none, .pick (.t 24) (.c (.bool true)) (.t 31)⟩]) <|
  .keep [2, 3, 32] <|
  .cond (.t 32)
    (.seq (.reg [] [
      ⟨(some 4), none, .mv (.c (.bool false))⟩]) <|
    .ret)
    (.skip)) <|
  .keep [2, 3] <|
  .seq (.seq (.reg [] [
    ⟨(some 33), none, .fad 0 (.t 2)⟩,
    ⟨(some 34), none, .ld none (some (102, 0)) (.t 33)⟩,
    ⟨(some 35), none, .len (.t 34)⟩,
    ⟨(some 36), none, .mv (.c (.int .i64 0))⟩]) <|
  .keep [2, 3, 35, 36] <|
  .block 0 <|
  .loop [2, 3, 35, 36] [102, 103, 1000000] <|
  .seq (.reg [] [
    ⟨(some 37), none, .bin .lss (.t 36) (.t 35)⟩]) <|
  .keep [2, 3, 35, 36, 37] <|
  .seq (.cond (.t 37)
    (.skip)
    (.exit 0)) <|
  .keep [2, 3, 35, 36] <|
  .seq (.block 1 <|
  .seq (.reg [] [
    ⟨(some 38), none, .mv (.t 36)⟩,
    ⟨(some 5), none, .mv (.t 38)⟩]) <|
  .keep [2, 3, 5, 35, 36] <|
  .seq (.dreg [] <|
    .take 0 ⟨(some 39), none, .fad 0 (.t 2)⟩ <|
    .take 2 ⟨(some 41), none, .mv (.t 5)⟩ <|
    .take 5 ⟨(some 44), none, .fad 0 (.t 3)⟩ <|
    .take 7 ⟨(some 46), none, .mv (.t 5)⟩ <|
    .held 1 ⟨(some 40), none, .ld none (some (102, 0)) (.t 39)⟩ <|
    .take 3 ⟨(some 42), none, .iad 2 (.t 40) (.t 41)⟩ <|
    .held 4 ⟨(some 43), none, .ld (some 2) none (.t 42)⟩ <|
    .exec [] 6 ⟨(some 45), none, .ld none (some (103, 0)) (.t 44)⟩ <|
    .exec [] 8 ⟨(some 47), none, .iad 2 (.t 45) (.t 46)⟩ <|
    .exec [] 9 ⟨(some 48), none, .ld (some 2) none (.t 47)⟩ <|
    .exec [] 10 ⟨(some 49), none, .eqs false [(0, 0), (1, 1)] (.t 43) (.t 48)⟩ <|
    .done) <|
  .keep [2, 3, 35, 36, 49] <|
  .cond (.t 49)
    (.seq (.reg [] [
      ⟨(some 4), none, .mv (.c (.bool false))⟩]) <|
    .ret)
    (.skip)) <|
  .keep [2, 3, 35, 36] <|
  .reg [] [
    ⟨(some 50), none, .bin .add (.t 36) (.c (.int .i64 1))⟩,
    ⟨(some 36), none, .mv (.t 50)⟩]) <|
  .keep [2, 3] <|
  .seq (.seq (.reg [] [
    ⟨(some 51), none, .fad 1 (.t 2)⟩,
    ⟨(some 52), none, .ld none (some (102, 0)) (.t 51)⟩,
    ⟨(some 53), none, .len (.t 52)⟩,
    ⟨(some 54), none, .mv (.c (.int .i64 0))⟩]) <|
  .keep [2, 3, 53, 54] <|
  .block 2 <|
  .loop [2, 3, 53, 54] [102, 103, 1000000] <|
  .seq (.reg [] [
    ⟨(some 55), none, .bin .lss (.t 54) (.t 53)⟩]) <|
  .keep [2, 3, 53, 54, 55] <|
  .seq (.cond (.t 55)
    (.skip)
    (.exit 2)) <|
  .keep [2, 3, 53, 54] <|
  .seq (.block 3 <|
  .seq (.reg [] [
    ⟨(some 56), none, .mv (.t 54)⟩,
    ⟨(some 6), none, .mv (.t 56)⟩]) <|
  .keep [2, 3, 6, 53, 54] <|
  .seq (.dreg [] <|
    .take 0 ⟨(some 57), none, .fad 1 (.t 2)⟩ <|
    .take 2 ⟨(some 59), none, .mv (.t 6)⟩ <|
    .take 5 ⟨(some 62), none, .fad 1 (.t 3)⟩ <|
    .take 7 ⟨(some 64), none, .mv (.t 6)⟩ <|
    .held 1 ⟨(some 58), none, .ld none (some (102, 0)) (.t 57)⟩ <|
    .take 3 ⟨(some 60), none, .iad 4 (.t 58) (.t 59)⟩ <|
    .held 4 ⟨(some 61), none, .ld (some 4) none (.t 60)⟩ <|
    .exec [] 6 ⟨(some 63), none, .ld none (some (103, 0)) (.t 62)⟩ <|
    .exec [] 8 ⟨(some 65), none, .iad 4 (.t 63) (.t 64)⟩ <|
    .exec [] 9 ⟨(some 66), none, .ld (some 4) none (.t 65)⟩ <|
    .exec [] 10 ⟨(some 67), none, .eqs false [(0, 0), (1, 0), (2, 0), (3, 0)] (.t 61) (.t 66)⟩ <|
    .done) <|
  .keep [2, 3, 53, 54, 67] <|
  .cond (.t 67)
    (.seq (.reg [] [
      ⟨(some 4), none, .mv (.c (.bool false))⟩]) <|
    .ret)
    (.skip)) <|
  .keep [2, 3, 53, 54] <|
  .reg [] [
    ⟨(some 68), none, .bin .add (.t 54) (.c (.int .i64 1))⟩,
    ⟨(some 54), none, .mv (.t 68)⟩]) <|
  .keep [2, 3] <|
  .seq (.seq (.reg [] [
    ⟨(some 69), none, .fad 2 (.t 2)⟩,
    ⟨(some 70), none, .ld none (some (102, 0)) (.t 69)⟩,
    ⟨(some 71), none, .len (.t 70)⟩,
    ⟨(some 72), none, .mv (.c (.int .i64 0))⟩]) <|
  .keep [2, 3, 71, 72] <|
  .block 4 <|
  .loop [2, 3, 71, 72] [102, 103, 1000000] <|
  .seq (.reg [] [
    ⟨(some 73), none, .bin .lss (.t 72) (.t 71)⟩]) <|
  .keep [2, 3, 71, 72, 73] <|
  .seq (.cond (.t 73)
    (.skip)
    (.exit 4)) <|
  .keep [2, 3, 71, 72] <|
  .seq (.block 5 <|
  .seq (.reg [] [
    ⟨(some 74), none, .mv (.t 72)⟩,
    ⟨(some 7), none, .mv (.t 74)⟩]) <|
  .keep [2, 3, 7, 71, 72] <|
  .seq (.dreg [] <|
    .take 0 ⟨(some 75), none, .fad 2 (.t 2)⟩ <|
    .take 2 ⟨(some 77), none, .mv (.t 7)⟩ <|
    .take 6 ⟨(some 81), none, .fad 2 (.t 3)⟩ <|
    .take 8 ⟨(some 83), none, .mv (.t 7)⟩ <|
    .held 1 ⟨(some 76), none, .ld none (some (102, 0)) (.t 75)⟩ <|
    .take 3 ⟨(some 78), none, .iad 2 (.t 76) (.t 77)⟩ <|
    .take 4 ⟨(some 79), none, .fad 0 (.t 78)⟩ <|
    .held 5 ⟨(some 80), none, .ld none none (.t 79)⟩ <|
    .exec [] 7 ⟨(some 82), none, .ld none (some (103, 0)) (.t 81)⟩ <|
    .exec [] 9 ⟨(some 84), none, .iad 2 (.t 82) (.t 83)⟩ <|
    .exec [] 10 ⟨(some 85), none, .fad 0 (.t 84)⟩ <|
    .exec [] 11 ⟨(some 86), none, .ld none none (.t 85)⟩ <|
    .exec [] 12 ⟨(some 87), none, .call [] [] 51 [(.t 80), (.t 86)]⟩ <|
    .exec [] 13 ⟨(some 88), none, .un .not (.t 87)⟩ <|
    .exec [] 14 ⟨(some 89), none, .mv (.t 88)⟩ <|
    .take 15 ⟨(some 90), (some (89, false, false)), .fad 2 (.t 2)⟩ <|
    .take 17 ⟨(some 92), (some (89, false, false)), .mv (.t 7)⟩ <|
    .take 21 ⟨(some 96), (some (89, false, false)), .fad 2 (.t 3)⟩ <|
    .take 23 ⟨(some 98), (some (89, false, false)), .mv (.t 7)⟩ <|
    .held 16 ⟨(some 91), (some (89, false, false)), .ld none (some (102, 0)) (.t 90)⟩ <|
    .take 18 ⟨(some 93), (some (89, false, false)), .iad 2 (.t 91) (.t 92)⟩ <|
    .take 19 ⟨(some 94), (some (89, false, false)), .fad 1 (.t 93)⟩ <|
    .held 20 ⟨(some 95), (some (89, false, false)), .ld none none (.t 94)⟩ <|
    .exec [] 22 ⟨(some 97), (some (89, false, false)), .ld none (some (103, 0)) (.t 96)⟩ <|
    .exec [] 24 ⟨(some 99), (some (89, false, false)), .iad 2 (.t 97) (.t 98)⟩ <|
    .exec [] 25 ⟨(some 100), (some (89, false, false)), .fad 1 (.t 99)⟩ <|
    .exec [] 26 ⟨(some 101), (some (89, false, false)), .ld none none (.t 100)⟩ <|
    .exec [] 27 ⟨(some 102), (some (89, false, false)), .call [] [] 51 [(.t 95), (.t 101)]⟩ <|
    .exec [] 28 ⟨(some 103), (some (89, false, false)), .un .not (.t 102)⟩ <|
    .exec [] 29 ⟨(some 104), none, .pick (.t 89) (.c (.bool true)) (.t 103)⟩ <|
    .done) <|
  .keep [2, 3, 71, 72, 104] <|
  .cond (.t 104)
    (.seq (.reg [] [
      ⟨(some 4), none, .mv (.c (.bool false))⟩]) <|
    .ret)
    (.skip)) <|
  .keep [2, 3, 71, 72] <|
  .reg [] [
    ⟨(some 105), none, .bin .add (.t 72) (.c (.int .i64 1))⟩,
    ⟨(some 72), none, .mv (.t 105)⟩]) <|
  .keep [] <|
  .seq (.reg [] [
    ⟨(some 4), none, .mv (.c (.bool true))⟩]) <|
  .ret,
  [.tmp 4], [], []⟩

theorem k_ref12_Same : rbFn Try.prog 22 r_ref12_Same = some r_ref12_Same := by kernel_rfl


theorem eqs_slot (s t : Slot) : eqFl [(0, 0), (1, 1)] s.enc t.enc = some (decide (s = t)) := by
  obtain ⟨a, b⟩ := s
  obtain ⟨c, d⟩ := t
  have e : decide ((⟨a, b⟩ : Slot) = ⟨c, d⟩) = ((a == c) && ((b == d) && true)) := by
    rw [Bool.eq_iff_iff]; simp
  rw [e]; rfl
theorem eqs_gate (s t : Gate) : eqFl [(0, 0), (1, 0), (2, 0), (3, 0)] s.enc t.enc = some (decide (s = t)) := by
  obtain ⟨a, b, c, d⟩ := s
  obtain ⟨a', b', c', d'⟩ := t
  have e : decide ((⟨a, b, c, d⟩ : Gate) = ⟨a', b', c', d'⟩) = ((a == a') && ((b == b') && ((c == c') && (((d : Int) == (d' : Int)) && true)))) := by
    rw [Bool.eq_iff_iff]; simp; omega
  rw [e]; rfl
theorem cells2 {G : GH} {b o : Nat} {x y : Value} (h : cellsG G b o 2 = some [x, y]) : G b o = some x ∧ G b (o + 1) = some y := by
  obtain ⟨_, hc⟩ := (cellsG_iff G b 2 o _).1 h
  exact ⟨hc 0 x rfl, hc 1 y rfl⟩
theorem SlX.lt {G : GH} {v : Value} {l : List Exit} (h : SlX G v l) {i : Nat} (hi : i < l.length) : i < maxLen := by
  obtain ⟨css, a, c, h1, h2, h3, _⟩ := h
  omega
theorem list_ext_to {α : Type} {l m : List α} (hl : l.length = m.length) (h : ∀ j, j < l.length → l[j]? = m[j]?) : l = m := by
  refine List.ext_getElem? fun j => ?_
  rcases Nat.lt_or_ge j l.length with h4 | h4
  · exact h j h4
  · rw [List.getElem?_eq_none (by omega), List.getElem?_eq_none (by omega)]

set_option maxHeartbeats 2000000 in
set_option maxRecDepth 20000 in
theorem c_Same {v u : Value} {x y : Circ} {G : GH} (hv : CircV G v x) (hu : CircV G u y) : Pure 22 [v, u] G (.bool (decide (x = y))) := by
  obtain ⟨ss, gs, xs⟩ := x
  obtain ⟨ss', gs', xs'⟩ := y
  obtain ⟨v1, v2, v3, rfl, ⟨a1, c1, rfl, hs1, hs2, hs⟩, ⟨a2, c2, rfl, hg1, hg2, hgt⟩, hx⟩ := hv
  obtain ⟨u1, u2, u3, rfl, ⟨a1', c1', rfl, hs1', hs2', hs'⟩, ⟨a2', c2', rfl, hg1', hg2', hgt'⟩, hx'⟩ := hu
  simp only at *
  obtain ⟨a3, c3, rfl⟩ := hx.len
  obtain ⟨a3', c3', rfl⟩ := hx'.len
  refine acalls mixed k_ref12_Same (by simp) fun F => ?_
  simp only [GV, frArgs, memArgs, resV, fillL, ← Bool.decide_or, ← Bool.decide_and, ← decide_not, ↓reduceIte, Nat.reduceEqDiff, Nat.reduceAdd, Nat.reduceMul, Nat.reduceLeDiff, Nat.reduceLT, Nat.reduceSub, Nat.succ_ne_zero, Nat.one_ne_zero, Nat.zero_ne_one, true_implies, false_implies, forall_const, implies_true, reduceCtorEq, eq_self, ite_true, ite_false, decide_true, decide_false, Nat.le_refl, Bool.false_eq_true, if_true, if_false]
  intro b1 b2
  refine cond_dec (fun h => ?_) (fun h => ?_)
  · have e : (⟨ss, gs, xs⟩ : Circ) ≠ ⟨ss', gs', xs'⟩ := fun e => by cases e; simp at h
    simp only [GV, frArgs, memArgs, resV, fillL, ← Bool.decide_or, ← Bool.decide_and, ← decide_not, ↓reduceIte, Nat.reduceEqDiff, Nat.reduceAdd, Nat.reduceMul, Nat.reduceLeDiff, Nat.reduceLT, Nat.reduceSub, Nat.succ_ne_zero, Nat.one_ne_zero, Nat.zero_ne_one, true_implies, false_implies, forall_const, implies_true, reduceCtorEq, eq_self, ite_true, ite_false, decide_true, decide_false, Nat.le_refl, Bool.false_eq_true, if_true, if_false, decide_eq_false e]
  have hl1 : ss.length = ss'.length := by omega
  have hl2 : gs.length = gs'.length := by omega
  have hl3 : xs.length = xs'.length := by omega
  simp only [GV, frArgs, memArgs, resV, fillL, ← Bool.decide_or, ← Bool.decide_and, ← decide_not, ↓reduceIte, Nat.reduceEqDiff, Nat.reduceAdd, Nat.reduceMul, Nat.reduceLeDiff, Nat.reduceLT, Nat.reduceSub, Nat.succ_ne_zero, Nat.one_ne_zero, Nat.zero_ne_one, true_implies, false_implies, forall_const, implies_true, reduceCtorEq, eq_self, ite_true, ite_false, decide_true, decide_false, Nat.le_refl, Bool.false_eq_true, if_true, if_false]
  refine loop_intro (fun n fr G' M => ∃ i : Nat, n = ss.length - i ∧ i ≤ ss.length ∧ (∀ j, j < i → ss[j]? = ss'[j]?) ∧ G' = G ∧ fr = [(2, true, .pointer (some ⟨b1, 0, none⟩)), (3, true, .pointer (some ⟨b2, 0, none⟩)), (35, true, .int .i64 ss.length), (36, true, .int .i64 i)] ∧
    M = [(102, [.var b1 39 [.slice a1 ss.length c1, .slice a2 gs.length c2, .slice a3 xs.length c3]]), (103, [.var b2 39 [.slice a1' ss'.length c1', .slice a2' gs'.length c2', .slice a3' xs'.length c3']]), (1000000, F)]) ss.length ⟨0, by simp, by simp, by simp, rfl, rfl, rfl⟩ ?_
  rintro n fr G1 M - ⟨i, rfl, hi, hp, rfl, rfl, rfl⟩
  simp only [GV, frArgs, memArgs, resV, fillL, ← Bool.decide_or, ← Bool.decide_and, ← decide_not, ↓reduceIte, Nat.reduceEqDiff, Nat.reduceAdd, Nat.reduceMul, Nat.reduceLeDiff, Nat.reduceLT, Nat.reduceSub, Nat.succ_ne_zero, Nat.one_ne_zero, Nat.zero_ne_one, true_implies, false_implies, forall_const, implies_true, reduceCtorEq, eq_self, ite_true, ite_false, decide_true, decide_false, Nat.le_refl, Bool.false_eq_true, if_true, if_false]
  refine cond_dec (fun h3 => ?_) (fun h3 => ?_)
  · have hlt : i < ss.length := by omega
    have hlt' : i < ss'.length := by omega
    obtain ⟨b, o, rfl, hxa⟩ := RowE.get hs hlt
    obtain ⟨b', o', rfl, hxb⟩ := RowE.get hs' hlt'
    simp only [GV, frArgs, memArgs, resV, fillL, ← Bool.decide_or, ← Bool.decide_and, ← decide_not, ↓reduceIte, Nat.reduceEqDiff, Nat.reduceAdd, Nat.reduceMul, Nat.reduceLeDiff, Nat.reduceLT, Nat.reduceSub, Nat.succ_ne_zero, Nat.one_ne_zero, Nat.zero_ne_one, true_implies, false_implies, forall_const, implies_true, reduceCtorEq, eq_self, ite_true, ite_false, decide_true, decide_false, Nat.le_refl, Bool.false_eq_true, if_true, if_false, hxa, hxb, eqs_slot]
    refine ⟨by omega, by omega, ?_⟩
    refine cond_dec (fun h4 => ?_) (fun h4 => ?_)
    · have e : (⟨ss, gs, xs⟩ : Circ) ≠ ⟨ss', gs', xs'⟩ := fun e => by cases e; exact h4 rfl
      simp only [GV, frArgs, memArgs, resV, fillL, ← Bool.decide_or, ← Bool.decide_and, ← decide_not, ↓reduceIte, Nat.reduceEqDiff, Nat.reduceAdd, Nat.reduceMul, Nat.reduceLeDiff, Nat.reduceLT, Nat.reduceSub, Nat.succ_ne_zero, Nat.one_ne_zero, Nat.zero_ne_one, true_implies, false_implies, forall_const, implies_true, reduceCtorEq, eq_self, ite_true, ite_false, decide_true, decide_false, Nat.le_refl, Bool.false_eq_true, if_true, if_false, decide_eq_false e]
    · simp only [GV, frArgs, memArgs, resV, fillL, ← Bool.decide_or, ← Bool.decide_and, ← decide_not, ↓reduceIte, Nat.reduceEqDiff, Nat.reduceAdd, Nat.reduceMul, Nat.reduceLeDiff, Nat.reduceLT, Nat.reduceSub, Nat.succ_ne_zero, Nat.one_ne_zero, Nat.zero_ne_one, true_implies, false_implies, forall_const, implies_true, reduceCtorEq, eq_self, ite_true, ite_false, decide_true, decide_false, Nat.le_refl, Bool.false_eq_true, if_true, if_false, wrapn (show i < maxLen by omega)]
      refine ⟨ss.length - (i + 1), by omega, i + 1, rfl, by omega, fun j hj => ?_, rfl⟩
      rcases Nat.lt_succ_iff_lt_or_eq.1 hj with hj | rfl
      · exact hp j hj
      · rw [List.getElem?_eq_getElem hlt, List.getElem?_eq_getElem hlt']
        exact congrArg some (by simpa using h4)
  have hss : ss = ss' := list_ext_to hl1 fun j hj => hp j (by omega)
  clear hp
  simp only [GV, frArgs, memArgs, resV, fillL, ← Bool.decide_or, ← Bool.decide_and, ← decide_not, ↓reduceIte, Nat.reduceEqDiff, Nat.reduceAdd, Nat.reduceMul, Nat.reduceLeDiff, Nat.reduceLT, Nat.reduceSub, Nat.succ_ne_zero, Nat.one_ne_zero, Nat.zero_ne_one, true_implies, false_implies, forall_const, implies_true, reduceCtorEq, eq_self, ite_true, ite_false, decide_true, decide_false, Nat.le_refl, Bool.false_eq_true, if_true, if_false]
  refine loop_intro (fun n fr G' M => ∃ i : Nat, n = gs.length - i ∧ i ≤ gs.length ∧ (∀ j, j < i → gs[j]? = gs'[j]?) ∧ G' = G1 ∧ fr = [(2, true, .pointer (some ⟨b1, 0, none⟩)), (3, true, .pointer (some ⟨b2, 0, none⟩)), (53, true, .int .i64 gs.length), (54, true, .int .i64 i)] ∧
    M = [(102, [.var b1 39 [.slice a1 ss.length c1, .slice a2 gs.length c2, .slice a3 xs.length c3]]), (103, [.var b2 39 [.slice a1' ss'.length c1', .slice a2' gs'.length c2', .slice a3' xs'.length c3']]), (1000000, F)]) gs.length ⟨0, by simp, by simp, by simp, rfl, rfl, rfl⟩ ?_
  rintro n fr G2 M - ⟨i, rfl, hi, hp, rfl, rfl, rfl⟩
  simp only [GV, frArgs, memArgs, resV, fillL, ← Bool.decide_or, ← Bool.decide_and, ← decide_not, ↓reduceIte, Nat.reduceEqDiff, Nat.reduceAdd, Nat.reduceMul, Nat.reduceLeDiff, Nat.reduceLT, Nat.reduceSub, Nat.succ_ne_zero, Nat.one_ne_zero, Nat.zero_ne_one, true_implies, false_implies, forall_const, implies_true, reduceCtorEq, eq_self, ite_true, ite_false, decide_true, decide_false, Nat.le_refl, Bool.false_eq_true, if_true, if_false]
  refine cond_dec (fun h3 => ?_) (fun h3 => ?_)
  · have hlt : i < gs.length := by omega
    have hlt' : i < gs'.length := by omega
    obtain ⟨b, o, rfl, hxa⟩ := RowE.get hgt hlt
    obtain ⟨b', o', rfl, hxb⟩ := RowE.get hgt' hlt'
    simp only [GV, frArgs, memArgs, resV, fillL, ← Bool.decide_or, ← Bool.decide_and, ← decide_not, ↓reduceIte, Nat.reduceEqDiff, Nat.reduceAdd, Nat.reduceMul, Nat.reduceLeDiff, Nat.reduceLT, Nat.reduceSub, Nat.succ_ne_zero, Nat.one_ne_zero, Nat.zero_ne_one, true_implies, false_implies, forall_const, implies_true, reduceCtorEq, eq_self, ite_true, ite_false, decide_true, decide_false, Nat.le_refl, Bool.false_eq_true, if_true, if_false, hxa, hxb, eqs_gate]
    refine ⟨by omega, by omega, ?_⟩
    refine cond_dec (fun h4 => ?_) (fun h4 => ?_)
    · have e : (⟨ss, gs, xs⟩ : Circ) ≠ ⟨ss', gs', xs'⟩ := fun e => by cases e; exact h4 rfl
      simp only [GV, frArgs, memArgs, resV, fillL, ← Bool.decide_or, ← Bool.decide_and, ← decide_not, ↓reduceIte, Nat.reduceEqDiff, Nat.reduceAdd, Nat.reduceMul, Nat.reduceLeDiff, Nat.reduceLT, Nat.reduceSub, Nat.succ_ne_zero, Nat.one_ne_zero, Nat.zero_ne_one, true_implies, false_implies, forall_const, implies_true, reduceCtorEq, eq_self, ite_true, ite_false, decide_true, decide_false, Nat.le_refl, Bool.false_eq_true, if_true, if_false, decide_eq_false e]
    · simp only [GV, frArgs, memArgs, resV, fillL, ← Bool.decide_or, ← Bool.decide_and, ← decide_not, ↓reduceIte, Nat.reduceEqDiff, Nat.reduceAdd, Nat.reduceMul, Nat.reduceLeDiff, Nat.reduceLT, Nat.reduceSub, Nat.succ_ne_zero, Nat.one_ne_zero, Nat.zero_ne_one, true_implies, false_implies, forall_const, implies_true, reduceCtorEq, eq_self, ite_true, ite_false, decide_true, decide_false, Nat.le_refl, Bool.false_eq_true, if_true, if_false, wrapn (show i < maxLen by omega)]
      refine ⟨gs.length - (i + 1), by omega, i + 1, rfl, by omega, fun j hj => ?_, rfl⟩
      rcases Nat.lt_succ_iff_lt_or_eq.1 hj with hj | rfl
      · exact hp j hj
      · rw [List.getElem?_eq_getElem hlt, List.getElem?_eq_getElem hlt']
        exact congrArg some (by simpa using h4)
  have hgs : gs = gs' := list_ext_to hl2 fun j hj => hp j (by omega)
  clear hp
  simp only [GV, frArgs, memArgs, resV, fillL, ← Bool.decide_or, ← Bool.decide_and, ← decide_not, ↓reduceIte, Nat.reduceEqDiff, Nat.reduceAdd, Nat.reduceMul, Nat.reduceLeDiff, Nat.reduceLT, Nat.reduceSub, Nat.succ_ne_zero, Nat.one_ne_zero, Nat.zero_ne_one, true_implies, false_implies, forall_const, implies_true, reduceCtorEq, eq_self, ite_true, ite_false, decide_true, decide_false, Nat.le_refl, Bool.false_eq_true, if_true, if_false]
  refine loop_intro (fun n fr G' M => ∃ i : Nat, n = xs.length - i ∧ i ≤ xs.length ∧ (∀ j, j < i → xs[j]? = xs'[j]?) ∧ G' = G2 ∧ fr = [(2, true, .pointer (some ⟨b1, 0, none⟩)), (3, true, .pointer (some ⟨b2, 0, none⟩)), (71, true, .int .i64 xs.length), (72, true, .int .i64 i)] ∧
    M = [(102, [.var b1 39 [.slice a1 ss.length c1, .slice a2 gs.length c2, .slice a3 xs.length c3]]), (103, [.var b2 39 [.slice a1' ss'.length c1', .slice a2' gs'.length c2', .slice a3' xs'.length c3']]), (1000000, F)]) xs.length ⟨0, by simp, by simp, by simp, rfl, rfl, rfl⟩ ?_
  rintro n fr G3 M - ⟨i, rfl, hi, hp, rfl, rfl, rfl⟩
  simp only [GV, frArgs, memArgs, resV, fillL, ← Bool.decide_or, ← Bool.decide_and, ← decide_not, ↓reduceIte, Nat.reduceEqDiff, Nat.reduceAdd, Nat.reduceMul, Nat.reduceLeDiff, Nat.reduceLT, Nat.reduceSub, Nat.succ_ne_zero, Nat.one_ne_zero, Nat.zero_ne_one, true_implies, false_implies, forall_const, implies_true, reduceCtorEq, eq_self, ite_true, ite_false, decide_true, decide_false, Nat.le_refl, Bool.false_eq_true, if_true, if_false]
  refine cond_dec (fun h3 => ?_) (fun h3 => ?_)
  · have hlt : i < xs.length := by omega
    have hlt' : i < xs'.length := by omega
    obtain ⟨b, o, cc, vt, vg, e, hxa, ht, hgg⟩ := hx.at hlt
    cases e
    obtain ⟨b', o', cc', vt', vg', e', hxb, ht', hgg'⟩ := hx'.at hlt'
    cases e'
    obtain ⟨hxa0, hxa1⟩ := cells2 hxa
    obtain ⟨hxb0, hxb1⟩ := cells2 hxb
    simp only [GV, frArgs, memArgs, resV, fillL, ← Bool.decide_or, ← Bool.decide_and, ← decide_not, ↓reduceIte, Nat.reduceEqDiff, Nat.reduceAdd, Nat.reduceMul, Nat.reduceLeDiff, Nat.reduceLT, Nat.reduceSub, Nat.succ_ne_zero, Nat.one_ne_zero, Nat.zero_ne_one, true_implies, false_implies, forall_const, implies_true, reduceCtorEq, eq_self, ite_true, ite_false, decide_true, decide_false, Nat.le_refl, Bool.false_eq_true, if_true, if_false, hxa0, hxb0]
    refine ⟨by omega, by omega, ?_⟩
    refine (c_ints ht ht').mono ?_
    rintro o G4 Es hg4 ⟨rfl, rfl, rfl⟩
    cases hd : decide (xs[i].to = xs'[i].to) with
    | false =>
      have e : (⟨ss, gs, xs⟩ : Circ) ≠ ⟨ss', gs', xs'⟩ := fun e => by cases e; simp at hd
      simp only [GV, frArgs, memArgs, resV, fillL, ← Bool.decide_or, ← Bool.decide_and, ← decide_not, ↓reduceIte, Nat.reduceEqDiff, Nat.reduceAdd, Nat.reduceMul, Nat.reduceLeDiff, Nat.reduceLT, Nat.reduceSub, Nat.succ_ne_zero, Nat.one_ne_zero, Nat.zero_ne_one, true_implies, false_implies, forall_const, implies_true, reduceCtorEq, eq_self, ite_true, ite_false, decide_true, decide_false, Nat.le_refl, Bool.false_eq_true, if_true, if_false, hxa0, hxb0, decide_eq_false e]
    | true =>
      simp only [GV, frArgs, memArgs, resV, fillL, ← Bool.decide_or, ← Bool.decide_and, ← decide_not, ↓reduceIte, Nat.reduceEqDiff, Nat.reduceAdd, Nat.reduceMul, Nat.reduceLeDiff, Nat.reduceLT, Nat.reduceSub, Nat.succ_ne_zero, Nat.one_ne_zero, Nat.zero_ne_one, true_implies, false_implies, forall_const, implies_true, reduceCtorEq, eq_self, ite_true, ite_false, decide_true, decide_false, Nat.le_refl, Bool.false_eq_true, if_true, if_false, hxa0, hxb0, hxa1, hxb1]
      refine ⟨by omega, by omega, ?_⟩
      refine (c_ints hgg hgg').mono ?_
      rintro o G5 Es hg5 ⟨rfl, rfl, rfl⟩
      simp only [GV, frArgs, memArgs, resV, fillL, ← Bool.decide_or, ← Bool.decide_and, ← decide_not, ↓reduceIte, Nat.reduceEqDiff, Nat.reduceAdd, Nat.reduceMul, Nat.reduceLeDiff, Nat.reduceLT, Nat.reduceSub, Nat.succ_ne_zero, Nat.one_ne_zero, Nat.zero_ne_one, true_implies, false_implies, forall_const, implies_true, reduceCtorEq, eq_self, ite_true, ite_false, decide_true, decide_false, Nat.le_refl, Bool.false_eq_true, if_true, if_false, hxa0, hxb0, hxa1, hxb1]
      refine cond_intro (fun h4 => ?_) (fun h4 => ?_)
      · have e : (⟨ss, gs, xs⟩ : Circ) ≠ ⟨ss', gs', xs'⟩ := fun e => by cases e; simp at h4
        simp only [GV, frArgs, memArgs, resV, fillL, ← Bool.decide_or, ← Bool.decide_and, ← decide_not, ↓reduceIte, Nat.reduceEqDiff, Nat.reduceAdd, Nat.reduceMul, Nat.reduceLeDiff, Nat.reduceLT, Nat.reduceSub, Nat.succ_ne_zero, Nat.one_ne_zero, Nat.zero_ne_one, true_implies, false_implies, forall_const, implies_true, reduceCtorEq, eq_self, ite_true, ite_false, decide_true, decide_false, Nat.le_refl, Bool.false_eq_true, if_true, if_false, decide_eq_false e]
      · simp only [GV, frArgs, memArgs, resV, fillL, ← Bool.decide_or, ← Bool.decide_and, ← decide_not, ↓reduceIte, Nat.reduceEqDiff, Nat.reduceAdd, Nat.reduceMul, Nat.reduceLeDiff, Nat.reduceLT, Nat.reduceSub, Nat.succ_ne_zero, Nat.one_ne_zero, Nat.zero_ne_one, true_implies, false_implies, forall_const, implies_true, reduceCtorEq, eq_self, ite_true, ite_false, decide_true, decide_false, Nat.le_refl, Bool.false_eq_true, if_true, if_false, wrapn (show i < maxLen by have := hx.lt hlt; omega)]
        refine ⟨xs.length - (i + 1), by omega, i + 1, rfl, by omega, fun j hj => ?_, rfl⟩
        rcases Nat.lt_succ_iff_lt_or_eq.1 hj with hj | rfl
        · exact hp j hj
        · rw [List.getElem?_eq_getElem hlt, List.getElem?_eq_getElem hlt']
          have e1 := of_decide_eq_true hd
          have e2 : xs[j].gates = xs'[j].gates := by simpa using h4
          refine congrArg some ?_
          generalize xs[j] = p at e1 e2
          generalize xs'[j] = q at e1 e2
          obtain ⟨_, _⟩ := p
          obtain ⟨_, _⟩ := q
          simp only at e1 e2
          subst e1 e2
          rfl
  · have hxs : xs = xs' := list_ext_to hl3 fun j hj => hp j (by omega)
    have e : (⟨ss, gs, xs⟩ : Circ) = ⟨ss', gs', xs'⟩ := by rw [hss, hgs, hxs]
    simp only [GV, frArgs, memArgs, resV, fillL, ← Bool.decide_or, ← Bool.decide_and, ← decide_not, ↓reduceIte, Nat.reduceEqDiff, Nat.reduceAdd, Nat.reduceMul, Nat.reduceLeDiff, Nat.reduceLT, Nat.reduceSub, Nat.succ_ne_zero, Nat.one_ne_zero, Nat.zero_ne_one, true_implies, false_implies, forall_const, implies_true, reduceCtorEq, eq_self, ite_true, ite_false, decide_true, decide_false, Nat.le_refl, Bool.false_eq_true, if_true, if_false, decide_eq_true e]
end Go.Gv.W
