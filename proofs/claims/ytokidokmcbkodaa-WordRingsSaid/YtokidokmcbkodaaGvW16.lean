/-
  Words as rings have them: turned words, words as numbers. No condition.
-/
import Derived.Test.YtokidokmcbkodaaGvW15
namespace Go.Gv.W
set_option linter.unusedSimpArgs false
set_option linter.unusedVariables false
set_option linter.unusedSectionVars false
open Go.RowKit Go.Proofs

/-- junto/ring.turned[int] -/
def r_ring_turned_int : RFn := ⟨22,
  .ghost 110 <|
  .seq (.reg [] [
    ⟨(some 4), none, .mv (.c (.slice none 0 0))⟩]) <|
  .keep [0, 1] <|
  .seq (.reg [] [
    ⟨(some 5), none, .mv (.c (.slice none 0 0))⟩]) <|
  .keep [0, 1, 5] <|
  .seq (.seq (.reg [] [
    ⟨(some 8), none, .mv (.t 1)⟩,
    ⟨(some 9), none, .len (.t 8)⟩,
    ⟨(some 10), none, .mv (.c (.int .i64 0))⟩]) <|
  .keep [0, 5, 8, 9, 10] <|
  .block 0 <|
  .loop [0, 5, 8, 9, 10] [0, 1, 2, 3, 110, 1000000] <|
  .seq (.reg [] [
    ⟨(some 11), none, .bin .lss (.t 10) (.t 9)⟩]) <|
  .keep [0, 5, 8, 9, 10, 11] <|
  .seq (.cond (.t 11)
    (.skip)
    (.exit 0)) <|
  .keep [0, 5, 8, 9, 10] <|
  .seq (.block 1 <|
  .seq (.reg [] [
    ⟨(some 12), none, .iad 1 (.t 8) (.t 10)⟩,
    ⟨(some 13), none, .ld none none (.t 12)⟩,
    ⟨(some 7), none, .mv (.t 13)⟩]) <|
  .keep [0, 5, 7, 8, 9, 10] <|
  .reg [] [
    ⟨(some 14), none, .mv (.t 5)⟩,
    ⟨(some 15), none, .mv (.t 0)⟩,
    ⟨(some 16), none, .mv (.t 7)⟩,
    ⟨(some 17), none, .call [0, 1, 2, 3] [0, 1, 2, 3] 65 [(.t 15), (.t 16)]⟩,
    ⟨(some 18), none, .bsl none 3 1 1 [(.int .i64 0)] [(0, 1)] [(0, (.t 17))]⟩,
    ⟨(some 19), none, .app (some 110) 110 3 1 8 (.t 14) (.t 18)⟩,
    ⟨(some 5), none, .mv (.t 19)⟩]) <|
  .keep [0, 5, 8, 9, 10] <|
  .reg [] [
    ⟨(some 20), none, .bin .add (.t 10) (.c (.int .i64 1))⟩,
    ⟨(some 10), none, .mv (.t 20)⟩]) <|
  .keep [5] <|
  .seq (.reg [] [
    ⟨(some 21), none, .mv (.t 5)⟩,
    ⟨(some 4), none, .mv (.t 21)⟩]) <|
  .ret,
  [.tmp 4], [0, 1, 2, 3], [0, 1, 2, 3]⟩

theorem k_ring_turned_int : rbFn Try.prog 68 r_ring_turned_int = some r_ring_turned_int := by kernel_rfl

/-- junto/ring.Num[int] -/
def r_ring_Num_int : RFn := ⟨30,
  .seq (.reg [] [
    ⟨(some 4), none, .mv (.c (.int .i64 0))⟩]) <|
  .keep [0, 1] <|
  .seq (.reg [] [
    ⟨(some 7), none, .mv (.t 0)⟩,
    ⟨(some 8), none, .calli [0, 1, 2, 3] [0, 1, 2, 3] (.t 7) "Fixed" [(.c (.int .u64 0))]⟩,
    ⟨(some 5), none, .mv (.t 8)⟩]) <|
  .keep [0, 1, 5] <|
  .seq (.seq (.reg [] [
    ⟨(some 9), none, .mv (.t 1)⟩,
    ⟨(some 10), none, .len (.t 9)⟩,
    ⟨(some 11), none, .bin .sub (.t 10) (.c (.int .i64 1))⟩,
    ⟨(some 6), none, .mv (.t 11)⟩]) <|
  .keep [0, 1, 5, 6] <|
  .block 0 <|
  .loop [0, 1, 5, 6] [0, 1, 2, 3, 1000000] <|
  .seq (.seq (.reg [] [
    ⟨(some 12), none, .mv (.t 6)⟩,
    ⟨(some 13), none, .bin .geq (.t 12) (.c (.int .i64 0))⟩]) <|
  .keep [0, 1, 5, 6, 13] <|
  .cond (.t 13)
    (.skip)
    (.exit 0)) <|
  .keep [0, 1, 5, 6] <|
  .seq (.block 1 <|
  .dreg [] <|
    .take 0 ⟨(some 16), none, .mv (.t 0)⟩ <|
    .take 1 ⟨(some 17), none, .mv (.t 0)⟩ <|
    .take 2 ⟨(some 18), none, .mv (.t 5)⟩ <|
    .take 3 ⟨(some 19), none, .mv (.t 5)⟩ <|
    .take 5 ⟨(some 21), none, .mv (.t 1)⟩ <|
    .take 6 ⟨(some 22), none, .mv (.t 6)⟩ <|
    .take 7 ⟨(some 23), none, .iad 1 (.t 21) (.t 22)⟩ <|
    .take 9 ⟨(some 25), none, .mkf (.method "Sum") [(.t 16)] []⟩ <|
    .take 10 ⟨(some 26), none, .nil (.t 25)⟩ <|
    .take 11 ⟨(some 27), none, .mv (.t 16)⟩ <|
    .held 8 ⟨(some 24), none, .ld none none (.t 23)⟩ <|
    .exec [] 4 ⟨(some 20), none, .calli [0, 1, 2, 3] [0, 1, 2, 3] (.t 17) "Sum" [(.t 18), (.t 19)]⟩ <|
    .exec [] 12 ⟨(some 28), none, .calli [0, 1, 2, 3] [0, 1, 2, 3] (.t 27) "Sum" [(.t 20), (.t 24)]⟩ <|
    .exec [] 13 ⟨(some 5), none, .mv (.t 28)⟩ <|
    .done) <|
  .keep [0, 1, 5, 6] <|
  .reg [] [
    ⟨(some 14), none, .mv (.t 6)⟩,
    ⟨(some 15), none, .bin .sub (.t 14) (.c (.int .i64 1))⟩,
    ⟨(some 6), none, .mv (.t 15)⟩]) <|
  .keep [5] <|
  .seq (.reg [] [
    ⟨(some 29), none, .mv (.t 5)⟩,
    ⟨(some 4), none, .mv (.t 29)⟩]) <|
  .ret,
  [.tmp 4], [0, 1, 2, 3], [0, 1, 2, 3]⟩

theorem k_ring_Num_int : rbFn Try.prog 80 r_ring_Num_int = some r_ring_Num_int := by kernel_rfl


set_option maxHeartbeats 1000000 in
set_option maxRecDepth 20000 in
theorem c_rTurn {G : GH} {bb : Nat} {B : Bd} {Es : List (List Ent)} {v : Value} {l : List Int} (hb : BoardM G bb B Es) (hp : B.p ≠ 0) (hv : SlI G .i64 v l) (hmax : l.length ≤ 65536) :
    ACalls Try.prog 68 [rg bb, v] G Es (WR bb encW (rTurnA [] l B)) := by
  obtain ⟨a1, c1, rfl, hl1, hl2, hrow⟩ := hv
  obtain ⟨e0, e1, e2, e3, rfl⟩ := hb.es
  refine acalls mixed k_ring_turned_int (by simp) fun F => ?_
  simp only [GV, frArgs, memArgs, resV, fillL, ← Bool.decide_or, ← Bool.decide_and, ← decide_not, ↓reduceIte, Nat.reduceEqDiff, Nat.reduceAdd, Nat.reduceMul, Nat.reduceLeDiff, Nat.reduceLT, Nat.reduceSub, Nat.succ_ne_zero, Nat.one_ne_zero, Nat.zero_ne_one, true_implies, false_implies, forall_const, implies_true, reduceCtorEq, eq_self, ite_true, ite_false, decide_true, decide_false, Nat.le_refl, Bool.false_eq_true, if_true, if_false]
  refine loop_intro (fun n fr G' M => ∃ (i : Nat) (acc : List Int) (vo : Value) (es : List Ent) (B' : Bd) (e0 e1 e2 e3 : List Ent), n = l.length - i ∧ i ≤ l.length ∧ acc.length = i ∧ rTurnA [] l B = rTurnA acc (l.drop i) B' ∧ BoardM G' bb B' [e0, e1, e2, e3] ∧ B'.p ≠ 0 ∧
      GLe G G' ∧ OwnS G' 3 1 vo (encI .i64 acc).flatten es ∧
      fr = [(0, true, rg bb), (5, true, vo), (8, true, .slice a1 l.length c1), (9, true, .int .i64 l.length), (10, true, .int .i64 i)] ∧
      M = [(0, e0), (1, e1), (2, e2), (3, e3), (110, es), (1000000, F)]) l.length ⟨0, [], _, [], B, e0, e1, e2, e3, by simp, by simp, rfl, by simp, hb, hp, GLe.refl _, OwnS.nil _ _ _, rfl, rfl⟩ ?_
  clear hb hp
  rintro n fr G1 M - ⟨i, acc, vo, es, B1, e0, e1, e2, e3, rfl, hi, hacc, hmod, hb, hp, hg0, hown, rfl, rfl⟩
  simp only [GV, frArgs, memArgs, resV, fillL, ← Bool.decide_or, ← Bool.decide_and, ← decide_not, ↓reduceIte, Nat.reduceEqDiff, Nat.reduceAdd, Nat.reduceMul, Nat.reduceLeDiff, Nat.reduceLT, Nat.reduceSub, Nat.succ_ne_zero, Nat.one_ne_zero, Nat.zero_ne_one, true_implies, false_implies, forall_const, implies_true, reduceCtorEq, eq_self, ite_true, ite_false, decide_true, decide_false, Nat.le_refl, Bool.false_eq_true, if_true, if_false]
  refine cond_dec (fun h => ?_) (fun h => ?_)
  · have hlt : i < l.length := by omega
    obtain ⟨b, o, rfl, hx⟩ := RowI.get hrow hlt
    have hxa := hg0 _ _ _ hx
    rw [List.drop_eq_getElem_cons hlt, rTurnA] at hmod
    simp only [GV, frArgs, memArgs, resV, fillL, ← Bool.decide_or, ← Bool.decide_and, ← decide_not, ↓reduceIte, Nat.reduceEqDiff, Nat.reduceAdd, Nat.reduceMul, Nat.reduceLeDiff, Nat.reduceLT, Nat.reduceSub, Nat.succ_ne_zero, Nat.one_ne_zero, Nat.zero_ne_one, true_implies, false_implies, forall_const, implies_true, reduceCtorEq, eq_self, ite_true, ite_false, decide_true, decide_false, Nat.le_refl, Bool.false_eq_true, if_true, if_false, hxa, Nat.mul_one]
    refine ⟨by omega, ?_⟩
    refine wcallf (c_rNot hb hp) ?_ ?_
    · rintro k1 B1 v G1 e0 e1 e2 e3 hg hr1 rfl hb hp
      replace hown := hown.mono hg
      replace hg0 := hg0.trans hg
      simp only [GV, frArgs, memArgs, resV, fillL, ← Bool.decide_or, ← Bool.decide_and, ← decide_not, ↓reduceIte, Nat.reduceEqDiff, Nat.reduceAdd, Nat.reduceMul, Nat.reduceLeDiff, Nat.reduceLT, Nat.reduceSub, Nat.succ_ne_zero, Nat.one_ne_zero, Nat.zero_ne_one, true_implies, false_implies, forall_const, implies_true, reduceCtorEq, eq_self, ite_true, ite_false, decide_true, decide_false, Nat.le_refl, Bool.false_eq_true, if_true, if_false, nil_Less]
      refine bsl_intro fun b5 G2 hg2 hc5 => ?_
      simp only [GV, frArgs, memArgs, resV, fillL, ← Bool.decide_or, ← Bool.decide_and, ← decide_not, ↓reduceIte, Nat.reduceEqDiff, Nat.reduceAdd, Nat.reduceMul, Nat.reduceLeDiff, Nat.reduceLT, Nat.reduceSub, Nat.succ_ne_zero, Nat.one_ne_zero, Nat.zero_ne_one, true_implies, false_implies, forall_const, implies_true, reduceCtorEq, eq_self, ite_true, ite_false, decide_true, decide_false, Nat.le_refl, Bool.false_eq_true, if_true, if_false]
      refine app_moreN rfl (hown.mono hg2) (encI_len _ _) (row_one hc5 rfl) rfl (int_one k1) (by rw [encI_length]; omega) (fun v' es' G3 hg3 ho => ?_)
      replace ho := own_more ho
      replace hg0 := hg0.trans (hg2.trans hg3)
      replace hb := hb.mono (hg2.trans hg3)
      simp only [GV, frArgs, memArgs, resV, fillL, ← Bool.decide_or, ← Bool.decide_and, ← decide_not, ↓reduceIte, Nat.reduceEqDiff, Nat.reduceAdd, Nat.reduceMul, Nat.reduceLeDiff, Nat.reduceLT, Nat.reduceSub, Nat.succ_ne_zero, Nat.one_ne_zero, Nat.zero_ne_one, true_implies, false_implies, forall_const, implies_true, reduceCtorEq, eq_self, ite_true, ite_false, decide_true, decide_false, Nat.le_refl, Bool.false_eq_true, if_true, if_false, wrapn (show i < maxLen by omega)]
      refine ⟨l.length - (i + 1), by omega, i + 1, acc ++ [k1], v', es', B1, e0, e1, e2, e3, rfl, by omega, by simp [hacc], ?_, hb, hp, hg0, ho, rfl, rfl⟩
      rw [hmod]; simp only [Rm.bind, hr1]
    · rintro e B1 G1 e0 e1 e2 e3 hg hr1 hb hp
      simp only [GV, frArgs, memArgs, resV, fillL, ← Bool.decide_or, ← Bool.decide_and, ← decide_not, ↓reduceIte, Nat.reduceEqDiff, Nat.reduceAdd, Nat.reduceMul, Nat.reduceLeDiff, Nat.reduceLT, Nat.reduceSub, Nat.succ_ne_zero, Nat.one_ne_zero, Nat.zero_ne_one, true_implies, false_implies, forall_const, implies_true, reduceCtorEq, eq_self, ite_true, ite_false, decide_true, decide_false, Nat.le_refl, Bool.false_eq_true, if_true, if_false]
      exact WR.bad (by rw [hmod]; simp only [Rm.bind, hr1]) hb hp
  · rw [List.drop_eq_nil_of_le (by omega), rTurnA.eq_2 acc] at hmod
    obtain ⟨a5, c5, rfl, -⟩ := ownS_slI hown
    simp only [GV, frArgs, memArgs, resV, fillL, ← Bool.decide_or, ← Bool.decide_and, ← decide_not, ↓reduceIte, Nat.reduceEqDiff, Nat.reduceAdd, Nat.reduceMul, Nat.reduceLeDiff, Nat.reduceLT, Nat.reduceSub, Nat.succ_ne_zero, Nat.one_ne_zero, Nat.zero_ne_one, true_implies, false_implies, forall_const, implies_true, reduceCtorEq, eq_self, ite_true, ite_false, decide_true, decide_false, Nat.le_refl, Bool.false_eq_true, if_true, if_false]
    exact WR.ok hmod (ownS_slI hown) hb hp

def rNumA : List Int → Int → Rm Int
  | x :: r, n => .bind (rSum n n) fun d => .bind (rSum d x) fun n' => rNumA r n'
  | [], n => .pure n
def rNum (w : List Int) : Rm Int := .bind (rFixed 0) fun n => rNumA w.reverse n

set_option maxHeartbeats 1000000 in
set_option maxRecDepth 20000 in
theorem c_rNum {G : GH} {bb : Nat} {B : Bd} {Es : List (List Ent)} {v : Value} {l : List Int} (hb : BoardM G bb B Es) (hp : B.p ≠ 0) (hv : SlI G .i64 v l) (hmax : l.length ≤ 65536) :
    ACalls Try.prog 80 [rg bb, v] G Es (WR bb encZ (rNum l B)) := by
  obtain ⟨a1, c1, rfl, hl1, hl2, hrow⟩ := hv
  obtain ⟨e0, e1, e2, e3, rfl⟩ := hb.es
  refine acalls mixed k_ring_Num_int (by simp) fun F => ?_
  simp only [GV, frArgs, memArgs, resV, fillL, ← Bool.decide_or, ← Bool.decide_and, ← decide_not, ↓reduceIte, Nat.reduceEqDiff, Nat.reduceAdd, Nat.reduceMul, Nat.reduceLeDiff, Nat.reduceLT, Nat.reduceSub, Nat.succ_ne_zero, Nat.one_ne_zero, Nat.zero_ne_one, true_implies, false_implies, forall_const, implies_true, reduceCtorEq, eq_self, ite_true, ite_false, decide_true, decide_false, Nat.le_refl, Bool.false_eq_true, if_true, if_false, rg]
  refine wcall (meth_Fixed _) rfl (c_wFixed hb hp) ?_ ?_
  · clear hb hp
    rintro k0 B0 v G0 e0 e1 e2 e3 hg00 hr0 rfl hb hp
    have hw0 : IntKind.i64.wrap ((l.length : Nat) - 1) = ((l.length : Nat) : Int) - 1 := by rw [wrap64] <;> omega
    simp only [GV, frArgs, memArgs, resV, fillL, ← Bool.decide_or, ← Bool.decide_and, ← decide_not, ↓reduceIte, Nat.reduceEqDiff, Nat.reduceAdd, Nat.reduceMul, Nat.reduceLeDiff, Nat.reduceLT, Nat.reduceSub, Nat.succ_ne_zero, Nat.one_ne_zero, Nat.zero_ne_one, true_implies, false_implies, forall_const, implies_true, reduceCtorEq, eq_self, ite_true, ite_false, decide_true, decide_false, Nat.le_refl, Bool.false_eq_true, if_true, if_false, hw0]
    refine loop_intro (fun n fr G' M => ∃ (i : Nat) (k : Int) (B' : Bd) (e0 e1 e2 e3 : List Ent), n = l.length - i ∧ i ≤ l.length ∧ rNum l B = rNumA (l.reverse.drop i) k B' ∧ BoardM G' bb B' [e0, e1, e2, e3] ∧ B'.p ≠ 0 ∧
      GLe G G' ∧
      fr = [(0, true, .iface 115 (wv bb)), (1, true, .slice a1 l.length c1), (5, true, .int .i64 k), (6, true, .int .i64 ((l.length : Nat) - 1 - (i : Nat) : Int))] ∧
      M = [(0, e0), (1, e1), (2, e2), (3, e3), (1000000, F)]) l.length ⟨0, k0, B0, e0, e1, e2, e3, by simp, by simp, by simp only [rNum, Rm.bind, hr0, List.drop_zero], hb, hp, hg00, by simp, rfl⟩ ?_
    clear hb hp
    rintro n fr G1 M - ⟨i, k, B1, e0, e1, e2, e3, rfl, hi, hmod, hb, hp, hg0, rfl, rfl⟩
    simp only [GV, frArgs, memArgs, resV, fillL, ← Bool.decide_or, ← Bool.decide_and, ← decide_not, ↓reduceIte, Nat.reduceEqDiff, Nat.reduceAdd, Nat.reduceMul, Nat.reduceLeDiff, Nat.reduceLT, Nat.reduceSub, Nat.succ_ne_zero, Nat.one_ne_zero, Nat.zero_ne_one, true_implies, false_implies, forall_const, implies_true, reduceCtorEq, eq_self, ite_true, ite_false, decide_true, decide_false, Nat.le_refl, Bool.false_eq_true, if_true, if_false]
    refine cond_dec (fun h => ?_) (fun h => ?_)
    · have hlt : i < l.length := by omega
      have hlt' : l.length - 1 - i < l.length := by omega
      obtain ⟨b, o, rfl, hx⟩ := RowI.get hrow hlt'
      have hxa := hg0 _ _ _ hx
      have hlr : i < l.reverse.length := by simpa using hlt
      have hgr : l.reverse[i] = l[l.length - 1 - i] := by rw [List.getElem_reverse]
      rw [List.drop_eq_getElem_cons hlr, rNumA, hgr] at hmod
      have hn : ((l.length : Nat) - 1 - (i : Nat) : Int) = ((l.length - 1 - i : Nat) : Int) := by omega
      have hw1 : IntKind.i64.wrap (((l.length - 1 - i : Nat) : Int) - 1) = ((l.length : Nat) - 1 - ((i + 1 : Nat) : Int) : Int) := by rw [wrap64] <;> omega
      simp only [GV, frArgs, memArgs, resV, fillL, ← Bool.decide_or, ← Bool.decide_and, ← decide_not, ↓reduceIte, Nat.reduceEqDiff, Nat.reduceAdd, Nat.reduceMul, Nat.reduceLeDiff, Nat.reduceLT, Nat.reduceSub, Nat.succ_ne_zero, Nat.one_ne_zero, Nat.zero_ne_one, true_implies, false_implies, forall_const, implies_true, reduceCtorEq, eq_self, ite_true, ite_false, decide_true, decide_false, Nat.le_refl, Bool.false_eq_true, if_true, if_false, hn, hxa, Nat.mul_one, nil_Sum]
      refine ⟨by omega, ?_⟩
      refine wcall (meth_Sum _) rfl (c_wSum hb hp) ?_ ?_
      · rintro k1 B1 v G1 e0 e1 e2 e3 hg hr1 rfl hb hp
        replace hg0 := hg0.trans hg
        replace hxa := hg _ _ _ hxa
        simp only [GV, frArgs, memArgs, resV, fillL, ← Bool.decide_or, ← Bool.decide_and, ← decide_not, ↓reduceIte, Nat.reduceEqDiff, Nat.reduceAdd, Nat.reduceMul, Nat.reduceLeDiff, Nat.reduceLT, Nat.reduceSub, Nat.succ_ne_zero, Nat.one_ne_zero, Nat.zero_ne_one, true_implies, false_implies, forall_const, implies_true, reduceCtorEq, eq_self, ite_true, ite_false, decide_true, decide_false, Nat.le_refl, Bool.false_eq_true, if_true, if_false, hxa, nil_Sum]
        refine wcall (meth_Sum _) rfl (c_wSum hb hp) ?_ ?_
        · rintro k2 B1 v G1 e0 e1 e2 e3 hg hr2 rfl hb hp
          replace hg0 := hg0.trans hg
          replace hxa := hg _ _ _ hxa
          simp only [GV, frArgs, memArgs, resV, fillL, ← Bool.decide_or, ← Bool.decide_and, ← decide_not, ↓reduceIte, Nat.reduceEqDiff, Nat.reduceAdd, Nat.reduceMul, Nat.reduceLeDiff, Nat.reduceLT, Nat.reduceSub, Nat.succ_ne_zero, Nat.one_ne_zero, Nat.zero_ne_one, true_implies, false_implies, forall_const, implies_true, reduceCtorEq, eq_self, ite_true, ite_false, decide_true, decide_false, Nat.le_refl, Bool.false_eq_true, if_true, if_false, hxa, nil_Sum]
          simp only [GV, frArgs, memArgs, resV, fillL, ← Bool.decide_or, ← Bool.decide_and, ← decide_not, ↓reduceIte, Nat.reduceEqDiff, Nat.reduceAdd, Nat.reduceMul, Nat.reduceLeDiff, Nat.reduceLT, Nat.reduceSub, Nat.succ_ne_zero, Nat.one_ne_zero, Nat.zero_ne_one, true_implies, false_implies, forall_const, implies_true, reduceCtorEq, eq_self, ite_true, ite_false, decide_true, decide_false, Nat.le_refl, Bool.false_eq_true, if_true, if_false, hw1]
          refine ⟨l.length - (i + 1), by omega, i + 1, k2, B1, e0, e1, e2, e3, rfl, by omega, ?_, hb, hp, hg0, rfl, rfl⟩
          rw [hmod]; simp only [Rm.bind, hr1, hr2]
        · rintro e B1 G1 e0 e1 e2 e3 hg hr2 hb hp
          simp only [GV, frArgs, memArgs, resV, fillL, ← Bool.decide_or, ← Bool.decide_and, ← decide_not, ↓reduceIte, Nat.reduceEqDiff, Nat.reduceAdd, Nat.reduceMul, Nat.reduceLeDiff, Nat.reduceLT, Nat.reduceSub, Nat.succ_ne_zero, Nat.one_ne_zero, Nat.zero_ne_one, true_implies, false_implies, forall_const, implies_true, reduceCtorEq, eq_self, ite_true, ite_false, decide_true, decide_false, Nat.le_refl, Bool.false_eq_true, if_true, if_false]
          exact WR.bad (by rw [hmod]; simp only [Rm.bind, hr1, hr1, hr2]) hb hp
      · rintro e B1 G1 e0 e1 e2 e3 hg hr1 hb hp
        simp only [GV, frArgs, memArgs, resV, fillL, ← Bool.decide_or, ← Bool.decide_and, ← decide_not, ↓reduceIte, Nat.reduceEqDiff, Nat.reduceAdd, Nat.reduceMul, Nat.reduceLeDiff, Nat.reduceLT, Nat.reduceSub, Nat.succ_ne_zero, Nat.one_ne_zero, Nat.zero_ne_one, true_implies, false_implies, forall_const, implies_true, reduceCtorEq, eq_self, ite_true, ite_false, decide_true, decide_false, Nat.le_refl, Bool.false_eq_true, if_true, if_false]
        exact WR.bad (by rw [hmod]; simp only [Rm.bind, hr1]) hb hp
    · rw [List.drop_eq_nil_of_le (by simp; omega), rNumA] at hmod
      simp only [GV, frArgs, memArgs, resV, fillL, ← Bool.decide_or, ← Bool.decide_and, ← decide_not, ↓reduceIte, Nat.reduceEqDiff, Nat.reduceAdd, Nat.reduceMul, Nat.reduceLeDiff, Nat.reduceLT, Nat.reduceSub, Nat.succ_ne_zero, Nat.one_ne_zero, Nat.zero_ne_one, true_implies, false_implies, forall_const, implies_true, reduceCtorEq, eq_self, ite_true, ite_false, decide_true, decide_false, Nat.le_refl, Bool.false_eq_true, if_true, if_false]
      exact WR.ok hmod rfl hb hp
  · rintro e B1 G1 e0 e1 e2 e3 hg hr0 hb hp
    simp only [GV, frArgs, memArgs, resV, fillL, ← Bool.decide_or, ← Bool.decide_and, ← decide_not, ↓reduceIte, Nat.reduceEqDiff, Nat.reduceAdd, Nat.reduceMul, Nat.reduceLeDiff, Nat.reduceLT, Nat.reduceSub, Nat.succ_ne_zero, Nat.one_ne_zero, Nat.zero_ne_one, true_implies, false_implies, forall_const, implies_true, reduceCtorEq, eq_self, ite_true, ite_false, decide_true, decide_false, Nat.le_refl, Bool.false_eq_true, if_true, if_false]
    exact WR.bad (by simp only [rNum, Rm.bind, hr0]) hb hp
end Go.Gv.W
