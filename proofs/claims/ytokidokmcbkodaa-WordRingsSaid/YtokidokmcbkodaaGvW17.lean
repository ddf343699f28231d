/-
  Words as rings have them: whether they are one, sums, differences, which is less. No condition.
-/
import Derived.Test.YtokidokmcbkodaaGvW16
namespace Go.Gv.W
set_option linter.unusedSimpArgs false
set_option linter.unusedVariables false
set_option linter.unusedSectionVars false
open Go.RowKit Go.Proofs

/-- junto/ring.Same[int] -/
def r_ring_Same_int : RFn := ⟨36,
  .seq (.reg [] [
    ⟨(some 6), none, .mv (.c (.int .i64 0))⟩]) <|
  .keep [0, 1, 2] <|
  .seq (.reg [] [
    ⟨(some 10), none, .mv (.t 0)⟩,
    ⟨(some 11), none, .calli [0, 1, 2, 3] [0, 1, 2, 3] (.t 10) "Fixed" [(.c (.int .u64 1))]⟩,
    ⟨(some 7), none, .mv (.t 11)⟩]) <|
  .keep [0, 1, 2, 7] <|
  .seq (.seq (.reg [] [
    ⟨(some 12), none, .mv (.t 1)⟩,
    ⟨(some 13), none, .len (.t 12)⟩,
    ⟨(some 14), none, .mv (.c (.int .i64 0))⟩]) <|
  .keep [0, 2, 7, 12, 13, 14] <|
  .block 0 <|
  .loop [0, 2, 7, 12, 13, 14] [0, 1, 2, 3, 1000000] <|
  .seq (.reg [] [
    ⟨(some 15), none, .bin .lss (.t 14) (.t 13)⟩]) <|
  .keep [0, 2, 7, 12, 13, 14, 15] <|
  .seq (.cond (.t 15)
    (.skip)
    (.exit 0)) <|
  .keep [0, 2, 7, 12, 13, 14] <|
  .seq (.block 1 <|
  .seq (.reg [] [
    ⟨(some 16), none, .mv (.t 14)⟩,
    ⟨(some 17), none, .iad 1 (.t 12) (.t 14)⟩,
    ⟨(some 18), none, .ld none none (.t 17)⟩,
    ⟨(some 8), none, .mv (.t 16)⟩,
    ⟨(some 9), none, .mv (.t 18)⟩]) <|
  .keep [0, 2, 7, 8, 9, 12, 13, 14] <|
  .dreg [] <|
    .take 0 ⟨(some 19), none, .mv (.t 0)⟩ <|
    .take 1 ⟨(some 20), none, .mv (.t 7)⟩ <|
    .take 2 ⟨(some 21), none, .mv (.t 0)⟩ <|
    .take 3 ⟨(some 22), none, .mv (.t 0)⟩ <|
    .take 4 ⟨(some 23), none, .mv (.t 9)⟩ <|
    .take 5 ⟨(some 24), none, .mv (.t 2)⟩ <|
    .take 6 ⟨(some 25), none, .mv (.t 8)⟩ <|
    .take 7 ⟨(some 26), none, .iad 1 (.t 24) (.t 25)⟩ <|
    .take 11 ⟨(some 30), none, .mkf (.method "Product") [(.t 19)] []⟩ <|
    .take 12 ⟨(some 31), none, .nil (.t 30)⟩ <|
    .take 13 ⟨(some 32), none, .mv (.t 19)⟩ <|
    .exec [] 8 ⟨(some 27), none, .ld none none (.t 26)⟩ <|
    .exec [] 9 ⟨(some 28), none, .call [0, 1, 2, 3] [0, 1, 2, 3] 66 [(.t 22), (.t 23), (.t 27)]⟩ <|
    .exec [] 10 ⟨(some 29), none, .call [0, 1, 2, 3] [0, 1, 2, 3] 65 [(.t 21), (.t 28)]⟩ <|
    .exec [] 14 ⟨(some 33), none, .calli [0, 1, 2, 3] [0, 1, 2, 3] (.t 32) "Product" [(.t 20), (.t 29)]⟩ <|
    .exec [] 15 ⟨(some 7), none, .mv (.t 33)⟩ <|
    .done) <|
  .keep [0, 2, 7, 12, 13, 14] <|
  .reg [] [
    ⟨(some 34), none, .bin .add (.t 14) (.c (.int .i64 1))⟩,
    ⟨(some 14), none, .mv (.t 34)⟩]) <|
  .keep [7] <|
  .seq (.reg [] [
    ⟨(some 35), none, .mv (.t 7)⟩,
    ⟨(some 6), none, .mv (.t 35)⟩]) <|
  .ret,
  [.tmp 6], [0, 1, 2, 3], [0, 1, 2, 3]⟩

theorem k_ring_Same_int : rbFn Try.prog 35 r_ring_Same_int = some r_ring_Same_int := by kernel_rfl

/-- junto/ring.Plus[int] -/
def r_ring_Plus_int : RFn := ⟨19,
  .seq (.reg [] [
    ⟨(some 6), none, .mv (.c (.slice none 0 0))⟩]) <|
  .keep [0, 1, 2] <|
  .seq (.reg [] [
    ⟨(some 10), none, .mv (.t 0)⟩,
    ⟨(some 11), none, .mv (.t 1)⟩,
    ⟨(some 12), none, .mv (.t 2)⟩,
    ⟨(some 13), none, .mv (.t 0)⟩,
    ⟨(some 14), none, .calli [0, 1, 2, 3] [0, 1, 2, 3] (.t 13) "Fixed" [(.c (.int .u64 0))]⟩,
    ⟨(some 15), none, .call [0, 1, 2, 3] [0, 1, 2, 3] 67 [(.t 10), (.t 11), (.t 12), (.t 14)]⟩,
    ⟨(some 9), none, .mv (.t 15)⟩,
    ⟨(some 16), none, .ext 0 (.t 9)⟩,
    ⟨(some 17), none, .ext 1 (.t 9)⟩,
    ⟨(some 7), none, .mv (.t 16)⟩,
    ⟨(some 8), none, .mv (.t 17)⟩]) <|
  .keep [7] <|
  .seq (.reg [] [
    ⟨(some 18), none, .mv (.t 7)⟩,
    ⟨(some 6), none, .mv (.t 18)⟩]) <|
  .ret,
  [.tmp 6], [0, 1, 2, 3], [0, 1, 2, 3]⟩

theorem k_ring_Plus_int : rbFn Try.prog 56 r_ring_Plus_int = some r_ring_Plus_int := by kernel_rfl

/-- junto/ring.Minus[int] -/
def r_ring_Minus_int : RFn := ⟨21,
  .seq (.reg [] [
    ⟨(some 6), none, .mv (.c (.slice none 0 0))⟩]) <|
  .keep [0, 1, 2] <|
  .seq (.reg [] [
    ⟨(some 10), none, .mv (.t 0)⟩,
    ⟨(some 11), none, .mv (.t 1)⟩,
    ⟨(some 12), none, .mv (.t 0)⟩,
    ⟨(some 13), none, .mv (.t 2)⟩,
    ⟨(some 14), none, .call [0, 1, 2, 3] [0, 1, 2, 3] 68 [(.t 12), (.t 13)]⟩,
    ⟨(some 15), none, .mv (.t 0)⟩,
    ⟨(some 16), none, .calli [0, 1, 2, 3] [0, 1, 2, 3] (.t 15) "Fixed" [(.c (.int .u64 1))]⟩,
    ⟨(some 17), none, .call [0, 1, 2, 3] [0, 1, 2, 3] 67 [(.t 10), (.t 11), (.t 14), (.t 16)]⟩,
    ⟨(some 9), none, .mv (.t 17)⟩,
    ⟨(some 18), none, .ext 0 (.t 9)⟩,
    ⟨(some 19), none, .ext 1 (.t 9)⟩,
    ⟨(some 7), none, .mv (.t 18)⟩,
    ⟨(some 8), none, .mv (.t 19)⟩]) <|
  .keep [7] <|
  .seq (.reg [] [
    ⟨(some 20), none, .mv (.t 7)⟩,
    ⟨(some 6), none, .mv (.t 20)⟩]) <|
  .ret,
  [.tmp 6], [0, 1, 2, 3], [0, 1, 2, 3]⟩

theorem k_ring_Minus_int : rbFn Try.prog 58 r_ring_Minus_int = some r_ring_Minus_int := by kernel_rfl

/-- junto/ring.Below[int] -/
def r_ring_Below_int : RFn := ⟨23,
  .seq (.reg [] [
    ⟨(some 6), none, .mv (.c (.int .i64 0))⟩]) <|
  .keep [0, 1, 2] <|
  .seq (.reg [] [
    ⟨(some 10), none, .mv (.t 0)⟩,
    ⟨(some 11), none, .mv (.t 1)⟩,
    ⟨(some 12), none, .mv (.t 0)⟩,
    ⟨(some 13), none, .mv (.t 2)⟩,
    ⟨(some 14), none, .call [0, 1, 2, 3] [0, 1, 2, 3] 68 [(.t 12), (.t 13)]⟩,
    ⟨(some 15), none, .mv (.t 0)⟩,
    ⟨(some 16), none, .calli [0, 1, 2, 3] [0, 1, 2, 3] (.t 15) "Fixed" [(.c (.int .u64 1))]⟩,
    ⟨(some 17), none, .call [0, 1, 2, 3] [0, 1, 2, 3] 67 [(.t 10), (.t 11), (.t 14), (.t 16)]⟩,
    ⟨(some 9), none, .mv (.t 17)⟩,
    ⟨(some 18), none, .ext 0 (.t 9)⟩,
    ⟨(some 19), none, .ext 1 (.t 9)⟩,
    ⟨(some 7), none, .mv (.t 18)⟩,
    ⟨(some 8), none, .mv (.t 19)⟩]) <|
  .keep [0, 8] <|
  .seq (.reg [] [
    ⟨(some 20), none, .mv (.t 0)⟩,
    ⟨(some 21), none, .mv (.t 8)⟩,
    ⟨(some 22), none, .call [0, 1, 2, 3] [0, 1, 2, 3] 65 [(.t 20), (.t 21)]⟩,
    ⟨(some 6), none, .mv (.t 22)⟩]) <|
  .ret,
  [.tmp 6], [0, 1, 2, 3], [0, 1, 2, 3]⟩

theorem k_ring_Below_int : rbFn Try.prog 37 r_ring_Below_int = some r_ring_Below_int := by kernel_rfl


def rSameA : List Int → List Int → Int → Rm Int
  | a :: v, b :: w, n => .bind (rXor a b) fun x => .bind (rNot x) fun y => .bind (rProd n y) fun n' => rSameA v w n'
  | _, _, n => .pure n
theorem rSameA_nil (w : List Int) (n : Int) : rSameA [] w n = .pure n := by cases w <;> rfl
def rSame (v w : List Int) : Rm Int := .bind (rFixed 1) fun n => rSameA v w n

set_option maxHeartbeats 1000000 in
set_option maxRecDepth 20000 in
theorem c_rSame {G : GH} {bb : Nat} {B : Bd} {Es : List (List Ent)} {v w : Value} {l m : List Int} (hb : BoardM G bb B Es) (hp : B.p ≠ 0) (hv : SlI G .i64 v l) (hw : SlI G .i64 w m) (hlm : l.length = m.length) (hmax : l.length ≤ 65536) :
    ACalls Try.prog 35 [rg bb, v, w] G Es (WR bb encZ (rSame l m B)) := by
  obtain ⟨a1, c1, rfl, hl1, hl2, hrow⟩ := hv
  obtain ⟨a2, c2, rfl, hl3, hl4, hrow2⟩ := hw
  obtain ⟨e0, e1, e2, e3, rfl⟩ := hb.es
  refine acalls mixed k_ring_Same_int (by simp) fun F => ?_
  simp only [GV, frArgs, memArgs, resV, fillL, ← Bool.decide_or, ← Bool.decide_and, ← decide_not, ↓reduceIte, Nat.reduceEqDiff, Nat.reduceAdd, Nat.reduceMul, Nat.reduceLeDiff, Nat.reduceLT, Nat.reduceSub, Nat.succ_ne_zero, Nat.one_ne_zero, Nat.zero_ne_one, true_implies, false_implies, forall_const, implies_true, reduceCtorEq, eq_self, ite_true, ite_false, decide_true, decide_false, Nat.le_refl, Bool.false_eq_true, if_true, if_false, rg]
  refine wcall (meth_Fixed _) rfl (c_wFixed hb hp) ?_ ?_
  · clear hb hp
    rintro k0 B0 v G0 e0 e1 e2 e3 hg00 hr0 rfl hb hp
    simp only [GV, frArgs, memArgs, resV, fillL, ← Bool.decide_or, ← Bool.decide_and, ← decide_not, ↓reduceIte, Nat.reduceEqDiff, Nat.reduceAdd, Nat.reduceMul, Nat.reduceLeDiff, Nat.reduceLT, Nat.reduceSub, Nat.succ_ne_zero, Nat.one_ne_zero, Nat.zero_ne_one, true_implies, false_implies, forall_const, implies_true, reduceCtorEq, eq_self, ite_true, ite_false, decide_true, decide_false, Nat.le_refl, Bool.false_eq_true, if_true, if_false]
    refine loop_intro (fun n fr G' M => ∃ (i : Nat) (k : Int) (B' : Bd) (e0 e1 e2 e3 : List Ent), n = l.length - i ∧ i ≤ l.length ∧ rSame l m B = rSameA (l.drop i) (m.drop i) k B' ∧ BoardM G' bb B' [e0, e1, e2, e3] ∧ B'.p ≠ 0 ∧
      GLe G G' ∧
      fr = [(0, true, .iface 115 (wv bb)), (2, true, .slice a2 m.length c2), (7, true, .int .i64 k), (12, true, .slice a1 l.length c1), (13, true, .int .i64 l.length), (14, true, .int .i64 i)] ∧
      M = [(0, e0), (1, e1), (2, e2), (3, e3), (1000000, F)]) l.length ⟨0, k0, B0, e0, e1, e2, e3, by simp, by simp, by simp only [rSame, Rm.bind, hr0, List.drop_zero], hb, hp, hg00, by simp, rfl⟩ ?_
    clear hb hp
    rintro n fr G1 M - ⟨i, k, B1, e0, e1, e2, e3, rfl, hi, hmod, hb, hp, hg0, rfl, rfl⟩
    simp only [GV, frArgs, memArgs, resV, fillL, ← Bool.decide_or, ← Bool.decide_and, ← decide_not, ↓reduceIte, Nat.reduceEqDiff, Nat.reduceAdd, Nat.reduceMul, Nat.reduceLeDiff, Nat.reduceLT, Nat.reduceSub, Nat.succ_ne_zero, Nat.one_ne_zero, Nat.zero_ne_one, true_implies, false_implies, forall_const, implies_true, reduceCtorEq, eq_self, ite_true, ite_false, decide_true, decide_false, Nat.le_refl, Bool.false_eq_true, if_true, if_false]
    refine cond_dec (fun h => ?_) (fun h => ?_)
    · have hlt : i < l.length := by omega
      have hlt' : i < m.length := by omega
      obtain ⟨b, o, rfl, hx⟩ := RowI.get hrow hlt
      obtain ⟨b', o', rfl, hx'⟩ := RowI.get hrow2 hlt'
      have hxa := hg0 _ _ _ hx
      have hxb := hg0 _ _ _ hx'
      rw [List.drop_eq_getElem_cons hlt, List.drop_eq_getElem_cons hlt', rSameA] at hmod
      simp only [GV, frArgs, memArgs, resV, fillL, ← Bool.decide_or, ← Bool.decide_and, ← decide_not, ↓reduceIte, Nat.reduceEqDiff, Nat.reduceAdd, Nat.reduceMul, Nat.reduceLeDiff, Nat.reduceLT, Nat.reduceSub, Nat.succ_ne_zero, Nat.one_ne_zero, Nat.zero_ne_one, true_implies, false_implies, forall_const, implies_true, reduceCtorEq, eq_self, ite_true, ite_false, decide_true, decide_false, Nat.le_refl, Bool.false_eq_true, if_true, if_false, hxa, hxb, Nat.mul_one, nil_Prod]
      refine ⟨by omega, by omega, ?_⟩
      refine wcallf (c_rXor hb hp) ?_ ?_
      · rintro k1 B1 v G1 e0 e1 e2 e3 hg hr1 rfl hb hp
        replace hg0 := hg0.trans hg
        simp only [GV, frArgs, memArgs, resV, fillL, ← Bool.decide_or, ← Bool.decide_and, ← decide_not, ↓reduceIte, Nat.reduceEqDiff, Nat.reduceAdd, Nat.reduceMul, Nat.reduceLeDiff, Nat.reduceLT, Nat.reduceSub, Nat.succ_ne_zero, Nat.one_ne_zero, Nat.zero_ne_one, true_implies, false_implies, forall_const, implies_true, reduceCtorEq, eq_self, ite_true, ite_false, decide_true, decide_false, Nat.le_refl, Bool.false_eq_true, if_true, if_false, wrapn (show i < maxLen by omega), rg]
        refine wcallf (c_rNot hb hp) ?_ ?_
        · rintro k2 B1 v G1 e0 e1 e2 e3 hg hr2 rfl hb hp
          replace hg0 := hg0.trans hg
          simp only [GV, frArgs, memArgs, resV, fillL, ← Bool.decide_or, ← Bool.decide_and, ← decide_not, ↓reduceIte, Nat.reduceEqDiff, Nat.reduceAdd, Nat.reduceMul, Nat.reduceLeDiff, Nat.reduceLT, Nat.reduceSub, Nat.succ_ne_zero, Nat.one_ne_zero, Nat.zero_ne_one, true_implies, false_implies, forall_const, implies_true, reduceCtorEq, eq_self, ite_true, ite_false, decide_true, decide_false, Nat.le_refl, Bool.false_eq_true, if_true, if_false, wrapn (show i < maxLen by omega), rg]
          refine wcall (meth_Prod _) rfl (c_wProd hb hp) ?_ ?_
          · rintro k3 B1 v G1 e0 e1 e2 e3 hg hr3 rfl hb hp
            replace hg0 := hg0.trans hg
            simp only [GV, frArgs, memArgs, resV, fillL, ← Bool.decide_or, ← Bool.decide_and, ← decide_not, ↓reduceIte, Nat.reduceEqDiff, Nat.reduceAdd, Nat.reduceMul, Nat.reduceLeDiff, Nat.reduceLT, Nat.reduceSub, Nat.succ_ne_zero, Nat.one_ne_zero, Nat.zero_ne_one, true_implies, false_implies, forall_const, implies_true, reduceCtorEq, eq_self, ite_true, ite_false, decide_true, decide_false, Nat.le_refl, Bool.false_eq_true, if_true, if_false, wrapn (show i < maxLen by omega), rg]
            refine ⟨l.length - (i + 1), by omega, i + 1, k3, B1, e0, e1, e2, e3, rfl, by omega, ?_, hb, hp, hg0, rfl, rfl⟩
            rw [hmod]; simp only [Rm.bind, hr1, hr2, hr3]
          · rintro e B1 G1 e0 e1 e2 e3 hg hr3 hb hp
            simp only [GV, frArgs, memArgs, resV, fillL, ← Bool.decide_or, ← Bool.decide_and, ← decide_not, ↓reduceIte, Nat.reduceEqDiff, Nat.reduceAdd, Nat.reduceMul, Nat.reduceLeDiff, Nat.reduceLT, Nat.reduceSub, Nat.succ_ne_zero, Nat.one_ne_zero, Nat.zero_ne_one, true_implies, false_implies, forall_const, implies_true, reduceCtorEq, eq_self, ite_true, ite_false, decide_true, decide_false, Nat.le_refl, Bool.false_eq_true, if_true, if_false]
            exact WR.bad (by rw [hmod]; simp only [Rm.bind, hr1, hr2, hr3]) hb hp
        · rintro e B1 G1 e0 e1 e2 e3 hg hr2 hb hp
          simp only [GV, frArgs, memArgs, resV, fillL, ← Bool.decide_or, ← Bool.decide_and, ← decide_not, ↓reduceIte, Nat.reduceEqDiff, Nat.reduceAdd, Nat.reduceMul, Nat.reduceLeDiff, Nat.reduceLT, Nat.reduceSub, Nat.succ_ne_zero, Nat.one_ne_zero, Nat.zero_ne_one, true_implies, false_implies, forall_const, implies_true, reduceCtorEq, eq_self, ite_true, ite_false, decide_true, decide_false, Nat.le_refl, Bool.false_eq_true, if_true, if_false]
          exact WR.bad (by rw [hmod]; simp only [Rm.bind, hr1, hr2]) hb hp
      · rintro e B1 G1 e0 e1 e2 e3 hg hr1 hb hp
        simp only [GV, frArgs, memArgs, resV, fillL, ← Bool.decide_or, ← Bool.decide_and, ← decide_not, ↓reduceIte, Nat.reduceEqDiff, Nat.reduceAdd, Nat.reduceMul, Nat.reduceLeDiff, Nat.reduceLT, Nat.reduceSub, Nat.succ_ne_zero, Nat.one_ne_zero, Nat.zero_ne_one, true_implies, false_implies, forall_const, implies_true, reduceCtorEq, eq_self, ite_true, ite_false, decide_true, decide_false, Nat.le_refl, Bool.false_eq_true, if_true, if_false]
        exact WR.bad (by rw [hmod]; simp only [Rm.bind, hr1]) hb hp
    · rw [List.drop_eq_nil_of_le (by omega), rSameA_nil] at hmod
      simp only [GV, frArgs, memArgs, resV, fillL, ← Bool.decide_or, ← Bool.decide_and, ← decide_not, ↓reduceIte, Nat.reduceEqDiff, Nat.reduceAdd, Nat.reduceMul, Nat.reduceLeDiff, Nat.reduceLT, Nat.reduceSub, Nat.succ_ne_zero, Nat.one_ne_zero, Nat.zero_ne_one, true_implies, false_implies, forall_const, implies_true, reduceCtorEq, eq_self, ite_true, ite_false, decide_true, decide_false, Nat.le_refl, Bool.false_eq_true, if_true, if_false]
      exact WR.ok hmod rfl hb hp
  · rintro e B1 G1 e0 e1 e2 e3 hg hr0 hb hp
    simp only [GV, frArgs, memArgs, resV, fillL, ← Bool.decide_or, ← Bool.decide_and, ← decide_not, ↓reduceIte, Nat.reduceEqDiff, Nat.reduceAdd, Nat.reduceMul, Nat.reduceLeDiff, Nat.reduceLT, Nat.reduceSub, Nat.succ_ne_zero, Nat.one_ne_zero, Nat.zero_ne_one, true_implies, false_implies, forall_const, implies_true, reduceCtorEq, eq_self, ite_true, ite_false, decide_true, decide_false, Nat.le_refl, Bool.false_eq_true, if_true, if_false]
    exact WR.bad (by simp only [rSame, Rm.bind, hr0]) hb hp

def rPlus (v w : List Int) : Rm (List Int) := .bind (rFixed 0) fun c => .bind (rAddA [] v w c) fun x => .pure x.1
def rMinus (v w : List Int) : Rm (List Int) := .bind (rTurnA [] w) fun t => .bind (rFixed 1) fun c => .bind (rAddA [] v t c) fun x => .pure x.1
def rBelow (v w : List Int) : Rm Int := .bind (rTurnA [] w) fun t => .bind (rFixed 1) fun c => .bind (rAddA [] v t c) fun x => rNot x.2
theorem turn_len : ∀ (w acc : List Int) (B : Bd) (t : List Int) (B' : Bd), rTurnA acc w B = .ok t B' → t.length = acc.length + w.length
  | [], acc, B, t, B', h => by
    simp only [rTurnA, Rm.pure, Res.ok.injEq] at h
    rw [← h.1]; rfl
  | a :: w, acc, B, t, B', h => by
    simp only [rTurnA, Rm.bind] at h
    split at h
    · rw [turn_len w _ _ _ _ h]; simp; omega
    · cases h

theorem c_rPlus {G : GH} {bb : Nat} {B : Bd} {Es : List (List Ent)} {v w : Value} {l m : List Int} (hb : BoardM G bb B Es) (hp : B.p ≠ 0) (hv : SlI G .i64 v l) (hw : SlI G .i64 w m) (hlm : l.length = m.length) (hmax : l.length ≤ 65536) :
    ACalls Try.prog 56 [rg bb, v, w] G Es (WR bb encW (rPlus l m B)) := by
  obtain ⟨e0, e1, e2, e3, rfl⟩ := hb.es
  refine acalls mixed k_ring_Plus_int (by simp) fun F => ?_
  simp only [GV, frArgs, memArgs, resV, fillL, ← Bool.decide_or, ← Bool.decide_and, ← decide_not, ↓reduceIte, Nat.reduceEqDiff, Nat.reduceAdd, Nat.reduceMul, Nat.reduceLeDiff, Nat.reduceLT, Nat.reduceSub, Nat.succ_ne_zero, Nat.one_ne_zero, Nat.zero_ne_one, true_implies, false_implies, forall_const, implies_true, reduceCtorEq, eq_self, ite_true, ite_false, decide_true, decide_false, Nat.le_refl, Bool.false_eq_true, if_true, if_false, rg]
  refine wcall (meth_Fixed _) rfl (c_wFixed hb hp) ?_ ?_
  · rintro k1 B1 v G1 e0 e1 e2 e3 hg hr1 rfl hb hp
    simp only [GV, frArgs, memArgs, resV, fillL, ← Bool.decide_or, ← Bool.decide_and, ← decide_not, ↓reduceIte, Nat.reduceEqDiff, Nat.reduceAdd, Nat.reduceMul, Nat.reduceLeDiff, Nat.reduceLT, Nat.reduceSub, Nat.succ_ne_zero, Nat.one_ne_zero, Nat.zero_ne_one, true_implies, false_implies, forall_const, implies_true, reduceCtorEq, eq_self, ite_true, ite_false, decide_true, decide_false, Nat.le_refl, Bool.false_eq_true, if_true, if_false]
    refine wcallf (c_rAdd hb hp (hv.mono hg) (hw.mono hg) hlm hmax) ?_ ?_
    · rintro x B1 v G2 e0 e1 e2 e3 hg2 hr2 ⟨u, rfl, hu⟩ hb hp
      simp only [GV, frArgs, memArgs, resV, fillL, ← Bool.decide_or, ← Bool.decide_and, ← decide_not, ↓reduceIte, Nat.reduceEqDiff, Nat.reduceAdd, Nat.reduceMul, Nat.reduceLeDiff, Nat.reduceLT, Nat.reduceSub, Nat.succ_ne_zero, Nat.one_ne_zero, Nat.zero_ne_one, true_implies, false_implies, forall_const, implies_true, reduceCtorEq, eq_self, ite_true, ite_false, decide_true, decide_false, Nat.le_refl, Bool.false_eq_true, if_true, if_false]
      exact WR.ok (by simp only [rPlus, Rm.bind, hr1, hr2]; rfl) hu hb hp
    · rintro e B1 G2 e0 e1 e2 e3 hg2 hr2 hb hp
      simp only [GV, frArgs, memArgs, resV, fillL, ← Bool.decide_or, ← Bool.decide_and, ← decide_not, ↓reduceIte, Nat.reduceEqDiff, Nat.reduceAdd, Nat.reduceMul, Nat.reduceLeDiff, Nat.reduceLT, Nat.reduceSub, Nat.succ_ne_zero, Nat.one_ne_zero, Nat.zero_ne_one, true_implies, false_implies, forall_const, implies_true, reduceCtorEq, eq_self, ite_true, ite_false, decide_true, decide_false, Nat.le_refl, Bool.false_eq_true, if_true, if_false]
      exact WR.bad (by simp only [rPlus, Rm.bind, hr1, hr2]) hb hp
  · rintro e B1 G1 e0 e1 e2 e3 hg hr1 hb hp
    simp only [GV, frArgs, memArgs, resV, fillL, ← Bool.decide_or, ← Bool.decide_and, ← decide_not, ↓reduceIte, Nat.reduceEqDiff, Nat.reduceAdd, Nat.reduceMul, Nat.reduceLeDiff, Nat.reduceLT, Nat.reduceSub, Nat.succ_ne_zero, Nat.one_ne_zero, Nat.zero_ne_one, true_implies, false_implies, forall_const, implies_true, reduceCtorEq, eq_self, ite_true, ite_false, decide_true, decide_false, Nat.le_refl, Bool.false_eq_true, if_true, if_false]
    exact WR.bad (by simp only [rPlus, Rm.bind, hr1]) hb hp
theorem c_rMinus {G : GH} {bb : Nat} {B : Bd} {Es : List (List Ent)} {v w : Value} {l m : List Int} (hb : BoardM G bb B Es) (hp : B.p ≠ 0) (hv : SlI G .i64 v l) (hw : SlI G .i64 w m) (hlm : l.length = m.length) (hmax : l.length ≤ 65536) :
    ACalls Try.prog 58 [rg bb, v, w] G Es (WR bb encW (rMinus l m B)) := by
  obtain ⟨e0, e1, e2, e3, rfl⟩ := hb.es
  refine acalls mixed k_ring_Minus_int (by simp) fun F => ?_
  simp only [GV, frArgs, memArgs, resV, fillL, ← Bool.decide_or, ← Bool.decide_and, ← decide_not, ↓reduceIte, Nat.reduceEqDiff, Nat.reduceAdd, Nat.reduceMul, Nat.reduceLeDiff, Nat.reduceLT, Nat.reduceSub, Nat.succ_ne_zero, Nat.one_ne_zero, Nat.zero_ne_one, true_implies, false_implies, forall_const, implies_true, reduceCtorEq, eq_self, ite_true, ite_false, decide_true, decide_false, Nat.le_refl, Bool.false_eq_true, if_true, if_false]
  refine wcallf (c_rTurn hb hp hw (by omega)) ?_ ?_
  · rintro t B1 u G1 e0 e1 e2 e3 hg hr1 hu hb hp
    have htl := turn_len _ _ _ _ _ hr1
    simp only [GV, frArgs, memArgs, resV, fillL, ← Bool.decide_or, ← Bool.decide_and, ← decide_not, ↓reduceIte, Nat.reduceEqDiff, Nat.reduceAdd, Nat.reduceMul, Nat.reduceLeDiff, Nat.reduceLT, Nat.reduceSub, Nat.succ_ne_zero, Nat.one_ne_zero, Nat.zero_ne_one, true_implies, false_implies, forall_const, implies_true, reduceCtorEq, eq_self, ite_true, ite_false, decide_true, decide_false, Nat.le_refl, Bool.false_eq_true, if_true, if_false, rg]
    refine wcall (meth_Fixed _) rfl (c_wFixed hb hp) ?_ ?_
    · rintro k2 B1 u2 G2 e0 e1 e2 e3 hg2 hr2 rfl hb hp
      simp only [GV, frArgs, memArgs, resV, fillL, ← Bool.decide_or, ← Bool.decide_and, ← decide_not, ↓reduceIte, Nat.reduceEqDiff, Nat.reduceAdd, Nat.reduceMul, Nat.reduceLeDiff, Nat.reduceLT, Nat.reduceSub, Nat.succ_ne_zero, Nat.one_ne_zero, Nat.zero_ne_one, true_implies, false_implies, forall_const, implies_true, reduceCtorEq, eq_self, ite_true, ite_false, decide_true, decide_false, Nat.le_refl, Bool.false_eq_true, if_true, if_false]
      refine wcallf (c_rAdd hb hp (hv.mono (hg.trans hg2)) (hu.mono hg2) (by simp at htl; omega) hmax) ?_ ?_
      · rintro x B1 v G3 e0 e1 e2 e3 hg3 hr3 ⟨u, rfl, hu⟩ hb hp
        simp only [GV, frArgs, memArgs, resV, fillL, ← Bool.decide_or, ← Bool.decide_and, ← decide_not, ↓reduceIte, Nat.reduceEqDiff, Nat.reduceAdd, Nat.reduceMul, Nat.reduceLeDiff, Nat.reduceLT, Nat.reduceSub, Nat.succ_ne_zero, Nat.one_ne_zero, Nat.zero_ne_one, true_implies, false_implies, forall_const, implies_true, reduceCtorEq, eq_self, ite_true, ite_false, decide_true, decide_false, Nat.le_refl, Bool.false_eq_true, if_true, if_false]
        exact WR.ok (by simp only [rMinus, Rm.bind, hr1, hr2, hr3]; rfl) hu hb hp
      · rintro e B1 G3 e0 e1 e2 e3 hg3 hr3 hb hp
        simp only [GV, frArgs, memArgs, resV, fillL, ← Bool.decide_or, ← Bool.decide_and, ← decide_not, ↓reduceIte, Nat.reduceEqDiff, Nat.reduceAdd, Nat.reduceMul, Nat.reduceLeDiff, Nat.reduceLT, Nat.reduceSub, Nat.succ_ne_zero, Nat.one_ne_zero, Nat.zero_ne_one, true_implies, false_implies, forall_const, implies_true, reduceCtorEq, eq_self, ite_true, ite_false, decide_true, decide_false, Nat.le_refl, Bool.false_eq_true, if_true, if_false]
        exact WR.bad (by simp only [rMinus, Rm.bind, hr1, hr2, hr3]) hb hp
    · rintro e B1 G2 e0 e1 e2 e3 hg2 hr2 hb hp
      simp only [GV, frArgs, memArgs, resV, fillL, ← Bool.decide_or, ← Bool.decide_and, ← decide_not, ↓reduceIte, Nat.reduceEqDiff, Nat.reduceAdd, Nat.reduceMul, Nat.reduceLeDiff, Nat.reduceLT, Nat.reduceSub, Nat.succ_ne_zero, Nat.one_ne_zero, Nat.zero_ne_one, true_implies, false_implies, forall_const, implies_true, reduceCtorEq, eq_self, ite_true, ite_false, decide_true, decide_false, Nat.le_refl, Bool.false_eq_true, if_true, if_false]
      exact WR.bad (by simp only [rMinus, Rm.bind, hr1, hr2]) hb hp
  · rintro e B1 G1 e0 e1 e2 e3 hg hr1 hb hp
    simp only [GV, frArgs, memArgs, resV, fillL, ← Bool.decide_or, ← Bool.decide_and, ← decide_not, ↓reduceIte, Nat.reduceEqDiff, Nat.reduceAdd, Nat.reduceMul, Nat.reduceLeDiff, Nat.reduceLT, Nat.reduceSub, Nat.succ_ne_zero, Nat.one_ne_zero, Nat.zero_ne_one, true_implies, false_implies, forall_const, implies_true, reduceCtorEq, eq_self, ite_true, ite_false, decide_true, decide_false, Nat.le_refl, Bool.false_eq_true, if_true, if_false]
    exact WR.bad (by simp only [rMinus, Rm.bind, hr1]) hb hp
theorem c_rBelow {G : GH} {bb : Nat} {B : Bd} {Es : List (List Ent)} {v w : Value} {l m : List Int} (hb : BoardM G bb B Es) (hp : B.p ≠ 0) (hv : SlI G .i64 v l) (hw : SlI G .i64 w m) (hlm : l.length = m.length) (hmax : l.length ≤ 65536) :
    ACalls Try.prog 37 [rg bb, v, w] G Es (WR bb encZ (rBelow l m B)) := by
  obtain ⟨e0, e1, e2, e3, rfl⟩ := hb.es
  refine acalls mixed k_ring_Below_int (by simp) fun F => ?_
  simp only [GV, frArgs, memArgs, resV, fillL, ← Bool.decide_or, ← Bool.decide_and, ← decide_not, ↓reduceIte, Nat.reduceEqDiff, Nat.reduceAdd, Nat.reduceMul, Nat.reduceLeDiff, Nat.reduceLT, Nat.reduceSub, Nat.succ_ne_zero, Nat.one_ne_zero, Nat.zero_ne_one, true_implies, false_implies, forall_const, implies_true, reduceCtorEq, eq_self, ite_true, ite_false, decide_true, decide_false, Nat.le_refl, Bool.false_eq_true, if_true, if_false]
  refine wcallf (c_rTurn hb hp hw (by omega)) ?_ ?_
  · rintro t B1 u G1 e0 e1 e2 e3 hg hr1 hu hb hp
    have htl := turn_len _ _ _ _ _ hr1
    simp only [GV, frArgs, memArgs, resV, fillL, ← Bool.decide_or, ← Bool.decide_and, ← decide_not, ↓reduceIte, Nat.reduceEqDiff, Nat.reduceAdd, Nat.reduceMul, Nat.reduceLeDiff, Nat.reduceLT, Nat.reduceSub, Nat.succ_ne_zero, Nat.one_ne_zero, Nat.zero_ne_one, true_implies, false_implies, forall_const, implies_true, reduceCtorEq, eq_self, ite_true, ite_false, decide_true, decide_false, Nat.le_refl, Bool.false_eq_true, if_true, if_false, rg]
    refine wcall (meth_Fixed _) rfl (c_wFixed hb hp) ?_ ?_
    · rintro k2 B1 u2 G2 e0 e1 e2 e3 hg2 hr2 rfl hb hp
      simp only [GV, frArgs, memArgs, resV, fillL, ← Bool.decide_or, ← Bool.decide_and, ← decide_not, ↓reduceIte, Nat.reduceEqDiff, Nat.reduceAdd, Nat.reduceMul, Nat.reduceLeDiff, Nat.reduceLT, Nat.reduceSub, Nat.succ_ne_zero, Nat.one_ne_zero, Nat.zero_ne_one, true_implies, false_implies, forall_const, implies_true, reduceCtorEq, eq_self, ite_true, ite_false, decide_true, decide_false, Nat.le_refl, Bool.false_eq_true, if_true, if_false]
      refine wcallf (c_rAdd hb hp (hv.mono (hg.trans hg2)) (hu.mono hg2) (by simp at htl; omega) hmax) ?_ ?_
      · rintro x B1 v G3 e0 e1 e2 e3 hg3 hr3 ⟨u, rfl, hu⟩ hb hp
        simp only [GV, frArgs, memArgs, resV, fillL, ← Bool.decide_or, ← Bool.decide_and, ← decide_not, ↓reduceIte, Nat.reduceEqDiff, Nat.reduceAdd, Nat.reduceMul, Nat.reduceLeDiff, Nat.reduceLT, Nat.reduceSub, Nat.succ_ne_zero, Nat.one_ne_zero, Nat.zero_ne_one, true_implies, false_implies, forall_const, implies_true, reduceCtorEq, eq_self, ite_true, ite_false, decide_true, decide_false, Nat.le_refl, Bool.false_eq_true, if_true, if_false]
        refine wcallf (c_rNot hb hp) ?_ ?_
        · rintro k4 B1 v G4 e0 e1 e2 e3 hg4 hr4 rfl hb hp
          simp only [GV, frArgs, memArgs, resV, fillL, ← Bool.decide_or, ← Bool.decide_and, ← decide_not, ↓reduceIte, Nat.reduceEqDiff, Nat.reduceAdd, Nat.reduceMul, Nat.reduceLeDiff, Nat.reduceLT, Nat.reduceSub, Nat.succ_ne_zero, Nat.one_ne_zero, Nat.zero_ne_one, true_implies, false_implies, forall_const, implies_true, reduceCtorEq, eq_self, ite_true, ite_false, decide_true, decide_false, Nat.le_refl, Bool.false_eq_true, if_true, if_false]
          exact WR.ok (by simp only [rBelow, Rm.bind, hr1, hr2, hr3, hr4]) rfl hb hp
        · rintro e B1 G4 e0 e1 e2 e3 hg4 hr4 hb hp
          simp only [GV, frArgs, memArgs, resV, fillL, ← Bool.decide_or, ← Bool.decide_and, ← decide_not, ↓reduceIte, Nat.reduceEqDiff, Nat.reduceAdd, Nat.reduceMul, Nat.reduceLeDiff, Nat.reduceLT, Nat.reduceSub, Nat.succ_ne_zero, Nat.one_ne_zero, Nat.zero_ne_one, true_implies, false_implies, forall_const, implies_true, reduceCtorEq, eq_self, ite_true, ite_false, decide_true, decide_false, Nat.le_refl, Bool.false_eq_true, if_true, if_false]
          exact WR.bad (by simp only [rBelow, Rm.bind, hr1, hr2, hr3, hr4]) hb hp
      · rintro e B1 G3 e0 e1 e2 e3 hg3 hr3 hb hp
        simp only [GV, frArgs, memArgs, resV, fillL, ← Bool.decide_or, ← Bool.decide_and, ← decide_not, ↓reduceIte, Nat.reduceEqDiff, Nat.reduceAdd, Nat.reduceMul, Nat.reduceLeDiff, Nat.reduceLT, Nat.reduceSub, Nat.succ_ne_zero, Nat.one_ne_zero, Nat.zero_ne_one, true_implies, false_implies, forall_const, implies_true, reduceCtorEq, eq_self, ite_true, ite_false, decide_true, decide_false, Nat.le_refl, Bool.false_eq_true, if_true, if_false]
        exact WR.bad (by simp only [rBelow, Rm.bind, hr1, hr2, hr3]) hb hp
    · rintro e B1 G2 e0 e1 e2 e3 hg2 hr2 hb hp
      simp only [GV, frArgs, memArgs, resV, fillL, ← Bool.decide_or, ← Bool.decide_and, ← decide_not, ↓reduceIte, Nat.reduceEqDiff, Nat.reduceAdd, Nat.reduceMul, Nat.reduceLeDiff, Nat.reduceLT, Nat.reduceSub, Nat.succ_ne_zero, Nat.one_ne_zero, Nat.zero_ne_one, true_implies, false_implies, forall_const, implies_true, reduceCtorEq, eq_self, ite_true, ite_false, decide_true, decide_false, Nat.le_refl, Bool.false_eq_true, if_true, if_false]
      exact WR.bad (by simp only [rBelow, Rm.bind, hr1, hr2]) hb hp
  · rintro e B1 G1 e0 e1 e2 e3 hg hr1 hb hp
    simp only [GV, frArgs, memArgs, resV, fillL, ← Bool.decide_or, ← Bool.decide_and, ← decide_not, ↓reduceIte, Nat.reduceEqDiff, Nat.reduceAdd, Nat.reduceMul, Nat.reduceLeDiff, Nat.reduceLT, Nat.reduceSub, Nat.succ_ne_zero, Nat.one_ne_zero, Nat.zero_ne_one, true_implies, false_implies, forall_const, implies_true, reduceCtorEq, eq_self, ite_true, ite_false, decide_true, decide_false, Nat.le_refl, Bool.false_eq_true, if_true, if_false]
    exact WR.bad (by simp only [rBelow, Rm.bind, hr1]) hb hp
end Go.Gv.W
