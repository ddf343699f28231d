/-
  Bits as rings have them. No condition.
-/
import Derived.Test.YtokidokmcbkodaaGvW13
namespace Go.Gv.W
set_option linter.unusedSimpArgs false
set_option linter.unusedVariables false
set_option linter.unusedSectionVars false
open Go.RowKit Go.Proofs

/-- junto/ring.Not[int] -/
def r_ring_Not_int : RFn := ⟨13,
  .seq (.reg [] [
    ⟨(some 4), none, .mv (.c (.int .i64 0))⟩]) <|
  .keep [0, 1] <|
  .seq (.dreg [] <|
    .take 0 ⟨(some 5), none, .mv (.t 0)⟩ <|
    .take 1 ⟨(some 6), none, .mv (.t 0)⟩ <|
    .take 3 ⟨(some 8), none, .mv (.t 1)⟩ <|
    .take 4 ⟨(some 9), none, .mkf (.method "Less") [(.t 5)] []⟩ <|
    .take 5 ⟨(some 10), none, .nil (.t 9)⟩ <|
    .take 6 ⟨(some 11), none, .mv (.t 5)⟩ <|
    .exec [] 2 ⟨(some 7), none, .calli [0, 1, 2, 3] [0, 1, 2, 3] (.t 6) "Fixed" [(.c (.int .u64 1))]⟩ <|
    .exec [] 7 ⟨(some 12), none, .calli [0, 1, 2, 3] [0, 1, 2, 3] (.t 11) "Less" [(.t 7), (.t 8)]⟩ <|
    .exec [] 8 ⟨(some 4), none, .mv (.t 12)⟩ <|
    .done) <|
  .ret,
  [.tmp 4], [0, 1, 2, 3], [0, 1, 2, 3]⟩

theorem k_ring_Not_int : rbFn Try.prog 65 r_ring_Not_int = some r_ring_Not_int := by kernel_rfl

/-- junto/ring.And[int] -/
def r_ring_And_int : RFn := ⟨11,
  .seq (.reg [] [
    ⟨(some 6), none, .mv (.c (.int .i64 0))⟩]) <|
  .keep [0, 1, 2] <|
  .seq (.reg [] [
    ⟨(some 7), none, .mv (.t 0)⟩,
    ⟨(some 8), none, .mv (.t 1)⟩,
    ⟨(some 9), none, .mv (.t 2)⟩,
    ⟨(some 10), none, .calli [0, 1, 2, 3] [0, 1, 2, 3] (.t 7) "Product" [(.t 8), (.t 9)]⟩,
    ⟨(some 6), none, .mv (.t 10)⟩]) <|
  .ret,
  [.tmp 6], [0, 1, 2, 3], [0, 1, 2, 3]⟩

theorem k_ring_And_int : rbFn Try.prog 73 r_ring_And_int = some r_ring_And_int := by kernel_rfl

/-- junto/ring.Or[int] -/
def r_ring_Or_int : RFn := ⟨20,
  .seq (.reg [] [
    ⟨(some 6), none, .mv (.c (.int .i64 0))⟩]) <|
  .keep [0, 1, 2] <|
  .seq (.dreg [] <|
    .take 0 ⟨(some 7), none, .mv (.t 0)⟩ <|
    .take 1 ⟨(some 8), none, .mv (.t 0)⟩ <|
    .take 2 ⟨(some 9), none, .mv (.t 1)⟩ <|
    .take 3 ⟨(some 10), none, .mv (.t 2)⟩ <|
    .take 5 ⟨(some 12), none, .mv (.t 0)⟩ <|
    .take 6 ⟨(some 13), none, .mv (.t 1)⟩ <|
    .take 7 ⟨(some 14), none, .mv (.t 2)⟩ <|
    .take 9 ⟨(some 16), none, .mkf (.method "Less") [(.t 7)] []⟩ <|
    .take 10 ⟨(some 17), none, .nil (.t 16)⟩ <|
    .take 11 ⟨(some 18), none, .mv (.t 7)⟩ <|
    .exec [] 4 ⟨(some 11), none, .calli [0, 1, 2, 3] [0, 1, 2, 3] (.t 8) "Sum" [(.t 9), (.t 10)]⟩ <|
    .exec [] 8 ⟨(some 15), none, .calli [0, 1, 2, 3] [0, 1, 2, 3] (.t 12) "Product" [(.t 13), (.t 14)]⟩ <|
    .exec [] 12 ⟨(some 19), none, .calli [0, 1, 2, 3] [0, 1, 2, 3] (.t 18) "Less" [(.t 11), (.t 15)]⟩ <|
    .exec [] 13 ⟨(some 6), none, .mv (.t 19)⟩ <|
    .done) <|
  .ret,
  [.tmp 6], [0, 1, 2, 3], [0, 1, 2, 3]⟩

theorem k_ring_Or_int : rbFn Try.prog 75 r_ring_Or_int = some r_ring_Or_int := by kernel_rfl

/-- junto/ring.Xor[int] -/
def r_ring_Xor_int : RFn := ⟨25,
  .seq (.reg [] [
    ⟨(some 6), none, .mv (.c (.int .i64 0))⟩]) <|
  .keep [0, 1, 2] <|
  .seq (.reg [] [
    ⟨(some 8), none, .mv (.t 0)⟩,
    ⟨(some 9), none, .mv (.t 1)⟩,
    ⟨(some 10), none, .mv (.t 2)⟩,
    ⟨(some 11), none, .calli [0, 1, 2, 3] [0, 1, 2, 3] (.t 8) "Product" [(.t 9), (.t 10)]⟩,
    ⟨(some 7), none, .mv (.t 11)⟩]) <|
  .keep [0, 1, 2, 7] <|
  .seq (.dreg [] <|
    .take 0 ⟨(some 12), none, .mv (.t 0)⟩ <|
    .take 1 ⟨(some 13), none, .mv (.t 0)⟩ <|
    .take 2 ⟨(some 14), none, .mv (.t 1)⟩ <|
    .take 3 ⟨(some 15), none, .mv (.t 2)⟩ <|
    .take 5 ⟨(some 17), none, .mv (.t 0)⟩ <|
    .take 6 ⟨(some 18), none, .mv (.t 7)⟩ <|
    .take 7 ⟨(some 19), none, .mv (.t 7)⟩ <|
    .take 9 ⟨(some 21), none, .mkf (.method "Less") [(.t 12)] []⟩ <|
    .take 10 ⟨(some 22), none, .nil (.t 21)⟩ <|
    .take 11 ⟨(some 23), none, .mv (.t 12)⟩ <|
    .exec [] 4 ⟨(some 16), none, .calli [0, 1, 2, 3] [0, 1, 2, 3] (.t 13) "Sum" [(.t 14), (.t 15)]⟩ <|
    .exec [] 8 ⟨(some 20), none, .calli [0, 1, 2, 3] [0, 1, 2, 3] (.t 17) "Sum" [(.t 18), (.t 19)]⟩ <|
    .exec [] 12 ⟨(some 24), none, .calli [0, 1, 2, 3] [0, 1, 2, 3] (.t 23) "Less" [(.t 16), (.t 20)]⟩ <|
    .exec [] 13 ⟨(some 6), none, .mv (.t 24)⟩ <|
    .done) <|
  .ret,
  [.tmp 6], [0, 1, 2, 3], [0, 1, 2, 3]⟩

theorem k_ring_Xor_int : rbFn Try.prog 66 r_ring_Xor_int = some r_ring_Xor_int := by kernel_rfl

/-- junto/ring.Pick[int] -/
def r_ring_Pick_int : RFn := ⟨25,
  .seq (.reg [] [
    ⟨(some 8), none, .mv (.c (.int .i64 0))⟩]) <|
  .keep [0, 1, 2, 3] <|
  .seq (.dreg [] <|
    .take 0 ⟨(some 9), none, .mv (.t 0)⟩ <|
    .take 1 ⟨(some 10), none, .mv (.t 3)⟩ <|
    .take 2 ⟨(some 11), none, .mv (.t 0)⟩ <|
    .take 3 ⟨(some 12), none, .mv (.t 1)⟩ <|
    .take 4 ⟨(some 13), none, .mv (.t 0)⟩ <|
    .take 5 ⟨(some 14), none, .mv (.t 2)⟩ <|
    .take 6 ⟨(some 15), none, .mv (.t 3)⟩ <|
    .take 8 ⟨(some 17), none, .mkf (.method "Product") [(.t 11)] []⟩ <|
    .take 9 ⟨(some 18), none, .nil (.t 17)⟩ <|
    .take 10 ⟨(some 19), none, .mv (.t 11)⟩ <|
    .take 12 ⟨(some 21), none, .mkf (.method "Sum") [(.t 9)] []⟩ <|
    .take 13 ⟨(some 22), none, .nil (.t 21)⟩ <|
    .take 14 ⟨(some 23), none, .mv (.t 9)⟩ <|
    .exec [] 7 ⟨(some 16), none, .calli [0, 1, 2, 3] [0, 1, 2, 3] (.t 13) "Less" [(.t 14), (.t 15)]⟩ <|
    .exec [] 11 ⟨(some 20), none, .calli [0, 1, 2, 3] [0, 1, 2, 3] (.t 19) "Product" [(.t 12), (.t 16)]⟩ <|
    .exec [] 15 ⟨(some 24), none, .calli [0, 1, 2, 3] [0, 1, 2, 3] (.t 23) "Sum" [(.t 10), (.t 20)]⟩ <|
    .exec [] 16 ⟨(some 8), none, .mv (.t 24)⟩ <|
    .done) <|
  .ret,
  [.tmp 8], [0, 1, 2, 3], [0, 1, 2, 3]⟩

theorem k_ring_Pick_int : rbFn Try.prog 78 r_ring_Pick_int = some r_ring_Pick_int := by kernel_rfl


/-- A board as a ring. -/
def rg (bb : Nat) : Value := .iface 115 (wv bb)
def rNot (a : Int) : Rm Int := .bind (rFixed 1) fun k => rLess k a
def rAnd (a b : Int) : Rm Int := rProd a b
def rOr (a b : Int) : Rm Int := .bind (rSum a b) fun s => .bind (rProd a b) fun q => rLess s q
def rXor (a b : Int) : Rm Int := .bind (rProd a b) fun q => .bind (rSum a b) fun s => .bind (rSum q q) fun t => rLess s t
def rPick (c a b : Int) : Rm Int := .bind (rLess a b) fun s => .bind (rProd c s) fun q => rSum b q

theorem c_rNot {G : GH} {bb : Nat} {B : Bd} {Es : List (List Ent)} {a : Int} (hb : BoardM G bb B Es) (hp : B.p ≠ 0) : ACalls Try.prog 65 [rg bb, .int .i64 a] G Es (WR bb encZ (rNot a B)) := by
  obtain ⟨e0, e1, e2, e3, rfl⟩ := hb.es
  refine acalls mixed k_ring_Not_int (by simp) fun F => ?_
  simp only [GV, frArgs, memArgs, resV, fillL, ← Bool.decide_or, ← Bool.decide_and, ← decide_not, ↓reduceIte, Nat.reduceEqDiff, Nat.reduceAdd, Nat.reduceMul, Nat.reduceLeDiff, Nat.reduceLT, Nat.reduceSub, Nat.succ_ne_zero, Nat.one_ne_zero, Nat.zero_ne_one, true_implies, false_implies, forall_const, implies_true, reduceCtorEq, eq_self, ite_true, ite_false, decide_true, decide_false, Nat.le_refl, Bool.false_eq_true, if_true, if_false, rg, nil_Less, nil_Sum, nil_Prod]
  refine wcall (meth_Fixed _) rfl (c_wFixed hb hp) ?_ ?_
  · rintro k B1 v G1 e0 e1 e2 e3 hg hr1 rfl hb hp
    simp only [GV, frArgs, memArgs, resV, fillL, ← Bool.decide_or, ← Bool.decide_and, ← decide_not, ↓reduceIte, Nat.reduceEqDiff, Nat.reduceAdd, Nat.reduceMul, Nat.reduceLeDiff, Nat.reduceLT, Nat.reduceSub, Nat.succ_ne_zero, Nat.one_ne_zero, Nat.zero_ne_one, true_implies, false_implies, forall_const, implies_true, reduceCtorEq, eq_self, ite_true, ite_false, decide_true, decide_false, Nat.le_refl, Bool.false_eq_true, if_true, if_false, nil_Less, nil_Sum, nil_Prod]
    refine wcall (meth_Less _) rfl (c_wLess hb hp) ?_ ?_
    · rintro k B1 v G1 e0 e1 e2 e3 hg hr2 rfl hb hp
      simp only [GV, frArgs, memArgs, resV, fillL, ← Bool.decide_or, ← Bool.decide_and, ← decide_not, ↓reduceIte, Nat.reduceEqDiff, Nat.reduceAdd, Nat.reduceMul, Nat.reduceLeDiff, Nat.reduceLT, Nat.reduceSub, Nat.succ_ne_zero, Nat.one_ne_zero, Nat.zero_ne_one, true_implies, false_implies, forall_const, implies_true, reduceCtorEq, eq_self, ite_true, ite_false, decide_true, decide_false, Nat.le_refl, Bool.false_eq_true, if_true, if_false, nil_Less, nil_Sum, nil_Prod]
      exact WR.ok (by simp only [rNot, Rm.bind, hr1, hr2]) rfl hb hp
    · rintro e B1 G1 e0 e1 e2 e3 hg hr2 hb hp
      simp only [GV, frArgs, memArgs, resV, fillL, ← Bool.decide_or, ← Bool.decide_and, ← decide_not, ↓reduceIte, Nat.reduceEqDiff, Nat.reduceAdd, Nat.reduceMul, Nat.reduceLeDiff, Nat.reduceLT, Nat.reduceSub, Nat.succ_ne_zero, Nat.one_ne_zero, Nat.zero_ne_one, true_implies, false_implies, forall_const, implies_true, reduceCtorEq, eq_self, ite_true, ite_false, decide_true, decide_false, Nat.le_refl, Bool.false_eq_true, if_true, if_false, nil_Less, nil_Sum, nil_Prod]
      exact WR.bad (by simp only [rNot, Rm.bind, hr1, hr2]) hb hp
  · rintro e B1 G1 e0 e1 e2 e3 hg hr1 hb hp
    simp only [GV, frArgs, memArgs, resV, fillL, ← Bool.decide_or, ← Bool.decide_and, ← decide_not, ↓reduceIte, Nat.reduceEqDiff, Nat.reduceAdd, Nat.reduceMul, Nat.reduceLeDiff, Nat.reduceLT, Nat.reduceSub, Nat.succ_ne_zero, Nat.one_ne_zero, Nat.zero_ne_one, true_implies, false_implies, forall_const, implies_true, reduceCtorEq, eq_self, ite_true, ite_false, decide_true, decide_false, Nat.le_refl, Bool.false_eq_true, if_true, if_false, nil_Less, nil_Sum, nil_Prod]
    exact WR.bad (by simp only [rNot, Rm.bind, hr1]) hb hp

theorem c_rAnd {G : GH} {bb : Nat} {B : Bd} {Es : List (List Ent)} {a b : Int} (hb : BoardM G bb B Es) (hp : B.p ≠ 0) : ACalls Try.prog 73 [rg bb, .int .i64 a, .int .i64 b] G Es (WR bb encZ (rAnd a b B)) := by
  obtain ⟨e0, e1, e2, e3, rfl⟩ := hb.es
  refine acalls mixed k_ring_And_int (by simp) fun F => ?_
  simp only [GV, frArgs, memArgs, resV, fillL, ← Bool.decide_or, ← Bool.decide_and, ← decide_not, ↓reduceIte, Nat.reduceEqDiff, Nat.reduceAdd, Nat.reduceMul, Nat.reduceLeDiff, Nat.reduceLT, Nat.reduceSub, Nat.succ_ne_zero, Nat.one_ne_zero, Nat.zero_ne_one, true_implies, false_implies, forall_const, implies_true, reduceCtorEq, eq_self, ite_true, ite_false, decide_true, decide_false, Nat.le_refl, Bool.false_eq_true, if_true, if_false, rg, nil_Less, nil_Sum, nil_Prod]
  refine wcall (meth_Prod _) rfl (c_wProd hb hp) ?_ ?_
  · rintro k B1 v G1 e0 e1 e2 e3 hg hr1 rfl hb hp
    simp only [GV, frArgs, memArgs, resV, fillL, ← Bool.decide_or, ← Bool.decide_and, ← decide_not, ↓reduceIte, Nat.reduceEqDiff, Nat.reduceAdd, Nat.reduceMul, Nat.reduceLeDiff, Nat.reduceLT, Nat.reduceSub, Nat.succ_ne_zero, Nat.one_ne_zero, Nat.zero_ne_one, true_implies, false_implies, forall_const, implies_true, reduceCtorEq, eq_self, ite_true, ite_false, decide_true, decide_false, Nat.le_refl, Bool.false_eq_true, if_true, if_false, nil_Less, nil_Sum, nil_Prod]
    exact WR.ok (by simp only [rAnd, Rm.bind, hr1]) rfl hb hp
  · rintro e B1 G1 e0 e1 e2 e3 hg hr1 hb hp
    simp only [GV, frArgs, memArgs, resV, fillL, ← Bool.decide_or, ← Bool.decide_and, ← decide_not, ↓reduceIte, Nat.reduceEqDiff, Nat.reduceAdd, Nat.reduceMul, Nat.reduceLeDiff, Nat.reduceLT, Nat.reduceSub, Nat.succ_ne_zero, Nat.one_ne_zero, Nat.zero_ne_one, true_implies, false_implies, forall_const, implies_true, reduceCtorEq, eq_self, ite_true, ite_false, decide_true, decide_false, Nat.le_refl, Bool.false_eq_true, if_true, if_false, nil_Less, nil_Sum, nil_Prod]
    exact WR.bad (by simp only [rAnd, Rm.bind, hr1]) hb hp

theorem c_rOr {G : GH} {bb : Nat} {B : Bd} {Es : List (List Ent)} {a b : Int} (hb : BoardM G bb B Es) (hp : B.p ≠ 0) : ACalls Try.prog 75 [rg bb, .int .i64 a, .int .i64 b] G Es (WR bb encZ (rOr a b B)) := by
  obtain ⟨e0, e1, e2, e3, rfl⟩ := hb.es
  refine acalls mixed k_ring_Or_int (by simp) fun F => ?_
  simp only [GV, frArgs, memArgs, resV, fillL, ← Bool.decide_or, ← Bool.decide_and, ← decide_not, ↓reduceIte, Nat.reduceEqDiff, Nat.reduceAdd, Nat.reduceMul, Nat.reduceLeDiff, Nat.reduceLT, Nat.reduceSub, Nat.succ_ne_zero, Nat.one_ne_zero, Nat.zero_ne_one, true_implies, false_implies, forall_const, implies_true, reduceCtorEq, eq_self, ite_true, ite_false, decide_true, decide_false, Nat.le_refl, Bool.false_eq_true, if_true, if_false, rg, nil_Less, nil_Sum, nil_Prod]
  refine wcall (meth_Sum _) rfl (c_wSum hb hp) ?_ ?_
  · rintro k B1 v G1 e0 e1 e2 e3 hg hr1 rfl hb hp
    simp only [GV, frArgs, memArgs, resV, fillL, ← Bool.decide_or, ← Bool.decide_and, ← decide_not, ↓reduceIte, Nat.reduceEqDiff, Nat.reduceAdd, Nat.reduceMul, Nat.reduceLeDiff, Nat.reduceLT, Nat.reduceSub, Nat.succ_ne_zero, Nat.one_ne_zero, Nat.zero_ne_one, true_implies, false_implies, forall_const, implies_true, reduceCtorEq, eq_self, ite_true, ite_false, decide_true, decide_false, Nat.le_refl, Bool.false_eq_true, if_true, if_false, nil_Less, nil_Sum, nil_Prod]
    refine wcall (meth_Prod _) rfl (c_wProd hb hp) ?_ ?_
    · rintro k B1 v G1 e0 e1 e2 e3 hg hr2 rfl hb hp
      simp only [GV, frArgs, memArgs, resV, fillL, ← Bool.decide_or, ← Bool.decide_and, ← decide_not, ↓reduceIte, Nat.reduceEqDiff, Nat.reduceAdd, Nat.reduceMul, Nat.reduceLeDiff, Nat.reduceLT, Nat.reduceSub, Nat.succ_ne_zero, Nat.one_ne_zero, Nat.zero_ne_one, true_implies, false_implies, forall_const, implies_true, reduceCtorEq, eq_self, ite_true, ite_false, decide_true, decide_false, Nat.le_refl, Bool.false_eq_true, if_true, if_false, nil_Less, nil_Sum, nil_Prod]
      refine wcall (meth_Less _) rfl (c_wLess hb hp) ?_ ?_
      · rintro k B1 v G1 e0 e1 e2 e3 hg hr3 rfl hb hp
        simp only [GV, frArgs, memArgs, resV, fillL, ← Bool.decide_or, ← Bool.decide_and, ← decide_not, ↓reduceIte, Nat.reduceEqDiff, Nat.reduceAdd, Nat.reduceMul, Nat.reduceLeDiff, Nat.reduceLT, Nat.reduceSub, Nat.succ_ne_zero, Nat.one_ne_zero, Nat.zero_ne_one, true_implies, false_implies, forall_const, implies_true, reduceCtorEq, eq_self, ite_true, ite_false, decide_true, decide_false, Nat.le_refl, Bool.false_eq_true, if_true, if_false, nil_Less, nil_Sum, nil_Prod]
        exact WR.ok (by simp only [rOr, Rm.bind, hr1, hr2, hr3]) rfl hb hp
      · rintro e B1 G1 e0 e1 e2 e3 hg hr3 hb hp
        simp only [GV, frArgs, memArgs, resV, fillL, ← Bool.decide_or, ← Bool.decide_and, ← decide_not, ↓reduceIte, Nat.reduceEqDiff, Nat.reduceAdd, Nat.reduceMul, Nat.reduceLeDiff, Nat.reduceLT, Nat.reduceSub, Nat.succ_ne_zero, Nat.one_ne_zero, Nat.zero_ne_one, true_implies, false_implies, forall_const, implies_true, reduceCtorEq, eq_self, ite_true, ite_false, decide_true, decide_false, Nat.le_refl, Bool.false_eq_true, if_true, if_false, nil_Less, nil_Sum, nil_Prod]
        exact WR.bad (by simp only [rOr, Rm.bind, hr1, hr2, hr3]) hb hp
    · rintro e B1 G1 e0 e1 e2 e3 hg hr2 hb hp
      simp only [GV, frArgs, memArgs, resV, fillL, ← Bool.decide_or, ← Bool.decide_and, ← decide_not, ↓reduceIte, Nat.reduceEqDiff, Nat.reduceAdd, Nat.reduceMul, Nat.reduceLeDiff, Nat.reduceLT, Nat.reduceSub, Nat.succ_ne_zero, Nat.one_ne_zero, Nat.zero_ne_one, true_implies, false_implies, forall_const, implies_true, reduceCtorEq, eq_self, ite_true, ite_false, decide_true, decide_false, Nat.le_refl, Bool.false_eq_true, if_true, if_false, nil_Less, nil_Sum, nil_Prod]
      exact WR.bad (by simp only [rOr, Rm.bind, hr1, hr2]) hb hp
  · rintro e B1 G1 e0 e1 e2 e3 hg hr1 hb hp
    simp only [GV, frArgs, memArgs, resV, fillL, ← Bool.decide_or, ← Bool.decide_and, ← decide_not, ↓reduceIte, Nat.reduceEqDiff, Nat.reduceAdd, Nat.reduceMul, Nat.reduceLeDiff, Nat.reduceLT, Nat.reduceSub, Nat.succ_ne_zero, Nat.one_ne_zero, Nat.zero_ne_one, true_implies, false_implies, forall_const, implies_true, reduceCtorEq, eq_self, ite_true, ite_false, decide_true, decide_false, Nat.le_refl, Bool.false_eq_true, if_true, if_false, nil_Less, nil_Sum, nil_Prod]
    exact WR.bad (by simp only [rOr, Rm.bind, hr1]) hb hp

theorem c_rXor {G : GH} {bb : Nat} {B : Bd} {Es : List (List Ent)} {a b : Int} (hb : BoardM G bb B Es) (hp : B.p ≠ 0) : ACalls Try.prog 66 [rg bb, .int .i64 a, .int .i64 b] G Es (WR bb encZ (rXor a b B)) := by
  obtain ⟨e0, e1, e2, e3, rfl⟩ := hb.es
  refine acalls mixed k_ring_Xor_int (by simp) fun F => ?_
  simp only [GV, frArgs, memArgs, resV, fillL, ← Bool.decide_or, ← Bool.decide_and, ← decide_not, ↓reduceIte, Nat.reduceEqDiff, Nat.reduceAdd, Nat.reduceMul, Nat.reduceLeDiff, Nat.reduceLT, Nat.reduceSub, Nat.succ_ne_zero, Nat.one_ne_zero, Nat.zero_ne_one, true_implies, false_implies, forall_const, implies_true, reduceCtorEq, eq_self, ite_true, ite_false, decide_true, decide_false, Nat.le_refl, Bool.false_eq_true, if_true, if_false, rg, nil_Less, nil_Sum, nil_Prod]
  refine wcall (meth_Prod _) rfl (c_wProd hb hp) ?_ ?_
  · rintro k B1 v G1 e0 e1 e2 e3 hg hr1 rfl hb hp
    simp only [GV, frArgs, memArgs, resV, fillL, ← Bool.decide_or, ← Bool.decide_and, ← decide_not, ↓reduceIte, Nat.reduceEqDiff, Nat.reduceAdd, Nat.reduceMul, Nat.reduceLeDiff, Nat.reduceLT, Nat.reduceSub, Nat.succ_ne_zero, Nat.one_ne_zero, Nat.zero_ne_one, true_implies, false_implies, forall_const, implies_true, reduceCtorEq, eq_self, ite_true, ite_false, decide_true, decide_false, Nat.le_refl, Bool.false_eq_true, if_true, if_false, nil_Less, nil_Sum, nil_Prod]
    refine wcall (meth_Sum _) rfl (c_wSum hb hp) ?_ ?_
    · rintro k B1 v G1 e0 e1 e2 e3 hg hr2 rfl hb hp
      simp only [GV, frArgs, memArgs, resV, fillL, ← Bool.decide_or, ← Bool.decide_and, ← decide_not, ↓reduceIte, Nat.reduceEqDiff, Nat.reduceAdd, Nat.reduceMul, Nat.reduceLeDiff, Nat.reduceLT, Nat.reduceSub, Nat.succ_ne_zero, Nat.one_ne_zero, Nat.zero_ne_one, true_implies, false_implies, forall_const, implies_true, reduceCtorEq, eq_self, ite_true, ite_false, decide_true, decide_false, Nat.le_refl, Bool.false_eq_true, if_true, if_false, nil_Less, nil_Sum, nil_Prod]
      refine wcall (meth_Sum _) rfl (c_wSum hb hp) ?_ ?_
      · rintro k B1 v G1 e0 e1 e2 e3 hg hr3 rfl hb hp
        simp only [GV, frArgs, memArgs, resV, fillL, ← Bool.decide_or, ← Bool.decide_and, ← decide_not, ↓reduceIte, Nat.reduceEqDiff, Nat.reduceAdd, Nat.reduceMul, Nat.reduceLeDiff, Nat.reduceLT, Nat.reduceSub, Nat.succ_ne_zero, Nat.one_ne_zero, Nat.zero_ne_one, true_implies, false_implies, forall_const, implies_true, reduceCtorEq, eq_self, ite_true, ite_false, decide_true, decide_false, Nat.le_refl, Bool.false_eq_true, if_true, if_false, nil_Less, nil_Sum, nil_Prod]
        refine wcall (meth_Less _) rfl (c_wLess hb hp) ?_ ?_
        · rintro k B1 v G1 e0 e1 e2 e3 hg hr4 rfl hb hp
          simp only [GV, frArgs, memArgs, resV, fillL, ← Bool.decide_or, ← Bool.decide_and, ← decide_not, ↓reduceIte, Nat.reduceEqDiff, Nat.reduceAdd, Nat.reduceMul, Nat.reduceLeDiff, Nat.reduceLT, Nat.reduceSub, Nat.succ_ne_zero, Nat.one_ne_zero, Nat.zero_ne_one, true_implies, false_implies, forall_const, implies_true, reduceCtorEq, eq_self, ite_true, ite_false, decide_true, decide_false, Nat.le_refl, Bool.false_eq_true, if_true, if_false, nil_Less, nil_Sum, nil_Prod]
          exact WR.ok (by simp only [rXor, Rm.bind, hr1, hr2, hr3, hr4]) rfl hb hp
        · rintro e B1 G1 e0 e1 e2 e3 hg hr4 hb hp
          simp only [GV, frArgs, memArgs, resV, fillL, ← Bool.decide_or, ← Bool.decide_and, ← decide_not, ↓reduceIte, Nat.reduceEqDiff, Nat.reduceAdd, Nat.reduceMul, Nat.reduceLeDiff, Nat.reduceLT, Nat.reduceSub, Nat.succ_ne_zero, Nat.one_ne_zero, Nat.zero_ne_one, true_implies, false_implies, forall_const, implies_true, reduceCtorEq, eq_self, ite_true, ite_false, decide_true, decide_false, Nat.le_refl, Bool.false_eq_true, if_true, if_false, nil_Less, nil_Sum, nil_Prod]
          exact WR.bad (by simp only [rXor, Rm.bind, hr1, hr2, hr3, hr4]) hb hp
      · rintro e B1 G1 e0 e1 e2 e3 hg hr3 hb hp
        simp only [GV, frArgs, memArgs, resV, fillL, ← Bool.decide_or, ← Bool.decide_and, ← decide_not, ↓reduceIte, Nat.reduceEqDiff, Nat.reduceAdd, Nat.reduceMul, Nat.reduceLeDiff, Nat.reduceLT, Nat.reduceSub, Nat.succ_ne_zero, Nat.one_ne_zero, Nat.zero_ne_one, true_implies, false_implies, forall_const, implies_true, reduceCtorEq, eq_self, ite_true, ite_false, decide_true, decide_false, Nat.le_refl, Bool.false_eq_true, if_true, if_false, nil_Less, nil_Sum, nil_Prod]
        exact WR.bad (by simp only [rXor, Rm.bind, hr1, hr2, hr3]) hb hp
    · rintro e B1 G1 e0 e1 e2 e3 hg hr2 hb hp
      simp only [GV, frArgs, memArgs, resV, fillL, ← Bool.decide_or, ← Bool.decide_and, ← decide_not, ↓reduceIte, Nat.reduceEqDiff, Nat.reduceAdd, Nat.reduceMul, Nat.reduceLeDiff, Nat.reduceLT, Nat.reduceSub, Nat.succ_ne_zero, Nat.one_ne_zero, Nat.zero_ne_one, true_implies, false_implies, forall_const, implies_true, reduceCtorEq, eq_self, ite_true, ite_false, decide_true, decide_false, Nat.le_refl, Bool.false_eq_true, if_true, if_false, nil_Less, nil_Sum, nil_Prod]
      exact WR.bad (by simp only [rXor, Rm.bind, hr1, hr2]) hb hp
  · rintro e B1 G1 e0 e1 e2 e3 hg hr1 hb hp
    simp only [GV, frArgs, memArgs, resV, fillL, ← Bool.decide_or, ← Bool.decide_and, ← decide_not, ↓reduceIte, Nat.reduceEqDiff, Nat.reduceAdd, Nat.reduceMul, Nat.reduceLeDiff, Nat.reduceLT, Nat.reduceSub, Nat.succ_ne_zero, Nat.one_ne_zero, Nat.zero_ne_one, true_implies, false_implies, forall_const, implies_true, reduceCtorEq, eq_self, ite_true, ite_false, decide_true, decide_false, Nat.le_refl, Bool.false_eq_true, if_true, if_false, nil_Less, nil_Sum, nil_Prod]
    exact WR.bad (by simp only [rXor, Rm.bind, hr1]) hb hp

theorem c_rPick {G : GH} {bb : Nat} {B : Bd} {Es : List (List Ent)} {c a b : Int} (hb : BoardM G bb B Es) (hp : B.p ≠ 0) : ACalls Try.prog 78 [rg bb, .int .i64 c, .int .i64 a, .int .i64 b] G Es (WR bb encZ (rPick c a b B)) := by
  obtain ⟨e0, e1, e2, e3, rfl⟩ := hb.es
  refine acalls mixed k_ring_Pick_int (by simp) fun F => ?_
  simp only [GV, frArgs, memArgs, resV, fillL, ← Bool.decide_or, ← Bool.decide_and, ← decide_not, ↓reduceIte, Nat.reduceEqDiff, Nat.reduceAdd, Nat.reduceMul, Nat.reduceLeDiff, Nat.reduceLT, Nat.reduceSub, Nat.succ_ne_zero, Nat.one_ne_zero, Nat.zero_ne_one, true_implies, false_implies, forall_const, implies_true, reduceCtorEq, eq_self, ite_true, ite_false, decide_true, decide_false, Nat.le_refl, Bool.false_eq_true, if_true, if_false, rg, nil_Less, nil_Sum, nil_Prod]
  refine wcall (meth_Less _) rfl (c_wLess hb hp) ?_ ?_
  · rintro k B1 v G1 e0 e1 e2 e3 hg hr1 rfl hb hp
    simp only [GV, frArgs, memArgs, resV, fillL, ← Bool.decide_or, ← Bool.decide_and, ← decide_not, ↓reduceIte, Nat.reduceEqDiff, Nat.reduceAdd, Nat.reduceMul, Nat.reduceLeDiff, Nat.reduceLT, Nat.reduceSub, Nat.succ_ne_zero, Nat.one_ne_zero, Nat.zero_ne_one, true_implies, false_implies, forall_const, implies_true, reduceCtorEq, eq_self, ite_true, ite_false, decide_true, decide_false, Nat.le_refl, Bool.false_eq_true, if_true, if_false, nil_Less, nil_Sum, nil_Prod]
    refine wcall (meth_Prod _) rfl (c_wProd hb hp) ?_ ?_
    · rintro k B1 v G1 e0 e1 e2 e3 hg hr2 rfl hb hp
      simp only [GV, frArgs, memArgs, resV, fillL, ← Bool.decide_or, ← Bool.decide_and, ← decide_not, ↓reduceIte, Nat.reduceEqDiff, Nat.reduceAdd, Nat.reduceMul, Nat.reduceLeDiff, Nat.reduceLT, Nat.reduceSub, Nat.succ_ne_zero, Nat.one_ne_zero, Nat.zero_ne_one, true_implies, false_implies, forall_const, implies_true, reduceCtorEq, eq_self, ite_true, ite_false, decide_true, decide_false, Nat.le_refl, Bool.false_eq_true, if_true, if_false, nil_Less, nil_Sum, nil_Prod]
      refine wcall (meth_Sum _) rfl (c_wSum hb hp) ?_ ?_
      · rintro k B1 v G1 e0 e1 e2 e3 hg hr3 rfl hb hp
        simp only [GV, frArgs, memArgs, resV, fillL, ← Bool.decide_or, ← Bool.decide_and, ← decide_not, ↓reduceIte, Nat.reduceEqDiff, Nat.reduceAdd, Nat.reduceMul, Nat.reduceLeDiff, Nat.reduceLT, Nat.reduceSub, Nat.succ_ne_zero, Nat.one_ne_zero, Nat.zero_ne_one, true_implies, false_implies, forall_const, implies_true, reduceCtorEq, eq_self, ite_true, ite_false, decide_true, decide_false, Nat.le_refl, Bool.false_eq_true, if_true, if_false, nil_Less, nil_Sum, nil_Prod]
        exact WR.ok (by simp only [rPick, Rm.bind, hr1, hr2, hr3]) rfl hb hp
      · rintro e B1 G1 e0 e1 e2 e3 hg hr3 hb hp
        simp only [GV, frArgs, memArgs, resV, fillL, ← Bool.decide_or, ← Bool.decide_and, ← decide_not, ↓reduceIte, Nat.reduceEqDiff, Nat.reduceAdd, Nat.reduceMul, Nat.reduceLeDiff, Nat.reduceLT, Nat.reduceSub, Nat.succ_ne_zero, Nat.one_ne_zero, Nat.zero_ne_one, true_implies, false_implies, forall_const, implies_true, reduceCtorEq, eq_self, ite_true, ite_false, decide_true, decide_false, Nat.le_refl, Bool.false_eq_true, if_true, if_false, nil_Less, nil_Sum, nil_Prod]
        exact WR.bad (by simp only [rPick, Rm.bind, hr1, hr2, hr3]) hb hp
    · rintro e B1 G1 e0 e1 e2 e3 hg hr2 hb hp
      simp only [GV, frArgs, memArgs, resV, fillL, ← Bool.decide_or, ← Bool.decide_and, ← decide_not, ↓reduceIte, Nat.reduceEqDiff, Nat.reduceAdd, Nat.reduceMul, Nat.reduceLeDiff, Nat.reduceLT, Nat.reduceSub, Nat.succ_ne_zero, Nat.one_ne_zero, Nat.zero_ne_one, true_implies, false_implies, forall_const, implies_true, reduceCtorEq, eq_self, ite_true, ite_false, decide_true, decide_false, Nat.le_refl, Bool.false_eq_true, if_true, if_false, nil_Less, nil_Sum, nil_Prod]
      exact WR.bad (by simp only [rPick, Rm.bind, hr1, hr2]) hb hp
  · rintro e B1 G1 e0 e1 e2 e3 hg hr1 hb hp
    simp only [GV, frArgs, memArgs, resV, fillL, ← Bool.decide_or, ← Bool.decide_and, ← decide_not, ↓reduceIte, Nat.reduceEqDiff, Nat.reduceAdd, Nat.reduceMul, Nat.reduceLeDiff, Nat.reduceLT, Nat.reduceSub, Nat.succ_ne_zero, Nat.one_ne_zero, Nat.zero_ne_one, true_implies, false_implies, forall_const, implies_true, reduceCtorEq, eq_self, ite_true, ite_false, decide_true, decide_false, Nat.le_refl, Bool.false_eq_true, if_true, if_false, nil_Less, nil_Sum, nil_Prod]
    exact WR.bad (by simp only [rPick, Rm.bind, hr1]) hb hp

end Go.Gv.W
