/-
  Words as rings have them: sums. No condition.
-/
import Derived.Test.YtokidokmcbkodaaGvW14
namespace Go.Gv.W
set_option linter.unusedSimpArgs false
set_option linter.unusedVariables false
set_option linter.unusedSectionVars false
open Go.RowKit Go.Proofs

/-- junto/ring.add[int] -/
def r_ring_add_int : RFn := ⟨79,
  .ghost 110 <|
  .seq (.reg [] [
    ⟨(some 8), none, .mv (.c (.slice none 0 0))⟩,
    ⟨(some 9), none, .mv (.c (.int .i64 0))⟩]) <|
  .keep [0, 1, 2, 3] <|
  .seq (.reg [] [
    ⟨(some 10), none, .mv (.c (.slice none 0 0))⟩]) <|
  .keep [0, 1, 2, 3, 10] <|
  .seq (.seq (.reg [] [
    ⟨(some 16), none, .mv (.t 1)⟩,
    ⟨(some 17), none, .len (.t 16)⟩,
    ⟨(some 18), none, .mv (.c (.int .i64 0))⟩]) <|
  .keep [0, 2, 3, 10, 16, 17, 18] <|
  .block 0 <|
  .loop [0, 2, 3, 10, 16, 17, 18] [0, 1, 2, 3, 110, 1000000] <|
  .seq (.reg [] [
    ⟨(some 19), none, .bin .lss (.t 18) (.t 17)⟩]) <|
  .keep [0, 2, 3, 10, 16, 17, 18, 19] <|
  .seq (.cond (.t 19)
    (.skip)
    (.exit 0)) <|
  .keep [0, 2, 3, 10, 16, 17, 18] <|
  .seq (.block 1 <|
  .seq (.reg [] [
    ⟨(some 20), none, .mv (.t 18)⟩,
    ⟨(some 21), none, .iad 1 (.t 16) (.t 18)⟩,
    ⟨(some 22), none, .ld none none (.t 21)⟩,
    ⟨(some 11), none, .mv (.t 20)⟩,
    ⟨(some 12), none, .mv (.t 22)⟩]) <|
  .keep [0, 2, 3, 10, 11, 12, 16, 17, 18] <|
  .seq (.dreg [] <|
    .take 0 ⟨(some 23), none, .mv (.t 0)⟩ <|
    .take 1 ⟨(some 24), none, .mv (.t 12)⟩ <|
    .take 2 ⟨(some 25), none, .mv (.t 2)⟩ <|
    .take 3 ⟨(some 26), none, .mv (.t 11)⟩ <|
    .take 4 ⟨(some 27), none, .iad 1 (.t 25) (.t 26)⟩ <|
    .take 6 ⟨(some 29), none, .mkf (.method "Product") [(.t 23)] []⟩ <|
    .take 7 ⟨(some 30), none, .nil (.t 29)⟩ <|
    .take 8 ⟨(some 31), none, .mv (.t 23)⟩ <|
    .exec [] 5 ⟨(some 28), none, .ld none none (.t 27)⟩ <|
    .exec [] 9 ⟨(some 32), none, .calli [0, 1, 2, 3] [0, 1, 2, 3] (.t 31) "Product" [(.t 24), (.t 28)]⟩ <|
    .exec [] 10 ⟨(some 13), none, .mv (.t 32)⟩ <|
    .done) <|
  .keep [0, 2, 3, 10, 11, 12, 13, 16, 17, 18] <|
  .seq (.dreg [] <|
    .take 0 ⟨(some 33), none, .mv (.t 0)⟩ <|
    .take 1 ⟨(some 34), none, .mv (.t 0)⟩ <|
    .take 2 ⟨(some 35), none, .mv (.t 12)⟩ <|
    .take 3 ⟨(some 36), none, .mv (.t 2)⟩ <|
    .take 4 ⟨(some 37), none, .mv (.t 11)⟩ <|
    .take 5 ⟨(some 38), none, .iad 1 (.t 36) (.t 37)⟩ <|
    .take 7 ⟨(some 40), none, .mkf (.method "Sum") [(.t 34)] []⟩ <|
    .take 8 ⟨(some 41), none, .nil (.t 40)⟩ <|
    .take 9 ⟨(some 42), none, .mv (.t 34)⟩ <|
    .take 11 ⟨(some 44), none, .mv (.t 0)⟩ <|
    .take 12 ⟨(some 45), none, .mv (.t 13)⟩ <|
    .take 13 ⟨(some 46), none, .mv (.t 13)⟩ <|
    .take 15 ⟨(some 48), none, .mkf (.method "Less") [(.t 33)] []⟩ <|
    .take 16 ⟨(some 49), none, .nil (.t 48)⟩ <|
    .take 17 ⟨(some 50), none, .mv (.t 33)⟩ <|
    .exec [] 6 ⟨(some 39), none, .ld none none (.t 38)⟩ <|
    .exec [] 10 ⟨(some 43), none, .calli [0, 1, 2, 3] [0, 1, 2, 3] (.t 42) "Sum" [(.t 35), (.t 39)]⟩ <|
    .exec [] 14 ⟨(some 47), none, .calli [0, 1, 2, 3] [0, 1, 2, 3] (.t 44) "Sum" [(.t 45), (.t 46)]⟩ <|
    .exec [] 18 ⟨(some 51), none, .calli [0, 1, 2, 3] [0, 1, 2, 3] (.t 50) "Less" [(.t 43), (.t 47)]⟩ <|
    .exec [] 19 ⟨(some 14), none, .mv (.t 51)⟩ <|
    .done) <|
  .keep [0, 2, 3, 10, 13, 14, 16, 17, 18] <|
  .seq (.reg [] [
    ⟨(some 52), none, .mv (.t 0)⟩,
    ⟨(some 53), none, .mv (.t 14)⟩,
    ⟨(some 54), none, .mv (.t 3)⟩,
    ⟨(some 55), none, .calli [0, 1, 2, 3] [0, 1, 2, 3] (.t 52) "Product" [(.t 53), (.t 54)]⟩,
    ⟨(some 15), none, .mv (.t 55)⟩]) <|
  .keep [0, 2, 3, 10, 13, 14, 15, 16, 17, 18] <|
  .seq (.dreg [] <|
    .take 0 ⟨(some 56), none, .mv (.t 10)⟩ <|
    .take 1 ⟨(some 57), none, .mv (.t 0)⟩ <|
    .take 2 ⟨(some 58), none, .mv (.t 0)⟩ <|
    .take 3 ⟨(some 59), none, .mv (.t 14)⟩ <|
    .take 4 ⟨(some 60), none, .mv (.t 3)⟩ <|
    .take 6 ⟨(some 62), none, .mv (.t 0)⟩ <|
    .take 7 ⟨(some 63), none, .mv (.t 15)⟩ <|
    .take 8 ⟨(some 64), none, .mv (.t 15)⟩ <|
    .take 10 ⟨(some 66), none, .mkf (.method "Less") [(.t 57)] []⟩ <|
    .take 11 ⟨(some 67), none, .nil (.t 66)⟩ <|
    .take 12 ⟨(some 68), none, .mv (.t 57)⟩ <|
    .exec [] 5 ⟨(some 61), none, .calli [0, 1, 2, 3] [0, 1, 2, 3] (.t 58) "Sum" [(.t 59), (.t 60)]⟩ <|
    .exec [] 9 ⟨(some 65), none, .calli [0, 1, 2, 3] [0, 1, 2, 3] (.t 62) "Sum" [(.t 63), (.t 64)]⟩ <|
    .exec [] 13 ⟨(some 69), none, .calli [0, 1, 2, 3] [0, 1, 2, 3] (.t 68) "Less" [(.t 61), (.t 65)]⟩ <|
    .exec [] 14 ⟨(some 70), none, .bsl none 3 1 1 [(.int .i64 0)] [(0, 1)] [(0, (.t 69))]⟩ <|
    .exec [] 15 ⟨(some 71), none, .app (some 110) 110 3 1 8 (.t 56) (.t 70)⟩ <|
    .exec [] 16 ⟨(some 10), none, .mv (.t 71)⟩ <|
    .done) <|
  .keep [0, 2, 10, 13, 15, 16, 17, 18] <|
  .reg [] [
    ⟨(some 72), none, .mv (.t 0)⟩,
    ⟨(some 73), none, .mv (.t 13)⟩,
    ⟨(some 74), none, .mv (.t 15)⟩,
    ⟨(some 75), none, .calli [0, 1, 2, 3] [0, 1, 2, 3] (.t 72) "Sum" [(.t 73), (.t 74)]⟩,
    ⟨(some 3), none, .mv (.t 75)⟩]) <|
  .keep [0, 2, 3, 10, 16, 17, 18] <|
  .reg [] [
    ⟨(some 76), none, .bin .add (.t 18) (.c (.int .i64 1))⟩,
    ⟨(some 18), none, .mv (.t 76)⟩]) <|
  .keep [3, 10] <|
  .seq (.reg [] [
    ⟨(some 77), none, .mv (.t 10)⟩,
    ⟨(some 78), none, .mv (.t 3)⟩,
    ⟨(some 8), none, .mv (.t 77)⟩,
    ⟨(some 9), none, .mv (.t 78)⟩]) <|
  .ret,
  [.tmp 8, .tmp 9], [0, 1, 2, 3], [0, 1, 2, 3]⟩

theorem k_ring_add_int : rbFn Try.prog 67 r_ring_add_int = some r_ring_add_int := by kernel_rfl


def rAddA : List Int → List Int → List Int → Int → Rm (List Int × Int)
  | acc, a :: v, b :: w, c => .bind (rProd a b) fun both => .bind (rSum a b) fun s1 => .bind (rSum both both) fun s2 => .bind (rLess s1 s2) fun half => .bind (rProd half c) fun more =>
      .bind (rSum half c) fun s3 => .bind (rSum more more) fun s4 => .bind (rLess s3 s4) fun o => .bind (rSum both more) fun c' => rAddA (acc ++ [o]) v w c'
  | acc, _, _, c => .pure (acc, c)
theorem rAddA_nil (acc w : List Int) (c : Int) : rAddA acc [] w c = .pure (acc, c) := by cases w <;> rfl
def encWZ (x : List Int × Int) (G : GH) (v : Value) : Prop := ∃ u, v = .tuple #[u, .int .i64 x.2] ∧ SlI G .i64 u x.1
def rTurnA : List Int → List Int → Rm (List Int)
  | acc, a :: w => .bind (rNot a) fun o => rTurnA (acc ++ [o]) w
  | acc, [] => .pure acc
theorem int_one (x : Int) : ∀ u ∈ [[Value.int .i64 x]].flatten, u.oneCell' = true := by simp; rfl
theorem own_more {G : GH} {v : Value} {l : List Int} {x : Int} {es : List Ent} (h : OwnS G 3 1 v (encI .i64 l ++ [[Value.int .i64 x]]).flatten es) : OwnS G 3 1 v (encI .i64 (l ++ [x])).flatten es := by
  rw [encI_append]; exact h

set_option maxHeartbeats 2000000 in
set_option maxRecDepth 20000 in
theorem c_rAdd {G : GH} {bb : Nat} {B : Bd} {Es : List (List Ent)} {v w : Value} {l m : List Int} {c : Int} (hb : BoardM G bb B Es) (hp : B.p ≠ 0) (hv : SlI G .i64 v l) (hw : SlI G .i64 w m) (hlm : l.length = m.length) (hmax : l.length ≤ 65536) :
    ACalls Try.prog 67 [rg bb, v, w, .int .i64 c] G Es (WR bb encWZ (rAddA [] l m c B)) := by
  obtain ⟨a1, c1, rfl, hl1, hl2, hrow⟩ := hv
  obtain ⟨a2, c2, rfl, hl3, hl4, hrow2⟩ := hw
  obtain ⟨e0, e1, e2, e3, rfl⟩ := hb.es
  refine acalls mixed k_ring_add_int (by simp) fun F => ?_
  simp only [GV, frArgs, memArgs, resV, fillL, ← Bool.decide_or, ← Bool.decide_and, ← decide_not, ↓reduceIte, Nat.reduceEqDiff, Nat.reduceAdd, Nat.reduceMul, Nat.reduceLeDiff, Nat.reduceLT, Nat.reduceSub, Nat.succ_ne_zero, Nat.one_ne_zero, Nat.zero_ne_one, true_implies, false_implies, forall_const, implies_true, reduceCtorEq, eq_self, ite_true, ite_false, decide_true, decide_false, Nat.le_refl, Bool.false_eq_true, if_true, if_false, rg]
  refine loop_intro (fun n fr G' M => ∃ (i : Nat) (cr : Int) (acc : List Int) (vo : Value) (es : List Ent) (B' : Bd) (e0 e1 e2 e3 : List Ent), n = l.length - i ∧ i ≤ l.length ∧ acc.length = i ∧ rAddA [] l m c B = rAddA acc (l.drop i) (m.drop i) cr B' ∧ BoardM G' bb B' [e0, e1, e2, e3] ∧ B'.p ≠ 0 ∧
      GLe G G' ∧ OwnS G' 3 1 vo (encI .i64 acc).flatten es ∧
      fr = [(0, true, .iface 115 (wv bb)), (2, true, .slice a2 m.length c2), (3, true, .int .i64 cr), (10, true, vo), (16, true, .slice a1 l.length c1), (17, true, .int .i64 l.length), (18, true, .int .i64 i)] ∧
      M = [(0, e0), (1, e1), (2, e2), (3, e3), (110, es), (1000000, F)]) l.length ⟨0, c, [], _, [], B, e0, e1, e2, e3, by simp, by simp, rfl, by simp, hb, hp, GLe.refl _, OwnS.nil _ _ _, rfl, rfl⟩ ?_
  clear hb hp
  rintro n fr G1 M - ⟨i, cr, acc, vo, es, B1, e0, e1, e2, e3, rfl, hi, hacc, hmod, hb, hp, hg0, hown, rfl, rfl⟩
  simp only [GV, frArgs, memArgs, resV, fillL, ← Bool.decide_or, ← Bool.decide_and, ← decide_not, ↓reduceIte, Nat.reduceEqDiff, Nat.reduceAdd, Nat.reduceMul, Nat.reduceLeDiff, Nat.reduceLT, Nat.reduceSub, Nat.succ_ne_zero, Nat.one_ne_zero, Nat.zero_ne_one, true_implies, false_implies, forall_const, implies_true, reduceCtorEq, eq_self, ite_true, ite_false, decide_true, decide_false, Nat.le_refl, Bool.false_eq_true, if_true, if_false]
  refine cond_dec (fun h => ?_) (fun h => ?_)
  · have hlt : i < l.length := by omega
    have hlt' : i < m.length := by omega
    obtain ⟨b, o, rfl, hx⟩ := RowI.get hrow hlt
    obtain ⟨b', o', rfl, hx'⟩ := RowI.get hrow2 hlt'
    have hxa := hg0 _ _ _ hx
    have hxb := hg0 _ _ _ hx'
    rw [List.drop_eq_getElem_cons hlt, List.drop_eq_getElem_cons hlt', rAddA] at hmod
    simp only [GV, frArgs, memArgs, resV, fillL, ← Bool.decide_or, ← Bool.decide_and, ← decide_not, ↓reduceIte, Nat.reduceEqDiff, Nat.reduceAdd, Nat.reduceMul, Nat.reduceLeDiff, Nat.reduceLT, Nat.reduceSub, Nat.succ_ne_zero, Nat.one_ne_zero, Nat.zero_ne_one, true_implies, false_implies, forall_const, implies_true, reduceCtorEq, eq_self, ite_true, ite_false, decide_true, decide_false, Nat.le_refl, Bool.false_eq_true, if_true, if_false, hxa, hxb, Nat.mul_one, nil_Less, nil_Sum, nil_Prod]
    refine ⟨by omega, by omega, ?_⟩
    refine wcall (meth_Prod _) rfl (c_wProd hb hp) ?_ ?_
    · rintro k1 B1 v G1 e0 e1 e2 e3 hg hr1 rfl hb hp
      replace hown := hown.mono hg
      replace hg0 := hg0.trans hg
      replace hxb := hg _ _ _ hxb
      simp only [GV, frArgs, memArgs, resV, fillL, ← Bool.decide_or, ← Bool.decide_and, ← decide_not, ↓reduceIte, Nat.reduceEqDiff, Nat.reduceAdd, Nat.reduceMul, Nat.reduceLeDiff, Nat.reduceLT, Nat.reduceSub, Nat.succ_ne_zero, Nat.one_ne_zero, Nat.zero_ne_one, true_implies, false_implies, forall_const, implies_true, reduceCtorEq, eq_self, ite_true, ite_false, decide_true, decide_false, Nat.le_refl, Bool.false_eq_true, if_true, if_false, hxb, Nat.mul_one, nil_Less, nil_Sum, nil_Prod]
      refine ⟨by omega, ?_⟩
      refine wcall (meth_Sum _) rfl (c_wSum hb hp) ?_ ?_
      · rintro k2 B1 v G1 e0 e1 e2 e3 hg hr2 rfl hb hp
        replace hown := hown.mono hg
        replace hg0 := hg0.trans hg
        replace hxb := hg _ _ _ hxb
        simp only [GV, frArgs, memArgs, resV, fillL, ← Bool.decide_or, ← Bool.decide_and, ← decide_not, ↓reduceIte, Nat.reduceEqDiff, Nat.reduceAdd, Nat.reduceMul, Nat.reduceLeDiff, Nat.reduceLT, Nat.reduceSub, Nat.succ_ne_zero, Nat.one_ne_zero, Nat.zero_ne_one, true_implies, false_implies, forall_const, implies_true, reduceCtorEq, eq_self, ite_true, ite_false, decide_true, decide_false, Nat.le_refl, Bool.false_eq_true, if_true, if_false, hxb, Nat.mul_one, nil_Less, nil_Sum, nil_Prod]
        refine wcall (meth_Sum _) rfl (c_wSum hb hp) ?_ ?_
        · rintro k3 B1 v G1 e0 e1 e2 e3 hg hr3 rfl hb hp
          replace hown := hown.mono hg
          replace hg0 := hg0.trans hg
          replace hxb := hg _ _ _ hxb
          simp only [GV, frArgs, memArgs, resV, fillL, ← Bool.decide_or, ← Bool.decide_and, ← decide_not, ↓reduceIte, Nat.reduceEqDiff, Nat.reduceAdd, Nat.reduceMul, Nat.reduceLeDiff, Nat.reduceLT, Nat.reduceSub, Nat.succ_ne_zero, Nat.one_ne_zero, Nat.zero_ne_one, true_implies, false_implies, forall_const, implies_true, reduceCtorEq, eq_self, ite_true, ite_false, decide_true, decide_false, Nat.le_refl, Bool.false_eq_true, if_true, if_false, hxb, Nat.mul_one, nil_Less, nil_Sum, nil_Prod]
          refine wcall (meth_Less _) rfl (c_wLess hb hp) ?_ ?_
          · rintro k4 B1 v G1 e0 e1 e2 e3 hg hr4 rfl hb hp
            replace hown := hown.mono hg
            replace hg0 := hg0.trans hg
            replace hxb := hg _ _ _ hxb
            simp only [GV, frArgs, memArgs, resV, fillL, ← Bool.decide_or, ← Bool.decide_and, ← decide_not, ↓reduceIte, Nat.reduceEqDiff, Nat.reduceAdd, Nat.reduceMul, Nat.reduceLeDiff, Nat.reduceLT, Nat.reduceSub, Nat.succ_ne_zero, Nat.one_ne_zero, Nat.zero_ne_one, true_implies, false_implies, forall_const, implies_true, reduceCtorEq, eq_self, ite_true, ite_false, decide_true, decide_false, Nat.le_refl, Bool.false_eq_true, if_true, if_false, hxb, Nat.mul_one, nil_Less, nil_Sum, nil_Prod]
            refine wcall (meth_Prod _) rfl (c_wProd hb hp) ?_ ?_
            · rintro k5 B1 v G1 e0 e1 e2 e3 hg hr5 rfl hb hp
              replace hown := hown.mono hg
              replace hg0 := hg0.trans hg
              replace hxb := hg _ _ _ hxb
              simp only [GV, frArgs, memArgs, resV, fillL, ← Bool.decide_or, ← Bool.decide_and, ← decide_not, ↓reduceIte, Nat.reduceEqDiff, Nat.reduceAdd, Nat.reduceMul, Nat.reduceLeDiff, Nat.reduceLT, Nat.reduceSub, Nat.succ_ne_zero, Nat.one_ne_zero, Nat.zero_ne_one, true_implies, false_implies, forall_const, implies_true, reduceCtorEq, eq_self, ite_true, ite_false, decide_true, decide_false, Nat.le_refl, Bool.false_eq_true, if_true, if_false, hxb, Nat.mul_one, nil_Less, nil_Sum, nil_Prod]
              refine wcall (meth_Sum _) rfl (c_wSum hb hp) ?_ ?_
              · rintro k6 B1 v G1 e0 e1 e2 e3 hg hr6 rfl hb hp
                replace hown := hown.mono hg
                replace hg0 := hg0.trans hg
                replace hxb := hg _ _ _ hxb
                simp only [GV, frArgs, memArgs, resV, fillL, ← Bool.decide_or, ← Bool.decide_and, ← decide_not, ↓reduceIte, Nat.reduceEqDiff, Nat.reduceAdd, Nat.reduceMul, Nat.reduceLeDiff, Nat.reduceLT, Nat.reduceSub, Nat.succ_ne_zero, Nat.one_ne_zero, Nat.zero_ne_one, true_implies, false_implies, forall_const, implies_true, reduceCtorEq, eq_self, ite_true, ite_false, decide_true, decide_false, Nat.le_refl, Bool.false_eq_true, if_true, if_false, hxb, Nat.mul_one, nil_Less, nil_Sum, nil_Prod]
                refine wcall (meth_Sum _) rfl (c_wSum hb hp) ?_ ?_
                · rintro k7 B1 v G1 e0 e1 e2 e3 hg hr7 rfl hb hp
                  replace hown := hown.mono hg
                  replace hg0 := hg0.trans hg
                  replace hxb := hg _ _ _ hxb
                  simp only [GV, frArgs, memArgs, resV, fillL, ← Bool.decide_or, ← Bool.decide_and, ← decide_not, ↓reduceIte, Nat.reduceEqDiff, Nat.reduceAdd, Nat.reduceMul, Nat.reduceLeDiff, Nat.reduceLT, Nat.reduceSub, Nat.succ_ne_zero, Nat.one_ne_zero, Nat.zero_ne_one, true_implies, false_implies, forall_const, implies_true, reduceCtorEq, eq_self, ite_true, ite_false, decide_true, decide_false, Nat.le_refl, Bool.false_eq_true, if_true, if_false, hxb, Nat.mul_one, nil_Less, nil_Sum, nil_Prod]
                  refine wcall (meth_Less _) rfl (c_wLess hb hp) ?_ ?_
                  · rintro k8 B1 v G1 e0 e1 e2 e3 hg hr8 rfl hb hp
                    replace hown := hown.mono hg
                    replace hg0 := hg0.trans hg
                    replace hxb := hg _ _ _ hxb
                    simp only [GV, frArgs, memArgs, resV, fillL, ← Bool.decide_or, ← Bool.decide_and, ← decide_not, ↓reduceIte, Nat.reduceEqDiff, Nat.reduceAdd, Nat.reduceMul, Nat.reduceLeDiff, Nat.reduceLT, Nat.reduceSub, Nat.succ_ne_zero, Nat.one_ne_zero, Nat.zero_ne_one, true_implies, false_implies, forall_const, implies_true, reduceCtorEq, eq_self, ite_true, ite_false, decide_true, decide_false, Nat.le_refl, Bool.false_eq_true, if_true, if_false, hxb, Nat.mul_one, nil_Less, nil_Sum, nil_Prod]
                    refine bsl_intro fun b5 G2 hg2 hc5 => ?_
                    simp only [GV, frArgs, memArgs, resV, fillL, ← Bool.decide_or, ← Bool.decide_and, ← decide_not, ↓reduceIte, Nat.reduceEqDiff, Nat.reduceAdd, Nat.reduceMul, Nat.reduceLeDiff, Nat.reduceLT, Nat.reduceSub, Nat.succ_ne_zero, Nat.one_ne_zero, Nat.zero_ne_one, true_implies, false_implies, forall_const, implies_true, reduceCtorEq, eq_self, ite_true, ite_false, decide_true, decide_false, Nat.le_refl, Bool.false_eq_true, if_true, if_false]
                    refine app_moreN rfl (hown.mono hg2) (encI_len _ _) (row_one hc5 rfl) rfl (int_one k8) (by rw [encI_length]; omega) (fun v' es' G3 hg3 ho => ?_)
                    replace ho := own_more ho
                    replace hg0 := hg0.trans (hg2.trans hg3)
                    replace hb := hb.mono (hg2.trans hg3)
                    simp only [GV, frArgs, memArgs, resV, fillL, ← Bool.decide_or, ← Bool.decide_and, ← decide_not, ↓reduceIte, Nat.reduceEqDiff, Nat.reduceAdd, Nat.reduceMul, Nat.reduceLeDiff, Nat.reduceLT, Nat.reduceSub, Nat.succ_ne_zero, Nat.one_ne_zero, Nat.zero_ne_one, true_implies, false_implies, forall_const, implies_true, reduceCtorEq, eq_self, ite_true, ite_false, decide_true, decide_false, Nat.le_refl, Bool.false_eq_true, if_true, if_false]
                    refine wcall (meth_Sum _) rfl (c_wSum hb hp) ?_ ?_
                    · rintro k9 B1 v G4 e0 e1 e2 e3 hg4 hr9 rfl hb hp
                      simp only [GV, frArgs, memArgs, resV, fillL, ← Bool.decide_or, ← Bool.decide_and, ← decide_not, ↓reduceIte, Nat.reduceEqDiff, Nat.reduceAdd, Nat.reduceMul, Nat.reduceLeDiff, Nat.reduceLT, Nat.reduceSub, Nat.succ_ne_zero, Nat.one_ne_zero, Nat.zero_ne_one, true_implies, false_implies, forall_const, implies_true, reduceCtorEq, eq_self, ite_true, ite_false, decide_true, decide_false, Nat.le_refl, Bool.false_eq_true, if_true, if_false, wrapn (show i < maxLen by omega)]
                      refine ⟨l.length - (i + 1), by omega, i + 1, k9, acc ++ [k8], v', es', B1, e0, e1, e2, e3, rfl, by omega, by simp [hacc], ?_, hb, hp, hg0.trans hg4, ho.mono hg4, rfl, rfl⟩
                      rw [hmod]; simp only [Rm.bind, hr1, hr2, hr3, hr4, hr5, hr6, hr7, hr8, hr9]
                    · rintro e B1 G4 e0 e1 e2 e3 hg4 hr9 hb hp
                      simp only [GV, frArgs, memArgs, resV, fillL, ← Bool.decide_or, ← Bool.decide_and, ← decide_not, ↓reduceIte, Nat.reduceEqDiff, Nat.reduceAdd, Nat.reduceMul, Nat.reduceLeDiff, Nat.reduceLT, Nat.reduceSub, Nat.succ_ne_zero, Nat.one_ne_zero, Nat.zero_ne_one, true_implies, false_implies, forall_const, implies_true, reduceCtorEq, eq_self, ite_true, ite_false, decide_true, decide_false, Nat.le_refl, Bool.false_eq_true, if_true, if_false]
                      exact WR.bad (by rw [hmod]; simp only [Rm.bind, hr1, hr2, hr3, hr4, hr5, hr6, hr7, hr8, hr9]) hb hp
                  · rintro e B1 G1 e0 e1 e2 e3 hg hr8 hb hp
                    simp only [GV, frArgs, memArgs, resV, fillL, ← Bool.decide_or, ← Bool.decide_and, ← decide_not, ↓reduceIte, Nat.reduceEqDiff, Nat.reduceAdd, Nat.reduceMul, Nat.reduceLeDiff, Nat.reduceLT, Nat.reduceSub, Nat.succ_ne_zero, Nat.one_ne_zero, Nat.zero_ne_one, true_implies, false_implies, forall_const, implies_true, reduceCtorEq, eq_self, ite_true, ite_false, decide_true, decide_false, Nat.le_refl, Bool.false_eq_true, if_true, if_false]
                    exact WR.bad (by rw [hmod]; simp only [Rm.bind, hr1, hr2, hr3, hr4, hr5, hr6, hr7, hr8]) hb hp
                · rintro e B1 G1 e0 e1 e2 e3 hg hr7 hb hp
                  simp only [GV, frArgs, memArgs, resV, fillL, ← Bool.decide_or, ← Bool.decide_and, ← decide_not, ↓reduceIte, Nat.reduceEqDiff, Nat.reduceAdd, Nat.reduceMul, Nat.reduceLeDiff, Nat.reduceLT, Nat.reduceSub, Nat.succ_ne_zero, Nat.one_ne_zero, Nat.zero_ne_one, true_implies, false_implies, forall_const, implies_true, reduceCtorEq, eq_self, ite_true, ite_false, decide_true, decide_false, Nat.le_refl, Bool.false_eq_true, if_true, if_false]
                  exact WR.bad (by rw [hmod]; simp only [Rm.bind, hr1, hr2, hr3, hr4, hr5, hr6, hr7]) hb hp
              · rintro e B1 G1 e0 e1 e2 e3 hg hr6 hb hp
                simp only [GV, frArgs, memArgs, resV, fillL, ← Bool.decide_or, ← Bool.decide_and, ← decide_not, ↓reduceIte, Nat.reduceEqDiff, Nat.reduceAdd, Nat.reduceMul, Nat.reduceLeDiff, Nat.reduceLT, Nat.reduceSub, Nat.succ_ne_zero, Nat.one_ne_zero, Nat.zero_ne_one, true_implies, false_implies, forall_const, implies_true, reduceCtorEq, eq_self, ite_true, ite_false, decide_true, decide_false, Nat.le_refl, Bool.false_eq_true, if_true, if_false]
                exact WR.bad (by rw [hmod]; simp only [Rm.bind, hr1, hr2, hr3, hr4, hr5, hr6]) hb hp
            · rintro e B1 G1 e0 e1 e2 e3 hg hr5 hb hp
              simp only [GV, frArgs, memArgs, resV, fillL, ← Bool.decide_or, ← Bool.decide_and, ← decide_not, ↓reduceIte, Nat.reduceEqDiff, Nat.reduceAdd, Nat.reduceMul, Nat.reduceLeDiff, Nat.reduceLT, Nat.reduceSub, Nat.succ_ne_zero, Nat.one_ne_zero, Nat.zero_ne_one, true_implies, false_implies, forall_const, implies_true, reduceCtorEq, eq_self, ite_true, ite_false, decide_true, decide_false, Nat.le_refl, Bool.false_eq_true, if_true, if_false]
              exact WR.bad (by rw [hmod]; simp only [Rm.bind, hr1, hr2, hr3, hr4, hr5]) hb hp
          · rintro e B1 G1 e0 e1 e2 e3 hg hr4 hb hp
            simp only [GV, frArgs, memArgs, resV, fillL, ← Bool.decide_or, ← Bool.decide_and, ← decide_not, ↓reduceIte, Nat.reduceEqDiff, Nat.reduceAdd, Nat.reduceMul, Nat.reduceLeDiff, Nat.reduceLT, Nat.reduceSub, Nat.succ_ne_zero, Nat.one_ne_zero, Nat.zero_ne_one, true_implies, false_implies, forall_const, implies_true, reduceCtorEq, eq_self, ite_true, ite_false, decide_true, decide_false, Nat.le_refl, Bool.false_eq_true, if_true, if_false]
            exact WR.bad (by rw [hmod]; simp only [Rm.bind, hr1, hr2, hr3, hr4]) hb hp
        · rintro e B1 G1 e0 e1 e2 e3 hg hr3 hb hp
          simp only [GV, frArgs, memArgs, resV, fillL, ← Bool.decide_or, ← Bool.decide_and, ← decide_not, ↓reduceIte, Nat.reduceEqDiff, Nat.reduceAdd, Nat.reduceMul, Nat.reduceLeDiff, Nat.reduceLT, Nat.reduceSub, Nat.succ_ne_zero, Nat.one_ne_zero, Nat.zero_ne_one, true_implies, false_implies, forall_const, implies_true, reduceCtorEq, eq_self, ite_true, ite_false, decide_true, decide_false, Nat.le_refl, Bool.false_eq_true, if_true, if_false]
          exact WR.bad (by rw [hmod]; simp only [Rm.bind, hr1, hr2, hr3]) hb hp
      · rintro e B1 G1 e0 e1 e2 e3 hg hr2 hb hp
        simp only [GV, frArgs, memArgs, resV, fillL, ← Bool.decide_or, ← Bool.decide_and, ← decide_not, ↓reduceIte, Nat.reduceEqDiff, Nat.reduceAdd, Nat.reduceMul, Nat.reduceLeDiff, Nat.reduceLT, Nat.reduceSub, Nat.succ_ne_zero, Nat.one_ne_zero, Nat.zero_ne_one, true_implies, false_implies, forall_const, implies_true, reduceCtorEq, eq_self, ite_true, ite_false, decide_true, decide_false, Nat.le_refl, Bool.false_eq_true, if_true, if_false]
        exact WR.bad (by rw [hmod]; simp only [Rm.bind, hr1, hr2]) hb hp
    · rintro e B1 G1 e0 e1 e2 e3 hg hr1 hb hp
      simp only [GV, frArgs, memArgs, resV, fillL, ← Bool.decide_or, ← Bool.decide_and, ← decide_not, ↓reduceIte, Nat.reduceEqDiff, Nat.reduceAdd, Nat.reduceMul, Nat.reduceLeDiff, Nat.reduceLT, Nat.reduceSub, Nat.succ_ne_zero, Nat.one_ne_zero, Nat.zero_ne_one, true_implies, false_implies, forall_const, implies_true, reduceCtorEq, eq_self, ite_true, ite_false, decide_true, decide_false, Nat.le_refl, Bool.false_eq_true, if_true, if_false]
      exact WR.bad (by rw [hmod]; simp only [Rm.bind, hr1]) hb hp
  · rw [List.drop_eq_nil_of_le (by omega), rAddA_nil acc] at hmod
    obtain ⟨a5, c5, rfl, -⟩ := ownS_slI hown
    simp only [GV, frArgs, memArgs, resV, fillL, ← Bool.decide_or, ← Bool.decide_and, ← decide_not, ↓reduceIte, Nat.reduceEqDiff, Nat.reduceAdd, Nat.reduceMul, Nat.reduceLeDiff, Nat.reduceLT, Nat.reduceSub, Nat.succ_ne_zero, Nat.one_ne_zero, Nat.zero_ne_one, true_implies, false_implies, forall_const, implies_true, reduceCtorEq, eq_self, ite_true, ite_false, decide_true, decide_false, Nat.le_refl, Bool.false_eq_true, if_true, if_false]
    exact WR.ok hmod ⟨_, rfl, ownS_slI hown⟩ hb hp
end Go.Gv.W
