/-
  Words as rings have them: products. No condition.
-/
import Derived.Test.YtokidokmcbkodaaGvW17
namespace Go.Gv.W
set_option linter.unusedSimpArgs false
set_option linter.unusedVariables false
set_option linter.unusedSectionVars false
open Go.RowKit Go.Proofs

/-- junto/ring.Times[int] -/
def r_ring_Times_int : RFn := ⟨64,
  .ghost 110 <|
  .ghost 111 <|
  .seq (.reg [] [
    ⟨(some 6), none, .mv (.c (.slice none 0 0))⟩]) <|
  .keep [0, 1, 2] <|
  .seq (.reg [] [
    ⟨(some 7), none, .mv (.c (.slice none 0 0))⟩]) <|
  .keep [0, 1, 2, 7] <|
  .seq (.seq (.reg [] [
    ⟨(some 15), none, .mv (.t 2)⟩,
    ⟨(some 16), none, .len (.t 15)⟩,
    ⟨(some 17), none, .mv (.c (.int .i64 0))⟩]) <|
  .keep [0, 1, 7, 15, 16, 17] <|
  .block 0 <|
  .loop [0, 1, 7, 15, 16, 17] [0, 1, 2, 3, 110, 111, 1000000] <|
  .seq (.reg [] [
    ⟨(some 18), none, .bin .lss (.t 17) (.t 16)⟩]) <|
  .keep [0, 1, 7, 15, 16, 17, 18] <|
  .seq (.cond (.t 18)
    (.skip)
    (.exit 0)) <|
  .keep [0, 1, 7, 15, 16, 17] <|
  .seq (.block 1 <|
  .seq (.reg [] [
    ⟨(some 19), none, .mv (.t 17)⟩,
    ⟨(some 20), none, .iad 1 (.t 15) (.t 17)⟩,
    ⟨(some 21), none, .ld none none (.t 20)⟩,
    ⟨(some 8), none, .mv (.t 19)⟩,
    ⟨(some 9), none, .mv (.t 21)⟩]) <|
  .keep [0, 1, 7, 8, 9, 15, 16, 17] <|
  .seq (.ghost 110 <|
  .reg [] [
    ⟨(some 10), none, .mv (.c (.slice none 0 0))⟩]) <|
  .keep [0, 1, 7, 8, 9, 10, 15, 16, 17] <|
  .seq (.seq (.reg [] [
    ⟨(some 22), none, .mv (.t 1)⟩,
    ⟨(some 23), none, .mv (.t 1)⟩,
    ⟨(some 24), none, .len (.t 23)⟩,
    ⟨(some 25), none, .mv (.t 8)⟩,
    ⟨(some 26), none, .bin .sub (.t 24) (.t 25)⟩,
    ⟨(some 27), none, .sl 1 (.t 22) none (some (.t 26)) none⟩,
    ⟨(some 28), none, .len (.t 27)⟩,
    ⟨(some 29), none, .mv (.c (.int .i64 0))⟩]) <|
  .keep [0, 1, 7, 8, 9, 10, 15, 16, 17, 27, 28, 29] <|
  .block 2 <|
  .loop [0, 1, 7, 8, 9, 10, 15, 16, 17, 27, 28, 29] [0, 1, 2, 3, 110, 111, 1000000] <|
  .seq (.reg [] [
    ⟨(some 30), none, .bin .lss (.t 29) (.t 28)⟩]) <|
  .keep [0, 1, 7, 8, 9, 10, 15, 16, 17, 27, 28, 29, 30] <|
  .seq (.cond (.t 30)
    (.skip)
    (.exit 2)) <|
  .keep [0, 1, 7, 8, 9, 10, 15, 16, 17, 27, 28, 29] <|
  .seq (.block 3 <|
  .seq (.reg [] [
    ⟨(some 31), none, .iad 1 (.t 27) (.t 29)⟩,
    ⟨(some 32), none, .ld none none (.t 31)⟩,
    ⟨(some 12), none, .mv (.t 32)⟩]) <|
  .keep [0, 1, 7, 8, 9, 10, 12, 15, 16, 17, 27, 28, 29] <|
  .reg [] [
    ⟨(some 33), none, .mv (.t 10)⟩,
    ⟨(some 34), none, .mv (.t 0)⟩,
    ⟨(some 35), none, .mv (.t 12)⟩,
    ⟨(some 36), none, .mv (.t 9)⟩,
    ⟨(some 37), none, .calli [0, 1, 2, 3] [0, 1, 2, 3] (.t 34) "Product" [(.t 35), (.t 36)]⟩,
    ⟨(some 38), none, .bsl none 3 1 1 [(.int .i64 0)] [(0, 1)] [(0, (.t 37))]⟩,
    ⟨(some 39), none, .app (some 110) 110 3 1 8 (.t 33) (.t 38)⟩,
    ⟨(some 10), none, .mv (.t 39)⟩]) <|
  .keep [0, 1, 7, 8, 9, 10, 15, 16, 17, 27, 28, 29] <|
  .reg [] [
    ⟨(some 40), none, .bin .add (.t 29) (.c (.int .i64 1))⟩,
    ⟨(some 29), none, .mv (.t 40)⟩]) <|
  .keep [0, 1, 7, 8, 10, 15, 16, 17] <|
  .seq (.seq (.reg [] [
    ⟨(some 41), none, .mv (.t 8)⟩,
    ⟨(some 42), none, .bin .eql (.t 41) (.c (.int .i64 0))⟩]) <|
  .keep [0, 1, 7, 8, 10, 15, 16, 17, 42] <|
  .cond (.t 42)
    (.seq (.reg [] [
      ⟨(some 43), none, .mv (.t 10)⟩,
      ⟨(some 7), none, .mv (.t 43)⟩]) <|
    .exit 1)
    (.skip)) <|
  .keep [0, 1, 7, 8, 10, 15, 16, 17] <|
  .seq (.dreg [] <|
    .take 0 ⟨(some 45), none, .mv (.t 0)⟩ <|
    .take 1 ⟨(some 46), none, .mv (.t 7)⟩ <|
    .take 2 ⟨(some 47), none, .mv (.t 8)⟩ <|
    .take 3 ⟨(some 48), none, .sl 1 (.t 46) (some (.t 47)) none none⟩ <|
    .take 4 ⟨(some 49), none, .mv (.t 10)⟩ <|
    .exec [] 5 ⟨(some 50), none, .mv (.t 0)⟩ <|
    .exec [] 6 ⟨(some 51), none, .calli [0, 1, 2, 3] [0, 1, 2, 3] (.t 50) "Fixed" [(.c (.int .u64 0))]⟩ <|
    .exec [] 7 ⟨(some 52), none, .call [0, 1, 2, 3] [0, 1, 2, 3] 67 [(.t 45), (.t 48), (.t 49), (.t 51)]⟩ <|
    .exec [] 8 ⟨(some 44), none, .mv (.t 52)⟩ <|
    .take 9 ⟨(some 53), none, .ext 0 (.t 44)⟩ <|
    .take 10 ⟨(some 54), none, .ext 1 (.t 44)⟩ <|
    .exec [] 11 ⟨(some 13), none, .mv (.t 53)⟩ <|
    .exec [] 12 ⟨(some 14), none, .mv (.t 54)⟩ <|
    .done) <|
  .keep [0, 1, 7, 8, 13, 15, 16, 17] <|
  .reg [] [
    ⟨(some 55), none, .bsl none 3 0 1 [] [] []⟩,
    ⟨(some 56), none, .mv (.t 7)⟩,
    ⟨(some 57), none, .mv (.t 8)⟩,
    ⟨(some 58), none, .sl 1 (.t 56) none (some (.t 57)) none⟩,
    ⟨(some 59), none, .app none 111 3 1 8 (.t 55) (.t 58)⟩,
    ⟨(some 60), none, .mv (.t 13)⟩,
    ⟨(some 61), none, .app (some 111) 111 3 1 8 (.t 59) (.t 60)⟩,
    ⟨(some 7), none, .mv (.t 61)⟩]) <|
  .keep [0, 1, 7, 15, 16, 17] <|
  .reg [] [
    ⟨(some 62), none, .bin .add (.t 17) (.c (.int .i64 1))⟩,
    ⟨(some 17), none, .mv (.t 62)⟩]) <|
  .keep [7] <|
  .seq (.reg [] [
    ⟨(some 63), none, .mv (.t 7)⟩,
    ⟨(some 6), none, .mv (.t 63)⟩]) <|
  .ret,
  [.tmp 6], [0, 1, 2, 3], [0, 1, 2, 3]⟩

theorem k_ring_Times_int : rbFn Try.prog 60 r_ring_Times_int = some r_ring_Times_int := by kernel_rfl


def rPartA : List Int → List Int → Int → Rm (List Int)
  | acc, a :: v, b => .bind (rProd a b) fun o => rPartA (acc ++ [o]) v b
  | acc, [], _ => .pure acc
def rTimesA (v : List Int) : Nat → List Int → List Int → Rm (List Int)
  | i, out, b :: w => .bind (rPartA [] (v.take (v.length - i)) b) fun part =>
      if i = 0 then rTimesA v 1 part w else .bind (rFixed 0) fun z => .bind (rAddA [] (out.drop i) part z) fun x => rTimesA v (i + 1) (out.take i ++ x.1) w
  | _, out, [] => .pure out
def rTimes (v w : List Int) : Rm (List Int) := rTimesA v 0 [] w
theorem part_len : ∀ (v acc : List Int) (b : Int) (B : Bd) (t : List Int) (B' : Bd), rPartA acc v b B = .ok t B' → t.length = acc.length + v.length
  | [], acc, b, B, t, B', h => by
    simp only [rPartA, Rm.pure, Res.ok.injEq] at h
    rw [← h.1]; rfl
  | a :: v, acc, b, B, t, B', h => by
    simp only [rPartA, Rm.bind] at h
    split at h
    · rw [part_len v _ _ _ _ _ h]; simp; omega
    · cases h
theorem add_len : ∀ (v w acc : List Int) (c : Int) (B : Bd) (t : List Int × Int) (B' : Bd), v.length = w.length → rAddA acc v w c B = .ok t B' → t.1.length = acc.length + v.length
  | [], w, acc, c, B, t, B', _, h => by
    rw [rAddA_nil] at h
    simp only [Rm.pure, Res.ok.injEq] at h
    rw [← h.1]; rfl
  | a :: v, [], acc, c, B, t, B', hl, h => by simp at hl
  | a :: v, b :: w, acc, c, B, t, B', hl, h => by
    simp only [rAddA, Rm.bind] at h
    repeat' split at h
    all_goals first
      | (rw [add_len v w _ _ _ _ _ (by simpa using hl) h]; simp; omega)
      | cases h
theorem SlI.take {G : GH} {k : IntKind} {a : Option Addr} {c : Nat} {l : List Int} {n : Nat} (h : SlI G k (.slice a n c) l) {i : Nat} (hi : i ≤ l.length) : SlI G k (.slice a i c) (l.take i) := by
  obtain ⟨a', c', e, h1, h2, h3⟩ := h
  cases e
  refine ⟨a, c, by rw [List.length_take_of_le hi], by rw [List.length_take_of_le hi]; omega, h2, ?_⟩
  obtain ⟨h4, h5⟩ := h3
  refine ⟨encI_len _ _, ?_⟩
  split at h5
  · intro j v hj
    refine h5 j v ?_
    have e : encI k l = encI k (l.take i) ++ encI k (l.drop i) := by rw [← encI_append, List.take_append_drop]
    rw [e, List.flatten_append, List.getElem?_append_left (List.getElem?_eq_some_iff.1 hj).1]; exact hj
  · have : l = [] := by simpa [encI] using h5
    subst this; simp [encI]
theorem SlI.drop {G : GH} {k : IntKind} {b o c n : Nat} {l : List Int} (h : SlI G k (.slice (some ⟨b, o, none⟩) n c) l) {i : Nat} (hi : i ≤ l.length) : SlI G k (.slice (some ⟨b, o + i, none⟩) (l.length - i) (c - i)) (l.drop i) := by
  obtain ⟨a', c', e, h1, h2, h3⟩ := h
  cases e
  refine ⟨_, _, by rw [List.length_drop], by rw [List.length_drop]; omega, by omega, encI_len _ _, ?_⟩
  intro j v hj
  rw [Nat.add_assoc]
  refine h3.2 (i + j) v ?_
  have e : encI k l = encI k (l.take i) ++ encI k (l.drop i) := by rw [← encI_append, List.take_append_drop]
  have hl : (encI k (l.take i)).flatten.length = i := by
    rw [flatten_length (sz := 1) (encI_len _ _), encI_length, List.length_take_of_le hi]; omega
  rw [e, List.flatten_append, List.getElem?_append_right (by omega), hl, Nat.add_sub_cancel_left]; exact hj

set_option maxHeartbeats 2000000 in
set_option maxRecDepth 20000 in
theorem c_rTimes {G : GH} {bb : Nat} {B : Bd} {Es : List (List Ent)} {v w : Value} {l m : List Int} (hb : BoardM G bb B Es) (hp : B.p ≠ 0) (hv : SlI G .i64 v l) (hw : SlI G .i64 w m) (hlm : l.length = m.length) (hmax : l.length ≤ 65536) :
    ACalls Try.prog 60 [rg bb, v, w] G Es (WR bb encW (rTimes l m B)) := by
  obtain ⟨a1, c1, rfl, hl1, hl2, hrow⟩ := hv
  obtain ⟨a2, c2, rfl, hl3, hl4, hrow2⟩ := hw
  obtain ⟨e0, e1, e2, e3, rfl⟩ := hb.es
  refine acalls mixed k_ring_Times_int (by simp) fun F => ?_
  simp only [GV, frArgs, memArgs, resV, fillL, ← Bool.decide_or, ← Bool.decide_and, ← decide_not, ↓reduceIte, Nat.reduceEqDiff, Nat.reduceAdd, Nat.reduceMul, Nat.reduceLeDiff, Nat.reduceLT, Nat.reduceSub, Nat.succ_ne_zero, Nat.one_ne_zero, Nat.zero_ne_one, true_implies, false_implies, forall_const, implies_true, reduceCtorEq, eq_self, ite_true, ite_false, decide_true, decide_false, Nat.le_refl, Bool.false_eq_true, if_true, if_false, rg]
  refine loop_intro (fun n fr G' M => ∃ (i : Nat) (out : List Int) (vo : Value) (es es' : List Ent) (B' : Bd) (e0 e1 e2 e3 : List Ent), n = m.length - i ∧ i ≤ m.length ∧ (i ≠ 0 → out.length = l.length) ∧ rTimes l m B = rTimesA l i out (m.drop i) B' ∧ BoardM G' bb B' [e0, e1, e2, e3] ∧ B'.p ≠ 0 ∧
      GLe G G' ∧ SlI G' .i64 vo out ∧
      fr = [(0, true, .iface 115 (wv bb)), (1, true, .slice a1 l.length c1), (7, true, vo), (15, true, .slice a2 m.length c2), (16, true, .int .i64 m.length), (17, true, .int .i64 i)] ∧
      M = [(0, e0), (1, e1), (2, e2), (3, e3), (110, es), (111, es'), (1000000, F)]) m.length ⟨0, [], _, [], [], B, e0, e1, e2, e3, by simp, by simp, by simp, by simp [rTimes], hb, hp, GLe.refl _, slI_nil, rfl, rfl⟩ ?_
  clear hb hp
  rintro n fr G1 M - ⟨i, out, vo, es, es', B1, e0, e1, e2, e3, rfl, hi, hout, hmod, hb, hp, hg0, hvo, rfl, rfl⟩
  have hvo0 := hvo
  obtain ⟨ao, co, rfl, -⟩ := hvo0
  simp only [GV, frArgs, memArgs, resV, fillL, ← Bool.decide_or, ← Bool.decide_and, ← decide_not, ↓reduceIte, Nat.reduceEqDiff, Nat.reduceAdd, Nat.reduceMul, Nat.reduceLeDiff, Nat.reduceLT, Nat.reduceSub, Nat.succ_ne_zero, Nat.one_ne_zero, Nat.zero_ne_one, true_implies, false_implies, forall_const, implies_true, reduceCtorEq, eq_self, ite_true, ite_false, decide_true, decide_false, Nat.le_refl, Bool.false_eq_true, if_true, if_false]
  refine cond_dec (fun h => ?_) (fun h => ?_)
  · have hlt : i < m.length := by omega
    obtain ⟨b, o, rfl, hx⟩ := RowI.get hrow2 hlt
    have hxa := hg0 _ _ _ hx
    rw [List.drop_eq_getElem_cons hlt, rTimesA] at hmod
    have hsub : IntKind.i64.wrap ((l.length : Nat) - (i : Nat) : Int) = ((l.length - i : Nat) : Int) := by rw [wrap64] <;> omega
    simp only [GV, frArgs, memArgs, resV, fillL, ← Bool.decide_or, ← Bool.decide_and, ← decide_not, ↓reduceIte, Nat.reduceEqDiff, Nat.reduceAdd, Nat.reduceMul, Nat.reduceLeDiff, Nat.reduceLT, Nat.reduceSub, Nat.succ_ne_zero, Nat.one_ne_zero, Nat.zero_ne_one, true_implies, false_implies, forall_const, implies_true, reduceCtorEq, eq_self, ite_true, ite_false, decide_true, decide_false, Nat.le_refl, Bool.false_eq_true, if_true, if_false, hxa, hsub, Nat.mul_one]
    repeat refine ⟨by omega, ?_⟩
    have hvp : SlI G .i64 (.slice a1 (l.length - i) c1) (l.take (l.length - i)) := SlI.take (n := l.length) ⟨a1, c1, rfl, hl1, hl2, hrow⟩ (by omega)
    have htl : (l.take (l.length - i)).length = l.length - i := List.length_take_of_le (by omega)
    generalize hpl : l.take (l.length - i) = pl at hvp htl hmod
    obtain ⟨a6, c6, e6, hp1, hp2, hrow6⟩ := hvp
    rw [htl] at e6 hp1
    cases e6
    refine loop_intro (fun n fr G' M => ∃ (j : Nat) (acc : List Int) (vp : Value) (es2 : List Ent) (B' : Bd) (e0 e1 e2 e3 : List Ent), n = l.length - i - j ∧ j ≤ l.length - i ∧ acc.length = j ∧ rPartA [] pl m[i] B1 = rPartA acc (pl.drop j) m[i] B' ∧ BoardM G' bb B' [e0, e1, e2, e3] ∧ B'.p ≠ 0 ∧
        GLe G1 G' ∧ OwnS G' 3 1 vp (encI .i64 acc).flatten es2 ∧
        fr = [(0, true, .iface 115 (wv bb)), (1, true, .slice a1 l.length c1), (7, true, .slice ao out.length co), (8, true, .int .i64 i), (9, true, .int .i64 m[i]), (10, true, vp), (15, true, .slice (some ⟨b, o, none⟩) m.length c2), (16, true, .int .i64 m.length), (17, true, .int .i64 i),
          (27, true, .slice a1 (l.length - i) c1), (28, true, .int .i64 (l.length - i : Nat)), (29, true, .int .i64 j)] ∧
        M = [(0, e0), (1, e1), (2, e2), (3, e3), (110, es2), (111, es'), (1000000, F)]) (l.length - i) ⟨0, [], _, [], B1, e0, e1, e2, e3, by simp, by simp, rfl, by simp, hb, hp, GLe.refl _, OwnS.nil _ _ _, rfl, rfl⟩ ?_
    clear hb hp
    rintro n fr G2 M - ⟨j, acc, vp, es2, B2, e0, e1, e2, e3, rfl, hj, hacc, hmod2, hb, hp, hg2, hown, rfl, rfl⟩
    simp only [GV, frArgs, memArgs, resV, fillL, ← Bool.decide_or, ← Bool.decide_and, ← decide_not, ↓reduceIte, Nat.reduceEqDiff, Nat.reduceAdd, Nat.reduceMul, Nat.reduceLeDiff, Nat.reduceLT, Nat.reduceSub, Nat.succ_ne_zero, Nat.one_ne_zero, Nat.zero_ne_one, true_implies, false_implies, forall_const, implies_true, reduceCtorEq, eq_self, ite_true, ite_false, decide_true, decide_false, Nat.le_refl, Bool.false_eq_true, if_true, if_false]
    refine cond_dec (fun h8 => ?_) (fun h8 => ?_)
    · have hjl : j < pl.length := by omega
      obtain ⟨b3, o3, rfl, hx3⟩ := RowI.get hrow6 hjl
      have hxc := hg2 _ _ _ (hg0 _ _ _ hx3)
      rw [List.drop_eq_getElem_cons hjl, rPartA] at hmod2
      simp only [GV, frArgs, memArgs, resV, fillL, ← Bool.decide_or, ← Bool.decide_and, ← decide_not, ↓reduceIte, Nat.reduceEqDiff, Nat.reduceAdd, Nat.reduceMul, Nat.reduceLeDiff, Nat.reduceLT, Nat.reduceSub, Nat.succ_ne_zero, Nat.one_ne_zero, Nat.zero_ne_one, true_implies, false_implies, forall_const, implies_true, reduceCtorEq, eq_self, ite_true, ite_false, decide_true, decide_false, Nat.le_refl, Bool.false_eq_true, if_true, if_false, hxc, Nat.mul_one]
      refine ⟨by omega, ?_⟩
      refine wcall (meth_Prod _) rfl (c_wProd hb hp) ?_ ?_
      · rintro k1 B1 v G3 e0 e1 e2 e3 hg3 hr1 rfl hb hp
        simp only [GV, frArgs, memArgs, resV, fillL, ← Bool.decide_or, ← Bool.decide_and, ← decide_not, ↓reduceIte, Nat.reduceEqDiff, Nat.reduceAdd, Nat.reduceMul, Nat.reduceLeDiff, Nat.reduceLT, Nat.reduceSub, Nat.succ_ne_zero, Nat.one_ne_zero, Nat.zero_ne_one, true_implies, false_implies, forall_const, implies_true, reduceCtorEq, eq_self, ite_true, ite_false, decide_true, decide_false, Nat.le_refl, Bool.false_eq_true, if_true, if_false]
        refine bsl_intro fun b5 G4 hg4 hc5 => ?_
        simp only [GV, frArgs, memArgs, resV, fillL, ← Bool.decide_or, ← Bool.decide_and, ← decide_not, ↓reduceIte, Nat.reduceEqDiff, Nat.reduceAdd, Nat.reduceMul, Nat.reduceLeDiff, Nat.reduceLT, Nat.reduceSub, Nat.succ_ne_zero, Nat.one_ne_zero, Nat.zero_ne_one, true_implies, false_implies, forall_const, implies_true, reduceCtorEq, eq_self, ite_true, ite_false, decide_true, decide_false, Nat.le_refl, Bool.false_eq_true, if_true, if_false]
        refine app_moreN rfl (hown.mono (hg3.trans hg4)) (encI_len _ _) (row_one hc5 rfl) rfl (int_one k1) (by rw [encI_length]; omega) (fun v' es' G5 hg5 ho => ?_)
        replace ho := own_more ho
        simp only [GV, frArgs, memArgs, resV, fillL, ← Bool.decide_or, ← Bool.decide_and, ← decide_not, ↓reduceIte, Nat.reduceEqDiff, Nat.reduceAdd, Nat.reduceMul, Nat.reduceLeDiff, Nat.reduceLT, Nat.reduceSub, Nat.succ_ne_zero, Nat.one_ne_zero, Nat.zero_ne_one, true_implies, false_implies, forall_const, implies_true, reduceCtorEq, eq_self, ite_true, ite_false, decide_true, decide_false, Nat.le_refl, Bool.false_eq_true, if_true, if_false, wrapn (show j < maxLen by omega)]
        refine ⟨l.length - i - (j + 1), by omega, j + 1, acc ++ [k1], v', es', B1, e0, e1, e2, e3, rfl, by omega, by simp [hacc], ?_, hb.mono (hg4.trans hg5), hp, hg2.trans (hg3.trans (hg4.trans hg5)), ho, rfl, rfl⟩
        rw [hmod2]; simp only [Rm.bind, hr1]
      · rintro e B1 G3 e0 e1 e2 e3 hg3 hr1 hb hp
        simp only [GV, frArgs, memArgs, resV, fillL, ← Bool.decide_or, ← Bool.decide_and, ← decide_not, ↓reduceIte, Nat.reduceEqDiff, Nat.reduceAdd, Nat.reduceMul, Nat.reduceLeDiff, Nat.reduceLT, Nat.reduceSub, Nat.succ_ne_zero, Nat.one_ne_zero, Nat.zero_ne_one, true_implies, false_implies, forall_const, implies_true, reduceCtorEq, eq_self, ite_true, ite_false, decide_true, decide_false, Nat.le_refl, Bool.false_eq_true, if_true, if_false]
        exact WR.bad (by rw [hmod]; simp only [Rm.bind, hmod2, hr1]) hb hp
    · rw [List.drop_eq_nil_of_le (by omega), rPartA.eq_2 acc] at hmod2
      simp only [Rm.bind, hmod2, Rm.pure] at hmod
      have hvp := ownS_slI hown
      have hvp0 := hvp
      obtain ⟨a7, c7, rfl, -⟩ := hvp0
      have hacl : acc.length = l.length - i := by omega
      simp only [GV, frArgs, memArgs, resV, fillL, ← Bool.decide_or, ← Bool.decide_and, ← decide_not, ↓reduceIte, Nat.reduceEqDiff, Nat.reduceAdd, Nat.reduceMul, Nat.reduceLeDiff, Nat.reduceLT, Nat.reduceSub, Nat.succ_ne_zero, Nat.one_ne_zero, Nat.zero_ne_one, true_implies, false_implies, forall_const, implies_true, reduceCtorEq, eq_self, ite_true, ite_false, decide_true, decide_false, Nat.le_refl, Bool.false_eq_true, if_true, if_false]
      refine cond_dec (fun h9 => ?_) (fun h9 => ?_)
      · have hi0 : i = 0 := by omega
        subst hi0
        rw [if_pos rfl] at hmod
        simp only [GV, frArgs, memArgs, resV, fillL, ← Bool.decide_or, ← Bool.decide_and, ← decide_not, ↓reduceIte, Nat.reduceEqDiff, Nat.reduceAdd, Nat.reduceMul, Nat.reduceLeDiff, Nat.reduceLT, Nat.reduceSub, Nat.succ_ne_zero, Nat.one_ne_zero, Nat.zero_ne_one, true_implies, false_implies, forall_const, implies_true, reduceCtorEq, eq_self, ite_true, ite_false, decide_true, decide_false, Nat.le_refl, Bool.false_eq_true, if_true, if_false, wrapn (show 0 < maxLen by omega)]
        exact ⟨m.length - (0 + 1), by omega, 1, acc, _, es2, es', B2, e0, e1, e2, e3, rfl, by omega, fun _ => by omega, hmod, hb, hp, hg0.trans hg2, hvp, rfl, rfl⟩
      · have hi0 : i ≠ 0 := by omega
        rw [if_neg hi0] at hmod
        have hol := hout hi0
        have hvo2 := hvo.mono hg2
        obtain ⟨bo, oo, rfl⟩ : ∃ bo oo, ao = some ⟨bo, oo, none⟩ := by
          obtain ⟨a8, c8, e8, _, _, h8⟩ := hvo2
          cases e8
          obtain ⟨b8, o8, e9, _⟩ := RowI.get h8 (show 0 < out.length by omega)
          exact ⟨b8, o8, e9⟩
        have hco : out.length ≤ co ∧ co ≤ maxLen := by
          obtain ⟨a8, c8, e8, h10, h11, _⟩ := hvo2
          cases e8; exact ⟨h10, h11⟩
        have hdrop := SlI.drop hvo2 (i := i) (by omega)
        have htake := SlI.take hvo2 (i := i) (by omega)
        simp only [GV, frArgs, memArgs, resV, fillL, ← Bool.decide_or, ← Bool.decide_and, ← decide_not, ↓reduceIte, Nat.reduceEqDiff, Nat.reduceAdd, Nat.reduceMul, Nat.reduceLeDiff, Nat.reduceLT, Nat.reduceSub, Nat.succ_ne_zero, Nat.one_ne_zero, Nat.zero_ne_one, true_implies, false_implies, forall_const, implies_true, reduceCtorEq, eq_self, ite_true, ite_false, decide_true, decide_false, Nat.le_refl, Bool.false_eq_true, if_true, if_false]
        refine ⟨by omega, ?_⟩
        refine wcall (meth_Fixed _) rfl (c_wFixed hb hp) ?_ ?_
        · rintro k1 B3 v G3 e0 e1 e2 e3 hg3 hr1 rfl hb hp
          have hsl : slA (some ⟨bo, oo, none⟩) co i 1 = some ⟨bo, oo + i, none⟩ := by
            rw [slA_some, if_neg (by omega), Nat.mul_one]
          simp only [GV, frArgs, memArgs, resV, fillL, ← Bool.decide_or, ← Bool.decide_and, ← decide_not, ↓reduceIte, Nat.reduceEqDiff, Nat.reduceAdd, Nat.reduceMul, Nat.reduceLeDiff, Nat.reduceLT, Nat.reduceSub, Nat.succ_ne_zero, Nat.one_ne_zero, Nat.zero_ne_one, true_implies, false_implies, forall_const, implies_true, reduceCtorEq, eq_self, ite_true, ite_false, decide_true, decide_false, Nat.le_refl, Bool.false_eq_true, if_true, if_false, hsl]
          have hlen2 : (out.drop i).length = acc.length := by rw [List.length_drop]; omega
          refine wcallf (c_rAdd hb hp (hdrop.mono hg3) (hvp.mono hg3) hlen2 (by omega)) ?_ ?_
          · rintro x B4 v G4 e0 e1 e2 e3 hg4 hr2 ⟨u, rfl, hu⟩ hb hp
            have hxl := add_len _ _ _ _ _ _ _ hlen2 hr2
            obtain ⟨a9, c9, e9, _, _, hrt⟩ := htake.mono (hg3.trans hg4)
            have htl2 : (out.take i).length = i := List.length_take_of_le (by omega)
            rw [htl2] at e9
            cases e9
            have hu0 := hu
            obtain ⟨a10, c10, rfl, hu1, hu2, hru⟩ := hu0
            simp only [GV, frArgs, memArgs, resV, fillL, ← Bool.decide_or, ← Bool.decide_and, ← decide_not, ↓reduceIte, Nat.reduceEqDiff, Nat.reduceAdd, Nat.reduceMul, Nat.reduceLeDiff, Nat.reduceLT, Nat.reduceSub, Nat.succ_ne_zero, Nat.one_ne_zero, Nat.zero_ne_one, true_implies, false_implies, forall_const, implies_true, reduceCtorEq, eq_self, ite_true, ite_false, decide_true, decide_false, Nat.le_refl, Bool.false_eq_true, if_true, if_false]
            refine bsl_intro fun b5 G5 hg5 hc5 => ?_
            simp only [GV, frArgs, memArgs, resV, fillL, ← Bool.decide_or, ← Bool.decide_and, ← decide_not, ↓reduceIte, Nat.reduceEqDiff, Nat.reduceAdd, Nat.reduceMul, Nat.reduceLeDiff, Nat.reduceLT, Nat.reduceSub, Nat.succ_ne_zero, Nat.one_ne_zero, Nat.zero_ne_one, true_implies, false_implies, forall_const, implies_true, reduceCtorEq, eq_self, ite_true, ite_false, decide_true, decide_false, Nat.le_refl, Bool.false_eq_true, if_true, if_false]
            repeat refine ⟨by omega, ?_⟩
            refine app_copyN (hrt.mono hg5) (by rw [encI_length]; omega) (encI_one _ _) (by omega) (by simp only [maxLen]; omega) (fun h0 => ?_) (fun h0 v' es'' G6 hg6 ho => ?_)
            · exfalso
              have := congrArg List.length h0
              rw [encI_length, htl2] at this
              exact hi0 (by simpa using this)
            · simp only [GV, frArgs, memArgs, resV, fillL, ← Bool.decide_or, ← Bool.decide_and, ← decide_not, ↓reduceIte, Nat.reduceEqDiff, Nat.reduceAdd, Nat.reduceMul, Nat.reduceLeDiff, Nat.reduceLT, Nat.reduceSub, Nat.succ_ne_zero, Nat.one_ne_zero, Nat.zero_ne_one, true_implies, false_implies, forall_const, implies_true, reduceCtorEq, eq_self, ite_true, ite_false, decide_true, decide_false, Nat.le_refl, Bool.false_eq_true, if_true, if_false]
              refine app_moreN rfl ho (encI_len _ _) (hru.mono (hg5.trans hg6)) (encI_length _ _) (encI_one _ _) (by rw [encI_length, htl2]; simp at hxl; omega) (fun v3 es3 G7 hg7 ho2 => ?_)
              rw [← encI_append] at ho2
              have ho3 := ownS_slI ho2
              have hol3 : (out.take i ++ x.1).length = l.length := by rw [List.length_append, htl2, hxl, List.length_drop]; simp; omega
              simp only [GV, frArgs, memArgs, resV, fillL, ← Bool.decide_or, ← Bool.decide_and, ← decide_not, ↓reduceIte, Nat.reduceEqDiff, Nat.reduceAdd, Nat.reduceMul, Nat.reduceLeDiff, Nat.reduceLT, Nat.reduceSub, Nat.succ_ne_zero, Nat.one_ne_zero, Nat.zero_ne_one, true_implies, false_implies, forall_const, implies_true, reduceCtorEq, eq_self, ite_true, ite_false, decide_true, decide_false, Nat.le_refl, Bool.false_eq_true, if_true, if_false, wrapn (show i < maxLen by omega)]
              refine ⟨m.length - (i + 1), by omega, i + 1, out.take i ++ x.1, v3, es2, es3, B4, e0, e1, e2, e3, rfl, by omega, fun _ => hol3, ?_, hb.mono (hg5.trans (hg6.trans hg7)), hp, hg0.trans (hg2.trans (hg3.trans (hg4.trans (hg5.trans (hg6.trans hg7))))), ho3, rfl, rfl⟩
              rw [hmod]; simp only [Rm.bind, hr1, hr2]
          · rintro e B4 G4 e0 e1 e2 e3 hg4 hr2 hb hp
            simp only [GV, frArgs, memArgs, resV, fillL, ← Bool.decide_or, ← Bool.decide_and, ← decide_not, ↓reduceIte, Nat.reduceEqDiff, Nat.reduceAdd, Nat.reduceMul, Nat.reduceLeDiff, Nat.reduceLT, Nat.reduceSub, Nat.succ_ne_zero, Nat.one_ne_zero, Nat.zero_ne_one, true_implies, false_implies, forall_const, implies_true, reduceCtorEq, eq_self, ite_true, ite_false, decide_true, decide_false, Nat.le_refl, Bool.false_eq_true, if_true, if_false]
            exact WR.bad (by rw [hmod]; simp only [Rm.bind, hr1, hr2]) hb hp
        · rintro e B3 G3 e0 e1 e2 e3 hg3 hr1 hb hp
          simp only [GV, frArgs, memArgs, resV, fillL, ← Bool.decide_or, ← Bool.decide_and, ← decide_not, ↓reduceIte, Nat.reduceEqDiff, Nat.reduceAdd, Nat.reduceMul, Nat.reduceLeDiff, Nat.reduceLT, Nat.reduceSub, Nat.succ_ne_zero, Nat.one_ne_zero, Nat.zero_ne_one, true_implies, false_implies, forall_const, implies_true, reduceCtorEq, eq_self, ite_true, ite_false, decide_true, decide_false, Nat.le_refl, Bool.false_eq_true, if_true, if_false]
          exact WR.bad (by rw [hmod]; simp only [Rm.bind, hr1]) hb hp
  · rw [List.drop_eq_nil_of_le (by omega), rTimesA.eq_2] at hmod
    simp only [GV, frArgs, memArgs, resV, fillL, ← Bool.decide_or, ← Bool.decide_and, ← decide_not, ↓reduceIte, Nat.reduceEqDiff, Nat.reduceAdd, Nat.reduceMul, Nat.reduceLeDiff, Nat.reduceLT, Nat.reduceSub, Nat.succ_ne_zero, Nat.one_ne_zero, Nat.zero_ne_one, true_implies, false_implies, forall_const, implies_true, reduceCtorEq, eq_self, ite_true, ite_false, decide_true, decide_false, Nat.le_refl, Bool.false_eq_true, if_true, if_false]
    exact WR.ok hmod hvo hb hp
end Go.Gv.W
