/-
  Calls on two words while there is room: they end well, and what they give. No condition.
-/
import Derived.Test.YtokidokmcbkodaaGvX06
namespace Go.Gv.W
set_option linter.unusedSimpArgs false
set_option linter.unusedVariables false
set_option linter.unusedSectionVars false
open Go.RowKit Go.Proofs

theorem Sp.room {α : Type} {ins : List Nat} {m : Rm α} {B : Bd} {n mu : Nat} {Q : α → Bd → Prop} (h : Sp ins m B n mu Q) (hr : B.c.gates.length + n ≤ 65536) : ∃ x B', m B = .ok x B' ∧ More B B' n mu ∧ Good ins B' ∧ Q x B' := by
  unfold Sp at h
  cases hm : m B with
  | ok x B' => rw [hm] at h; exact ⟨x, B', rfl, h⟩
  | bad e B' => rw [hm] at h; have := h.2; omega
theorem Bts.in {ins : List Nat} {B : Bd} : ∀ {l : List Int} {bs : List Bool}, Bts ins B l bs → ∀ i ∈ l, 0 ≤ i ∧ i < B.c.gates.length
  | a :: l, b :: bs, h, i, hi => by
    rcases List.mem_cons.1 hi with rfl | hi
    · exact h.1.1
    · exact Bts.in h.2 i hi
  | [], [], _, i, hi => by simp at hi
  | [], _ :: _, h, _, _ => h.elim
  | _ :: _, [], h, _, _ => h.elim
theorem words_room {α : Type} {ins : List Nat} {m : Rm α} {B : Bd} {n mu : Nat} {Q : α → Bd → Prop} {v w : List Int} {vb wb : List Bool} (hg : Good ins B) (hv : Bts ins B v vb) (hw : Bts ins B w wb) (hl : v.length = w.length) (h1 : 1 ≤ v.length) (h16 : v.length ≤ 16)
    (h : Sp ins m B n mu Q) (hr : B.c.gates.length + n ≤ 65536) : ∃ x B', wordsM B v w m = (some x, 0, B') ∧ More B B' n mu ∧ Good ins B' ∧ Q x B' := by
  obtain ⟨x, B', hm, h2⟩ := h.room hr
  refine ⟨x, B', ?_, h2⟩
  have h3 := hg.p3
  have hbv : badW v = false := by simp only [badW]; rw [decide_eq_false_iff_not]; omega
  have hbw : badW w = false := by simp only [badW]; rw [decide_eq_false_iff_not]; omega
  have hany : ((v ++ w).any fun i => decide (i < 0 ∨ (B.c.gates.length : Int) ≤ i)) = false := by
    rw [List.any_eq_false]
    intro i hi
    have : 0 ≤ i ∧ i < B.c.gates.length := by
      rcases List.mem_append.1 hi with hi | hi
      · exact hv.in i hi
      · exact hw.in i hi
    simp; omega
  simp only [wordsM, hbv, hbw, Bool.or_false, if_neg (show B.p ≠ 0 by omega), Bool.false_eq_true, if_false, if_neg (show ¬ v.length ≠ w.length by omega)]
  simp only [doM, if_neg (show B.p ≠ 0 by omega), hany, Bool.false_eq_true, if_false, hm]

/-- A word of k gates, as a value, and its bits. -/
def Wd (G : GH) (B : Bd) (k : Nat) (u : Value) (ub : List Bool) : Prop := (∃ a c, u = .slice a k c) ∧ ub.length = k ∧ ∃ l, SlI G .i64 u l ∧ Bts [] B l ub
theorem Wd.up {G G' : GH} {B B' : Bd} {k n mu : Nat} {u : Value} {ub : List Bool} (h : Wd G B k u ub) (hg : GLe G G') (hm : More B B' n mu) : Wd G' B' k u ub := by
  obtain ⟨h1, h2, l, h3, h4⟩ := h
  exact ⟨h1, h2, l, SlI.mono h3 hg, h4.up hm⟩
theorem Wd.up0 {G G' : GH} {B : Bd} {k : Nat} {u : Value} {ub : List Bool} (h : Wd G B k u ub) (hg : GLe G G') : Wd G' B k u ub := by
  obtain ⟨h1, h2, l, h3, h4⟩ := h
  exact ⟨h1, h2, l, SlI.mono h3 hg, h4⟩
theorem Wd.mk {G : GH} {B : Bd} {k : Nat} {u : Value} {l : List Int} {ub : List Bool} (h : SlI G .i64 u l) (hb : Bts [] B l ub) (hk : ub.length = k) : Wd G B k u ub := by
  have h0 := h
  obtain ⟨a, c, rfl, -⟩ := h
  exact ⟨⟨a, c, by rw [hb.len, hk]⟩, hk, l, h0, hb⟩
theorem c_sameW {G : GH} {vb u w : Value} {B : Bd} {Es : List (List Ent)} {k : Nat} {ub wb : List Bool} (hb : BoardV G vb B Es) (hg : Good [] B) (hu : Wd G B k u ub) (hw : Wd G B k w wb) (h1 : 1 ≤ k) (h16 : k ≤ 16) (hr : B.c.gates.length + (1 + 7 * k) ≤ 65536) :
    ACalls Try.prog 16 [vb, u, w] G Es fun o G' Es' => ∃ x B', o = .ret (.tuple #[.int .i64 x, .int .i64 0]) ∧ BoardV G' vb B' Es' ∧ More B B' (1 + 7 * k) (2 * k) ∧ Good [] B' ∧ Bt [] B' x (decide (ub = wb)) := by
  obtain ⟨-, hk, l, hu, hl⟩ := hu
  obtain ⟨-, hk2, m, hw, hm⟩ := hw
  have e1 := hl.len
  have e2 := hm.len
  obtain ⟨x, B', he, hmo, hg', hx⟩ := words_room hg hl hm (by omega) (by omega) (by omega) (sp_same hg hl hm (by omega)) (by rw [e1, hk]; exact hr)
  refine (c_SameM hb hu hw).mono ?_
  rintro o G' Es' hgl hd
  rw [he] at hd
  obtain ⟨v, rfl, hv, hb'⟩ := hd
  simp only [encZ] at hv
  subst hv
  rw [e1, hk] at hmo
  exact ⟨x, B', rfl, hb', hmo, hg', hx⟩
theorem c_lessW {G : GH} {vb u w : Value} {B : Bd} {Es : List (List Ent)} {k : Nat} {ub wb : List Bool} (hb : BoardV G vb B Es) (hg : Good [] B) (hu : Wd G B k u ub) (hw : Wd G B k w wb) (h1 : 1 ≤ k) (h16 : k ≤ 16) (hr : B.c.gates.length + (3 + 11 * k) ≤ 65536) :
    ACalls Try.prog 17 [vb, u, w] G Es fun o G' Es' => ∃ x B', o = .ret (.tuple #[.int .i64 x, .int .i64 0]) ∧ BoardV G' vb B' Es' ∧ More B B' (3 + 11 * k) (2 * k) ∧ Good [] B' ∧ Bt [] B' x (decide (bnum ub < bnum wb)) := by
  obtain ⟨-, hk, l, hu, hl⟩ := hu
  obtain ⟨-, hk2, m, hw, hm⟩ := hw
  have e1 := hl.len
  have e2 := hm.len
  obtain ⟨x, B', he, hmo, hg', hx⟩ := words_room hg hl hm (by omega) (by omega) (by omega) (sp_below hg hl hm (by omega)) (by rw [e1, hk]; exact hr)
  refine (c_LessM hb hu hw).mono ?_
  rintro o G' Es' hgl hd
  rw [he] at hd
  obtain ⟨v, rfl, hv, hb'⟩ := hd
  simp only [encZ] at hv
  subst hv
  rw [e1, hk] at hmo
  exact ⟨x, B', rfl, hb', hmo, hg', hx⟩

/-- junto/juntolaw13.plus -/
def r_law13_plus : RFn := ⟨17,
  .seq (.reg [] [
    ⟨(some 6), none, .mv (.c (.slice none 0 0))⟩]) <|
  .keep [0, 1, 2] <|
  .seq (.reg [] [
    ⟨(some 10), none, .mv (.t 0)⟩,
    ⟨(some 11), none, .mv (.t 1)⟩,
    ⟨(some 12), none, .mv (.t 2)⟩,
    ⟨(some 13), none, .call [0, 1, 2, 3] [0, 1, 2, 3] 29 [(.t 10), (.t 11), (.t 12)]⟩,
    ⟨(some 9), none, .mv (.t 13)⟩,
    ⟨(some 14), none, .ext 0 (.t 9)⟩,
    ⟨(some 15), none, .ext 1 (.t 9)⟩,
    ⟨(some 7), none, .mv (.t 14)⟩,
    ⟨(some 8), none, .mv (.t 15)⟩]) <|
  .keep [7] <|
  .seq (.reg [] [
    ⟨(some 16), none, .mv (.t 7)⟩,
    ⟨(some 6), none, .mv (.t 16)⟩]) <|
  .ret,
  [.tmp 6], [0, 1, 2, 3], [0, 1, 2, 3]⟩

theorem k_law13_plus : rbFn Try.prog 13 r_law13_plus = some r_law13_plus := by kernel_rfl

/-- junto/juntolaw13.times -/
def r_law13_times : RFn := ⟨17,
  .seq (.reg [] [
    ⟨(some 6), none, .mv (.c (.slice none 0 0))⟩]) <|
  .keep [0, 1, 2] <|
  .seq (.reg [] [
    ⟨(some 10), none, .mv (.t 0)⟩,
    ⟨(some 11), none, .mv (.t 1)⟩,
    ⟨(some 12), none, .mv (.t 2)⟩,
    ⟨(some 13), none, .call [0, 1, 2, 3] [0, 1, 2, 3] 31 [(.t 10), (.t 11), (.t 12)]⟩,
    ⟨(some 9), none, .mv (.t 13)⟩,
    ⟨(some 14), none, .ext 0 (.t 9)⟩,
    ⟨(some 15), none, .ext 1 (.t 9)⟩,
    ⟨(some 7), none, .mv (.t 14)⟩,
    ⟨(some 8), none, .mv (.t 15)⟩]) <|
  .keep [7] <|
  .seq (.reg [] [
    ⟨(some 16), none, .mv (.t 7)⟩,
    ⟨(some 6), none, .mv (.t 16)⟩]) <|
  .ret,
  [.tmp 6], [0, 1, 2, 3], [0, 1, 2, 3]⟩

theorem k_law13_times : rbFn Try.prog 14 r_law13_times = some r_law13_times := by kernel_rfl

/-- junto/juntolaw13.minus -/
def r_law13_minus : RFn := ⟨17,
  .seq (.reg [] [
    ⟨(some 6), none, .mv (.c (.slice none 0 0))⟩]) <|
  .keep [0, 1, 2] <|
  .seq (.reg [] [
    ⟨(some 10), none, .mv (.t 0)⟩,
    ⟨(some 11), none, .mv (.t 1)⟩,
    ⟨(some 12), none, .mv (.t 2)⟩,
    ⟨(some 13), none, .call [0, 1, 2, 3] [0, 1, 2, 3] 30 [(.t 10), (.t 11), (.t 12)]⟩,
    ⟨(some 9), none, .mv (.t 13)⟩,
    ⟨(some 14), none, .ext 0 (.t 9)⟩,
    ⟨(some 15), none, .ext 1 (.t 9)⟩,
    ⟨(some 7), none, .mv (.t 14)⟩,
    ⟨(some 8), none, .mv (.t 15)⟩]) <|
  .keep [7] <|
  .seq (.reg [] [
    ⟨(some 16), none, .mv (.t 7)⟩,
    ⟨(some 6), none, .mv (.t 16)⟩]) <|
  .ret,
  [.tmp 6], [0, 1, 2, 3], [0, 1, 2, 3]⟩

theorem k_law13_minus : rbFn Try.prog 15 r_law13_minus = some r_law13_minus := by kernel_rfl


theorem c_plusW {G : GH} {vb u w : Value} {B : Bd} {Es : List (List Ent)} {k : Nat} {ub wb : List Bool} (hb : BoardV G vb B Es) (hg : Good [] B) (hu : Wd G B k u ub) (hw : Wd G B k w wb) (h1 : 1 ≤ k) (h16 : k ≤ 16) (hr : B.c.gates.length + (1 + 9 * k) ≤ 65536) :
    ACalls Try.prog 13 [vb, u, w] G Es fun o G' Es' => ∃ x B', o = .ret x ∧ BoardV G' vb B' Es' ∧ More B B' (1 + 9 * k) (2 * k) ∧ Good [] B' ∧ Wd G' B' k x (addB ub wb false).1 := by
  obtain ⟨-, hk, l, hu, hl⟩ := hu
  obtain ⟨-, hk2, m, hw, hm⟩ := hw
  have e1 := hl.len
  have e2 := hm.len
  obtain ⟨x, B', he, hmo, hg', hx⟩ := words_room hg hl hm (by omega) (by omega) (by omega) (sp_plus hg hl hm (by omega)) (by rw [e1, hk]; exact hr)
  obtain ⟨e0, e1', e2', e3, rfl⟩ := boardV_es hb
  refine acalls mixed k_law13_plus (by simp) fun F => ?_
  simp only [GV, frArgs, memArgs, resV, fillL, ← Bool.decide_or, ← Bool.decide_and, ← decide_not, ↓reduceIte, Nat.reduceEqDiff, Nat.reduceAdd, Nat.reduceMul, Nat.reduceLeDiff, Nat.reduceLT, Nat.reduceSub, Nat.succ_ne_zero, Nat.one_ne_zero, Nat.zero_ne_one, true_implies, false_implies, forall_const, implies_true, reduceCtorEq, eq_self, ite_true, ite_false, decide_true, decide_false, Nat.le_refl, Bool.false_eq_true, if_true, if_false]
  refine (c_Plus hb hu hw).mono ?_
  rintro o G' Es' hgl hd
  rw [he] at hd
  obtain ⟨v, rfl, hv, hb'⟩ := hd
  obtain ⟨e0, e1', e2', e3, rfl⟩ := boardV_es hb'
  simp only [encW] at hv
  rw [e1, hk] at hmo
  simp only [GV, frArgs, memArgs, resV, fillL, ← Bool.decide_or, ← Bool.decide_and, ← decide_not, ↓reduceIte, Nat.reduceEqDiff, Nat.reduceAdd, Nat.reduceMul, Nat.reduceLeDiff, Nat.reduceLT, Nat.reduceSub, Nat.succ_ne_zero, Nat.one_ne_zero, Nat.zero_ne_one, true_implies, false_implies, forall_const, implies_true, reduceCtorEq, eq_self, ite_true, ite_false, decide_true, decide_false, Nat.le_refl, Bool.false_eq_true, if_true, if_false]
  exact ⟨v, B', rfl, hb', hmo, hg', Wd.mk hv hx (by rw [addB_len _ _ _ (by omega), hk])⟩
theorem c_minusW {G : GH} {vb u w : Value} {B : Bd} {Es : List (List Ent)} {k : Nat} {ub wb : List Bool} (hb : BoardV G vb B Es) (hg : Good [] B) (hu : Wd G B k u ub) (hw : Wd G B k w wb) (h1 : 1 ≤ k) (h16 : k ≤ 16) (hr : B.c.gates.length + (1 + 11 * k) ≤ 65536) :
    ACalls Try.prog 15 [vb, u, w] G Es fun o G' Es' => ∃ x B', o = .ret x ∧ BoardV G' vb B' Es' ∧ More B B' (1 + 11 * k) (2 * k) ∧ Good [] B' ∧ Wd G' B' k x (addB ub (wb.map (!·)) true).1 := by
  obtain ⟨-, hk, l, hu, hl⟩ := hu
  obtain ⟨-, hk2, m, hw, hm⟩ := hw
  have e1 := hl.len
  have e2 := hm.len
  obtain ⟨x, B', he, hmo, hg', hx⟩ := words_room hg hl hm (by omega) (by omega) (by omega) (sp_minus hg hl hm (by omega)) (by rw [e1, hk]; exact hr)
  obtain ⟨e0, e1', e2', e3, rfl⟩ := boardV_es hb
  refine acalls mixed k_law13_minus (by simp) fun F => ?_
  simp only [GV, frArgs, memArgs, resV, fillL, ← Bool.decide_or, ← Bool.decide_and, ← decide_not, ↓reduceIte, Nat.reduceEqDiff, Nat.reduceAdd, Nat.reduceMul, Nat.reduceLeDiff, Nat.reduceLT, Nat.reduceSub, Nat.succ_ne_zero, Nat.one_ne_zero, Nat.zero_ne_one, true_implies, false_implies, forall_const, implies_true, reduceCtorEq, eq_self, ite_true, ite_false, decide_true, decide_false, Nat.le_refl, Bool.false_eq_true, if_true, if_false]
  refine (c_Minus hb hu hw).mono ?_
  rintro o G' Es' hgl hd
  rw [he] at hd
  obtain ⟨v, rfl, hv, hb'⟩ := hd
  obtain ⟨e0, e1', e2', e3, rfl⟩ := boardV_es hb'
  simp only [encW] at hv
  rw [e1, hk] at hmo
  simp only [GV, frArgs, memArgs, resV, fillL, ← Bool.decide_or, ← Bool.decide_and, ← decide_not, ↓reduceIte, Nat.reduceEqDiff, Nat.reduceAdd, Nat.reduceMul, Nat.reduceLeDiff, Nat.reduceLT, Nat.reduceSub, Nat.succ_ne_zero, Nat.one_ne_zero, Nat.zero_ne_one, true_implies, false_implies, forall_const, implies_true, reduceCtorEq, eq_self, ite_true, ite_false, decide_true, decide_false, Nat.le_refl, Bool.false_eq_true, if_true, if_false]
  exact ⟨v, B', rfl, hb', hmo, hg', Wd.mk hv hx (by rw [addB_len _ _ _ (by simp; omega), hk])⟩
theorem c_timesW {G : GH} {vb u w : Value} {B : Bd} {Es : List (List Ent)} {k : Nat} {ub wb : List Bool} (hb : BoardV G vb B Es) (hg : Good [] B) (hu : Wd G B k u ub) (hw : Wd G B k w wb) (h1 : 1 ≤ k) (h16 : k ≤ 16) (hr : B.c.gates.length + 16 * k * k ≤ 65536) :
    ACalls Try.prog 14 [vb, u, w] G Es fun o G' Es' => ∃ x B', o = .ret x ∧ BoardV G' vb B' Es' ∧ More B B' (16 * k * k) (2 * k * k) ∧ Good [] B' ∧ Wd G' B' k x (timesB ub 0 [] wb) := by
  obtain ⟨-, hk, l, hu, hl⟩ := hu
  obtain ⟨-, hk2, m, hw, hm⟩ := hw
  have e1 := hl.len
  have e2 := hm.len
  obtain ⟨x, B', he, hmo, hg', hx⟩ := words_room hg hl hm (by omega) (by omega) (by omega) (sp_times hg hl hm (by omega) (by omega)) (by rw [e1, hk]; exact hr)
  obtain ⟨e0, e1', e2', e3, rfl⟩ := boardV_es hb
  refine acalls mixed k_law13_times (by simp) fun F => ?_
  simp only [GV, frArgs, memArgs, resV, fillL, ← Bool.decide_or, ← Bool.decide_and, ← decide_not, ↓reduceIte, Nat.reduceEqDiff, Nat.reduceAdd, Nat.reduceMul, Nat.reduceLeDiff, Nat.reduceLT, Nat.reduceSub, Nat.succ_ne_zero, Nat.one_ne_zero, Nat.zero_ne_one, true_implies, false_implies, forall_const, implies_true, reduceCtorEq, eq_self, ite_true, ite_false, decide_true, decide_false, Nat.le_refl, Bool.false_eq_true, if_true, if_false]
  refine (c_Times hb hu hw).mono ?_
  rintro o G' Es' hgl hd
  rw [he] at hd
  obtain ⟨v, rfl, hv, hb'⟩ := hd
  obtain ⟨e0, e1', e2', e3, rfl⟩ := boardV_es hb'
  simp only [encW] at hv
  rw [e1, hk] at hmo
  simp only [GV, frArgs, memArgs, resV, fillL, ← Bool.decide_or, ← Bool.decide_and, ← decide_not, ↓reduceIte, Nat.reduceEqDiff, Nat.reduceAdd, Nat.reduceMul, Nat.reduceLeDiff, Nat.reduceLT, Nat.reduceSub, Nat.succ_ne_zero, Nat.one_ne_zero, Nat.zero_ne_one, true_implies, false_implies, forall_const, implies_true, reduceCtorEq, eq_self, ite_true, ite_false, decide_true, decide_false, Nat.le_refl, Bool.false_eq_true, if_true, if_false]
  exact ⟨v, B', rfl, hb', hmo, hg', Wd.mk hv hx (by rw [(times_num (by omega) (by omega)).2, hk])⟩
end Go.Gv.W
