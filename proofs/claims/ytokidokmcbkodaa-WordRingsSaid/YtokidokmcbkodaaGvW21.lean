/-
  What is made of two words; what is added begins with what was there. No condition.
-/
import Derived.Test.YtokidokmcbkodaaGvW20
namespace Go.Gv.W
set_option linter.unusedSimpArgs false
set_option linter.unusedVariables false
set_option linter.unusedSectionVars false
open Go.RowKit Go.Proofs

theorem Ext.refl (B : Bd) : Ext B B := ⟨[], by simp⟩
theorem Ext.trans {A B C : Bd} (h : Ext A B) (h' : Ext B C) : Ext A C := by
  obtain ⟨g, rfl⟩ := h
  obtain ⟨g', rfl⟩ := h'
  exact ⟨g ++ g', by simp⟩
/-- It only adds gates. -/
def Grows {α : Type} (m : Rm α) : Prop := ∀ B, Ext B (m B).bd
theorem grows_pure {α : Type} (x : α) : Grows (Rm.pure x) := fun B => Ext.refl B
theorem grows_bind {α β : Type} {m : Rm α} {f : α → Rm β} (hm : Grows m) (hf : ∀ x, Grows (f x)) : Grows (m.bind f) := by
  intro B
  have h1 := hm B
  unfold Rm.bind
  split
  · rename_i x B' h
    rw [h] at h1
    exact Ext.trans h1 (hf x B')
  · rename_i e B' h
    rw [h] at h1
    exact h1
theorem grows_put (g : Gate) : Grows (rPut g) := by
  intro B
  have : Ext B (B.put g).2.2 := by
    unfold Bd.put
    split
    · exact Ext.refl B
    · simp only []; split
      · exact Ext.refl B
      · split
        · exact Ext.refl B
        · exact ⟨[g], rfl⟩
  unfold rPut
  split <;> exact this
theorem grows_fixed (k : Nat) : Grows (rFixed k) := fun B => grows_put _ B
theorem grows_sum (x y : Int) : Grows (rSum x y) := grows_put _
theorem grows_less (x y : Int) : Grows (rLess x y) := grows_put _
theorem grows_prod (x y : Int) : Grows (rProd x y) := grows_put _
theorem grows_not (a : Int) : Grows (rNot a) := grows_bind (grows_fixed _) fun _ => grows_less _ _
theorem grows_and (a b : Int) : Grows (rAnd a b) := grows_prod _ _
theorem grows_or (a b : Int) : Grows (rOr a b) := grows_bind (grows_sum _ _) fun _ => grows_bind (grows_prod _ _) fun _ => grows_less _ _
theorem grows_xor (a b : Int) : Grows (rXor a b) := grows_bind (grows_prod _ _) fun _ => grows_bind (grows_sum _ _) fun _ => grows_bind (grows_sum _ _) fun _ => grows_less _ _
theorem grows_pick (c a b : Int) : Grows (rPick c a b) := grows_bind (grows_less _ _) fun _ => grows_bind (grows_prod _ _) fun _ => grows_sum _ _
theorem grows_numA : ∀ (w : List Int) (n : Int), Grows (rNumA w n)
  | [], n => grows_pure n
  | x :: r, n => grows_bind (grows_sum _ _) fun _ => grows_bind (grows_sum _ _) fun n' => grows_numA r n'
theorem grows_num (w : List Int) : Grows (rNum w) := grows_bind (grows_fixed _) fun _ => grows_numA _ _
theorem grows_addA : ∀ (v w acc : List Int) (c : Int), Grows (rAddA acc v w c)
  | [], w, acc, c => by rw [rAddA_nil]; exact grows_pure _
  | a :: v, [], acc, c => grows_pure _
  | a :: v, b :: w, acc, c => grows_bind (grows_prod _ _) fun _ => grows_bind (grows_sum _ _) fun _ => grows_bind (grows_sum _ _) fun _ => grows_bind (grows_less _ _) fun _ => grows_bind (grows_prod _ _) fun _ =>
      grows_bind (grows_sum _ _) fun _ => grows_bind (grows_sum _ _) fun _ => grows_bind (grows_less _ _) fun _ => grows_bind (grows_sum _ _) fun _ => grows_addA v w _ _
theorem grows_turnA : ∀ (w acc : List Int), Grows (rTurnA acc w)
  | [], acc => grows_pure acc
  | a :: w, acc => grows_bind (grows_not _) fun _ => grows_turnA w _
theorem grows_sameA : ∀ (v w : List Int) (n : Int), Grows (rSameA v w n)
  | [], w, n => by rw [rSameA_nil]; exact grows_pure _
  | a :: v, [], n => grows_pure _
  | a :: v, b :: w, n => grows_bind (grows_xor _ _) fun _ => grows_bind (grows_not _) fun _ => grows_bind (grows_prod _ _) fun _ => grows_sameA v w _
theorem grows_same (v w : List Int) : Grows (rSame v w) := grows_bind (grows_fixed _) fun _ => grows_sameA _ _ _
theorem grows_plus (v w : List Int) : Grows (rPlus v w) := grows_bind (grows_fixed _) fun _ => grows_bind (grows_addA _ _ _ _) fun _ => grows_pure _
theorem grows_minus (v w : List Int) : Grows (rMinus v w) := grows_bind (grows_turnA _ _) fun _ => grows_bind (grows_fixed _) fun _ => grows_bind (grows_addA _ _ _ _) fun _ => grows_pure _
theorem grows_below (v w : List Int) : Grows (rBelow v w) := grows_bind (grows_turnA _ _) fun _ => grows_bind (grows_fixed _) fun _ => grows_bind (grows_addA _ _ _ _) fun _ => grows_not _
theorem grows_partA : ∀ (v acc : List Int) (b : Int), Grows (rPartA acc v b)
  | [], acc, b => grows_pure acc
  | a :: v, acc, b => grows_bind (grows_prod _ _) fun _ => grows_partA v _ b
theorem grows_timesA (v : List Int) : ∀ (w out : List Int) (i : Nat), Grows (rTimesA v i out w)
  | [], out, i => grows_pure out
  | b :: w, out, i => grows_bind (grows_partA _ _ _) fun part => by
      split
      · exact grows_timesA v w _ _
      · exact grows_bind (grows_fixed _) fun _ => grows_bind (grows_addA _ _ _ _) fun _ => grows_timesA v w _ _
theorem grows_times (v w : List Int) : Grows (rTimes v w) := grows_timesA v w _ _
def rBad {α : Type} (e : Int) : Rm α := fun B => .bad e B
theorem grows_bad {α : Type} (e : Int) : Grows (rBad e : Rm α) := fun B => Ext.refl B

def badW (w : List Int) : Bool := decide (w.length < 1 ∨ 16 < w.length)
/-- What is made of two words. -/
def wordsM {α : Type} (B : Bd) (v w : List Int) (m : Rm α) : Option α × Int × Bd :=
  if B.p = 0 then (none, 1, B) else if (badW v || badW w) = true then (none, 3, B) else doM B (v ++ w) (if v.length ≠ w.length then rBad 2 else m)

/-- junto/word.words[int]$1 -/
def r_word_words_int_1 : RFn := ⟨11,
  .seq (.reg [] [
    ⟨(some 2), none, .mv (.c (.bool false))⟩]) <|
  .keep [0] <|
  .seq (.reg [] [
    ⟨(some 3), none, .mv (.t 0)⟩,
    ⟨(some 4), none, .len (.t 3)⟩,
    ⟨(some 5), none, .bin .lss (.t 4) (.c (.int .i64 1))⟩,
    ⟨(some 6), none, .mv (.t 5)⟩,
    ⟨(some 7), (some (6, false, true)), .mv (.t 0)⟩,
    ⟨(some 8), (some (6, false, true)), .len (.t 7)⟩,
    ⟨(some 9), (some (6, false, true)), .bin .gtr (.t 8) (.c (.int .i64 16))⟩,
    ⟨(some 10), none, .pick (.t 6) (.c (.bool true)) (.t 9)⟩,
    ⟨(some 2), none, .mv (.t 10)⟩]) <|
  .ret,
  [.tmp 2], [], []⟩

theorem k_word_words_int_1 : rbFn Try.prog 61 r_word_words_int_1 = some r_word_words_int_1 := by kernel_rfl

/-- junto/word.words[int]$2 -/
def r_word_words_int_2 : RFn := ⟨15,
  .seq (.reg [] [
    ⟨(some 5), none, .mv (.c (.int .i64 0))⟩]) <|
  .keep [0, 1, 2, 3] <|
  .seq (.seq (.reg [] [
    ⟨(some 6), none, .ld none none (.t 1)⟩,
    ⟨(some 7), none, .len (.t 6)⟩,
    ⟨(some 8), none, .ld none none (.t 2)⟩,
    ⟨(some 9), none, .len (.t 8)⟩,
    ⟨(some 10), none, .bin .neq (.t 7) (.t 9)⟩]) <|
  .keep [0, 3, 10] <|
  .cond (.t 10)
    (.reg [] [
      ⟨(some 11), none, .mki 23 (.c (.int .i64 2))⟩,
      ⟨none, none, .pan (.t 11)⟩])
    (.skip)) <|
  .keep [0, 3] <|
  .seq (.reg [] [
    ⟨(some 12), none, .ld none none (.t 3)⟩,
    ⟨(some 13), none, .mv (.t 0)⟩,
    ⟨(some 14), none, .callv [0, 1, 2, 3] [0, 1, 2, 3] (.t 12) [(.t 13)]⟩,
    ⟨(some 5), none, .mv (.t 14)⟩]) <|
  .ret,
  [.tmp 5], [0, 1, 2, 3], [0, 1, 2, 3]⟩

theorem k_word_words_int_2 : rbFn Try.prog 64 r_word_words_int_2 = some r_word_words_int_2 := by kernel_rfl

/-- junto/word.words[int] -/
def r_word_words_int : RFn := ⟨36,
  .seq (.reg [] [
    ⟨(some 5), none, .box 105 44 (.t 1)⟩,
    ⟨(some 6), none, .box 106 44 (.t 2)⟩,
    ⟨(some 7), none, .box 107 80 (.t 3)⟩,
    ⟨(some 8), none, .mv (.c (.int .i64 0))⟩,
    ⟨(some 9), none, .mv (.c (.int .i64 0))⟩]) <|
  .keep [0, 5, 6, 7] <|
  .settle 107 <|
  .settle 106 <|
  .settle 105 <|
  .seq (.reg [] [
    ⟨(some 10), none, .mv (.c (.int .i64 0))⟩]) <|
  .keep [0, 5, 6, 7, 10] <|
  .seq (.reg [] [
    ⟨(some 11), none, .mv (.c (.func (.func 61) #[] #[]))⟩]) <|
  .keep [0, 5, 6, 7, 10, 11] <|
  .seq (.block 0 <|
  .seq (.reg [] [
    ⟨(some 13), none, .mv (.t 0)⟩,
    ⟨(some 14), none, .call [0] [0] 24 [(.t 13)]⟩,
    ⟨(some 15), none, .un .not (.t 14)⟩,
    ⟨(some 12), none, .mv (.t 15)⟩]) <|
  .keep [0, 5, 6, 7, 10, 11, 12] <|
  .cond (.t 12)
    (.seq (.reg [] [
      ⟨(some 16), none, .mv (.t 10)⟩,
      ⟨(some 8), none, .mv (.t 16)⟩,
      ⟨(some 9), none, .mv (.c (.int .i64 1))⟩]) <|
    .ret)
    (.seq (.reg [] [
      ⟨(some 18), none, .mv (.t 11)⟩,
      ⟨(some 19), none, .ld none none (.t 5)⟩,
      ⟨(some 20), none, .callv [] [] (.t 18) [(.t 19)]⟩,
      ⟨(some 21), none, .mv (.t 20)⟩,
      ⟨(some 22), (some (21, false, false)), .mv (.t 11)⟩,
      ⟨(some 23), (some (21, false, false)), .ld none none (.t 6)⟩,
      ⟨(some 24), (some (21, false, false)), .callv [] [] (.t 22) [(.t 23)]⟩,
      ⟨(some 25), none, .pick (.t 21) (.c (.bool true)) (.t 24)⟩,
      ⟨(some 17), none, .mv (.t 25)⟩]) <|
    .keep [0, 5, 6, 7, 10, 17] <|
    .cond (.t 17)
      (.seq (.reg [] [
        ⟨(some 26), none, .mv (.t 10)⟩,
        ⟨(some 8), none, .mv (.t 26)⟩,
        ⟨(some 9), none, .mv (.c (.int .i64 3))⟩]) <|
      .ret)
      (.skip))) <|
  .keep [0, 5, 6, 7] <|
  .seq (.reg [] [
    ⟨(some 27), none, .mv (.t 0)⟩,
    ⟨(some 28), none, .ld none none (.t 5)⟩,
    ⟨(some 29), none, .ld none none (.t 6)⟩,
    ⟨(some 30), none, .bsl none 44 2 1 [(.slice none 0 0), (.slice none 0 0)] [(0, 1), (1, 1)] [(0, (.t 28)), (1, (.t 29))]⟩,
    ⟨(some 31), none, .call [] [] 63 [(.t 30)]⟩,
    ⟨(some 32), none, .mkf (.func 64) [] [(.t 5), (.t 6), (.t 7)]⟩,
    ⟨(some 33), none, .call [0, 1, 2, 3] [0, 1, 2, 3] 62 [(.t 27), (.t 31), (.t 32)]⟩,
    ⟨(some 34), none, .ext 0 (.t 33)⟩,
    ⟨(some 35), none, .ext 1 (.t 33)⟩,
    ⟨(some 8), none, .mv (.t 34)⟩,
    ⟨(some 9), none, .mv (.t 35)⟩]) <|
  .ret,
  [.tmp 8, .tmp 9], [0, 1, 2, 3], [0, 1, 2, 3]⟩

theorem k_word_words_int : rbFn Try.prog 33 r_word_words_int = some r_word_words_int := by kernel_rfl


theorem c_words1_int {v : Value} {l : List Int} {G : GH} (hv : SlI G .i64 v l) : Pure 61 [v] G (.bool (badW l)) := by
  obtain ⟨a, c, rfl, h1, h2, hrow⟩ := hv
  refine acalls mixed k_word_words_int_1 (by simp) fun F => ?_
  simp only [GV, frArgs, memArgs, resV, fillL, ← Bool.decide_or, ← Bool.decide_and, ← decide_not, ↓reduceIte, Nat.reduceEqDiff, Nat.reduceAdd, Nat.reduceMul, Nat.reduceLeDiff, Nat.reduceLT, Nat.reduceSub, Nat.succ_ne_zero, Nat.one_ne_zero, Nat.zero_ne_one, true_implies, false_implies, forall_const, implies_true, reduceCtorEq, eq_self, ite_true, ite_false, decide_true, decide_false, Nat.le_refl, Bool.false_eq_true, if_true, if_false, badW]
  have e : decide ((l.length : Int) < 1 ∨ (16 : Int) < l.length) = decide (l.length < 1 ∨ 16 < l.length) := by
    apply decide_eq_decide.2; omega
  rw [e]
set_option maxHeartbeats 1000000 in
theorem c_words2_int {v w : Value} {l m : List Int} {pv pw pm bb : Nat} {f : FuncId} {x y : List Value} {mm : Rm (Int)} {B : Bd} {G : GH} {Es : List (List Ent)} (hb : BoardM G bb B Es) (hp : B.p ≠ 0) (h1 : G pv 0 = some v) (h2 : G pw 0 = some w) (h3 : G pm 0 = some (.func (.func f) x.toArray y.toArray)) (hv : SlI G .i64 v l) (hw : SlI G .i64 w m)
    (hmake : l.length = m.length → ACalls Try.prog f (x ++ [rg bb] ++ y) G Es (WR bb encZ (mm B))) :
    ACalls Try.prog 64 [rg bb, .pointer (some ⟨pv, 0, none⟩), .pointer (some ⟨pw, 0, none⟩), .pointer (some ⟨pm, 0, none⟩)] G Es (WR bb encZ ((if l.length ≠ m.length then rBad 2 else mm) B)) := by
  obtain ⟨a, c, rfl, hl1, hl2, hrow⟩ := hv
  obtain ⟨a', c', rfl, hl3, hl4, hrow2⟩ := hw
  obtain ⟨e0, e1, e2, e3, rfl⟩ := hb.es
  refine acalls mixed k_word_words_int_2 (by simp) fun F => ?_
  simp only [GV, frArgs, memArgs, resV, fillL, ← Bool.decide_or, ← Bool.decide_and, ← decide_not, ↓reduceIte, Nat.reduceEqDiff, Nat.reduceAdd, Nat.reduceMul, Nat.reduceLeDiff, Nat.reduceLT, Nat.reduceSub, Nat.succ_ne_zero, Nat.one_ne_zero, Nat.zero_ne_one, true_implies, false_implies, forall_const, implies_true, reduceCtorEq, eq_self, ite_true, ite_false, decide_true, decide_false, Nat.le_refl, Bool.false_eq_true, if_true, if_false, h1, h2]
  refine cond_dec (fun h => ?_) (fun h => ?_)
  · have hne : l.length ≠ m.length := by omega
    simp only [GV, frArgs, memArgs, resV, fillL, ← Bool.decide_or, ← Bool.decide_and, ← decide_not, ↓reduceIte, Nat.reduceEqDiff, Nat.reduceAdd, Nat.reduceMul, Nat.reduceLeDiff, Nat.reduceLT, Nat.reduceSub, Nat.succ_ne_zero, Nat.one_ne_zero, Nat.zero_ne_one, true_implies, false_implies, forall_const, implies_true, reduceCtorEq, eq_self, ite_true, ite_false, decide_true, decide_false, Nat.le_refl, Bool.false_eq_true, if_true, if_false]
    exact WR.bad (by rw [if_pos hne]; rfl) hb hp
  · have hne : ¬ l.length ≠ m.length := by omega
    simp only [GV, frArgs, memArgs, resV, fillL, ← Bool.decide_or, ← Bool.decide_and, ← decide_not, ↓reduceIte, Nat.reduceEqDiff, Nat.reduceAdd, Nat.reduceMul, Nat.reduceLeDiff, Nat.reduceLT, Nat.reduceSub, Nat.succ_ne_zero, Nat.one_ne_zero, Nat.zero_ne_one, true_implies, false_implies, forall_const, implies_true, reduceCtorEq, eq_self, ite_true, ite_false, decide_true, decide_false, Nat.le_refl, Bool.false_eq_true, if_true, if_false, h3]
    refine wcallf (hmake (by omega)) ?_ ?_
    · rintro k B1 u G4 e0 e1 e2 e3 hg4 hr hu hbm hp1
      simp only [GV, frArgs, memArgs, resV, fillL, ← Bool.decide_or, ← Bool.decide_and, ← decide_not, ↓reduceIte, Nat.reduceEqDiff, Nat.reduceAdd, Nat.reduceMul, Nat.reduceLeDiff, Nat.reduceLT, Nat.reduceSub, Nat.succ_ne_zero, Nat.one_ne_zero, Nat.zero_ne_one, true_implies, false_implies, forall_const, implies_true, reduceCtorEq, eq_self, ite_true, ite_false, decide_true, decide_false, Nat.le_refl, Bool.false_eq_true, if_true, if_false]
      exact WR.ok (by rw [if_neg hne]; exact hr) hu hbm hp1
    · rintro e B1 G4 e0 e1 e2 e3 hg4 hr hbm hp1
      simp only [GV, frArgs, memArgs, resV, fillL, ← Bool.decide_or, ← Bool.decide_and, ← decide_not, ↓reduceIte, Nat.reduceEqDiff, Nat.reduceAdd, Nat.reduceMul, Nat.reduceLeDiff, Nat.reduceLT, Nat.reduceSub, Nat.succ_ne_zero, Nat.one_ne_zero, Nat.zero_ne_one, true_implies, false_implies, forall_const, implies_true, reduceCtorEq, eq_self, ite_true, ite_false, decide_true, decide_false, Nat.le_refl, Bool.false_eq_true, if_true, if_false]
      exact WR.bad (by rw [if_neg hne]; exact hr) hbm hp1
theorem DoR.es_int {vb z : Value} {r : Option (Int) × Int × Bd} {o : Out} {G' : GH} {Es' : List (List Ent)} (h : DoR vb z encZ r o G' Es') : ∃ v e0 e1 e2 e3, o = .ret (.tuple #[v, .int .i64 r.2.1]) ∧ Es' = [e0, e1, e2, e3] := by
  obtain ⟨v, h1, h2, h3⟩ := h
  rcases h3 with ⟨_, _, rfl⟩ | ⟨bb, _, v1, v2, v3, es1, es2, es3, rfl, _⟩
  · exact ⟨v, _, _, _, _, h1, rfl⟩
  · exact ⟨v, _, _, _, _, h1, rfl⟩

set_option maxHeartbeats 1000000 in
set_option maxRecDepth 20000 in
theorem c_words_int {v u w : Value} {B : Bd} {Es : List (List Ent)} {l m : List Int} {f : FuncId} {x y : List Value} {mm : Rm (Int)} {G : GH} (hb : BoardV G v B Es) (hu : SlI G .i64 u l) (hw : SlI G .i64 w m)
    (hext : Grows mm) (hmake : ∀ bb G' Es', v = .pointer (some ⟨bb, 0, none⟩) → B.p ≠ 0 → l.length = m.length → l.length ≤ 16 → GLe G G' → BoardM G' bb B Es' → ACalls Try.prog f (x ++ [rg bb] ++ y) G' Es' (WR bb encZ (mm B))) :
    ACalls Try.prog 33 [v, u, w, .func (.func f) x.toArray y.toArray] G Es (DoR v (.int .i64 0) encZ (wordsM B l m mm)) := by
  have hb0 := hb
  have hu0 := hu
  have hw0 := hw
  obtain ⟨au, cu, rfl, -⟩ := hu0
  obtain ⟨aw, cw, rfl, -⟩ := hw0
  obtain ⟨es0, es1, es2, es3, rfl⟩ : ∃ a b c d, Es = [a, b, c, d] := by
    rcases hb with ⟨_, _, rfl⟩ | ⟨bb, _, v1, v2, v3, es1, es2, es3, rfl, _⟩ <;> exact ⟨_, _, _, _, rfl⟩
  refine acalls mixed k_word_words_int (by simp) fun F => ?_
  simp only [GV, frArgs, memArgs, resV, fillL, ← Bool.decide_or, ← Bool.decide_and, ← decide_not, ↓reduceIte, Nat.reduceEqDiff, Nat.reduceAdd, Nat.reduceMul, Nat.reduceLeDiff, Nat.reduceLT, Nat.reduceSub, Nat.succ_ne_zero, Nat.one_ne_zero, Nat.zero_ne_one, true_implies, false_implies, forall_const, implies_true, reduceCtorEq, eq_self, ite_true, ite_false, decide_true, decide_false, Nat.le_refl, Bool.false_eq_true, if_true, if_false]
  intro pv pw pm
  refine settle_intro fun G1 hg1 hc1 => ?_
  have h3 : G1 pm 0 = some (.func (.func f) x.toArray y.toArray) := hc1 0 _ rfl
  simp only [GV, frArgs, memArgs, resV, fillL, ← Bool.decide_or, ← Bool.decide_and, ← decide_not, ↓reduceIte, Nat.reduceEqDiff, Nat.reduceAdd, Nat.reduceMul, Nat.reduceLeDiff, Nat.reduceLT, Nat.reduceSub, Nat.succ_ne_zero, Nat.one_ne_zero, Nat.zero_ne_one, true_implies, false_implies, forall_const, implies_true, reduceCtorEq, eq_self, ite_true, ite_false, decide_true, decide_false, Nat.le_refl, Bool.false_eq_true, if_true, if_false]
  refine settle_intro fun G2 hg2 hc2 => ?_
  have h2 : G2 pw 0 = some (.slice aw m.length cw) := hc2 0 _ rfl
  simp only [GV, frArgs, memArgs, resV, fillL, ← Bool.decide_or, ← Bool.decide_and, ← decide_not, ↓reduceIte, Nat.reduceEqDiff, Nat.reduceAdd, Nat.reduceMul, Nat.reduceLeDiff, Nat.reduceLT, Nat.reduceSub, Nat.succ_ne_zero, Nat.one_ne_zero, Nat.zero_ne_one, true_implies, false_implies, forall_const, implies_true, reduceCtorEq, eq_self, ite_true, ite_false, decide_true, decide_false, Nat.le_refl, Bool.false_eq_true, if_true, if_false]
  refine settle_intro fun G3 hg3 hc3 => ?_
  have h1 : G3 pv 0 = some (.slice au l.length cu) := hc3 0 _ rfl
  replace h2 := hg3 _ _ _ h2
  replace h3 := hg3 _ _ _ (hg2 _ _ _ h3)
  have hgg := hg1.trans (hg2.trans hg3)
  replace hb0 := hb0.mono hgg
  replace hu := hu.mono hgg
  replace hw := hw.mono hgg
  simp only [GV, frArgs, memArgs, resV, fillL, ← Bool.decide_or, ← Bool.decide_and, ← decide_not, ↓reduceIte, Nat.reduceEqDiff, Nat.reduceAdd, Nat.reduceMul, Nat.reduceLeDiff, Nat.reduceLT, Nat.reduceSub, Nat.succ_ne_zero, Nat.one_ne_zero, Nat.zero_ne_one, true_implies, false_implies, forall_const, implies_true, reduceCtorEq, eq_self, ite_true, ite_false, decide_true, decide_false, Nat.le_refl, Bool.false_eq_true, if_true, if_false]
  refine (c_made hb0).mono ?_
  rintro o G4 Es hg4 ⟨rfl, rfl, rfl⟩
  simp only [GV, frArgs, memArgs, resV, fillL, ← Bool.decide_or, ← Bool.decide_and, ← decide_not, ↓reduceIte, Nat.reduceEqDiff, Nat.reduceAdd, Nat.reduceMul, Nat.reduceLeDiff, Nat.reduceLT, Nat.reduceSub, Nat.succ_ne_zero, Nat.one_ne_zero, Nat.zero_ne_one, true_implies, false_implies, forall_const, implies_true, reduceCtorEq, eq_self, ite_true, ite_false, decide_true, decide_false, Nat.le_refl, Bool.false_eq_true, if_true, if_false]
  refine cond_dec (fun hp => ?_) (fun hp => ?_)
  · have hp : B.p = 0 := by simpa using hp
    simp only [GV, frArgs, memArgs, resV, fillL, ← Bool.decide_or, ← Bool.decide_and, ← decide_not, ↓reduceIte, Nat.reduceEqDiff, Nat.reduceAdd, Nat.reduceMul, Nat.reduceLeDiff, Nat.reduceLT, Nat.reduceSub, Nat.succ_ne_zero, Nat.one_ne_zero, Nat.zero_ne_one, true_implies, false_implies, forall_const, implies_true, reduceCtorEq, eq_self, ite_true, ite_false, decide_true, decide_false, Nat.le_refl, Bool.false_eq_true, if_true, if_false]
    exact DoR.none (by simp only [wordsM, if_pos hp]) hb0
  have hp : B.p ≠ 0 := by simpa using hp
  simp only [GV, frArgs, memArgs, resV, fillL, ← Bool.decide_or, ← Bool.decide_and, ← decide_not, ↓reduceIte, Nat.reduceEqDiff, Nat.reduceAdd, Nat.reduceMul, Nat.reduceLeDiff, Nat.reduceLT, Nat.reduceSub, Nat.succ_ne_zero, Nat.one_ne_zero, Nat.zero_ne_one, true_implies, false_implies, forall_const, implies_true, reduceCtorEq, eq_self, ite_true, ite_false, decide_true, decide_false, Nat.le_refl, Bool.false_eq_true, if_true, if_false, h1]
  refine (c_words1_int hu).mono ?_
  rintro o G5 Es hg5 ⟨rfl, rfl, rfl⟩
  cases hbl : badW l with
  | true =>
    simp only [GV, frArgs, memArgs, resV, fillL, ← Bool.decide_or, ← Bool.decide_and, ← decide_not, ↓reduceIte, Nat.reduceEqDiff, Nat.reduceAdd, Nat.reduceMul, Nat.reduceLeDiff, Nat.reduceLT, Nat.reduceSub, Nat.succ_ne_zero, Nat.one_ne_zero, Nat.zero_ne_one, true_implies, false_implies, forall_const, implies_true, reduceCtorEq, eq_self, ite_true, ite_false, decide_true, decide_false, Nat.le_refl, Bool.false_eq_true, if_true, if_false]
    exact DoR.none (by simp only [wordsM, if_neg hp, hbl, Bool.true_or, if_true]) hb0
  | false =>
  simp only [GV, frArgs, memArgs, resV, fillL, ← Bool.decide_or, ← Bool.decide_and, ← decide_not, ↓reduceIte, Nat.reduceEqDiff, Nat.reduceAdd, Nat.reduceMul, Nat.reduceLeDiff, Nat.reduceLT, Nat.reduceSub, Nat.succ_ne_zero, Nat.one_ne_zero, Nat.zero_ne_one, true_implies, false_implies, forall_const, implies_true, reduceCtorEq, eq_self, ite_true, ite_false, decide_true, decide_false, Nat.le_refl, Bool.false_eq_true, if_true, if_false, h2]
  refine (c_words1_int hw).mono ?_
  rintro o G5 Es hg5 ⟨rfl, rfl, rfl⟩
  simp only [GV, frArgs, memArgs, resV, fillL, ← Bool.decide_or, ← Bool.decide_and, ← decide_not, ↓reduceIte, Nat.reduceEqDiff, Nat.reduceAdd, Nat.reduceMul, Nat.reduceLeDiff, Nat.reduceLT, Nat.reduceSub, Nat.succ_ne_zero, Nat.one_ne_zero, Nat.zero_ne_one, true_implies, false_implies, forall_const, implies_true, reduceCtorEq, eq_self, ite_true, ite_false, decide_true, decide_false, Nat.le_refl, Bool.false_eq_true, if_true, if_false]
  refine cond_intro (fun hbm => ?_) (fun hbm => ?_)
  · simp only [GV, frArgs, memArgs, resV, fillL, ← Bool.decide_or, ← Bool.decide_and, ← decide_not, ↓reduceIte, Nat.reduceEqDiff, Nat.reduceAdd, Nat.reduceMul, Nat.reduceLeDiff, Nat.reduceLT, Nat.reduceSub, Nat.succ_ne_zero, Nat.one_ne_zero, Nat.zero_ne_one, true_implies, false_implies, forall_const, implies_true, reduceCtorEq, eq_self, ite_true, ite_false, decide_true, decide_false, Nat.le_refl, Bool.false_eq_true, if_true, if_false]
    exact DoR.none (by simp only [wordsM, if_neg hp, hbl, hbm, Bool.false_or, if_true]) hb0
  have hbad : (badW l || badW m) = false := by rw [hbl, hbm]; rfl
  have hlen : 1 ≤ l.length ∧ l.length ≤ 16 ∧ m.length ≤ 16 := by
    simp only [badW, Bool.or_eq_false_iff, decide_eq_false_iff_not] at hbad
    omega
  simp only [GV, frArgs, memArgs, resV, fillL, ← Bool.decide_or, ← Bool.decide_and, ← decide_not, ↓reduceIte, Nat.reduceEqDiff, Nat.reduceAdd, Nat.reduceMul, Nat.reduceLeDiff, Nat.reduceLT, Nat.reduceSub, Nat.succ_ne_zero, Nat.one_ne_zero, Nat.zero_ne_one, true_implies, false_implies, forall_const, implies_true, reduceCtorEq, eq_self, ite_true, ite_false, decide_true, decide_false, Nat.le_refl, Bool.false_eq_true, if_true, if_false, h1, h2]
  refine bsl_intro fun b6 G6 hg6 hc6 => ?_
  simp only [GV, frArgs, memArgs, resV, fillL, ← Bool.decide_or, ← Bool.decide_and, ← decide_not, ↓reduceIte, Nat.reduceEqDiff, Nat.reduceAdd, Nat.reduceMul, Nat.reduceLeDiff, Nat.reduceLT, Nat.reduceSub, Nat.succ_ne_zero, Nat.one_ne_zero, Nat.zero_ne_one, true_implies, false_implies, forall_const, implies_true, reduceCtorEq, eq_self, ite_true, ite_false, decide_true, decide_false, Nat.le_refl, Bool.false_eq_true, if_true, if_false]
  refine (c_Concat (hu.mono hg6) (hw.mono hg6) (hc6 0 _ rfl) (hc6 1 _ rfl) (by omega) (by omega)).mono ?_
  rintro o G7 Es hg7 ⟨cv, rfl, hcv, rfl⟩
  simp only [GV, frArgs, memArgs, resV, fillL, ← Bool.decide_or, ← Bool.decide_and, ← decide_not, ↓reduceIte, Nat.reduceEqDiff, Nat.reduceAdd, Nat.reduceMul, Nat.reduceLeDiff, Nat.reduceLT, Nat.reduceSub, Nat.succ_ne_zero, Nat.one_ne_zero, Nat.zero_ne_one, true_implies, false_implies, forall_const, implies_true, reduceCtorEq, eq_self, ite_true, ite_false, decide_true, decide_false, Nat.le_refl, Bool.false_eq_true, if_true, if_false]
  have hg67 := hg6.trans hg7
  refine (c_do_int (x := []) (y := [.pointer (some ⟨pv, 0, none⟩), .pointer (some ⟨pw, 0, none⟩), .pointer (some ⟨pm, 0, none⟩)]) (m := if l.length ≠ m.length then rBad 2 else mm) (are := l ++ m) (hb0.mono hg67) hcv (by simp; omega) ?_ ?_).mono ?_
  · split
    · exact grows_bad 2 B
    · exact hext B
  · intro bb G8 Es8 hv hp _ hg8 hbm
    have hg68 := hg67.trans hg8
    exact c_words2_int hbm hp (hg68 _ _ _ h1) (hg68 _ _ _ h2) (hg68 _ _ _ h3) (hu.mono hg68) (hw.mono hg68) fun hl => hmake bb G8 Es8 hv hp hl (by omega) (hgg.trans hg68) hbm
  · intro o G8 Es8 hg8 hd
    have hd0 := hd
    obtain ⟨v8, e0, e1, e2, e3, rfl, rfl⟩ := hd.es_int
    simp only [GV, frArgs, memArgs, resV, fillL, ← Bool.decide_or, ← Bool.decide_and, ← decide_not, ↓reduceIte, Nat.reduceEqDiff, Nat.reduceAdd, Nat.reduceMul, Nat.reduceLeDiff, Nat.reduceLT, Nat.reduceSub, Nat.succ_ne_zero, Nat.one_ne_zero, Nat.zero_ne_one, true_implies, false_implies, forall_const, implies_true, reduceCtorEq, eq_self, ite_true, ite_false, decide_true, decide_false, Nat.le_refl, Bool.false_eq_true, if_true, if_false]
    simp only [wordsM, if_neg hp, hbad]
    exact hd0

/-- junto/word.words[[]int]$1 -/
def r_word_words_Sint_1 : RFn := ⟨11,
  .seq (.reg [] [
    ⟨(some 2), none, .mv (.c (.bool false))⟩]) <|
  .keep [0] <|
  .seq (.reg [] [
    ⟨(some 3), none, .mv (.t 0)⟩,
    ⟨(some 4), none, .len (.t 3)⟩,
    ⟨(some 5), none, .bin .lss (.t 4) (.c (.int .i64 1))⟩,
    ⟨(some 6), none, .mv (.t 5)⟩,
    ⟨(some 7), (some (6, false, true)), .mv (.t 0)⟩,
    ⟨(some 8), (some (6, false, true)), .len (.t 7)⟩,
    ⟨(some 9), (some (6, false, true)), .bin .gtr (.t 8) (.c (.int .i64 16))⟩,
    ⟨(some 10), none, .pick (.t 6) (.c (.bool true)) (.t 9)⟩,
    ⟨(some 2), none, .mv (.t 10)⟩]) <|
  .ret,
  [.tmp 2], [], []⟩

theorem k_word_words_Sint_1 : rbFn Try.prog 81 r_word_words_Sint_1 = some r_word_words_Sint_1 := by kernel_rfl

/-- junto/word.words[[]int]$2 -/
def r_word_words_Sint_2 : RFn := ⟨15,
  .seq (.reg [] [
    ⟨(some 5), none, .mv (.c (.slice none 0 0))⟩]) <|
  .keep [0, 1, 2, 3] <|
  .seq (.seq (.reg [] [
    ⟨(some 6), none, .ld none none (.t 1)⟩,
    ⟨(some 7), none, .len (.t 6)⟩,
    ⟨(some 8), none, .ld none none (.t 2)⟩,
    ⟨(some 9), none, .len (.t 8)⟩,
    ⟨(some 10), none, .bin .neq (.t 7) (.t 9)⟩]) <|
  .keep [0, 3, 10] <|
  .cond (.t 10)
    (.reg [] [
      ⟨(some 11), none, .mki 23 (.c (.int .i64 2))⟩,
      ⟨none, none, .pan (.t 11)⟩])
    (.skip)) <|
  .keep [0, 3] <|
  .seq (.reg [] [
    ⟨(some 12), none, .ld none none (.t 3)⟩,
    ⟨(some 13), none, .mv (.t 0)⟩,
    ⟨(some 14), none, .callv [0, 1, 2, 3] [0, 1, 2, 3] (.t 12) [(.t 13)]⟩,
    ⟨(some 5), none, .mv (.t 14)⟩]) <|
  .ret,
  [.tmp 5], [0, 1, 2, 3], [0, 1, 2, 3]⟩

theorem k_word_words_Sint_2 : rbFn Try.prog 83 r_word_words_Sint_2 = some r_word_words_Sint_2 := by kernel_rfl

/-- junto/word.words[[]int] -/
def r_word_words_Sint : RFn := ⟨36,
  .seq (.reg [] [
    ⟨(some 5), none, .box 105 44 (.t 1)⟩,
    ⟨(some 6), none, .box 106 44 (.t 2)⟩,
    ⟨(some 7), none, .box 107 96 (.t 3)⟩,
    ⟨(some 8), none, .mv (.c (.slice none 0 0))⟩,
    ⟨(some 9), none, .mv (.c (.int .i64 0))⟩]) <|
  .keep [0, 5, 6, 7] <|
  .settle 107 <|
  .settle 106 <|
  .settle 105 <|
  .seq (.reg [] [
    ⟨(some 10), none, .mv (.c (.slice none 0 0))⟩]) <|
  .keep [0, 5, 6, 7, 10] <|
  .seq (.reg [] [
    ⟨(some 11), none, .mv (.c (.func (.func 81) #[] #[]))⟩]) <|
  .keep [0, 5, 6, 7, 10, 11] <|
  .seq (.block 0 <|
  .seq (.reg [] [
    ⟨(some 13), none, .mv (.t 0)⟩,
    ⟨(some 14), none, .call [0] [0] 24 [(.t 13)]⟩,
    ⟨(some 15), none, .un .not (.t 14)⟩,
    ⟨(some 12), none, .mv (.t 15)⟩]) <|
  .keep [0, 5, 6, 7, 10, 11, 12] <|
  .cond (.t 12)
    (.seq (.reg [] [
      ⟨(some 16), none, .mv (.t 10)⟩,
      ⟨(some 8), none, .mv (.t 16)⟩,
      ⟨(some 9), none, .mv (.c (.int .i64 1))⟩]) <|
    .ret)
    (.seq (.reg [] [
      ⟨(some 18), none, .mv (.t 11)⟩,
      ⟨(some 19), none, .ld none none (.t 5)⟩,
      ⟨(some 20), none, .callv [] [] (.t 18) [(.t 19)]⟩,
      ⟨(some 21), none, .mv (.t 20)⟩,
      ⟨(some 22), (some (21, false, false)), .mv (.t 11)⟩,
      ⟨(some 23), (some (21, false, false)), .ld none none (.t 6)⟩,
      ⟨(some 24), (some (21, false, false)), .callv [] [] (.t 22) [(.t 23)]⟩,
      ⟨(some 25), none, .pick (.t 21) (.c (.bool true)) (.t 24)⟩,
      ⟨(some 17), none, .mv (.t 25)⟩]) <|
    .keep [0, 5, 6, 7, 10, 17] <|
    .cond (.t 17)
      (.seq (.reg [] [
        ⟨(some 26), none, .mv (.t 10)⟩,
        ⟨(some 8), none, .mv (.t 26)⟩,
        ⟨(some 9), none, .mv (.c (.int .i64 3))⟩]) <|
      .ret)
      (.skip))) <|
  .keep [0, 5, 6, 7] <|
  .seq (.reg [] [
    ⟨(some 27), none, .mv (.t 0)⟩,
    ⟨(some 28), none, .ld none none (.t 5)⟩,
    ⟨(some 29), none, .ld none none (.t 6)⟩,
    ⟨(some 30), none, .bsl none 44 2 1 [(.slice none 0 0), (.slice none 0 0)] [(0, 1), (1, 1)] [(0, (.t 28)), (1, (.t 29))]⟩,
    ⟨(some 31), none, .call [] [] 63 [(.t 30)]⟩,
    ⟨(some 32), none, .mkf (.func 83) [] [(.t 5), (.t 6), (.t 7)]⟩,
    ⟨(some 33), none, .call [0, 1, 2, 3] [0, 1, 2, 3] 82 [(.t 27), (.t 31), (.t 32)]⟩,
    ⟨(some 34), none, .ext 0 (.t 33)⟩,
    ⟨(some 35), none, .ext 1 (.t 33)⟩,
    ⟨(some 8), none, .mv (.t 34)⟩,
    ⟨(some 9), none, .mv (.t 35)⟩]) <|
  .ret,
  [.tmp 8, .tmp 9], [0, 1, 2, 3], [0, 1, 2, 3]⟩

theorem k_word_words_Sint : rbFn Try.prog 54 r_word_words_Sint = some r_word_words_Sint := by kernel_rfl


theorem c_words1_Sint {v : Value} {l : List Int} {G : GH} (hv : SlI G .i64 v l) : Pure 81 [v] G (.bool (badW l)) := by
  obtain ⟨a, c, rfl, h1, h2, hrow⟩ := hv
  refine acalls mixed k_word_words_Sint_1 (by simp) fun F => ?_
  simp only [GV, frArgs, memArgs, resV, fillL, ← Bool.decide_or, ← Bool.decide_and, ← decide_not, ↓reduceIte, Nat.reduceEqDiff, Nat.reduceAdd, Nat.reduceMul, Nat.reduceLeDiff, Nat.reduceLT, Nat.reduceSub, Nat.succ_ne_zero, Nat.one_ne_zero, Nat.zero_ne_one, true_implies, false_implies, forall_const, implies_true, reduceCtorEq, eq_self, ite_true, ite_false, decide_true, decide_false, Nat.le_refl, Bool.false_eq_true, if_true, if_false, badW]
  have e : decide ((l.length : Int) < 1 ∨ (16 : Int) < l.length) = decide (l.length < 1 ∨ 16 < l.length) := by
    apply decide_eq_decide.2; omega
  rw [e]
set_option maxHeartbeats 1000000 in
theorem c_words2_Sint {v w : Value} {l m : List Int} {pv pw pm bb : Nat} {f : FuncId} {x y : List Value} {mm : Rm (List Int)} {B : Bd} {G : GH} {Es : List (List Ent)} (hb : BoardM G bb B Es) (hp : B.p ≠ 0) (h1 : G pv 0 = some v) (h2 : G pw 0 = some w) (h3 : G pm 0 = some (.func (.func f) x.toArray y.toArray)) (hv : SlI G .i64 v l) (hw : SlI G .i64 w m)
    (hmake : l.length = m.length → ACalls Try.prog f (x ++ [rg bb] ++ y) G Es (WR bb encW (mm B))) :
    ACalls Try.prog 83 [rg bb, .pointer (some ⟨pv, 0, none⟩), .pointer (some ⟨pw, 0, none⟩), .pointer (some ⟨pm, 0, none⟩)] G Es (WR bb encW ((if l.length ≠ m.length then rBad 2 else mm) B)) := by
  obtain ⟨a, c, rfl, hl1, hl2, hrow⟩ := hv
  obtain ⟨a', c', rfl, hl3, hl4, hrow2⟩ := hw
  obtain ⟨e0, e1, e2, e3, rfl⟩ := hb.es
  refine acalls mixed k_word_words_Sint_2 (by simp) fun F => ?_
  simp only [GV, frArgs, memArgs, resV, fillL, ← Bool.decide_or, ← Bool.decide_and, ← decide_not, ↓reduceIte, Nat.reduceEqDiff, Nat.reduceAdd, Nat.reduceMul, Nat.reduceLeDiff, Nat.reduceLT, Nat.reduceSub, Nat.succ_ne_zero, Nat.one_ne_zero, Nat.zero_ne_one, true_implies, false_implies, forall_const, implies_true, reduceCtorEq, eq_self, ite_true, ite_false, decide_true, decide_false, Nat.le_refl, Bool.false_eq_true, if_true, if_false, h1, h2]
  refine cond_dec (fun h => ?_) (fun h => ?_)
  · have hne : l.length ≠ m.length := by omega
    simp only [GV, frArgs, memArgs, resV, fillL, ← Bool.decide_or, ← Bool.decide_and, ← decide_not, ↓reduceIte, Nat.reduceEqDiff, Nat.reduceAdd, Nat.reduceMul, Nat.reduceLeDiff, Nat.reduceLT, Nat.reduceSub, Nat.succ_ne_zero, Nat.one_ne_zero, Nat.zero_ne_one, true_implies, false_implies, forall_const, implies_true, reduceCtorEq, eq_self, ite_true, ite_false, decide_true, decide_false, Nat.le_refl, Bool.false_eq_true, if_true, if_false]
    exact WR.bad (by rw [if_pos hne]; rfl) hb hp
  · have hne : ¬ l.length ≠ m.length := by omega
    simp only [GV, frArgs, memArgs, resV, fillL, ← Bool.decide_or, ← Bool.decide_and, ← decide_not, ↓reduceIte, Nat.reduceEqDiff, Nat.reduceAdd, Nat.reduceMul, Nat.reduceLeDiff, Nat.reduceLT, Nat.reduceSub, Nat.succ_ne_zero, Nat.one_ne_zero, Nat.zero_ne_one, true_implies, false_implies, forall_const, implies_true, reduceCtorEq, eq_self, ite_true, ite_false, decide_true, decide_false, Nat.le_refl, Bool.false_eq_true, if_true, if_false, h3]
    refine wcallf (hmake (by omega)) ?_ ?_
    · rintro k B1 u G4 e0 e1 e2 e3 hg4 hr hu hbm hp1
      simp only [GV, frArgs, memArgs, resV, fillL, ← Bool.decide_or, ← Bool.decide_and, ← decide_not, ↓reduceIte, Nat.reduceEqDiff, Nat.reduceAdd, Nat.reduceMul, Nat.reduceLeDiff, Nat.reduceLT, Nat.reduceSub, Nat.succ_ne_zero, Nat.one_ne_zero, Nat.zero_ne_one, true_implies, false_implies, forall_const, implies_true, reduceCtorEq, eq_self, ite_true, ite_false, decide_true, decide_false, Nat.le_refl, Bool.false_eq_true, if_true, if_false]
      exact WR.ok (by rw [if_neg hne]; exact hr) hu hbm hp1
    · rintro e B1 G4 e0 e1 e2 e3 hg4 hr hbm hp1
      simp only [GV, frArgs, memArgs, resV, fillL, ← Bool.decide_or, ← Bool.decide_and, ← decide_not, ↓reduceIte, Nat.reduceEqDiff, Nat.reduceAdd, Nat.reduceMul, Nat.reduceLeDiff, Nat.reduceLT, Nat.reduceSub, Nat.succ_ne_zero, Nat.one_ne_zero, Nat.zero_ne_one, true_implies, false_implies, forall_const, implies_true, reduceCtorEq, eq_self, ite_true, ite_false, decide_true, decide_false, Nat.le_refl, Bool.false_eq_true, if_true, if_false]
      exact WR.bad (by rw [if_neg hne]; exact hr) hbm hp1
theorem DoR.es_Sint {vb z : Value} {r : Option (List Int) × Int × Bd} {o : Out} {G' : GH} {Es' : List (List Ent)} (h : DoR vb z encW r o G' Es') : ∃ v e0 e1 e2 e3, o = .ret (.tuple #[v, .int .i64 r.2.1]) ∧ Es' = [e0, e1, e2, e3] := by
  obtain ⟨v, h1, h2, h3⟩ := h
  rcases h3 with ⟨_, _, rfl⟩ | ⟨bb, _, v1, v2, v3, es1, es2, es3, rfl, _⟩
  · exact ⟨v, _, _, _, _, h1, rfl⟩
  · exact ⟨v, _, _, _, _, h1, rfl⟩

set_option maxHeartbeats 1000000 in
set_option maxRecDepth 20000 in
theorem c_words_Sint {v u w : Value} {B : Bd} {Es : List (List Ent)} {l m : List Int} {f : FuncId} {x y : List Value} {mm : Rm (List Int)} {G : GH} (hb : BoardV G v B Es) (hu : SlI G .i64 u l) (hw : SlI G .i64 w m)
    (hext : Grows mm) (hmake : ∀ bb G' Es', v = .pointer (some ⟨bb, 0, none⟩) → B.p ≠ 0 → l.length = m.length → l.length ≤ 16 → GLe G G' → BoardM G' bb B Es' → ACalls Try.prog f (x ++ [rg bb] ++ y) G' Es' (WR bb encW (mm B))) :
    ACalls Try.prog 54 [v, u, w, .func (.func f) x.toArray y.toArray] G Es (DoR v (.slice none 0 0) encW (wordsM B l m mm)) := by
  have hb0 := hb
  have hu0 := hu
  have hw0 := hw
  obtain ⟨au, cu, rfl, -⟩ := hu0
  obtain ⟨aw, cw, rfl, -⟩ := hw0
  obtain ⟨es0, es1, es2, es3, rfl⟩ : ∃ a b c d, Es = [a, b, c, d] := by
    rcases hb with ⟨_, _, rfl⟩ | ⟨bb, _, v1, v2, v3, es1, es2, es3, rfl, _⟩ <;> exact ⟨_, _, _, _, rfl⟩
  refine acalls mixed k_word_words_Sint (by simp) fun F => ?_
  simp only [GV, frArgs, memArgs, resV, fillL, ← Bool.decide_or, ← Bool.decide_and, ← decide_not, ↓reduceIte, Nat.reduceEqDiff, Nat.reduceAdd, Nat.reduceMul, Nat.reduceLeDiff, Nat.reduceLT, Nat.reduceSub, Nat.succ_ne_zero, Nat.one_ne_zero, Nat.zero_ne_one, true_implies, false_implies, forall_const, implies_true, reduceCtorEq, eq_self, ite_true, ite_false, decide_true, decide_false, Nat.le_refl, Bool.false_eq_true, if_true, if_false]
  intro pv pw pm
  refine settle_intro fun G1 hg1 hc1 => ?_
  have h3 : G1 pm 0 = some (.func (.func f) x.toArray y.toArray) := hc1 0 _ rfl
  simp only [GV, frArgs, memArgs, resV, fillL, ← Bool.decide_or, ← Bool.decide_and, ← decide_not, ↓reduceIte, Nat.reduceEqDiff, Nat.reduceAdd, Nat.reduceMul, Nat.reduceLeDiff, Nat.reduceLT, Nat.reduceSub, Nat.succ_ne_zero, Nat.one_ne_zero, Nat.zero_ne_one, true_implies, false_implies, forall_const, implies_true, reduceCtorEq, eq_self, ite_true, ite_false, decide_true, decide_false, Nat.le_refl, Bool.false_eq_true, if_true, if_false]
  refine settle_intro fun G2 hg2 hc2 => ?_
  have h2 : G2 pw 0 = some (.slice aw m.length cw) := hc2 0 _ rfl
  simp only [GV, frArgs, memArgs, resV, fillL, ← Bool.decide_or, ← Bool.decide_and, ← decide_not, ↓reduceIte, Nat.reduceEqDiff, Nat.reduceAdd, Nat.reduceMul, Nat.reduceLeDiff, Nat.reduceLT, Nat.reduceSub, Nat.succ_ne_zero, Nat.one_ne_zero, Nat.zero_ne_one, true_implies, false_implies, forall_const, implies_true, reduceCtorEq, eq_self, ite_true, ite_false, decide_true, decide_false, Nat.le_refl, Bool.false_eq_true, if_true, if_false]
  refine settle_intro fun G3 hg3 hc3 => ?_
  have h1 : G3 pv 0 = some (.slice au l.length cu) := hc3 0 _ rfl
  replace h2 := hg3 _ _ _ h2
  replace h3 := hg3 _ _ _ (hg2 _ _ _ h3)
  have hgg := hg1.trans (hg2.trans hg3)
  replace hb0 := hb0.mono hgg
  replace hu := hu.mono hgg
  replace hw := hw.mono hgg
  simp only [GV, frArgs, memArgs, resV, fillL, ← Bool.decide_or, ← Bool.decide_and, ← decide_not, ↓reduceIte, Nat.reduceEqDiff, Nat.reduceAdd, Nat.reduceMul, Nat.reduceLeDiff, Nat.reduceLT, Nat.reduceSub, Nat.succ_ne_zero, Nat.one_ne_zero, Nat.zero_ne_one, true_implies, false_implies, forall_const, implies_true, reduceCtorEq, eq_self, ite_true, ite_false, decide_true, decide_false, Nat.le_refl, Bool.false_eq_true, if_true, if_false]
  refine (c_made hb0).mono ?_
  rintro o G4 Es hg4 ⟨rfl, rfl, rfl⟩
  simp only [GV, frArgs, memArgs, resV, fillL, ← Bool.decide_or, ← Bool.decide_and, ← decide_not, ↓reduceIte, Nat.reduceEqDiff, Nat.reduceAdd, Nat.reduceMul, Nat.reduceLeDiff, Nat.reduceLT, Nat.reduceSub, Nat.succ_ne_zero, Nat.one_ne_zero, Nat.zero_ne_one, true_implies, false_implies, forall_const, implies_true, reduceCtorEq, eq_self, ite_true, ite_false, decide_true, decide_false, Nat.le_refl, Bool.false_eq_true, if_true, if_false]
  refine cond_dec (fun hp => ?_) (fun hp => ?_)
  · have hp : B.p = 0 := by simpa using hp
    simp only [GV, frArgs, memArgs, resV, fillL, ← Bool.decide_or, ← Bool.decide_and, ← decide_not, ↓reduceIte, Nat.reduceEqDiff, Nat.reduceAdd, Nat.reduceMul, Nat.reduceLeDiff, Nat.reduceLT, Nat.reduceSub, Nat.succ_ne_zero, Nat.one_ne_zero, Nat.zero_ne_one, true_implies, false_implies, forall_const, implies_true, reduceCtorEq, eq_self, ite_true, ite_false, decide_true, decide_false, Nat.le_refl, Bool.false_eq_true, if_true, if_false]
    exact DoR.none (by simp only [wordsM, if_pos hp]) hb0
  have hp : B.p ≠ 0 := by simpa using hp
  simp only [GV, frArgs, memArgs, resV, fillL, ← Bool.decide_or, ← Bool.decide_and, ← decide_not, ↓reduceIte, Nat.reduceEqDiff, Nat.reduceAdd, Nat.reduceMul, Nat.reduceLeDiff, Nat.reduceLT, Nat.reduceSub, Nat.succ_ne_zero, Nat.one_ne_zero, Nat.zero_ne_one, true_implies, false_implies, forall_const, implies_true, reduceCtorEq, eq_self, ite_true, ite_false, decide_true, decide_false, Nat.le_refl, Bool.false_eq_true, if_true, if_false, h1]
  refine (c_words1_Sint hu).mono ?_
  rintro o G5 Es hg5 ⟨rfl, rfl, rfl⟩
  cases hbl : badW l with
  | true =>
    simp only [GV, frArgs, memArgs, resV, fillL, ← Bool.decide_or, ← Bool.decide_and, ← decide_not, ↓reduceIte, Nat.reduceEqDiff, Nat.reduceAdd, Nat.reduceMul, Nat.reduceLeDiff, Nat.reduceLT, Nat.reduceSub, Nat.succ_ne_zero, Nat.one_ne_zero, Nat.zero_ne_one, true_implies, false_implies, forall_const, implies_true, reduceCtorEq, eq_self, ite_true, ite_false, decide_true, decide_false, Nat.le_refl, Bool.false_eq_true, if_true, if_false]
    exact DoR.none (by simp only [wordsM, if_neg hp, hbl, Bool.true_or, if_true]) hb0
  | false =>
  simp only [GV, frArgs, memArgs, resV, fillL, ← Bool.decide_or, ← Bool.decide_and, ← decide_not, ↓reduceIte, Nat.reduceEqDiff, Nat.reduceAdd, Nat.reduceMul, Nat.reduceLeDiff, Nat.reduceLT, Nat.reduceSub, Nat.succ_ne_zero, Nat.one_ne_zero, Nat.zero_ne_one, true_implies, false_implies, forall_const, implies_true, reduceCtorEq, eq_self, ite_true, ite_false, decide_true, decide_false, Nat.le_refl, Bool.false_eq_true, if_true, if_false, h2]
  refine (c_words1_Sint hw).mono ?_
  rintro o G5 Es hg5 ⟨rfl, rfl, rfl⟩
  simp only [GV, frArgs, memArgs, resV, fillL, ← Bool.decide_or, ← Bool.decide_and, ← decide_not, ↓reduceIte, Nat.reduceEqDiff, Nat.reduceAdd, Nat.reduceMul, Nat.reduceLeDiff, Nat.reduceLT, Nat.reduceSub, Nat.succ_ne_zero, Nat.one_ne_zero, Nat.zero_ne_one, true_implies, false_implies, forall_const, implies_true, reduceCtorEq, eq_self, ite_true, ite_false, decide_true, decide_false, Nat.le_refl, Bool.false_eq_true, if_true, if_false]
  refine cond_intro (fun hbm => ?_) (fun hbm => ?_)
  · simp only [GV, frArgs, memArgs, resV, fillL, ← Bool.decide_or, ← Bool.decide_and, ← decide_not, ↓reduceIte, Nat.reduceEqDiff, Nat.reduceAdd, Nat.reduceMul, Nat.reduceLeDiff, Nat.reduceLT, Nat.reduceSub, Nat.succ_ne_zero, Nat.one_ne_zero, Nat.zero_ne_one, true_implies, false_implies, forall_const, implies_true, reduceCtorEq, eq_self, ite_true, ite_false, decide_true, decide_false, Nat.le_refl, Bool.false_eq_true, if_true, if_false]
    exact DoR.none (by simp only [wordsM, if_neg hp, hbl, hbm, Bool.false_or, if_true]) hb0
  have hbad : (badW l || badW m) = false := by rw [hbl, hbm]; rfl
  have hlen : 1 ≤ l.length ∧ l.length ≤ 16 ∧ m.length ≤ 16 := by
    simp only [badW, Bool.or_eq_false_iff, decide_eq_false_iff_not] at hbad
    omega
  simp only [GV, frArgs, memArgs, resV, fillL, ← Bool.decide_or, ← Bool.decide_and, ← decide_not, ↓reduceIte, Nat.reduceEqDiff, Nat.reduceAdd, Nat.reduceMul, Nat.reduceLeDiff, Nat.reduceLT, Nat.reduceSub, Nat.succ_ne_zero, Nat.one_ne_zero, Nat.zero_ne_one, true_implies, false_implies, forall_const, implies_true, reduceCtorEq, eq_self, ite_true, ite_false, decide_true, decide_false, Nat.le_refl, Bool.false_eq_true, if_true, if_false, h1, h2]
  refine bsl_intro fun b6 G6 hg6 hc6 => ?_
  simp only [GV, frArgs, memArgs, resV, fillL, ← Bool.decide_or, ← Bool.decide_and, ← decide_not, ↓reduceIte, Nat.reduceEqDiff, Nat.reduceAdd, Nat.reduceMul, Nat.reduceLeDiff, Nat.reduceLT, Nat.reduceSub, Nat.succ_ne_zero, Nat.one_ne_zero, Nat.zero_ne_one, true_implies, false_implies, forall_const, implies_true, reduceCtorEq, eq_self, ite_true, ite_false, decide_true, decide_false, Nat.le_refl, Bool.false_eq_true, if_true, if_false]
  refine (c_Concat (hu.mono hg6) (hw.mono hg6) (hc6 0 _ rfl) (hc6 1 _ rfl) (by omega) (by omega)).mono ?_
  rintro o G7 Es hg7 ⟨cv, rfl, hcv, rfl⟩
  simp only [GV, frArgs, memArgs, resV, fillL, ← Bool.decide_or, ← Bool.decide_and, ← decide_not, ↓reduceIte, Nat.reduceEqDiff, Nat.reduceAdd, Nat.reduceMul, Nat.reduceLeDiff, Nat.reduceLT, Nat.reduceSub, Nat.succ_ne_zero, Nat.one_ne_zero, Nat.zero_ne_one, true_implies, false_implies, forall_const, implies_true, reduceCtorEq, eq_self, ite_true, ite_false, decide_true, decide_false, Nat.le_refl, Bool.false_eq_true, if_true, if_false]
  have hg67 := hg6.trans hg7
  refine (c_do_Sint (x := []) (y := [.pointer (some ⟨pv, 0, none⟩), .pointer (some ⟨pw, 0, none⟩), .pointer (some ⟨pm, 0, none⟩)]) (m := if l.length ≠ m.length then rBad 2 else mm) (are := l ++ m) (hb0.mono hg67) hcv (by simp; omega) ?_ ?_).mono ?_
  · split
    · exact grows_bad 2 B
    · exact hext B
  · intro bb G8 Es8 hv hp _ hg8 hbm
    have hg68 := hg67.trans hg8
    exact c_words2_Sint hbm hp (hg68 _ _ _ h1) (hg68 _ _ _ h2) (hg68 _ _ _ h3) (hu.mono hg68) (hw.mono hg68) fun hl => hmake bb G8 Es8 hv hp hl (by omega) (hgg.trans hg68) hbm
  · intro o G8 Es8 hg8 hd
    have hd0 := hd
    obtain ⟨v8, e0, e1, e2, e3, rfl, rfl⟩ := hd.es_Sint
    simp only [GV, frArgs, memArgs, resV, fillL, ← Bool.decide_or, ← Bool.decide_and, ← decide_not, ↓reduceIte, Nat.reduceEqDiff, Nat.reduceAdd, Nat.reduceMul, Nat.reduceLeDiff, Nat.reduceLT, Nat.reduceSub, Nat.succ_ne_zero, Nat.one_ne_zero, Nat.zero_ne_one, true_implies, false_implies, forall_const, implies_true, reduceCtorEq, eq_self, ite_true, ite_false, decide_true, decide_false, Nat.le_refl, Bool.false_eq_true, if_true, if_false]
    simp only [wordsM, if_neg hp, hbad]
    exact hd0
end Go.Gv.W

