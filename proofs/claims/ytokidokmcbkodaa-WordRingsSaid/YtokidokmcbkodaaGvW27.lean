/-
  Words of constants. No condition.
-/
import Derived.Test.YtokidokmcbkodaaGvW26
namespace Go.Gv.W
set_option linter.unusedSimpArgs false
set_option linter.unusedVariables false
set_option linter.unusedSectionVars false
open Go.RowKit Go.Proofs

/-- junto/juntolaw13.of -/
def r_law13_of : RFn := ⟨30,
  .ghost 110 <|
  .seq (.reg [] [
    ⟨(some 6), none, .mv (.c (.slice none 0 0))⟩]) <|
  .keep [0, 1, 2] <|
  .seq (.reg [] [
    ⟨(some 7), none, .mv (.c (.slice none 0 0))⟩]) <|
  .keep [0, 1, 2, 7] <|
  .seq (.seq (.reg [] [
    ⟨(some 11), none, .mv (.t 1)⟩,
    ⟨(some 12), none, .mv (.c (.int .i64 0))⟩]) <|
  .keep [0, 2, 7, 11, 12] <|
  .block 0 <|
  .loop [0, 2, 7, 11, 12] [0, 1, 2, 3, 110, 1000000] <|
  .seq (.reg [] [
    ⟨(some 13), none, .bin .lss (.t 12) (.t 11)⟩]) <|
  .keep [0, 2, 7, 11, 12, 13] <|
  .seq (.cond (.t 13)
    (.skip)
    (.exit 0)) <|
  .keep [0, 2, 7, 11, 12] <|
  .seq (.block 1 <|
  .seq (.reg [] [
    ⟨(some 14), none, .mv (.t 12)⟩,
    ⟨(some 8), none, .mv (.t 14)⟩]) <|
  .keep [0, 2, 7, 8, 11, 12] <|
  .seq (.reg [] [
    ⟨(some 16), none, .mv (.t 0)⟩,
    ⟨(some 17), none, .mv (.t 2)⟩,
    ⟨(some 18), none, .mv (.t 8)⟩,
    ⟨(some 19), none, .bin .shr (.t 17) (.t 18)⟩,
    ⟨(some 20), none, .bin .and (.t 19) (.c (.int .u64 1))⟩,
    ⟨(some 21), none, .call [0, 1, 2, 3] [0, 1, 2, 3] 9 [(.t 16), (.t 20)]⟩,
    ⟨(some 15), none, .mv (.t 21)⟩,
    ⟨(some 22), none, .ext 0 (.t 15)⟩,
    ⟨(some 23), none, .ext 1 (.t 15)⟩,
    ⟨(some 9), none, .mv (.t 22)⟩,
    ⟨(some 10), none, .mv (.t 23)⟩]) <|
  .keep [0, 2, 7, 9, 11, 12] <|
  .reg [] [
    ⟨(some 24), none, .mv (.t 7)⟩,
    ⟨(some 25), none, .mv (.t 9)⟩,
    ⟨(some 26), none, .bsl none 3 1 1 [(.int .i64 0)] [(0, 1)] [(0, (.t 25))]⟩,
    ⟨(some 27), none, .app (some 110) 110 3 1 8 (.t 24) (.t 26)⟩,
    ⟨(some 7), none, .mv (.t 27)⟩]) <|
  .keep [0, 2, 7, 11, 12] <|
  .reg [] [
    ⟨(some 28), none, .bin .add (.t 12) (.c (.int .i64 1))⟩,
    ⟨(some 12), none, .mv (.t 28)⟩]) <|
  .keep [7] <|
  .seq (.reg [] [
    ⟨(some 29), none, .mv (.t 7)⟩,
    ⟨(some 6), none, .mv (.t 29)⟩]) <|
  .ret,
  [.tmp 6], [0, 1, 2, 3], [0, 1, 2, 3]⟩

theorem k_law13_of : rbFn Try.prog 12 r_law13_of = some r_law13_of := by kernel_rfl


theorem and_one (y : Nat) : IntKind.u64.wrap ((BitVec.ofInt IntKind.u64.bits (y : Int) &&& BitVec.ofInt IntKind.u64.bits 1).toNat : Int) = ((y % 2 : Nat) : Int) := by
  have h1 : (BitVec.ofInt IntKind.u64.bits (y : Int) &&& BitVec.ofInt IntKind.u64.bits 1).toNat = y % 2 := by
    show (BitVec.ofInt 64 (y : Int) &&& BitVec.ofInt 64 1).toNat = y % 2
    rw [show BitVec.ofInt 64 (y : Int) = BitVec.ofNat 64 y from BitVec.ofInt_natCast .., show BitVec.ofInt 64 1 = BitVec.ofNat 64 1 from rfl, BitVec.toNat_and]
    simp only [BitVec.toNat_ofNat]
    rw [show (1 : Nat) % 2 ^ 64 = 1 from rfl, Nat.and_one_is_mod]
    omega
  rw [h1, wrapu (by omega) (by omega)]
theorem fdiv_two (x i : Nat) (hi : i ≤ 64) : (x : Int).fdiv (2 ^ min i IntKind.u64.bits) = ((x / 2 ^ i : Nat) : Int) := by
  have h : min i IntKind.u64.bits = i := by show min i 64 = i; omega
  rw [h, Int.fdiv_eq_ediv_of_nonneg _ (Int.pow_nonneg (by omega))]
  norm_cast

/-- Constants for the bits of a number, and the board with them. -/
def ofA (x : Nat) : Nat → Nat → List Int → Bd → List Int × Bd
  | 0, _, w, B => (w, B)
  | n + 1, i, w, B => ofA x n (i + 1) (w ++ [(B.put ⟨2, 0, 0, x / 2 ^ i % 2⟩).1]) (B.put ⟨2, 0, 0, x / 2 ^ i % 2⟩).2.2
def ofM (n x : Nat) (B : Bd) : List Int × Bd := ofA x n 0 [] B

theorem boardV_es {G : GH} {v : Value} {B : Bd} {Es : List (List Ent)} (h : BoardV G v B Es) : ∃ a b c d, Es = [a, b, c, d] := by
  rcases h with ⟨_, _, rfl⟩ | ⟨bb, _, v1, v2, v3, es1, es2, es3, rfl, _⟩ <;> exact ⟨_, _, _, _, rfl⟩

set_option maxHeartbeats 1000000 in
set_option maxRecDepth 20000 in
theorem c_of {G : GH} {v : Value} {B : Bd} {Es : List (List Ent)} {n x : Nat} (hb : BoardV G v B Es) (hn : n ≤ 64) :
    ACalls Try.prog 12 [v, .int .i64 n, .int .u64 x] G Es fun o G' Es' => ∃ u, o = .ret u ∧ SlI G' .i64 u (ofM n x B).1 ∧ BoardV G' v (ofM n x B).2 Es' := by
  obtain ⟨e0, e1, e2, e3, rfl⟩ := boardV_es hb
  refine acalls mixed k_law13_of (by simp) fun F => ?_
  simp only [GV, frArgs, memArgs, resV, fillL, ← Bool.decide_or, ← Bool.decide_and, ← decide_not, ↓reduceIte, Nat.reduceEqDiff, Nat.reduceAdd, Nat.reduceMul, Nat.reduceLeDiff, Nat.reduceLT, Nat.reduceSub, Nat.succ_ne_zero, Nat.one_ne_zero, Nat.zero_ne_one, true_implies, false_implies, forall_const, implies_true, reduceCtorEq, eq_self, ite_true, ite_false, decide_true, decide_false, Nat.le_refl, Bool.false_eq_true, if_true, if_false]
  refine loop_intro (fun m fr G' M => ∃ (i : Nat) (acc : List Int) (vo : Value) (es : List Ent) (B' : Bd) (e0 e1 e2 e3 : List Ent), m = n - i ∧ i ≤ n ∧ acc.length = i ∧ ofM n x B = ofA x (n - i) i acc B' ∧ BoardV G' v B' [e0, e1, e2, e3] ∧
      OwnS G' 3 1 vo (encI .i64 acc).flatten es ∧
      fr = [(0, true, v), (2, true, .int .u64 x), (7, true, vo), (11, true, .int .i64 n), (12, true, .int .i64 i)] ∧
      M = [(0, e0), (1, e1), (2, e2), (3, e3), (110, es), (1000000, F)]) n ⟨0, [], _, [], B, e0, e1, e2, e3, by simp, by simp, rfl, by simp [ofM], hb, OwnS.nil _ _ _, rfl, rfl⟩ ?_
  clear hb
  rintro m fr G1 M - ⟨i, acc, vo, es, B1, e0, e1, e2, e3, rfl, hi, hacc, hmod, hb, hown, rfl, rfl⟩
  simp only [GV, frArgs, memArgs, resV, fillL, ← Bool.decide_or, ← Bool.decide_and, ← decide_not, ↓reduceIte, Nat.reduceEqDiff, Nat.reduceAdd, Nat.reduceMul, Nat.reduceLeDiff, Nat.reduceLT, Nat.reduceSub, Nat.succ_ne_zero, Nat.one_ne_zero, Nat.zero_ne_one, true_implies, false_implies, forall_const, implies_true, reduceCtorEq, eq_self, ite_true, ite_false, decide_true, decide_false, Nat.le_refl, Bool.false_eq_true, if_true, if_false]
  refine cond_dec (fun h => ?_) (fun h => ?_)
  · have hlt : i < n := by omega
    obtain ⟨k, hk⟩ : ∃ k, n - i = k + 1 := ⟨n - i - 1, by omega⟩
    rw [hk, ofA] at hmod
    simp only [GV, frArgs, memArgs, resV, fillL, ← Bool.decide_or, ← Bool.decide_and, ← decide_not, ↓reduceIte, Nat.reduceEqDiff, Nat.reduceAdd, Nat.reduceMul, Nat.reduceLeDiff, Nat.reduceLT, Nat.reduceSub, Nat.succ_ne_zero, Nat.one_ne_zero, Nat.zero_ne_one, true_implies, false_implies, forall_const, implies_true, reduceCtorEq, eq_self, ite_true, ite_false, decide_true, decide_false, Nat.le_refl, Bool.false_eq_true, if_true, if_false, fdiv_two x i (by omega), and_one]
    refine ⟨by omega, ?_⟩
    refine (c_Const hb).mono ?_
    rintro o G2 Es hg ⟨rfl, hb⟩
    obtain ⟨e0, e1, e2, e3, rfl⟩ := boardV_es hb
    replace hown := hown.mono hg
    simp only [GV, frArgs, memArgs, resV, fillL, ← Bool.decide_or, ← Bool.decide_and, ← decide_not, ↓reduceIte, Nat.reduceEqDiff, Nat.reduceAdd, Nat.reduceMul, Nat.reduceLeDiff, Nat.reduceLT, Nat.reduceSub, Nat.succ_ne_zero, Nat.one_ne_zero, Nat.zero_ne_one, true_implies, false_implies, forall_const, implies_true, reduceCtorEq, eq_self, ite_true, ite_false, decide_true, decide_false, Nat.le_refl, Bool.false_eq_true, if_true, if_false]
    refine bsl_intro fun b5 G3 hg3 hc5 => ?_
    simp only [GV, frArgs, memArgs, resV, fillL, ← Bool.decide_or, ← Bool.decide_and, ← decide_not, ↓reduceIte, Nat.reduceEqDiff, Nat.reduceAdd, Nat.reduceMul, Nat.reduceLeDiff, Nat.reduceLT, Nat.reduceSub, Nat.succ_ne_zero, Nat.one_ne_zero, Nat.zero_ne_one, true_implies, false_implies, forall_const, implies_true, reduceCtorEq, eq_self, ite_true, ite_false, decide_true, decide_false, Nat.le_refl, Bool.false_eq_true, if_true, if_false]
    refine app_moreN rfl (hown.mono hg3) (encI_len _ _) (row_one hc5 rfl) rfl (int_one _) (by rw [encI_length]; omega) (fun v' es' G4 hg4 ho => ?_)
    replace ho := own_more ho
    simp only [GV, frArgs, memArgs, resV, fillL, ← Bool.decide_or, ← Bool.decide_and, ← decide_not, ↓reduceIte, Nat.reduceEqDiff, Nat.reduceAdd, Nat.reduceMul, Nat.reduceLeDiff, Nat.reduceLT, Nat.reduceSub, Nat.succ_ne_zero, Nat.one_ne_zero, Nat.zero_ne_one, true_implies, false_implies, forall_const, implies_true, reduceCtorEq, eq_self, ite_true, ite_false, decide_true, decide_false, Nat.le_refl, Bool.false_eq_true, if_true, if_false, wrapn (show i < maxLen by simp only [maxLen]; omega)]
    exact ⟨n - (i + 1), by omega, i + 1, _, v', es', _, e0, e1, e2, e3, rfl, by omega, by simp [hacc], by rw [hmod, show n - (i + 1) = k by omega], hb.mono (hg3.trans hg4), ho, rfl, rfl⟩
  · rw [show n - i = 0 by omega, ofA] at hmod
    simp only [GV, frArgs, memArgs, resV, fillL, ← Bool.decide_or, ← Bool.decide_and, ← decide_not, ↓reduceIte, Nat.reduceEqDiff, Nat.reduceAdd, Nat.reduceMul, Nat.reduceLeDiff, Nat.reduceLT, Nat.reduceSub, Nat.succ_ne_zero, Nat.one_ne_zero, Nat.zero_ne_one, true_implies, false_implies, forall_const, implies_true, reduceCtorEq, eq_self, ite_true, ite_false, decide_true, decide_false, Nat.le_refl, Bool.false_eq_true, if_true, if_false]
    rw [hmod]
    exact ⟨_, rfl, ownS_slI hown, hb⟩
end Go.Gv.W
