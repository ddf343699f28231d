/-
  The example of the chapter. No condition.
-/
import Derived.Test.YtokidokmcbkodaaGvW27
namespace Go.Gv.W
set_option linter.unusedSimpArgs false
set_option linter.unusedVariables false
set_option linter.unusedSectionVars false
open Go.RowKit Go.Proofs

/-- junto/juntolaw13.alive -/
def r_law13_alive : RFn := ⟨102,
  .seq (.reg [] [
    ⟨(some 0), none, .mv (.c (.bool false))⟩]) <|
  .keep [] <|
  .seq (.reg [] [
    ⟨(some 14), none, .call [] [0, 1, 2, 3] 6 [(.c (.int .u64 97))]⟩,
    ⟨(some 13), none, .mv (.t 14)⟩,
    ⟨(some 15), none, .ext 0 (.t 13)⟩,
    ⟨(some 16), none, .ext 1 (.t 13)⟩,
    ⟨(some 1), none, .mv (.t 15)⟩,
    ⟨(some 2), none, .mv (.t 16)⟩]) <|
  .keep [1, 2] <|
  .seq (.seq (.reg [] [
    ⟨(some 17), none, .mv (.t 2)⟩,
    ⟨(some 18), none, .bin .neq (.t 17) (.c (.int .i64 0))⟩]) <|
  .keep [1, 18] <|
  .cond (.t 18)
    (.seq (.reg [] [
      ⟨(some 0), none, .mv (.c (.bool false))⟩]) <|
    .ret)
    (.skip)) <|
  .keep [1] <|
  .seq (.reg [] [
    ⟨(some 20), none, .mv (.t 1)⟩,
    ⟨(some 21), none, .mv (.t 1)⟩,
    ⟨(some 22), none, .call [0, 1, 2, 3] [0, 1, 2, 3] 12 [(.t 21), (.c (.int .i64 4)), (.c (.int .u64 9))]⟩,
    ⟨(some 23), none, .mv (.t 1)⟩,
    ⟨(some 24), none, .call [0, 1, 2, 3] [0, 1, 2, 3] 12 [(.t 23), (.c (.int .i64 4)), (.c (.int .u64 12))]⟩,
    ⟨(some 25), none, .call [0, 1, 2, 3] [0, 1, 2, 3] 29 [(.t 20), (.t 22), (.t 24)]⟩,
    ⟨(some 19), none, .mv (.t 25)⟩,
    ⟨(some 26), none, .ext 0 (.t 19)⟩,
    ⟨(some 27), none, .ext 1 (.t 19)⟩,
    ⟨(some 3), none, .mv (.t 26)⟩,
    ⟨(some 4), none, .mv (.t 27)⟩]) <|
  .keep [1, 3] <|
  .seq (.reg [] [
    ⟨(some 29), none, .mv (.t 1)⟩,
    ⟨(some 30), none, .mv (.t 1)⟩,
    ⟨(some 31), none, .call [0, 1, 2, 3] [0, 1, 2, 3] 12 [(.t 30), (.c (.int .i64 4)), (.c (.int .u64 3))]⟩,
    ⟨(some 32), none, .mv (.t 1)⟩,
    ⟨(some 33), none, .call [0, 1, 2, 3] [0, 1, 2, 3] 12 [(.t 32), (.c (.int .i64 4)), (.c (.int .u64 5))]⟩,
    ⟨(some 34), none, .call [0, 1, 2, 3] [0, 1, 2, 3] 30 [(.t 29), (.t 31), (.t 33)]⟩,
    ⟨(some 28), none, .mv (.t 34)⟩,
    ⟨(some 35), none, .ext 0 (.t 28)⟩,
    ⟨(some 36), none, .ext 1 (.t 28)⟩,
    ⟨(some 5), none, .mv (.t 35)⟩,
    ⟨(some 6), none, .mv (.t 36)⟩]) <|
  .keep [1, 3, 5] <|
  .seq (.reg [] [
    ⟨(some 38), none, .mv (.t 1)⟩,
    ⟨(some 39), none, .mv (.t 1)⟩,
    ⟨(some 40), none, .call [0, 1, 2, 3] [0, 1, 2, 3] 12 [(.t 39), (.c (.int .i64 4)), (.c (.int .u64 5))]⟩,
    ⟨(some 41), none, .mv (.t 1)⟩,
    ⟨(some 42), none, .call [0, 1, 2, 3] [0, 1, 2, 3] 12 [(.t 41), (.c (.int .i64 4)), (.c (.int .u64 7))]⟩,
    ⟨(some 43), none, .call [0, 1, 2, 3] [0, 1, 2, 3] 31 [(.t 38), (.t 40), (.t 42)]⟩,
    ⟨(some 37), none, .mv (.t 43)⟩,
    ⟨(some 44), none, .ext 0 (.t 37)⟩,
    ⟨(some 45), none, .ext 1 (.t 37)⟩,
    ⟨(some 7), none, .mv (.t 44)⟩,
    ⟨(some 8), none, .mv (.t 45)⟩]) <|
  .keep [1, 3, 5, 7] <|
  .seq (.reg [] [
    ⟨(some 47), none, .mv (.t 1)⟩,
    ⟨(some 48), none, .mv (.t 1)⟩,
    ⟨(some 49), none, .call [0, 1, 2, 3] [0, 1, 2, 3] 12 [(.t 48), (.c (.int .i64 4)), (.c (.int .u64 3))]⟩,
    ⟨(some 50), none, .mv (.t 1)⟩,
    ⟨(some 51), none, .call [0, 1, 2, 3] [0, 1, 2, 3] 12 [(.t 50), (.c (.int .i64 4)), (.c (.int .u64 9))]⟩,
    ⟨(some 52), none, .call [0, 1, 2, 3] [0, 1, 2, 3] 17 [(.t 47), (.t 49), (.t 51)]⟩,
    ⟨(some 46), none, .mv (.t 52)⟩,
    ⟨(some 53), none, .ext 0 (.t 46)⟩,
    ⟨(some 54), none, .ext 1 (.t 46)⟩,
    ⟨(some 9), none, .mv (.t 53)⟩,
    ⟨(some 10), none, .mv (.t 54)⟩]) <|
  .keep [1, 3, 5, 7, 9, 10] <|
  .seq (.reg [] [
    ⟨(some 55), none, .mv (.t 1)⟩,
    ⟨(some 56), none, .call [0, 1, 2, 3] [0, 1, 2, 3] 10 [(.t 55)]⟩,
    ⟨(some 11), none, .new 111 39 [(.slice none 0 0), (.slice none 0 0), (.slice none 0 0)]⟩,
    ⟨none, none, .st 3 111 0 (.t 11) (.t 56)⟩]) <|
  .keep [3, 5, 7, 9, 10, 11] <|
  .settle 111 <|
  .seq (.seq (.dreg [] <|
    .exec [] 0 ⟨(some 57), none, .mv (.t 10)⟩ <|
    .exec [] 1 ⟨(some 58), none, .bin .neq (.t 57) (.c (.int .i64 0))⟩ <|
    .exec [] 2 ⟨(some 59), none, .mv (.t 58)⟩ <|
    .exec [] 3 ⟨(some 60), (some (59, false, false)), .ld (some 3) none (.t 11)⟩ <|
    .exec [] 4 ⟨(some 61), (some (59, false, false)), .call [] [] 18 [(.c (.int .u64 97)), (.t 60)]⟩ <|
    .exec [] 5 ⟨(some 62), (some (59, false, false)), .bin .neq (.t 61) (.c (.int .i64 0))⟩ <|
    .exec [] 6 ⟨(some 63), none, .pick (.t 59) (.c (.bool true)) (.t 62)⟩ <|
    .exec [] 7 ⟨(some 64), none, .mv (.t 63)⟩ <|
    .take 9 ⟨(some 66), (some (64, false, false)), .mv (.t 9)⟩ <|
    .take 11 ⟨(some 68), (some (64, false, false)), .mv (.t 3)⟩ <|
    .take 13 ⟨(some 70), (some (64, false, false)), .mv (.t 5)⟩ <|
    .take 15 ⟨(some 72), (some (64, false, false)), .mv (.t 7)⟩ <|
    .held 8 ⟨(some 65), (some (64, false, false)), .ld (some 3) none (.t 11)⟩ <|
    .exec [] 10 ⟨(some 67), (some (64, false, false)), .bsl (some 110) 3 1 1 [(.int .i64 0)] [(0, 1)] [(0, (.t 66))]⟩ <|
    .exec [] 12 ⟨(some 69), (some (64, false, false)), .app (some 110) 110 3 1 8 (.t 67) (.t 68)⟩ <|
    .exec [] 14 ⟨(some 71), (some (64, false, false)), .app (some 110) 110 3 1 8 (.t 69) (.t 70)⟩ <|
    .exec [] 16 ⟨(some 73), (some (64, false, false)), .app (some 110) 110 3 1 8 (.t 71) (.t 72)⟩ <|
    .exec [] 17 ⟨(some 74), (some (64, false, false)), .call [] [] 19 [(.t 65), (.t 73)]⟩ <|
    .exec [] 18 ⟨(some 75), (some (64, false, false)), .bin .neq (.t 74) (.c (.int .i64 0))⟩ <|
    .exec [] 19 ⟨(some 76), none, .pick (.t 64) (.c (.bool true)) (.t 75)⟩ <|
    .done) <|
  .keep [3, 5, 7, 9, 11, 76] <|
  .cond (.t 76)
    (.seq (.reg [] [
      ⟨(some 0), none, .mv (.c (.bool false))⟩]) <|
    .ret)
    (.skip)) <|
  .keep [3, 5, 7, 9, 11] <|
  .seq (.reg [] [
    ⟨(some 77), none, .ld (some 3) none (.t 11)⟩,
    ⟨(some 78), none, .call [] [] 20 [(.c (.int .u64 97)), (.t 77), (.c (.slice none 0 0))]⟩,
    ⟨(some 12), none, .mv (.t 78)⟩]) <|
  .keep [3, 5, 7, 9, 12] <|
  .seq (.reg [] [
    ⟨(some 79), none, .mv (.t 12)⟩,
    ⟨(some 80), none, .mv (.t 3)⟩,
    ⟨(some 81), none, .call [] [] 32 [(.t 79), (.t 80)]⟩,
    ⟨(some 82), none, .bin .eql (.t 81) (.c (.int .u64 5))⟩,
    ⟨(some 83), none, .mv (.t 82)⟩,
    ⟨(some 84), (some (83, true, false)), .mv (.t 12)⟩,
    ⟨(some 85), (some (83, true, false)), .mv (.t 5)⟩,
    ⟨(some 86), (some (83, true, false)), .call [] [] 32 [(.t 84), (.t 85)]⟩,
    ⟨(some 87), (some (83, true, false)), .bin .eql (.t 86) (.c (.int .u64 14))⟩,
    ⟨(some 88), none, .pick (.t 83) (.t 87) (.c (.bool false))⟩,
    ⟨(some 89), none, .mv (.t 88)⟩,
    ⟨(some 90), (some (89, true, false)), .mv (.t 12)⟩,
    ⟨(some 91), (some (89, true, false)), .mv (.t 7)⟩,
    ⟨(some 92), (some (89, true, false)), .call [] [] 32 [(.t 90), (.t 91)]⟩,
    ⟨(some 93), (some (89, true, false)), .bin .eql (.t 92) (.c (.int .u64 3))⟩,
    ⟨(some 94), none, .pick (.t 89) (.t 93) (.c (.bool false))⟩,
    ⟨(some 95), none, .mv (.t 94)⟩,
    ⟨(some 96), (some (95, true, false)), .mv (.t 12)⟩,
    ⟨(some 97), (some (95, true, false)), .mv (.t 9)⟩,
    ⟨(some 98), (some (95, true, false)), .iad 1 (.t 96) (.t 97)⟩,
    ⟨(some 99), (some (95, true, false)), .ld none none (.t 98)⟩,
    ⟨(some 100), (some (95, true, false)), .bin .eql (.t 99) (.c (.int .u64 1))⟩,
    ⟨(some 101), none, .pick (.t 95) (.t 100) (.c (.bool false))⟩,
    ⟨(some 0), none, .mv (.t 101)⟩]) <|
  .ret,
  [.tmp 0], [], []⟩

theorem k_law13_alive : rbFn Try.prog 11 r_law13_alive = some r_law13_alive := by kernel_rfl


def al1 : List Int × Bd := ofM 4 9 ⟨97, .none⟩
def al2 : List Int × Bd := ofM 4 12 al1.2
def alS : Option (List Int) × Int × Bd := wordsM al2.2 al1.1 al2.1 (rPlus al1.1 al2.1)
def alSw : List Int := alS.1.getD []
def al3 : List Int × Bd := ofM 4 3 alS.2.2
def al4 : List Int × Bd := ofM 4 5 al3.2
def alD : Option (List Int) × Int × Bd := wordsM al4.2 al3.1 al4.1 (rMinus al3.1 al4.1)
def alDw : List Int := alD.1.getD []
def al5 : List Int × Bd := ofM 4 5 alD.2.2
def al6 : List Int × Bd := ofM 4 7 al5.2
def alM : Option (List Int) × Int × Bd := wordsM al6.2 al5.1 al6.1 (rTimes al5.1 al6.1)
def alMw : List Int := alM.1.getD []
def al7 : List Int × Bd := ofM 4 3 alM.2.2
def al8 : List Int × Bd := ofM 4 9 al7.2
def alL : Option Int × Int × Bd := wordsM al8.2 al7.1 al8.1 (rBelow al7.1 al8.1)
def alLw : Int := alL.1.getD 0
def alC : Circ := alL.2.2.c
def alV : List Nat := valsG 97 [] alC.gates
theorem alS_1 : alS.1 = some alSw := by kernel_rfl
theorem alD_1 : alD.1 = some alDw := by kernel_rfl
theorem alM_1 : alM.1 = some alMw := by kernel_rfl
theorem alL_1 : alL.1 = some alLw := by kernel_rfl
theorem alL_2 : alL.2.1 = 0 := by kernel_rfl
theorem alL_p : alL.2.2.p ≠ 0 := by decide +kernel
theorem alC_ok : circErr 97 alC = 0 := by kernel_rfl
theorem alC_slots : alC.slots = [] := by kernel_rfl
theorem alC_gates : gatesErr 97 0 0 alC.gates = 0 := by kernel_rfl
theorem alC_len : alC.gates.length ≤ 65536 := by decide +kernel
theorem alP_ok : places alC (alLw :: (alSw ++ alDw ++ alMw)) = 0 := by kernel_rfl
theorem alS_in : ∀ k ∈ alSw, 0 ≤ k ∧ k < alV.length := by decide +kernel
theorem alD_in : ∀ k ∈ alDw, 0 ≤ k ∧ k < alV.length := by decide +kernel
theorem alM_in : ∀ k ∈ alMw, 0 ≤ k ∧ k < alV.length := by decide +kernel
theorem alL_in : 0 ≤ alLw ∧ alLw < alV.length := by decide +kernel
theorem alS_v : ((numAt alV 0 alSw 0 : Nat) : Int) = 5 := by kernel_rfl
theorem alD_v : ((numAt alV 0 alDw 0 : Nat) : Int) = 14 := by kernel_rfl
theorem alM_v : ((numAt alV 0 alMw 0 : Nat) : Int) = 3 := by kernel_rfl
theorem alL_v : ((at0 alV alLw : Nat) : Int) = 1 := by kernel_rfl

theorem DoR.get {α : Type} {vb z : Value} {enc : α → GH → Value → Prop} {r : Option α × Int × Bd} {x : α} {o : Out} {G' : GH} {Es' : List (List Ent)} (hr : r.1 = Option.some x) (h : DoR vb z enc r o G' Es') :
    ∃ v, o = .ret (.tuple #[v, .int .i64 r.2.1]) ∧ enc x G' v ∧ BoardV G' vb r.2.2 Es' := by
  obtain ⟨v, h1, h2, h3⟩ := h
  rw [hr] at h2
  exact ⟨v, h1, h2, h3⟩

set_option maxHeartbeats 2000000 in
set_option maxRecDepth 20000 in
theorem c_alive {G : GH} : ACalls Try.prog 11 [] G [] fun o G' Es' => o = .ret (.bool true) ∧ Es' = [] := by
  refine acalls mixed k_law13_alive (by simp) fun F => ?_
  simp only [GV, frArgs, memArgs, resV, fillL, ← Bool.decide_or, ← Bool.decide_and, ← decide_not, ↓reduceIte, Nat.reduceEqDiff, Nat.reduceAdd, Nat.reduceMul, Nat.reduceLeDiff, Nat.reduceLT, Nat.reduceSub, Nat.succ_ne_zero, Nat.one_ne_zero, Nat.zero_ne_one, true_implies, false_implies, forall_const, implies_true, reduceCtorEq, eq_self, ite_true, ite_false, decide_true, decide_false, Nat.le_refl, Bool.false_eq_true, if_true, if_false]
  refine (c_New (p := 97)).mono ?_
  rintro o G1 Es hg1 ⟨vb, rfl, hb⟩
  rw [show isP 97 = true from by kernel_rfl] at hb
  simp only [if_true] at hb
  obtain ⟨e0, e1, e2, e3, rfl⟩ := boardV_es hb
  simp only [GV, frArgs, memArgs, resV, fillL, ← Bool.decide_or, ← Bool.decide_and, ← decide_not, ↓reduceIte, Nat.reduceEqDiff, Nat.reduceAdd, Nat.reduceMul, Nat.reduceLeDiff, Nat.reduceLT, Nat.reduceSub, Nat.succ_ne_zero, Nat.one_ne_zero, Nat.zero_ne_one, true_implies, false_implies, forall_const, implies_true, reduceCtorEq, eq_self, ite_true, ite_false, decide_true, decide_false, Nat.le_refl, Bool.false_eq_true, if_true, if_false, show isP 97 = true from by kernel_rfl]
  refine cond_dec (fun h => absurd rfl h) (fun _ => ?_)
  simp only [GV, frArgs, memArgs, resV, fillL, ← Bool.decide_or, ← Bool.decide_and, ← decide_not, ↓reduceIte, Nat.reduceEqDiff, Nat.reduceAdd, Nat.reduceMul, Nat.reduceLeDiff, Nat.reduceLT, Nat.reduceSub, Nat.succ_ne_zero, Nat.one_ne_zero, Nat.zero_ne_one, true_implies, false_implies, forall_const, implies_true, reduceCtorEq, eq_self, ite_true, ite_false, decide_true, decide_false, Nat.le_refl, Bool.false_eq_true, if_true, if_false]
  refine (c_of (n := 4) (x := 9) hb (by omega)).mono ?_
  rintro o G2 Es hg ⟨u1, rfl, hu1, hb⟩
  change SlI _ _ _ al1.1 at hu1
  change BoardV _ _ al1.2 _ at hb
  obtain ⟨e0, e1, e2, e3, rfl⟩ := boardV_es hb
  simp only [GV, frArgs, memArgs, resV, fillL, ← Bool.decide_or, ← Bool.decide_and, ← decide_not, ↓reduceIte, Nat.reduceEqDiff, Nat.reduceAdd, Nat.reduceMul, Nat.reduceLeDiff, Nat.reduceLT, Nat.reduceSub, Nat.succ_ne_zero, Nat.one_ne_zero, Nat.zero_ne_one, true_implies, false_implies, forall_const, implies_true, reduceCtorEq, eq_self, ite_true, ite_false, decide_true, decide_false, Nat.le_refl, Bool.false_eq_true, if_true, if_false]
  refine (c_of (n := 4) (x := 12) hb (by omega)).mono ?_
  rintro o G2 Es hg ⟨u2, rfl, hu2, hb⟩
  change SlI _ _ _ al2.1 at hu2
  change BoardV _ _ al2.2 _ at hb
  replace hu1 := SlI.mono hu1 hg
  obtain ⟨e0, e1, e2, e3, rfl⟩ := boardV_es hb
  simp only [GV, frArgs, memArgs, resV, fillL, ← Bool.decide_or, ← Bool.decide_and, ← decide_not, ↓reduceIte, Nat.reduceEqDiff, Nat.reduceAdd, Nat.reduceMul, Nat.reduceLeDiff, Nat.reduceLT, Nat.reduceSub, Nat.succ_ne_zero, Nat.one_ne_zero, Nat.zero_ne_one, true_implies, false_implies, forall_const, implies_true, reduceCtorEq, eq_self, ite_true, ite_false, decide_true, decide_false, Nat.le_refl, Bool.false_eq_true, if_true, if_false]
  refine (c_Plus hb hu1 hu2).mono ?_
  rintro o G2 Es hg hr
  obtain ⟨valS, rfl, hvalS, hb⟩ := DoR.get alS_1 hr
  change SlI _ _ _ alSw at hvalS
  change BoardV _ _ alS.2.2 _ at hb
  obtain ⟨e0, e1, e2, e3, rfl⟩ := boardV_es hb
  simp only [GV, frArgs, memArgs, resV, fillL, ← Bool.decide_or, ← Bool.decide_and, ← decide_not, ↓reduceIte, Nat.reduceEqDiff, Nat.reduceAdd, Nat.reduceMul, Nat.reduceLeDiff, Nat.reduceLT, Nat.reduceSub, Nat.succ_ne_zero, Nat.one_ne_zero, Nat.zero_ne_one, true_implies, false_implies, forall_const, implies_true, reduceCtorEq, eq_self, ite_true, ite_false, decide_true, decide_false, Nat.le_refl, Bool.false_eq_true, if_true, if_false]
  refine (c_of (n := 4) (x := 3) hb (by omega)).mono ?_
  rintro o G2 Es hg ⟨u3, rfl, hu3, hb⟩
  change SlI _ _ _ al3.1 at hu3
  change BoardV _ _ al3.2 _ at hb
  replace hvalS := SlI.mono hvalS hg
  obtain ⟨e0, e1, e2, e3, rfl⟩ := boardV_es hb
  simp only [GV, frArgs, memArgs, resV, fillL, ← Bool.decide_or, ← Bool.decide_and, ← decide_not, ↓reduceIte, Nat.reduceEqDiff, Nat.reduceAdd, Nat.reduceMul, Nat.reduceLeDiff, Nat.reduceLT, Nat.reduceSub, Nat.succ_ne_zero, Nat.one_ne_zero, Nat.zero_ne_one, true_implies, false_implies, forall_const, implies_true, reduceCtorEq, eq_self, ite_true, ite_false, decide_true, decide_false, Nat.le_refl, Bool.false_eq_true, if_true, if_false]
  refine (c_of (n := 4) (x := 5) hb (by omega)).mono ?_
  rintro o G2 Es hg ⟨u4, rfl, hu4, hb⟩
  change SlI _ _ _ al4.1 at hu4
  change BoardV _ _ al4.2 _ at hb
  replace hvalS := SlI.mono hvalS hg
  replace hu3 := SlI.mono hu3 hg
  obtain ⟨e0, e1, e2, e3, rfl⟩ := boardV_es hb
  simp only [GV, frArgs, memArgs, resV, fillL, ← Bool.decide_or, ← Bool.decide_and, ← decide_not, ↓reduceIte, Nat.reduceEqDiff, Nat.reduceAdd, Nat.reduceMul, Nat.reduceLeDiff, Nat.reduceLT, Nat.reduceSub, Nat.succ_ne_zero, Nat.one_ne_zero, Nat.zero_ne_one, true_implies, false_implies, forall_const, implies_true, reduceCtorEq, eq_self, ite_true, ite_false, decide_true, decide_false, Nat.le_refl, Bool.false_eq_true, if_true, if_false]
  refine (c_Minus hb hu3 hu4).mono ?_
  rintro o G2 Es hg hr
  obtain ⟨valD, rfl, hvalD, hb⟩ := DoR.get alD_1 hr
  change SlI _ _ _ alDw at hvalD
  replace hvalS := SlI.mono hvalS hg
  change BoardV _ _ alD.2.2 _ at hb
  obtain ⟨e0, e1, e2, e3, rfl⟩ := boardV_es hb
  simp only [GV, frArgs, memArgs, resV, fillL, ← Bool.decide_or, ← Bool.decide_and, ← decide_not, ↓reduceIte, Nat.reduceEqDiff, Nat.reduceAdd, Nat.reduceMul, Nat.reduceLeDiff, Nat.reduceLT, Nat.reduceSub, Nat.succ_ne_zero, Nat.one_ne_zero, Nat.zero_ne_one, true_implies, false_implies, forall_const, implies_true, reduceCtorEq, eq_self, ite_true, ite_false, decide_true, decide_false, Nat.le_refl, Bool.false_eq_true, if_true, if_false]
  refine (c_of (n := 4) (x := 5) hb (by omega)).mono ?_
  rintro o G2 Es hg ⟨u5, rfl, hu5, hb⟩
  change SlI _ _ _ al5.1 at hu5
  change BoardV _ _ al5.2 _ at hb
  replace hvalS := SlI.mono hvalS hg
  replace hvalD := SlI.mono hvalD hg
  obtain ⟨e0, e1, e2, e3, rfl⟩ := boardV_es hb
  simp only [GV, frArgs, memArgs, resV, fillL, ← Bool.decide_or, ← Bool.decide_and, ← decide_not, ↓reduceIte, Nat.reduceEqDiff, Nat.reduceAdd, Nat.reduceMul, Nat.reduceLeDiff, Nat.reduceLT, Nat.reduceSub, Nat.succ_ne_zero, Nat.one_ne_zero, Nat.zero_ne_one, true_implies, false_implies, forall_const, implies_true, reduceCtorEq, eq_self, ite_true, ite_false, decide_true, decide_false, Nat.le_refl, Bool.false_eq_true, if_true, if_false]
  refine (c_of (n := 4) (x := 7) hb (by omega)).mono ?_
  rintro o G2 Es hg ⟨u6, rfl, hu6, hb⟩
  change SlI _ _ _ al6.1 at hu6
  change BoardV _ _ al6.2 _ at hb
  replace hvalS := SlI.mono hvalS hg
  replace hvalD := SlI.mono hvalD hg
  replace hu5 := SlI.mono hu5 hg
  obtain ⟨e0, e1, e2, e3, rfl⟩ := boardV_es hb
  simp only [GV, frArgs, memArgs, resV, fillL, ← Bool.decide_or, ← Bool.decide_and, ← decide_not, ↓reduceIte, Nat.reduceEqDiff, Nat.reduceAdd, Nat.reduceMul, Nat.reduceLeDiff, Nat.reduceLT, Nat.reduceSub, Nat.succ_ne_zero, Nat.one_ne_zero, Nat.zero_ne_one, true_implies, false_implies, forall_const, implies_true, reduceCtorEq, eq_self, ite_true, ite_false, decide_true, decide_false, Nat.le_refl, Bool.false_eq_true, if_true, if_false]
  refine (c_Times hb hu5 hu6).mono ?_
  rintro o G2 Es hg hr
  obtain ⟨valM, rfl, hvalM, hb⟩ := DoR.get alM_1 hr
  change SlI _ _ _ alMw at hvalM
  replace hvalS := SlI.mono hvalS hg
  replace hvalD := SlI.mono hvalD hg
  change BoardV _ _ alM.2.2 _ at hb
  obtain ⟨e0, e1, e2, e3, rfl⟩ := boardV_es hb
  simp only [GV, frArgs, memArgs, resV, fillL, ← Bool.decide_or, ← Bool.decide_and, ← decide_not, ↓reduceIte, Nat.reduceEqDiff, Nat.reduceAdd, Nat.reduceMul, Nat.reduceLeDiff, Nat.reduceLT, Nat.reduceSub, Nat.succ_ne_zero, Nat.one_ne_zero, Nat.zero_ne_one, true_implies, false_implies, forall_const, implies_true, reduceCtorEq, eq_self, ite_true, ite_false, decide_true, decide_false, Nat.le_refl, Bool.false_eq_true, if_true, if_false]
  refine (c_of (n := 4) (x := 3) hb (by omega)).mono ?_
  rintro o G2 Es hg ⟨u7, rfl, hu7, hb⟩
  change SlI _ _ _ al7.1 at hu7
  change BoardV _ _ al7.2 _ at hb
  replace hvalS := SlI.mono hvalS hg
  replace hvalD := SlI.mono hvalD hg
  replace hvalM := SlI.mono hvalM hg
  obtain ⟨e0, e1, e2, e3, rfl⟩ := boardV_es hb
  simp only [GV, frArgs, memArgs, resV, fillL, ← Bool.decide_or, ← Bool.decide_and, ← decide_not, ↓reduceIte, Nat.reduceEqDiff, Nat.reduceAdd, Nat.reduceMul, Nat.reduceLeDiff, Nat.reduceLT, Nat.reduceSub, Nat.succ_ne_zero, Nat.one_ne_zero, Nat.zero_ne_one, true_implies, false_implies, forall_const, implies_true, reduceCtorEq, eq_self, ite_true, ite_false, decide_true, decide_false, Nat.le_refl, Bool.false_eq_true, if_true, if_false]
  refine (c_of (n := 4) (x := 9) hb (by omega)).mono ?_
  rintro o G2 Es hg ⟨u8, rfl, hu8, hb⟩
  change SlI _ _ _ al8.1 at hu8
  change BoardV _ _ al8.2 _ at hb
  replace hvalS := SlI.mono hvalS hg
  replace hvalD := SlI.mono hvalD hg
  replace hvalM := SlI.mono hvalM hg
  replace hu7 := SlI.mono hu7 hg
  obtain ⟨e0, e1, e2, e3, rfl⟩ := boardV_es hb
  simp only [GV, frArgs, memArgs, resV, fillL, ← Bool.decide_or, ← Bool.decide_and, ← decide_not, ↓reduceIte, Nat.reduceEqDiff, Nat.reduceAdd, Nat.reduceMul, Nat.reduceLeDiff, Nat.reduceLT, Nat.reduceSub, Nat.succ_ne_zero, Nat.one_ne_zero, Nat.zero_ne_one, true_implies, false_implies, forall_const, implies_true, reduceCtorEq, eq_self, ite_true, ite_false, decide_true, decide_false, Nat.le_refl, Bool.false_eq_true, if_true, if_false]
  refine (c_LessM hb hu7 hu8).mono ?_
  rintro o G2 Es hg hr
  obtain ⟨valL, rfl, hvalL, hb⟩ := DoR.get alL_1 hr
  replace hvalS := SlI.mono hvalS hg
  replace hvalD := SlI.mono hvalD hg
  replace hvalM := SlI.mono hvalM hg
  change BoardV _ _ alL.2.2 _ at hb
  obtain ⟨e0, e1, e2, e3, rfl⟩ := boardV_es hb
  simp only [GV, frArgs, memArgs, resV, fillL, ← Bool.decide_or, ← Bool.decide_and, ← decide_not, ↓reduceIte, Nat.reduceEqDiff, Nat.reduceAdd, Nat.reduceMul, Nat.reduceLeDiff, Nat.reduceLT, Nat.reduceSub, Nat.succ_ne_zero, Nat.one_ne_zero, Nat.zero_ne_one, true_implies, false_implies, forall_const, implies_true, reduceCtorEq, eq_self, ite_true, ite_false, decide_true, decide_false, Nat.le_refl, Bool.false_eq_true, if_true, if_false]
  rw [alL_2]
  simp only [encZ] at hvalL
  subst hvalL
  refine (c_Circuit hb).mono ?_
  rintro o G3 Es hg ⟨w, rfl, hw, rfl⟩
  replace hvalS := SlI.mono hvalS hg
  replace hvalD := SlI.mono hvalD hg
  replace hvalM := SlI.mono hvalM hg
  rw [if_neg alL_p] at hw
  change CircV _ _ alC at hw
  have hw0 := hw
  obtain ⟨w1, w2, w3, rfl, ⟨b1, c1, rfl, hw1⟩, ⟨b2, c2, rfl, hw2⟩, hw3⟩ := hw
  obtain ⟨b3, c3, rfl⟩ := hw3.len
  obtain ⟨aS, cS, rfl, hS1, hS2, hS⟩ := hvalS
  obtain ⟨aD, cD, rfl, hD1, hD2, hD⟩ := hvalD
  obtain ⟨aM, cM, rfl, hM1, hM2, hM⟩ := hvalM
  simp only [GV, frArgs, memArgs, resV, fillL, ← Bool.decide_or, ← Bool.decide_and, ← decide_not, ↓reduceIte, Nat.reduceEqDiff, Nat.reduceAdd, Nat.reduceMul, Nat.reduceLeDiff, Nat.reduceLT, Nat.reduceSub, Nat.succ_ne_zero, Nat.one_ne_zero, Nat.zero_ne_one, true_implies, false_implies, forall_const, implies_true, reduceCtorEq, eq_self, ite_true, ite_false, decide_true, decide_false, Nat.le_refl, Bool.false_eq_true, if_true, if_false]
  intro bc
  refine settle_intro fun G4 hg4 hc4 => ?_
  have hcc : cellsG G4 bc 0 3 = some [.slice b1 alC.slots.length c1, .slice b2 alC.gates.length c2, .slice b3 alC.exits.length c3] := (cellsG_iff _ _ _ _ _).2 ⟨rfl, hc4⟩
  replace hw0 := hw0.mono hg4
  replace hS := hS.mono hg4
  replace hD := hD.mono hg4
  replace hM := hM.mono hg4
  simp only [GV, frArgs, memArgs, resV, fillL, ← Bool.decide_or, ← Bool.decide_and, ← decide_not, ↓reduceIte, Nat.reduceEqDiff, Nat.reduceAdd, Nat.reduceMul, Nat.reduceLeDiff, Nat.reduceLT, Nat.reduceSub, Nat.succ_ne_zero, Nat.one_ne_zero, Nat.zero_ne_one, true_implies, false_implies, forall_const, implies_true, reduceCtorEq, eq_self, ite_true, ite_false, decide_true, decide_false, Nat.le_refl, Bool.false_eq_true, if_true, if_false, hcc, ne_eq, not_true_eq_false, not_false_eq_true, decide_false, decide_true]
  refine (c_CheckR (p := 97) hw0).mono ?_
  rintro o G5 Es hg ⟨rfl, rfl, rfl⟩
  simp only [GV, frArgs, memArgs, resV, fillL, ← Bool.decide_or, ← Bool.decide_and, ← decide_not, ↓reduceIte, Nat.reduceEqDiff, Nat.reduceAdd, Nat.reduceMul, Nat.reduceLeDiff, Nat.reduceLT, Nat.reduceSub, Nat.succ_ne_zero, Nat.one_ne_zero, Nat.zero_ne_one, true_implies, false_implies, forall_const, implies_true, reduceCtorEq, eq_self, ite_true, ite_false, decide_true, decide_false, Nat.le_refl, Bool.false_eq_true, if_true, if_false, hcc, alC_ok, ne_eq, not_true_eq_false, not_false_eq_true, decide_false, decide_true]
  refine bsl_own rfl (by simp only [maxLen]; omega) (fun v' es' G6 hg6 ho => ?_)
  replace ho : OwnS G6 3 1 v' (encI .i64 [alLw]).flatten es' := ho
  replace hcc := cellsG_mono hg6 hcc
  replace hS := hS.mono hg6
  replace hD := hD.mono hg6
  replace hM := hM.mono hg6
  replace hw0 := hw0.mono hg6
  simp only [GV, frArgs, memArgs, resV, fillL, ← Bool.decide_or, ← Bool.decide_and, ← decide_not, ↓reduceIte, Nat.reduceEqDiff, Nat.reduceAdd, Nat.reduceMul, Nat.reduceLeDiff, Nat.reduceLT, Nat.reduceSub, Nat.succ_ne_zero, Nat.one_ne_zero, Nat.zero_ne_one, true_implies, false_implies, forall_const, implies_true, reduceCtorEq, eq_self, ite_true, ite_false, decide_true, decide_false, Nat.le_refl, Bool.false_eq_true, if_true, if_false, hcc]
  refine app_moreN rfl ho (encI_len _ _) hS (encI_length _ _) (encI_one _ _) (by rw [encI_length]; exact (by decide +kernel)) (fun v' es' G7 hg7 ho2 => ?_)
  replace ho : OwnS G7 3 1 v' (encI .i64 ([alLw] ++ alSw)).flatten es' := by
    have e : encI .i64 ([alLw] ++ alSw) = encI .i64 ([alLw]) ++ encI .i64 alSw := by simp [encI]
    rw [e]; exact ho2
  clear ho2
  replace hcc := cellsG_mono hg7 hcc
  replace hS := hS.mono hg7
  replace hD := hD.mono hg7
  replace hM := hM.mono hg7
  replace hw0 := hw0.mono hg7
  simp only [GV, frArgs, memArgs, resV, fillL, ← Bool.decide_or, ← Bool.decide_and, ← decide_not, ↓reduceIte, Nat.reduceEqDiff, Nat.reduceAdd, Nat.reduceMul, Nat.reduceLeDiff, Nat.reduceLT, Nat.reduceSub, Nat.succ_ne_zero, Nat.one_ne_zero, Nat.zero_ne_one, true_implies, false_implies, forall_const, implies_true, reduceCtorEq, eq_self, ite_true, ite_false, decide_true, decide_false, Nat.le_refl, Bool.false_eq_true, if_true, if_false, hcc]
  refine app_moreN rfl ho (encI_len _ _) hD (encI_length _ _) (encI_one _ _) (by rw [encI_length]; exact (by decide +kernel)) (fun v' es' G7 hg7 ho2 => ?_)
  replace ho : OwnS G7 3 1 v' (encI .i64 ([alLw] ++ alSw ++ alDw)).flatten es' := by
    have e : encI .i64 ([alLw] ++ alSw ++ alDw) = encI .i64 ([alLw] ++ alSw) ++ encI .i64 alDw := by simp [encI]
    rw [e]; exact ho2
  clear ho2
  replace hcc := cellsG_mono hg7 hcc
  replace hS := hS.mono hg7
  replace hD := hD.mono hg7
  replace hM := hM.mono hg7
  replace hw0 := hw0.mono hg7
  simp only [GV, frArgs, memArgs, resV, fillL, ← Bool.decide_or, ← Bool.decide_and, ← decide_not, ↓reduceIte, Nat.reduceEqDiff, Nat.reduceAdd, Nat.reduceMul, Nat.reduceLeDiff, Nat.reduceLT, Nat.reduceSub, Nat.succ_ne_zero, Nat.one_ne_zero, Nat.zero_ne_one, true_implies, false_implies, forall_const, implies_true, reduceCtorEq, eq_self, ite_true, ite_false, decide_true, decide_false, Nat.le_refl, Bool.false_eq_true, if_true, if_false, hcc]
  refine app_moreN rfl ho (encI_len _ _) hM (encI_length _ _) (encI_one _ _) (by rw [encI_length]; exact (by decide +kernel)) (fun v' es' G7 hg7 ho2 => ?_)
  replace ho : OwnS G7 3 1 v' (encI .i64 ([alLw] ++ alSw ++ alDw ++ alMw)).flatten es' := by
    have e : encI .i64 ([alLw] ++ alSw ++ alDw ++ alMw) = encI .i64 ([alLw] ++ alSw ++ alDw) ++ encI .i64 alMw := by simp [encI]
    rw [e]; exact ho2
  clear ho2
  replace hcc := cellsG_mono hg7 hcc
  replace hS := hS.mono hg7
  replace hD := hD.mono hg7
  replace hM := hM.mono hg7
  replace hw0 := hw0.mono hg7
  simp only [GV, frArgs, memArgs, resV, fillL, ← Bool.decide_or, ← Bool.decide_and, ← decide_not, ↓reduceIte, Nat.reduceEqDiff, Nat.reduceAdd, Nat.reduceMul, Nat.reduceLeDiff, Nat.reduceLT, Nat.reduceSub, Nat.succ_ne_zero, Nat.one_ne_zero, Nat.zero_ne_one, true_implies, false_implies, forall_const, implies_true, reduceCtorEq, eq_self, ite_true, ite_false, decide_true, decide_false, Nat.le_refl, Bool.false_eq_true, if_true, if_false, hcc]
  refine (c_Places hw0 (ownS_slI ho)).mono ?_
  rintro o G8 Es hg ⟨rfl, rfl, rfl⟩
  simp only [GV, frArgs, memArgs, resV, fillL, ← Bool.decide_or, ← Bool.decide_and, ← decide_not, ↓reduceIte, Nat.reduceEqDiff, Nat.reduceAdd, Nat.reduceMul, Nat.reduceLeDiff, Nat.reduceLT, Nat.reduceSub, Nat.succ_ne_zero, Nat.one_ne_zero, Nat.zero_ne_one, true_implies, false_implies, forall_const, implies_true, reduceCtorEq, eq_self, ite_true, ite_false, decide_true, decide_false, Nat.le_refl, Bool.false_eq_true, if_true, if_false, hcc, alP_ok, ne_eq, not_true_eq_false, not_false_eq_true, decide_false, decide_true]
  refine (c_Values (p := 97) hw0 slN_nil alC_len (by omega) (by omega) (by simp) alC_gates).mono ?_
  rintro o G9 Es hg9 ⟨x, rfl, hV, rfl⟩
  change SlN _ _ alV at hV
  have hV0 := hV
  obtain ⟨aV, cV, rfl, hV1, hV2, hV3⟩ := hV
  simp only [GV, frArgs, memArgs, resV, fillL, ← Bool.decide_or, ← Bool.decide_and, ← decide_not, ↓reduceIte, Nat.reduceEqDiff, Nat.reduceAdd, Nat.reduceMul, Nat.reduceLeDiff, Nat.reduceLT, Nat.reduceSub, Nat.succ_ne_zero, Nat.one_ne_zero, Nat.zero_ne_one, true_implies, false_implies, forall_const, implies_true, reduceCtorEq, eq_self, ite_true, ite_false, decide_true, decide_false, Nat.le_refl, Bool.false_eq_true, if_true, if_false]
  refine (c_Number hV0 ⟨_, _, rfl, hS1, hS2, hS.mono hg9⟩ alS_in).mono ?_
  rintro o G10 Es hg ⟨rfl, rfl, rfl⟩
  simp only [GV, frArgs, memArgs, resV, fillL, ← Bool.decide_or, ← Bool.decide_and, ← decide_not, ↓reduceIte, Nat.reduceEqDiff, Nat.reduceAdd, Nat.reduceMul, Nat.reduceLeDiff, Nat.reduceLT, Nat.reduceSub, Nat.succ_ne_zero, Nat.one_ne_zero, Nat.zero_ne_one, true_implies, false_implies, forall_const, implies_true, reduceCtorEq, eq_self, ite_true, ite_false, decide_true, decide_false, Nat.le_refl, Bool.false_eq_true, if_true, if_false, alS_v, ne_eq, not_true_eq_false, not_false_eq_true, decide_false, decide_true]
  refine (c_Number hV0 ⟨_, _, rfl, hD1, hD2, hD.mono hg9⟩ alD_in).mono ?_
  rintro o G10 Es hg ⟨rfl, rfl, rfl⟩
  simp only [GV, frArgs, memArgs, resV, fillL, ← Bool.decide_or, ← Bool.decide_and, ← decide_not, ↓reduceIte, Nat.reduceEqDiff, Nat.reduceAdd, Nat.reduceMul, Nat.reduceLeDiff, Nat.reduceLT, Nat.reduceSub, Nat.succ_ne_zero, Nat.one_ne_zero, Nat.zero_ne_one, true_implies, false_implies, forall_const, implies_true, reduceCtorEq, eq_self, ite_true, ite_false, decide_true, decide_false, Nat.le_refl, Bool.false_eq_true, if_true, if_false, alD_v, ne_eq, not_true_eq_false, not_false_eq_true, decide_false, decide_true]
  refine (c_Number hV0 ⟨_, _, rfl, hM1, hM2, hM.mono hg9⟩ alM_in).mono ?_
  rintro o G10 Es hg ⟨rfl, rfl, rfl⟩
  simp only [GV, frArgs, memArgs, resV, fillL, ← Bool.decide_or, ← Bool.decide_and, ← decide_not, ↓reduceIte, Nat.reduceEqDiff, Nat.reduceAdd, Nat.reduceMul, Nat.reduceLeDiff, Nat.reduceLT, Nat.reduceSub, Nat.succ_ne_zero, Nat.one_ne_zero, Nat.zero_ne_one, true_implies, false_implies, forall_const, implies_true, reduceCtorEq, eq_self, ite_true, ite_false, decide_true, decide_false, Nat.le_refl, Bool.false_eq_true, if_true, if_false, alM_v, ne_eq, not_true_eq_false, not_false_eq_true, decide_false, decide_true]
  obtain ⟨bi, oi, rfl, hx1⟩ := RowN.at hV3 alL_in.1 alL_in.2
  simp only [GV, frArgs, memArgs, resV, fillL, ← Bool.decide_or, ← Bool.decide_and, ← decide_not, ↓reduceIte, Nat.reduceEqDiff, Nat.reduceAdd, Nat.reduceMul, Nat.reduceLeDiff, Nat.reduceLT, Nat.reduceSub, Nat.succ_ne_zero, Nat.one_ne_zero, Nat.zero_ne_one, true_implies, false_implies, forall_const, implies_true, reduceCtorEq, eq_self, ite_true, ite_false, decide_true, decide_false, Nat.le_refl, Bool.false_eq_true, if_true, if_false, hx1, alL_v, Nat.mul_one, ne_eq, not_true_eq_false, not_false_eq_true, decide_false, decide_true]
  exact alL_in
end Go.Gv.W
