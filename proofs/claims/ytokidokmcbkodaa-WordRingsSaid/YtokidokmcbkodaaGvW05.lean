/-
  Circuits: how they lie in memory, and what is wrong with them. No condition.
-/
import Derived.Test.YtokidokmcbkodaaGvW04
namespace Go.Gv.W
set_option linter.unusedSimpArgs false
set_option linter.unusedVariables false
set_option linter.unusedSectionVars false
open Go.RowKit Go.Proofs

structure Circ where
  slots : List Slot
  gates : List Gate
  exits : List Exit
deriving DecidableEq

/-- Rows that are read one by one. -/
def SlE {α : Type} (G : GH) (sz : Nat) (enc : α → List Value) (v : Value) (l : List α) : Prop := ∃ a c, v = .slice a l.length c ∧ l.length ≤ c ∧ c ≤ maxLen ∧ Row G sz a (l.map enc)
theorem SlE.mono {α : Type} {G G' : GH} {sz : Nat} {enc : α → List Value} {v : Value} {l : List α} (h : SlE G sz enc v l) (hg : GLe G G') : SlE G' sz enc v l := by
  obtain ⟨a, c, h1, h2, h3, h4⟩ := h
  exact ⟨a, c, h1, h2, h3, h4.mono hg⟩
theorem RowE.get {α : Type} {G : GH} {sz : Nat} {enc : α → List Value} {a : Option Addr} {l : List α} (h : Row G sz a (l.map enc)) {j : Nat} (hj : j < l.length) : ∃ b o, a = some ⟨b, o, none⟩ ∧ cellsG G b (o + j * sz) sz = some (enc l[j]) :=
  h.get (by simp [hj])
/-- An exit's two slices. -/
def ExitV (G : GH) (cs : List Value) (x : Exit) : Prop := ∃ v u, cs = [v, u] ∧ SlI G .i64 v x.to ∧ SlI G .i64 u x.gates
theorem ExitV.mono {G G' : GH} {cs : List Value} {x : Exit} (h : ExitV G cs x) (hg : GLe G G') : ExitV G' cs x := by
  obtain ⟨v, u, h1, h2, h3⟩ := h
  exact ⟨v, u, h1, h2.mono hg, h3.mono hg⟩
def ExitsV (G : GH) (css : List (List Value)) (l : List Exit) : Prop := css.length = l.length ∧ ∀ j (h : j < l.length) (h' : j < css.length), ExitV G css[j] l[j]
def SlX (G : GH) (v : Value) (l : List Exit) : Prop := ∃ css a c, v = .slice a l.length c ∧ l.length ≤ c ∧ c ≤ maxLen ∧ Row G 2 a css ∧ ExitsV G css l
/-- A circuit. -/
def CircV (G : GH) (v : Value) (x : Circ) : Prop := ∃ v1 v2 v3, v = .agg #[v1, v2, v3] ∧ SlE G 2 Slot.enc v1 x.slots ∧ SlE G 4 Gate.enc v2 x.gates ∧ SlX G v3 x.exits

/-- What is wrong with the gates. -/
def gatesErr (p slots : Nat) : Nat → List Gate → Int
  | _, [] => 0
  | i, g :: r => if gateErr p slots i g ≠ 0 then gateErr p slots i g else gatesErr p slots (i + 1) r
def exitsErr (gates : Nat) : List Exit → Int
  | [] => 0
  | x :: r => if exitErr gates x ≠ 0 then exitErr gates x else exitsErr gates r
def circErr (p : Nat) (x : Circ) : Int :=
  if isP p = false then 2 else if 256 < x.slots.length ∨ 65536 < x.gates.length ∨ 4096 < x.exits.length then 3
  else if x.slots.any (fun s => decide (s.party < 1 ∨ 13 < s.party)) then 2
  else if gatesErr p x.slots.length 0 x.gates ≠ 0 then gatesErr p x.slots.length 0 x.gates else exitsErr x.gates.length x.exits

/-- junto/juntoref12.Check -/
def r_ref12_Check : RFn := ⟨83,
  .seq (.reg [] [
    ⟨(some 3), none, .box 103 39 (.t 1)⟩,
    ⟨(some 4), none, .mv (.c (.int .i64 0))⟩]) <|
  .keep [0, 3] <|
  .seq (.seq (.reg [] [
    ⟨(some 13), none, .mv (.t 0)⟩,
    ⟨(some 14), none, .call [] [] 38 [(.t 13)]⟩,
    ⟨(some 15), none, .un .not (.t 14)⟩]) <|
  .keep [0, 3, 15] <|
  .cond (.t 15)
    (.seq (.reg [] [
      ⟨(some 4), none, .mv (.c (.int .i64 2))⟩]) <|
    .ret)
    (.skip)) <|
  .keep [0, 3] <|
  .seq (.seq (.reg [] [
    ⟨(some 16), none, .fad 0 (.t 3)⟩,
    ⟨(some 17), none, .ld none (some (103, 0)) (.t 16)⟩,
    ⟨(some 18), none, .len (.t 17)⟩,
    ⟨(some 19), none, .bin .gtr (.t 18) (.c (.int .i64 256))⟩,
    ⟨(some 20), none, .mv (.t 19)⟩,
    ⟨(some 21), (some (20, false, true)), .fad 1 (.t 3)⟩,
    ⟨(some 22), (some (20, false, true)), .ld none (some (103, 0)) (.t 21)⟩,
    ⟨(some 23), (some (20, false, true)), .len (.t 22)⟩,
    ⟨(some 24), (some (20, false, true)), .bin .gtr (.t 23) (.c (.int .i64 65536))⟩,
    ⟨(some 25), none, .pick (.t 20) (.c (.bool true)) (.t 24)⟩,
    ⟨(some 26), none, .mv (.t 25)⟩,
    ⟨(some 27), (some (26, false, true)), .fad 2 (.t 3)⟩,
    ⟨(some 28), (some (26, false, true)), .ld none (some (103, 0)) (.t 27)⟩,
    ⟨(some 29), (some (26, false, true)), .len (.t 28)⟩,
    ⟨(some 30), (some (26, false, true)), .bin .gtr (.t 29) (.c (.int .i64 4096))⟩,
    ⟨(some 31), none, .pick (.t 26) (.c (.bool true)) (.t 30)⟩]) <|
  .keep [0, 3, 31] <|
  .cond (.t 31)
    (.seq (.reg [] [
      ⟨(some 4), none, .mv (.c (.int .i64 3))⟩]) <|
    .ret)
    (.skip)) <|
  .keep [0, 3] <|
  .seq (.seq (.reg [] [
    ⟨(some 32), none, .fad 0 (.t 3)⟩,
    ⟨(some 33), none, .ld none (some (103, 0)) (.t 32)⟩,
    ⟨(some 34), none, .len (.t 33)⟩,
    ⟨(some 35), none, .mv (.c (.int .i64 0))⟩]) <|
  .keep [0, 3, 33, 34, 35] <|
  .block 0 <|
  .loop [0, 3, 33, 34, 35] [103, 1000000] <|
  .seq (.reg [] [
    ⟨(some 36), none, .bin .lss (.t 35) (.t 34)⟩]) <|
  .keep [0, 3, 33, 34, 35, 36] <|
  .seq (.cond (.t 36)
    (.skip)
    (.exit 0)) <|
  .keep [0, 3, 33, 34, 35] <|
  .seq (.block 1 <|
  .seq (.reg [] [
    ⟨(some 37), none, .iad 2 (.t 33) (.t 35)⟩,
    ⟨(some 38), none, .ld (some 2) none (.t 37)⟩,
    ⟨(some 6), none, .new 106 30 [(.int .i64 0), (.bool false)]⟩,
    ⟨none, none, .st 2 106 0 (.t 6) (.t 38)⟩]) <|
  .keep [0, 3, 6, 33, 34, 35] <|
  .seq (.reg [] [
    ⟨(some 39), none, .fad 0 (.t 6)⟩,
    ⟨(some 40), none, .ld none (some (106, 0)) (.t 39)⟩,
    ⟨(some 41), none, .bin .lss (.t 40) (.c (.int .i64 1))⟩,
    ⟨(some 42), none, .mv (.t 41)⟩,
    ⟨(some 43), (some (42, false, true)), .fad 0 (.t 6)⟩,
    ⟨(some 44), (some (42, false, true)), .ld none (some (106, 0)) (.t 43)⟩,
    ⟨(some 45), (some (42, false, true)), .bin .gtr (.t 44) (.c (.int .i64 13))⟩,
    ⟨(some 46), none, .pick (.t 42) (.c (.bool true)) (.t 45)⟩]) <|
  .keep [0, 3, 33, 34, 35, 46] <|
  .cond (.t 46)
    (.seq (.reg [] [
      ⟨(some 4), none, .mv (.c (.int .i64 2))⟩]) <|
    .ret)
    (.skip)) <|
  .keep [0, 3, 33, 34, 35] <|
  .reg [] [
    ⟨(some 47), none, .bin .add (.t 35) (.c (.int .i64 1))⟩,
    ⟨(some 35), none, .mv (.t 47)⟩]) <|
  .keep [0, 3] <|
  .seq (.seq (.reg [] [
    ⟨(some 48), none, .fad 1 (.t 3)⟩,
    ⟨(some 49), none, .ld none (some (103, 0)) (.t 48)⟩,
    ⟨(some 50), none, .len (.t 49)⟩,
    ⟨(some 51), none, .mv (.c (.int .i64 0))⟩]) <|
  .keep [0, 3, 49, 50, 51] <|
  .block 2 <|
  .loop [0, 3, 49, 50, 51] [103, 1000000] <|
  .seq (.reg [] [
    ⟨(some 52), none, .bin .lss (.t 51) (.t 50)⟩]) <|
  .keep [0, 3, 49, 50, 51, 52] <|
  .seq (.cond (.t 52)
    (.skip)
    (.exit 2)) <|
  .keep [0, 3, 49, 50, 51] <|
  .seq (.block 3 <|
  .seq (.reg [] [
    ⟨(some 53), none, .mv (.t 51)⟩,
    ⟨(some 54), none, .iad 4 (.t 49) (.t 51)⟩,
    ⟨(some 55), none, .ld (some 4) none (.t 54)⟩,
    ⟨(some 8), none, .new 108 33 [(.int .i64 0), (.int .i64 0), (.int .i64 0), (.int .u64 0)]⟩,
    ⟨(some 7), none, .mv (.t 53)⟩,
    ⟨none, none, .st 4 108 0 (.t 8) (.t 55)⟩]) <|
  .keep [0, 3, 7, 8, 49, 50, 51] <|
  .seq (.reg [] [
    ⟨(some 56), none, .mv (.t 0)⟩,
    ⟨(some 57), none, .fad 0 (.t 3)⟩,
    ⟨(some 58), none, .ld none (some (103, 0)) (.t 57)⟩,
    ⟨(some 59), none, .len (.t 58)⟩,
    ⟨(some 60), none, .mv (.t 7)⟩,
    ⟨(some 61), none, .ld (some 4) (some (108, 0)) (.t 8)⟩,
    ⟨(some 62), none, .call [] [] 39 [(.t 56), (.t 59), (.t 60), (.t 61)]⟩,
    ⟨(some 9), none, .mv (.t 62)⟩]) <|
  .keep [0, 3, 9, 49, 50, 51] <|
  .seq (.reg [] [
    ⟨(some 63), none, .mv (.t 9)⟩,
    ⟨(some 64), none, .bin .neq (.t 63) (.c (.int .i64 0))⟩]) <|
  .keep [0, 3, 9, 49, 50, 51, 64] <|
  .cond (.t 64)
    (.seq (.reg [] [
      ⟨(some 65), none, .mv (.t 9)⟩,
      ⟨(some 4), none, .mv (.t 65)⟩]) <|
    .ret)
    (.skip)) <|
  .keep [0, 3, 49, 50, 51] <|
  .reg [] [
    ⟨(some 66), none, .bin .add (.t 51) (.c (.int .i64 1))⟩,
    ⟨(some 51), none, .mv (.t 66)⟩]) <|
  .keep [3] <|
  .seq (.seq (.reg [] [
    ⟨(some 67), none, .fad 2 (.t 3)⟩,
    ⟨(some 68), none, .ld none (some (103, 0)) (.t 67)⟩,
    ⟨(some 69), none, .len (.t 68)⟩,
    ⟨(some 70), none, .mv (.c (.int .i64 0))⟩]) <|
  .keep [3, 68, 69, 70] <|
  .block 4 <|
  .loop [3, 68, 69, 70] [103, 1000000] <|
  .seq (.reg [] [
    ⟨(some 71), none, .bin .lss (.t 70) (.t 69)⟩]) <|
  .keep [3, 68, 69, 70, 71] <|
  .seq (.cond (.t 71)
    (.skip)
    (.exit 4)) <|
  .keep [3, 68, 69, 70] <|
  .seq (.block 5 <|
  .seq (.reg [] [
    ⟨(some 72), none, .iad 2 (.t 68) (.t 70)⟩,
    ⟨(some 73), none, .ld (some 2) none (.t 72)⟩,
    ⟨(some 11), none, .new 111 56 [(.slice none 0 0), (.slice none 0 0)]⟩,
    ⟨none, none, .st 2 111 0 (.t 11) (.t 73)⟩]) <|
  .keep [3, 11, 68, 69, 70] <|
  .seq (.reg [] [
    ⟨(some 74), none, .fad 1 (.t 3)⟩,
    ⟨(some 75), none, .ld none (some (103, 0)) (.t 74)⟩,
    ⟨(some 76), none, .len (.t 75)⟩,
    ⟨(some 77), none, .ld (some 2) (some (111, 0)) (.t 11)⟩,
    ⟨(some 78), none, .call [] [] 40 [(.t 76), (.t 77)]⟩,
    ⟨(some 12), none, .mv (.t 78)⟩]) <|
  .keep [3, 12, 68, 69, 70] <|
  .seq (.reg [] [
    ⟨(some 79), none, .mv (.t 12)⟩,
    ⟨(some 80), none, .bin .neq (.t 79) (.c (.int .i64 0))⟩]) <|
  .keep [3, 12, 68, 69, 70, 80] <|
  .cond (.t 80)
    (.seq (.reg [] [
      ⟨(some 81), none, .mv (.t 12)⟩,
      ⟨(some 4), none, .mv (.t 81)⟩]) <|
    .ret)
    (.skip)) <|
  .keep [3, 68, 69, 70] <|
  .reg [] [
    ⟨(some 82), none, .bin .add (.t 70) (.c (.int .i64 1))⟩,
    ⟨(some 70), none, .mv (.t 82)⟩]) <|
  .keep [] <|
  .seq (.reg [] [
    ⟨(some 4), none, .mv (.c (.int .i64 0))⟩]) <|
  .ret,
  [.tmp 4], [], []⟩

theorem k_ref12_Check : rbFn Try.prog 18 r_ref12_Check = some r_ref12_Check := by kernel_rfl


set_option maxRecDepth 20000 in
theorem c_CheckR {p : Nat} {v : Value} {x : Circ} {G : GH} (hv : CircV G v x) : Pure 18 [.int .u64 p, v] G (.int .i64 (circErr p x)) := by
  obtain ⟨ss, gs, xs⟩ := x
  obtain ⟨v1, v2, v3, rfl, ⟨a1, c1, rfl, hs1, hs2, hs⟩, ⟨a2, c2, rfl, hg1, hg2, hgt⟩, ⟨css, a3, c3, rfl, hx1, hx2, hxr, hxl, hxv⟩⟩ := hv
  simp only at *
  refine acalls mixed k_ref12_Check (by simp) fun F => ?_
  simp only [GV, frArgs, memArgs, resV, fillL, ← Bool.decide_or, ← Bool.decide_and, ← decide_not, ↓reduceIte, Nat.reduceEqDiff, Nat.reduceAdd, Nat.reduceMul, Nat.reduceLeDiff, Nat.reduceLT, Nat.reduceSub, Nat.succ_ne_zero, Nat.one_ne_zero, Nat.zero_ne_one, true_implies, false_implies, forall_const, implies_true, reduceCtorEq, eq_self, ite_true, ite_false, decide_true, decide_false, Nat.le_refl, Bool.false_eq_true, if_true, if_false]
  intro bc
  refine c_Is01.mono ?_
  rintro o G1 Es hg ⟨rfl, rfl, rfl⟩
  simp only [GV, frArgs, memArgs, resV, fillL, ← Bool.decide_or, ← Bool.decide_and, ← decide_not, ↓reduceIte, Nat.reduceEqDiff, Nat.reduceAdd, Nat.reduceMul, Nat.reduceLeDiff, Nat.reduceLT, Nat.reduceSub, Nat.succ_ne_zero, Nat.one_ne_zero, Nat.zero_ne_one, true_implies, false_implies, forall_const, implies_true, reduceCtorEq, eq_self, ite_true, ite_false, decide_true, decide_false, Nat.le_refl, Bool.false_eq_true, if_true, if_false]
  refine cond_intro (fun h1 => ?_) (fun h1 => ?_)
  · have hp : isP p = false := by simpa using h1
    simp only [GV, frArgs, memArgs, resV, fillL, ← Bool.decide_or, ← Bool.decide_and, ← decide_not, ↓reduceIte, Nat.reduceEqDiff, Nat.reduceAdd, Nat.reduceMul, Nat.reduceLeDiff, Nat.reduceLT, Nat.reduceSub, Nat.succ_ne_zero, Nat.one_ne_zero, Nat.zero_ne_one, true_implies, false_implies, forall_const, implies_true, reduceCtorEq, eq_self, ite_true, ite_false, decide_true, decide_false, Nat.le_refl, Bool.false_eq_true, if_true, if_false, circErr, hp]
  have hp : isP p = true := by simpa using h1
  have hp0 : 0 < p := by
    rcases Nat.eq_zero_or_pos p with rfl | h
    · exact absurd hp (by decide)
    · exact h
  simp only [GV, frArgs, memArgs, resV, fillL, ← Bool.decide_or, ← Bool.decide_and, ← decide_not, ↓reduceIte, Nat.reduceEqDiff, Nat.reduceAdd, Nat.reduceMul, Nat.reduceLeDiff, Nat.reduceLT, Nat.reduceSub, Nat.succ_ne_zero, Nat.one_ne_zero, Nat.zero_ne_one, true_implies, false_implies, forall_const, implies_true, reduceCtorEq, eq_self, ite_true, ite_false, decide_true, decide_false, Nat.le_refl, Bool.false_eq_true, if_true, if_false]
  refine cond_dec (fun h2 => ?_) (fun h2 => ?_)
  · have e : circErr p ⟨ss, gs, xs⟩ = 3 := by simp only [circErr, hp]; rw [if_neg (by simp), if_pos (by omega)]
    simp only [GV, frArgs, memArgs, resV, fillL, ← Bool.decide_or, ← Bool.decide_and, ← decide_not, ↓reduceIte, Nat.reduceEqDiff, Nat.reduceAdd, Nat.reduceMul, Nat.reduceLeDiff, Nat.reduceLT, Nat.reduceSub, Nat.succ_ne_zero, Nat.one_ne_zero, Nat.zero_ne_one, true_implies, false_implies, forall_const, implies_true, reduceCtorEq, eq_self, ite_true, ite_false, decide_true, decide_false, Nat.le_refl, Bool.false_eq_true, if_true, if_false, e]
  have hlim : ¬ (256 < ss.length ∨ 65536 < gs.length ∨ 4096 < xs.length) := by omega
  simp only [GV, frArgs, memArgs, resV, fillL, ← Bool.decide_or, ← Bool.decide_and, ← decide_not, ↓reduceIte, Nat.reduceEqDiff, Nat.reduceAdd, Nat.reduceMul, Nat.reduceLeDiff, Nat.reduceLT, Nat.reduceSub, Nat.succ_ne_zero, Nat.one_ne_zero, Nat.zero_ne_one, true_implies, false_implies, forall_const, implies_true, reduceCtorEq, eq_self, ite_true, ite_false, decide_true, decide_false, Nat.le_refl, Bool.false_eq_true, if_true, if_false]
  refine loop_intro (fun n fr G' M => ∃ i : Nat, n = ss.length - i ∧ i ≤ ss.length ∧ (ss.drop i).any (fun s => decide (s.party < 1 ∨ 13 < s.party)) = ss.any (fun s => decide (s.party < 1 ∨ 13 < s.party)) ∧ G' = G1 ∧ fr = [(0, true, .int .u64 p), (3, true, .pointer (some ⟨bc, 0, none⟩)), (33, true, .slice a1 ss.length c1), (34, true, .int .i64 ss.length), (35, true, .int .i64 i)] ∧
    M = [(103, [.var bc 39 [.slice a1 ss.length c1, .slice a2 gs.length c2, .slice a3 xs.length c3]]), (1000000, F)]) ss.length ⟨0, by simp, by simp, by simp, rfl, by simp, rfl⟩ ?_
  rintro n fr G2 M - ⟨i, rfl, hi, hpp, rfl, rfl, rfl⟩
  simp only [GV, frArgs, memArgs, resV, fillL, ← Bool.decide_or, ← Bool.decide_and, ← decide_not, ↓reduceIte, Nat.reduceEqDiff, Nat.reduceAdd, Nat.reduceMul, Nat.reduceLeDiff, Nat.reduceLT, Nat.reduceSub, Nat.succ_ne_zero, Nat.one_ne_zero, Nat.zero_ne_one, true_implies, false_implies, forall_const, implies_true, reduceCtorEq, eq_self, ite_true, ite_false, decide_true, decide_false, Nat.le_refl, Bool.false_eq_true, if_true, if_false]
  refine cond_dec (fun h => ?_) (fun h => ?_)
  · have hlt : i < ss.length := by omega
    obtain ⟨b, o, rfl, hx⟩ := RowE.get hs hlt
    rw [List.drop_eq_getElem_cons hlt, List.any_cons] at hpp
    simp only [GV, frArgs, memArgs, resV, fillL, ← Bool.decide_or, ← Bool.decide_and, ← decide_not, ↓reduceIte, Nat.reduceEqDiff, Nat.reduceAdd, Nat.reduceMul, Nat.reduceLeDiff, Nat.reduceLT, Nat.reduceSub, Nat.succ_ne_zero, Nat.one_ne_zero, Nat.zero_ne_one, true_implies, false_implies, forall_const, implies_true, reduceCtorEq, eq_self, ite_true, ite_false, decide_true, decide_false, Nat.le_refl, Bool.false_eq_true, if_true, if_false, hx, Slot.enc]
    refine ⟨by omega, fun b2 => ?_⟩
    refine cond_dec (fun h5 => ?_) (fun h5 => ?_)
    · have e : circErr p ⟨ss, gs, xs⟩ = 2 := by
        rw [decide_eq_true h5, Bool.true_or] at hpp
        simp only [circErr, hp]
        rw [if_neg (by simp), if_neg hlim, if_pos hpp.symm]
      simp only [GV, frArgs, memArgs, resV, fillL, ← Bool.decide_or, ← Bool.decide_and, ← decide_not, ↓reduceIte, Nat.reduceEqDiff, Nat.reduceAdd, Nat.reduceMul, Nat.reduceLeDiff, Nat.reduceLT, Nat.reduceSub, Nat.succ_ne_zero, Nat.one_ne_zero, Nat.zero_ne_one, true_implies, false_implies, forall_const, implies_true, reduceCtorEq, eq_self, ite_true, ite_false, decide_true, decide_false, Nat.le_refl, Bool.false_eq_true, if_true, if_false, e]
    · rw [decide_eq_false h5, Bool.false_or] at hpp
      simp only [GV, frArgs, memArgs, resV, fillL, ← Bool.decide_or, ← Bool.decide_and, ← decide_not, ↓reduceIte, Nat.reduceEqDiff, Nat.reduceAdd, Nat.reduceMul, Nat.reduceLeDiff, Nat.reduceLT, Nat.reduceSub, Nat.succ_ne_zero, Nat.one_ne_zero, Nat.zero_ne_one, true_implies, false_implies, forall_const, implies_true, reduceCtorEq, eq_self, ite_true, ite_false, decide_true, decide_false, Nat.le_refl, Bool.false_eq_true, if_true, if_false, wrapn (show i < maxLen by omega)]
      exact ⟨ss.length - (i + 1), by omega, i + 1, rfl, by omega, hpp, rfl⟩
  have hss : ss.any (fun s => decide (s.party < 1 ∨ 13 < s.party)) = false := by
    rw [← hpp, List.drop_eq_nil_of_le (by omega), List.any_nil]
  clear hpp
  simp only [GV, frArgs, memArgs, resV, fillL, ← Bool.decide_or, ← Bool.decide_and, ← decide_not, ↓reduceIte, Nat.reduceEqDiff, Nat.reduceAdd, Nat.reduceMul, Nat.reduceLeDiff, Nat.reduceLT, Nat.reduceSub, Nat.succ_ne_zero, Nat.one_ne_zero, Nat.zero_ne_one, true_implies, false_implies, forall_const, implies_true, reduceCtorEq, eq_self, ite_true, ite_false, decide_true, decide_false, Nat.le_refl, Bool.false_eq_true, if_true, if_false]
  refine loop_intro (fun n fr G' M => ∃ i : Nat, n = gs.length - i ∧ i ≤ gs.length ∧ gatesErr p ss.length i (gs.drop i) = gatesErr p ss.length 0 gs ∧ G' = G2 ∧ fr = [(0, true, .int .u64 p), (3, true, .pointer (some ⟨bc, 0, none⟩)), (49, true, .slice a2 gs.length c2), (50, true, .int .i64 gs.length), (51, true, .int .i64 i)] ∧
    M = [(103, [.var bc 39 [.slice a1 ss.length c1, .slice a2 gs.length c2, .slice a3 xs.length c3]]), (1000000, F)]) gs.length ⟨0, by simp, by simp, by simp, rfl, by simp, rfl⟩ ?_
  rintro n fr G3 M - ⟨j, rfl, hj, hpp, rfl, rfl, rfl⟩
  simp only [GV, frArgs, memArgs, resV, fillL, ← Bool.decide_or, ← Bool.decide_and, ← decide_not, ↓reduceIte, Nat.reduceEqDiff, Nat.reduceAdd, Nat.reduceMul, Nat.reduceLeDiff, Nat.reduceLT, Nat.reduceSub, Nat.succ_ne_zero, Nat.one_ne_zero, Nat.zero_ne_one, true_implies, false_implies, forall_const, implies_true, reduceCtorEq, eq_self, ite_true, ite_false, decide_true, decide_false, Nat.le_refl, Bool.false_eq_true, if_true, if_false]
  refine cond_dec (fun h => ?_) (fun h => ?_)
  · have hlt : j < gs.length := by omega
    obtain ⟨b, o, rfl, hx⟩ := RowE.get hgt hlt
    rw [List.drop_eq_getElem_cons hlt, gatesErr] at hpp
    simp only [GV, frArgs, memArgs, resV, fillL, ← Bool.decide_or, ← Bool.decide_and, ← decide_not, ↓reduceIte, Nat.reduceEqDiff, Nat.reduceAdd, Nat.reduceMul, Nat.reduceLeDiff, Nat.reduceLT, Nat.reduceSub, Nat.succ_ne_zero, Nat.one_ne_zero, Nat.zero_ne_one, true_implies, false_implies, forall_const, implies_true, reduceCtorEq, eq_self, ite_true, ite_false, decide_true, decide_false, Nat.le_refl, Bool.false_eq_true, if_true, if_false, hx, Gate.enc]
    refine ⟨by omega, fun b2 => ?_⟩
    refine (c_GateR (g := gs[j]) hp0).mono ?_
    rintro o G1 Es hg ⟨rfl, rfl, rfl⟩
    simp only [GV, frArgs, memArgs, resV, fillL, ← Bool.decide_or, ← Bool.decide_and, ← decide_not, ↓reduceIte, Nat.reduceEqDiff, Nat.reduceAdd, Nat.reduceMul, Nat.reduceLeDiff, Nat.reduceLT, Nat.reduceSub, Nat.succ_ne_zero, Nat.one_ne_zero, Nat.zero_ne_one, true_implies, false_implies, forall_const, implies_true, reduceCtorEq, eq_self, ite_true, ite_false, decide_true, decide_false, Nat.le_refl, Bool.false_eq_true, if_true, if_false]
    refine cond_dec (fun h5 => ?_) (fun h5 => ?_)
    · rw [if_pos h5] at hpp
      have e : circErr p ⟨ss, gs, xs⟩ = gateErr p ss.length j gs[j] := by
        simp only [circErr, hp]
        rw [if_neg (by simp), if_neg hlim, if_neg (by rw [hss]; simp), if_pos (by rw [← hpp]; exact h5), hpp]
      simp only [GV, frArgs, memArgs, resV, fillL, ← Bool.decide_or, ← Bool.decide_and, ← decide_not, ↓reduceIte, Nat.reduceEqDiff, Nat.reduceAdd, Nat.reduceMul, Nat.reduceLeDiff, Nat.reduceLT, Nat.reduceSub, Nat.succ_ne_zero, Nat.one_ne_zero, Nat.zero_ne_one, true_implies, false_implies, forall_const, implies_true, reduceCtorEq, eq_self, ite_true, ite_false, decide_true, decide_false, Nat.le_refl, Bool.false_eq_true, if_true, if_false, e]
    · rw [if_neg h5] at hpp
      simp only [GV, frArgs, memArgs, resV, fillL, ← Bool.decide_or, ← Bool.decide_and, ← decide_not, ↓reduceIte, Nat.reduceEqDiff, Nat.reduceAdd, Nat.reduceMul, Nat.reduceLeDiff, Nat.reduceLT, Nat.reduceSub, Nat.succ_ne_zero, Nat.one_ne_zero, Nat.zero_ne_one, true_implies, false_implies, forall_const, implies_true, reduceCtorEq, eq_self, ite_true, ite_false, decide_true, decide_false, Nat.le_refl, Bool.false_eq_true, if_true, if_false, wrapn (show j < maxLen by omega)]
      exact ⟨gs.length - (j + 1), by omega, j + 1, rfl, by omega, hpp, rfl⟩
  have hgs : gatesErr p ss.length 0 gs = 0 := by
    rw [← hpp, List.drop_eq_nil_of_le (by omega)]; rfl
  clear hpp
  have hce : circErr p ⟨ss, gs, xs⟩ = exitsErr gs.length xs := by
    simp only [circErr, hp]
    rw [if_neg (by simp), if_neg hlim, if_neg (by rw [hss]; simp), if_neg (by rw [hgs]; simp)]
  simp only [GV, frArgs, memArgs, resV, fillL, ← Bool.decide_or, ← Bool.decide_and, ← decide_not, ↓reduceIte, Nat.reduceEqDiff, Nat.reduceAdd, Nat.reduceMul, Nat.reduceLeDiff, Nat.reduceLT, Nat.reduceSub, Nat.succ_ne_zero, Nat.one_ne_zero, Nat.zero_ne_one, true_implies, false_implies, forall_const, implies_true, reduceCtorEq, eq_self, ite_true, ite_false, decide_true, decide_false, Nat.le_refl, Bool.false_eq_true, if_true, if_false]
  refine loop_intro (fun n fr G' M => ∃ i : Nat, n = xs.length - i ∧ i ≤ xs.length ∧ exitsErr gs.length (xs.drop i) = exitsErr gs.length xs ∧ G' = G3 ∧ fr = [(3, true, .pointer (some ⟨bc, 0, none⟩)), (68, true, .slice a3 xs.length c3), (69, true, .int .i64 xs.length), (70, true, .int .i64 i)] ∧
    M = [(103, [.var bc 39 [.slice a1 ss.length c1, .slice a2 gs.length c2, .slice a3 xs.length c3]]), (1000000, F)]) xs.length ⟨0, by simp, by simp, by simp, rfl, by simp, rfl⟩ ?_
  rintro n fr G4 M - ⟨k, rfl, hk, hpp, rfl, rfl, rfl⟩
  simp only [GV, frArgs, memArgs, resV, fillL, ← Bool.decide_or, ← Bool.decide_and, ← decide_not, ↓reduceIte, Nat.reduceEqDiff, Nat.reduceAdd, Nat.reduceMul, Nat.reduceLeDiff, Nat.reduceLT, Nat.reduceSub, Nat.succ_ne_zero, Nat.one_ne_zero, Nat.zero_ne_one, true_implies, false_implies, forall_const, implies_true, reduceCtorEq, eq_self, ite_true, ite_false, decide_true, decide_false, Nat.le_refl, Bool.false_eq_true, if_true, if_false]
  refine cond_dec (fun h => ?_) (fun h => ?_)
  · have hlt : k < xs.length := by omega
    have hlt' : k < css.length := by omega
    obtain ⟨b, o, rfl, hx⟩ := hxr.get (List.getElem?_eq_getElem hlt')
    obtain ⟨v, u, hcs, hv, hu⟩ := hxv k hlt hlt'
    rw [hcs] at hx
    rw [List.drop_eq_getElem_cons hlt, exitsErr] at hpp
    have hv2 := hv
    have hu2 := hu
    obtain ⟨av, cv, rfl, -, -, -⟩ := hv2
    obtain ⟨au, cu, rfl, -, -, -⟩ := hu2
    simp only [GV, frArgs, memArgs, resV, fillL, ← Bool.decide_or, ← Bool.decide_and, ← decide_not, ↓reduceIte, Nat.reduceEqDiff, Nat.reduceAdd, Nat.reduceMul, Nat.reduceLeDiff, Nat.reduceLT, Nat.reduceSub, Nat.succ_ne_zero, Nat.one_ne_zero, Nat.zero_ne_one, true_implies, false_implies, forall_const, implies_true, reduceCtorEq, eq_self, ite_true, ite_false, decide_true, decide_false, Nat.le_refl, Bool.false_eq_true, if_true, if_false, hx]
    refine ⟨by omega, fun b2 => ?_⟩
    refine (c_ExitR (x := xs[k]) hv hu).mono ?_
    rintro o G1 Es hg ⟨rfl, rfl, rfl⟩
    simp only [GV, frArgs, memArgs, resV, fillL, ← Bool.decide_or, ← Bool.decide_and, ← decide_not, ↓reduceIte, Nat.reduceEqDiff, Nat.reduceAdd, Nat.reduceMul, Nat.reduceLeDiff, Nat.reduceLT, Nat.reduceSub, Nat.succ_ne_zero, Nat.one_ne_zero, Nat.zero_ne_one, true_implies, false_implies, forall_const, implies_true, reduceCtorEq, eq_self, ite_true, ite_false, decide_true, decide_false, Nat.le_refl, Bool.false_eq_true, if_true, if_false]
    refine cond_dec (fun h5 => ?_) (fun h5 => ?_)
    · rw [if_pos h5] at hpp
      simp only [GV, frArgs, memArgs, resV, fillL, ← Bool.decide_or, ← Bool.decide_and, ← decide_not, ↓reduceIte, Nat.reduceEqDiff, Nat.reduceAdd, Nat.reduceMul, Nat.reduceLeDiff, Nat.reduceLT, Nat.reduceSub, Nat.succ_ne_zero, Nat.one_ne_zero, Nat.zero_ne_one, true_implies, false_implies, forall_const, implies_true, reduceCtorEq, eq_self, ite_true, ite_false, decide_true, decide_false, Nat.le_refl, Bool.false_eq_true, if_true, if_false, hce, ← hpp]
    · rw [if_neg h5] at hpp
      simp only [GV, frArgs, memArgs, resV, fillL, ← Bool.decide_or, ← Bool.decide_and, ← decide_not, ↓reduceIte, Nat.reduceEqDiff, Nat.reduceAdd, Nat.reduceMul, Nat.reduceLeDiff, Nat.reduceLT, Nat.reduceSub, Nat.succ_ne_zero, Nat.one_ne_zero, Nat.zero_ne_one, true_implies, false_implies, forall_const, implies_true, reduceCtorEq, eq_self, ite_true, ite_false, decide_true, decide_false, Nat.le_refl, Bool.false_eq_true, if_true, if_false, wrapn (show k < maxLen by omega)]
      exact ⟨xs.length - (k + 1), by omega, k + 1, rfl, by omega, hpp, rfl⟩
  · rw [List.drop_eq_nil_of_le (by omega)] at hpp
    simp only [GV, frArgs, memArgs, resV, fillL, ← Bool.decide_or, ← Bool.decide_and, ← decide_not, ↓reduceIte, Nat.reduceEqDiff, Nat.reduceAdd, Nat.reduceMul, Nat.reduceLeDiff, Nat.reduceLT, Nat.reduceSub, Nat.succ_ne_zero, Nat.one_ne_zero, Nat.zero_ne_one, true_implies, false_implies, forall_const, implies_true, reduceCtorEq, eq_self, ite_true, ite_false, decide_true, decide_false, Nat.le_refl, Bool.false_eq_true, if_true, if_false, hce, ← hpp, exitsErr]
end Go.Gv.W
