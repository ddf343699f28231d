/-
  The law that a board that nobody made refuses every call holds for every act. No condition.
-/
import Derived.Test.YtokidokmcbkodaaGvW29
import Derived.Test.YtokidokmcbkodaaGvW30
namespace Go.Gv.W
set_option linter.unusedSimpArgs false
set_option linter.unusedVariables false
set_option linter.unusedSectionVars false
open Go.RowKit Go.Proofs

/-- junto/juntolaw13.WordNobody -/
def r_law13_WordNobody : RFn := ⟨46,
  .ghost 1 <|
  .ghost 2 <|
  .ghost 3 <|
  .seq (.reg [] [
    ⟨(some 1), none, .box 101 58 (.t 0)⟩,
    ⟨(some 2), none, .mv (.c (.bool false))⟩]) <|
  .keep [1] <|
  .seq (.reg [] [
    ⟨(some 6), none, .fad 0 (.t 1)⟩,
    ⟨(some 7), none, .ld none (some (101, 0)) (.t 6)⟩,
    ⟨(some 8), none, .cvi .u64 (.t 7)⟩,
    ⟨(some 9), none, .bin .rem (.t 8) (.c (.int .u64 15))⟩,
    ⟨(some 10), none, .cvi .i64 (.t 9)⟩,
    ⟨(some 11), none, .fad 0 (.t 1)⟩,
    ⟨none, none, .st 1 101 0 (.t 11) (.t 10)⟩]) <|
  .keep [1] <|
  .seq (.seq (.reg [] [
    ⟨(some 12), none, .bld [(.int .u64 0), (.slice none 0 0), (.slice none 0 0), (.slice none 0 0)] [(0, 1), (1, 3)] []⟩,
    ⟨(some 13), none, .box 0 61 (.t 12)⟩,
    ⟨(some 14), none, .bsl none 22 2 1 [(.pointer none), (.pointer none)] [(0, 1), (1, 1)] [(0, (.c (.pointer none))), (1, (.t 13))]⟩,
    ⟨(some 15), none, .len (.t 14)⟩,
    ⟨(some 16), none, .mv (.c (.int .i64 0))⟩]) <|
  .keep [1, 14, 15, 16] <|
  .block 0 <|
  .loop [1, 14, 15, 16] [1, 2, 3, 101, 0, 1000000] <|
  .seq (.reg [] [
    ⟨(some 17), none, .bin .lss (.t 16) (.t 15)⟩]) <|
  .keep [1, 14, 15, 16, 17] <|
  .seq (.cond (.t 17)
    (.skip)
    (.exit 0)) <|
  .keep [1, 14, 15, 16] <|
  .seq (.block 1 <|
  .seq (.reg [] [
    ⟨(some 18), none, .iad 1 (.t 14) (.t 16)⟩,
    ⟨(some 19), none, .ld none none (.t 18)⟩,
    ⟨(some 4), none, .mv (.t 19)⟩]) <|
  .keep [1, 4, 14, 15, 16] <|
  .seq (.reg [] [
    ⟨(some 20), none, .mv (.t 4)⟩,
    ⟨(some 21), none, .ld (some 15) (some (101, 0)) (.t 1)⟩,
    ⟨(some 22), none, .call [0, 1, 2, 3] [0, 1, 2, 3] 21 [(.t 20), (.t 21)]⟩,
    ⟨(some 5), none, .new 105 64 [(.int .i64 0), (.slice none 0 0), (.int .i64 0)]⟩,
    ⟨none, none, .st 3 105 0 (.t 5) (.t 22)⟩]) <|
  .keep [1, 4, 5, 14, 15, 16] <|
  .seq (.reg [] [
    ⟨(some 23), none, .fad 2 (.t 5)⟩,
    ⟨(some 24), none, .ld none (some (105, 0)) (.t 23)⟩,
    ⟨(some 25), none, .bin .neq (.t 24) (.c (.int .i64 1))⟩,
    ⟨(some 26), none, .mv (.t 25)⟩,
    ⟨(some 27), (some (26, false, false)), .fad 0 (.t 5)⟩,
    ⟨(some 28), (some (26, false, false)), .ld none (some (105, 0)) (.t 27)⟩,
    ⟨(some 29), (some (26, false, false)), .bin .neq (.t 28) (.c (.int .i64 0))⟩,
    ⟨(some 30), none, .pick (.t 26) (.c (.bool true)) (.t 29)⟩,
    ⟨(some 31), none, .mv (.t 30)⟩,
    ⟨(some 32), (some (31, false, false)), .fad 1 (.t 5)⟩,
    ⟨(some 33), (some (31, false, false)), .ld none (some (105, 0)) (.t 32)⟩,
    ⟨(some 34), (some (31, false, false)), .len (.t 33)⟩,
    ⟨(some 35), (some (31, false, false)), .bin .neq (.t 34) (.c (.int .i64 0))⟩,
    ⟨(some 36), none, .pick (.t 31) (.c (.bool true)) (.t 35)⟩,
    ⟨(some 37), none, .mv (.t 36)⟩,
    ⟨(some 38), (some (37, false, false)), .mv (.t 4)⟩,
    ⟨(some 39), (some (37, false, false)), .call [0, 1, 2, 3] [0, 1, 2, 3] 10 [(.t 38)]⟩,
    ⟨(some 40), (some (37, false, false)), .bld [(.slice none 0 0), (.slice none 0 0), (.slice none 0 0)] [(0, 1), (1, 1), (2, 1)] []⟩,
    ⟨(some 41), (some (37, false, false)), .call [] [] 22 [(.t 39), (.t 40)]⟩,
    ⟨(some 42), (some (37, false, false)), .un .not (.t 41)⟩,
    ⟨(some 43), none, .pick (.t 37) (.c (.bool true)) (.t 42)⟩]) <|
  .keep [1, 14, 15, 16, 43] <|
  .cond (.t 43)
    (.seq (.reg [] [
      ⟨(some 2), none, .mv (.c (.bool false))⟩]) <|
    .ret)
    (.skip)) <|
  .keep [1, 14, 15, 16] <|
  .reg [] [
    ⟨(some 44), none, .bin .add (.t 16) (.c (.int .i64 1))⟩,
    ⟨(some 16), none, .mv (.t 44)⟩]) <|
  .keep [] <|
  .seq (.reg [] [
    ⟨(some 45), none, .call [] [] 11 []⟩,
    ⟨(some 2), none, .mv (.t 45)⟩]) <|
  .ret,
  [.tmp 2], [], []⟩

theorem k_law13_WordNobody : rbFn Try.prog 5 r_law13_WordNobody = some r_law13_WordNobody := by kernel_rfl


/-- Labels that a call has no use for may be lent to it. -/
theorem lend0 {P : Program} {f : FuncId} {args : List Value} {G : GH} {R : Out → GH → List (List Ent) → Prop} (E : List (List Ent)) (h : ACalls P f args G [[], [], [], []] R) (hR : ∀ o G' Es', R o G' Es' → Es' = [[], [], [], []]) :
    ACalls P f args G E (fun o G' Es' => R o G' [[], [], [], []] ∧ Es' = E) := by
  refine ⟨h.1, fun w0 w F hv => (h.2 w0 w (E.flatten ++ F) (by simpa using hv)).mono ?_⟩
  rintro e w' ⟨o, G', Es', hg, hv', hr, he⟩
  have := hR _ _ _ hr
  subst this
  exact ⟨o, G', E, hg, by simpa using hv', ⟨hr, rfl⟩, he⟩
def noB : Bd := ⟨0, .none⟩
theorem noB_act (x : Act) : noB.act x = ((0, [], 1), noB) := by
  simp only [Bd.act, Bd.slot, Bd.put, Bd.tell, doM, wordsM, zI, zW, noB]
  repeat' split
  all_goals first | rfl | simp_all

theorem do_no {G : GH} {el p u : Value} {y : Act} {Es : List (List Ent)} (he : el = .pointer none ∨ el = p) (hb : BoardV G p noB Es) (hu : ActV G u y) :
    ACalls Try.prog 21 [el, u] G Es fun o G' Es' => ∃ a c, o = .ret (.agg #[.int .i64 0, .slice a 0 c, .int .i64 1]) ∧ BoardV G' p noB Es' := by
  have h0 : ∀ {p : Value} {Es : List (List Ent)}, BoardV G p noB Es → ACalls Try.prog 21 [p, u] G Es fun o G' Es' => ∃ a c, o = .ret (.agg #[.int .i64 0, .slice a 0 c, .int .i64 1]) ∧ BoardV G' p noB Es' := by
    intro p Es hb
    refine (c_act hb hu).mono ?_
    rintro o G' Es' hg ⟨w, rfl, hw, hb'⟩
    rw [noB_act] at hw hb' ⊢
    obtain ⟨a, c, rfl, -⟩ := hw
    exact ⟨a, c, rfl, hb'⟩
  rcases he with rfl | rfl
  · refine (lend0 Es (h0 (p := .pointer none) (Es := [[], [], [], []]) (.inl ⟨rfl, rfl, rfl⟩)) ?_).mono ?_
    · rintro o G' Es' ⟨a, c, h, hb'⟩
      rcases hb' with ⟨_, _, h3⟩ | ⟨bb, h4, _⟩
      · exact h3
      · cases h4
    · rintro o G' Es' hg ⟨⟨a, c, h, -⟩, rfl⟩
      exact ⟨a, c, h, hb.mono hg⟩
  · exact h0 hb
theorem circuit_no {G : GH} {el p : Value} {Es : List (List Ent)} (he : el = .pointer none ∨ el = p) (hb : BoardV G p noB Es) :
    ACalls Try.prog 10 [el] G Es fun o G' Es' => ∃ w, o = .ret w ∧ CircV G' w .none ∧ Es' = Es := by
  have h0 : ∀ {p : Value} {Es : List (List Ent)}, BoardV G p noB Es → ACalls Try.prog 10 [p] G Es fun o G' Es' => ∃ w, o = .ret w ∧ CircV G' w .none ∧ Es' = Es := by
    intro p Es hb
    refine (c_Circuit hb).mono ?_
    rintro o G' Es' hg ⟨w, rfl, hw, rfl⟩
    rw [if_pos (show noB.p = 0 from rfl)] at hw
    exact ⟨w, rfl, hw, rfl⟩
  rcases he with rfl | rfl
  · refine (lend0 Es (h0 (p := .pointer none) (Es := [[], [], [], []]) (.inl ⟨rfl, rfl, rfl⟩)) ?_).mono ?_
    · rintro o G' Es' ⟨w, h, _, h2⟩
      exact h2
    · rintro o G' Es' hg ⟨⟨w, h, h2, -⟩, rfl⟩
      exact ⟨w, h, h2, rfl⟩
  · exact h0 hb
theorem circ_zero {G : GH} : CircV G (.agg #[.slice none 0 0, .slice none 0 0, .slice none 0 0]) .none := by
  refine ⟨_, _, _, rfl, ⟨none, 0, rfl, Nat.le_refl _, Nat.zero_le _, by simp [Circ.none], rfl⟩, ⟨none, 0, rfl, Nat.le_refl _, Nat.zero_le _, by simp [Circ.none], rfl⟩, ⟨[], none, 0, rfl, Nat.le_refl _, Nat.zero_le _, ⟨by simp, rfl⟩, exits_nil⟩⟩
theorem cast0 : ((0 : Nat) : Int) = 0 := rfl

set_option maxHeartbeats 2000000 in
set_option maxRecDepth 20000 in
theorem c_WordNobody {G : GH} {u : Value} {x : Act} (hu : ActV G u x) : ACalls Try.prog 5 [u] G [] fun o G' Es' => o = .ret (.bool true) ∧ Es' = [] := by
  obtain ⟨v, w, t, g, rfl, hv, hw, ht, hg⟩ := hu
  have hv0 := hv
  have hw0 := hw
  have ht0 := ht
  have hg0 := hg
  obtain ⟨a1, c1, rfl, -⟩ := hv
  obtain ⟨a2, c2, rfl, -⟩ := hw
  obtain ⟨a3, c3, rfl, -⟩ := ht
  obtain ⟨a4, c4, rfl, -⟩ := hg
  refine acalls mixed k_law13_WordNobody (by simp) fun F => ?_
  simp only [GV, frArgs, memArgs, resV, fillL, ← Bool.decide_or, ← Bool.decide_and, ← decide_not, ↓reduceIte, Nat.reduceEqDiff, Nat.reduceAdd, Nat.reduceMul, Nat.reduceLeDiff, Nat.reduceLT, Nat.reduceSub, Nat.succ_ne_zero, Nat.one_ne_zero, Nat.zero_ne_one, true_implies, false_implies, forall_const, implies_true, reduceCtorEq, eq_self, ite_true, ite_false, decide_true, decide_false, Nat.le_refl, Bool.false_eq_true, if_true, if_false]
  intro b
  refine ⟨by omega, ?_⟩
  intro b1
  refine bsl_intro fun b5 G1 hg1 hc5 => ?_
  simp only [GV, frArgs, memArgs, resV, fillL, ← Bool.decide_or, ← Bool.decide_and, ← decide_not, ↓reduceIte, Nat.reduceEqDiff, Nat.reduceAdd, Nat.reduceMul, Nat.reduceLeDiff, Nat.reduceLT, Nat.reduceSub, Nat.succ_ne_zero, Nat.one_ne_zero, Nat.zero_ne_one, true_implies, false_implies, forall_const, implies_true, reduceCtorEq, eq_self, ite_true, ite_false, decide_true, decide_false, Nat.le_refl, Bool.false_eq_true, if_true, if_false]
  generalize hy : ({ x with op := IntKind.i64.wrap ((IntKind.u64.wrap x.op).tmod 15) } : Act) = y
  refine loop_intro (fun m fr G' M => ∃ (i : Nat) (e0 e1 e2 e3 : List Ent), m = 2 - i ∧ i ≤ 2 ∧ BoardV G' (.pointer (some ⟨b1, 0, none⟩)) noB [e0, e1, e2, e3] ∧ GLe G1 G' ∧
      fr = [(1, true, .pointer (some ⟨b, 0, none⟩)), (14, true, .slice (some ⟨b5, 0, none⟩) 2 2), (15, true, .int .i64 2), (16, true, .int .i64 i)] ∧
      M = [(1, e1), (2, e2), (3, e3), (101, [.var b 58 [.int .i64 y.op, .int .i64 y.a, .int .i64 y.b, .int .i64 y.c, .int .u64 y.k, .slice a1 y.v.length c1, .slice a2 y.w.length c2, .int .i64 y.slot.party, .bool y.slot.bit, .int .i64 y.gate.kind, .int .i64 y.gate.a, .int .i64 y.gate.b, .int .u64 y.gate.k, .slice a3 y.exit.to.length c3, .slice a4 y.exit.gates.length c4]]), (0, e0), (1000000, F)]) 2
    ⟨0, _, [], [], [], by simp, by simp, .inr ⟨b1, rfl, .slice none 0 0, .slice none 0 0, .slice none 0 0, [], [], [], rfl, OwnS.nil _ _ _, OwnV.nil _ _, ⟨[], OwnS.nil _ _ _, ?_⟩, by simp [noB], by simp [noB, Circ.none], by simp [noB, Circ.none], by simp [noB, Circ.none], by simp [noB, Circ.none]⟩, GLe.refl _, rfl, by subst hy; rfl⟩ ?_
  · exact exits_nil
  have hvy : SlI G .i64 (.slice a1 y.v.length c1) y.v := by subst hy; exact hv0
  have hwy : SlI G .i64 (.slice a2 y.w.length c2) y.w := by subst hy; exact hw0
  have hty : SlI G .i64 (.slice a3 y.exit.to.length c3) y.exit.to := by subst hy; exact ht0
  have hgy : SlI G .i64 (.slice a4 y.exit.gates.length c4) y.exit.gates := by subst hy; exact hg0
  have hay : ∀ G', GLe G G' → ActV G' (.agg #[.int .i64 y.op, .int .i64 y.a, .int .i64 y.b, .int .i64 y.c, .int .u64 y.k, .slice a1 y.v.length c1, .slice a2 y.w.length c2, .int .i64 y.slot.party, .bool y.slot.bit, .int .i64 y.gate.kind, .int .i64 y.gate.a, .int .i64 y.gate.b, .int .u64 y.gate.k, .slice a3 y.exit.to.length c3, .slice a4 y.exit.gates.length c4]) y :=
    fun G' hg => ⟨_, _, _, _, rfl, SlI.mono hvy hg, SlI.mono hwy hg, SlI.mono hty hg, SlI.mono hgy hg⟩
  clear hy hv0 hw0 ht0 hg0 hvy hwy hty hgy
  rintro m fr G2 M - ⟨i, e0, e1, e2, e3, rfl, hi, hb, hg2, rfl, rfl⟩
  simp only [GV, frArgs, memArgs, resV, fillL, ← Bool.decide_or, ← Bool.decide_and, ← decide_not, ↓reduceIte, Nat.reduceEqDiff, Nat.reduceAdd, Nat.reduceMul, Nat.reduceLeDiff, Nat.reduceLT, Nat.reduceSub, Nat.succ_ne_zero, Nat.one_ne_zero, Nat.zero_ne_one, true_implies, false_implies, forall_const, implies_true, reduceCtorEq, eq_self, ite_true, ite_false, decide_true, decide_false, Nat.le_refl, Bool.false_eq_true, if_true, if_false]
  refine cond_dec (fun h => ?_) (fun h => ?_)
  · obtain ⟨el, hel, hxa⟩ : ∃ el, (el = .pointer none ∨ el = .pointer (some ⟨b1, 0, none⟩)) ∧ G2 b5 i = some el := by
      have h01 : i = 0 ∨ i = 1 := by omega
      rcases h01 with rfl | rfl
      · exact ⟨_, .inl rfl, hg2 _ _ _ (hc5 0 _ rfl)⟩
      · exact ⟨_, .inr rfl, hg2 _ _ _ (hc5 1 _ rfl)⟩
    simp only [GV, frArgs, memArgs, resV, fillL, ← Bool.decide_or, ← Bool.decide_and, ← decide_not, ↓reduceIte, Nat.reduceEqDiff, Nat.reduceAdd, Nat.reduceMul, Nat.reduceLeDiff, Nat.reduceLT, Nat.reduceSub, Nat.succ_ne_zero, Nat.one_ne_zero, Nat.zero_ne_one, true_implies, false_implies, forall_const, implies_true, reduceCtorEq, eq_self, ite_true, ite_false, decide_true, decide_false, Nat.le_refl, Bool.false_eq_true, if_true, if_false, hxa, Nat.mul_one]
    refine ⟨by omega, ?_⟩
    refine (do_no hel hb (hay _ (hg1.trans hg2))).mono ?_
    rintro o G3 Es hg3 ⟨a7, c7, rfl, hb⟩
    obtain ⟨e0, e1, e2, e3, rfl⟩ := boardV_es hb
    simp only [GV, frArgs, memArgs, resV, fillL, ← Bool.decide_or, ← Bool.decide_and, ← decide_not, ↓reduceIte, Nat.reduceEqDiff, Nat.reduceAdd, Nat.reduceMul, Nat.reduceLeDiff, Nat.reduceLT, Nat.reduceSub, Nat.succ_ne_zero, Nat.one_ne_zero, Nat.zero_ne_one, true_implies, false_implies, forall_const, implies_true, reduceCtorEq, eq_self, ite_true, ite_false, decide_true, decide_false, Nat.le_refl, Bool.false_eq_true, if_true, if_false, cast0, ne_eq, not_true_eq_false, not_false_eq_true, decide_false, decide_true]
    intro b8
    refine (circuit_no hel hb).mono ?_
    rintro o G4 Es hg4 ⟨w, rfl, hw, rfl⟩
    simp only [GV, frArgs, memArgs, resV, fillL, ← Bool.decide_or, ← Bool.decide_and, ← decide_not, ↓reduceIte, Nat.reduceEqDiff, Nat.reduceAdd, Nat.reduceMul, Nat.reduceLeDiff, Nat.reduceLT, Nat.reduceSub, Nat.succ_ne_zero, Nat.one_ne_zero, Nat.zero_ne_one, true_implies, false_implies, forall_const, implies_true, reduceCtorEq, eq_self, ite_true, ite_false, decide_true, decide_false, Nat.le_refl, Bool.false_eq_true, if_true, if_false]
    refine (c_Same hw circ_zero).mono ?_
    rintro o G5 Es hg ⟨rfl, rfl, rfl⟩
    replace hb := hb.mono hg4
    simp only [GV, frArgs, memArgs, resV, fillL, ← Bool.decide_or, ← Bool.decide_and, ← decide_not, ↓reduceIte, Nat.reduceEqDiff, Nat.reduceAdd, Nat.reduceMul, Nat.reduceLeDiff, Nat.reduceLT, Nat.reduceSub, Nat.succ_ne_zero, Nat.one_ne_zero, Nat.zero_ne_one, true_implies, false_implies, forall_const, implies_true, reduceCtorEq, eq_self, ite_true, ite_false, decide_true, decide_false, Nat.le_refl, Bool.false_eq_true, if_true, if_false, ne_eq, not_true_eq_false, not_false_eq_true, decide_false, decide_true, wrapn (show i < maxLen by simp only [maxLen]; omega)]
    exact ⟨2 - (i + 1), by omega, i + 1, e0, e1, e2, e3, rfl, by omega, hb, hg2.trans (hg3.trans hg4), rfl, rfl⟩
  · simp only [GV, frArgs, memArgs, resV, fillL, ← Bool.decide_or, ← Bool.decide_and, ← decide_not, ↓reduceIte, Nat.reduceEqDiff, Nat.reduceAdd, Nat.reduceMul, Nat.reduceLeDiff, Nat.reduceLT, Nat.reduceSub, Nat.succ_ne_zero, Nat.one_ne_zero, Nat.zero_ne_one, true_implies, false_implies, forall_const, implies_true, reduceCtorEq, eq_self, ite_true, ite_false, decide_true, decide_false, Nat.le_refl, Bool.false_eq_true, if_true, if_false]
    refine c_alive.mono ?_
    rintro o G7 Es hg7 ⟨rfl, rfl⟩
    simp only [GV, frArgs, memArgs, resV, fillL, ← Bool.decide_or, ← Bool.decide_and, ← decide_not, ↓reduceIte, Nat.reduceEqDiff, Nat.reduceAdd, Nat.reduceMul, Nat.reduceLeDiff, Nat.reduceLT, Nat.reduceSub, Nat.succ_ne_zero, Nat.one_ne_zero, Nat.zero_ne_one, true_implies, false_implies, forall_const, implies_true, reduceCtorEq, eq_self, ite_true, ite_false, decide_true, decide_false, Nat.le_refl, Bool.false_eq_true, if_true, if_false]
end Go.Gv.W
