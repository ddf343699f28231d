/-
  What is added as a whole, or not at all. No condition.
-/
import Derived.Test.YtokidokmcbkodaaGvW19
namespace Go.Gv.W
set_option linter.unusedSimpArgs false
set_option linter.unusedVariables false
set_option linter.unusedSectionVars false
open Go.RowKit Go.Proofs

/-- Gates more. -/
def Ext (B B' : Bd) : Prop := ∃ gs, B' = { B with c := { B.c with gates := B.c.gates ++ gs } }
def doM {α : Type} (B : Bd) (are : List Int) (m : Rm α) : Option α × Int × Bd :=
  if B.p = 0 then (none, 1, B) else if (are.any fun i => decide (i < 0 ∨ (B.c.gates.length : Int) ≤ i)) = true then (none, 13, B) else
    match m B with
    | .ok x B' => (some x, 0, B')
    | .bad e _ => (none, e, B)
def DoR {α : Type} (vb z : Value) (enc : α → GH → Value → Prop) (r : Option α × Int × Bd) (o : Out) (G' : GH) (Es' : List (List Ent)) : Prop :=
  ∃ v, o = .ret (.tuple #[v, .int .i64 r.2.1]) ∧ (match r.1 with | some x => enc x G' v | none => v = z) ∧ BoardV G' vb r.2.2 Es'
theorem DoR.none {α : Type} {vb z : Value} {enc : α → GH → Value → Prop} {r : Option α × Int × Bd} {e : Int} {B : Bd} {G' : GH} {Es' : List (List Ent)} (h : r = (.none, e, B)) (hb : BoardV G' vb B Es') : DoR vb z enc r (.ret (.tuple #[z, .int .i64 e])) G' Es' := by
  subst h; exact ⟨_, rfl, rfl, hb⟩
theorem DoR.some {α : Type} {vb z v : Value} {enc : α → GH → Value → Prop} {r : Option α × Int × Bd} {x : α} {B : Bd} {G' : GH} {Es' : List (List Ent)} (h : r = (.some x, 0, B)) (hv : enc x G' v) (hb : BoardV G' vb B Es') : DoR vb z enc r (.ret (.tuple #[v, .int .i64 0])) G' Es' := by
  subst h; exact ⟨_, rfl, hv, hb⟩
theorem ownV_cap {e : TypeId} {sz : Nat} {a : Option Addr} {n c : Nat} {cells : List Value} {es : List Ent} (h : OwnV e sz (.slice a n c) cells es) : n ≤ c := by
  obtain ⟨n', c', h1, h2, h3, h⟩ := h
  rcases h with ⟨a0, ha0, h4, h5, _⟩ | ⟨b, pad, h4, _⟩
  · cases h4; exact Nat.le_refl _
  · cases h4; exact h1

/-- junto/word.do[int]$1 -/
def r_word_do_int_1 : RFn := ⟨16,
  .seq (.reg [] [
    ⟨(some 3), none, .mv (.c (.bool false))⟩]) <|
  .keep [0, 1] <|
  .seq (.reg [] [
    ⟨(some 4), none, .mv (.t 0)⟩,
    ⟨(some 5), none, .bin .lss (.t 4) (.c (.int .i64 0))⟩,
    ⟨(some 6), none, .mv (.t 5)⟩,
    ⟨(some 7), (some (6, false, true)), .mv (.t 0)⟩,
    ⟨(some 8), (some (6, false, true)), .ld none none (.t 1)⟩,
    ⟨(some 9), (some (6, false, true)), .nil (.t 8)⟩,
    ⟨(some 10), (some (6, false, true)), .fad 1 (.t 9)⟩,
    ⟨(some 11), (some (6, false, true)), .fad 1 (.t 10)⟩,
    ⟨(some 12), (some (6, false, true)), .ld none (some (0, 0)) (.t 11)⟩,
    ⟨(some 13), (some (6, false, true)), .len (.t 12)⟩,
    ⟨(some 14), (some (6, false, true)), .bin .geq (.t 7) (.t 13)⟩,
    ⟨(some 15), none, .pick (.t 6) (.c (.bool true)) (.t 14)⟩,
    ⟨(some 3), none, .mv (.t 15)⟩]) <|
  .ret,
  [.tmp 3], [0], [0]⟩

theorem k_word_do_int_1 : rbFn Try.prog 85 r_word_do_int_1 = some r_word_do_int_1 := by kernel_rfl

/-- junto/word.do[int]$2 -/
def r_word_do_int_2 : RFn := ⟨26,
  .seq (.reg [] [
    ⟨(some 9), none, .ta 23 (.int .i64 0) (.t 8)⟩,
    ⟨(some 7), none, .mv (.t 9)⟩,
    ⟨(some 10), none, .ext 0 (.t 7)⟩,
    ⟨(some 11), none, .ext 1 (.t 7)⟩,
    ⟨(some 4), none, .mv (.t 10)⟩,
    ⟨(some 5), none, .mv (.t 11)⟩]) <|
  .keep [0, 1, 2, 3, 4, 5] <|
  .seq (.reg [] [
    ⟨(some 12), none, .mv (.t 5)⟩]) <|
  .keep [0, 1, 2, 3, 4, 12] <|
  .cond (.t 12)
    (.seq (.reg [] [
      ⟨(some 6), none, .mv (.c (.int .i64 0))⟩]) <|
    .keep [0, 1, 2, 3, 4, 6] <|
    .seq (.dreg [] <|
      .held 0 ⟨(some 13), none, .ld none none (.t 0)⟩ <|
      .held 1 ⟨(some 14), none, .ld none none (.t 0)⟩ <|
      .take 2 ⟨(some 15), none, .nil (.t 14)⟩ <|
      .take 3 ⟨(some 16), none, .fad 1 (.t 15)⟩ <|
      .take 4 ⟨(some 17), none, .fad 1 (.t 16)⟩ <|
      .held 5 ⟨(some 18), none, .ld none (some (0, 0)) (.t 17)⟩ <|
      .exec [] 6 ⟨(some 19), none, .ld none none (.t 1)⟩ <|
      .exec [5] 7 ⟨(some 20), none, .sl 4 (.t 18) none (some (.t 19)) none⟩ <|
      .exec [] 8 ⟨(some 21), none, .nil (.t 13)⟩ <|
      .exec [] 9 ⟨(some 22), none, .fad 1 (.t 21)⟩ <|
      .exec [] 10 ⟨(some 23), none, .fad 1 (.t 22)⟩ <|
      .exec [] 11 ⟨none, none, .st 1 0 0 (.t 23) (.t 20)⟩ <|
      .done) <|
    .keep [2, 3, 4, 6] <|
    .reg [] [
      ⟨(some 24), none, .mv (.t 6)⟩,
      ⟨(some 25), none, .mv (.t 4)⟩,
      ⟨none, none, .st 1 1 0 (.t 2) (.t 24)⟩,
      ⟨none, none, .st 1 2 0 (.t 3) (.t 25)⟩])
    (.skip),
  [], [0, 1, 2], [0, 1, 2]⟩

theorem k_word_do_int_2 : rbD Try.prog 86 8 r_word_do_int_2 = some r_word_do_int_2 := by kernel_rfl

/-- junto/word.do[int] -/
def r_word_do_int : RFn := ⟨29,
  .seq (.reg [] [
    ⟨(some 3), none, .box 103 22 (.t 0)⟩,
    ⟨(some 6), none, .new 106 3 [(.int .i64 0)]⟩,
    ⟨(some 7), none, .new 107 23 [(.int .i64 0)]⟩]) <|
  .keep [1, 2, 3, 6, 7] <|
  .settle 103 <|
  .seq (.seq (.reg [6, 7] [
    ⟨(some 9), none, .ld none none (.t 3)⟩,
    ⟨(some 10), none, .call [0] [0] 24 [(.t 9)]⟩,
    ⟨(some 11), none, .un .not (.t 10)⟩]) <|
  .keep [1, 2, 3, 6, 7, 11] <|
  .cond (.t 11)
    (.seq (.reg [6, 7] [
      ⟨(some 12), none, .ld none (some (106, 0)) (.t 6)⟩,
      ⟨none, none, .st 1 106 0 (.t 6) (.t 12)⟩,
      ⟨none, none, .st 1 107 0 (.t 7) (.c (.int .i64 1))⟩]) <|
    .ret)
    (.skip)) <|
  .keep [1, 2, 3, 6, 7] <|
  .seq (.seq (.reg [6, 7] [
    ⟨(some 13), none, .mv (.t 1)⟩,
    ⟨(some 14), none, .mkf (.func 85) [] [(.t 3)]⟩,
    ⟨(some 15), none, .call [0] [0] 84 [(.t 13), (.t 14)]⟩]) <|
  .keep [2, 3, 6, 7, 15] <|
  .cond (.t 15)
    (.seq (.reg [6, 7] [
      ⟨(some 16), none, .ld none (some (106, 0)) (.t 6)⟩,
      ⟨none, none, .st 1 106 0 (.t 6) (.t 16)⟩,
      ⟨none, none, .st 1 107 0 (.t 7) (.c (.int .i64 13))⟩]) <|
    .ret)
    (.skip)) <|
  .keep [2, 3, 6, 7] <|
  .seq (.reg [6, 7] [
    ⟨(some 17), none, .ld none none (.t 3)⟩,
    ⟨(some 18), none, .nil (.t 17)⟩,
    ⟨(some 19), none, .fad 1 (.t 18)⟩,
    ⟨(some 20), none, .fad 1 (.t 19)⟩,
    ⟨(some 21), none, .ld none (some (0, 0)) (.t 20)⟩,
    ⟨(some 22), none, .len (.t 21)⟩,
    ⟨(some 8), none, .new 108 3 [(.int .i64 0)]⟩,
    ⟨none, none, .st 1 108 0 (.t 8) (.t 22)⟩]) <|
  .keep [2, 3, 6, 7, 8] <|
  .settle 108 <|
  .seq (.reg [6, 7] [
    ⟨(some 23), none, .mkf (.func 86) [] [(.t 3), (.t 8), (.t 6), (.t 7)]⟩,
    ⟨none, none, .dfr (.t 23) []⟩]) <|
  .keep [2, 3, 6, 7] <|
  .seq (.reg [6, 7] [
    ⟨(some 24), none, .mv (.t 2)⟩,
    ⟨(some 25), none, .ld none none (.t 3)⟩,
    ⟨(some 26), none, .bld [(.pointer none)] [(0, 1)] [(0, (.t 25))]⟩,
    ⟨(some 27), none, .mki 115 (.t 26)⟩,
    ⟨(some 28), none, .callv [0, 1, 2, 3] [0, 1, 2, 3] (.t 24) [(.t 27)]⟩,
    ⟨none, none, .st 1 106 0 (.t 6) (.t 28)⟩,
    ⟨none, none, .st 1 107 0 (.t 7) (.c (.int .i64 0))⟩]) <|
  .ret,
  [.cell none (some (106, 0)) 6, .cell none (some (107, 0)) 7], [0, 1, 2, 3], [0, 1, 2, 3]⟩

theorem k_word_do_int : rbFn Try.prog 62 r_word_do_int = some r_word_do_int := by kernel_rfl


theorem c_do1_int {bb bc : Nat} {p x1 v3 : Value} {a2 : Option Addr} {n c2 : Nat} {e : Int} {G : GH} (h : G bc 0 = some (.pointer (some ⟨bb, 0, none⟩))) :
    ACalls Try.prog 85 [.int .i64 e, .pointer (some ⟨bc, 0, none⟩)] G [[.var bb 61 [p, x1, .slice a2 n c2, v3]]] fun o G' Es => o = .ret (.bool (decide (e < 0 ∨ (n : Int) ≤ e))) ∧ G' = G ∧ Es = [[.var bb 61 [p, x1, .slice a2 n c2, v3]]] := by
  refine (ACalls.forget (R := fun o Es => o = .ret (.bool (decide (e < 0 ∨ (n : Int) ≤ e))) ∧ Es = [[.var bb 61 [p, x1, .slice a2 n c2, v3]]]) ?_).mono fun _ _ _ _ ⟨⟨h1, h2⟩, h3⟩ => ⟨h1, h3, h2⟩
  refine acalls mixed k_word_do_int_1 (by simp) fun F => ?_
  simp only [GV, frArgs, memArgs, resV, fillL, ← Bool.decide_or, ← Bool.decide_and, ← decide_not, ↓reduceIte, Nat.reduceEqDiff, Nat.reduceAdd, Nat.reduceMul, Nat.reduceLeDiff, Nat.reduceLT, Nat.reduceSub, Nat.succ_ne_zero, Nat.one_ne_zero, Nat.zero_ne_one, true_implies, false_implies, forall_const, implies_true, reduceCtorEq, eq_self, ite_true, ite_false, decide_true, decide_false, Nat.le_refl, Bool.false_eq_true, if_true, if_false, h]
  refine gld_use (.pointer (some ⟨bb, 0, none⟩)) (fun hc => ?_) ?_
  · simp only [GV, frArgs, memArgs, resV, fillL, ← Bool.decide_or, ← Bool.decide_and, ← decide_not, ↓reduceIte, Nat.reduceEqDiff, Nat.reduceAdd, Nat.reduceMul, Nat.reduceLeDiff, Nat.reduceLT, Nat.reduceSub, Nat.succ_ne_zero, Nat.one_ne_zero, Nat.zero_ne_one, true_implies, false_implies, forall_const, implies_true, reduceCtorEq, eq_self, ite_true, ite_false, decide_true, decide_false, Nat.le_refl, Bool.false_eq_true, if_true, if_false, h]
  · simp only [GV, frArgs, memArgs, resV, fillL, ← Bool.decide_or, ← Bool.decide_and, ← decide_not, ↓reduceIte, Nat.reduceEqDiff, Nat.reduceAdd, Nat.reduceMul, Nat.reduceLeDiff, Nat.reduceLT, Nat.reduceSub, Nat.succ_ne_zero, Nat.one_ne_zero, Nat.zero_ne_one, true_implies, false_implies, forall_const, implies_true, reduceCtorEq, eq_self, ite_true, ite_false, decide_true, decide_false, Nat.le_refl, Bool.false_eq_true, if_true, if_false]
theorem c_do2_int {bb bc br bo be : Nat} {p x1 v3 z y : Value} {a2 : Option Addr} {n c2 room : Nat} {rv : Value} {G : GH} (h : G bc 0 = some (.pointer (some ⟨bb, 0, none⟩))) (hr : G br 0 = some (.int .i64 room)) (hn : n ≤ c2) (hroom : room ≤ n)
    (hrv : rv = .nilIface ∨ ∃ e, rv = .iface 23 (.int .i64 e)) :
    DCalls Try.prog 86 [.pointer (some ⟨bc, 0, none⟩), .pointer (some ⟨br, 0, none⟩), .pointer (some ⟨bo, 0, none⟩), .pointer (some ⟨be, 0, none⟩)] rv G
      [[.var bb 61 [p, x1, .slice a2 n c2, v3]], [.var bo 3 [z]], [.var be 23 [y]]] fun G' Es' =>
      (rv = .nilIface ∧ Es' = [[.var bb 61 [p, x1, .slice a2 n c2, v3]], [.var bo 3 [z]], [.var be 23 [y]]]) ∨
      ∃ e, rv = .iface 23 (.int .i64 e) ∧ Es' = [[.var bb 61 [p, x1, .slice a2 room c2, v3]], [.var bo 3 [(.int .i64 0)]], [.var be 23 [.int .i64 e]]] := by
  rcases hrv with rfl | ⟨e, rfl⟩
  · refine dcalls mixed k_word_do_int_2 (by simp) fun F => ?_
    simp only [GV, frArgs, memArgs, resV, fillL, ← Bool.decide_or, ← Bool.decide_and, ← decide_not, ↓reduceIte, Nat.reduceEqDiff, Nat.reduceAdd, Nat.reduceMul, Nat.reduceLeDiff, Nat.reduceLT, Nat.reduceSub, Nat.succ_ne_zero, Nat.one_ne_zero, Nat.zero_ne_one, true_implies, false_implies, forall_const, implies_true, reduceCtorEq, eq_self, ite_true, ite_false, decide_true, decide_false, Nat.le_refl, Bool.false_eq_true, if_true, if_false]
    exact ⟨⟨_, rfl⟩, .inl trivial⟩
  · refine dcalls mixed k_word_do_int_2 (by simp) fun F => ?_
    simp only [GV, frArgs, memArgs, resV, fillL, ← Bool.decide_or, ← Bool.decide_and, ← decide_not, ↓reduceIte, Nat.reduceEqDiff, Nat.reduceAdd, Nat.reduceMul, Nat.reduceLeDiff, Nat.reduceLT, Nat.reduceSub, Nat.succ_ne_zero, Nat.one_ne_zero, Nat.zero_ne_one, true_implies, false_implies, forall_const, implies_true, reduceCtorEq, eq_self, ite_true, ite_false, decide_true, decide_false, Nat.le_refl, Bool.false_eq_true, if_true, if_false, h, hr]
    repeat refine ⟨by omega, ?_⟩
    exact ⟨⟨_, rfl⟩, .inr ⟨e, rfl, rfl⟩⟩

set_option maxHeartbeats 1000000 in
set_option maxRecDepth 20000 in
theorem c_do_int {v u : Value} {B : Bd} {Es : List (List Ent)} {are : List Int} {f : FuncId} {x y : List Value} {m : Rm (Int)} {G : GH} (hb : BoardV G v B Es) (hu : SlI G .i64 u are) (hmax : are.length ≤ 65536)
    (hext : Ext B (m B).bd) (hmake : ∀ bb G' Es', v = .pointer (some ⟨bb, 0, none⟩) → B.p ≠ 0 → (are.any fun i => decide (i < 0 ∨ (B.c.gates.length : Int) ≤ i)) = false → GLe G G' → BoardM G' bb B Es' → ACalls Try.prog f (x ++ [rg bb] ++ y) G' Es' (WR bb encZ (m B))) :
    ACalls Try.prog 62 [v, u, .func (.func f) x.toArray y.toArray] G Es (DoR v (.int .i64 0) encZ (doM B are m)) := by
  have hb0 := hb
  have hu0 := hu
  obtain ⟨au, cu, rfl, -⟩ := hu0
  rcases hb with ⟨rfl, rfl, rfl⟩ | ⟨bb, rfl, hbm⟩
  · refine acallsD [0, 106, 107] [0, 106, 107] mixed k_word_do_int (by simp) fun F => ?_
    simp only [GV, frArgs, memArgs, resV, fillL, ← Bool.decide_or, ← Bool.decide_and, ← decide_not, ↓reduceIte, Nat.reduceEqDiff, Nat.reduceAdd, Nat.reduceMul, Nat.reduceLeDiff, Nat.reduceLT, Nat.reduceSub, Nat.succ_ne_zero, Nat.one_ne_zero, Nat.zero_ne_one, true_implies, false_implies, forall_const, implies_true, reduceCtorEq, eq_self, ite_true, ite_false, decide_true, decide_false, Nat.le_refl, Bool.false_eq_true, if_true, if_false]
    intro bc bo be
    refine settle_intro fun G1 hg1 hc1 => ?_
    have h1 : G1 bc 0 = some (.pointer none) := hc1 0 _ rfl
    simp only [GV, frArgs, memArgs, resV, fillL, ← Bool.decide_or, ← Bool.decide_and, ← decide_not, ↓reduceIte, Nat.reduceEqDiff, Nat.reduceAdd, Nat.reduceMul, Nat.reduceLeDiff, Nat.reduceLT, Nat.reduceSub, Nat.succ_ne_zero, Nat.one_ne_zero, Nat.zero_ne_one, true_implies, false_implies, forall_const, implies_true, reduceCtorEq, eq_self, ite_true, ite_false, decide_true, decide_false, Nat.le_refl, Bool.false_eq_true, if_true, if_false, h1]
    refine (c_made (hb0.mono hg1)).mono ?_
    rintro o G2 Es hg2 ⟨rfl, rfl, rfl⟩
    simp only [GV, frArgs, memArgs, resV, fillL, ← Bool.decide_or, ← Bool.decide_and, ← decide_not, ↓reduceIte, Nat.reduceEqDiff, Nat.reduceAdd, Nat.reduceMul, Nat.reduceLeDiff, Nat.reduceLT, Nat.reduceSub, Nat.succ_ne_zero, Nat.one_ne_zero, Nat.zero_ne_one, true_implies, false_implies, forall_const, implies_true, reduceCtorEq, eq_self, ite_true, ite_false, decide_true, decide_false, Nat.le_refl, Bool.false_eq_true, if_true, if_false, ne_eq, not_true_eq_false]
    exact ⟨_, rfl, rfl, hb0.mono hg1⟩
  · obtain ⟨v1, v2, v3, es1, es2, es3, rfl, h1, h2, h3, h4, h5, h6, h7⟩ := hbm
    obtain ⟨a2, c2, rfl⟩ := gatesV_len h2
    refine acallsD [0, 106, 107] [0, 106, 107] mixed k_word_do_int (by simp) fun F => ?_
    simp only [GV, frArgs, memArgs, resV, fillL, ← Bool.decide_or, ← Bool.decide_and, ← decide_not, ↓reduceIte, Nat.reduceEqDiff, Nat.reduceAdd, Nat.reduceMul, Nat.reduceLeDiff, Nat.reduceLT, Nat.reduceSub, Nat.succ_ne_zero, Nat.one_ne_zero, Nat.zero_ne_one, true_implies, false_implies, forall_const, implies_true, reduceCtorEq, eq_self, ite_true, ite_false, decide_true, decide_false, Nat.le_refl, Bool.false_eq_true, if_true, if_false]
    intro bc bo be
    refine settle_intro fun G1 hg1 hc1 => ?_
    have hb1 : G1 bc 0 = some (.pointer (some ⟨bb, 0, none⟩)) := hc1 0 _ rfl
    simp only [GV, frArgs, memArgs, resV, fillL, ← Bool.decide_or, ← Bool.decide_and, ← decide_not, ↓reduceIte, Nat.reduceEqDiff, Nat.reduceAdd, Nat.reduceMul, Nat.reduceLeDiff, Nat.reduceLT, Nat.reduceSub, Nat.succ_ne_zero, Nat.one_ne_zero, Nat.zero_ne_one, true_implies, false_implies, forall_const, implies_true, reduceCtorEq, eq_self, ite_true, ite_false, decide_true, decide_false, Nat.le_refl, Bool.false_eq_true, if_true, if_false, hb1]
    refine (c_made (hb0.mono hg1)).mono ?_
    rintro o G2 Es hg2 ⟨rfl, rfl, rfl⟩
    simp only [GV, frArgs, memArgs, resV, fillL, ← Bool.decide_or, ← Bool.decide_and, ← decide_not, ↓reduceIte, Nat.reduceEqDiff, Nat.reduceAdd, Nat.reduceMul, Nat.reduceLeDiff, Nat.reduceLT, Nat.reduceSub, Nat.succ_ne_zero, Nat.one_ne_zero, Nat.zero_ne_one, true_implies, false_implies, forall_const, implies_true, reduceCtorEq, eq_self, ite_true, ite_false, decide_true, decide_false, Nat.le_refl, Bool.false_eq_true, if_true, if_false]
    refine cond_dec (fun hp => ?_) (fun hp => ?_)
    · have hp : B.p = 0 := by simpa using hp
      simp only [GV, frArgs, memArgs, resV, fillL, ← Bool.decide_or, ← Bool.decide_and, ← decide_not, ↓reduceIte, Nat.reduceEqDiff, Nat.reduceAdd, Nat.reduceMul, Nat.reduceLeDiff, Nat.reduceLT, Nat.reduceSub, Nat.succ_ne_zero, Nat.one_ne_zero, Nat.zero_ne_one, true_implies, false_implies, forall_const, implies_true, reduceCtorEq, eq_self, ite_true, ite_false, decide_true, decide_false, Nat.le_refl, Bool.false_eq_true, if_true, if_false]
      exact DoR.none (by simp only [doM, if_pos hp]) (hb0.mono hg1)
    have hp : B.p ≠ 0 := by simpa using hp
    simp only [GV, frArgs, memArgs, resV, fillL, ← Bool.decide_or, ← Bool.decide_and, ← decide_not, ↓reduceIte, Nat.reduceEqDiff, Nat.reduceAdd, Nat.reduceMul, Nat.reduceLeDiff, Nat.reduceLT, Nat.reduceSub, Nat.succ_ne_zero, Nat.one_ne_zero, Nat.zero_ne_one, true_implies, false_implies, forall_const, implies_true, reduceCtorEq, eq_self, ite_true, ite_false, decide_true, decide_false, Nat.le_refl, Bool.false_eq_true, if_true, if_false]
    refine (c_ContainsFuncE (x := []) (y := [.pointer (some ⟨bc, 0, none⟩)]) (pB := fun i => decide (i < 0 ∨ (B.c.gates.length : Int) ≤ i)) (hu.mono hg1) (fun e _ => c_do1_int hb1)).mono ?_
    rintro o G2 Es hg2 ⟨rfl, rfl, rfl⟩
    simp only [GV, frArgs, memArgs, resV, fillL, ← Bool.decide_or, ← Bool.decide_and, ← decide_not, ↓reduceIte, Nat.reduceEqDiff, Nat.reduceAdd, Nat.reduceMul, Nat.reduceLeDiff, Nat.reduceLT, Nat.reduceSub, Nat.succ_ne_zero, Nat.one_ne_zero, Nat.zero_ne_one, true_implies, false_implies, forall_const, implies_true, reduceCtorEq, eq_self, ite_true, ite_false, decide_true, decide_false, Nat.le_refl, Bool.false_eq_true, if_true, if_false]
    refine cond_intro (fun ha => ?_) (fun ha => ?_)
    · simp only [GV, frArgs, memArgs, resV, fillL, ← Bool.decide_or, ← Bool.decide_and, ← decide_not, ↓reduceIte, Nat.reduceEqDiff, Nat.reduceAdd, Nat.reduceMul, Nat.reduceLeDiff, Nat.reduceLT, Nat.reduceSub, Nat.succ_ne_zero, Nat.one_ne_zero, Nat.zero_ne_one, true_implies, false_implies, forall_const, implies_true, reduceCtorEq, eq_self, ite_true, ite_false, decide_true, decide_false, Nat.le_refl, Bool.false_eq_true, if_true, if_false]
      exact DoR.none (by simp only [doM, if_neg hp, if_pos ha]) (hb0.mono hg1)
    simp only [GV, frArgs, memArgs, resV, fillL, ← Bool.decide_or, ← Bool.decide_and, ← decide_not, ↓reduceIte, Nat.reduceEqDiff, Nat.reduceAdd, Nat.reduceMul, Nat.reduceLeDiff, Nat.reduceLT, Nat.reduceSub, Nat.succ_ne_zero, Nat.one_ne_zero, Nat.zero_ne_one, true_implies, false_implies, forall_const, implies_true, reduceCtorEq, eq_self, ite_true, ite_false, decide_true, decide_false, Nat.le_refl, Bool.false_eq_true, if_true, if_false, hb1]
    intro br
    refine settle_intro fun G3 hg3 hc3 => ?_
    have hr3 : G3 br 0 = some (.int .i64 (B.c.gates.length : Nat)) := hc3 0 _ rfl
    have hb3 := hg3 _ _ _ hb1
    simp only [GV, frArgs, memArgs, resV, fillL, ← Bool.decide_or, ← Bool.decide_and, ← decide_not, ↓reduceIte, Nat.reduceEqDiff, Nat.reduceAdd, Nat.reduceMul, Nat.reduceLeDiff, Nat.reduceLT, Nat.reduceSub, Nat.succ_ne_zero, Nat.one_ne_zero, Nat.zero_ne_one, true_implies, false_implies, forall_const, implies_true, reduceCtorEq, eq_self, ite_true, ite_false, decide_true, decide_false, Nat.le_refl, Bool.false_eq_true, if_true, if_false, hb3]
    have hbm3 : BoardM G3 bb B [[.var bb 61 [.int .u64 B.p, v1, .slice a2 B.c.gates.length c2, v3]], es1, es2, es3] := ⟨_, _, _, _, _, _, rfl, h1.mono (hg1.trans hg3), h2, h3.mono (hg1.trans hg3), h4, h5, h6, h7⟩
    refine wcallf (hmake bb G3 _ rfl hp ha (hg1.trans hg3) hbm3) ?_ ?_
    · rintro k B1 w G4 e0 e1 e2 e3 hg4 hr hw hbm hp1
      have hw0 := hw
      cases hw0
      obtain ⟨w1, w2, w3, f1, f2, f3, he, i1, i2, i3, i4⟩ := hbm
      simp only [List.cons.injEq, and_true] at he
      obtain ⟨rfl, rfl, rfl, rfl⟩ := he
      obtain ⟨a5, c5, rfl⟩ := gatesV_len i2
      have hcap := ownV_cap i2
      obtain ⟨gs, hgs⟩ := hext
      rw [hr] at hgs
      simp only [Res.bd] at hgs
      have hlen : B.c.gates.length ≤ B1.c.gates.length := by rw [hgs]; simp
      simp only [GV, frArgs, memArgs, resV, fillL, ← Bool.decide_or, ← Bool.decide_and, ← decide_not, ↓reduceIte, Nat.reduceEqDiff, Nat.reduceAdd, Nat.reduceMul, Nat.reduceLeDiff, Nat.reduceLT, Nat.reduceSub, Nat.succ_ne_zero, Nat.one_ne_zero, Nat.zero_ne_one, true_implies, false_implies, forall_const, implies_true, reduceCtorEq, eq_self, ite_true, ite_false, decide_true, decide_false, Nat.le_refl, Bool.false_eq_true, if_true, if_false]
      refine (c_do2_int (hg4 _ _ _ hb3) (hg4 _ _ _ hr3) hcap hlen (.inl rfl)).mono ?_
      rintro G5 Es' hg5 (⟨-, rfl⟩ | ⟨e, he, -⟩)
      · simp only [GV, frArgs, memArgs, resV, fillL, ← Bool.decide_or, ← Bool.decide_and, ← decide_not, ↓reduceIte, Nat.reduceEqDiff, Nat.reduceAdd, Nat.reduceMul, Nat.reduceLeDiff, Nat.reduceLT, Nat.reduceSub, Nat.succ_ne_zero, Nat.one_ne_zero, Nat.zero_ne_one, true_implies, false_implies, forall_const, implies_true, reduceCtorEq, eq_self, ite_true, ite_false, decide_true, decide_false, Nat.le_refl, Bool.false_eq_true, if_true, if_false]
        exact DoR.some (by simp only [doM, if_neg hp, ha, hr]; rfl) rfl (.inr ⟨bb, rfl, _, _, _, _, _, _, rfl, i1.mono hg5, i2, i3.mono hg5, i4⟩)
      · cases he
    · rintro e B1 G4 e0 e1 e2 e3 hg4 hr hbm hp1
      obtain ⟨w1, w2, w3, f1, f2, f3, he, i1, i2, i3, i4⟩ := hbm
      simp only [List.cons.injEq, and_true] at he
      obtain ⟨rfl, rfl, rfl, rfl⟩ := he
      obtain ⟨a5, c5, rfl⟩ := gatesV_len i2
      have hcap := ownV_cap i2
      obtain ⟨gs, hgs⟩ := hext
      rw [hr] at hgs
      simp only [Res.bd] at hgs
      have hlen : B.c.gates.length ≤ B1.c.gates.length := by rw [hgs]; simp
      have hcut := i2.cut hlen
      have hgates : ((B1.c.gates.map Gate.enc).flatten).take (B.c.gates.length * 4) = (B.c.gates.map Gate.enc).flatten := by
        rw [hgs, List.map_append, List.flatten_append, List.take_left']
        rw [flatten_length (gates_len _), List.length_map]
      rw [hgates] at hcut
      simp only [GV, frArgs, memArgs, resV, fillL, ← Bool.decide_or, ← Bool.decide_and, ← decide_not, ↓reduceIte, Nat.reduceEqDiff, Nat.reduceAdd, Nat.reduceMul, Nat.reduceLeDiff, Nat.reduceLT, Nat.reduceSub, Nat.succ_ne_zero, Nat.one_ne_zero, Nat.zero_ne_one, true_implies, false_implies, forall_const, implies_true, reduceCtorEq, eq_self, ite_true, ite_false, decide_true, decide_false, Nat.le_refl, Bool.false_eq_true, if_true, if_false]
      refine (c_do2_int (hg4 _ _ _ hb3) (hg4 _ _ _ hr3) hcap hlen (.inr ⟨e, rfl⟩)).mono ?_
      rintro G5 Es' hg5 (⟨he, -⟩ | ⟨e', he, rfl⟩)
      · cases he
      · cases he
        simp only [GV, frArgs, memArgs, resV, fillL, ← Bool.decide_or, ← Bool.decide_and, ← decide_not, ↓reduceIte, Nat.reduceEqDiff, Nat.reduceAdd, Nat.reduceMul, Nat.reduceLeDiff, Nat.reduceLT, Nat.reduceSub, Nat.succ_ne_zero, Nat.one_ne_zero, Nat.zero_ne_one, true_implies, false_implies, forall_const, implies_true, reduceCtorEq, eq_self, ite_true, ite_false, decide_true, decide_false, Nat.le_refl, Bool.false_eq_true, if_true, if_false]
        have hpp : B1.p = B.p := by rw [hgs]
        have hss : B1.c.slots = B.c.slots := by rw [hgs]
        have hxx : B1.c.exits = B.c.exits := by rw [hgs]
        rw [hss] at i1
        rw [hxx] at i3
        rw [hpp]
        exact DoR.none (by simp only [doM, if_neg hp, ha, hr]; rfl) (.inr ⟨bb, rfl, _, _, _, _, _, _, rfl, i1.mono hg5, hcut, i3.mono hg5, h4, h5, h6, h7⟩)

/-- junto/word.do[[]int]$1 -/
def r_word_do_Sint_1 : RFn := ⟨16,
  .seq (.reg [] [
    ⟨(some 3), none, .mv (.c (.bool false))⟩]) <|
  .keep [0, 1] <|
  .seq (.reg [] [
    ⟨(some 4), none, .mv (.t 0)⟩,
    ⟨(some 5), none, .bin .lss (.t 4) (.c (.int .i64 0))⟩,
    ⟨(some 6), none, .mv (.t 5)⟩,
    ⟨(some 7), (some (6, false, true)), .mv (.t 0)⟩,
    ⟨(some 8), (some (6, false, true)), .ld none none (.t 1)⟩,
    ⟨(some 9), (some (6, false, true)), .nil (.t 8)⟩,
    ⟨(some 10), (some (6, false, true)), .fad 1 (.t 9)⟩,
    ⟨(some 11), (some (6, false, true)), .fad 1 (.t 10)⟩,
    ⟨(some 12), (some (6, false, true)), .ld none (some (0, 0)) (.t 11)⟩,
    ⟨(some 13), (some (6, false, true)), .len (.t 12)⟩,
    ⟨(some 14), (some (6, false, true)), .bin .geq (.t 7) (.t 13)⟩,
    ⟨(some 15), none, .pick (.t 6) (.c (.bool true)) (.t 14)⟩,
    ⟨(some 3), none, .mv (.t 15)⟩]) <|
  .ret,
  [.tmp 3], [0], [0]⟩

theorem k_word_do_Sint_1 : rbFn Try.prog 89 r_word_do_Sint_1 = some r_word_do_Sint_1 := by kernel_rfl

/-- junto/word.do[[]int]$2 -/
def r_word_do_Sint_2 : RFn := ⟨26,
  .seq (.reg [] [
    ⟨(some 9), none, .ta 23 (.int .i64 0) (.t 8)⟩,
    ⟨(some 7), none, .mv (.t 9)⟩,
    ⟨(some 10), none, .ext 0 (.t 7)⟩,
    ⟨(some 11), none, .ext 1 (.t 7)⟩,
    ⟨(some 4), none, .mv (.t 10)⟩,
    ⟨(some 5), none, .mv (.t 11)⟩]) <|
  .keep [0, 1, 2, 3, 4, 5] <|
  .seq (.reg [] [
    ⟨(some 12), none, .mv (.t 5)⟩]) <|
  .keep [0, 1, 2, 3, 4, 12] <|
  .cond (.t 12)
    (.seq (.reg [] [
      ⟨(some 6), none, .mv (.c (.slice none 0 0))⟩]) <|
    .keep [0, 1, 2, 3, 4, 6] <|
    .seq (.dreg [] <|
      .held 0 ⟨(some 13), none, .ld none none (.t 0)⟩ <|
      .held 1 ⟨(some 14), none, .ld none none (.t 0)⟩ <|
      .take 2 ⟨(some 15), none, .nil (.t 14)⟩ <|
      .take 3 ⟨(some 16), none, .fad 1 (.t 15)⟩ <|
      .take 4 ⟨(some 17), none, .fad 1 (.t 16)⟩ <|
      .held 5 ⟨(some 18), none, .ld none (some (0, 0)) (.t 17)⟩ <|
      .exec [] 6 ⟨(some 19), none, .ld none none (.t 1)⟩ <|
      .exec [5] 7 ⟨(some 20), none, .sl 4 (.t 18) none (some (.t 19)) none⟩ <|
      .exec [] 8 ⟨(some 21), none, .nil (.t 13)⟩ <|
      .exec [] 9 ⟨(some 22), none, .fad 1 (.t 21)⟩ <|
      .exec [] 10 ⟨(some 23), none, .fad 1 (.t 22)⟩ <|
      .exec [] 11 ⟨none, none, .st 1 0 0 (.t 23) (.t 20)⟩ <|
      .done) <|
    .keep [2, 3, 4, 6] <|
    .reg [] [
      ⟨(some 24), none, .mv (.t 6)⟩,
      ⟨(some 25), none, .mv (.t 4)⟩,
      ⟨none, none, .st 1 1 0 (.t 2) (.t 24)⟩,
      ⟨none, none, .st 1 2 0 (.t 3) (.t 25)⟩])
    (.skip),
  [], [0, 1, 2], [0, 1, 2]⟩

theorem k_word_do_Sint_2 : rbD Try.prog 90 8 r_word_do_Sint_2 = some r_word_do_Sint_2 := by kernel_rfl

/-- junto/word.do[[]int] -/
def r_word_do_Sint : RFn := ⟨29,
  .seq (.reg [] [
    ⟨(some 3), none, .box 103 22 (.t 0)⟩,
    ⟨(some 6), none, .new 106 44 [(.slice none 0 0)]⟩,
    ⟨(some 7), none, .new 107 23 [(.int .i64 0)]⟩]) <|
  .keep [1, 2, 3, 6, 7] <|
  .settle 103 <|
  .seq (.seq (.reg [6, 7] [
    ⟨(some 9), none, .ld none none (.t 3)⟩,
    ⟨(some 10), none, .call [0] [0] 24 [(.t 9)]⟩,
    ⟨(some 11), none, .un .not (.t 10)⟩]) <|
  .keep [1, 2, 3, 6, 7, 11] <|
  .cond (.t 11)
    (.seq (.reg [6, 7] [
      ⟨(some 12), none, .ld none (some (106, 0)) (.t 6)⟩,
      ⟨none, none, .st 1 106 0 (.t 6) (.t 12)⟩,
      ⟨none, none, .st 1 107 0 (.t 7) (.c (.int .i64 1))⟩]) <|
    .ret)
    (.skip)) <|
  .keep [1, 2, 3, 6, 7] <|
  .seq (.seq (.reg [6, 7] [
    ⟨(some 13), none, .mv (.t 1)⟩,
    ⟨(some 14), none, .mkf (.func 89) [] [(.t 3)]⟩,
    ⟨(some 15), none, .call [0] [0] 84 [(.t 13), (.t 14)]⟩]) <|
  .keep [2, 3, 6, 7, 15] <|
  .cond (.t 15)
    (.seq (.reg [6, 7] [
      ⟨(some 16), none, .ld none (some (106, 0)) (.t 6)⟩,
      ⟨none, none, .st 1 106 0 (.t 6) (.t 16)⟩,
      ⟨none, none, .st 1 107 0 (.t 7) (.c (.int .i64 13))⟩]) <|
    .ret)
    (.skip)) <|
  .keep [2, 3, 6, 7] <|
  .seq (.reg [6, 7] [
    ⟨(some 17), none, .ld none none (.t 3)⟩,
    ⟨(some 18), none, .nil (.t 17)⟩,
    ⟨(some 19), none, .fad 1 (.t 18)⟩,
    ⟨(some 20), none, .fad 1 (.t 19)⟩,
    ⟨(some 21), none, .ld none (some (0, 0)) (.t 20)⟩,
    ⟨(some 22), none, .len (.t 21)⟩,
    ⟨(some 8), none, .new 108 3 [(.int .i64 0)]⟩,
    ⟨none, none, .st 1 108 0 (.t 8) (.t 22)⟩]) <|
  .keep [2, 3, 6, 7, 8] <|
  .settle 108 <|
  .seq (.reg [6, 7] [
    ⟨(some 23), none, .mkf (.func 90) [] [(.t 3), (.t 8), (.t 6), (.t 7)]⟩,
    ⟨none, none, .dfr (.t 23) []⟩]) <|
  .keep [2, 3, 6, 7] <|
  .seq (.reg [6, 7] [
    ⟨(some 24), none, .mv (.t 2)⟩,
    ⟨(some 25), none, .ld none none (.t 3)⟩,
    ⟨(some 26), none, .bld [(.pointer none)] [(0, 1)] [(0, (.t 25))]⟩,
    ⟨(some 27), none, .mki 115 (.t 26)⟩,
    ⟨(some 28), none, .callv [0, 1, 2, 3] [0, 1, 2, 3] (.t 24) [(.t 27)]⟩,
    ⟨none, none, .st 1 106 0 (.t 6) (.t 28)⟩,
    ⟨none, none, .st 1 107 0 (.t 7) (.c (.int .i64 0))⟩]) <|
  .ret,
  [.cell none (some (106, 0)) 6, .cell none (some (107, 0)) 7], [0, 1, 2, 3], [0, 1, 2, 3]⟩

theorem k_word_do_Sint : rbFn Try.prog 82 r_word_do_Sint = some r_word_do_Sint := by kernel_rfl


theorem c_do1_Sint {bb bc : Nat} {p x1 v3 : Value} {a2 : Option Addr} {n c2 : Nat} {e : Int} {G : GH} (h : G bc 0 = some (.pointer (some ⟨bb, 0, none⟩))) :
    ACalls Try.prog 89 [.int .i64 e, .pointer (some ⟨bc, 0, none⟩)] G [[.var bb 61 [p, x1, .slice a2 n c2, v3]]] fun o G' Es => o = .ret (.bool (decide (e < 0 ∨ (n : Int) ≤ e))) ∧ G' = G ∧ Es = [[.var bb 61 [p, x1, .slice a2 n c2, v3]]] := by
  refine (ACalls.forget (R := fun o Es => o = .ret (.bool (decide (e < 0 ∨ (n : Int) ≤ e))) ∧ Es = [[.var bb 61 [p, x1, .slice a2 n c2, v3]]]) ?_).mono fun _ _ _ _ ⟨⟨h1, h2⟩, h3⟩ => ⟨h1, h3, h2⟩
  refine acalls mixed k_word_do_Sint_1 (by simp) fun F => ?_
  simp only [GV, frArgs, memArgs, resV, fillL, ← Bool.decide_or, ← Bool.decide_and, ← decide_not, ↓reduceIte, Nat.reduceEqDiff, Nat.reduceAdd, Nat.reduceMul, Nat.reduceLeDiff, Nat.reduceLT, Nat.reduceSub, Nat.succ_ne_zero, Nat.one_ne_zero, Nat.zero_ne_one, true_implies, false_implies, forall_const, implies_true, reduceCtorEq, eq_self, ite_true, ite_false, decide_true, decide_false, Nat.le_refl, Bool.false_eq_true, if_true, if_false, h]
  refine gld_use (.pointer (some ⟨bb, 0, none⟩)) (fun hc => ?_) ?_
  · simp only [GV, frArgs, memArgs, resV, fillL, ← Bool.decide_or, ← Bool.decide_and, ← decide_not, ↓reduceIte, Nat.reduceEqDiff, Nat.reduceAdd, Nat.reduceMul, Nat.reduceLeDiff, Nat.reduceLT, Nat.reduceSub, Nat.succ_ne_zero, Nat.one_ne_zero, Nat.zero_ne_one, true_implies, false_implies, forall_const, implies_true, reduceCtorEq, eq_self, ite_true, ite_false, decide_true, decide_false, Nat.le_refl, Bool.false_eq_true, if_true, if_false, h]
  · simp only [GV, frArgs, memArgs, resV, fillL, ← Bool.decide_or, ← Bool.decide_and, ← decide_not, ↓reduceIte, Nat.reduceEqDiff, Nat.reduceAdd, Nat.reduceMul, Nat.reduceLeDiff, Nat.reduceLT, Nat.reduceSub, Nat.succ_ne_zero, Nat.one_ne_zero, Nat.zero_ne_one, true_implies, false_implies, forall_const, implies_true, reduceCtorEq, eq_self, ite_true, ite_false, decide_true, decide_false, Nat.le_refl, Bool.false_eq_true, if_true, if_false]
theorem c_do2_Sint {bb bc br bo be : Nat} {p x1 v3 z y : Value} {a2 : Option Addr} {n c2 room : Nat} {rv : Value} {G : GH} (h : G bc 0 = some (.pointer (some ⟨bb, 0, none⟩))) (hr : G br 0 = some (.int .i64 room)) (hn : n ≤ c2) (hroom : room ≤ n)
    (hrv : rv = .nilIface ∨ ∃ e, rv = .iface 23 (.int .i64 e)) :
    DCalls Try.prog 90 [.pointer (some ⟨bc, 0, none⟩), .pointer (some ⟨br, 0, none⟩), .pointer (some ⟨bo, 0, none⟩), .pointer (some ⟨be, 0, none⟩)] rv G
      [[.var bb 61 [p, x1, .slice a2 n c2, v3]], [.var bo 44 [z]], [.var be 23 [y]]] fun G' Es' =>
      (rv = .nilIface ∧ Es' = [[.var bb 61 [p, x1, .slice a2 n c2, v3]], [.var bo 44 [z]], [.var be 23 [y]]]) ∨
      ∃ e, rv = .iface 23 (.int .i64 e) ∧ Es' = [[.var bb 61 [p, x1, .slice a2 room c2, v3]], [.var bo 44 [(.slice none 0 0)]], [.var be 23 [.int .i64 e]]] := by
  rcases hrv with rfl | ⟨e, rfl⟩
  · refine dcalls mixed k_word_do_Sint_2 (by simp) fun F => ?_
    simp only [GV, frArgs, memArgs, resV, fillL, ← Bool.decide_or, ← Bool.decide_and, ← decide_not, ↓reduceIte, Nat.reduceEqDiff, Nat.reduceAdd, Nat.reduceMul, Nat.reduceLeDiff, Nat.reduceLT, Nat.reduceSub, Nat.succ_ne_zero, Nat.one_ne_zero, Nat.zero_ne_one, true_implies, false_implies, forall_const, implies_true, reduceCtorEq, eq_self, ite_true, ite_false, decide_true, decide_false, Nat.le_refl, Bool.false_eq_true, if_true, if_false]
    exact ⟨⟨_, rfl⟩, .inl trivial⟩
  · refine dcalls mixed k_word_do_Sint_2 (by simp) fun F => ?_
    simp only [GV, frArgs, memArgs, resV, fillL, ← Bool.decide_or, ← Bool.decide_and, ← decide_not, ↓reduceIte, Nat.reduceEqDiff, Nat.reduceAdd, Nat.reduceMul, Nat.reduceLeDiff, Nat.reduceLT, Nat.reduceSub, Nat.succ_ne_zero, Nat.one_ne_zero, Nat.zero_ne_one, true_implies, false_implies, forall_const, implies_true, reduceCtorEq, eq_self, ite_true, ite_false, decide_true, decide_false, Nat.le_refl, Bool.false_eq_true, if_true, if_false, h, hr]
    repeat refine ⟨by omega, ?_⟩
    exact ⟨⟨_, rfl⟩, .inr ⟨e, rfl, rfl⟩⟩

set_option maxHeartbeats 1000000 in
set_option maxRecDepth 20000 in
theorem c_do_Sint {v u : Value} {B : Bd} {Es : List (List Ent)} {are : List Int} {f : FuncId} {x y : List Value} {m : Rm (List Int)} {G : GH} (hb : BoardV G v B Es) (hu : SlI G .i64 u are) (hmax : are.length ≤ 65536)
    (hext : Ext B (m B).bd) (hmake : ∀ bb G' Es', v = .pointer (some ⟨bb, 0, none⟩) → B.p ≠ 0 → (are.any fun i => decide (i < 0 ∨ (B.c.gates.length : Int) ≤ i)) = false → GLe G G' → BoardM G' bb B Es' → ACalls Try.prog f (x ++ [rg bb] ++ y) G' Es' (WR bb encW (m B))) :
    ACalls Try.prog 82 [v, u, .func (.func f) x.toArray y.toArray] G Es (DoR v (.slice none 0 0) encW (doM B are m)) := by
  have hb0 := hb
  have hu0 := hu
  obtain ⟨au, cu, rfl, -⟩ := hu0
  rcases hb with ⟨rfl, rfl, rfl⟩ | ⟨bb, rfl, hbm⟩
  · refine acallsD [0, 106, 107] [0, 106, 107] mixed k_word_do_Sint (by simp) fun F => ?_
    simp only [GV, frArgs, memArgs, resV, fillL, ← Bool.decide_or, ← Bool.decide_and, ← decide_not, ↓reduceIte, Nat.reduceEqDiff, Nat.reduceAdd, Nat.reduceMul, Nat.reduceLeDiff, Nat.reduceLT, Nat.reduceSub, Nat.succ_ne_zero, Nat.one_ne_zero, Nat.zero_ne_one, true_implies, false_implies, forall_const, implies_true, reduceCtorEq, eq_self, ite_true, ite_false, decide_true, decide_false, Nat.le_refl, Bool.false_eq_true, if_true, if_false]
    intro bc bo be
    refine settle_intro fun G1 hg1 hc1 => ?_
    have h1 : G1 bc 0 = some (.pointer none) := hc1 0 _ rfl
    simp only [GV, frArgs, memArgs, resV, fillL, ← Bool.decide_or, ← Bool.decide_and, ← decide_not, ↓reduceIte, Nat.reduceEqDiff, Nat.reduceAdd, Nat.reduceMul, Nat.reduceLeDiff, Nat.reduceLT, Nat.reduceSub, Nat.succ_ne_zero, Nat.one_ne_zero, Nat.zero_ne_one, true_implies, false_implies, forall_const, implies_true, reduceCtorEq, eq_self, ite_true, ite_false, decide_true, decide_false, Nat.le_refl, Bool.false_eq_true, if_true, if_false, h1]
    refine (c_made (hb0.mono hg1)).mono ?_
    rintro o G2 Es hg2 ⟨rfl, rfl, rfl⟩
    simp only [GV, frArgs, memArgs, resV, fillL, ← Bool.decide_or, ← Bool.decide_and, ← decide_not, ↓reduceIte, Nat.reduceEqDiff, Nat.reduceAdd, Nat.reduceMul, Nat.reduceLeDiff, Nat.reduceLT, Nat.reduceSub, Nat.succ_ne_zero, Nat.one_ne_zero, Nat.zero_ne_one, true_implies, false_implies, forall_const, implies_true, reduceCtorEq, eq_self, ite_true, ite_false, decide_true, decide_false, Nat.le_refl, Bool.false_eq_true, if_true, if_false, ne_eq, not_true_eq_false]
    exact ⟨_, rfl, rfl, hb0.mono hg1⟩
  · obtain ⟨v1, v2, v3, es1, es2, es3, rfl, h1, h2, h3, h4, h5, h6, h7⟩ := hbm
    obtain ⟨a2, c2, rfl⟩ := gatesV_len h2
    refine acallsD [0, 106, 107] [0, 106, 107] mixed k_word_do_Sint (by simp) fun F => ?_
    simp only [GV, frArgs, memArgs, resV, fillL, ← Bool.decide_or, ← Bool.decide_and, ← decide_not, ↓reduceIte, Nat.reduceEqDiff, Nat.reduceAdd, Nat.reduceMul, Nat.reduceLeDiff, Nat.reduceLT, Nat.reduceSub, Nat.succ_ne_zero, Nat.one_ne_zero, Nat.zero_ne_one, true_implies, false_implies, forall_const, implies_true, reduceCtorEq, eq_self, ite_true, ite_false, decide_true, decide_false, Nat.le_refl, Bool.false_eq_true, if_true, if_false]
    intro bc bo be
    refine settle_intro fun G1 hg1 hc1 => ?_
    have hb1 : G1 bc 0 = some (.pointer (some ⟨bb, 0, none⟩)) := hc1 0 _ rfl
    simp only [GV, frArgs, memArgs, resV, fillL, ← Bool.decide_or, ← Bool.decide_and, ← decide_not, ↓reduceIte, Nat.reduceEqDiff, Nat.reduceAdd, Nat.reduceMul, Nat.reduceLeDiff, Nat.reduceLT, Nat.reduceSub, Nat.succ_ne_zero, Nat.one_ne_zero, Nat.zero_ne_one, true_implies, false_implies, forall_const, implies_true, reduceCtorEq, eq_self, ite_true, ite_false, decide_true, decide_false, Nat.le_refl, Bool.false_eq_true, if_true, if_false, hb1]
    refine (c_made (hb0.mono hg1)).mono ?_
    rintro o G2 Es hg2 ⟨rfl, rfl, rfl⟩
    simp only [GV, frArgs, memArgs, resV, fillL, ← Bool.decide_or, ← Bool.decide_and, ← decide_not, ↓reduceIte, Nat.reduceEqDiff, Nat.reduceAdd, Nat.reduceMul, Nat.reduceLeDiff, Nat.reduceLT, Nat.reduceSub, Nat.succ_ne_zero, Nat.one_ne_zero, Nat.zero_ne_one, true_implies, false_implies, forall_const, implies_true, reduceCtorEq, eq_self, ite_true, ite_false, decide_true, decide_false, Nat.le_refl, Bool.false_eq_true, if_true, if_false]
    refine cond_dec (fun hp => ?_) (fun hp => ?_)
    · have hp : B.p = 0 := by simpa using hp
      simp only [GV, frArgs, memArgs, resV, fillL, ← Bool.decide_or, ← Bool.decide_and, ← decide_not, ↓reduceIte, Nat.reduceEqDiff, Nat.reduceAdd, Nat.reduceMul, Nat.reduceLeDiff, Nat.reduceLT, Nat.reduceSub, Nat.succ_ne_zero, Nat.one_ne_zero, Nat.zero_ne_one, true_implies, false_implies, forall_const, implies_true, reduceCtorEq, eq_self, ite_true, ite_false, decide_true, decide_false, Nat.le_refl, Bool.false_eq_true, if_true, if_false]
      exact DoR.none (by simp only [doM, if_pos hp]) (hb0.mono hg1)
    have hp : B.p ≠ 0 := by simpa using hp
    simp only [GV, frArgs, memArgs, resV, fillL, ← Bool.decide_or, ← Bool.decide_and, ← decide_not, ↓reduceIte, Nat.reduceEqDiff, Nat.reduceAdd, Nat.reduceMul, Nat.reduceLeDiff, Nat.reduceLT, Nat.reduceSub, Nat.succ_ne_zero, Nat.one_ne_zero, Nat.zero_ne_one, true_implies, false_implies, forall_const, implies_true, reduceCtorEq, eq_self, ite_true, ite_false, decide_true, decide_false, Nat.le_refl, Bool.false_eq_true, if_true, if_false]
    refine (c_ContainsFuncE (x := []) (y := [.pointer (some ⟨bc, 0, none⟩)]) (pB := fun i => decide (i < 0 ∨ (B.c.gates.length : Int) ≤ i)) (hu.mono hg1) (fun e _ => c_do1_Sint hb1)).mono ?_
    rintro o G2 Es hg2 ⟨rfl, rfl, rfl⟩
    simp only [GV, frArgs, memArgs, resV, fillL, ← Bool.decide_or, ← Bool.decide_and, ← decide_not, ↓reduceIte, Nat.reduceEqDiff, Nat.reduceAdd, Nat.reduceMul, Nat.reduceLeDiff, Nat.reduceLT, Nat.reduceSub, Nat.succ_ne_zero, Nat.one_ne_zero, Nat.zero_ne_one, true_implies, false_implies, forall_const, implies_true, reduceCtorEq, eq_self, ite_true, ite_false, decide_true, decide_false, Nat.le_refl, Bool.false_eq_true, if_true, if_false]
    refine cond_intro (fun ha => ?_) (fun ha => ?_)
    · simp only [GV, frArgs, memArgs, resV, fillL, ← Bool.decide_or, ← Bool.decide_and, ← decide_not, ↓reduceIte, Nat.reduceEqDiff, Nat.reduceAdd, Nat.reduceMul, Nat.reduceLeDiff, Nat.reduceLT, Nat.reduceSub, Nat.succ_ne_zero, Nat.one_ne_zero, Nat.zero_ne_one, true_implies, false_implies, forall_const, implies_true, reduceCtorEq, eq_self, ite_true, ite_false, decide_true, decide_false, Nat.le_refl, Bool.false_eq_true, if_true, if_false]
      exact DoR.none (by simp only [doM, if_neg hp, if_pos ha]) (hb0.mono hg1)
    simp only [GV, frArgs, memArgs, resV, fillL, ← Bool.decide_or, ← Bool.decide_and, ← decide_not, ↓reduceIte, Nat.reduceEqDiff, Nat.reduceAdd, Nat.reduceMul, Nat.reduceLeDiff, Nat.reduceLT, Nat.reduceSub, Nat.succ_ne_zero, Nat.one_ne_zero, Nat.zero_ne_one, true_implies, false_implies, forall_const, implies_true, reduceCtorEq, eq_self, ite_true, ite_false, decide_true, decide_false, Nat.le_refl, Bool.false_eq_true, if_true, if_false, hb1]
    intro br
    refine settle_intro fun G3 hg3 hc3 => ?_
    have hr3 : G3 br 0 = some (.int .i64 (B.c.gates.length : Nat)) := hc3 0 _ rfl
    have hb3 := hg3 _ _ _ hb1
    simp only [GV, frArgs, memArgs, resV, fillL, ← Bool.decide_or, ← Bool.decide_and, ← decide_not, ↓reduceIte, Nat.reduceEqDiff, Nat.reduceAdd, Nat.reduceMul, Nat.reduceLeDiff, Nat.reduceLT, Nat.reduceSub, Nat.succ_ne_zero, Nat.one_ne_zero, Nat.zero_ne_one, true_implies, false_implies, forall_const, implies_true, reduceCtorEq, eq_self, ite_true, ite_false, decide_true, decide_false, Nat.le_refl, Bool.false_eq_true, if_true, if_false, hb3]
    have hbm3 : BoardM G3 bb B [[.var bb 61 [.int .u64 B.p, v1, .slice a2 B.c.gates.length c2, v3]], es1, es2, es3] := ⟨_, _, _, _, _, _, rfl, h1.mono (hg1.trans hg3), h2, h3.mono (hg1.trans hg3), h4, h5, h6, h7⟩
    refine wcallf (hmake bb G3 _ rfl hp ha (hg1.trans hg3) hbm3) ?_ ?_
    · rintro k B1 w G4 e0 e1 e2 e3 hg4 hr hw hbm hp1
      have hw0 := hw
      obtain ⟨aw, cw, rfl, -⟩ := hw0
      obtain ⟨w1, w2, w3, f1, f2, f3, he, i1, i2, i3, i4⟩ := hbm
      simp only [List.cons.injEq, and_true] at he
      obtain ⟨rfl, rfl, rfl, rfl⟩ := he
      obtain ⟨a5, c5, rfl⟩ := gatesV_len i2
      have hcap := ownV_cap i2
      obtain ⟨gs, hgs⟩ := hext
      rw [hr] at hgs
      simp only [Res.bd] at hgs
      have hlen : B.c.gates.length ≤ B1.c.gates.length := by rw [hgs]; simp
      simp only [GV, frArgs, memArgs, resV, fillL, ← Bool.decide_or, ← Bool.decide_and, ← decide_not, ↓reduceIte, Nat.reduceEqDiff, Nat.reduceAdd, Nat.reduceMul, Nat.reduceLeDiff, Nat.reduceLT, Nat.reduceSub, Nat.succ_ne_zero, Nat.one_ne_zero, Nat.zero_ne_one, true_implies, false_implies, forall_const, implies_true, reduceCtorEq, eq_self, ite_true, ite_false, decide_true, decide_false, Nat.le_refl, Bool.false_eq_true, if_true, if_false]
      refine (c_do2_Sint (hg4 _ _ _ hb3) (hg4 _ _ _ hr3) hcap hlen (.inl rfl)).mono ?_
      rintro G5 Es' hg5 (⟨-, rfl⟩ | ⟨e, he, -⟩)
      · simp only [GV, frArgs, memArgs, resV, fillL, ← Bool.decide_or, ← Bool.decide_and, ← decide_not, ↓reduceIte, Nat.reduceEqDiff, Nat.reduceAdd, Nat.reduceMul, Nat.reduceLeDiff, Nat.reduceLT, Nat.reduceSub, Nat.succ_ne_zero, Nat.one_ne_zero, Nat.zero_ne_one, true_implies, false_implies, forall_const, implies_true, reduceCtorEq, eq_self, ite_true, ite_false, decide_true, decide_false, Nat.le_refl, Bool.false_eq_true, if_true, if_false]
        exact DoR.some (by simp only [doM, if_neg hp, ha, hr]; rfl) (hw.mono hg5) (.inr ⟨bb, rfl, _, _, _, _, _, _, rfl, i1.mono hg5, i2, i3.mono hg5, i4⟩)
      · cases he
    · rintro e B1 G4 e0 e1 e2 e3 hg4 hr hbm hp1
      obtain ⟨w1, w2, w3, f1, f2, f3, he, i1, i2, i3, i4⟩ := hbm
      simp only [List.cons.injEq, and_true] at he
      obtain ⟨rfl, rfl, rfl, rfl⟩ := he
      obtain ⟨a5, c5, rfl⟩ := gatesV_len i2
      have hcap := ownV_cap i2
      obtain ⟨gs, hgs⟩ := hext
      rw [hr] at hgs
      simp only [Res.bd] at hgs
      have hlen : B.c.gates.length ≤ B1.c.gates.length := by rw [hgs]; simp
      have hcut := i2.cut hlen
      have hgates : ((B1.c.gates.map Gate.enc).flatten).take (B.c.gates.length * 4) = (B.c.gates.map Gate.enc).flatten := by
        rw [hgs, List.map_append, List.flatten_append, List.take_left']
        rw [flatten_length (gates_len _), List.length_map]
      rw [hgates] at hcut
      simp only [GV, frArgs, memArgs, resV, fillL, ← Bool.decide_or, ← Bool.decide_and, ← decide_not, ↓reduceIte, Nat.reduceEqDiff, Nat.reduceAdd, Nat.reduceMul, Nat.reduceLeDiff, Nat.reduceLT, Nat.reduceSub, Nat.succ_ne_zero, Nat.one_ne_zero, Nat.zero_ne_one, true_implies, false_implies, forall_const, implies_true, reduceCtorEq, eq_self, ite_true, ite_false, decide_true, decide_false, Nat.le_refl, Bool.false_eq_true, if_true, if_false]
      refine (c_do2_Sint (hg4 _ _ _ hb3) (hg4 _ _ _ hr3) hcap hlen (.inr ⟨e, rfl⟩)).mono ?_
      rintro G5 Es' hg5 (⟨he, -⟩ | ⟨e', he, rfl⟩)
      · cases he
      · cases he
        simp only [GV, frArgs, memArgs, resV, fillL, ← Bool.decide_or, ← Bool.decide_and, ← decide_not, ↓reduceIte, Nat.reduceEqDiff, Nat.reduceAdd, Nat.reduceMul, Nat.reduceLeDiff, Nat.reduceLT, Nat.reduceSub, Nat.succ_ne_zero, Nat.one_ne_zero, Nat.zero_ne_one, true_implies, false_implies, forall_const, implies_true, reduceCtorEq, eq_self, ite_true, ite_false, decide_true, decide_false, Nat.le_refl, Bool.false_eq_true, if_true, if_false]
        have hpp : B1.p = B.p := by rw [hgs]
        have hss : B1.c.slots = B.c.slots := by rw [hgs]
        have hxx : B1.c.exits = B.c.exits := by rw [hgs]
        rw [hss] at i1
        rw [hxx] at i3
        rw [hpp]
        exact DoR.none (by simp only [doM, if_neg hp, ha, hr]; rfl) (.inr ⟨bb, rfl, _, _, _, _, _, _, rfl, i1.mono hg5, hcut, i3.mono hg5, h4, h5, h6, h7⟩)
end Go.Gv.W

