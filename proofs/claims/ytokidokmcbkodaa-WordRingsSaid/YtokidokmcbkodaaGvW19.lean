/-
  Two slices joined; a test that looks at blocks that are lent. No condition.
-/
import Derived.Test.YtokidokmcbkodaaGvW18
namespace Go.Gv.W
set_option linter.unusedSimpArgs false
set_option linter.unusedVariables false
set_option linter.unusedSectionVars false
open Go.RowKit Go.Proofs

/-- slices.Grow[[]int,int] -/
def r_slices_Grow_Sint_int : RFn := ⟨27,
  .ghost 0 <|
  .seq (.reg [] [
    ⟨(some 4), none, .mv (.c (.slice none 0 0))⟩]) <|
  .keep [0, 1] <|
  .seq (.seq (.reg [] [
    ⟨(some 5), none, .mv (.t 1)⟩,
    ⟨(some 6), none, .bin .lss (.t 5) (.c (.int .i64 0))⟩]) <|
  .keep [0, 1, 6] <|
  .cond (.t 6)
    (.reg [] [
      ⟨(some 7), none, .mki 9 (.c (.string ⟨#[99, 97, 110, 110, 111, 116, 32, 98, 101, 32, 110, 101, 103, 97, 116, 105, 118, 101]⟩))⟩,
      ⟨none, none, .pan (.t 7)⟩])
    (.skip)) <|
  .keep [0, 1] <|
  .seq (.seq (.reg [] [
    ⟨(some 8), none, .mv (.t 1)⟩,
    ⟨(some 9), none, .mv (.t 0)⟩,
    ⟨(some 10), none, .cap (.t 9)⟩,
    ⟨(some 11), none, .mv (.t 0)⟩,
    ⟨(some 12), none, .len (.t 11)⟩,
    ⟨(some 13), none, .bin .sub (.t 10) (.t 12)⟩,
    ⟨(some 14), none, .bin .sub (.t 8) (.t 13)⟩,
    ⟨(some 1), none, .mv (.t 14)⟩]) <|
  .keep [0, 1] <|
  .seq (.reg [] [
    ⟨(some 15), none, .mv (.t 1)⟩,
    ⟨(some 16), none, .bin .gtr (.t 15) (.c (.int .i64 0))⟩]) <|
  .keep [0, 1, 16] <|
  .cond (.t 16)
    (.reg [] [
      ⟨(some 17), none, .mv (.t 0)⟩,
      ⟨(some 18), none, .mv (.t 0)⟩,
      ⟨(some 19), none, .cap (.t 18)⟩,
      ⟨(some 20), none, .sl 1 (.t 17) none (some (.t 19)) none⟩,
      ⟨(some 21), none, .mv (.t 1)⟩,
      ⟨(some 22), none, .apz 0 3 1 8 [(.int .i64 0)] (.t 20) (.t 21)⟩,
      ⟨(some 23), none, .mv (.t 0)⟩,
      ⟨(some 24), none, .len (.t 23)⟩,
      ⟨(some 25), none, .sl 1 (.t 22) none (some (.t 24)) none⟩,
      ⟨(some 0), none, .mv (.t 25)⟩])
    (.skip)) <|
  .keep [0] <|
  .seq (.reg [] [
    ⟨(some 26), none, .mv (.t 0)⟩,
    ⟨(some 4), none, .mv (.t 26)⟩]) <|
  .ret,
  [.tmp 4], [0], [0]⟩

theorem k_slices_Grow_Sint_int : rbFn Try.prog 87 r_slices_Grow_Sint_int = some r_slices_Grow_Sint_int := by kernel_rfl

/-- slices.Concat[[]int,int] -/
def r_slices_Concat_Sint_int : RFn := ⟨36,
  .seq (.reg [] [
    ⟨(some 2), none, .mv (.c (.slice none 0 0))⟩]) <|
  .keep [0] <|
  .seq (.reg [] [
    ⟨(some 3), none, .mv (.c (.int .i64 0))⟩]) <|
  .keep [0, 3] <|
  .seq (.seq (.reg [] [
    ⟨(some 9), none, .mv (.t 0)⟩,
    ⟨(some 10), none, .len (.t 9)⟩,
    ⟨(some 11), none, .mv (.c (.int .i64 0))⟩]) <|
  .keep [0, 3, 9, 10, 11] <|
  .block 0 <|
  .loop [0, 3, 9, 10, 11] [1000000] <|
  .seq (.reg [] [
    ⟨(some 12), none, .bin .lss (.t 11) (.t 10)⟩]) <|
  .keep [0, 3, 9, 10, 11, 12] <|
  .seq (.cond (.t 12)
    (.skip)
    (.exit 0)) <|
  .keep [0, 3, 9, 10, 11] <|
  .seq (.block 1 <|
  .seq (.reg [] [
    ⟨(some 13), none, .iad 1 (.t 9) (.t 11)⟩,
    ⟨(some 14), none, .ld none none (.t 13)⟩,
    ⟨(some 5), none, .mv (.t 14)⟩]) <|
  .keep [0, 3, 5, 9, 10, 11] <|
  .seq (.reg [] [
    ⟨(some 15), none, .mv (.t 3)⟩,
    ⟨(some 16), none, .mv (.t 5)⟩,
    ⟨(some 17), none, .len (.t 16)⟩,
    ⟨(some 18), none, .bin .add (.t 15) (.t 17)⟩,
    ⟨(some 3), none, .mv (.t 18)⟩]) <|
  .keep [0, 3, 9, 10, 11] <|
  .seq (.reg [] [
    ⟨(some 19), none, .mv (.t 3)⟩,
    ⟨(some 20), none, .bin .lss (.t 19) (.c (.int .i64 0))⟩]) <|
  .keep [0, 3, 9, 10, 11, 20] <|
  .cond (.t 20)
    (.reg [] [
      ⟨(some 21), none, .mki 9 (.c (.string ⟨#[108, 101, 110, 32, 111, 117, 116, 32, 111, 102, 32, 114, 97, 110, 103, 101]⟩))⟩,
      ⟨none, none, .pan (.t 21)⟩])
    (.skip)) <|
  .keep [0, 3, 9, 10, 11] <|
  .reg [] [
    ⟨(some 22), none, .bin .add (.t 11) (.c (.int .i64 1))⟩,
    ⟨(some 11), none, .mv (.t 22)⟩]) <|
  .keep [0, 3] <|
  .seq (.reg [] [
    ⟨(some 23), none, .mv (.t 3)⟩,
    ⟨(some 24), none, .call [] [0] 87 [(.c (.slice none 0 0)), (.t 23)]⟩,
    ⟨(some 6), none, .mv (.t 24)⟩]) <|
  .keep [0, 6] <|
  .seq (.seq (.reg [] [
    ⟨(some 25), none, .mv (.t 0)⟩,
    ⟨(some 26), none, .len (.t 25)⟩,
    ⟨(some 27), none, .mv (.c (.int .i64 0))⟩]) <|
  .keep [6, 25, 26, 27] <|
  .block 2 <|
  .loop [6, 25, 26, 27] [0, 1000000] <|
  .seq (.reg [] [
    ⟨(some 28), none, .bin .lss (.t 27) (.t 26)⟩]) <|
  .keep [6, 25, 26, 27, 28] <|
  .seq (.cond (.t 28)
    (.skip)
    (.exit 2)) <|
  .keep [6, 25, 26, 27] <|
  .seq (.block 3 <|
  .seq (.reg [] [
    ⟨(some 29), none, .iad 1 (.t 25) (.t 27)⟩,
    ⟨(some 30), none, .ld none none (.t 29)⟩,
    ⟨(some 8), none, .mv (.t 30)⟩]) <|
  .keep [6, 8, 25, 26, 27] <|
  .reg [] [
    ⟨(some 31), none, .mv (.t 6)⟩,
    ⟨(some 32), none, .mv (.t 8)⟩,
    ⟨(some 33), none, .apx true none (some 0) 0 3 1 8 (.t 31) (.t 32)⟩,
    ⟨(some 6), none, .mv (.t 33)⟩]) <|
  .keep [6, 25, 26, 27] <|
  .reg [] [
    ⟨(some 34), none, .bin .add (.t 27) (.c (.int .i64 1))⟩,
    ⟨(some 27), none, .mv (.t 34)⟩]) <|
  .keep [6] <|
  .seq (.reg [] [
    ⟨(some 35), none, .mv (.t 6)⟩,
    ⟨(some 2), none, .mv (.t 35)⟩]) <|
  .ret,
  [.tmp 2], [0], []⟩

theorem k_slices_Concat_Sint_int : rbFn Try.prog 63 r_slices_Concat_Sint_int = some r_slices_Concat_Sint_int := by kernel_rfl

/-- slices.IndexFunc[[]int,int] -/
def r_slices_IndexFunc_Sint_int_vb : RFn := ⟨19,
  .seq (.reg [] [
    ⟨(some 4), none, .mv (.c (.int .i64 0))⟩]) <|
  .keep [0, 1] <|
  .seq (.seq (.reg [] [
    ⟨(some 6), none, .mv (.t 0)⟩,
    ⟨(some 7), none, .len (.t 6)⟩,
    ⟨(some 8), none, .mv (.c (.int .i64 0))⟩]) <|
  .keep [0, 1, 7, 8] <|
  .block 0 <|
  .loop [0, 1, 7, 8] [0, 1000000] <|
  .seq (.reg [] [
    ⟨(some 9), none, .bin .lss (.t 8) (.t 7)⟩]) <|
  .keep [0, 1, 7, 8, 9] <|
  .seq (.cond (.t 9)
    (.skip)
    (.exit 0)) <|
  .keep [0, 1, 7, 8] <|
  .seq (.block 1 <|
  .seq (.reg [] [
    ⟨(some 10), none, .mv (.t 8)⟩,
    ⟨(some 5), none, .mv (.t 10)⟩]) <|
  .keep [0, 1, 5, 7, 8] <|
  .seq (.reg [] [
    ⟨(some 11), none, .mv (.t 1)⟩,
    ⟨(some 12), none, .mv (.t 0)⟩,
    ⟨(some 13), none, .mv (.t 5)⟩,
    ⟨(some 14), none, .iad 1 (.t 12) (.t 13)⟩,
    ⟨(some 15), none, .ld none none (.t 14)⟩,
    ⟨(some 16), none, .callv [0] [0] (.t 11) [(.t 15)]⟩]) <|
  .keep [0, 1, 5, 7, 8, 16] <|
  .cond (.t 16)
    (.seq (.reg [] [
      ⟨(some 17), none, .mv (.t 5)⟩,
      ⟨(some 4), none, .mv (.t 17)⟩]) <|
    .ret)
    (.skip)) <|
  .keep [0, 1, 7, 8] <|
  .reg [] [
    ⟨(some 18), none, .bin .add (.t 8) (.c (.int .i64 1))⟩,
    ⟨(some 8), none, .mv (.t 18)⟩]) <|
  .keep [] <|
  .seq (.reg [] [
    ⟨(some 4), none, .mv (.c (.int .i64 (-1)))⟩]) <|
  .ret,
  [.tmp 4], [0], [0]⟩

theorem k_slices_IndexFunc_Sint_int_vb : rbFn Try.prog 91 r_slices_IndexFunc_Sint_int_vb = some r_slices_IndexFunc_Sint_int_vb := by kernel_rfl

/-- slices.ContainsFunc[[]int,int] -/
def r_slices_ContainsFunc_Sint_int_vb : RFn := ⟨9,
  .seq (.reg [] [
    ⟨(some 4), none, .mv (.c (.bool false))⟩]) <|
  .keep [0, 1] <|
  .seq (.reg [] [
    ⟨(some 5), none, .mv (.t 0)⟩,
    ⟨(some 6), none, .mv (.t 1)⟩,
    ⟨(some 7), none, .call [0] [0] 91 [(.t 5), (.t 6)]⟩,
    ⟨(some 8), none, .bin .geq (.t 7) (.c (.int .i64 0))⟩,
    ⟨(some 4), none, .mv (.t 8)⟩]) <|
  .ret,
  [.tmp 4], [0], [0]⟩

theorem k_slices_ContainsFunc_Sint_int_vb : rbFn Try.prog 84 r_slices_ContainsFunc_Sint_int_vb = some r_slices_ContainsFunc_Sint_int_vb := by kernel_rfl


theorem zeros_one (n : Nat) : ∀ u ∈ (List.replicate n [Value.int .i64 0]).flatten, u.oneCell' = true := by
  intro u h
  simp only [List.mem_flatten, List.mem_replicate] at h
  obtain ⟨_, ⟨_, rfl⟩, h⟩ := h
  simp at h; subst h; rfl
theorem c_Grow {n : Nat} {G : GH} (h0 : 0 < n) (hn : n ≤ 65536) : ACalls Try.prog 87 [.slice none 0 0, .int .i64 n] G [] fun o G' Es => ∃ v es, o = .ret v ∧ OwnV 3 1 v [] es ∧ Es = [es] := by
  refine acalls mixed k_slices_Grow_Sint_int (by simp) fun F => ?_
  have hw0 : IntKind.i64.wrap 0 = 0 := by rw [wrap64] <;> omega
  have hw : IntKind.i64.wrap (n : Int) = n := by rw [wrap64] <;> omega
  have hneg : ¬ ((n : Int) < 0) := by omega
  have hpos : (0 : Int) < n := by omega
  simp only [GV, frArgs, memArgs, resV, fillL, ← Bool.decide_or, ← Bool.decide_and, ← decide_not, ↓reduceIte, Nat.reduceEqDiff, Nat.reduceAdd, Nat.reduceMul, Nat.reduceLeDiff, Nat.reduceLT, Nat.reduceSub, Nat.succ_ne_zero, Nat.one_ne_zero, Nat.zero_ne_one, true_implies, false_implies, forall_const, implies_true, reduceCtorEq, eq_self, ite_true, ite_false, decide_true, decide_false, Nat.le_refl, Bool.false_eq_true, if_true, if_false]
  refine cond_dec (fun h => absurd h hneg) (fun _ => ?_)
  simp only [GV, frArgs, memArgs, resV, fillL, ← Bool.decide_or, ← Bool.decide_and, ← decide_not, ↓reduceIte, Nat.reduceEqDiff, Nat.reduceAdd, Nat.reduceMul, Nat.reduceLeDiff, Nat.reduceLT, Nat.reduceSub, Nat.succ_ne_zero, Nat.one_ne_zero, Nat.zero_ne_one, true_implies, false_implies, forall_const, implies_true, reduceCtorEq, eq_self, ite_true, ite_false, decide_true, decide_false, Nat.le_refl, Bool.false_eq_true, if_true, if_false, Int.natCast_zero, Int.sub_zero, hw0, hw]
  refine cond_dec (fun _ => ?_) (fun h => absurd hpos h)
  simp only [GV, frArgs, memArgs, resV, fillL, ← Bool.decide_or, ← Bool.decide_and, ← decide_not, ↓reduceIte, Nat.reduceEqDiff, Nat.reduceAdd, Nat.reduceMul, Nat.reduceLeDiff, Nat.reduceLT, Nat.reduceSub, Nat.succ_ne_zero, Nat.one_ne_zero, Nat.zero_ne_one, true_implies, false_implies, forall_const, implies_true, reduceCtorEq, eq_self, ite_true, ite_false, decide_true, decide_false, Nat.le_refl, Bool.false_eq_true, if_true, if_false, Int.natCast_zero, Int.toNat_zero, Int.sub_zero, hw0, hw, slA_none]
  refine ⟨by omega, hpos, by omega, by simp only [maxLen]; omega, fun v' es' ho => ?_⟩
  obtain ⟨a, c, rfl, h1, h2⟩ := ho.len (css := List.replicate n [Value.int .i64 0]) (by intro cs h; rw [(List.mem_replicate.1 h).2]; rfl) (by omega)
  have hcut := ho.cut (k := 0) (by omega)
  rw [Nat.zero_mul, List.take_zero] at hcut
  simp only [GV, frArgs, memArgs, resV, fillL, ← Bool.decide_or, ← Bool.decide_and, ← decide_not, ↓reduceIte, Nat.reduceEqDiff, Nat.reduceAdd, Nat.reduceMul, Nat.reduceLeDiff, Nat.reduceLT, Nat.reduceSub, Nat.succ_ne_zero, Nat.one_ne_zero, Nat.zero_ne_one, true_implies, false_implies, forall_const, implies_true, reduceCtorEq, eq_self, ite_true, ite_false, decide_true, decide_false, Nat.le_refl, Bool.false_eq_true, if_true, if_false, Int.toNat_zero]
  refine ⟨by omega, _, _, rfl, hcut, rfl⟩

theorem c_IndexFuncE {v : Value} {l : List Int} {f : FuncId} {x y : List Value} {pB : Int → Bool} {G : GH} {es : List Ent} (hv : SlI G .i64 v l) (hf : ∀ e ∈ l, ACalls Try.prog f (x ++ [.int .i64 e] ++ y) G [es] fun o G' Es => o = .ret (.bool (pB e)) ∧ G' = G ∧ Es = [es]) :
    ACalls Try.prog 91 [v, .func (.func f) x.toArray y.toArray] G [es] fun o G' Es => o = .ret (.int .i64 (findAt pB 0 l)) ∧ G' = G ∧ Es = [es] := by
  obtain ⟨a, c, rfl, h1, h2, hrow⟩ := hv
  refine acalls mixed k_slices_IndexFunc_Sint_int_vb (by simp) fun F => ?_
  simp only [GV, frArgs, memArgs, resV, fillL, ← Bool.decide_or, ← Bool.decide_and, ← decide_not, ↓reduceIte, Nat.reduceEqDiff, Nat.reduceAdd, Nat.reduceMul, Nat.reduceLeDiff, Nat.reduceLT, Nat.reduceSub, Nat.succ_ne_zero, Nat.one_ne_zero, Nat.zero_ne_one, true_implies, false_implies, forall_const, implies_true, reduceCtorEq, eq_self, ite_true, ite_false, decide_true, decide_false, Nat.le_refl, Bool.false_eq_true, if_true, if_false]
  refine loop_intro (fun n fr G' M => ∃ i : Nat, n = l.length - i ∧ i ≤ l.length ∧ findAt pB i (l.drop i) = findAt pB 0 l ∧ G' = G ∧ fr = [(0, true, .slice a l.length c), (1, true, .func (.func f) x.toArray y.toArray), (7, true, .int .i64 l.length), (8, true, .int .i64 i)] ∧ M = [(0, es), (1000000, F)]) l.length ⟨0, by simp, by simp, by simp, rfl, by simp, rfl⟩ ?_
  rintro n fr G1 M - ⟨i, rfl, hi, hp, rfl, rfl, rfl⟩
  simp only [GV, frArgs, memArgs, resV, fillL, ← Bool.decide_or, ← Bool.decide_and, ← decide_not, ↓reduceIte, Nat.reduceEqDiff, Nat.reduceAdd, Nat.reduceMul, Nat.reduceLeDiff, Nat.reduceLT, Nat.reduceSub, Nat.succ_ne_zero, Nat.one_ne_zero, Nat.zero_ne_one, true_implies, false_implies, forall_const, implies_true, reduceCtorEq, eq_self, ite_true, ite_false, decide_true, decide_false, Nat.le_refl, Bool.false_eq_true, if_true, if_false]
  refine cond_dec (fun h => ?_) (fun h => ?_)
  · have hlt : i < l.length := by omega
    obtain ⟨b, o, rfl, hx⟩ := RowI.get hrow hlt
    rw [List.drop_eq_getElem_cons hlt, findAt] at hp
    simp only [GV, frArgs, memArgs, resV, fillL, ← Bool.decide_or, ← Bool.decide_and, ← decide_not, ↓reduceIte, Nat.reduceEqDiff, Nat.reduceAdd, Nat.reduceMul, Nat.reduceLeDiff, Nat.reduceLT, Nat.reduceSub, Nat.succ_ne_zero, Nat.one_ne_zero, Nat.zero_ne_one, true_implies, false_implies, forall_const, implies_true, reduceCtorEq, eq_self, ite_true, ite_false, decide_true, decide_false, Nat.le_refl, Bool.false_eq_true, if_true, if_false, hx, Nat.mul_one]
    refine ⟨by omega, (hf l[i] (List.getElem_mem hlt)).mono ?_⟩
    rintro o G1 Es hg ⟨rfl, rfl, rfl⟩
    simp only [GV, frArgs, memArgs, resV, fillL, ← Bool.decide_or, ← Bool.decide_and, ← decide_not, ↓reduceIte, Nat.reduceEqDiff, Nat.reduceAdd, Nat.reduceMul, Nat.reduceLeDiff, Nat.reduceLT, Nat.reduceSub, Nat.succ_ne_zero, Nat.one_ne_zero, Nat.zero_ne_one, true_implies, false_implies, forall_const, implies_true, reduceCtorEq, eq_self, ite_true, ite_false, decide_true, decide_false, Nat.le_refl, Bool.false_eq_true, if_true, if_false]
    refine cond_intro (fun h3 => ?_) (fun h3 => ?_)
    · rw [h3] at hp
      simp only [GV, frArgs, memArgs, resV, fillL, ← Bool.decide_or, ← Bool.decide_and, ← decide_not, ↓reduceIte, Nat.reduceEqDiff, Nat.reduceAdd, Nat.reduceMul, Nat.reduceLeDiff, Nat.reduceLT, Nat.reduceSub, Nat.succ_ne_zero, Nat.one_ne_zero, Nat.zero_ne_one, true_implies, false_implies, forall_const, implies_true, reduceCtorEq, eq_self, ite_true, ite_false, decide_true, decide_false, Nat.le_refl, Bool.false_eq_true, if_true, if_false]
      rw [← hp, if_pos rfl]
    · rw [h3] at hp
      simp only [GV, frArgs, memArgs, resV, fillL, ← Bool.decide_or, ← Bool.decide_and, ← decide_not, ↓reduceIte, Nat.reduceEqDiff, Nat.reduceAdd, Nat.reduceMul, Nat.reduceLeDiff, Nat.reduceLT, Nat.reduceSub, Nat.succ_ne_zero, Nat.one_ne_zero, Nat.zero_ne_one, true_implies, false_implies, forall_const, implies_true, reduceCtorEq, eq_self, ite_true, ite_false, decide_true, decide_false, Nat.le_refl, Bool.false_eq_true, if_true, if_false, wrapn (show i < maxLen by omega)]
      exact ⟨l.length - (i + 1), by omega, i + 1, rfl, by omega, by simpa using hp, rfl⟩
  · simp only [GV, frArgs, memArgs, resV, fillL, ← Bool.decide_or, ← Bool.decide_and, ← decide_not, ↓reduceIte, Nat.reduceEqDiff, Nat.reduceAdd, Nat.reduceMul, Nat.reduceLeDiff, Nat.reduceLT, Nat.reduceSub, Nat.succ_ne_zero, Nat.one_ne_zero, Nat.zero_ne_one, true_implies, false_implies, forall_const, implies_true, reduceCtorEq, eq_self, ite_true, ite_false, decide_true, decide_false, Nat.le_refl, Bool.false_eq_true, if_true, if_false]
    rw [← hp, List.drop_eq_nil_of_le (by omega)]
    rfl
theorem c_ContainsFuncE {v : Value} {l : List Int} {f : FuncId} {x y : List Value} {pB : Int → Bool} {G : GH} {es : List Ent} (hv : SlI G .i64 v l) (hf : ∀ e ∈ l, ACalls Try.prog f (x ++ [.int .i64 e] ++ y) G [es] fun o G' Es => o = .ret (.bool (pB e)) ∧ G' = G ∧ Es = [es]) :
    ACalls Try.prog 84 [v, .func (.func f) x.toArray y.toArray] G [es] fun o G' Es => o = .ret (.bool (l.any pB)) ∧ G' = G ∧ Es = [es] := by
  refine acalls mixed k_slices_ContainsFunc_Sint_int_vb (by simp) fun F => ?_
  simp only [GV, frArgs, memArgs, resV, fillL, ← Bool.decide_or, ← Bool.decide_and, ← decide_not, ↓reduceIte, Nat.reduceEqDiff, Nat.reduceAdd, Nat.reduceMul, Nat.reduceLeDiff, Nat.reduceLT, Nat.reduceSub, Nat.succ_ne_zero, Nat.one_ne_zero, Nat.zero_ne_one, true_implies, false_implies, forall_const, implies_true, reduceCtorEq, eq_self, ite_true, ite_false, decide_true, decide_false, Nat.le_refl, Bool.false_eq_true, if_true, if_false]
  refine (c_IndexFuncE hv hf).mono ?_
  rintro o G1 Es hg ⟨rfl, rfl, rfl⟩
  simp only [GV, frArgs, memArgs, resV, fillL, ← Bool.decide_or, ← Bool.decide_and, ← decide_not, ↓reduceIte, Nat.reduceEqDiff, Nat.reduceAdd, Nat.reduceMul, Nat.reduceLeDiff, Nat.reduceLT, Nat.reduceSub, Nat.succ_ne_zero, Nat.one_ne_zero, Nat.zero_ne_one, true_implies, false_implies, forall_const, implies_true, reduceCtorEq, eq_self, ite_true, ite_false, decide_true, decide_false, Nat.le_refl, Bool.false_eq_true, if_true, if_false]
  rw [findAt_any]

set_option maxHeartbeats 1000000 in
theorem c_Concat0 {v w : Value} {l m : List Int} {b : Nat} {G : GH} (hv : SlI G .i64 v l) (hw : SlI G .i64 w m) (h0 : G b 0 = some v) (h1 : G b 1 = some w) (hl : 0 < l.length) (hlm : l.length + m.length ≤ 65536) :
    ACalls Try.prog 63 [.slice (some ⟨b, 0, none⟩) 2 2] G [] fun o G' Es' => ∃ x css es rest, (∀ cs ∈ css, cs.length = 1) ∧ OwnV 3 1 x css.flatten es ∧ Es' = es :: rest ∧ (o = .ret x ∧ css = encI .i64 (l ++ m) ∧ rest = []) := by
  have hv0 := hv
  have hw0 := hw
  obtain ⟨a1, c1, rfl, hl1, hl2, hrow⟩ := hv0
  obtain ⟨a2, c2, rfl, hl3, hl4, hrow2⟩ := hw0
  refine acalls mixed k_slices_Concat_Sint_int (by simp) fun F => ?_
  simp only [GV, frArgs, memArgs, resV, fillL, ← Bool.decide_or, ← Bool.decide_and, ← decide_not, ↓reduceIte, Nat.reduceEqDiff, Nat.reduceAdd, Nat.reduceMul, Nat.reduceLeDiff, Nat.reduceLT, Nat.reduceSub, Nat.succ_ne_zero, Nat.one_ne_zero, Nat.zero_ne_one, true_implies, false_implies, forall_const, implies_true, reduceCtorEq, eq_self, ite_true, ite_false, decide_true, decide_false, Nat.le_refl, Bool.false_eq_true, if_true, if_false]
  refine loop_intro (fun n fr G' M => ∃ (i s : Nat), n = 2 - i ∧ i ≤ 2 ∧ s = (if i = 0 then 0 else if i = 1 then l.length else l.length + m.length) ∧ G' = G ∧
      fr = [(0, true, .slice (some ⟨b, 0, none⟩) 2 2), (3, true, .int .i64 s), (9, true, .slice (some ⟨b, 0, none⟩) 2 2), (10, true, .int .i64 (2 : Nat)), (11, true, .int .i64 i)] ∧ M = [(1000000, F)]) 2 ⟨0, 0, rfl, by omega, rfl, rfl, rfl, rfl⟩ ?_
  rintro n fr G1 M - ⟨i, s, rfl, hi, hs, rfl, rfl, rfl⟩
  simp only [GV, frArgs, memArgs, resV, fillL, ← Bool.decide_or, ← Bool.decide_and, ← decide_not, ↓reduceIte, Nat.reduceEqDiff, Nat.reduceAdd, Nat.reduceMul, Nat.reduceLeDiff, Nat.reduceLT, Nat.reduceSub, Nat.succ_ne_zero, Nat.one_ne_zero, Nat.zero_ne_one, true_implies, false_implies, forall_const, implies_true, reduceCtorEq, eq_self, ite_true, ite_false, decide_true, decide_false, Nat.le_refl, Bool.false_eq_true, if_true, if_false]
  refine cond_dec (fun h => ?_) (fun h => ?_)
  · have hs' : s ≤ l.length := by
      rcases (show i = 0 ∨ i = 1 by omega) with rfl | rfl <;> simp at hs <;> omega
    obtain ⟨a3, n3, c3, hx, hn3⟩ : ∃ a3 n3 c3, G1 b (0 + i * 1) = some (.slice a3 n3 c3) ∧ n3 = (if i = 0 then l.length else m.length) := by
      rcases (show i = 0 ∨ i = 1 by omega) with rfl | rfl
      · exact ⟨_, _, _, h0, rfl⟩
      · exact ⟨_, _, _, h1, rfl⟩
    have hn4 : s + n3 ≤ 65536 := by
      rcases (show i = 0 ∨ i = 1 by omega) with rfl | rfl <;> simp at hs hn3 <;> omega
    have hws : IntKind.i64.wrap ((s : Int) + (n3 : Int)) = ((s + n3 : Nat) : Int) := by rw [wrap64] <;> omega
    simp only [Nat.zero_add] at hx
    simp only [GV, frArgs, memArgs, resV, fillL, ← Bool.decide_or, ← Bool.decide_and, ← decide_not, ↓reduceIte, Nat.reduceEqDiff, Nat.reduceAdd, Nat.reduceMul, Nat.reduceLeDiff, Nat.reduceLT, Nat.reduceSub, Nat.succ_ne_zero, Nat.one_ne_zero, Nat.zero_ne_one, true_implies, false_implies, forall_const, implies_true, reduceCtorEq, eq_self, ite_true, ite_false, decide_true, decide_false, Nat.le_refl, Bool.false_eq_true, if_true, if_false, hx, hws]
    refine ⟨by omega, cond_dec (fun h8 => absurd h8 (by omega)) (fun h8 => ?_)⟩
    simp only [GV, frArgs, memArgs, resV, fillL, ← Bool.decide_or, ← Bool.decide_and, ← decide_not, ↓reduceIte, Nat.reduceEqDiff, Nat.reduceAdd, Nat.reduceMul, Nat.reduceLeDiff, Nat.reduceLT, Nat.reduceSub, Nat.succ_ne_zero, Nat.one_ne_zero, Nat.zero_ne_one, true_implies, false_implies, forall_const, implies_true, reduceCtorEq, eq_self, ite_true, ite_false, decide_true, decide_false, Nat.le_refl, Bool.false_eq_true, if_true, if_false, wrapn (show i < maxLen by simp only [maxLen]; omega)]
    refine ⟨2 - (i + 1), by omega, i + 1, s + n3, rfl, by omega, ?_, rfl⟩
    rcases (show i = 0 ∨ i = 1 by omega) with rfl | rfl <;> simp at hs hn3 ⊢ <;> omega
  · have hi2 : i = 2 := by omega
    subst hi2
    have hs2 : s = l.length + m.length := by simpa using hs
    subst hs2
    simp only [GV, frArgs, memArgs, resV, fillL, ← Bool.decide_or, ← Bool.decide_and, ← decide_not, ↓reduceIte, Nat.reduceEqDiff, Nat.reduceAdd, Nat.reduceMul, Nat.reduceLeDiff, Nat.reduceLT, Nat.reduceSub, Nat.succ_ne_zero, Nat.one_ne_zero, Nat.zero_ne_one, true_implies, false_implies, forall_const, implies_true, reduceCtorEq, eq_self, ite_true, ite_false, decide_true, decide_false, Nat.le_refl, Bool.false_eq_true, if_true, if_false]
    refine (c_Grow (by omega) hlm).mono ?_
    rintro o G2 Es hg ⟨v, es, rfl, hown, rfl⟩
    simp only [GV, frArgs, memArgs, resV, fillL, ← Bool.decide_or, ← Bool.decide_and, ← decide_not, ↓reduceIte, Nat.reduceEqDiff, Nat.reduceAdd, Nat.reduceMul, Nat.reduceLeDiff, Nat.reduceLT, Nat.reduceSub, Nat.succ_ne_zero, Nat.one_ne_zero, Nat.zero_ne_one, true_implies, false_implies, forall_const, implies_true, reduceCtorEq, eq_self, ite_true, ite_false, decide_true, decide_false, Nat.le_refl, Bool.false_eq_true, if_true, if_false]
    refine loop_intro (fun n fr G' M => ∃ (i : Nat) (v : Value) (es : List Ent), n = 2 - i ∧ i ≤ 2 ∧ OwnV 3 1 v (encI .i64 (if i = 0 then [] else if i = 1 then l else l ++ m)).flatten es ∧ GLe G1 G' ∧
      fr = [(6, true, v), (25, true, .slice (some ⟨b, 0, none⟩) 2 2), (26, true, .int .i64 (2 : Nat)), (27, true, .int .i64 i)] ∧ M = [(0, es), (1000000, F)]) 2 ⟨0, v, es, rfl, by omega, hown, hg, rfl, rfl⟩ ?_
    rintro n fr G3 M - ⟨i, v, es, rfl, hi, hown, hg3, rfl, rfl⟩
    simp only [GV, frArgs, memArgs, resV, fillL, ← Bool.decide_or, ← Bool.decide_and, ← decide_not, ↓reduceIte, Nat.reduceEqDiff, Nat.reduceAdd, Nat.reduceMul, Nat.reduceLeDiff, Nat.reduceLT, Nat.reduceSub, Nat.succ_ne_zero, Nat.one_ne_zero, Nat.zero_ne_one, true_implies, false_implies, forall_const, implies_true, reduceCtorEq, eq_self, ite_true, ite_false, decide_true, decide_false, Nat.le_refl, Bool.false_eq_true, if_true, if_false]
    refine cond_dec (fun h9 => ?_) (fun h9 => ?_)
    · rcases (show i = 0 ∨ i = 1 by omega) with rfl | rfl
      · have hx := hg3 _ _ _ h0
        simp only [GV, frArgs, memArgs, resV, fillL, ← Bool.decide_or, ← Bool.decide_and, ← decide_not, ↓reduceIte, Nat.reduceEqDiff, Nat.reduceAdd, Nat.reduceMul, Nat.reduceLeDiff, Nat.reduceLT, Nat.reduceSub, Nat.succ_ne_zero, Nat.one_ne_zero, Nat.zero_ne_one, true_implies, false_implies, forall_const, implies_true, reduceCtorEq, eq_self, ite_true, ite_false, decide_true, decide_false, Nat.le_refl, Bool.false_eq_true, if_true, if_false, hx, Nat.zero_mul]
        refine ⟨by omega, ?_⟩
        refine apx_moreVN (olds := encI .i64 []) rfl hown (encI_len _ _) (hrow.mono hg3) (encI_length _ _) (encI_one _ _) (by simp [encI]; omega) (fun v' es' ho => ?_)
        simp only [GV, frArgs, memArgs, resV, fillL, ← Bool.decide_or, ← Bool.decide_and, ← decide_not, ↓reduceIte, Nat.reduceEqDiff, Nat.reduceAdd, Nat.reduceMul, Nat.reduceLeDiff, Nat.reduceLT, Nat.reduceSub, Nat.succ_ne_zero, Nat.one_ne_zero, Nat.zero_ne_one, true_implies, false_implies, forall_const, implies_true, reduceCtorEq, eq_self, ite_true, ite_false, decide_true, decide_false, Nat.le_refl, Bool.false_eq_true, if_true, if_false, wrapn (show 0 < maxLen by simp [maxLen])]
        exact ⟨2 - 1, by omega, 1, v', es', rfl, by omega, by rw [← encI_append] at ho; simpa using ho, hg3, rfl, rfl⟩
      · have hx := hg3 _ _ _ h1
        simp only [GV, frArgs, memArgs, resV, fillL, ← Bool.decide_or, ← Bool.decide_and, ← decide_not, ↓reduceIte, Nat.reduceEqDiff, Nat.reduceAdd, Nat.reduceMul, Nat.reduceLeDiff, Nat.reduceLT, Nat.reduceSub, Nat.succ_ne_zero, Nat.one_ne_zero, Nat.zero_ne_one, true_implies, false_implies, forall_const, implies_true, reduceCtorEq, eq_self, ite_true, ite_false, decide_true, decide_false, Nat.le_refl, Bool.false_eq_true, if_true, if_false, hx, Nat.mul_one]
        refine ⟨by omega, ?_⟩
        refine apx_moreVN (olds := encI .i64 l) rfl hown (encI_len _ _) (hrow2.mono hg3) (encI_length _ _) (encI_one _ _) (by rw [encI_length]; omega) (fun v' es' ho => ?_)
        simp only [GV, frArgs, memArgs, resV, fillL, ← Bool.decide_or, ← Bool.decide_and, ← decide_not, ↓reduceIte, Nat.reduceEqDiff, Nat.reduceAdd, Nat.reduceMul, Nat.reduceLeDiff, Nat.reduceLT, Nat.reduceSub, Nat.succ_ne_zero, Nat.one_ne_zero, Nat.zero_ne_one, true_implies, false_implies, forall_const, implies_true, reduceCtorEq, eq_self, ite_true, ite_false, decide_true, decide_false, Nat.le_refl, Bool.false_eq_true, if_true, if_false, wrapn (show 1 < maxLen by simp [maxLen])]
        exact ⟨2 - 2, by omega, 2, v', es', rfl, by omega, by rw [← encI_append] at ho; simpa using ho, hg3, rfl, rfl⟩
    · have hi2 : i = 2 := by omega
      subst hi2
      simp only [GV, frArgs, memArgs, resV, fillL, ← Bool.decide_or, ← Bool.decide_and, ← decide_not, ↓reduceIte, Nat.reduceEqDiff, Nat.reduceAdd, Nat.reduceMul, Nat.reduceLeDiff, Nat.reduceLT, Nat.reduceSub, Nat.succ_ne_zero, Nat.one_ne_zero, Nat.zero_ne_one, true_implies, false_implies, forall_const, implies_true, reduceCtorEq, eq_self, ite_true, ite_false, decide_true, decide_false, Nat.le_refl, Bool.false_eq_true, if_true, if_false]
      exact ⟨v, _, es, [], encI_len _ _, hown, rfl, rfl, by simp, rfl⟩
theorem c_Concat {v w : Value} {l m : List Int} {b : Nat} {G : GH} (hv : SlI G .i64 v l) (hw : SlI G .i64 w m) (h0 : G b 0 = some v) (h1 : G b 1 = some w) (hl : 0 < l.length) (hlm : l.length + m.length ≤ 65536) :
    ACalls Try.prog 63 [.slice (some ⟨b, 0, none⟩) 2 2] G [] fun o G' Es' => ∃ x, o = .ret x ∧ SlI G' .i64 x (l ++ m) ∧ Es' = [] := by
  refine (ACalls.settle (R := fun o x css G' rest => o = .ret x ∧ css = encI .i64 (l ++ m) ∧ rest = []) (by omega) (c_Concat0 hv hw h0 h1 hl hlm)).mono ?_
  rintro o G' Es' hg ⟨x, css, G2, hg2, hs, rfl, rfl, rfl⟩
  exact ⟨x, rfl, SlI.sl.2 hs, rfl⟩
end Go.Gv.W
