/-
  The values of the gates of a circuit. No condition.
-/
import Derived.Test.YtokidokmcbkodaaGvW25
namespace Go.Gv.W
set_option linter.unusedSimpArgs false
set_option linter.unusedVariables false
set_option linter.unusedSectionVars false
open Go.RowKit Go.Proofs

/-- junto/juntoref12.Values -/
def r_ref12_Values : RFn := ⟨88,
  .ghost 120 <|
  .seq (.reg [] [
    ⟨(some 4), none, .box 104 39 (.t 1)⟩,
    ⟨(some 6), none, .mv (.c (.slice none 0 0))⟩]) <|
  .keep [0, 2, 4] <|
  .seq (.reg [] [
    ⟨(some 7), none, .mv (.c (.slice none 0 0))⟩]) <|
  .keep [0, 2, 4, 7] <|
  .seq (.seq (.reg [] [
    ⟨(some 11), none, .fad 1 (.t 4)⟩,
    ⟨(some 12), none, .ld none (some (104, 0)) (.t 11)⟩,
    ⟨(some 13), none, .len (.t 12)⟩,
    ⟨(some 14), none, .mv (.c (.int .i64 0))⟩]) <|
  .keep [0, 2, 7, 12, 13, 14] <|
  .block 0 <|
  .loop [0, 2, 7, 12, 13, 14] [120, 104, 1000000] <|
  .seq (.reg [] [
    ⟨(some 15), none, .bin .lss (.t 14) (.t 13)⟩]) <|
  .keep [0, 2, 7, 12, 13, 14, 15] <|
  .seq (.cond (.t 15)
    (.skip)
    (.exit 0)) <|
  .keep [0, 2, 7, 12, 13, 14] <|
  .seq (.block 1 <|
  .seq (.reg [] [
    ⟨(some 16), none, .iad 4 (.t 12) (.t 14)⟩,
    ⟨(some 17), none, .ld (some 4) none (.t 16)⟩,
    ⟨(some 9), none, .new 109 33 [(.int .i64 0), (.int .i64 0), (.int .i64 0), (.int .u64 0)]⟩,
    ⟨none, none, .st 4 109 0 (.t 9) (.t 17)⟩]) <|
  .keep [0, 2, 7, 9, 12, 13, 14] <|
  .seq (.reg [] [
    ⟨(some 18), none, .fad 3 (.t 9)⟩,
    ⟨(some 19), none, .ld none (some (109, 0)) (.t 18)⟩,
    ⟨(some 10), none, .mv (.t 19)⟩]) <|
  .keep [0, 2, 7, 9, 10, 12, 13, 14] <|
  .seq (.seq (.reg [] [
    ⟨(some 20), none, .fad 0 (.t 9)⟩,
    ⟨(some 21), none, .ld none (some (109, 0)) (.t 20)⟩]) <|
  .keep [0, 2, 7, 9, 10, 12, 13, 14, 21] <|
  .block 2 <|
  .seq (.reg [] [
    ⟨(some 23), none, .bin .eql (.t 21) (.c (.int .i64 1))⟩,
    ⟨(some 22), none, .mv (.t 23)⟩]) <|
  .keep [0, 2, 7, 9, 10, 12, 13, 14, 21, 22] <|
  .cond (.t 22)
    (.reg [] [
      ⟨(some 24), none, .mv (.t 2)⟩,
      ⟨(some 25), none, .fad 1 (.t 9)⟩,
      ⟨(some 26), none, .ld none (some (109, 0)) (.t 25)⟩,
      ⟨(some 27), none, .iad 1 (.t 24) (.t 26)⟩,
      ⟨(some 28), none, .ld none none (.t 27)⟩,
      ⟨(some 10), none, .mv (.t 28)⟩])
    (.seq (.reg [] [
      ⟨(some 30), none, .bin .eql (.t 21) (.c (.int .i64 3))⟩,
      ⟨(some 29), none, .mv (.t 30)⟩]) <|
    .keep [0, 2, 7, 9, 10, 12, 13, 14, 21, 29] <|
    .cond (.t 29)
      (.dreg [] <|
        .take 0 ⟨(some 31), none, .mv (.t 0)⟩ <|
        .take 1 ⟨(some 32), none, .mv (.t 7)⟩ <|
        .take 2 ⟨(some 33), none, .fad 1 (.t 9)⟩ <|
        .take 6 ⟨(some 37), none, .mv (.t 7)⟩ <|
        .take 7 ⟨(some 38), none, .fad 2 (.t 9)⟩ <|
        .held 3 ⟨(some 34), none, .ld none (some (109, 0)) (.t 33)⟩ <|
        .take 4 ⟨(some 35), none, .iad 1 (.t 32) (.t 34)⟩ <|
        .held 5 ⟨(some 36), none, .ld none none (.t 35)⟩ <|
        .exec [] 8 ⟨(some 39), none, .ld none (some (109, 0)) (.t 38)⟩ <|
        .exec [] 9 ⟨(some 40), none, .iad 1 (.t 37) (.t 39)⟩ <|
        .exec [] 10 ⟨(some 41), none, .ld none none (.t 40)⟩ <|
        .exec [] 11 ⟨(some 42), none, .call [] [] 41 [(.t 31), (.t 36), (.t 41)]⟩ <|
        .exec [] 12 ⟨(some 10), none, .mv (.t 42)⟩ <|
        .done)
      (.seq (.reg [] [
        ⟨(some 44), none, .bin .eql (.t 21) (.c (.int .i64 4))⟩,
        ⟨(some 43), none, .mv (.t 44)⟩]) <|
      .keep [0, 2, 7, 9, 10, 12, 13, 14, 21, 43] <|
      .cond (.t 43)
        (.dreg [] <|
          .take 0 ⟨(some 45), none, .mv (.t 0)⟩ <|
          .take 1 ⟨(some 46), none, .mv (.t 7)⟩ <|
          .take 2 ⟨(some 47), none, .fad 1 (.t 9)⟩ <|
          .take 6 ⟨(some 51), none, .mv (.t 7)⟩ <|
          .take 7 ⟨(some 52), none, .fad 2 (.t 9)⟩ <|
          .held 3 ⟨(some 48), none, .ld none (some (109, 0)) (.t 47)⟩ <|
          .take 4 ⟨(some 49), none, .iad 1 (.t 46) (.t 48)⟩ <|
          .held 5 ⟨(some 50), none, .ld none none (.t 49)⟩ <|
          .exec [] 8 ⟨(some 53), none, .ld none (some (109, 0)) (.t 52)⟩ <|
          .exec [] 9 ⟨(some 54), none, .iad 1 (.t 51) (.t 53)⟩ <|
          .exec [] 10 ⟨(some 55), none, .ld none none (.t 54)⟩ <|
          .exec [] 11 ⟨(some 56), none, .call [] [] 42 [(.t 45), (.t 50), (.t 55)]⟩ <|
          .exec [] 12 ⟨(some 10), none, .mv (.t 56)⟩ <|
          .done)
        (.seq (.reg [] [
          ⟨(some 58), none, .bin .eql (.t 21) (.c (.int .i64 5))⟩,
          ⟨(some 57), none, .mv (.t 58)⟩]) <|
        .keep [0, 2, 7, 9, 10, 12, 13, 14, 21, 57] <|
        .cond (.t 57)
          (.dreg [] <|
            .take 0 ⟨(some 59), none, .mv (.t 0)⟩ <|
            .take 1 ⟨(some 60), none, .mv (.t 7)⟩ <|
            .take 2 ⟨(some 61), none, .fad 1 (.t 9)⟩ <|
            .take 6 ⟨(some 65), none, .mv (.t 7)⟩ <|
            .take 7 ⟨(some 66), none, .fad 2 (.t 9)⟩ <|
            .held 3 ⟨(some 62), none, .ld none (some (109, 0)) (.t 61)⟩ <|
            .take 4 ⟨(some 63), none, .iad 1 (.t 60) (.t 62)⟩ <|
            .held 5 ⟨(some 64), none, .ld none none (.t 63)⟩ <|
            .exec [] 8 ⟨(some 67), none, .ld none (some (109, 0)) (.t 66)⟩ <|
            .exec [] 9 ⟨(some 68), none, .iad 1 (.t 65) (.t 67)⟩ <|
            .exec [] 10 ⟨(some 69), none, .ld none none (.t 68)⟩ <|
            .exec [] 11 ⟨(some 70), none, .call [] [] 43 [(.t 59), (.t 64), (.t 69)]⟩ <|
            .exec [] 12 ⟨(some 10), none, .mv (.t 70)⟩ <|
            .done)
          (.seq (.reg [] [
            ⟨(some 72), none, .bin .eql (.t 21) (.c (.int .i64 6))⟩,
            ⟨(some 71), none, .mv (.t 72)⟩]) <|
          .keep [0, 2, 7, 9, 10, 12, 13, 14, 71] <|
          .cond (.t 71)
            (.dreg [] <|
              .take 0 ⟨(some 73), none, .mv (.t 0)⟩ <|
              .take 1 ⟨(some 74), none, .mv (.t 7)⟩ <|
              .take 2 ⟨(some 75), none, .fad 1 (.t 9)⟩ <|
              .take 6 ⟨(some 79), none, .fad 3 (.t 9)⟩ <|
              .held 3 ⟨(some 76), none, .ld none (some (109, 0)) (.t 75)⟩ <|
              .take 4 ⟨(some 77), none, .iad 1 (.t 74) (.t 76)⟩ <|
              .held 5 ⟨(some 78), none, .ld none none (.t 77)⟩ <|
              .exec [] 7 ⟨(some 80), none, .ld none (some (109, 0)) (.t 79)⟩ <|
              .exec [] 8 ⟨(some 81), none, .call [] [] 43 [(.t 73), (.t 78), (.t 80)]⟩ <|
              .exec [] 9 ⟨(some 10), none, .mv (.t 81)⟩ <|
              .done)
            (.skip)))))) <|
  .keep [0, 2, 7, 10, 12, 13, 14] <|
  .reg [] [
    ⟨(some 82), none, .mv (.t 7)⟩,
    ⟨(some 83), none, .mv (.t 10)⟩,
    ⟨(some 84), none, .bsl none 26 1 1 [(.int .u64 0)] [(0, 1)] [(0, (.t 83))]⟩,
    ⟨(some 85), none, .app (some 120) 120 26 1 8 (.t 82) (.t 84)⟩,
    ⟨(some 7), none, .mv (.t 85)⟩]) <|
  .keep [0, 2, 7, 12, 13, 14] <|
  .reg [] [
    ⟨(some 86), none, .bin .add (.t 14) (.c (.int .i64 1))⟩,
    ⟨(some 14), none, .mv (.t 86)⟩]) <|
  .keep [7] <|
  .seq (.reg [] [
    ⟨(some 87), none, .mv (.t 7)⟩,
    ⟨(some 6), none, .mv (.t 87)⟩]) <|
  .ret,
  [.tmp 6], [], []⟩

theorem k_ref12_Values : rbFn Try.prog 20 r_ref12_Values = some r_ref12_Values := by kernel_rfl


/-- The value of one gate, from those of the gates ahead of it. -/
def gval (p : Nat) (ins vs : List Nat) (g : Gate) : Nat :=
  if g.kind = 1 then at0 ins g.a
  else if g.kind = 3 then (at0 vs g.a + at0 vs g.b) % p
  else if g.kind = 4 then (at0 vs g.a + p - at0 vs g.b) % p
  else if g.kind = 5 then at0 vs g.a * at0 vs g.b % p
  else if g.kind = 6 then at0 vs g.a * g.k % p
  else g.k
def valsA (p : Nat) (ins : List Nat) : List Nat → List Gate → List Nat
  | vs, [] => vs
  | vs, g :: r => valsA p ins (vs ++ [gval p ins vs g]) r
def valsG (p : Nat) (ins : List Nat) (gs : List Gate) : List Nat := valsA p ins [] gs
theorem at0_lt {p : Nat} {vs : List Nat} (h : ∀ x ∈ vs, x < p) (hp : 0 < p) (k : Int) : at0 vs k < p := by
  unfold at0
  by_cases hk : k.toNat < vs.length
  · simp only [List.getD_eq_getElem?_getD, List.getElem?_eq_getElem hk, Option.getD_some]; exact h _ (List.getElem_mem hk)
  · simp only [List.getD_eq_getElem?_getD, List.getElem?_eq_none (Nat.le_of_not_lt hk), Option.getD_none]; exact hp
theorem gateErr_ok {p slots at_ : Nat} {g : Gate} (h : gateErr p slots at_ g = 0) : (1 ≤ g.kind ∧ g.kind ≤ 6) ∧ (g.kind = 1 → 0 ≤ g.a ∧ g.a < slots) ∧ (3 ≤ g.kind → 0 ≤ g.a ∧ g.a < at_) ∧ (3 ≤ g.kind → g.kind ≤ 5 → 0 ≤ g.b ∧ g.b < at_) ∧ g.k < p := by
  unfold gateErr at h
  by_cases h1 : 1 ≤ g.kind ∧ g.kind ≤ 6
  · rw [if_neg (by simpa using h1)] at h
    by_cases h2 : (g.kind = 2 ∧ g.a ≠ 0) ∨ (¬(3 ≤ g.kind ∧ g.kind ≤ 5) ∧ g.b ≠ 0) ∨ (¬(g.kind = 2 ∨ g.kind = 6) ∧ g.k ≠ 0)
    · rw [if_pos h2] at h; omega
    rw [if_neg h2] at h
    by_cases h3 : (g.kind = 1 ∧ ¬(0 ≤ g.a ∧ g.a < slots)) ∨ (3 ≤ g.kind ∧ ¬(0 ≤ g.a ∧ g.a < at_)) ∨ (3 ≤ g.kind ∧ g.kind ≤ 5 ∧ ¬(0 ≤ g.b ∧ g.b < at_))
    · rw [if_pos h3] at h; omega
    rw [if_neg h3] at h
    by_cases h4 : p ≤ g.k
    · rw [if_pos h4] at h; omega
    exact ⟨h1, by omega, by omega, by omega, by omega⟩
  · rw [if_pos h1] at h; omega
theorem encN_snoc (l : List Nat) (x : Nat) : encN (l ++ [x]) = encN l ++ [[.int .u64 (x : Int)]] := by simp [encN]
theorem ownS_slN {G : GH} {e : TypeId} {v : Value} {l : List Nat} {es : List Ent} (h : OwnS G e 1 v (encN l).flatten es) : SlN G v l := by
  obtain ⟨a, c, rfl, h1, h2, h3⟩ := h.row (encN_len l) (by omega)
  rw [encN_length] at *
  exact ⟨a, c, rfl, h1, h2, h3⟩
theorem nat_one (k : Nat) : ∀ u ∈ ([[Value.int .u64 (k : Int)]] : List (List Value)).flatten, u.oneCell' = true := by simp; rfl

set_option maxHeartbeats 2000000 in
set_option maxRecDepth 20000 in
theorem c_Values {p : Nat} {v u : Value} {c : Circ} {ins : List Nat} {G : GH} (hv : CircV G v c) (hu : SlN G u ins) (hm : c.gates.length ≤ 65536) (hp : 0 < p) (h16 : p ≤ 65537) (hil : ∀ x ∈ ins, x < p)
    (hok : gatesErr p ins.length 0 c.gates = 0) :
    ACalls Try.prog 20 [.int .u64 p, v, u] G [] fun o G' Es' => ∃ x, o = .ret x ∧ SlN G' x (valsG p ins c.gates) ∧ Es' = [] := by
  obtain ⟨v1, v2, v3, rfl, ⟨a1, c1, rfl, hs1, hs2, hs⟩, ⟨a2, c2, rfl, hg1, hg2, hgt⟩, hx⟩ := hv
  obtain ⟨a3, c3, rfl⟩ := hx.len
  obtain ⟨au, cu, rfl, hu1, hu2, hrow⟩ := hu
  refine acalls mixed k_ref12_Values (by simp) fun F => ?_
  simp only [GV, frArgs, memArgs, resV, fillL, ← Bool.decide_or, ← Bool.decide_and, ← decide_not, ↓reduceIte, Nat.reduceEqDiff, Nat.reduceAdd, Nat.reduceMul, Nat.reduceLeDiff, Nat.reduceLT, Nat.reduceSub, Nat.succ_ne_zero, Nat.one_ne_zero, Nat.zero_ne_one, true_implies, false_implies, forall_const, implies_true, reduceCtorEq, eq_self, ite_true, ite_false, decide_true, decide_false, Nat.le_refl, Bool.false_eq_true, if_true, if_false]
  intro bc
  refine loop_intro (fun n fr G' M => ∃ (i : Nat) (vs : List Nat) (v7 : Value) (es : List Ent), n = c.gates.length - i ∧ i ≤ c.gates.length ∧ vs.length = i ∧ (∀ x ∈ vs, x < p) ∧ gatesErr p ins.length i (c.gates.drop i) = 0 ∧
    valsA p ins vs (c.gates.drop i) = valsG p ins c.gates ∧ OwnS G' 26 1 v7 (encN vs).flatten es ∧ GLe G G' ∧
    fr = [(0, true, .int .u64 p), (2, true, .slice au ins.length cu), (7, true, v7), (12, true, .slice a2 c.gates.length c2), (13, true, .int .i64 c.gates.length), (14, true, .int .i64 i)] ∧
    M = [(120, es), (104, [.var bc 39 [.slice a1 c.slots.length c1, .slice a2 c.gates.length c2, .slice a3 c.exits.length c3]]), (1000000, F)]) c.gates.length
    ⟨0, [], _, [], by simp, by simp, rfl, by simp, by simpa using hok, by simp [valsG], OwnS.nil _ _ _, GLe.refl _, rfl, rfl⟩ ?_
  rintro n fr G1 M - ⟨i, vs, v7, es, rfl, hi, hvl, hvs, hge, hmod, hown, hg0, rfl, rfl⟩
  simp only [GV, frArgs, memArgs, resV, fillL, ← Bool.decide_or, ← Bool.decide_and, ← decide_not, ↓reduceIte, Nat.reduceEqDiff, Nat.reduceAdd, Nat.reduceMul, Nat.reduceLeDiff, Nat.reduceLT, Nat.reduceSub, Nat.succ_ne_zero, Nat.one_ne_zero, Nat.zero_ne_one, true_implies, false_implies, forall_const, implies_true, reduceCtorEq, eq_self, ite_true, ite_false, decide_true, decide_false, Nat.le_refl, Bool.false_eq_true, if_true, if_false]
  refine cond_dec (fun h => ?_) (fun h => ?_)
  · have hlt : i < c.gates.length := by omega
    obtain ⟨b, o, rfl, hxa⟩ := RowE.get (hgt.mono hg0) hlt
    rw [List.drop_eq_getElem_cons hlt] at hge hmod
    have hg1e : gateErr p ins.length i c.gates[i] = 0 := by
      rw [gatesErr] at hge
      by_cases h5 : gateErr p ins.length i c.gates[i] ≠ 0
      · rw [if_pos h5] at hge; exact hge
      · exact Decidable.not_not.1 h5
    have hg2e : gatesErr p ins.length (i + 1) (c.gates.drop (i + 1)) = 0 := by
      rw [gatesErr, if_neg (by simp [hg1e])] at hge; exact hge
    rw [valsA] at hmod
    generalize c.gates[i] = g at hxa hg1e hmod
    obtain ⟨hk, ha1, ha2, hb2, hkp⟩ := gateErr_ok hg1e
    obtain ⟨av, cv, rfl, hcv1, hcv2, hvrow⟩ := ownS_slN hown
    have hinsl := at0_lt hil hp g.a
    have hva := at0_lt hvs hp g.a
    have hvb := at0_lt hvs hp g.b
    simp only [GV, frArgs, memArgs, resV, fillL, ← Bool.decide_or, ← Bool.decide_and, ← decide_not, ↓reduceIte, Nat.reduceEqDiff, Nat.reduceAdd, Nat.reduceMul, Nat.reduceLeDiff, Nat.reduceLT, Nat.reduceSub, Nat.succ_ne_zero, Nat.one_ne_zero, Nat.zero_ne_one, true_implies, false_implies, forall_const, implies_true, reduceCtorEq, eq_self, ite_true, ite_false, decide_true, decide_false, Nat.le_refl, Bool.false_eq_true, if_true, if_false, hxa, Gate.enc]
    refine ⟨by omega, fun b2 => ?_⟩
    refine cond_dec (fun h1 => ?_) (fun h1 => ?_)
    · obtain ⟨bi, oi, rfl, hx1⟩ := RowN.at hrow (ha1 h1).1 (ha1 h1).2
      replace hx1 := hg0 _ _ _ hx1
      simp only [GV, frArgs, memArgs, resV, fillL, ← Bool.decide_or, ← Bool.decide_and, ← decide_not, ↓reduceIte, Nat.reduceEqDiff, Nat.reduceAdd, Nat.reduceMul, Nat.reduceLeDiff, Nat.reduceLT, Nat.reduceSub, Nat.succ_ne_zero, Nat.one_ne_zero, Nat.zero_ne_one, true_implies, false_implies, forall_const, implies_true, reduceCtorEq, eq_self, ite_true, ite_false, decide_true, decide_false, Nat.le_refl, Bool.false_eq_true, if_true, if_false, hx1, Nat.mul_one]
      refine ⟨⟨(ha1 h1).1, by have := (ha1 h1).2; omega⟩, ?_⟩
      refine bsl_intro fun b5 G2 hg2 hc5 => ?_
      simp only [GV, frArgs, memArgs, resV, fillL, ← Bool.decide_or, ← Bool.decide_and, ← decide_not, ↓reduceIte, Nat.reduceEqDiff, Nat.reduceAdd, Nat.reduceMul, Nat.reduceLeDiff, Nat.reduceLT, Nat.reduceSub, Nat.succ_ne_zero, Nat.one_ne_zero, Nat.zero_ne_one, true_implies, false_implies, forall_const, implies_true, reduceCtorEq, eq_self, ite_true, ite_false, decide_true, decide_false, Nat.le_refl, Bool.false_eq_true, if_true, if_false]
      refine app_moreN rfl (hown.mono hg2) (encN_len _) (row_one hc5 rfl) rfl (nat_one _) (by rw [encN_length]; omega) (fun v' es' G3 hg3 ho => ?_)
      rw [← encN_snoc] at ho
      simp only [GV, frArgs, memArgs, resV, fillL, ← Bool.decide_or, ← Bool.decide_and, ← decide_not, ↓reduceIte, Nat.reduceEqDiff, Nat.reduceAdd, Nat.reduceMul, Nat.reduceLeDiff, Nat.reduceLT, Nat.reduceSub, Nat.succ_ne_zero, Nat.one_ne_zero, Nat.zero_ne_one, true_implies, false_implies, forall_const, implies_true, reduceCtorEq, eq_self, ite_true, ite_false, decide_true, decide_false, Nat.le_refl, Bool.false_eq_true, if_true, if_false, wrapn (show i < maxLen by omega)]
      refine ⟨c.gates.length - (i + 1), by omega, i + 1, _, v', es', rfl, by omega, by simp [hvl], ?_, hg2e, ?_, ho, hg0.trans (hg2.trans hg3), rfl, rfl⟩
      · intro x hx
        rcases List.mem_append.1 hx with hx | hx
        · exact hvs x hx
        · rw [List.mem_singleton] at hx; subst hx; exact hinsl
      · rw [← hmod]; congr 3; simp only [gval]; rw [if_pos h1]
    simp only [GV, frArgs, memArgs, resV, fillL, ← Bool.decide_or, ← Bool.decide_and, ← decide_not, ↓reduceIte, Nat.reduceEqDiff, Nat.reduceAdd, Nat.reduceMul, Nat.reduceLeDiff, Nat.reduceLT, Nat.reduceSub, Nat.succ_ne_zero, Nat.one_ne_zero, Nat.zero_ne_one, true_implies, false_implies, forall_const, implies_true, reduceCtorEq, eq_self, ite_true, ite_false, decide_true, decide_false, Nat.le_refl, Bool.false_eq_true, if_true, if_false]
    refine cond_dec (fun h3 => ?_) (fun h3 => ?_)
    · have hbb := hb2 (by omega) (by omega)
      have haa := ha2 (by omega)
      rw [← hvl] at haa hbb
      obtain ⟨bi, oi, rfl, hx1⟩ := RowN.at hvrow haa.1 haa.2
      obtain ⟨bj, oj, hbj, hx2⟩ := RowN.at hvrow hbb.1 hbb.2
      cases hbj
      simp only [GV, frArgs, memArgs, resV, fillL, ← Bool.decide_or, ← Bool.decide_and, ← decide_not, ↓reduceIte, Nat.reduceEqDiff, Nat.reduceAdd, Nat.reduceMul, Nat.reduceLeDiff, Nat.reduceLT, Nat.reduceSub, Nat.succ_ne_zero, Nat.one_ne_zero, Nat.zero_ne_one, true_implies, false_implies, forall_const, implies_true, reduceCtorEq, eq_self, ite_true, ite_false, decide_true, decide_false, Nat.le_refl, Bool.false_eq_true, if_true, if_false, hx1, hx2, Nat.mul_one]
      refine ⟨by omega, ?_⟩
      refine ⟨by omega, ?_⟩
      refine (c_Add (by omega) (by omega)).mono ?_
      rintro o G1 Es hg ⟨rfl, rfl, rfl⟩
      simp only [GV, frArgs, memArgs, resV, fillL, ← Bool.decide_or, ← Bool.decide_and, ← decide_not, ↓reduceIte, Nat.reduceEqDiff, Nat.reduceAdd, Nat.reduceMul, Nat.reduceLeDiff, Nat.reduceLT, Nat.reduceSub, Nat.succ_ne_zero, Nat.one_ne_zero, Nat.zero_ne_one, true_implies, false_implies, forall_const, implies_true, reduceCtorEq, eq_self, ite_true, ite_false, decide_true, decide_false, Nat.le_refl, Bool.false_eq_true, if_true, if_false, hx1, hx2]
      refine bsl_intro fun b5 G2 hg2 hc5 => ?_
      simp only [GV, frArgs, memArgs, resV, fillL, ← Bool.decide_or, ← Bool.decide_and, ← decide_not, ↓reduceIte, Nat.reduceEqDiff, Nat.reduceAdd, Nat.reduceMul, Nat.reduceLeDiff, Nat.reduceLT, Nat.reduceSub, Nat.succ_ne_zero, Nat.one_ne_zero, Nat.zero_ne_one, true_implies, false_implies, forall_const, implies_true, reduceCtorEq, eq_self, ite_true, ite_false, decide_true, decide_false, Nat.le_refl, Bool.false_eq_true, if_true, if_false]
      refine app_moreN rfl (hown.mono hg2) (encN_len _) (row_one hc5 rfl) rfl (nat_one _) (by rw [encN_length]; omega) (fun v' es' G3 hg3 ho => ?_)
      rw [← encN_snoc] at ho
      simp only [GV, frArgs, memArgs, resV, fillL, ← Bool.decide_or, ← Bool.decide_and, ← decide_not, ↓reduceIte, Nat.reduceEqDiff, Nat.reduceAdd, Nat.reduceMul, Nat.reduceLeDiff, Nat.reduceLT, Nat.reduceSub, Nat.succ_ne_zero, Nat.one_ne_zero, Nat.zero_ne_one, true_implies, false_implies, forall_const, implies_true, reduceCtorEq, eq_self, ite_true, ite_false, decide_true, decide_false, Nat.le_refl, Bool.false_eq_true, if_true, if_false, wrapn (show i < maxLen by omega)]
      refine ⟨c.gates.length - (i + 1), by omega, i + 1, _, v', es', rfl, by omega, by simp [hvl], ?_, hg2e, ?_, ho, hg0.trans (hg2.trans hg3), rfl, rfl⟩
      · intro x hx
        rcases List.mem_append.1 hx with hx | hx
        · exact hvs x hx
        · rw [List.mem_singleton] at hx; subst hx; exact Nat.mod_lt _ hp
      · rw [← hmod]; congr 3; simp only [gval]; rw [if_neg h1, if_pos h3]
    simp only [GV, frArgs, memArgs, resV, fillL, ← Bool.decide_or, ← Bool.decide_and, ← decide_not, ↓reduceIte, Nat.reduceEqDiff, Nat.reduceAdd, Nat.reduceMul, Nat.reduceLeDiff, Nat.reduceLT, Nat.reduceSub, Nat.succ_ne_zero, Nat.one_ne_zero, Nat.zero_ne_one, true_implies, false_implies, forall_const, implies_true, reduceCtorEq, eq_self, ite_true, ite_false, decide_true, decide_false, Nat.le_refl, Bool.false_eq_true, if_true, if_false]
    refine cond_dec (fun h4 => ?_) (fun h4 => ?_)
    · have hbb := hb2 (by omega) (by omega)
      have haa := ha2 (by omega)
      rw [← hvl] at haa hbb
      obtain ⟨bi, oi, rfl, hx1⟩ := RowN.at hvrow haa.1 haa.2
      obtain ⟨bj, oj, hbj, hx2⟩ := RowN.at hvrow hbb.1 hbb.2
      cases hbj
      simp only [GV, frArgs, memArgs, resV, fillL, ← Bool.decide_or, ← Bool.decide_and, ← decide_not, ↓reduceIte, Nat.reduceEqDiff, Nat.reduceAdd, Nat.reduceMul, Nat.reduceLeDiff, Nat.reduceLT, Nat.reduceSub, Nat.succ_ne_zero, Nat.one_ne_zero, Nat.zero_ne_one, true_implies, false_implies, forall_const, implies_true, reduceCtorEq, eq_self, ite_true, ite_false, decide_true, decide_false, Nat.le_refl, Bool.false_eq_true, if_true, if_false, hx1, hx2, Nat.mul_one]
      refine ⟨by omega, ?_⟩
      refine ⟨by omega, ?_⟩
      refine (c_Sub (by omega) (by omega) (by omega)).mono ?_
      rintro o G1 Es hg ⟨rfl, rfl, rfl⟩
      simp only [GV, frArgs, memArgs, resV, fillL, ← Bool.decide_or, ← Bool.decide_and, ← decide_not, ↓reduceIte, Nat.reduceEqDiff, Nat.reduceAdd, Nat.reduceMul, Nat.reduceLeDiff, Nat.reduceLT, Nat.reduceSub, Nat.succ_ne_zero, Nat.one_ne_zero, Nat.zero_ne_one, true_implies, false_implies, forall_const, implies_true, reduceCtorEq, eq_self, ite_true, ite_false, decide_true, decide_false, Nat.le_refl, Bool.false_eq_true, if_true, if_false, hx1, hx2]
      refine bsl_intro fun b5 G2 hg2 hc5 => ?_
      simp only [GV, frArgs, memArgs, resV, fillL, ← Bool.decide_or, ← Bool.decide_and, ← decide_not, ↓reduceIte, Nat.reduceEqDiff, Nat.reduceAdd, Nat.reduceMul, Nat.reduceLeDiff, Nat.reduceLT, Nat.reduceSub, Nat.succ_ne_zero, Nat.one_ne_zero, Nat.zero_ne_one, true_implies, false_implies, forall_const, implies_true, reduceCtorEq, eq_self, ite_true, ite_false, decide_true, decide_false, Nat.le_refl, Bool.false_eq_true, if_true, if_false]
      refine app_moreN rfl (hown.mono hg2) (encN_len _) (row_one hc5 rfl) rfl (nat_one _) (by rw [encN_length]; omega) (fun v' es' G3 hg3 ho => ?_)
      rw [← encN_snoc] at ho
      simp only [GV, frArgs, memArgs, resV, fillL, ← Bool.decide_or, ← Bool.decide_and, ← decide_not, ↓reduceIte, Nat.reduceEqDiff, Nat.reduceAdd, Nat.reduceMul, Nat.reduceLeDiff, Nat.reduceLT, Nat.reduceSub, Nat.succ_ne_zero, Nat.one_ne_zero, Nat.zero_ne_one, true_implies, false_implies, forall_const, implies_true, reduceCtorEq, eq_self, ite_true, ite_false, decide_true, decide_false, Nat.le_refl, Bool.false_eq_true, if_true, if_false, wrapn (show i < maxLen by omega)]
      refine ⟨c.gates.length - (i + 1), by omega, i + 1, _, v', es', rfl, by omega, by simp [hvl], ?_, hg2e, ?_, ho, hg0.trans (hg2.trans hg3), rfl, rfl⟩
      · intro x hx
        rcases List.mem_append.1 hx with hx | hx
        · exact hvs x hx
        · rw [List.mem_singleton] at hx; subst hx; exact Nat.mod_lt _ hp
      · rw [← hmod]; congr 3; simp only [gval]; rw [if_neg h1, if_neg h3, if_pos h4]
    simp only [GV, frArgs, memArgs, resV, fillL, ← Bool.decide_or, ← Bool.decide_and, ← decide_not, ↓reduceIte, Nat.reduceEqDiff, Nat.reduceAdd, Nat.reduceMul, Nat.reduceLeDiff, Nat.reduceLT, Nat.reduceSub, Nat.succ_ne_zero, Nat.one_ne_zero, Nat.zero_ne_one, true_implies, false_implies, forall_const, implies_true, reduceCtorEq, eq_self, ite_true, ite_false, decide_true, decide_false, Nat.le_refl, Bool.false_eq_true, if_true, if_false]
    refine cond_dec (fun h5 => ?_) (fun h5 => ?_)
    · have hbb := hb2 (by omega) (by omega)
      have haa := ha2 (by omega)
      rw [← hvl] at haa hbb
      obtain ⟨bi, oi, rfl, hx1⟩ := RowN.at hvrow haa.1 haa.2
      obtain ⟨bj, oj, hbj, hx2⟩ := RowN.at hvrow hbb.1 hbb.2
      cases hbj
      simp only [GV, frArgs, memArgs, resV, fillL, ← Bool.decide_or, ← Bool.decide_and, ← decide_not, ↓reduceIte, Nat.reduceEqDiff, Nat.reduceAdd, Nat.reduceMul, Nat.reduceLeDiff, Nat.reduceLT, Nat.reduceSub, Nat.succ_ne_zero, Nat.one_ne_zero, Nat.zero_ne_one, true_implies, false_implies, forall_const, implies_true, reduceCtorEq, eq_self, ite_true, ite_false, decide_true, decide_false, Nat.le_refl, Bool.false_eq_true, if_true, if_false, hx1, hx2, Nat.mul_one]
      refine ⟨by omega, ?_⟩
      refine ⟨by omega, ?_⟩
      refine (c_Mul (by omega) (mul_small (by omega) (by omega))).mono ?_
      rintro o G1 Es hg ⟨rfl, rfl, rfl⟩
      simp only [GV, frArgs, memArgs, resV, fillL, ← Bool.decide_or, ← Bool.decide_and, ← decide_not, ↓reduceIte, Nat.reduceEqDiff, Nat.reduceAdd, Nat.reduceMul, Nat.reduceLeDiff, Nat.reduceLT, Nat.reduceSub, Nat.succ_ne_zero, Nat.one_ne_zero, Nat.zero_ne_one, true_implies, false_implies, forall_const, implies_true, reduceCtorEq, eq_self, ite_true, ite_false, decide_true, decide_false, Nat.le_refl, Bool.false_eq_true, if_true, if_false, hx1, hx2]
      refine bsl_intro fun b5 G2 hg2 hc5 => ?_
      simp only [GV, frArgs, memArgs, resV, fillL, ← Bool.decide_or, ← Bool.decide_and, ← decide_not, ↓reduceIte, Nat.reduceEqDiff, Nat.reduceAdd, Nat.reduceMul, Nat.reduceLeDiff, Nat.reduceLT, Nat.reduceSub, Nat.succ_ne_zero, Nat.one_ne_zero, Nat.zero_ne_one, true_implies, false_implies, forall_const, implies_true, reduceCtorEq, eq_self, ite_true, ite_false, decide_true, decide_false, Nat.le_refl, Bool.false_eq_true, if_true, if_false]
      refine app_moreN rfl (hown.mono hg2) (encN_len _) (row_one hc5 rfl) rfl (nat_one _) (by rw [encN_length]; omega) (fun v' es' G3 hg3 ho => ?_)
      rw [← encN_snoc] at ho
      simp only [GV, frArgs, memArgs, resV, fillL, ← Bool.decide_or, ← Bool.decide_and, ← decide_not, ↓reduceIte, Nat.reduceEqDiff, Nat.reduceAdd, Nat.reduceMul, Nat.reduceLeDiff, Nat.reduceLT, Nat.reduceSub, Nat.succ_ne_zero, Nat.one_ne_zero, Nat.zero_ne_one, true_implies, false_implies, forall_const, implies_true, reduceCtorEq, eq_self, ite_true, ite_false, decide_true, decide_false, Nat.le_refl, Bool.false_eq_true, if_true, if_false, wrapn (show i < maxLen by omega)]
      refine ⟨c.gates.length - (i + 1), by omega, i + 1, _, v', es', rfl, by omega, by simp [hvl], ?_, hg2e, ?_, ho, hg0.trans (hg2.trans hg3), rfl, rfl⟩
      · intro x hx
        rcases List.mem_append.1 hx with hx | hx
        · exact hvs x hx
        · rw [List.mem_singleton] at hx; subst hx; exact Nat.mod_lt _ hp
      · rw [← hmod]; congr 3; simp only [gval]; rw [if_neg h1, if_neg h3, if_neg h4, if_pos h5]
    simp only [GV, frArgs, memArgs, resV, fillL, ← Bool.decide_or, ← Bool.decide_and, ← decide_not, ↓reduceIte, Nat.reduceEqDiff, Nat.reduceAdd, Nat.reduceMul, Nat.reduceLeDiff, Nat.reduceLT, Nat.reduceSub, Nat.succ_ne_zero, Nat.one_ne_zero, Nat.zero_ne_one, true_implies, false_implies, forall_const, implies_true, reduceCtorEq, eq_self, ite_true, ite_false, decide_true, decide_false, Nat.le_refl, Bool.false_eq_true, if_true, if_false]
    refine cond_dec (fun h6 => ?_) (fun h6 => ?_)
    · have haa := ha2 (by omega)
      rw [← hvl] at haa
      obtain ⟨bi, oi, rfl, hx1⟩ := RowN.at hvrow haa.1 haa.2
      simp only [GV, frArgs, memArgs, resV, fillL, ← Bool.decide_or, ← Bool.decide_and, ← decide_not, ↓reduceIte, Nat.reduceEqDiff, Nat.reduceAdd, Nat.reduceMul, Nat.reduceLeDiff, Nat.reduceLT, Nat.reduceSub, Nat.succ_ne_zero, Nat.one_ne_zero, Nat.zero_ne_one, true_implies, false_implies, forall_const, implies_true, reduceCtorEq, eq_self, ite_true, ite_false, decide_true, decide_false, Nat.le_refl, Bool.false_eq_true, if_true, if_false, hx1, Nat.mul_one]
      refine ⟨by omega, ?_⟩
      refine (c_Mul (by omega) (mul_small (by omega) (by omega))).mono ?_
      rintro o G1 Es hg ⟨rfl, rfl, rfl⟩
      simp only [GV, frArgs, memArgs, resV, fillL, ← Bool.decide_or, ← Bool.decide_and, ← decide_not, ↓reduceIte, Nat.reduceEqDiff, Nat.reduceAdd, Nat.reduceMul, Nat.reduceLeDiff, Nat.reduceLT, Nat.reduceSub, Nat.succ_ne_zero, Nat.one_ne_zero, Nat.zero_ne_one, true_implies, false_implies, forall_const, implies_true, reduceCtorEq, eq_self, ite_true, ite_false, decide_true, decide_false, Nat.le_refl, Bool.false_eq_true, if_true, if_false, hx1]
      refine bsl_intro fun b5 G2 hg2 hc5 => ?_
      simp only [GV, frArgs, memArgs, resV, fillL, ← Bool.decide_or, ← Bool.decide_and, ← decide_not, ↓reduceIte, Nat.reduceEqDiff, Nat.reduceAdd, Nat.reduceMul, Nat.reduceLeDiff, Nat.reduceLT, Nat.reduceSub, Nat.succ_ne_zero, Nat.one_ne_zero, Nat.zero_ne_one, true_implies, false_implies, forall_const, implies_true, reduceCtorEq, eq_self, ite_true, ite_false, decide_true, decide_false, Nat.le_refl, Bool.false_eq_true, if_true, if_false]
      refine app_moreN rfl (hown.mono hg2) (encN_len _) (row_one hc5 rfl) rfl (nat_one _) (by rw [encN_length]; omega) (fun v' es' G3 hg3 ho => ?_)
      rw [← encN_snoc] at ho
      simp only [GV, frArgs, memArgs, resV, fillL, ← Bool.decide_or, ← Bool.decide_and, ← decide_not, ↓reduceIte, Nat.reduceEqDiff, Nat.reduceAdd, Nat.reduceMul, Nat.reduceLeDiff, Nat.reduceLT, Nat.reduceSub, Nat.succ_ne_zero, Nat.one_ne_zero, Nat.zero_ne_one, true_implies, false_implies, forall_const, implies_true, reduceCtorEq, eq_self, ite_true, ite_false, decide_true, decide_false, Nat.le_refl, Bool.false_eq_true, if_true, if_false, wrapn (show i < maxLen by omega)]
      refine ⟨c.gates.length - (i + 1), by omega, i + 1, _, v', es', rfl, by omega, by simp [hvl], ?_, hg2e, ?_, ho, hg0.trans (hg2.trans hg3), rfl, rfl⟩
      · intro x hx
        rcases List.mem_append.1 hx with hx | hx
        · exact hvs x hx
        · rw [List.mem_singleton] at hx; subst hx; exact Nat.mod_lt _ hp
      · rw [← hmod]; congr 3; simp only [gval]; rw [if_neg h1, if_neg h3, if_neg h4, if_neg h5, if_pos h6]
    · simp only [GV, frArgs, memArgs, resV, fillL, ← Bool.decide_or, ← Bool.decide_and, ← decide_not, ↓reduceIte, Nat.reduceEqDiff, Nat.reduceAdd, Nat.reduceMul, Nat.reduceLeDiff, Nat.reduceLT, Nat.reduceSub, Nat.succ_ne_zero, Nat.one_ne_zero, Nat.zero_ne_one, true_implies, false_implies, forall_const, implies_true, reduceCtorEq, eq_self, ite_true, ite_false, decide_true, decide_false, Nat.le_refl, Bool.false_eq_true, if_true, if_false]
      refine bsl_intro fun b5 G2 hg2 hc5 => ?_
      simp only [GV, frArgs, memArgs, resV, fillL, ← Bool.decide_or, ← Bool.decide_and, ← decide_not, ↓reduceIte, Nat.reduceEqDiff, Nat.reduceAdd, Nat.reduceMul, Nat.reduceLeDiff, Nat.reduceLT, Nat.reduceSub, Nat.succ_ne_zero, Nat.one_ne_zero, Nat.zero_ne_one, true_implies, false_implies, forall_const, implies_true, reduceCtorEq, eq_self, ite_true, ite_false, decide_true, decide_false, Nat.le_refl, Bool.false_eq_true, if_true, if_false]
      refine app_moreN rfl (hown.mono hg2) (encN_len _) (row_one hc5 rfl) rfl (nat_one _) (by rw [encN_length]; omega) (fun v' es' G3 hg3 ho => ?_)
      rw [← encN_snoc] at ho
      simp only [GV, frArgs, memArgs, resV, fillL, ← Bool.decide_or, ← Bool.decide_and, ← decide_not, ↓reduceIte, Nat.reduceEqDiff, Nat.reduceAdd, Nat.reduceMul, Nat.reduceLeDiff, Nat.reduceLT, Nat.reduceSub, Nat.succ_ne_zero, Nat.one_ne_zero, Nat.zero_ne_one, true_implies, false_implies, forall_const, implies_true, reduceCtorEq, eq_self, ite_true, ite_false, decide_true, decide_false, Nat.le_refl, Bool.false_eq_true, if_true, if_false, wrapn (show i < maxLen by omega)]
      refine ⟨c.gates.length - (i + 1), by omega, i + 1, _, v', es', rfl, by omega, by simp [hvl], ?_, hg2e, ?_, ho, hg0.trans (hg2.trans hg3), rfl, rfl⟩
      · intro x hx
        rcases List.mem_append.1 hx with hx | hx
        · exact hvs x hx
        · rw [List.mem_singleton] at hx; subst hx; exact hkp
      · rw [← hmod]; congr 3; simp only [gval]; rw [if_neg h1, if_neg h3, if_neg h4, if_neg h5, if_neg h6]
  · rw [List.drop_eq_nil_of_le (by omega), valsA] at hmod
    obtain ⟨a5, c5, rfl, hown2⟩ := ownS_slN hown
    simp only [GV, frArgs, memArgs, resV, fillL, ← Bool.decide_or, ← Bool.decide_and, ← decide_not, ↓reduceIte, Nat.reduceEqDiff, Nat.reduceAdd, Nat.reduceMul, Nat.reduceLeDiff, Nat.reduceLT, Nat.reduceSub, Nat.succ_ne_zero, Nat.one_ne_zero, Nat.zero_ne_one, true_implies, false_implies, forall_const, implies_true, reduceCtorEq, eq_self, ite_true, ite_false, decide_true, decide_false, Nat.le_refl, Bool.false_eq_true, if_true, if_false]
    rw [← hmod]
    exact ⟨_, rfl, a5, c5, rfl, hown2⟩
end Go.Gv.W
