/-
  An act that is read as data lies in memory as the contracts ask. No condition.
-/
import Derived.Test.YtokidokmcbkodaaGvWJoin
import Derived.Test.YtokidokmcbkodaaGvW30
namespace Go.Gv.W
set_option linter.unusedSimpArgs false
set_option linter.unusedVariables false
set_option linter.unusedSectionVars false
open Go.RowKit Go.Proofs Go.ChangeShapes Go.WideShapes Go.ChangeAt

theorem list_cons {α : Type} {n : Nat} : ∀ {l : List α}, l.length = n + 1 → ∃ a r, l = a :: r ∧ r.length = n
  | a :: r, h => ⟨a, r, rfl, by simpa using h⟩
  | [], h => by simp at h
set_option maxHeartbeats 1000000 in
set_option maxRecDepth 20000 in
theorem act_open {H : Type} {enc : TypeId × Value → H} {w : World} {base : Nat} {sp : Nat → Bool} {held : Bool} {cs : List Value} {fuel : Nat} {x : DataW H × List MemPlace}
    (h : DataW.trod enc Try.prog w base sp held fuel 58 cs = some x) : ∃ y, ActV (here w) (.agg cs.toArray) y ∧ y.k < 2 ^ 64 ∧ y.gate.k < 2 ^ 64 := by
  have z1 : Try.prog.cellsOf 3 = 1 := by kernel_rfl
  have z2 : Try.prog.cellsOf 4 = 1 := by kernel_rfl
  have z3 : Try.prog.cellsOf 26 = 1 := by kernel_rfl
  have z4 : Try.prog.cellsOf 44 = 1 := by kernel_rfl
  have z5 : Try.prog.cellsOf 30 = 2 := by kernel_rfl
  have z6 : Try.prog.cellsOf 33 = 4 := by kernel_rfl
  have z7 : Try.prog.cellsOf 56 = 2 := by kernel_rfl
  have z8 : Try.prog.cellsOf 58 = 15 := by kernel_rfl
  obtain ⟨xs, n, -, -, hl, hxl, hf⟩ := DataW.trod_struct Try.underlying58 h
  rw [z8] at hl
  have hxl2 : xs.length = 10 := hxl
  have hk0 := hl
  obtain ⟨c0, r0, rfl, hk1⟩ := list_cons hk0
  obtain ⟨c1, r1, rfl, hk2⟩ := list_cons hk1
  obtain ⟨c2, r2, rfl, hk3⟩ := list_cons hk2
  obtain ⟨c3, r3, rfl, hk4⟩ := list_cons hk3
  obtain ⟨c4, r4, rfl, hk5⟩ := list_cons hk4
  obtain ⟨c5, r5, rfl, hk6⟩ := list_cons hk5
  obtain ⟨c6, r6, rfl, hk7⟩ := list_cons hk6
  obtain ⟨c7, r7, rfl, hk8⟩ := list_cons hk7
  obtain ⟨c8, r8, rfl, hk9⟩ := list_cons hk8
  obtain ⟨c9, r9, rfl, hk10⟩ := list_cons hk9
  obtain ⟨c10, r10, rfl, hk11⟩ := list_cons hk10
  obtain ⟨c11, r11, rfl, hk12⟩ := list_cons hk11
  obtain ⟨c12, r12, rfl, hk13⟩ := list_cons hk12
  obtain ⟨c13, r13, rfl, hk14⟩ := list_cons hk13
  obtain ⟨c14, r14, rfl, hk15⟩ := list_cons hk14
  have hnil : r14 = [] := List.eq_nil_of_length_eq_zero hk15
  subst hnil
  have f0 : DataW.trod enc Try.prog w base sp held n 3 ((List.drop 0 [c0, c1, c2, c3, c4, c5, c6, c7, c8, c9, c10, c11, c12, c13, c14]).take (Try.prog.cellsOf 3)) = xs[0]? := hf 0 _ rfl
  rw [List.getElem?_eq_getElem (by rw [hxl2]; omega)] at f0
  simp only [z1, z2, z3, z4, z5, z6, z7, List.drop_zero, List.drop_succ_cons, List.take_succ_cons, List.take_zero] at f0
  obtain ⟨n0, e, -, n0w⟩ := DataW.trod_int Try.underlying3 f0
  cases e
  have f1 : DataW.trod enc Try.prog w base sp held n 3 ((List.drop 1 [.int .i64 n0, c1, c2, c3, c4, c5, c6, c7, c8, c9, c10, c11, c12, c13, c14]).take (Try.prog.cellsOf 3)) = xs[1]? := hf 1 _ rfl
  rw [List.getElem?_eq_getElem (by rw [hxl2]; omega)] at f1
  simp only [z1, z2, z3, z4, z5, z6, z7, List.drop_zero, List.drop_succ_cons, List.take_succ_cons, List.take_zero] at f1
  obtain ⟨n1, e, -, n1w⟩ := DataW.trod_int Try.underlying3 f1
  cases e
  have f2 : DataW.trod enc Try.prog w base sp held n 3 ((List.drop 2 [.int .i64 n0, .int .i64 n1, c2, c3, c4, c5, c6, c7, c8, c9, c10, c11, c12, c13, c14]).take (Try.prog.cellsOf 3)) = xs[2]? := hf 2 _ rfl
  rw [List.getElem?_eq_getElem (by rw [hxl2]; omega)] at f2
  simp only [z1, z2, z3, z4, z5, z6, z7, List.drop_zero, List.drop_succ_cons, List.take_succ_cons, List.take_zero] at f2
  obtain ⟨n2, e, -, n2w⟩ := DataW.trod_int Try.underlying3 f2
  cases e
  have f3 : DataW.trod enc Try.prog w base sp held n 3 ((List.drop 3 [.int .i64 n0, .int .i64 n1, .int .i64 n2, c3, c4, c5, c6, c7, c8, c9, c10, c11, c12, c13, c14]).take (Try.prog.cellsOf 3)) = xs[3]? := hf 3 _ rfl
  rw [List.getElem?_eq_getElem (by rw [hxl2]; omega)] at f3
  simp only [z1, z2, z3, z4, z5, z6, z7, List.drop_zero, List.drop_succ_cons, List.take_succ_cons, List.take_zero] at f3
  obtain ⟨n3, e, -, n3w⟩ := DataW.trod_int Try.underlying3 f3
  cases e
  have f4 : DataW.trod enc Try.prog w base sp held n 26 ((List.drop 4 [.int .i64 n0, .int .i64 n1, .int .i64 n2, .int .i64 n3, c4, c5, c6, c7, c8, c9, c10, c11, c12, c13, c14]).take (Try.prog.cellsOf 26)) = xs[4]? := hf 4 _ rfl
  rw [List.getElem?_eq_getElem (by rw [hxl2]; omega)] at f4
  simp only [z1, z2, z3, z4, z5, z6, z7, List.drop_zero, List.drop_succ_cons, List.take_succ_cons, List.take_zero] at f4
  obtain ⟨n4, e, -, n4w⟩ := DataW.trod_int Try.underlying26 f4
  cases e
  have n4b := bounds_u64 n4w
  obtain ⟨n4n, rfl⟩ : ∃ m : Nat, n4 = (m : Int) := ⟨n4.toNat, by omega⟩
  have f5 : DataW.trod enc Try.prog w base sp held n 44 ((List.drop 5 [.int .i64 n0, .int .i64 n1, .int .i64 n2, .int .i64 n3, .int .u64 (n4n : Int), c5, c6, c7, c8, c9, c10, c11, c12, c13, c14]).take (Try.prog.cellsOf 44)) = xs[5]? := hf 5 _ rfl
  rw [List.getElem?_eq_getElem (by rw [hxl2]; omega)] at f5
  simp only [z1, z2, z3, z4, z5, z6, z7, List.drop_zero, List.drop_succ_cons, List.take_succ_cons, List.take_zero] at f5
  obtain ⟨vV, lV, e, sV, -⟩ := ints_open Try.underlying44 Try.underlying3 z1 f5
  cases e
  have f6 : DataW.trod enc Try.prog w base sp held n 44 ((List.drop 6 [.int .i64 n0, .int .i64 n1, .int .i64 n2, .int .i64 n3, .int .u64 (n4n : Int), c5, c6, c7, c8, c9, c10, c11, c12, c13, c14]).take (Try.prog.cellsOf 44)) = xs[6]? := hf 6 _ rfl
  rw [List.getElem?_eq_getElem (by rw [hxl2]; omega)] at f6
  simp only [z1, z2, z3, z4, z5, z6, z7, List.drop_zero, List.drop_succ_cons, List.take_succ_cons, List.take_zero] at f6
  obtain ⟨vW, lW, e, sW, -⟩ := ints_open Try.underlying44 Try.underlying3 z1 f6
  cases e
  have f7 : DataW.trod enc Try.prog w base sp held n 30 ((List.drop 7 [.int .i64 n0, .int .i64 n1, .int .i64 n2, .int .i64 n3, .int .u64 (n4n : Int), c5, c6, c7, c8, c9, c10, c11, c12, c13, c14]).take (Try.prog.cellsOf 30)) = xs[7]? := hf 7 _ rfl
  rw [List.getElem?_eq_getElem (by rw [hxl2]; omega)] at f7
  simp only [z1, z2, z3, z4, z5, z6, z7, List.drop_zero, List.drop_succ_cons, List.take_succ_cons, List.take_zero] at f7
  obtain ⟨ysS, mS, -, -, -, hyS, hgS⟩ := DataW.trod_struct Try.underlying30 f7
  have hzS : ysS.length = 2 := hyS
  have fs0 : DataW.trod enc Try.prog w base sp held mS 3 ((List.drop 0 [c7, c8]).take (Try.prog.cellsOf 3)) = ysS[0]? := hgS 0 _ rfl
  rw [List.getElem?_eq_getElem (by rw [hzS]; omega)] at fs0
  simp only [z1, z2, z3, z4, z5, z6, z7, List.drop_zero, List.drop_succ_cons, List.take_succ_cons, List.take_zero] at fs0
  obtain ⟨p0, e, -, p0w⟩ := DataW.trod_int Try.underlying3 fs0
  cases e
  have fs1 : DataW.trod enc Try.prog w base sp held mS 4 ((List.drop 1 [.int .i64 p0, c8]).take (Try.prog.cellsOf 4)) = ysS[1]? := hgS 1 _ rfl
  rw [List.getElem?_eq_getElem (by rw [hzS]; omega)] at fs1
  simp only [z1, z2, z3, z4, z5, z6, z7, List.drop_zero, List.drop_succ_cons, List.take_succ_cons, List.take_zero] at fs1
  obtain ⟨q0, e, -⟩ := DataW.trod_bool Try.underlying4 fs1
  cases e
  have f8 : DataW.trod enc Try.prog w base sp held n 33 ((List.drop 9 [.int .i64 n0, .int .i64 n1, .int .i64 n2, .int .i64 n3, .int .u64 (n4n : Int), c5, c6, .int .i64 p0, .bool q0, c9, c10, c11, c12, c13, c14]).take (Try.prog.cellsOf 33)) = xs[8]? := hf 8 _ rfl
  rw [List.getElem?_eq_getElem (by rw [hxl2]; omega)] at f8
  simp only [z1, z2, z3, z4, z5, z6, z7, List.drop_zero, List.drop_succ_cons, List.take_succ_cons, List.take_zero] at f8
  obtain ⟨ysG, mG, -, -, -, hyG, hgG⟩ := DataW.trod_struct Try.underlying33 f8
  have hzG : ysG.length = 4 := hyG
  have fg0 : DataW.trod enc Try.prog w base sp held mG 3 ((List.drop 0 [c9, c10, c11, c12]).take (Try.prog.cellsOf 3)) = ysG[0]? := hgG 0 _ rfl
  rw [List.getElem?_eq_getElem (by rw [hzG]; omega)] at fg0
  simp only [z1, z2, z3, z4, z5, z6, z7, List.drop_zero, List.drop_succ_cons, List.take_succ_cons, List.take_zero] at fg0
  obtain ⟨k0, e, -, k0w⟩ := DataW.trod_int Try.underlying3 fg0
  cases e
  have fg1 : DataW.trod enc Try.prog w base sp held mG 3 ((List.drop 1 [.int .i64 k0, c10, c11, c12]).take (Try.prog.cellsOf 3)) = ysG[1]? := hgG 1 _ rfl
  rw [List.getElem?_eq_getElem (by rw [hzG]; omega)] at fg1
  simp only [z1, z2, z3, z4, z5, z6, z7, List.drop_zero, List.drop_succ_cons, List.take_succ_cons, List.take_zero] at fg1
  obtain ⟨k1, e, -, k1w⟩ := DataW.trod_int Try.underlying3 fg1
  cases e
  have fg2 : DataW.trod enc Try.prog w base sp held mG 3 ((List.drop 2 [.int .i64 k0, .int .i64 k1, c11, c12]).take (Try.prog.cellsOf 3)) = ysG[2]? := hgG 2 _ rfl
  rw [List.getElem?_eq_getElem (by rw [hzG]; omega)] at fg2
  simp only [z1, z2, z3, z4, z5, z6, z7, List.drop_zero, List.drop_succ_cons, List.take_succ_cons, List.take_zero] at fg2
  obtain ⟨k2, e, -, k2w⟩ := DataW.trod_int Try.underlying3 fg2
  cases e
  have fg3 : DataW.trod enc Try.prog w base sp held mG 26 ((List.drop 3 [.int .i64 k0, .int .i64 k1, .int .i64 k2, c12]).take (Try.prog.cellsOf 26)) = ysG[3]? := hgG 3 _ rfl
  rw [List.getElem?_eq_getElem (by rw [hzG]; omega)] at fg3
  simp only [z1, z2, z3, z4, z5, z6, z7, List.drop_zero, List.drop_succ_cons, List.take_succ_cons, List.take_zero] at fg3
  obtain ⟨k3, e, -, k3w⟩ := DataW.trod_int Try.underlying26 fg3
  cases e
  have k3b := bounds_u64 k3w
  obtain ⟨k3n, rfl⟩ : ∃ m : Nat, k3 = (m : Int) := ⟨k3.toNat, by omega⟩
  have f9 : DataW.trod enc Try.prog w base sp held n 56 ((List.drop 13 [.int .i64 n0, .int .i64 n1, .int .i64 n2, .int .i64 n3, .int .u64 (n4n : Int), c5, c6, .int .i64 p0, .bool q0, .int .i64 k0, .int .i64 k1, .int .i64 k2, .int .u64 (k3n : Int), c13, c14]).take (Try.prog.cellsOf 56)) = xs[9]? := hf 9 _ rfl
  rw [List.getElem?_eq_getElem (by rw [hxl2]; omega)] at f9
  simp only [z1, z2, z3, z4, z5, z6, z7, List.drop_zero, List.drop_succ_cons, List.take_succ_cons, List.take_zero] at f9
  obtain ⟨ysE, mE, -, -, -, hyE, hgE⟩ := DataW.trod_struct Try.underlying56 f9
  have hzE : ysE.length = 2 := hyE
  have fe0 : DataW.trod enc Try.prog w base sp held mE 44 ((List.drop 0 [c13, c14]).take (Try.prog.cellsOf 44)) = ysE[0]? := hgE 0 _ rfl
  rw [List.getElem?_eq_getElem (by rw [hzE]; omega)] at fe0
  simp only [z1, z2, z3, z4, z5, z6, z7, List.drop_zero, List.drop_succ_cons, List.take_succ_cons, List.take_zero] at fe0
  obtain ⟨vT, lT, e, sT, -⟩ := ints_open Try.underlying44 Try.underlying3 z1 fe0
  cases e
  have fe1 : DataW.trod enc Try.prog w base sp held mE 44 ((List.drop 1 [c13, c14]).take (Try.prog.cellsOf 44)) = ysE[1]? := hgE 1 _ rfl
  rw [List.getElem?_eq_getElem (by rw [hzE]; omega)] at fe1
  simp only [z1, z2, z3, z4, z5, z6, z7, List.drop_zero, List.drop_succ_cons, List.take_succ_cons, List.take_zero] at fe1
  obtain ⟨vU, lU, e, sU, -⟩ := ints_open Try.underlying44 Try.underlying3 z1 fe1
  cases e
  exact ⟨⟨n0, n1, n2, n3, n4n, lV, lW, ⟨p0, q0⟩, ⟨k0, k1, k2, k3n⟩, ⟨lT, lU⟩⟩, ⟨_, _, _, _, rfl, sV, sW, sT, sU⟩, by show n4n < 2 ^ 64; omega, by show k3n < 2 ^ 64; omega⟩
end Go.Gv.W
