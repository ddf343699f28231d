/-
  Gates and exits: what is wrong with them. No condition.
-/
import Derived.Test.YtokidokmcbkodaaGvW01
namespace Go.Gv.W
set_option linter.unusedSimpArgs false
set_option linter.unusedVariables false
set_option linter.unusedSectionVars false
open Go.RowKit Go.Proofs

structure Gate where
  kind : Int
  a : Int
  b : Int
  k : Nat
deriving DecidableEq
def Gate.enc (g : Gate) : List Value := [.int .i64 g.kind, .int .i64 g.a, .int .i64 g.b, .int .u64 (g.k : Int)]
structure Slot where
  party : Int
  bit : Bool
deriving DecidableEq
def Slot.enc (s : Slot) : List Value := [.int .i64 s.party, .bool s.bit]
structure Exit where
  to : List Int
  gates : List Int
deriving DecidableEq

/-- junto/circ.named -/
def r_circ_named : RFn := ⟨20,
  .seq (.reg [] [
    ⟨(some 2), none, .new 102 90 [(.bool false), (.bool false), (.bool false), (.bool false)]⟩,
    ⟨(some 3), none, .mv (.c (.bool false))⟩]) <|
  .keep [0, 2] <|
  .seq (.seq (.reg [] [
    ⟨(some 4), none, .mv (.t 0)⟩]) <|
  .keep [2, 4] <|
  .block 0 <|
  .seq (.reg [] [
    ⟨(some 6), none, .bin .eql (.t 4) (.c (.int .i64 1))⟩,
    ⟨(some 5), none, .mv (.t 6)⟩]) <|
  .keep [2, 4, 5] <|
  .cond (.t 5)
    (.seq (.reg [] [
      ⟨(some 7), none, .bld [(.bool false), (.bool false), (.bool false), (.bool false)] [(0, 1), (1, 1), (2, 1), (3, 1)] [(0, (.c (.bool true)))]⟩,
      ⟨none, none, .st 4 102 0 (.t 2) (.t 7)⟩,
      ⟨(some 3), none, .mv (.c (.bool true))⟩]) <|
    .ret)
    (.seq (.reg [] [
      ⟨(some 9), none, .bin .eql (.t 4) (.c (.int .i64 2))⟩,
      ⟨(some 8), none, .mv (.t 9)⟩]) <|
    .keep [2, 4, 8] <|
    .cond (.t 8)
      (.seq (.reg [] [
        ⟨(some 10), none, .bld [(.bool false), (.bool false), (.bool false), (.bool false)] [(0, 1), (1, 1), (2, 1), (3, 1)] [(3, (.c (.bool true)))]⟩,
        ⟨none, none, .st 4 102 0 (.t 2) (.t 10)⟩,
        ⟨(some 3), none, .mv (.c (.bool true))⟩]) <|
      .ret)
      (.seq (.seq (.reg [] [
        ⟨(some 12), none, .bin .eql (.t 4) (.c (.int .i64 3))⟩,
        ⟨(some 11), none, .mv (.t 12)⟩]) <|
      .keep [2, 4, 11] <|
      .cond (.t 11)
        (.skip)
        (.seq (.reg [] [
          ⟨(some 13), none, .bin .eql (.t 4) (.c (.int .i64 4))⟩,
          ⟨(some 11), none, .mv (.t 13)⟩]) <|
        .keep [2, 4, 11] <|
        .cond (.t 11)
          (.skip)
          (.reg [] [
            ⟨(some 14), none, .bin .eql (.t 4) (.c (.int .i64 5))⟩,
            ⟨(some 11), none, .mv (.t 14)⟩]))) <|
      .keep [2, 4, 11] <|
      .cond (.t 11)
        (.seq (.reg [] [
          ⟨(some 15), none, .bld [(.bool false), (.bool false), (.bool false), (.bool false)] [(0, 1), (1, 1), (2, 1), (3, 1)] [(1, (.c (.bool true))), (2, (.c (.bool true)))]⟩,
          ⟨none, none, .st 4 102 0 (.t 2) (.t 15)⟩,
          ⟨(some 3), none, .mv (.c (.bool true))⟩]) <|
        .ret)
        (.seq (.reg [] [
          ⟨(some 17), none, .bin .eql (.t 4) (.c (.int .i64 6))⟩,
          ⟨(some 16), none, .mv (.t 17)⟩]) <|
        .keep [2, 16] <|
        .cond (.t 16)
          (.seq (.reg [] [
            ⟨(some 18), none, .bld [(.bool false), (.bool false), (.bool false), (.bool false)] [(0, 1), (1, 1), (2, 1), (3, 1)] [(1, (.c (.bool true))), (3, (.c (.bool true)))]⟩,
            ⟨none, none, .st 4 102 0 (.t 2) (.t 18)⟩,
            ⟨(some 3), none, .mv (.c (.bool true))⟩]) <|
          .ret)
          (.skip))))) <|
  .keep [2] <|
  .seq (.reg [] [
    ⟨(some 19), none, .bld [(.bool false), (.bool false), (.bool false), (.bool false)] [(0, 1), (1, 1), (2, 1), (3, 1)] []⟩,
    ⟨none, none, .st 4 102 0 (.t 2) (.t 19)⟩,
    ⟨(some 3), none, .mv (.c (.bool false))⟩]) <|
  .ret,
  [.cell (some 4) (some (102, 0)) 2, .tmp 3], [], []⟩

theorem k_circ_named : rbFn Try.prog 52 r_circ_named = some r_circ_named := by kernel_rfl

/-- junto/circ.Gate -/
def r_circ_Gate : RFn := ⟨96,
  .seq (.reg [] [
    ⟨(some 7), none, .box 107 33 (.t 3)⟩,
    ⟨(some 8), none, .mv (.c (.int .i64 0))⟩]) <|
  .keep [0, 1, 2, 7] <|
  .seq (.reg [] [
    ⟨(some 13), none, .fad 0 (.t 7)⟩,
    ⟨(some 14), none, .ld none (some (107, 0)) (.t 13)⟩,
    ⟨(some 15), none, .call [] [] 52 [(.t 14)]⟩,
    ⟨(some 12), none, .mv (.t 15)⟩,
    ⟨(some 16), none, .ext 0 (.t 12)⟩,
    ⟨(some 17), none, .ext 1 (.t 12)⟩,
    ⟨(some 9), none, .new 109 90 [(.bool false), (.bool false), (.bool false), (.bool false)]⟩,
    ⟨none, none, .st 4 109 0 (.t 9) (.t 16)⟩,
    ⟨(some 10), none, .mv (.t 17)⟩]) <|
  .keep [0, 1, 2, 7, 9, 10] <|
  .seq (.reg [] [
    ⟨(some 11), none, .mv (.c (.func (.func 53) #[] #[]))⟩]) <|
  .keep [0, 1, 2, 7, 9, 10, 11] <|
  .seq (.block 0 <|
  .seq (.reg [] [
    ⟨(some 19), none, .mv (.t 10)⟩,
    ⟨(some 20), none, .un .not (.t 19)⟩,
    ⟨(some 21), none, .mv (.t 20)⟩,
    ⟨(some 22), (some (21, false, true)), .fad 0 (.t 9)⟩,
    ⟨(some 23), (some (21, false, true)), .ld none (some (109, 0)) (.t 22)⟩,
    ⟨(some 24), (some (21, false, true)), .un .not (.t 23)⟩,
    ⟨(some 25), (some (21, false, true)), .mv (.t 24)⟩,
    ⟨(some 26), (some (25, true, true)), .fad 1 (.t 9)⟩,
    ⟨(some 27), (some (25, true, true)), .ld none (some (109, 0)) (.t 26)⟩,
    ⟨(some 28), (some (25, true, true)), .un .not (.t 27)⟩,
    ⟨(some 29), (some (21, false, true)), .pick (.t 25) (.t 28) (.c (.bool false))⟩,
    ⟨(some 30), (some (21, false, true)), .mv (.t 29)⟩,
    ⟨(some 31), (some (30, true, true)), .fad 1 (.t 7)⟩,
    ⟨(some 32), (some (30, true, true)), .ld none (some (107, 0)) (.t 31)⟩,
    ⟨(some 33), (some (30, true, true)), .bin .neq (.t 32) (.c (.int .i64 0))⟩,
    ⟨(some 34), (some (21, false, true)), .pick (.t 30) (.t 33) (.c (.bool false))⟩,
    ⟨(some 35), none, .pick (.t 21) (.c (.bool true)) (.t 34)⟩,
    ⟨(some 36), none, .mv (.t 35)⟩,
    ⟨(some 37), (some (36, false, true)), .fad 2 (.t 9)⟩,
    ⟨(some 38), (some (36, false, true)), .ld none (some (109, 0)) (.t 37)⟩,
    ⟨(some 39), (some (36, false, true)), .un .not (.t 38)⟩,
    ⟨(some 40), (some (36, false, true)), .mv (.t 39)⟩,
    ⟨(some 41), (some (40, true, true)), .fad 2 (.t 7)⟩,
    ⟨(some 42), (some (40, true, true)), .ld none (some (107, 0)) (.t 41)⟩,
    ⟨(some 43), (some (40, true, true)), .bin .neq (.t 42) (.c (.int .i64 0))⟩,
    ⟨(some 44), (some (36, false, true)), .pick (.t 40) (.t 43) (.c (.bool false))⟩,
    ⟨(some 45), none, .pick (.t 36) (.c (.bool true)) (.t 44)⟩,
    ⟨(some 46), none, .mv (.t 45)⟩,
    ⟨(some 47), (some (46, false, true)), .fad 3 (.t 9)⟩,
    ⟨(some 48), (some (46, false, true)), .ld none (some (109, 0)) (.t 47)⟩,
    ⟨(some 49), (some (46, false, true)), .un .not (.t 48)⟩,
    ⟨(some 50), (some (46, false, true)), .mv (.t 49)⟩,
    ⟨(some 51), (some (50, true, true)), .fad 3 (.t 7)⟩,
    ⟨(some 52), (some (50, true, true)), .ld none (some (107, 0)) (.t 51)⟩,
    ⟨(some 53), (some (50, true, true)), .bin .neq (.t 52) (.c (.int .u64 0))⟩,
    ⟨(some 54), (some (46, false, true)), .pick (.t 50) (.t 53) (.c (.bool false))⟩,
    ⟨(some 55), none, .pick (.t 46) (.c (.bool true)) (.t 54)⟩,
    ⟨(some 18), none, .mv (.t 55)⟩]) <|
  .keep [0, 1, 2, 7, 9, 11, 18] <|
  .cond (.t 18)
    (.seq (.reg [] [
      ⟨(some 8), none, .mv (.c (.int .i64 4))⟩]) <|
    .ret)
    (.seq (.reg [] [
      ⟨(some 57), none, .fad 0 (.t 9)⟩,
      ⟨(some 58), none, .ld none (some (109, 0)) (.t 57)⟩,
      ⟨(some 59), none, .mv (.t 58)⟩,
      ⟨(some 60), (some (59, true, true)), .mv (.t 11)⟩,
      ⟨(some 61), (some (59, true, true)), .fad 1 (.t 7)⟩,
      ⟨(some 62), (some (59, true, true)), .ld none (some (107, 0)) (.t 61)⟩,
      ⟨(some 63), (some (59, true, true)), .mv (.t 1)⟩,
      ⟨(some 64), (some (59, true, true)), .callv [] [] (.t 60) [(.t 62), (.t 63)]⟩,
      ⟨(some 65), (some (59, true, true)), .un .not (.t 64)⟩,
      ⟨(some 66), none, .pick (.t 59) (.t 65) (.c (.bool false))⟩,
      ⟨(some 67), none, .mv (.t 66)⟩,
      ⟨(some 68), (some (67, false, true)), .fad 1 (.t 9)⟩,
      ⟨(some 69), (some (67, false, true)), .ld none (some (109, 0)) (.t 68)⟩,
      ⟨(some 70), (some (67, false, true)), .mv (.t 69)⟩,
      ⟨(some 71), (some (70, true, true)), .mv (.t 11)⟩,
      ⟨(some 72), (some (70, true, true)), .fad 1 (.t 7)⟩,
      ⟨(some 73), (some (70, true, true)), .ld none (some (107, 0)) (.t 72)⟩,
      ⟨(some 74), (some (70, true, true)), .mv (.t 2)⟩,
      ⟨(some 75), (some (70, true, true)), .callv [] [] (.t 71) [(.t 73), (.t 74)]⟩,
      ⟨(some 76), (some (70, true, true)), .un .not (.t 75)⟩,
      ⟨(some 77), (some (67, false, true)), .pick (.t 70) (.t 76) (.c (.bool false))⟩,
      ⟨(some 78), none, .pick (.t 67) (.c (.bool true)) (.t 77)⟩,
      ⟨(some 79), none, .mv (.t 78)⟩,
      ⟨(some 80), (some (79, false, true)), .fad 2 (.t 9)⟩,
      ⟨(some 81), (some (79, false, true)), .ld none (some (109, 0)) (.t 80)⟩,
      ⟨(some 82), (some (79, false, true)), .mv (.t 81)⟩,
      ⟨(some 83), (some (82, true, true)), .mv (.t 11)⟩,
      ⟨(some 84), (some (82, true, true)), .fad 2 (.t 7)⟩,
      ⟨(some 85), (some (82, true, true)), .ld none (some (107, 0)) (.t 84)⟩,
      ⟨(some 86), (some (82, true, true)), .mv (.t 2)⟩,
      ⟨(some 87), (some (82, true, true)), .callv [] [] (.t 83) [(.t 85), (.t 86)]⟩,
      ⟨(some 88), (some (82, true, true)), .un .not (.t 87)⟩,
      ⟨(some 89), (some (79, false, true)), .pick (.t 82) (.t 88) (.c (.bool false))⟩,
      ⟨(some 90), none, .pick (.t 79) (.c (.bool true)) (.t 89)⟩,
      ⟨(some 56), none, .mv (.t 90)⟩]) <|
    .keep [0, 7, 56] <|
    .cond (.t 56)
      (.seq (.reg [] [
        ⟨(some 8), none, .mv (.c (.int .i64 13))⟩]) <|
      .ret)
      (.seq (.reg [] [
        ⟨(some 92), none, .fad 3 (.t 7)⟩,
        ⟨(some 93), none, .ld none (some (107, 0)) (.t 92)⟩,
        ⟨(some 94), none, .mv (.t 0)⟩,
        ⟨(some 95), none, .bin .geq (.t 93) (.t 94)⟩,
        ⟨(some 91), none, .mv (.t 95)⟩]) <|
      .keep [91] <|
      .cond (.t 91)
        (.seq (.reg [] [
          ⟨(some 8), none, .mv (.c (.int .i64 2))⟩]) <|
        .ret)
        (.skip)))) <|
  .keep [] <|
  .seq (.reg [] [
    ⟨(some 8), none, .mv (.c (.int .i64 0))⟩]) <|
  .ret,
  [.tmp 8], [], []⟩

theorem k_circ_Gate : rbFn Try.prog 25 r_circ_Gate = some r_circ_Gate := by kernel_rfl

/-- junto/circ.Gate$1 -/
def r_circ_Gate_1 : RFn := ⟨12,
  .seq (.reg [] [
    ⟨(some 4), none, .mv (.c (.bool false))⟩]) <|
  .keep [0, 1] <|
  .seq (.reg [] [
    ⟨(some 5), none, .mv (.t 0)⟩,
    ⟨(some 6), none, .bin .geq (.t 5) (.c (.int .i64 0))⟩,
    ⟨(some 7), none, .mv (.t 6)⟩,
    ⟨(some 8), (some (7, true, true)), .mv (.t 0)⟩,
    ⟨(some 9), (some (7, true, true)), .mv (.t 1)⟩,
    ⟨(some 10), (some (7, true, true)), .bin .lss (.t 8) (.t 9)⟩,
    ⟨(some 11), none, .pick (.t 7) (.t 10) (.c (.bool false))⟩,
    ⟨(some 4), none, .mv (.t 11)⟩]) <|
  .ret,
  [.tmp 4], [], []⟩

theorem k_circ_Gate_1 : rbFn Try.prog 53 r_circ_Gate_1 = some r_circ_Gate_1 := by kernel_rfl

/-- junto/juntoref12.Gate -/
def r_ref12_Gate : RFn := ⟨88,
  .seq (.reg [] [
    ⟨(some 7), none, .box 107 33 (.t 3)⟩,
    ⟨(some 8), none, .mv (.c (.int .i64 0))⟩]) <|
  .keep [0, 1, 2, 7] <|
  .seq (.reg [] [
    ⟨(some 9), none, .mv (.c (.bool false))⟩,
    ⟨(some 10), none, .mv (.c (.bool false))⟩,
    ⟨(some 11), none, .mv (.c (.bool false))⟩]) <|
  .keep [0, 1, 2, 7, 9, 10, 11] <|
  .seq (.seq (.reg [] [
    ⟨(some 13), none, .fad 0 (.t 7)⟩,
    ⟨(some 14), none, .ld none (some (107, 0)) (.t 13)⟩]) <|
  .keep [0, 1, 2, 7, 9, 10, 11, 14] <|
  .block 0 <|
  .seq (.reg [] [
    ⟨(some 16), none, .bin .eql (.t 14) (.c (.int .i64 1))⟩,
    ⟨(some 15), none, .mv (.t 16)⟩]) <|
  .keep [0, 1, 2, 7, 9, 10, 11, 14, 15] <|
  .cond (.t 15)
    (.reg [] [
      ⟨(some 9), none, .mv (.c (.bool true))⟩])
    (.seq (.reg [] [
      ⟨(some 18), none, .bin .eql (.t 14) (.c (.int .i64 2))⟩,
      ⟨(some 17), none, .mv (.t 18)⟩]) <|
    .keep [0, 1, 2, 7, 9, 10, 11, 14, 17] <|
    .cond (.t 17)
      (.reg [] [
        ⟨(some 11), none, .mv (.c (.bool true))⟩])
      (.seq (.seq (.reg [] [
        ⟨(some 20), none, .bin .eql (.t 14) (.c (.int .i64 3))⟩,
        ⟨(some 19), none, .mv (.t 20)⟩]) <|
      .keep [0, 1, 2, 7, 10, 11, 14, 19] <|
      .cond (.t 19)
        (.skip)
        (.seq (.reg [] [
          ⟨(some 21), none, .bin .eql (.t 14) (.c (.int .i64 4))⟩,
          ⟨(some 19), none, .mv (.t 21)⟩]) <|
        .keep [0, 1, 2, 7, 10, 11, 14, 19] <|
        .cond (.t 19)
          (.skip)
          (.reg [] [
            ⟨(some 22), none, .bin .eql (.t 14) (.c (.int .i64 5))⟩,
            ⟨(some 19), none, .mv (.t 22)⟩]))) <|
      .keep [0, 1, 2, 7, 10, 11, 14, 19] <|
      .cond (.t 19)
        (.reg [] [
          ⟨(some 9), none, .mv (.c (.bool true))⟩,
          ⟨(some 10), none, .mv (.c (.bool true))⟩])
        (.seq (.reg [] [
          ⟨(some 24), none, .bin .eql (.t 14) (.c (.int .i64 6))⟩,
          ⟨(some 23), none, .mv (.t 24)⟩]) <|
        .keep [0, 1, 2, 7, 10, 23] <|
        .cond (.t 23)
          (.reg [] [
            ⟨(some 9), none, .mv (.c (.bool true))⟩,
            ⟨(some 11), none, .mv (.c (.bool true))⟩])
          (.seq (.reg [] [
            ⟨(some 8), none, .mv (.c (.int .i64 4))⟩]) <|
          .ret))))) <|
  .keep [0, 1, 2, 7, 9, 10, 11] <|
  .seq (.seq (.reg [] [
    ⟨(some 25), none, .mv (.t 9)⟩,
    ⟨(some 26), none, .un .not (.t 25)⟩,
    ⟨(some 27), none, .mv (.t 26)⟩,
    ⟨(some 28), (some (27, true, true)), .fad 1 (.t 7)⟩,
    ⟨(some 29), (some (27, true, true)), .ld none (some (107, 0)) (.t 28)⟩,
    ⟨(some 30), (some (27, true, true)), .bin .neq (.t 29) (.c (.int .i64 0))⟩,
    ⟨(some 31), none, .pick (.t 27) (.t 30) (.c (.bool false))⟩,
    ⟨(some 32), none, .mv (.t 31)⟩,
    ⟨(some 33), (some (32, false, true)), .mv (.t 10)⟩,
    ⟨(some 34), (some (32, false, true)), .un .not (.t 33)⟩,
    ⟨(some 35), (some (32, false, true)), .mv (.t 34)⟩,
    ⟨(some 36), (some (35, true, true)), .fad 2 (.t 7)⟩,
    ⟨(some 37), (some (35, true, true)), .ld none (some (107, 0)) (.t 36)⟩,
    ⟨(some 38), (some (35, true, true)), .bin .neq (.t 37) (.c (.int .i64 0))⟩,
    ⟨(some 39), (some (32, false, true)), .pick (.t 35) (.t 38) (.c (.bool false))⟩,
    ⟨(some 40), none, .pick (.t 32) (.c (.bool true)) (.t 39)⟩,
    ⟨(some 41), none, .mv (.t 40)⟩,
    ⟨(some 42), (some (41, false, true)), .mv (.t 11)⟩,
    ⟨(some 43), (some (41, false, true)), .un .not (.t 42)⟩,
    ⟨(some 44), (some (41, false, true)), .mv (.t 43)⟩,
    ⟨(some 45), (some (44, true, true)), .fad 3 (.t 7)⟩,
    ⟨(some 46), (some (44, true, true)), .ld none (some (107, 0)) (.t 45)⟩,
    ⟨(some 47), (some (44, true, true)), .bin .neq (.t 46) (.c (.int .u64 0))⟩,
    ⟨(some 48), (some (41, false, true)), .pick (.t 44) (.t 47) (.c (.bool false))⟩,
    ⟨(some 49), none, .pick (.t 41) (.c (.bool true)) (.t 48)⟩]) <|
  .keep [0, 1, 2, 7, 9, 10, 11, 49] <|
  .cond (.t 49)
    (.seq (.reg [] [
      ⟨(some 8), none, .mv (.c (.int .i64 4))⟩]) <|
    .ret)
    (.skip)) <|
  .keep [0, 1, 2, 7, 9, 10, 11] <|
  .seq (.reg [] [
    ⟨(some 50), none, .mv (.t 2)⟩,
    ⟨(some 12), none, .mv (.t 50)⟩]) <|
  .keep [0, 1, 7, 9, 10, 11, 12] <|
  .seq (.seq (.reg [] [
    ⟨(some 51), none, .fad 0 (.t 7)⟩,
    ⟨(some 52), none, .ld none (some (107, 0)) (.t 51)⟩,
    ⟨(some 53), none, .bin .eql (.t 52) (.c (.int .i64 1))⟩]) <|
  .keep [0, 1, 7, 9, 10, 11, 12, 53] <|
  .cond (.t 53)
    (.reg [] [
      ⟨(some 54), none, .mv (.t 1)⟩,
      ⟨(some 12), none, .mv (.t 54)⟩])
    (.skip)) <|
  .keep [0, 7, 9, 10, 11, 12] <|
  .seq (.seq (.reg [] [
    ⟨(some 55), none, .mv (.t 9)⟩,
    ⟨(some 56), none, .mv (.t 55)⟩,
    ⟨(some 57), (some (56, true, true)), .fad 1 (.t 7)⟩,
    ⟨(some 58), (some (56, true, true)), .ld none (some (107, 0)) (.t 57)⟩,
    ⟨(some 59), (some (56, true, true)), .bin .lss (.t 58) (.c (.int .i64 0))⟩,
    ⟨(some 60), (some (56, true, true)), .mv (.t 59)⟩,
    ⟨(some 61), (some (60, false, true)), .fad 1 (.t 7)⟩,
    ⟨(some 62), (some (60, false, true)), .ld none (some (107, 0)) (.t 61)⟩,
    ⟨(some 63), (some (60, false, true)), .mv (.t 12)⟩,
    ⟨(some 64), (some (60, false, true)), .bin .geq (.t 62) (.t 63)⟩,
    ⟨(some 65), (some (56, true, true)), .pick (.t 60) (.c (.bool true)) (.t 64)⟩,
    ⟨(some 66), none, .pick (.t 56) (.t 65) (.c (.bool false))⟩,
    ⟨(some 67), none, .mv (.t 66)⟩,
    ⟨(some 68), (some (67, false, true)), .mv (.t 10)⟩,
    ⟨(some 69), (some (67, false, true)), .mv (.t 68)⟩,
    ⟨(some 70), (some (69, true, true)), .fad 2 (.t 7)⟩,
    ⟨(some 71), (some (69, true, true)), .ld none (some (107, 0)) (.t 70)⟩,
    ⟨(some 72), (some (69, true, true)), .bin .lss (.t 71) (.c (.int .i64 0))⟩,
    ⟨(some 73), (some (69, true, true)), .mv (.t 72)⟩,
    ⟨(some 74), (some (73, false, true)), .fad 2 (.t 7)⟩,
    ⟨(some 75), (some (73, false, true)), .ld none (some (107, 0)) (.t 74)⟩,
    ⟨(some 76), (some (73, false, true)), .mv (.t 12)⟩,
    ⟨(some 77), (some (73, false, true)), .bin .geq (.t 75) (.t 76)⟩,
    ⟨(some 78), (some (69, true, true)), .pick (.t 73) (.c (.bool true)) (.t 77)⟩,
    ⟨(some 79), (some (67, false, true)), .pick (.t 69) (.t 78) (.c (.bool false))⟩,
    ⟨(some 80), none, .pick (.t 67) (.c (.bool true)) (.t 79)⟩]) <|
  .keep [0, 7, 11, 80] <|
  .cond (.t 80)
    (.seq (.reg [] [
      ⟨(some 8), none, .mv (.c (.int .i64 13))⟩]) <|
    .ret)
    (.skip)) <|
  .keep [0, 7, 11] <|
  .seq (.seq (.reg [] [
    ⟨(some 81), none, .mv (.t 11)⟩,
    ⟨(some 82), none, .mv (.t 81)⟩,
    ⟨(some 83), (some (82, true, true)), .fad 3 (.t 7)⟩,
    ⟨(some 84), (some (82, true, true)), .ld none (some (107, 0)) (.t 83)⟩,
    ⟨(some 85), (some (82, true, true)), .mv (.t 0)⟩,
    ⟨(some 86), (some (82, true, true)), .bin .geq (.t 84) (.t 85)⟩,
    ⟨(some 87), none, .pick (.t 82) (.t 86) (.c (.bool false))⟩]) <|
  .keep [87] <|
  .cond (.t 87)
    (.seq (.reg [] [
      ⟨(some 8), none, .mv (.c (.int .i64 2))⟩]) <|
    .ret)
    (.skip)) <|
  .keep [] <|
  .seq (.reg [] [
    ⟨(some 8), none, .mv (.c (.int .i64 0))⟩]) <|
  .ret,
  [.tmp 8], [], []⟩

theorem k_ref12_Gate : rbFn Try.prog 39 r_ref12_Gate = some r_ref12_Gate := by kernel_rfl

/-- junto/circ.Exit -/
def r_circ_Exit : RFn := ⟨34,
  .seq (.reg [] [
    ⟨(some 2), none, .box 102 3 (.t 0)⟩,
    ⟨(some 3), none, .box 103 56 (.t 1)⟩,
    ⟨(some 4), none, .mv (.c (.int .i64 0))⟩]) <|
  .keep [2, 3] <|
  .settle 102 <|
  .seq (.reg [] [
    ⟨(some 5), none, .mv (.c (.int .i64 0))⟩]) <|
  .keep [2, 3, 5] <|
  .seq (.seq (.reg [] [
    ⟨(some 8), none, .fad 0 (.t 3)⟩,
    ⟨(some 9), none, .ld none (some (103, 0)) (.t 8)⟩,
    ⟨(some 10), none, .len (.t 9)⟩,
    ⟨(some 11), none, .mv (.c (.int .i64 0))⟩]) <|
  .keep [2, 3, 5, 9, 10, 11] <|
  .block 0 <|
  .loop [2, 3, 5, 9, 10, 11] [103, 1000000] <|
  .seq (.reg [] [
    ⟨(some 12), none, .bin .lss (.t 11) (.t 10)⟩]) <|
  .keep [2, 3, 5, 9, 10, 11, 12] <|
  .seq (.cond (.t 12)
    (.skip)
    (.exit 0)) <|
  .keep [2, 3, 5, 9, 10, 11] <|
  .seq (.block 1 <|
  .seq (.reg [] [
    ⟨(some 13), none, .iad 1 (.t 9) (.t 11)⟩,
    ⟨(some 14), none, .ld none none (.t 13)⟩,
    ⟨(some 7), none, .mv (.t 14)⟩]) <|
  .keep [2, 3, 5, 7, 9, 10, 11] <|
  .seq (.seq (.reg [] [
    ⟨(some 15), none, .mv (.t 7)⟩,
    ⟨(some 16), none, .mv (.t 5)⟩,
    ⟨(some 17), none, .bin .leq (.t 15) (.t 16)⟩,
    ⟨(some 18), none, .mv (.t 17)⟩,
    ⟨(some 19), (some (18, false, true)), .mv (.t 7)⟩,
    ⟨(some 20), (some (18, false, true)), .bin .gtr (.t 19) (.c (.int .i64 13))⟩,
    ⟨(some 21), none, .pick (.t 18) (.c (.bool true)) (.t 20)⟩]) <|
  .keep [2, 3, 7, 9, 10, 11, 21] <|
  .cond (.t 21)
    (.seq (.reg [] [
      ⟨(some 4), none, .mv (.c (.int .i64 2))⟩]) <|
    .ret)
    (.skip)) <|
  .keep [2, 3, 7, 9, 10, 11] <|
  .reg [] [
    ⟨(some 22), none, .mv (.t 7)⟩,
    ⟨(some 5), none, .mv (.t 22)⟩]) <|
  .keep [2, 3, 5, 9, 10, 11] <|
  .reg [] [
    ⟨(some 23), none, .bin .add (.t 11) (.c (.int .i64 1))⟩,
    ⟨(some 11), none, .mv (.t 23)⟩]) <|
  .keep [2, 3] <|
  .seq (.block 2 <|
  .seq (.reg [] [
    ⟨(some 25), none, .fad 1 (.t 3)⟩,
    ⟨(some 26), none, .ld none (some (103, 0)) (.t 25)⟩,
    ⟨(some 27), none, .len (.t 26)⟩,
    ⟨(some 28), none, .bin .gtr (.t 27) (.c (.int .i64 1024))⟩,
    ⟨(some 24), none, .mv (.t 28)⟩]) <|
  .keep [2, 3, 24] <|
  .cond (.t 24)
    (.seq (.reg [] [
      ⟨(some 4), none, .mv (.c (.int .i64 3))⟩]) <|
    .ret)
    (.seq (.reg [] [
      ⟨(some 30), none, .fad 1 (.t 3)⟩,
      ⟨(some 31), none, .ld none (some (103, 0)) (.t 30)⟩,
      ⟨(some 32), none, .mkf (.func 88) [] [(.t 2)]⟩,
      ⟨(some 33), none, .call [] [] 84 [(.t 31), (.t 32)]⟩,
      ⟨(some 29), none, .mv (.t 33)⟩]) <|
    .keep [29] <|
    .cond (.t 29)
      (.seq (.reg [] [
        ⟨(some 4), none, .mv (.c (.int .i64 13))⟩]) <|
      .ret)
      (.skip))) <|
  .keep [] <|
  .seq (.reg [] [
    ⟨(some 4), none, .mv (.c (.int .i64 0))⟩]) <|
  .ret,
  [.tmp 4], [], []⟩

theorem k_circ_Exit : rbFn Try.prog 70 r_circ_Exit = some r_circ_Exit := by kernel_rfl

/-- junto/circ.Exit$1 -/
def r_circ_Exit_1 : RFn := ⟨11,
  .seq (.reg [] [
    ⟨(some 3), none, .mv (.c (.bool false))⟩]) <|
  .keep [0, 1] <|
  .seq (.reg [] [
    ⟨(some 4), none, .mv (.t 0)⟩,
    ⟨(some 5), none, .bin .lss (.t 4) (.c (.int .i64 0))⟩,
    ⟨(some 6), none, .mv (.t 5)⟩,
    ⟨(some 7), (some (6, false, true)), .mv (.t 0)⟩,
    ⟨(some 8), (some (6, false, true)), .ld none none (.t 1)⟩,
    ⟨(some 9), (some (6, false, true)), .bin .geq (.t 7) (.t 8)⟩,
    ⟨(some 10), none, .pick (.t 6) (.c (.bool true)) (.t 9)⟩,
    ⟨(some 3), none, .mv (.t 10)⟩]) <|
  .ret,
  [.tmp 3], [], []⟩

theorem k_circ_Exit_1 : rbFn Try.prog 88 r_circ_Exit_1 = some r_circ_Exit_1 := by kernel_rfl

/-- junto/juntoref12.Exit -/
def r_ref12_Exit : RFn := ⟨30,
  .seq (.reg [] [
    ⟨(some 3), none, .box 103 56 (.t 1)⟩,
    ⟨(some 4), none, .mv (.c (.int .i64 0))⟩]) <|
  .keep [0, 3] <|
  .seq (.seq (.reg [] [
    ⟨(some 7), none, .fad 0 (.t 3)⟩,
    ⟨(some 8), none, .ld none (some (103, 0)) (.t 7)⟩,
    ⟨(some 9), none, .call [] [] 69 [(.c (.int .i64 13)), (.t 8)]⟩,
    ⟨(some 10), none, .un .not (.t 9)⟩]) <|
  .keep [0, 3, 10] <|
  .cond (.t 10)
    (.seq (.reg [] [
      ⟨(some 4), none, .mv (.c (.int .i64 2))⟩]) <|
    .ret)
    (.skip)) <|
  .keep [0, 3] <|
  .seq (.seq (.reg [] [
    ⟨(some 11), none, .fad 1 (.t 3)⟩,
    ⟨(some 12), none, .ld none (some (103, 0)) (.t 11)⟩,
    ⟨(some 13), none, .len (.t 12)⟩,
    ⟨(some 14), none, .bin .gtr (.t 13) (.c (.int .i64 1024))⟩]) <|
  .keep [0, 3, 14] <|
  .cond (.t 14)
    (.seq (.reg [] [
      ⟨(some 4), none, .mv (.c (.int .i64 3))⟩]) <|
    .ret)
    (.skip)) <|
  .keep [0, 3] <|
  .seq (.seq (.reg [] [
    ⟨(some 15), none, .fad 1 (.t 3)⟩,
    ⟨(some 16), none, .ld none (some (103, 0)) (.t 15)⟩,
    ⟨(some 17), none, .len (.t 16)⟩,
    ⟨(some 18), none, .mv (.c (.int .i64 0))⟩]) <|
  .keep [0, 16, 17, 18] <|
  .block 0 <|
  .loop [0, 16, 17, 18] [103, 1000000] <|
  .seq (.reg [] [
    ⟨(some 19), none, .bin .lss (.t 18) (.t 17)⟩]) <|
  .keep [0, 16, 17, 18, 19] <|
  .seq (.cond (.t 19)
    (.skip)
    (.exit 0)) <|
  .keep [0, 16, 17, 18] <|
  .seq (.block 1 <|
  .seq (.reg [] [
    ⟨(some 20), none, .iad 1 (.t 16) (.t 18)⟩,
    ⟨(some 21), none, .ld none none (.t 20)⟩,
    ⟨(some 6), none, .mv (.t 21)⟩]) <|
  .keep [0, 6, 16, 17, 18] <|
  .seq (.reg [] [
    ⟨(some 22), none, .mv (.t 6)⟩,
    ⟨(some 23), none, .bin .lss (.t 22) (.c (.int .i64 0))⟩,
    ⟨(some 24), none, .mv (.t 23)⟩,
    ⟨(some 25), (some (24, false, true)), .mv (.t 6)⟩,
    ⟨(some 26), (some (24, false, true)), .mv (.t 0)⟩,
    ⟨(some 27), (some (24, false, true)), .bin .geq (.t 25) (.t 26)⟩,
    ⟨(some 28), none, .pick (.t 24) (.c (.bool true)) (.t 27)⟩]) <|
  .keep [0, 16, 17, 18, 28] <|
  .cond (.t 28)
    (.seq (.reg [] [
      ⟨(some 4), none, .mv (.c (.int .i64 13))⟩]) <|
    .ret)
    (.skip)) <|
  .keep [0, 16, 17, 18] <|
  .reg [] [
    ⟨(some 29), none, .bin .add (.t 18) (.c (.int .i64 1))⟩,
    ⟨(some 18), none, .mv (.t 29)⟩]) <|
  .keep [] <|
  .seq (.reg [] [
    ⟨(some 4), none, .mv (.c (.int .i64 0))⟩]) <|
  .ret,
  [.tmp 4], [], []⟩

theorem k_ref12_Exit : rbFn Try.prog 40 r_ref12_Exit = some r_ref12_Exit := by kernel_rfl

/-- junto/juntoref04.Rising -/
def r_ref04_Rising : RFn := ⟨35,
  .seq (.reg [] [
    ⟨(some 4), none, .mv (.c (.bool false))⟩]) <|
  .keep [0, 1] <|
  .seq (.seq (.reg [] [
    ⟨(some 7), none, .mv (.t 1)⟩,
    ⟨(some 8), none, .len (.t 7)⟩,
    ⟨(some 9), none, .mv (.c (.int .i64 0))⟩]) <|
  .keep [0, 1, 7, 8, 9] <|
  .block 0 <|
  .loop [0, 1, 7, 8, 9] [1000000] <|
  .seq (.reg [] [
    ⟨(some 10), none, .bin .lss (.t 9) (.t 8)⟩]) <|
  .keep [0, 1, 7, 8, 9, 10] <|
  .seq (.cond (.t 10)
    (.skip)
    (.exit 0)) <|
  .keep [0, 1, 7, 8, 9] <|
  .seq (.block 1 <|
  .seq (.reg [] [
    ⟨(some 11), none, .mv (.t 9)⟩,
    ⟨(some 12), none, .iad 1 (.t 7) (.t 9)⟩,
    ⟨(some 13), none, .ld none none (.t 12)⟩,
    ⟨(some 5), none, .mv (.t 11)⟩,
    ⟨(some 6), none, .mv (.t 13)⟩]) <|
  .keep [0, 1, 5, 6, 7, 8, 9] <|
  .seq (.reg [] [
    ⟨(some 14), none, .mv (.t 6)⟩,
    ⟨(some 15), none, .bin .lss (.t 14) (.c (.int .i64 1))⟩,
    ⟨(some 16), none, .mv (.t 15)⟩,
    ⟨(some 17), (some (16, false, true)), .mv (.t 6)⟩,
    ⟨(some 18), (some (16, false, true)), .mv (.t 0)⟩,
    ⟨(some 19), (some (16, false, true)), .bin .gtr (.t 17) (.t 18)⟩,
    ⟨(some 20), none, .pick (.t 16) (.c (.bool true)) (.t 19)⟩,
    ⟨(some 21), none, .mv (.t 20)⟩,
    ⟨(some 22), (some (21, false, true)), .mv (.t 5)⟩,
    ⟨(some 23), (some (21, false, true)), .bin .gtr (.t 22) (.c (.int .i64 0))⟩,
    ⟨(some 24), (some (21, false, true)), .mv (.t 23)⟩,
    ⟨(some 25), (some (24, true, true)), .mv (.t 1)⟩,
    ⟨(some 26), (some (24, true, true)), .mv (.t 5)⟩,
    ⟨(some 27), (some (24, true, true)), .bin .sub (.t 26) (.c (.int .i64 1))⟩,
    ⟨(some 28), (some (24, true, true)), .iad 1 (.t 25) (.t 27)⟩,
    ⟨(some 29), (some (24, true, true)), .ld none none (.t 28)⟩,
    ⟨(some 30), (some (24, true, true)), .mv (.t 6)⟩,
    ⟨(some 31), (some (24, true, true)), .bin .geq (.t 29) (.t 30)⟩,
    ⟨(some 32), (some (21, false, true)), .pick (.t 24) (.t 31) (.c (.bool false))⟩,
    ⟨(some 33), none, .pick (.t 21) (.c (.bool true)) (.t 32)⟩]) <|
  .keep [0, 1, 7, 8, 9, 33] <|
  .cond (.t 33)
    (.seq (.reg [] [
      ⟨(some 4), none, .mv (.c (.bool false))⟩]) <|
    .ret)
    (.skip)) <|
  .keep [0, 1, 7, 8, 9] <|
  .reg [] [
    ⟨(some 34), none, .bin .add (.t 9) (.c (.int .i64 1))⟩,
    ⟨(some 9), none, .mv (.t 34)⟩]) <|
  .keep [] <|
  .seq (.reg [] [
    ⟨(some 4), none, .mv (.c (.bool true))⟩]) <|
  .ret,
  [.tmp 4], [], []⟩

theorem k_ref04_Rising : rbFn Try.prog 69 r_ref04_Rising = some r_ref04_Rising := by kernel_rfl

/-- slices.ContainsFunc[[]int,int] -/
def r_slices_ContainsFunc_Sint_int : RFn := ⟨9,
  .seq (.reg [] [
    ⟨(some 4), none, .mv (.c (.bool false))⟩]) <|
  .keep [0, 1] <|
  .seq (.reg [] [
    ⟨(some 5), none, .mv (.t 0)⟩,
    ⟨(some 6), none, .mv (.t 1)⟩,
    ⟨(some 7), none, .call [] [] 91 [(.t 5), (.t 6)]⟩,
    ⟨(some 8), none, .bin .geq (.t 7) (.c (.int .i64 0))⟩,
    ⟨(some 4), none, .mv (.t 8)⟩]) <|
  .ret,
  [.tmp 4], [], []⟩

theorem k_slices_ContainsFunc_Sint_int : rbFn Try.prog 84 r_slices_ContainsFunc_Sint_int = some r_slices_ContainsFunc_Sint_int := by kernel_rfl

/-- slices.IndexFunc[[]int,int] -/
def r_slices_IndexFunc_Sint_int : RFn := ⟨19,
  .seq (.reg [] [
    ⟨(some 4), none, .mv (.c (.int .i64 0))⟩]) <|
  .keep [0, 1] <|
  .seq (.seq (.reg [] [
    ⟨(some 6), none, .mv (.t 0)⟩,
    ⟨(some 7), none, .len (.t 6)⟩,
    ⟨(some 8), none, .mv (.c (.int .i64 0))⟩]) <|
  .keep [0, 1, 7, 8] <|
  .block 0 <|
  .loop [0, 1, 7, 8] [1000000] <|
  .seq (.reg [] [
    ⟨(some 9), none, .bin .lss (.t 8) (.t 7)⟩]) <|
  .keep [0, 1, 7, 8, 9] <|
  .seq (.cond (.t 9)
    (.skip)
    (.exit 0)) <|
  .keep [0, 1, 7, 8] <|
  .seq (.block 1 <|
  .seq (.reg [] [
    ⟨(some 10), none, .mv (.t 8)⟩,
    ⟨(some 5), none, .mv (.t 10)⟩]) <|
  .keep [0, 1, 5, 7, 8] <|
  .seq (.reg [] [
    ⟨(some 11), none, .mv (.t 1)⟩,
    ⟨(some 12), none, .mv (.t 0)⟩,
    ⟨(some 13), none, .mv (.t 5)⟩,
    ⟨(some 14), none, .iad 1 (.t 12) (.t 13)⟩,
    ⟨(some 15), none, .ld none none (.t 14)⟩,
    ⟨(some 16), none, .callv [] [] (.t 11) [(.t 15)]⟩]) <|
  .keep [0, 1, 5, 7, 8, 16] <|
  .cond (.t 16)
    (.seq (.reg [] [
      ⟨(some 17), none, .mv (.t 5)⟩,
      ⟨(some 4), none, .mv (.t 17)⟩]) <|
    .ret)
    (.skip)) <|
  .keep [0, 1, 7, 8] <|
  .reg [] [
    ⟨(some 18), none, .bin .add (.t 8) (.c (.int .i64 1))⟩,
    ⟨(some 8), none, .mv (.t 18)⟩]) <|
  .keep [] <|
  .seq (.reg [] [
    ⟨(some 4), none, .mv (.c (.int .i64 (-1)))⟩]) <|
  .ret,
  [.tmp 4], [], []⟩

theorem k_slices_IndexFunc_Sint_int : rbFn Try.prog 91 r_slices_IndexFunc_Sint_int = some r_slices_IndexFunc_Sint_int := by kernel_rfl


theorem c_named {k : Int} {G : GH} : Pure 52 [.int .i64 k] G (.tuple #[.agg #[.bool (decide (k = 1)), .bool (decide (3 ≤ k ∧ k ≤ 6)), .bool (decide (3 ≤ k ∧ k ≤ 5)), .bool (decide (k = 2 ∨ k = 6))], .bool (decide (1 ≤ k ∧ k ≤ 6))]) := by
  refine acalls mixed k_circ_named (by simp) fun F => ?_
  simp only [GV, frArgs, memArgs, resV, fillL, ← Bool.decide_or, ← Bool.decide_and, ← decide_not, ↓reduceIte, Nat.reduceEqDiff, Nat.reduceAdd, Nat.reduceMul, Nat.reduceLeDiff, Nat.reduceLT, Nat.reduceSub, Nat.succ_ne_zero, Nat.one_ne_zero, Nat.zero_ne_one, true_implies, false_implies, forall_const, implies_true, reduceCtorEq, eq_self, ite_true, ite_false, decide_true, decide_false, Nat.le_refl, Bool.false_eq_true, if_true, if_false]
  intro b
  repeat' first | refine cond_dec (fun h => ?_) (fun h => ?_) | simp only [GV, frArgs, memArgs, resV, fillL, ← Bool.decide_or, ← Bool.decide_and, ← decide_not, ↓reduceIte, Nat.reduceEqDiff, Nat.reduceAdd, Nat.reduceMul, Nat.reduceLeDiff, Nat.reduceLT, Nat.reduceSub, Nat.succ_ne_zero, Nat.one_ne_zero, Nat.zero_ne_one, true_implies, false_implies, forall_const, implies_true, reduceCtorEq, eq_self, ite_true, ite_false, decide_true, decide_false, Nat.le_refl, Bool.false_eq_true, if_true, if_false]
  all_goals first | (exfalso; omega) | (simp; omega)
theorem c_within {x n : Int} {G : GH} : Pure 53 [.int .i64 x, .int .i64 n] G (.bool (decide (0 ≤ x ∧ x < n))) := by
  refine acalls mixed k_circ_Gate_1 (by simp) fun F => ?_
  simp only [GV, frArgs, memArgs, resV, fillL, ← Bool.decide_or, ← Bool.decide_and, ← decide_not, ↓reduceIte, Nat.reduceEqDiff, Nat.reduceAdd, Nat.reduceMul, Nat.reduceLeDiff, Nat.reduceLT, Nat.reduceSub, Nat.succ_ne_zero, Nat.one_ne_zero, Nat.zero_ne_one, true_implies, false_implies, forall_const, implies_true, reduceCtorEq, eq_self, ite_true, ite_false, decide_true, decide_false, Nat.le_refl, Bool.false_eq_true, if_true, if_false]

/-- What is wrong with a gate. -/
def gateErr (p : Nat) (slots at_ : Nat) (g : Gate) : Int :=
  if ¬(1 ≤ g.kind ∧ g.kind ≤ 6) then 4
  else if (g.kind = 2 ∧ g.a ≠ 0) ∨ (¬(3 ≤ g.kind ∧ g.kind ≤ 5) ∧ g.b ≠ 0) ∨ (¬(g.kind = 2 ∨ g.kind = 6) ∧ g.k ≠ 0) then 4
  else if (g.kind = 1 ∧ ¬(0 ≤ g.a ∧ g.a < slots)) ∨ (3 ≤ g.kind ∧ ¬(0 ≤ g.a ∧ g.a < at_)) ∨ (3 ≤ g.kind ∧ g.kind ≤ 5 ∧ ¬(0 ≤ g.b ∧ g.b < at_)) then 13
  else if p ≤ g.k then 2 else 0
set_option maxHeartbeats 1000000 in
set_option maxRecDepth 20000 in
theorem c_Gate {p slots at_ : Nat} {g : Gate} {G : GH} (hp : 0 < p) : Pure 25 [.int .u64 p, .int .i64 slots, .int .i64 at_, .agg g.enc.toArray] G (.int .i64 (gateErr p slots at_ g)) := by
  obtain ⟨k, x, y, z⟩ := g
  refine acalls mixed k_circ_Gate (by simp) fun F => ?_
  simp only [GV, frArgs, memArgs, resV, fillL, ← Bool.decide_or, ← Bool.decide_and, ← decide_not, ↓reduceIte, Nat.reduceEqDiff, Nat.reduceAdd, Nat.reduceMul, Nat.reduceLeDiff, Nat.reduceLT, Nat.reduceSub, Nat.succ_ne_zero, Nat.one_ne_zero, Nat.zero_ne_one, true_implies, false_implies, forall_const, implies_true, reduceCtorEq, eq_self, ite_true, ite_false, decide_true, decide_false, Nat.le_refl, Bool.false_eq_true, if_true, if_false, Gate.enc]
  intro b1
  refine c_named.mono ?_
  rintro o G1 Es hg ⟨rfl, rfl, rfl⟩
  simp only [GV, frArgs, memArgs, resV, fillL, ← Bool.decide_or, ← Bool.decide_and, ← decide_not, ↓reduceIte, Nat.reduceEqDiff, Nat.reduceAdd, Nat.reduceMul, Nat.reduceLeDiff, Nat.reduceLT, Nat.reduceSub, Nat.succ_ne_zero, Nat.one_ne_zero, Nat.zero_ne_one, true_implies, false_implies, forall_const, implies_true, reduceCtorEq, eq_self, ite_true, ite_false, decide_true, decide_false, Nat.le_refl, Bool.false_eq_true, if_true, if_false]
  intro b2
  have hwithin : ∀ (x n : Int) (d : Nat) (fr : Fr) (M : Mem) (K : Fr → GH → Mem → List Deferred → Prop) (QP : Value → GH → Mem → List Deferred → Prop), K ((d, true, .bool (decide (0 ≤ x ∧ x < n))) :: fr) G1 M [] →
      ACalls Try.prog 53 [.int .i64 x, .int .i64 n] G1 [] (outK [] M (some d) fr [] K QP) := by
    intro x n d fr M K QP hk
    refine c_within.mono ?_
    rintro o G2 Es hg ⟨rfl, rfl, rfl⟩
    simp only [GV, frArgs, memArgs, resV, fillL, ← Bool.decide_or, ← Bool.decide_and, ← decide_not, ↓reduceIte, Nat.reduceEqDiff, Nat.reduceAdd, Nat.reduceMul, Nat.reduceLeDiff, Nat.reduceLT, Nat.reduceSub, Nat.succ_ne_zero, Nat.one_ne_zero, Nat.zero_ne_one, true_implies, false_implies, forall_const, implies_true, reduceCtorEq, eq_self, ite_true, ite_false, decide_true, decide_false, Nat.le_refl, Bool.false_eq_true, if_true, if_false]
    exact hk
  refine cond_dec (fun h => ?_) (fun h => ?_)
  · simp only [GV, frArgs, memArgs, resV, fillL, ← Bool.decide_or, ← Bool.decide_and, ← decide_not, ↓reduceIte, Nat.reduceEqDiff, Nat.reduceAdd, Nat.reduceMul, Nat.reduceLeDiff, Nat.reduceLT, Nat.reduceSub, Nat.succ_ne_zero, Nat.one_ne_zero, Nat.zero_ne_one, true_implies, false_implies, forall_const, implies_true, reduceCtorEq, eq_self, ite_true, ite_false, decide_true, decide_false, Nat.le_refl, Bool.false_eq_true, if_true, if_false]
    rw [show gateErr p slots at_ ⟨k, x, y, z⟩ = 4 by simp only [gateErr]; (repeat' split) <;> omega]
  · simp only [GV, frArgs, memArgs, resV, fillL, ← Bool.decide_or, ← Bool.decide_and, ← decide_not, ↓reduceIte, Nat.reduceEqDiff, Nat.reduceAdd, Nat.reduceMul, Nat.reduceLeDiff, Nat.reduceLT, Nat.reduceSub, Nat.succ_ne_zero, Nat.one_ne_zero, Nat.zero_ne_one, true_implies, false_implies, forall_const, implies_true, reduceCtorEq, eq_self, ite_true, ite_false, decide_true, decide_false, Nat.le_refl, Bool.false_eq_true, if_true, if_false]
    refine gcallv_pure (.bool (decide (0 ≤ x ∧ x < slots))) (fun hc => ?_) ?_
    · simp only [GV, frArgs, memArgs, resV, fillL, ← Bool.decide_or, ← Bool.decide_and, ← decide_not, ↓reduceIte, Nat.reduceEqDiff, Nat.reduceAdd, Nat.reduceMul, Nat.reduceLeDiff, Nat.reduceLT, Nat.reduceSub, Nat.succ_ne_zero, Nat.one_ne_zero, Nat.zero_ne_one, true_implies, false_implies, forall_const, implies_true, reduceCtorEq, eq_self, ite_true, ite_false, decide_true, decide_false, Nat.le_refl, Bool.false_eq_true, if_true, if_false]
      have hc' := of_decide_eq_true hc
      refine ⟨?_, ?_, ?_, hwithin _ _ _ _ _ _ _ ⟨rfl, rfl, rfl, rfl⟩⟩ <;> exact decide_eq_true (by omega)
    simp only [GV, frArgs, memArgs, resV, fillL, ← Bool.decide_or, ← Bool.decide_and, ← decide_not, ↓reduceIte, Nat.reduceEqDiff, Nat.reduceAdd, Nat.reduceMul, Nat.reduceLeDiff, Nat.reduceLT, Nat.reduceSub, Nat.succ_ne_zero, Nat.one_ne_zero, Nat.zero_ne_one, true_implies, false_implies, forall_const, implies_true, reduceCtorEq, eq_self, ite_true, ite_false, decide_true, decide_false, Nat.le_refl, Bool.false_eq_true, if_true, if_false]
    refine gcallv_pure (.bool (decide (0 ≤ x ∧ x < at_))) (fun hc => ?_) ?_
    · simp only [GV, frArgs, memArgs, resV, fillL, ← Bool.decide_or, ← Bool.decide_and, ← decide_not, ↓reduceIte, Nat.reduceEqDiff, Nat.reduceAdd, Nat.reduceMul, Nat.reduceLeDiff, Nat.reduceLT, Nat.reduceSub, Nat.succ_ne_zero, Nat.one_ne_zero, Nat.zero_ne_one, true_implies, false_implies, forall_const, implies_true, reduceCtorEq, eq_self, ite_true, ite_false, decide_true, decide_false, Nat.le_refl, Bool.false_eq_true, if_true, if_false]
      have hc' := of_decide_eq_true hc
      refine ⟨?_, ?_, ?_, hwithin _ _ _ _ _ _ _ ⟨rfl, rfl, rfl, rfl⟩⟩ <;> exact decide_eq_true (by omega)
    simp only [GV, frArgs, memArgs, resV, fillL, ← Bool.decide_or, ← Bool.decide_and, ← decide_not, ↓reduceIte, Nat.reduceEqDiff, Nat.reduceAdd, Nat.reduceMul, Nat.reduceLeDiff, Nat.reduceLT, Nat.reduceSub, Nat.succ_ne_zero, Nat.one_ne_zero, Nat.zero_ne_one, true_implies, false_implies, forall_const, implies_true, reduceCtorEq, eq_self, ite_true, ite_false, decide_true, decide_false, Nat.le_refl, Bool.false_eq_true, if_true, if_false]
    refine gcallv_pure (.bool (decide (0 ≤ y ∧ y < at_))) (fun hc => ?_) ?_
    · simp only [GV, frArgs, memArgs, resV, fillL, ← Bool.decide_or, ← Bool.decide_and, ← decide_not, ↓reduceIte, Nat.reduceEqDiff, Nat.reduceAdd, Nat.reduceMul, Nat.reduceLeDiff, Nat.reduceLT, Nat.reduceSub, Nat.succ_ne_zero, Nat.one_ne_zero, Nat.zero_ne_one, true_implies, false_implies, forall_const, implies_true, reduceCtorEq, eq_self, ite_true, ite_false, decide_true, decide_false, Nat.le_refl, Bool.false_eq_true, if_true, if_false]
      have hc' := of_decide_eq_true hc
      refine ⟨?_, ?_, ?_, hwithin _ _ _ _ _ _ _ ⟨rfl, rfl, rfl, rfl⟩⟩ <;> exact decide_eq_true (by omega)
    simp only [GV, frArgs, memArgs, resV, fillL, ← Bool.decide_or, ← Bool.decide_and, ← decide_not, ↓reduceIte, Nat.reduceEqDiff, Nat.reduceAdd, Nat.reduceMul, Nat.reduceLeDiff, Nat.reduceLT, Nat.reduceSub, Nat.succ_ne_zero, Nat.one_ne_zero, Nat.zero_ne_one, true_implies, false_implies, forall_const, implies_true, reduceCtorEq, eq_self, ite_true, ite_false, decide_true, decide_false, Nat.le_refl, Bool.false_eq_true, if_true, if_false]
    refine cond_dec (fun h2 => ?_) (fun h2 => ?_)
    · simp only [GV, frArgs, memArgs, resV, fillL, ← Bool.decide_or, ← Bool.decide_and, ← decide_not, ↓reduceIte, Nat.reduceEqDiff, Nat.reduceAdd, Nat.reduceMul, Nat.reduceLeDiff, Nat.reduceLT, Nat.reduceSub, Nat.succ_ne_zero, Nat.one_ne_zero, Nat.zero_ne_one, true_implies, false_implies, forall_const, implies_true, reduceCtorEq, eq_self, ite_true, ite_false, decide_true, decide_false, Nat.le_refl, Bool.false_eq_true, if_true, if_false]
      rw [show gateErr p slots at_ ⟨k, x, y, z⟩ = 13 by simp only [gateErr]; (repeat' split) <;> omega]
    · simp only [GV, frArgs, memArgs, resV, fillL, ← Bool.decide_or, ← Bool.decide_and, ← decide_not, ↓reduceIte, Nat.reduceEqDiff, Nat.reduceAdd, Nat.reduceMul, Nat.reduceLeDiff, Nat.reduceLT, Nat.reduceSub, Nat.succ_ne_zero, Nat.one_ne_zero, Nat.zero_ne_one, true_implies, false_implies, forall_const, implies_true, reduceCtorEq, eq_self, ite_true, ite_false, decide_true, decide_false, Nat.le_refl, Bool.false_eq_true, if_true, if_false]
      refine cond_dec (fun h3 => ?_) (fun h3 => ?_)
      · simp only [GV, frArgs, memArgs, resV, fillL, ← Bool.decide_or, ← Bool.decide_and, ← decide_not, ↓reduceIte, Nat.reduceEqDiff, Nat.reduceAdd, Nat.reduceMul, Nat.reduceLeDiff, Nat.reduceLT, Nat.reduceSub, Nat.succ_ne_zero, Nat.one_ne_zero, Nat.zero_ne_one, true_implies, false_implies, forall_const, implies_true, reduceCtorEq, eq_self, ite_true, ite_false, decide_true, decide_false, Nat.le_refl, Bool.false_eq_true, if_true, if_false]
        rw [show gateErr p slots at_ ⟨k, x, y, z⟩ = 2 by simp only [gateErr]; (repeat' split) <;> omega]
      · simp only [GV, frArgs, memArgs, resV, fillL, ← Bool.decide_or, ← Bool.decide_and, ← decide_not, ↓reduceIte, Nat.reduceEqDiff, Nat.reduceAdd, Nat.reduceMul, Nat.reduceLeDiff, Nat.reduceLT, Nat.reduceSub, Nat.succ_ne_zero, Nat.one_ne_zero, Nat.zero_ne_one, true_implies, false_implies, forall_const, implies_true, reduceCtorEq, eq_self, ite_true, ite_false, decide_true, decide_false, Nat.le_refl, Bool.false_eq_true, if_true, if_false]
        rw [show gateErr p slots at_ ⟨k, x, y, z⟩ = 0 by simp only [gateErr]; (repeat' split) <;> omega]

set_option maxHeartbeats 1000000 in
set_option maxRecDepth 20000 in
theorem c_GateR {p slots at_ : Nat} {g : Gate} {G : GH} (hp : 0 < p) : Pure 39 [.int .u64 p, .int .i64 slots, .int .i64 at_, .agg g.enc.toArray] G (.int .i64 (gateErr p slots at_ g)) := by
  obtain ⟨k, x, y, z⟩ := g
  refine acalls mixed k_ref12_Gate (by simp) fun F => ?_
  simp only [GV, frArgs, memArgs, resV, fillL, ← Bool.decide_or, ← Bool.decide_and, ← decide_not, ↓reduceIte, Nat.reduceEqDiff, Nat.reduceAdd, Nat.reduceMul, Nat.reduceLeDiff, Nat.reduceLT, Nat.reduceSub, Nat.succ_ne_zero, Nat.one_ne_zero, Nat.zero_ne_one, true_implies, false_implies, forall_const, implies_true, reduceCtorEq, eq_self, ite_true, ite_false, decide_true, decide_false, Nat.le_refl, Bool.false_eq_true, if_true, if_false, Gate.enc]
  intro b
  have fin : ∀ e : Int, gateErr p slots at_ ⟨k, x, y, z⟩ = e → Out.ret (.int .i64 e) = Out.ret (.int .i64 (gateErr p slots at_ ⟨k, x, y, z⟩)) := fun e h => by rw [h]
  repeat' first
    | refine cond_dec (fun h => ?_) (fun h => ?_)
    | simp only [GV, frArgs, memArgs, resV, fillL, ← Bool.decide_or, ← Bool.decide_and, ← decide_not, ↓reduceIte, Nat.reduceEqDiff, Nat.reduceAdd, Nat.reduceMul, Nat.reduceLeDiff, Nat.reduceLT, Nat.reduceSub, Nat.succ_ne_zero, Nat.one_ne_zero, Nat.zero_ne_one, true_implies, false_implies, forall_const, implies_true, reduceCtorEq, eq_self, ite_true, ite_false, decide_true, decide_false, Nat.le_refl, Bool.false_eq_true, if_true, if_false]
  all_goals try (exfalso; omega)
  all_goals (refine fin _ ?_; simp only [gateErr]; (repeat' split) <;> omega)
end Go.Gv.W
