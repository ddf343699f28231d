/-
  One call of a method of a board, by its number. No condition.
-/
import Derived.Test.YtokidokmcbkodaaGvW28
namespace Go.Gv.W
set_option linter.unusedSimpArgs false
set_option linter.unusedVariables false
set_option linter.unusedSectionVars false
open Go.RowKit Go.Proofs

/-- junto/juntolaw13.do -/
def r_law13_do : RFn := ⟨189,
  .seq (.reg [] [
    ⟨(some 3), none, .box 103 58 (.t 1)⟩,
    ⟨(some 4), none, .new 104 64 [(.int .i64 0), (.slice none 0 0), (.int .i64 0)]⟩]) <|
  .keep [0, 3, 4] <|
  .seq (.reg [] [
    ⟨(some 6), none, .bld [(.int .i64 0), (.slice none 0 0), (.int .i64 0)] [(0, 1), (1, 1), (2, 1)] []⟩,
    ⟨(some 5), none, .new 105 64 [(.int .i64 0), (.slice none 0 0), (.int .i64 0)]⟩,
    ⟨none, none, .st 3 105 0 (.t 5) (.t 6)⟩]) <|
  .keep [0, 3, 4, 5] <|
  .seq (.seq (.reg [] [
    ⟨(some 7), none, .fad 0 (.t 3)⟩,
    ⟨(some 8), none, .ld none (some (103, 0)) (.t 7)⟩]) <|
  .keep [0, 3, 4, 5, 8] <|
  .block 0 <|
  .seq (.reg [] [
    ⟨(some 21), none, .bin .eql (.t 8) (.c (.int .i64 0))⟩,
    ⟨(some 20), none, .mv (.t 21)⟩]) <|
  .keep [0, 3, 4, 5, 8, 20] <|
  .cond (.t 20)
    (.reg [] [
      ⟨(some 23), none, .mv (.t 0)⟩,
      ⟨(some 24), none, .fad 7 (.t 3)⟩,
      ⟨(some 25), none, .ld (some 2) (some (103, 0)) (.t 24)⟩,
      ⟨(some 26), none, .call [0, 1, 2, 3] [0, 1, 2, 3] 7 [(.t 23), (.t 25)]⟩,
      ⟨(some 22), none, .mv (.t 26)⟩,
      ⟨(some 27), none, .ext 0 (.t 22)⟩,
      ⟨(some 28), none, .ext 1 (.t 22)⟩,
      ⟨(some 29), none, .fad 0 (.t 5)⟩,
      ⟨none, none, .st 1 105 0 (.t 29) (.t 27)⟩,
      ⟨(some 30), none, .fad 2 (.t 5)⟩,
      ⟨none, none, .st 1 105 0 (.t 30) (.t 28)⟩])
    (.seq (.reg [] [
      ⟨(some 32), none, .bin .eql (.t 8) (.c (.int .i64 1))⟩,
      ⟨(some 31), none, .mv (.t 32)⟩]) <|
    .keep [0, 3, 4, 5, 8, 31] <|
    .cond (.t 31)
      (.reg [] [
        ⟨(some 34), none, .mv (.t 0)⟩,
        ⟨(some 35), none, .fad 9 (.t 3)⟩,
        ⟨(some 36), none, .ld (some 4) (some (103, 0)) (.t 35)⟩,
        ⟨(some 37), none, .call [0, 1, 2, 3] [0, 1, 2, 3] 8 [(.t 34), (.t 36)]⟩,
        ⟨(some 33), none, .mv (.t 37)⟩,
        ⟨(some 38), none, .ext 0 (.t 33)⟩,
        ⟨(some 39), none, .ext 1 (.t 33)⟩,
        ⟨(some 40), none, .fad 0 (.t 5)⟩,
        ⟨none, none, .st 1 105 0 (.t 40) (.t 38)⟩,
        ⟨(some 41), none, .fad 2 (.t 5)⟩,
        ⟨none, none, .st 1 105 0 (.t 41) (.t 39)⟩])
      (.seq (.reg [] [
        ⟨(some 43), none, .bin .eql (.t 8) (.c (.int .i64 2))⟩,
        ⟨(some 42), none, .mv (.t 43)⟩]) <|
      .keep [0, 3, 4, 5, 8, 42] <|
      .cond (.t 42)
        (.reg [] [
          ⟨(some 44), none, .mv (.t 0)⟩,
          ⟨(some 45), none, .fad 13 (.t 3)⟩,
          ⟨(some 46), none, .ld (some 2) (some (103, 0)) (.t 45)⟩,
          ⟨(some 47), none, .call [0, 1, 2, 3] [0, 1, 2, 3] 44 [(.t 44), (.t 46)]⟩,
          ⟨(some 48), none, .fad 2 (.t 5)⟩,
          ⟨none, none, .st 1 105 0 (.t 48) (.t 47)⟩])
        (.seq (.reg [] [
          ⟨(some 50), none, .bin .eql (.t 8) (.c (.int .i64 3))⟩,
          ⟨(some 49), none, .mv (.t 50)⟩]) <|
        .keep [0, 3, 4, 5, 8, 49] <|
        .cond (.t 49)
          (.reg [] [
            ⟨(some 52), none, .mv (.t 0)⟩,
            ⟨(some 53), none, .fad 4 (.t 3)⟩,
            ⟨(some 54), none, .ld none (some (103, 0)) (.t 53)⟩,
            ⟨(some 55), none, .call [0, 1, 2, 3] [0, 1, 2, 3] 9 [(.t 52), (.t 54)]⟩,
            ⟨(some 51), none, .mv (.t 55)⟩,
            ⟨(some 56), none, .ext 0 (.t 51)⟩,
            ⟨(some 57), none, .ext 1 (.t 51)⟩,
            ⟨(some 58), none, .fad 0 (.t 5)⟩,
            ⟨none, none, .st 1 105 0 (.t 58) (.t 56)⟩,
            ⟨(some 59), none, .fad 2 (.t 5)⟩,
            ⟨none, none, .st 1 105 0 (.t 59) (.t 57)⟩])
          (.seq (.reg [] [
            ⟨(some 61), none, .bin .eql (.t 8) (.c (.int .i64 4))⟩,
            ⟨(some 60), none, .mv (.t 61)⟩]) <|
          .keep [0, 3, 4, 5, 8, 60] <|
          .cond (.t 60)
            (.reg [] [
              ⟨(some 63), none, .mv (.t 0)⟩,
              ⟨(some 64), none, .fad 1 (.t 3)⟩,
              ⟨(some 65), none, .ld none (some (103, 0)) (.t 64)⟩,
              ⟨(some 66), none, .call [0, 1, 2, 3] [0, 1, 2, 3] 45 [(.t 63), (.t 65)]⟩,
              ⟨(some 62), none, .mv (.t 66)⟩,
              ⟨(some 67), none, .ext 0 (.t 62)⟩,
              ⟨(some 68), none, .ext 1 (.t 62)⟩,
              ⟨(some 69), none, .fad 0 (.t 5)⟩,
              ⟨none, none, .st 1 105 0 (.t 69) (.t 67)⟩,
              ⟨(some 70), none, .fad 2 (.t 5)⟩,
              ⟨none, none, .st 1 105 0 (.t 70) (.t 68)⟩])
            (.seq (.reg [] [
              ⟨(some 72), none, .bin .eql (.t 8) (.c (.int .i64 5))⟩,
              ⟨(some 71), none, .mv (.t 72)⟩]) <|
            .keep [0, 3, 4, 5, 8, 71] <|
            .cond (.t 71)
              (.reg [] [
                ⟨(some 74), none, .mv (.t 0)⟩,
                ⟨(some 75), none, .fad 1 (.t 3)⟩,
                ⟨(some 76), none, .ld none (some (103, 0)) (.t 75)⟩,
                ⟨(some 77), none, .fad 2 (.t 3)⟩,
                ⟨(some 78), none, .ld none (some (103, 0)) (.t 77)⟩,
                ⟨(some 79), none, .call [0, 1, 2, 3] [0, 1, 2, 3] 46 [(.t 74), (.t 76), (.t 78)]⟩,
                ⟨(some 73), none, .mv (.t 79)⟩,
                ⟨(some 80), none, .ext 0 (.t 73)⟩,
                ⟨(some 81), none, .ext 1 (.t 73)⟩,
                ⟨(some 82), none, .fad 0 (.t 5)⟩,
                ⟨none, none, .st 1 105 0 (.t 82) (.t 80)⟩,
                ⟨(some 83), none, .fad 2 (.t 5)⟩,
                ⟨none, none, .st 1 105 0 (.t 83) (.t 81)⟩])
              (.seq (.reg [] [
                ⟨(some 85), none, .bin .eql (.t 8) (.c (.int .i64 6))⟩,
                ⟨(some 84), none, .mv (.t 85)⟩]) <|
              .keep [0, 3, 4, 5, 8, 84] <|
              .cond (.t 84)
                (.reg [] [
                  ⟨(some 87), none, .mv (.t 0)⟩,
                  ⟨(some 88), none, .fad 1 (.t 3)⟩,
                  ⟨(some 89), none, .ld none (some (103, 0)) (.t 88)⟩,
                  ⟨(some 90), none, .fad 2 (.t 3)⟩,
                  ⟨(some 91), none, .ld none (some (103, 0)) (.t 90)⟩,
                  ⟨(some 92), none, .call [0, 1, 2, 3] [0, 1, 2, 3] 47 [(.t 87), (.t 89), (.t 91)]⟩,
                  ⟨(some 86), none, .mv (.t 92)⟩,
                  ⟨(some 93), none, .ext 0 (.t 86)⟩,
                  ⟨(some 94), none, .ext 1 (.t 86)⟩,
                  ⟨(some 95), none, .fad 0 (.t 5)⟩,
                  ⟨none, none, .st 1 105 0 (.t 95) (.t 93)⟩,
                  ⟨(some 96), none, .fad 2 (.t 5)⟩,
                  ⟨none, none, .st 1 105 0 (.t 96) (.t 94)⟩])
                (.seq (.reg [] [
                  ⟨(some 98), none, .bin .eql (.t 8) (.c (.int .i64 7))⟩,
                  ⟨(some 97), none, .mv (.t 98)⟩]) <|
                .keep [0, 3, 4, 5, 8, 97] <|
                .cond (.t 97)
                  (.reg [] [
                    ⟨(some 100), none, .mv (.t 0)⟩,
                    ⟨(some 101), none, .fad 1 (.t 3)⟩,
                    ⟨(some 102), none, .ld none (some (103, 0)) (.t 101)⟩,
                    ⟨(some 103), none, .fad 2 (.t 3)⟩,
                    ⟨(some 104), none, .ld none (some (103, 0)) (.t 103)⟩,
                    ⟨(some 105), none, .call [0, 1, 2, 3] [0, 1, 2, 3] 48 [(.t 100), (.t 102), (.t 104)]⟩,
                    ⟨(some 99), none, .mv (.t 105)⟩,
                    ⟨(some 106), none, .ext 0 (.t 99)⟩,
                    ⟨(some 107), none, .ext 1 (.t 99)⟩,
                    ⟨(some 108), none, .fad 0 (.t 5)⟩,
                    ⟨none, none, .st 1 105 0 (.t 108) (.t 106)⟩,
                    ⟨(some 109), none, .fad 2 (.t 5)⟩,
                    ⟨none, none, .st 1 105 0 (.t 109) (.t 107)⟩])
                  (.seq (.reg [] [
                    ⟨(some 111), none, .bin .eql (.t 8) (.c (.int .i64 8))⟩,
                    ⟨(some 110), none, .mv (.t 111)⟩]) <|
                  .keep [0, 3, 4, 5, 8, 110] <|
                  .cond (.t 110)
                    (.reg [] [
                      ⟨(some 113), none, .mv (.t 0)⟩,
                      ⟨(some 114), none, .fad 3 (.t 3)⟩,
                      ⟨(some 115), none, .ld none (some (103, 0)) (.t 114)⟩,
                      ⟨(some 116), none, .fad 1 (.t 3)⟩,
                      ⟨(some 117), none, .ld none (some (103, 0)) (.t 116)⟩,
                      ⟨(some 118), none, .fad 2 (.t 3)⟩,
                      ⟨(some 119), none, .ld none (some (103, 0)) (.t 118)⟩,
                      ⟨(some 120), none, .call [0, 1, 2, 3] [0, 1, 2, 3] 49 [(.t 113), (.t 115), (.t 117), (.t 119)]⟩,
                      ⟨(some 112), none, .mv (.t 120)⟩,
                      ⟨(some 121), none, .ext 0 (.t 112)⟩,
                      ⟨(some 122), none, .ext 1 (.t 112)⟩,
                      ⟨(some 123), none, .fad 0 (.t 5)⟩,
                      ⟨none, none, .st 1 105 0 (.t 123) (.t 121)⟩,
                      ⟨(some 124), none, .fad 2 (.t 5)⟩,
                      ⟨none, none, .st 1 105 0 (.t 124) (.t 122)⟩])
                    (.seq (.reg [] [
                      ⟨(some 126), none, .bin .eql (.t 8) (.c (.int .i64 9))⟩,
                      ⟨(some 125), none, .mv (.t 126)⟩]) <|
                    .keep [0, 3, 4, 5, 8, 125] <|
                    .cond (.t 125)
                      (.reg [] [
                        ⟨(some 128), none, .mv (.t 0)⟩,
                        ⟨(some 129), none, .fad 5 (.t 3)⟩,
                        ⟨(some 130), none, .ld none (some (103, 0)) (.t 129)⟩,
                        ⟨(some 131), none, .call [0, 1, 2, 3] [0, 1, 2, 3] 50 [(.t 128), (.t 130)]⟩,
                        ⟨(some 127), none, .mv (.t 131)⟩,
                        ⟨(some 132), none, .ext 0 (.t 127)⟩,
                        ⟨(some 133), none, .ext 1 (.t 127)⟩,
                        ⟨(some 134), none, .fad 0 (.t 5)⟩,
                        ⟨none, none, .st 1 105 0 (.t 134) (.t 132)⟩,
                        ⟨(some 135), none, .fad 2 (.t 5)⟩,
                        ⟨none, none, .st 1 105 0 (.t 135) (.t 133)⟩])
                      (.seq (.reg [] [
                        ⟨(some 137), none, .bin .eql (.t 8) (.c (.int .i64 10))⟩,
                        ⟨(some 136), none, .mv (.t 137)⟩]) <|
                      .keep [0, 3, 4, 5, 8, 136] <|
                      .cond (.t 136)
                        (.reg [] [
                          ⟨(some 139), none, .mv (.t 0)⟩,
                          ⟨(some 140), none, .fad 5 (.t 3)⟩,
                          ⟨(some 141), none, .ld none (some (103, 0)) (.t 140)⟩,
                          ⟨(some 142), none, .fad 6 (.t 3)⟩,
                          ⟨(some 143), none, .ld none (some (103, 0)) (.t 142)⟩,
                          ⟨(some 144), none, .call [0, 1, 2, 3] [0, 1, 2, 3] 29 [(.t 139), (.t 141), (.t 143)]⟩,
                          ⟨(some 138), none, .mv (.t 144)⟩,
                          ⟨(some 145), none, .ext 0 (.t 138)⟩,
                          ⟨(some 146), none, .ext 1 (.t 138)⟩,
                          ⟨(some 147), none, .fad 1 (.t 5)⟩,
                          ⟨none, none, .st 1 105 0 (.t 147) (.t 145)⟩,
                          ⟨(some 148), none, .fad 2 (.t 5)⟩,
                          ⟨none, none, .st 1 105 0 (.t 148) (.t 146)⟩])
                        (.seq (.reg [] [
                          ⟨(some 150), none, .bin .eql (.t 8) (.c (.int .i64 11))⟩,
                          ⟨(some 149), none, .mv (.t 150)⟩]) <|
                        .keep [0, 3, 4, 5, 8, 149] <|
                        .cond (.t 149)
                          (.reg [] [
                            ⟨(some 152), none, .mv (.t 0)⟩,
                            ⟨(some 153), none, .fad 5 (.t 3)⟩,
                            ⟨(some 154), none, .ld none (some (103, 0)) (.t 153)⟩,
                            ⟨(some 155), none, .fad 6 (.t 3)⟩,
                            ⟨(some 156), none, .ld none (some (103, 0)) (.t 155)⟩,
                            ⟨(some 157), none, .call [0, 1, 2, 3] [0, 1, 2, 3] 30 [(.t 152), (.t 154), (.t 156)]⟩,
                            ⟨(some 151), none, .mv (.t 157)⟩,
                            ⟨(some 158), none, .ext 0 (.t 151)⟩,
                            ⟨(some 159), none, .ext 1 (.t 151)⟩,
                            ⟨(some 160), none, .fad 1 (.t 5)⟩,
                            ⟨none, none, .st 1 105 0 (.t 160) (.t 158)⟩,
                            ⟨(some 161), none, .fad 2 (.t 5)⟩,
                            ⟨none, none, .st 1 105 0 (.t 161) (.t 159)⟩])
                          (.seq (.reg [] [
                            ⟨(some 163), none, .bin .eql (.t 8) (.c (.int .i64 12))⟩,
                            ⟨(some 162), none, .mv (.t 163)⟩]) <|
                          .keep [0, 3, 4, 5, 8, 162] <|
                          .cond (.t 162)
                            (.reg [] [
                              ⟨(some 165), none, .mv (.t 0)⟩,
                              ⟨(some 166), none, .fad 5 (.t 3)⟩,
                              ⟨(some 167), none, .ld none (some (103, 0)) (.t 166)⟩,
                              ⟨(some 168), none, .fad 6 (.t 3)⟩,
                              ⟨(some 169), none, .ld none (some (103, 0)) (.t 168)⟩,
                              ⟨(some 170), none, .call [0, 1, 2, 3] [0, 1, 2, 3] 31 [(.t 165), (.t 167), (.t 169)]⟩,
                              ⟨(some 164), none, .mv (.t 170)⟩,
                              ⟨(some 171), none, .ext 0 (.t 164)⟩,
                              ⟨(some 172), none, .ext 1 (.t 164)⟩,
                              ⟨(some 173), none, .fad 1 (.t 5)⟩,
                              ⟨none, none, .st 1 105 0 (.t 173) (.t 171)⟩,
                              ⟨(some 174), none, .fad 2 (.t 5)⟩,
                              ⟨none, none, .st 1 105 0 (.t 174) (.t 172)⟩])
                            (.seq (.reg [] [
                              ⟨(some 176), none, .bin .eql (.t 8) (.c (.int .i64 13))⟩,
                              ⟨(some 175), none, .mv (.t 176)⟩]) <|
                            .keep [0, 3, 4, 5, 175] <|
                            .cond (.t 175)
                              (.reg [] [
                                ⟨(some 178), none, .mv (.t 0)⟩,
                                ⟨(some 179), none, .fad 5 (.t 3)⟩,
                                ⟨(some 180), none, .ld none (some (103, 0)) (.t 179)⟩,
                                ⟨(some 181), none, .fad 6 (.t 3)⟩,
                                ⟨(some 182), none, .ld none (some (103, 0)) (.t 181)⟩,
                                ⟨(some 183), none, .call [0, 1, 2, 3] [0, 1, 2, 3] 16 [(.t 178), (.t 180), (.t 182)]⟩,
                                ⟨(some 177), none, .mv (.t 183)⟩,
                                ⟨(some 184), none, .ext 0 (.t 177)⟩,
                                ⟨(some 185), none, .ext 1 (.t 177)⟩,
                                ⟨(some 186), none, .fad 0 (.t 5)⟩,
                                ⟨none, none, .st 1 105 0 (.t 186) (.t 184)⟩,
                                ⟨(some 187), none, .fad 2 (.t 5)⟩,
                                ⟨none, none, .st 1 105 0 (.t 187) (.t 185)⟩])
                              (.reg [] [
                                ⟨(some 10), none, .mv (.t 0)⟩,
                                ⟨(some 11), none, .fad 5 (.t 3)⟩,
                                ⟨(some 12), none, .ld none (some (103, 0)) (.t 11)⟩,
                                ⟨(some 13), none, .fad 6 (.t 3)⟩,
                                ⟨(some 14), none, .ld none (some (103, 0)) (.t 13)⟩,
                                ⟨(some 15), none, .call [0, 1, 2, 3] [0, 1, 2, 3] 17 [(.t 10), (.t 12), (.t 14)]⟩,
                                ⟨(some 9), none, .mv (.t 15)⟩,
                                ⟨(some 16), none, .ext 0 (.t 9)⟩,
                                ⟨(some 17), none, .ext 1 (.t 9)⟩,
                                ⟨(some 18), none, .fad 0 (.t 5)⟩,
                                ⟨none, none, .st 1 105 0 (.t 18) (.t 16)⟩,
                                ⟨(some 19), none, .fad 2 (.t 5)⟩,
                                ⟨none, none, .st 1 105 0 (.t 19) (.t 17)⟩]))))))))))))))) <|
  .keep [4, 5] <|
  .seq (.reg [] [
    ⟨(some 188), none, .ld (some 3) (some (105, 0)) (.t 5)⟩,
    ⟨none, none, .st 3 104 0 (.t 4) (.t 188)⟩]) <|
  .ret,
  [.cell (some 3) (some (104, 0)) 4], [0, 1, 2, 3], [0, 1, 2, 3]⟩

theorem k_law13_do : rbFn Try.prog 21 r_law13_do = some r_law13_do := by kernel_rfl


structure Act where
  op : Int
  a : Int
  b : Int
  c : Int
  k : Nat
  v : List Int
  w : List Int
  slot : Slot
  gate : Gate
  exit : Exit
def ActV (G : GH) (val : Value) (x : Act) : Prop := ∃ v w t g, val = .agg #[.int .i64 x.op, .int .i64 x.a, .int .i64 x.b, .int .i64 x.c, .int .u64 x.k, v, w, .int .i64 x.slot.party, .bool x.slot.bit, .int .i64 x.gate.kind, .int .i64 x.gate.a, .int .i64 x.gate.b, .int .u64 x.gate.k, t, g] ∧
  SlI G .i64 v x.v ∧ SlI G .i64 w x.w ∧ SlI G .i64 t x.exit.to ∧ SlI G .i64 g x.exit.gates
theorem ActV.mono {G G' : GH} {val : Value} {x : Act} (h : ActV G val x) (hg : GLe G G') : ActV G' val x := by
  obtain ⟨v, w, t, g, h1, h2, h3, h4, h5⟩ := h
  exact ⟨v, w, t, g, h1, SlI.mono h2 hg, SlI.mono h3 hg, SlI.mono h4 hg, SlI.mono h5 hg⟩
def zI (r : Option Int × Int × Bd) : (Int × List Int × Int) × Bd := ((r.1.getD 0, [], r.2.1), r.2.2)
def zW (r : Option (List Int) × Int × Bd) : (Int × List Int × Int) × Bd := ((0, r.1.getD [], r.2.1), r.2.2)
/-- What a call answers, and the board behind it. -/
def Bd.act (B : Bd) (x : Act) : (Int × List Int × Int) × Bd :=
  if x.op = 0 then (((B.slot x.slot).1, [], (B.slot x.slot).2.1), (B.slot x.slot).2.2)
  else if x.op = 1 then (((B.put x.gate).1, [], (B.put x.gate).2.1), (B.put x.gate).2.2)
  else if x.op = 2 then ((0, [], (B.tell x.exit).1), (B.tell x.exit).2)
  else if x.op = 3 then (((B.put ⟨2, 0, 0, x.k⟩).1, [], (B.put ⟨2, 0, 0, x.k⟩).2.1), (B.put ⟨2, 0, 0, x.k⟩).2.2)
  else if x.op = 4 then zI (doM B [x.a] (rNot x.a))
  else if x.op = 5 then zI (doM B [x.a, x.b] (rAnd x.a x.b))
  else if x.op = 6 then zI (doM B [x.a, x.b] (rOr x.a x.b))
  else if x.op = 7 then zI (doM B [x.a, x.b] (rXor x.a x.b))
  else if x.op = 8 then zI (doM B [x.c, x.a, x.b] (rPick x.c x.a x.b))
  else if x.op = 9 then zI (wordsM B x.v x.v (rNum x.v))
  else if x.op = 10 then zW (wordsM B x.v x.w (rPlus x.v x.w))
  else if x.op = 11 then zW (wordsM B x.v x.w (rMinus x.v x.w))
  else if x.op = 12 then zW (wordsM B x.v x.w (rTimes x.v x.w))
  else if x.op = 13 then zI (wordsM B x.v x.w (rSame x.v x.w))
  else zI (wordsM B x.v x.w (rBelow x.v x.w))
theorem doR_int {vb : Value} {r : Option Int × Int × Bd} {o : Out} {G' : GH} {Es' : List (List Ent)} (h : DoR vb (.int .i64 0) encZ r o G' Es') :
    o = .ret (.tuple #[.int .i64 (r.1.getD 0), .int .i64 r.2.1]) ∧ BoardV G' vb r.2.2 Es' := by
  obtain ⟨v, h1, h2, h3⟩ := h
  refine ⟨?_, h3⟩
  cases hr : r.1 with
  | none => rw [hr] at h2; simp only at h2; rw [h1, h2]; rfl
  | some x => rw [hr] at h2; simp only [encZ] at h2; rw [h1, h2]; rfl
theorem doR_word {vb : Value} {r : Option (List Int) × Int × Bd} {o : Out} {G' : GH} {Es' : List (List Ent)} (h : DoR vb (.slice Option.none 0 0) encW r o G' Es') :
    ∃ a c, o = .ret (.tuple #[.slice a (r.1.getD []).length c, .int .i64 r.2.1]) ∧ SlI G' .i64 (.slice a (r.1.getD []).length c) (r.1.getD []) ∧ BoardV G' vb r.2.2 Es' := by
  obtain ⟨v, h1, h2, h3⟩ := h
  have hs : SlI G' .i64 v (r.1.getD []) := by
    cases hr : r.1 with
    | none => rw [hr] at h2; simp only at h2; rw [h2]; exact slI_nil
    | some x => rw [hr] at h2; simp only [encW] at h2; exact h2
  have hs0 := hs
  obtain ⟨a, c, rfl, _⟩ := hs
  exact ⟨a, c, h1, hs0, h3⟩

set_option maxHeartbeats 4000000 in
set_option maxRecDepth 20000 in
theorem c_act {G : GH} {vb u : Value} {B : Bd} {x : Act} {Es : List (List Ent)} (hb : BoardV G vb B Es) (hu : ActV G u x) :
    ACalls Try.prog 21 [vb, u] G Es fun o G' Es' => ∃ w, o = .ret (.agg #[.int .i64 (B.act x).1.1, w, .int .i64 (B.act x).1.2.2]) ∧ SlI G' .i64 w (B.act x).1.2.1 ∧ BoardV G' vb (B.act x).2 Es' := by
  obtain ⟨v, w, t, g, rfl, hv, hw, ht, hg⟩ := hu
  have hv0 := hv
  have hw0 := hw
  have ht0 := ht
  have hg0 := hg
  obtain ⟨a1, c1, rfl, -⟩ := hv
  obtain ⟨a2, c2, rfl, -⟩ := hw
  obtain ⟨a3, c3, rfl, -⟩ := ht
  obtain ⟨a4, c4, rfl, -⟩ := hg
  obtain ⟨e0, e1, e2, e3, rfl⟩ := boardV_es hb
  refine acalls mixed k_law13_do (by simp) fun F => ?_
  simp only [GV, frArgs, memArgs, resV, fillL, ← Bool.decide_or, ← Bool.decide_and, ← decide_not, ↓reduceIte, Nat.reduceEqDiff, Nat.reduceAdd, Nat.reduceMul, Nat.reduceLeDiff, Nat.reduceLT, Nat.reduceSub, Nat.succ_ne_zero, Nat.one_ne_zero, Nat.zero_ne_one, true_implies, false_implies, forall_const, implies_true, reduceCtorEq, eq_self, ite_true, ite_false, decide_true, decide_false, Nat.le_refl, Bool.false_eq_true, if_true, if_false]
  intro b103 b104 b105
  refine cond_dec (fun h0 => ?_) (fun h0 => ?_)
  · simp only [GV, frArgs, memArgs, resV, fillL, ← Bool.decide_or, ← Bool.decide_and, ← decide_not, ↓reduceIte, Nat.reduceEqDiff, Nat.reduceAdd, Nat.reduceMul, Nat.reduceLeDiff, Nat.reduceLT, Nat.reduceSub, Nat.succ_ne_zero, Nat.one_ne_zero, Nat.zero_ne_one, true_implies, false_implies, forall_const, implies_true, reduceCtorEq, eq_self, ite_true, ite_false, decide_true, decide_false, Nat.le_refl, Bool.false_eq_true, if_true, if_false]
    refine (c_Slot (s := x.slot) hb).mono ?_
    rintro o G1 Es hg hr
    obtain ⟨rfl, hb⟩ := hr
    obtain ⟨e0, e1, e2, e3, rfl⟩ := boardV_es hb
    simp only [GV, frArgs, memArgs, resV, fillL, ← Bool.decide_or, ← Bool.decide_and, ← decide_not, ↓reduceIte, Nat.reduceEqDiff, Nat.reduceAdd, Nat.reduceMul, Nat.reduceLeDiff, Nat.reduceLT, Nat.reduceSub, Nat.succ_ne_zero, Nat.one_ne_zero, Nat.zero_ne_one, true_implies, false_implies, forall_const, implies_true, reduceCtorEq, eq_self, ite_true, ite_false, decide_true, decide_false, Nat.le_refl, Bool.false_eq_true, if_true, if_false]
    rw [Bd.act, if_pos h0]
    exact ⟨_, rfl, slI_nil, hb⟩
  simp only [GV, frArgs, memArgs, resV, fillL, ← Bool.decide_or, ← Bool.decide_and, ← decide_not, ↓reduceIte, Nat.reduceEqDiff, Nat.reduceAdd, Nat.reduceMul, Nat.reduceLeDiff, Nat.reduceLT, Nat.reduceSub, Nat.succ_ne_zero, Nat.one_ne_zero, Nat.zero_ne_one, true_implies, false_implies, forall_const, implies_true, reduceCtorEq, eq_self, ite_true, ite_false, decide_true, decide_false, Nat.le_refl, Bool.false_eq_true, if_true, if_false]
  refine cond_dec (fun h1 => ?_) (fun h1 => ?_)
  · simp only [GV, frArgs, memArgs, resV, fillL, ← Bool.decide_or, ← Bool.decide_and, ← decide_not, ↓reduceIte, Nat.reduceEqDiff, Nat.reduceAdd, Nat.reduceMul, Nat.reduceLeDiff, Nat.reduceLT, Nat.reduceSub, Nat.succ_ne_zero, Nat.one_ne_zero, Nat.zero_ne_one, true_implies, false_implies, forall_const, implies_true, reduceCtorEq, eq_self, ite_true, ite_false, decide_true, decide_false, Nat.le_refl, Bool.false_eq_true, if_true, if_false]
    refine (c_Put (g := x.gate) hb).mono ?_
    rintro o G1 Es hg hr
    obtain ⟨rfl, hb⟩ := hr
    obtain ⟨e0, e1, e2, e3, rfl⟩ := boardV_es hb
    simp only [GV, frArgs, memArgs, resV, fillL, ← Bool.decide_or, ← Bool.decide_and, ← decide_not, ↓reduceIte, Nat.reduceEqDiff, Nat.reduceAdd, Nat.reduceMul, Nat.reduceLeDiff, Nat.reduceLT, Nat.reduceSub, Nat.succ_ne_zero, Nat.one_ne_zero, Nat.zero_ne_one, true_implies, false_implies, forall_const, implies_true, reduceCtorEq, eq_self, ite_true, ite_false, decide_true, decide_false, Nat.le_refl, Bool.false_eq_true, if_true, if_false]
    rw [Bd.act, if_neg h0, if_pos h1]
    exact ⟨_, rfl, slI_nil, hb⟩
  simp only [GV, frArgs, memArgs, resV, fillL, ← Bool.decide_or, ← Bool.decide_and, ← decide_not, ↓reduceIte, Nat.reduceEqDiff, Nat.reduceAdd, Nat.reduceMul, Nat.reduceLeDiff, Nat.reduceLT, Nat.reduceSub, Nat.succ_ne_zero, Nat.one_ne_zero, Nat.zero_ne_one, true_implies, false_implies, forall_const, implies_true, reduceCtorEq, eq_self, ite_true, ite_false, decide_true, decide_false, Nat.le_refl, Bool.false_eq_true, if_true, if_false]
  refine cond_dec (fun h2 => ?_) (fun h2 => ?_)
  · simp only [GV, frArgs, memArgs, resV, fillL, ← Bool.decide_or, ← Bool.decide_and, ← decide_not, ↓reduceIte, Nat.reduceEqDiff, Nat.reduceAdd, Nat.reduceMul, Nat.reduceLeDiff, Nat.reduceLT, Nat.reduceSub, Nat.succ_ne_zero, Nat.one_ne_zero, Nat.zero_ne_one, true_implies, false_implies, forall_const, implies_true, reduceCtorEq, eq_self, ite_true, ite_false, decide_true, decide_false, Nat.le_refl, Bool.false_eq_true, if_true, if_false]
    refine (c_Tell (x := x.exit) hb ht0 hg0).mono ?_
    rintro o G1 Es hg hr
    obtain ⟨rfl, hb⟩ := hr
    obtain ⟨e0, e1, e2, e3, rfl⟩ := boardV_es hb
    simp only [GV, frArgs, memArgs, resV, fillL, ← Bool.decide_or, ← Bool.decide_and, ← decide_not, ↓reduceIte, Nat.reduceEqDiff, Nat.reduceAdd, Nat.reduceMul, Nat.reduceLeDiff, Nat.reduceLT, Nat.reduceSub, Nat.succ_ne_zero, Nat.one_ne_zero, Nat.zero_ne_one, true_implies, false_implies, forall_const, implies_true, reduceCtorEq, eq_self, ite_true, ite_false, decide_true, decide_false, Nat.le_refl, Bool.false_eq_true, if_true, if_false]
    rw [Bd.act, if_neg h0, if_neg h1, if_pos h2]
    exact ⟨_, rfl, slI_nil, hb⟩
  simp only [GV, frArgs, memArgs, resV, fillL, ← Bool.decide_or, ← Bool.decide_and, ← decide_not, ↓reduceIte, Nat.reduceEqDiff, Nat.reduceAdd, Nat.reduceMul, Nat.reduceLeDiff, Nat.reduceLT, Nat.reduceSub, Nat.succ_ne_zero, Nat.one_ne_zero, Nat.zero_ne_one, true_implies, false_implies, forall_const, implies_true, reduceCtorEq, eq_self, ite_true, ite_false, decide_true, decide_false, Nat.le_refl, Bool.false_eq_true, if_true, if_false]
  refine cond_dec (fun h3 => ?_) (fun h3 => ?_)
  · simp only [GV, frArgs, memArgs, resV, fillL, ← Bool.decide_or, ← Bool.decide_and, ← decide_not, ↓reduceIte, Nat.reduceEqDiff, Nat.reduceAdd, Nat.reduceMul, Nat.reduceLeDiff, Nat.reduceLT, Nat.reduceSub, Nat.succ_ne_zero, Nat.one_ne_zero, Nat.zero_ne_one, true_implies, false_implies, forall_const, implies_true, reduceCtorEq, eq_self, ite_true, ite_false, decide_true, decide_false, Nat.le_refl, Bool.false_eq_true, if_true, if_false]
    refine (c_Const hb).mono ?_
    rintro o G1 Es hg hr
    obtain ⟨rfl, hb⟩ := hr
    obtain ⟨e0, e1, e2, e3, rfl⟩ := boardV_es hb
    simp only [GV, frArgs, memArgs, resV, fillL, ← Bool.decide_or, ← Bool.decide_and, ← decide_not, ↓reduceIte, Nat.reduceEqDiff, Nat.reduceAdd, Nat.reduceMul, Nat.reduceLeDiff, Nat.reduceLT, Nat.reduceSub, Nat.succ_ne_zero, Nat.one_ne_zero, Nat.zero_ne_one, true_implies, false_implies, forall_const, implies_true, reduceCtorEq, eq_self, ite_true, ite_false, decide_true, decide_false, Nat.le_refl, Bool.false_eq_true, if_true, if_false]
    rw [Bd.act, if_neg h0, if_neg h1, if_neg h2, if_pos h3]
    exact ⟨_, rfl, slI_nil, hb⟩
  simp only [GV, frArgs, memArgs, resV, fillL, ← Bool.decide_or, ← Bool.decide_and, ← decide_not, ↓reduceIte, Nat.reduceEqDiff, Nat.reduceAdd, Nat.reduceMul, Nat.reduceLeDiff, Nat.reduceLT, Nat.reduceSub, Nat.succ_ne_zero, Nat.one_ne_zero, Nat.zero_ne_one, true_implies, false_implies, forall_const, implies_true, reduceCtorEq, eq_self, ite_true, ite_false, decide_true, decide_false, Nat.le_refl, Bool.false_eq_true, if_true, if_false]
  refine cond_dec (fun h4 => ?_) (fun h4 => ?_)
  · simp only [GV, frArgs, memArgs, resV, fillL, ← Bool.decide_or, ← Bool.decide_and, ← decide_not, ↓reduceIte, Nat.reduceEqDiff, Nat.reduceAdd, Nat.reduceMul, Nat.reduceLeDiff, Nat.reduceLT, Nat.reduceSub, Nat.succ_ne_zero, Nat.one_ne_zero, Nat.zero_ne_one, true_implies, false_implies, forall_const, implies_true, reduceCtorEq, eq_self, ite_true, ite_false, decide_true, decide_false, Nat.le_refl, Bool.false_eq_true, if_true, if_false]
    refine (c_Not hb).mono ?_
    rintro o G1 Es hg hr
    obtain ⟨rfl, hb⟩ := doR_int hr
    obtain ⟨e0, e1, e2, e3, rfl⟩ := boardV_es hb
    simp only [GV, frArgs, memArgs, resV, fillL, ← Bool.decide_or, ← Bool.decide_and, ← decide_not, ↓reduceIte, Nat.reduceEqDiff, Nat.reduceAdd, Nat.reduceMul, Nat.reduceLeDiff, Nat.reduceLT, Nat.reduceSub, Nat.succ_ne_zero, Nat.one_ne_zero, Nat.zero_ne_one, true_implies, false_implies, forall_const, implies_true, reduceCtorEq, eq_self, ite_true, ite_false, decide_true, decide_false, Nat.le_refl, Bool.false_eq_true, if_true, if_false]
    rw [Bd.act, if_neg h0, if_neg h1, if_neg h2, if_neg h3, if_pos h4]
    exact ⟨_, rfl, slI_nil, hb⟩
  simp only [GV, frArgs, memArgs, resV, fillL, ← Bool.decide_or, ← Bool.decide_and, ← decide_not, ↓reduceIte, Nat.reduceEqDiff, Nat.reduceAdd, Nat.reduceMul, Nat.reduceLeDiff, Nat.reduceLT, Nat.reduceSub, Nat.succ_ne_zero, Nat.one_ne_zero, Nat.zero_ne_one, true_implies, false_implies, forall_const, implies_true, reduceCtorEq, eq_self, ite_true, ite_false, decide_true, decide_false, Nat.le_refl, Bool.false_eq_true, if_true, if_false]
  refine cond_dec (fun h5 => ?_) (fun h5 => ?_)
  · simp only [GV, frArgs, memArgs, resV, fillL, ← Bool.decide_or, ← Bool.decide_and, ← decide_not, ↓reduceIte, Nat.reduceEqDiff, Nat.reduceAdd, Nat.reduceMul, Nat.reduceLeDiff, Nat.reduceLT, Nat.reduceSub, Nat.succ_ne_zero, Nat.one_ne_zero, Nat.zero_ne_one, true_implies, false_implies, forall_const, implies_true, reduceCtorEq, eq_self, ite_true, ite_false, decide_true, decide_false, Nat.le_refl, Bool.false_eq_true, if_true, if_false]
    refine (c_And hb).mono ?_
    rintro o G1 Es hg hr
    obtain ⟨rfl, hb⟩ := doR_int hr
    obtain ⟨e0, e1, e2, e3, rfl⟩ := boardV_es hb
    simp only [GV, frArgs, memArgs, resV, fillL, ← Bool.decide_or, ← Bool.decide_and, ← decide_not, ↓reduceIte, Nat.reduceEqDiff, Nat.reduceAdd, Nat.reduceMul, Nat.reduceLeDiff, Nat.reduceLT, Nat.reduceSub, Nat.succ_ne_zero, Nat.one_ne_zero, Nat.zero_ne_one, true_implies, false_implies, forall_const, implies_true, reduceCtorEq, eq_self, ite_true, ite_false, decide_true, decide_false, Nat.le_refl, Bool.false_eq_true, if_true, if_false]
    rw [Bd.act, if_neg h0, if_neg h1, if_neg h2, if_neg h3, if_neg h4, if_pos h5]
    exact ⟨_, rfl, slI_nil, hb⟩
  simp only [GV, frArgs, memArgs, resV, fillL, ← Bool.decide_or, ← Bool.decide_and, ← decide_not, ↓reduceIte, Nat.reduceEqDiff, Nat.reduceAdd, Nat.reduceMul, Nat.reduceLeDiff, Nat.reduceLT, Nat.reduceSub, Nat.succ_ne_zero, Nat.one_ne_zero, Nat.zero_ne_one, true_implies, false_implies, forall_const, implies_true, reduceCtorEq, eq_self, ite_true, ite_false, decide_true, decide_false, Nat.le_refl, Bool.false_eq_true, if_true, if_false]
  refine cond_dec (fun h6 => ?_) (fun h6 => ?_)
  · simp only [GV, frArgs, memArgs, resV, fillL, ← Bool.decide_or, ← Bool.decide_and, ← decide_not, ↓reduceIte, Nat.reduceEqDiff, Nat.reduceAdd, Nat.reduceMul, Nat.reduceLeDiff, Nat.reduceLT, Nat.reduceSub, Nat.succ_ne_zero, Nat.one_ne_zero, Nat.zero_ne_one, true_implies, false_implies, forall_const, implies_true, reduceCtorEq, eq_self, ite_true, ite_false, decide_true, decide_false, Nat.le_refl, Bool.false_eq_true, if_true, if_false]
    refine (c_Or hb).mono ?_
    rintro o G1 Es hg hr
    obtain ⟨rfl, hb⟩ := doR_int hr
    obtain ⟨e0, e1, e2, e3, rfl⟩ := boardV_es hb
    simp only [GV, frArgs, memArgs, resV, fillL, ← Bool.decide_or, ← Bool.decide_and, ← decide_not, ↓reduceIte, Nat.reduceEqDiff, Nat.reduceAdd, Nat.reduceMul, Nat.reduceLeDiff, Nat.reduceLT, Nat.reduceSub, Nat.succ_ne_zero, Nat.one_ne_zero, Nat.zero_ne_one, true_implies, false_implies, forall_const, implies_true, reduceCtorEq, eq_self, ite_true, ite_false, decide_true, decide_false, Nat.le_refl, Bool.false_eq_true, if_true, if_false]
    rw [Bd.act, if_neg h0, if_neg h1, if_neg h2, if_neg h3, if_neg h4, if_neg h5, if_pos h6]
    exact ⟨_, rfl, slI_nil, hb⟩
  simp only [GV, frArgs, memArgs, resV, fillL, ← Bool.decide_or, ← Bool.decide_and, ← decide_not, ↓reduceIte, Nat.reduceEqDiff, Nat.reduceAdd, Nat.reduceMul, Nat.reduceLeDiff, Nat.reduceLT, Nat.reduceSub, Nat.succ_ne_zero, Nat.one_ne_zero, Nat.zero_ne_one, true_implies, false_implies, forall_const, implies_true, reduceCtorEq, eq_self, ite_true, ite_false, decide_true, decide_false, Nat.le_refl, Bool.false_eq_true, if_true, if_false]
  refine cond_dec (fun h7 => ?_) (fun h7 => ?_)
  · simp only [GV, frArgs, memArgs, resV, fillL, ← Bool.decide_or, ← Bool.decide_and, ← decide_not, ↓reduceIte, Nat.reduceEqDiff, Nat.reduceAdd, Nat.reduceMul, Nat.reduceLeDiff, Nat.reduceLT, Nat.reduceSub, Nat.succ_ne_zero, Nat.one_ne_zero, Nat.zero_ne_one, true_implies, false_implies, forall_const, implies_true, reduceCtorEq, eq_self, ite_true, ite_false, decide_true, decide_false, Nat.le_refl, Bool.false_eq_true, if_true, if_false]
    refine (c_Xor hb).mono ?_
    rintro o G1 Es hg hr
    obtain ⟨rfl, hb⟩ := doR_int hr
    obtain ⟨e0, e1, e2, e3, rfl⟩ := boardV_es hb
    simp only [GV, frArgs, memArgs, resV, fillL, ← Bool.decide_or, ← Bool.decide_and, ← decide_not, ↓reduceIte, Nat.reduceEqDiff, Nat.reduceAdd, Nat.reduceMul, Nat.reduceLeDiff, Nat.reduceLT, Nat.reduceSub, Nat.succ_ne_zero, Nat.one_ne_zero, Nat.zero_ne_one, true_implies, false_implies, forall_const, implies_true, reduceCtorEq, eq_self, ite_true, ite_false, decide_true, decide_false, Nat.le_refl, Bool.false_eq_true, if_true, if_false]
    rw [Bd.act, if_neg h0, if_neg h1, if_neg h2, if_neg h3, if_neg h4, if_neg h5, if_neg h6, if_pos h7]
    exact ⟨_, rfl, slI_nil, hb⟩
  simp only [GV, frArgs, memArgs, resV, fillL, ← Bool.decide_or, ← Bool.decide_and, ← decide_not, ↓reduceIte, Nat.reduceEqDiff, Nat.reduceAdd, Nat.reduceMul, Nat.reduceLeDiff, Nat.reduceLT, Nat.reduceSub, Nat.succ_ne_zero, Nat.one_ne_zero, Nat.zero_ne_one, true_implies, false_implies, forall_const, implies_true, reduceCtorEq, eq_self, ite_true, ite_false, decide_true, decide_false, Nat.le_refl, Bool.false_eq_true, if_true, if_false]
  refine cond_dec (fun h8 => ?_) (fun h8 => ?_)
  · simp only [GV, frArgs, memArgs, resV, fillL, ← Bool.decide_or, ← Bool.decide_and, ← decide_not, ↓reduceIte, Nat.reduceEqDiff, Nat.reduceAdd, Nat.reduceMul, Nat.reduceLeDiff, Nat.reduceLT, Nat.reduceSub, Nat.succ_ne_zero, Nat.one_ne_zero, Nat.zero_ne_one, true_implies, false_implies, forall_const, implies_true, reduceCtorEq, eq_self, ite_true, ite_false, decide_true, decide_false, Nat.le_refl, Bool.false_eq_true, if_true, if_false]
    refine (c_Pick hb).mono ?_
    rintro o G1 Es hg hr
    obtain ⟨rfl, hb⟩ := doR_int hr
    obtain ⟨e0, e1, e2, e3, rfl⟩ := boardV_es hb
    simp only [GV, frArgs, memArgs, resV, fillL, ← Bool.decide_or, ← Bool.decide_and, ← decide_not, ↓reduceIte, Nat.reduceEqDiff, Nat.reduceAdd, Nat.reduceMul, Nat.reduceLeDiff, Nat.reduceLT, Nat.reduceSub, Nat.succ_ne_zero, Nat.one_ne_zero, Nat.zero_ne_one, true_implies, false_implies, forall_const, implies_true, reduceCtorEq, eq_self, ite_true, ite_false, decide_true, decide_false, Nat.le_refl, Bool.false_eq_true, if_true, if_false]
    rw [Bd.act, if_neg h0, if_neg h1, if_neg h2, if_neg h3, if_neg h4, if_neg h5, if_neg h6, if_neg h7, if_pos h8]
    exact ⟨_, rfl, slI_nil, hb⟩
  simp only [GV, frArgs, memArgs, resV, fillL, ← Bool.decide_or, ← Bool.decide_and, ← decide_not, ↓reduceIte, Nat.reduceEqDiff, Nat.reduceAdd, Nat.reduceMul, Nat.reduceLeDiff, Nat.reduceLT, Nat.reduceSub, Nat.succ_ne_zero, Nat.one_ne_zero, Nat.zero_ne_one, true_implies, false_implies, forall_const, implies_true, reduceCtorEq, eq_self, ite_true, ite_false, decide_true, decide_false, Nat.le_refl, Bool.false_eq_true, if_true, if_false]
  refine cond_dec (fun h9 => ?_) (fun h9 => ?_)
  · simp only [GV, frArgs, memArgs, resV, fillL, ← Bool.decide_or, ← Bool.decide_and, ← decide_not, ↓reduceIte, Nat.reduceEqDiff, Nat.reduceAdd, Nat.reduceMul, Nat.reduceLeDiff, Nat.reduceLT, Nat.reduceSub, Nat.succ_ne_zero, Nat.one_ne_zero, Nat.zero_ne_one, true_implies, false_implies, forall_const, implies_true, reduceCtorEq, eq_self, ite_true, ite_false, decide_true, decide_false, Nat.le_refl, Bool.false_eq_true, if_true, if_false]
    refine (c_Num hb hv0).mono ?_
    rintro o G1 Es hg hr
    obtain ⟨rfl, hb⟩ := doR_int hr
    obtain ⟨e0, e1, e2, e3, rfl⟩ := boardV_es hb
    simp only [GV, frArgs, memArgs, resV, fillL, ← Bool.decide_or, ← Bool.decide_and, ← decide_not, ↓reduceIte, Nat.reduceEqDiff, Nat.reduceAdd, Nat.reduceMul, Nat.reduceLeDiff, Nat.reduceLT, Nat.reduceSub, Nat.succ_ne_zero, Nat.one_ne_zero, Nat.zero_ne_one, true_implies, false_implies, forall_const, implies_true, reduceCtorEq, eq_self, ite_true, ite_false, decide_true, decide_false, Nat.le_refl, Bool.false_eq_true, if_true, if_false]
    rw [Bd.act, if_neg h0, if_neg h1, if_neg h2, if_neg h3, if_neg h4, if_neg h5, if_neg h6, if_neg h7, if_neg h8, if_pos h9]
    exact ⟨_, rfl, slI_nil, hb⟩
  simp only [GV, frArgs, memArgs, resV, fillL, ← Bool.decide_or, ← Bool.decide_and, ← decide_not, ↓reduceIte, Nat.reduceEqDiff, Nat.reduceAdd, Nat.reduceMul, Nat.reduceLeDiff, Nat.reduceLT, Nat.reduceSub, Nat.succ_ne_zero, Nat.one_ne_zero, Nat.zero_ne_one, true_implies, false_implies, forall_const, implies_true, reduceCtorEq, eq_self, ite_true, ite_false, decide_true, decide_false, Nat.le_refl, Bool.false_eq_true, if_true, if_false]
  refine cond_dec (fun h10 => ?_) (fun h10 => ?_)
  · simp only [GV, frArgs, memArgs, resV, fillL, ← Bool.decide_or, ← Bool.decide_and, ← decide_not, ↓reduceIte, Nat.reduceEqDiff, Nat.reduceAdd, Nat.reduceMul, Nat.reduceLeDiff, Nat.reduceLT, Nat.reduceSub, Nat.succ_ne_zero, Nat.one_ne_zero, Nat.zero_ne_one, true_implies, false_implies, forall_const, implies_true, reduceCtorEq, eq_self, ite_true, ite_false, decide_true, decide_false, Nat.le_refl, Bool.false_eq_true, if_true, if_false]
    refine (c_Plus hb hv0 hw0).mono ?_
    rintro o G1 Es hg hr
    obtain ⟨a5, c5, rfl, hs, hb⟩ := doR_word hr
    obtain ⟨e0, e1, e2, e3, rfl⟩ := boardV_es hb
    simp only [GV, frArgs, memArgs, resV, fillL, ← Bool.decide_or, ← Bool.decide_and, ← decide_not, ↓reduceIte, Nat.reduceEqDiff, Nat.reduceAdd, Nat.reduceMul, Nat.reduceLeDiff, Nat.reduceLT, Nat.reduceSub, Nat.succ_ne_zero, Nat.one_ne_zero, Nat.zero_ne_one, true_implies, false_implies, forall_const, implies_true, reduceCtorEq, eq_self, ite_true, ite_false, decide_true, decide_false, Nat.le_refl, Bool.false_eq_true, if_true, if_false]
    rw [Bd.act, if_neg h0, if_neg h1, if_neg h2, if_neg h3, if_neg h4, if_neg h5, if_neg h6, if_neg h7, if_neg h8, if_neg h9, if_pos h10]
    exact ⟨_, rfl, hs, hb⟩
  simp only [GV, frArgs, memArgs, resV, fillL, ← Bool.decide_or, ← Bool.decide_and, ← decide_not, ↓reduceIte, Nat.reduceEqDiff, Nat.reduceAdd, Nat.reduceMul, Nat.reduceLeDiff, Nat.reduceLT, Nat.reduceSub, Nat.succ_ne_zero, Nat.one_ne_zero, Nat.zero_ne_one, true_implies, false_implies, forall_const, implies_true, reduceCtorEq, eq_self, ite_true, ite_false, decide_true, decide_false, Nat.le_refl, Bool.false_eq_true, if_true, if_false]
  refine cond_dec (fun h11 => ?_) (fun h11 => ?_)
  · simp only [GV, frArgs, memArgs, resV, fillL, ← Bool.decide_or, ← Bool.decide_and, ← decide_not, ↓reduceIte, Nat.reduceEqDiff, Nat.reduceAdd, Nat.reduceMul, Nat.reduceLeDiff, Nat.reduceLT, Nat.reduceSub, Nat.succ_ne_zero, Nat.one_ne_zero, Nat.zero_ne_one, true_implies, false_implies, forall_const, implies_true, reduceCtorEq, eq_self, ite_true, ite_false, decide_true, decide_false, Nat.le_refl, Bool.false_eq_true, if_true, if_false]
    refine (c_Minus hb hv0 hw0).mono ?_
    rintro o G1 Es hg hr
    obtain ⟨a5, c5, rfl, hs, hb⟩ := doR_word hr
    obtain ⟨e0, e1, e2, e3, rfl⟩ := boardV_es hb
    simp only [GV, frArgs, memArgs, resV, fillL, ← Bool.decide_or, ← Bool.decide_and, ← decide_not, ↓reduceIte, Nat.reduceEqDiff, Nat.reduceAdd, Nat.reduceMul, Nat.reduceLeDiff, Nat.reduceLT, Nat.reduceSub, Nat.succ_ne_zero, Nat.one_ne_zero, Nat.zero_ne_one, true_implies, false_implies, forall_const, implies_true, reduceCtorEq, eq_self, ite_true, ite_false, decide_true, decide_false, Nat.le_refl, Bool.false_eq_true, if_true, if_false]
    rw [Bd.act, if_neg h0, if_neg h1, if_neg h2, if_neg h3, if_neg h4, if_neg h5, if_neg h6, if_neg h7, if_neg h8, if_neg h9, if_neg h10, if_pos h11]
    exact ⟨_, rfl, hs, hb⟩
  simp only [GV, frArgs, memArgs, resV, fillL, ← Bool.decide_or, ← Bool.decide_and, ← decide_not, ↓reduceIte, Nat.reduceEqDiff, Nat.reduceAdd, Nat.reduceMul, Nat.reduceLeDiff, Nat.reduceLT, Nat.reduceSub, Nat.succ_ne_zero, Nat.one_ne_zero, Nat.zero_ne_one, true_implies, false_implies, forall_const, implies_true, reduceCtorEq, eq_self, ite_true, ite_false, decide_true, decide_false, Nat.le_refl, Bool.false_eq_true, if_true, if_false]
  refine cond_dec (fun h12 => ?_) (fun h12 => ?_)
  · simp only [GV, frArgs, memArgs, resV, fillL, ← Bool.decide_or, ← Bool.decide_and, ← decide_not, ↓reduceIte, Nat.reduceEqDiff, Nat.reduceAdd, Nat.reduceMul, Nat.reduceLeDiff, Nat.reduceLT, Nat.reduceSub, Nat.succ_ne_zero, Nat.one_ne_zero, Nat.zero_ne_one, true_implies, false_implies, forall_const, implies_true, reduceCtorEq, eq_self, ite_true, ite_false, decide_true, decide_false, Nat.le_refl, Bool.false_eq_true, if_true, if_false]
    refine (c_Times hb hv0 hw0).mono ?_
    rintro o G1 Es hg hr
    obtain ⟨a5, c5, rfl, hs, hb⟩ := doR_word hr
    obtain ⟨e0, e1, e2, e3, rfl⟩ := boardV_es hb
    simp only [GV, frArgs, memArgs, resV, fillL, ← Bool.decide_or, ← Bool.decide_and, ← decide_not, ↓reduceIte, Nat.reduceEqDiff, Nat.reduceAdd, Nat.reduceMul, Nat.reduceLeDiff, Nat.reduceLT, Nat.reduceSub, Nat.succ_ne_zero, Nat.one_ne_zero, Nat.zero_ne_one, true_implies, false_implies, forall_const, implies_true, reduceCtorEq, eq_self, ite_true, ite_false, decide_true, decide_false, Nat.le_refl, Bool.false_eq_true, if_true, if_false]
    rw [Bd.act, if_neg h0, if_neg h1, if_neg h2, if_neg h3, if_neg h4, if_neg h5, if_neg h6, if_neg h7, if_neg h8, if_neg h9, if_neg h10, if_neg h11, if_pos h12]
    exact ⟨_, rfl, hs, hb⟩
  simp only [GV, frArgs, memArgs, resV, fillL, ← Bool.decide_or, ← Bool.decide_and, ← decide_not, ↓reduceIte, Nat.reduceEqDiff, Nat.reduceAdd, Nat.reduceMul, Nat.reduceLeDiff, Nat.reduceLT, Nat.reduceSub, Nat.succ_ne_zero, Nat.one_ne_zero, Nat.zero_ne_one, true_implies, false_implies, forall_const, implies_true, reduceCtorEq, eq_self, ite_true, ite_false, decide_true, decide_false, Nat.le_refl, Bool.false_eq_true, if_true, if_false]
  refine cond_dec (fun h13 => ?_) (fun h13 => ?_)
  · simp only [GV, frArgs, memArgs, resV, fillL, ← Bool.decide_or, ← Bool.decide_and, ← decide_not, ↓reduceIte, Nat.reduceEqDiff, Nat.reduceAdd, Nat.reduceMul, Nat.reduceLeDiff, Nat.reduceLT, Nat.reduceSub, Nat.succ_ne_zero, Nat.one_ne_zero, Nat.zero_ne_one, true_implies, false_implies, forall_const, implies_true, reduceCtorEq, eq_self, ite_true, ite_false, decide_true, decide_false, Nat.le_refl, Bool.false_eq_true, if_true, if_false]
    refine (c_SameM hb hv0 hw0).mono ?_
    rintro o G1 Es hg hr
    obtain ⟨rfl, hb⟩ := doR_int hr
    obtain ⟨e0, e1, e2, e3, rfl⟩ := boardV_es hb
    simp only [GV, frArgs, memArgs, resV, fillL, ← Bool.decide_or, ← Bool.decide_and, ← decide_not, ↓reduceIte, Nat.reduceEqDiff, Nat.reduceAdd, Nat.reduceMul, Nat.reduceLeDiff, Nat.reduceLT, Nat.reduceSub, Nat.succ_ne_zero, Nat.one_ne_zero, Nat.zero_ne_one, true_implies, false_implies, forall_const, implies_true, reduceCtorEq, eq_self, ite_true, ite_false, decide_true, decide_false, Nat.le_refl, Bool.false_eq_true, if_true, if_false]
    rw [Bd.act, if_neg h0, if_neg h1, if_neg h2, if_neg h3, if_neg h4, if_neg h5, if_neg h6, if_neg h7, if_neg h8, if_neg h9, if_neg h10, if_neg h11, if_neg h12, if_pos h13]
    exact ⟨_, rfl, slI_nil, hb⟩
  simp only [GV, frArgs, memArgs, resV, fillL, ← Bool.decide_or, ← Bool.decide_and, ← decide_not, ↓reduceIte, Nat.reduceEqDiff, Nat.reduceAdd, Nat.reduceMul, Nat.reduceLeDiff, Nat.reduceLT, Nat.reduceSub, Nat.succ_ne_zero, Nat.one_ne_zero, Nat.zero_ne_one, true_implies, false_implies, forall_const, implies_true, reduceCtorEq, eq_self, ite_true, ite_false, decide_true, decide_false, Nat.le_refl, Bool.false_eq_true, if_true, if_false]
  refine (c_LessM hb hv0 hw0).mono ?_
  rintro o G1 Es hg hr
  obtain ⟨rfl, hb⟩ := doR_int hr
  obtain ⟨e0, e1, e2, e3, rfl⟩ := boardV_es hb
  simp only [GV, frArgs, memArgs, resV, fillL, ← Bool.decide_or, ← Bool.decide_and, ← decide_not, ↓reduceIte, Nat.reduceEqDiff, Nat.reduceAdd, Nat.reduceMul, Nat.reduceLeDiff, Nat.reduceLT, Nat.reduceSub, Nat.succ_ne_zero, Nat.one_ne_zero, Nat.zero_ne_one, true_implies, false_implies, forall_const, implies_true, reduceCtorEq, eq_self, ite_true, ite_false, decide_true, decide_false, Nat.le_refl, Bool.false_eq_true, if_true, if_false]
  rw [Bd.act, if_neg h0, if_neg h1, if_neg h2, if_neg h3, if_neg h4, if_neg h5, if_neg h6, if_neg h7, if_neg h8, if_neg h9, if_neg h10, if_neg h11, if_neg h12, if_neg h13]
  exact ⟨_, rfl, slI_nil, hb⟩
end Go.Gv.W
