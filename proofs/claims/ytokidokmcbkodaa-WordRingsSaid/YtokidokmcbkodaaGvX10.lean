/-
  The law that words form a ring holds at every start. No condition.
-/
import Derived.Test.YtokidokmcbkodaaGvX09
namespace Go.Gv.W
set_option linter.unusedSimpArgs false
set_option linter.unusedVariables false
set_option linter.unusedSectionVars false
open Go.RowKit Go.Proofs

/-- junto/juntolaw13.WordRings -/
def r_law13_WordRings : RFn := ⟨217,
  .ghost 110 <|
  .seq (.reg [] [
    ⟨(some 5), none, .box 105 43 (.t 2)⟩,
    ⟨(some 6), none, .mv (.c (.bool false))⟩]) <|
  .keep [0, 1, 5] <|
  .settle 105 <|
  .seq (.reg [] [
    ⟨(some 30), none, .mv (.t 0)⟩,
    ⟨(some 31), none, .call [] [0, 1, 2, 3] 6 [(.t 30)]⟩,
    ⟨(some 29), none, .mv (.t 31)⟩,
    ⟨(some 32), none, .ext 0 (.t 29)⟩,
    ⟨(some 33), none, .ext 1 (.t 29)⟩,
    ⟨(some 7), none, .mv (.t 32)⟩,
    ⟨(some 8), none, .mv (.t 33)⟩]) <|
  .keep [0, 1, 5, 7, 8] <|
  .seq (.seq (.reg [] [
    ⟨(some 34), none, .mv (.t 8)⟩,
    ⟨(some 35), none, .bin .neq (.t 34) (.c (.int .i64 0))⟩]) <|
  .keep [0, 1, 5, 7, 35] <|
  .cond (.t 35)
    (.seq (.reg [] [
      ⟨(some 36), none, .call [] [] 11 []⟩,
      ⟨(some 6), none, .mv (.t 36)⟩]) <|
    .ret)
    (.skip)) <|
  .keep [0, 1, 5, 7] <|
  .seq (.reg [] [
    ⟨(some 37), none, .mv (.t 1)⟩,
    ⟨(some 38), none, .cvi .i64 (.t 37)⟩,
    ⟨(some 39), none, .bin .rem (.t 38) (.c (.int .i64 16))⟩,
    ⟨(some 40), none, .bin .add (.t 39) (.c (.int .i64 1))⟩,
    ⟨(some 9), none, .mv (.t 40)⟩]) <|
  .keep [0, 5, 7, 9] <|
  .seq (.dreg [] <|
    .take 0 ⟨(some 41), none, .mv (.t 7)⟩ <|
    .take 1 ⟨(some 42), none, .mv (.t 9)⟩ <|
    .take 2 ⟨(some 43), none, .iaa 3 1 (.t 5) (.c (.int .i64 0))⟩ <|
    .take 6 ⟨(some 47), none, .mv (.t 7)⟩ <|
    .take 7 ⟨(some 48), none, .mv (.t 9)⟩ <|
    .take 8 ⟨(some 49), none, .iaa 3 1 (.t 5) (.c (.int .i64 1))⟩ <|
    .take 12 ⟨(some 53), none, .mv (.t 7)⟩ <|
    .take 13 ⟨(some 54), none, .mv (.t 9)⟩ <|
    .take 14 ⟨(some 55), none, .iaa 3 1 (.t 5) (.c (.int .i64 2))⟩ <|
    .held 3 ⟨(some 44), none, .ld none none (.t 43)⟩ <|
    .take 4 ⟨(some 45), none, .cvi .u64 (.t 44)⟩ <|
    .held 9 ⟨(some 50), none, .ld none none (.t 49)⟩ <|
    .take 10 ⟨(some 51), none, .cvi .u64 (.t 50)⟩ <|
    .held 15 ⟨(some 56), none, .ld none none (.t 55)⟩ <|
    .take 16 ⟨(some 57), none, .cvi .u64 (.t 56)⟩ <|
    .exec [] 5 ⟨(some 46), none, .call [0, 1, 2, 3] [0, 1, 2, 3] 12 [(.t 41), (.t 42), (.t 45)]⟩ <|
    .exec [] 11 ⟨(some 52), none, .call [0, 1, 2, 3] [0, 1, 2, 3] 12 [(.t 47), (.t 48), (.t 51)]⟩ <|
    .exec [] 17 ⟨(some 58), none, .call [0, 1, 2, 3] [0, 1, 2, 3] 12 [(.t 53), (.t 54), (.t 57)]⟩ <|
    .exec [] 18 ⟨(some 10), none, .mv (.t 46)⟩ <|
    .exec [] 19 ⟨(some 11), none, .mv (.t 52)⟩ <|
    .exec [] 20 ⟨(some 12), none, .mv (.t 58)⟩ <|
    .done) <|
  .keep [0, 7, 10, 11, 12] <|
  .seq (.reg [] [
    ⟨(some 59), none, .mv (.t 7)⟩,
    ⟨(some 60), none, .mv (.t 10)⟩,
    ⟨(some 61), none, .mv (.t 11)⟩,
    ⟨(some 62), none, .call [0, 1, 2, 3] [0, 1, 2, 3] 13 [(.t 59), (.t 60), (.t 61)]⟩,
    ⟨(some 63), none, .mv (.t 7)⟩,
    ⟨(some 64), none, .mv (.t 11)⟩,
    ⟨(some 65), none, .mv (.t 10)⟩,
    ⟨(some 66), none, .call [0, 1, 2, 3] [0, 1, 2, 3] 13 [(.t 63), (.t 64), (.t 65)]⟩,
    ⟨(some 67), none, .bld [(.slice none 0 0), (.slice none 0 0)] [(0, 1), (1, 1), (2, 1), (3, 1)] [(0, (.t 62)), (1, (.t 66))]⟩,
    ⟨(some 68), none, .mv (.t 7)⟩,
    ⟨(some 69), none, .mv (.t 7)⟩,
    ⟨(some 70), none, .mv (.t 10)⟩,
    ⟨(some 71), none, .mv (.t 11)⟩,
    ⟨(some 72), none, .call [0, 1, 2, 3] [0, 1, 2, 3] 13 [(.t 69), (.t 70), (.t 71)]⟩,
    ⟨(some 73), none, .mv (.t 12)⟩,
    ⟨(some 74), none, .call [0, 1, 2, 3] [0, 1, 2, 3] 13 [(.t 68), (.t 72), (.t 73)]⟩,
    ⟨(some 75), none, .mv (.t 7)⟩,
    ⟨(some 76), none, .mv (.t 10)⟩,
    ⟨(some 77), none, .mv (.t 7)⟩,
    ⟨(some 78), none, .mv (.t 11)⟩,
    ⟨(some 79), none, .mv (.t 12)⟩,
    ⟨(some 80), none, .call [0, 1, 2, 3] [0, 1, 2, 3] 13 [(.t 77), (.t 78), (.t 79)]⟩,
    ⟨(some 81), none, .call [0, 1, 2, 3] [0, 1, 2, 3] 13 [(.t 75), (.t 76), (.t 80)]⟩,
    ⟨(some 82), none, .bld [(.slice none 0 0), (.slice none 0 0)] [(0, 1), (1, 1), (2, 1), (3, 1)] [(0, (.t 74)), (1, (.t 81))]⟩,
    ⟨(some 83), none, .mv (.t 7)⟩,
    ⟨(some 84), none, .mv (.t 10)⟩,
    ⟨(some 85), none, .mv (.t 7)⟩,
    ⟨(some 86), none, .mv (.t 11)⟩,
    ⟨(some 87), none, .mv (.t 12)⟩,
    ⟨(some 88), none, .call [0, 1, 2, 3] [0, 1, 2, 3] 13 [(.t 85), (.t 86), (.t 87)]⟩,
    ⟨(some 89), none, .call [0, 1, 2, 3] [0, 1, 2, 3] 14 [(.t 83), (.t 84), (.t 88)]⟩,
    ⟨(some 90), none, .mv (.t 7)⟩,
    ⟨(some 91), none, .mv (.t 7)⟩,
    ⟨(some 92), none, .mv (.t 10)⟩,
    ⟨(some 93), none, .mv (.t 11)⟩,
    ⟨(some 94), none, .call [0, 1, 2, 3] [0, 1, 2, 3] 14 [(.t 91), (.t 92), (.t 93)]⟩,
    ⟨(some 95), none, .mv (.t 7)⟩,
    ⟨(some 96), none, .mv (.t 10)⟩,
    ⟨(some 97), none, .mv (.t 12)⟩,
    ⟨(some 98), none, .call [0, 1, 2, 3] [0, 1, 2, 3] 14 [(.t 95), (.t 96), (.t 97)]⟩,
    ⟨(some 99), none, .call [0, 1, 2, 3] [0, 1, 2, 3] 13 [(.t 90), (.t 94), (.t 98)]⟩,
    ⟨(some 100), none, .bld [(.slice none 0 0), (.slice none 0 0)] [(0, 1), (1, 1), (2, 1), (3, 1)] [(0, (.t 89)), (1, (.t 99))]⟩,
    ⟨(some 101), none, .mv (.t 7)⟩,
    ⟨(some 102), none, .mv (.t 10)⟩,
    ⟨(some 103), none, .mv (.t 11)⟩,
    ⟨(some 104), none, .call [0, 1, 2, 3] [0, 1, 2, 3] 14 [(.t 101), (.t 102), (.t 103)]⟩,
    ⟨(some 105), none, .mv (.t 7)⟩,
    ⟨(some 106), none, .mv (.t 11)⟩,
    ⟨(some 107), none, .mv (.t 10)⟩,
    ⟨(some 108), none, .call [0, 1, 2, 3] [0, 1, 2, 3] 14 [(.t 105), (.t 106), (.t 107)]⟩,
    ⟨(some 109), none, .bld [(.slice none 0 0), (.slice none 0 0)] [(0, 1), (1, 1), (2, 1), (3, 1)] [(0, (.t 104)), (1, (.t 108))]⟩,
    ⟨(some 110), none, .mv (.t 7)⟩,
    ⟨(some 111), none, .mv (.t 7)⟩,
    ⟨(some 112), none, .mv (.t 10)⟩,
    ⟨(some 113), none, .mv (.t 11)⟩,
    ⟨(some 114), none, .call [0, 1, 2, 3] [0, 1, 2, 3] 13 [(.t 111), (.t 112), (.t 113)]⟩,
    ⟨(some 115), none, .mv (.t 11)⟩,
    ⟨(some 116), none, .call [0, 1, 2, 3] [0, 1, 2, 3] 15 [(.t 110), (.t 114), (.t 115)]⟩,
    ⟨(some 117), none, .mv (.t 10)⟩,
    ⟨(some 118), none, .bld [(.slice none 0 0), (.slice none 0 0)] [(0, 1), (1, 1), (2, 1), (3, 1)] [(0, (.t 116)), (1, (.t 117))]⟩,
    ⟨(some 119), none, .bsl none 47 5 2 [(.slice none 0 0), (.slice none 0 0), (.slice none 0 0), (.slice none 0 0), (.slice none 0 0), (.slice none 0 0), (.slice none 0 0), (.slice none 0 0), (.slice none 0 0), (.slice none 0 0)] [(0, 2), (2, 2), (4, 2), (6, 2), (8, 2)] [(0, (.t 67)), (1, (.t 82)), (2, (.t 100)), (3, (.t 109)), (4, (.t 118))]⟩,
    ⟨(some 13), none, .mv (.t 119)⟩]) <|
  .keep [0, 7, 10, 11, 13] <|
  .seq (.reg [] [
    ⟨(some 14), none, .mv (.c (.slice none 0 0))⟩]) <|
  .keep [0, 7, 10, 11, 13, 14] <|
  .seq (.seq (.reg [] [
    ⟨(some 120), none, .mv (.t 13)⟩,
    ⟨(some 121), none, .len (.t 120)⟩,
    ⟨(some 122), none, .mv (.c (.int .i64 0))⟩]) <|
  .keep [0, 7, 10, 11, 14, 120, 121, 122] <|
  .block 0 <|
  .loop [0, 7, 10, 11, 14, 120, 121, 122] [110, 0, 1, 2, 3, 1000000] <|
  .seq (.reg [] [
    ⟨(some 123), none, .bin .lss (.t 122) (.t 121)⟩]) <|
  .keep [0, 7, 10, 11, 14, 120, 121, 122, 123] <|
  .seq (.cond (.t 123)
    (.skip)
    (.exit 0)) <|
  .keep [0, 7, 10, 11, 14, 120, 121, 122] <|
  .seq (.block 1 <|
  .seq (.reg [] [
    ⟨(some 124), none, .iad 2 (.t 120) (.t 122)⟩,
    ⟨(some 125), none, .ld (some 2) none (.t 124)⟩,
    ⟨(some 16), none, .new 116 47 [(.slice none 0 0), (.slice none 0 0)]⟩,
    ⟨none, none, .st 2 116 0 (.t 16) (.t 125)⟩]) <|
  .keep [0, 7, 10, 11, 14, 16, 120, 121, 122] <|
  .seq (.reg [] [
    ⟨(some 127), none, .mv (.t 7)⟩,
    ⟨(some 128), none, .iaa 2 1 (.t 16) (.c (.int .i64 0))⟩,
    ⟨(some 129), none, .ld none (some (116, 0)) (.t 128)⟩,
    ⟨(some 130), none, .iaa 2 1 (.t 16) (.c (.int .i64 1))⟩,
    ⟨(some 131), none, .ld none (some (116, 0)) (.t 130)⟩,
    ⟨(some 132), none, .call [0, 1, 2, 3] [0, 1, 2, 3] 16 [(.t 127), (.t 129), (.t 131)]⟩,
    ⟨(some 126), none, .mv (.t 132)⟩,
    ⟨(some 133), none, .ext 0 (.t 126)⟩,
    ⟨(some 134), none, .ext 1 (.t 126)⟩,
    ⟨(some 17), none, .mv (.t 133)⟩,
    ⟨(some 18), none, .mv (.t 134)⟩]) <|
  .keep [0, 7, 10, 11, 14, 17, 18, 120, 121, 122] <|
  .seq (.seq (.reg [] [
    ⟨(some 135), none, .mv (.t 18)⟩,
    ⟨(some 136), none, .bin .neq (.t 135) (.c (.int .i64 0))⟩]) <|
  .keep [0, 7, 10, 11, 14, 17, 120, 121, 122, 136] <|
  .cond (.t 136)
    (.seq (.reg [] [
      ⟨(some 6), none, .mv (.c (.bool false))⟩]) <|
    .ret)
    (.skip)) <|
  .keep [0, 7, 10, 11, 14, 17, 120, 121, 122] <|
  .reg [] [
    ⟨(some 137), none, .mv (.t 14)⟩,
    ⟨(some 138), none, .mv (.t 17)⟩,
    ⟨(some 139), none, .bsl none 3 1 1 [(.int .i64 0)] [(0, 1)] [(0, (.t 138))]⟩,
    ⟨(some 140), none, .app (some 110) 110 3 1 8 (.t 137) (.t 139)⟩,
    ⟨(some 14), none, .mv (.t 140)⟩]) <|
  .keep [0, 7, 10, 11, 14, 120, 121, 122] <|
  .reg [] [
    ⟨(some 141), none, .bin .add (.t 122) (.c (.int .i64 1))⟩,
    ⟨(some 122), none, .mv (.t 141)⟩]) <|
  .keep [0, 7, 10, 11, 14] <|
  .seq (.reg [] [
    ⟨(some 143), none, .mv (.t 7)⟩,
    ⟨(some 144), none, .mv (.t 10)⟩,
    ⟨(some 145), none, .mv (.t 11)⟩,
    ⟨(some 146), none, .call [0, 1, 2, 3] [0, 1, 2, 3] 17 [(.t 143), (.t 144), (.t 145)]⟩,
    ⟨(some 142), none, .mv (.t 146)⟩,
    ⟨(some 147), none, .ext 0 (.t 142)⟩,
    ⟨(some 148), none, .ext 1 (.t 142)⟩,
    ⟨(some 19), none, .mv (.t 147)⟩,
    ⟨(some 20), none, .mv (.t 148)⟩]) <|
  .keep [0, 7, 10, 11, 14, 19] <|
  .seq (.reg [] [
    ⟨(some 150), none, .mv (.t 7)⟩,
    ⟨(some 151), none, .mv (.t 11)⟩,
    ⟨(some 152), none, .mv (.t 10)⟩,
    ⟨(some 153), none, .call [0, 1, 2, 3] [0, 1, 2, 3] 17 [(.t 150), (.t 151), (.t 152)]⟩,
    ⟨(some 149), none, .mv (.t 153)⟩,
    ⟨(some 154), none, .ext 0 (.t 149)⟩,
    ⟨(some 155), none, .ext 1 (.t 149)⟩,
    ⟨(some 21), none, .mv (.t 154)⟩,
    ⟨(some 22), none, .mv (.t 155)⟩]) <|
  .keep [0, 7, 10, 11, 14, 19, 21] <|
  .seq (.reg [] [
    ⟨(some 157), none, .mv (.t 7)⟩,
    ⟨(some 158), none, .mv (.t 10)⟩,
    ⟨(some 159), none, .mv (.t 11)⟩,
    ⟨(some 160), none, .call [0, 1, 2, 3] [0, 1, 2, 3] 16 [(.t 157), (.t 158), (.t 159)]⟩,
    ⟨(some 156), none, .mv (.t 160)⟩,
    ⟨(some 161), none, .ext 0 (.t 156)⟩,
    ⟨(some 162), none, .ext 1 (.t 156)⟩,
    ⟨(some 23), none, .mv (.t 161)⟩,
    ⟨(some 24), none, .mv (.t 162)⟩]) <|
  .keep [0, 7, 14, 19, 21, 23, 24] <|
  .seq (.reg [] [
    ⟨(some 163), none, .mv (.t 7)⟩,
    ⟨(some 164), none, .call [0, 1, 2, 3] [0, 1, 2, 3] 10 [(.t 163)]⟩,
    ⟨(some 25), none, .new 125 39 [(.slice none 0 0), (.slice none 0 0), (.slice none 0 0)]⟩,
    ⟨none, none, .st 3 125 0 (.t 25) (.t 164)⟩]) <|
  .keep [0, 14, 19, 21, 23, 24, 25] <|
  .settle 125 <|
  .seq (.seq (.dreg [] <|
    .exec [] 0 ⟨(some 165), none, .mv (.t 24)⟩ <|
    .exec [] 1 ⟨(some 166), none, .bin .neq (.t 165) (.c (.int .i64 0))⟩ <|
    .exec [] 2 ⟨(some 167), none, .mv (.t 166)⟩ <|
    .take 3 ⟨(some 168), (some (167, false, false)), .mv (.t 0)⟩ <|
    .exec [] 4 ⟨(some 169), (some (167, false, false)), .ld (some 3) none (.t 25)⟩ <|
    .exec [] 5 ⟨(some 170), (some (167, false, false)), .call [] [] 18 [(.t 168), (.t 169)]⟩ <|
    .exec [] 6 ⟨(some 171), (some (167, false, false)), .bin .neq (.t 170) (.c (.int .i64 0))⟩ <|
    .exec [] 7 ⟨(some 172), none, .pick (.t 167) (.c (.bool true)) (.t 171)⟩ <|
    .exec [] 8 ⟨(some 173), none, .mv (.t 172)⟩ <|
    .take 10 ⟨(some 175), (some (173, false, false)), .mv (.t 19)⟩ <|
    .take 11 ⟨(some 176), (some (173, false, false)), .mv (.t 21)⟩ <|
    .take 12 ⟨(some 177), (some (173, false, false)), .mv (.t 23)⟩ <|
    .take 14 ⟨(some 179), (some (173, false, false)), .mv (.t 14)⟩ <|
    .held 9 ⟨(some 174), (some (173, false, false)), .ld (some 3) none (.t 25)⟩ <|
    .exec [] 13 ⟨(some 178), (some (173, false, false)), .bsl (some 111) 3 3 1 [(.int .i64 0), (.int .i64 0), (.int .i64 0)] [(0, 1), (1, 1), (2, 1)] [(0, (.t 175)), (1, (.t 176)), (2, (.t 177))]⟩ <|
    .exec [] 15 ⟨(some 180), (some (173, false, false)), .app (some 111) 111 3 1 8 (.t 178) (.t 179)⟩ <|
    .exec [] 16 ⟨(some 181), (some (173, false, false)), .call [] [] 19 [(.t 174), (.t 180)]⟩ <|
    .exec [] 17 ⟨(some 182), (some (173, false, false)), .bin .neq (.t 181) (.c (.int .i64 0))⟩ <|
    .exec [] 18 ⟨(some 183), none, .pick (.t 173) (.c (.bool true)) (.t 182)⟩ <|
    .done) <|
  .keep [0, 14, 19, 21, 23, 25, 183] <|
  .cond (.t 183)
    (.seq (.reg [] [
      ⟨(some 6), none, .mv (.c (.bool false))⟩]) <|
    .ret)
    (.skip)) <|
  .keep [0, 14, 19, 21, 23, 25] <|
  .seq (.reg [] [
    ⟨(some 184), none, .mv (.t 0)⟩,
    ⟨(some 185), none, .ld (some 3) none (.t 25)⟩,
    ⟨(some 186), none, .call [] [] 20 [(.t 184), (.t 185), (.c (.slice none 0 0))]⟩,
    ⟨(some 26), none, .mv (.t 186)⟩]) <|
  .keep [14, 19, 21, 23, 26] <|
  .seq (.seq (.reg [] [
    ⟨(some 187), none, .mv (.t 14)⟩,
    ⟨(some 188), none, .len (.t 187)⟩,
    ⟨(some 189), none, .mv (.c (.int .i64 0))⟩]) <|
  .keep [19, 21, 23, 26, 187, 188, 189] <|
  .block 2 <|
  .loop [19, 21, 23, 26, 187, 188, 189] [110, 0, 1, 2, 3, 111, 1000000] <|
  .seq (.reg [] [
    ⟨(some 190), none, .bin .lss (.t 189) (.t 188)⟩]) <|
  .keep [19, 21, 23, 26, 187, 188, 189, 190] <|
  .seq (.cond (.t 190)
    (.skip)
    (.exit 2)) <|
  .keep [19, 21, 23, 26, 187, 188, 189] <|
  .seq (.block 3 <|
  .seq (.reg [] [
    ⟨(some 191), none, .iad 1 (.t 187) (.t 189)⟩,
    ⟨(some 192), none, .ld none none (.t 191)⟩,
    ⟨(some 28), none, .mv (.t 192)⟩]) <|
  .keep [19, 21, 23, 26, 28, 187, 188, 189] <|
  .seq (.reg [] [
    ⟨(some 193), none, .mv (.t 26)⟩,
    ⟨(some 194), none, .mv (.t 28)⟩,
    ⟨(some 195), none, .iad 1 (.t 193) (.t 194)⟩,
    ⟨(some 196), none, .ld none none (.t 195)⟩,
    ⟨(some 197), none, .bin .neq (.t 196) (.c (.int .u64 1))⟩]) <|
  .keep [19, 21, 23, 26, 187, 188, 189, 197] <|
  .cond (.t 197)
    (.seq (.reg [] [
      ⟨(some 6), none, .mv (.c (.bool false))⟩]) <|
    .ret)
    (.skip)) <|
  .keep [19, 21, 23, 26, 187, 188, 189] <|
  .reg [] [
    ⟨(some 198), none, .bin .add (.t 189) (.c (.int .i64 1))⟩,
    ⟨(some 189), none, .mv (.t 198)⟩]) <|
  .keep [19, 21, 23, 26] <|
  .seq (.dreg [] <|
    .take 0 ⟨(some 199), none, .mv (.t 26)⟩ <|
    .take 1 ⟨(some 200), none, .mv (.t 19)⟩ <|
    .take 2 ⟨(some 201), none, .iad 1 (.t 199) (.t 200)⟩ <|
    .take 4 ⟨(some 203), none, .mv (.t 26)⟩ <|
    .take 5 ⟨(some 204), none, .mv (.t 21)⟩ <|
    .take 6 ⟨(some 205), none, .iad 1 (.t 203) (.t 204)⟩ <|
    .take 9 ⟨(some 208), none, .mv (.t 26)⟩ <|
    .take 10 ⟨(some 209), none, .mv (.t 23)⟩ <|
    .take 11 ⟨(some 210), none, .iad 1 (.t 208) (.t 209)⟩ <|
    .held 3 ⟨(some 202), none, .ld none none (.t 201)⟩ <|
    .held 7 ⟨(some 206), none, .ld none none (.t 205)⟩ <|
    .take 8 ⟨(some 207), none, .bin .add (.t 202) (.t 206)⟩ <|
    .exec [] 12 ⟨(some 211), none, .ld none none (.t 210)⟩ <|
    .exec [] 13 ⟨(some 212), none, .bin .add (.t 207) (.t 211)⟩ <|
    .exec [] 14 ⟨(some 213), none, .bin .eql (.t 212) (.c (.int .u64 1))⟩ <|
    .exec [] 15 ⟨(some 214), none, .mv (.t 213)⟩ <|
    .exec [] 16 ⟨(some 215), (some (214, true, false)), .call [] [] 11 []⟩ <|
    .exec [] 17 ⟨(some 216), none, .pick (.t 214) (.t 215) (.c (.bool false))⟩ <|
    .exec [] 18 ⟨(some 6), none, .mv (.t 216)⟩ <|
    .done) <|
  .ret,
  [.tmp 6], [], []⟩

theorem k_law13_WordRings : rbFn Try.prog 4 r_law13_WordRings = some r_law13_WordRings := by kernel_rfl


/-- A board of this prime without slots and exits. -/
def Inv (p : Nat) (B : Bd) : Prop := B.p = p ∧ B.c.slots = [] ∧ B.c.exits = []
theorem Inv.up {p n mu : Nat} {B B' : Bd} (h : Inv p B) (hm : More B B' n mu) : Inv p B' := by
  obtain ⟨gs, rfl, -, -⟩ := hm
  exact h
theorem Inv.err {p : Nat} {B : Bd} (h : Inv p B) (hg : Good [] B) (hp : isP p = true) : circErr p B.c = 0 := by
  obtain ⟨rfl, h2, h3⟩ := h
  have h4 := hg.gates
  have h5 := hg.lim
  rw [h2, List.length_nil] at h4
  simp only [circErr, hp, h2, h3, List.length_nil, List.any_nil, exitsErr]
  rw [if_neg (by simp), if_neg (by omega), if_neg (by simp), if_neg (by rw [h4]; simp)]

theorem Bts.ones {ins : List Nat} {B : Bd} : ∀ {l : List Int} {n : Nat}, Bts ins B l (List.replicate n true) → ∀ q ∈ l, Bt ins B q true
  | a :: l, n + 1, h, q, hq => by
    rw [List.replicate_succ] at h
    rcases List.mem_cons.1 hq with rfl | hq
    · exact h.1
    · exact Bts.ones h.2 q hq
  | [], _, _, q, hq => by simp at hq
  | _ :: _, 0, h, _, _ => h.elim

theorem cells_two {G : GH} {b o : Nat} {u w : Value} (h0 : G b o = some u) (h1 : G b (o + 1) = some w) : cellsG G b o 2 = some [u, w] :=
  (cellsG_iff _ _ _ _ _).2 ⟨rfl, fun i v hv => by
    match i, hv with
    | 0, hv => cases hv; exact h0
    | 1, hv => cases hv; exact h1⟩

set_option maxHeartbeats 4000000 in
set_option maxRecDepth 20000 in
theorem c_WordRings {G : GH} {p k0 q0 q1 q2 : Nat} (hk0 : k0 < 256) (h0 : q0 < 65536) (h1 : q1 < 65536) (h2 : q2 < 65536) :
    ACalls Try.prog 4 [.int .u64 p, .int .u8 k0, .agg #[.int .u16 q0, .int .u16 q1, .int .u16 q2]] G [] fun o G' Es' => o = .ret (.bool true) ∧ Es' = [] := by
  refine acalls mixed k_law13_WordRings (by simp) fun F => ?_
  simp only [GV, frArgs, memArgs, resV, fillL, ← Bool.decide_or, ← Bool.decide_and, ← decide_not, ↓reduceIte, Nat.reduceEqDiff, Nat.reduceAdd, Nat.reduceMul, Nat.reduceLeDiff, Nat.reduceLT, Nat.reduceSub, Nat.succ_ne_zero, Nat.one_ne_zero, Nat.zero_ne_one, true_implies, false_implies, forall_const, implies_true, reduceCtorEq, eq_self, ite_true, ite_false, decide_true, decide_false, Nat.le_refl, Bool.false_eq_true, if_true, if_false]
  intro bq
  refine settle_intro fun G1 hg1 hc1 => ?_
  have hq0 : G1 bq 0 = some (.int .u16 q0) := hc1 0 _ rfl
  have hq1 : G1 bq 1 = some (.int .u16 q1) := hc1 1 _ rfl
  have hq2 : G1 bq 2 = some (.int .u16 q2) := hc1 2 _ rfl
  simp only [GV, frArgs, memArgs, resV, fillL, ← Bool.decide_or, ← Bool.decide_and, ← decide_not, ↓reduceIte, Nat.reduceEqDiff, Nat.reduceAdd, Nat.reduceMul, Nat.reduceLeDiff, Nat.reduceLT, Nat.reduceSub, Nat.succ_ne_zero, Nat.one_ne_zero, Nat.zero_ne_one, true_implies, false_implies, forall_const, implies_true, reduceCtorEq, eq_self, ite_true, ite_false, decide_true, decide_false, Nat.le_refl, Bool.false_eq_true, if_true, if_false]
  refine (c_New (p := p)).mono ?_
  rintro o G2 Es hg2 ⟨vb, rfl, hb⟩
  obtain ⟨e0, e1, e2, e3, rfl⟩ := boardV_es hb
  simp only [GV, frArgs, memArgs, resV, fillL, ← Bool.decide_or, ← Bool.decide_and, ← decide_not, ↓reduceIte, Nat.reduceEqDiff, Nat.reduceAdd, Nat.reduceMul, Nat.reduceLeDiff, Nat.reduceLT, Nat.reduceSub, Nat.succ_ne_zero, Nat.one_ne_zero, Nat.zero_ne_one, true_implies, false_implies, forall_const, implies_true, reduceCtorEq, eq_self, ite_true, ite_false, decide_true, decide_false, Nat.le_refl, Bool.false_eq_true, if_true, if_false]
  refine cond_dec (fun h => ?_) (fun h => ?_)
  · simp only [GV, frArgs, memArgs, resV, fillL, ← Bool.decide_or, ← Bool.decide_and, ← decide_not, ↓reduceIte, Nat.reduceEqDiff, Nat.reduceAdd, Nat.reduceMul, Nat.reduceLeDiff, Nat.reduceLT, Nat.reduceSub, Nat.succ_ne_zero, Nat.one_ne_zero, Nat.zero_ne_one, true_implies, false_implies, forall_const, implies_true, reduceCtorEq, eq_self, ite_true, ite_false, decide_true, decide_false, Nat.le_refl, Bool.false_eq_true, if_true, if_false]
    refine c_alive.mono ?_
    rintro o G7 Es hg7 ⟨rfl, rfl⟩
    simp only [GV, frArgs, memArgs, resV, fillL, ← Bool.decide_or, ← Bool.decide_and, ← decide_not, ↓reduceIte, Nat.reduceEqDiff, Nat.reduceAdd, Nat.reduceMul, Nat.reduceLeDiff, Nat.reduceLT, Nat.reduceSub, Nat.succ_ne_zero, Nat.one_ne_zero, Nat.zero_ne_one, true_implies, false_implies, forall_const, implies_true, reduceCtorEq, eq_self, ite_true, ite_false, decide_true, decide_false, Nat.le_refl, Bool.false_eq_true, if_true, if_false]
  have hip : isP p = true := by
    cases hq : isP p with
    | true => rfl
    | false => rw [hq] at h; simp at h
  rw [hip] at hb
  simp only [if_true] at hb
  have hgd := isP_good hip
  have hlen0 : (⟨p, .none⟩ : Bd).c.gates.length = 0 := rfl
  have hI : Inv p ⟨p, .none⟩ := ⟨rfl, rfl, rfl⟩
  generalize (⟨p, .none⟩ : Bd) = B at hb hgd hlen0 hI
  have hbits : ∃ k : Nat, 1 ≤ k ∧ k ≤ 16 ∧ IntKind.i64.wrap ((IntKind.i64.wrap (k0 : Int)).tmod 16 + 1) = (k : Int) := by
    refine ⟨k0 % 16 + 1, by omega, by omega, ?_⟩
    have e : IntKind.i64.wrap (k0 : Int) = k0 := wrap64 (by omega) (by omega)
    rw [e, show (16 : Int) = ((16 : Nat) : Int) from rfl, tmodn, wrap64 (by omega) (by omega)]
    rfl
  obtain ⟨k, hk1, hk16, hbits⟩ := hbits
  have hz0 : IntKind.u64.wrap (q0 : Int) = q0 := wrapu (by omega) (by omega)
  have hz1 : IntKind.u64.wrap (q1 : Int) = q1 := wrapu (by omega) (by omega)
  have hz2 : IntKind.u64.wrap (q2 : Int) = q2 := wrapu (by omega) (by omega)
  replace hq0 := hg2 _ _ _ hq0
  replace hq1 := hg2 _ _ _ hq1
  replace hq2 := hg2 _ _ _ hq2
  have tn0 : Int.toNat 0 = 0 := rfl
  have tn1 : Int.toNat 1 = 1 := rfl
  have tn2 : Int.toNat 2 = 2 := rfl
  have hkk : 16 * k * k ≤ 4096 := by
    have := Nat.mul_le_mul hk16 hk16
    rw [Nat.mul_assoc]; omega
  simp only [GV, frArgs, memArgs, resV, fillL, ← Bool.decide_or, ← Bool.decide_and, ← decide_not, ↓reduceIte, Nat.reduceEqDiff, Nat.reduceAdd, Nat.reduceMul, Nat.reduceLeDiff, Nat.reduceLT, Nat.reduceSub, Nat.succ_ne_zero, Nat.one_ne_zero, Nat.zero_ne_one, true_implies, false_implies, forall_const, implies_true, reduceCtorEq, eq_self, ite_true, ite_false, decide_true, decide_false, Nat.le_refl, Bool.false_eq_true, if_true, if_false, hbits, hz0, hz1, hz2, Nat.mul_one, tn0, tn1, tn2]
  refine ⟨by omega, by omega, by omega, by omega, ?_⟩
  simp only [GV, frArgs, memArgs, resV, fillL, ← Bool.decide_or, ← Bool.decide_and, ← decide_not, ↓reduceIte, Nat.reduceEqDiff, Nat.reduceAdd, Nat.reduceMul, Nat.reduceLeDiff, Nat.reduceLT, Nat.reduceSub, Nat.succ_ne_zero, Nat.one_ne_zero, Nat.zero_ne_one, true_implies, false_implies, forall_const, implies_true, reduceCtorEq, eq_self, ite_true, ite_false, decide_true, decide_false, Nat.le_refl, Bool.false_eq_true, if_true, if_false, hq0, hq1, hq2, hz0, hz1, hz2, Nat.mul_one, tn0, tn1, tn2]
  refine (c_ofW hb hgd hk16 (by omega)).mono ?_
  rintro o G3 Es hg3 ⟨ux, B', qx, rfl, hb', hmo, hgd', hWx⟩
  have hln : B'.c.gates.length ≤ 16 := by have := hmo.len; omega
  replace hI := hI.up hmo
  replace hq0 := hg3 _ _ _ hq0
  replace hq1 := hg3 _ _ _ hq1
  replace hq2 := hg3 _ _ _ hq2
  clear hb hgd hmo hlen0 hg3
  obtain ⟨hb, hgd, hlen0⟩ : BoardV G3 vb B' Es ∧ Good [] B' ∧ B'.c.gates.length ≤ 16 := ⟨hb', hgd', hln⟩
  clear hb' hgd' hln
  obtain ⟨e0, e1, e2, e3, rfl⟩ := boardV_es hb
  obtain ⟨ax, cx, rfl⟩ := hWx.1
  simp only [GV, frArgs, memArgs, resV, fillL, ← Bool.decide_or, ← Bool.decide_and, ← decide_not, ↓reduceIte, Nat.reduceEqDiff, Nat.reduceAdd, Nat.reduceMul, Nat.reduceLeDiff, Nat.reduceLT, Nat.reduceSub, Nat.succ_ne_zero, Nat.one_ne_zero, Nat.zero_ne_one, true_implies, false_implies, forall_const, implies_true, reduceCtorEq, eq_self, ite_true, ite_false, decide_true, decide_false, Nat.le_refl, Bool.false_eq_true, if_true, if_false, hq0, hq1, hq2, Nat.mul_one, tn0, tn1, tn2]
  refine (c_ofW hb hgd hk16 (by omega)).mono ?_
  rintro o G3 Es hg3 ⟨uy, B', qy, rfl, hb', hmo, hgd', hWy⟩
  have hln : B'.c.gates.length ≤ 32 := by have := hmo.len; omega
  replace hI := hI.up hmo
  replace hWx := hWx.up hg3 hmo
  replace hq0 := hg3 _ _ _ hq0
  replace hq1 := hg3 _ _ _ hq1
  replace hq2 := hg3 _ _ _ hq2
  clear hb hgd hmo hlen0 hg3
  obtain ⟨hb, hgd, hlen0⟩ : BoardV G3 vb B' Es ∧ Good [] B' ∧ B'.c.gates.length ≤ 32 := ⟨hb', hgd', hln⟩
  clear hb' hgd' hln
  obtain ⟨e0, e1, e2, e3, rfl⟩ := boardV_es hb
  obtain ⟨ay, cy, rfl⟩ := hWy.1
  simp only [GV, frArgs, memArgs, resV, fillL, ← Bool.decide_or, ← Bool.decide_and, ← decide_not, ↓reduceIte, Nat.reduceEqDiff, Nat.reduceAdd, Nat.reduceMul, Nat.reduceLeDiff, Nat.reduceLT, Nat.reduceSub, Nat.succ_ne_zero, Nat.one_ne_zero, Nat.zero_ne_one, true_implies, false_implies, forall_const, implies_true, reduceCtorEq, eq_self, ite_true, ite_false, decide_true, decide_false, Nat.le_refl, Bool.false_eq_true, if_true, if_false, hq0, hq1, hq2, Nat.mul_one, tn0, tn1, tn2]
  refine (c_ofW hb hgd hk16 (by omega)).mono ?_
  rintro o G3 Es hg3 ⟨uz, B', qz, rfl, hb', hmo, hgd', hWz⟩
  have hln : B'.c.gates.length ≤ 48 := by have := hmo.len; omega
  replace hI := hI.up hmo
  replace hWx := hWx.up hg3 hmo
  replace hWy := hWy.up hg3 hmo
  replace hq0 := hg3 _ _ _ hq0
  replace hq1 := hg3 _ _ _ hq1
  replace hq2 := hg3 _ _ _ hq2
  clear hb hgd hmo hlen0 hg3
  obtain ⟨hb, hgd, hlen0⟩ : BoardV G3 vb B' Es ∧ Good [] B' ∧ B'.c.gates.length ≤ 48 := ⟨hb', hgd', hln⟩
  clear hb' hgd' hln
  obtain ⟨e0, e1, e2, e3, rfl⟩ := boardV_es hb
  obtain ⟨az, cz, rfl⟩ := hWz.1
  simp only [GV, frArgs, memArgs, resV, fillL, ← Bool.decide_or, ← Bool.decide_and, ← decide_not, ↓reduceIte, Nat.reduceEqDiff, Nat.reduceAdd, Nat.reduceMul, Nat.reduceLeDiff, Nat.reduceLT, Nat.reduceSub, Nat.succ_ne_zero, Nat.one_ne_zero, Nat.zero_ne_one, true_implies, false_implies, forall_const, implies_true, reduceCtorEq, eq_self, ite_true, ite_false, decide_true, decide_false, Nat.le_refl, Bool.false_eq_true, if_true, if_false, hq0, hq1, hq2, Nat.mul_one, tn0, tn1, tn2]
  refine (c_plusW hb hgd hWx hWy hk1 hk16 (by omega)).mono ?_
  rintro o G3 Es hg3 ⟨ua1, B', rfl, hb', hmo, hgd', hWa1⟩
  have hln : B'.c.gates.length ≤ 193 := by have := hmo.len; omega
  replace hI := hI.up hmo
  replace hWx := hWx.up hg3 hmo
  replace hWy := hWy.up hg3 hmo
  replace hWz := hWz.up hg3 hmo
  clear hb hgd hmo hlen0 hg3
  obtain ⟨hb, hgd, hlen0⟩ : BoardV G3 vb B' Es ∧ Good [] B' ∧ B'.c.gates.length ≤ 193 := ⟨hb', hgd', hln⟩
  clear hb' hgd' hln
  obtain ⟨e0, e1, e2, e3, rfl⟩ := boardV_es hb
  obtain ⟨aa1, ca1, rfl⟩ := hWa1.1
  simp only [GV, frArgs, memArgs, resV, fillL, ← Bool.decide_or, ← Bool.decide_and, ← decide_not, ↓reduceIte, Nat.reduceEqDiff, Nat.reduceAdd, Nat.reduceMul, Nat.reduceLeDiff, Nat.reduceLT, Nat.reduceSub, Nat.succ_ne_zero, Nat.one_ne_zero, Nat.zero_ne_one, true_implies, false_implies, forall_const, implies_true, reduceCtorEq, eq_self, ite_true, ite_false, decide_true, decide_false, Nat.le_refl, Bool.false_eq_true, if_true, if_false]
  refine (c_plusW hb hgd hWy hWx hk1 hk16 (by omega)).mono ?_
  rintro o G3 Es hg3 ⟨ua2, B', rfl, hb', hmo, hgd', hWa2⟩
  have hln : B'.c.gates.length ≤ 338 := by have := hmo.len; omega
  replace hI := hI.up hmo
  replace hWx := hWx.up hg3 hmo
  replace hWy := hWy.up hg3 hmo
  replace hWz := hWz.up hg3 hmo
  replace hWa1 := hWa1.up hg3 hmo
  clear hb hgd hmo hlen0 hg3
  obtain ⟨hb, hgd, hlen0⟩ : BoardV G3 vb B' Es ∧ Good [] B' ∧ B'.c.gates.length ≤ 338 := ⟨hb', hgd', hln⟩
  clear hb' hgd' hln
  obtain ⟨e0, e1, e2, e3, rfl⟩ := boardV_es hb
  obtain ⟨aa2, ca2, rfl⟩ := hWa2.1
  simp only [GV, frArgs, memArgs, resV, fillL, ← Bool.decide_or, ← Bool.decide_and, ← decide_not, ↓reduceIte, Nat.reduceEqDiff, Nat.reduceAdd, Nat.reduceMul, Nat.reduceLeDiff, Nat.reduceLT, Nat.reduceSub, Nat.succ_ne_zero, Nat.one_ne_zero, Nat.zero_ne_one, true_implies, false_implies, forall_const, implies_true, reduceCtorEq, eq_self, ite_true, ite_false, decide_true, decide_false, Nat.le_refl, Bool.false_eq_true, if_true, if_false]
  refine (c_plusW hb hgd hWx hWy hk1 hk16 (by omega)).mono ?_
  rintro o G3 Es hg3 ⟨ub0, B', rfl, hb', hmo, hgd', hWb0⟩
  have hln : B'.c.gates.length ≤ 483 := by have := hmo.len; omega
  replace hI := hI.up hmo
  replace hWx := hWx.up hg3 hmo
  replace hWy := hWy.up hg3 hmo
  replace hWz := hWz.up hg3 hmo
  replace hWa1 := hWa1.up hg3 hmo
  replace hWa2 := hWa2.up hg3 hmo
  clear hb hgd hmo hlen0 hg3
  obtain ⟨hb, hgd, hlen0⟩ : BoardV G3 vb B' Es ∧ Good [] B' ∧ B'.c.gates.length ≤ 483 := ⟨hb', hgd', hln⟩
  clear hb' hgd' hln
  obtain ⟨e0, e1, e2, e3, rfl⟩ := boardV_es hb
  obtain ⟨ab0, cb0, rfl⟩ := hWb0.1
  simp only [GV, frArgs, memArgs, resV, fillL, ← Bool.decide_or, ← Bool.decide_and, ← decide_not, ↓reduceIte, Nat.reduceEqDiff, Nat.reduceAdd, Nat.reduceMul, Nat.reduceLeDiff, Nat.reduceLT, Nat.reduceSub, Nat.succ_ne_zero, Nat.one_ne_zero, Nat.zero_ne_one, true_implies, false_implies, forall_const, implies_true, reduceCtorEq, eq_self, ite_true, ite_false, decide_true, decide_false, Nat.le_refl, Bool.false_eq_true, if_true, if_false]
  refine (c_plusW hb hgd hWb0 hWz hk1 hk16 (by omega)).mono ?_
  rintro o G3 Es hg3 ⟨ub1, B', rfl, hb', hmo, hgd', hWb1⟩
  have hln : B'.c.gates.length ≤ 628 := by have := hmo.len; omega
  replace hI := hI.up hmo
  replace hWx := hWx.up hg3 hmo
  replace hWy := hWy.up hg3 hmo
  replace hWz := hWz.up hg3 hmo
  replace hWa1 := hWa1.up hg3 hmo
  replace hWa2 := hWa2.up hg3 hmo
  replace hWb0 := hWb0.up hg3 hmo
  clear hb hgd hmo hlen0 hg3
  obtain ⟨hb, hgd, hlen0⟩ : BoardV G3 vb B' Es ∧ Good [] B' ∧ B'.c.gates.length ≤ 628 := ⟨hb', hgd', hln⟩
  clear hb' hgd' hln
  obtain ⟨e0, e1, e2, e3, rfl⟩ := boardV_es hb
  obtain ⟨ab1, cb1, rfl⟩ := hWb1.1
  simp only [GV, frArgs, memArgs, resV, fillL, ← Bool.decide_or, ← Bool.decide_and, ← decide_not, ↓reduceIte, Nat.reduceEqDiff, Nat.reduceAdd, Nat.reduceMul, Nat.reduceLeDiff, Nat.reduceLT, Nat.reduceSub, Nat.succ_ne_zero, Nat.one_ne_zero, Nat.zero_ne_one, true_implies, false_implies, forall_const, implies_true, reduceCtorEq, eq_self, ite_true, ite_false, decide_true, decide_false, Nat.le_refl, Bool.false_eq_true, if_true, if_false]
  refine (c_plusW hb hgd hWy hWz hk1 hk16 (by omega)).mono ?_
  rintro o G3 Es hg3 ⟨ub3, B', rfl, hb', hmo, hgd', hWb3⟩
  have hln : B'.c.gates.length ≤ 773 := by have := hmo.len; omega
  replace hI := hI.up hmo
  replace hWx := hWx.up hg3 hmo
  replace hWy := hWy.up hg3 hmo
  replace hWz := hWz.up hg3 hmo
  replace hWa1 := hWa1.up hg3 hmo
  replace hWa2 := hWa2.up hg3 hmo
  replace hWb0 := hWb0.up hg3 hmo
  replace hWb1 := hWb1.up hg3 hmo
  clear hb hgd hmo hlen0 hg3
  obtain ⟨hb, hgd, hlen0⟩ : BoardV G3 vb B' Es ∧ Good [] B' ∧ B'.c.gates.length ≤ 773 := ⟨hb', hgd', hln⟩
  clear hb' hgd' hln
  obtain ⟨e0, e1, e2, e3, rfl⟩ := boardV_es hb
  obtain ⟨ab3, cb3, rfl⟩ := hWb3.1
  simp only [GV, frArgs, memArgs, resV, fillL, ← Bool.decide_or, ← Bool.decide_and, ← decide_not, ↓reduceIte, Nat.reduceEqDiff, Nat.reduceAdd, Nat.reduceMul, Nat.reduceLeDiff, Nat.reduceLT, Nat.reduceSub, Nat.succ_ne_zero, Nat.one_ne_zero, Nat.zero_ne_one, true_implies, false_implies, forall_const, implies_true, reduceCtorEq, eq_self, ite_true, ite_false, decide_true, decide_false, Nat.le_refl, Bool.false_eq_true, if_true, if_false]
  refine (c_plusW hb hgd hWx hWb3 hk1 hk16 (by omega)).mono ?_
  rintro o G3 Es hg3 ⟨ub2, B', rfl, hb', hmo, hgd', hWb2⟩
  have hln : B'.c.gates.length ≤ 918 := by have := hmo.len; omega
  replace hI := hI.up hmo
  replace hWx := hWx.up hg3 hmo
  replace hWy := hWy.up hg3 hmo
  replace hWz := hWz.up hg3 hmo
  replace hWa1 := hWa1.up hg3 hmo
  replace hWa2 := hWa2.up hg3 hmo
  replace hWb0 := hWb0.up hg3 hmo
  replace hWb1 := hWb1.up hg3 hmo
  replace hWb3 := hWb3.up hg3 hmo
  clear hb hgd hmo hlen0 hg3
  obtain ⟨hb, hgd, hlen0⟩ : BoardV G3 vb B' Es ∧ Good [] B' ∧ B'.c.gates.length ≤ 918 := ⟨hb', hgd', hln⟩
  clear hb' hgd' hln
  obtain ⟨e0, e1, e2, e3, rfl⟩ := boardV_es hb
  obtain ⟨ab2, cb2, rfl⟩ := hWb2.1
  simp only [GV, frArgs, memArgs, resV, fillL, ← Bool.decide_or, ← Bool.decide_and, ← decide_not, ↓reduceIte, Nat.reduceEqDiff, Nat.reduceAdd, Nat.reduceMul, Nat.reduceLeDiff, Nat.reduceLT, Nat.reduceSub, Nat.succ_ne_zero, Nat.one_ne_zero, Nat.zero_ne_one, true_implies, false_implies, forall_const, implies_true, reduceCtorEq, eq_self, ite_true, ite_false, decide_true, decide_false, Nat.le_refl, Bool.false_eq_true, if_true, if_false]
  refine (c_plusW hb hgd hWy hWz hk1 hk16 (by omega)).mono ?_
  rintro o G3 Es hg3 ⟨uc0, B', rfl, hb', hmo, hgd', hWc0⟩
  have hln : B'.c.gates.length ≤ 1063 := by have := hmo.len; omega
  replace hI := hI.up hmo
  replace hWx := hWx.up hg3 hmo
  replace hWy := hWy.up hg3 hmo
  replace hWz := hWz.up hg3 hmo
  replace hWa1 := hWa1.up hg3 hmo
  replace hWa2 := hWa2.up hg3 hmo
  replace hWb0 := hWb0.up hg3 hmo
  replace hWb1 := hWb1.up hg3 hmo
  replace hWb3 := hWb3.up hg3 hmo
  replace hWb2 := hWb2.up hg3 hmo
  clear hb hgd hmo hlen0 hg3
  obtain ⟨hb, hgd, hlen0⟩ : BoardV G3 vb B' Es ∧ Good [] B' ∧ B'.c.gates.length ≤ 1063 := ⟨hb', hgd', hln⟩
  clear hb' hgd' hln
  obtain ⟨e0, e1, e2, e3, rfl⟩ := boardV_es hb
  obtain ⟨ac0, cc0, rfl⟩ := hWc0.1
  simp only [GV, frArgs, memArgs, resV, fillL, ← Bool.decide_or, ← Bool.decide_and, ← decide_not, ↓reduceIte, Nat.reduceEqDiff, Nat.reduceAdd, Nat.reduceMul, Nat.reduceLeDiff, Nat.reduceLT, Nat.reduceSub, Nat.succ_ne_zero, Nat.one_ne_zero, Nat.zero_ne_one, true_implies, false_implies, forall_const, implies_true, reduceCtorEq, eq_self, ite_true, ite_false, decide_true, decide_false, Nat.le_refl, Bool.false_eq_true, if_true, if_false]
  refine (c_timesW hb hgd hWx hWc0 hk1 hk16 (by omega)).mono ?_
  rintro o G3 Es hg3 ⟨uc1, B', rfl, hb', hmo, hgd', hWc1⟩
  have hln : B'.c.gates.length ≤ 5159 := by have := hmo.len; omega
  replace hI := hI.up hmo
  replace hWx := hWx.up hg3 hmo
  replace hWy := hWy.up hg3 hmo
  replace hWz := hWz.up hg3 hmo
  replace hWa1 := hWa1.up hg3 hmo
  replace hWa2 := hWa2.up hg3 hmo
  replace hWb0 := hWb0.up hg3 hmo
  replace hWb1 := hWb1.up hg3 hmo
  replace hWb3 := hWb3.up hg3 hmo
  replace hWb2 := hWb2.up hg3 hmo
  replace hWc0 := hWc0.up hg3 hmo
  clear hb hgd hmo hlen0 hg3
  obtain ⟨hb, hgd, hlen0⟩ : BoardV G3 vb B' Es ∧ Good [] B' ∧ B'.c.gates.length ≤ 5159 := ⟨hb', hgd', hln⟩
  clear hb' hgd' hln
  obtain ⟨e0, e1, e2, e3, rfl⟩ := boardV_es hb
  obtain ⟨ac1, cc1, rfl⟩ := hWc1.1
  simp only [GV, frArgs, memArgs, resV, fillL, ← Bool.decide_or, ← Bool.decide_and, ← decide_not, ↓reduceIte, Nat.reduceEqDiff, Nat.reduceAdd, Nat.reduceMul, Nat.reduceLeDiff, Nat.reduceLT, Nat.reduceSub, Nat.succ_ne_zero, Nat.one_ne_zero, Nat.zero_ne_one, true_implies, false_implies, forall_const, implies_true, reduceCtorEq, eq_self, ite_true, ite_false, decide_true, decide_false, Nat.le_refl, Bool.false_eq_true, if_true, if_false]
  refine (c_timesW hb hgd hWx hWy hk1 hk16 (by omega)).mono ?_
  rintro o G3 Es hg3 ⟨uc3, B', rfl, hb', hmo, hgd', hWc3⟩
  have hln : B'.c.gates.length ≤ 9255 := by have := hmo.len; omega
  replace hI := hI.up hmo
  replace hWx := hWx.up hg3 hmo
  replace hWy := hWy.up hg3 hmo
  replace hWz := hWz.up hg3 hmo
  replace hWa1 := hWa1.up hg3 hmo
  replace hWa2 := hWa2.up hg3 hmo
  replace hWb0 := hWb0.up hg3 hmo
  replace hWb1 := hWb1.up hg3 hmo
  replace hWb3 := hWb3.up hg3 hmo
  replace hWb2 := hWb2.up hg3 hmo
  replace hWc0 := hWc0.up hg3 hmo
  replace hWc1 := hWc1.up hg3 hmo
  clear hb hgd hmo hlen0 hg3
  obtain ⟨hb, hgd, hlen0⟩ : BoardV G3 vb B' Es ∧ Good [] B' ∧ B'.c.gates.length ≤ 9255 := ⟨hb', hgd', hln⟩
  clear hb' hgd' hln
  obtain ⟨e0, e1, e2, e3, rfl⟩ := boardV_es hb
  obtain ⟨ac3, cc3, rfl⟩ := hWc3.1
  simp only [GV, frArgs, memArgs, resV, fillL, ← Bool.decide_or, ← Bool.decide_and, ← decide_not, ↓reduceIte, Nat.reduceEqDiff, Nat.reduceAdd, Nat.reduceMul, Nat.reduceLeDiff, Nat.reduceLT, Nat.reduceSub, Nat.succ_ne_zero, Nat.one_ne_zero, Nat.zero_ne_one, true_implies, false_implies, forall_const, implies_true, reduceCtorEq, eq_self, ite_true, ite_false, decide_true, decide_false, Nat.le_refl, Bool.false_eq_true, if_true, if_false]
  refine (c_timesW hb hgd hWx hWz hk1 hk16 (by omega)).mono ?_
  rintro o G3 Es hg3 ⟨uc4, B', rfl, hb', hmo, hgd', hWc4⟩
  have hln : B'.c.gates.length ≤ 13351 := by have := hmo.len; omega
  replace hI := hI.up hmo
  replace hWx := hWx.up hg3 hmo
  replace hWy := hWy.up hg3 hmo
  replace hWz := hWz.up hg3 hmo
  replace hWa1 := hWa1.up hg3 hmo
  replace hWa2 := hWa2.up hg3 hmo
  replace hWb0 := hWb0.up hg3 hmo
  replace hWb1 := hWb1.up hg3 hmo
  replace hWb3 := hWb3.up hg3 hmo
  replace hWb2 := hWb2.up hg3 hmo
  replace hWc0 := hWc0.up hg3 hmo
  replace hWc1 := hWc1.up hg3 hmo
  replace hWc3 := hWc3.up hg3 hmo
  clear hb hgd hmo hlen0 hg3
  obtain ⟨hb, hgd, hlen0⟩ : BoardV G3 vb B' Es ∧ Good [] B' ∧ B'.c.gates.length ≤ 13351 := ⟨hb', hgd', hln⟩
  clear hb' hgd' hln
  obtain ⟨e0, e1, e2, e3, rfl⟩ := boardV_es hb
  obtain ⟨ac4, cc4, rfl⟩ := hWc4.1
  simp only [GV, frArgs, memArgs, resV, fillL, ← Bool.decide_or, ← Bool.decide_and, ← decide_not, ↓reduceIte, Nat.reduceEqDiff, Nat.reduceAdd, Nat.reduceMul, Nat.reduceLeDiff, Nat.reduceLT, Nat.reduceSub, Nat.succ_ne_zero, Nat.one_ne_zero, Nat.zero_ne_one, true_implies, false_implies, forall_const, implies_true, reduceCtorEq, eq_self, ite_true, ite_false, decide_true, decide_false, Nat.le_refl, Bool.false_eq_true, if_true, if_false]
  refine (c_plusW hb hgd hWc3 hWc4 hk1 hk16 (by omega)).mono ?_
  rintro o G3 Es hg3 ⟨uc2, B', rfl, hb', hmo, hgd', hWc2⟩
  have hln : B'.c.gates.length ≤ 13496 := by have := hmo.len; omega
  replace hI := hI.up hmo
  replace hWx := hWx.up hg3 hmo
  replace hWy := hWy.up hg3 hmo
  replace hWz := hWz.up hg3 hmo
  replace hWa1 := hWa1.up hg3 hmo
  replace hWa2 := hWa2.up hg3 hmo
  replace hWb0 := hWb0.up hg3 hmo
  replace hWb1 := hWb1.up hg3 hmo
  replace hWb3 := hWb3.up hg3 hmo
  replace hWb2 := hWb2.up hg3 hmo
  replace hWc0 := hWc0.up hg3 hmo
  replace hWc1 := hWc1.up hg3 hmo
  replace hWc3 := hWc3.up hg3 hmo
  replace hWc4 := hWc4.up hg3 hmo
  clear hb hgd hmo hlen0 hg3
  obtain ⟨hb, hgd, hlen0⟩ : BoardV G3 vb B' Es ∧ Good [] B' ∧ B'.c.gates.length ≤ 13496 := ⟨hb', hgd', hln⟩
  clear hb' hgd' hln
  obtain ⟨e0, e1, e2, e3, rfl⟩ := boardV_es hb
  obtain ⟨ac2, cc2, rfl⟩ := hWc2.1
  simp only [GV, frArgs, memArgs, resV, fillL, ← Bool.decide_or, ← Bool.decide_and, ← decide_not, ↓reduceIte, Nat.reduceEqDiff, Nat.reduceAdd, Nat.reduceMul, Nat.reduceLeDiff, Nat.reduceLT, Nat.reduceSub, Nat.succ_ne_zero, Nat.one_ne_zero, Nat.zero_ne_one, true_implies, false_implies, forall_const, implies_true, reduceCtorEq, eq_self, ite_true, ite_false, decide_true, decide_false, Nat.le_refl, Bool.false_eq_true, if_true, if_false]
  refine (c_timesW hb hgd hWx hWy hk1 hk16 (by omega)).mono ?_
  rintro o G3 Es hg3 ⟨ud1, B', rfl, hb', hmo, hgd', hWd1⟩
  have hln : B'.c.gates.length ≤ 17592 := by have := hmo.len; omega
  replace hI := hI.up hmo
  replace hWx := hWx.up hg3 hmo
  replace hWy := hWy.up hg3 hmo
  replace hWz := hWz.up hg3 hmo
  replace hWa1 := hWa1.up hg3 hmo
  replace hWa2 := hWa2.up hg3 hmo
  replace hWb0 := hWb0.up hg3 hmo
  replace hWb1 := hWb1.up hg3 hmo
  replace hWb3 := hWb3.up hg3 hmo
  replace hWb2 := hWb2.up hg3 hmo
  replace hWc0 := hWc0.up hg3 hmo
  replace hWc1 := hWc1.up hg3 hmo
  replace hWc3 := hWc3.up hg3 hmo
  replace hWc4 := hWc4.up hg3 hmo
  replace hWc2 := hWc2.up hg3 hmo
  clear hb hgd hmo hlen0 hg3
  obtain ⟨hb, hgd, hlen0⟩ : BoardV G3 vb B' Es ∧ Good [] B' ∧ B'.c.gates.length ≤ 17592 := ⟨hb', hgd', hln⟩
  clear hb' hgd' hln
  obtain ⟨e0, e1, e2, e3, rfl⟩ := boardV_es hb
  obtain ⟨ad1, cd1, rfl⟩ := hWd1.1
  simp only [GV, frArgs, memArgs, resV, fillL, ← Bool.decide_or, ← Bool.decide_and, ← decide_not, ↓reduceIte, Nat.reduceEqDiff, Nat.reduceAdd, Nat.reduceMul, Nat.reduceLeDiff, Nat.reduceLT, Nat.reduceSub, Nat.succ_ne_zero, Nat.one_ne_zero, Nat.zero_ne_one, true_implies, false_implies, forall_const, implies_true, reduceCtorEq, eq_self, ite_true, ite_false, decide_true, decide_false, Nat.le_refl, Bool.false_eq_true, if_true, if_false]
  refine (c_timesW hb hgd hWy hWx hk1 hk16 (by omega)).mono ?_
  rintro o G3 Es hg3 ⟨ud2, B', rfl, hb', hmo, hgd', hWd2⟩
  have hln : B'.c.gates.length ≤ 21688 := by have := hmo.len; omega
  replace hI := hI.up hmo
  replace hWx := hWx.up hg3 hmo
  replace hWy := hWy.up hg3 hmo
  replace hWz := hWz.up hg3 hmo
  replace hWa1 := hWa1.up hg3 hmo
  replace hWa2 := hWa2.up hg3 hmo
  replace hWb0 := hWb0.up hg3 hmo
  replace hWb1 := hWb1.up hg3 hmo
  replace hWb3 := hWb3.up hg3 hmo
  replace hWb2 := hWb2.up hg3 hmo
  replace hWc0 := hWc0.up hg3 hmo
  replace hWc1 := hWc1.up hg3 hmo
  replace hWc3 := hWc3.up hg3 hmo
  replace hWc4 := hWc4.up hg3 hmo
  replace hWc2 := hWc2.up hg3 hmo
  replace hWd1 := hWd1.up hg3 hmo
  clear hb hgd hmo hlen0 hg3
  obtain ⟨hb, hgd, hlen0⟩ : BoardV G3 vb B' Es ∧ Good [] B' ∧ B'.c.gates.length ≤ 21688 := ⟨hb', hgd', hln⟩
  clear hb' hgd' hln
  obtain ⟨e0, e1, e2, e3, rfl⟩ := boardV_es hb
  obtain ⟨ad2, cd2, rfl⟩ := hWd2.1
  simp only [GV, frArgs, memArgs, resV, fillL, ← Bool.decide_or, ← Bool.decide_and, ← decide_not, ↓reduceIte, Nat.reduceEqDiff, Nat.reduceAdd, Nat.reduceMul, Nat.reduceLeDiff, Nat.reduceLT, Nat.reduceSub, Nat.succ_ne_zero, Nat.one_ne_zero, Nat.zero_ne_one, true_implies, false_implies, forall_const, implies_true, reduceCtorEq, eq_self, ite_true, ite_false, decide_true, decide_false, Nat.le_refl, Bool.false_eq_true, if_true, if_false]
  refine (c_plusW hb hgd hWx hWy hk1 hk16 (by omega)).mono ?_
  rintro o G3 Es hg3 ⟨uf0, B', rfl, hb', hmo, hgd', hWf0⟩
  have hln : B'.c.gates.length ≤ 21833 := by have := hmo.len; omega
  replace hI := hI.up hmo
  replace hWx := hWx.up hg3 hmo
  replace hWy := hWy.up hg3 hmo
  replace hWz := hWz.up hg3 hmo
  replace hWa1 := hWa1.up hg3 hmo
  replace hWa2 := hWa2.up hg3 hmo
  replace hWb0 := hWb0.up hg3 hmo
  replace hWb1 := hWb1.up hg3 hmo
  replace hWb3 := hWb3.up hg3 hmo
  replace hWb2 := hWb2.up hg3 hmo
  replace hWc0 := hWc0.up hg3 hmo
  replace hWc1 := hWc1.up hg3 hmo
  replace hWc3 := hWc3.up hg3 hmo
  replace hWc4 := hWc4.up hg3 hmo
  replace hWc2 := hWc2.up hg3 hmo
  replace hWd1 := hWd1.up hg3 hmo
  replace hWd2 := hWd2.up hg3 hmo
  clear hb hgd hmo hlen0 hg3
  obtain ⟨hb, hgd, hlen0⟩ : BoardV G3 vb B' Es ∧ Good [] B' ∧ B'.c.gates.length ≤ 21833 := ⟨hb', hgd', hln⟩
  clear hb' hgd' hln
  obtain ⟨e0, e1, e2, e3, rfl⟩ := boardV_es hb
  obtain ⟨af0, cf0, rfl⟩ := hWf0.1
  simp only [GV, frArgs, memArgs, resV, fillL, ← Bool.decide_or, ← Bool.decide_and, ← decide_not, ↓reduceIte, Nat.reduceEqDiff, Nat.reduceAdd, Nat.reduceMul, Nat.reduceLeDiff, Nat.reduceLT, Nat.reduceSub, Nat.succ_ne_zero, Nat.one_ne_zero, Nat.zero_ne_one, true_implies, false_implies, forall_const, implies_true, reduceCtorEq, eq_self, ite_true, ite_false, decide_true, decide_false, Nat.le_refl, Bool.false_eq_true, if_true, if_false]
  refine (c_minusW hb hgd hWf0 hWy hk1 hk16 (by omega)).mono ?_
  rintro o G3 Es hg3 ⟨uf1, B', rfl, hb', hmo, hgd', hWf1⟩
  have hln : B'.c.gates.length ≤ 22010 := by have := hmo.len; omega
  replace hI := hI.up hmo
  replace hWx := hWx.up hg3 hmo
  replace hWy := hWy.up hg3 hmo
  replace hWz := hWz.up hg3 hmo
  replace hWa1 := hWa1.up hg3 hmo
  replace hWa2 := hWa2.up hg3 hmo
  replace hWb0 := hWb0.up hg3 hmo
  replace hWb1 := hWb1.up hg3 hmo
  replace hWb3 := hWb3.up hg3 hmo
  replace hWb2 := hWb2.up hg3 hmo
  replace hWc0 := hWc0.up hg3 hmo
  replace hWc1 := hWc1.up hg3 hmo
  replace hWc3 := hWc3.up hg3 hmo
  replace hWc4 := hWc4.up hg3 hmo
  replace hWc2 := hWc2.up hg3 hmo
  replace hWd1 := hWd1.up hg3 hmo
  replace hWd2 := hWd2.up hg3 hmo
  replace hWf0 := hWf0.up hg3 hmo
  clear hb hgd hmo hlen0 hg3
  obtain ⟨hb, hgd, hlen0⟩ : BoardV G3 vb B' Es ∧ Good [] B' ∧ B'.c.gates.length ≤ 22010 := ⟨hb', hgd', hln⟩
  clear hb' hgd' hln
  obtain ⟨e0, e1, e2, e3, rfl⟩ := boardV_es hb
  obtain ⟨af1, cf1, rfl⟩ := hWf1.1
  simp only [GV, frArgs, memArgs, resV, fillL, ← Bool.decide_or, ← Bool.decide_and, ← decide_not, ↓reduceIte, Nat.reduceEqDiff, Nat.reduceAdd, Nat.reduceMul, Nat.reduceLeDiff, Nat.reduceLT, Nat.reduceSub, Nat.succ_ne_zero, Nat.one_ne_zero, Nat.zero_ne_one, true_implies, false_implies, forall_const, implies_true, reduceCtorEq, eq_self, ite_true, ite_false, decide_true, decide_false, Nat.le_refl, Bool.false_eq_true, if_true, if_false]
  change Wd _ _ _ _ (plusB qx qy) at hWa1
  change Wd _ _ _ _ (plusB qy qx) at hWa2
  change Wd _ _ _ _ (plusB (plusB qx qy) qz) at hWb1
  change Wd _ _ _ _ (plusB qx (plusB qy qz)) at hWb2
  change Wd _ _ _ _ (mulB qx (plusB qy qz)) at hWc1
  change Wd _ _ _ _ (plusB (mulB qx qy) (mulB qx qz)) at hWc2
  change Wd _ _ _ _ (mulB qx qy) at hWd1
  change Wd _ _ _ _ (mulB qy qx) at hWd2
  change Wd _ _ _ _ (minusB (plusB qx qy) qy) at hWf1
  have hlx := hWx.2.1
  have hly := hWy.2.1
  have hlz := hWz.2.1
  rw [← ring1 hk1 hlx hly] at hWa2
  rw [← ring2 hk1 hlx hly hlz] at hWb2
  rw [← ring3 hk1 hlx hly hlz] at hWc2
  rw [← ring4 hk1 hlx hly] at hWd2
  rw [ring5 hk1 hlx hly] at hWf1
  refine bsl_intro fun b5 G4 hg4 hc5 => ?_
  have hP : ∀ j, j < 5 → ∃ a c a' c' bs, cellsG G4 b5 (j * 2) 2 = some [.slice a k c, .slice a' k c'] ∧ Wd G4 B' k (.slice a k c) bs ∧ Wd G4 B' k (.slice a' k c') bs := by
    intro j hj
    have h5 : j = 0 ∨ j = 1 ∨ j = 2 ∨ j = 3 ∨ j = 4 := by omega
    rcases h5 with rfl | rfl | rfl | rfl | rfl
    · exact ⟨_, _, _, _, _, cells_two (hc5 0 _ rfl) (hc5 1 _ rfl), hWa1.up0 hg4, hWa2.up0 hg4⟩
    · exact ⟨_, _, _, _, _, cells_two (hc5 2 _ rfl) (hc5 3 _ rfl), hWb1.up0 hg4, hWb2.up0 hg4⟩
    · exact ⟨_, _, _, _, _, cells_two (hc5 4 _ rfl) (hc5 5 _ rfl), hWc1.up0 hg4, hWc2.up0 hg4⟩
    · exact ⟨_, _, _, _, _, cells_two (hc5 6 _ rfl) (hc5 7 _ rfl), hWd1.up0 hg4, hWd2.up0 hg4⟩
    · exact ⟨_, _, _, _, _, cells_two (hc5 8 _ rfl) (hc5 9 _ rfl), hWf1.up0 hg4, hWx.up0 hg4⟩
  replace hWx := hWx.up0 hg4
  replace hWy := hWy.up0 hg4
  replace hb := hb.mono hg4
  clear hWa1 hWa2 hWb0 hWb1 hWb2 hWb3 hWc0 hWc1 hWc2 hWc3 hWc4 hWd1 hWd2 hWf0 hWf1 hWz hc5 hq0 hq1 hq2
  simp only [GV, frArgs, memArgs, resV, fillL, ← Bool.decide_or, ← Bool.decide_and, ← decide_not, ↓reduceIte, Nat.reduceEqDiff, Nat.reduceAdd, Nat.reduceMul, Nat.reduceLeDiff, Nat.reduceLT, Nat.reduceSub, Nat.succ_ne_zero, Nat.one_ne_zero, Nat.zero_ne_one, true_implies, false_implies, forall_const, implies_true, reduceCtorEq, eq_self, ite_true, ite_false, decide_true, decide_false, Nat.le_refl, Bool.false_eq_true, if_true, if_false]
  refine loop_intro (fun m fr G' M => ∃ (i : Nat) (acc : List Int) (vo : Value) (es : List Ent) (B1 : Bd) (e0 e1 e2 e3 : List Ent), m = 5 - i ∧ i ≤ 5 ∧ Bts [] B1 acc (List.replicate i true) ∧ More B' B1 (113 * i) (32 * i) ∧ Good [] B1 ∧ BoardV G' vb B1 [e0, e1, e2, e3] ∧
      OwnS G' 3 1 vo (encI .i64 acc).flatten es ∧ GLe G4 G' ∧
      fr = [(0, true, .int .u64 p), (7, true, vb), (10, true, .slice ax k cx), (11, true, .slice ay k cy), (14, true, vo), (120, true, .slice (some ⟨b5, 0, none⟩) 5 5), (121, true, .int .i64 5), (122, true, .int .i64 i)] ∧
      M = [(110, es), (0, e0), (1, e1), (2, e2), (3, e3), (1000000, F)]) 5 ⟨0, [], _, [], B', e0, e1, e2, e3, by simp, by simp, trivial, More.refl _, hgd, hb, OwnS.nil _ _ _, GLe.refl _, rfl, rfl⟩ ?_
  clear hb hgd
  rintro m fr G5 M - ⟨i, acc, vo, es, B1, e0, e1, e2, e3, rfl, hi, hacc, hmo, hgd, hb, hown, hg5, rfl, rfl⟩
  have hln := hmo.len
  have hmo0 := hmo
  simp only [GV, frArgs, memArgs, resV, fillL, ← Bool.decide_or, ← Bool.decide_and, ← decide_not, ↓reduceIte, Nat.reduceEqDiff, Nat.reduceAdd, Nat.reduceMul, Nat.reduceLeDiff, Nat.reduceLT, Nat.reduceSub, Nat.succ_ne_zero, Nat.one_ne_zero, Nat.zero_ne_one, true_implies, false_implies, forall_const, implies_true, reduceCtorEq, eq_self, ite_true, ite_false, decide_true, decide_false, Nat.le_refl, Bool.false_eq_true, if_true, if_false]
  refine cond_dec (fun h => ?_) (fun h => ?_)
  · have hlt : i < 5 := by omega
    obtain ⟨a, c, a', c', bs, hcc, hu, hw⟩ := hP i hlt
    replace hcc := cellsG_mono hg5 hcc
    simp only [GV, frArgs, memArgs, resV, fillL, ← Bool.decide_or, ← Bool.decide_and, ← decide_not, ↓reduceIte, Nat.reduceEqDiff, Nat.reduceAdd, Nat.reduceMul, Nat.reduceLeDiff, Nat.reduceLT, Nat.reduceSub, Nat.succ_ne_zero, Nat.one_ne_zero, Nat.zero_ne_one, true_implies, false_implies, forall_const, implies_true, reduceCtorEq, eq_self, ite_true, ite_false, decide_true, decide_false, Nat.le_refl, Bool.false_eq_true, if_true, if_false, hcc, Nat.mul_one, tn0, tn1]
    refine ⟨by omega, ?_⟩
    intro b6
    repeat refine ⟨by omega, ?_⟩
    refine (c_sameW hb hgd ((hu.up0 hg5).up (GLe.refl _) hmo) ((hw.up0 hg5).up (GLe.refl _) hmo) hk1 hk16 (by omega)).mono ?_
    rintro o G6 Es hg6 ⟨y, B2, rfl, hb, hmo2, hgd, hy⟩
    obtain ⟨e0, e1, e2, e3, rfl⟩ := boardV_es hb
    replace hown := hown.mono hg6
    simp only [GV, frArgs, memArgs, resV, fillL, ← Bool.decide_or, ← Bool.decide_and, ← decide_not, ↓reduceIte, Nat.reduceEqDiff, Nat.reduceAdd, Nat.reduceMul, Nat.reduceLeDiff, Nat.reduceLT, Nat.reduceSub, Nat.succ_ne_zero, Nat.one_ne_zero, Nat.zero_ne_one, true_implies, false_implies, forall_const, implies_true, reduceCtorEq, eq_self, ite_true, ite_false, decide_true, decide_false, Nat.le_refl, Bool.false_eq_true, if_true, if_false]
    refine cond_dec (fun h => absurd rfl h) (fun _ => ?_)
    simp only [GV, frArgs, memArgs, resV, fillL, ← Bool.decide_or, ← Bool.decide_and, ← decide_not, ↓reduceIte, Nat.reduceEqDiff, Nat.reduceAdd, Nat.reduceMul, Nat.reduceLeDiff, Nat.reduceLT, Nat.reduceSub, Nat.succ_ne_zero, Nat.one_ne_zero, Nat.zero_ne_one, true_implies, false_implies, forall_const, implies_true, reduceCtorEq, eq_self, ite_true, ite_false, decide_true, decide_false, Nat.le_refl, Bool.false_eq_true, if_true, if_false]
    refine bsl_intro fun b7 G7 hg7 hc7 => ?_
    simp only [GV, frArgs, memArgs, resV, fillL, ← Bool.decide_or, ← Bool.decide_and, ← decide_not, ↓reduceIte, Nat.reduceEqDiff, Nat.reduceAdd, Nat.reduceMul, Nat.reduceLeDiff, Nat.reduceLT, Nat.reduceSub, Nat.succ_ne_zero, Nat.one_ne_zero, Nat.zero_ne_one, true_implies, false_implies, forall_const, implies_true, reduceCtorEq, eq_self, ite_true, ite_false, decide_true, decide_false, Nat.le_refl, Bool.false_eq_true, if_true, if_false]
    refine app_moreN rfl (hown.mono hg7) (encI_len _ _) (row_one hc7 rfl) rfl (int_one _) (by rw [encI_length, hacc.len, List.length_replicate]; omega) (fun v' es' G8 hg8 ho => ?_)
    replace ho := own_more ho
    simp only [GV, frArgs, memArgs, resV, fillL, ← Bool.decide_or, ← Bool.decide_and, ← decide_not, ↓reduceIte, Nat.reduceEqDiff, Nat.reduceAdd, Nat.reduceMul, Nat.reduceLeDiff, Nat.reduceLT, Nat.reduceSub, Nat.succ_ne_zero, Nat.one_ne_zero, Nat.zero_ne_one, true_implies, false_implies, forall_const, implies_true, reduceCtorEq, eq_self, ite_true, ite_false, decide_true, decide_false, Nat.le_refl, Bool.false_eq_true, if_true, if_false, wrapn (show i < maxLen by simp only [maxLen]; omega)]
    rw [decide_eq_true rfl] at hy
    have hrep : List.replicate (i + 1) true = List.replicate i true ++ [true] := by rw [List.replicate_succ']
    exact ⟨5 - (i + 1), by omega, i + 1, _, v', es', B2, e0, e1, e2, e3, rfl, by omega, by rw [hrep]; exact Bts.snoc (hacc.up hmo2) hy, (hmo.trans hmo2).mono (by omega) (by omega), hgd, hb.mono (hg7.trans hg8), ho, hg5.trans (hg6.trans (hg7.trans hg8)), rfl, rfl⟩
  have hi5 : i = 5 := by omega
  subst hi5
  clear h hP
  replace hWx := (hWx.up0 hg5).up (GLe.refl _) hmo
  replace hWy := (hWy.up0 hg5).up (GLe.refl _) hmo
  clear hi hg5
  simp only [GV, frArgs, memArgs, resV, fillL, ← Bool.decide_or, ← Bool.decide_and, ← decide_not, ↓reduceIte, Nat.reduceEqDiff, Nat.reduceAdd, Nat.reduceMul, Nat.reduceLeDiff, Nat.reduceLT, Nat.reduceSub, Nat.succ_ne_zero, Nat.one_ne_zero, Nat.zero_ne_one, true_implies, false_implies, forall_const, implies_true, reduceCtorEq, eq_self, ite_true, ite_false, decide_true, decide_false, Nat.le_refl, Bool.false_eq_true, if_true, if_false]
  refine (c_lessW hb hgd hWx hWy hk1 hk16 (by omega)).mono ?_
  rintro o G6 Es hg6 ⟨yl, B2, rfl, hb, hmo, hgd, hyl⟩
  have hln2 := hmo.len
  obtain ⟨e0, e1, e2, e3, rfl⟩ := boardV_es hb
  replace hown := hown.mono hg6
  replace hacc := hacc.up hmo
  replace hWx := hWx.up hg6 hmo
  replace hWy := hWy.up hg6 hmo
  simp only [GV, frArgs, memArgs, resV, fillL, ← Bool.decide_or, ← Bool.decide_and, ← decide_not, ↓reduceIte, Nat.reduceEqDiff, Nat.reduceAdd, Nat.reduceMul, Nat.reduceLeDiff, Nat.reduceLT, Nat.reduceSub, Nat.succ_ne_zero, Nat.one_ne_zero, Nat.zero_ne_one, true_implies, false_implies, forall_const, implies_true, reduceCtorEq, eq_self, ite_true, ite_false, decide_true, decide_false, Nat.le_refl, Bool.false_eq_true, if_true, if_false]
  refine (c_lessW hb hgd hWy hWx hk1 hk16 (by omega)).mono ?_
  rintro o G7 Es hg7 ⟨ym, B3, rfl, hb, hmo3, hgd, hym⟩
  have hln3 := hmo3.len
  obtain ⟨e0, e1, e2, e3, rfl⟩ := boardV_es hb
  replace hown := hown.mono hg7
  replace hacc := hacc.up hmo3
  replace hWx := hWx.up hg7 hmo3
  replace hWy := hWy.up hg7 hmo3
  replace hyl := hyl.up hmo3
  simp only [GV, frArgs, memArgs, resV, fillL, ← Bool.decide_or, ← Bool.decide_and, ← decide_not, ↓reduceIte, Nat.reduceEqDiff, Nat.reduceAdd, Nat.reduceMul, Nat.reduceLeDiff, Nat.reduceLT, Nat.reduceSub, Nat.succ_ne_zero, Nat.one_ne_zero, Nat.zero_ne_one, true_implies, false_implies, forall_const, implies_true, reduceCtorEq, eq_self, ite_true, ite_false, decide_true, decide_false, Nat.le_refl, Bool.false_eq_true, if_true, if_false]
  refine (c_sameW hb hgd hWx hWy hk1 hk16 (by omega)).mono ?_
  rintro o G8 Es hg8 ⟨ye, B4, rfl, hb, hmo4, hgd, hye⟩
  obtain ⟨e0, e1, e2, e3, rfl⟩ := boardV_es hb
  replace hown := hown.mono hg8
  replace hacc := hacc.up hmo4
  replace hyl := hyl.up hmo4
  replace hym := hym.up hmo4
  have h123 := one_of_three hWx.2.1 hWy.2.1
  have hI4 := (((hI.up hmo0).up hmo).up hmo3).up hmo4
  have hp0 : B4.p ≠ 0 := by have := hgd.p3; omega
  have hcE := hI4.err hgd hip
  have hsl0 : B4.c.slots = [] := hI4.2.1
  have hBp : B4.p = p := hI4.1
  clear hWx hWy
  simp only [GV, frArgs, memArgs, resV, fillL, ← Bool.decide_or, ← Bool.decide_and, ← decide_not, ↓reduceIte, Nat.reduceEqDiff, Nat.reduceAdd, Nat.reduceMul, Nat.reduceLeDiff, Nat.reduceLT, Nat.reduceSub, Nat.succ_ne_zero, Nat.one_ne_zero, Nat.zero_ne_one, true_implies, false_implies, forall_const, implies_true, reduceCtorEq, eq_self, ite_true, ite_false, decide_true, decide_false, Nat.le_refl, Bool.false_eq_true, if_true, if_false]
  refine (c_Circuit hb).mono ?_
  rintro o G9 Es hg9 ⟨w, rfl, hw, rfl⟩
  rw [if_neg hp0] at hw
  replace hown := hown.mono hg9
  obtain ⟨w1, w2, w3, rfl, ⟨b1, c1, rfl, hw1⟩, ⟨b2, c2, rfl, hw2⟩, hw3⟩ := id hw
  obtain ⟨b3, c3, rfl⟩ := hw3.len
  simp only [GV, frArgs, memArgs, resV, fillL, ← Bool.decide_or, ← Bool.decide_and, ← decide_not, ↓reduceIte, Nat.reduceEqDiff, Nat.reduceAdd, Nat.reduceMul, Nat.reduceLeDiff, Nat.reduceLT, Nat.reduceSub, Nat.succ_ne_zero, Nat.one_ne_zero, Nat.zero_ne_one, true_implies, false_implies, forall_const, implies_true, reduceCtorEq, eq_self, ite_true, ite_false, decide_true, decide_false, Nat.le_refl, Bool.false_eq_true, if_true, if_false]
  intro bc
  refine settle_intro fun G10 hg10 hc10 => ?_
  have hcc : cellsG G10 bc 0 3 = some [.slice b1 B4.c.slots.length c1, .slice b2 B4.c.gates.length c2, .slice b3 B4.c.exits.length c3] := (cellsG_iff _ _ _ _ _).2 ⟨rfl, hc10⟩
  replace hw := hw.mono hg10
  replace hown := hown.mono hg10
  simp only [GV, frArgs, memArgs, resV, fillL, ← Bool.decide_or, ← Bool.decide_and, ← decide_not, ↓reduceIte, Nat.reduceEqDiff, Nat.reduceAdd, Nat.reduceMul, Nat.reduceLeDiff, Nat.reduceLT, Nat.reduceSub, Nat.succ_ne_zero, Nat.one_ne_zero, Nat.zero_ne_one, true_implies, false_implies, forall_const, implies_true, reduceCtorEq, eq_self, ite_true, ite_false, decide_true, decide_false, Nat.le_refl, Bool.false_eq_true, if_true, if_false, hcc, ne_eq, not_true_eq_false, not_false_eq_true, decide_false, decide_true]
  refine (c_CheckR (p := p) hw).mono ?_
  rintro o G11 Es hg ⟨rfl, rfl, rfl⟩
  simp only [GV, frArgs, memArgs, resV, fillL, ← Bool.decide_or, ← Bool.decide_and, ← decide_not, ↓reduceIte, Nat.reduceEqDiff, Nat.reduceAdd, Nat.reduceMul, Nat.reduceLeDiff, Nat.reduceLT, Nat.reduceSub, Nat.succ_ne_zero, Nat.one_ne_zero, Nat.zero_ne_one, true_implies, false_implies, forall_const, implies_true, reduceCtorEq, eq_self, ite_true, ite_false, decide_true, decide_false, Nat.le_refl, Bool.false_eq_true, if_true, if_false, hcc, hcE, ne_eq, not_true_eq_false, not_false_eq_true, decide_false, decide_true]
  refine bsl_own rfl (by simp only [maxLen]; omega) (fun v' es' G11 hg11 ho => ?_)
  replace ho : OwnS G11 3 1 v' (encI .i64 [yl, ym, ye]).flatten es' := ho
  replace hcc := cellsG_mono hg11 hcc
  replace hown := hown.mono hg11
  replace hw := hw.mono hg11
  obtain ⟨asx, csx, rfl, hs1, hs2, hs⟩ := ownS_slI hown
  simp only [GV, frArgs, memArgs, resV, fillL, ← Bool.decide_or, ← Bool.decide_and, ← decide_not, ↓reduceIte, Nat.reduceEqDiff, Nat.reduceAdd, Nat.reduceMul, Nat.reduceLeDiff, Nat.reduceLT, Nat.reduceSub, Nat.succ_ne_zero, Nat.one_ne_zero, Nat.zero_ne_one, true_implies, false_implies, forall_const, implies_true, reduceCtorEq, eq_self, ite_true, ite_false, decide_true, decide_false, Nat.le_refl, Bool.false_eq_true, if_true, if_false, hcc]
  refine app_moreN rfl ho (encI_len _ _) hs (encI_length _ _) (encI_one _ _) (by rw [encI_length, hacc.len, List.length_replicate]; simp) (fun v2 es2 G12 hg12 ho2 => ?_)
  replace ho2 : OwnS G12 3 1 v2 (encI .i64 ([yl, ym, ye] ++ acc)).flatten es2 := by
    have e : encI .i64 ([yl, ym, ye] ++ acc) = encI .i64 [yl, ym, ye] ++ encI .i64 acc := by simp [encI]
    rw [e]; exact ho2
  replace hcc := cellsG_mono hg12 hcc
  replace hs := hs.mono hg12
  replace hw := hw.mono hg12
  simp only [GV, frArgs, memArgs, resV, fillL, ← Bool.decide_or, ← Bool.decide_and, ← decide_not, ↓reduceIte, Nat.reduceEqDiff, Nat.reduceAdd, Nat.reduceMul, Nat.reduceLeDiff, Nat.reduceLT, Nat.reduceSub, Nat.succ_ne_zero, Nat.one_ne_zero, Nat.zero_ne_one, true_implies, false_implies, forall_const, implies_true, reduceCtorEq, eq_self, ite_true, ite_false, decide_true, decide_false, Nat.le_refl, Bool.false_eq_true, if_true, if_false, hcc]
  refine (c_Places hw (ownS_slI ho2)).mono ?_
  rintro o G13 Es hg ⟨rfl, rfl, rfl⟩
  have hpl : places B4.c ([yl, ym, ye] ++ acc) = 0 := by
    have hall : ∀ q ∈ [yl, ym, ye] ++ acc, 0 ≤ q ∧ q < B4.c.gates.length := by
      intro q hq
      rcases List.mem_append.1 hq with hq | hq
      · simp at hq
        rcases hq with rfl | rfl | rfl
        · exact hyl.1
        · exact hym.1
        · exact hye.1
      · exact hacc.in q hq
    unfold places
    rw [if_neg]
    rw [Bool.not_eq_true, List.any_eq_false]
    intro q hq
    have := hall q hq
    simp [outR]; omega
  simp only [List.cons_append, List.nil_append] at hpl
  simp only [GV, frArgs, memArgs, resV, fillL, ← Bool.decide_or, ← Bool.decide_and, ← decide_not, ↓reduceIte, Nat.reduceEqDiff, Nat.reduceAdd, Nat.reduceMul, Nat.reduceLeDiff, Nat.reduceLT, Nat.reduceSub, Nat.succ_ne_zero, Nat.one_ne_zero, Nat.zero_ne_one, true_implies, false_implies, forall_const, implies_true, reduceCtorEq, eq_self, ite_true, ite_false, decide_true, decide_false, Nat.le_refl, Bool.false_eq_true, if_true, if_false, hcc, hpl, ne_eq, not_true_eq_false, not_false_eq_true, decide_false, decide_true]
  have hgE : gatesErr p ([] : List Nat).length 0 B4.c.gates = 0 := by
    have h9 := hgd.gates
    rw [hBp, hsl0] at h9
    exact h9
  have hpb : 3 ≤ p ∧ p ≤ 65537 := ⟨hBp ▸ hgd.p3, hBp ▸ hgd.p16⟩
  refine (c_Values (p := p) hw slN_nil hgd.lim (by omega) (by omega) (by simp) hgE).mono ?_
  rintro o G14 Es hg14 ⟨x, rfl, hV, rfl⟩
  have hVl : (valsG p [] B4.c.gates).length = B4.c.gates.length := valsG_len _ _ _
  have hone : ∀ q ∈ acc, (0 ≤ q ∧ q < B4.c.gates.length) ∧ at0 (valsG p [] B4.c.gates) q = 1 := fun q hq => by
    have := Bts.ones hacc q hq
    unfold Bt Vl at this
    rw [hBp] at this
    exact this
  unfold Bt Vl at hyl hym hye
  rw [hBp] at hyl hym hye
  replace hs := hs.mono hg14
  generalize valsG p [] B4.c.gates = V at hV hVl hone hyl hym hye
  obtain ⟨aV, cV, rfl, hV1, hV2, hV3⟩ := hV
  simp only [GV, frArgs, memArgs, resV, fillL, ← Bool.decide_or, ← Bool.decide_and, ← decide_not, ↓reduceIte, Nat.reduceEqDiff, Nat.reduceAdd, Nat.reduceMul, Nat.reduceLeDiff, Nat.reduceLT, Nat.reduceSub, Nat.succ_ne_zero, Nat.one_ne_zero, Nat.zero_ne_one, true_implies, false_implies, forall_const, implies_true, reduceCtorEq, eq_self, ite_true, ite_false, decide_true, decide_false, Nat.le_refl, Bool.false_eq_true, if_true, if_false]
  refine loop_intro (fun m fr G' M => ∃ (i : Nat), m = acc.length - i ∧ i ≤ acc.length ∧ G' = G14 ∧
      fr = [(19, true, .int .i64 yl), (21, true, .int .i64 ym), (23, true, .int .i64 ye), (26, true, .slice aV V.length cV), (187, true, .slice asx acc.length csx), (188, true, .int .i64 acc.length), (189, true, .int .i64 i)] ∧
      M = [(110, es), (0, e0), (1, e1), (2, e2), (3, e3), (111, es2), (1000000, F)]) acc.length ⟨0, by simp, by simp, rfl, rfl, rfl⟩ ?_
  rintro m fr G15 M - ⟨i, rfl, hi, rfl, rfl, rfl⟩
  simp only [GV, frArgs, memArgs, resV, fillL, ← Bool.decide_or, ← Bool.decide_and, ← decide_not, ↓reduceIte, Nat.reduceEqDiff, Nat.reduceAdd, Nat.reduceMul, Nat.reduceLeDiff, Nat.reduceLT, Nat.reduceSub, Nat.succ_ne_zero, Nat.one_ne_zero, Nat.zero_ne_one, true_implies, false_implies, forall_const, implies_true, reduceCtorEq, eq_self, ite_true, ite_false, decide_true, decide_false, Nat.le_refl, Bool.false_eq_true, if_true, if_false]
  refine cond_dec (fun h => ?_) (fun h => ?_)
  · have hlt : i < acc.length := by omega
    obtain ⟨ba, oa, rfl, hxa⟩ := RowI.get hs hlt
    obtain ⟨hq1, hq2⟩ := hone _ (List.getElem_mem hlt)
    obtain ⟨bi, oi, rfl, hxb⟩ := RowN.at hV3 hq1.1 (by omega)
    rw [hq2] at hxb
    simp only [GV, frArgs, memArgs, resV, fillL, ← Bool.decide_or, ← Bool.decide_and, ← decide_not, ↓reduceIte, Nat.reduceEqDiff, Nat.reduceAdd, Nat.reduceMul, Nat.reduceLeDiff, Nat.reduceLT, Nat.reduceSub, Nat.succ_ne_zero, Nat.one_ne_zero, Nat.zero_ne_one, true_implies, false_implies, forall_const, implies_true, reduceCtorEq, eq_self, ite_true, ite_false, decide_true, decide_false, Nat.le_refl, Bool.false_eq_true, if_true, if_false, hxa, hxb, Nat.mul_one]
    repeat refine ⟨by omega, ?_⟩
    refine cond_dec (fun h => absurd rfl h) (fun _ => ?_)
    have hcl := hs1
    simp only [GV, frArgs, memArgs, resV, fillL, ← Bool.decide_or, ← Bool.decide_and, ← decide_not, ↓reduceIte, Nat.reduceEqDiff, Nat.reduceAdd, Nat.reduceMul, Nat.reduceLeDiff, Nat.reduceLT, Nat.reduceSub, Nat.succ_ne_zero, Nat.one_ne_zero, Nat.zero_ne_one, true_implies, false_implies, forall_const, implies_true, reduceCtorEq, eq_self, ite_true, ite_false, decide_true, decide_false, Nat.le_refl, Bool.false_eq_true, if_true, if_false, wrapn (show i < maxLen by omega)]
    refine ⟨acc.length - (i + 1), by omega, i + 1, rfl, by omega, ?_⟩
    first | exact rfl | exact ⟨rfl, rfl⟩ | exact ⟨rfl, rfl, rfl⟩
  obtain ⟨⟨yl1, yl2⟩, yl3⟩ := hyl
  obtain ⟨⟨ym1, ym2⟩, ym3⟩ := hym
  obtain ⟨⟨ye1, ye2⟩, ye3⟩ := hye
  obtain ⟨bi, oi, rfl, hx1⟩ := RowN.at hV3 yl1 (by omega)
  obtain ⟨bj, oj, hj, hx2⟩ := RowN.at hV3 ym1 (by omega)
  cases hj
  obtain ⟨bk, ok, hk, hx3⟩ := RowN.at hV3 ye1 (by omega)
  cases hk
  rw [yl3] at hx1
  rw [ym3] at hx2
  rw [ye3] at hx3
  have hsum1 : IntKind.u64.wrap (((decide (bnum qx < bnum qy)).toNat : Int) + ((decide (bnum qy < bnum qx)).toNat : Int)) = (((decide (bnum qx < bnum qy)).toNat + (decide (bnum qy < bnum qx)).toNat : Nat) : Int) := by rw [wrapu (by omega) (by omega)]; omega
  have hsum2 : IntKind.u64.wrap ((((decide (bnum qx < bnum qy)).toNat + (decide (bnum qy < bnum qx)).toNat : Nat) : Int) + ((decide (qx = qy)).toNat : Int)) = 1 := by rw [wrapu (by omega) (by omega)]; omega
  simp only [GV, frArgs, memArgs, resV, fillL, ← Bool.decide_or, ← Bool.decide_and, ← decide_not, ↓reduceIte, Nat.reduceEqDiff, Nat.reduceAdd, Nat.reduceMul, Nat.reduceLeDiff, Nat.reduceLT, Nat.reduceSub, Nat.succ_ne_zero, Nat.one_ne_zero, Nat.zero_ne_one, true_implies, false_implies, forall_const, implies_true, reduceCtorEq, eq_self, ite_true, ite_false, decide_true, decide_false, Nat.le_refl, Bool.false_eq_true, if_true, if_false, hx1, hx2, hx3, hsum1, hsum2, Nat.mul_one]
  repeat refine ⟨by omega, ?_⟩
  refine c_alive.mono ?_
  rintro o G7 Es hg7 ⟨rfl, rfl⟩
  replace hx1 := hg7 _ _ _ hx1
  replace hx2 := hg7 _ _ _ hx2
  simp only [GV, frArgs, memArgs, resV, fillL, ← Bool.decide_or, ← Bool.decide_and, ← decide_not, ↓reduceIte, Nat.reduceEqDiff, Nat.reduceAdd, Nat.reduceMul, Nat.reduceLeDiff, Nat.reduceLT, Nat.reduceSub, Nat.succ_ne_zero, Nat.one_ne_zero, Nat.zero_ne_one, true_implies, false_implies, forall_const, implies_true, reduceCtorEq, eq_self, ite_true, ite_false, decide_true, decide_false, Nat.le_refl, Bool.false_eq_true, if_true, if_false, hx1, hx2]
end Go.Gv.W
