/-
  The methods of a board that add what is made of gates. No condition.
-/
import Derived.Test.YtokidokmcbkodaaGvW21
namespace Go.Gv.W
set_option linter.unusedSimpArgs false
set_option linter.unusedVariables false
set_option linter.unusedSectionVars false
open Go.RowKit Go.Proofs

/-- (*junto/word.Board).Not -/
def r_word_Board_Not : RFn := ⟨13,
  .seq (.reg [] [
    ⟨(some 3), none, .box 103 3 (.t 1)⟩,
    ⟨(some 4), none, .mv (.c (.int .i64 0))⟩,
    ⟨(some 5), none, .mv (.c (.int .i64 0))⟩]) <|
  .keep [0, 3] <|
  .settle 103 <|
  .seq (.reg [] [
    ⟨(some 6), none, .mv (.t 0)⟩,
    ⟨(some 7), none, .ld none none (.t 3)⟩,
    ⟨(some 8), none, .bsl none 3 1 1 [(.int .i64 0)] [(0, 1)] [(0, (.t 7))]⟩,
    ⟨(some 9), none, .mkf (.func 71) [] [(.t 3)]⟩,
    ⟨(some 10), none, .call [0, 1, 2, 3] [0, 1, 2, 3] 62 [(.t 6), (.t 8), (.t 9)]⟩,
    ⟨(some 11), none, .ext 0 (.t 10)⟩,
    ⟨(some 12), none, .ext 1 (.t 10)⟩,
    ⟨(some 4), none, .mv (.t 11)⟩,
    ⟨(some 5), none, .mv (.t 12)⟩]) <|
  .ret,
  [.tmp 4, .tmp 5], [0, 1, 2, 3], [0, 1, 2, 3]⟩

theorem k_word_Board_Not : rbFn Try.prog 45 r_word_Board_Not = some r_word_Board_Not := by kernel_rfl

/-- (*junto/word.Board).Not$1 -/
def r_word_Board_Not_1 : RFn := ⟨7,
  .seq (.reg [] [
    ⟨(some 3), none, .mv (.c (.int .i64 0))⟩]) <|
  .keep [0, 1] <|
  .seq (.reg [] [
    ⟨(some 4), none, .mv (.t 0)⟩,
    ⟨(some 5), none, .ld none none (.t 1)⟩,
    ⟨(some 6), none, .call [0, 1, 2, 3] [0, 1, 2, 3] 65 [(.t 4), (.t 5)]⟩,
    ⟨(some 3), none, .mv (.t 6)⟩]) <|
  .ret,
  [.tmp 3], [0, 1, 2, 3], [0, 1, 2, 3]⟩

theorem k_word_Board_Not_1 : rbFn Try.prog 71 r_word_Board_Not_1 = some r_word_Board_Not_1 := by kernel_rfl

/-- (*junto/word.Board).And -/
def r_word_Board_And : RFn := ⟨16,
  .seq (.reg [] [
    ⟨(some 4), none, .box 104 3 (.t 1)⟩,
    ⟨(some 5), none, .box 105 3 (.t 2)⟩,
    ⟨(some 6), none, .mv (.c (.int .i64 0))⟩,
    ⟨(some 7), none, .mv (.c (.int .i64 0))⟩]) <|
  .keep [0, 4, 5] <|
  .settle 105 <|
  .settle 104 <|
  .seq (.reg [] [
    ⟨(some 8), none, .mv (.t 0)⟩,
    ⟨(some 9), none, .ld none none (.t 4)⟩,
    ⟨(some 10), none, .ld none none (.t 5)⟩,
    ⟨(some 11), none, .bsl none 3 2 1 [(.int .i64 0), (.int .i64 0)] [(0, 1), (1, 1)] [(0, (.t 9)), (1, (.t 10))]⟩,
    ⟨(some 12), none, .mkf (.func 72) [] [(.t 4), (.t 5)]⟩,
    ⟨(some 13), none, .call [0, 1, 2, 3] [0, 1, 2, 3] 62 [(.t 8), (.t 11), (.t 12)]⟩,
    ⟨(some 14), none, .ext 0 (.t 13)⟩,
    ⟨(some 15), none, .ext 1 (.t 13)⟩,
    ⟨(some 6), none, .mv (.t 14)⟩,
    ⟨(some 7), none, .mv (.t 15)⟩]) <|
  .ret,
  [.tmp 6, .tmp 7], [0, 1, 2, 3], [0, 1, 2, 3]⟩

theorem k_word_Board_And : rbFn Try.prog 46 r_word_Board_And = some r_word_Board_And := by kernel_rfl

/-- (*junto/word.Board).And$1 -/
def r_word_Board_And_1 : RFn := ⟨9,
  .seq (.reg [] [
    ⟨(some 4), none, .mv (.c (.int .i64 0))⟩]) <|
  .keep [0, 1, 2] <|
  .seq (.reg [] [
    ⟨(some 5), none, .mv (.t 0)⟩,
    ⟨(some 6), none, .ld none none (.t 1)⟩,
    ⟨(some 7), none, .ld none none (.t 2)⟩,
    ⟨(some 8), none, .call [0, 1, 2, 3] [0, 1, 2, 3] 73 [(.t 5), (.t 6), (.t 7)]⟩,
    ⟨(some 4), none, .mv (.t 8)⟩]) <|
  .ret,
  [.tmp 4], [0, 1, 2, 3], [0, 1, 2, 3]⟩

theorem k_word_Board_And_1 : rbFn Try.prog 72 r_word_Board_And_1 = some r_word_Board_And_1 := by kernel_rfl

/-- (*junto/word.Board).Or -/
def r_word_Board_Or : RFn := ⟨16,
  .seq (.reg [] [
    ⟨(some 4), none, .box 104 3 (.t 1)⟩,
    ⟨(some 5), none, .box 105 3 (.t 2)⟩,
    ⟨(some 6), none, .mv (.c (.int .i64 0))⟩,
    ⟨(some 7), none, .mv (.c (.int .i64 0))⟩]) <|
  .keep [0, 4, 5] <|
  .settle 105 <|
  .settle 104 <|
  .seq (.reg [] [
    ⟨(some 8), none, .mv (.t 0)⟩,
    ⟨(some 9), none, .ld none none (.t 4)⟩,
    ⟨(some 10), none, .ld none none (.t 5)⟩,
    ⟨(some 11), none, .bsl none 3 2 1 [(.int .i64 0), (.int .i64 0)] [(0, 1), (1, 1)] [(0, (.t 9)), (1, (.t 10))]⟩,
    ⟨(some 12), none, .mkf (.func 74) [] [(.t 4), (.t 5)]⟩,
    ⟨(some 13), none, .call [0, 1, 2, 3] [0, 1, 2, 3] 62 [(.t 8), (.t 11), (.t 12)]⟩,
    ⟨(some 14), none, .ext 0 (.t 13)⟩,
    ⟨(some 15), none, .ext 1 (.t 13)⟩,
    ⟨(some 6), none, .mv (.t 14)⟩,
    ⟨(some 7), none, .mv (.t 15)⟩]) <|
  .ret,
  [.tmp 6, .tmp 7], [0, 1, 2, 3], [0, 1, 2, 3]⟩

theorem k_word_Board_Or : rbFn Try.prog 47 r_word_Board_Or = some r_word_Board_Or := by kernel_rfl

/-- (*junto/word.Board).Or$1 -/
def r_word_Board_Or_1 : RFn := ⟨9,
  .seq (.reg [] [
    ⟨(some 4), none, .mv (.c (.int .i64 0))⟩]) <|
  .keep [0, 1, 2] <|
  .seq (.reg [] [
    ⟨(some 5), none, .mv (.t 0)⟩,
    ⟨(some 6), none, .ld none none (.t 1)⟩,
    ⟨(some 7), none, .ld none none (.t 2)⟩,
    ⟨(some 8), none, .call [0, 1, 2, 3] [0, 1, 2, 3] 75 [(.t 5), (.t 6), (.t 7)]⟩,
    ⟨(some 4), none, .mv (.t 8)⟩]) <|
  .ret,
  [.tmp 4], [0, 1, 2, 3], [0, 1, 2, 3]⟩

theorem k_word_Board_Or_1 : rbFn Try.prog 74 r_word_Board_Or_1 = some r_word_Board_Or_1 := by kernel_rfl

/-- (*junto/word.Board).Xor -/
def r_word_Board_Xor : RFn := ⟨16,
  .seq (.reg [] [
    ⟨(some 4), none, .box 104 3 (.t 1)⟩,
    ⟨(some 5), none, .box 105 3 (.t 2)⟩,
    ⟨(some 6), none, .mv (.c (.int .i64 0))⟩,
    ⟨(some 7), none, .mv (.c (.int .i64 0))⟩]) <|
  .keep [0, 4, 5] <|
  .settle 105 <|
  .settle 104 <|
  .seq (.reg [] [
    ⟨(some 8), none, .mv (.t 0)⟩,
    ⟨(some 9), none, .ld none none (.t 4)⟩,
    ⟨(some 10), none, .ld none none (.t 5)⟩,
    ⟨(some 11), none, .bsl none 3 2 1 [(.int .i64 0), (.int .i64 0)] [(0, 1), (1, 1)] [(0, (.t 9)), (1, (.t 10))]⟩,
    ⟨(some 12), none, .mkf (.func 76) [] [(.t 4), (.t 5)]⟩,
    ⟨(some 13), none, .call [0, 1, 2, 3] [0, 1, 2, 3] 62 [(.t 8), (.t 11), (.t 12)]⟩,
    ⟨(some 14), none, .ext 0 (.t 13)⟩,
    ⟨(some 15), none, .ext 1 (.t 13)⟩,
    ⟨(some 6), none, .mv (.t 14)⟩,
    ⟨(some 7), none, .mv (.t 15)⟩]) <|
  .ret,
  [.tmp 6, .tmp 7], [0, 1, 2, 3], [0, 1, 2, 3]⟩

theorem k_word_Board_Xor : rbFn Try.prog 48 r_word_Board_Xor = some r_word_Board_Xor := by kernel_rfl

/-- (*junto/word.Board).Xor$1 -/
def r_word_Board_Xor_1 : RFn := ⟨9,
  .seq (.reg [] [
    ⟨(some 4), none, .mv (.c (.int .i64 0))⟩]) <|
  .keep [0, 1, 2] <|
  .seq (.reg [] [
    ⟨(some 5), none, .mv (.t 0)⟩,
    ⟨(some 6), none, .ld none none (.t 1)⟩,
    ⟨(some 7), none, .ld none none (.t 2)⟩,
    ⟨(some 8), none, .call [0, 1, 2, 3] [0, 1, 2, 3] 66 [(.t 5), (.t 6), (.t 7)]⟩,
    ⟨(some 4), none, .mv (.t 8)⟩]) <|
  .ret,
  [.tmp 4], [0, 1, 2, 3], [0, 1, 2, 3]⟩

theorem k_word_Board_Xor_1 : rbFn Try.prog 76 r_word_Board_Xor_1 = some r_word_Board_Xor_1 := by kernel_rfl

/-- (*junto/word.Board).Pick -/
def r_word_Board_Pick : RFn := ⟨19,
  .seq (.reg [] [
    ⟨(some 5), none, .box 105 3 (.t 1)⟩,
    ⟨(some 6), none, .box 106 3 (.t 2)⟩,
    ⟨(some 7), none, .box 107 3 (.t 3)⟩,
    ⟨(some 8), none, .mv (.c (.int .i64 0))⟩,
    ⟨(some 9), none, .mv (.c (.int .i64 0))⟩]) <|
  .keep [0, 5, 6, 7] <|
  .settle 107 <|
  .settle 106 <|
  .settle 105 <|
  .seq (.reg [] [
    ⟨(some 10), none, .mv (.t 0)⟩,
    ⟨(some 11), none, .ld none none (.t 5)⟩,
    ⟨(some 12), none, .ld none none (.t 6)⟩,
    ⟨(some 13), none, .ld none none (.t 7)⟩,
    ⟨(some 14), none, .bsl none 3 3 1 [(.int .i64 0), (.int .i64 0), (.int .i64 0)] [(0, 1), (1, 1), (2, 1)] [(0, (.t 11)), (1, (.t 12)), (2, (.t 13))]⟩,
    ⟨(some 15), none, .mkf (.func 77) [] [(.t 5), (.t 6), (.t 7)]⟩,
    ⟨(some 16), none, .call [0, 1, 2, 3] [0, 1, 2, 3] 62 [(.t 10), (.t 14), (.t 15)]⟩,
    ⟨(some 17), none, .ext 0 (.t 16)⟩,
    ⟨(some 18), none, .ext 1 (.t 16)⟩,
    ⟨(some 8), none, .mv (.t 17)⟩,
    ⟨(some 9), none, .mv (.t 18)⟩]) <|
  .ret,
  [.tmp 8, .tmp 9], [0, 1, 2, 3], [0, 1, 2, 3]⟩

theorem k_word_Board_Pick : rbFn Try.prog 49 r_word_Board_Pick = some r_word_Board_Pick := by kernel_rfl

/-- (*junto/word.Board).Pick$1 -/
def r_word_Board_Pick_1 : RFn := ⟨11,
  .seq (.reg [] [
    ⟨(some 5), none, .mv (.c (.int .i64 0))⟩]) <|
  .keep [0, 1, 2, 3] <|
  .seq (.reg [] [
    ⟨(some 6), none, .mv (.t 0)⟩,
    ⟨(some 7), none, .ld none none (.t 1)⟩,
    ⟨(some 8), none, .ld none none (.t 2)⟩,
    ⟨(some 9), none, .ld none none (.t 3)⟩,
    ⟨(some 10), none, .call [0, 1, 2, 3] [0, 1, 2, 3] 78 [(.t 6), (.t 7), (.t 8), (.t 9)]⟩,
    ⟨(some 5), none, .mv (.t 10)⟩]) <|
  .ret,
  [.tmp 5], [0, 1, 2, 3], [0, 1, 2, 3]⟩

theorem k_word_Board_Pick_1 : rbFn Try.prog 77 r_word_Board_Pick_1 = some r_word_Board_Pick_1 := by kernel_rfl

/-- (*junto/word.Board).Num -/
def r_word_Board_Num : RFn := ⟨13,
  .seq (.reg [] [
    ⟨(some 3), none, .box 103 44 (.t 1)⟩,
    ⟨(some 4), none, .mv (.c (.int .i64 0))⟩,
    ⟨(some 5), none, .mv (.c (.int .i64 0))⟩]) <|
  .keep [0, 3] <|
  .settle 103 <|
  .seq (.reg [] [
    ⟨(some 6), none, .mv (.t 0)⟩,
    ⟨(some 7), none, .ld none none (.t 3)⟩,
    ⟨(some 8), none, .ld none none (.t 3)⟩,
    ⟨(some 9), none, .mkf (.func 79) [] [(.t 3)]⟩,
    ⟨(some 10), none, .call [0, 1, 2, 3] [0, 1, 2, 3] 33 [(.t 6), (.t 7), (.t 8), (.t 9)]⟩,
    ⟨(some 11), none, .ext 0 (.t 10)⟩,
    ⟨(some 12), none, .ext 1 (.t 10)⟩,
    ⟨(some 4), none, .mv (.t 11)⟩,
    ⟨(some 5), none, .mv (.t 12)⟩]) <|
  .ret,
  [.tmp 4, .tmp 5], [0, 1, 2, 3], [0, 1, 2, 3]⟩

theorem k_word_Board_Num : rbFn Try.prog 50 r_word_Board_Num = some r_word_Board_Num := by kernel_rfl

/-- (*junto/word.Board).Num$1 -/
def r_word_Board_Num_1 : RFn := ⟨7,
  .seq (.reg [] [
    ⟨(some 3), none, .mv (.c (.int .i64 0))⟩]) <|
  .keep [0, 1] <|
  .seq (.reg [] [
    ⟨(some 4), none, .mv (.t 0)⟩,
    ⟨(some 5), none, .ld none none (.t 1)⟩,
    ⟨(some 6), none, .call [0, 1, 2, 3] [0, 1, 2, 3] 80 [(.t 4), (.t 5)]⟩,
    ⟨(some 3), none, .mv (.t 6)⟩]) <|
  .ret,
  [.tmp 3], [0, 1, 2, 3], [0, 1, 2, 3]⟩

theorem k_word_Board_Num_1 : rbFn Try.prog 79 r_word_Board_Num_1 = some r_word_Board_Num_1 := by kernel_rfl

/-- (*junto/word.Board).Plus -/
def r_word_Board_Plus : RFn := ⟨15,
  .seq (.reg [] [
    ⟨(some 4), none, .box 104 44 (.t 1)⟩,
    ⟨(some 5), none, .box 105 44 (.t 2)⟩,
    ⟨(some 6), none, .mv (.c (.slice none 0 0))⟩,
    ⟨(some 7), none, .mv (.c (.int .i64 0))⟩]) <|
  .keep [0, 4, 5] <|
  .settle 105 <|
  .settle 104 <|
  .seq (.reg [] [
    ⟨(some 8), none, .mv (.t 0)⟩,
    ⟨(some 9), none, .ld none none (.t 4)⟩,
    ⟨(some 10), none, .ld none none (.t 5)⟩,
    ⟨(some 11), none, .mkf (.func 55) [] [(.t 4), (.t 5)]⟩,
    ⟨(some 12), none, .call [0, 1, 2, 3] [0, 1, 2, 3] 54 [(.t 8), (.t 9), (.t 10), (.t 11)]⟩,
    ⟨(some 13), none, .ext 0 (.t 12)⟩,
    ⟨(some 14), none, .ext 1 (.t 12)⟩,
    ⟨(some 6), none, .mv (.t 13)⟩,
    ⟨(some 7), none, .mv (.t 14)⟩]) <|
  .ret,
  [.tmp 6, .tmp 7], [0, 1, 2, 3], [0, 1, 2, 3]⟩

theorem k_word_Board_Plus : rbFn Try.prog 29 r_word_Board_Plus = some r_word_Board_Plus := by kernel_rfl

/-- (*junto/word.Board).Plus$1 -/
def r_word_Board_Plus_1 : RFn := ⟨9,
  .seq (.reg [] [
    ⟨(some 4), none, .mv (.c (.slice none 0 0))⟩]) <|
  .keep [0, 1, 2] <|
  .seq (.reg [] [
    ⟨(some 5), none, .mv (.t 0)⟩,
    ⟨(some 6), none, .ld none none (.t 1)⟩,
    ⟨(some 7), none, .ld none none (.t 2)⟩,
    ⟨(some 8), none, .call [0, 1, 2, 3] [0, 1, 2, 3] 56 [(.t 5), (.t 6), (.t 7)]⟩,
    ⟨(some 4), none, .mv (.t 8)⟩]) <|
  .ret,
  [.tmp 4], [0, 1, 2, 3], [0, 1, 2, 3]⟩

theorem k_word_Board_Plus_1 : rbFn Try.prog 55 r_word_Board_Plus_1 = some r_word_Board_Plus_1 := by kernel_rfl

/-- (*junto/word.Board).Minus -/
def r_word_Board_Minus : RFn := ⟨15,
  .seq (.reg [] [
    ⟨(some 4), none, .box 104 44 (.t 1)⟩,
    ⟨(some 5), none, .box 105 44 (.t 2)⟩,
    ⟨(some 6), none, .mv (.c (.slice none 0 0))⟩,
    ⟨(some 7), none, .mv (.c (.int .i64 0))⟩]) <|
  .keep [0, 4, 5] <|
  .settle 105 <|
  .settle 104 <|
  .seq (.reg [] [
    ⟨(some 8), none, .mv (.t 0)⟩,
    ⟨(some 9), none, .ld none none (.t 4)⟩,
    ⟨(some 10), none, .ld none none (.t 5)⟩,
    ⟨(some 11), none, .mkf (.func 57) [] [(.t 4), (.t 5)]⟩,
    ⟨(some 12), none, .call [0, 1, 2, 3] [0, 1, 2, 3] 54 [(.t 8), (.t 9), (.t 10), (.t 11)]⟩,
    ⟨(some 13), none, .ext 0 (.t 12)⟩,
    ⟨(some 14), none, .ext 1 (.t 12)⟩,
    ⟨(some 6), none, .mv (.t 13)⟩,
    ⟨(some 7), none, .mv (.t 14)⟩]) <|
  .ret,
  [.tmp 6, .tmp 7], [0, 1, 2, 3], [0, 1, 2, 3]⟩

theorem k_word_Board_Minus : rbFn Try.prog 30 r_word_Board_Minus = some r_word_Board_Minus := by kernel_rfl

/-- (*junto/word.Board).Minus$1 -/
def r_word_Board_Minus_1 : RFn := ⟨9,
  .seq (.reg [] [
    ⟨(some 4), none, .mv (.c (.slice none 0 0))⟩]) <|
  .keep [0, 1, 2] <|
  .seq (.reg [] [
    ⟨(some 5), none, .mv (.t 0)⟩,
    ⟨(some 6), none, .ld none none (.t 1)⟩,
    ⟨(some 7), none, .ld none none (.t 2)⟩,
    ⟨(some 8), none, .call [0, 1, 2, 3] [0, 1, 2, 3] 58 [(.t 5), (.t 6), (.t 7)]⟩,
    ⟨(some 4), none, .mv (.t 8)⟩]) <|
  .ret,
  [.tmp 4], [0, 1, 2, 3], [0, 1, 2, 3]⟩

theorem k_word_Board_Minus_1 : rbFn Try.prog 57 r_word_Board_Minus_1 = some r_word_Board_Minus_1 := by kernel_rfl

/-- (*junto/word.Board).Times -/
def r_word_Board_Times : RFn := ⟨15,
  .seq (.reg [] [
    ⟨(some 4), none, .box 104 44 (.t 1)⟩,
    ⟨(some 5), none, .box 105 44 (.t 2)⟩,
    ⟨(some 6), none, .mv (.c (.slice none 0 0))⟩,
    ⟨(some 7), none, .mv (.c (.int .i64 0))⟩]) <|
  .keep [0, 4, 5] <|
  .settle 105 <|
  .settle 104 <|
  .seq (.reg [] [
    ⟨(some 8), none, .mv (.t 0)⟩,
    ⟨(some 9), none, .ld none none (.t 4)⟩,
    ⟨(some 10), none, .ld none none (.t 5)⟩,
    ⟨(some 11), none, .mkf (.func 59) [] [(.t 4), (.t 5)]⟩,
    ⟨(some 12), none, .call [0, 1, 2, 3] [0, 1, 2, 3] 54 [(.t 8), (.t 9), (.t 10), (.t 11)]⟩,
    ⟨(some 13), none, .ext 0 (.t 12)⟩,
    ⟨(some 14), none, .ext 1 (.t 12)⟩,
    ⟨(some 6), none, .mv (.t 13)⟩,
    ⟨(some 7), none, .mv (.t 14)⟩]) <|
  .ret,
  [.tmp 6, .tmp 7], [0, 1, 2, 3], [0, 1, 2, 3]⟩

theorem k_word_Board_Times : rbFn Try.prog 31 r_word_Board_Times = some r_word_Board_Times := by kernel_rfl

/-- (*junto/word.Board).Times$1 -/
def r_word_Board_Times_1 : RFn := ⟨9,
  .seq (.reg [] [
    ⟨(some 4), none, .mv (.c (.slice none 0 0))⟩]) <|
  .keep [0, 1, 2] <|
  .seq (.reg [] [
    ⟨(some 5), none, .mv (.t 0)⟩,
    ⟨(some 6), none, .ld none none (.t 1)⟩,
    ⟨(some 7), none, .ld none none (.t 2)⟩,
    ⟨(some 8), none, .call [0, 1, 2, 3] [0, 1, 2, 3] 60 [(.t 5), (.t 6), (.t 7)]⟩,
    ⟨(some 4), none, .mv (.t 8)⟩]) <|
  .ret,
  [.tmp 4], [0, 1, 2, 3], [0, 1, 2, 3]⟩

theorem k_word_Board_Times_1 : rbFn Try.prog 59 r_word_Board_Times_1 = some r_word_Board_Times_1 := by kernel_rfl

/-- (*junto/word.Board).Same -/
def r_word_Board_Same : RFn := ⟨15,
  .seq (.reg [] [
    ⟨(some 4), none, .box 104 44 (.t 1)⟩,
    ⟨(some 5), none, .box 105 44 (.t 2)⟩,
    ⟨(some 6), none, .mv (.c (.int .i64 0))⟩,
    ⟨(some 7), none, .mv (.c (.int .i64 0))⟩]) <|
  .keep [0, 4, 5] <|
  .settle 105 <|
  .settle 104 <|
  .seq (.reg [] [
    ⟨(some 8), none, .mv (.t 0)⟩,
    ⟨(some 9), none, .ld none none (.t 4)⟩,
    ⟨(some 10), none, .ld none none (.t 5)⟩,
    ⟨(some 11), none, .mkf (.func 34) [] [(.t 4), (.t 5)]⟩,
    ⟨(some 12), none, .call [0, 1, 2, 3] [0, 1, 2, 3] 33 [(.t 8), (.t 9), (.t 10), (.t 11)]⟩,
    ⟨(some 13), none, .ext 0 (.t 12)⟩,
    ⟨(some 14), none, .ext 1 (.t 12)⟩,
    ⟨(some 6), none, .mv (.t 13)⟩,
    ⟨(some 7), none, .mv (.t 14)⟩]) <|
  .ret,
  [.tmp 6, .tmp 7], [0, 1, 2, 3], [0, 1, 2, 3]⟩

theorem k_word_Board_Same : rbFn Try.prog 16 r_word_Board_Same = some r_word_Board_Same := by kernel_rfl

/-- (*junto/word.Board).Same$1 -/
def r_word_Board_Same_1 : RFn := ⟨9,
  .seq (.reg [] [
    ⟨(some 4), none, .mv (.c (.int .i64 0))⟩]) <|
  .keep [0, 1, 2] <|
  .seq (.reg [] [
    ⟨(some 5), none, .mv (.t 0)⟩,
    ⟨(some 6), none, .ld none none (.t 1)⟩,
    ⟨(some 7), none, .ld none none (.t 2)⟩,
    ⟨(some 8), none, .call [0, 1, 2, 3] [0, 1, 2, 3] 35 [(.t 5), (.t 6), (.t 7)]⟩,
    ⟨(some 4), none, .mv (.t 8)⟩]) <|
  .ret,
  [.tmp 4], [0, 1, 2, 3], [0, 1, 2, 3]⟩

theorem k_word_Board_Same_1 : rbFn Try.prog 34 r_word_Board_Same_1 = some r_word_Board_Same_1 := by kernel_rfl

/-- (*junto/word.Board).Less -/
def r_word_Board_Less : RFn := ⟨15,
  .seq (.reg [] [
    ⟨(some 4), none, .box 104 44 (.t 1)⟩,
    ⟨(some 5), none, .box 105 44 (.t 2)⟩,
    ⟨(some 6), none, .mv (.c (.int .i64 0))⟩,
    ⟨(some 7), none, .mv (.c (.int .i64 0))⟩]) <|
  .keep [0, 4, 5] <|
  .settle 105 <|
  .settle 104 <|
  .seq (.reg [] [
    ⟨(some 8), none, .mv (.t 0)⟩,
    ⟨(some 9), none, .ld none none (.t 4)⟩,
    ⟨(some 10), none, .ld none none (.t 5)⟩,
    ⟨(some 11), none, .mkf (.func 36) [] [(.t 4), (.t 5)]⟩,
    ⟨(some 12), none, .call [0, 1, 2, 3] [0, 1, 2, 3] 33 [(.t 8), (.t 9), (.t 10), (.t 11)]⟩,
    ⟨(some 13), none, .ext 0 (.t 12)⟩,
    ⟨(some 14), none, .ext 1 (.t 12)⟩,
    ⟨(some 6), none, .mv (.t 13)⟩,
    ⟨(some 7), none, .mv (.t 14)⟩]) <|
  .ret,
  [.tmp 6, .tmp 7], [0, 1, 2, 3], [0, 1, 2, 3]⟩

theorem k_word_Board_Less : rbFn Try.prog 17 r_word_Board_Less = some r_word_Board_Less := by kernel_rfl

/-- (*junto/word.Board).Less$1 -/
def r_word_Board_Less_1 : RFn := ⟨9,
  .seq (.reg [] [
    ⟨(some 4), none, .mv (.c (.int .i64 0))⟩]) <|
  .keep [0, 1, 2] <|
  .seq (.reg [] [
    ⟨(some 5), none, .mv (.t 0)⟩,
    ⟨(some 6), none, .ld none none (.t 1)⟩,
    ⟨(some 7), none, .ld none none (.t 2)⟩,
    ⟨(some 8), none, .call [0, 1, 2, 3] [0, 1, 2, 3] 37 [(.t 5), (.t 6), (.t 7)]⟩,
    ⟨(some 4), none, .mv (.t 8)⟩]) <|
  .ret,
  [.tmp 4], [0, 1, 2, 3], [0, 1, 2, 3]⟩

theorem k_word_Board_Less_1 : rbFn Try.prog 36 r_word_Board_Less_1 = some r_word_Board_Less_1 := by kernel_rfl


theorem encI_flat (k : IntKind) : ∀ l : List Int, (encI k l).flatten = l.map fun x => Value.int k x
  | [] => rfl
  | x :: r => by
    have := encI_flat k r
    simp only [encI, List.map_cons, List.flatten_cons, List.cons_append, List.nil_append] at *
    rw [this]
theorem slI_lit {G : GH} {b : Nat} {l : List Int} (h : CellsAt G b 0 (l.map fun x => Value.int .i64 x)) (hl : l.length ≤ 65536) : SlI G .i64 (.slice (some ⟨b, 0, none⟩) l.length l.length) l :=
  ⟨_, _, rfl, Nat.le_refl _, by simp only [maxLen]; omega, encI_len _ _, by rw [encI_flat]; exact h⟩

theorem c_Not1 {bb p0 : Nat} {x : Int} {B : Bd} {G : GH} {Es : List (List Ent)} (hb : BoardM G bb B Es) (hp : B.p ≠ 0) (h0 : G p0 0 = some (.int .i64 x)) :
    ACalls Try.prog 71 [rg bb, .pointer (some ⟨p0, 0, none⟩)] G Es (WR bb encZ (rNot x B)) := by
  obtain ⟨e0, e1, e2, e3, rfl⟩ := hb.es
  refine acalls mixed k_word_Board_Not_1 (by simp) fun F => ?_
  simp only [GV, frArgs, memArgs, resV, fillL, ← Bool.decide_or, ← Bool.decide_and, ← decide_not, ↓reduceIte, Nat.reduceEqDiff, Nat.reduceAdd, Nat.reduceMul, Nat.reduceLeDiff, Nat.reduceLT, Nat.reduceSub, Nat.succ_ne_zero, Nat.one_ne_zero, Nat.zero_ne_one, true_implies, false_implies, forall_const, implies_true, reduceCtorEq, eq_self, ite_true, ite_false, decide_true, decide_false, Nat.le_refl, Bool.false_eq_true, if_true, if_false, h0]
  refine wcallf (c_rNot hb hp) ?_ ?_
  · rintro k B1 u G4 e0 e1 e2 e3 hg4 hr hu hbm hp1
    simp only [GV, frArgs, memArgs, resV, fillL, ← Bool.decide_or, ← Bool.decide_and, ← decide_not, ↓reduceIte, Nat.reduceEqDiff, Nat.reduceAdd, Nat.reduceMul, Nat.reduceLeDiff, Nat.reduceLT, Nat.reduceSub, Nat.succ_ne_zero, Nat.one_ne_zero, Nat.zero_ne_one, true_implies, false_implies, forall_const, implies_true, reduceCtorEq, eq_self, ite_true, ite_false, decide_true, decide_false, Nat.le_refl, Bool.false_eq_true, if_true, if_false]
    exact WR.ok hr hu hbm hp1
  · rintro e B1 G4 e0 e1 e2 e3 hg4 hr hbm hp1
    simp only [GV, frArgs, memArgs, resV, fillL, ← Bool.decide_or, ← Bool.decide_and, ← decide_not, ↓reduceIte, Nat.reduceEqDiff, Nat.reduceAdd, Nat.reduceMul, Nat.reduceLeDiff, Nat.reduceLT, Nat.reduceSub, Nat.succ_ne_zero, Nat.one_ne_zero, Nat.zero_ne_one, true_implies, false_implies, forall_const, implies_true, reduceCtorEq, eq_self, ite_true, ite_false, decide_true, decide_false, Nat.le_refl, Bool.false_eq_true, if_true, if_false]
    exact WR.bad hr hbm hp1
set_option maxRecDepth 20000 in
theorem c_Not {v : Value} {x : Int} {B : Bd} {G : GH} {Es : List (List Ent)} (hb : BoardV G v B Es) :
    ACalls Try.prog 45 [v, .int .i64 x] G Es (DoR v (.int .i64 0) encZ (doM B [x] (rNot x))) := by
  obtain ⟨es0, es1, es2, es3, rfl⟩ : ∃ a b c d, Es = [a, b, c, d] := by
    rcases hb with ⟨_, _, rfl⟩ | ⟨bb, _, v1, v2, v3, es1, es2, es3, rfl, _⟩ <;> exact ⟨_, _, _, _, rfl⟩
  refine acalls mixed k_word_Board_Not (by simp) fun F => ?_
  simp only [GV, frArgs, memArgs, resV, fillL, ← Bool.decide_or, ← Bool.decide_and, ← decide_not, ↓reduceIte, Nat.reduceEqDiff, Nat.reduceAdd, Nat.reduceMul, Nat.reduceLeDiff, Nat.reduceLT, Nat.reduceSub, Nat.succ_ne_zero, Nat.one_ne_zero, Nat.zero_ne_one, true_implies, false_implies, forall_const, implies_true, reduceCtorEq, eq_self, ite_true, ite_false, decide_true, decide_false, Nat.le_refl, Bool.false_eq_true, if_true, if_false]
  intro p0
  refine settle_intro fun G1 hg1 hc1 => ?_
  have h0 : G1 p0 0 = some (.int .i64 x) := hc1 0 _ rfl
  simp only [GV, frArgs, memArgs, resV, fillL, ← Bool.decide_or, ← Bool.decide_and, ← decide_not, ↓reduceIte, Nat.reduceEqDiff, Nat.reduceAdd, Nat.reduceMul, Nat.reduceLeDiff, Nat.reduceLT, Nat.reduceSub, Nat.succ_ne_zero, Nat.one_ne_zero, Nat.zero_ne_one, true_implies, false_implies, forall_const, implies_true, reduceCtorEq, eq_self, ite_true, ite_false, decide_true, decide_false, Nat.le_refl, Bool.false_eq_true, if_true, if_false, h0]
  have hgg := hg1
  refine bsl_intro fun b9 G9 hg9 hc9 => ?_
  simp only [GV, frArgs, memArgs, resV, fillL, ← Bool.decide_or, ← Bool.decide_and, ← decide_not, ↓reduceIte, Nat.reduceEqDiff, Nat.reduceAdd, Nat.reduceMul, Nat.reduceLeDiff, Nat.reduceLT, Nat.reduceSub, Nat.succ_ne_zero, Nat.one_ne_zero, Nat.zero_ne_one, true_implies, false_implies, forall_const, implies_true, reduceCtorEq, eq_self, ite_true, ite_false, decide_true, decide_false, Nat.le_refl, Bool.false_eq_true, if_true, if_false]
  refine (c_do_int (x := []) (y := [.pointer (some ⟨p0, 0, none⟩)]) (m := rNot x) (are := [x]) (hb.mono (hgg.trans hg9)) (slI_lit (l := [x]) hc9 (by simp)) (by simp) (grows_not _ B) ?_).mono ?_
  · intro bb G8 Es8 hv hp _ hg8 hbm
    have hg98 := hg9.trans hg8
    exact c_Not1 hbm hp (hg98 _ _ _ h0)
  · intro o G8 Es8 hg8 hd
    have hd0 := hd
    obtain ⟨v8, e0, e1, e2, e3, rfl, rfl⟩ := hd.es_int
    simp only [GV, frArgs, memArgs, resV, fillL, ← Bool.decide_or, ← Bool.decide_and, ← decide_not, ↓reduceIte, Nat.reduceEqDiff, Nat.reduceAdd, Nat.reduceMul, Nat.reduceLeDiff, Nat.reduceLT, Nat.reduceSub, Nat.succ_ne_zero, Nat.one_ne_zero, Nat.zero_ne_one, true_implies, false_implies, forall_const, implies_true, reduceCtorEq, eq_self, ite_true, ite_false, decide_true, decide_false, Nat.le_refl, Bool.false_eq_true, if_true, if_false]
    exact hd0

theorem c_And1 {bb p0 p1 : Nat} {x y : Int} {B : Bd} {G : GH} {Es : List (List Ent)} (hb : BoardM G bb B Es) (hp : B.p ≠ 0) (h0 : G p0 0 = some (.int .i64 x)) (h1 : G p1 0 = some (.int .i64 y)) :
    ACalls Try.prog 72 [rg bb, .pointer (some ⟨p0, 0, none⟩), .pointer (some ⟨p1, 0, none⟩)] G Es (WR bb encZ (rAnd x y B)) := by
  obtain ⟨e0, e1, e2, e3, rfl⟩ := hb.es
  refine acalls mixed k_word_Board_And_1 (by simp) fun F => ?_
  simp only [GV, frArgs, memArgs, resV, fillL, ← Bool.decide_or, ← Bool.decide_and, ← decide_not, ↓reduceIte, Nat.reduceEqDiff, Nat.reduceAdd, Nat.reduceMul, Nat.reduceLeDiff, Nat.reduceLT, Nat.reduceSub, Nat.succ_ne_zero, Nat.one_ne_zero, Nat.zero_ne_one, true_implies, false_implies, forall_const, implies_true, reduceCtorEq, eq_self, ite_true, ite_false, decide_true, decide_false, Nat.le_refl, Bool.false_eq_true, if_true, if_false, h0, h1]
  refine wcallf (c_rAnd hb hp) ?_ ?_
  · rintro k B1 u G4 e0 e1 e2 e3 hg4 hr hu hbm hp1
    simp only [GV, frArgs, memArgs, resV, fillL, ← Bool.decide_or, ← Bool.decide_and, ← decide_not, ↓reduceIte, Nat.reduceEqDiff, Nat.reduceAdd, Nat.reduceMul, Nat.reduceLeDiff, Nat.reduceLT, Nat.reduceSub, Nat.succ_ne_zero, Nat.one_ne_zero, Nat.zero_ne_one, true_implies, false_implies, forall_const, implies_true, reduceCtorEq, eq_self, ite_true, ite_false, decide_true, decide_false, Nat.le_refl, Bool.false_eq_true, if_true, if_false]
    exact WR.ok hr hu hbm hp1
  · rintro e B1 G4 e0 e1 e2 e3 hg4 hr hbm hp1
    simp only [GV, frArgs, memArgs, resV, fillL, ← Bool.decide_or, ← Bool.decide_and, ← decide_not, ↓reduceIte, Nat.reduceEqDiff, Nat.reduceAdd, Nat.reduceMul, Nat.reduceLeDiff, Nat.reduceLT, Nat.reduceSub, Nat.succ_ne_zero, Nat.one_ne_zero, Nat.zero_ne_one, true_implies, false_implies, forall_const, implies_true, reduceCtorEq, eq_self, ite_true, ite_false, decide_true, decide_false, Nat.le_refl, Bool.false_eq_true, if_true, if_false]
    exact WR.bad hr hbm hp1
set_option maxRecDepth 20000 in
theorem c_And {v : Value} {x y : Int} {B : Bd} {G : GH} {Es : List (List Ent)} (hb : BoardV G v B Es) :
    ACalls Try.prog 46 [v, .int .i64 x, .int .i64 y] G Es (DoR v (.int .i64 0) encZ (doM B [x, y] (rAnd x y))) := by
  obtain ⟨es0, es1, es2, es3, rfl⟩ : ∃ a b c d, Es = [a, b, c, d] := by
    rcases hb with ⟨_, _, rfl⟩ | ⟨bb, _, v1, v2, v3, es1, es2, es3, rfl, _⟩ <;> exact ⟨_, _, _, _, rfl⟩
  refine acalls mixed k_word_Board_And (by simp) fun F => ?_
  simp only [GV, frArgs, memArgs, resV, fillL, ← Bool.decide_or, ← Bool.decide_and, ← decide_not, ↓reduceIte, Nat.reduceEqDiff, Nat.reduceAdd, Nat.reduceMul, Nat.reduceLeDiff, Nat.reduceLT, Nat.reduceSub, Nat.succ_ne_zero, Nat.one_ne_zero, Nat.zero_ne_one, true_implies, false_implies, forall_const, implies_true, reduceCtorEq, eq_self, ite_true, ite_false, decide_true, decide_false, Nat.le_refl, Bool.false_eq_true, if_true, if_false]
  intro p0 p1
  refine settle_intro fun G1 hg1 hc1 => ?_
  have h1 : G1 p1 0 = some (.int .i64 y) := hc1 0 _ rfl
  simp only [GV, frArgs, memArgs, resV, fillL, ← Bool.decide_or, ← Bool.decide_and, ← decide_not, ↓reduceIte, Nat.reduceEqDiff, Nat.reduceAdd, Nat.reduceMul, Nat.reduceLeDiff, Nat.reduceLT, Nat.reduceSub, Nat.succ_ne_zero, Nat.one_ne_zero, Nat.zero_ne_one, true_implies, false_implies, forall_const, implies_true, reduceCtorEq, eq_self, ite_true, ite_false, decide_true, decide_false, Nat.le_refl, Bool.false_eq_true, if_true, if_false]
  refine settle_intro fun G2 hg2 hc2 => ?_
  have h0 : G2 p0 0 = some (.int .i64 x) := hc2 0 _ rfl
  replace h1 := hg2 _ _ _ h1
  simp only [GV, frArgs, memArgs, resV, fillL, ← Bool.decide_or, ← Bool.decide_and, ← decide_not, ↓reduceIte, Nat.reduceEqDiff, Nat.reduceAdd, Nat.reduceMul, Nat.reduceLeDiff, Nat.reduceLT, Nat.reduceSub, Nat.succ_ne_zero, Nat.one_ne_zero, Nat.zero_ne_one, true_implies, false_implies, forall_const, implies_true, reduceCtorEq, eq_self, ite_true, ite_false, decide_true, decide_false, Nat.le_refl, Bool.false_eq_true, if_true, if_false, h0, h1]
  have hgg := hg1.trans hg2
  refine bsl_intro fun b9 G9 hg9 hc9 => ?_
  simp only [GV, frArgs, memArgs, resV, fillL, ← Bool.decide_or, ← Bool.decide_and, ← decide_not, ↓reduceIte, Nat.reduceEqDiff, Nat.reduceAdd, Nat.reduceMul, Nat.reduceLeDiff, Nat.reduceLT, Nat.reduceSub, Nat.succ_ne_zero, Nat.one_ne_zero, Nat.zero_ne_one, true_implies, false_implies, forall_const, implies_true, reduceCtorEq, eq_self, ite_true, ite_false, decide_true, decide_false, Nat.le_refl, Bool.false_eq_true, if_true, if_false]
  refine (c_do_int (x := []) (y := [.pointer (some ⟨p0, 0, none⟩), .pointer (some ⟨p1, 0, none⟩)]) (m := rAnd x y) (are := [x, y]) (hb.mono (hgg.trans hg9)) (slI_lit (l := [x, y]) hc9 (by simp)) (by simp) (grows_and _ _ B) ?_).mono ?_
  · intro bb G8 Es8 hv hp _ hg8 hbm
    have hg98 := hg9.trans hg8
    exact c_And1 hbm hp (hg98 _ _ _ h0) (hg98 _ _ _ h1)
  · intro o G8 Es8 hg8 hd
    have hd0 := hd
    obtain ⟨v8, e0, e1, e2, e3, rfl, rfl⟩ := hd.es_int
    simp only [GV, frArgs, memArgs, resV, fillL, ← Bool.decide_or, ← Bool.decide_and, ← decide_not, ↓reduceIte, Nat.reduceEqDiff, Nat.reduceAdd, Nat.reduceMul, Nat.reduceLeDiff, Nat.reduceLT, Nat.reduceSub, Nat.succ_ne_zero, Nat.one_ne_zero, Nat.zero_ne_one, true_implies, false_implies, forall_const, implies_true, reduceCtorEq, eq_self, ite_true, ite_false, decide_true, decide_false, Nat.le_refl, Bool.false_eq_true, if_true, if_false]
    exact hd0

theorem c_Or1 {bb p0 p1 : Nat} {x y : Int} {B : Bd} {G : GH} {Es : List (List Ent)} (hb : BoardM G bb B Es) (hp : B.p ≠ 0) (h0 : G p0 0 = some (.int .i64 x)) (h1 : G p1 0 = some (.int .i64 y)) :
    ACalls Try.prog 74 [rg bb, .pointer (some ⟨p0, 0, none⟩), .pointer (some ⟨p1, 0, none⟩)] G Es (WR bb encZ (rOr x y B)) := by
  obtain ⟨e0, e1, e2, e3, rfl⟩ := hb.es
  refine acalls mixed k_word_Board_Or_1 (by simp) fun F => ?_
  simp only [GV, frArgs, memArgs, resV, fillL, ← Bool.decide_or, ← Bool.decide_and, ← decide_not, ↓reduceIte, Nat.reduceEqDiff, Nat.reduceAdd, Nat.reduceMul, Nat.reduceLeDiff, Nat.reduceLT, Nat.reduceSub, Nat.succ_ne_zero, Nat.one_ne_zero, Nat.zero_ne_one, true_implies, false_implies, forall_const, implies_true, reduceCtorEq, eq_self, ite_true, ite_false, decide_true, decide_false, Nat.le_refl, Bool.false_eq_true, if_true, if_false, h0, h1]
  refine wcallf (c_rOr hb hp) ?_ ?_
  · rintro k B1 u G4 e0 e1 e2 e3 hg4 hr hu hbm hp1
    simp only [GV, frArgs, memArgs, resV, fillL, ← Bool.decide_or, ← Bool.decide_and, ← decide_not, ↓reduceIte, Nat.reduceEqDiff, Nat.reduceAdd, Nat.reduceMul, Nat.reduceLeDiff, Nat.reduceLT, Nat.reduceSub, Nat.succ_ne_zero, Nat.one_ne_zero, Nat.zero_ne_one, true_implies, false_implies, forall_const, implies_true, reduceCtorEq, eq_self, ite_true, ite_false, decide_true, decide_false, Nat.le_refl, Bool.false_eq_true, if_true, if_false]
    exact WR.ok hr hu hbm hp1
  · rintro e B1 G4 e0 e1 e2 e3 hg4 hr hbm hp1
    simp only [GV, frArgs, memArgs, resV, fillL, ← Bool.decide_or, ← Bool.decide_and, ← decide_not, ↓reduceIte, Nat.reduceEqDiff, Nat.reduceAdd, Nat.reduceMul, Nat.reduceLeDiff, Nat.reduceLT, Nat.reduceSub, Nat.succ_ne_zero, Nat.one_ne_zero, Nat.zero_ne_one, true_implies, false_implies, forall_const, implies_true, reduceCtorEq, eq_self, ite_true, ite_false, decide_true, decide_false, Nat.le_refl, Bool.false_eq_true, if_true, if_false]
    exact WR.bad hr hbm hp1
set_option maxRecDepth 20000 in
theorem c_Or {v : Value} {x y : Int} {B : Bd} {G : GH} {Es : List (List Ent)} (hb : BoardV G v B Es) :
    ACalls Try.prog 47 [v, .int .i64 x, .int .i64 y] G Es (DoR v (.int .i64 0) encZ (doM B [x, y] (rOr x y))) := by
  obtain ⟨es0, es1, es2, es3, rfl⟩ : ∃ a b c d, Es = [a, b, c, d] := by
    rcases hb with ⟨_, _, rfl⟩ | ⟨bb, _, v1, v2, v3, es1, es2, es3, rfl, _⟩ <;> exact ⟨_, _, _, _, rfl⟩
  refine acalls mixed k_word_Board_Or (by simp) fun F => ?_
  simp only [GV, frArgs, memArgs, resV, fillL, ← Bool.decide_or, ← Bool.decide_and, ← decide_not, ↓reduceIte, Nat.reduceEqDiff, Nat.reduceAdd, Nat.reduceMul, Nat.reduceLeDiff, Nat.reduceLT, Nat.reduceSub, Nat.succ_ne_zero, Nat.one_ne_zero, Nat.zero_ne_one, true_implies, false_implies, forall_const, implies_true, reduceCtorEq, eq_self, ite_true, ite_false, decide_true, decide_false, Nat.le_refl, Bool.false_eq_true, if_true, if_false]
  intro p0 p1
  refine settle_intro fun G1 hg1 hc1 => ?_
  have h1 : G1 p1 0 = some (.int .i64 y) := hc1 0 _ rfl
  simp only [GV, frArgs, memArgs, resV, fillL, ← Bool.decide_or, ← Bool.decide_and, ← decide_not, ↓reduceIte, Nat.reduceEqDiff, Nat.reduceAdd, Nat.reduceMul, Nat.reduceLeDiff, Nat.reduceLT, Nat.reduceSub, Nat.succ_ne_zero, Nat.one_ne_zero, Nat.zero_ne_one, true_implies, false_implies, forall_const, implies_true, reduceCtorEq, eq_self, ite_true, ite_false, decide_true, decide_false, Nat.le_refl, Bool.false_eq_true, if_true, if_false]
  refine settle_intro fun G2 hg2 hc2 => ?_
  have h0 : G2 p0 0 = some (.int .i64 x) := hc2 0 _ rfl
  replace h1 := hg2 _ _ _ h1
  simp only [GV, frArgs, memArgs, resV, fillL, ← Bool.decide_or, ← Bool.decide_and, ← decide_not, ↓reduceIte, Nat.reduceEqDiff, Nat.reduceAdd, Nat.reduceMul, Nat.reduceLeDiff, Nat.reduceLT, Nat.reduceSub, Nat.succ_ne_zero, Nat.one_ne_zero, Nat.zero_ne_one, true_implies, false_implies, forall_const, implies_true, reduceCtorEq, eq_self, ite_true, ite_false, decide_true, decide_false, Nat.le_refl, Bool.false_eq_true, if_true, if_false, h0, h1]
  have hgg := hg1.trans hg2
  refine bsl_intro fun b9 G9 hg9 hc9 => ?_
  simp only [GV, frArgs, memArgs, resV, fillL, ← Bool.decide_or, ← Bool.decide_and, ← decide_not, ↓reduceIte, Nat.reduceEqDiff, Nat.reduceAdd, Nat.reduceMul, Nat.reduceLeDiff, Nat.reduceLT, Nat.reduceSub, Nat.succ_ne_zero, Nat.one_ne_zero, Nat.zero_ne_one, true_implies, false_implies, forall_const, implies_true, reduceCtorEq, eq_self, ite_true, ite_false, decide_true, decide_false, Nat.le_refl, Bool.false_eq_true, if_true, if_false]
  refine (c_do_int (x := []) (y := [.pointer (some ⟨p0, 0, none⟩), .pointer (some ⟨p1, 0, none⟩)]) (m := rOr x y) (are := [x, y]) (hb.mono (hgg.trans hg9)) (slI_lit (l := [x, y]) hc9 (by simp)) (by simp) (grows_or _ _ B) ?_).mono ?_
  · intro bb G8 Es8 hv hp _ hg8 hbm
    have hg98 := hg9.trans hg8
    exact c_Or1 hbm hp (hg98 _ _ _ h0) (hg98 _ _ _ h1)
  · intro o G8 Es8 hg8 hd
    have hd0 := hd
    obtain ⟨v8, e0, e1, e2, e3, rfl, rfl⟩ := hd.es_int
    simp only [GV, frArgs, memArgs, resV, fillL, ← Bool.decide_or, ← Bool.decide_and, ← decide_not, ↓reduceIte, Nat.reduceEqDiff, Nat.reduceAdd, Nat.reduceMul, Nat.reduceLeDiff, Nat.reduceLT, Nat.reduceSub, Nat.succ_ne_zero, Nat.one_ne_zero, Nat.zero_ne_one, true_implies, false_implies, forall_const, implies_true, reduceCtorEq, eq_self, ite_true, ite_false, decide_true, decide_false, Nat.le_refl, Bool.false_eq_true, if_true, if_false]
    exact hd0

theorem c_Xor1 {bb p0 p1 : Nat} {x y : Int} {B : Bd} {G : GH} {Es : List (List Ent)} (hb : BoardM G bb B Es) (hp : B.p ≠ 0) (h0 : G p0 0 = some (.int .i64 x)) (h1 : G p1 0 = some (.int .i64 y)) :
    ACalls Try.prog 76 [rg bb, .pointer (some ⟨p0, 0, none⟩), .pointer (some ⟨p1, 0, none⟩)] G Es (WR bb encZ (rXor x y B)) := by
  obtain ⟨e0, e1, e2, e3, rfl⟩ := hb.es
  refine acalls mixed k_word_Board_Xor_1 (by simp) fun F => ?_
  simp only [GV, frArgs, memArgs, resV, fillL, ← Bool.decide_or, ← Bool.decide_and, ← decide_not, ↓reduceIte, Nat.reduceEqDiff, Nat.reduceAdd, Nat.reduceMul, Nat.reduceLeDiff, Nat.reduceLT, Nat.reduceSub, Nat.succ_ne_zero, Nat.one_ne_zero, Nat.zero_ne_one, true_implies, false_implies, forall_const, implies_true, reduceCtorEq, eq_self, ite_true, ite_false, decide_true, decide_false, Nat.le_refl, Bool.false_eq_true, if_true, if_false, h0, h1]
  refine wcallf (c_rXor hb hp) ?_ ?_
  · rintro k B1 u G4 e0 e1 e2 e3 hg4 hr hu hbm hp1
    simp only [GV, frArgs, memArgs, resV, fillL, ← Bool.decide_or, ← Bool.decide_and, ← decide_not, ↓reduceIte, Nat.reduceEqDiff, Nat.reduceAdd, Nat.reduceMul, Nat.reduceLeDiff, Nat.reduceLT, Nat.reduceSub, Nat.succ_ne_zero, Nat.one_ne_zero, Nat.zero_ne_one, true_implies, false_implies, forall_const, implies_true, reduceCtorEq, eq_self, ite_true, ite_false, decide_true, decide_false, Nat.le_refl, Bool.false_eq_true, if_true, if_false]
    exact WR.ok hr hu hbm hp1
  · rintro e B1 G4 e0 e1 e2 e3 hg4 hr hbm hp1
    simp only [GV, frArgs, memArgs, resV, fillL, ← Bool.decide_or, ← Bool.decide_and, ← decide_not, ↓reduceIte, Nat.reduceEqDiff, Nat.reduceAdd, Nat.reduceMul, Nat.reduceLeDiff, Nat.reduceLT, Nat.reduceSub, Nat.succ_ne_zero, Nat.one_ne_zero, Nat.zero_ne_one, true_implies, false_implies, forall_const, implies_true, reduceCtorEq, eq_self, ite_true, ite_false, decide_true, decide_false, Nat.le_refl, Bool.false_eq_true, if_true, if_false]
    exact WR.bad hr hbm hp1
set_option maxRecDepth 20000 in
theorem c_Xor {v : Value} {x y : Int} {B : Bd} {G : GH} {Es : List (List Ent)} (hb : BoardV G v B Es) :
    ACalls Try.prog 48 [v, .int .i64 x, .int .i64 y] G Es (DoR v (.int .i64 0) encZ (doM B [x, y] (rXor x y))) := by
  obtain ⟨es0, es1, es2, es3, rfl⟩ : ∃ a b c d, Es = [a, b, c, d] := by
    rcases hb with ⟨_, _, rfl⟩ | ⟨bb, _, v1, v2, v3, es1, es2, es3, rfl, _⟩ <;> exact ⟨_, _, _, _, rfl⟩
  refine acalls mixed k_word_Board_Xor (by simp) fun F => ?_
  simp only [GV, frArgs, memArgs, resV, fillL, ← Bool.decide_or, ← Bool.decide_and, ← decide_not, ↓reduceIte, Nat.reduceEqDiff, Nat.reduceAdd, Nat.reduceMul, Nat.reduceLeDiff, Nat.reduceLT, Nat.reduceSub, Nat.succ_ne_zero, Nat.one_ne_zero, Nat.zero_ne_one, true_implies, false_implies, forall_const, implies_true, reduceCtorEq, eq_self, ite_true, ite_false, decide_true, decide_false, Nat.le_refl, Bool.false_eq_true, if_true, if_false]
  intro p0 p1
  refine settle_intro fun G1 hg1 hc1 => ?_
  have h1 : G1 p1 0 = some (.int .i64 y) := hc1 0 _ rfl
  simp only [GV, frArgs, memArgs, resV, fillL, ← Bool.decide_or, ← Bool.decide_and, ← decide_not, ↓reduceIte, Nat.reduceEqDiff, Nat.reduceAdd, Nat.reduceMul, Nat.reduceLeDiff, Nat.reduceLT, Nat.reduceSub, Nat.succ_ne_zero, Nat.one_ne_zero, Nat.zero_ne_one, true_implies, false_implies, forall_const, implies_true, reduceCtorEq, eq_self, ite_true, ite_false, decide_true, decide_false, Nat.le_refl, Bool.false_eq_true, if_true, if_false]
  refine settle_intro fun G2 hg2 hc2 => ?_
  have h0 : G2 p0 0 = some (.int .i64 x) := hc2 0 _ rfl
  replace h1 := hg2 _ _ _ h1
  simp only [GV, frArgs, memArgs, resV, fillL, ← Bool.decide_or, ← Bool.decide_and, ← decide_not, ↓reduceIte, Nat.reduceEqDiff, Nat.reduceAdd, Nat.reduceMul, Nat.reduceLeDiff, Nat.reduceLT, Nat.reduceSub, Nat.succ_ne_zero, Nat.one_ne_zero, Nat.zero_ne_one, true_implies, false_implies, forall_const, implies_true, reduceCtorEq, eq_self, ite_true, ite_false, decide_true, decide_false, Nat.le_refl, Bool.false_eq_true, if_true, if_false, h0, h1]
  have hgg := hg1.trans hg2
  refine bsl_intro fun b9 G9 hg9 hc9 => ?_
  simp only [GV, frArgs, memArgs, resV, fillL, ← Bool.decide_or, ← Bool.decide_and, ← decide_not, ↓reduceIte, Nat.reduceEqDiff, Nat.reduceAdd, Nat.reduceMul, Nat.reduceLeDiff, Nat.reduceLT, Nat.reduceSub, Nat.succ_ne_zero, Nat.one_ne_zero, Nat.zero_ne_one, true_implies, false_implies, forall_const, implies_true, reduceCtorEq, eq_self, ite_true, ite_false, decide_true, decide_false, Nat.le_refl, Bool.false_eq_true, if_true, if_false]
  refine (c_do_int (x := []) (y := [.pointer (some ⟨p0, 0, none⟩), .pointer (some ⟨p1, 0, none⟩)]) (m := rXor x y) (are := [x, y]) (hb.mono (hgg.trans hg9)) (slI_lit (l := [x, y]) hc9 (by simp)) (by simp) (grows_xor _ _ B) ?_).mono ?_
  · intro bb G8 Es8 hv hp _ hg8 hbm
    have hg98 := hg9.trans hg8
    exact c_Xor1 hbm hp (hg98 _ _ _ h0) (hg98 _ _ _ h1)
  · intro o G8 Es8 hg8 hd
    have hd0 := hd
    obtain ⟨v8, e0, e1, e2, e3, rfl, rfl⟩ := hd.es_int
    simp only [GV, frArgs, memArgs, resV, fillL, ← Bool.decide_or, ← Bool.decide_and, ← decide_not, ↓reduceIte, Nat.reduceEqDiff, Nat.reduceAdd, Nat.reduceMul, Nat.reduceLeDiff, Nat.reduceLT, Nat.reduceSub, Nat.succ_ne_zero, Nat.one_ne_zero, Nat.zero_ne_one, true_implies, false_implies, forall_const, implies_true, reduceCtorEq, eq_self, ite_true, ite_false, decide_true, decide_false, Nat.le_refl, Bool.false_eq_true, if_true, if_false]
    exact hd0

theorem c_Pick1 {bb p0 p1 p2 : Nat} {x y z : Int} {B : Bd} {G : GH} {Es : List (List Ent)} (hb : BoardM G bb B Es) (hp : B.p ≠ 0) (h0 : G p0 0 = some (.int .i64 x)) (h1 : G p1 0 = some (.int .i64 y)) (h2 : G p2 0 = some (.int .i64 z)) :
    ACalls Try.prog 77 [rg bb, .pointer (some ⟨p0, 0, none⟩), .pointer (some ⟨p1, 0, none⟩), .pointer (some ⟨p2, 0, none⟩)] G Es (WR bb encZ (rPick x y z B)) := by
  obtain ⟨e0, e1, e2, e3, rfl⟩ := hb.es
  refine acalls mixed k_word_Board_Pick_1 (by simp) fun F => ?_
  simp only [GV, frArgs, memArgs, resV, fillL, ← Bool.decide_or, ← Bool.decide_and, ← decide_not, ↓reduceIte, Nat.reduceEqDiff, Nat.reduceAdd, Nat.reduceMul, Nat.reduceLeDiff, Nat.reduceLT, Nat.reduceSub, Nat.succ_ne_zero, Nat.one_ne_zero, Nat.zero_ne_one, true_implies, false_implies, forall_const, implies_true, reduceCtorEq, eq_self, ite_true, ite_false, decide_true, decide_false, Nat.le_refl, Bool.false_eq_true, if_true, if_false, h0, h1, h2]
  refine wcallf (c_rPick hb hp) ?_ ?_
  · rintro k B1 u G4 e0 e1 e2 e3 hg4 hr hu hbm hp1
    simp only [GV, frArgs, memArgs, resV, fillL, ← Bool.decide_or, ← Bool.decide_and, ← decide_not, ↓reduceIte, Nat.reduceEqDiff, Nat.reduceAdd, Nat.reduceMul, Nat.reduceLeDiff, Nat.reduceLT, Nat.reduceSub, Nat.succ_ne_zero, Nat.one_ne_zero, Nat.zero_ne_one, true_implies, false_implies, forall_const, implies_true, reduceCtorEq, eq_self, ite_true, ite_false, decide_true, decide_false, Nat.le_refl, Bool.false_eq_true, if_true, if_false]
    exact WR.ok hr hu hbm hp1
  · rintro e B1 G4 e0 e1 e2 e3 hg4 hr hbm hp1
    simp only [GV, frArgs, memArgs, resV, fillL, ← Bool.decide_or, ← Bool.decide_and, ← decide_not, ↓reduceIte, Nat.reduceEqDiff, Nat.reduceAdd, Nat.reduceMul, Nat.reduceLeDiff, Nat.reduceLT, Nat.reduceSub, Nat.succ_ne_zero, Nat.one_ne_zero, Nat.zero_ne_one, true_implies, false_implies, forall_const, implies_true, reduceCtorEq, eq_self, ite_true, ite_false, decide_true, decide_false, Nat.le_refl, Bool.false_eq_true, if_true, if_false]
    exact WR.bad hr hbm hp1
set_option maxRecDepth 20000 in
theorem c_Pick {v : Value} {x y z : Int} {B : Bd} {G : GH} {Es : List (List Ent)} (hb : BoardV G v B Es) :
    ACalls Try.prog 49 [v, .int .i64 x, .int .i64 y, .int .i64 z] G Es (DoR v (.int .i64 0) encZ (doM B [x, y, z] (rPick x y z))) := by
  obtain ⟨es0, es1, es2, es3, rfl⟩ : ∃ a b c d, Es = [a, b, c, d] := by
    rcases hb with ⟨_, _, rfl⟩ | ⟨bb, _, v1, v2, v3, es1, es2, es3, rfl, _⟩ <;> exact ⟨_, _, _, _, rfl⟩
  refine acalls mixed k_word_Board_Pick (by simp) fun F => ?_
  simp only [GV, frArgs, memArgs, resV, fillL, ← Bool.decide_or, ← Bool.decide_and, ← decide_not, ↓reduceIte, Nat.reduceEqDiff, Nat.reduceAdd, Nat.reduceMul, Nat.reduceLeDiff, Nat.reduceLT, Nat.reduceSub, Nat.succ_ne_zero, Nat.one_ne_zero, Nat.zero_ne_one, true_implies, false_implies, forall_const, implies_true, reduceCtorEq, eq_self, ite_true, ite_false, decide_true, decide_false, Nat.le_refl, Bool.false_eq_true, if_true, if_false]
  intro p0 p1 p2
  refine settle_intro fun G1 hg1 hc1 => ?_
  have h2 : G1 p2 0 = some (.int .i64 z) := hc1 0 _ rfl
  simp only [GV, frArgs, memArgs, resV, fillL, ← Bool.decide_or, ← Bool.decide_and, ← decide_not, ↓reduceIte, Nat.reduceEqDiff, Nat.reduceAdd, Nat.reduceMul, Nat.reduceLeDiff, Nat.reduceLT, Nat.reduceSub, Nat.succ_ne_zero, Nat.one_ne_zero, Nat.zero_ne_one, true_implies, false_implies, forall_const, implies_true, reduceCtorEq, eq_self, ite_true, ite_false, decide_true, decide_false, Nat.le_refl, Bool.false_eq_true, if_true, if_false]
  refine settle_intro fun G2 hg2 hc2 => ?_
  have h1 : G2 p1 0 = some (.int .i64 y) := hc2 0 _ rfl
  replace h2 := hg2 _ _ _ h2
  simp only [GV, frArgs, memArgs, resV, fillL, ← Bool.decide_or, ← Bool.decide_and, ← decide_not, ↓reduceIte, Nat.reduceEqDiff, Nat.reduceAdd, Nat.reduceMul, Nat.reduceLeDiff, Nat.reduceLT, Nat.reduceSub, Nat.succ_ne_zero, Nat.one_ne_zero, Nat.zero_ne_one, true_implies, false_implies, forall_const, implies_true, reduceCtorEq, eq_self, ite_true, ite_false, decide_true, decide_false, Nat.le_refl, Bool.false_eq_true, if_true, if_false]
  refine settle_intro fun G3 hg3 hc3 => ?_
  have h0 : G3 p0 0 = some (.int .i64 x) := hc3 0 _ rfl
  replace h1 := hg3 _ _ _ h1
  replace h2 := hg3 _ _ _ h2
  simp only [GV, frArgs, memArgs, resV, fillL, ← Bool.decide_or, ← Bool.decide_and, ← decide_not, ↓reduceIte, Nat.reduceEqDiff, Nat.reduceAdd, Nat.reduceMul, Nat.reduceLeDiff, Nat.reduceLT, Nat.reduceSub, Nat.succ_ne_zero, Nat.one_ne_zero, Nat.zero_ne_one, true_implies, false_implies, forall_const, implies_true, reduceCtorEq, eq_self, ite_true, ite_false, decide_true, decide_false, Nat.le_refl, Bool.false_eq_true, if_true, if_false, h0, h1, h2]
  have hgg := hg1.trans (hg2.trans hg3)
  refine bsl_intro fun b9 G9 hg9 hc9 => ?_
  simp only [GV, frArgs, memArgs, resV, fillL, ← Bool.decide_or, ← Bool.decide_and, ← decide_not, ↓reduceIte, Nat.reduceEqDiff, Nat.reduceAdd, Nat.reduceMul, Nat.reduceLeDiff, Nat.reduceLT, Nat.reduceSub, Nat.succ_ne_zero, Nat.one_ne_zero, Nat.zero_ne_one, true_implies, false_implies, forall_const, implies_true, reduceCtorEq, eq_self, ite_true, ite_false, decide_true, decide_false, Nat.le_refl, Bool.false_eq_true, if_true, if_false]
  refine (c_do_int (x := []) (y := [.pointer (some ⟨p0, 0, none⟩), .pointer (some ⟨p1, 0, none⟩), .pointer (some ⟨p2, 0, none⟩)]) (m := rPick x y z) (are := [x, y, z]) (hb.mono (hgg.trans hg9)) (slI_lit (l := [x, y, z]) hc9 (by simp)) (by simp) (grows_pick _ _ _ B) ?_).mono ?_
  · intro bb G8 Es8 hv hp _ hg8 hbm
    have hg98 := hg9.trans hg8
    exact c_Pick1 hbm hp (hg98 _ _ _ h0) (hg98 _ _ _ h1) (hg98 _ _ _ h2)
  · intro o G8 Es8 hg8 hd
    have hd0 := hd
    obtain ⟨v8, e0, e1, e2, e3, rfl, rfl⟩ := hd.es_int
    simp only [GV, frArgs, memArgs, resV, fillL, ← Bool.decide_or, ← Bool.decide_and, ← decide_not, ↓reduceIte, Nat.reduceEqDiff, Nat.reduceAdd, Nat.reduceMul, Nat.reduceLeDiff, Nat.reduceLT, Nat.reduceSub, Nat.succ_ne_zero, Nat.one_ne_zero, Nat.zero_ne_one, true_implies, false_implies, forall_const, implies_true, reduceCtorEq, eq_self, ite_true, ite_false, decide_true, decide_false, Nat.le_refl, Bool.false_eq_true, if_true, if_false]
    exact hd0

theorem c_Num1 {bb p0 : Nat} {u : Value} {l : List Int} {B : Bd} {G : GH} {Es : List (List Ent)} (hb : BoardM G bb B Es) (hp : B.p ≠ 0) (h0 : G p0 0 = some u) (hu : SlI G .i64 u l) (hmax : l.length ≤ 65536) :
    ACalls Try.prog 79 [rg bb, .pointer (some ⟨p0, 0, none⟩)] G Es (WR bb encZ (rNum l B)) := by
  obtain ⟨e0, e1, e2, e3, rfl⟩ := hb.es
  refine acalls mixed k_word_Board_Num_1 (by simp) fun F => ?_
  simp only [GV, frArgs, memArgs, resV, fillL, ← Bool.decide_or, ← Bool.decide_and, ← decide_not, ↓reduceIte, Nat.reduceEqDiff, Nat.reduceAdd, Nat.reduceMul, Nat.reduceLeDiff, Nat.reduceLT, Nat.reduceSub, Nat.succ_ne_zero, Nat.one_ne_zero, Nat.zero_ne_one, true_implies, false_implies, forall_const, implies_true, reduceCtorEq, eq_self, ite_true, ite_false, decide_true, decide_false, Nat.le_refl, Bool.false_eq_true, if_true, if_false, h0]
  refine wcallf (c_rNum hb hp hu hmax) ?_ ?_
  · rintro k B1 u G4 e0 e1 e2 e3 hg4 hr hu hbm hp1
    simp only [GV, frArgs, memArgs, resV, fillL, ← Bool.decide_or, ← Bool.decide_and, ← decide_not, ↓reduceIte, Nat.reduceEqDiff, Nat.reduceAdd, Nat.reduceMul, Nat.reduceLeDiff, Nat.reduceLT, Nat.reduceSub, Nat.succ_ne_zero, Nat.one_ne_zero, Nat.zero_ne_one, true_implies, false_implies, forall_const, implies_true, reduceCtorEq, eq_self, ite_true, ite_false, decide_true, decide_false, Nat.le_refl, Bool.false_eq_true, if_true, if_false]
    exact WR.ok hr hu hbm hp1
  · rintro e B1 G4 e0 e1 e2 e3 hg4 hr hbm hp1
    simp only [GV, frArgs, memArgs, resV, fillL, ← Bool.decide_or, ← Bool.decide_and, ← decide_not, ↓reduceIte, Nat.reduceEqDiff, Nat.reduceAdd, Nat.reduceMul, Nat.reduceLeDiff, Nat.reduceLT, Nat.reduceSub, Nat.succ_ne_zero, Nat.one_ne_zero, Nat.zero_ne_one, true_implies, false_implies, forall_const, implies_true, reduceCtorEq, eq_self, ite_true, ite_false, decide_true, decide_false, Nat.le_refl, Bool.false_eq_true, if_true, if_false]
    exact WR.bad hr hbm hp1
set_option maxRecDepth 20000 in
theorem c_Num {v u : Value} {l : List Int} {B : Bd} {G : GH} {Es : List (List Ent)} (hb : BoardV G v B Es) (hu : SlI G .i64 u l) :
    ACalls Try.prog 50 [v, u] G Es (DoR v (.int .i64 0) encZ (wordsM B l l (rNum l))) := by
  obtain ⟨es0, es1, es2, es3, rfl⟩ : ∃ a b c d, Es = [a, b, c, d] := by
    rcases hb with ⟨_, _, rfl⟩ | ⟨bb, _, v1, v2, v3, es1, es2, es3, rfl, _⟩ <;> exact ⟨_, _, _, _, rfl⟩
  have hu0 := hu
  obtain ⟨au, cu, rfl, -⟩ := hu0
  refine acalls mixed k_word_Board_Num (by simp) fun F => ?_
  simp only [GV, frArgs, memArgs, resV, fillL, ← Bool.decide_or, ← Bool.decide_and, ← decide_not, ↓reduceIte, Nat.reduceEqDiff, Nat.reduceAdd, Nat.reduceMul, Nat.reduceLeDiff, Nat.reduceLT, Nat.reduceSub, Nat.succ_ne_zero, Nat.one_ne_zero, Nat.zero_ne_one, true_implies, false_implies, forall_const, implies_true, reduceCtorEq, eq_self, ite_true, ite_false, decide_true, decide_false, Nat.le_refl, Bool.false_eq_true, if_true, if_false]
  intro p0
  refine settle_intro fun G1 hg1 hc1 => ?_
  have h0 : G1 p0 0 = some (.slice au l.length cu) := hc1 0 _ rfl
  simp only [GV, frArgs, memArgs, resV, fillL, ← Bool.decide_or, ← Bool.decide_and, ← decide_not, ↓reduceIte, Nat.reduceEqDiff, Nat.reduceAdd, Nat.reduceMul, Nat.reduceLeDiff, Nat.reduceLT, Nat.reduceSub, Nat.succ_ne_zero, Nat.one_ne_zero, Nat.zero_ne_one, true_implies, false_implies, forall_const, implies_true, reduceCtorEq, eq_self, ite_true, ite_false, decide_true, decide_false, Nat.le_refl, Bool.false_eq_true, if_true, if_false, h0]
  refine (c_words_int (x := []) (y := [.pointer (some ⟨p0, 0, none⟩)]) (mm := rNum l) (hb.mono hg1) (hu.mono hg1) (hu.mono hg1) (grows_num _) ?_).mono ?_
  · intro bb G8 Es8 hv hp hl hl16 hg8 hbm
    exact c_Num1 hbm hp (hg8 _ _ _ h0) (hu.mono (hg1.trans hg8)) (by omega)
  · intro o G8 Es8 hg8 hd
    have hd0 := hd
    obtain ⟨v8, e0, e1, e2, e3, rfl, rfl⟩ := hd.es_int
    simp only [GV, frArgs, memArgs, resV, fillL, ← Bool.decide_or, ← Bool.decide_and, ← decide_not, ↓reduceIte, Nat.reduceEqDiff, Nat.reduceAdd, Nat.reduceMul, Nat.reduceLeDiff, Nat.reduceLT, Nat.reduceSub, Nat.succ_ne_zero, Nat.one_ne_zero, Nat.zero_ne_one, true_implies, false_implies, forall_const, implies_true, reduceCtorEq, eq_self, ite_true, ite_false, decide_true, decide_false, Nat.le_refl, Bool.false_eq_true, if_true, if_false]
    exact hd0

theorem c_Plus1 {bb p0 p1 : Nat} {u w : Value} {l m : List Int} {B : Bd} {G : GH} {Es : List (List Ent)} (hb : BoardM G bb B Es) (hp : B.p ≠ 0) (h0 : G p0 0 = some u) (h1 : G p1 0 = some w) (hu : SlI G .i64 u l) (hw : SlI G .i64 w m) (hlm : l.length = m.length) (hmax : l.length ≤ 65536) :
    ACalls Try.prog 55 [rg bb, .pointer (some ⟨p0, 0, none⟩), .pointer (some ⟨p1, 0, none⟩)] G Es (WR bb encW (rPlus l m B)) := by
  obtain ⟨e0, e1, e2, e3, rfl⟩ := hb.es
  refine acalls mixed k_word_Board_Plus_1 (by simp) fun F => ?_
  simp only [GV, frArgs, memArgs, resV, fillL, ← Bool.decide_or, ← Bool.decide_and, ← decide_not, ↓reduceIte, Nat.reduceEqDiff, Nat.reduceAdd, Nat.reduceMul, Nat.reduceLeDiff, Nat.reduceLT, Nat.reduceSub, Nat.succ_ne_zero, Nat.one_ne_zero, Nat.zero_ne_one, true_implies, false_implies, forall_const, implies_true, reduceCtorEq, eq_self, ite_true, ite_false, decide_true, decide_false, Nat.le_refl, Bool.false_eq_true, if_true, if_false, h0, h1]
  refine wcallf (c_rPlus hb hp hu hw hlm hmax) ?_ ?_
  · rintro k B1 u G4 e0 e1 e2 e3 hg4 hr hu hbm hp1
    simp only [GV, frArgs, memArgs, resV, fillL, ← Bool.decide_or, ← Bool.decide_and, ← decide_not, ↓reduceIte, Nat.reduceEqDiff, Nat.reduceAdd, Nat.reduceMul, Nat.reduceLeDiff, Nat.reduceLT, Nat.reduceSub, Nat.succ_ne_zero, Nat.one_ne_zero, Nat.zero_ne_one, true_implies, false_implies, forall_const, implies_true, reduceCtorEq, eq_self, ite_true, ite_false, decide_true, decide_false, Nat.le_refl, Bool.false_eq_true, if_true, if_false]
    exact WR.ok hr hu hbm hp1
  · rintro e B1 G4 e0 e1 e2 e3 hg4 hr hbm hp1
    simp only [GV, frArgs, memArgs, resV, fillL, ← Bool.decide_or, ← Bool.decide_and, ← decide_not, ↓reduceIte, Nat.reduceEqDiff, Nat.reduceAdd, Nat.reduceMul, Nat.reduceLeDiff, Nat.reduceLT, Nat.reduceSub, Nat.succ_ne_zero, Nat.one_ne_zero, Nat.zero_ne_one, true_implies, false_implies, forall_const, implies_true, reduceCtorEq, eq_self, ite_true, ite_false, decide_true, decide_false, Nat.le_refl, Bool.false_eq_true, if_true, if_false]
    exact WR.bad hr hbm hp1
set_option maxRecDepth 20000 in
theorem c_Plus {v u w : Value} {l m : List Int} {B : Bd} {G : GH} {Es : List (List Ent)} (hb : BoardV G v B Es) (hu : SlI G .i64 u l) (hw : SlI G .i64 w m) :
    ACalls Try.prog 29 [v, u, w] G Es (DoR v (.slice none 0 0) encW (wordsM B l m (rPlus l m))) := by
  obtain ⟨es0, es1, es2, es3, rfl⟩ : ∃ a b c d, Es = [a, b, c, d] := by
    rcases hb with ⟨_, _, rfl⟩ | ⟨bb, _, v1, v2, v3, es1, es2, es3, rfl, _⟩ <;> exact ⟨_, _, _, _, rfl⟩
  have hu0 := hu
  have hw0 := hw
  obtain ⟨au, cu, rfl, -⟩ := hu0
  obtain ⟨aw, cw, rfl, -⟩ := hw0
  refine acalls mixed k_word_Board_Plus (by simp) fun F => ?_
  simp only [GV, frArgs, memArgs, resV, fillL, ← Bool.decide_or, ← Bool.decide_and, ← decide_not, ↓reduceIte, Nat.reduceEqDiff, Nat.reduceAdd, Nat.reduceMul, Nat.reduceLeDiff, Nat.reduceLT, Nat.reduceSub, Nat.succ_ne_zero, Nat.one_ne_zero, Nat.zero_ne_one, true_implies, false_implies, forall_const, implies_true, reduceCtorEq, eq_self, ite_true, ite_false, decide_true, decide_false, Nat.le_refl, Bool.false_eq_true, if_true, if_false]
  intro p0 p1
  refine settle_intro fun G1 hg1 hc1 => ?_
  have h1 : G1 p1 0 = some (.slice aw m.length cw) := hc1 0 _ rfl
  simp only [GV, frArgs, memArgs, resV, fillL, ← Bool.decide_or, ← Bool.decide_and, ← decide_not, ↓reduceIte, Nat.reduceEqDiff, Nat.reduceAdd, Nat.reduceMul, Nat.reduceLeDiff, Nat.reduceLT, Nat.reduceSub, Nat.succ_ne_zero, Nat.one_ne_zero, Nat.zero_ne_one, true_implies, false_implies, forall_const, implies_true, reduceCtorEq, eq_self, ite_true, ite_false, decide_true, decide_false, Nat.le_refl, Bool.false_eq_true, if_true, if_false]
  refine settle_intro fun G2 hg2 hc2 => ?_
  have h0 : G2 p0 0 = some (.slice au l.length cu) := hc2 0 _ rfl
  replace h1 := hg2 _ _ _ h1
  simp only [GV, frArgs, memArgs, resV, fillL, ← Bool.decide_or, ← Bool.decide_and, ← decide_not, ↓reduceIte, Nat.reduceEqDiff, Nat.reduceAdd, Nat.reduceMul, Nat.reduceLeDiff, Nat.reduceLT, Nat.reduceSub, Nat.succ_ne_zero, Nat.one_ne_zero, Nat.zero_ne_one, true_implies, false_implies, forall_const, implies_true, reduceCtorEq, eq_self, ite_true, ite_false, decide_true, decide_false, Nat.le_refl, Bool.false_eq_true, if_true, if_false, h0, h1]
  have hgg := hg1.trans hg2
  refine (c_words_Sint (x := []) (y := [.pointer (some ⟨p0, 0, none⟩), .pointer (some ⟨p1, 0, none⟩)]) (mm := rPlus l m) (hb.mono hgg) (hu.mono hgg) (hw.mono hgg) (grows_plus _ _) ?_).mono ?_
  · intro bb G8 Es8 hv hp hl hl16 hg8 hbm
    exact c_Plus1 hbm hp (hg8 _ _ _ h0) (hg8 _ _ _ h1) (hu.mono (hgg.trans hg8)) (hw.mono (hgg.trans hg8)) hl (by omega)
  · intro o G8 Es8 hg8 hd
    have hd0 := hd
    obtain ⟨v8, e0, e1, e2, e3, rfl, rfl⟩ := hd.es_Sint
    simp only [GV, frArgs, memArgs, resV, fillL, ← Bool.decide_or, ← Bool.decide_and, ← decide_not, ↓reduceIte, Nat.reduceEqDiff, Nat.reduceAdd, Nat.reduceMul, Nat.reduceLeDiff, Nat.reduceLT, Nat.reduceSub, Nat.succ_ne_zero, Nat.one_ne_zero, Nat.zero_ne_one, true_implies, false_implies, forall_const, implies_true, reduceCtorEq, eq_self, ite_true, ite_false, decide_true, decide_false, Nat.le_refl, Bool.false_eq_true, if_true, if_false]
    exact hd0

theorem c_Minus1 {bb p0 p1 : Nat} {u w : Value} {l m : List Int} {B : Bd} {G : GH} {Es : List (List Ent)} (hb : BoardM G bb B Es) (hp : B.p ≠ 0) (h0 : G p0 0 = some u) (h1 : G p1 0 = some w) (hu : SlI G .i64 u l) (hw : SlI G .i64 w m) (hlm : l.length = m.length) (hmax : l.length ≤ 65536) :
    ACalls Try.prog 57 [rg bb, .pointer (some ⟨p0, 0, none⟩), .pointer (some ⟨p1, 0, none⟩)] G Es (WR bb encW (rMinus l m B)) := by
  obtain ⟨e0, e1, e2, e3, rfl⟩ := hb.es
  refine acalls mixed k_word_Board_Minus_1 (by simp) fun F => ?_
  simp only [GV, frArgs, memArgs, resV, fillL, ← Bool.decide_or, ← Bool.decide_and, ← decide_not, ↓reduceIte, Nat.reduceEqDiff, Nat.reduceAdd, Nat.reduceMul, Nat.reduceLeDiff, Nat.reduceLT, Nat.reduceSub, Nat.succ_ne_zero, Nat.one_ne_zero, Nat.zero_ne_one, true_implies, false_implies, forall_const, implies_true, reduceCtorEq, eq_self, ite_true, ite_false, decide_true, decide_false, Nat.le_refl, Bool.false_eq_true, if_true, if_false, h0, h1]
  refine wcallf (c_rMinus hb hp hu hw hlm hmax) ?_ ?_
  · rintro k B1 u G4 e0 e1 e2 e3 hg4 hr hu hbm hp1
    simp only [GV, frArgs, memArgs, resV, fillL, ← Bool.decide_or, ← Bool.decide_and, ← decide_not, ↓reduceIte, Nat.reduceEqDiff, Nat.reduceAdd, Nat.reduceMul, Nat.reduceLeDiff, Nat.reduceLT, Nat.reduceSub, Nat.succ_ne_zero, Nat.one_ne_zero, Nat.zero_ne_one, true_implies, false_implies, forall_const, implies_true, reduceCtorEq, eq_self, ite_true, ite_false, decide_true, decide_false, Nat.le_refl, Bool.false_eq_true, if_true, if_false]
    exact WR.ok hr hu hbm hp1
  · rintro e B1 G4 e0 e1 e2 e3 hg4 hr hbm hp1
    simp only [GV, frArgs, memArgs, resV, fillL, ← Bool.decide_or, ← Bool.decide_and, ← decide_not, ↓reduceIte, Nat.reduceEqDiff, Nat.reduceAdd, Nat.reduceMul, Nat.reduceLeDiff, Nat.reduceLT, Nat.reduceSub, Nat.succ_ne_zero, Nat.one_ne_zero, Nat.zero_ne_one, true_implies, false_implies, forall_const, implies_true, reduceCtorEq, eq_self, ite_true, ite_false, decide_true, decide_false, Nat.le_refl, Bool.false_eq_true, if_true, if_false]
    exact WR.bad hr hbm hp1
set_option maxRecDepth 20000 in
theorem c_Minus {v u w : Value} {l m : List Int} {B : Bd} {G : GH} {Es : List (List Ent)} (hb : BoardV G v B Es) (hu : SlI G .i64 u l) (hw : SlI G .i64 w m) :
    ACalls Try.prog 30 [v, u, w] G Es (DoR v (.slice none 0 0) encW (wordsM B l m (rMinus l m))) := by
  obtain ⟨es0, es1, es2, es3, rfl⟩ : ∃ a b c d, Es = [a, b, c, d] := by
    rcases hb with ⟨_, _, rfl⟩ | ⟨bb, _, v1, v2, v3, es1, es2, es3, rfl, _⟩ <;> exact ⟨_, _, _, _, rfl⟩
  have hu0 := hu
  have hw0 := hw
  obtain ⟨au, cu, rfl, -⟩ := hu0
  obtain ⟨aw, cw, rfl, -⟩ := hw0
  refine acalls mixed k_word_Board_Minus (by simp) fun F => ?_
  simp only [GV, frArgs, memArgs, resV, fillL, ← Bool.decide_or, ← Bool.decide_and, ← decide_not, ↓reduceIte, Nat.reduceEqDiff, Nat.reduceAdd, Nat.reduceMul, Nat.reduceLeDiff, Nat.reduceLT, Nat.reduceSub, Nat.succ_ne_zero, Nat.one_ne_zero, Nat.zero_ne_one, true_implies, false_implies, forall_const, implies_true, reduceCtorEq, eq_self, ite_true, ite_false, decide_true, decide_false, Nat.le_refl, Bool.false_eq_true, if_true, if_false]
  intro p0 p1
  refine settle_intro fun G1 hg1 hc1 => ?_
  have h1 : G1 p1 0 = some (.slice aw m.length cw) := hc1 0 _ rfl
  simp only [GV, frArgs, memArgs, resV, fillL, ← Bool.decide_or, ← Bool.decide_and, ← decide_not, ↓reduceIte, Nat.reduceEqDiff, Nat.reduceAdd, Nat.reduceMul, Nat.reduceLeDiff, Nat.reduceLT, Nat.reduceSub, Nat.succ_ne_zero, Nat.one_ne_zero, Nat.zero_ne_one, true_implies, false_implies, forall_const, implies_true, reduceCtorEq, eq_self, ite_true, ite_false, decide_true, decide_false, Nat.le_refl, Bool.false_eq_true, if_true, if_false]
  refine settle_intro fun G2 hg2 hc2 => ?_
  have h0 : G2 p0 0 = some (.slice au l.length cu) := hc2 0 _ rfl
  replace h1 := hg2 _ _ _ h1
  simp only [GV, frArgs, memArgs, resV, fillL, ← Bool.decide_or, ← Bool.decide_and, ← decide_not, ↓reduceIte, Nat.reduceEqDiff, Nat.reduceAdd, Nat.reduceMul, Nat.reduceLeDiff, Nat.reduceLT, Nat.reduceSub, Nat.succ_ne_zero, Nat.one_ne_zero, Nat.zero_ne_one, true_implies, false_implies, forall_const, implies_true, reduceCtorEq, eq_self, ite_true, ite_false, decide_true, decide_false, Nat.le_refl, Bool.false_eq_true, if_true, if_false, h0, h1]
  have hgg := hg1.trans hg2
  refine (c_words_Sint (x := []) (y := [.pointer (some ⟨p0, 0, none⟩), .pointer (some ⟨p1, 0, none⟩)]) (mm := rMinus l m) (hb.mono hgg) (hu.mono hgg) (hw.mono hgg) (grows_minus _ _) ?_).mono ?_
  · intro bb G8 Es8 hv hp hl hl16 hg8 hbm
    exact c_Minus1 hbm hp (hg8 _ _ _ h0) (hg8 _ _ _ h1) (hu.mono (hgg.trans hg8)) (hw.mono (hgg.trans hg8)) hl (by omega)
  · intro o G8 Es8 hg8 hd
    have hd0 := hd
    obtain ⟨v8, e0, e1, e2, e3, rfl, rfl⟩ := hd.es_Sint
    simp only [GV, frArgs, memArgs, resV, fillL, ← Bool.decide_or, ← Bool.decide_and, ← decide_not, ↓reduceIte, Nat.reduceEqDiff, Nat.reduceAdd, Nat.reduceMul, Nat.reduceLeDiff, Nat.reduceLT, Nat.reduceSub, Nat.succ_ne_zero, Nat.one_ne_zero, Nat.zero_ne_one, true_implies, false_implies, forall_const, implies_true, reduceCtorEq, eq_self, ite_true, ite_false, decide_true, decide_false, Nat.le_refl, Bool.false_eq_true, if_true, if_false]
    exact hd0

theorem c_Times1 {bb p0 p1 : Nat} {u w : Value} {l m : List Int} {B : Bd} {G : GH} {Es : List (List Ent)} (hb : BoardM G bb B Es) (hp : B.p ≠ 0) (h0 : G p0 0 = some u) (h1 : G p1 0 = some w) (hu : SlI G .i64 u l) (hw : SlI G .i64 w m) (hlm : l.length = m.length) (hmax : l.length ≤ 65536) :
    ACalls Try.prog 59 [rg bb, .pointer (some ⟨p0, 0, none⟩), .pointer (some ⟨p1, 0, none⟩)] G Es (WR bb encW (rTimes l m B)) := by
  obtain ⟨e0, e1, e2, e3, rfl⟩ := hb.es
  refine acalls mixed k_word_Board_Times_1 (by simp) fun F => ?_
  simp only [GV, frArgs, memArgs, resV, fillL, ← Bool.decide_or, ← Bool.decide_and, ← decide_not, ↓reduceIte, Nat.reduceEqDiff, Nat.reduceAdd, Nat.reduceMul, Nat.reduceLeDiff, Nat.reduceLT, Nat.reduceSub, Nat.succ_ne_zero, Nat.one_ne_zero, Nat.zero_ne_one, true_implies, false_implies, forall_const, implies_true, reduceCtorEq, eq_self, ite_true, ite_false, decide_true, decide_false, Nat.le_refl, Bool.false_eq_true, if_true, if_false, h0, h1]
  refine wcallf (c_rTimes hb hp hu hw hlm hmax) ?_ ?_
  · rintro k B1 u G4 e0 e1 e2 e3 hg4 hr hu hbm hp1
    simp only [GV, frArgs, memArgs, resV, fillL, ← Bool.decide_or, ← Bool.decide_and, ← decide_not, ↓reduceIte, Nat.reduceEqDiff, Nat.reduceAdd, Nat.reduceMul, Nat.reduceLeDiff, Nat.reduceLT, Nat.reduceSub, Nat.succ_ne_zero, Nat.one_ne_zero, Nat.zero_ne_one, true_implies, false_implies, forall_const, implies_true, reduceCtorEq, eq_self, ite_true, ite_false, decide_true, decide_false, Nat.le_refl, Bool.false_eq_true, if_true, if_false]
    exact WR.ok hr hu hbm hp1
  · rintro e B1 G4 e0 e1 e2 e3 hg4 hr hbm hp1
    simp only [GV, frArgs, memArgs, resV, fillL, ← Bool.decide_or, ← Bool.decide_and, ← decide_not, ↓reduceIte, Nat.reduceEqDiff, Nat.reduceAdd, Nat.reduceMul, Nat.reduceLeDiff, Nat.reduceLT, Nat.reduceSub, Nat.succ_ne_zero, Nat.one_ne_zero, Nat.zero_ne_one, true_implies, false_implies, forall_const, implies_true, reduceCtorEq, eq_self, ite_true, ite_false, decide_true, decide_false, Nat.le_refl, Bool.false_eq_true, if_true, if_false]
    exact WR.bad hr hbm hp1
set_option maxRecDepth 20000 in
theorem c_Times {v u w : Value} {l m : List Int} {B : Bd} {G : GH} {Es : List (List Ent)} (hb : BoardV G v B Es) (hu : SlI G .i64 u l) (hw : SlI G .i64 w m) :
    ACalls Try.prog 31 [v, u, w] G Es (DoR v (.slice none 0 0) encW (wordsM B l m (rTimes l m))) := by
  obtain ⟨es0, es1, es2, es3, rfl⟩ : ∃ a b c d, Es = [a, b, c, d] := by
    rcases hb with ⟨_, _, rfl⟩ | ⟨bb, _, v1, v2, v3, es1, es2, es3, rfl, _⟩ <;> exact ⟨_, _, _, _, rfl⟩
  have hu0 := hu
  have hw0 := hw
  obtain ⟨au, cu, rfl, -⟩ := hu0
  obtain ⟨aw, cw, rfl, -⟩ := hw0
  refine acalls mixed k_word_Board_Times (by simp) fun F => ?_
  simp only [GV, frArgs, memArgs, resV, fillL, ← Bool.decide_or, ← Bool.decide_and, ← decide_not, ↓reduceIte, Nat.reduceEqDiff, Nat.reduceAdd, Nat.reduceMul, Nat.reduceLeDiff, Nat.reduceLT, Nat.reduceSub, Nat.succ_ne_zero, Nat.one_ne_zero, Nat.zero_ne_one, true_implies, false_implies, forall_const, implies_true, reduceCtorEq, eq_self, ite_true, ite_false, decide_true, decide_false, Nat.le_refl, Bool.false_eq_true, if_true, if_false]
  intro p0 p1
  refine settle_intro fun G1 hg1 hc1 => ?_
  have h1 : G1 p1 0 = some (.slice aw m.length cw) := hc1 0 _ rfl
  simp only [GV, frArgs, memArgs, resV, fillL, ← Bool.decide_or, ← Bool.decide_and, ← decide_not, ↓reduceIte, Nat.reduceEqDiff, Nat.reduceAdd, Nat.reduceMul, Nat.reduceLeDiff, Nat.reduceLT, Nat.reduceSub, Nat.succ_ne_zero, Nat.one_ne_zero, Nat.zero_ne_one, true_implies, false_implies, forall_const, implies_true, reduceCtorEq, eq_self, ite_true, ite_false, decide_true, decide_false, Nat.le_refl, Bool.false_eq_true, if_true, if_false]
  refine settle_intro fun G2 hg2 hc2 => ?_
  have h0 : G2 p0 0 = some (.slice au l.length cu) := hc2 0 _ rfl
  replace h1 := hg2 _ _ _ h1
  simp only [GV, frArgs, memArgs, resV, fillL, ← Bool.decide_or, ← Bool.decide_and, ← decide_not, ↓reduceIte, Nat.reduceEqDiff, Nat.reduceAdd, Nat.reduceMul, Nat.reduceLeDiff, Nat.reduceLT, Nat.reduceSub, Nat.succ_ne_zero, Nat.one_ne_zero, Nat.zero_ne_one, true_implies, false_implies, forall_const, implies_true, reduceCtorEq, eq_self, ite_true, ite_false, decide_true, decide_false, Nat.le_refl, Bool.false_eq_true, if_true, if_false, h0, h1]
  have hgg := hg1.trans hg2
  refine (c_words_Sint (x := []) (y := [.pointer (some ⟨p0, 0, none⟩), .pointer (some ⟨p1, 0, none⟩)]) (mm := rTimes l m) (hb.mono hgg) (hu.mono hgg) (hw.mono hgg) (grows_times _ _) ?_).mono ?_
  · intro bb G8 Es8 hv hp hl hl16 hg8 hbm
    exact c_Times1 hbm hp (hg8 _ _ _ h0) (hg8 _ _ _ h1) (hu.mono (hgg.trans hg8)) (hw.mono (hgg.trans hg8)) hl (by omega)
  · intro o G8 Es8 hg8 hd
    have hd0 := hd
    obtain ⟨v8, e0, e1, e2, e3, rfl, rfl⟩ := hd.es_Sint
    simp only [GV, frArgs, memArgs, resV, fillL, ← Bool.decide_or, ← Bool.decide_and, ← decide_not, ↓reduceIte, Nat.reduceEqDiff, Nat.reduceAdd, Nat.reduceMul, Nat.reduceLeDiff, Nat.reduceLT, Nat.reduceSub, Nat.succ_ne_zero, Nat.one_ne_zero, Nat.zero_ne_one, true_implies, false_implies, forall_const, implies_true, reduceCtorEq, eq_self, ite_true, ite_false, decide_true, decide_false, Nat.le_refl, Bool.false_eq_true, if_true, if_false]
    exact hd0

theorem c_SameM1 {bb p0 p1 : Nat} {u w : Value} {l m : List Int} {B : Bd} {G : GH} {Es : List (List Ent)} (hb : BoardM G bb B Es) (hp : B.p ≠ 0) (h0 : G p0 0 = some u) (h1 : G p1 0 = some w) (hu : SlI G .i64 u l) (hw : SlI G .i64 w m) (hlm : l.length = m.length) (hmax : l.length ≤ 65536) :
    ACalls Try.prog 34 [rg bb, .pointer (some ⟨p0, 0, none⟩), .pointer (some ⟨p1, 0, none⟩)] G Es (WR bb encZ (rSame l m B)) := by
  obtain ⟨e0, e1, e2, e3, rfl⟩ := hb.es
  refine acalls mixed k_word_Board_Same_1 (by simp) fun F => ?_
  simp only [GV, frArgs, memArgs, resV, fillL, ← Bool.decide_or, ← Bool.decide_and, ← decide_not, ↓reduceIte, Nat.reduceEqDiff, Nat.reduceAdd, Nat.reduceMul, Nat.reduceLeDiff, Nat.reduceLT, Nat.reduceSub, Nat.succ_ne_zero, Nat.one_ne_zero, Nat.zero_ne_one, true_implies, false_implies, forall_const, implies_true, reduceCtorEq, eq_self, ite_true, ite_false, decide_true, decide_false, Nat.le_refl, Bool.false_eq_true, if_true, if_false, h0, h1]
  refine wcallf (c_rSame hb hp hu hw hlm hmax) ?_ ?_
  · rintro k B1 u G4 e0 e1 e2 e3 hg4 hr hu hbm hp1
    simp only [GV, frArgs, memArgs, resV, fillL, ← Bool.decide_or, ← Bool.decide_and, ← decide_not, ↓reduceIte, Nat.reduceEqDiff, Nat.reduceAdd, Nat.reduceMul, Nat.reduceLeDiff, Nat.reduceLT, Nat.reduceSub, Nat.succ_ne_zero, Nat.one_ne_zero, Nat.zero_ne_one, true_implies, false_implies, forall_const, implies_true, reduceCtorEq, eq_self, ite_true, ite_false, decide_true, decide_false, Nat.le_refl, Bool.false_eq_true, if_true, if_false]
    exact WR.ok hr hu hbm hp1
  · rintro e B1 G4 e0 e1 e2 e3 hg4 hr hbm hp1
    simp only [GV, frArgs, memArgs, resV, fillL, ← Bool.decide_or, ← Bool.decide_and, ← decide_not, ↓reduceIte, Nat.reduceEqDiff, Nat.reduceAdd, Nat.reduceMul, Nat.reduceLeDiff, Nat.reduceLT, Nat.reduceSub, Nat.succ_ne_zero, Nat.one_ne_zero, Nat.zero_ne_one, true_implies, false_implies, forall_const, implies_true, reduceCtorEq, eq_self, ite_true, ite_false, decide_true, decide_false, Nat.le_refl, Bool.false_eq_true, if_true, if_false]
    exact WR.bad hr hbm hp1
set_option maxRecDepth 20000 in
theorem c_SameM {v u w : Value} {l m : List Int} {B : Bd} {G : GH} {Es : List (List Ent)} (hb : BoardV G v B Es) (hu : SlI G .i64 u l) (hw : SlI G .i64 w m) :
    ACalls Try.prog 16 [v, u, w] G Es (DoR v (.int .i64 0) encZ (wordsM B l m (rSame l m))) := by
  obtain ⟨es0, es1, es2, es3, rfl⟩ : ∃ a b c d, Es = [a, b, c, d] := by
    rcases hb with ⟨_, _, rfl⟩ | ⟨bb, _, v1, v2, v3, es1, es2, es3, rfl, _⟩ <;> exact ⟨_, _, _, _, rfl⟩
  have hu0 := hu
  have hw0 := hw
  obtain ⟨au, cu, rfl, -⟩ := hu0
  obtain ⟨aw, cw, rfl, -⟩ := hw0
  refine acalls mixed k_word_Board_Same (by simp) fun F => ?_
  simp only [GV, frArgs, memArgs, resV, fillL, ← Bool.decide_or, ← Bool.decide_and, ← decide_not, ↓reduceIte, Nat.reduceEqDiff, Nat.reduceAdd, Nat.reduceMul, Nat.reduceLeDiff, Nat.reduceLT, Nat.reduceSub, Nat.succ_ne_zero, Nat.one_ne_zero, Nat.zero_ne_one, true_implies, false_implies, forall_const, implies_true, reduceCtorEq, eq_self, ite_true, ite_false, decide_true, decide_false, Nat.le_refl, Bool.false_eq_true, if_true, if_false]
  intro p0 p1
  refine settle_intro fun G1 hg1 hc1 => ?_
  have h1 : G1 p1 0 = some (.slice aw m.length cw) := hc1 0 _ rfl
  simp only [GV, frArgs, memArgs, resV, fillL, ← Bool.decide_or, ← Bool.decide_and, ← decide_not, ↓reduceIte, Nat.reduceEqDiff, Nat.reduceAdd, Nat.reduceMul, Nat.reduceLeDiff, Nat.reduceLT, Nat.reduceSub, Nat.succ_ne_zero, Nat.one_ne_zero, Nat.zero_ne_one, true_implies, false_implies, forall_const, implies_true, reduceCtorEq, eq_self, ite_true, ite_false, decide_true, decide_false, Nat.le_refl, Bool.false_eq_true, if_true, if_false]
  refine settle_intro fun G2 hg2 hc2 => ?_
  have h0 : G2 p0 0 = some (.slice au l.length cu) := hc2 0 _ rfl
  replace h1 := hg2 _ _ _ h1
  simp only [GV, frArgs, memArgs, resV, fillL, ← Bool.decide_or, ← Bool.decide_and, ← decide_not, ↓reduceIte, Nat.reduceEqDiff, Nat.reduceAdd, Nat.reduceMul, Nat.reduceLeDiff, Nat.reduceLT, Nat.reduceSub, Nat.succ_ne_zero, Nat.one_ne_zero, Nat.zero_ne_one, true_implies, false_implies, forall_const, implies_true, reduceCtorEq, eq_self, ite_true, ite_false, decide_true, decide_false, Nat.le_refl, Bool.false_eq_true, if_true, if_false, h0, h1]
  have hgg := hg1.trans hg2
  refine (c_words_int (x := []) (y := [.pointer (some ⟨p0, 0, none⟩), .pointer (some ⟨p1, 0, none⟩)]) (mm := rSame l m) (hb.mono hgg) (hu.mono hgg) (hw.mono hgg) (grows_same _ _) ?_).mono ?_
  · intro bb G8 Es8 hv hp hl hl16 hg8 hbm
    exact c_SameM1 hbm hp (hg8 _ _ _ h0) (hg8 _ _ _ h1) (hu.mono (hgg.trans hg8)) (hw.mono (hgg.trans hg8)) hl (by omega)
  · intro o G8 Es8 hg8 hd
    have hd0 := hd
    obtain ⟨v8, e0, e1, e2, e3, rfl, rfl⟩ := hd.es_int
    simp only [GV, frArgs, memArgs, resV, fillL, ← Bool.decide_or, ← Bool.decide_and, ← decide_not, ↓reduceIte, Nat.reduceEqDiff, Nat.reduceAdd, Nat.reduceMul, Nat.reduceLeDiff, Nat.reduceLT, Nat.reduceSub, Nat.succ_ne_zero, Nat.one_ne_zero, Nat.zero_ne_one, true_implies, false_implies, forall_const, implies_true, reduceCtorEq, eq_self, ite_true, ite_false, decide_true, decide_false, Nat.le_refl, Bool.false_eq_true, if_true, if_false]
    exact hd0

theorem c_LessM1 {bb p0 p1 : Nat} {u w : Value} {l m : List Int} {B : Bd} {G : GH} {Es : List (List Ent)} (hb : BoardM G bb B Es) (hp : B.p ≠ 0) (h0 : G p0 0 = some u) (h1 : G p1 0 = some w) (hu : SlI G .i64 u l) (hw : SlI G .i64 w m) (hlm : l.length = m.length) (hmax : l.length ≤ 65536) :
    ACalls Try.prog 36 [rg bb, .pointer (some ⟨p0, 0, none⟩), .pointer (some ⟨p1, 0, none⟩)] G Es (WR bb encZ (rBelow l m B)) := by
  obtain ⟨e0, e1, e2, e3, rfl⟩ := hb.es
  refine acalls mixed k_word_Board_Less_1 (by simp) fun F => ?_
  simp only [GV, frArgs, memArgs, resV, fillL, ← Bool.decide_or, ← Bool.decide_and, ← decide_not, ↓reduceIte, Nat.reduceEqDiff, Nat.reduceAdd, Nat.reduceMul, Nat.reduceLeDiff, Nat.reduceLT, Nat.reduceSub, Nat.succ_ne_zero, Nat.one_ne_zero, Nat.zero_ne_one, true_implies, false_implies, forall_const, implies_true, reduceCtorEq, eq_self, ite_true, ite_false, decide_true, decide_false, Nat.le_refl, Bool.false_eq_true, if_true, if_false, h0, h1]
  refine wcallf (c_rBelow hb hp hu hw hlm hmax) ?_ ?_
  · rintro k B1 u G4 e0 e1 e2 e3 hg4 hr hu hbm hp1
    simp only [GV, frArgs, memArgs, resV, fillL, ← Bool.decide_or, ← Bool.decide_and, ← decide_not, ↓reduceIte, Nat.reduceEqDiff, Nat.reduceAdd, Nat.reduceMul, Nat.reduceLeDiff, Nat.reduceLT, Nat.reduceSub, Nat.succ_ne_zero, Nat.one_ne_zero, Nat.zero_ne_one, true_implies, false_implies, forall_const, implies_true, reduceCtorEq, eq_self, ite_true, ite_false, decide_true, decide_false, Nat.le_refl, Bool.false_eq_true, if_true, if_false]
    exact WR.ok hr hu hbm hp1
  · rintro e B1 G4 e0 e1 e2 e3 hg4 hr hbm hp1
    simp only [GV, frArgs, memArgs, resV, fillL, ← Bool.decide_or, ← Bool.decide_and, ← decide_not, ↓reduceIte, Nat.reduceEqDiff, Nat.reduceAdd, Nat.reduceMul, Nat.reduceLeDiff, Nat.reduceLT, Nat.reduceSub, Nat.succ_ne_zero, Nat.one_ne_zero, Nat.zero_ne_one, true_implies, false_implies, forall_const, implies_true, reduceCtorEq, eq_self, ite_true, ite_false, decide_true, decide_false, Nat.le_refl, Bool.false_eq_true, if_true, if_false]
    exact WR.bad hr hbm hp1
set_option maxRecDepth 20000 in
theorem c_LessM {v u w : Value} {l m : List Int} {B : Bd} {G : GH} {Es : List (List Ent)} (hb : BoardV G v B Es) (hu : SlI G .i64 u l) (hw : SlI G .i64 w m) :
    ACalls Try.prog 17 [v, u, w] G Es (DoR v (.int .i64 0) encZ (wordsM B l m (rBelow l m))) := by
  obtain ⟨es0, es1, es2, es3, rfl⟩ : ∃ a b c d, Es = [a, b, c, d] := by
    rcases hb with ⟨_, _, rfl⟩ | ⟨bb, _, v1, v2, v3, es1, es2, es3, rfl, _⟩ <;> exact ⟨_, _, _, _, rfl⟩
  have hu0 := hu
  have hw0 := hw
  obtain ⟨au, cu, rfl, -⟩ := hu0
  obtain ⟨aw, cw, rfl, -⟩ := hw0
  refine acalls mixed k_word_Board_Less (by simp) fun F => ?_
  simp only [GV, frArgs, memArgs, resV, fillL, ← Bool.decide_or, ← Bool.decide_and, ← decide_not, ↓reduceIte, Nat.reduceEqDiff, Nat.reduceAdd, Nat.reduceMul, Nat.reduceLeDiff, Nat.reduceLT, Nat.reduceSub, Nat.succ_ne_zero, Nat.one_ne_zero, Nat.zero_ne_one, true_implies, false_implies, forall_const, implies_true, reduceCtorEq, eq_self, ite_true, ite_false, decide_true, decide_false, Nat.le_refl, Bool.false_eq_true, if_true, if_false]
  intro p0 p1
  refine settle_intro fun G1 hg1 hc1 => ?_
  have h1 : G1 p1 0 = some (.slice aw m.length cw) := hc1 0 _ rfl
  simp only [GV, frArgs, memArgs, resV, fillL, ← Bool.decide_or, ← Bool.decide_and, ← decide_not, ↓reduceIte, Nat.reduceEqDiff, Nat.reduceAdd, Nat.reduceMul, Nat.reduceLeDiff, Nat.reduceLT, Nat.reduceSub, Nat.succ_ne_zero, Nat.one_ne_zero, Nat.zero_ne_one, true_implies, false_implies, forall_const, implies_true, reduceCtorEq, eq_self, ite_true, ite_false, decide_true, decide_false, Nat.le_refl, Bool.false_eq_true, if_true, if_false]
  refine settle_intro fun G2 hg2 hc2 => ?_
  have h0 : G2 p0 0 = some (.slice au l.length cu) := hc2 0 _ rfl
  replace h1 := hg2 _ _ _ h1
  simp only [GV, frArgs, memArgs, resV, fillL, ← Bool.decide_or, ← Bool.decide_and, ← decide_not, ↓reduceIte, Nat.reduceEqDiff, Nat.reduceAdd, Nat.reduceMul, Nat.reduceLeDiff, Nat.reduceLT, Nat.reduceSub, Nat.succ_ne_zero, Nat.one_ne_zero, Nat.zero_ne_one, true_implies, false_implies, forall_const, implies_true, reduceCtorEq, eq_self, ite_true, ite_false, decide_true, decide_false, Nat.le_refl, Bool.false_eq_true, if_true, if_false, h0, h1]
  have hgg := hg1.trans hg2
  refine (c_words_int (x := []) (y := [.pointer (some ⟨p0, 0, none⟩), .pointer (some ⟨p1, 0, none⟩)]) (mm := rBelow l m) (hb.mono hgg) (hu.mono hgg) (hw.mono hgg) (grows_below _ _) ?_).mono ?_
  · intro bb G8 Es8 hv hp hl hl16 hg8 hbm
    exact c_LessM1 hbm hp (hg8 _ _ _ h0) (hg8 _ _ _ h1) (hu.mono (hgg.trans hg8)) (hw.mono (hgg.trans hg8)) hl (by omega)
  · intro o G8 Es8 hg8 hd
    have hd0 := hd
    obtain ⟨v8, e0, e1, e2, e3, rfl, rfl⟩ := hd.es_int
    simp only [GV, frArgs, memArgs, resV, fillL, ← Bool.decide_or, ← Bool.decide_and, ← decide_not, ↓reduceIte, Nat.reduceEqDiff, Nat.reduceAdd, Nat.reduceMul, Nat.reduceLeDiff, Nat.reduceLT, Nat.reduceSub, Nat.succ_ne_zero, Nat.one_ne_zero, Nat.zero_ne_one, true_implies, false_implies, forall_const, implies_true, reduceCtorEq, eq_self, ite_true, ite_false, decide_true, decide_false, Nat.le_refl, Bool.false_eq_true, if_true, if_false]
    exact hd0

end Go.Gv.W
