/-
  Numbers and their bits. No condition.
-/
import Derived.Test.YtokidokmcbkodaaGvX02
namespace Go.Gv.W
set_option linter.unusedSimpArgs false
set_option linter.unusedVariables false
set_option linter.unusedSectionVars false
open Go.RowKit Go.Proofs

/-- The number of a row of bits, the least first. -/
def bnum : List Bool → Nat
  | [] => 0
  | b :: r => b.toNat + 2 * bnum r
theorem bnum_lt : ∀ l : List Bool, bnum l < 2 ^ l.length
  | [] => by simp [bnum]
  | b :: r => by
    have := bnum_lt r
    simp only [bnum, List.length_cons, Nat.pow_succ]
    cases b <;> simp <;> omega
theorem bnum_append : ∀ l m : List Bool, bnum (l ++ m) = bnum l + 2 ^ l.length * bnum m
  | [], m => by simp [bnum]
  | b :: r, m => by
    simp only [List.cons_append, bnum, bnum_append r m, List.length_cons, Nat.pow_succ]
    rw [Nat.mul_add, Nat.add_assoc, Nat.mul_comm (2 ^ r.length) 2, Nat.mul_assoc]
theorem bnum_inj : ∀ {l m : List Bool}, l.length = m.length → bnum l = bnum m → l = m
  | [], [], _, _ => rfl
  | a :: l, b :: m, h, e => by
    simp only [bnum] at e
    have hab : a = b := by cases a <;> cases b <;> simp at e <;> first | rfl | omega
    subst hab
    rw [bnum_inj (by simpa using h) (show bnum l = bnum m by omega)]
theorem bnum_not : ∀ l : List Bool, bnum (l.map (!·)) + bnum l + 1 = 2 ^ l.length
  | [] => by simp [bnum]
  | b :: r => by
    have := bnum_not r
    simp only [List.map_cons, bnum, List.length_cons, Nat.pow_succ]
    cases b <;> simp <;> omega
theorem bnum_and (c : Bool) : ∀ l : List Bool, bnum (l.map (· && c)) = bnum l * c.toNat
  | [] => by simp [bnum]
  | b :: r => by
    simp only [List.map_cons, bnum, bnum_and c r, Nat.add_mul]
    cases b <;> cases c <;> simp
theorem bnum_take (l : List Bool) {k : Nat} (h : k ≤ l.length) : bnum (l.take k) = bnum l % 2 ^ k := by
  have h1 := bnum_append (l.take k) (l.drop k)
  rw [List.take_append_drop, List.length_take_of_le h] at h1
  have h2 := bnum_lt (l.take k)
  rw [List.length_take_of_le h] at h2
  rw [h1, Nat.add_mul_mod_self_left, Nat.mod_eq_of_lt h2]
/-- A sum with a carry. -/
def addB : List Bool → List Bool → Bool → List Bool × Bool
  | a :: v, b :: w, c => (((a ^^ b) ^^ c) :: (addB v w ((a && b) || ((a ^^ b) && c))).1, (addB v w ((a && b) || ((a ^^ b) && c))).2)
  | _, _, c => ([], c)
theorem addB_len : ∀ (v w : List Bool) (c : Bool), v.length = w.length → (addB v w c).1.length = v.length
  | [], _, _, _ => by simp [addB]
  | a :: v, [], _, h => by simp at h
  | a :: v, b :: w, c, h => by simp only [addB, List.length_cons]; rw [addB_len v w _ (by simpa using h)]
theorem addB_num : ∀ (v w : List Bool) (c : Bool), v.length = w.length → bnum (addB v w c).1 + 2 ^ v.length * (addB v w c).2.toNat = bnum v + bnum w + c.toNat
  | [], [], c, _ => by simp [addB, bnum]
  | a :: v, [], _, h => by simp at h
  | a :: v, b :: w, c, h => by
    have ih := addB_num v w ((a && b) || ((a ^^ b) && c)) (by simpa using h)
    simp only [addB, bnum, List.length_cons, Nat.pow_succ]
    generalize addB v w ((a && b) || ((a ^^ b) && c)) = r at ih
    have e : 2 ^ v.length * 2 * r.2.toNat = 2 * (2 ^ v.length * r.2.toNat) := by rw [Nat.mul_comm (2 ^ v.length) 2, Nat.mul_assoc]
    rw [e]
    generalize 2 ^ v.length * r.2.toNat = z at ih
    cases a <;> cases b <;> cases c <;> simp at ih ⊢ <;> omega
theorem add_num {v w : List Bool} (h : v.length = w.length) : bnum (addB v w false).1 = (bnum v + bnum w) % 2 ^ v.length := by
  have h1 := addB_num v w false h
  have h2 := bnum_lt (addB v w false).1
  rw [addB_len _ _ _ h] at h2
  simp only [Bool.toNat_false, Nat.add_zero] at h1
  rw [← h1, Nat.add_mul_mod_self_left, Nat.mod_eq_of_lt h2]
theorem sub_num {v w : List Bool} (h : v.length = w.length) : bnum (addB v (w.map (!·)) true).1 = (bnum v + 2 ^ v.length - bnum w) % 2 ^ v.length ∧ (addB v (w.map (!·)) true).2 = decide (bnum w ≤ bnum v) := by
  have h0 : v.length = (w.map (!·)).length := by simpa using h
  have h1 := addB_num v (w.map (!·)) true h0
  have h2 := bnum_lt (addB v (w.map (!·)) true).1
  rw [addB_len _ _ _ h0] at h2
  have h3 := bnum_not w
  have h4 := bnum_lt v
  have h5 := bnum_lt w
  rw [← h] at h3 h5
  have h6 : bnum (addB v (w.map (!·)) true).1 + 2 ^ v.length * (addB v (w.map (!·)) true).2.toNat = bnum v + 2 ^ v.length - bnum w := by simp only [Bool.toNat_true] at h1; omega
  refine ⟨by rw [← h6, Nat.add_mul_mod_self_left, Nat.mod_eq_of_lt h2], ?_⟩
  cases hc : (addB v (w.map (!·)) true).2 with
  | false =>
    rw [hc] at h6
    simp only [Bool.toNat_false, Nat.mul_zero, Nat.add_zero] at h6
    rw [eq_comm, decide_eq_false_iff_not]; omega
  | true =>
    rw [hc] at h6
    simp only [Bool.toNat_true, Nat.mul_one] at h6
    rw [eq_comm, decide_eq_true_iff]; omega
/-- A product, row by row. -/
def timesB (v : List Bool) : Nat → List Bool → List Bool → List Bool
  | i, out, b :: w => if i = 0 then timesB v 1 ((v.take (v.length - i)).map (· && b)) w else timesB v (i + 1) (out.take i ++ (addB (out.drop i) ((v.take (v.length - i)).map (· && b)) false).1) w
  | _, out, [] => out
theorem timesB_num (v : List Bool) : ∀ (w : List Bool) (i : Nat) (out : List Bool), 0 < i → i + w.length = v.length → out.length = v.length →
    bnum (timesB v i out w) = (bnum out + 2 ^ i * (bnum v * bnum w)) % 2 ^ v.length ∧ (timesB v i out w).length = v.length
  | [], i, out, _, _, ho => by
    simp only [timesB, bnum, Nat.mul_zero, Nat.add_zero]
    refine ⟨?_, ho⟩
    rw [Nat.mod_eq_of_lt (by rw [← ho]; exact bnum_lt out)]
  | b :: w, i, out, hi, hl, ho => by
    simp only [List.length_cons] at hl
    simp only [timesB, if_neg (show i ≠ 0 by omega)]
    have hpl : (out.drop i).length = ((v.take (v.length - i)).map (· && b)).length := by simp; omega
    have hol : (out.take i ++ (addB (out.drop i) ((v.take (v.length - i)).map (· && b)) false).1).length = v.length := by
      rw [List.length_append, addB_len _ _ _ hpl]; simp; omega
    obtain ⟨h1, h2⟩ := timesB_num v w (i + 1) _ (by omega) (by omega) hol
    refine ⟨?_, h2⟩
    rw [h1, bnum_append, add_num hpl, bnum_and, bnum_take v (show v.length - i ≤ v.length by omega), List.length_take_of_le (by omega)]
    have hdl : (out.drop i).length = v.length - i := by simp; omega
    have hout : bnum out = bnum (out.take i) + 2 ^ i * bnum (out.drop i) := by
      have := bnum_append (out.take i) (out.drop i)
      rwa [List.take_append_drop, List.length_take_of_le (by omega)] at this
    have hpow : 2 ^ v.length = 2 ^ i * 2 ^ (v.length - i) := by rw [← Nat.pow_add]; congr 1; omega
    have e1 : 2 ^ i * ((bnum (out.drop i) + bnum v % 2 ^ (v.length - i) * b.toNat) % 2 ^ (out.drop i).length) = 2 ^ i * (bnum (out.drop i) + bnum v * b.toNat) % 2 ^ v.length := by
      rw [hdl, hpow, Nat.mul_mod_mul_left]
      congr 1
      rw [Nat.add_mod, Nat.mod_mul_mod, ← Nat.add_mod]
    rw [e1, hout]
    have e2 : ∀ a b c m : Nat, (a + b % m + c) % m = (a + b + c) % m := by
      intro a b c m
      rw [Nat.add_right_comm, Nat.add_mod_mod, Nat.add_right_comm]
    rw [e2]
    congr 1
    simp only [bnum]
    rw [Nat.pow_succ]
    simp only [Nat.mul_add, Nat.add_assoc, Nat.mul_assoc, Nat.mul_left_comm 2]
theorem times_num {v w : List Bool} (h : v.length = w.length) (h0 : 0 < v.length) : bnum (timesB v 0 [] w) = bnum v * bnum w % 2 ^ v.length ∧ (timesB v 0 [] w).length = v.length := by
  cases w with
  | nil => rw [h] at h0; simp at h0
  | cons b w =>
    simp only [timesB, if_true]
    have hl : ((v.take (v.length - 0)).map (· && b)).length = v.length := by simp
    obtain ⟨h1, h2⟩ := timesB_num v w 1 _ (by omega) (by simp at h; omega) hl
    refine ⟨?_, h2⟩
    rw [h1, bnum_and]
    simp only [Nat.sub_zero, List.take_length, bnum]
    congr 1
    rw [Nat.mul_add]
    simp only [Nat.mul_left_comm, Nat.pow_one]
end Go.Gv.W
