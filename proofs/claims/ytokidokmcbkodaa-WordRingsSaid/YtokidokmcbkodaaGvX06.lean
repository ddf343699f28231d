/-
  Products of words and words as numbers. No condition.
-/
import Derived.Test.YtokidokmcbkodaaGvX05
namespace Go.Gv.W
set_option linter.unusedSimpArgs false
set_option linter.unusedVariables false
set_option linter.unusedSectionVars false
open Go.RowKit Go.Proofs

theorem tri_two : ∀ n, 2 * tri n = n * (n + 1)
  | 0 => rfl
  | n + 1 => by
    have := tri_two n
    simp only [tri, Nat.mul_add, this]
    simp only [Nat.add_mul, Nat.mul_add, Nat.mul_one, Nat.one_mul]
    omega
theorem sp_times {ins : List Nat} {v w : List Int} {vb wb : List Bool} {B : Bd} (hg : Good ins B) (hv : Bts ins B v vb) (hw : Bts ins B w wb) (hl : v.length = w.length) (h0 : 0 < v.length) :
    Sp ins (rTimes v w) B (16 * v.length * v.length) (2 * v.length * v.length) fun x B' => Bts ins B' x (timesB vb 0 [] wb) := by
  cases w with
  | nil => rw [hl] at h0; simp at h0
  | cons b w =>
    cases wb with
    | nil => exact hw.elim
    | cons c wb =>
      simp only [List.length_cons] at hl
      simp only [rTimes, rTimesA, timesB, if_true]
      have ht := tri_two w.length
      have hsq : v.length * v.length = w.length * (w.length + 1) + (w.length + 1) := by rw [hl, Nat.add_mul, Nat.one_mul]
      have e1 : 16 * v.length * v.length = 16 * (v.length * v.length) := Nat.mul_assoc ..
      have e2 : 2 * v.length * v.length = 2 * (v.length * v.length) := Nat.mul_assoc ..
      refine (Sp.bind (n := v.length) (n' := 10 * tri w.length + w.length) (mu := v.length) (mu' := 3 * tri w.length)
        ((sp_partA (v.take (v.length - 0)) [] _ [] B hg (hv.take _) hw.1 trivial).mono (by rw [List.length_take]; omega) (by rw [List.length_take]; omega) (fun _ _ h => h)) fun part B1 m1 g1 h1 => ?_).mono (by omega) (by omega) (fun _ _ h => h)
      have hpl : part.length = v.length := by rw [h1.len, hv.len]; simp
      refine sp_timesA w 1 part wb _ B1 (by omega) (by omega) hpl g1 (hv.up m1) (hw.2.up m1) ?_
      rw [← hv.len]
      simpa using h1

/-- Gates with these values. -/
def Vls (ins : List Nat) (B : Bd) : List Int → List Nat → Prop
  | i :: l, b :: m => Vl ins B i b ∧ Vls ins B l m
  | [], [] => True
  | _, _ => False
theorem Vls.up {ins : List Nat} {B B' : Bd} {n mu : Nat} (hm : More B B' n mu) : ∀ {l : List Int} {bs : List Nat}, Vls ins B l bs → Vls ins B' l bs
  | _ :: _, _ :: _, h => ⟨h.1.up hm, Vls.up hm h.2⟩
  | [], [], _ => trivial
  | [], _ :: _, h => h.elim
  | _ :: _, [], h => h.elim
theorem Vls.snoc {ins : List Nat} {B : Bd} : ∀ {l : List Int} {bs : List Nat} {i : Int} {b : Nat}, Vls ins B l bs → Vl ins B i b → Vls ins B (l ++ [i]) (bs ++ [b])
  | _ :: _, _ :: _, _, _, h, h' => ⟨h.1, Vls.snoc h.2 h'⟩
  | [], [], _, _, _, h' => ⟨h', trivial⟩
  | [], _ :: _, _, _, h, _ => h.elim
  | _ :: _, [], _, _, h, _ => h.elim
theorem Vls.reverse {ins : List Nat} {B : Bd} : ∀ {l : List Int} {bs : List Nat}, Vls ins B l bs → Vls ins B l.reverse bs.reverse
  | _ :: _, _ :: _, h => by rw [List.reverse_cons, List.reverse_cons]; exact Vls.snoc (Vls.reverse h.2) h.1
  | [], [], _ => trivial
  | [], _ :: _, h => h.elim
  | _ :: _, [], h => h.elim
/-- Doubled and added, from the front. -/
def horn (p : Nat) : List Nat → Nat → Nat
  | x :: r, n => horn p r (((n + n) % p + x) % p)
  | [], n => n
theorem sp_numA {ins : List Nat} : ∀ (w : List Int) (n : Int) (vs : List Nat) (u : Nat) (B : Bd), Good ins B → Vls ins B w vs → Vl ins B n u → Sp ins (rNumA w n) B (2 * w.length) 0 fun x B' => Vl ins B' x (horn B.p vs u)
  | [], n, [], u, B, hg, _, hn => Sp.pure hg hn
  | x :: w, n, v :: vs, u, B, hg, hw, hn => by
    rw [rNumA]
    refine (Sp.bind (n := 1) (n' := 1 + 2 * w.length) (mu := 0) (mu' := 0) (sp_sum hg hn hn) fun d B1 m1 g1 h1 => ?_).mono (by simp; omega) (by omega) (fun _ _ h => h)
    refine (Sp.bind (n := 1) (n' := 2 * w.length) (mu := 0) (mu' := 0) (sp_sum g1 h1 (hw.1.up m1)) fun d2 B2 m2 g2 h2 => ?_).mono (by omega) (by omega) (fun _ _ h => h)
    rw [m1.p] at h2
    refine (sp_numA w d2 vs _ B2 g2 ((hw.2.up m1).up m2) h2).mono (Nat.le_refl _) (Nat.le_refl _) fun z B' hz => ?_
    rw [m2.p, m1.p] at hz
    exact hz
  | [], _, _ :: _, _, _, _, hw, _ => hw.elim
  | _ :: _, _, [], _, _, _, hw, _ => hw.elim
theorem sp_num {ins : List Nat} {w : List Int} {vs : List Nat} {B : Bd} (hg : Good ins B) (hw : Vls ins B w vs) : Sp ins (rNum w) B (1 + 2 * w.length) 0 fun x B' => Vl ins B' x (horn B.p vs.reverse 0) := by
  have h3 := hg.p3
  refine (Sp.bind (n := 1) (n' := 2 * w.length) (mu := 0) (mu' := 0) (sp_fixed hg (k := 0) (by omega)) fun c B1 m1 g1 h1 => ?_).mono (Nat.le_refl _) (by omega) (fun _ _ h => h)
  refine (sp_numA w.reverse c vs.reverse 0 B1 g1 (hw.reverse.up m1) h1).mono (by simp) (Nat.le_refl _) fun z B' hz => ?_
  rw [m1.p] at hz
  exact hz
/-- As the law sums it. -/
def lawSum (p : Nat) : Nat → List Nat → Nat → Nat
  | i, x :: r, s => lawSum p (i + 1) r ((s + x * (2 ^ i % p) % p) % p)
  | _, [], s => s
def plainSum : Nat → List Nat → Nat
  | _, [] => 0
  | i, x :: r => x * 2 ^ i + plainSum (i + 1) r
theorem lawSum_eq (p : Nat) (hp : 0 < p) : ∀ (l : List Nat) (i s : Nat), s < p → lawSum p i l s = (s + plainSum i l) % p
  | [], i, s, h => by simp [lawSum, plainSum, Nat.mod_eq_of_lt h]
  | x :: r, i, s, h => by
    simp only [lawSum, plainSum]
    rw [lawSum_eq p hp r _ _ (Nat.mod_lt _ hp), Nat.mod_add_mod, Nat.add_assoc, Nat.add_comm (x * (2 ^ i % p) % p), ← Nat.add_assoc, Nat.add_mod_mod]
    rw [show s + (x * 2 ^ i + plainSum (i + 1) r) = s + plainSum (i + 1) r + x * 2 ^ i by omega]
    rw [Nat.add_mod, Nat.mul_mod_mod, ← Nat.add_mod]
theorem plainSum_succ : ∀ (l : List Nat) (i : Nat), plainSum (i + 1) l = 2 * plainSum i l
  | [], i => rfl
  | x :: r, i => by
    simp only [plainSum, plainSum_succ r (i + 1), Nat.pow_succ, Nat.mul_add]
    rw [Nat.mul_comm (2 ^ i) 2, Nat.mul_left_comm]
theorem horn_append (p : Nat) : ∀ (l m : List Nat) (n : Nat), horn p (l ++ m) n = horn p m (horn p l n)
  | [], _, _ => rfl
  | x :: r, m, n => by simp only [List.cons_append, horn]; exact horn_append p r m _
theorem horn_eq (p : Nat) (hp : 0 < p) : ∀ (l : List Nat), horn p l.reverse 0 = plainSum 0 l % p
  | [] => by simp [horn, plainSum]
  | x :: r => by
    rw [List.reverse_cons, horn_append, horn_eq p hp r]
    simp only [horn, plainSum, Nat.pow_zero, Nat.mul_one, plainSum_succ]
    have e : ∀ a y : Nat, (a % p + a % p + y) % p = (y + 2 * a) % p := by
      intro a y
      rw [Nat.add_assoc, Nat.mod_add_mod, Nat.add_left_comm, Nat.mod_add_mod]
      congr 1; omega
    rw [Nat.mod_add_mod, e]
end Go.Gv.W
