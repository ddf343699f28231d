/-
  The inputs as they count, and the values of gates. No condition.
-/
import Derived.Test.YtokidokmcbkodaaGvW24
namespace Go.Gv.W
set_option linter.unusedSimpArgs false
set_option linter.unusedVariables false
set_option linter.unusedSectionVars false
open Go.RowKit Go.Proofs



/-- An input as it counts. -/
def effOne (s : Slot) (v : Nat) : Nat := if s.bit = true ∧ 1 < v then 0 else v
def effIn : List Slot → List Nat → List Nat
  | s :: r, v :: l => effOne s v :: effIn r l
  | _, l => l
theorem effIn_len : ∀ (s : List Slot) (l : List Nat), (effIn s l).length = l.length
  | [], l => rfl
  | s :: r, [] => rfl
  | s :: r, v :: l => by simp [effIn, effIn_len r l]
theorem effIn_get : ∀ (s : List Slot) (l : List Nat) (i : Nat) (h : i < l.length) (h' : i < s.length), (effIn s l)[i]'(by rw [effIn_len]; exact h) = effOne s[i] l[i]
  | s :: r, v :: l, 0, _, _ => rfl
  | s :: r, v :: l, i + 1, h, h' => by
    simp only [effIn, List.getElem_cons_succ]
    exact effIn_get r l i (by simpa using h) (by simpa using h')
  | [], l, i, h, h' => by simp at h'
  | s :: r, [], i, h, h' => by simp at h
/-- The inputs, or the error. -/
def inputsM (p : Nat) (c : Circ) (ins : List Nat) : List Nat × Int :=
  if circErr p c ≠ 0 then ([], circErr p c) else if ins.length ≠ c.slots.length ∨ ins.all (fun x => decide (x < p)) = false then ([], 2) else (effIn c.slots ins, 0)
theorem encN_flat : ∀ l : List Nat, (encN l).flatten = l.map fun (x : Nat) => Value.int .u64 (x : Int)
  | [] => rfl
  | x :: r => by
    have := encN_flat r
    simp only [encN, List.map_cons, List.flatten_cons, List.cons_append, List.nil_append] at *
    rw [this]
theorem slN_sl {G : GH} {v : Value} {l : List Nat} : SlN G v l ↔ Sl G 1 v (encN l) := by simp only [SlN, Sl, encN_length]
theorem slN_nil {G : GH} : SlN G (.slice none 0 0) [] := ⟨none, 0, rfl, Nat.le_refl _, Nat.zero_le _, by simp [encN], rfl⟩

theorem eff_step {E ins : List Nat} {i x : Nat} (hl : E.length = ins.length) (h : i < ins.length) (hx : E[i]'(by omega) = x) :
    E.take (i + 1) ++ ins.drop (i + 1) = (E.take i ++ ins.drop i).set i x := by
  have h2 : i < E.length := by omega
  rw [List.drop_eq_getElem_cons h, List.set_append_right _ _ (by rw [List.length_take_of_le (by omega)]; exact Nat.le_refl _), List.length_take_of_le (by omega),
    Nat.sub_self, List.set_cons_zero, List.take_succ_eq_append_getElem h2, hx]
  simp
end Go.Gv.W
