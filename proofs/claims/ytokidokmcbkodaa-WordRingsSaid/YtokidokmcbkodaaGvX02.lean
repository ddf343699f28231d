/-
  The values of bits that are made of bits. No condition.
-/
import Derived.Test.YtokidokmcbkodaaGvX01
namespace Go.Gv.W
set_option linter.unusedSimpArgs false
set_option linter.unusedVariables false
set_option linter.unusedSectionVars false
open Go.RowKit Go.Proofs

theorem sp_fixed {ins : List Nat} {B : Bd} {k : Nat} (hg : Good ins B) (hk : k < B.p) : Sp ins (rFixed k) B 1 0 fun x B' => Vl ins B' x k := by
  have h3 := hg.p3
  have e : k % B.p = k := Nat.mod_eq_of_lt hk
  have h : gateErr B.p B.c.slots.length B.c.gates.length ⟨2, 0, 0, k⟩ = 0 := by simp [gateErr]; omega
  have := sp_put hg h
  unfold Sp rFixed at *
  rw [e]
  simpa [gval] using this
theorem sp_sum {ins : List Nat} {B : Bd} {x y : Int} {a b : Nat} (hg : Good ins B) (hx : Vl ins B x a) (hy : Vl ins B y b) : Sp ins (rSum x y) B 1 0 fun z B' => Vl ins B' z ((a + b) % B.p) := by
  have h3 := hg.p3
  have h : gateErr B.p B.c.slots.length B.c.gates.length ⟨3, x, y, 0⟩ = 0 := by
    have h1 := hx.1
    have h2 := hy.1
    simp [gateErr]; omega
  have := sp_put hg h
  rw [← hx.2, ← hy.2]
  simpa [gval, rSum] using this
theorem sp_less {ins : List Nat} {B : Bd} {x y : Int} {a b : Nat} (hg : Good ins B) (hx : Vl ins B x a) (hy : Vl ins B y b) : Sp ins (rLess x y) B 1 0 fun z B' => Vl ins B' z ((a + B.p - b) % B.p) := by
  have h3 := hg.p3
  have h : gateErr B.p B.c.slots.length B.c.gates.length ⟨4, x, y, 0⟩ = 0 := by
    have h1 := hx.1
    have h2 := hy.1
    simp [gateErr]; omega
  have := sp_put hg h
  rw [← hx.2, ← hy.2]
  simpa [gval, rLess] using this
theorem sp_prod {ins : List Nat} {B : Bd} {x y : Int} {a b : Nat} (hg : Good ins B) (hx : Vl ins B x a) (hy : Vl ins B y b) : Sp ins (rProd x y) B 1 1 fun z B' => Vl ins B' z (a * b % B.p) := by
  have h3 := hg.p3
  have h : gateErr B.p B.c.slots.length B.c.gates.length ⟨5, x, y, 0⟩ = 0 := by
    have h1 := hx.1
    have h2 := hy.1
    simp [gateErr]; omega
  have := sp_put hg h
  rw [← hx.2, ← hy.2]
  simpa [gval, rProd] using this
theorem More.p {B B' : Bd} {n mu : Nat} (h : More B B' n mu) : B'.p = B.p := by
  obtain ⟨gs, rfl, -, -⟩ := h
  rfl
/-- A gate whose value is a bit. -/
def Bt (ins : List Nat) (B : Bd) (i : Int) (b : Bool) : Prop := Vl ins B i b.toNat
theorem Bt.up {ins : List Nat} {B B' : Bd} {n mu : Nat} {i : Int} {b : Bool} (h : Bt ins B i b) (hm : More B B' n mu) : Bt ins B' i b := Vl.up h hm
theorem mod_small {a p : Nat} (h : a < p) : a % p = a := Nat.mod_eq_of_lt h
theorem sub_mod {a b p : Nat} (h : a < p) (hb : b ≤ a) : (a + p - b) % p = a - b := by
  rw [show a + p - b = (a - b) + p by omega, Nat.add_mod_right, Nat.mod_eq_of_lt (by omega)]

theorem sp_not {ins : List Nat} {B : Bd} {x : Int} {b : Bool} (hg : Good ins B) (hx : Bt ins B x b) : Sp ins (rNot x) B 2 0 fun z B' => Bt ins B' z (!b) := by
  refine (Sp.bind (sp_fixed hg (k := 1) (by have := hg.p3; omega)) fun k B1 hm hg1 hk => (sp_less hg1 hk (hx.up hm)).mono (Nat.le_refl 1) (Nat.le_refl 0) fun z B2 hz => ?_)
  have := hg1.p3
  cases b
  · rw [sub_mod (by omega) (by simp)] at hz; exact hz
  · rw [sub_mod (by omega) (by simp)] at hz; exact hz
theorem sp_and {ins : List Nat} {B : Bd} {x y : Int} {a b : Bool} (hg : Good ins B) (hx : Bt ins B x a) (hy : Bt ins B y b) : Sp ins (rAnd x y) B 1 1 fun z B' => Bt ins B' z (a && b) := by
  refine (sp_prod hg hx hy).mono (Nat.le_refl _) (Nat.le_refl _) fun z B2 hz => ?_
  have := hg.p3
  rw [show a.toNat * b.toNat = (a && b).toNat by cases a <;> cases b <;> rfl, mod_small (by cases a <;> cases b <;> simp <;> omega)] at hz
  exact hz
theorem sp_or {ins : List Nat} {B : Bd} {x y : Int} {a b : Bool} (hg : Good ins B) (hx : Bt ins B x a) (hy : Bt ins B y b) : Sp ins (rOr x y) B 3 1 fun z B' => Bt ins B' z (a || b) := by
  have h3 := hg.p3
  refine Sp.bind (n := 1) (n' := 2) (mu := 0) (mu' := 1) (sp_sum hg hx hy) fun s B1 hm1 hg1 hs => Sp.bind (n := 1) (n' := 1) (mu := 1) (mu' := 0) (sp_prod hg1 (hx.up hm1) (hy.up hm1)) fun q B2 hm2 hg2 hq =>
    (sp_less hg2 (hs.up hm2) hq).mono (Nat.le_refl 1) (Nat.le_refl 0) fun z B3 hz => ?_
  rw [hm2.p, hm1.p] at hz
  have e : ((a.toNat + b.toNat) % B.p + B.p - a.toNat * b.toNat % B.p) % B.p = (a || b).toNat := by
    have h5 : (a.toNat + b.toNat) % B.p = a.toNat + b.toNat := mod_small (by cases a <;> cases b <;> simp <;> omega)
    have h6 : a.toNat * b.toNat % B.p = a.toNat * b.toNat := mod_small (by cases a <;> cases b <;> simp <;> omega)
    rw [h5, h6, sub_mod (by cases a <;> cases b <;> simp <;> omega) (by cases a <;> cases b <;> simp)]
    cases a <;> cases b <;> rfl
  rw [e] at hz
  exact hz
theorem sp_xor {ins : List Nat} {B : Bd} {x y : Int} {a b : Bool} (hg : Good ins B) (hx : Bt ins B x a) (hy : Bt ins B y b) : Sp ins (rXor x y) B 4 1 fun z B' => Bt ins B' z (a ^^ b) := by
  have h3 := hg.p3
  refine Sp.bind (n := 1) (n' := 3) (mu := 1) (mu' := 0) (sp_prod hg hx hy) fun q B1 hm1 hg1 hq => Sp.bind (n := 1) (n' := 2) (mu := 0) (mu' := 0) (sp_sum hg1 (hx.up hm1) (hy.up hm1)) fun s B2 hm2 hg2 hs =>
    Sp.bind (n := 1) (n' := 1) (mu := 0) (mu' := 0) (sp_sum hg2 (hq.up hm2) (hq.up hm2)) fun t B3 hm3 hg3 ht => (sp_less hg3 (hs.up hm3) ht).mono (Nat.le_refl 1) (Nat.le_refl 0) fun z B4 hz => ?_
  rw [hm3.p, hm2.p, hm1.p] at hz
  have e : ((a.toNat + b.toNat) % B.p + B.p - (a.toNat * b.toNat % B.p + a.toNat * b.toNat % B.p) % B.p) % B.p = (a ^^ b).toNat := by
    have h5 : (a.toNat + b.toNat) % B.p = a.toNat + b.toNat := mod_small (by cases a <;> cases b <;> simp <;> omega)
    have h6 : a.toNat * b.toNat % B.p = a.toNat * b.toNat := mod_small (by cases a <;> cases b <;> simp <;> omega)
    rw [h5, h6, mod_small (show a.toNat * b.toNat + a.toNat * b.toNat < B.p by cases a <;> cases b <;> simp <;> omega), sub_mod (by cases a <;> cases b <;> simp <;> omega) (by cases a <;> cases b <;> simp)]
    cases a <;> cases b <;> rfl
  rw [e] at hz
  exact hz
theorem sp_pick {ins : List Nat} {B : Bd} {c x y : Int} {b : Bool} {u v : Nat} (hg : Good ins B) (hc : Bt ins B c b) (hx : Vl ins B x u) (hy : Vl ins B y v) : Sp ins (rPick c x y) B 3 1 fun z B' => Vl ins B' z (if b then u else v) := by
  have h3 := hg.p3
  have hu := hx.lt hg
  have hv := hy.lt hg
  refine Sp.bind (n := 1) (n' := 2) (mu := 0) (mu' := 1) (sp_less hg hx hy) fun s B1 hm1 hg1 hs => Sp.bind (n := 1) (n' := 1) (mu := 1) (mu' := 0) (sp_prod hg1 (hc.up hm1) hs) fun q B2 hm2 hg2 hq =>
    (sp_sum hg2 ((hy.up hm1).up hm2) hq).mono (Nat.le_refl 1) (Nat.le_refl 0) fun z B3 hz => ?_
  rw [hm2.p, hm1.p] at hz
  cases b
  · simp only [Bool.toNat_false, Nat.zero_mul, Nat.zero_mod, Nat.add_zero] at hz
    rw [mod_small hv] at hz
    exact hz
  · simp only [Bool.toNat_true, Nat.one_mul, Nat.mod_mod] at hz
    rw [Nat.add_mod_mod, show v + (u + B.p - v) = u + B.p by omega, Nat.add_mod_right, mod_small hu] at hz
    exact hz
end Go.Gv.W
