/-
  A word of constants while there is room. No condition.
-/
import Derived.Test.YtokidokmcbkodaaGvX07
namespace Go.Gv.W
set_option linter.unusedSimpArgs false
set_option linter.unusedVariables false
set_option linter.unusedSectionVars false
open Go.RowKit Go.Proofs

theorem const_ok {B : Bd} {k : Nat} (hg : Good [] B) (hk : k < B.p) (hr : B.c.gates.length < 65536) : ∃ B', (B.put ⟨2, 0, 0, k⟩).2.1 = 0 ∧ (B.put ⟨2, 0, 0, k⟩).2.2 = B' ∧ More B B' 1 0 ∧ Good [] B' ∧ Vl [] B' (B.put ⟨2, 0, 0, k⟩).1 k := by
  have h3 := hg.p3
  have h := sp_put hg (g := ⟨2, 0, 0, k⟩) (by simp [gateErr]; omega)
  obtain ⟨x, B', he, h1, h2, hv⟩ := h.room (by omega)
  unfold rPut at he
  by_cases h0 : (B.put ⟨2, 0, 0, k⟩).2.1 = 0
  · rw [if_pos h0] at he
    simp only [Res.ok.injEq] at he
    obtain ⟨rfl, rfl⟩ := he
    refine ⟨_, h0, rfl, by simpa using h1, h2, by simpa [gval] using hv⟩
  · rw [if_neg h0] at he; cases he
theorem ofA_ok (x : Nat) : ∀ (n i : Nat) (acc : List Int) (ab : List Bool) (B : Bd), Good [] B → Bts [] B acc ab → B.c.gates.length + n ≤ 65536 →
    ∃ bs, bs.length = ab.length + n ∧ Bts [] (ofA x n i acc B).2 (ofA x n i acc B).1 bs ∧ More B (ofA x n i acc B).2 n 0 ∧ Good [] (ofA x n i acc B).2
  | 0, i, acc, ab, B, hg, ha, _ => ⟨ab, rfl, ha, More.refl B, hg⟩
  | n + 1, i, acc, ab, B, hg, ha, hr => by
    have h3 := hg.p3
    obtain ⟨B', h1, h2, h4, h5, h6⟩ := const_ok hg (k := x / 2 ^ i % 2) (by omega) (by omega)
    simp only [ofA]
    rw [h2]
    have h7 : Bt [] B' (B.put ⟨2, 0, 0, x / 2 ^ i % 2⟩).1 (decide (x / 2 ^ i % 2 = 1)) := by
      have e : (decide (x / 2 ^ i % 2 = 1)).toNat = x / 2 ^ i % 2 := by
        by_cases h : x / 2 ^ i % 2 = 1
        · rw [decide_eq_true h, h]; rfl
        · rw [decide_eq_false h]; simp only [Bool.toNat_false]; omega
      unfold Bt
      rw [e]; exact h6
    have hlen : B'.c.gates.length ≤ B.c.gates.length + 1 := by
      obtain ⟨gs, rfl, h8, -⟩ := h4
      simp; omega
    obtain ⟨bs, k1, k2, k3, k4⟩ := ofA_ok x n (i + 1) _ _ B' h5 (Bts.snoc (ha.up h4) h7) (by omega)
    exact ⟨bs, by rw [k1]; simp; omega, k2, (h4.trans k3).mono (by omega) (by omega), k4⟩
theorem c_ofW {G : GH} {vb : Value} {B : Bd} {Es : List (List Ent)} {k x : Nat} (hb : BoardV G vb B Es) (hg : Good [] B) (h16 : k ≤ 16) (hr : B.c.gates.length + k ≤ 65536) :
    ACalls Try.prog 12 [vb, .int .i64 k, .int .u64 x] G Es fun o G' Es' => ∃ u B' ub, o = .ret u ∧ BoardV G' vb B' Es' ∧ More B B' k 0 ∧ Good [] B' ∧ Wd G' B' k u ub := by
  obtain ⟨bs, h1, h2, h3, h4⟩ := ofA_ok x k 0 [] [] B hg trivial hr
  refine (c_of hb (by omega)).mono ?_
  rintro o G' Es' hgl ⟨u, rfl, hu, hb'⟩
  exact ⟨u, _, bs, rfl, hb', h3, h4, Wd.mk hu h2 (by simpa using h1)⟩
theorem More.len {B B' : Bd} {n mu : Nat} (h : More B B' n mu) : B'.c.gates.length ≤ B.c.gates.length + n := by
  obtain ⟨gs, rfl, h8, -⟩ := h
  simp; omega
/-- Facts on words carried over a call. -/
theorem isP_good {p : Nat} (h : isP p = true) : Good [] ⟨p, .none⟩ := by
  have h2 : 3 ≤ p ∧ p ≤ 65537 := by
    unfold isP at h
    rw [Bool.and_eq_true, decide_eq_true_eq] at h
    exact h.1
  exact ⟨h2.1, h2.2, rfl, by simp [Circ.none], by simp⟩
end Go.Gv.W
