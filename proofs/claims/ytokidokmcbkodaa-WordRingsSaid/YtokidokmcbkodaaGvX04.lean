/-
  The values of words that are made of words. No condition.
-/
import Derived.Test.YtokidokmcbkodaaGvX03
namespace Go.Gv.W
set_option linter.unusedSimpArgs false
set_option linter.unusedVariables false
set_option linter.unusedSectionVars false
open Go.RowKit Go.Proofs

/-- Gates whose values are these bits. -/
def Bts (ins : List Nat) (B : Bd) : List Int → List Bool → Prop
  | i :: l, b :: m => Bt ins B i b ∧ Bts ins B l m
  | [], [] => True
  | _, _ => False
theorem Bts.up {ins : List Nat} {B B' : Bd} {n mu : Nat} (hm : More B B' n mu) : ∀ {l : List Int} {bs : List Bool}, Bts ins B l bs → Bts ins B' l bs
  | _ :: _, _ :: _, h => ⟨h.1.up hm, Bts.up hm h.2⟩
  | [], [], _ => trivial
  | [], _ :: _, h => h.elim
  | _ :: _, [], h => h.elim
theorem Bts.len {ins : List Nat} {B : Bd} : ∀ {l : List Int} {bs : List Bool}, Bts ins B l bs → l.length = bs.length
  | _ :: _, _ :: _, h => by simp [Bts.len h.2]
  | [], [], _ => rfl
  | [], _ :: _, h => h.elim
  | _ :: _, [], h => h.elim
theorem Bts.append {ins : List Nat} {B : Bd} : ∀ {l : List Int} {bs : List Bool} {l' : List Int} {bs' : List Bool}, Bts ins B l bs → Bts ins B l' bs' → Bts ins B (l ++ l') (bs ++ bs')
  | _ :: _, _ :: _, _, _, h, h' => ⟨h.1, Bts.append h.2 h'⟩
  | [], [], _, _, _, h' => h'
  | [], _ :: _, _, _, h, _ => h.elim
  | _ :: _, [], _, _, h, _ => h.elim
theorem Bts.take {ins : List Nat} {B : Bd} : ∀ {l : List Int} {bs : List Bool} (k : Nat), Bts ins B l bs → Bts ins B (l.take k) (bs.take k)
  | _ :: _, _ :: _, 0, _ => trivial
  | _ :: _, _ :: _, k + 1, h => ⟨h.1, Bts.take k h.2⟩
  | [], [], k, _ => by simp [Bts]
  | [], _ :: _, _, h => h.elim
  | _ :: _, [], _, h => h.elim
theorem Bts.drop {ins : List Nat} {B : Bd} : ∀ {l : List Int} {bs : List Bool} (k : Nat), Bts ins B l bs → Bts ins B (l.drop k) (bs.drop k)
  | _ :: _, _ :: _, 0, h => h
  | _ :: _, _ :: _, k + 1, h => Bts.drop k h.2
  | [], [], k, _ => by simp [Bts]
  | [], _ :: _, _, h => h.elim
  | _ :: _, [], _, h => h.elim
theorem Bts.snoc {ins : List Nat} {B : Bd} {l : List Int} {bs : List Bool} {i : Int} {b : Bool} (h : Bts ins B l bs) (h' : Bt ins B i b) : Bts ins B (l ++ [i]) (bs ++ [b]) := h.append ⟨h', trivial⟩
theorem xor_val {p : Nat} (h3 : 3 ≤ p) (a b : Bool) : ((a.toNat + b.toNat) % p + p - ((a && b).toNat + (a && b).toNat) % p) % p = (a ^^ b).toNat := by
  have h5 : (a.toNat + b.toNat) % p = a.toNat + b.toNat := mod_small (by cases a <;> cases b <;> simp <;> omega)
  rw [h5, mod_small (show (a && b).toNat + (a && b).toNat < p by cases a <;> cases b <;> simp <;> omega), sub_mod (by cases a <;> cases b <;> simp <;> omega) (by cases a <;> cases b <;> simp)]
  cases a <;> cases b <;> rfl

set_option maxHeartbeats 1000000 in
theorem sp_addA {ins : List Nat} : ∀ (v w acc : List Int) (c : Int) (vb wb ab : List Bool) (cb : Bool) (B : Bd), Good ins B → Bts ins B v vb → Bts ins B w wb → v.length = w.length → Bts ins B acc ab → Bt ins B c cb →
    Sp ins (rAddA acc v w c) B (9 * v.length) (2 * v.length) fun x B' => Bts ins B' x.1 (ab ++ (addB vb wb cb).1) ∧ Bt ins B' x.2 (addB vb wb cb).2
  | [], [], acc, c, [], [], ab, cb, B, hg, _, _, _, ha, hc => by
    refine Sp.pure hg ⟨?_, ?_⟩
    · simpa [addB] using ha
    · simpa [addB] using hc
  | a :: v, b :: w, acc, c, x :: vb, y :: wb, ab, cb, B, hg, hv, hw, hl, ha, hc => by
    have h3 := hg.p3
    rw [rAddA]
    refine (Sp.bind (n := 1) (n' := 8 + 9 * v.length) (mu := 1) (mu' := 1 + 2 * v.length) (sp_and hg hv.1 hw.1) fun both B1 m1 g1 h1 => ?_).mono (by simp; omega) (by simp; omega) (fun _ _ h => h)
    refine (Sp.bind (n := 1) (n' := 7 + 9 * v.length) (mu := 0) (mu' := 1 + 2 * v.length) (sp_sum g1 (hv.1.up m1) (hw.1.up m1)) fun s1 B2 m2 g2 h2 => ?_).mono (by omega) (by omega) (fun _ _ h => h)
    refine (Sp.bind (n := 1) (n' := 6 + 9 * v.length) (mu := 0) (mu' := 1 + 2 * v.length) (sp_sum g2 (h1.up m2) (h1.up m2)) fun s2 B3 m3 g3 h3' => ?_).mono (by omega) (by omega) (fun _ _ h => h)
    refine (Sp.bind (n := 1) (n' := 5 + 9 * v.length) (mu := 0) (mu' := 1 + 2 * v.length) (sp_less g3 (h2.up m3) h3') fun half B4 m4 g4 h4 => ?_).mono (by omega) (by omega) (fun _ _ h => h)
    rw [m3.p, m2.p, m1.p, xor_val h3] at h4
    have m14 := ((m1.trans m2).trans m3).trans m4
    refine (Sp.bind (n := 1) (n' := 4 + 9 * v.length) (mu := 1) (mu' := 2 * v.length) (sp_and g4 h4 (hc.up m14)) fun more B5 m5 g5 h5 => ?_).mono (by omega) (by omega) (fun _ _ h => h)
    refine (Sp.bind (n := 1) (n' := 3 + 9 * v.length) (mu := 0) (mu' := 2 * v.length) (sp_sum g5 (Vl.up h4 m5) ((hc.up m14).up m5)) fun s3 B6 m6 g6 h6 => ?_).mono (by omega) (by omega) (fun _ _ h => h)
    refine (Sp.bind (n := 1) (n' := 2 + 9 * v.length) (mu := 0) (mu' := 2 * v.length) (sp_sum g6 (h5.up m6) (h5.up m6)) fun s4 B7 m7 g7 h7 => ?_).mono (by omega) (by omega) (fun _ _ h => h)
    refine (Sp.bind (n := 1) (n' := 1 + 9 * v.length) (mu := 0) (mu' := 2 * v.length) (sp_less g7 (h6.up m7) h7) fun o B8 m8 g8 h8 => ?_).mono (by omega) (by omega) (fun _ _ h => h)
    have hp4 : B4.p = B.p := m14.p
    rw [m7.p, m6.p, m5.p, hp4, xor_val h3] at h8
    have m58 := ((m5.trans m6).trans m7).trans m8
    have m28 := ((m2.trans m3).trans m4).trans m58
    refine (Sp.bind (n := 1) (n' := 9 * v.length) (mu := 0) (mu' := 2 * v.length) (sp_sum g8 (h1.up m28) (h5.up ((m6.trans m7).trans m8))) fun c' B9 m9 g9 h9 => ?_).mono (by omega) (by omega) (fun _ _ h => h)
    have m19 := m1.trans (m28.trans m9)
    have hp8 : B8.p = B.p := by rw [m58.p, hp4]
    rw [hp8] at h9
    have hor : ((x && y).toNat + ((x ^^ y) && cb).toNat) % B.p = ((x && y) || ((x ^^ y) && cb)).toNat := by
      rw [mod_small (by cases x <;> cases y <;> cases cb <;> simp <;> omega)]
      cases x <;> cases y <;> cases cb <;> rfl
    rw [hor] at h9
    have ih := sp_addA v w (acc ++ [o]) c' vb wb (ab ++ [(x ^^ y) ^^ cb]) _ B9 g9 (hv.2.up m19) (hw.2.up m19) (by simpa using hl) (Bts.snoc (ha.up m19) (Vl.up h8 m9)) h9
    refine ih.mono (Nat.le_refl _) (Nat.le_refl _) fun z B' hz => ?_
    simpa [addB] using hz
  | [], b :: w, _, _, _, _, _, _, _, _, _, _, hl, _, _ => by simp at hl
  | a :: v, [], _, _, _, _, _, _, _, _, _, _, hl, _, _ => by simp at hl
  | [], [], _, _, _ :: _, _, _, _, _, _, hv, _, _, _, _ => hv.elim
  | [], [], _, _, [], _ :: _, _, _, _, _, _, hw, _, _, _ => hw.elim
  | _ :: _, _ :: _, _, _, [], _, _, _, _, _, hv, _, _, _, _ => hv.elim
  | _ :: _, _ :: _, _, _, _ :: _, [], _, _, _, _, _, hw, _, _, _ => hw.elim
end Go.Gv.W
