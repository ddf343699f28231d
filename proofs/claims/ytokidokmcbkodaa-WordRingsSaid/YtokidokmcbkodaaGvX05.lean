/-
  Sums, differences, products and tests of words: their values and how many gates they take. No condition.
-/
import Derived.Test.YtokidokmcbkodaaGvX04
namespace Go.Gv.W
set_option linter.unusedSimpArgs false
set_option linter.unusedVariables false
set_option linter.unusedSectionVars false
open Go.RowKit Go.Proofs

theorem sp_turnA {ins : List Nat} : ∀ (w acc : List Int) (wb ab : List Bool) (B : Bd), Good ins B → Bts ins B w wb → Bts ins B acc ab →
    Sp ins (rTurnA acc w) B (2 * w.length) 0 fun x B' => Bts ins B' x (ab ++ wb.map (!·))
  | [], acc, [], ab, B, hg, _, ha => Sp.pure hg (by simpa using ha)
  | a :: w, acc, x :: wb, ab, B, hg, hw, ha => by
    rw [rTurnA]
    refine (Sp.bind (n := 2) (n' := 2 * w.length) (mu := 0) (mu' := 0) (sp_not hg hw.1) fun o B1 m1 g1 h1 => ?_).mono (by simp; omega) (by omega) (fun _ _ h => h)
    refine (sp_turnA w (acc ++ [o]) wb (ab ++ [!x]) B1 g1 (hw.2.up m1) (Bts.snoc (ha.up m1) h1)).mono (Nat.le_refl _) (Nat.le_refl _) fun z B' hz => ?_
    simpa using hz
  | [], _, _ :: _, _, _, _, hw, _ => hw.elim
  | _ :: _, _, [], _, _, _, hw, _ => hw.elim
theorem sp_partA {ins : List Nat} {b : Int} {c : Bool} : ∀ (v acc : List Int) (vb ab : List Bool) (B : Bd), Good ins B → Bts ins B v vb → Bt ins B b c → Bts ins B acc ab →
    Sp ins (rPartA acc v b) B v.length v.length fun x B' => Bts ins B' x (ab ++ vb.map (· && c))
  | [], acc, [], ab, B, hg, _, _, ha => Sp.pure hg (by simpa using ha)
  | a :: v, acc, x :: vb, ab, B, hg, hv, hb, ha => by
    rw [rPartA]
    refine (Sp.bind (n := 1) (n' := v.length) (mu := 1) (mu' := v.length) (sp_and hg hv.1 hb) fun o B1 m1 g1 h1 => ?_).mono (by simp; omega) (by simp; omega) (fun _ _ h => h)
    refine (sp_partA v (acc ++ [o]) vb (ab ++ [x && c]) B1 g1 (hv.2.up m1) (hb.up m1) (Bts.snoc (ha.up m1) h1)).mono (Nat.le_refl _) (Nat.le_refl _) fun z B' hz => ?_
    simpa using hz
  | [], _, _ :: _, _, _, _, hv, _, _ => hv.elim
  | _ :: _, _, [], _, _, _, hv, _, _ => hv.elim
theorem sp_sameA {ins : List Nat} : ∀ (v w : List Int) (n : Int) (vb wb : List Bool) (nb : Bool) (B : Bd), Good ins B → Bts ins B v vb → Bts ins B w wb → v.length = w.length → Bt ins B n nb →
    Sp ins (rSameA v w n) B (7 * v.length) (2 * v.length) fun x B' => Bt ins B' x (nb && decide (vb = wb))
  | [], [], n, [], [], nb, B, hg, _, _, _, hn => Sp.pure hg (by simpa using hn)
  | a :: v, b :: w, n, x :: vb, y :: wb, nb, B, hg, hv, hw, hl, hn => by
    rw [rSameA]
    refine (Sp.bind (n := 4) (n' := 3 + 7 * v.length) (mu := 1) (mu' := 1 + 2 * v.length) (sp_xor hg hv.1 hw.1) fun z B1 m1 g1 h1 => ?_).mono (by simp; omega) (by simp; omega) (fun _ _ h => h)
    refine (Sp.bind (n := 2) (n' := 1 + 7 * v.length) (mu := 0) (mu' := 1 + 2 * v.length) (sp_not g1 h1) fun z2 B2 m2 g2 h2 => ?_).mono (by omega) (by omega) (fun _ _ h => h)
    refine (Sp.bind (n := 1) (n' := 7 * v.length) (mu := 1) (mu' := 2 * v.length) (sp_and g2 ((hn.up m1).up m2) h2) fun z3 B3 m3 g3 h3 => ?_).mono (by omega) (by omega) (fun _ _ h => h)
    have m := (m1.trans m2).trans m3
    refine (sp_sameA v w z3 vb wb _ B3 g3 (hv.2.up m) (hw.2.up m) (by simpa using hl) h3).mono (Nat.le_refl _) (Nat.le_refl _) fun q B' hq => ?_
    have e : (nb && decide (x :: vb = y :: wb)) = ((nb && !(x ^^ y)) && decide (vb = wb)) := by
      cases nb <;> cases x <;> cases y <;> simp
    rw [e]; exact hq
  | [], b :: w, _, _, _, _, _, _, _, _, hl, _ => by simp at hl
  | a :: v, [], _, _, _, _, _, _, _, _, hl, _ => by simp at hl
  | [], [], _, _ :: _, _, _, _, _, hv, _, _, _ => hv.elim
  | [], [], _, [], _ :: _, _, _, _, _, hw, _, _ => hw.elim
  | _ :: _, _ :: _, _, [], _, _, _, _, hv, _, _, _ => hv.elim
  | _ :: _, _ :: _, _, _ :: _, [], _, _, _, _, hw, _, _ => hw.elim

theorem sp_plus {ins : List Nat} {v w : List Int} {vb wb : List Bool} {B : Bd} (hg : Good ins B) (hv : Bts ins B v vb) (hw : Bts ins B w wb) (hl : v.length = w.length) :
    Sp ins (rPlus v w) B (1 + 9 * v.length) (2 * v.length) fun x B' => Bts ins B' x (addB vb wb false).1 := by
  have h3 := hg.p3
  refine (Sp.bind (n := 1) (n' := 9 * v.length) (mu := 0) (mu' := 2 * v.length) (sp_fixed hg (k := 0) (by omega)) fun c B1 m1 g1 h1 => ?_).mono (Nat.le_refl _) (by omega) (fun _ _ h => h)
  refine (Sp.bind (n' := 0) (mu' := 0) (sp_addA v w [] c vb wb [] false B1 g1 (hv.up m1) (hw.up m1) hl trivial h1) fun x B2 m2 g2 h2 => Sp.pure g2 (Q := fun x B' => Bts ins B' x (addB vb wb false).1) ?_).mono (by omega) (by omega) (fun _ _ h => h)
  simpa using h2.1
theorem sp_subA {ins : List Nat} {v w : List Int} {vb wb : List Bool} {B : Bd} {β : Type} {f : List Int × Int → Rm β} {n mu : Nat} {R : β → Bd → Prop} (hg : Good ins B) (hv : Bts ins B v vb) (hw : Bts ins B w wb) (hl : v.length = w.length)
    (hf : ∀ x B', Good ins B' → Bts ins B' x.1 (addB vb (wb.map (!·)) true).1 → Bt ins B' x.2 (addB vb (wb.map (!·)) true).2 → Sp ins (f x) B' n mu R) :
    Sp ins (.bind (rTurnA [] w) fun t => .bind (rFixed 1) fun c => .bind (rAddA [] v t c) f) B (1 + 11 * v.length + n) (2 * v.length + mu) R := by
  have h3 := hg.p3
  refine (Sp.bind (n := 2 * w.length) (n' := 1 + 9 * v.length + n) (mu := 0) (mu' := 2 * v.length + mu) (sp_turnA w [] wb [] B hg hw trivial) fun t B1 m1 g1 h1 => ?_).mono (by omega) (by omega) (fun _ _ h => h)
  refine (Sp.bind (n := 1) (n' := 9 * v.length + n) (mu := 0) (mu' := 2 * v.length + mu) (sp_fixed g1 (k := 1) (by rw [m1.p]; omega)) fun c B2 m2 g2 h2 => ?_).mono (by omega) (by omega) (fun _ _ h => h)
  have hlt : v.length = t.length := by rw [h1.len]; simp; rw [hl, hw.len]
  refine Sp.bind (sp_addA v t [] c vb _ [] true B2 g2 ((hv.up m1).up m2) (h1.up m2) hlt trivial h2) fun x B3 m3 g3 h4 => hf x B3 g3 ?_ ?_
  · simpa using h4.1
  · simpa using h4.2
theorem sp_minus {ins : List Nat} {v w : List Int} {vb wb : List Bool} {B : Bd} (hg : Good ins B) (hv : Bts ins B v vb) (hw : Bts ins B w wb) (hl : v.length = w.length) :
    Sp ins (rMinus v w) B (1 + 11 * v.length) (2 * v.length) fun x B' => Bts ins B' x (addB vb (wb.map (!·)) true).1 :=
  (sp_subA (n := 0) (mu := 0) hg hv hw hl fun x B' hg' h1 _ => Sp.pure hg' (Q := fun x B' => Bts ins B' x (addB vb (wb.map (!·)) true).1) h1).mono (by omega) (by omega) (fun _ _ h => h)
theorem sp_below {ins : List Nat} {v w : List Int} {vb wb : List Bool} {B : Bd} (hg : Good ins B) (hv : Bts ins B v vb) (hw : Bts ins B w wb) (hl : v.length = w.length) :
    Sp ins (rBelow v w) B (3 + 11 * v.length) (2 * v.length) fun x B' => Bt ins B' x (decide (bnum vb < bnum wb)) := by
  refine (sp_subA (n := 2) (mu := 0) hg hv hw hl fun x B' hg' _ h2 => (sp_not hg' h2)).mono (by omega) (by omega) (fun z B' hz => ?_)
  have e := (sub_num (v := vb) (w := wb) (by rw [← hv.len, ← hw.len]; exact hl)).2
  rw [e] at hz
  have e2 : (!decide (bnum wb ≤ bnum vb)) = decide (bnum vb < bnum wb) := by
    rw [← decide_not]; exact decide_eq_decide.2 (by omega)
  rw [← e2]; exact hz
theorem sp_same {ins : List Nat} {v w : List Int} {vb wb : List Bool} {B : Bd} (hg : Good ins B) (hv : Bts ins B v vb) (hw : Bts ins B w wb) (hl : v.length = w.length) :
    Sp ins (rSame v w) B (1 + 7 * v.length) (2 * v.length) fun x B' => Bt ins B' x (decide (vb = wb)) := by
  have h3 := hg.p3
  refine (Sp.bind (n := 1) (n' := 7 * v.length) (mu := 0) (mu' := 2 * v.length) (sp_fixed hg (k := 1) (by omega)) fun c B1 m1 g1 h1 => ?_).mono (Nat.le_refl _) (by omega) (fun _ _ h => h)
  refine (sp_sameA v w c vb wb true B1 g1 (hv.up m1) (hw.up m1) hl h1).mono (Nat.le_refl _) (Nat.le_refl _) fun z B' hz => ?_
  simpa using hz
def tri : Nat → Nat
  | 0 => 0
  | n + 1 => tri n + (n + 1)
theorem sp_timesA {ins : List Nat} {v : List Int} {vb : List Bool} : ∀ (w : List Int) (i : Nat) (out : List Int) (wb ob : List Bool) (B : Bd), 0 < i → i + w.length = v.length → out.length = v.length → Good ins B → Bts ins B v vb → Bts ins B w wb → Bts ins B out ob →
    Sp ins (rTimesA v i out w) B (10 * tri w.length + w.length) (3 * tri w.length) fun x B' => Bts ins B' x (timesB vb i ob wb)
  | [], i, out, [], ob, B, _, _, _, hg, _, _, ho => Sp.pure hg (by simpa [timesB] using ho)
  | b :: w, i, out, c :: wb, ob, B, hi, hk, hol, hg, hv, hw, ho => by
    have h3 := hg.p3
    have hvl := hv.len
    simp only [List.length_cons] at hk
    have hki : v.length - i = w.length + 1 := by omega
    simp only [rTimesA, timesB, if_neg (show i ≠ 0 by omega), List.length_cons, tri]
    refine (Sp.bind (n := w.length + 1) (n' := 1 + (9 * (w.length + 1) + (10 * tri w.length + w.length))) (mu := w.length + 1) (mu' := 2 * (w.length + 1) + 3 * tri w.length)
      ((sp_partA (v.take (v.length - i)) [] _ [] B hg (hv.take _) hw.1 trivial).mono (by rw [List.length_take]; omega) (by rw [List.length_take]; omega) (fun _ _ h => h)) fun part B1 m1 g1 h1 => ?_).mono (by omega) (by omega) (fun _ _ h => h)
    refine (Sp.bind (n := 1) (n' := 9 * (w.length + 1) + (10 * tri w.length + w.length)) (mu := 0) (mu' := 2 * (w.length + 1) + 3 * tri w.length) (sp_fixed g1 (k := 0) (by rw [m1.p]; omega)) fun z B2 m2 g2 h2 => ?_).mono (by omega) (by omega) (fun _ _ h => h)
    have hpl : part.length = w.length + 1 := by rw [h1.len]; simp; omega
    have hdl : (out.drop i).length = w.length + 1 := by rw [List.length_drop]; omega
    refine (Sp.bind (n := 9 * (w.length + 1)) (n' := 10 * tri w.length + w.length) (mu := 2 * (w.length + 1)) (mu' := 3 * tri w.length)
      ((sp_addA (out.drop i) part [] z (ob.drop i) _ [] false B2 g2 (((ho.up m1).up m2).drop i) (h1.up m2) (by omega) trivial h2).mono (by omega) (by omega) (fun _ _ h => h)) fun x B3 m3 g3 h4 => ?_).mono (by omega) (by omega) (fun _ _ h => h)
    have m := (m1.trans m2).trans m3
    have hx : x.1.length = w.length + 1 := by
      rw [h4.1.len, List.nil_append, addB_len, List.length_drop, ← ho.len, ← List.length_drop, hdl]
      rw [List.length_drop, ← ho.len, ← List.length_drop, hdl]; simp; omega
    refine (sp_timesA w (i + 1) (out.take i ++ x.1) wb _ B3 (by omega) (by omega) (by rw [List.length_append, List.length_take, hx]; omega) g3 (hv.up m) (hw.2.up m) ?_).mono (Nat.le_refl _) (Nat.le_refl _) fun q B' hq => hq
    refine Bts.append ((ho.up m).take i) ?_
    rw [hvl] at h4
    simpa using h4.1
  | [], _, _, _ :: _, _, _, _, _, _, _, _, hw, _ => hw.elim
  | _ :: _, _, _, [], _, _, _, _, _, _, _, hw, _ => hw.elim
end Go.Gv.W
