/-
  Words of one length form a ring, their order is total, and the chapter's examples are true: the law WordRings returns true for every prime or other number, length and three words. No condition.
-/
import Derived.Test.YtokidokmcbkodaaGvX10
import Derived.Test.YtokidokmcbkodaaGvWJoin
namespace Go.Proofs.Ytokidokmcbkodaa
set_option linter.unusedSimpArgs false
set_option linter.unusedVariables false
set_option linter.unusedSectionVars false
open Go.ChangeShapes Go.WideShapes Go.ChangeAt Go.RowKit
namespace wordRings

theorem cell_of {v c : Value} (h : v.cells.toList = [c]) (hn : ∀ cs, v ≠ .agg cs) : v = c := by
  cases v <;> simp_all [Value.cells]

theorem own : ownKnob Try.prog.godebug = none := by kernel_rfl
theorem laidOut : laidOutB Try.prog = true := by kernel_rfl
theorem readable0 : Try.prog.readableRec 26 = true := by kernel_rfl
theorem typed0 : 26 < Try.prog.types.size := by decide +kernel
theorem readable1 : Try.prog.readableRec 5 = true := by kernel_rfl
theorem typed1 : 5 < Try.prog.types.size := by decide +kernel
theorem readable2 : Try.prog.readableRec 43 = true := by kernel_rfl
theorem typed2 : 43 < Try.prog.types.size := by decide +kernel
theorem cells2 : Try.prog.cellsOf 43 = 3 := by kernel_rfl
theorem cells1 : Try.prog.cellsOf 42 = 1 := by kernel_rfl

set_option maxRecDepth 100000 in
theorem lifted (os : Os) (started : os.Started) (H : Type) (enc : TypeId × Value → H) :
    ReturnsInHanded {} Try.checked os 4 .any (Rows.wordRingsSpec.pre6 enc Try.prog Try.f4 Rows.wordRingsRow.domain false) (Rows.wordRingsSpec.post enc Try.prog Try.f4 false true false false) := by
  refine returnsInHanded_of_change (C := Try.checked) own started (by kernel_rfl) Try.func4
    (ChangeSpec.witness6 (enc := enc) (C := Try.checked) false ⟨#[], #[.int .u64 0, .int .u8 0, .agg #[.int .u16 0, .int .u16 0, .int .u16 0]], []⟩ 8 (by kernel_rfl) (by kernel_rfl) (by kernel_rfl) (by kernel_rfl)) ?_
  intro W base args ds gs before hval0 hW hcnd _
  have hval : ∀ (j : Nat) t v, Try.f4.params[j]? = some t → args[j]? = some v → Value.okWide Try.prog W .any base t v := hval0
  have hW' := hW
  obtain ⟨p, q, hA0, hV, rfl, hfz, hnd⟩ := hW
  have hA : DataW.TrodAll enc Try.prog W 0 (fun _ => true) true Try.f4.params.toList args.toList ds p := hA0
  rw [Try.params4] at hA hval
  obtain ⟨v0, vs, d0, ds', p0, q', hv, rfl, rfl, htr0, hrest⟩ := trodAll_cons hA
  obtain ⟨v1, vs, d1, ds', p1, q', rfl, rfl, rfl, htr1, hrest⟩ := trodAll_cons hrest
  obtain ⟨v2, vs, d2, ds', p2, q', rfl, rfl, rfl, htr2, hrest⟩ := trodAll_cons hrest
  obtain ⟨rfl, rfl, rfl⟩ := trodAll_nil hrest
  obtain ⟨rfl, rfl⟩ := trodVars_none hV
  have hargs : args = #[v0, v1, v2] := by
    cases args
    simp at hv
    rw [hv]
  subst hargs
  have hok0 := hval 0 _ v0 rfl rfl
  have hok1 := hval 1 _ v1 rfl rfl
  have hok2 := hval 2 _ v2 rfl rfl
  clear hA0 hval0
  obtain ⟨m0, hm0⟩ := id htr0
  obtain ⟨m1, hm1⟩ := id htr1
  obtain ⟨m2, hm2⟩ := id htr2
  obtain ⟨n0, e0, -, hw0⟩ := DataW.trod_int Try.underlying26 hm0
  obtain ⟨n1, e1, -, hw1⟩ := DataW.trod_int Try.underlying5 hm1
  obtain ⟨xs, n, -, -, hl, hxl, hf⟩ := DataW.trod_array Try.underlying43 hm2
  rw [cells2] at hl
  rw [cells1] at hf
  change Value.okWide _ _ _ _ 26 v0 at hok0
  change Value.okWide _ _ _ _ 5 v1 at hok1
  change Value.okWide _ _ _ _ 43 v2 at hok2
  have g0 := cell_of e0 (fun cs h => by subst h; simp [Value.okWide, Try.underlying26, Cell.okWide, Cell.ok] at hok0)
  have g1 := cell_of e1 (fun cs h => by subst h; simp [Value.okWide, Try.underlying5, Cell.okWide, Cell.ok] at hok1)
  simp only [Value.okWide, Try.underlying43] at hok2
  obtain ⟨cs, rfl, -⟩ := hok2
  subst g0 g1
  have b0 := bounds_u64 hw0
  have b1 := bounds_u8 hw1
  obtain ⟨p, rfl⟩ : ∃ m : Nat, n0 = (m : Int) := ⟨n0.toNat, by omega⟩
  obtain ⟨k, rfl⟩ : ∃ m : Nat, n1 = (m : Int) := ⟨n1.toNat, by omega⟩
  obtain ⟨l, hcl⟩ : ∃ l, cs.toList = l := ⟨_, rfl⟩
  have hcs : (Value.agg cs).cells.toList = l := hcl
  rw [hcs] at hl hf
  obtain ⟨c0, r0, rfl, hl1⟩ := Go.Gv.W.list_cons hl
  obtain ⟨c1, r1, rfl, hl2⟩ := Go.Gv.W.list_cons hl1
  obtain ⟨c2, r2, rfl, hl3⟩ := Go.Gv.W.list_cons hl2
  have hnil : r2 = [] := List.eq_nil_of_length_eq_zero hl3
  subst hnil
  have f0 := hf 0 (by omega)
  have f1 := hf 1 (by omega)
  have f2 := hf 2 (by omega)
  rw [List.getElem?_eq_getElem (by omega)] at f0 f1 f2
  obtain ⟨x0, t0, -, y0⟩ := DataW.trod_int Try.underlying42 f0
  obtain ⟨x1, t1, -, y1⟩ := DataW.trod_int Try.underlying42 f1
  obtain ⟨x2, t2, -, y2⟩ := DataW.trod_int Try.underlying42 f2
  cases t0
  cases t1
  cases t2
  have z0 := bounds_u16 y0
  have z1 := bounds_u16 y1
  have z2 := bounds_u16 y2
  obtain ⟨q0, rfl⟩ : ∃ m : Nat, x0 = (m : Int) := ⟨x0.toNat, by omega⟩
  obtain ⟨q1, rfl⟩ : ∃ m : Nat, x1 = (m : Int) := ⟨x1.toNat, by omega⟩
  obtain ⟨q2, rfl⟩ : ∃ m : Nat, x2 = (m : Int) := ⟨x2.toNat, by omega⟩
  have hcs2 : cs = #[.int .u16 q0, .int .u16 q1, .int .u16 q2] := by
    rw [← Array.toArray_toList (xs := cs), hcl]
  subst hcs2
  have hlt : ∀ x ∈ p0 ++ (p1 ++ (p2 ++ [])) ++ [], x.block < W.heap.size := fun x hx => hW'.lt x hx
  refine (Go.Gv.W.returns_of (args := [.int .u64 p, .int .u8 k, .agg #[.int .u16 q0, .int .u16 q1, .int .u16 q2]]) (Go.Gv.W.c_WordRings (by omega) (by omega) (by omega) (by omega))).mono fun e W' ⟨he, hg⟩ => ?_
  subst he
  exact ⟨_, rfl, Go.Gv.W.post_below (before := p0 ++ (p1 ++ (p2 ++ [])) ++ []) (pa := p0 ++ (p1 ++ (p2 ++ []))) (pv := []) hW' (fun _ _ _ => (trodAll_cons_mk (shut_bool Try.underlying4 _) trodAll_mk0))
    (fun sp hsp => trodAll_cons_mk (Go.WideElems.Trod_stays laidOut readable0 typed0 htr0 (fun x hx => hg.same (hlt x (by simp [hx]))) (fun x hx => hsp x (by simp [hx])))
      (trodAll_cons_mk (Go.WideElems.Trod_stays laidOut readable1 typed1 htr1 (fun x hx => hg.same (hlt x (by simp [hx]))) (fun x hx => hsp x (by simp [hx])))
        (trodAll_cons_mk (Go.WideElems.Trod_stays laidOut readable2 typed2 htr2 (fun x hx => hg.same (hlt x (by simp [hx]))) (fun x hx => hsp x (by simp [hx]))) trodAll_mk0))) (fun _ _ => rfl) rfl
    hg (ok_one (by kernel_rfl) rfl (okWide_bool_mk Try.underlying4 _))⟩

theorem over : Rows.wordRingsRow.holds Try.pinned (OpenSpec.ofChange Rows.wordRingsSpec) :=
  OpenClaim.holds_of_wide 4 Try.f4 rfl rfl rfl rfl rfl rfl rfl ⟨rfl, rfl, rfl, rfl, rfl⟩ rfl rfl rfl rfl rfl (by kernel_rfl) Try.func4 (by kernel_rfl)
    (of_decide_eq_true (by kernel_rfl)) (by unfold Func.isWrapper; first | (rw [if_pos (by decide +kernel)]; kernel_rfl) | (rw [if_neg (by decide +kernel)]; exact ⟨rfl, rfl⟩))
    (fun os started H enc _ => lifted os started H enc)
end wordRings

theorem wordRings_holds : Rows.WordRingsSaid := wordRings.over
end Go.Proofs.Ytokidokmcbkodaa
