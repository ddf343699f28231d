/-
  A board that nobody made refuses every call, and the chapter's examples are true: the law WordNobody returns true for every act. No condition.
-/
import Derived.Test.YtokidokmcbkodaaGvW31
import Derived.Test.YtokidokmcbkodaaGvWAct
namespace Go.Proofs.Ytokidokmcbkodaa
set_option linter.unusedSimpArgs false
set_option linter.unusedVariables false
set_option linter.unusedSectionVars false
open Go.ChangeShapes Go.WideShapes Go.ChangeAt Go.RowKit
namespace wordNobody

theorem own : ownKnob Try.prog.godebug = none := by kernel_rfl
theorem laidOut : laidOutB Try.prog = true := by kernel_rfl
theorem readable : Try.prog.readableRec 58 = true := by kernel_rfl
theorem typed : 58 < Try.prog.types.size := by decide +kernel

set_option maxRecDepth 100000 in
theorem lifted (os : Os) (started : os.Started) (H : Type) (enc : TypeId × Value → H) :
    ReturnsInHanded {} Try.checked os 5 .any (Rows.wordNobodySpec.pre6 enc Try.prog Try.f5 Rows.wordNobodyRow.domain false) (Rows.wordNobodySpec.post enc Try.prog Try.f5 false true false false) := by
  refine returnsInHanded_of_change (C := Try.checked) own started (by kernel_rfl) Try.func5
    (ChangeSpec.witness6 (enc := enc) (C := Try.checked) false ⟨#[], #[.agg #[.int .i64 0, .int .i64 0, .int .i64 0, .int .i64 0, .int .u64 0, .slice none 0 0, .slice none 0 0, .int .i64 0, .bool false, .int .i64 0, .int .i64 0, .int .i64 0, .int .u64 0, .slice none 0 0, .slice none 0 0]], []⟩ 8 (by kernel_rfl) (by kernel_rfl) (by kernel_rfl) (by kernel_rfl)) ?_
  intro W base args ds gs before hval0 hW hcnd _
  have hval : ∀ (j : Nat) t v, Try.f5.params[j]? = some t → args[j]? = some v → Value.okWide Try.prog W .any base t v := hval0
  have hW' := hW
  obtain ⟨p, q, hA0, hV, rfl, hfz, hnd⟩ := hW
  have hA : DataW.TrodAll enc Try.prog W 0 (fun _ => true) true Try.f5.params.toList args.toList ds p := hA0
  rw [Try.params5] at hA hval
  obtain ⟨v, vs, d, ds', p', q', hv, rfl, rfl, htr, hrest⟩ := trodAll_cons hA
  obtain ⟨rfl, rfl, rfl⟩ := trodAll_nil hrest
  obtain ⟨rfl, rfl⟩ := trodVars_none hV
  have hargs : args = #[v] := by
    cases args
    simp at hv
    rw [hv]
  subst hargs
  have hok := hval 0 _ v rfl rfl
  simp only [Value.okWide, Try.underlying58] at hok
  obtain ⟨cs, rfl, -⟩ := hok
  clear hA0 hval0
  simp only [List.append_nil] at hW'
  have htr2 := htr
  obtain ⟨fuel, hfuel⟩ := htr2
  obtain ⟨y, hy, -, -⟩ := Go.Gv.W.act_open hfuel
  replace hy : Go.Gv.W.ActV (Go.Gv.W.here W) (.agg cs) y := by simpa [Value.cells] using hy
  refine (Go.Gv.W.returns_of (args := [.agg cs]) (Go.Gv.W.c_WordNobody hy)).mono fun e W' ⟨he, hg⟩ => ?_
  subst he
  have hlt : ∀ x ∈ p', x.block < W.heap.size := fun x hx => hW'.lt x hx
  exact ⟨_, rfl, Go.Gv.W.post_below (before := p') (pa := p' ++ []) (pv := []) hW' (fun _ _ _ => (trodAll_cons_mk (shut_bool Try.underlying4 _) trodAll_mk0))
    (fun sp hsp => trodAll_cons_mk (Go.WideElems.Trod_stays laidOut readable typed htr (fun x hx => hg.same (hlt x hx)) (fun x hx => hsp x hx)) trodAll_mk0) (fun _ _ => rfl) (by simp)
    hg (ok_one (by kernel_rfl) rfl (okWide_bool_mk Try.underlying4 _))⟩

theorem over : Rows.wordNobodyRow.holds Try.pinned (OpenSpec.ofChange Rows.wordNobodySpec) :=
  OpenClaim.holds_of_wide 5 Try.f5 rfl rfl rfl rfl rfl rfl rfl ⟨rfl, rfl, rfl, rfl, rfl⟩ rfl rfl rfl rfl rfl (by kernel_rfl) Try.func5 (by kernel_rfl)
    (of_decide_eq_true (by kernel_rfl)) (by unfold Func.isWrapper; first | (rw [if_pos (by decide +kernel)]; kernel_rfl) | (rw [if_neg (by decide +kernel)]; exact ⟨rfl, rfl⟩))
    (fun os started H enc _ => lifted os started H enc)
end wordNobody

theorem wordNobody_holds : Rows.WordNobodySaid := wordNobody.over
end Go.Proofs.Ytokidokmcbkodaa
