/-
  From a contract to a row: a call whose contract asks nothing of memory returns, and what was there is as it was. No condition.
-/
import Derived.Test.YtokidokmcbkodaaGvW28
import Derived.Test.YtokidokmcbkodaaGvWOpen
namespace Go.Gv.W
set_option linter.unusedSimpArgs false
set_option linter.unusedVariables false
set_option linter.unusedSectionVars false
open Go.RowKit Go.Proofs Go.ChangeShapes Go.WideShapes Go.ChangeAt

theorem view_here (w : World) : View w (here w) [(0, [])] w :=
  ⟨Below.refl _ _, fun _ _ _ h => h, fun x hx => by simp [Mem.all] at hx, by simp [Mem.all]⟩
theorem returns_of {P : Program} {f : FuncId} {args : List Value} {v : Value} {w : World} (h : ACalls P f args (here w) [] fun o _ Es' => o = .ret v ∧ Es' = []) :
    Calls P f args.toArray w fun e w' => e = .returned v ∧ Below w.heap.size w w' := by
  refine (h.2 w w [] (by simpa using view_here w)).mono ?_
  rintro e w' ⟨o, G', Es', hg, hv, ⟨rfl, rfl⟩, he⟩
  cases e with
  | returned u => cases he; exact ⟨rfl, hv.below⟩
  | panicked ch => obtain ⟨u, hu, _⟩ := he; cases hu
  | outgrown => exact he.elim

theorem post_below {H : Type} {enc : TypeId × Value → H} {P : Program} {f : Func} {s : ChangeSpec} {apart fresh handsOn again : Bool} {W W' : World} {args : Array Value} {v : Value} {ds gs : List (DataW H)} {before pa pv : List MemPlace}
    (hW : DataW.Whole enc P f.params.toList s.vars apart W args.toList ds gs before)
    (hres : ∀ (b : Nat) (sp : Nat → Bool) (hd : Bool), DataW.TrodAll enc P W' b sp hd f.resultTypes.toList (v.resultList f.resultTypes.size) (s.fn H (ds ++ gs)).results [])
    (hargs : ∀ sp : Nat → Bool, (∀ p ∈ before, sp p.block = true) → DataW.TrodAll enc P W' 0 sp true f.params.toList args.toList (s.fn H (ds ++ gs)).args pa)
    (hvars : ∀ sp : Nat → Bool, (∀ p ∈ before, sp p.block = true) → DataW.TrodVars enc P W' sp s.vars (s.fn H (ds ++ gs)).vars pv)
    (hps : before = pa ++ pv) (hb : Below W.heap.size W W')
    (hok : ∀ (j : Nat) (t : TypeId) (r : Value), f.resultTypes[j]? = some t → (v.resultList f.resultTypes.size)[j]? = some r → Value.okWide P W' .any 0 t r) :
    s.post enc P f apart fresh handsOn again W args v W' := by
  have hlt : ∀ p ∈ before, p.block < W.heap.size := fun p hp => hW.lt p hp
  have hold : ∀ p ∈ before, (fun b => decide (b < W.heap.size)) p.block = true := fun p hp => by simpa using hlt p hp
  subst hps
  refine ⟨ds, gs, _, [], pa, pv, hW, hres _ _ _, hargs _ hold, hvars _ hold, World.keptBut_mono (fun p hp => ⟨hp, .inr (List.mem_append.1 hp)⟩) (hb.frame _), fun _ => ?_⟩
  obtain ⟨_, _, _, _, _, hz, hn⟩ := hW
  refine ⟨hok, _, _, [] ++ pa ++ pv, ⟨[] ++ pa, pv, trodAll_append (hargs _ fun _ _ => rfl) (hres _ _ _), hvars _ fun _ _ => rfl, rfl, fun b off hp => ?_, fun ha => ?_⟩, fun p hp _ => ?_⟩
  · have hp2 : MemPlace.cell b off ∈ pa ++ pv := by simpa using hp
    rw [hb.frozen (p := ⟨b, off, none⟩) (hlt _ hp2)]
    exact hz b off hp2
  · simpa using hn ha
  · simpa using hp
end Go.Gv.W
