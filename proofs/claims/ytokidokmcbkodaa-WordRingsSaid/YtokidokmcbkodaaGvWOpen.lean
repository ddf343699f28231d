/-
  Arguments that are read as data lie in memory as the contracts ask. No condition.
-/
import Derived.Test.YtokidokmcbkodaaGvAll
import Derived.Test.YtokidokmcbkodaaRows
import Derived.WalkKit
import Derived.ProofKit
import Derived.OpenShut
import Derived.Carry
namespace Go.Gv.W
set_option linter.unusedSimpArgs false
set_option linter.unusedVariables false
set_option linter.unusedSectionVars false
open Go.RowKit Go.Proofs Go.ChangeShapes Go.WideShapes Go.ChangeAt

/-- All cells of a world. -/
def here (w : World) : GH := fun b o => w.cell? ⟨b, o, none⟩

theorem list_cons {α : Type} {n : Nat} : ∀ {l : List α}, l.length = n + 1 → ∃ a r, l = a :: r ∧ r.length = n
  | a :: r, h => ⟨a, r, rfl, by simpa using h⟩
  | [], h => by simp at h

section
variable {H : Type} {enc : TypeId × Value → H} {P : Program} {w : World} {base : Nat} {sp : Nat → Bool} {held : Bool} {t : TypeId} {cs : List Value} {fuel : Nat} {x : DataW H × List MemPlace}
theorem cells_some {a : Addr} {n : Nat} {cs : List Value} (h : w.cells? base a n = some cs) : cs.length = n ∧ ∀ i, i < n → w.cell? (a.add i) = cs[i]? := by
  unfold World.cells? at h
  split at h
  · exact ⟨by simpa using mapM_some_length h, fun i hi => mapM_some_get h i i (by simp [hi])⟩
  · cases h
theorem slice_open {e : TypeId} {n : Nat} (ht : P.underlying t = some (.slice e)) (hc : P.cellsOf e = n) (hn : 0 < n) (h : DataW.trod enc P w base sp held fuel t cs = some x) :
    ∃ (a : Option Addr) (c : Nat) (css : List (List Value)), cs = [.slice a css.length c] ∧ css.length ≤ c ∧ c ≤ maxLen ∧ Row (here w) n a css ∧ ∀ c ∈ css, ∃ m y, DataW.trod enc P w base sp held m e c = some y := by
  rcases DataW.trod_slice ht h with ⟨rfl, -⟩ | ⟨a, len, cap, elems, rest, m, -, rfl, -, hb, hlc, hcm, hel, hat, -⟩
  · exact ⟨none, 0, [], rfl, Nat.le_refl _, Nat.zero_le _, ⟨by simp, rfl⟩, by simp⟩
  rw [hc] at hat
  have hs : ∀ i, i < len → ∃ ci, w.cells? base (a.add (i * n)) n = some ci ∧ ∃ y, DataW.trod enc P w base sp held m e ci = some y := by
    intro i hi
    have h1 := hat i hi
    rw [List.getElem?_eq_getElem (by omega)] at h1
    obtain ⟨ci, h2, h3⟩ := Option.bind_eq_some_iff.1 h1
    exact ⟨ci, h2, _, h3⟩
  let css := (List.range len).map fun i => (w.cells? base (a.add (i * n)) n).getD []
  have hcl : css.length = len := by simp [css]
  have hget : ∀ i (hi : i < len), ∃ ci, css[i]? = some ci ∧ w.cells? base (a.add (i * n)) n = some ci ∧ ∃ y, DataW.trod enc P w base sp held m e ci = some y := by
    intro i hi
    obtain ⟨ci, h1, h2⟩ := hs i hi
    refine ⟨ci, ?_, h1, h2⟩
    simp [css, hi, h1]
  have hmem : ∀ c ∈ css, ∃ i, i < len ∧ css[i]? = some c := by
    intro c hcm
    obtain ⟨i, hi, e⟩ := List.mem_iff_getElem.1 hcm
    exact ⟨i, by omega, by rw [List.getElem?_eq_getElem hi, e]⟩
  have hlen : ∀ c ∈ css, c.length = n := by
    intro c hcm
    obtain ⟨i, hi, e⟩ := hmem c hcm
    obtain ⟨ci, h1, h2, _⟩ := hget i hi
    rw [h1] at e
    cases e
    exact (cells_some h2).1
  refine ⟨some a, cap, css, by rw [hcl], by omega, hcm, ⟨hlen, ?_⟩, ?_⟩
  · obtain ⟨b, o, spot⟩ := a
    by_cases h0 : len = 0
    · have : css = [] := List.eq_nil_of_length_eq_zero (by omega)
      rw [this]
      cases spot with
      | none => intro i v hv; simp at hv
      | some s => rfl
    have hspot : spot = none := by
      obtain ⟨ci, h1, h2, _⟩ := hget 0 (by omega)
      have h3 := (cells_some h2).2 0 hn
      have h4 := (cells_some h2).1
      rw [List.getElem?_eq_getElem (by omega)] at h3
      cases spot with
      | none => rfl
      | some s =>
        unfold World.cell? at h3
        split at h3
        · simp [Addr.add] at h3
        · cases h3
    subst hspot
    intro i v hv
    have hfl : css.flatten.length = len * n := by rw [flatten_length hlen, hcl]
    have hi : i < len * n := by rw [← hfl]; exact (List.getElem?_eq_some_iff.1 hv).1
    have hj : i / n < len := Nat.div_lt_of_lt_mul (by rwa [Nat.mul_comm] at hi)
    obtain ⟨ci, h1, h2, _⟩ := hget (i / n) hj
    have hr : i % n < n := Nat.mod_lt _ hn
    have h3 := (cells_some h2).2 _ hr
    have h4 := (cells_some h2).1
    rw [List.getElem?_eq_getElem (by omega)] at h3
    have h5 := flatten_get hlen h1 (List.getElem?_eq_getElem (show i % n < ci.length by omega))
    have hdm : i / n * n + i % n = i := by rw [Nat.mul_comm]; exact Nat.div_add_mod i n
    rw [hdm, hv] at h5
    cases h5
    rw [← h3]
    show w.cell? ⟨b, o + i, none⟩ = _
    congr 1
    rw [addr_add, addr_add, Nat.add_assoc, hdm]
  · intro c hcm
    obtain ⟨i, hi, e⟩ := hmem c hcm
    obtain ⟨ci, h1, h2, y, h3⟩ := hget i hi
    rw [h1] at e
    cases e
    exact ⟨m, y, h3⟩
theorem ints_open {e : TypeId} {k : IntKind} (ht : P.underlying t = some (.slice e)) (he : P.underlying e = some (.int k)) (hc : P.cellsOf e = 1) (h : DataW.trod enc P w base sp held fuel t cs = some x) :
    ∃ (v : Value) (l : List Int), cs = [v] ∧ SlI (here w) k v l ∧ ∀ y ∈ l, (Lit.int k y).wf = true := by
  obtain ⟨a, c, css, rfl, h1, h2, h3, h4⟩ := slice_open ht hc (by omega) h
  have h5 : ∀ c ∈ css, ∃ n, c = [.int k n] ∧ (Lit.int k n).wf = true := by
    intro c hcs
    obtain ⟨m, y, h6⟩ := h4 c hcs
    obtain ⟨n, e1, -, e2⟩ := DataW.trod_int he h6
    exact ⟨n, e1, e2⟩
  let f : List Value → Int := fun c => match c with
    | [.int _ n] => n
    | _ => 0
  have hf : css = encI k (css.map f) := by
    rw [encI, List.map_map]
    conv => lhs; rw [← List.map_id css]
    refine List.map_congr_left fun c hcs => ?_
    obtain ⟨n, rfl, -⟩ := h5 c hcs
    rfl
  refine ⟨_, css.map f, rfl, ⟨a, c, by rw [List.length_map], by rw [List.length_map]; exact h1, h2, by rw [← hf]; exact h3⟩, ?_⟩
  intro y hy
  obtain ⟨c, hcs, rfl⟩ := List.mem_map.1 hy
  obtain ⟨n, rfl, hw⟩ := h5 c hcs
  exact hw
end
end Go.Gv.W
