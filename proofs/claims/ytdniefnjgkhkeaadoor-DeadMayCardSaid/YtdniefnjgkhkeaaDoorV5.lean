/-
  What package dead's functions compute, in plain Lean; copies.
  Conditions: none.
-/
import Derived.Test.YtdniefnjgkhkeaaDoorV4
import Derived.Laws.Rows
namespace Go.Proofs.YtdniefnjgkhkeaaDoor
set_option linter.unusedVariables false
set_option linter.unusedSimpArgs false
open Go
theorem ends_retC {P : Program} {fn : Func} {R : Ending → World → Prop} {n t ty b T : Nat} {E : Env} {w : World} {M : Mem} {bs : List (Nat × Obj)} {x : Exit} {vs : List Value} (hO : Own w M ((b, .cells vs.toArray T) :: bs)) (ha : aggN P ty = some vs.length) (hx : x = .ret ∨ x = .normal) (hr : fn.results = #[.cell t ty])
    (e : look E t = some (.pointer (some ⟨b, 0, none⟩))) (h : R (.returned (.agg vs.toArray)) w) : Ends (bodyPost P fn R) x n E w := fun a f => by
  have h1 := f.l _ _ e
  have hg := hO.get 0 rfl
  have hq : (results fn a.tmps).run P w = .ok (.agg vs.toArray) w := by
    unfold aggN at ha
    cases hu : P.underlying ty with
    | none => simp [hu] at ha
    | some d =>
      rw [hu] at ha
      cases d <;> simp at ha <;> exact results_cell_row hr _ w b T vs.toArray _ _ (by simp [h1]) hg hu rfl (by simpa using ha)
  have : bodyPost P fn R .ret a w := bodyPost_ret (v := .agg vs.toArray) hq f.d h
  rcases hx with rfl | rfl <;> exact this
theorem set_nth_same {α : Type} [Inhabited α] (l : List α) (k : Nat) : l.set k (nth l k) = l := by
  apply List.ext_getElem? ; intro i
  by_cases h : k = i
  · subst h
    by_cases hl : k < l.length
    · rw [List.getElem?_set_self hl, nth_eq hl]
    · rw [List.set_eq_of_length_le (by omega)]
  · rw [List.getElem?_set_ne h]
theorem set_set_same {α : Type} [Inhabited α] (l : List α) (k : Nat) : (l.set k (nth l k)).set k (nth (l.set k (nth l k)) k) = l := by rw [set_nth_same, set_nth_same]
theorem RdS.none_nil {α : Type} [Rep α] {M : Mem} {c : Nat} {l : List α} (h : RdS M none c l) : l = [] := by
  cases l with
  | nil => rfl
  | cons x r => obtain ⟨p, e, _⟩ := h.el 0 x rfl; cases e
end Go.Proofs.YtdniefnjgkhkeaaDoor
