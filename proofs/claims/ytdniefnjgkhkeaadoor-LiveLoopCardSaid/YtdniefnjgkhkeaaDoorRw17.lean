/-
  From a contract to a row: the whole heap as memory; the variable that errors.As reads.
  Conditions: none.
-/
import Derived.Test.YtdniefnjgkhkeaaDoorAs
import Derived.Test.YtdniefnjgkhkeaaDoorRows
import Derived.Test.YtdniefnjgkhkeaaDoorTie
import Derived.ChangeSame
import Derived.ChangeVars
import Derived.JoinedOf
import Derived.RowKit
import Derived.RowKitTokens
import Derived.LaidLaws
import Derived.LaidHandle
import Derived.Stop.Joined
import Derived.Below
import Derived.Carry
import Derived.SevenTiedAt
namespace Go.Proofs.YtdniefnjgkhkeaaDoor
set_option linter.unusedVariables false
set_option linter.unusedSimpArgs false
open Go Go.ChangeShapes Go.WideShapes Go.RowKit
set_option maxRecDepth 100000
/-- All that is there, as memory. -/
def memOf (W : World) : Mem := ⟨fun b => W.heap[b]?, (W.os, W.tape, W.output)⟩
theorem own_mem (W : World) : Own W (memOf W) [] := ⟨fun _ _ h => h, by simp, by simp, by simp, rfl⟩
theorem below_of {W w' : World} {M' : Mem} (le : Mem.le (memOf W) M') (hO : Own w' M' []) : Below W.heap.size W w' := by
  have hu : (w'.os, w'.tape, w'.output) = (W.os, W.tape, W.output) := hO.u.trans le.u.symm
  have hb : ∀ k, k < W.heap.size → w'.heap[k]? = W.heap[k]? := fun k hk => by
    have h1 : (memOf W) k = some W.heap[k] := by show W.heap[k]? = _; simp [hk]
    rw [hO.sub _ _ (le _ _ h1)]; simp [hk]
  refine ⟨congrArg (·.1) hu, congrArg (·.2.1) hu, congrArg (·.2.2) hu, ?_, hb⟩
  rcases Nat.eq_zero_or_pos W.heap.size with h | h
  · omega
  · have h2 := hb (W.heap.size - 1) (by omega)
    have h3 : W.heap[W.heap.size - 1]? = some W.heap[W.heap.size - 1] := Array.getElem?_eq_getElem (by omega)
    rw [h3] at h2
    have := (Array.getElem?_eq_some_iff.1 h2).1; omega
theorem pOwn : ownKnob Tryd.prog.godebug = none := by kernel_rfl
theorem pEt : Tryd.prog.globalNamed "errors.errorType" = some 0 := by kernel_rfl
theorem pRt : (Tryd.prog.cutTypes.find? (·.1 == "internal/reflectlite.rtype")).map (·.2) = some 161 := by kernel_rfl
theorem pOne : ((List.range Tryd.prog.types.size).filter fun t => Tryd.prog.rowNamed t [101, 114, 114, 111, 114]) = [103] := by kernel_rfl
/-- What the condition gives a walk: the variable's one cell. -/
theorem handle_of_laid {W : World} (h : laidMetH Tryd.prog [("errors.errorType", Rows.laid_errors_errorType)] W) : W.cell? ⟨0, 0, none⟩ = some (.iface 161 (.agg #[.pointer (some ⟨1, 103, none⟩)])) := by
  have h' : laidMet Tryd.prog [] W ∧ handlesMet Tryd.prog [("errors.errorType", Rows.laid_errors_errorType)] W := h
  obtain ⟨name, u, ty, e1, e2, e3, e4, e5⟩ := h'.2 _ (List.mem_singleton.2 rfl)
  have en : name = [101, 114, 114, 111, 114] := (Option.some.inj e1).symm
  subst en
  obtain rfl := Option.some.inj (pRt.symm.trans e2)
  have hm : ty ∈ (List.range Tryd.prog.types.size).filter fun t => Tryd.prog.rowNamed t [101, 114, 114, 111, 114] := List.mem_filter.2 ⟨List.mem_range.2 e3, e4⟩
  rw [pOne] at hm
  obtain rfl := List.mem_singleton.1 hm
  have hh : typeHandle Tryd.prog 103 = .pointer (some ⟨1, 103, none⟩) := by kernel_rfl
  rw [hh] at e5
  simpa using World.var?_cell pEt e5 0
theorem glob_of {W : World} (h : laidMetH Tryd.prog [("errors.errorType", Rows.laid_errors_errorType)] W) : Glob (memOf W) := by
  have hc := handle_of_laid h
  unfold World.cell? at hc
  cases hb : W.heap[0]? with
  | none => simp [hb] at hc
  | some o =>
    simp only [hb] at hc
    cases o with
    | cells c T f =>
      refine ⟨rfl, c, T, f, hb, fun j v e => ?_⟩
      simp only [Option.isSome_none] at hc
      cases j with
      | zero => cases e; simpa using hc
      | succ j => simp at e
    | _ => cases hc
/-- A world that meets the condition: the settled one, the variable's cell laid. -/
noncomputable def laidWorld (os : Os) : World :=
  let w0 := World.holding Tryd.prog os ⟨#[], #[], []⟩
  { w0 with heap := w0.heap.modify 0 fun
      | .cells _ t frozen => .cells #[.iface 161 (.agg #[.pointer (some ⟨1, 103, none⟩)])] t frozen
      | o => o }
theorem laidWorld_met (os : Os) (args : Array Value) : laidMetH Tryd.prog [("errors.errorType", Rows.laid_errors_errorType)] ((laidWorld os).forCall (fun _ _ => 0) ⟨#[], args, []⟩).memory :=
  laidMetH_of_parts (laidMet_nil _ _) (by kernel_rfl)
end Go.Proofs.YtdniefnjgkhkeaaDoor
