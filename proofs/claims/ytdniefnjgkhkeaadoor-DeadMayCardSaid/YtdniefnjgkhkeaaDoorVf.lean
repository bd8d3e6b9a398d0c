/-
  What package verify's functions compute, in plain Lean; two rules for errors.
  Conditions: none.
-/
import Derived.Test.YtdniefnjgkhkeaaDoorAs
namespace Go.Proofs.YtdniefnjgkhkeaaDoor
set_option linter.unusedVariables false
set_option linter.unusedSimpArgs false
open Go
theorem Own.thawB {w : World} {M : Mem} {bs : List (Nat × Obj)} (h : Own w M bs) (k : Nat) {b i : Nat} {c : Array Value} {T : TypeId} (e : bs[k]? = some (b, .cells c T)) : w.frozen? ⟨b, i, none⟩ = false := by
  simp [World.frozen?, h.get k e]
section
variable {P : Program} {ops : Array Oper} {S : World → Prop} {n : Nat} {E : Env} {d : Option Nat} {ty : TypeId} {ps : String} {af : Array Edge} {g : Option (Nat × Bool)}
theorem y_errnil {x : Operand} {t u : TypeId} {v : Value} {M : Mem} {l : Option (Int × Int)} (h : RdE M v l) (ht : isIface P t = true) (hg : Met ops E g) (e : ev E x = some v) :
    Y P ops S n E ⟨d, .binOp .eql t x (.const .nilIface) u, ty, ps, af, g⟩ (.bool l.isNone) := by
  rcases h with ⟨rfl, rfl⟩ | ⟨pc, c, a, rfl, rfl, _⟩
  · exact y_inil ht hg e
  · exact y_isome ht hg e
end
/-- What verify.told answers of an error: its pc and its number. -/
def toldT : Option (Int × Int) → Int × Int
  | none => (0, 0)
  | some x => x
end Go.Proofs.YtdniefnjgkhkeaaDoor
