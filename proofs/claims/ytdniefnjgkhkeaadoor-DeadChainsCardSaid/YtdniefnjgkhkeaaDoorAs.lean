/-
  What the model's entries for internal/reflectlite answer at this program's types, as errors.As asks them; how an error of package verify reads.
  Conditions: none.
-/
import Derived.Test.YtdniefnjgkhkeaaDoorSp
import Derived.Test.YtdniefnjgkhkeaaDoorProg
import Derived.Laws.Externs
import Derived.WalkKit
import Derived.LaidEql
import Derived.Stop.Asserts
import Derived.RowKitTokens
namespace Go.Proofs.YtdniefnjgkhkeaaDoor
set_option linter.unusedVariables false
set_option linter.unusedSimpArgs false
open Go Go.RowKit Go.Extern.Stop Go.Stop Go.Extern
set_option maxRecDepth 100000
/-- An error: none, or a *fault that holds a pc and an Errno. -/
def RdE (M : Mem) (v : Value) (e : Option (Int × Int)) : Prop :=
  (e = none ∧ v = .nilIface) ∨ ∃ pc c a, e = some (pc, c) ∧ v = .iface 121 (.pointer (some a)) ∧ At M a [.int .i64 pc, .iface 30 (.int .i64 c)]
theorem RdE.mono {M M' : Mem} {v : Value} {e : Option (Int × Int)} (h : RdE M v e) (le : Mem.le M M') : RdE M' v e := h.imp id fun ⟨pc, c, a, h1, h2, h3⟩ => ⟨pc, c, a, h1, h2, h3.mono le⟩
/-- The variable errors.errorType as start-up lays it. -/
def Glob (M : Mem) : Prop := At M ⟨0, 0, none⟩ [.iface 161 (.agg #[.pointer (some ⟨1, 103, none⟩)])]
theorem Glob.mono {M M' : Mem} (h : Glob M) (le : Mem.le M M') : Glob M' := At.mono h le


/-- errors.As(nil, target). -/
theorem as_nil (t : Value) (w : World) : Calls Tryd.prog 68 #[.nilIface, t] w fun e w' => e = .returned (.bool false) ∧ w' = w := by
  go_enter Tryd.func68, Tryd.ntmps68
  go_wp2
  go_ret
  exact ⟨rfl, rfl⟩
theorem rlm (z : Sem Value) (f : TypeId → Addr → Nat → Nat → Sem Value) (v : Value) :
    ReflectliteValue.method z f #[v] = (do match ← ReflectliteValue.parts v with | none => z | some (t, a, fl) => f t a fl (fl % 32)) := rfl
theorem rls (v x : Value) : ReflectliteValue.set #[v, x] = (do
    let (some (dst, a, fl), some (src, b, _)) := (← ReflectliteValue.parts v, ← ReflectliteValue.parts x)
      | unsupported (.noEntry "extern/(internal/reflectlite.Value).Set.zeroValue")
    if fl / ReflectliteValue.flagAddr % 2 == 0 then unsupported (.noEntry "extern/(internal/reflectlite.Value).Set.unaddressable")
    let val ← loadVar src b
    if ← Rtype.directlyAssignable dst src then storeVar dst a val
    else if ← Rtype.implements dst src then
      if (← Rtype.kind src) == 20 then
        match val with
        | .nilIface => unsupported (.noEntry "extern/reflectlite: a nil value of one interface type handed on as a value of another")
        | _ => storeVar dst a val
      else storeVar dst a (.iface src val)
    else panicString ("reflectlite.Set: value of type " ++ (← Rtype.spelt src) ++ " is not assignable to type " ++ (← Rtype.spelt dst))
    pure (.tuple #[])) := rfl
theorem xu_valueOf_131 (a : Addr) (w : World) : (ReflectliteValue.unpack (.iface 131 (.pointer (some a)))).run Tryd.prog w = .ok (.agg #[.pointer (some ⟨1, 131, none⟩), .pointer (some ⟨w.heap.size, 0, none⟩), .int .u64 150]) (w.alloc (.cells #[.pointer (some a)] 131)) := by kernel_rfl
theorem x_valueOf_131 (a : Addr) (w : World) : (callFunc 77 #[.iface 131 (.pointer (some a))]).run Tryd.prog w = .ok (.value (.agg #[.pointer (some ⟨1, 131, none⟩), .pointer (some ⟨w.heap.size, 0, none⟩), .int .u64 150])) (w.alloc (.cells #[.pointer (some a)] 131)) := by
  rw [run_callFunc_extern (e := fun args => ReflectliteValue.unpack (args.getD 0 (.tuple #[]))) Tryd.func77 (by kernel_rfl) (by kernel_rfl) (by kernel_rfl) (by kernel_rfl)]
  show ((ReflectliteValue.unpack (.iface 131 (.pointer (some a)))).run Tryd.prog w).andThen _ = _
  rw [xu_valueOf_131]; rfl
theorem xu_valueOf_132 (a : Addr) (w : World) : (ReflectliteValue.unpack (.iface 132 (.pointer (some a)))).run Tryd.prog w = .ok (.agg #[.pointer (some ⟨1, 132, none⟩), .pointer (some ⟨w.heap.size, 0, none⟩), .int .u64 150]) (w.alloc (.cells #[.pointer (some a)] 132)) := by kernel_rfl
theorem x_valueOf_132 (a : Addr) (w : World) : (callFunc 77 #[.iface 132 (.pointer (some a))]).run Tryd.prog w = .ok (.value (.agg #[.pointer (some ⟨1, 132, none⟩), .pointer (some ⟨w.heap.size, 0, none⟩), .int .u64 150])) (w.alloc (.cells #[.pointer (some a)] 132)) := by
  rw [run_callFunc_extern (e := fun args => ReflectliteValue.unpack (args.getD 0 (.tuple #[]))) Tryd.func77 (by kernel_rfl) (by kernel_rfl) (by kernel_rfl) (by kernel_rfl)]
  show ((ReflectliteValue.unpack (.iface 132 (.pointer (some a)))).run Tryd.prog w).andThen _ = _
  rw [xu_valueOf_132]; rfl
theorem xu_valueOf_121 (a : Addr) (w : World) : (ReflectliteValue.unpack (.iface 121 (.pointer (some a)))).run Tryd.prog w = .ok (.agg #[.pointer (some ⟨1, 121, none⟩), .pointer (some ⟨w.heap.size, 0, none⟩), .int .u64 150]) (w.alloc (.cells #[.pointer (some a)] 121)) := by kernel_rfl
theorem x_valueOf_121 (a : Addr) (w : World) : (callFunc 77 #[.iface 121 (.pointer (some a))]).run Tryd.prog w = .ok (.value (.agg #[.pointer (some ⟨1, 121, none⟩), .pointer (some ⟨w.heap.size, 0, none⟩), .int .u64 150])) (w.alloc (.cells #[.pointer (some a)] 121)) := by
  rw [run_callFunc_extern (e := fun args => ReflectliteValue.unpack (args.getD 0 (.tuple #[]))) Tryd.func77 (by kernel_rfl) (by kernel_rfl) (by kernel_rfl) (by kernel_rfl)]
  show ((ReflectliteValue.unpack (.iface 121 (.pointer (some a)))).run Tryd.prog w).andThen _ = _
  rw [xu_valueOf_121]; rfl
theorem xu_valueOf_30 (c : Int) (w : World) : (ReflectliteValue.unpack (.iface 30 (.int .i64 c))).run Tryd.prog w = .ok (.agg #[.pointer (some ⟨1, 30, none⟩), .pointer (some ⟨w.heap.size, 0, none⟩), .int .u64 130]) (w.alloc (.cells #[.int .i64 c] 30)) := by kernel_rfl
theorem x_valueOf_30 (c : Int) (w : World) : (callFunc 77 #[.iface 30 (.int .i64 c)]).run Tryd.prog w = .ok (.value (.agg #[.pointer (some ⟨1, 30, none⟩), .pointer (some ⟨w.heap.size, 0, none⟩), .int .u64 130])) (w.alloc (.cells #[.int .i64 c] 30)) := by
  rw [run_callFunc_extern (e := fun args => ReflectliteValue.unpack (args.getD 0 (.tuple #[]))) Tryd.func77 (by kernel_rfl) (by kernel_rfl) (by kernel_rfl) (by kernel_rfl)]
  show ((ReflectliteValue.unpack (.iface 30 (.int .i64 c))).run Tryd.prog w).andThen _ = _
  rw [xu_valueOf_30]; rfl
theorem xu_type_131 (a : Addr) (w : World) : (ReflectliteValue.methodAny (ReflectliteValue.valueError "reflectlite.Value.Type" 0) (fun t _ _ _ => ReflectliteType.toType t) #[.agg #[.pointer (some ⟨1, 131, none⟩), .pointer (some a), .int .u64 150]]).run Tryd.prog w = .ok (.iface 161 (.agg #[.pointer (some ⟨1, 131, none⟩)])) w := by kernel_rfl
theorem x_type_131 (a : Addr) (w : World) : (callFunc 78 #[.agg #[.pointer (some ⟨1, 131, none⟩), .pointer (some a), .int .u64 150]]).run Tryd.prog w = .ok (.value (.iface 161 (.agg #[.pointer (some ⟨1, 131, none⟩)]))) w := by
  rw [run_callFunc_extern (e := ReflectliteValue.methodAny (ReflectliteValue.valueError "reflectlite.Value.Type" 0) (fun t _ _ _ => ReflectliteType.toType t)) Tryd.func78 (by kernel_rfl) (by kernel_rfl) (by kernel_rfl) (by kernel_rfl), xu_type_131]; rfl
theorem x_parts_131 (a : Addr) (w : World) : (ReflectliteValue.parts (.agg #[.pointer (some ⟨1, 131, none⟩), .pointer (some a), .int .u64 150])).run Tryd.prog w = .ok (some (131, a, 150)) w := by kernel_rfl
theorem x_isNil_131 (a p : Addr) (W : World) (ha : W.cell? a = some (.pointer (some p))) : (callFunc 79 #[.agg #[.pointer (some ⟨1, 131, none⟩), .pointer (some a), .int .u64 150]]).run Tryd.prog W = .ok (.value (.bool false)) W := by
  have h : (ReflectliteValue.method (ReflectliteValue.valueError "reflectlite.Value.IsNil" 0) ReflectliteValue.isNil #[.agg #[.pointer (some ⟨1, 131, none⟩), .pointer (some a), .int .u64 150]]).run Tryd.prog W = .ok (.bool false) W := by
    rw [rlm]
    simp only [Sem.run_bind, x_parts_131, Result.andThen]
    simp [ReflectliteValue.isNil, loadVar, isAgg, underlying, Tryd.underlying131, ha, Result.andThen]
  rw [run_callFunc_extern (e := ReflectliteValue.method (ReflectliteValue.valueError "reflectlite.Value.IsNil" 0) ReflectliteValue.isNil) Tryd.func79 (by kernel_rfl) (by kernel_rfl) (by kernel_rfl) (by kernel_rfl), h]; rfl
theorem x_elemOf_131 (w : World) : (Rtype.elem? 131).run Tryd.prog w = .ok (some 121) w := by kernel_rfl
theorem x_mk_121 (p : Addr) (w : World) : (ReflectliteValue.mk 121 p ReflectliteValue.flagAddr).run Tryd.prog w = .ok (.agg #[.pointer (some ⟨1, 121, none⟩), .pointer (some p), .int .u64 406]) w := by kernel_rfl
theorem x_elemV_131 (a p : Addr) (W : World) (ha : W.cell? a = some (.pointer (some p))) : (callFunc 85 #[.agg #[.pointer (some ⟨1, 131, none⟩), .pointer (some a), .int .u64 150]]).run Tryd.prog W = .ok (.value (.agg #[.pointer (some ⟨1, 121, none⟩), .pointer (some p), .int .u64 406])) W := by
  have h : (ReflectliteValue.method (ReflectliteValue.valueError "reflectlite.Value.Elem" 0) ReflectliteValue.elem #[.agg #[.pointer (some ⟨1, 131, none⟩), .pointer (some a), .int .u64 150]]).run Tryd.prog W = .ok (.agg #[.pointer (some ⟨1, 121, none⟩), .pointer (some p), .int .u64 406]) W := by
    rw [rlm]
    simp only [Sem.run_bind, x_parts_131, Result.andThen]
    simp [ReflectliteValue.elem, loadVar, isAgg, underlying, Tryd.underlying131, ha, Result.andThen, x_elemOf_131, x_mk_121]
  rw [run_callFunc_extern (e := ReflectliteValue.method (ReflectliteValue.valueError "reflectlite.Value.Elem" 0) ReflectliteValue.elem) Tryd.func85 (by kernel_rfl) (by kernel_rfl) (by kernel_rfl) (by kernel_rfl), h]; rfl
theorem x_kind_131 (w : World) : (callMethod (.iface 161 (.agg #[.pointer (some ⟨1, 131, none⟩)])) "Kind" #[]).run Tryd.prog w = .ok (.value (.int .u8 22)) w := by kernel_rfl
theorem x_kind_121 (w : World) : (callMethod (.iface 161 (.agg #[.pointer (some ⟨1, 121, none⟩)])) "Kind" #[]).run Tryd.prog w = .ok (.value (.int .u8 22)) w := by kernel_rfl
theorem x_elem_131 (w : World) : (callMethod (.iface 161 (.agg #[.pointer (some ⟨1, 131, none⟩)])) "Elem" #[]).run Tryd.prog w = .ok (.value (.iface 161 (.agg #[.pointer (some ⟨1, 121, none⟩)]))) w := by kernel_rfl
theorem x_impl_121 (w : World) : (callMethod (.iface 161 (.agg #[.pointer (some ⟨1, 121, none⟩)])) "Implements" #[.iface 161 (.agg #[.pointer (some ⟨1, 103, none⟩)])]).run Tryd.prog w = .ok (.value (.bool true)) w := by kernel_rfl
theorem xu_typeOf_121 (v : Value) (w : World) : (ReflectliteType.typeOf #[.iface 121 v]).run Tryd.prog w = .ok (.iface 161 (.agg #[.pointer (some ⟨1, 121, none⟩)])) w := by kernel_rfl
theorem x_typeOf_121 (v : Value) (w : World) : (callFunc 84 #[.iface 121 v]).run Tryd.prog w = .ok (.value (.iface 161 (.agg #[.pointer (some ⟨1, 121, none⟩)]))) w := by
  rw [run_callFunc_extern (e := ReflectliteType.typeOf) Tryd.func84 (by kernel_rfl) (by kernel_rfl) (by kernel_rfl) (by kernel_rfl), xu_typeOf_121]; rfl
theorem x_direct_121 (w : World) : (Rtype.directlyAssignable 121 121).run Tryd.prog w = .ok true w := by kernel_rfl
theorem x_partsA_121 (a : Addr) (w : World) : (ReflectliteValue.parts (.agg #[.pointer (some ⟨1, 121, none⟩), .pointer (some a), .int .u64 406])).run Tryd.prog w = .ok (some (121, a, 406)) w := by kernel_rfl
theorem x_parts_121 (a : Addr) (w : World) : (ReflectliteValue.parts (.agg #[.pointer (some ⟨1, 121, none⟩), .pointer (some a), .int .u64 150])).run Tryd.prog w = .ok (some (121, a, 150)) w := by kernel_rfl
theorem x_set_121 (ta b : Addr) (c : Addr) (old : Value) (W : World) (hb : W.cell? b = some (.pointer (some c))) (ht : W.cell? ta = some old) (hf : W.frozen? ta = false) :
    (callFunc 86 #[.agg #[.pointer (some ⟨1, 121, none⟩), .pointer (some ta), .int .u64 406], .agg #[.pointer (some ⟨1, 121, none⟩), .pointer (some b), .int .u64 150]]).run Tryd.prog W = .ok (.value (.tuple #[])) (W.setCell ta (.pointer (some c))) := by
  have h : (ReflectliteValue.set #[.agg #[.pointer (some ⟨1, 121, none⟩), .pointer (some ta), .int .u64 406], .agg #[.pointer (some ⟨1, 121, none⟩), .pointer (some b), .int .u64 150]]).run Tryd.prog W = .ok (.tuple #[]) (W.setCell ta (.pointer (some c))) := by
    rw [rls]
    simp only [Sem.run_bind, x_partsA_121, x_parts_121, Result.andThen]
    simp [ReflectliteValue.flagAddr, loadVar, isAgg, underlying, Tryd.underlying121, hb, Result.andThen, x_direct_121, storeVar, Value.cells, storeCells, Addr.add]
    rw [run_store Tryd.prog W ta _ _ (by rfl)]
    simp [ht, hf]
  rw [run_callFunc_extern (e := ReflectliteValue.set) Tryd.func86 (by kernel_rfl) (by kernel_rfl) (by kernel_rfl) (by kernel_rfl), h]; rfl
theorem xu_type_132 (a : Addr) (w : World) : (ReflectliteValue.methodAny (ReflectliteValue.valueError "reflectlite.Value.Type" 0) (fun t _ _ _ => ReflectliteType.toType t) #[.agg #[.pointer (some ⟨1, 132, none⟩), .pointer (some a), .int .u64 150]]).run Tryd.prog w = .ok (.iface 161 (.agg #[.pointer (some ⟨1, 132, none⟩)])) w := by kernel_rfl
theorem x_type_132 (a : Addr) (w : World) : (callFunc 78 #[.agg #[.pointer (some ⟨1, 132, none⟩), .pointer (some a), .int .u64 150]]).run Tryd.prog w = .ok (.value (.iface 161 (.agg #[.pointer (some ⟨1, 132, none⟩)]))) w := by
  rw [run_callFunc_extern (e := ReflectliteValue.methodAny (ReflectliteValue.valueError "reflectlite.Value.Type" 0) (fun t _ _ _ => ReflectliteType.toType t)) Tryd.func78 (by kernel_rfl) (by kernel_rfl) (by kernel_rfl) (by kernel_rfl), xu_type_132]; rfl
theorem x_parts_132 (a : Addr) (w : World) : (ReflectliteValue.parts (.agg #[.pointer (some ⟨1, 132, none⟩), .pointer (some a), .int .u64 150])).run Tryd.prog w = .ok (some (132, a, 150)) w := by kernel_rfl
theorem x_isNil_132 (a p : Addr) (W : World) (ha : W.cell? a = some (.pointer (some p))) : (callFunc 79 #[.agg #[.pointer (some ⟨1, 132, none⟩), .pointer (some a), .int .u64 150]]).run Tryd.prog W = .ok (.value (.bool false)) W := by
  have h : (ReflectliteValue.method (ReflectliteValue.valueError "reflectlite.Value.IsNil" 0) ReflectliteValue.isNil #[.agg #[.pointer (some ⟨1, 132, none⟩), .pointer (some a), .int .u64 150]]).run Tryd.prog W = .ok (.bool false) W := by
    rw [rlm]
    simp only [Sem.run_bind, x_parts_132, Result.andThen]
    simp [ReflectliteValue.isNil, loadVar, isAgg, underlying, Tryd.underlying132, ha, Result.andThen]
  rw [run_callFunc_extern (e := ReflectliteValue.method (ReflectliteValue.valueError "reflectlite.Value.IsNil" 0) ReflectliteValue.isNil) Tryd.func79 (by kernel_rfl) (by kernel_rfl) (by kernel_rfl) (by kernel_rfl), h]; rfl
theorem x_elemOf_132 (w : World) : (Rtype.elem? 132).run Tryd.prog w = .ok (some 30) w := by kernel_rfl
theorem x_mk_30 (p : Addr) (w : World) : (ReflectliteValue.mk 30 p ReflectliteValue.flagAddr).run Tryd.prog w = .ok (.agg #[.pointer (some ⟨1, 30, none⟩), .pointer (some p), .int .u64 386]) w := by kernel_rfl
theorem x_elemV_132 (a p : Addr) (W : World) (ha : W.cell? a = some (.pointer (some p))) : (callFunc 85 #[.agg #[.pointer (some ⟨1, 132, none⟩), .pointer (some a), .int .u64 150]]).run Tryd.prog W = .ok (.value (.agg #[.pointer (some ⟨1, 30, none⟩), .pointer (some p), .int .u64 386])) W := by
  have h : (ReflectliteValue.method (ReflectliteValue.valueError "reflectlite.Value.Elem" 0) ReflectliteValue.elem #[.agg #[.pointer (some ⟨1, 132, none⟩), .pointer (some a), .int .u64 150]]).run Tryd.prog W = .ok (.agg #[.pointer (some ⟨1, 30, none⟩), .pointer (some p), .int .u64 386]) W := by
    rw [rlm]
    simp only [Sem.run_bind, x_parts_132, Result.andThen]
    simp [ReflectliteValue.elem, loadVar, isAgg, underlying, Tryd.underlying132, ha, Result.andThen, x_elemOf_132, x_mk_30]
  rw [run_callFunc_extern (e := ReflectliteValue.method (ReflectliteValue.valueError "reflectlite.Value.Elem" 0) ReflectliteValue.elem) Tryd.func85 (by kernel_rfl) (by kernel_rfl) (by kernel_rfl) (by kernel_rfl), h]; rfl
theorem x_kind_132 (w : World) : (callMethod (.iface 161 (.agg #[.pointer (some ⟨1, 132, none⟩)])) "Kind" #[]).run Tryd.prog w = .ok (.value (.int .u8 22)) w := by kernel_rfl
theorem x_kind_30 (w : World) : (callMethod (.iface 161 (.agg #[.pointer (some ⟨1, 30, none⟩)])) "Kind" #[]).run Tryd.prog w = .ok (.value (.int .u8 2)) w := by kernel_rfl
theorem x_elem_132 (w : World) : (callMethod (.iface 161 (.agg #[.pointer (some ⟨1, 132, none⟩)])) "Elem" #[]).run Tryd.prog w = .ok (.value (.iface 161 (.agg #[.pointer (some ⟨1, 30, none⟩)]))) w := by kernel_rfl
theorem x_impl_30 (w : World) : (callMethod (.iface 161 (.agg #[.pointer (some ⟨1, 30, none⟩)])) "Implements" #[.iface 161 (.agg #[.pointer (some ⟨1, 103, none⟩)])]).run Tryd.prog w = .ok (.value (.bool true)) w := by kernel_rfl
theorem xu_typeOf_30 (v : Value) (w : World) : (ReflectliteType.typeOf #[.iface 30 v]).run Tryd.prog w = .ok (.iface 161 (.agg #[.pointer (some ⟨1, 30, none⟩)])) w := by kernel_rfl
theorem x_typeOf_30 (v : Value) (w : World) : (callFunc 84 #[.iface 30 v]).run Tryd.prog w = .ok (.value (.iface 161 (.agg #[.pointer (some ⟨1, 30, none⟩)]))) w := by
  rw [run_callFunc_extern (e := ReflectliteType.typeOf) Tryd.func84 (by kernel_rfl) (by kernel_rfl) (by kernel_rfl) (by kernel_rfl), xu_typeOf_30]; rfl
theorem x_direct_30 (w : World) : (Rtype.directlyAssignable 30 30).run Tryd.prog w = .ok true w := by kernel_rfl
theorem x_partsA_30 (a : Addr) (w : World) : (ReflectliteValue.parts (.agg #[.pointer (some ⟨1, 30, none⟩), .pointer (some a), .int .u64 386])).run Tryd.prog w = .ok (some (30, a, 386)) w := by kernel_rfl
theorem x_parts_30 (a : Addr) (w : World) : (ReflectliteValue.parts (.agg #[.pointer (some ⟨1, 30, none⟩), .pointer (some a), .int .u64 130])).run Tryd.prog w = .ok (some (30, a, 130)) w := by kernel_rfl
theorem x_set_30 (ta b : Addr) (c : Int) (old : Value) (W : World) (hb : W.cell? b = some (.int .i64 c)) (ht : W.cell? ta = some old) (hf : W.frozen? ta = false) :
    (callFunc 86 #[.agg #[.pointer (some ⟨1, 30, none⟩), .pointer (some ta), .int .u64 386], .agg #[.pointer (some ⟨1, 30, none⟩), .pointer (some b), .int .u64 130]]).run Tryd.prog W = .ok (.value (.tuple #[])) (W.setCell ta (.int .i64 c)) := by
  have h : (ReflectliteValue.set #[.agg #[.pointer (some ⟨1, 30, none⟩), .pointer (some ta), .int .u64 386], .agg #[.pointer (some ⟨1, 30, none⟩), .pointer (some b), .int .u64 130]]).run Tryd.prog W = .ok (.tuple #[]) (W.setCell ta (.int .i64 c)) := by
    rw [rls]
    simp only [Sem.run_bind, x_partsA_30, x_parts_30, Result.andThen]
    simp [ReflectliteValue.flagAddr, loadVar, isAgg, underlying, Tryd.underlying30, hb, Result.andThen, x_direct_30, storeVar, Value.cells, storeCells, Addr.add]
    rw [run_store Tryd.prog W ta _ _ (by rfl)]
    simp [ht, hf]
  rw [run_callFunc_extern (e := ReflectliteValue.set) Tryd.func86 (by kernel_rfl) (by kernel_rfl) (by kernel_rfl) (by kernel_rfl), h]; rfl
theorem x_asg_121_121 (w : World) : (callMethod (.iface 161 (.agg #[.pointer (some ⟨1, 121, none⟩)])) "AssignableTo" #[.iface 161 (.agg #[.pointer (some ⟨1, 121, none⟩)])]).run Tryd.prog w = .ok (.value (.bool true)) w := by kernel_rfl
theorem x_asg_121_30 (w : World) : (callMethod (.iface 161 (.agg #[.pointer (some ⟨1, 121, none⟩)])) "AssignableTo" #[.iface 161 (.agg #[.pointer (some ⟨1, 30, none⟩)])]).run Tryd.prog w = .ok (.value (.bool false)) w := by kernel_rfl
theorem x_asg_30_30 (w : World) : (callMethod (.iface 161 (.agg #[.pointer (some ⟨1, 30, none⟩)])) "AssignableTo" #[.iface 161 (.agg #[.pointer (some ⟨1, 30, none⟩)])]).run Tryd.prog w = .ok (.value (.bool true)) w := by kernel_rfl
theorem x_ta_As (v : Value) (w : World) : (Instr.typeAssert (.iface 121 v) 103 166 true).run Tryd.prog w = .ok (.tuple #[.nilIface, .bool false]) w := run_typeAssert_lacksB Tryd.underlying166 (by kernel_rfl) (by kernel_rfl) v _ w
theorem x_ta_Unwrap (v : Value) (w : World) : (Instr.typeAssert (.iface 121 v) 103 169 true).run Tryd.prog w = .ok (.tuple #[.iface 121 v, .bool true]) w := by kernel_rfl
theorem x_unwrap (v : Value) (w : World) : (callMethod (.iface 121 v) "Unwrap" #[]).run Tryd.prog w = .ok (.enter 106 #[v]) w := by kernel_rfl
end Go.Proofs.YtdniefnjgkhkeaaDoor
