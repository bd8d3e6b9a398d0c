/-
  Contracts of Go functions, each walked operation by operation: asx.
  Conditions: as each statement says.
-/
import Derived.Test.YtdniefnjgkhkeaaDoorVf
import Derived.Test.YtdniefnjgkhkeaaDoorProg
import Derived.Test.YtdniefnjgkhkeaaDoorC1
import Derived.Test.YtdniefnjgkhkeaaDoorC2
import Derived.Test.YtdniefnjgkhkeaaDoorC3
import Derived.Test.YtdniefnjgkhkeaaDoorC4
import Derived.Test.YtdniefnjgkhkeaaDoorC5
import Derived.Test.YtdniefnjgkhkeaaDoorC6
namespace Go.Proofs.YtdniefnjgkhkeaaDoor
open Go
set_option maxRecDepth 100000
set_option linter.unusedVariables false
set_option linter.unusedSimpArgs false
theorem ta_144 : aggN Tryd.prog 144 = some 3 := by kernel_rfl
theorem tc_131 : (lone1 Tryd.prog 131 = true ∨ (aggN Tryd.prog 131).isSome = true) ∧ (match Tryd.prog.underlying 131 with | some (.interface _) => false | _ => true) = true := ⟨.inl (by kernel_rfl), by kernel_rfl⟩
theorem tc_132 : (lone1 Tryd.prog 132 = true ∨ (aggN Tryd.prog 132).isSome = true) ∧ (match Tryd.prog.underlying 132 with | some (.interface _) => false | _ => true) = true := ⟨.inl (by kernel_rfl), by kernel_rfl⟩
theorem tcall_68 : cl Tryd.prog 68 := ⟨_, Tryd.func68, by kernel_rfl, by kernel_rfl⟩
theorem tcall_80 : cl Tryd.prog 80 := ⟨_, Tryd.func80, by kernel_rfl, by kernel_rfl⟩
theorem tf_123_0 : fOff Tryd.prog 123 0 = some 0 := by kernel_rfl
theorem tf_123_1 : fOff Tryd.prog 123 1 = some 1 := by kernel_rfl
theorem ti_103 : isIface Tryd.prog 103 = true := by kernel_rfl
theorem ti_20 : isIface Tryd.prog 20 = true := by kernel_rfl
theorem tl_103 : lone1 Tryd.prog 103 = true := by kernel_rfl
theorem tl_121 : lone1 Tryd.prog 121 = true := by kernel_rfl
theorem tl_147 : lone1 Tryd.prog 147 = true := by kernel_rfl
theorem tl_30 : lone1 Tryd.prog 30 = true := by kernel_rfl
theorem tn_144 : (Tryd.prog.info? 144).map (·.size) = some 3 := by kernel_rfl
theorem tz_121 : zeroOf Tryd.prog 121 = some (.pointer none) := by kernel_rfl
theorem tz_144 : zeroOf Tryd.prog 144 = some (.agg #[.pointer none, .pointer none, .int .u64 0]) := by kernel_rfl
theorem tz_30 : zeroOf Tryd.prog 30 = some (.int .i64 0) := by kernel_rfl
set_option maxHeartbeats 3200000 in
theorem c_Unwrap {a : Addr} {pc c : Int} {w : World} {M : Mem} {bs : List (Nat × Obj)} (hat : At M a [.int .i64 pc, .iface 30 (.int .i64 c)]) (hO : Own w M (bs)) :
    Calls Tryd.prog 106 #[.pointer (some a)] w (fun e w' => e = .returned (.iface 30 (.int .i64 c)) ∧ Own w' M bs) := by
 refine ce (vs := [.pointer (some a)]) (n := 7) Tryd.func106 rfl rfl rfl (cq (cr (as_ hO rfl rfl (rj (et (cq (cr (mv hO rfl rfl (nc hO rfl rfl ?_)))))))))
 exact fa tf_123_1 hO rfl rfl (ry hO rfl (yl tl_103 tz rfl (fun _ h => hat.cell h 1 rfl)) (as_ hO rfl rfl (rj (et (ct (er (.inl rfl) rfl rfl (⟨rfl, hO⟩)))))))

set_option maxHeartbeats 3200000 in
theorem c_as1 {t v0 : Nat} {a : Addr} {w : World} {M : Mem} {bs : List (Nat × Obj)}  (hO : Own w M ([(v0, .cells #[.pointer (some ⟨t, 0, none⟩)] 131)] ++ ([(t, .cells #[.pointer none] 121)] ++ bs))) :
    Calls Tryd.prog 80 #[.iface 121 (.pointer (some a)), .iface 131 (.pointer (some ⟨t, 0, none⟩)), .agg #[.pointer (some ⟨1, 131, none⟩), .pointer (some ⟨v0, 0, none⟩), .int .u64 150], .iface 161 (.agg #[.pointer (some ⟨1, 121, none⟩)])] w (fun e w' => e = .returned (.bool true) ∧ Own w' M ([(t, .cells #[.pointer (some a)] 121)] ++ bs)) := by
 refine ce (vs := [.iface 121 (.pointer (some a)), .iface 131 (.pointer (some ⟨t, 0, none⟩)), .agg #[.pointer (some ⟨1, 131, none⟩), .pointer (some ⟨v0, 0, none⟩), .int .u64 150], .iface 161 (.agg #[.pointer (some ⟨1, 121, none⟩)])]) (n := 62) Tryd.func80 rfl rfl rfl (cq (cr (rd' tz (og_box hO rfl rfl (fun b1 w2 hO => ?_)))))
 have hO : Own _ M ([(b1, .cells #[.pointer (some ⟨1, 131, none⟩), .pointer (some ⟨v0, 0, none⟩), .int .u64 150] 144)] ++ ([(v0, .cells #[.pointer (some ⟨t, 0, none⟩)] 131)] ++ ([(t, .cells #[.pointer none] 121)] ++ bs))) := hO
 refine as_ hO rfl rfl (rj (et (cb (cg_rounds 0 (cb (cq (cq (cr (mv hO rfl rfl ?_)))))))))
 refine rd' tz (og_ext (vs := [.iface 121 (.pointer (some a))]) (v := .iface 161 (.agg #[.pointer (some ⟨1, 121, none⟩)])) rfl rfl (x_typeOf_121 _ _) ?_)
 refine mv hO rfl rfl (rd' tz (og_inv (vs := [.iface 161 (.agg #[.pointer (some ⟨1, 121, none⟩)])]) (r := .iface 161 (.agg #[.pointer (some ⟨1, 121, none⟩)])) (v := .bool true) rfl rfl rfl (x_asg_121_121 _) ?_))
 refine rj (et (cv rfl (cq (cr (ry hO rfl (yq [.pointer (some ⟨1, 131, none⟩), .pointer (some ⟨v0, 0, none⟩), .int .u64 150] ta_144 rfl tz rfl (fun _ h => Own.cellsB h 0 0 rfl (by intro j v e; exact rowCells (vs := [.pointer (some ⟨1, 131, none⟩), .pointer (some ⟨v0, 0, none⟩), .int .u64 150]) rfl e))) (rd' tz (og_ext (vs := [.agg #[.pointer (some ⟨1, 131, none⟩), .pointer (some ⟨v0, 0, none⟩), .int .u64 150]]) (v := .agg #[.pointer (some ⟨1, 121, none⟩), .pointer (some ⟨t, 0, none⟩), .int .u64 406]) rfl rfl (x_elemV_131 ⟨v0, 0, none⟩ ⟨t, 0, none⟩ _ (ob (v := .pointer (some ⟨t, 0, none⟩)) hO 1 0 rfl rfl)) ?_)))))))
 refine mv hO rfl rfl (rd' tz (og_extNew (vs := [.iface 121 (.pointer (some a))]) (v := fun b => .agg #[.pointer (some ⟨1, 121, none⟩), .pointer (some ⟨b, 0, none⟩), .int .u64 150]) (o := .cells #[.pointer (some a)] 121) hO rfl rfl (x_valueOf_121 _ _) (fun b3 w4 hO => ?_)))
 have hO : Own _ M ([(b3, .cells #[.pointer (some a)] 121)] ++ ([(b1, .cells #[.pointer (some ⟨1, 131, none⟩), .pointer (some ⟨v0, 0, none⟩), .int .u64 150] 144)] ++ ([(v0, .cells #[.pointer (some ⟨t, 0, none⟩)] 131)] ++ ([(t, .cells #[.pointer none] 121)] ++ bs)))) := hO
 have hO := hO.front3
 have hO : Own _ M ([(t, .cells #[.pointer none] 121)] ++ ([(b3, .cells #[.pointer (some a)] 121)] ++ ([(b1, .cells #[.pointer (some ⟨1, 131, none⟩), .pointer (some ⟨v0, 0, none⟩), .int .u64 150] 144)] ++ ([(v0, .cells #[.pointer (some ⟨t, 0, none⟩)] 131)] ++ bs)))) := hO
 refine rd' tz (og_extSet (vs := [.agg #[.pointer (some ⟨1, 121, none⟩), .pointer (some ⟨t, 0, none⟩), .int .u64 406], .agg #[.pointer (some ⟨1, 121, none⟩), .pointer (some ⟨b3, 0, none⟩), .int .u64 150]]) (x := .pointer (some a)) hO rfl rfl (x_set_121 _ _ _ _ _ (ob hO 1 0 rfl rfl) (ob hO 0 0 rfl rfl) (Own.thawB hO 0 rfl)) (fun w5 hO => ?_))
 have hO : Own _ M ([(t, .cells #[.pointer (some a)] 121)] ++ ([(b3, .cells #[.pointer (some a)] 121)] ++ ([(b1, .cells #[.pointer (some ⟨1, 131, none⟩), .pointer (some ⟨v0, 0, none⟩), .int .u64 150] 144)] ++ ([(v0, .cells #[.pointer (some ⟨t, 0, none⟩)] 131)] ++ bs)))) := hO
 refine rj (et (cq (cr (as_ hO rfl rfl (rj (et (ct (ew' (eg ?_)))))))))
 refine ew' (eg (er (.inl rfl) rfl rfl ?_))
 have hO := hO.front1
 have hO := hO.forget
 have hO := hO.front1
 have hO := hO.forget
 have hO := hO.front1
 have hO := hO.forget
 exact ⟨rfl, hO⟩

set_option maxHeartbeats 3200000 in
theorem c_As1 {t : Nat} {a : Addr} {w : World} {M : Mem} {bs : List (Nat × Obj)}  (hG : Glob M) (hO : Own w M ([(t, .cells #[.pointer none] 121)] ++ bs)) :
    Calls Tryd.prog 68 #[.iface 121 (.pointer (some a)), .iface 131 (.pointer (some ⟨t, 0, none⟩))] w (fun e w' => e = .returned (.bool true) ∧ Own w' M ([(t, .cells #[.pointer (some a)] 121)] ++ bs)) := by
 have hg : At M ⟨0, 0, none⟩ [.iface 161 (.agg #[.pointer (some ⟨1, 103, none⟩)])] := hG
 refine ce (vs := [.iface 121 (.pointer (some a)), .iface 131 (.pointer (some ⟨t, 0, none⟩))]) (n := 42) Tryd.func68 rfl rfl rfl (cq (cr (as_ hO rfl rfl (rj (et (cq (cq (cr (mv hO rfl rfl ?_)))))))))
 refine ry hO rfl (y_isome ti_103 tz rfl) (rj (et (cj rfl (cp (et (cq (cq (cr (mv hO rfl rfl ?_)))))))))
 refine ry hO rfl (y_isome ti_20 tz rfl) (rj (et (cj rfl (cp (et (cq (cr (mv hO rfl rfl (rd' tz (og_extNew (vs := [.iface 131 (.pointer (some ⟨t, 0, none⟩))]) (v := fun b => .agg #[.pointer (some ⟨1, 131, none⟩), .pointer (some ⟨b, 0, none⟩), .int .u64 150]) (o := .cells #[.pointer (some ⟨t, 0, none⟩)] 131) hO rfl rfl (x_valueOf_131 _ _) (fun b1 w2 hO => ?_)))))))))))
 have hO : Own _ M ([(b1, .cells #[.pointer (some ⟨t, 0, none⟩)] 131)] ++ ([(t, .cells #[.pointer none] 121)] ++ bs)) := hO
 refine rd' tz (og_alloc hO rfl tz_144 (fun b3 w4 hO => ?_))
 have hO : Own _ M ([(b3, .cells #[.pointer none, .pointer none, .int .u64 0] 144)] ++ ([(b1, .cells #[.pointer (some ⟨t, 0, none⟩)] 131)] ++ ([(t, .cells #[.pointer none] 121)] ++ bs))) := hO
 refine rd' tz (oo (vs := [.pointer (some ⟨1, 131, none⟩), .pointer (some ⟨b1, 0, none⟩), .int .u64 150]) hO tn_144 rfl rfl rfl (nb rfl) rfl rfl (fun w5 hO => ?_))
 have hO : Own _ M ([(b3, .cells #[.pointer (some ⟨1, 131, none⟩), .pointer (some ⟨b1, 0, none⟩), .int .u64 150] 144)] ++ ([(b1, .cells #[.pointer (some ⟨t, 0, none⟩)] 131)] ++ ([(t, .cells #[.pointer none] 121)] ++ bs))) := hO
 refine rj (et (cq (cr (ry hO rfl (yq [.pointer (some ⟨1, 131, none⟩), .pointer (some ⟨b1, 0, none⟩), .int .u64 150] ta_144 rfl tz rfl (fun _ h => Own.cellsB h 0 0 rfl (by intro j v e; exact rowCells (vs := [.pointer (some ⟨1, 131, none⟩), .pointer (some ⟨b1, 0, none⟩), .int .u64 150]) rfl e))) (rd' tz (og_ext (vs := [.agg #[.pointer (some ⟨1, 131, none⟩), .pointer (some ⟨b1, 0, none⟩), .int .u64 150]]) (v := .iface 161 (.agg #[.pointer (some ⟨1, 131, none⟩)])) rfl rfl (x_type_131 _ _) ?_))))))
 refine as_ hO rfl rfl (rj (ez (E' := [(0, .iface 121 (.pointer (some a))), (1, .iface 131 (.pointer (some ⟨t, 0, none⟩))), (4, .bool false), (5, .pointer (some ⟨b3, 0, none⟩)), (6, .iface 161 (.agg #[.pointer (some ⟨1, 131, none⟩)]))]) ⟨rfl, rfl, rfl, rfl, rfl, tz⟩ (et (cq (cq (cr (mv hO rfl rfl (rd' tz (og_inv (vs := []) (r := .iface 161 (.agg #[.pointer (some ⟨1, 131, none⟩)])) (v := .int .u8 22) rfl rfl rfl (x_kind_131 _) ?_)))))))))
 refine ry hO rfl (y_ne tz rfl rfl) (mv hO rfl rfl (ry hO rfl (yq [.pointer (some ⟨1, 131, none⟩), .pointer (some ⟨b1, 0, none⟩), .int .u64 150] ta_144 rfl (by rw [(by decide : (!decide ((22 : Int) = (22 : Int))) = false)]; rfl) rfl (fun _ h => Own.cellsB h 0 0 rfl (by intro j v e; exact rowCells (vs := [.pointer (some ⟨1, 131, none⟩), .pointer (some ⟨b1, 0, none⟩), .int .u64 150]) rfl e))) (rd' (by rw [(by decide : (!decide ((22 : Int) = (22 : Int))) = false)]; rfl) (og_ext (vs := [.agg #[.pointer (some ⟨1, 131, none⟩), .pointer (some ⟨b1, 0, none⟩), .int .u64 150]]) (v := .bool false) rfl rfl (x_isNil_131 ⟨b1, 0, none⟩ ⟨t, 0, none⟩ _ (ob (v := .pointer (some ⟨t, 0, none⟩)) hO 1 0 rfl rfl)) ?_))))
 refine ry hO rfl (pf tz (by rw [(by decide : (!decide ((22 : Int) = (22 : Int))) = false)]; rfl) rfl) (rj (et (cj rfl (cp (et (cq (cr (mv hO rfl rfl (rd' tz (og_inv (vs := []) (r := .iface 161 (.agg #[.pointer (some ⟨1, 131, none⟩)])) (v := .iface 161 (.agg #[.pointer (some ⟨1, 121, none⟩)])) rfl rfl rfl (x_elem_131 _) ?_))))))))))
 refine as_ hO rfl rfl (rj (ez (E' := [(0, .iface 121 (.pointer (some a))), (1, .iface 131 (.pointer (some ⟨t, 0, none⟩))), (4, .bool false), (5, .pointer (some ⟨b3, 0, none⟩)), (7, .iface 161 (.agg #[.pointer (some ⟨1, 121, none⟩)]))]) ⟨rfl, rfl, rfl, rfl, rfl, tz⟩ (et (cq (cq (cr (mv hO rfl rfl (rd' tz (og_inv (vs := []) (r := .iface 161 (.agg #[.pointer (some ⟨1, 121, none⟩)])) (v := .int .u8 22) rfl rfl rfl (x_kind_121 _) ?_)))))))))
 refine ry hO rfl (y_ne tz rfl rfl) (mv hO rfl rfl (ry hO rfl (ym (by rw [(by decide : (!decide ((22 : Int) = (20 : Int))) = true)]; rfl) rfl) (ry hO rfl (yl tl_147 (by rw [(by decide : (!decide ((22 : Int) = (20 : Int))) = true)]; rfl) rfl (fun _ h => hg.cell0 h rfl)) (rd' (by rw [(by decide : (!decide ((22 : Int) = (20 : Int))) = true)]; rfl) (og_inv (vs := [.iface 161 (.agg #[.pointer (some ⟨1, 103, none⟩)])]) (r := .iface 161 (.agg #[.pointer (some ⟨1, 121, none⟩)])) (v := .bool true) rfl rfl rfl (x_impl_121 _) ?_)))))
 refine ry hO rfl (y_not' (by rw [(by decide : (!decide ((22 : Int) = (20 : Int))) = true)]; rfl) rfl rfl) (ry hO rfl (pt tz (by rw [(by decide : (!decide ((22 : Int) = (20 : Int))) = true)]; rfl) rfl) (rj (ez (E' := [(0, .iface 121 (.pointer (some a))), (1, .iface 131 (.pointer (some ⟨t, 0, none⟩))), (4, .bool false), (5, .pointer (some ⟨b3, 0, none⟩)), (7, .iface 161 (.agg #[.pointer (some ⟨1, 121, none⟩)])), (35, .bool false)]) ⟨rfl, rfl, rfl, rfl, rfl, rfl, tz⟩ (et (cj rfl (cp (et (cq (cr ?_)))))))))
 refine mv hO rfl rfl (mv hO rfl rfl (ry hO rfl (yq [.pointer (some ⟨1, 131, none⟩), .pointer (some ⟨b1, 0, none⟩), .int .u64 150] ta_144 rfl tz rfl (fun _ h => Own.cellsB h 0 0 rfl (by intro j v e; exact rowCells (vs := [.pointer (some ⟨1, 131, none⟩), .pointer (some ⟨b1, 0, none⟩), .int .u64 150]) rfl e))) (mv hO rfl rfl ?_)))
 have hO := hO.front2
 have hO := hO.front2
 have hO : Own _ M ([(b1, .cells #[.pointer (some ⟨t, 0, none⟩)] 131)] ++ ([(t, .cells #[.pointer none] 121)] ++ ([(b3, .cells #[.pointer (some ⟨1, 131, none⟩), .pointer (some ⟨b1, 0, none⟩), .int .u64 150] 144)] ++ bs))) := hO
 refine rd' tz (oc (vs := [.iface 121 (.pointer (some a)), .iface 131 (.pointer (some ⟨t, 0, none⟩)), .agg #[.pointer (some ⟨1, 131, none⟩), .pointer (some ⟨b1, 0, none⟩), .int .u64 150], .iface 161 (.agg #[.pointer (some ⟨1, 121, none⟩)])]) tcall_80 rfl rfl (c_as1 hO) ?_)
 rintro _ w6 ⟨rfl, hO⟩
 refine ⟨_, rfl, ?_⟩
 refine as_ hO rfl rfl (rj (et (ct (er (.inl rfl) rfl rfl ?_))))
 have hO := hO.front1
 have hO := hO.forget
 exact ⟨rfl, hO⟩

set_option maxHeartbeats 3200000 in
theorem c_as2 {t v0 : Nat} {a : Addr} {pc c : Int} {w : World} {M : Mem} {bs : List (Nat × Obj)} (hat : At M a [.int .i64 pc, .iface 30 (.int .i64 c)]) (hO : Own w M ([(v0, .cells #[.pointer (some ⟨t, 0, none⟩)] 132)] ++ ([(t, .cells #[.int .i64 0] 30)] ++ bs))) :
    Calls Tryd.prog 80 #[.iface 121 (.pointer (some a)), .iface 132 (.pointer (some ⟨t, 0, none⟩)), .agg #[.pointer (some ⟨1, 132, none⟩), .pointer (some ⟨v0, 0, none⟩), .int .u64 150], .iface 161 (.agg #[.pointer (some ⟨1, 30, none⟩)])] w (fun e w' => e = .returned (.bool true) ∧ Own w' M ([(t, .cells #[.int .i64 c] 30)] ++ bs)) := by
 refine ce (vs := [.iface 121 (.pointer (some a)), .iface 132 (.pointer (some ⟨t, 0, none⟩)), .agg #[.pointer (some ⟨1, 132, none⟩), .pointer (some ⟨v0, 0, none⟩), .int .u64 150], .iface 161 (.agg #[.pointer (some ⟨1, 30, none⟩)])]) (n := 62) Tryd.func80 rfl rfl rfl (cq (cr (rd' tz (og_box hO rfl rfl (fun b1 w2 hO => ?_)))))
 have hO : Own _ M ([(b1, .cells #[.pointer (some ⟨1, 132, none⟩), .pointer (some ⟨v0, 0, none⟩), .int .u64 150] 144)] ++ ([(v0, .cells #[.pointer (some ⟨t, 0, none⟩)] 132)] ++ ([(t, .cells #[.int .i64 0] 30)] ++ bs))) := hO
 refine as_ hO rfl rfl (rj (et (cb (cg_rounds 1 (cb (cq (cq (cr (mv hO rfl rfl ?_)))))))))
 refine rd' tz (og_ext (vs := [.iface 121 (.pointer (some a))]) (v := .iface 161 (.agg #[.pointer (some ⟨1, 121, none⟩)])) rfl rfl (x_typeOf_121 _ _) ?_)
 refine mv hO rfl rfl (rd' tz (og_inv (vs := [.iface 161 (.agg #[.pointer (some ⟨1, 30, none⟩)])]) (r := .iface 161 (.agg #[.pointer (some ⟨1, 121, none⟩)])) (v := .bool false) rfl rfl rfl (x_asg_121_30 _) ?_))
 refine rj (et (cj rfl (cp (et (cq (cq (cr (mv hO rfl rfl (ry hO rfl (y_tassert (fun w => x_ta_As _ w) tz rfl) ?_)))))))))
 refine mv hO rfl rfl (ry hO rfl (yx [.nilIface, .bool false] rfl tz rfl) (ry hO rfl (yx [.nilIface, .bool false] rfl tz rfl) (as_ hO rfl rfl (as_ hO rfl rfl (rj (et (cq (cr (mv hO rfl rfl ?_)))))))))
 refine mv hO rfl rfl (ry hO rfl (ek rfl) (ry hO rfl (ek rfl) (ry hO rfl (ek rfl) (ry hO rfl (pf tz rfl rfl) (rj (et (cj rfl (cp (et ?_)))))))))
 refine cq (cr (mv hO rfl rfl (rj (et (cb (cq (cr (ry hO rfl (y_tassert (fun w => x_ta_Unwrap _ w) tz rfl) (ry hO rfl (yx [.iface 121 (.pointer (some a)), .bool true] rfl tz rfl) ?_)))))))))
 refine ry hO rfl (yx [.iface 121 (.pointer (some a)), .bool true] rfl tz rfl) (rj (et (cv rfl (cq (cr (as_ hO rfl rfl (rj (et (cq ?_)))))))))
 refine cr (mv hO rfl rfl (rd' tz (og_invCall (vs := []) (us := [.pointer (some a)]) rfl rfl rfl (x_unwrap _ _) (c_Unwrap hat hO) ?_)))
 rintro _ w3 ⟨rfl, hO⟩
 refine ⟨_, rfl, ?_⟩
 refine as_ hO rfl rfl (rj (et (cq (cr (mv hO rfl rfl (ry hO rfl (y_isome ti_103 tz rfl) (rj (et (cj rfl ?_)))))))))
 refine cp (ek' (ek' (ends_rounds (cb (cq (cq (cr (mv hO rfl rfl (rd' tz (og_ext (vs := [.iface 30 (.int .i64 c)]) (v := .iface 161 (.agg #[.pointer (some ⟨1, 30, none⟩)])) rfl rfl (x_typeOf_30 _ _) ?_))))))))))
 refine mv hO rfl rfl (rd' tz (og_inv (vs := [.iface 161 (.agg #[.pointer (some ⟨1, 30, none⟩)])]) (r := .iface 161 (.agg #[.pointer (some ⟨1, 30, none⟩)])) (v := .bool true) rfl rfl rfl (x_asg_30_30 _) ?_))
 refine rj (et (cv rfl (cq (cr (ry hO rfl (yq [.pointer (some ⟨1, 132, none⟩), .pointer (some ⟨v0, 0, none⟩), .int .u64 150] ta_144 rfl tz rfl (fun _ h => Own.cellsB h 0 0 rfl (by intro j v e; exact rowCells (vs := [.pointer (some ⟨1, 132, none⟩), .pointer (some ⟨v0, 0, none⟩), .int .u64 150]) rfl e))) (rd' tz (og_ext (vs := [.agg #[.pointer (some ⟨1, 132, none⟩), .pointer (some ⟨v0, 0, none⟩), .int .u64 150]]) (v := .agg #[.pointer (some ⟨1, 30, none⟩), .pointer (some ⟨t, 0, none⟩), .int .u64 386]) rfl rfl (x_elemV_132 ⟨v0, 0, none⟩ ⟨t, 0, none⟩ _ (ob (v := .pointer (some ⟨t, 0, none⟩)) hO 1 0 rfl rfl)) ?_)))))))
 refine mv hO rfl rfl (rd' tz (og_extNew (vs := [.iface 30 (.int .i64 c)]) (v := fun b => .agg #[.pointer (some ⟨1, 30, none⟩), .pointer (some ⟨b, 0, none⟩), .int .u64 130]) (o := .cells #[.int .i64 c] 30) hO rfl rfl (x_valueOf_30 _ _) (fun b4 w5 hO => ?_)))
 have hO : Own _ M ([(b4, .cells #[.int .i64 c] 30)] ++ ([(b1, .cells #[.pointer (some ⟨1, 132, none⟩), .pointer (some ⟨v0, 0, none⟩), .int .u64 150] 144)] ++ ([(v0, .cells #[.pointer (some ⟨t, 0, none⟩)] 132)] ++ ([(t, .cells #[.int .i64 0] 30)] ++ bs)))) := hO
 have hO := hO.front3
 have hO : Own _ M ([(t, .cells #[.int .i64 0] 30)] ++ ([(b4, .cells #[.int .i64 c] 30)] ++ ([(b1, .cells #[.pointer (some ⟨1, 132, none⟩), .pointer (some ⟨v0, 0, none⟩), .int .u64 150] 144)] ++ ([(v0, .cells #[.pointer (some ⟨t, 0, none⟩)] 132)] ++ bs)))) := hO
 refine rd' tz (og_extSet (vs := [.agg #[.pointer (some ⟨1, 30, none⟩), .pointer (some ⟨t, 0, none⟩), .int .u64 386], .agg #[.pointer (some ⟨1, 30, none⟩), .pointer (some ⟨b4, 0, none⟩), .int .u64 130]]) (x := .int .i64 c) hO rfl rfl (x_set_30 _ _ _ _ _ (ob hO 1 0 rfl rfl) (ob hO 0 0 rfl rfl) (Own.thawB hO 0 rfl)) (fun w6 hO => ?_))
 have hO : Own _ M ([(t, .cells #[.int .i64 c] 30)] ++ ([(b4, .cells #[.int .i64 c] 30)] ++ ([(b1, .cells #[.pointer (some ⟨1, 132, none⟩), .pointer (some ⟨v0, 0, none⟩), .int .u64 150] 144)] ++ ([(v0, .cells #[.pointer (some ⟨t, 0, none⟩)] 132)] ++ bs)))) := hO
 refine rj (et (cq (cr (as_ hO rfl rfl (rj (et (ct (ew' (eg ?_)))))))))
 refine ew' (eg (er (.inl rfl) rfl rfl ?_))
 have hO := hO.front1
 have hO := hO.forget
 have hO := hO.front1
 have hO := hO.forget
 have hO := hO.front1
 have hO := hO.forget
 exact ⟨rfl, hO⟩

set_option maxHeartbeats 3200000 in
theorem c_As2 {t : Nat} {a : Addr} {pc c : Int} {w : World} {M : Mem} {bs : List (Nat × Obj)} (hat : At M a [.int .i64 pc, .iface 30 (.int .i64 c)]) (hG : Glob M) (hO : Own w M ([(t, .cells #[.int .i64 0] 30)] ++ bs)) :
    Calls Tryd.prog 68 #[.iface 121 (.pointer (some a)), .iface 132 (.pointer (some ⟨t, 0, none⟩))] w (fun e w' => e = .returned (.bool true) ∧ Own w' M ([(t, .cells #[.int .i64 c] 30)] ++ bs)) := by
 have hg : At M ⟨0, 0, none⟩ [.iface 161 (.agg #[.pointer (some ⟨1, 103, none⟩)])] := hG
 refine ce (vs := [.iface 121 (.pointer (some a)), .iface 132 (.pointer (some ⟨t, 0, none⟩))]) (n := 42) Tryd.func68 rfl rfl rfl (cq (cr (as_ hO rfl rfl (rj (et (cq (cq (cr (mv hO rfl rfl ?_)))))))))
 refine ry hO rfl (y_isome ti_103 tz rfl) (rj (et (cj rfl (cp (et (cq (cq (cr (mv hO rfl rfl ?_)))))))))
 refine ry hO rfl (y_isome ti_20 tz rfl) (rj (et (cj rfl (cp (et (cq (cr (mv hO rfl rfl (rd' tz (og_extNew (vs := [.iface 132 (.pointer (some ⟨t, 0, none⟩))]) (v := fun b => .agg #[.pointer (some ⟨1, 132, none⟩), .pointer (some ⟨b, 0, none⟩), .int .u64 150]) (o := .cells #[.pointer (some ⟨t, 0, none⟩)] 132) hO rfl rfl (x_valueOf_132 _ _) (fun b1 w2 hO => ?_)))))))))))
 have hO : Own _ M ([(b1, .cells #[.pointer (some ⟨t, 0, none⟩)] 132)] ++ ([(t, .cells #[.int .i64 0] 30)] ++ bs)) := hO
 refine rd' tz (og_alloc hO rfl tz_144 (fun b3 w4 hO => ?_))
 have hO : Own _ M ([(b3, .cells #[.pointer none, .pointer none, .int .u64 0] 144)] ++ ([(b1, .cells #[.pointer (some ⟨t, 0, none⟩)] 132)] ++ ([(t, .cells #[.int .i64 0] 30)] ++ bs))) := hO
 refine rd' tz (oo (vs := [.pointer (some ⟨1, 132, none⟩), .pointer (some ⟨b1, 0, none⟩), .int .u64 150]) hO tn_144 rfl rfl rfl (nb rfl) rfl rfl (fun w5 hO => ?_))
 have hO : Own _ M ([(b3, .cells #[.pointer (some ⟨1, 132, none⟩), .pointer (some ⟨b1, 0, none⟩), .int .u64 150] 144)] ++ ([(b1, .cells #[.pointer (some ⟨t, 0, none⟩)] 132)] ++ ([(t, .cells #[.int .i64 0] 30)] ++ bs))) := hO
 refine rj (et (cq (cr (ry hO rfl (yq [.pointer (some ⟨1, 132, none⟩), .pointer (some ⟨b1, 0, none⟩), .int .u64 150] ta_144 rfl tz rfl (fun _ h => Own.cellsB h 0 0 rfl (by intro j v e; exact rowCells (vs := [.pointer (some ⟨1, 132, none⟩), .pointer (some ⟨b1, 0, none⟩), .int .u64 150]) rfl e))) (rd' tz (og_ext (vs := [.agg #[.pointer (some ⟨1, 132, none⟩), .pointer (some ⟨b1, 0, none⟩), .int .u64 150]]) (v := .iface 161 (.agg #[.pointer (some ⟨1, 132, none⟩)])) rfl rfl (x_type_132 _ _) ?_))))))
 refine as_ hO rfl rfl (rj (ez (E' := [(0, .iface 121 (.pointer (some a))), (1, .iface 132 (.pointer (some ⟨t, 0, none⟩))), (4, .bool false), (5, .pointer (some ⟨b3, 0, none⟩)), (6, .iface 161 (.agg #[.pointer (some ⟨1, 132, none⟩)]))]) ⟨rfl, rfl, rfl, rfl, rfl, tz⟩ (et (cq (cq (cr (mv hO rfl rfl (rd' tz (og_inv (vs := []) (r := .iface 161 (.agg #[.pointer (some ⟨1, 132, none⟩)])) (v := .int .u8 22) rfl rfl rfl (x_kind_132 _) ?_)))))))))
 refine ry hO rfl (y_ne tz rfl rfl) (mv hO rfl rfl (ry hO rfl (yq [.pointer (some ⟨1, 132, none⟩), .pointer (some ⟨b1, 0, none⟩), .int .u64 150] ta_144 rfl (by rw [(by decide : (!decide ((22 : Int) = (22 : Int))) = false)]; rfl) rfl (fun _ h => Own.cellsB h 0 0 rfl (by intro j v e; exact rowCells (vs := [.pointer (some ⟨1, 132, none⟩), .pointer (some ⟨b1, 0, none⟩), .int .u64 150]) rfl e))) (rd' (by rw [(by decide : (!decide ((22 : Int) = (22 : Int))) = false)]; rfl) (og_ext (vs := [.agg #[.pointer (some ⟨1, 132, none⟩), .pointer (some ⟨b1, 0, none⟩), .int .u64 150]]) (v := .bool false) rfl rfl (x_isNil_132 ⟨b1, 0, none⟩ ⟨t, 0, none⟩ _ (ob (v := .pointer (some ⟨t, 0, none⟩)) hO 1 0 rfl rfl)) ?_))))
 refine ry hO rfl (pf tz (by rw [(by decide : (!decide ((22 : Int) = (22 : Int))) = false)]; rfl) rfl) (rj (et (cj rfl (cp (et (cq (cr (mv hO rfl rfl (rd' tz (og_inv (vs := []) (r := .iface 161 (.agg #[.pointer (some ⟨1, 132, none⟩)])) (v := .iface 161 (.agg #[.pointer (some ⟨1, 30, none⟩)])) rfl rfl rfl (x_elem_132 _) ?_))))))))))
 refine as_ hO rfl rfl (rj (ez (E' := [(0, .iface 121 (.pointer (some a))), (1, .iface 132 (.pointer (some ⟨t, 0, none⟩))), (4, .bool false), (5, .pointer (some ⟨b3, 0, none⟩)), (7, .iface 161 (.agg #[.pointer (some ⟨1, 30, none⟩)]))]) ⟨rfl, rfl, rfl, rfl, rfl, tz⟩ (et (cq (cq (cr (mv hO rfl rfl (rd' tz (og_inv (vs := []) (r := .iface 161 (.agg #[.pointer (some ⟨1, 30, none⟩)])) (v := .int .u8 2) rfl rfl rfl (x_kind_30 _) ?_)))))))))
 refine ry hO rfl (y_ne tz rfl rfl) (mv hO rfl rfl (ry hO rfl (ym (by rw [(by decide : (!decide ((2 : Int) = (20 : Int))) = true)]; rfl) rfl) (ry hO rfl (yl tl_147 (by rw [(by decide : (!decide ((2 : Int) = (20 : Int))) = true)]; rfl) rfl (fun _ h => hg.cell0 h rfl)) (rd' (by rw [(by decide : (!decide ((2 : Int) = (20 : Int))) = true)]; rfl) (og_inv (vs := [.iface 161 (.agg #[.pointer (some ⟨1, 103, none⟩)])]) (r := .iface 161 (.agg #[.pointer (some ⟨1, 30, none⟩)])) (v := .bool true) rfl rfl rfl (x_impl_30 _) ?_)))))
 refine ry hO rfl (y_not' (by rw [(by decide : (!decide ((2 : Int) = (20 : Int))) = true)]; rfl) rfl rfl) (ry hO rfl (pt tz (by rw [(by decide : (!decide ((2 : Int) = (20 : Int))) = true)]; rfl) rfl) (rj (ez (E' := [(0, .iface 121 (.pointer (some a))), (1, .iface 132 (.pointer (some ⟨t, 0, none⟩))), (4, .bool false), (5, .pointer (some ⟨b3, 0, none⟩)), (7, .iface 161 (.agg #[.pointer (some ⟨1, 30, none⟩)])), (35, .bool false)]) ⟨rfl, rfl, rfl, rfl, rfl, rfl, tz⟩ (et (cj rfl (cp (et (cq (cr ?_)))))))))
 refine mv hO rfl rfl (mv hO rfl rfl (ry hO rfl (yq [.pointer (some ⟨1, 132, none⟩), .pointer (some ⟨b1, 0, none⟩), .int .u64 150] ta_144 rfl tz rfl (fun _ h => Own.cellsB h 0 0 rfl (by intro j v e; exact rowCells (vs := [.pointer (some ⟨1, 132, none⟩), .pointer (some ⟨b1, 0, none⟩), .int .u64 150]) rfl e))) (mv hO rfl rfl ?_)))
 have hO := hO.front2
 have hO := hO.front2
 have hO : Own _ M ([(b1, .cells #[.pointer (some ⟨t, 0, none⟩)] 132)] ++ ([(t, .cells #[.int .i64 0] 30)] ++ ([(b3, .cells #[.pointer (some ⟨1, 132, none⟩), .pointer (some ⟨b1, 0, none⟩), .int .u64 150] 144)] ++ bs))) := hO
 refine rd' tz (oc (vs := [.iface 121 (.pointer (some a)), .iface 132 (.pointer (some ⟨t, 0, none⟩)), .agg #[.pointer (some ⟨1, 132, none⟩), .pointer (some ⟨b1, 0, none⟩), .int .u64 150], .iface 161 (.agg #[.pointer (some ⟨1, 30, none⟩)])]) tcall_80 rfl rfl (c_as2 hat hO) ?_)
 rintro _ w6 ⟨rfl, hO⟩
 refine ⟨_, rfl, ?_⟩
 refine as_ hO rfl rfl (rj (et (ct (er (.inl rfl) rfl rfl ?_))))
 have hO := hO.front1
 have hO := hO.forget
 exact ⟨rfl, hO⟩

set_option maxHeartbeats 3200000 in
theorem c_told {v_err : Value} (err : Option (Int × Int)) {w : World} {M : Mem} {bs : List (Nat × Obj)} (h_err : RdE M v_err err) (hG : Glob M) (hO : Own w M bs) :
    Calls Tryd.prog 51 #[v_err] w (Ret M bs (fun M' v => ∃ v0 v1, v = .tuple #[v0, v1] ∧ (v0 = .int .i64 ((toldT err).1)) ∧ (v1 = .int .i64 ((toldT err).2)))) := by
  rcases h_err with ⟨rfl, rfl⟩ | ⟨pc, c, a, rfl, rfl, hat⟩
  ·
   have hle0 := mr M
   refine ce (vs := [.nilIface]) (n := 21) Tryd.func51 rfl rfl rfl (cq (cr (as_ hO rfl rfl (as_ hO rfl rfl (rj (et (cq (cr (rd' tz (og_alloc hO rfl tz_121 (fun b1 w2 hO => ?_)))))))))))
   have hO : Own _ M ([(b1, .cells #[.pointer none] 121)] ++ bs) := hO
   refine rj (et (cq (cr (rd' tz (og_alloc hO rfl tz_30 (fun b3 w4 hO => ?_))))))
   have hO : Own _ M ([(b3, .cells #[.int .i64 0] 30)] ++ ([(b1, .cells #[.pointer none] 121)] ++ bs)) := hO
   refine rj (et (cq (cq (cr (mv hO rfl rfl (ry hO rfl (y_makeI tc_131.1 tc_131.2 tz rfl) (rd' tz (oc (vs := [.nilIface, .iface 131 (.pointer (some ⟨b1, 0, none⟩))]) tcall_68 rfl rfl (as_nil _ _) ?_))))))))
   rintro _ w5 ⟨rfl, rfl⟩
   refine ⟨_, rfl, ?_⟩
   refine ry hO rfl (y_not' tz rfl rfl) (mv hO rfl rfl (ry hO rfl (ek rfl) (ry hO rfl (ek rfl) (ry hO rfl (ek rfl) (ry hO rfl (ek rfl) (ry hO rfl (pt tz rfl rfl) (rj (ez (E' := [(2, .int .i64 0), (3, .int .i64 0), (4, .pointer (some ⟨b1, 0, none⟩)), (5, .pointer (some ⟨b3, 0, none⟩)), (15, .bool true)]) ⟨rfl, rfl, rfl, rfl, rfl, tz⟩ (et ?_)))))))))
   refine cv rfl (cq (cr (as_ hO rfl rfl (as_ hO rfl rfl (rj (et (ct (ew' (ends_ret2 (.inl rfl) rfl rfl rfl ?_)))))))))
   refine Ret.mk (mr _) (hO.forget.forget) (⟨_, _, rfl, ?_, ?_⟩)
   ·
    refine congrArg (Value.int .i64) ?_
    rfl
   ·
    refine congrArg (Value.int .i64) ?_
    rfl
  ·
   have hle0 := mr M
   refine ce (vs := [.iface 121 (.pointer (some a))]) (n := 21) Tryd.func51 rfl rfl rfl (cq (cr (as_ hO rfl rfl (as_ hO rfl rfl (rj (et (cq (cr (rd' tz (og_alloc hO rfl tz_121 (fun b1 w2 hO => ?_)))))))))))
   have hO : Own _ M ([(b1, .cells #[.pointer none] 121)] ++ bs) := hO
   refine rj (et (cq (cr (rd' tz (og_alloc hO rfl tz_30 (fun b3 w4 hO => ?_))))))
   have hO : Own _ M ([(b3, .cells #[.int .i64 0] 30)] ++ ([(b1, .cells #[.pointer none] 121)] ++ bs)) := hO
   refine rj (et (cq (cq (cr (mv hO rfl rfl (ry hO rfl (y_makeI tc_131.1 tc_131.2 tz rfl) ?_))))))
   have hO := hO.front1
   have hO : Own _ M ([(b1, .cells #[.pointer none] 121)] ++ ([(b3, .cells #[.int .i64 0] 30)] ++ bs)) := hO
   refine rd' tz (oc (vs := [.iface 121 (.pointer (some a)), .iface 131 (.pointer (some ⟨b1, 0, none⟩))]) tcall_68 rfl rfl (c_As1 hG hO) ?_)
   rintro _ w5 ⟨rfl, hO⟩
   refine ⟨_, rfl, ?_⟩
   refine ry hO rfl (y_not' tz rfl rfl) (mv hO rfl rfl (ry hO rfl (ym rfl rfl) (ry hO rfl (y_makeI tc_132.1 tc_132.2 rfl rfl) ?_)))
   have hO := hO.front1
   have hO : Own _ M ([(b3, .cells #[.int .i64 0] 30)] ++ ([(b1, .cells #[.pointer (some a)] 121)] ++ bs)) := hO
   refine rd' rfl (oc (vs := [.iface 121 (.pointer (some a)), .iface 132 (.pointer (some ⟨b3, 0, none⟩))]) tcall_68 rfl rfl (c_As2 hat hG hO) ?_)
   rintro _ w6 ⟨rfl, hO⟩
   refine ⟨_, rfl, ?_⟩
   refine ry hO rfl (y_not' rfl rfl rfl) (ry hO rfl (pf tz rfl rfl) (rj (ez (E' := [(2, .int .i64 0), (3, .int .i64 0), (4, .pointer (some ⟨b1, 0, none⟩)), (5, .pointer (some ⟨b3, 0, none⟩)), (15, .bool false)]) ⟨rfl, rfl, rfl, rfl, rfl, tz⟩ (et (cj rfl (cp (et (cq ?_))))))))
   obtain ⟨w7, hO, ew8⟩ : ∃ w', Own w' M ([(b3, .cells #[.int .i64 c] 30)] ++ ([(b1, .cells #[.pointer (some a)] 121)] ++ bs)) ∧ { w6 with drawn := w6.drawn + 1 } = w' := ⟨_, hO.drawn _, rfl⟩
   refine cw (S := fun w => Own w M ([(b3, .cells #[.int .i64 c] 30)] ++ ([(b1, .cells #[.pointer (some a)] 121)] ++ bs))) (.take 0 (.take 1 (.take 2 (.take 3 (.take 4 (.take 5 (.take 6 .done))))))) 7 tm (by kernel_rfl) ew8 hO (gy rfl rfl (fun _ _ _ h => h) (yl tl_121 tz rfl (fun _ h => ob (h.front1) 0 0 rfl rfl)) (hn rfl rfl (fun _ _ _ h => h) rfl (hfa tf_123_0 rfl rfl (fun _ _ _ h => h) rfl (gy rfl rfl (fun _ _ _ h => h) (yl tl_3 tz rfl (fun _ h => hat.cell h 0 rfl)) (gy rfl rfl (fun _ _ _ h => h) (yl tl_30 tz rfl (fun _ h => ob h 0 0 rfl rfl)) (ha rfl rfl (fun _ _ _ h => h) rfl (ha rfl rfl (fun _ _ _ h => h) rfl (gd (et ?_)))))))))
   refine ct (ends_ret2 (.inl rfl) rfl rfl rfl ?_)
   refine Ret.mk (mr _) (hO.forget.forget) (⟨_, _, rfl, ?_, ?_⟩)
   ·
    refine congrArg (Value.int .i64) ?_
    rfl
   ·
    refine congrArg (Value.int .i64) ?_
    rfl

end Go.Proofs.YtdniefnjgkhkeaaDoor
