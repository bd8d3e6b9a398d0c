/-
  Contracts of Go functions, each walked operation by operation: (*swage/ir.sheet).srcNot, (*swage/ir.sheet).part, (*swage/ir.sheet).metaNot.
  Conditions: as each statement says.
-/
import Derived.Test.YtdniefnjgkhkeaaDoorVf
import Derived.Test.YtdniefnjgkhkeaaDoorProg
import Derived.Test.YtdniefnjgkhkeaaDoorC1
import Derived.Test.YtdniefnjgkhkeaaDoorC2
import Derived.Test.YtdniefnjgkhkeaaDoorC3
import Derived.Test.YtdniefnjgkhkeaaDoorC4
import Derived.Test.YtdniefnjgkhkeaaDoorC5
import Derived.Test.YtdniefnjgkhkeaaDoorC6
import Derived.Test.YtdniefnjgkhkeaaDoorC7
import Derived.Test.YtdniefnjgkhkeaaDoorC8
import Derived.Test.YtdniefnjgkhkeaaDoorV2
import Derived.Test.YtdniefnjgkhkeaaDoorC9
import Derived.Test.YtdniefnjgkhkeaaDoorC10
import Derived.Test.YtdniefnjgkhkeaaDoorV3
namespace Go.Proofs.YtdniefnjgkhkeaaDoor
open Go
set_option maxRecDepth 100000
set_option linter.unusedVariables false
set_option linter.unusedSimpArgs false
theorem tcall_35 : cl Tryd.prog 35 := ⟨_, Tryd.func35, by kernel_rfl, by kernel_rfl⟩
theorem tcall_38 : cl Tryd.prog 38 := ⟨_, Tryd.func38, by kernel_rfl, by kernel_rfl⟩
theorem tcall_39 : cl Tryd.prog 39 := ⟨_, Tryd.func39, by kernel_rfl, by kernel_rfl⟩
theorem tcall_54 : cl Tryd.prog 54 := ⟨_, Tryd.func54, by kernel_rfl, by kernel_rfl⟩
theorem tcall_55 : cl Tryd.prog 55 := ⟨_, Tryd.func55, by kernel_rfl, by kernel_rfl⟩
theorem tf_28_0 : fOff Tryd.prog 28 0 = some 0 := by kernel_rfl
theorem tf_61_2 : fOff Tryd.prog 61 2 = some 2 := by kernel_rfl
theorem tf_65_0 : fOff Tryd.prog 65 0 = some 0 := by kernel_rfl
theorem tf_87_0 : fOff Tryd.prog 87 0 = some 0 := by kernel_rfl
theorem tf_87_1 : fOff Tryd.prog 87 1 = some 1 := by kernel_rfl
theorem tf_87_2 : fOff Tryd.prog 87 2 = some 2 := by kernel_rfl
theorem tf_87_3 : fOff Tryd.prog 87 3 = some 3 := by kernel_rfl
theorem tf_95_0 : fOff Tryd.prog 95 0 = some 0 := by kernel_rfl
theorem tf_95_1 : fOff Tryd.prog 95 1 = some 1 := by kernel_rfl
theorem tl_55 : lone1 Tryd.prog 55 = true := by kernel_rfl
theorem tl_63 : lone1 Tryd.prog 63 = true := by kernel_rfl
theorem tl_85 : lone1 Tryd.prog 85 = true := by kernel_rfl
theorem ts_63 : slEl Tryd.prog 63 = some 4 := by kernel_rfl
theorem c_srcNot {p_s : Addr} (s : Sheet) {vs_x : List Value} (x : Src) {w : World} {M : Mem} {bs : List (Nat × Obj)} (h_s : PAt M p_s s) (h_x : Rep.rd M vs_x x)  (hO : Own w M (bs)) :
    Calls Tryd.prog 55 #[.pointer (some p_s), .agg vs_x.toArray] w (Ret M bs (fun M' v => v = .bool (srcNotB s x))) := by
 obtain rfl := h_x
 refine ce (vs := [.pointer (some p_s), .agg #[.bool x.cst, .int .i64 x.v]]) (n := 16) Tryd.func55 rfl rfl rfl (cq (cr (rd' tz (og_box hO rfl rfl (fun b1 w2 hO => ?_)))))
 have hO : Own _ M ([(b1, .cells #[.bool x.cst, .int .i64 x.v] 95)] ++ bs) := hO
 refine as_ hO rfl rfl (rj (et (cq (cq (cr (fb 0 tf_95_0 rfl hO rfl rfl (ry hO rfl (yl tl_4 tz rfl (fun _ h => ob h 0 0 rfl rfl)) (rj (et ?_)))))))))
 refine cd rfl (fun h3 => ?_) (fun h3 => ?_)
 ·
  refine cq (cr (fb 1 tf_95_1 rfl hO rfl rfl (ry hO rfl (yl tl_3 tz rfl (fun _ h => ob h 0 1 rfl rfl)) (rd' tz (oc (vs := [.int .i64 x.v]) tcall_52 rfl rfl (c_wrapIs x.v  hO) ?_)))))
  rintro _ w4 ⟨M5, _, le6, hO, rfl, rfl⟩
  refine ⟨_, rfl, ?_⟩
  have h7 := h_s.mono le6
  have hle8 := le6
  refine ry hO rfl (yt tz rfl) (as_ hO rfl rfl (rj (et (ct (ew' (er (.inl rfl) rfl rfl ?_))))))
  refine Ret.mk hle8 (hO.forget) (congrArg Value.bool ?_)
  (first | rfl | (simp_all [srcNotB]; done) | omega | grind [srcNotB])
 refine cp (et (cq (cr (mv hO rfl rfl (fb 1 tf_95_1 rfl hO rfl rfl (ry hO rfl (yl tl_3 tz rfl (fun _ h => ob h 0 1 rfl rfl)) (rd' tz (oc (vs := [.pointer (some p_s), .int .i64 x.v]) tcall_35 rfl rfl (c_reg s x.v h_s hO) ?_))))))))
 rintro _ w9 ⟨M10, _, le11, hO, rfl, rfl⟩
 refine ⟨_, rfl, ?_⟩
 have h12 := h_s.mono le11
 have hle13 := le11
 refine ry hO rfl (yt tz rfl) (as_ hO rfl rfl (rj (et (ct (er (.inl rfl) rfl rfl ?_)))))
 refine Ret.mk hle13 (hO.forget) (congrArg Value.bool ?_)
 (first | rfl | (simp_all [srcNotB]; done) | omega | grind [srcNotB])

set_option maxHeartbeats 3200000 in
theorem c_part {p_s : Addr} (s : Sheet) {p_x : Addr} (x : Part) (less : Int) {w : World} {M : Mem} {bs : List (Nat × Obj)} (h_s : PAt M p_s s) (h_x : PAt M p_x x) (hh : HOk s.p.val s.heights) (h0 : 0 ≤ less) (h1 : less ≤ 1) (hO : Own w M (bs)) :
    Calls Tryd.prog 38 #[.pointer (some p_s), .pointer (some p_x), .int .i64 less] w (Ret M bs (fun M' v => v = .bool (partB s x less))) := by
 refine ce (vs := [.pointer (some p_s), .pointer (some p_x), .int .i64 less]) (n := 128) Tryd.func38 rfl rfl rfl ?_
 have hl1 := hh.len
 have hl2 := hh.row x.fn.toNat
 have hl3 := hh.bd x.fn.toNat x.pc.toNat
 refine cq (cr (as_ hO rfl rfl (rj (et (cq (cq ?_))))))
 rcases bt (decide (x.fn < 0)) with h3 | h3
 ·
  have h4 : x.fn < 0 := ot h3
  obtain ⟨w5, hO, ew6⟩ : ∃ w', Own w' M (bs) ∧ { w with drawn := w.drawn + 1 } = w' := ⟨_, hO.drawn _, rfl⟩
  refine cw (S := fun w => Own w M (bs)) (.take 0 (.take 1 (.take 2 (.take 3 (.take 4 (.take 5 (.take 6 (.take 7 (.take 8 (.take 9 (.take 10 (.take 11 (.take 12 (.take 13 (.take 14 (.take 15 (.take 16 (.take 17 (.take 18 (.take 19 (.take 20 (.take 21 (.take 22 (.take 23 (.take 24 (.take 25 (.take 26 (.take 27 (.take 28 (.take 29 (.take 30 (.take 31 (.take 32 (.take 33 (.take 34 (.take 35 (.take 36 (.take 37 (.take 38 (.take 39 (.take 40 (.take 41 (.take 42 (.take 43 (.take 44 (.take 45 (.take 46 (.take 47 (.take 48 .done))))))))))))))))))))))))))))))))))))))))))))))))) 49 tm (by kernel_rfl) ew6 hO (hm rfl rfl (fun _ _ _ h => h) rfl (hn rfl rfl (fun _ _ _ h => h) rfl (hfa tf_87_0 rfl rfl (fun _ _ _ h => h) rfl ?_)))
  obtain ⟨_, at13, b7, c8, b10, c11, rfl, s9, s12⟩ := id h_x
  refine hlc tl_3 at13 0 rfl rfl rfl (fun _ _ _ h => h) rfl (gy rfl rfl (fun _ _ _ h => h) (yv tz rfl rfl) (hm rfl rfl (fun _ _ _ h => h) rfl (gy rfl rfl (fun _ _ _ h => h) (ek (by rw [h3]; rfl)) (gy rfl rfl (fun _ _ _ h => h) (ek (by rw [h3]; rfl)) (gy rfl rfl (fun _ _ _ h => h) (ek (by rw [h3]; rfl)) (gy rfl rfl (fun _ _ _ h => h) (ek (by rw [h3]; rfl)) (gy rfl rfl (fun _ _ _ h => h) (ek (by rw [h3]; rfl)) (gy rfl rfl (fun _ _ _ h => h) (ek (by rw [h3]; rfl)) (gy rfl rfl (fun _ _ _ h => h) (ek (by rw [h3]; rfl)) ?_)))))))))
  refine gy rfl rfl (fun _ _ _ h => h) (ek (by rw [h3]; rfl)) (gy rfl rfl (fun _ _ _ h => h) (ek (by rw [h3]; rfl)) (gy rfl rfl (fun _ _ _ h => h) (ek (by rw [h3]; rfl)) (gy rfl rfl (fun _ _ _ h => h) (ek (by rw [h3]; rfl)) (gy rfl rfl (fun _ _ _ h => h) (ek (by rw [h3]; rfl)) (gy rfl rfl (fun _ _ _ h => h) (ek (by rw [h3]; rfl)) (gy rfl rfl (fun _ _ _ h => h) (pt tz (by rw [h3]; rfl) rfl) (hm rfl rfl (fun _ _ _ h => h) rfl (gy rfl rfl (fun _ _ _ h => h) (ek rfl) (gy rfl rfl (fun _ _ _ h => h) (ek rfl) ?_)))))))))
  refine gy rfl rfl (fun _ _ _ h => h) (ek rfl) (gy rfl rfl (fun _ _ _ h => h) (ek rfl) (gy rfl rfl (fun _ _ _ h => h) (ek rfl) (gy rfl rfl (fun _ _ _ h => h) (pt tz rfl rfl) (hm rfl rfl (fun _ _ _ h => h) rfl (gy rfl rfl (fun _ _ _ h => h) (ek rfl) (gy rfl rfl (fun _ _ _ h => h) (ek rfl) (gy rfl rfl (fun _ _ _ h => h) (ek rfl) (gy rfl rfl (fun _ _ _ h => h) (ek rfl) (gy rfl rfl (fun _ _ _ h => h) (ek rfl) ?_)))))))))
  refine gy rfl rfl (fun _ _ _ h => h) (ek rfl) (gy rfl rfl (fun _ _ _ h => h) (ek rfl) (gy rfl rfl (fun _ _ _ h => h) (ek rfl) (gy rfl rfl (fun _ _ _ h => h) (ek rfl) (gy rfl rfl (fun _ _ _ h => h) (ek rfl) (gy rfl rfl (fun _ _ _ h => h) (ek rfl) (gy rfl rfl (fun _ _ _ h => h) (ek rfl) (gy rfl rfl (fun _ _ _ h => h) (ek rfl) (gy rfl rfl (fun _ _ _ h => h) (ek rfl) (gy rfl rfl (fun _ _ _ h => h) (ek rfl) ?_)))))))))
  refine gy rfl rfl (fun _ _ _ h => h) (ek rfl) (gy rfl rfl (fun _ _ _ h => h) (ek rfl) (gy rfl rfl (fun _ _ _ h => h) (ek rfl) (gy rfl rfl (fun _ _ _ h => h) (ek rfl) (gy rfl rfl (fun _ _ _ h => h) (ek rfl) (gy rfl rfl (fun _ _ _ h => h) (pt tz rfl rfl) (gd (ez (E' := [(0, .pointer (some p_s)), (1, .pointer (some p_x)), (2, .int .i64 less), (6, .bool false), (56, .bool true)]) ⟨rfl, rfl, rfl, rfl, rfl, tz⟩ (et (cv rfl ?_)))))))))
  refine cq (cr (as_ hO rfl rfl (rj (et (ct (ew' (er (.inl rfl) rfl rfl ?_)))))))
  refine Ret.mk (mr _) hO (congrArg Value.bool ?_)
  (first | rfl | (simp_all [partB]; done) | omega | grind [partB])
 have h14 : ¬ (x.fn < 0) := oq h3
 rcases bt (decide ((s.p.val.funcs.length : Int) ≤ x.fn)) with h17 | h17
 ·
  have h18 : (s.p.val.funcs.length : Int) ≤ x.fn := ot h17
  obtain ⟨w19, hO, ew20⟩ : ∃ w', Own w' M (bs) ∧ { w with drawn := w.drawn + 1 } = w' := ⟨_, hO.drawn _, rfl⟩
  refine cw (S := fun w => Own w M (bs)) (.take 0 (.take 1 (.take 2 (.take 3 (.take 4 (.take 5 (.take 6 (.take 7 (.take 8 (.take 9 (.take 10 (.take 11 (.take 12 (.take 13 (.take 14 (.take 15 (.take 16 (.take 17 (.take 18 (.take 19 (.take 20 (.take 21 (.take 22 (.take 23 (.take 24 (.take 25 (.take 26 (.take 27 (.take 28 (.take 29 (.take 30 (.take 31 (.take 32 (.take 33 (.take 34 (.take 35 (.take 36 (.take 37 (.take 38 (.take 39 (.take 40 (.take 41 (.take 42 (.take 43 (.take 44 (.take 45 (.take 46 (.take 47 (.take 48 .done))))))))))))))))))))))))))))))))))))))))))))))))) 49 tm (by kernel_rfl) ew20 hO (hm rfl rfl (fun _ _ _ h => h) rfl (hn rfl rfl (fun _ _ _ h => h) rfl (hfa tf_87_0 rfl rfl (fun _ _ _ h => h) rfl ?_)))
  obtain ⟨_, at27, b21, c22, b24, c25, rfl, s23, s26⟩ := id h_x
  refine hlc tl_3 at27 0 rfl rfl rfl (fun _ _ _ h => h) rfl (gy rfl rfl (fun _ _ _ h => h) (yv tz rfl rfl) (hm rfl rfl (fun _ _ _ h => h) rfl (gy rfl rfl (fun _ _ _ h => h) (ym (by rw [h3]; rfl) rfl) (gy rfl rfl (fun _ _ _ h => h) (yn (by rw [h3]; rfl) rfl) (gy rfl rfl (fun _ _ _ h => h) (ya tf_87_0 (by rw [h3]; rfl) rfl) (gy rfl rfl (fun _ _ _ h => h) (yl tl_3 (by rw [h3]; rfl) rfl (fun _ h => at27.cell h 0 rfl)) (gy rfl rfl (fun _ _ _ h => h) (ym (by rw [h3]; rfl) rfl) (gy rfl rfl (fun _ _ _ h => h) (yn (by rw [h3]; rfl) rfl) (gy rfl rfl (fun _ _ _ h => h) (ya tf_61_1 (by rw [h3]; rfl) rfl) ?_)))))))))
  obtain ⟨_, at35, p28, p30, b32, c33, rfl, q29, q31, s34⟩ := id h_s
  refine gy rfl rfl (fun _ _ _ h => h) (yl tl_58 (by rw [h3]; rfl) rfl (fun _ h => at35.cell h 1 rfl)) (gy rfl rfl (fun _ _ _ h => h) (yn (by rw [h3]; rfl) rfl) (gy rfl rfl (fun _ _ _ h => h) (ya tf_24_0 (by rw [h3]; rfl) rfl) ?_))
  obtain ⟨_, at39, b36, c37, rfl, s38⟩ := id q31
  refine gy rfl rfl (fun _ _ _ h => h) (yl tl_22 (by rw [h3]; rfl) rfl (fun _ h => at39.cell h 0 rfl)) ?_
  have bd40 : s.p.val.funcs.length * 40 ≤ 140737488351232 := s38.bd
  refine gy rfl rfl (fun _ _ _ h => h) (y_len ts_22 (by rw [h3]; rfl) rfl) (gy rfl rfl (fun _ _ _ h => h) (y_ge (by rw [h3]; rfl) rfl rfl) (gy rfl rfl (fun _ _ _ h => h) (pf tz (by rw [h3]; rfl) rfl) (hm rfl rfl (fun _ _ _ h => h) rfl (gy rfl rfl (fun _ _ _ h => h) (ek (by rw [h17]; rfl)) (gy rfl rfl (fun _ _ _ h => h) (ek (by rw [h17]; rfl)) (gy rfl rfl (fun _ _ _ h => h) (ek (by rw [h17]; rfl)) (gy rfl rfl (fun _ _ _ h => h) (ek (by rw [h17]; rfl)) (gy rfl rfl (fun _ _ _ h => h) (ek (by rw [h17]; rfl)) (gy rfl rfl (fun _ _ _ h => h) (pt tz (by rw [h17]; rfl) rfl) ?_)))))))))
  refine hm rfl rfl (fun _ _ _ h => h) rfl (gy rfl rfl (fun _ _ _ h => h) (ek rfl) (gy rfl rfl (fun _ _ _ h => h) (ek rfl) (gy rfl rfl (fun _ _ _ h => h) (ek rfl) (gy rfl rfl (fun _ _ _ h => h) (ek rfl) (gy rfl rfl (fun _ _ _ h => h) (ek rfl) (gy rfl rfl (fun _ _ _ h => h) (ek rfl) (gy rfl rfl (fun _ _ _ h => h) (ek rfl) (gy rfl rfl (fun _ _ _ h => h) (ek rfl) (gy rfl rfl (fun _ _ _ h => h) (ek rfl) ?_)))))))))
  refine gy rfl rfl (fun _ _ _ h => h) (ek rfl) (gy rfl rfl (fun _ _ _ h => h) (ek rfl) (gy rfl rfl (fun _ _ _ h => h) (ek rfl) (gy rfl rfl (fun _ _ _ h => h) (ek rfl) (gy rfl rfl (fun _ _ _ h => h) (ek rfl) (gy rfl rfl (fun _ _ _ h => h) (ek rfl) (gy rfl rfl (fun _ _ _ h => h) (ek rfl) (gy rfl rfl (fun _ _ _ h => h) (ek rfl) (gy rfl rfl (fun _ _ _ h => h) (ek rfl) (gy rfl rfl (fun _ _ _ h => h) (ek rfl) ?_)))))))))
  refine gy rfl rfl (fun _ _ _ h => h) (ek rfl) (gy rfl rfl (fun _ _ _ h => h) (pt tz rfl rfl) (gd (ez (E' := [(0, .pointer (some p_s)), (1, .pointer (some p_x)), (2, .int .i64 less), (6, .bool false), (56, .bool true)]) ⟨rfl, rfl, rfl, rfl, rfl, tz⟩ (et (cv rfl (cq (cr (as_ hO rfl rfl (rj ?_)))))))))
  refine et (ct (ew' (er (.inl rfl) rfl rfl ?_)))
  refine Ret.mk (mr _) hO (congrArg Value.bool ?_)
  (first | rfl | (simp_all [partB]; done) | omega | grind [partB])
 have h41 : ¬ ((s.p.val.funcs.length : Int) ≤ x.fn) := oq h17
 rcases bt (decide (x.pc < 0)) with h44 | h44
 ·
  have h45 : x.pc < 0 := ot h44
  obtain ⟨w46, hO, ew47⟩ : ∃ w', Own w' M (bs) ∧ { w with drawn := w.drawn + 1 } = w' := ⟨_, hO.drawn _, rfl⟩
  refine cw (S := fun w => Own w M (bs)) (.take 0 (.take 1 (.take 2 (.take 3 (.take 4 (.take 5 (.take 6 (.take 7 (.take 8 (.take 9 (.take 10 (.take 11 (.take 12 (.take 13 (.take 14 (.take 15 (.take 16 (.take 17 (.take 18 (.take 19 (.take 20 (.take 21 (.take 22 (.take 23 (.take 24 (.take 25 (.take 26 (.take 27 (.take 28 (.take 29 (.take 30 (.take 31 (.take 32 (.take 33 (.take 34 (.take 35 (.take 36 (.take 37 (.take 38 (.take 39 (.take 40 (.take 41 (.take 42 (.take 43 (.take 44 (.take 45 (.take 46 (.take 47 (.take 48 .done))))))))))))))))))))))))))))))))))))))))))))))))) 49 tm (by kernel_rfl) ew47 hO (hm rfl rfl (fun _ _ _ h => h) rfl (hn rfl rfl (fun _ _ _ h => h) rfl (hfa tf_87_0 rfl rfl (fun _ _ _ h => h) rfl ?_)))
  obtain ⟨_, at54, b48, c49, b51, c52, rfl, s50, s53⟩ := id h_x
  refine hlc tl_3 at54 0 rfl rfl rfl (fun _ _ _ h => h) rfl (gy rfl rfl (fun _ _ _ h => h) (yv tz rfl rfl) (hm rfl rfl (fun _ _ _ h => h) rfl (gy rfl rfl (fun _ _ _ h => h) (ym (by rw [h3]; rfl) rfl) (gy rfl rfl (fun _ _ _ h => h) (yn (by rw [h3]; rfl) rfl) (gy rfl rfl (fun _ _ _ h => h) (ya tf_87_0 (by rw [h3]; rfl) rfl) (gy rfl rfl (fun _ _ _ h => h) (yl tl_3 (by rw [h3]; rfl) rfl (fun _ h => at54.cell h 0 rfl)) (gy rfl rfl (fun _ _ _ h => h) (ym (by rw [h3]; rfl) rfl) (gy rfl rfl (fun _ _ _ h => h) (yn (by rw [h3]; rfl) rfl) (gy rfl rfl (fun _ _ _ h => h) (ya tf_61_1 (by rw [h3]; rfl) rfl) ?_)))))))))
  obtain ⟨_, at62, p55, p57, b59, c60, rfl, q56, q58, s61⟩ := id h_s
  refine gy rfl rfl (fun _ _ _ h => h) (yl tl_58 (by rw [h3]; rfl) rfl (fun _ h => at62.cell h 1 rfl)) (gy rfl rfl (fun _ _ _ h => h) (yn (by rw [h3]; rfl) rfl) (gy rfl rfl (fun _ _ _ h => h) (ya tf_24_0 (by rw [h3]; rfl) rfl) ?_))
  obtain ⟨_, at66, b63, c64, rfl, s65⟩ := id q58
  refine gy rfl rfl (fun _ _ _ h => h) (yl tl_22 (by rw [h3]; rfl) rfl (fun _ h => at66.cell h 0 rfl)) ?_
  have bd67 : s.p.val.funcs.length * 40 ≤ 140737488351232 := s65.bd
  refine gy rfl rfl (fun _ _ _ h => h) (y_len ts_22 (by rw [h3]; rfl) rfl) (gy rfl rfl (fun _ _ _ h => h) (y_ge (by rw [h3]; rfl) rfl rfl) (gy rfl rfl (fun _ _ _ h => h) (pf tz (by rw [h3]; rfl) rfl) (hm rfl rfl (fun _ _ _ h => h) rfl (gy rfl rfl (fun _ _ _ h => h) (ym (by rw [h17]; rfl) rfl) (gy rfl rfl (fun _ _ _ h => h) (yn (by rw [h17]; rfl) rfl) (gy rfl rfl (fun _ _ _ h => h) (ya tf_87_1 (by rw [h17]; rfl) rfl) (gy rfl rfl (fun _ _ _ h => h) (yl tl_3 (by rw [h17]; rfl) rfl (fun _ h => at54.cell h 1 rfl)) (gy rfl rfl (fun _ _ _ h => h) (yv (by rw [h17]; rfl) rfl rfl) (gy rfl rfl (fun _ _ _ h => h) (pf tz (by rw [h17]; rfl) rfl) ?_)))))))))
  refine hm rfl rfl (fun _ _ _ h => h) rfl (gy rfl rfl (fun _ _ _ h => h) (ek (by rw [h44]; rfl)) (gy rfl rfl (fun _ _ _ h => h) (ek (by rw [h44]; rfl)) (gy rfl rfl (fun _ _ _ h => h) (ek (by rw [h44]; rfl)) (gy rfl rfl (fun _ _ _ h => h) (ek (by rw [h44]; rfl)) (gy rfl rfl (fun _ _ _ h => h) (ek (by rw [h44]; rfl)) (gy rfl rfl (fun _ _ _ h => h) (ek (by rw [h44]; rfl)) (gy rfl rfl (fun _ _ _ h => h) (ek (by rw [h44]; rfl)) (gy rfl rfl (fun _ _ _ h => h) (ek (by rw [h44]; rfl)) (gy rfl rfl (fun _ _ _ h => h) (ek (by rw [h44]; rfl)) ?_)))))))))
  refine gy rfl rfl (fun _ _ _ h => h) (ek (by rw [h44]; rfl)) (gy rfl rfl (fun _ _ _ h => h) (ek (by rw [h44]; rfl)) (gy rfl rfl (fun _ _ _ h => h) (ek (by rw [h44]; rfl)) (gy rfl rfl (fun _ _ _ h => h) (ek (by rw [h44]; rfl)) (gy rfl rfl (fun _ _ _ h => h) (ek (by rw [h44]; rfl)) (gy rfl rfl (fun _ _ _ h => h) (ek (by rw [h44]; rfl)) (gy rfl rfl (fun _ _ _ h => h) (ek (by rw [h44]; rfl)) (gy rfl rfl (fun _ _ _ h => h) (ek (by rw [h44]; rfl)) (gy rfl rfl (fun _ _ _ h => h) (ek (by rw [h44]; rfl)) (gy rfl rfl (fun _ _ _ h => h) (ek (by rw [h44]; rfl)) ?_)))))))))
  refine gy rfl rfl (fun _ _ _ h => h) (ek (by rw [h44]; rfl)) (gy rfl rfl (fun _ _ _ h => h) (pt tz (by rw [h44]; rfl) rfl) (gd (ez (E' := [(0, .pointer (some p_s)), (1, .pointer (some p_x)), (2, .int .i64 less), (6, .bool false), (56, .bool true)]) ⟨rfl, rfl, rfl, rfl, rfl, tz⟩ (et (cv rfl (cq (cr (as_ hO rfl rfl (rj ?_)))))))))
  refine et (ct (ew' (er (.inl rfl) rfl rfl ?_)))
  refine Ret.mk (mr _) hO (congrArg Value.bool ?_)
  (first | rfl | (simp_all [partB]; done) | omega | grind [partB])
 have h68 : ¬ (x.pc < 0) := oq h44
 obtain ⟨w69, hO, ew70⟩ : ∃ w', Own w' M (bs) ∧ { w with drawn := w.drawn + 1 } = w' := ⟨_, hO.drawn _, rfl⟩
 refine cw (S := fun w => Own w M (bs)) (.take 0 (.take 1 (.take 2 (.take 3 (.take 4 (.take 5 (.take 6 (.take 7 (.take 8 (.take 9 (.take 10 (.take 11 (.take 12 (.take 13 (.take 14 (.take 15 (.take 16 (.take 17 (.take 18 (.take 19 (.take 20 (.take 21 (.take 22 (.take 23 (.take 24 (.take 25 (.take 26 (.take 27 (.take 28 (.take 29 (.take 30 (.take 31 (.take 32 (.take 33 (.take 34 (.take 35 (.take 36 (.take 37 (.take 38 (.take 39 (.take 40 (.take 41 (.take 42 (.take 43 (.take 44 (.take 45 (.take 46 (.take 47 (.take 48 .done))))))))))))))))))))))))))))))))))))))))))))))))) 49 tm (by kernel_rfl) ew70 hO (hm rfl rfl (fun _ _ _ h => h) rfl (hn rfl rfl (fun _ _ _ h => h) rfl (hfa tf_87_0 rfl rfl (fun _ _ _ h => h) rfl ?_)))
 obtain ⟨_, at77, b71, c72, b74, c75, rfl, s73, s76⟩ := id h_x
 refine hlc tl_3 at77 0 rfl rfl rfl (fun _ _ _ h => h) rfl (gy rfl rfl (fun _ _ _ h => h) (yv tz rfl rfl) (hm rfl rfl (fun _ _ _ h => h) rfl (gy rfl rfl (fun _ _ _ h => h) (ym (by rw [h3]; rfl) rfl) (gy rfl rfl (fun _ _ _ h => h) (yn (by rw [h3]; rfl) rfl) (gy rfl rfl (fun _ _ _ h => h) (ya tf_87_0 (by rw [h3]; rfl) rfl) (gy rfl rfl (fun _ _ _ h => h) (yl tl_3 (by rw [h3]; rfl) rfl (fun _ h => at77.cell h 0 rfl)) (gy rfl rfl (fun _ _ _ h => h) (ym (by rw [h3]; rfl) rfl) (gy rfl rfl (fun _ _ _ h => h) (yn (by rw [h3]; rfl) rfl) (gy rfl rfl (fun _ _ _ h => h) (ya tf_61_1 (by rw [h3]; rfl) rfl) ?_)))))))))
 obtain ⟨_, at85, p78, p80, b82, c83, rfl, q79, q81, s84⟩ := id h_s
 refine gy rfl rfl (fun _ _ _ h => h) (yl tl_58 (by rw [h3]; rfl) rfl (fun _ h => at85.cell h 1 rfl)) (gy rfl rfl (fun _ _ _ h => h) (yn (by rw [h3]; rfl) rfl) (gy rfl rfl (fun _ _ _ h => h) (ya tf_24_0 (by rw [h3]; rfl) rfl) ?_))
 obtain ⟨_, at89, b86, c87, rfl, s88⟩ := id q81
 refine gy rfl rfl (fun _ _ _ h => h) (yl tl_22 (by rw [h3]; rfl) rfl (fun _ h => at89.cell h 0 rfl)) ?_
 have bd90 : s.p.val.funcs.length * 40 ≤ 140737488351232 := s88.bd
 refine gy rfl rfl (fun _ _ _ h => h) (y_len ts_22 (by rw [h3]; rfl) rfl) (gy rfl rfl (fun _ _ _ h => h) (y_ge (by rw [h3]; rfl) rfl rfl) (gy rfl rfl (fun _ _ _ h => h) (pf tz (by rw [h3]; rfl) rfl) (hm rfl rfl (fun _ _ _ h => h) rfl (gy rfl rfl (fun _ _ _ h => h) (ym (by rw [h17]; rfl) rfl) (gy rfl rfl (fun _ _ _ h => h) (yn (by rw [h17]; rfl) rfl) (gy rfl rfl (fun _ _ _ h => h) (ya tf_87_1 (by rw [h17]; rfl) rfl) (gy rfl rfl (fun _ _ _ h => h) (yl tl_3 (by rw [h17]; rfl) rfl (fun _ h => at77.cell h 1 rfl)) (gy rfl rfl (fun _ _ _ h => h) (yv (by rw [h17]; rfl) rfl rfl) (gy rfl rfl (fun _ _ _ h => h) (pf tz (by rw [h17]; rfl) rfl) ?_)))))))))
 refine hm rfl rfl (fun _ _ _ h => h) rfl (gy rfl rfl (fun _ _ _ h => h) (ym (by rw [h44]; rfl) rfl) (gy rfl rfl (fun _ _ _ h => h) (yn (by rw [h44]; rfl) rfl) (gy rfl rfl (fun _ _ _ h => h) (ya tf_87_1 (by rw [h44]; rfl) rfl) (gy rfl rfl (fun _ _ _ h => h) (yl tl_3 (by rw [h44]; rfl) rfl (fun _ h => at77.cell h 1 rfl)) (gy rfl rfl (fun _ _ _ h => h) (ym (by rw [h44]; rfl) rfl) (gy rfl rfl (fun _ _ _ h => h) (yn (by rw [h44]; rfl) rfl) (gy rfl rfl (fun _ _ _ h => h) (ya tf_61_1 (by rw [h44]; rfl) rfl) (gy rfl rfl (fun _ _ _ h => h) (yl tl_58 (by rw [h44]; rfl) rfl (fun _ h => at85.cell h 1 rfl)) (gy rfl rfl (fun _ _ _ h => h) (yn (by rw [h44]; rfl) rfl) ?_)))))))))
 refine gy rfl rfl (fun _ _ _ h => h) (ya tf_24_0 (by rw [h44]; rfl) rfl) (gy rfl rfl (fun _ _ _ h => h) (yl tl_22 (by rw [h44]; rfl) rfl (fun _ h => at89.cell h 0 rfl)) (gy rfl rfl (fun _ _ _ h => h) (ym (by rw [h44]; rfl) rfl) (gy rfl rfl (fun _ _ _ h => h) (yn (by rw [h44]; rfl) rfl) (gy rfl rfl (fun _ _ _ h => h) (ya tf_87_0 (by rw [h44]; rfl) rfl) (gy rfl rfl (fun _ _ _ h => h) (yl tl_3 (by rw [h44]; rfl) rfl (fun _ h => at77.cell h 0 rfl)) ?_)))))
 obtain ⟨p91, rfl, _⟩ := RdS.get s88 x.fn.toNat (by omega)
 have hO : Own w69 M (bs) := by assumption
 have q92 : PAt M (p91.add (x.fn.toNat * 3)) (nth s.p.val.funcs x.fn.toNat) := RdS.at s88 x.fn.toNat (by omega)
 refine gy rfl rfl (fun _ _ _ h => h) (yi ts_22 (by rw [h44]; rfl) rfl rfl (by omega) (by omega)) (gy rfl rfl (fun _ _ _ h => h) (ya tf_44_2 (by rw [h44]; rfl) rfl) ?_)
 obtain ⟨_, at96, b93, c94, rfl, s95⟩ := id q92
 refine gy rfl rfl (fun _ _ _ h => h) (yl tl_42 (by rw [h44]; rfl) rfl (fun _ h => at96.cell h 2 rfl)) ?_
 have bd97 : ((nth s.p.val.funcs x.fn.toNat).code).length * 16 ≤ 140737488351232 := s95.bd
 refine gy rfl rfl (fun _ _ _ h => h) (y_len ts_42 (by rw [h44]; rfl) rfl) (gy rfl rfl (fun _ _ _ h => h) (y_ge (by rw [h44]; rfl) rfl rfl) (gy rfl rfl (fun _ _ _ h => h) (pf tz (by rw [h44]; rfl) rfl) (gd (ez (E' := [(0, .pointer (some p_s)), (1, .pointer (some p_x)), (2, .int .i64 less), (6, .bool false), (56, .bool (decide ((((nth s.p.val.funcs x.fn.toNat).code).length : Int) ≤ x.pc)))]) ⟨rfl, rfl, rfl, rfl, rfl, tz⟩ (et (cd rfl (fun h98 => ?_) (fun h98 => ?_)))))))
 ·
  have h99 : (((nth s.p.val.funcs x.fn.toNat).code).length : Int) ≤ x.pc := ot h98
  refine cq (cr (as_ hO rfl rfl (rj (et (ct (ew' (er (.inl rfl) rfl rfl ?_)))))))
  refine Ret.mk (mr _) hO (congrArg Value.bool ?_)
  (first | rfl | (simp_all [partB]; done) | omega | grind [partB])
 have h100 : ¬ ((((nth s.p.val.funcs x.fn.toNat).code).length : Int) ≤ x.pc) := oq h98
 refine cp (et (cq ?_))
 obtain ⟨w101, hO, ew102⟩ : ∃ w', Own w' M (bs) ∧ { w69 with drawn := w69.drawn + 1 } = w' := ⟨_, hO.drawn _, rfl⟩
 refine cw (S := fun w => Own w M (bs)) (.take 0 (.take 1 (.take 2 (.take 3 (.take 4 (.take 5 (.take 6 (.take 7 (.take 8 (.take 9 (.take 10 (.take 11 (.take 12 (.take 13 (.take 14 (.take 15 (.take 16 .done))))))))))))))))) 17 tm (by kernel_rfl) ew102 hO (hm rfl rfl (fun _ _ _ h => h) rfl (hn rfl rfl (fun _ _ _ h => h) rfl (hfa tf_61_2 rfl rfl (fun _ _ _ h => h) rfl (hlc tl_55 at85 2 rfl rfl rfl (fun _ _ _ h => h) rfl (hm rfl rfl (fun _ _ _ h => h) rfl (hn rfl rfl (fun _ _ _ h => h) rfl (hfa tf_87_0 rfl rfl (fun _ _ _ h => h) rfl (hlc tl_3 at77 0 rfl rfl rfl (fun _ _ _ h => h) rfl ?_))))))))
 obtain ⟨p103, rfl, _⟩ := RdS.get s84 x.fn.toNat (by omega)
 have hO : Own w101 M (bs) := by assumption
 have q104 : PAt M (p103.add (x.fn.toNat * 1)) (nth s.heights x.fn.toNat) := RdS.at s84 x.fn.toNat (by omega)
 refine gy rfl rfl (fun _ _ _ h => h) (yi ts_55 tz rfl rfl (by omega) (by omega)) ?_
 obtain ⟨_, at108, b105, c106, rfl, s107⟩ := id q104
 refine gy rfl rfl (fun _ _ _ h => h) (yl tl_36 tz rfl (fun _ h => at108.cell0 h rfl)) (hm rfl rfl (fun _ _ _ h => h) rfl (hn rfl rfl (fun _ _ _ h => h) rfl (hfa tf_87_1 rfl rfl (fun _ _ _ h => h) rfl (hlc tl_3 at77 1 rfl rfl rfl (fun _ _ _ h => h) rfl ?_))))
 obtain ⟨p109, rfl, _⟩ := RdS.get s107 x.pc.toNat (by omega)
 have hO : Own w101 M (bs) := by assumption
 have q110 : PAt M (p109.add (x.pc.toNat * 1)) (nth (nth s.heights x.fn.toNat) x.pc.toNat) := RdS.at s107 x.pc.toNat (by omega)
 refine gy rfl rfl (fun _ _ _ h => h) (yi ts_36 tz rfl rfl (by omega) (by omega)) ?_
 obtain ⟨_, at111, rfl⟩ := id q110
 refine gy rfl rfl (fun _ _ _ h => h) (yl tl_3 tz rfl (fun _ h => at111.cell0 h rfl)) (ha rfl rfl (fun _ _ _ h => h) rfl (gd (ez (E' := [(0, .pointer (some p_s)), (1, .pointer (some p_x)), (2, .int .i64 less), (6, .bool false), (7, .int .i64 (nth (nth s.heights x.fn.toNat) x.pc.toNat))]) ⟨rfl, rfl, rfl, rfl, rfl, tz⟩ (et (cq ?_)))))
 rcases bt (!decide ((nth (nth s.heights x.fn.toNat) x.pc.toNat) = -1)) with h114 | h114
 ·
  have h115 : (decide ((nth (nth s.heights x.fn.toNat) x.pc.toNat) = -1)) = false := by simpa using h114
  have h116 : ¬ ((nth (nth s.heights x.fn.toNat) x.pc.toNat) = -1) := oq h115
  rcases bt (decide ((x.locals.length : Int) = (nth s.p.val.funcs x.fn.toNat).locals)) with h119 | h119
  ·
   have h120 : (x.locals.length : Int) = (nth s.p.val.funcs x.fn.toNat).locals := ot h119
   rcases bt (decide ((x.stack.length : Int) = (nth (nth s.heights x.fn.toNat) x.pc.toNat) - less)) with h123 | h123
   ·
    have h124 : (x.stack.length : Int) = (nth (nth s.heights x.fn.toNat) x.pc.toNat) - less := ot h123
    rcases bt (!(x.locals.any (fun x => (srcNotB s x)))) with h127 | h127
    ·
     have h128 : (x.locals.any (fun x => (srcNotB s x))) = false := by simpa using h127
     obtain ⟨w129, hO, ew130⟩ : ∃ w', Own w' M (bs) ∧ { w101 with drawn := w101.drawn + 1 } = w' := ⟨_, hO.drawn _, rfl⟩
     refine cw (S := fun w => Own w M (bs)) (.take 0 (.take 1 (.take 2 (.take 3 (.take 4 (.take 5 (.take 6 (.take 7 (.take 8 (.take 9 (.take 10 (.take 11 (.take 12 (.take 13 (.take 14 (.take 15 (.take 16 (.take 17 (.take 18 (.take 19 (.take 20 (.take 21 (.take 22 (.take 23 (.take 24 (.take 25 (.take 26 (.take 27 (.take 28 (.take 29 (.take 30 (.take 31 (.take 32 (.take 33 (.take 34 (.take 35 (.take 36 (.take 37 (.take 38 (.take 39 (.take 40 (.take 41 (.one 42 (.take 43 (.take 44 (.take 45 (.take 46 (.take 47 (.take 48 (.take 49 (.take 50 (.take 51 (.one 52 (.take 53 (.take 54 (.take 55 .done)))))))))))))))))))))))))))))))))))))))))))))))))))))))) 56 tm (by kernel_rfl) ew130 hO (hm rfl rfl (fun _ _ _ h => h) rfl (gy rfl rfl (fun _ _ _ h => h) (y_ne tz rfl rfl) (hm rfl rfl (fun _ _ _ h => h) rfl (gy rfl rfl (fun _ _ _ h => h) (ym (by rw [h114]; rfl) rfl) (gy rfl rfl (fun _ _ _ h => h) (yn (by rw [h114]; rfl) rfl) (gy rfl rfl (fun _ _ _ h => h) (ya tf_87_2 (by rw [h114]; rfl) rfl) (gy rfl rfl (fun _ _ _ h => h) (yl tl_85 (by rw [h114]; rfl) rfl (fun _ h => at77.cell h 2 rfl)) ?_)))))))
     have bd131 : x.locals.length * 16 ≤ 140737488351232 := s73.bd
     refine gy rfl rfl (fun _ _ _ h => h) (y_len ts_85 (by rw [h114]; rfl) rfl) (gy rfl rfl (fun _ _ _ h => h) (ym (by rw [h114]; rfl) rfl) (gy rfl rfl (fun _ _ _ h => h) (yn (by rw [h114]; rfl) rfl) (gy rfl rfl (fun _ _ _ h => h) (ya tf_61_1 (by rw [h114]; rfl) rfl) (gy rfl rfl (fun _ _ _ h => h) (yl tl_58 (by rw [h114]; rfl) rfl (fun _ h => at85.cell h 1 rfl)) (gy rfl rfl (fun _ _ _ h => h) (yn (by rw [h114]; rfl) rfl) (gy rfl rfl (fun _ _ _ h => h) (ya tf_24_0 (by rw [h114]; rfl) rfl) (gy rfl rfl (fun _ _ _ h => h) (yl tl_22 (by rw [h114]; rfl) rfl (fun _ h => at89.cell h 0 rfl)) (gy rfl rfl (fun _ _ _ h => h) (ym (by rw [h114]; rfl) rfl) (gy rfl rfl (fun _ _ _ h => h) (yn (by rw [h114]; rfl) rfl) ?_)))))))))
     refine gy rfl rfl (fun _ _ _ h => h) (ya tf_87_0 (by rw [h114]; rfl) rfl) (gy rfl rfl (fun _ _ _ h => h) (yl tl_3 (by rw [h114]; rfl) rfl (fun _ h => at77.cell h 0 rfl)) ?_)
     have q132 : PAt M (p91.add (x.fn.toNat * 3)) (nth s.p.val.funcs x.fn.toNat) := RdS.at s88 x.fn.toNat (by omega)
     refine gy rfl rfl (fun _ _ _ h => h) (yi ts_22 (by rw [h114]; rfl) rfl rfl (by omega) (by omega)) (gy rfl rfl (fun _ _ _ h => h) (ya tf_44_1 (by rw [h114]; rfl) rfl) ?_)
     obtain ⟨_, at136, b133, c134, rfl, s135⟩ := id q132
     refine gy rfl rfl (fun _ _ _ h => h) (yl tl_3 (by rw [h114]; rfl) rfl (fun _ h => at136.cell h 1 rfl)) (gy rfl rfl (fun _ _ _ h => h) (ye (by rw [h114]; rfl) rfl rfl) (gy rfl rfl (fun _ _ _ h => h) (pt tz (by rw [h114]; rfl) rfl) (hm rfl rfl (fun _ _ _ h => h) rfl (gy rfl rfl (fun _ _ _ h => h) (ym (by rw [h119]; rfl) rfl) (gy rfl rfl (fun _ _ _ h => h) (yn (by rw [h119]; rfl) rfl) (gy rfl rfl (fun _ _ _ h => h) (ya tf_87_3 (by rw [h119]; rfl) rfl) (gy rfl rfl (fun _ _ _ h => h) (yl tl_85 (by rw [h119]; rfl) rfl (fun _ h => at77.cell h 3 rfl)) ?_)))))))
     have bd137 : x.stack.length * 16 ≤ 140737488351232 := s76.bd
     refine gy rfl rfl (fun _ _ _ h => h) (y_len ts_85 (by rw [h119]; rfl) rfl) (gy rfl rfl (fun _ _ _ h => h) (ym (by rw [h119]; rfl) rfl) (gy rfl rfl (fun _ _ _ h => h) (ym (by rw [h119]; rfl) rfl) (gy rfl rfl (fun _ _ _ h => h) (y_sub ((nth (nth s.heights x.fn.toNat) x.pc.toNat) - less) (by rw [h119]; rfl) rfl rfl (by rw [wd] <;> omega)) (gy rfl rfl (fun _ _ _ h => h) (ye (by rw [h119]; rfl) rfl rfl) (gy rfl rfl (fun _ _ _ h => h) (pt tz (by rw [h119]; rfl) rfl) (hm rfl rfl (fun _ _ _ h => h) rfl (gy rfl rfl (fun _ _ _ h => h) (ym (by rw [h123]; rfl) rfl) (gy rfl rfl (fun _ _ _ h => h) (yn (by rw [h123]; rfl) rfl) (gy rfl rfl (fun _ _ _ h => h) (ya tf_87_2 (by rw [h123]; rfl) rfl) ?_)))))))))
     refine gy rfl rfl (fun _ _ _ h => h) (yl tl_85 (by rw [h123]; rfl) rfl (fun _ h => at77.cell h 2 rfl)) (gy rfl rfl (fun _ _ _ h => h) (ym (by rw [h123]; rfl) rfl) (gy rfl rfl (fun _ _ _ h => h) (y_makeF [.pointer (some p_s)] [] (by rw [h123]; rfl) rfl rfl) (hn' rfl (by rw [h123]; rfl) (oc (vs := [.slice b71 x.locals.length c72, .func (.func 55) #[.pointer (some p_s)] #[]]) tcall_54 rfl rfl (c_ContainsFuncSrc x.locals (fun x => (srcNotB s x)) s73 tcall_55 (fun x w_ M_ v_ b_ le rd o => c_srcNot s x (PAt.mono h_s le) rd o) hO) ?_))))
     rintro _ w138 ⟨M139, _, le140, hO, rfl, rfl⟩
     refine ⟨_, rfl, ?_⟩
     have hO := hO.less le140
     refine kg_s hO (gy rfl rfl (fun _ _ _ h => h) (yt (by rw [h123]; rfl) rfl) (gy rfl rfl (fun _ _ _ h => h) (pt tz (by rw [h123]; rfl) rfl) (hm rfl rfl (fun _ _ _ h => h) rfl (gy rfl rfl (fun _ _ _ h => h) (ym (by rw [h127]; rfl) rfl) (gy rfl rfl (fun _ _ _ h => h) (yn (by rw [h127]; rfl) rfl) (gy rfl rfl (fun _ _ _ h => h) (ya tf_87_3 (by rw [h127]; rfl) rfl) (gy rfl rfl (fun _ _ _ h => h) (yl tl_85 (by rw [h127]; rfl) rfl (fun _ h => at77.cell h 3 rfl)) (gy rfl rfl (fun _ _ _ h => h) (ym (by rw [h127]; rfl) rfl) (gy rfl rfl (fun _ _ _ h => h) (y_makeF [.pointer (some p_s)] [] (by rw [h127]; rfl) rfl rfl) ?_)))))))))
     refine hn' rfl (by rw [h127]; rfl) (oc (vs := [.slice b74 x.stack.length c75, .func (.func 55) #[.pointer (some p_s)] #[]]) tcall_54 rfl rfl (c_ContainsFuncSrc x.stack (fun x => (srcNotB s x)) s76 tcall_55 (fun x w_ M_ v_ b_ le rd o => c_srcNot s x (PAt.mono h_s le) rd o) hO) ?_)
     rintro _ w141 ⟨M142, _, le143, hO, rfl, rfl⟩
     refine ⟨_, rfl, ?_⟩
     have hO := hO.less le143
     refine kg_s hO (gy rfl rfl (fun _ _ _ h => h) (yt (by rw [h127]; rfl) rfl) (gy rfl rfl (fun _ _ _ h => h) (pt tz (by rw [h127]; rfl) rfl) (ha rfl rfl (fun _ _ _ h => h) rfl (gd (ez (E' := [(6, .bool (!(x.stack.any (fun x => (srcNotB s x)))))]) ⟨rfl, tz⟩ (et (ct (er (.inl rfl) rfl rfl ?_))))))))
     refine Ret.mk (mr _) hO (congrArg Value.bool ?_)
     (first | rfl | (simp_all [partB]; done) | omega | grind [partB])
    have h144 : (x.locals.any (fun x => (srcNotB s x))) = true := by simpa using h127
    obtain ⟨w145, hO, ew146⟩ : ∃ w', Own w' M (bs) ∧ { w101 with drawn := w101.drawn + 1 } = w' := ⟨_, hO.drawn _, rfl⟩
    refine cw (S := fun w => Own w M (bs)) (.take 0 (.take 1 (.take 2 (.take 3 (.take 4 (.take 5 (.take 6 (.take 7 (.take 8 (.take 9 (.take 10 (.take 11 (.take 12 (.take 13 (.take 14 (.take 15 (.take 16 (.take 17 (.take 18 (.take 19 (.take 20 (.take 21 (.take 22 (.take 23 (.take 24 (.take 25 (.take 26 (.take 27 (.take 28 (.take 29 (.take 30 (.take 31 (.take 32 (.take 33 (.take 34 (.take 35 (.take 36 (.take 37 (.take 38 (.take 39 (.take 40 (.take 41 (.one 42 (.take 43 (.take 44 (.take 45 (.take 46 (.take 47 (.take 48 (.take 49 (.take 50 (.take 51 (.take 52 (.take 53 (.take 54 (.take 55 .done)))))))))))))))))))))))))))))))))))))))))))))))))))))))) 56 tm (by kernel_rfl) ew146 hO (hm rfl rfl (fun _ _ _ h => h) rfl (gy rfl rfl (fun _ _ _ h => h) (y_ne tz rfl rfl) (hm rfl rfl (fun _ _ _ h => h) rfl (gy rfl rfl (fun _ _ _ h => h) (ym (by rw [h114]; rfl) rfl) (gy rfl rfl (fun _ _ _ h => h) (yn (by rw [h114]; rfl) rfl) (gy rfl rfl (fun _ _ _ h => h) (ya tf_87_2 (by rw [h114]; rfl) rfl) (gy rfl rfl (fun _ _ _ h => h) (yl tl_85 (by rw [h114]; rfl) rfl (fun _ h => at77.cell h 2 rfl)) ?_)))))))
    have bd147 : x.locals.length * 16 ≤ 140737488351232 := s73.bd
    refine gy rfl rfl (fun _ _ _ h => h) (y_len ts_85 (by rw [h114]; rfl) rfl) (gy rfl rfl (fun _ _ _ h => h) (ym (by rw [h114]; rfl) rfl) (gy rfl rfl (fun _ _ _ h => h) (yn (by rw [h114]; rfl) rfl) (gy rfl rfl (fun _ _ _ h => h) (ya tf_61_1 (by rw [h114]; rfl) rfl) (gy rfl rfl (fun _ _ _ h => h) (yl tl_58 (by rw [h114]; rfl) rfl (fun _ h => at85.cell h 1 rfl)) (gy rfl rfl (fun _ _ _ h => h) (yn (by rw [h114]; rfl) rfl) (gy rfl rfl (fun _ _ _ h => h) (ya tf_24_0 (by rw [h114]; rfl) rfl) (gy rfl rfl (fun _ _ _ h => h) (yl tl_22 (by rw [h114]; rfl) rfl (fun _ h => at89.cell h 0 rfl)) (gy rfl rfl (fun _ _ _ h => h) (ym (by rw [h114]; rfl) rfl) (gy rfl rfl (fun _ _ _ h => h) (yn (by rw [h114]; rfl) rfl) ?_)))))))))
    refine gy rfl rfl (fun _ _ _ h => h) (ya tf_87_0 (by rw [h114]; rfl) rfl) (gy rfl rfl (fun _ _ _ h => h) (yl tl_3 (by rw [h114]; rfl) rfl (fun _ h => at77.cell h 0 rfl)) ?_)
    have q148 : PAt M (p91.add (x.fn.toNat * 3)) (nth s.p.val.funcs x.fn.toNat) := RdS.at s88 x.fn.toNat (by omega)
    refine gy rfl rfl (fun _ _ _ h => h) (yi ts_22 (by rw [h114]; rfl) rfl rfl (by omega) (by omega)) (gy rfl rfl (fun _ _ _ h => h) (ya tf_44_1 (by rw [h114]; rfl) rfl) ?_)
    obtain ⟨_, at152, b149, c150, rfl, s151⟩ := id q148
    refine gy rfl rfl (fun _ _ _ h => h) (yl tl_3 (by rw [h114]; rfl) rfl (fun _ h => at152.cell h 1 rfl)) (gy rfl rfl (fun _ _ _ h => h) (ye (by rw [h114]; rfl) rfl rfl) (gy rfl rfl (fun _ _ _ h => h) (pt tz (by rw [h114]; rfl) rfl) (hm rfl rfl (fun _ _ _ h => h) rfl (gy rfl rfl (fun _ _ _ h => h) (ym (by rw [h119]; rfl) rfl) (gy rfl rfl (fun _ _ _ h => h) (yn (by rw [h119]; rfl) rfl) (gy rfl rfl (fun _ _ _ h => h) (ya tf_87_3 (by rw [h119]; rfl) rfl) (gy rfl rfl (fun _ _ _ h => h) (yl tl_85 (by rw [h119]; rfl) rfl (fun _ h => at77.cell h 3 rfl)) ?_)))))))
    have bd153 : x.stack.length * 16 ≤ 140737488351232 := s76.bd
    refine gy rfl rfl (fun _ _ _ h => h) (y_len ts_85 (by rw [h119]; rfl) rfl) (gy rfl rfl (fun _ _ _ h => h) (ym (by rw [h119]; rfl) rfl) (gy rfl rfl (fun _ _ _ h => h) (ym (by rw [h119]; rfl) rfl) (gy rfl rfl (fun _ _ _ h => h) (y_sub ((nth (nth s.heights x.fn.toNat) x.pc.toNat) - less) (by rw [h119]; rfl) rfl rfl (by rw [wd] <;> omega)) (gy rfl rfl (fun _ _ _ h => h) (ye (by rw [h119]; rfl) rfl rfl) (gy rfl rfl (fun _ _ _ h => h) (pt tz (by rw [h119]; rfl) rfl) (hm rfl rfl (fun _ _ _ h => h) rfl (gy rfl rfl (fun _ _ _ h => h) (ym (by rw [h123]; rfl) rfl) (gy rfl rfl (fun _ _ _ h => h) (yn (by rw [h123]; rfl) rfl) (gy rfl rfl (fun _ _ _ h => h) (ya tf_87_2 (by rw [h123]; rfl) rfl) ?_)))))))))
    refine gy rfl rfl (fun _ _ _ h => h) (yl tl_85 (by rw [h123]; rfl) rfl (fun _ h => at77.cell h 2 rfl)) (gy rfl rfl (fun _ _ _ h => h) (ym (by rw [h123]; rfl) rfl) (gy rfl rfl (fun _ _ _ h => h) (y_makeF [.pointer (some p_s)] [] (by rw [h123]; rfl) rfl rfl) (hn' rfl (by rw [h123]; rfl) (oc (vs := [.slice b71 x.locals.length c72, .func (.func 55) #[.pointer (some p_s)] #[]]) tcall_54 rfl rfl (c_ContainsFuncSrc x.locals (fun x => (srcNotB s x)) s73 tcall_55 (fun x w_ M_ v_ b_ le rd o => c_srcNot s x (PAt.mono h_s le) rd o) hO) ?_))))
    rintro _ w154 ⟨M155, _, le156, hO, rfl, rfl⟩
    refine ⟨_, rfl, ?_⟩
    have hO := hO.less le156
    refine kg_s hO (gy rfl rfl (fun _ _ _ h => h) (yt (by rw [h123]; rfl) rfl) (gy rfl rfl (fun _ _ _ h => h) (pt tz (by rw [h123]; rfl) rfl) (hm rfl rfl (fun _ _ _ h => h) rfl (gy rfl rfl (fun _ _ _ h => h) (ek (by rw [h127]; rfl)) (gy rfl rfl (fun _ _ _ h => h) (ek (by rw [h127]; rfl)) (gy rfl rfl (fun _ _ _ h => h) (ek (by rw [h127]; rfl)) (gy rfl rfl (fun _ _ _ h => h) (ek (by rw [h127]; rfl)) (gy rfl rfl (fun _ _ _ h => h) (ek (by rw [h127]; rfl)) (gy rfl rfl (fun _ _ _ h => h) (ek (by rw [h127]; rfl)) ?_)))))))))
    refine gy rfl rfl (fun _ _ _ h => h) (ek (by rw [h127]; rfl)) (gy rfl rfl (fun _ _ _ h => h) (ek (by rw [h127]; rfl)) (gy rfl rfl (fun _ _ _ h => h) (pf tz (by rw [h127]; rfl) rfl) (ha rfl rfl (fun _ _ _ h => h) rfl (gd (ez (E' := [(6, .bool false)]) ⟨rfl, tz⟩ (et (ct (er (.inl rfl) rfl rfl ?_))))))))
    refine Ret.mk (mr _) hO (congrArg Value.bool ?_)
    (first | rfl | (simp_all [partB]; done) | omega | grind [partB])
   have h157 : ¬ ((x.stack.length : Int) = (nth (nth s.heights x.fn.toNat) x.pc.toNat) - less) := oq h123
   obtain ⟨w158, hO, ew159⟩ : ∃ w', Own w' M (bs) ∧ { w101 with drawn := w101.drawn + 1 } = w' := ⟨_, hO.drawn _, rfl⟩
   refine cw (S := fun w => Own w M (bs)) (.take 0 (.take 1 (.take 2 (.take 3 (.take 4 (.take 5 (.take 6 (.take 7 (.take 8 (.take 9 (.take 10 (.take 11 (.take 12 (.take 13 (.take 14 (.take 15 (.take 16 (.take 17 (.take 18 (.take 19 (.take 20 (.take 21 (.take 22 (.take 23 (.take 24 (.take 25 (.take 26 (.take 27 (.take 28 (.take 29 (.take 30 (.take 31 (.take 32 (.take 33 (.take 34 (.take 35 (.take 36 (.take 37 (.take 38 (.take 39 (.take 40 (.take 41 (.take 42 (.take 43 (.take 44 (.take 45 (.take 46 (.take 47 (.take 48 (.take 49 (.take 50 (.take 51 (.take 52 (.take 53 (.take 54 (.take 55 .done)))))))))))))))))))))))))))))))))))))))))))))))))))))))) 56 tm (by kernel_rfl) ew159 hO (hm rfl rfl (fun _ _ _ h => h) rfl (gy rfl rfl (fun _ _ _ h => h) (y_ne tz rfl rfl) (hm rfl rfl (fun _ _ _ h => h) rfl (gy rfl rfl (fun _ _ _ h => h) (ym (by rw [h114]; rfl) rfl) (gy rfl rfl (fun _ _ _ h => h) (yn (by rw [h114]; rfl) rfl) (gy rfl rfl (fun _ _ _ h => h) (ya tf_87_2 (by rw [h114]; rfl) rfl) (gy rfl rfl (fun _ _ _ h => h) (yl tl_85 (by rw [h114]; rfl) rfl (fun _ h => at77.cell h 2 rfl)) ?_)))))))
   have bd160 : x.locals.length * 16 ≤ 140737488351232 := s73.bd
   refine gy rfl rfl (fun _ _ _ h => h) (y_len ts_85 (by rw [h114]; rfl) rfl) (gy rfl rfl (fun _ _ _ h => h) (ym (by rw [h114]; rfl) rfl) (gy rfl rfl (fun _ _ _ h => h) (yn (by rw [h114]; rfl) rfl) (gy rfl rfl (fun _ _ _ h => h) (ya tf_61_1 (by rw [h114]; rfl) rfl) (gy rfl rfl (fun _ _ _ h => h) (yl tl_58 (by rw [h114]; rfl) rfl (fun _ h => at85.cell h 1 rfl)) (gy rfl rfl (fun _ _ _ h => h) (yn (by rw [h114]; rfl) rfl) (gy rfl rfl (fun _ _ _ h => h) (ya tf_24_0 (by rw [h114]; rfl) rfl) (gy rfl rfl (fun _ _ _ h => h) (yl tl_22 (by rw [h114]; rfl) rfl (fun _ h => at89.cell h 0 rfl)) (gy rfl rfl (fun _ _ _ h => h) (ym (by rw [h114]; rfl) rfl) (gy rfl rfl (fun _ _ _ h => h) (yn (by rw [h114]; rfl) rfl) ?_)))))))))
   refine gy rfl rfl (fun _ _ _ h => h) (ya tf_87_0 (by rw [h114]; rfl) rfl) (gy rfl rfl (fun _ _ _ h => h) (yl tl_3 (by rw [h114]; rfl) rfl (fun _ h => at77.cell h 0 rfl)) ?_)
   have q161 : PAt M (p91.add (x.fn.toNat * 3)) (nth s.p.val.funcs x.fn.toNat) := RdS.at s88 x.fn.toNat (by omega)
   refine gy rfl rfl (fun _ _ _ h => h) (yi ts_22 (by rw [h114]; rfl) rfl rfl (by omega) (by omega)) (gy rfl rfl (fun _ _ _ h => h) (ya tf_44_1 (by rw [h114]; rfl) rfl) ?_)
   obtain ⟨_, at165, b162, c163, rfl, s164⟩ := id q161
   refine gy rfl rfl (fun _ _ _ h => h) (yl tl_3 (by rw [h114]; rfl) rfl (fun _ h => at165.cell h 1 rfl)) (gy rfl rfl (fun _ _ _ h => h) (ye (by rw [h114]; rfl) rfl rfl) (gy rfl rfl (fun _ _ _ h => h) (pt tz (by rw [h114]; rfl) rfl) (hm rfl rfl (fun _ _ _ h => h) rfl (gy rfl rfl (fun _ _ _ h => h) (ym (by rw [h119]; rfl) rfl) (gy rfl rfl (fun _ _ _ h => h) (yn (by rw [h119]; rfl) rfl) (gy rfl rfl (fun _ _ _ h => h) (ya tf_87_3 (by rw [h119]; rfl) rfl) (gy rfl rfl (fun _ _ _ h => h) (yl tl_85 (by rw [h119]; rfl) rfl (fun _ h => at77.cell h 3 rfl)) ?_)))))))
   have bd166 : x.stack.length * 16 ≤ 140737488351232 := s76.bd
   refine gy rfl rfl (fun _ _ _ h => h) (y_len ts_85 (by rw [h119]; rfl) rfl) (gy rfl rfl (fun _ _ _ h => h) (ym (by rw [h119]; rfl) rfl) (gy rfl rfl (fun _ _ _ h => h) (ym (by rw [h119]; rfl) rfl) (gy rfl rfl (fun _ _ _ h => h) (y_sub ((nth (nth s.heights x.fn.toNat) x.pc.toNat) - less) (by rw [h119]; rfl) rfl rfl (by rw [wd] <;> omega)) (gy rfl rfl (fun _ _ _ h => h) (ye (by rw [h119]; rfl) rfl rfl) (gy rfl rfl (fun _ _ _ h => h) (pt tz (by rw [h119]; rfl) rfl) (hm rfl rfl (fun _ _ _ h => h) rfl (gy rfl rfl (fun _ _ _ h => h) (ek (by rw [h123]; rfl)) (gy rfl rfl (fun _ _ _ h => h) (ek (by rw [h123]; rfl)) (gy rfl rfl (fun _ _ _ h => h) (ek (by rw [h123]; rfl)) ?_)))))))))
   refine gy rfl rfl (fun _ _ _ h => h) (ek (by rw [h123]; rfl)) (gy rfl rfl (fun _ _ _ h => h) (ek (by rw [h123]; rfl)) (gy rfl rfl (fun _ _ _ h => h) (ek (by rw [h123]; rfl)) (gy rfl rfl (fun _ _ _ h => h) (ek (by rw [h123]; rfl)) (gy rfl rfl (fun _ _ _ h => h) (ek (by rw [h123]; rfl)) (gy rfl rfl (fun _ _ _ h => h) (pf tz (by rw [h123]; rfl) rfl) (hm rfl rfl (fun _ _ _ h => h) rfl (gy rfl rfl (fun _ _ _ h => h) (ek rfl) (gy rfl rfl (fun _ _ _ h => h) (ek rfl) (gy rfl rfl (fun _ _ _ h => h) (ek rfl) ?_)))))))))
   refine gy rfl rfl (fun _ _ _ h => h) (ek rfl) (gy rfl rfl (fun _ _ _ h => h) (ek rfl) (gy rfl rfl (fun _ _ _ h => h) (ek rfl) (gy rfl rfl (fun _ _ _ h => h) (ek rfl) (gy rfl rfl (fun _ _ _ h => h) (ek rfl) (gy rfl rfl (fun _ _ _ h => h) (pf tz rfl rfl) (ha rfl rfl (fun _ _ _ h => h) rfl (gd (ez (E' := [(6, .bool false)]) ⟨rfl, tz⟩ (et ?_)))))))))
   refine ct (er (.inl rfl) rfl rfl ?_)
   refine Ret.mk (mr _) hO (congrArg Value.bool ?_)
   (first | rfl | (simp_all [partB]; done) | omega | grind [partB])
  have h167 : ¬ ((x.locals.length : Int) = (nth s.p.val.funcs x.fn.toNat).locals) := oq h119
  obtain ⟨w168, hO, ew169⟩ : ∃ w', Own w' M (bs) ∧ { w101 with drawn := w101.drawn + 1 } = w' := ⟨_, hO.drawn _, rfl⟩
  refine cw (S := fun w => Own w M (bs)) (.take 0 (.take 1 (.take 2 (.take 3 (.take 4 (.take 5 (.take 6 (.take 7 (.take 8 (.take 9 (.take 10 (.take 11 (.take 12 (.take 13 (.take 14 (.take 15 (.take 16 (.take 17 (.take 18 (.take 19 (.take 20 (.take 21 (.take 22 (.take 23 (.take 24 (.take 25 (.take 26 (.take 27 (.take 28 (.take 29 (.take 30 (.take 31 (.take 32 (.take 33 (.take 34 (.take 35 (.take 36 (.take 37 (.take 38 (.take 39 (.take 40 (.take 41 (.take 42 (.take 43 (.take 44 (.take 45 (.take 46 (.take 47 (.take 48 (.take 49 (.take 50 (.take 51 (.take 52 (.take 53 (.take 54 (.take 55 .done)))))))))))))))))))))))))))))))))))))))))))))))))))))))) 56 tm (by kernel_rfl) ew169 hO (hm rfl rfl (fun _ _ _ h => h) rfl (gy rfl rfl (fun _ _ _ h => h) (y_ne tz rfl rfl) (hm rfl rfl (fun _ _ _ h => h) rfl (gy rfl rfl (fun _ _ _ h => h) (ym (by rw [h114]; rfl) rfl) (gy rfl rfl (fun _ _ _ h => h) (yn (by rw [h114]; rfl) rfl) (gy rfl rfl (fun _ _ _ h => h) (ya tf_87_2 (by rw [h114]; rfl) rfl) (gy rfl rfl (fun _ _ _ h => h) (yl tl_85 (by rw [h114]; rfl) rfl (fun _ h => at77.cell h 2 rfl)) ?_)))))))
  have bd170 : x.locals.length * 16 ≤ 140737488351232 := s73.bd
  refine gy rfl rfl (fun _ _ _ h => h) (y_len ts_85 (by rw [h114]; rfl) rfl) (gy rfl rfl (fun _ _ _ h => h) (ym (by rw [h114]; rfl) rfl) (gy rfl rfl (fun _ _ _ h => h) (yn (by rw [h114]; rfl) rfl) (gy rfl rfl (fun _ _ _ h => h) (ya tf_61_1 (by rw [h114]; rfl) rfl) (gy rfl rfl (fun _ _ _ h => h) (yl tl_58 (by rw [h114]; rfl) rfl (fun _ h => at85.cell h 1 rfl)) (gy rfl rfl (fun _ _ _ h => h) (yn (by rw [h114]; rfl) rfl) (gy rfl rfl (fun _ _ _ h => h) (ya tf_24_0 (by rw [h114]; rfl) rfl) (gy rfl rfl (fun _ _ _ h => h) (yl tl_22 (by rw [h114]; rfl) rfl (fun _ h => at89.cell h 0 rfl)) (gy rfl rfl (fun _ _ _ h => h) (ym (by rw [h114]; rfl) rfl) (gy rfl rfl (fun _ _ _ h => h) (yn (by rw [h114]; rfl) rfl) ?_)))))))))
  refine gy rfl rfl (fun _ _ _ h => h) (ya tf_87_0 (by rw [h114]; rfl) rfl) (gy rfl rfl (fun _ _ _ h => h) (yl tl_3 (by rw [h114]; rfl) rfl (fun _ h => at77.cell h 0 rfl)) ?_)
  have q171 : PAt M (p91.add (x.fn.toNat * 3)) (nth s.p.val.funcs x.fn.toNat) := RdS.at s88 x.fn.toNat (by omega)
  refine gy rfl rfl (fun _ _ _ h => h) (yi ts_22 (by rw [h114]; rfl) rfl rfl (by omega) (by omega)) (gy rfl rfl (fun _ _ _ h => h) (ya tf_44_1 (by rw [h114]; rfl) rfl) ?_)
  obtain ⟨_, at175, b172, c173, rfl, s174⟩ := id q171
  refine gy rfl rfl (fun _ _ _ h => h) (yl tl_3 (by rw [h114]; rfl) rfl (fun _ h => at175.cell h 1 rfl)) (gy rfl rfl (fun _ _ _ h => h) (ye (by rw [h114]; rfl) rfl rfl) (gy rfl rfl (fun _ _ _ h => h) (pt tz (by rw [h114]; rfl) rfl) (hm rfl rfl (fun _ _ _ h => h) rfl (gy rfl rfl (fun _ _ _ h => h) (ek (by rw [h119]; rfl)) (gy rfl rfl (fun _ _ _ h => h) (ek (by rw [h119]; rfl)) (gy rfl rfl (fun _ _ _ h => h) (ek (by rw [h119]; rfl)) (gy rfl rfl (fun _ _ _ h => h) (ek (by rw [h119]; rfl)) (gy rfl rfl (fun _ _ _ h => h) (ek (by rw [h119]; rfl)) (gy rfl rfl (fun _ _ _ h => h) (ek (by rw [h119]; rfl)) ?_)))))))))
  refine gy rfl rfl (fun _ _ _ h => h) (ek (by rw [h119]; rfl)) (gy rfl rfl (fun _ _ _ h => h) (ek (by rw [h119]; rfl)) (gy rfl rfl (fun _ _ _ h => h) (ek (by rw [h119]; rfl)) (gy rfl rfl (fun _ _ _ h => h) (pf tz (by rw [h119]; rfl) rfl) (hm rfl rfl (fun _ _ _ h => h) rfl (gy rfl rfl (fun _ _ _ h => h) (ek rfl) (gy rfl rfl (fun _ _ _ h => h) (ek rfl) (gy rfl rfl (fun _ _ _ h => h) (ek rfl) (gy rfl rfl (fun _ _ _ h => h) (ek rfl) (gy rfl rfl (fun _ _ _ h => h) (ek rfl) ?_)))))))))
  refine gy rfl rfl (fun _ _ _ h => h) (ek rfl) (gy rfl rfl (fun _ _ _ h => h) (ek rfl) (gy rfl rfl (fun _ _ _ h => h) (ek rfl) (gy rfl rfl (fun _ _ _ h => h) (pf tz rfl rfl) (hm rfl rfl (fun _ _ _ h => h) rfl (gy rfl rfl (fun _ _ _ h => h) (ek rfl) (gy rfl rfl (fun _ _ _ h => h) (ek rfl) (gy rfl rfl (fun _ _ _ h => h) (ek rfl) (gy rfl rfl (fun _ _ _ h => h) (ek rfl) (gy rfl rfl (fun _ _ _ h => h) (ek rfl) ?_)))))))))
  refine gy rfl rfl (fun _ _ _ h => h) (ek rfl) (gy rfl rfl (fun _ _ _ h => h) (ek rfl) (gy rfl rfl (fun _ _ _ h => h) (ek rfl) (gy rfl rfl (fun _ _ _ h => h) (pf tz rfl rfl) (ha rfl rfl (fun _ _ _ h => h) rfl (gd (ez (E' := [(6, .bool false)]) ⟨rfl, tz⟩ (et (ct (er (.inl rfl) rfl rfl ?_)))))))))
  refine Ret.mk (mr _) hO (congrArg Value.bool ?_)
  (first | rfl | (simp_all [partB]; done) | omega | grind [partB])
 have h176 : (decide ((nth (nth s.heights x.fn.toNat) x.pc.toNat) = -1)) = true := by simpa using h114
 have h177 : (nth (nth s.heights x.fn.toNat) x.pc.toNat) = -1 := ot h176
 obtain ⟨w178, hO, ew179⟩ : ∃ w', Own w' M (bs) ∧ { w101 with drawn := w101.drawn + 1 } = w' := ⟨_, hO.drawn _, rfl⟩
 refine cw (S := fun w => Own w M (bs)) (.take 0 (.take 1 (.take 2 (.take 3 (.take 4 (.take 5 (.take 6 (.take 7 (.take 8 (.take 9 (.take 10 (.take 11 (.take 12 (.take 13 (.take 14 (.take 15 (.take 16 (.take 17 (.take 18 (.take 19 (.take 20 (.take 21 (.take 22 (.take 23 (.take 24 (.take 25 (.take 26 (.take 27 (.take 28 (.take 29 (.take 30 (.take 31 (.take 32 (.take 33 (.take 34 (.take 35 (.take 36 (.take 37 (.take 38 (.take 39 (.take 40 (.take 41 (.take 42 (.take 43 (.take 44 (.take 45 (.take 46 (.take 47 (.take 48 (.take 49 (.take 50 (.take 51 (.take 52 (.take 53 (.take 54 (.take 55 .done)))))))))))))))))))))))))))))))))))))))))))))))))))))))) 56 tm (by kernel_rfl) ew179 hO (hm rfl rfl (fun _ _ _ h => h) rfl (gy rfl rfl (fun _ _ _ h => h) (y_ne tz rfl rfl) (hm rfl rfl (fun _ _ _ h => h) rfl (gy rfl rfl (fun _ _ _ h => h) (ek (by rw [h114]; rfl)) (gy rfl rfl (fun _ _ _ h => h) (ek (by rw [h114]; rfl)) (gy rfl rfl (fun _ _ _ h => h) (ek (by rw [h114]; rfl)) (gy rfl rfl (fun _ _ _ h => h) (ek (by rw [h114]; rfl)) (gy rfl rfl (fun _ _ _ h => h) (ek (by rw [h114]; rfl)) (gy rfl rfl (fun _ _ _ h => h) (ek (by rw [h114]; rfl)) ?_)))))))))
 refine gy rfl rfl (fun _ _ _ h => h) (ek (by rw [h114]; rfl)) (gy rfl rfl (fun _ _ _ h => h) (ek (by rw [h114]; rfl)) (gy rfl rfl (fun _ _ _ h => h) (ek (by rw [h114]; rfl)) (gy rfl rfl (fun _ _ _ h => h) (ek (by rw [h114]; rfl)) (gy rfl rfl (fun _ _ _ h => h) (ek (by rw [h114]; rfl)) (gy rfl rfl (fun _ _ _ h => h) (ek (by rw [h114]; rfl)) (gy rfl rfl (fun _ _ _ h => h) (ek (by rw [h114]; rfl)) (gy rfl rfl (fun _ _ _ h => h) (ek (by rw [h114]; rfl)) (gy rfl rfl (fun _ _ _ h => h) (ek (by rw [h114]; rfl)) (gy rfl rfl (fun _ _ _ h => h) (ek (by rw [h114]; rfl)) ?_)))))))))
 refine gy rfl rfl (fun _ _ _ h => h) (ek (by rw [h114]; rfl)) (gy rfl rfl (fun _ _ _ h => h) (ek (by rw [h114]; rfl)) (gy rfl rfl (fun _ _ _ h => h) (ek (by rw [h114]; rfl)) (gy rfl rfl (fun _ _ _ h => h) (ek (by rw [h114]; rfl)) (gy rfl rfl (fun _ _ _ h => h) (pf tz (by rw [h114]; rfl) rfl) (hm rfl rfl (fun _ _ _ h => h) rfl (gy rfl rfl (fun _ _ _ h => h) (ek rfl) (gy rfl rfl (fun _ _ _ h => h) (ek rfl) (gy rfl rfl (fun _ _ _ h => h) (ek rfl) (gy rfl rfl (fun _ _ _ h => h) (ek rfl) ?_)))))))))
 refine gy rfl rfl (fun _ _ _ h => h) (ek rfl) (gy rfl rfl (fun _ _ _ h => h) (ek rfl) (gy rfl rfl (fun _ _ _ h => h) (ek rfl) (gy rfl rfl (fun _ _ _ h => h) (ek rfl) (gy rfl rfl (fun _ _ _ h => h) (ek rfl) (gy rfl rfl (fun _ _ _ h => h) (pf tz rfl rfl) (hm rfl rfl (fun _ _ _ h => h) rfl (gy rfl rfl (fun _ _ _ h => h) (ek rfl) (gy rfl rfl (fun _ _ _ h => h) (ek rfl) (gy rfl rfl (fun _ _ _ h => h) (ek rfl) ?_)))))))))
 refine gy rfl rfl (fun _ _ _ h => h) (ek rfl) (gy rfl rfl (fun _ _ _ h => h) (ek rfl) (gy rfl rfl (fun _ _ _ h => h) (ek rfl) (gy rfl rfl (fun _ _ _ h => h) (ek rfl) (gy rfl rfl (fun _ _ _ h => h) (ek rfl) (gy rfl rfl (fun _ _ _ h => h) (pf tz rfl rfl) (hm rfl rfl (fun _ _ _ h => h) rfl (gy rfl rfl (fun _ _ _ h => h) (ek rfl) (gy rfl rfl (fun _ _ _ h => h) (ek rfl) (gy rfl rfl (fun _ _ _ h => h) (ek rfl) ?_)))))))))
 refine gy rfl rfl (fun _ _ _ h => h) (ek rfl) (gy rfl rfl (fun _ _ _ h => h) (ek rfl) (gy rfl rfl (fun _ _ _ h => h) (ek rfl) (gy rfl rfl (fun _ _ _ h => h) (ek rfl) (gy rfl rfl (fun _ _ _ h => h) (ek rfl) (gy rfl rfl (fun _ _ _ h => h) (pf tz rfl rfl) (ha rfl rfl (fun _ _ _ h => h) rfl (gd (ez (E' := [(6, .bool false)]) ⟨rfl, tz⟩ (et ?_)))))))))
 refine ct (er (.inl rfl) rfl rfl ?_)
 refine Ret.mk (mr _) hO (congrArg Value.bool ?_)
 (first | rfl | (simp_all [partB]; done) | omega | grind [partB])

set_option maxHeartbeats 3200000 in
theorem c_metaNot {p_s : Addr} (s : Sheet) {vs_m : List Value} (m : Meta) {w : World} {M : Mem} {bs : List (Nat × Obj)} (h_s : PAt M p_s s) (h_m : Rep.rd M vs_m m) (hh : HOk s.p.val s.heights) (hf0 : 0 ≤ s.code.val.fn) (hf1 : s.code.val.fn < s.p.val.funcs.length) (hO : Own w M (bs)) :
    Calls Tryd.prog 19 #[.pointer (some p_s), .agg vs_m.toArray] w (Ret M bs (fun M' v => v = .bool (metaNotB s m))) := by
 obtain ⟨b1, c2, rfl, s3⟩ := h_m
 refine ce (vs := [.pointer (some p_s), .agg #[.slice b1 m.parts.length c2]]) (n := 89) Tryd.func19 rfl rfl rfl (cq (cr (rd' tz (og_box hO rfl rfl (fun b4 w5 hO => ?_)))))
 have hO : Own _ M ([(b4, .cells #[.slice b1 m.parts.length c2] 65)] ++ bs) := hO
 refine as_ hO rfl rfl (rj (et (cq (cq (cr (fb 0 tf_65_0 rfl hO rfl rfl (ry hO rfl (yl tl_63 tz rfl (fun _ h => ob h 0 0 rfl rfl)) ?_)))))))
 have bd6 : m.parts.length * 64 ≤ 140737488351232 := s3.bd
 refine ln ts_63 hO rfl rfl (rj (et (cb (cq (cr (ry hO rfl (ye tz rfl rfl) (as_ hO rfl rfl (rj (et ?_)))))))))
 refine cd rfl (fun h7 => ?_) (fun h7 => ?_)
 ·
  have h8 : (m.parts.length : Int) = 1 := ot h7
  refine cq ?_
  rcases bt (!decide ((nth m.parts 0).fn = s.code.val.fn)) with h11 | h11
  ·
   have h12 : (decide ((nth m.parts 0).fn = s.code.val.fn)) = false := by simpa using h11
   have h13 : ¬ ((nth m.parts 0).fn = s.code.val.fn) := oq h12
   obtain ⟨w14, hO, ew15⟩ : ∃ w', Own w' M ([(b4, .cells #[.slice b1 m.parts.length c2] 65)] ++ bs) ∧ { w5 with drawn := w5.drawn + 1 } = w' := ⟨_, hO.drawn _, rfl⟩
   refine cw (S := fun w => Own w M ([(b4, .cells #[.slice b1 m.parts.length c2] 65)] ++ bs)) (.take 0 (.take 1 (.take 2 (.take 3 (.take 4 (.take 5 (.take 6 (.take 7 (.take 8 (.take 9 (.take 10 (.take 11 (.take 12 (.take 13 (.take 14 (.take 15 (.take 16 (.take 17 (.take 18 (.take 19 (.take 20 (.take 21 .done)))))))))))))))))))))) 22 tm (by kernel_rfl) ew15 hO (hfb 0 tf_65_0 rfl rfl rfl (fun _ _ _ h => h) rfl (gy rfl rfl (fun _ _ _ h => h) (yl tl_63 tz rfl (fun _ h => ob h 0 0 rfl rfl)) ?_))
   obtain ⟨p16, rfl, _⟩ := RdS.get s3 0 (by omega)
   have hO : Own w14 M ([(b4, .cells #[.slice (some p16) m.parts.length c2] 65)] ++ bs) := by assumption
   have q17 : PAt M (p16.add (0 * 4)) (nth m.parts 0) := RdS.at s3 0 (by omega)
   refine gy rfl rfl (fun _ _ _ h => h) (yi ts_63 tz rfl rfl (by omega) (by omega)) (hfa tf_87_0 rfl rfl (fun _ _ _ h => h) rfl ?_)
   obtain ⟨_, at24, b18, c19, b21, c22, rfl, s20, s23⟩ := id q17
   refine hlc tl_3 at24 0 rfl rfl rfl (fun _ _ _ h => h) rfl (hm rfl rfl (fun _ _ _ h => h) rfl (hn rfl rfl (fun _ _ _ h => h) rfl (hfa tf_61_0 rfl rfl (fun _ _ _ h => h) rfl ?_)))
   obtain ⟨_, at32, p25, p27, b29, c30, rfl, q26, q28, s31⟩ := id h_s
   refine hlc tl_53 at32 0 rfl rfl rfl (fun _ _ _ h => h) rfl (hn rfl rfl (fun _ _ _ h => h) rfl (hfa tf_28_0 rfl rfl (fun _ _ _ h => h) rfl ?_))
   obtain ⟨_, at39, b33, c34, b36, c37, rfl, s35, s38⟩ := id q26
   refine hlc tl_3 at39 0 rfl rfl rfl (fun _ _ _ h => h) rfl (gy rfl rfl (fun _ _ _ h => h) (y_ne tz rfl rfl) (hm rfl rfl (fun _ _ _ h => h) rfl (gy rfl rfl (fun _ _ _ h => h) (ek (by rw [h11]; rfl)) (gy rfl rfl (fun _ _ _ h => h) (ek (by rw [h11]; rfl)) (gy rfl rfl (fun _ _ _ h => h) (ek (by rw [h11]; rfl)) (gy rfl rfl (fun _ _ _ h => h) (ek (by rw [h11]; rfl)) (gy rfl rfl (fun _ _ _ h => h) (ek (by rw [h11]; rfl)) (gy rfl rfl (fun _ _ _ h => h) (ek (by rw [h11]; rfl)) (gy rfl rfl (fun _ _ _ h => h) (pt tz (by rw [h11]; rfl) rfl) ?_)))))))))
   refine ha rfl rfl (fun _ _ _ h => h) rfl (gd (ez (E' := [(4, .bool true)]) ⟨rfl, tz⟩ (et (ct (eg (ew' (er (.inl rfl) rfl rfl ?_)))))))
   refine Ret.mk (mr _) (hO.forget) (congrArg Value.bool ?_)
   (first | rfl | (simp_all [metaNotB]; done) | omega | grind [metaNotB])
  have h40 : (decide ((nth m.parts 0).fn = s.code.val.fn)) = true := by simpa using h11
  have h41 : (nth m.parts 0).fn = s.code.val.fn := ot h40
  obtain ⟨w42, hO, ew43⟩ : ∃ w', Own w' M ([(b4, .cells #[.slice b1 m.parts.length c2] 65)] ++ bs) ∧ { w5 with drawn := w5.drawn + 1 } = w' := ⟨_, hO.drawn _, rfl⟩
  refine cw (S := fun w => Own w M ([(b4, .cells #[.slice b1 m.parts.length c2] 65)] ++ bs)) (.take 0 (.take 1 (.take 2 (.take 3 (.take 4 (.take 5 (.take 6 (.take 7 (.take 8 (.take 9 (.take 10 (.take 11 (.take 12 (.take 13 (.take 14 (.take 15 (.take 16 (.take 17 (.one 18 (.take 19 (.take 20 (.take 21 .done)))))))))))))))))))))) 22 tm (by kernel_rfl) ew43 hO (hfb 0 tf_65_0 rfl rfl rfl (fun _ _ _ h => h) rfl (gy rfl rfl (fun _ _ _ h => h) (yl tl_63 tz rfl (fun _ h => ob h 0 0 rfl rfl)) ?_))
  obtain ⟨p44, rfl, _⟩ := RdS.get s3 0 (by omega)
  have hO : Own w42 M ([(b4, .cells #[.slice (some p44) m.parts.length c2] 65)] ++ bs) := by assumption
  have q45 : PAt M (p44.add (0 * 4)) (nth m.parts 0) := RdS.at s3 0 (by omega)
  refine gy rfl rfl (fun _ _ _ h => h) (yi ts_63 tz rfl rfl (by omega) (by omega)) (hfa tf_87_0 rfl rfl (fun _ _ _ h => h) rfl ?_)
  obtain ⟨_, at52, b46, c47, b49, c50, rfl, s48, s51⟩ := id q45
  refine hlc tl_3 at52 0 rfl rfl rfl (fun _ _ _ h => h) rfl (hm rfl rfl (fun _ _ _ h => h) rfl (hn rfl rfl (fun _ _ _ h => h) rfl (hfa tf_61_0 rfl rfl (fun _ _ _ h => h) rfl ?_)))
  obtain ⟨_, at60, p53, p55, b57, c58, rfl, q54, q56, s59⟩ := id h_s
  refine hlc tl_53 at60 0 rfl rfl rfl (fun _ _ _ h => h) rfl (hn rfl rfl (fun _ _ _ h => h) rfl (hfa tf_28_0 rfl rfl (fun _ _ _ h => h) rfl ?_))
  obtain ⟨_, at67, b61, c62, b64, c65, rfl, s63, s66⟩ := id q54
  refine hlc tl_3 at67 0 rfl rfl rfl (fun _ _ _ h => h) rfl (gy rfl rfl (fun _ _ _ h => h) (y_ne tz rfl rfl) (hm rfl rfl (fun _ _ _ h => h) rfl (gy rfl rfl (fun _ _ _ h => h) (ym (by rw [h11]; rfl) rfl) (gy rfl rfl (fun _ _ _ h => h) (yf 0 tf_65_0 rfl (by rw [h11]; rfl) rfl) (gy rfl rfl (fun _ _ _ h => h) (yl tl_63 (by rw [h11]; rfl) rfl (fun _ h => ob h 0 0 rfl rfl)) ?_)))))
  have q68 : PAt M (p44.add (0 * 4)) (nth m.parts 0) := RdS.at s3 0 (by omega)
  refine gy rfl rfl (fun _ _ _ h => h) (yi ts_63 (by rw [h11]; rfl) rfl rfl (by omega) (by omega)) (hn' rfl (by rw [h11]; rfl) (oc (vs := [.pointer (some p_s), .pointer (some (p44.add (0 * 4))), .int .i64 0]) tcall_38 rfl rfl (c_part s (nth m.parts 0) 0 h_s q68 (by assumption) (by omega) (by omega) hO) ?_))
  rintro _ w69 ⟨M70, _, le71, hO, rfl, rfl⟩
  refine ⟨_, rfl, ?_⟩
  have hO := hO.less le71
  refine kg_s hO (gy rfl rfl (fun _ _ _ h => h) (yt (by rw [h11]; rfl) rfl) (gy rfl rfl (fun _ _ _ h => h) (pf tz (by rw [h11]; rfl) rfl) (ha rfl rfl (fun _ _ _ h => h) rfl (gd (ez (E' := [(4, .bool (!(partB s (nth m.parts 0) 0)))]) ⟨rfl, tz⟩ (et (ct (eg (ew' ?_)))))))))
  refine er (.inl rfl) rfl rfl ?_
  refine Ret.mk (mr _) (hO.forget) (congrArg Value.bool ?_)
  (first | rfl | (simp_all [metaNotB]; done) | omega | grind [metaNotB])
 have h72 : ¬ ((m.parts.length : Int) = 1) := oq h7
 refine cq (cr (ry hO rfl (ye tz rfl rfl) (as_ hO rfl rfl (rj (et (cd rfl (fun h73 => ?_) (fun h73 => ?_)))))))
 ·
  have h74 : (m.parts.length : Int) = 2 := ot h73
  refine cq ?_
  obtain ⟨w75, hO, ew76⟩ : ∃ w', Own w' M ([(b4, .cells #[.slice b1 m.parts.length c2] 65)] ++ bs) ∧ { w5 with drawn := w5.drawn + 1 } = w' := ⟨_, hO.drawn _, rfl⟩
  refine cw (S := fun w => Own w M ([(b4, .cells #[.slice b1 m.parts.length c2] 65)] ++ bs)) (.take 0 (.take 1 (.take 2 (.take 3 (.take 4 (.take 5 (.take 6 (.take 7 .done)))))))) 8 tm (by kernel_rfl) ew76 hO (hfb 0 tf_65_0 rfl rfl rfl (fun _ _ _ h => h) rfl (gy rfl rfl (fun _ _ _ h => h) (yl tl_63 tz rfl (fun _ h => ob h 0 0 rfl rfl)) ?_))
  obtain ⟨p77, rfl, _⟩ := RdS.get s3 0 (by omega)
  have hO : Own w75 M ([(b4, .cells #[.slice (some p77) m.parts.length c2] 65)] ++ bs) := by assumption
  have q78 : PAt M (p77.add (0 * 4)) (nth m.parts 0) := RdS.at s3 0 (by omega)
  refine gy rfl rfl (fun _ _ _ h => h) (yi ts_63 tz rfl rfl (by omega) (by omega)) (hfb 0 tf_65_0 rfl rfl rfl (fun _ _ _ h => h) rfl (gy rfl rfl (fun _ _ _ h => h) (yl tl_63 tz rfl (fun _ h => ob h 0 0 rfl rfl)) ?_))
  have q79 : PAt M (p77.add (1 * 4)) (nth m.parts 1) := RdS.at s3 1 (by omega)
  refine gy rfl rfl (fun _ _ _ h => h) (yi ts_63 tz rfl rfl (by omega) (by omega)) (ha rfl rfl (fun _ _ _ h => h) rfl (ha rfl rfl (fun _ _ _ h => h) rfl (gd (ez (E' := [(0, .pointer (some p_s)), (4, .bool false), (5, .pointer (some (p77.add (0 * 4)))), (6, .pointer (some (p77.add (1 * 4))))]) ⟨rfl, rfl, rfl, rfl, tz⟩ (et (cq ?_))))))
  rcases bt (!decide ((nth m.parts 0).fn = s.code.val.fn)) with h82 | h82
  ·
   have h83 : (decide ((nth m.parts 0).fn = s.code.val.fn)) = false := by simpa using h82
   have h84 : ¬ ((nth m.parts 0).fn = s.code.val.fn) := oq h83
   obtain ⟨w85, hO, ew86⟩ : ∃ w', Own w' M ([(b4, .cells #[.slice (some p77) m.parts.length c2] 65)] ++ bs) ∧ { w75 with drawn := w75.drawn + 1 } = w' := ⟨_, hO.drawn _, rfl⟩
   refine cw (S := fun w => Own w M ([(b4, .cells #[.slice (some p77) m.parts.length c2] 65)] ++ bs)) (.take 0 (.take 1 (.take 2 (.take 3 (.take 4 (.take 5 (.take 6 (.take 7 (.take 8 (.take 9 (.take 10 (.take 11 (.take 12 (.take 13 (.take 14 (.take 15 (.take 16 (.take 17 (.take 18 (.take 19 (.take 20 (.take 21 (.take 22 (.take 23 (.take 24 (.take 25 (.take 26 (.take 27 (.take 28 (.take 29 (.take 30 (.take 31 (.take 32 (.take 33 (.take 34 (.take 35 (.take 36 (.take 37 (.take 38 (.take 39 (.take 40 (.take 41 (.take 42 (.take 43 (.take 44 (.take 45 (.take 46 (.take 47 (.take 48 .done))))))))))))))))))))))))))))))))))))))))))))))))) 49 tm (by kernel_rfl) ew86 hO (hm rfl rfl (fun _ _ _ h => h) rfl (hn rfl rfl (fun _ _ _ h => h) rfl (hfa tf_87_0 rfl rfl (fun _ _ _ h => h) rfl ?_)))
   obtain ⟨_, at93, b87, c88, b90, c91, rfl, s89, s92⟩ := id q78
   refine hlc tl_3 at93 0 rfl rfl rfl (fun _ _ _ h => h) rfl (hm rfl rfl (fun _ _ _ h => h) rfl (hn rfl rfl (fun _ _ _ h => h) rfl (hfa tf_61_0 rfl rfl (fun _ _ _ h => h) rfl ?_)))
   obtain ⟨_, at101, p94, p96, b98, c99, rfl, q95, q97, s100⟩ := id h_s
   refine hlc tl_53 at101 0 rfl rfl rfl (fun _ _ _ h => h) rfl (hn rfl rfl (fun _ _ _ h => h) rfl (hfa tf_28_0 rfl rfl (fun _ _ _ h => h) rfl ?_))
   obtain ⟨_, at108, b102, c103, b105, c106, rfl, s104, s107⟩ := id q95
   refine hlc tl_3 at108 0 rfl rfl rfl (fun _ _ _ h => h) rfl (gy rfl rfl (fun _ _ _ h => h) (y_ne tz rfl rfl) (hm rfl rfl (fun _ _ _ h => h) rfl (gy rfl rfl (fun _ _ _ h => h) (ek (by rw [h82]; rfl)) (gy rfl rfl (fun _ _ _ h => h) (ek (by rw [h82]; rfl)) (gy rfl rfl (fun _ _ _ h => h) (ek (by rw [h82]; rfl)) (gy rfl rfl (fun _ _ _ h => h) (ek (by rw [h82]; rfl)) (gy rfl rfl (fun _ _ _ h => h) (pt tz (by rw [h82]; rfl) rfl) (hm rfl rfl (fun _ _ _ h => h) rfl (gy rfl rfl (fun _ _ _ h => h) (ek rfl) ?_)))))))))
   refine gy rfl rfl (fun _ _ _ h => h) (ek rfl) (gy rfl rfl (fun _ _ _ h => h) (ek rfl) (gy rfl rfl (fun _ _ _ h => h) (ek rfl) (gy rfl rfl (fun _ _ _ h => h) (pt tz rfl rfl) (hm rfl rfl (fun _ _ _ h => h) rfl (gy rfl rfl (fun _ _ _ h => h) (ek rfl) (gy rfl rfl (fun _ _ _ h => h) (ek rfl) (gy rfl rfl (fun _ _ _ h => h) (ek rfl) (gy rfl rfl (fun _ _ _ h => h) (ek rfl) (gy rfl rfl (fun _ _ _ h => h) (ek rfl) ?_)))))))))
   refine gy rfl rfl (fun _ _ _ h => h) (ek rfl) (gy rfl rfl (fun _ _ _ h => h) (ek rfl) (gy rfl rfl (fun _ _ _ h => h) (ek rfl) (gy rfl rfl (fun _ _ _ h => h) (ek rfl) (gy rfl rfl (fun _ _ _ h => h) (ek rfl) (gy rfl rfl (fun _ _ _ h => h) (ek rfl) (gy rfl rfl (fun _ _ _ h => h) (ek rfl) (gy rfl rfl (fun _ _ _ h => h) (ek rfl) (gy rfl rfl (fun _ _ _ h => h) (ek rfl) (gy rfl rfl (fun _ _ _ h => h) (ek rfl) ?_)))))))))
   refine gy rfl rfl (fun _ _ _ h => h) (ek rfl) (gy rfl rfl (fun _ _ _ h => h) (ek rfl) (gy rfl rfl (fun _ _ _ h => h) (ek rfl) (gy rfl rfl (fun _ _ _ h => h) (ek rfl) (gy rfl rfl (fun _ _ _ h => h) (ek rfl) (gy rfl rfl (fun _ _ _ h => h) (ek rfl) (gy rfl rfl (fun _ _ _ h => h) (ek rfl) (gy rfl rfl (fun _ _ _ h => h) (pt tz rfl rfl) (ha rfl rfl (fun _ _ _ h => h) rfl (gd ?_)))))))))
   refine ez (E' := [(4, .bool true)]) ⟨rfl, tz⟩ (et (ct (eg (ew' (er (.inl rfl) rfl rfl ?_)))))
   refine Ret.mk (mr _) (hO.forget) (congrArg Value.bool ?_)
   (first | rfl | (simp_all [metaNotB]; done) | omega | grind [metaNotB])
  have h109 : (decide ((nth m.parts 0).fn = s.code.val.fn)) = true := by simpa using h82
  have h110 : (nth m.parts 0).fn = s.code.val.fn := ot h109
  rcases bt (!(partB s (nth m.parts 0) 1)) with h113 | h113
  ·
   have h114 : (partB s (nth m.parts 0) 1) = false := by simpa using h113
   obtain ⟨w115, hO, ew116⟩ : ∃ w', Own w' M ([(b4, .cells #[.slice (some p77) m.parts.length c2] 65)] ++ bs) ∧ { w75 with drawn := w75.drawn + 1 } = w' := ⟨_, hO.drawn _, rfl⟩
   refine cw (S := fun w => Own w M ([(b4, .cells #[.slice (some p77) m.parts.length c2] 65)] ++ bs)) (.take 0 (.take 1 (.take 2 (.take 3 (.take 4 (.take 5 (.take 6 (.take 7 (.take 8 (.take 9 (.take 10 (.take 11 (.take 12 (.take 13 (.take 14 (.one 15 (.take 16 (.take 17 (.take 18 (.take 19 (.take 20 (.take 21 (.take 22 (.take 23 (.take 24 (.take 25 (.take 26 (.take 27 (.take 28 (.take 29 (.take 30 (.take 31 (.take 32 (.take 33 (.take 34 (.take 35 (.take 36 (.take 37 (.take 38 (.take 39 (.take 40 (.take 41 (.take 42 (.take 43 (.take 44 (.take 45 (.take 46 (.take 47 (.take 48 .done))))))))))))))))))))))))))))))))))))))))))))))))) 49 tm (by kernel_rfl) ew116 hO (hm rfl rfl (fun _ _ _ h => h) rfl (hn rfl rfl (fun _ _ _ h => h) rfl (hfa tf_87_0 rfl rfl (fun _ _ _ h => h) rfl ?_)))
   obtain ⟨_, at123, b117, c118, b120, c121, rfl, s119, s122⟩ := id q78
   refine hlc tl_3 at123 0 rfl rfl rfl (fun _ _ _ h => h) rfl (hm rfl rfl (fun _ _ _ h => h) rfl (hn rfl rfl (fun _ _ _ h => h) rfl (hfa tf_61_0 rfl rfl (fun _ _ _ h => h) rfl ?_)))
   obtain ⟨_, at131, p124, p126, b128, c129, rfl, q125, q127, s130⟩ := id h_s
   refine hlc tl_53 at131 0 rfl rfl rfl (fun _ _ _ h => h) rfl (hn rfl rfl (fun _ _ _ h => h) rfl (hfa tf_28_0 rfl rfl (fun _ _ _ h => h) rfl ?_))
   obtain ⟨_, at138, b132, c133, b135, c136, rfl, s134, s137⟩ := id q125
   refine hlc tl_3 at138 0 rfl rfl rfl (fun _ _ _ h => h) rfl (gy rfl rfl (fun _ _ _ h => h) (y_ne tz rfl rfl) (hm rfl rfl (fun _ _ _ h => h) rfl (gy rfl rfl (fun _ _ _ h => h) (ym (by rw [h82]; rfl) rfl) (gy rfl rfl (fun _ _ _ h => h) (ym (by rw [h82]; rfl) rfl) (hn' rfl (by rw [h82]; rfl) (oc (vs := [.pointer (some p_s), .pointer (some (p77.add (0 * 4))), .int .i64 1]) tcall_38 rfl rfl (c_part s (nth m.parts 0) 1 h_s q78 (by assumption) (by omega) (by omega) hO) ?_))))))
   rintro _ w139 ⟨M140, _, le141, hO, rfl, rfl⟩
   refine ⟨_, rfl, ?_⟩
   have hO := hO.less le141
   refine kg_s hO (gy rfl rfl (fun _ _ _ h => h) (yt (by rw [h82]; rfl) rfl) (gy rfl rfl (fun _ _ _ h => h) (pf tz (by rw [h82]; rfl) rfl) (hm rfl rfl (fun _ _ _ h => h) rfl (gy rfl rfl (fun _ _ _ h => h) (ek (by rw [h113]; rfl)) (gy rfl rfl (fun _ _ _ h => h) (ek (by rw [h113]; rfl)) (gy rfl rfl (fun _ _ _ h => h) (ek (by rw [h113]; rfl)) (gy rfl rfl (fun _ _ _ h => h) (ek (by rw [h113]; rfl)) (gy rfl rfl (fun _ _ _ h => h) (pt tz (by rw [h113]; rfl) rfl) (hm rfl rfl (fun _ _ _ h => h) rfl ?_)))))))))
   refine gy rfl rfl (fun _ _ _ h => h) (ek rfl) (gy rfl rfl (fun _ _ _ h => h) (ek rfl) (gy rfl rfl (fun _ _ _ h => h) (ek rfl) (gy rfl rfl (fun _ _ _ h => h) (ek rfl) (gy rfl rfl (fun _ _ _ h => h) (ek rfl) (gy rfl rfl (fun _ _ _ h => h) (ek rfl) (gy rfl rfl (fun _ _ _ h => h) (ek rfl) (gy rfl rfl (fun _ _ _ h => h) (ek rfl) (gy rfl rfl (fun _ _ _ h => h) (ek rfl) (gy rfl rfl (fun _ _ _ h => h) (ek rfl) ?_)))))))))
   refine gy rfl rfl (fun _ _ _ h => h) (ek rfl) (gy rfl rfl (fun _ _ _ h => h) (ek rfl) (gy rfl rfl (fun _ _ _ h => h) (ek rfl) (gy rfl rfl (fun _ _ _ h => h) (ek rfl) (gy rfl rfl (fun _ _ _ h => h) (ek rfl) (gy rfl rfl (fun _ _ _ h => h) (ek rfl) (gy rfl rfl (fun _ _ _ h => h) (ek rfl) (gy rfl rfl (fun _ _ _ h => h) (ek rfl) (gy rfl rfl (fun _ _ _ h => h) (ek rfl) (gy rfl rfl (fun _ _ _ h => h) (ek rfl) ?_)))))))))
   refine gy rfl rfl (fun _ _ _ h => h) (ek rfl) (gy rfl rfl (fun _ _ _ h => h) (ek rfl) (gy rfl rfl (fun _ _ _ h => h) (pt tz rfl rfl) (ha rfl rfl (fun _ _ _ h => h) rfl (gd (ez (E' := [(4, .bool true)]) ⟨rfl, tz⟩ (et (ct (eg (ew' ?_)))))))))
   refine er (.inl rfl) rfl rfl ?_
   refine Ret.mk (mr _) (hO.forget) (congrArg Value.bool ?_)
   (first | rfl | (simp_all [metaNotB]; done) | omega | grind [metaNotB])
  have h142 : (partB s (nth m.parts 0) 1) = true := by simpa using h113
  rcases bt (!(partB s (nth m.parts 1) 0)) with h145 | h145
  ·
   have h146 : (partB s (nth m.parts 1) 0) = false := by simpa using h145
   obtain ⟨w147, hO, ew148⟩ : ∃ w', Own w' M ([(b4, .cells #[.slice (some p77) m.parts.length c2] 65)] ++ bs) ∧ { w75 with drawn := w75.drawn + 1 } = w' := ⟨_, hO.drawn _, rfl⟩
   refine cw (S := fun w => Own w M ([(b4, .cells #[.slice (some p77) m.parts.length c2] 65)] ++ bs)) (.take 0 (.take 1 (.take 2 (.take 3 (.take 4 (.take 5 (.take 6 (.take 7 (.take 8 (.take 9 (.take 10 (.take 11 (.take 12 (.take 13 (.take 14 (.one 15 (.take 16 (.take 17 (.take 18 (.take 19 (.take 20 (.one 21 (.take 22 (.take 23 (.take 24 (.take 25 (.take 26 (.take 27 (.take 28 (.take 29 (.take 30 (.take 31 (.take 32 (.take 33 (.take 34 (.take 35 (.take 36 (.take 37 (.take 38 (.take 39 (.take 40 (.take 41 (.take 42 (.take 43 (.take 44 (.take 45 (.take 46 (.take 47 (.take 48 .done))))))))))))))))))))))))))))))))))))))))))))))))) 49 tm (by kernel_rfl) ew148 hO (hm rfl rfl (fun _ _ _ h => h) rfl (hn rfl rfl (fun _ _ _ h => h) rfl (hfa tf_87_0 rfl rfl (fun _ _ _ h => h) rfl ?_)))
   obtain ⟨_, at155, b149, c150, b152, c153, rfl, s151, s154⟩ := id q78
   refine hlc tl_3 at155 0 rfl rfl rfl (fun _ _ _ h => h) rfl (hm rfl rfl (fun _ _ _ h => h) rfl (hn rfl rfl (fun _ _ _ h => h) rfl (hfa tf_61_0 rfl rfl (fun _ _ _ h => h) rfl ?_)))
   obtain ⟨_, at163, p156, p158, b160, c161, rfl, q157, q159, s162⟩ := id h_s
   refine hlc tl_53 at163 0 rfl rfl rfl (fun _ _ _ h => h) rfl (hn rfl rfl (fun _ _ _ h => h) rfl (hfa tf_28_0 rfl rfl (fun _ _ _ h => h) rfl ?_))
   obtain ⟨_, at170, b164, c165, b167, c168, rfl, s166, s169⟩ := id q157
   refine hlc tl_3 at170 0 rfl rfl rfl (fun _ _ _ h => h) rfl (gy rfl rfl (fun _ _ _ h => h) (y_ne tz rfl rfl) (hm rfl rfl (fun _ _ _ h => h) rfl (gy rfl rfl (fun _ _ _ h => h) (ym (by rw [h82]; rfl) rfl) (gy rfl rfl (fun _ _ _ h => h) (ym (by rw [h82]; rfl) rfl) (hn' rfl (by rw [h82]; rfl) (oc (vs := [.pointer (some p_s), .pointer (some (p77.add (0 * 4))), .int .i64 1]) tcall_38 rfl rfl (c_part s (nth m.parts 0) 1 h_s q78 (by assumption) (by omega) (by omega) hO) ?_))))))
   rintro _ w171 ⟨M172, _, le173, hO, rfl, rfl⟩
   refine ⟨_, rfl, ?_⟩
   have hO := hO.less le173
   refine kg_s hO (gy rfl rfl (fun _ _ _ h => h) (yt (by rw [h82]; rfl) rfl) (gy rfl rfl (fun _ _ _ h => h) (pf tz (by rw [h82]; rfl) rfl) (hm rfl rfl (fun _ _ _ h => h) rfl (gy rfl rfl (fun _ _ _ h => h) (ym (by rw [h113]; rfl) rfl) (gy rfl rfl (fun _ _ _ h => h) (ym (by rw [h113]; rfl) rfl) (hn' rfl (by rw [h113]; rfl) (oc (vs := [.pointer (some p_s), .pointer (some (p77.add (1 * 4))), .int .i64 0]) tcall_38 rfl rfl (c_part s (nth m.parts 1) 0 h_s q79 (by assumption) (by omega) (by omega) hO) ?_)))))))
   rintro _ w174 ⟨M175, _, le176, hO, rfl, rfl⟩
   refine ⟨_, rfl, ?_⟩
   have hO := hO.less le176
   refine kg_s hO (gy rfl rfl (fun _ _ _ h => h) (yt (by rw [h113]; rfl) rfl) (gy rfl rfl (fun _ _ _ h => h) (pf tz (by rw [h113]; rfl) rfl) (hm rfl rfl (fun _ _ _ h => h) rfl (gy rfl rfl (fun _ _ _ h => h) (ek (by rw [h145]; rfl)) (gy rfl rfl (fun _ _ _ h => h) (ek (by rw [h145]; rfl)) (gy rfl rfl (fun _ _ _ h => h) (ek (by rw [h145]; rfl)) (gy rfl rfl (fun _ _ _ h => h) (ek (by rw [h145]; rfl)) (gy rfl rfl (fun _ _ _ h => h) (ek (by rw [h145]; rfl)) (gy rfl rfl (fun _ _ _ h => h) (ek (by rw [h145]; rfl)) ?_)))))))))
   refine gy rfl rfl (fun _ _ _ h => h) (ek (by rw [h145]; rfl)) (gy rfl rfl (fun _ _ _ h => h) (ek (by rw [h145]; rfl)) (gy rfl rfl (fun _ _ _ h => h) (ek (by rw [h145]; rfl)) (gy rfl rfl (fun _ _ _ h => h) (ek (by rw [h145]; rfl)) (gy rfl rfl (fun _ _ _ h => h) (ek (by rw [h145]; rfl)) (gy rfl rfl (fun _ _ _ h => h) (ek (by rw [h145]; rfl)) (gy rfl rfl (fun _ _ _ h => h) (ek (by rw [h145]; rfl)) (gy rfl rfl (fun _ _ _ h => h) (ek (by rw [h145]; rfl)) (gy rfl rfl (fun _ _ _ h => h) (ek (by rw [h145]; rfl)) (gy rfl rfl (fun _ _ _ h => h) (ek (by rw [h145]; rfl)) ?_)))))))))
   refine gy rfl rfl (fun _ _ _ h => h) (ek (by rw [h145]; rfl)) (gy rfl rfl (fun _ _ _ h => h) (ek (by rw [h145]; rfl)) (gy rfl rfl (fun _ _ _ h => h) (ek (by rw [h145]; rfl)) (gy rfl rfl (fun _ _ _ h => h) (ek (by rw [h145]; rfl)) (gy rfl rfl (fun _ _ _ h => h) (ek (by rw [h145]; rfl)) (gy rfl rfl (fun _ _ _ h => h) (ek (by rw [h145]; rfl)) (gy rfl rfl (fun _ _ _ h => h) (pt tz (by rw [h145]; rfl) rfl) (ha rfl rfl (fun _ _ _ h => h) rfl (gd (ez (E' := [(4, .bool true)]) ⟨rfl, tz⟩ ?_)))))))))
   refine et (ct (eg (ew' (er (.inl rfl) rfl rfl ?_))))
   refine Ret.mk (mr _) (hO.forget) (congrArg Value.bool ?_)
   (first | rfl | (simp_all [metaNotB]; done) | omega | grind [metaNotB])
  have h177 : (partB s (nth m.parts 1) 0) = true := by simpa using h145
  obtain ⟨w178, hO, ew179⟩ : ∃ w', Own w' M ([(b4, .cells #[.slice (some p77) m.parts.length c2] 65)] ++ bs) ∧ { w75 with drawn := w75.drawn + 1 } = w' := ⟨_, hO.drawn _, rfl⟩
  refine cw (S := fun w => Own w M ([(b4, .cells #[.slice (some p77) m.parts.length c2] 65)] ++ bs)) (.take 0 (.take 1 (.take 2 (.take 3 (.take 4 (.take 5 (.take 6 (.take 7 (.take 8 (.take 9 (.take 10 (.take 11 (.take 12 (.take 13 (.take 14 (.one 15 (.take 16 (.take 17 (.take 18 (.take 19 (.take 20 (.one 21 (.take 22 (.take 23 (.take 24 (.take 25 (.take 26 (.take 27 (.take 28 (.take 29 (.take 30 (.take 31 (.take 32 (.take 33 (.take 34 (.take 35 (.take 36 (.take 37 (.take 38 (.take 39 (.take 40 (.take 41 (.take 42 (.take 43 (.take 44 (.one 45 (.take 46 (.take 47 (.take 48 .done))))))))))))))))))))))))))))))))))))))))))))))))) 49 tm (by kernel_rfl) ew179 hO (hm rfl rfl (fun _ _ _ h => h) rfl (hn rfl rfl (fun _ _ _ h => h) rfl (hfa tf_87_0 rfl rfl (fun _ _ _ h => h) rfl ?_)))
  obtain ⟨_, at186, b180, c181, b183, c184, rfl, s182, s185⟩ := id q78
  refine hlc tl_3 at186 0 rfl rfl rfl (fun _ _ _ h => h) rfl (hm rfl rfl (fun _ _ _ h => h) rfl (hn rfl rfl (fun _ _ _ h => h) rfl (hfa tf_61_0 rfl rfl (fun _ _ _ h => h) rfl ?_)))
  obtain ⟨_, at194, p187, p189, b191, c192, rfl, q188, q190, s193⟩ := id h_s
  refine hlc tl_53 at194 0 rfl rfl rfl (fun _ _ _ h => h) rfl (hn rfl rfl (fun _ _ _ h => h) rfl (hfa tf_28_0 rfl rfl (fun _ _ _ h => h) rfl ?_))
  obtain ⟨_, at201, b195, c196, b198, c199, rfl, s197, s200⟩ := id q188
  refine hlc tl_3 at201 0 rfl rfl rfl (fun _ _ _ h => h) rfl (gy rfl rfl (fun _ _ _ h => h) (y_ne tz rfl rfl) (hm rfl rfl (fun _ _ _ h => h) rfl (gy rfl rfl (fun _ _ _ h => h) (ym (by rw [h82]; rfl) rfl) (gy rfl rfl (fun _ _ _ h => h) (ym (by rw [h82]; rfl) rfl) (hn' rfl (by rw [h82]; rfl) (oc (vs := [.pointer (some p_s), .pointer (some (p77.add (0 * 4))), .int .i64 1]) tcall_38 rfl rfl (c_part s (nth m.parts 0) 1 h_s q78 (by assumption) (by omega) (by omega) hO) ?_))))))
  rintro _ w202 ⟨M203, _, le204, hO, rfl, rfl⟩
  refine ⟨_, rfl, ?_⟩
  have hO := hO.less le204
  refine kg_s hO (gy rfl rfl (fun _ _ _ h => h) (yt (by rw [h82]; rfl) rfl) (gy rfl rfl (fun _ _ _ h => h) (pf tz (by rw [h82]; rfl) rfl) (hm rfl rfl (fun _ _ _ h => h) rfl (gy rfl rfl (fun _ _ _ h => h) (ym (by rw [h113]; rfl) rfl) (gy rfl rfl (fun _ _ _ h => h) (ym (by rw [h113]; rfl) rfl) (hn' rfl (by rw [h113]; rfl) (oc (vs := [.pointer (some p_s), .pointer (some (p77.add (1 * 4))), .int .i64 0]) tcall_38 rfl rfl (c_part s (nth m.parts 1) 0 h_s q79 (by assumption) (by omega) (by omega) hO) ?_)))))))
  rintro _ w205 ⟨M206, _, le207, hO, rfl, rfl⟩
  refine ⟨_, rfl, ?_⟩
  have hO := hO.less le207
  refine kg_s hO (gy rfl rfl (fun _ _ _ h => h) (yt (by rw [h113]; rfl) rfl) (gy rfl rfl (fun _ _ _ h => h) (pf tz (by rw [h113]; rfl) rfl) (hm rfl rfl (fun _ _ _ h => h) rfl (gy rfl rfl (fun _ _ _ h => h) (ym (by rw [h145]; rfl) rfl) (gy rfl rfl (fun _ _ _ h => h) (yn (by rw [h145]; rfl) rfl) (gy rfl rfl (fun _ _ _ h => h) (ya tf_61_1 (by rw [h145]; rfl) rfl) (gy rfl rfl (fun _ _ _ h => h) (yl tl_58 (by rw [h145]; rfl) rfl (fun _ h => at194.cell h 1 rfl)) (gy rfl rfl (fun _ _ _ h => h) (ym (by rw [h145]; rfl) rfl) (gy rfl rfl (fun _ _ _ h => h) (yn (by rw [h145]; rfl) rfl) ?_)))))))))
  refine gy rfl rfl (fun _ _ _ h => h) (ya tf_61_2 (by rw [h145]; rfl) rfl) (gy rfl rfl (fun _ _ _ h => h) (yl tl_55 (by rw [h145]; rfl) rfl (fun _ h => at194.cell h 2 rfl)) (gy rfl rfl (fun _ _ _ h => h) (ym (by rw [h145]; rfl) rfl) (gy rfl rfl (fun _ _ _ h => h) (yn (by rw [h145]; rfl) rfl) (gy rfl rfl (fun _ _ _ h => h) (ya tf_87_0 (by rw [h145]; rfl) rfl) (gy rfl rfl (fun _ _ _ h => h) (yl tl_3 (by rw [h145]; rfl) rfl (fun _ h => at186.cell h 0 rfl)) (gy rfl rfl (fun _ _ _ h => h) (ym (by rw [h145]; rfl) rfl) (gy rfl rfl (fun _ _ _ h => h) (yn (by rw [h145]; rfl) rfl) (gy rfl rfl (fun _ _ _ h => h) (ya tf_87_1 (by rw [h145]; rfl) rfl) (gy rfl rfl (fun _ _ _ h => h) (yl tl_3 (by rw [h145]; rfl) rfl (fun _ h => at186.cell h 1 rfl)) ?_)))))))))
  refine gy rfl rfl (fun _ _ _ h => h) (ym (by rw [h145]; rfl) rfl) (gy rfl rfl (fun _ _ _ h => h) (yn (by rw [h145]; rfl) rfl) (gy rfl rfl (fun _ _ _ h => h) (ya tf_87_0 (by rw [h145]; rfl) rfl) ?_))
  obtain ⟨_, at214, b208, c209, b211, c212, rfl, s210, s213⟩ := id q79
  refine gy rfl rfl (fun _ _ _ h => h) (yl tl_3 (by rw [h145]; rfl) rfl (fun _ h => at214.cell h 0 rfl)) (hn' rfl (by rw [h145]; rfl) (oc (vs := [.pointer (some p189), .slice b191 s.heights.length c192, .int .i64 ((nth m.parts 0).fn), .int .i64 ((nth m.parts 0).pc), .int .i64 ((nth m.parts 1).fn)]) tcall_39 rfl rfl (c_After s.p.val s.heights ((nth m.parts 0).fn) ((nth m.parts 0).pc) ((nth m.parts 1).fn) q190 s193 (by assumption) (by omega) (by omega) hO) ?_))
  rintro _ w215 ⟨M216, _, le217, hO, rfl, rfl⟩
  refine ⟨_, rfl, ?_⟩
  have hO := hO.less le217
  refine kg_s hO (gy rfl rfl (fun _ _ _ h => h) (yt (by rw [h145]; rfl) rfl) (gy rfl rfl (fun _ _ _ h => h) (pf tz (by rw [h145]; rfl) rfl) (ha rfl rfl (fun _ _ _ h => h) rfl (gd (ez (E' := [(4, .bool (!(afterB s.p.val s.heights ((nth m.parts 0).fn) ((nth m.parts 0).pc) ((nth m.parts 1).fn))))]) ⟨rfl, tz⟩ (et (ct (eg (ew' ?_)))))))))
  refine er (.inl rfl) rfl rfl ?_
  refine Ret.mk (mr _) (hO.forget) (congrArg Value.bool ?_)
  (first | rfl | (simp_all [metaNotB]; done) | omega | grind [metaNotB])
 have h218 : ¬ ((m.parts.length : Int) = 2) := oq h73
 refine cp (ek' (et (cq (cr (as_ hO rfl rfl (rj (et (ct (er (.inl rfl) rfl rfl ?_)))))))))
 refine Ret.mk (mr _) (hO.forget) (congrArg Value.bool ?_)
 (first | rfl | (simp_all [metaNotB]; done) | omega | grind [metaNotB])

end Go.Proofs.YtdniefnjgkhkeaaDoor
