/-
  Contracts of Go functions, each walked operation by operation: swage/ins.Effect, swage/verify.args, swage/verify.outside, math/bits.Mul64, math/bits.Mul.
  Conditions: as each statement says.
-/
import Derived.Test.YtdniefnjgkhkeaaDoorVf
import Derived.Test.YtdniefnjgkhkeaaDoorProg
import Derived.Test.YtdniefnjgkhkeaaDoorC1
import Derived.Test.YtdniefnjgkhkeaaDoorC2
import Derived.Test.YtdniefnjgkhkeaaDoorC3
import Derived.Test.YtdniefnjgkhkeaaDoorC4
namespace Go.Proofs.YtdniefnjgkhkeaaDoor
open Go
set_option maxRecDepth 100000
set_option linter.unusedVariables false
set_option linter.unusedSimpArgs false
theorem tcall_83 : cl Tryd.prog 83 := ⟨_, Tryd.func83, by kernel_rfl, by kernel_rfl⟩
theorem c_Effect {vs_i : List Value} (i : Ins) (n : Int) {w : World} {M : Mem} {bs : List (Nat × Obj)} (h_i : Rep.rd M vs_i i)  (hO : Own w M (bs)) :
    Calls Tryd.prog 65 #[.agg vs_i.toArray, .int .i64 n] w (Ret M bs (fun M' v => ∃ v0 v1 v2, v = .tuple #[v0, v1, v2] ∧ (v0 = .int .i64 ((ft i n).1)) ∧ (v1 = .int .i64 ((ft i n).2.1)) ∧ (v2 = .int .i64 ((ft i n).2.2)))) := by
 obtain rfl := h_i
 refine ce (vs := [.agg #[.int .i64 i.kind, .int .i64 i.a], .int .i64 n]) (n := 50) Tryd.func65 rfl rfl rfl (cq (cr (rd' tz (og_box hO rfl rfl (fun b1 w2 hO => ?_)))))
 have hO : Own _ M ([(b1, .cells #[.int .i64 i.kind, .int .i64 i.a] 41)] ++ bs) := hO
 refine as_ hO rfl rfl (as_ hO rfl rfl (as_ hO rfl rfl (rj (et (cq (cq (cr (ry hO rfl (yq [.int .i64 i.kind, .int .i64 i.a] ta_41 rfl tz rfl (fun _ h => Own.cellsB h 0 0 rfl (by intro j v e; exact rowCells (vs := [.int .i64 i.kind, .int .i64 i.a]) rfl e))) (rd' tz (oc (vs := [.agg #[.int .i64 i.kind, .int .i64 i.a]]) tcall_59 rfl rfl (c_insMay (vs_i := [.int .i64 i.kind, .int .i64 i.a]) i rfl hO) ?_))))))))))
 rintro _ w3 ⟨M4, _, le5, hO, rfl, rfl⟩
 refine ⟨_, rfl, ?_⟩
 have hle6 := le5
 refine ry hO rfl (yt tz rfl) (mv hO rfl rfl ?_)
 rcases bt (!(insMay i)) with h7 | h7
 ·
  have h8 : (insMay i) = false := by simpa using h7
  refine ry hO rfl (ek (by rw [h7]; rfl)) (ry hO rfl (ek (by rw [h7]; rfl)) (ry hO rfl (pt tz (by rw [h7]; rfl) rfl) (mv hO rfl rfl (ry hO rfl (ek rfl) (ry hO rfl (ek rfl) (ry hO rfl (pt tz rfl rfl) (rj (ez (E' := [(1, .int .i64 n), (2, .pointer (some ⟨b1, 0, none⟩)), (4, .int .i64 0), (5, .int .i64 0), (6, .int .i64 0), (19, .bool true)]) ⟨rfl, rfl, rfl, rfl, rfl, rfl, tz⟩ (et ?_)))))))))
  refine cv rfl (cq (cr (as_ hO rfl rfl (as_ hO rfl rfl (as_ hO rfl rfl (rj (et (ct (ew' ?_)))))))))
  refine ends_ret3 (.inl rfl) rfl rfl rfl rfl ?_
  refine Ret.mk hle6 (hO.forget) (⟨_, _, _, rfl, ?_, ?_, ?_⟩)
  ·
   refine congrArg (Value.int .i64) ?_
   (first | rfl | (simp_all [ft]; done) | omega | grind [ft])
  ·
   refine congrArg (Value.int .i64) ?_
   (first | rfl | (simp_all [ft]; done) | omega | grind [ft])
  ·
   refine congrArg (Value.int .i64) ?_
   (first | rfl | (simp_all [ft]; done) | omega | grind [ft])
 have h9 : (insMay i) = true := by simpa using h7
 refine ry hO rfl (ym (by rw [h7]; rfl) rfl) (ry hO rfl (yv (by rw [h7]; rfl) rfl rfl) (ry hO rfl (pf tz (by rw [h7]; rfl) rfl) (mv hO rfl rfl ?_)))
 rcases bt (decide (n < 0)) with h10 | h10
 ·
  have h11 : n < 0 := ot h10
  refine ry hO rfl (ek (by rw [h10]; rfl)) (ry hO rfl (ek (by rw [h10]; rfl)) (ry hO rfl (pt tz (by rw [h10]; rfl) rfl) (rj (ez (E' := [(1, .int .i64 n), (2, .pointer (some ⟨b1, 0, none⟩)), (4, .int .i64 0), (5, .int .i64 0), (6, .int .i64 0), (19, .bool true)]) ⟨rfl, rfl, rfl, rfl, rfl, rfl, tz⟩ (et (cv rfl (cq (cr (as_ hO rfl rfl ?_)))))))))
  refine as_ hO rfl rfl (as_ hO rfl rfl (rj (et (ct (ew' (ends_ret3 (.inl rfl) rfl rfl rfl rfl ?_))))))
  refine Ret.mk hle6 (hO.forget) (⟨_, _, _, rfl, ?_, ?_, ?_⟩)
  ·
   refine congrArg (Value.int .i64) ?_
   (first | rfl | (simp_all [ft]; done) | omega | grind [ft])
  ·
   refine congrArg (Value.int .i64) ?_
   (first | rfl | (simp_all [ft]; done) | omega | grind [ft])
  ·
   refine congrArg (Value.int .i64) ?_
   (first | rfl | (simp_all [ft]; done) | omega | grind [ft])
 have h12 : ¬ (n < 0) := oq h10
 refine ry hO rfl (ym (by rw [h10]; rfl) rfl) (ry hO rfl (y_gt (by rw [h10]; rfl) rfl rfl) (ry hO rfl (pf tz (by rw [h10]; rfl) rfl) (rj (ez (E' := [(1, .int .i64 n), (2, .pointer (some ⟨b1, 0, none⟩)), (4, .int .i64 0), (5, .int .i64 0), (6, .int .i64 0), (19, .bool (decide (4 < n)))]) ⟨rfl, rfl, rfl, rfl, rfl, rfl, tz⟩ (et (cd rfl (fun h13 => ?_) (fun h13 => ?_)))))))
 ·
  have h14 : 4 < n := ot h13
  refine cq (cr (as_ hO rfl rfl (as_ hO rfl rfl (as_ hO rfl rfl (rj (et (ct (ew' (ends_ret3 (.inl rfl) rfl rfl rfl rfl ?_)))))))))
  refine Ret.mk hle6 (hO.forget) (⟨_, _, _, rfl, ?_, ?_, ?_⟩)
  ·
   refine congrArg (Value.int .i64) ?_
   (first | rfl | (simp_all [ft]; done) | omega | grind [ft])
  ·
   refine congrArg (Value.int .i64) ?_
   (first | rfl | (simp_all [ft]; done) | omega | grind [ft])
  ·
   refine congrArg (Value.int .i64) ?_
   (first | rfl | (simp_all [ft]; done) | omega | grind [ft])
 have h15 : ¬ (4 < n) := oq h13
 refine cp (et (cq (cr (as_ hO rfl rfl (as_ hO rfl rfl (rj (et (cq (cq ?_)))))))))
 refine cr (fb 0 tf_41_0 rfl hO rfl rfl (ry hO rfl (yl tl_3 tz rfl (fun _ h => ob h 0 0 rfl rfl)) (rj (et (cb (cq (cb (cq (cb ?_)))))))))
 refine cq (cb (cq (cb (cq (cb (cq (cq (cq (cq ?_)))))))))
 refine cr (ry hO rfl (ye tz rfl rfl) (as_ hO rfl rfl (rj (et (cd rfl (fun h16 => ?_) (fun h16 => ?_))))))
 ·
  have h17 : i.kind = 0 := ot h16
  refine cp (et (cv (by rw [h16]; rfl) (cx (eh (eh (ej (et (cq (cr ?_)))))))))
  refine as_ hO rfl rfl (rj (et (cx (ep (by decide) (eh (ep (by decide) (eh (ep (by decide) (eh ?_)))))))))
  refine ep (by decide) (eh (ej (et (cq (cr (mv hO rfl rfl (mv hO rfl rfl (as_ hO rfl rfl (as_ hO rfl rfl ?_)))))))))
  refine as_ hO rfl rfl (rj (ez (E' := [(4, .int .i64 0), (5, .int .i64 1), (6, .int .i64 0)]) ⟨rfl, rfl, rfl, tz⟩ (et (ct (ends_ret3 (.inl rfl) rfl rfl rfl rfl ?_)))))
  refine Ret.mk hle6 (hO.forget) (⟨_, _, _, rfl, ?_, ?_, ?_⟩)
  ·
   refine congrArg (Value.int .i64) ?_
   (first | rfl | (simp_all [ft]; done) | omega | grind [ft])
  ·
   refine congrArg (Value.int .i64) ?_
   (first | rfl | (simp_all [ft]; done) | omega | grind [ft])
  ·
   refine congrArg (Value.int .i64) ?_
   (first | rfl | (simp_all [ft]; done) | omega | grind [ft])
 have h18 : ¬ (i.kind = 0) := oq h16
 refine cr (ry hO rfl (ye tz rfl rfl) (as_ hO rfl rfl (rj (et (cd rfl (fun h19 => ?_) (fun h19 => ?_))))))
 ·
  have h20 : i.kind = 1 := ot h19
  refine cx (eh (eh (ej (ez (E' := [(1, .int .i64 n), (4, .int .i64 0), (5, .int .i64 0), (6, .int .i64 0), (7, .int .i64 0), (8, .int .i64 0)]) ⟨rfl, rfl, rfl, rfl, rfl, rfl, tz⟩ (et (cq (cr (as_ hO rfl rfl (rj ?_)))))))))
  refine et (cx (ep (by decide) (eh (ep (by decide) (eh (ep (by decide) (eh (ep (by decide) (eh ?_)))))))))
  refine ej (et (cq (cr (mv hO rfl rfl (mv hO rfl rfl (as_ hO rfl rfl (as_ hO rfl rfl (as_ hO rfl rfl (rj ?_)))))))))
  refine et (ct (ends_ret3 (.inl rfl) rfl rfl rfl rfl ?_))
  refine Ret.mk hle6 (hO.forget) (⟨_, _, _, rfl, ?_, ?_, ?_⟩)
  ·
   refine congrArg (Value.int .i64) ?_
   (first | rfl | (simp_all [ft]; done) | omega | grind [ft])
  ·
   refine congrArg (Value.int .i64) ?_
   (first | rfl | (simp_all [ft]; done) | omega | grind [ft])
  ·
   refine congrArg (Value.int .i64) ?_
   (first | rfl | (simp_all [ft]; done) | omega | grind [ft])
 have h21 : ¬ (i.kind = 1) := oq h19
 refine cp (et (cq (cq (cq (cr (ry hO rfl (ye tz rfl rfl) (as_ hO rfl rfl (rj (ez (E' := [(1, .int .i64 n), (4, .int .i64 0), (5, .int .i64 0), (6, .int .i64 0), (7, .int .i64 0), (8, .int .i64 0), (21, .int .i64 i.kind), (25, .bool (decide (i.kind = 3)))]) ⟨rfl, rfl, rfl, rfl, rfl, rfl, rfl, rfl, tz⟩ ?_)))))))))
 refine et (cd rfl (fun h22 => ?_) (fun h22 => ?_))
 ·
  have h23 : i.kind = 3 := ot h22
  refine cp (et (cv (by rw [h22]; rfl) (cx (eh (eh (ep (by decide) (eh (ej (et ?_)))))))))
  refine cq (cr (as_ hO rfl rfl (rj (et (cr (mv hO rfl rfl (ry hO rfl (y_add 1 tz rfl rfl (by rw [wd] <;> omega)) (as_ hO rfl rfl (rj ?_)))))))))
  refine ek' (et (cq (cr (mv hO rfl rfl (ry hO rfl (y_add 2 tz rfl rfl (by rw [wd] <;> omega)) (as_ hO rfl rfl (rj (et (cx ?_)))))))))
  refine ep (by decide) (eh (ep (by decide) (eh (ej (et (cq (cr (mv hO rfl rfl (mv hO rfl rfl ?_)))))))))
  refine as_ hO rfl rfl (as_ hO rfl rfl (as_ hO rfl rfl (rj (ez (E' := [(4, .int .i64 2), (5, .int .i64 1), (6, .int .i64 0)]) ⟨rfl, rfl, rfl, tz⟩ (et (ct (ends_ret3 (.inl rfl) rfl rfl rfl rfl ?_)))))))
  refine Ret.mk hle6 (hO.forget) (⟨_, _, _, rfl, ?_, ?_, ?_⟩)
  ·
   refine congrArg (Value.int .i64) ?_
   (first | rfl | (simp_all [ft]; done) | omega | grind [ft])
  ·
   refine congrArg (Value.int .i64) ?_
   (first | rfl | (simp_all [ft]; done) | omega | grind [ft])
  ·
   refine congrArg (Value.int .i64) ?_
   (first | rfl | (simp_all [ft]; done) | omega | grind [ft])
 have h24 : ¬ (i.kind = 3) := oq h22
 refine cq (cr (ry hO rfl (ye tz rfl rfl) (as_ hO rfl rfl (rj (et (cd rfl (fun h25 => ?_) (fun h25 => ?_)))))))
 ·
  have h26 : i.kind = 4 := ot h25
  refine cp (et (cv (by rw [h25]; rfl) (cx (eh (eh (ep (by decide) (eh (ej (et ?_)))))))))
  refine cq (cr (as_ hO rfl rfl (rj (et (cr (mv hO rfl rfl (ry hO rfl (y_add 1 tz rfl rfl (by rw [wd] <;> omega)) (as_ hO rfl rfl (rj ?_)))))))))
  refine ek' (et (cq (cr (mv hO rfl rfl (ry hO rfl (y_add 2 tz rfl rfl (by rw [wd] <;> omega)) (as_ hO rfl rfl (rj (ez (E' := [(1, .int .i64 n), (4, .int .i64 0), (5, .int .i64 0), (6, .int .i64 0), (7, .int .i64 2), (8, .int .i64 1)]) ⟨rfl, rfl, rfl, rfl, rfl, rfl, tz⟩ (et ?_)))))))))
  refine cx (ep (by decide) (eh (ep (by decide) (eh (ej (et (cq (cr (mv hO rfl rfl ?_)))))))))
  refine mv hO rfl rfl (as_ hO rfl rfl (as_ hO rfl rfl (as_ hO rfl rfl (rj (et (ct (ends_ret3 (.inl rfl) rfl rfl rfl rfl ?_)))))))
  refine Ret.mk hle6 (hO.forget) (⟨_, _, _, rfl, ?_, ?_, ?_⟩)
  ·
   refine congrArg (Value.int .i64) ?_
   (first | rfl | (simp_all [ft]; done) | omega | grind [ft])
  ·
   refine congrArg (Value.int .i64) ?_
   (first | rfl | (simp_all [ft]; done) | omega | grind [ft])
  ·
   refine congrArg (Value.int .i64) ?_
   (first | rfl | (simp_all [ft]; done) | omega | grind [ft])
 have h27 : ¬ (i.kind = 4) := oq h25
 refine cq (cr (ry hO rfl (ye tz rfl rfl) (as_ hO rfl rfl (rj (et (cd rfl (fun h28 => ?_) (fun h28 => ?_)))))))
 ·
  have h29 : i.kind = 5 := ot h28
  refine cp (et (cv (by rw [h28]; rfl) (cx (eh (eh (ep (by decide) (eh (ej (et ?_)))))))))
  refine cq (cr (as_ hO rfl rfl (rj (et (cr (mv hO rfl rfl (ry hO rfl (y_add 1 tz rfl rfl (by rw [wd] <;> omega)) (as_ hO rfl rfl (rj ?_)))))))))
  refine ek' (et (cq (cr (mv hO rfl rfl (ry hO rfl (y_add 2 tz rfl rfl (by rw [wd] <;> omega)) (as_ hO rfl rfl (rj (ez (E' := [(1, .int .i64 n), (4, .int .i64 0), (5, .int .i64 0), (6, .int .i64 0), (7, .int .i64 2), (8, .int .i64 1)]) ⟨rfl, rfl, rfl, rfl, rfl, rfl, tz⟩ (et ?_)))))))))
  refine cx (ep (by decide) (eh (ep (by decide) (eh (ej (et (cq (cr (mv hO rfl rfl ?_)))))))))
  refine mv hO rfl rfl (as_ hO rfl rfl (as_ hO rfl rfl (as_ hO rfl rfl (rj (et (ct (ends_ret3 (.inl rfl) rfl rfl rfl rfl ?_)))))))
  refine Ret.mk hle6 (hO.forget) (⟨_, _, _, rfl, ?_, ?_, ?_⟩)
  ·
   refine congrArg (Value.int .i64) ?_
   (first | rfl | (simp_all [ft]; done) | omega | grind [ft])
  ·
   refine congrArg (Value.int .i64) ?_
   (first | rfl | (simp_all [ft]; done) | omega | grind [ft])
  ·
   refine congrArg (Value.int .i64) ?_
   (first | rfl | (simp_all [ft]; done) | omega | grind [ft])
 have h30 : ¬ (i.kind = 5) := oq h28
 refine cq (cr (ry hO rfl (ye tz rfl rfl) (as_ hO rfl rfl (rj (et (cd rfl (fun h31 => ?_) (fun h31 => ?_)))))))
 ·
  have h32 : i.kind = 6 := ot h31
  refine cp (et (cv (by rw [h31]; rfl) (cx (eh (eh (ep (by decide) (eh (ej (et ?_)))))))))
  refine cq (cr (as_ hO rfl rfl (rj (et (cr (mv hO rfl rfl (ry hO rfl (y_add 1 tz rfl rfl (by rw [wd] <;> omega)) (as_ hO rfl rfl (rj ?_)))))))))
  refine ek' (ez (E' := [(1, .int .i64 n), (4, .int .i64 0), (5, .int .i64 0), (6, .int .i64 0), (7, .int .i64 1), (8, .int .i64 1)]) ⟨rfl, rfl, rfl, rfl, rfl, rfl, tz⟩ (et (cq (cr (mv hO rfl rfl (ry hO rfl (y_add 2 tz rfl rfl (by rw [wd] <;> omega)) (as_ hO rfl rfl (rj (et ?_)))))))))
  refine cx (ep (by decide) (eh (ep (by decide) (eh (ej (et (cq (cr (mv hO rfl rfl ?_)))))))))
  refine mv hO rfl rfl (as_ hO rfl rfl (as_ hO rfl rfl (as_ hO rfl rfl (rj (et (ct (ends_ret3 (.inl rfl) rfl rfl rfl rfl ?_)))))))
  refine Ret.mk hle6 (hO.forget) (⟨_, _, _, rfl, ?_, ?_, ?_⟩)
  ·
   refine congrArg (Value.int .i64) ?_
   (first | rfl | (simp_all [ft]; done) | omega | grind [ft])
  ·
   refine congrArg (Value.int .i64) ?_
   (first | rfl | (simp_all [ft]; done) | omega | grind [ft])
  ·
   refine congrArg (Value.int .i64) ?_
   (first | rfl | (simp_all [ft]; done) | omega | grind [ft])
 have h33 : ¬ (i.kind = 6) := oq h31
 refine cq (cr (ry hO rfl (ye tz rfl rfl) (as_ hO rfl rfl (rj (et (cd rfl (fun h34 => ?_) (fun h34 => ?_)))))))
 ·
  have h35 : i.kind = 7 := ot h34
  refine cp (et (cv (by rw [h34]; rfl) (cx (eh (eh (ep (by decide) (eh (ej (et ?_)))))))))
  refine cq (cr (as_ hO rfl rfl (rj (et (cr (mv hO rfl rfl (ry hO rfl (y_add 1 tz rfl rfl (by rw [wd] <;> omega)) (as_ hO rfl rfl (rj ?_)))))))))
  refine ek' (ez (E' := [(1, .int .i64 n), (4, .int .i64 0), (5, .int .i64 0), (6, .int .i64 0), (7, .int .i64 1), (8, .int .i64 1)]) ⟨rfl, rfl, rfl, rfl, rfl, rfl, tz⟩ (et (cq (cr (mv hO rfl rfl (ry hO rfl (y_add 2 tz rfl rfl (by rw [wd] <;> omega)) (as_ hO rfl rfl (rj (et ?_)))))))))
  refine cx (ep (by decide) (eh (ep (by decide) (eh (ej (et (cq (cr (mv hO rfl rfl ?_)))))))))
  refine mv hO rfl rfl (as_ hO rfl rfl (as_ hO rfl rfl (as_ hO rfl rfl (rj (et (ct (ends_ret3 (.inl rfl) rfl rfl rfl rfl ?_)))))))
  refine Ret.mk hle6 (hO.forget) (⟨_, _, _, rfl, ?_, ?_, ?_⟩)
  ·
   refine congrArg (Value.int .i64) ?_
   (first | rfl | (simp_all [ft]; done) | omega | grind [ft])
  ·
   refine congrArg (Value.int .i64) ?_
   (first | rfl | (simp_all [ft]; done) | omega | grind [ft])
  ·
   refine congrArg (Value.int .i64) ?_
   (first | rfl | (simp_all [ft]; done) | omega | grind [ft])
 have h36 : ¬ (i.kind = 7) := oq h34
 refine cq (cr (ry hO rfl (ye tz rfl rfl) (as_ hO rfl rfl (rj (et (cd rfl (fun h37 => ?_) (fun h37 => ?_)))))))
 ·
  have h38 : i.kind = 8 := ot h37
  refine cp (et (cv (by rw [h37]; rfl) (cx (eh (eh (ep (by decide) (eh (ej (ez (E' := [(1, .int .i64 n), (4, .int .i64 0), (5, .int .i64 0), (6, .int .i64 0), (7, .int .i64 0), (8, .int .i64 0)]) ⟨rfl, rfl, rfl, rfl, rfl, rfl, tz⟩ ?_)))))))))
  refine et (cq (cr (as_ hO rfl rfl (rj (et (cr (mv hO rfl rfl (ry hO rfl (y_add 1 tz rfl rfl (by rw [wd] <;> omega)) (as_ hO rfl rfl ?_)))))))))
  refine rj (ek' (et (cq (cr (mv hO rfl rfl (ry hO rfl (y_add 2 tz rfl rfl (by rw [wd] <;> omega)) (as_ hO rfl rfl (rj (et ?_)))))))))
  refine cx (ep (by decide) (eh (ep (by decide) (eh (ej (et (cq (cr (mv hO rfl rfl ?_)))))))))
  refine mv hO rfl rfl (as_ hO rfl rfl (as_ hO rfl rfl (as_ hO rfl rfl (rj (et (ct (ends_ret3 (.inl rfl) rfl rfl rfl rfl ?_)))))))
  refine Ret.mk hle6 (hO.forget) (⟨_, _, _, rfl, ?_, ?_, ?_⟩)
  ·
   refine congrArg (Value.int .i64) ?_
   (first | rfl | (simp_all [ft]; done) | omega | grind [ft])
  ·
   refine congrArg (Value.int .i64) ?_
   (first | rfl | (simp_all [ft]; done) | omega | grind [ft])
  ·
   refine congrArg (Value.int .i64) ?_
   (first | rfl | (simp_all [ft]; done) | omega | grind [ft])
 have h39 : ¬ (i.kind = 8) := oq h37
 refine cr (ry hO rfl (ye tz rfl rfl) (as_ hO rfl rfl (rj (et (cd rfl (fun h40 => ?_) (fun h40 => ?_))))))
 ·
  have h41 : i.kind = 9 := ot h40
  refine cx (eh (eh (ep (by decide) (eh (ej (ez (E' := [(1, .int .i64 n), (4, .int .i64 0), (5, .int .i64 0), (6, .int .i64 0), (7, .int .i64 0), (8, .int .i64 0)]) ⟨rfl, rfl, rfl, rfl, rfl, rfl, tz⟩ (et (cq (cr ?_)))))))))
  refine as_ hO rfl rfl (rj (et (cr (mv hO rfl rfl (ry hO rfl (y_add 1 tz rfl rfl (by rw [wd] <;> omega)) (as_ hO rfl rfl (rj (ek' (et ?_)))))))))
  refine cq (cr (mv hO rfl rfl (ry hO rfl (y_add 2 tz rfl rfl (by rw [wd] <;> omega)) (as_ hO rfl rfl (rj (et (cx (ep (by decide) (eh ?_)))))))))
  refine ep (by decide) (eh (ej (et (cq (cr (mv hO rfl rfl (mv hO rfl rfl (as_ hO rfl rfl (as_ hO rfl rfl ?_)))))))))
  refine as_ hO rfl rfl (rj (et (ct (ends_ret3 (.inl rfl) rfl rfl rfl rfl ?_))))
  refine Ret.mk hle6 (hO.forget) (⟨_, _, _, rfl, ?_, ?_, ?_⟩)
  ·
   refine congrArg (Value.int .i64) ?_
   (first | rfl | (simp_all [ft]; done) | omega | grind [ft])
  ·
   refine congrArg (Value.int .i64) ?_
   (first | rfl | (simp_all [ft]; done) | omega | grind [ft])
  ·
   refine congrArg (Value.int .i64) ?_
   (first | rfl | (simp_all [ft]; done) | omega | grind [ft])
 have h42 : ¬ (i.kind = 9) := oq h40
 refine cp (ez (E' := [(1, .int .i64 n), (4, .int .i64 0), (5, .int .i64 0), (6, .int .i64 0), (7, .int .i64 0), (8, .int .i64 0), (21, .int .i64 i.kind)]) ⟨rfl, rfl, rfl, rfl, rfl, rfl, rfl, tz⟩ (et (cq (cq (cq (cr (ry hO rfl (ye tz rfl rfl) (as_ hO rfl rfl (rj ?_)))))))))
 refine et (cd rfl (fun h43 => ?_) (fun h43 => ?_))
 ·
  have h44 : i.kind = 2 := ot h43
  refine cp (et (cv (by rw [h43]; rfl) (cx (eh (eh (ep (by decide) (eh (ep (by decide) (eh ?_)))))))))
  refine ej (et (cq (cr (mv hO rfl rfl (ry hO rfl (y_add 1 tz rfl rfl (by rw [wd] <;> omega)) (as_ hO rfl rfl (rj (et (cx ?_)))))))))
  refine ep (by decide) (eh (ep (by decide) (eh (ej (et (cq (cr (mv hO rfl rfl (mv hO rfl rfl ?_)))))))))
  refine as_ hO rfl rfl (as_ hO rfl rfl (as_ hO rfl rfl (rj (ez (E' := [(4, .int .i64 1), (5, .int .i64 0), (6, .int .i64 0)]) ⟨rfl, rfl, rfl, tz⟩ (et (ct (ends_ret3 (.inl rfl) rfl rfl rfl rfl ?_)))))))
  refine Ret.mk hle6 (hO.forget) (⟨_, _, _, rfl, ?_, ?_, ?_⟩)
  ·
   refine congrArg (Value.int .i64) ?_
   (first | rfl | (simp_all [ft]; done) | omega | grind [ft])
  ·
   refine congrArg (Value.int .i64) ?_
   (first | rfl | (simp_all [ft]; done) | omega | grind [ft])
  ·
   refine congrArg (Value.int .i64) ?_
   (first | rfl | (simp_all [ft]; done) | omega | grind [ft])
 have h45 : ¬ (i.kind = 2) := oq h43
 refine cq (cr (ry hO rfl (ye tz rfl rfl) (as_ hO rfl rfl (rj (et (cd rfl (fun h46 => ?_) (fun h46 => ?_)))))))
 ·
  have h47 : i.kind = 11 := ot h46
  refine cp (et (cv (by rw [h46]; rfl) (cx (eh (eh (ep (by decide) (eh (ep (by decide) (eh ?_)))))))))
  refine ej (et (cq (cr (mv hO rfl rfl (ry hO rfl (y_add 1 tz rfl rfl (by rw [wd] <;> omega)) (as_ hO rfl rfl (rj (et (cx ?_)))))))))
  refine ep (by decide) (eh (ep (by decide) (eh (ej (et (cq (cr (mv hO rfl rfl (mv hO rfl rfl ?_)))))))))
  refine as_ hO rfl rfl (as_ hO rfl rfl (as_ hO rfl rfl (rj (ez (E' := [(4, .int .i64 1), (5, .int .i64 0), (6, .int .i64 0)]) ⟨rfl, rfl, rfl, tz⟩ (et (ct (ends_ret3 (.inl rfl) rfl rfl rfl rfl ?_)))))))
  refine Ret.mk hle6 (hO.forget) (⟨_, _, _, rfl, ?_, ?_, ?_⟩)
  ·
   refine congrArg (Value.int .i64) ?_
   (first | rfl | (simp_all [ft]; done) | omega | grind [ft])
  ·
   refine congrArg (Value.int .i64) ?_
   (first | rfl | (simp_all [ft]; done) | omega | grind [ft])
  ·
   refine congrArg (Value.int .i64) ?_
   (first | rfl | (simp_all [ft]; done) | omega | grind [ft])
 have h48 : ¬ (i.kind = 11) := oq h46
 refine cq (cr (ry hO rfl (ye tz rfl rfl) (as_ hO rfl rfl (rj (et (cd rfl (fun h49 => ?_) (fun h49 => ?_)))))))
 ·
  have h50 : i.kind = 13 := ot h49
  refine cp (et (cv (by rw [h49]; rfl) (cx (eh (eh (ep (by decide) (eh (ep (by decide) (eh ?_)))))))))
  refine ej (et (cq (cr (mv hO rfl rfl (ry hO rfl (y_add 1 tz rfl rfl (by rw [wd] <;> omega)) (as_ hO rfl rfl (rj (ez (E' := [(1, .int .i64 n), (4, .int .i64 0), (5, .int .i64 0), (6, .int .i64 0), (7, .int .i64 1), (8, .int .i64 0)]) ⟨rfl, rfl, rfl, rfl, rfl, rfl, tz⟩ (et ?_)))))))))
  refine cx (ep (by decide) (eh (ep (by decide) (eh (ej (et (cq (cr (mv hO rfl rfl ?_)))))))))
  refine mv hO rfl rfl (as_ hO rfl rfl (as_ hO rfl rfl (as_ hO rfl rfl (rj (et (ct (ends_ret3 (.inl rfl) rfl rfl rfl rfl ?_)))))))
  refine Ret.mk hle6 (hO.forget) (⟨_, _, _, rfl, ?_, ?_, ?_⟩)
  ·
   refine congrArg (Value.int .i64) ?_
   (first | rfl | (simp_all [ft]; done) | omega | grind [ft])
  ·
   refine congrArg (Value.int .i64) ?_
   (first | rfl | (simp_all [ft]; done) | omega | grind [ft])
  ·
   refine congrArg (Value.int .i64) ?_
   (first | rfl | (simp_all [ft]; done) | omega | grind [ft])
 have h51 : ¬ (i.kind = 13) := oq h49
 refine cq (cr (ry hO rfl (ye tz rfl rfl) (as_ hO rfl rfl (rj (et (cd rfl (fun h52 => ?_) (fun h52 => ?_)))))))
 ·
  have h53 : i.kind = 15 := ot h52
  refine cp (et (cv (by rw [h52]; rfl) (cx (eh (eh (ep (by decide) (eh (ep (by decide) (eh ?_)))))))))
  refine ej (et (cq (cr (mv hO rfl rfl (ry hO rfl (y_add 1 tz rfl rfl (by rw [wd] <;> omega)) (as_ hO rfl rfl (rj (ez (E' := [(1, .int .i64 n), (4, .int .i64 0), (5, .int .i64 0), (6, .int .i64 0), (7, .int .i64 1), (8, .int .i64 0)]) ⟨rfl, rfl, rfl, rfl, rfl, rfl, tz⟩ (et ?_)))))))))
  refine cx (ep (by decide) (eh (ep (by decide) (eh (ej (et (cq (cr (mv hO rfl rfl ?_)))))))))
  refine mv hO rfl rfl (as_ hO rfl rfl (as_ hO rfl rfl (as_ hO rfl rfl (rj (et (ct (ends_ret3 (.inl rfl) rfl rfl rfl rfl ?_)))))))
  refine Ret.mk hle6 (hO.forget) (⟨_, _, _, rfl, ?_, ?_, ?_⟩)
  ·
   refine congrArg (Value.int .i64) ?_
   (first | rfl | (simp_all [ft]; done) | omega | grind [ft])
  ·
   refine congrArg (Value.int .i64) ?_
   (first | rfl | (simp_all [ft]; done) | omega | grind [ft])
  ·
   refine congrArg (Value.int .i64) ?_
   (first | rfl | (simp_all [ft]; done) | omega | grind [ft])
 have h54 : ¬ (i.kind = 15) := oq h52
 refine cr (ry hO rfl (ye tz rfl rfl) (as_ hO rfl rfl (rj (et (cd rfl (fun h55 => ?_) (fun h55 => ?_))))))
 ·
  have h56 : i.kind = 16 := ot h55
  refine cx (eh (eh (ep (by decide) (eh (ep (by decide) (eh (ej (ez (E' := [(1, .int .i64 n), (4, .int .i64 0), (5, .int .i64 0), (6, .int .i64 0), (7, .int .i64 0), (8, .int .i64 0)]) ⟨rfl, rfl, rfl, rfl, rfl, rfl, tz⟩ (et ?_)))))))))
  refine cq (cr (mv hO rfl rfl (ry hO rfl (y_add 1 tz rfl rfl (by rw [wd] <;> omega)) (as_ hO rfl rfl (rj (et (cx (ep (by decide) (eh ?_)))))))))
  refine ep (by decide) (eh (ej (et (cq (cr (mv hO rfl rfl (mv hO rfl rfl (as_ hO rfl rfl (as_ hO rfl rfl ?_)))))))))
  refine as_ hO rfl rfl (rj (et (ct (ends_ret3 (.inl rfl) rfl rfl rfl rfl ?_))))
  refine Ret.mk hle6 (hO.forget) (⟨_, _, _, rfl, ?_, ?_, ?_⟩)
  ·
   refine congrArg (Value.int .i64) ?_
   (first | rfl | (simp_all [ft]; done) | omega | grind [ft])
  ·
   refine congrArg (Value.int .i64) ?_
   (first | rfl | (simp_all [ft]; done) | omega | grind [ft])
  ·
   refine congrArg (Value.int .i64) ?_
   (first | rfl | (simp_all [ft]; done) | omega | grind [ft])
 have h57 : ¬ (i.kind = 16) := oq h55
 refine cp (et (cq (cq (cr (ry hO rfl (ye tz rfl rfl) (as_ hO rfl rfl (rj (ez (E' := [(1, .int .i64 n), (4, .int .i64 0), (5, .int .i64 0), (6, .int .i64 0), (7, .int .i64 0), (8, .int .i64 0), (21, .int .i64 i.kind), (39, .bool (decide (i.kind = 10)))]) ⟨rfl, rfl, rfl, rfl, rfl, rfl, rfl, rfl, tz⟩ (et ?_)))))))))
 refine cd rfl (fun h58 => ?_) (fun h58 => ?_)
 ·
  have h59 : i.kind = 10 := ot h58
  refine cx (eh (eh (ep (by decide) (eh (ep (by decide) (eh (ep (by decide) (eh (ej ?_)))))))))
  refine et (cq (cr (as_ hO rfl rfl (as_ hO rfl rfl (rj (et (cx (ep (by decide) (eh ?_)))))))))
  refine ej (et (cq (cr (mv hO rfl rfl (mv hO rfl rfl (as_ hO rfl rfl (as_ hO rfl rfl (as_ hO rfl rfl (rj ?_)))))))))
  refine et (ct (ends_ret3 (.inl rfl) rfl rfl rfl rfl ?_))
  refine Ret.mk hle6 (hO.forget) (⟨_, _, _, rfl, ?_, ?_, ?_⟩)
  ·
   refine congrArg (Value.int .i64) ?_
   (first | rfl | (simp_all [ft]; done) | omega | grind [ft])
  ·
   refine congrArg (Value.int .i64) ?_
   (first | rfl | (simp_all [ft]; done) | omega | grind [ft])
  ·
   refine congrArg (Value.int .i64) ?_
   (first | rfl | (simp_all [ft]; done) | omega | grind [ft])
 have h60 : ¬ (i.kind = 10) := oq h58
 refine cp (et (cq (cr (ry hO rfl (ye tz rfl rfl) (as_ hO rfl rfl (rj (et (cd rfl (fun h61 => ?_) (fun h61 => ?_)))))))))
 ·
  have h62 : i.kind = 14 := ot h61
  refine cx (eh (ep (by decide) (eh (ep (by decide) (eh (ep (by decide) (eh (ep (by decide) (eh ?_)))))))))
  refine ej (et (cq (cr (mv hO rfl rfl (as_ hO rfl rfl (as_ hO rfl rfl (rj (et (cx ?_)))))))))
  refine ej (et (cq (cr (mv hO rfl rfl (mv hO rfl rfl (as_ hO rfl rfl (as_ hO rfl rfl (as_ hO rfl rfl (rj ?_)))))))))
  refine ez (E' := [(4, .int .i64 n), (5, .int .i64 1), (6, .int .i64 0)]) ⟨rfl, rfl, rfl, tz⟩ (et (ct (ends_ret3 (.inl rfl) rfl rfl rfl rfl ?_)))
  refine Ret.mk hle6 (hO.forget) (⟨_, _, _, rfl, ?_, ?_, ?_⟩)
  ·
   refine congrArg (Value.int .i64) ?_
   (first | rfl | (simp_all [ft]; done) | omega | grind [ft])
  ·
   refine congrArg (Value.int .i64) ?_
   (first | rfl | (simp_all [ft]; done) | omega | grind [ft])
  ·
   refine congrArg (Value.int .i64) ?_
   (first | rfl | (simp_all [ft]; done) | omega | grind [ft])
 have h63 : ¬ (i.kind = 14) := oq h61
 refine cp (et (cx (ep (by decide) (eh (ep (by decide) (eh (ep (by decide) (eh (ep (by decide) ?_)))))))))
 refine eh (ep (by decide) (eh (ej (et (cq (cr (mv hO rfl rfl (mv hO rfl rfl (as_ hO rfl rfl ?_)))))))))
 refine as_ hO rfl rfl (as_ hO rfl rfl (rj (et (ct (ends_ret3 (.inl rfl) rfl rfl rfl rfl ?_)))))
 refine Ret.mk hle6 (hO.forget) (⟨_, _, _, rfl, ?_, ?_, ?_⟩)
 ·
  refine congrArg (Value.int .i64) ?_
  (first | rfl | (simp_all [ft]; done) | omega | grind [ft])
 ·
  refine congrArg (Value.int .i64) ?_
  (first | rfl | (simp_all [ft]; done) | omega | grind [ft])
 ·
  refine congrArg (Value.int .i64) ?_
  (first | rfl | (simp_all [ft]; done) | omega | grind [ft])

theorem c_args {p_p : Addr} (p : Prog) {vs_i : List Value} (i : Ins) {w : World} {M : Mem} {bs : List (Nat × Obj)} (h_p : PAt M p_p p) (h_i : Rep.rd M vs_i i) (h14 : i.kind = 14 → 0 ≤ i.a ∧ i.a < p.funcs.length) (hO : Own w M (bs)) :
    Calls Tryd.prog 66 #[.pointer (some p_p), .agg vs_i.toArray] w (Ret M bs (fun M' v => v = .int .i64 (argsOf p i))) := by
 obtain rfl := h_i
 refine ce (vs := [.pointer (some p_p), .agg #[.int .i64 i.kind, .int .i64 i.a]]) (n := 17) Tryd.func66 rfl rfl rfl (cq (cr (rd' tz (og_box hO rfl rfl (fun b1 w2 hO => ?_)))))
 have hO : Own _ M ([(b1, .cells #[.int .i64 i.kind, .int .i64 i.a] 41)] ++ bs) := hO
 refine as_ hO rfl rfl (rj (et (cq (cq (cr (fb 0 tf_41_0 rfl hO rfl rfl (ry hO rfl (yl tl_3 tz rfl (fun _ h => ob h 0 0 rfl rfl)) (ry hO rfl (ye tz rfl rfl) (rj ?_)))))))))
 refine et (cd rfl (fun h3 => ?_) (fun h3 => ?_))
 ·
  have h4 : i.kind = 14 := ot h3
  refine cq ?_
  obtain ⟨w5, hO, ew6⟩ : ∃ w', Own w' M ([(b1, .cells #[.int .i64 i.kind, .int .i64 i.a] 41)] ++ bs) ∧ { w2 with drawn := w2.drawn + 1 } = w' := ⟨_, hO.drawn _, rfl⟩
  refine cw (S := fun w => Own w M ([(b1, .cells #[.int .i64 i.kind, .int .i64 i.a] 41)] ++ bs)) (.take 0 (.take 1 (.take 2 (.take 3 (.take 4 (.take 5 (.take 6 (.take 7 (.take 8 (.take 9 .done)))))))))) 10 tm (by kernel_rfl) ew6 hO (hm rfl rfl (fun _ _ _ h => h) rfl (hn rfl rfl (fun _ _ _ h => h) rfl (hfa tf_24_0 rfl rfl (fun _ _ _ h => h) rfl ?_)))
  obtain ⟨_, at10, b7, c8, rfl, s9⟩ := id h_p
  refine hlc tl_22 at10 0 rfl rfl rfl (fun _ _ _ h => h) rfl (hfb 1 tf_41_1 rfl rfl rfl (fun _ _ _ h => h) rfl (gy rfl rfl (fun _ _ _ h => h) (yl tl_3 tz rfl (fun _ h => ob h 0 1 rfl rfl)) ?_))
  obtain ⟨p11, rfl, _⟩ := RdS.get s9 i.a.toNat (by have := h14 ‹_›; omega)
  have hO : Own w5 M ([(b1, .cells #[.int .i64 i.kind, .int .i64 i.a] 41)] ++ bs) := by assumption
  have q12 : PAt M (p11.add (i.a.toNat * 3)) (nth p.funcs i.a.toNat) := RdS.at s9 i.a.toNat (by have := h14 ‹_›; omega)
  refine gy rfl rfl (fun _ _ _ h => h) (yi ts_22 tz rfl rfl (by exact (h14 ‹_›).1) (by exact (h14 ‹_›).2)) (hfa tf_44_0 rfl rfl (fun _ _ _ h => h) rfl ?_)
  obtain ⟨_, at16, b13, c14, rfl, s15⟩ := id q12
  refine hlc tl_3 at16 0 rfl rfl rfl (fun _ _ _ h => h) rfl (ha rfl rfl (fun _ _ _ h => h) rfl (gd (ez (E' := [(4, .int .i64 ((nth p.funcs i.a.toNat).args))]) ⟨rfl, tz⟩ (et (ct (ew' (er (.inl rfl) rfl rfl ?_)))))))
  refine Ret.mk (mr _) (hO.forget) (congrArg (Value.int .i64) ?_)
  (first | rfl | (simp_all [argsOf]; done) | omega | grind [argsOf])
 have h17 : ¬ (i.kind = 14) := oq h3
 refine cp (et (cq (cr (as_ hO rfl rfl (rj (et (ct (er (.inl rfl) rfl rfl ?_))))))))
 refine Ret.mk (mr _) (hO.forget) (congrArg (Value.int .i64) ?_)
 (first | rfl | (simp_all [argsOf]; done) | omega | grind [argsOf])

theorem c_outside {p_p : Addr} (p : Prog) {p_f : Addr} (f : FuncD) {vs_i : List Value} (i : Ins) {w : World} {M : Mem} {bs : List (Nat × Obj)} (h_p : PAt M p_p p) (h_f : PAt M p_f f) (h_i : Rep.rd M vs_i i)  (hO : Own w M (bs)) :
    Calls Tryd.prog 63 #[.pointer (some p_p), .pointer (some p_f), .agg vs_i.toArray] w (Ret M bs (fun M' v => v = .bool (outsideB p f i))) := by
 obtain rfl := h_i
 refine ce (vs := [.pointer (some p_p), .pointer (some p_f), .agg #[.int .i64 i.kind, .int .i64 i.a]]) (n := 40) Tryd.func63 rfl rfl rfl (cq (cr (rd' tz (og_box hO rfl rfl (fun b1 w2 hO => ?_)))))
 have hO : Own _ M ([(b1, .cells #[.int .i64 i.kind, .int .i64 i.a] 41)] ++ bs) := hO
 refine as_ hO rfl rfl (rj (et (cq (cq (cr (fb 0 tf_41_0 rfl hO rfl rfl (ry hO rfl (yl tl_3 tz rfl (fun _ h => ob h 0 0 rfl rfl)) (rj (et ?_)))))))))
 refine cb (cq (cq (cr (ry hO rfl (ye tz rfl rfl) (as_ hO rfl rfl (rj (et (cd rfl (fun h3 => ?_) (fun h3 => ?_)))))))))
 ·
  have h4 : i.kind = 1 := ot h3
  refine cp (et (cv (by rw [h3]; rfl) (cq ?_)))
  obtain ⟨w5, hO, ew6⟩ : ∃ w', Own w' M ([(b1, .cells #[.int .i64 i.kind, .int .i64 i.a] 41)] ++ bs) ∧ { w2 with drawn := w2.drawn + 1 } = w' := ⟨_, hO.drawn _, rfl⟩
  refine cw (S := fun w => Own w M ([(b1, .cells #[.int .i64 i.kind, .int .i64 i.a] 41)] ++ bs)) (.take 0 (.take 1 (.take 2 (.take 3 (.take 4 (.take 5 (.take 6 (.take 7 .done)))))))) 8 tm (by kernel_rfl) ew6 hO (hfb 1 tf_41_1 rfl rfl rfl (fun _ _ _ h => h) rfl (gy rfl rfl (fun _ _ _ h => h) (yl tl_3 tz rfl (fun _ h => ob h 0 1 rfl rfl)) (hm rfl rfl (fun _ _ _ h => h) rfl (hn rfl rfl (fun _ _ _ h => h) rfl (hfa tf_44_1 rfl rfl (fun _ _ _ h => h) rfl ?_)))))
  obtain ⟨_, at10, b7, c8, rfl, s9⟩ := id h_f
  refine hlc tl_3 at10 1 rfl rfl rfl (fun _ _ _ h => h) rfl (gy rfl rfl (fun _ _ _ h => h) (y_ge tz rfl rfl) (ha rfl rfl (fun _ _ _ h => h) rfl (gd (ez (E' := [(6, .bool (decide (f.locals ≤ i.a)))]) ⟨rfl, tz⟩ (et (ct (eg (ew' (er (.inl rfl) rfl rfl ?_)))))))))
  refine Ret.mk (mr _) (hO.forget) (congrArg Value.bool ?_)
  (first | rfl | (simp_all [outsideB]; done) | omega | grind [outsideB])
 have h11 : ¬ (i.kind = 1) := oq h3
 refine cr (ry hO rfl (ye tz rfl rfl) (as_ hO rfl rfl (rj (et (cd rfl (fun h12 => ?_) (fun h12 => ?_))))))
 ·
  have h13 : i.kind = 2 := ot h12
  refine cq ?_
  obtain ⟨w14, hO, ew15⟩ : ∃ w', Own w' M ([(b1, .cells #[.int .i64 i.kind, .int .i64 i.a] 41)] ++ bs) ∧ { w2 with drawn := w2.drawn + 1 } = w' := ⟨_, hO.drawn _, rfl⟩
  refine cw (S := fun w => Own w M ([(b1, .cells #[.int .i64 i.kind, .int .i64 i.a] 41)] ++ bs)) (.take 0 (.take 1 (.take 2 (.take 3 (.take 4 (.take 5 (.take 6 (.take 7 .done)))))))) 8 tm (by kernel_rfl) ew15 hO (hfb 1 tf_41_1 rfl rfl rfl (fun _ _ _ h => h) rfl (gy rfl rfl (fun _ _ _ h => h) (yl tl_3 tz rfl (fun _ h => ob h 0 1 rfl rfl)) (hm rfl rfl (fun _ _ _ h => h) rfl (hn rfl rfl (fun _ _ _ h => h) rfl (hfa tf_44_1 rfl rfl (fun _ _ _ h => h) rfl ?_)))))
  obtain ⟨_, at19, b16, c17, rfl, s18⟩ := id h_f
  refine hlc tl_3 at19 1 rfl rfl rfl (fun _ _ _ h => h) rfl (gy rfl rfl (fun _ _ _ h => h) (y_ge tz rfl rfl) (ha rfl rfl (fun _ _ _ h => h) rfl (gd (ez (E' := [(6, .bool (decide (f.locals ≤ i.a)))]) ⟨rfl, tz⟩ (et (ct (eg (ew' (er (.inl rfl) rfl rfl ?_)))))))))
  refine Ret.mk (mr _) (hO.forget) (congrArg Value.bool ?_)
  (first | rfl | (simp_all [outsideB]; done) | omega | grind [outsideB])
 have h20 : ¬ (i.kind = 2) := oq h12
 refine cq (cq (cr (ry hO rfl (ye tz rfl rfl) (as_ hO rfl rfl (rj (et (cd rfl (fun h21 => ?_) (fun h21 => ?_))))))))
 ·
  have h22 : i.kind = 12 := ot h21
  refine cp (et (cv (by rw [h21]; rfl) (cq ?_)))
  obtain ⟨w23, hO, ew24⟩ : ∃ w', Own w' M ([(b1, .cells #[.int .i64 i.kind, .int .i64 i.a] 41)] ++ bs) ∧ { w2 with drawn := w2.drawn + 1 } = w' := ⟨_, hO.drawn _, rfl⟩
  refine cw (S := fun w => Own w M ([(b1, .cells #[.int .i64 i.kind, .int .i64 i.a] 41)] ++ bs)) (.take 0 (.take 1 (.take 2 (.take 3 (.take 4 (.take 5 (.take 6 (.take 7 (.take 8 .done))))))))) 9 tm (by kernel_rfl) ew24 hO (hfb 1 tf_41_1 rfl rfl rfl (fun _ _ _ h => h) rfl (gy rfl rfl (fun _ _ _ h => h) (yl tl_3 tz rfl (fun _ h => ob h 0 1 rfl rfl)) (hm rfl rfl (fun _ _ _ h => h) rfl (hn rfl rfl (fun _ _ _ h => h) rfl (hfa tf_44_2 rfl rfl (fun _ _ _ h => h) rfl ?_)))))
  obtain ⟨_, at28, b25, c26, rfl, s27⟩ := id h_f
  refine hlc tl_42 at28 2 rfl rfl rfl (fun _ _ _ h => h) rfl ?_
  have bd29 : f.code.length * 16 ≤ 140737488351232 := s27.bd
  refine gy rfl rfl (fun _ _ _ h => h) (y_len ts_42 tz rfl) (gy rfl rfl (fun _ _ _ h => h) (y_ge tz rfl rfl) (ha rfl rfl (fun _ _ _ h => h) rfl (gd (ez (E' := [(6, .bool (decide ((f.code.length : Int) ≤ i.a)))]) ⟨rfl, tz⟩ (et (ct (eg (ew' (er (.inl rfl) rfl rfl ?_)))))))))
  refine Ret.mk (mr _) (hO.forget) (congrArg Value.bool ?_)
  (first | rfl | (simp_all [outsideB]; done) | omega | grind [outsideB])
 have h30 : ¬ (i.kind = 12) := oq h21
 refine cr (ry hO rfl (ye tz rfl rfl) (as_ hO rfl rfl (rj (ez (E' := [(0, .pointer (some p_p)), (1, .pointer (some p_f)), (5, .pointer (some ⟨b1, 0, none⟩)), (6, .bool false), (8, .int .i64 i.kind), (19, .bool (decide (i.kind = 13)))]) ⟨rfl, rfl, rfl, rfl, rfl, rfl, tz⟩ (et (cd rfl (fun h31 => ?_) (fun h31 => ?_)))))))
 ·
  have h32 : i.kind = 13 := ot h31
  refine cq ?_
  obtain ⟨w33, hO, ew34⟩ : ∃ w', Own w' M ([(b1, .cells #[.int .i64 i.kind, .int .i64 i.a] 41)] ++ bs) ∧ { w2 with drawn := w2.drawn + 1 } = w' := ⟨_, hO.drawn _, rfl⟩
  refine cw (S := fun w => Own w M ([(b1, .cells #[.int .i64 i.kind, .int .i64 i.a] 41)] ++ bs)) (.take 0 (.take 1 (.take 2 (.take 3 (.take 4 (.take 5 (.take 6 (.take 7 (.take 8 .done))))))))) 9 tm (by kernel_rfl) ew34 hO (hfb 1 tf_41_1 rfl rfl rfl (fun _ _ _ h => h) rfl (gy rfl rfl (fun _ _ _ h => h) (yl tl_3 tz rfl (fun _ h => ob h 0 1 rfl rfl)) (hm rfl rfl (fun _ _ _ h => h) rfl (hn rfl rfl (fun _ _ _ h => h) rfl (hfa tf_44_2 rfl rfl (fun _ _ _ h => h) rfl ?_)))))
  obtain ⟨_, at38, b35, c36, rfl, s37⟩ := id h_f
  refine hlc tl_42 at38 2 rfl rfl rfl (fun _ _ _ h => h) rfl ?_
  have bd39 : f.code.length * 16 ≤ 140737488351232 := s37.bd
  refine gy rfl rfl (fun _ _ _ h => h) (y_len ts_42 tz rfl) (gy rfl rfl (fun _ _ _ h => h) (y_ge tz rfl rfl) (ha rfl rfl (fun _ _ _ h => h) rfl (gd (ez (E' := [(6, .bool (decide ((f.code.length : Int) ≤ i.a)))]) ⟨rfl, tz⟩ (et (ct (eg (ew' (er (.inl rfl) rfl rfl ?_)))))))))
  refine Ret.mk (mr _) (hO.forget) (congrArg Value.bool ?_)
  (first | rfl | (simp_all [outsideB]; done) | omega | grind [outsideB])
 have h40 : ¬ (i.kind = 13) := oq h31
 refine cq (cr (ry hO rfl (ye tz rfl rfl) (as_ hO rfl rfl (rj (et (cd rfl (fun h41 => ?_) (fun h41 => ?_)))))))
 ·
  have h42 : i.kind = 14 := ot h41
  refine cq ?_
  obtain ⟨w43, hO, ew44⟩ : ∃ w', Own w' M ([(b1, .cells #[.int .i64 i.kind, .int .i64 i.a] 41)] ++ bs) ∧ { w2 with drawn := w2.drawn + 1 } = w' := ⟨_, hO.drawn _, rfl⟩
  refine cw (S := fun w => Own w M ([(b1, .cells #[.int .i64 i.kind, .int .i64 i.a] 41)] ++ bs)) (.take 0 (.take 1 (.take 2 (.take 3 (.take 4 (.take 5 (.take 6 (.take 7 (.take 8 .done))))))))) 9 tm (by kernel_rfl) ew44 hO (hfb 1 tf_41_1 rfl rfl rfl (fun _ _ _ h => h) rfl (gy rfl rfl (fun _ _ _ h => h) (yl tl_3 tz rfl (fun _ h => ob h 0 1 rfl rfl)) (hm rfl rfl (fun _ _ _ h => h) rfl (hn rfl rfl (fun _ _ _ h => h) rfl (hfa tf_24_0 rfl rfl (fun _ _ _ h => h) rfl ?_)))))
  obtain ⟨_, at48, b45, c46, rfl, s47⟩ := id h_p
  refine hlc tl_22 at48 0 rfl rfl rfl (fun _ _ _ h => h) rfl ?_
  have bd49 : p.funcs.length * 40 ≤ 140737488351232 := s47.bd
  refine gy rfl rfl (fun _ _ _ h => h) (y_len ts_22 tz rfl) (gy rfl rfl (fun _ _ _ h => h) (y_ge tz rfl rfl) (ha rfl rfl (fun _ _ _ h => h) rfl (gd (ez (E' := [(6, .bool (decide ((p.funcs.length : Int) ≤ i.a)))]) ⟨rfl, tz⟩ (et (ct (eg (ew' (er (.inl rfl) rfl rfl ?_)))))))))
  refine Ret.mk (mr _) (hO.forget) (congrArg Value.bool ?_)
  (first | rfl | (simp_all [outsideB]; done) | omega | grind [outsideB])
 have h50 : ¬ (i.kind = 14) := oq h41
 refine cp (ek' (et (cq (cr (as_ hO rfl rfl (rj (et (ct (er (.inl rfl) rfl rfl ?_)))))))))
 refine Ret.mk (mr _) (hO.forget) (congrArg Value.bool ?_)
 (first | rfl | (simp_all [outsideB]; done) | omega | grind [outsideB])

theorem c_Mul64 (x : Int) (y : Int) {w : World} {M : Mem} {bs : List (Nat × Obj)} (hx : x = 1) (hy0 : 0 ≤ y) (hy : y ≤ 64) (hO : Own w M (bs)) :
    Calls Tryd.prog 83 #[.int .u64 x, .int .u64 y] w (Ret M bs (fun M' v => ∃ v0 v1, v = .tuple #[v0, v1] ∧ (v0 = .int .u64 (((0 : Int), y).1)) ∧ (v1 = .int .u64 (((0 : Int), y).2)))) := by
 refine ce (vs := [.int .u64 x, .int .u64 y]) (n := 51) Tryd.func83 rfl rfl rfl (cq (cr (as_ hO rfl rfl (as_ hO rfl rfl (rj (et (cq (cr (mv hO rfl rfl ?_)))))))))
 refine ry hO rfl (y_and 1 tz rfl rfl (by rw [hx]; decide)) (as_ hO rfl rfl (rj (et (cq (cr (mv hO rfl rfl (ry hO rfl (y_shr 0 tz rfl rfl (by decide) (by rw [hx]; decide)) (as_ hO rfl rfl (rj ?_)))))))))
 refine et (cq (cr (mv hO rfl rfl (ry hO rfl (y_and y tz rfl rfl (by exact mask_small hy0 hy)) (as_ hO rfl rfl (rj (et (cq (cr ?_)))))))))
 refine mv hO rfl rfl (ry hO rfl (y_shr 0 tz rfl rfl (by decide) (by exact shr_small hy0 hy)) (as_ hO rfl rfl (rj (ez (E' := [(0, .int .u64 x), (1, .int .u64 y), (4, .int .u64 0), (5, .int .u64 0), (6, .int .u64 1), (7, .int .u64 0), (8, .int .u64 y), (9, .int .u64 0)]) ⟨rfl, rfl, rfl, rfl, rfl, rfl, rfl, rfl, tz⟩ (et (cq (cr (mv hO rfl rfl (mv hO rfl rfl ?_)))))))))
 refine ry hO rfl (y_mul y tz rfl rfl (by rw [Int.one_mul]; exact wrap_u64 hy0 (by omega))) (as_ hO rfl rfl (rj (et (cq (cr (mv hO rfl rfl (mv hO rfl rfl (ry hO rfl (y_mul 0 tz rfl rfl (by rw [Int.zero_mul]; rfl)) (mv hO rfl rfl ?_)))))))))
 refine ry hO rfl (y_shr 0 tz rfl rfl (by decide) (by exact shr_small hy0 hy)) (ry hO rfl (y_add 0 tz rfl rfl (by decide)) (as_ hO rfl rfl (rj (ez (E' := [(0, .int .u64 x), (1, .int .u64 y), (4, .int .u64 0), (5, .int .u64 0), (6, .int .u64 1), (7, .int .u64 0), (9, .int .u64 0), (11, .int .u64 0)]) ⟨rfl, rfl, rfl, rfl, rfl, rfl, rfl, rfl, tz⟩ (et (cq (cr (mv hO rfl rfl (ry hO rfl (y_and 0 tz rfl rfl (by decide)) ?_)))))))))
 refine as_ hO rfl rfl (rj (et (cq (cr (mv hO rfl rfl (ry hO rfl (y_shr 0 tz rfl rfl (by decide) (by decide)) (as_ hO rfl rfl (rj (et ?_)))))))))
 refine cq (cr (mv hO rfl rfl (mv hO rfl rfl (mv hO rfl rfl (ry hO rfl (y_mul 0 tz rfl rfl (by decide)) (ry hO rfl (y_add 0 tz rfl rfl (by decide)) (as_ hO rfl rfl (rj (ez (E' := [(0, .int .u64 x), (1, .int .u64 y), (4, .int .u64 0), (5, .int .u64 0), (7, .int .u64 0), (9, .int .u64 0), (12, .int .u64 0), (13, .int .u64 0)]) ⟨rfl, rfl, rfl, rfl, rfl, rfl, rfl, rfl, tz⟩ ?_)))))))))
 refine et (cq (cr (mv hO rfl rfl (mv hO rfl rfl (ry hO rfl (y_mul 0 tz rfl rfl (by decide)) (mv hO rfl rfl (ry hO rfl (y_add 0 tz rfl rfl (by decide)) (mv hO rfl rfl (ry hO rfl (y_shr 0 tz rfl rfl (by decide) (by decide)) ?_)))))))))
 refine ry hO rfl (y_add 0 tz rfl rfl (by decide)) (as_ hO rfl rfl (rj (ez (E' := [(0, .int .u64 x), (1, .int .u64 y), (4, .int .u64 0), (5, .int .u64 0)]) ⟨rfl, rfl, rfl, rfl, tz⟩ (et (cq (cr (mv hO rfl rfl (mv hO rfl rfl (ry hO rfl (y_mul y tz rfl rfl (by rw [hx, Int.one_mul]; exact wrap_u64 hy0 (by omega))) ?_)))))))))
 refine as_ hO rfl rfl (rj (et (ct (ends_ret2 (.inl rfl) rfl rfl rfl ?_))))
 refine Ret.mk (mr _) hO (⟨_, _, rfl, ?_, ?_⟩)
 ·
  refine congrArg (Value.int .u64) ?_
  (first | rfl | (simp_all []; done) | omega | grind [])
 ·
  refine congrArg (Value.int .u64) ?_
  (first | rfl | (simp_all []; done) | omega | grind [])

theorem c_Mul (x : Int) (y : Int) {w : World} {M : Mem} {bs : List (Nat × Obj)} (hx : x = 1) (hy0 : 0 ≤ y) (hy : y ≤ 64) (hO : Own w M (bs)) :
    Calls Tryd.prog 76 #[.int .u64 x, .int .u64 y] w (Ret M bs (fun M' v => ∃ v0 v1, v = .tuple #[v0, v1] ∧ (v0 = .int .u64 (((0 : Int), y).1)) ∧ (v1 = .int .u64 (((0 : Int), y).2)))) := by
 refine ce (vs := [.int .u64 x, .int .u64 y]) (n := 30) Tryd.func76 rfl rfl rfl (cq (cr (as_ hO rfl rfl (as_ hO rfl rfl (rj (et (cq (cj rfl (cp ?_)))))))))
 refine et (cq (cr (mv hO rfl rfl (mv hO rfl rfl (rd' tz (oc (vs := [.int .u64 x, .int .u64 y]) tcall_83 rfl rfl (c_Mul64 x y  (by first | rfl | assumption) (by omega) (by omega) hO) ?_))))))
 rintro _ w1 ⟨M2, _, le3, hO, rfl, ⟨_, _, rfl, rfl, rfl⟩⟩
 refine ⟨_, rfl, ?_⟩
 have hle4 := le3
 refine mv hO rfl rfl (ry hO rfl (yx [.int .u64 (0 : Int), .int .u64 y] rfl tz rfl) (ry hO rfl (yx [.int .u64 (0 : Int), .int .u64 y] rfl tz rfl) (as_ hO rfl rfl (as_ hO rfl rfl (rj (et (cq (cr (mv hO rfl rfl ?_)))))))))
 refine mv hO rfl rfl (as_ hO rfl rfl (as_ hO rfl rfl (rj (ez (E' := [(4, .int .u64 (0 : Int)), (5, .int .u64 y)]) ⟨rfl, rfl, tz⟩ (et (ct (ends_ret2 (.inl rfl) rfl rfl rfl ?_)))))))
 refine Ret.mk hle4 hO (⟨_, _, rfl, ?_, ?_⟩)
 ·
  refine congrArg (Value.int .u64) ?_
  (first | rfl | (simp_all []; done) | omega | grind [])
 ·
  refine congrArg (Value.int .u64) ?_
  (first | rfl | (simp_all []; done) | omega | grind [])

end Go.Proofs.YtdniefnjgkhkeaaDoor
