/-
  Contracts of Go functions, each walked operation by operation: swage/ir.Sets, swage/ir.Goes, swage/ir.Leaves, swage/ins.below, swage/wrap.Is, swage/dead.drops, slices.IndexFunc(()swage/api.Meta,swage/api.Meta), slices.ContainsFunc(()swage/api.Meta,swage/api.Meta), slices.IndexFunc(()swage/api.Src,swage/api.Src), slices.ContainsFunc(()swage/api.Src,swage/api.Src), slices.IndexFunc(()swage/api.Func,swage/api.Func), slices.ContainsFunc(()swage/api.Func,swage/api.Func), slices.IndexFunc(()swage/api.Ins,swage/api.Ins), slices.ContainsFunc(()swage/api.Ins,swage/api.Ins), swage/ins.May, swage/flow.may$1, swage/flow.may, swage/pack.not$1, swage/pack.not, swage/pack.May, slices.IndexFunc(()int,int).
  Conditions: as each statement says.
-/
import Derived.Test.YtdniefnjgkhkeaaDoorVf
import Derived.Test.YtdniefnjgkhkeaaDoorProg
namespace Go.Proofs.YtdniefnjgkhkeaaDoor
open Go
set_option maxRecDepth 100000
set_option linter.unusedVariables false
set_option linter.unusedSimpArgs false
theorem ta_41 : aggN Tryd.prog 41 = some 2 := by kernel_rfl
theorem ta_44 : aggN Tryd.prog 44 = some 3 := by kernel_rfl
theorem ta_65 : aggN Tryd.prog 65 = some 1 := by kernel_rfl
theorem ta_95 : aggN Tryd.prog 95 = some 2 := by kernel_rfl
theorem tcall_37 : cl Tryd.prog 37 := ⟨_, Tryd.func37, by kernel_rfl, by kernel_rfl⟩
theorem tcall_46 : cl Tryd.prog 46 := ⟨_, Tryd.func46, by kernel_rfl, by kernel_rfl⟩
theorem tcall_47 : cl Tryd.prog 47 := ⟨_, Tryd.func47, by kernel_rfl, by kernel_rfl⟩
theorem tcall_52 : cl Tryd.prog 52 := ⟨_, Tryd.func52, by kernel_rfl, by kernel_rfl⟩
theorem tcall_57 : cl Tryd.prog 57 := ⟨_, Tryd.func57, by kernel_rfl, by kernel_rfl⟩
theorem tcall_58 : cl Tryd.prog 58 := ⟨_, Tryd.func58, by kernel_rfl, by kernel_rfl⟩
theorem tcall_59 : cl Tryd.prog 59 := ⟨_, Tryd.func59, by kernel_rfl, by kernel_rfl⟩
theorem tcall_60 : cl Tryd.prog 60 := ⟨_, Tryd.func60, by kernel_rfl, by kernel_rfl⟩
theorem tcall_69 : cl Tryd.prog 69 := ⟨_, Tryd.func69, by kernel_rfl, by kernel_rfl⟩
theorem tcall_70 : cl Tryd.prog 70 := ⟨_, Tryd.func70, by kernel_rfl, by kernel_rfl⟩
theorem tcall_71 : cl Tryd.prog 71 := ⟨_, Tryd.func71, by kernel_rfl, by kernel_rfl⟩
theorem tcall_72 : cl Tryd.prog 72 := ⟨_, Tryd.func72, by kernel_rfl, by kernel_rfl⟩
theorem tf_24_0 : fOff Tryd.prog 24 0 = some 0 := by kernel_rfl
theorem tf_38_0 : fOff Tryd.prog 38 0 = some 0 := by kernel_rfl
theorem tf_38_4 : fOff Tryd.prog 38 4 = some 4 := by kernel_rfl
theorem tf_41_0 : fOff Tryd.prog 41 0 = some 0 := by kernel_rfl
theorem tf_41_1 : fOff Tryd.prog 41 1 = some 1 := by kernel_rfl
theorem tf_44_0 : fOff Tryd.prog 44 0 = some 0 := by kernel_rfl
theorem tf_44_1 : fOff Tryd.prog 44 1 = some 1 := by kernel_rfl
theorem tf_44_2 : fOff Tryd.prog 44 2 = some 2 := by kernel_rfl
theorem tl_22 : lone1 Tryd.prog 22 = true := by kernel_rfl
theorem tl_3 : lone1 Tryd.prog 3 = true := by kernel_rfl
theorem tl_42 : lone1 Tryd.prog 42 = true := by kernel_rfl
theorem tm : Tryd.prog.follows .mixedOrders = true := by kernel_rfl
theorem ts_22 : slEl Tryd.prog 22 = some 3 := by kernel_rfl
theorem ts_26 : slEl Tryd.prog 26 = some 1 := by kernel_rfl
theorem ts_36 : slEl Tryd.prog 36 = some 1 := by kernel_rfl
theorem ts_42 : slEl Tryd.prog 42 = some 2 := by kernel_rfl
theorem ts_85 : slEl Tryd.prog 85 = some 2 := by kernel_rfl
theorem tu_21 : Tryd.prog.underlying 21 = some (.int .i32) := by kernel_rfl
theorem tu_3 : Tryd.prog.underlying 3 = some (.int .i64) := by kernel_rfl
theorem c_Sets (kind : Int) {w : World} {M : Mem} {bs : List (Nat × Obj)}  (hO : Own w M (bs)) :
    Calls Tryd.prog 36 #[.int .i64 kind] w (Ret M bs (fun M' v => v = .bool (setsB kind))) := by
 refine ce (vs := [.int .i64 kind]) (n := 9) Tryd.func36 rfl rfl rfl (cq (cr (as_ hO rfl rfl (rj (et (cq (cq (cr (mv hO rfl rfl ?_)))))))))
 refine rj (et (cb (cq (cq (cr (ry hO rfl (ye tz rfl rfl) (as_ hO rfl rfl (rj (et ?_)))))))))
 refine cd rfl (fun h1 => ?_) (fun h1 => ?_)
 ·
  have h2 : kind = 1 := ot h1
  refine cp (et (cv (by rw [h1]; rfl) (cq (cr (as_ hO rfl rfl (rj (et (ct (eg ?_)))))))))
  refine ew' (er (.inl rfl) rfl rfl ?_)
  refine Ret.mk (mr _) hO (congrArg Value.bool ?_)
  (first | rfl | (simp_all [setsB]; done) | omega | grind [setsB])
 have h3 : ¬ (kind = 1) := oq h1
 refine cq (cr (ry hO rfl (ye tz rfl rfl) (as_ hO rfl rfl (rj (et (cd rfl (fun h4 => ?_) (fun h4 => ?_)))))))
 ·
  have h5 : kind = 2 := ot h4
  refine cp (et (cv (by rw [h4]; rfl) (cq (cr (as_ hO rfl rfl (rj (et (ct (eg ?_)))))))))
  refine ew' (er (.inl rfl) rfl rfl ?_)
  refine Ret.mk (mr _) hO (congrArg Value.bool ?_)
  (first | rfl | (simp_all [setsB]; done) | omega | grind [setsB])
 have h6 : ¬ (kind = 2) := oq h4
 refine cq (cr (ry hO rfl (ye tz rfl rfl) (as_ hO rfl rfl (rj (et (cd rfl (fun h7 => ?_) (fun h7 => ?_)))))))
 ·
  have h8 : kind = 3 := ot h7
  refine cp (et (cv (by rw [h7]; rfl) (cq (cr (as_ hO rfl rfl (rj (et (ct (eg ?_)))))))))
  refine ew' (er (.inl rfl) rfl rfl ?_)
  refine Ret.mk (mr _) hO (congrArg Value.bool ?_)
  (first | rfl | (simp_all [setsB]; done) | omega | grind [setsB])
 have h9 : ¬ (kind = 3) := oq h7
 refine cr (ry hO rfl (ye tz rfl rfl) (as_ hO rfl rfl (rj (et (cd rfl (fun h10 => ?_) (fun h10 => ?_))))))
 ·
  have h11 : kind = 6 := ot h10
  refine cq (cr (as_ hO rfl rfl (rj (et (ct (eg (ew' (er (.inl rfl) rfl rfl ?_))))))))
  refine Ret.mk (mr _) hO (congrArg Value.bool ?_)
  (first | rfl | (simp_all [setsB]; done) | omega | grind [setsB])
 have h12 : ¬ (kind = 6) := oq h10
 refine cp (ek' (et (cq (cr (as_ hO rfl rfl (rj (et (ct (er (.inl rfl) rfl rfl ?_)))))))))
 refine Ret.mk (mr _) hO (congrArg Value.bool ?_)
 (first | rfl | (simp_all [setsB]; done) | omega | grind [setsB])

theorem c_Goes (kind : Int) {w : World} {M : Mem} {bs : List (Nat × Obj)}  (hO : Own w M (bs)) :
    Calls Tryd.prog 53 #[.int .i64 kind] w (Ret M bs (fun M' v => v = .bool (goesB kind))) := by
 refine ce (vs := [.int .i64 kind]) (n := 9) Tryd.func53 rfl rfl rfl (cq (cr (as_ hO rfl rfl (rj (et (cq (cr (mv hO rfl rfl (ry hO rfl (ye tz rfl rfl) ?_)))))))))
 refine mv hO rfl rfl ?_
 rcases bt (decide (kind = 4)) with h1 | h1
 ·
  have h2 : kind = 4 := ot h1
  refine ry hO rfl (ek (by rw [h1]; rfl)) (ry hO rfl (ek (by rw [h1]; rfl)) (ry hO rfl (pt tz (by rw [h1]; rfl) rfl) (as_ hO rfl rfl (rj (et (ct (er (.inl rfl) rfl rfl ?_)))))))
  refine Ret.mk (mr _) hO (congrArg Value.bool ?_)
  (first | rfl | (simp_all [goesB]; done) | omega | grind [goesB])
 have h3 : ¬ (kind = 4) := oq h1
 refine ry hO rfl (ym (by rw [h1]; rfl) rfl) (ry hO rfl (ye (by rw [h1]; rfl) rfl rfl) (ry hO rfl (pf tz (by rw [h1]; rfl) rfl) (as_ hO rfl rfl (rj (et (ct (er (.inl rfl) rfl rfl ?_)))))))
 refine Ret.mk (mr _) hO (congrArg Value.bool ?_)
 (first | rfl | (simp_all [goesB]; done) | omega | grind [goesB])

theorem c_Leaves (kind : Int) {w : World} {M : Mem} {bs : List (Nat × Obj)}  (hO : Own w M (bs)) :
    Calls Tryd.prog 33 #[.int .i64 kind] w (Ret M bs (fun M' v => v = .bool (leavesB kind))) := by
 refine ce (vs := [.int .i64 kind]) (n := 9) Tryd.func33 rfl rfl rfl (cq (cr (as_ hO rfl rfl (rj (et (cq (cr (mv hO rfl rfl (ry hO rfl (ye tz rfl rfl) ?_)))))))))
 refine mv hO rfl rfl ?_
 rcases bt (decide (kind = 9)) with h1 | h1
 ·
  have h2 : kind = 9 := ot h1
  refine ry hO rfl (ek (by rw [h1]; rfl)) (ry hO rfl (ek (by rw [h1]; rfl)) (ry hO rfl (pt tz (by rw [h1]; rfl) rfl) (as_ hO rfl rfl (rj (et (ct (er (.inl rfl) rfl rfl ?_)))))))
  refine Ret.mk (mr _) hO (congrArg Value.bool ?_)
  (first | rfl | (simp_all [leavesB]; done) | omega | grind [leavesB])
 have h3 : ¬ (kind = 9) := oq h1
 refine ry hO rfl (ym (by rw [h1]; rfl) rfl) (ry hO rfl (ye (by rw [h1]; rfl) rfl rfl) (ry hO rfl (pf tz (by rw [h1]; rfl) rfl) (as_ hO rfl rfl (rj (et (ct (er (.inl rfl) rfl rfl ?_)))))))
 refine Ret.mk (mr _) hO (congrArg Value.bool ?_)
 (first | rfl | (simp_all [leavesB]; done) | omega | grind [leavesB])

theorem c_below (kind : Int) {w : World} {M : Mem} {bs : List (Nat × Obj)}  (hO : Own w M (bs)) :
    Calls Tryd.prog 70 #[.int .i64 kind] w (Ret M bs (fun M' v => v = .int .i64 (belowI kind))) := by
 refine ce (vs := [.int .i64 kind]) (n := 12) Tryd.func70 rfl rfl rfl (cq (cr (as_ hO rfl rfl (rj (et (cq (cq (cr (mv hO rfl rfl ?_)))))))))
 refine rj (et (cb (cq (cq (cr (ry hO rfl (ye tz rfl rfl) (as_ hO rfl rfl (rj (et ?_)))))))))
 refine cd rfl (fun h1 => ?_) (fun h1 => ?_)
 ·
  have h2 : kind = 1 := ot h1
  refine cp (et (cv (by rw [h1]; rfl) (cq (cr (as_ hO rfl rfl (rj (et (ct (eg ?_)))))))))
  refine ew' (er (.inl rfl) rfl rfl ?_)
  refine Ret.mk (mr _) hO (congrArg (Value.int .i64) ?_)
  (first | rfl | (simp_all [belowI]; done) | omega | grind [belowI])
 have h3 : ¬ (kind = 1) := oq h1
 refine cr (ry hO rfl (ye tz rfl rfl) (as_ hO rfl rfl (rj (et (cd rfl (fun h4 => ?_) (fun h4 => ?_))))))
 ·
  have h5 : kind = 2 := ot h4
  refine cq (cr (as_ hO rfl rfl (rj (et (ct (eg (ew' (er (.inl rfl) rfl rfl ?_))))))))
  refine Ret.mk (mr _) hO (congrArg (Value.int .i64) ?_)
  (first | rfl | (simp_all [belowI]; done) | omega | grind [belowI])
 have h6 : ¬ (kind = 2) := oq h4
 refine cq (cq (cr (ry hO rfl (ye tz rfl rfl) (as_ hO rfl rfl (rj (et (cd rfl (fun h7 => ?_) (fun h7 => ?_))))))))
 ·
  have h8 : kind = 12 := ot h7
  refine cp (et (cv (by rw [h7]; rfl) (cq (cr (as_ hO rfl rfl (rj (et (ct (eg ?_)))))))))
  refine ew' (er (.inl rfl) rfl rfl ?_)
  refine Ret.mk (mr _) hO (congrArg (Value.int .i64) ?_)
  (first | rfl | (simp_all [belowI]; done) | omega | grind [belowI])
 have h9 : ¬ (kind = 12) := oq h7
 refine cr (ry hO rfl (ye tz rfl rfl) (as_ hO rfl rfl (rj (et (cd rfl (fun h10 => ?_) (fun h10 => ?_))))))
 ·
  have h11 : kind = 13 := ot h10
  refine cq (cr (as_ hO rfl rfl (rj (et (ct (eg (ew' (er (.inl rfl) rfl rfl ?_))))))))
  refine Ret.mk (mr _) hO (congrArg (Value.int .i64) ?_)
  (first | rfl | (simp_all [belowI]; done) | omega | grind [belowI])
 have h12 : ¬ (kind = 13) := oq h10
 refine cq (cr (ry hO rfl (ye tz rfl rfl) (as_ hO rfl rfl (rj (et (cd rfl (fun h13 => ?_) (fun h13 => ?_)))))))
 ·
  have h14 : kind = 14 := ot h13
  refine cq (cr (as_ hO rfl rfl (rj (et (ct (eg (ew' (er (.inl rfl) rfl rfl ?_))))))))
  refine Ret.mk (mr _) hO (congrArg (Value.int .i64) ?_)
  (first | rfl | (simp_all [belowI]; done) | omega | grind [belowI])
 have h15 : ¬ (kind = 14) := oq h13
 refine cp (ek' (et (cq (cr (as_ hO rfl rfl (rj (et (ct (er (.inl rfl) rfl rfl ?_)))))))))
 refine Ret.mk (mr _) hO (congrArg (Value.int .i64) ?_)
 (first | rfl | (simp_all [belowI]; done) | omega | grind [belowI])

theorem c_wrapIs (x : Int) {w : World} {M : Mem} {bs : List (Nat × Obj)}  (hO : Own w M (bs)) :
    Calls Tryd.prog 52 #[.int .i64 x] w (Ret M bs (fun M' v => v = .bool (isW x))) := by
 refine ce (vs := [.int .i64 x]) (n := 8) Tryd.func52 rfl rfl rfl (cq (cr (as_ hO rfl rfl (rj (et (cq (cr (mv hO rfl rfl (ry hO rfl (y_convInt (IntKind.i32.wrap x) tu_21 tu_3 (by rfl) tz rfl) ?_)))))))))
 refine ry hO rfl (y_convInt (IntKind.i64.wrap (IntKind.i32.wrap x)) tu_3 tu_21 (by rfl) tz rfl) (mv hO rfl rfl (ry hO rfl (ye tz rfl rfl) (as_ hO rfl rfl (rj (et (ct (er (.inl rfl) rfl rfl ?_)))))))
 refine Ret.mk (mr _) hO (congrArg Value.bool ?_)
 (first | rfl | (simp_all [isW]; done) | omega | grind [isW])

theorem c_drops {p_x : Addr} (x : Ir) {w : World} {M : Mem} {bs : List (Nat × Obj)} (h_x : PAt M p_x x)  (hO : Own w M (bs)) :
    Calls Tryd.prog 27 #[.pointer (some p_x)] w (Ret M bs (fun M' v => v = .bool (dropsB x))) := by
 refine ce (vs := [.pointer (some p_x)]) (n := 24) Tryd.func27 rfl rfl rfl (cq (cr (as_ hO rfl rfl (rj (et (cq (cq (cr (mv hO rfl rfl ?_)))))))))
 refine nc hO rfl rfl (fa tf_38_0 hO rfl rfl ?_)
 obtain ⟨_, at4, b1, c2, rfl, s3⟩ := id h_x
 refine lc tl_3 at4 0 rfl hO rfl rfl (rj (et (cb (cq (cr (ry hO rfl (ye tz rfl rfl) (as_ hO rfl rfl (rj (et ?_)))))))))
 refine cd rfl (fun h5 => ?_) (fun h5 => ?_)
 ·
  have h6 : x.kind = 3 := ot h5
  refine cq (cr (mv hO rfl rfl (nc hO rfl rfl (fa tf_38_4 hO rfl rfl (lc tl_3 at4 4 rfl hO rfl rfl (ry hO rfl (y_ne tz rfl rfl) (mv hO rfl rfl ?_)))))))
  rcases bt (!decide (x.k = 6)) with h7 | h7
  ·
   have h8 : (decide (x.k = 6)) = false := by simpa using h7
   have h9 : ¬ (x.k = 6) := oq h8
   refine ry hO rfl (ym (by rw [h7]; rfl) rfl) (ry hO rfl (yn (by rw [h7]; rfl) rfl) (ry hO rfl (ya tf_38_4 (by rw [h7]; rfl) rfl) (ry hO rfl (yl tl_3 (by rw [h7]; rfl) rfl (fun _ h => at4.cell h 4 rfl)) (ry hO rfl (y_ne (by rw [h7]; rfl) rfl rfl) (ry hO rfl (pt tz (by rw [h7]; rfl) rfl) (as_ hO rfl rfl (rj (ez (E' := [(2, .bool (!decide (x.k = 7)))]) ⟨rfl, tz⟩ (et ?_)))))))))
   refine ct (eg (ew' (er (.inl rfl) rfl rfl ?_)))
   refine Ret.mk (mr _) hO (congrArg Value.bool ?_)
   (first | rfl | (simp_all [dropsB]; done) | omega | grind [dropsB])
  have h10 : (decide (x.k = 6)) = true := by simpa using h7
  have h11 : x.k = 6 := ot h10
  refine ry hO rfl (ek (by rw [h7]; rfl)) (ry hO rfl (ek (by rw [h7]; rfl)) (ry hO rfl (ek (by rw [h7]; rfl)) (ry hO rfl (ek (by rw [h7]; rfl)) (ry hO rfl (ek (by rw [h7]; rfl)) (ry hO rfl (pf tz (by rw [h7]; rfl) rfl) (as_ hO rfl rfl (rj (ez (E' := [(2, .bool false)]) ⟨rfl, tz⟩ (et ?_)))))))))
  refine ct (eg (ew' (er (.inl rfl) rfl rfl ?_)))
  refine Ret.mk (mr _) hO (congrArg Value.bool ?_)
  (first | rfl | (simp_all [dropsB]; done) | omega | grind [dropsB])
 have h12 : ¬ (x.kind = 3) := oq h5
 refine cq (cq (cr (ry hO rfl (ye tz rfl rfl) (as_ hO rfl rfl (rj (et (cd rfl (fun h13 => ?_) (fun h13 => ?_))))))))
 ·
  have h14 : x.kind = 1 := ot h13
  refine cp (et (cv (by rw [h13]; rfl) (cq (cr (as_ hO rfl rfl (rj (et (ct (eg ?_)))))))))
  refine ew' (er (.inl rfl) rfl rfl ?_)
  refine Ret.mk (mr _) hO (congrArg Value.bool ?_)
  (first | rfl | (simp_all [dropsB]; done) | omega | grind [dropsB])
 have h15 : ¬ (x.kind = 1) := oq h13
 refine cr (ry hO rfl (ye tz rfl rfl) (as_ hO rfl rfl (rj (et (cd rfl (fun h16 => ?_) (fun h16 => ?_))))))
 ·
  have h17 : x.kind = 2 := ot h16
  refine cq (cr (as_ hO rfl rfl (rj (et (ct (eg (ew' (er (.inl rfl) rfl rfl ?_))))))))
  refine Ret.mk (mr _) hO (congrArg Value.bool ?_)
  (first | rfl | (simp_all [dropsB]; done) | omega | grind [dropsB])
 have h18 : ¬ (x.kind = 2) := oq h16
 refine cp (ek' (et (cq (cr (as_ hO rfl rfl (rj (et (ct (er (.inl rfl) rfl rfl ?_)))))))))
 refine Ret.mk (mr _) hO (congrArg Value.bool ?_)
 (first | rfl | (simp_all [dropsB]; done) | omega | grind [dropsB])

theorem c_IndexFuncMeta {b_s : Option Addr} {c_s : Nat} (s : List Meta) {f : FuncId} {f_1 f_2 : Array Value} (p_f : Meta → Bool) {w : World} {M : Mem} {bs : List (Nat × Obj)} (h_s : RdS M b_s c_s s) (k_f : cl Tryd.prog f) (h_f : ∀ (x : Meta) (w' : World) (M' : Mem) (vs : List Value) (bs' : List (Nat × Obj)), Mem.le M M' → Rep.rd M' vs x → Own w' M' bs' → Calls Tryd.prog f (f_1 ++ #[.agg vs.toArray] ++ f_2) w' (Ret M' bs' (fun _ v => v = .bool (p_f x))))  (hO : Own w M (bs)) :
    Calls Tryd.prog 37 #[.slice b_s s.length c_s, .func (.func f) f_1 f_2] w (Ret M bs (fun M' v => v = .int .i64 (idxI s p_f))) := by
 refine ce (vs := [.slice b_s s.length c_s, .func (.func f) f_1 f_2]) (n := 19) Tryd.func37 rfl rfl rfl ?_
 have bd1 : s.length * 24 ≤ 140737488351232 := h_s.bd
 refine cq (cr (as_ hO rfl rfl (rj (et (cq (cq (cr (mv hO rfl rfl (ln ts_26 hO rfl rfl ?_)))))))))
 refine mv hO rfl rfl (rj (et (cb (cg_loop (σ := Mem × Nat) (fun qs => [(8, .int .i64 (qs.2 : Int)), (7, .int .i64 (s.length : Int)), (0, .slice b_s s.length c_s), (1, .func (.func f) f_1 f_2)]) (fun qs w => Mem.le M qs.1 ∧ (qs.2 ≤ s.length ∧ idxI (s.take qs.2) p_f = -1) ∧ Own w qs.1 (bs)) (fun qs => s.length - qs.2) (M, 0) ⟨rfl, rfl, rfl, rfl, tz⟩ ⟨mr _, (by (try dsimp only); exact ⟨Nat.zero_le _, by simp [idxI]⟩), hO⟩ ?_))))
 rintro ⟨Mi, k⟩ w2 ⟨le4, ⟨hk, hi⟩, hO⟩
 try dsimp only at *
 have h5 := h_s.mono le4
 have hle6 := le4
 refine cq (cr (ry hO rfl (yv tz rfl rfl) (rj (et (cq (cd rfl (fun h7 => ?_) (fun h7 => ?_)))))))
 ·
  have h8 : (k : Int) < (s.length : Int) := ot h7
  refine cp (et (cq (cb (cq (cr (mv hO rfl rfl (as_ hO rfl rfl (rj (et ?_)))))))))
  refine cq (cr (mv hO rfl rfl (mv hO rfl rfl (mv hO rfl rfl ?_))))
  obtain ⟨p9, rfl, _⟩ := RdS.get h5 k (by omega)
  have hO : Own w2 Mi (bs) := by assumption
  have q10 : PAt Mi (p9.add (k * 1)) (nth s k) := RdS.at h5 k (by omega)
  refine ry hO rfl (y_indexN k ts_26 tz rfl rfl (by omega)) ?_
  obtain ⟨_, at14, b11, c12, rfl, s13⟩ := id q10
  refine ry hO rfl (yq [.slice b11 (((nth s k).parts).length) c12] ta_65 rfl tz rfl (fun _ h j _ e => at14.cell h j e)) (rd' tz (og_callv (vs := [.agg #[.slice b11 (((nth s k).parts).length) c12]]) k_f rfl rfl rfl (h_f (nth s k) _ _ _ _ hle6 ⟨b11, c12, rfl, s13⟩ hO) ?_))
  rintro _ w15 ⟨M16, _, le17, hO, rfl, rfl⟩
  refine ⟨_, rfl, ?_⟩
  have h18 := h5.mono le17
  have q19 := q10.mono le17
  have at20 := at14.mono le17
  have s21 := s13.mono le17
  have hle22 := m_ hle6 le17
  have ch23 := m_ le4 le17
  refine rj (ez (E' := [(8, .int .i64 (k : Int)), (7, .int .i64 (s.length : Int)), (0, .slice (some p9) s.length c_s), (1, .func (.func f) f_1 f_2), (5, .int .i64 (k : Int)), (16, .bool (p_f (nth s k)))]) ⟨rfl, rfl, rfl, rfl, rfl, rfl, tz⟩ (et (cd rfl (fun h24 => ?_) (fun h24 => ?_))))
  ·
   refine cq (cr (mv hO rfl rfl (as_ hO rfl rfl (rj (et (ct (eg (ew' (ew' ?_)))))))))
   refine eg (ew' (er (.inl rfl) rfl rfl ?_))
   refine Ret.mk hle22 hO (congrArg (Value.int .i64) ?_)
   have hb := s; exact idx_hit (by omega) hi (by assumption)
  refine cp (ek' (et (cr (ry hO rfl (y_add ((k + 1 : Nat) : Int) tz rfl rfl (by rw [wd] <;> omega)) (mv hO rfl rfl (rj ?_))))))
  refine ends_round (M16, k + 1) ?_ ?_ ?_
  · exact ⟨rfl, rfl, rfl, rfl, tz⟩
  · exact ⟨ch23, (by (try dsimp only); exact ⟨by omega, idx_miss (by omega) hi (by assumption)⟩), hO⟩
  · (try dsimp only); omega
 have h25 : ¬ ((k : Int) < (s.length : Int)) := oq h7
 refine cx (eh (eh (ej (et (cq (cr (as_ hO rfl rfl (rj (et ?_)))))))))
 refine ct (er (.inl rfl) rfl rfl ?_)
 refine Ret.mk hle6 hO (congrArg (Value.int .i64) ?_)
 rw [List.take_of_length_le (by omega)] at hi; exact hi.symm

theorem c_ContainsFuncMeta {b_s : Option Addr} {c_s : Nat} (s : List Meta) {f : FuncId} {f_1 f_2 : Array Value} (p_f : Meta → Bool) {w : World} {M : Mem} {bs : List (Nat × Obj)} (h_s : RdS M b_s c_s s) (k_f : cl Tryd.prog f) (h_f : ∀ (x : Meta) (w' : World) (M' : Mem) (vs : List Value) (bs' : List (Nat × Obj)), Mem.le M M' → Rep.rd M' vs x → Own w' M' bs' → Calls Tryd.prog f (f_1 ++ #[.agg vs.toArray] ++ f_2) w' (Ret M' bs' (fun _ v => v = .bool (p_f x))))  (hO : Own w M (bs)) :
    Calls Tryd.prog 18 #[.slice b_s s.length c_s, .func (.func f) f_1 f_2] w (Ret M bs (fun M' v => v = .bool (s.any p_f))) := by
 refine ce (vs := [.slice b_s s.length c_s, .func (.func f) f_1 f_2]) (n := 9) Tryd.func18 rfl rfl rfl ?_
 have bd1 : s.length * 24 ≤ 140737488351232 := h_s.bd
 refine cq (cr (as_ hO rfl rfl (rj (et (cq (cr (mv hO rfl rfl (mv hO rfl rfl (rd' tz (oc (vs := [.slice b_s s.length c_s, .func (.func f) f_1 f_2]) tcall_37 rfl rfl (c_IndexFuncMeta s p_f h_s k_f (fun x w_ M_ v_ b_ le rd o => h_f x w_ M_ v_ b_ le rd o) hO) ?_))))))))))
 rintro _ w2 ⟨M3, _, le4, hO, rfl, rfl⟩
 refine ⟨_, rfl, ?_⟩
 have h5 := h_s.mono le4
 have hle6 := le4
 refine ry hO rfl (y_ge tz rfl rfl) (as_ hO rfl rfl (rj (et (ct (er (.inl rfl) rfl rfl ?_)))))
 exact Ret.mk hle6 hO (congrArg Value.bool (idx_any s p_f))

theorem c_IndexFuncSrc {b_s : Option Addr} {c_s : Nat} (s : List Src) {f : FuncId} {f_1 f_2 : Array Value} (p_f : Src → Bool) {w : World} {M : Mem} {bs : List (Nat × Obj)} (h_s : RdS M b_s c_s s) (k_f : cl Tryd.prog f) (h_f : ∀ (x : Src) (w' : World) (M' : Mem) (vs : List Value) (bs' : List (Nat × Obj)), Mem.le M M' → Rep.rd M' vs x → Own w' M' bs' → Calls Tryd.prog f (f_1 ++ #[.agg vs.toArray] ++ f_2) w' (Ret M' bs' (fun _ v => v = .bool (p_f x))))  (hO : Own w M (bs)) :
    Calls Tryd.prog 69 #[.slice b_s s.length c_s, .func (.func f) f_1 f_2] w (Ret M bs (fun M' v => v = .int .i64 (idxI s p_f))) := by
 refine ce (vs := [.slice b_s s.length c_s, .func (.func f) f_1 f_2]) (n := 19) Tryd.func69 rfl rfl rfl ?_
 have bd1 : s.length * 16 ≤ 140737488351232 := h_s.bd
 refine cq (cr (as_ hO rfl rfl (rj (et (cq (cq (cr (mv hO rfl rfl (ln ts_85 hO rfl rfl ?_)))))))))
 refine mv hO rfl rfl (rj (et (cb (cg_loop (σ := Mem × Nat) (fun qs => [(8, .int .i64 (qs.2 : Int)), (7, .int .i64 (s.length : Int)), (0, .slice b_s s.length c_s), (1, .func (.func f) f_1 f_2)]) (fun qs w => Mem.le M qs.1 ∧ (qs.2 ≤ s.length ∧ idxI (s.take qs.2) p_f = -1) ∧ Own w qs.1 (bs)) (fun qs => s.length - qs.2) (M, 0) ⟨rfl, rfl, rfl, rfl, tz⟩ ⟨mr _, (by (try dsimp only); exact ⟨Nat.zero_le _, by simp [idxI]⟩), hO⟩ ?_))))
 rintro ⟨Mi, k⟩ w2 ⟨le4, ⟨hk, hi⟩, hO⟩
 try dsimp only at *
 have h5 := h_s.mono le4
 have hle6 := le4
 refine cq (cr (ry hO rfl (yv tz rfl rfl) (rj (et (cq (cd rfl (fun h7 => ?_) (fun h7 => ?_)))))))
 ·
  have h8 : (k : Int) < (s.length : Int) := ot h7
  refine cp (et (cq (cb (cq (cr (mv hO rfl rfl (as_ hO rfl rfl (rj (et ?_)))))))))
  refine cq (cr (mv hO rfl rfl (mv hO rfl rfl (mv hO rfl rfl ?_))))
  obtain ⟨p9, rfl, _⟩ := RdS.get h5 k (by omega)
  have hO : Own w2 Mi (bs) := by assumption
  have q10 : PAt Mi (p9.add (k * 2)) (nth s k) := RdS.at h5 k (by omega)
  refine ry hO rfl (y_indexN k ts_85 tz rfl rfl (by omega)) ?_
  obtain ⟨_, at11, rfl⟩ := id q10
  refine ry hO rfl (yq [.bool ((nth s k).cst), .int .i64 ((nth s k).v)] ta_95 rfl tz rfl (fun _ h j _ e => at11.cell h j e)) (rd' tz (og_callv (vs := [.agg #[.bool ((nth s k).cst), .int .i64 ((nth s k).v)]]) k_f rfl rfl rfl (h_f (nth s k) _ _ _ _ hle6 rfl hO) ?_))
  rintro _ w12 ⟨M13, _, le14, hO, rfl, rfl⟩
  refine ⟨_, rfl, ?_⟩
  have h15 := h5.mono le14
  have q16 := q10.mono le14
  have at17 := at11.mono le14
  have hle18 := m_ hle6 le14
  have ch19 := m_ le4 le14
  refine rj (ez (E' := [(8, .int .i64 (k : Int)), (7, .int .i64 (s.length : Int)), (0, .slice (some p9) s.length c_s), (1, .func (.func f) f_1 f_2), (5, .int .i64 (k : Int)), (16, .bool (p_f (nth s k)))]) ⟨rfl, rfl, rfl, rfl, rfl, rfl, tz⟩ (et (cd rfl (fun h20 => ?_) (fun h20 => ?_))))
  ·
   refine cq (cr (mv hO rfl rfl (as_ hO rfl rfl (rj (et (ct (eg (ew' (ew' ?_)))))))))
   refine eg (ew' (er (.inl rfl) rfl rfl ?_))
   refine Ret.mk hle18 hO (congrArg (Value.int .i64) ?_)
   have hb := s; exact idx_hit (by omega) hi (by assumption)
  refine cp (ek' (et (cr (ry hO rfl (y_add ((k + 1 : Nat) : Int) tz rfl rfl (by rw [wd] <;> omega)) (mv hO rfl rfl (rj ?_))))))
  refine ends_round (M13, k + 1) ?_ ?_ ?_
  · exact ⟨rfl, rfl, rfl, rfl, tz⟩
  · exact ⟨ch19, (by (try dsimp only); exact ⟨by omega, idx_miss (by omega) hi (by assumption)⟩), hO⟩
  · (try dsimp only); omega
 have h21 : ¬ ((k : Int) < (s.length : Int)) := oq h7
 refine cx (eh (eh (ej (et (cq (cr (as_ hO rfl rfl (rj (et ?_)))))))))
 refine ct (er (.inl rfl) rfl rfl ?_)
 refine Ret.mk hle6 hO (congrArg (Value.int .i64) ?_)
 rw [List.take_of_length_le (by omega)] at hi; exact hi.symm

theorem c_ContainsFuncSrc {b_s : Option Addr} {c_s : Nat} (s : List Src) {f : FuncId} {f_1 f_2 : Array Value} (p_f : Src → Bool) {w : World} {M : Mem} {bs : List (Nat × Obj)} (h_s : RdS M b_s c_s s) (k_f : cl Tryd.prog f) (h_f : ∀ (x : Src) (w' : World) (M' : Mem) (vs : List Value) (bs' : List (Nat × Obj)), Mem.le M M' → Rep.rd M' vs x → Own w' M' bs' → Calls Tryd.prog f (f_1 ++ #[.agg vs.toArray] ++ f_2) w' (Ret M' bs' (fun _ v => v = .bool (p_f x))))  (hO : Own w M (bs)) :
    Calls Tryd.prog 54 #[.slice b_s s.length c_s, .func (.func f) f_1 f_2] w (Ret M bs (fun M' v => v = .bool (s.any p_f))) := by
 refine ce (vs := [.slice b_s s.length c_s, .func (.func f) f_1 f_2]) (n := 9) Tryd.func54 rfl rfl rfl ?_
 have bd1 : s.length * 16 ≤ 140737488351232 := h_s.bd
 refine cq (cr (as_ hO rfl rfl (rj (et (cq (cr (mv hO rfl rfl (mv hO rfl rfl (rd' tz (oc (vs := [.slice b_s s.length c_s, .func (.func f) f_1 f_2]) tcall_69 rfl rfl (c_IndexFuncSrc s p_f h_s k_f (fun x w_ M_ v_ b_ le rd o => h_f x w_ M_ v_ b_ le rd o) hO) ?_))))))))))
 rintro _ w2 ⟨M3, _, le4, hO, rfl, rfl⟩
 refine ⟨_, rfl, ?_⟩
 have h5 := h_s.mono le4
 have hle6 := le4
 refine ry hO rfl (y_ge tz rfl rfl) (as_ hO rfl rfl (rj (et (ct (er (.inl rfl) rfl rfl ?_)))))
 exact Ret.mk hle6 hO (congrArg Value.bool (idx_any s p_f))

theorem c_IndexFuncFunc {b_s : Option Addr} {c_s : Nat} (s : List FuncD) {f : FuncId} {f_1 f_2 : Array Value} (p_f : FuncD → Bool) {w : World} {M : Mem} {bs : List (Nat × Obj)} (h_s : RdS M b_s c_s s) (k_f : cl Tryd.prog f) (h_f : ∀ (x : FuncD) (w' : World) (M' : Mem) (vs : List Value) (bs' : List (Nat × Obj)), Mem.le M M' → Rep.rd M' vs x → Own w' M' bs' → Calls Tryd.prog f (f_1 ++ #[.agg vs.toArray] ++ f_2) w' (Ret M' bs' (fun _ v => v = .bool (p_f x))))  (hO : Own w M (bs)) :
    Calls Tryd.prog 57 #[.slice b_s s.length c_s, .func (.func f) f_1 f_2] w (Ret M bs (fun M' v => v = .int .i64 (idxI s p_f))) := by
 refine ce (vs := [.slice b_s s.length c_s, .func (.func f) f_1 f_2]) (n := 19) Tryd.func57 rfl rfl rfl ?_
 have bd1 : s.length * 40 ≤ 140737488351232 := h_s.bd
 refine cq (cr (as_ hO rfl rfl (rj (et (cq (cq (cr (mv hO rfl rfl (ln ts_22 hO rfl rfl ?_)))))))))
 refine mv hO rfl rfl (rj (et (cb (cg_loop (σ := Mem × Nat) (fun qs => [(8, .int .i64 (qs.2 : Int)), (7, .int .i64 (s.length : Int)), (0, .slice b_s s.length c_s), (1, .func (.func f) f_1 f_2)]) (fun qs w => Mem.le M qs.1 ∧ (qs.2 ≤ s.length ∧ idxI (s.take qs.2) p_f = -1) ∧ Own w qs.1 (bs)) (fun qs => s.length - qs.2) (M, 0) ⟨rfl, rfl, rfl, rfl, tz⟩ ⟨mr _, (by (try dsimp only); exact ⟨Nat.zero_le _, by simp [idxI]⟩), hO⟩ ?_))))
 rintro ⟨Mi, k⟩ w2 ⟨le4, ⟨hk, hi⟩, hO⟩
 try dsimp only at *
 have h5 := h_s.mono le4
 have hle6 := le4
 refine cq (cr (ry hO rfl (yv tz rfl rfl) (rj (et (cq (cd rfl (fun h7 => ?_) (fun h7 => ?_)))))))
 ·
  have h8 : (k : Int) < (s.length : Int) := ot h7
  refine cp (et (cq (cb (cq (cr (mv hO rfl rfl (as_ hO rfl rfl (rj (et ?_)))))))))
  refine cq (cr (mv hO rfl rfl (mv hO rfl rfl (mv hO rfl rfl ?_))))
  obtain ⟨p9, rfl, _⟩ := RdS.get h5 k (by omega)
  have hO : Own w2 Mi (bs) := by assumption
  have q10 : PAt Mi (p9.add (k * 3)) (nth s k) := RdS.at h5 k (by omega)
  refine ry hO rfl (y_indexN k ts_22 tz rfl rfl (by omega)) ?_
  obtain ⟨_, at14, b11, c12, rfl, s13⟩ := id q10
  refine ry hO rfl (yq [.int .i64 ((nth s k).args), .int .i64 ((nth s k).locals), .slice b11 (((nth s k).code).length) c12] ta_44 rfl tz rfl (fun _ h j _ e => at14.cell h j e)) (rd' tz (og_callv (vs := [.agg #[.int .i64 ((nth s k).args), .int .i64 ((nth s k).locals), .slice b11 (((nth s k).code).length) c12]]) k_f rfl rfl rfl (h_f (nth s k) _ _ _ _ hle6 ⟨b11, c12, rfl, s13⟩ hO) ?_))
  rintro _ w15 ⟨M16, _, le17, hO, rfl, rfl⟩
  refine ⟨_, rfl, ?_⟩
  have h18 := h5.mono le17
  have q19 := q10.mono le17
  have at20 := at14.mono le17
  have s21 := s13.mono le17
  have hle22 := m_ hle6 le17
  have ch23 := m_ le4 le17
  refine rj (ez (E' := [(8, .int .i64 (k : Int)), (7, .int .i64 (s.length : Int)), (0, .slice (some p9) s.length c_s), (1, .func (.func f) f_1 f_2), (5, .int .i64 (k : Int)), (16, .bool (p_f (nth s k)))]) ⟨rfl, rfl, rfl, rfl, rfl, rfl, tz⟩ (et (cd rfl (fun h24 => ?_) (fun h24 => ?_))))
  ·
   refine cq (cr (mv hO rfl rfl (as_ hO rfl rfl (rj (et (ct (eg (ew' (ew' ?_)))))))))
   refine eg (ew' (er (.inl rfl) rfl rfl ?_))
   refine Ret.mk hle22 hO (congrArg (Value.int .i64) ?_)
   have hb := s; exact idx_hit (by omega) hi (by assumption)
  refine cp (ek' (et (cr (ry hO rfl (y_add ((k + 1 : Nat) : Int) tz rfl rfl (by rw [wd] <;> omega)) (mv hO rfl rfl (rj ?_))))))
  refine ends_round (M16, k + 1) ?_ ?_ ?_
  · exact ⟨rfl, rfl, rfl, rfl, tz⟩
  · exact ⟨ch23, (by (try dsimp only); exact ⟨by omega, idx_miss (by omega) hi (by assumption)⟩), hO⟩
  · (try dsimp only); omega
 have h25 : ¬ ((k : Int) < (s.length : Int)) := oq h7
 refine cx (eh (eh (ej (et (cq (cr (as_ hO rfl rfl (rj (et ?_)))))))))
 refine ct (er (.inl rfl) rfl rfl ?_)
 refine Ret.mk hle6 hO (congrArg (Value.int .i64) ?_)
 rw [List.take_of_length_le (by omega)] at hi; exact hi.symm

theorem c_ContainsFuncFunc {b_s : Option Addr} {c_s : Nat} (s : List FuncD) {f : FuncId} {f_1 f_2 : Array Value} (p_f : FuncD → Bool) {w : World} {M : Mem} {bs : List (Nat × Obj)} (h_s : RdS M b_s c_s s) (k_f : cl Tryd.prog f) (h_f : ∀ (x : FuncD) (w' : World) (M' : Mem) (vs : List Value) (bs' : List (Nat × Obj)), Mem.le M M' → Rep.rd M' vs x → Own w' M' bs' → Calls Tryd.prog f (f_1 ++ #[.agg vs.toArray] ++ f_2) w' (Ret M' bs' (fun _ v => v = .bool (p_f x))))  (hO : Own w M (bs)) :
    Calls Tryd.prog 46 #[.slice b_s s.length c_s, .func (.func f) f_1 f_2] w (Ret M bs (fun M' v => v = .bool (s.any p_f))) := by
 refine ce (vs := [.slice b_s s.length c_s, .func (.func f) f_1 f_2]) (n := 9) Tryd.func46 rfl rfl rfl ?_
 have bd1 : s.length * 40 ≤ 140737488351232 := h_s.bd
 refine cq (cr (as_ hO rfl rfl (rj (et (cq (cr (mv hO rfl rfl (mv hO rfl rfl (rd' tz (oc (vs := [.slice b_s s.length c_s, .func (.func f) f_1 f_2]) tcall_57 rfl rfl (c_IndexFuncFunc s p_f h_s k_f (fun x w_ M_ v_ b_ le rd o => h_f x w_ M_ v_ b_ le rd o) hO) ?_))))))))))
 rintro _ w2 ⟨M3, _, le4, hO, rfl, rfl⟩
 refine ⟨_, rfl, ?_⟩
 have h5 := h_s.mono le4
 have hle6 := le4
 refine ry hO rfl (y_ge tz rfl rfl) (as_ hO rfl rfl (rj (et (ct (er (.inl rfl) rfl rfl ?_)))))
 exact Ret.mk hle6 hO (congrArg Value.bool (idx_any s p_f))

theorem c_IndexFuncIns {b_s : Option Addr} {c_s : Nat} (s : List Ins) {f : FuncId} {f_1 f_2 : Array Value} (p_f : Ins → Bool) {w : World} {M : Mem} {bs : List (Nat × Obj)} (h_s : RdS M b_s c_s s) (k_f : cl Tryd.prog f) (h_f : ∀ (x : Ins) (w' : World) (M' : Mem) (vs : List Value) (bs' : List (Nat × Obj)), Mem.le M M' → Rep.rd M' vs x → Own w' M' bs' → Calls Tryd.prog f (f_1 ++ #[.agg vs.toArray] ++ f_2) w' (Ret M' bs' (fun _ v => v = .bool (p_f x))))  (hO : Own w M (bs)) :
    Calls Tryd.prog 71 #[.slice b_s s.length c_s, .func (.func f) f_1 f_2] w (Ret M bs (fun M' v => v = .int .i64 (idxI s p_f))) := by
 refine ce (vs := [.slice b_s s.length c_s, .func (.func f) f_1 f_2]) (n := 19) Tryd.func71 rfl rfl rfl ?_
 have bd1 : s.length * 16 ≤ 140737488351232 := h_s.bd
 refine cq (cr (as_ hO rfl rfl (rj (et (cq (cq (cr (mv hO rfl rfl (ln ts_42 hO rfl rfl ?_)))))))))
 refine mv hO rfl rfl (rj (et (cb (cg_loop (σ := Mem × Nat) (fun qs => [(8, .int .i64 (qs.2 : Int)), (7, .int .i64 (s.length : Int)), (0, .slice b_s s.length c_s), (1, .func (.func f) f_1 f_2)]) (fun qs w => Mem.le M qs.1 ∧ (qs.2 ≤ s.length ∧ idxI (s.take qs.2) p_f = -1) ∧ Own w qs.1 (bs)) (fun qs => s.length - qs.2) (M, 0) ⟨rfl, rfl, rfl, rfl, tz⟩ ⟨mr _, (by (try dsimp only); exact ⟨Nat.zero_le _, by simp [idxI]⟩), hO⟩ ?_))))
 rintro ⟨Mi, k⟩ w2 ⟨le4, ⟨hk, hi⟩, hO⟩
 try dsimp only at *
 have h5 := h_s.mono le4
 have hle6 := le4
 refine cq (cr (ry hO rfl (yv tz rfl rfl) (rj (et (cq (cd rfl (fun h7 => ?_) (fun h7 => ?_)))))))
 ·
  have h8 : (k : Int) < (s.length : Int) := ot h7
  refine cp (et (cq (cb (cq (cr (mv hO rfl rfl (as_ hO rfl rfl (rj (et ?_)))))))))
  refine cq (cr (mv hO rfl rfl (mv hO rfl rfl (mv hO rfl rfl ?_))))
  obtain ⟨p9, rfl, _⟩ := RdS.get h5 k (by omega)
  have hO : Own w2 Mi (bs) := by assumption
  have q10 : PAt Mi (p9.add (k * 2)) (nth s k) := RdS.at h5 k (by omega)
  refine ry hO rfl (y_indexN k ts_42 tz rfl rfl (by omega)) ?_
  obtain ⟨_, at11, rfl⟩ := id q10
  refine ry hO rfl (yq [.int .i64 ((nth s k).kind), .int .i64 ((nth s k).a)] ta_41 rfl tz rfl (fun _ h j _ e => at11.cell h j e)) (rd' tz (og_callv (vs := [.agg #[.int .i64 ((nth s k).kind), .int .i64 ((nth s k).a)]]) k_f rfl rfl rfl (h_f (nth s k) _ _ _ _ hle6 rfl hO) ?_))
  rintro _ w12 ⟨M13, _, le14, hO, rfl, rfl⟩
  refine ⟨_, rfl, ?_⟩
  have h15 := h5.mono le14
  have q16 := q10.mono le14
  have at17 := at11.mono le14
  have hle18 := m_ hle6 le14
  have ch19 := m_ le4 le14
  refine rj (ez (E' := [(8, .int .i64 (k : Int)), (7, .int .i64 (s.length : Int)), (0, .slice (some p9) s.length c_s), (1, .func (.func f) f_1 f_2), (5, .int .i64 (k : Int)), (16, .bool (p_f (nth s k)))]) ⟨rfl, rfl, rfl, rfl, rfl, rfl, tz⟩ (et (cd rfl (fun h20 => ?_) (fun h20 => ?_))))
  ·
   refine cq (cr (mv hO rfl rfl (as_ hO rfl rfl (rj (et (ct (eg (ew' (ew' ?_)))))))))
   refine eg (ew' (er (.inl rfl) rfl rfl ?_))
   refine Ret.mk hle18 hO (congrArg (Value.int .i64) ?_)
   have hb := s; exact idx_hit (by omega) hi (by assumption)
  refine cp (ek' (et (cr (ry hO rfl (y_add ((k + 1 : Nat) : Int) tz rfl rfl (by rw [wd] <;> omega)) (mv hO rfl rfl (rj ?_))))))
  refine ends_round (M13, k + 1) ?_ ?_ ?_
  · exact ⟨rfl, rfl, rfl, rfl, tz⟩
  · exact ⟨ch19, (by (try dsimp only); exact ⟨by omega, idx_miss (by omega) hi (by assumption)⟩), hO⟩
  · (try dsimp only); omega
 have h21 : ¬ ((k : Int) < (s.length : Int)) := oq h7
 refine cx (eh (eh (ej (et (cq (cr (as_ hO rfl rfl (rj (et ?_)))))))))
 refine ct (er (.inl rfl) rfl rfl ?_)
 refine Ret.mk hle6 hO (congrArg (Value.int .i64) ?_)
 rw [List.take_of_length_le (by omega)] at hi; exact hi.symm

theorem c_ContainsFuncIns {b_s : Option Addr} {c_s : Nat} (s : List Ins) {f : FuncId} {f_1 f_2 : Array Value} (p_f : Ins → Bool) {w : World} {M : Mem} {bs : List (Nat × Obj)} (h_s : RdS M b_s c_s s) (k_f : cl Tryd.prog f) (h_f : ∀ (x : Ins) (w' : World) (M' : Mem) (vs : List Value) (bs' : List (Nat × Obj)), Mem.le M M' → Rep.rd M' vs x → Own w' M' bs' → Calls Tryd.prog f (f_1 ++ #[.agg vs.toArray] ++ f_2) w' (Ret M' bs' (fun _ v => v = .bool (p_f x))))  (hO : Own w M (bs)) :
    Calls Tryd.prog 60 #[.slice b_s s.length c_s, .func (.func f) f_1 f_2] w (Ret M bs (fun M' v => v = .bool (s.any p_f))) := by
 refine ce (vs := [.slice b_s s.length c_s, .func (.func f) f_1 f_2]) (n := 9) Tryd.func60 rfl rfl rfl ?_
 have bd1 : s.length * 16 ≤ 140737488351232 := h_s.bd
 refine cq (cr (as_ hO rfl rfl (rj (et (cq (cr (mv hO rfl rfl (mv hO rfl rfl (rd' tz (oc (vs := [.slice b_s s.length c_s, .func (.func f) f_1 f_2]) tcall_71 rfl rfl (c_IndexFuncIns s p_f h_s k_f (fun x w_ M_ v_ b_ le rd o => h_f x w_ M_ v_ b_ le rd o) hO) ?_))))))))))
 rintro _ w2 ⟨M3, _, le4, hO, rfl, rfl⟩
 refine ⟨_, rfl, ?_⟩
 have h5 := h_s.mono le4
 have hle6 := le4
 refine ry hO rfl (y_ge tz rfl rfl) (as_ hO rfl rfl (rj (et (ct (er (.inl rfl) rfl rfl ?_)))))
 exact Ret.mk hle6 hO (congrArg Value.bool (idx_any s p_f))

theorem c_insMay {vs_i : List Value} (i : Ins) {w : World} {M : Mem} {bs : List (Nat × Obj)} (h_i : Rep.rd M vs_i i)  (hO : Own w M (bs)) :
    Calls Tryd.prog 59 #[.agg vs_i.toArray] w (Ret M bs (fun M' v => v = .bool (insMay i))) := by
 obtain rfl := h_i
 refine ce (vs := [.agg #[.int .i64 i.kind, .int .i64 i.a]]) (n := 30) Tryd.func59 rfl rfl rfl (cq (cr (rd' tz (og_box hO rfl rfl (fun b1 w2 hO => ?_)))))
 have hO : Own _ M ([(b1, .cells #[.int .i64 i.kind, .int .i64 i.a] 41)] ++ bs) := hO
 refine as_ hO rfl rfl (rj (et (cq (cb (cq (cr (fb 0 tf_41_0 rfl hO rfl rfl (ry hO rfl (yl tl_3 tz rfl (fun _ h => ob h 0 0 rfl rfl)) (ry hO rfl (yv tz rfl rfl) ?_)))))))))
 refine mv hO rfl rfl ?_
 rcases bt (decide (i.kind < 0)) with h3 | h3
 ·
  have h4 : i.kind < 0 := ot h3
  refine ry hO rfl (ek (by rw [h3]; rfl)) (ry hO rfl (ek (by rw [h3]; rfl)) (ry hO rfl (ek (by rw [h3]; rfl)) (ry hO rfl (pt tz (by rw [h3]; rfl) rfl) (as_ hO rfl rfl (rj (et (cv rfl (cq (cr ?_)))))))))
  refine as_ hO rfl rfl (rj (et (ct (eg (ew' (er (.inl rfl) rfl rfl ?_))))))
  refine Ret.mk (mr _) (hO.forget) (congrArg Value.bool ?_)
  (first | rfl | (simp_all [insMay]; done) | omega | grind [insMay])
 have h5 : ¬ (i.kind < 0) := oq h3
 refine ry hO rfl (yf 0 tf_41_0 rfl (by rw [h3]; rfl) rfl) (ry hO rfl (yl tl_3 (by rw [h3]; rfl) rfl (fun _ h => ob h 0 0 rfl rfl)) (ry hO rfl (y_gt (by rw [h3]; rfl) rfl rfl) (ry hO rfl (pf tz (by rw [h3]; rfl) rfl) (as_ hO rfl rfl (rj (et (cd rfl (fun h6 => ?_) (fun h6 => ?_))))))))
 ·
  have h7 : 16 < i.kind := ot h6
  refine cq (cr (as_ hO rfl rfl (rj (et (ct (eg (ew' (er (.inl rfl) rfl rfl ?_))))))))
  refine Ret.mk (mr _) (hO.forget) (congrArg Value.bool ?_)
  (first | rfl | (simp_all [insMay]; done) | omega | grind [insMay])
 have h8 : ¬ (16 < i.kind) := oq h6
 refine cq (cr (fb 0 tf_41_0 rfl hO rfl rfl (ry hO rfl (yl tl_3 tz rfl (fun _ h => ob h 0 0 rfl rfl)) (ry hO rfl (ye tz rfl rfl) (as_ hO rfl rfl (rj (ez (E' := [(1, .pointer (some ⟨b1, 0, none⟩)), (2, .bool false), (12, .bool (decide (i.kind = 0)))]) ⟨rfl, rfl, rfl, tz⟩ (et (cd rfl (fun h9 => ?_) (fun h9 => ?_))))))))))
 ·
  have h10 : i.kind = 0 := ot h9
  refine cq (cr (fb 1 tf_41_1 rfl hO rfl rfl (ry hO rfl (yl tl_3 tz rfl (fun _ h => ob h 0 1 rfl rfl)) (rd' tz (oc (vs := [.int .i64 i.a]) tcall_52 rfl rfl (c_wrapIs i.a  hO) ?_)))))
  rintro _ w11 ⟨M12, _, le13, hO, rfl, rfl⟩
  refine ⟨_, rfl, ?_⟩
  have hle14 := le13
  refine as_ hO rfl rfl (rj (et (ct (eg (ew' (er (.inl rfl) rfl rfl ?_))))))
  refine Ret.mk hle14 (hO.forget) (congrArg Value.bool ?_)
  (first | rfl | (simp_all [insMay]; done) | omega | grind [insMay])
 have h15 : ¬ (i.kind = 0) := oq h9
 refine cp (ek' (et (cq ?_)))
 rcases bt (decide (0 ≤ i.a)) with h18 | h18
 ·
  have h19 : 0 ≤ i.a := ot h18
  obtain ⟨w20, hO, ew21⟩ : ∃ w', Own w' M ([(b1, .cells #[.int .i64 i.kind, .int .i64 i.a] 41)] ++ bs) ∧ { w2 with drawn := w2.drawn + 1 } = w' := ⟨_, hO.drawn _, rfl⟩
  refine cw (S := fun w => Own w M ([(b1, .cells #[.int .i64 i.kind, .int .i64 i.a] 41)] ++ bs)) (.take 0 (.take 1 (.take 2 (.take 3 (.take 4 (.take 5 (.take 6 (.take 7 (.one 8 (.take 9 (.take 10 (.take 11 .done)))))))))))) 12 tm (by kernel_rfl) ew21 hO (hfb 1 tf_41_1 rfl rfl rfl (fun _ _ _ h => h) rfl (gy rfl rfl (fun _ _ _ h => h) (yl tl_3 tz rfl (fun _ h => ob h 0 1 rfl rfl)) (gy rfl rfl (fun _ _ _ h => h) (y_ge tz rfl rfl) (hm rfl rfl (fun _ _ _ h => h) rfl (gy rfl rfl (fun _ _ _ h => h) (yf 1 tf_41_1 rfl (by rw [h18]; rfl) rfl) (gy rfl rfl (fun _ _ _ h => h) (yl tl_3 (by rw [h18]; rfl) rfl (fun _ h => ob h 0 1 rfl rfl)) (gy rfl rfl (fun _ _ _ h => h) (yf 0 tf_41_0 rfl (by rw [h18]; rfl) rfl) (gy rfl rfl (fun _ _ _ h => h) (yl tl_3 (by rw [h18]; rfl) rfl (fun _ h => ob h 0 0 rfl rfl)) (hn' rfl (by rw [h18]; rfl) (oc (vs := [.int .i64 i.kind]) tcall_70 rfl rfl (c_below i.kind  hO) ?_))))))))))
  rintro _ w22 ⟨M23, _, le24, hO, rfl, rfl⟩
  refine ⟨_, rfl, ?_⟩
  have hO := hO.less le24
  refine kg_s hO (gy rfl rfl (fun _ _ _ h => h) (yv (by rw [h18]; rfl) rfl rfl) (gy rfl rfl (fun _ _ _ h => h) (pt tz (by rw [h18]; rfl) rfl) (ha rfl rfl (fun _ _ _ h => h) rfl (gd (ez (E' := [(2, .bool (decide (i.a < (belowI i.kind))))]) ⟨rfl, tz⟩ (et (ct (er (.inl rfl) rfl rfl ?_))))))))
  refine Ret.mk (mr _) (hO.forget) (congrArg Value.bool ?_)
  (first | rfl | (simp_all [insMay]; done) | omega | grind [insMay])
 have h25 : ¬ (0 ≤ i.a) := oq h18
 obtain ⟨w26, hO, ew27⟩ : ∃ w', Own w' M ([(b1, .cells #[.int .i64 i.kind, .int .i64 i.a] 41)] ++ bs) ∧ { w2 with drawn := w2.drawn + 1 } = w' := ⟨_, hO.drawn _, rfl⟩
 refine cw (S := fun w => Own w M ([(b1, .cells #[.int .i64 i.kind, .int .i64 i.a] 41)] ++ bs)) (.take 0 (.take 1 (.take 2 (.take 3 (.take 4 (.take 5 (.take 6 (.take 7 (.take 8 (.take 9 (.take 10 (.take 11 .done)))))))))))) 12 tm (by kernel_rfl) ew27 hO (hfb 1 tf_41_1 rfl rfl rfl (fun _ _ _ h => h) rfl (gy rfl rfl (fun _ _ _ h => h) (yl tl_3 tz rfl (fun _ h => ob h 0 1 rfl rfl)) (gy rfl rfl (fun _ _ _ h => h) (y_ge tz rfl rfl) (hm rfl rfl (fun _ _ _ h => h) rfl (gy rfl rfl (fun _ _ _ h => h) (ek (by rw [h18]; rfl)) (gy rfl rfl (fun _ _ _ h => h) (ek (by rw [h18]; rfl)) (gy rfl rfl (fun _ _ _ h => h) (ek (by rw [h18]; rfl)) (gy rfl rfl (fun _ _ _ h => h) (ek (by rw [h18]; rfl)) (gy rfl rfl (fun _ _ _ h => h) (ek (by rw [h18]; rfl)) ?_)))))))))
 refine gy rfl rfl (fun _ _ _ h => h) (ek (by rw [h18]; rfl)) (gy rfl rfl (fun _ _ _ h => h) (pf tz (by rw [h18]; rfl) rfl) (ha rfl rfl (fun _ _ _ h => h) rfl (gd (ez (E' := [(2, .bool false)]) ⟨rfl, tz⟩ (et (ct (er (.inl rfl) rfl rfl ?_)))))))
 refine Ret.mk (mr _) (hO.forget) (congrArg Value.bool ?_)
 (first | rfl | (simp_all [insMay]; done) | omega | grind [insMay])

theorem c_flowBad {vs_i : List Value} (i : Ins) {w : World} {M : Mem} {bs : List (Nat × Obj)} (h_i : Rep.rd M vs_i i)  (hO : Own w M (bs)) :
    Calls Tryd.prog 72 #[.agg vs_i.toArray] w (Ret M bs (fun M' v => v = .bool (!(insMay i)))) := by
 obtain rfl := h_i
 refine ce (vs := [.agg #[.int .i64 i.kind, .int .i64 i.a]]) (n := 6) Tryd.func72 rfl rfl rfl (cq (cr (rd' tz (og_box hO rfl rfl (fun b1 w2 hO => ?_)))))
 have hO : Own _ M ([(b1, .cells #[.int .i64 i.kind, .int .i64 i.a] 41)] ++ bs) := hO
 refine as_ hO rfl rfl (rj (et (cq (cr (ry hO rfl (yq [.int .i64 i.kind, .int .i64 i.a] ta_41 rfl tz rfl (fun _ h => Own.cellsB h 0 0 rfl (by intro j v e; exact rowCells (vs := [.int .i64 i.kind, .int .i64 i.a]) rfl e))) (rd' tz (oc (vs := [.agg #[.int .i64 i.kind, .int .i64 i.a]]) tcall_59 rfl rfl (c_insMay (vs_i := [.int .i64 i.kind, .int .i64 i.a]) i rfl hO) ?_)))))))
 rintro _ w3 ⟨M4, _, le5, hO, rfl, rfl⟩
 refine ⟨_, rfl, ?_⟩
 have hle6 := le5
 refine ry hO rfl (yt tz rfl) (as_ hO rfl rfl (rj (et (ct (er (.inl rfl) rfl rfl ?_)))))
 refine Ret.mk hle6 (hO.forget) (congrArg Value.bool ?_)
 (first | rfl | (simp_all []; done) | omega | grind [])

theorem c_flowMay {p_f : Addr} (f : FuncD) {w : World} {M : Mem} {bs : List (Nat × Obj)} (h_f : PAt M p_f f)  (hO : Own w M (bs)) :
    Calls Tryd.prog 61 #[.pointer (some p_f)] w (Ret M bs (fun M' v => v = .bool (codeMay f.code))) := by
 refine ce (vs := [.pointer (some p_f)]) (n := 27) Tryd.func61 rfl rfl rfl (cq (cr (as_ hO rfl rfl (rj (et (cq (cr (as_ hO rfl rfl (rj ?_)))))))))
 refine et (cq (cr (mv hO rfl rfl (nc hO rfl rfl (fa tf_44_2 hO rfl rfl ?_)))))
 obtain ⟨_, at4, b1, c2, rfl, s3⟩ := id h_f
 refine lc tl_42 at4 2 rfl hO rfl rfl ?_
 have bd5 : f.code.length * 16 ≤ 140737488351232 := s3.bd
 refine ln ts_42 hO rfl rfl (ry hO rfl (y_ge tz rfl rfl) (mv hO rfl rfl ?_))
 rcases bt (decide (1 ≤ (f.code.length : Int))) with h6 | h6
 ·
  have h7 : 1 ≤ (f.code.length : Int) := ot h6
  refine ry hO rfl (ym (by rw [h6]; rfl) rfl) (ry hO rfl (yn (by rw [h6]; rfl) rfl) (ry hO rfl (ya tf_44_2 (by rw [h6]; rfl) rfl) (ry hO rfl (yl tl_42 (by rw [h6]; rfl) rfl (fun _ h => at4.cell h 2 rfl)) (ry hO rfl (y_len ts_42 (by rw [h6]; rfl) rfl) (ry hO rfl (y_le (by rw [h6]; rfl) rfl rfl) (ry hO rfl (pt tz (by rw [h6]; rfl) rfl) (mv hO rfl rfl ?_)))))))
  rcases bt (decide ((f.code.length : Int) ≤ 64)) with h8 | h8
  ·
   have h9 : (f.code.length : Int) ≤ 64 := ot h8
   refine ry hO rfl (ym (by rw [h8]; rfl) rfl) (ry hO rfl (yn (by rw [h8]; rfl) rfl) (ry hO rfl (ya tf_44_2 (by rw [h8]; rfl) rfl) (ry hO rfl (yl tl_42 (by rw [h8]; rfl) rfl (fun _ h => at4.cell h 2 rfl)) (ry hO rfl (ym (by rw [h8]; rfl) rfl) (rd' (by rw [h8]; rfl) (oc (vs := [.slice b1 f.code.length c2, .func (.func 72) #[] #[]]) tcall_60 rfl rfl (c_ContainsFuncIns f.code (fun x => (!(insMay x))) s3 tcall_72 (fun x w_ M_ v_ b_ le rd o => c_flowBad x rd o) hO) ?_))))))
   rintro _ w10 ⟨M11, _, le12, hO, rfl, rfl⟩
   refine ⟨_, rfl, ?_⟩
   have h13 := h_f.mono le12
   have at14 := at4.mono le12
   have s15 := s3.mono le12
   have hle16 := le12
   refine ry hO rfl (yt (by rw [h8]; rfl) rfl) (ry hO rfl (pt tz (by rw [h8]; rfl) rfl) (as_ hO rfl rfl (rj (ez (E' := [(2, .bool (!(f.code.any (fun x => (!(insMay x))))))]) ⟨rfl, tz⟩ (et (ct (er (.inl rfl) rfl rfl ?_)))))))
   refine Ret.mk hle16 hO (congrArg Value.bool ?_)
   (first | rfl | (simp_all [codeMay]; done) | omega | grind [codeMay])
  have h17 : ¬ ((f.code.length : Int) ≤ 64) := oq h8
  refine ry hO rfl (ek (by rw [h8]; rfl)) (ry hO rfl (ek (by rw [h8]; rfl)) (ry hO rfl (ek (by rw [h8]; rfl)) (ry hO rfl (ek (by rw [h8]; rfl)) (ry hO rfl (ek (by rw [h8]; rfl)) (ry hO rfl (ek (by rw [h8]; rfl)) (ry hO rfl (ek (by rw [h8]; rfl)) (ry hO rfl (pf tz (by rw [h8]; rfl) rfl) (as_ hO rfl rfl (rj ?_)))))))))
  refine ez (E' := [(2, .bool false)]) ⟨rfl, tz⟩ (et (ct (er (.inl rfl) rfl rfl ?_)))
  refine Ret.mk (mr _) hO (congrArg Value.bool ?_)
  (first | rfl | (simp_all [codeMay]; done) | omega | grind [codeMay])
 have h18 : ¬ (1 ≤ (f.code.length : Int)) := oq h6
 refine ry hO rfl (ek (by rw [h6]; rfl)) (ry hO rfl (ek (by rw [h6]; rfl)) (ry hO rfl (ek (by rw [h6]; rfl)) (ry hO rfl (ek (by rw [h6]; rfl)) (ry hO rfl (ek (by rw [h6]; rfl)) (ry hO rfl (ek (by rw [h6]; rfl)) (ry hO rfl (pf tz (by rw [h6]; rfl) rfl) (mv hO rfl rfl (ry hO rfl (ek rfl) (ry hO rfl (ek rfl) ?_)))))))))
 refine ry hO rfl (ek rfl) (ry hO rfl (ek rfl) (ry hO rfl (ek rfl) (ry hO rfl (ek rfl) (ry hO rfl (ek rfl) (ry hO rfl (pf tz rfl rfl) (as_ hO rfl rfl (rj (ez (E' := [(2, .bool false)]) ⟨rfl, tz⟩ (et ?_)))))))))
 refine ct (er (.inl rfl) rfl rfl ?_)
 refine Ret.mk (mr _) hO (congrArg Value.bool ?_)
 (first | rfl | (simp_all [codeMay]; done) | omega | grind [codeMay])

theorem c_packBad {vs_i : List Value} (i : Ins) {w : World} {M : Mem} {bs : List (Nat × Obj)} (h_i : Rep.rd M vs_i i)  (hO : Own w M (bs)) :
    Calls Tryd.prog 58 #[.agg vs_i.toArray] w (Ret M bs (fun M' v => v = .bool (!(insMay i)))) := by
 obtain rfl := h_i
 refine ce (vs := [.agg #[.int .i64 i.kind, .int .i64 i.a]]) (n := 6) Tryd.func58 rfl rfl rfl (cq (cr (rd' tz (og_box hO rfl rfl (fun b1 w2 hO => ?_)))))
 have hO : Own _ M ([(b1, .cells #[.int .i64 i.kind, .int .i64 i.a] 41)] ++ bs) := hO
 refine as_ hO rfl rfl (rj (et (cq (cr (ry hO rfl (yq [.int .i64 i.kind, .int .i64 i.a] ta_41 rfl tz rfl (fun _ h => Own.cellsB h 0 0 rfl (by intro j v e; exact rowCells (vs := [.int .i64 i.kind, .int .i64 i.a]) rfl e))) (rd' tz (oc (vs := [.agg #[.int .i64 i.kind, .int .i64 i.a]]) tcall_59 rfl rfl (c_insMay (vs_i := [.int .i64 i.kind, .int .i64 i.a]) i rfl hO) ?_)))))))
 rintro _ w3 ⟨M4, _, le5, hO, rfl, rfl⟩
 refine ⟨_, rfl, ?_⟩
 have hle6 := le5
 refine ry hO rfl (yt tz rfl) (as_ hO rfl rfl (rj (et (ct (er (.inl rfl) rfl rfl ?_)))))
 refine Ret.mk hle6 (hO.forget) (congrArg Value.bool ?_)
 (first | rfl | (simp_all []; done) | omega | grind [])

theorem c_packNot {vs_f : List Value} (f : FuncD) {w : World} {M : Mem} {bs : List (Nat × Obj)} (h_f : Rep.rd M vs_f f)  (hO : Own w M (bs)) :
    Calls Tryd.prog 47 #[.agg vs_f.toArray] w (Ret M bs (fun M' v => v = .bool (!(funcMay f)))) := by
 obtain ⟨b1, c2, rfl, s3⟩ := h_f
 refine ce (vs := [.agg #[.int .i64 f.args, .int .i64 f.locals, .slice b1 f.code.length c2]]) (n := 42) Tryd.func47 rfl rfl rfl (cq (cr (rd' tz (og_box hO rfl rfl (fun b4 w5 hO => ?_)))))
 have hO : Own _ M ([(b4, .cells #[.int .i64 f.args, .int .i64 f.locals, .slice b1 f.code.length c2] 44)] ++ bs) := hO
 refine as_ hO rfl rfl (rj (et (cq (cr (as_ hO rfl rfl (rj (et (cq (cr ?_)))))))))
 refine fb 0 tf_44_0 rfl hO rfl rfl (ry hO rfl (yl tl_3 tz rfl (fun _ h => ob h 0 0 rfl rfl)) (ry hO rfl (yv tz rfl rfl) (mv hO rfl rfl ?_)))
 rcases bt (decide (f.args < 0)) with h6 | h6
 ·
  have h7 : f.args < 0 := ot h6
  refine ry hO rfl (ek (by rw [h6]; rfl)) (ry hO rfl (ek (by rw [h6]; rfl)) (ry hO rfl (ek (by rw [h6]; rfl)) (ry hO rfl (pt tz (by rw [h6]; rfl) rfl) (mv hO rfl rfl (ry hO rfl (ek rfl) (ry hO rfl (ek rfl) (ry hO rfl (ek rfl) (ry hO rfl (ek rfl) (ry hO rfl (ek rfl) ?_)))))))))
  refine ry hO rfl (pt tz rfl rfl) (mv hO rfl rfl (ry hO rfl (ek rfl) (ry hO rfl (ek rfl) (ry hO rfl (ek rfl) (ry hO rfl (pt tz rfl rfl) (mv hO rfl rfl (ry hO rfl (ek rfl) (ry hO rfl (ek rfl) (ry hO rfl (ek rfl) ?_)))))))))
  refine ry hO rfl (ek rfl) (ry hO rfl (pt tz rfl rfl) (mv hO rfl rfl (ry hO rfl (ek rfl) (ry hO rfl (ek rfl) (ry hO rfl (ek rfl) (ry hO rfl (ek rfl) (ry hO rfl (pt tz rfl rfl) (mv hO rfl rfl (ry hO rfl (ek rfl) ?_)))))))))
  refine ry hO rfl (ek rfl) (ry hO rfl (ek rfl) (ry hO rfl (ek rfl) (ry hO rfl (pt tz rfl rfl) (as_ hO rfl rfl (rj (ez (E' := [(2, .bool true)]) ⟨rfl, tz⟩ (et (ct (er (.inl rfl) rfl rfl ?_)))))))))
  refine Ret.mk (mr _) (hO.forget) (congrArg Value.bool ?_)
  (first | rfl | (simp_all [funcMay, codeMay]; done) | omega | grind [funcMay, codeMay])
 have h8 : ¬ (f.args < 0) := oq h6
 refine ry hO rfl (yf 0 tf_44_0 rfl (by rw [h6]; rfl) rfl) (ry hO rfl (yl tl_3 (by rw [h6]; rfl) rfl (fun _ h => ob h 0 0 rfl rfl)) (ry hO rfl (y_gt (by rw [h6]; rfl) rfl rfl) (ry hO rfl (pf tz (by rw [h6]; rfl) rfl) (mv hO rfl rfl ?_))))
 rcases bt (decide (4 < f.args)) with h9 | h9
 ·
  have h10 : 4 < f.args := ot h9
  refine ry hO rfl (ek (by rw [h9]; rfl)) (ry hO rfl (ek (by rw [h9]; rfl)) (ry hO rfl (ek (by rw [h9]; rfl)) (ry hO rfl (ek (by rw [h9]; rfl)) (ry hO rfl (ek (by rw [h9]; rfl)) (ry hO rfl (pt tz (by rw [h9]; rfl) rfl) (mv hO rfl rfl (ry hO rfl (ek rfl) (ry hO rfl (ek rfl) (ry hO rfl (ek rfl) ?_)))))))))
  refine ry hO rfl (pt tz rfl rfl) (mv hO rfl rfl (ry hO rfl (ek rfl) (ry hO rfl (ek rfl) (ry hO rfl (ek rfl) (ry hO rfl (ek rfl) (ry hO rfl (pt tz rfl rfl) (mv hO rfl rfl (ry hO rfl (ek rfl) (ry hO rfl (ek rfl) ?_)))))))))
  refine ry hO rfl (ek rfl) (ry hO rfl (ek rfl) (ry hO rfl (pt tz rfl rfl) (mv hO rfl rfl (ry hO rfl (ek rfl) (ry hO rfl (ek rfl) (ry hO rfl (ek rfl) (ry hO rfl (ek rfl) (ry hO rfl (pt tz rfl rfl) (as_ hO rfl rfl ?_)))))))))
  refine rj (ez (E' := [(2, .bool true)]) ⟨rfl, tz⟩ (et (ct (er (.inl rfl) rfl rfl ?_))))
  refine Ret.mk (mr _) (hO.forget) (congrArg Value.bool ?_)
  (first | rfl | (simp_all [funcMay, codeMay]; done) | omega | grind [funcMay, codeMay])
 have h11 : ¬ (4 < f.args) := oq h9
 refine ry hO rfl (yf 1 tf_44_1 rfl (by rw [h9]; rfl) rfl) (ry hO rfl (yl tl_3 (by rw [h9]; rfl) rfl (fun _ h => ob h 0 1 rfl rfl)) (ry hO rfl (yf 0 tf_44_0 rfl (by rw [h9]; rfl) rfl) (ry hO rfl (yl tl_3 (by rw [h9]; rfl) rfl (fun _ h => ob h 0 0 rfl rfl)) (ry hO rfl (yv (by rw [h9]; rfl) rfl rfl) (ry hO rfl (pf tz (by rw [h9]; rfl) rfl) (mv hO rfl rfl ?_))))))
 rcases bt (decide (f.locals < f.args)) with h12 | h12
 ·
  have h13 : f.locals < f.args := ot h12
  refine ry hO rfl (ek (by rw [h12]; rfl)) (ry hO rfl (ek (by rw [h12]; rfl)) (ry hO rfl (ek (by rw [h12]; rfl)) (ry hO rfl (pt tz (by rw [h12]; rfl) rfl) (mv hO rfl rfl (ry hO rfl (ek rfl) (ry hO rfl (ek rfl) (ry hO rfl (ek rfl) (ry hO rfl (ek rfl) (ry hO rfl (pt tz rfl rfl) ?_)))))))))
  refine mv hO rfl rfl (ry hO rfl (ek rfl) (ry hO rfl (ek rfl) (ry hO rfl (ek rfl) (ry hO rfl (ek rfl) (ry hO rfl (pt tz rfl rfl) (mv hO rfl rfl (ry hO rfl (ek rfl) (ry hO rfl (ek rfl) (ry hO rfl (ek rfl) ?_)))))))))
  refine ry hO rfl (ek rfl) (ry hO rfl (pt tz rfl rfl) (as_ hO rfl rfl (rj (ez (E' := [(2, .bool true)]) ⟨rfl, tz⟩ (et (ct (er (.inl rfl) rfl rfl ?_)))))))
  refine Ret.mk (mr _) (hO.forget) (congrArg Value.bool ?_)
  (first | rfl | (simp_all [funcMay, codeMay]; done) | omega | grind [funcMay, codeMay])
 have h14 : ¬ (f.locals < f.args) := oq h12
 refine ry hO rfl (yf 1 tf_44_1 rfl (by rw [h12]; rfl) rfl) (ry hO rfl (yl tl_3 (by rw [h12]; rfl) rfl (fun _ h => ob h 0 1 rfl rfl)) (ry hO rfl (y_gt (by rw [h12]; rfl) rfl rfl) (ry hO rfl (pf tz (by rw [h12]; rfl) rfl) (mv hO rfl rfl ?_))))
 rcases bt (decide (8 < f.locals)) with h15 | h15
 ·
  have h16 : 8 < f.locals := ot h15
  refine ry hO rfl (ek (by rw [h15]; rfl)) (ry hO rfl (ek (by rw [h15]; rfl)) (ry hO rfl (ek (by rw [h15]; rfl)) (ry hO rfl (ek (by rw [h15]; rfl)) (ry hO rfl (pt tz (by rw [h15]; rfl) rfl) (mv hO rfl rfl (ry hO rfl (ek rfl) (ry hO rfl (ek rfl) (ry hO rfl (ek rfl) (ry hO rfl (ek rfl) ?_)))))))))
  refine ry hO rfl (pt tz rfl rfl) (mv hO rfl rfl (ry hO rfl (ek rfl) (ry hO rfl (ek rfl) (ry hO rfl (ek rfl) (ry hO rfl (ek rfl) (ry hO rfl (pt tz rfl rfl) (as_ hO rfl rfl (rj (ez (E' := [(2, .bool true)]) ⟨rfl, tz⟩ ?_)))))))))
  refine et (ct (er (.inl rfl) rfl rfl ?_))
  refine Ret.mk (mr _) (hO.forget) (congrArg Value.bool ?_)
  (first | rfl | (simp_all [funcMay, codeMay]; done) | omega | grind [funcMay, codeMay])
 have h17 : ¬ (8 < f.locals) := oq h15
 refine ry hO rfl (yf 2 tf_44_2 rfl (by rw [h15]; rfl) rfl) (ry hO rfl (yl tl_42 (by rw [h15]; rfl) rfl (fun _ h => ob h 0 2 rfl rfl)) ?_)
 have bd18 : f.code.length * 16 ≤ 140737488351232 := s3.bd
 refine ry hO rfl (y_len ts_42 (by rw [h15]; rfl) rfl) (ry hO rfl (yv (by rw [h15]; rfl) rfl rfl) (ry hO rfl (pf tz (by rw [h15]; rfl) rfl) (mv hO rfl rfl ?_)))
 rcases bt (decide ((f.code.length : Int) < 1)) with h19 | h19
 ·
  have h20 : (f.code.length : Int) < 1 := ot h19
  refine ry hO rfl (ek (by rw [h19]; rfl)) (ry hO rfl (ek (by rw [h19]; rfl)) (ry hO rfl (ek (by rw [h19]; rfl)) (ry hO rfl (ek (by rw [h19]; rfl)) (ry hO rfl (pt tz (by rw [h19]; rfl) rfl) (mv hO rfl rfl (ry hO rfl (ek rfl) (ry hO rfl (ek rfl) (ry hO rfl (ek rfl) (ry hO rfl (ek rfl) ?_)))))))))
  refine ry hO rfl (pt tz rfl rfl) (as_ hO rfl rfl (rj (ez (E' := [(2, .bool true)]) ⟨rfl, tz⟩ (et (ct (er (.inl rfl) rfl rfl ?_))))))
  refine Ret.mk (mr _) (hO.forget) (congrArg Value.bool ?_)
  (first | rfl | (simp_all [funcMay, codeMay]; done) | omega | grind [funcMay, codeMay])
 have h21 : ¬ ((f.code.length : Int) < 1) := oq h19
 refine ry hO rfl (yf 2 tf_44_2 rfl (by rw [h19]; rfl) rfl) (ry hO rfl (yl tl_42 (by rw [h19]; rfl) rfl (fun _ h => ob h 0 2 rfl rfl)) (ry hO rfl (y_len ts_42 (by rw [h19]; rfl) rfl) (ry hO rfl (y_gt (by rw [h19]; rfl) rfl rfl) (ry hO rfl (pf tz (by rw [h19]; rfl) rfl) (mv hO rfl rfl ?_)))))
 rcases bt (decide (64 < (f.code.length : Int))) with h22 | h22
 ·
  have h23 : 64 < (f.code.length : Int) := ot h22
  refine ry hO rfl (ek (by rw [h22]; rfl)) (ry hO rfl (ek (by rw [h22]; rfl)) (ry hO rfl (ek (by rw [h22]; rfl)) (ry hO rfl (ek (by rw [h22]; rfl)) (ry hO rfl (pt tz (by rw [h22]; rfl) rfl) (as_ hO rfl rfl (rj (ez (E' := [(2, .bool true)]) ⟨rfl, tz⟩ (et (ct ?_)))))))))
  refine er (.inl rfl) rfl rfl ?_
  refine Ret.mk (mr _) (hO.forget) (congrArg Value.bool ?_)
  (first | rfl | (simp_all [funcMay, codeMay]; done) | omega | grind [funcMay, codeMay])
 have h24 : ¬ (64 < (f.code.length : Int)) := oq h22
 refine ry hO rfl (yf 2 tf_44_2 rfl (by rw [h22]; rfl) rfl) (ry hO rfl (yl tl_42 (by rw [h22]; rfl) rfl (fun _ h => ob h 0 2 rfl rfl)) (ry hO rfl (ym (by rw [h22]; rfl) rfl) (rd' (by rw [h22]; rfl) (oc (vs := [.slice b1 f.code.length c2, .func (.func 58) #[] #[]]) tcall_60 rfl rfl (c_ContainsFuncIns f.code (fun x => (!(insMay x))) s3 tcall_58 (fun x w_ M_ v_ b_ le rd o => c_packBad x rd o) hO) ?_))))
 rintro _ w25 ⟨M26, _, le27, hO, rfl, rfl⟩
 refine ⟨_, rfl, ?_⟩
 have s28 := s3.mono le27
 have hle29 := le27
 refine ry hO rfl (pf tz (by rw [h22]; rfl) rfl) (as_ hO rfl rfl (rj (ez (E' := [(2, .bool (f.code.any (fun x => (!(insMay x)))))]) ⟨rfl, tz⟩ (et (ct (er (.inl rfl) rfl rfl ?_))))))
 refine Ret.mk hle29 (hO.forget) (congrArg Value.bool ?_)
 (first | rfl | (simp_all [funcMay, codeMay]; done) | omega | grind [funcMay, codeMay])

theorem c_packMay {p_p : Addr} (p : Prog) {w : World} {M : Mem} {bs : List (Nat × Obj)} (h_p : PAt M p_p p)  (hO : Own w M (bs)) :
    Calls Tryd.prog 29 #[.pointer (some p_p)] w (Ret M bs (fun M' v => v = .bool (packMay p))) := by
 refine ce (vs := [.pointer (some p_p)]) (n := 25) Tryd.func29 rfl rfl rfl (cq (cr (as_ hO rfl rfl (rj (et (cq (cr (mv hO rfl rfl (nc hO rfl rfl ?_)))))))))
 refine fa tf_24_0 hO rfl rfl ?_
 obtain ⟨_, at4, b1, c2, rfl, s3⟩ := id h_p
 refine lc tl_22 at4 0 rfl hO rfl rfl ?_
 have bd5 : p.funcs.length * 40 ≤ 140737488351232 := s3.bd
 refine ln ts_22 hO rfl rfl (ry hO rfl (y_ge tz rfl rfl) (mv hO rfl rfl ?_))
 rcases bt (decide (1 ≤ (p.funcs.length : Int))) with h6 | h6
 ·
  have h7 : 1 ≤ (p.funcs.length : Int) := ot h6
  refine ry hO rfl (ym (by rw [h6]; rfl) rfl) (ry hO rfl (yn (by rw [h6]; rfl) rfl) (ry hO rfl (ya tf_24_0 (by rw [h6]; rfl) rfl) (ry hO rfl (yl tl_22 (by rw [h6]; rfl) rfl (fun _ h => at4.cell h 0 rfl)) (ry hO rfl (y_len ts_22 (by rw [h6]; rfl) rfl) (ry hO rfl (y_le (by rw [h6]; rfl) rfl rfl) (ry hO rfl (pt tz (by rw [h6]; rfl) rfl) (mv hO rfl rfl ?_)))))))
  rcases bt (decide ((p.funcs.length : Int) ≤ 8)) with h8 | h8
  ·
   have h9 : (p.funcs.length : Int) ≤ 8 := ot h8
   refine ry hO rfl (ym (by rw [h8]; rfl) rfl) (ry hO rfl (yn (by rw [h8]; rfl) rfl) (ry hO rfl (ya tf_24_0 (by rw [h8]; rfl) rfl) (ry hO rfl (yl tl_22 (by rw [h8]; rfl) rfl (fun _ h => at4.cell h 0 rfl)) (rd' (by rw [h8]; rfl) (oc (vs := [.slice b1 p.funcs.length c2, .func (.func 47) #[] #[]]) tcall_46 rfl rfl (c_ContainsFuncFunc p.funcs (fun x => (!(funcMay x))) s3 tcall_47 (fun x w_ M_ v_ b_ le rd o => c_packNot x rd o) hO) ?_)))))
   rintro _ w10 ⟨M11, _, le12, hO, rfl, rfl⟩
   refine ⟨_, rfl, ?_⟩
   have h13 := h_p.mono le12
   have at14 := at4.mono le12
   have s15 := s3.mono le12
   have hle16 := le12
   refine ry hO rfl (yt (by rw [h8]; rfl) rfl) (ry hO rfl (pt tz (by rw [h8]; rfl) rfl) (as_ hO rfl rfl (rj (ez (E' := [(2, .bool (!(p.funcs.any (fun x => (!(funcMay x))))))]) ⟨rfl, tz⟩ (et (ct (er (.inl rfl) rfl rfl ?_)))))))
   refine Ret.mk hle16 hO (congrArg Value.bool ?_)
   (first | rfl | (simp_all [packMay]; done) | omega | grind [packMay])
  have h17 : ¬ ((p.funcs.length : Int) ≤ 8) := oq h8
  refine ry hO rfl (ek (by rw [h8]; rfl)) (ry hO rfl (ek (by rw [h8]; rfl)) (ry hO rfl (ek (by rw [h8]; rfl)) (ry hO rfl (ek (by rw [h8]; rfl)) (ry hO rfl (ek (by rw [h8]; rfl)) (ry hO rfl (ek (by rw [h8]; rfl)) (ry hO rfl (pf tz (by rw [h8]; rfl) rfl) (as_ hO rfl rfl (rj (ez (E' := [(2, .bool false)]) ⟨rfl, tz⟩ ?_)))))))))
  refine et (ct (er (.inl rfl) rfl rfl ?_))
  refine Ret.mk (mr _) hO (congrArg Value.bool ?_)
  (first | rfl | (simp_all [packMay]; done) | omega | grind [packMay])
 have h18 : ¬ (1 ≤ (p.funcs.length : Int)) := oq h6
 refine ry hO rfl (ek (by rw [h6]; rfl)) (ry hO rfl (ek (by rw [h6]; rfl)) (ry hO rfl (ek (by rw [h6]; rfl)) (ry hO rfl (ek (by rw [h6]; rfl)) (ry hO rfl (ek (by rw [h6]; rfl)) (ry hO rfl (ek (by rw [h6]; rfl)) (ry hO rfl (pf tz (by rw [h6]; rfl) rfl) (mv hO rfl rfl (ry hO rfl (ek rfl) (ry hO rfl (ek rfl) ?_)))))))))
 refine ry hO rfl (ek rfl) (ry hO rfl (ek rfl) (ry hO rfl (ek rfl) (ry hO rfl (ek rfl) (ry hO rfl (pf tz rfl rfl) (as_ hO rfl rfl (rj (ez (E' := [(2, .bool false)]) ⟨rfl, tz⟩ (et (ct ?_)))))))))
 refine er (.inl rfl) rfl rfl ?_
 refine Ret.mk (mr _) hO (congrArg Value.bool ?_)
 (first | rfl | (simp_all [packMay]; done) | omega | grind [packMay])

theorem c_IndexFuncInt {b_s : Option Addr} {c_s : Nat} (s : List Int) {f : FuncId} {f_1 f_2 : Array Value} (p_f : Int → Bool) {w : World} {M : Mem} {bs : List (Nat × Obj)} (h_s : RdS M b_s c_s s) (k_f : cl Tryd.prog f) (h_f : ∀ (x : Int) (w' : World) (M' : Mem) (vs : List Value) (bs' : List (Nat × Obj)), Mem.le M M' → Rep.rd M' vs x → Own w' M' bs' → Calls Tryd.prog f (f_1 ++ #[.int .i64 x] ++ f_2) w' (Ret M' bs' (fun _ v => v = .bool (p_f x))))  (hO : Own w M (bs)) :
    Calls Tryd.prog 81 #[.slice b_s s.length c_s, .func (.func f) f_1 f_2] w (Ret M bs (fun M' v => v = .int .i64 (idxI s p_f))) := by
 refine ce (vs := [.slice b_s s.length c_s, .func (.func f) f_1 f_2]) (n := 19) Tryd.func81 rfl rfl rfl ?_
 have bd1 : s.length * 8 ≤ 140737488351232 := h_s.bd
 refine cq (cr (as_ hO rfl rfl (rj (et (cq (cq (cr (mv hO rfl rfl (ln ts_36 hO rfl rfl ?_)))))))))
 refine mv hO rfl rfl (rj (et (cb (cg_loop (σ := Mem × Nat) (fun qs => [(8, .int .i64 (qs.2 : Int)), (7, .int .i64 (s.length : Int)), (0, .slice b_s s.length c_s), (1, .func (.func f) f_1 f_2)]) (fun qs w => Mem.le M qs.1 ∧ (qs.2 ≤ s.length ∧ idxI (s.take qs.2) p_f = -1) ∧ Own w qs.1 (bs)) (fun qs => s.length - qs.2) (M, 0) ⟨rfl, rfl, rfl, rfl, tz⟩ ⟨mr _, (by (try dsimp only); exact ⟨Nat.zero_le _, by simp [idxI]⟩), hO⟩ ?_))))
 rintro ⟨Mi, k⟩ w2 ⟨le4, ⟨hk, hi⟩, hO⟩
 try dsimp only at *
 have h5 := h_s.mono le4
 have hle6 := le4
 refine cq (cr (ry hO rfl (yv tz rfl rfl) (rj (et (cq (cd rfl (fun h7 => ?_) (fun h7 => ?_)))))))
 ·
  have h8 : (k : Int) < (s.length : Int) := ot h7
  refine cp (et (cq (cb (cq (cr (mv hO rfl rfl (as_ hO rfl rfl (rj (et ?_)))))))))
  refine cq (cr (mv hO rfl rfl (mv hO rfl rfl (mv hO rfl rfl ?_))))
  obtain ⟨p9, rfl, _⟩ := RdS.get h5 k (by omega)
  have hO : Own w2 Mi (bs) := by assumption
  have q10 : PAt Mi (p9.add (k * 1)) (nth s k) := RdS.at h5 k (by omega)
  refine ry hO rfl (y_indexN k ts_36 tz rfl rfl (by omega)) ?_
  obtain ⟨_, at11, rfl⟩ := id q10
  refine ry hO rfl (yl tl_3 tz rfl (fun _ h => at11.cell0 h rfl)) (rd' tz (og_callv (vs := [.int .i64 (nth s k)]) k_f rfl rfl rfl (h_f (nth s k) _ _ _ _ hle6 rfl hO) ?_))
  rintro _ w12 ⟨M13, _, le14, hO, rfl, rfl⟩
  refine ⟨_, rfl, ?_⟩
  have h15 := h5.mono le14
  have q16 := q10.mono le14
  have at17 := at11.mono le14
  have hle18 := m_ hle6 le14
  have ch19 := m_ le4 le14
  refine rj (ez (E' := [(8, .int .i64 (k : Int)), (7, .int .i64 (s.length : Int)), (0, .slice (some p9) s.length c_s), (1, .func (.func f) f_1 f_2), (5, .int .i64 (k : Int)), (16, .bool (p_f (nth s k)))]) ⟨rfl, rfl, rfl, rfl, rfl, rfl, tz⟩ (et (cd rfl (fun h20 => ?_) (fun h20 => ?_))))
  ·
   refine cq (cr (mv hO rfl rfl (as_ hO rfl rfl (rj (et (ct (eg (ew' (ew' ?_)))))))))
   refine eg (ew' (er (.inl rfl) rfl rfl ?_))
   exact Ret.mk hle18 hO (congrArg (Value.int .i64) (idx_hit (by omega) hi (by assumption)))
  refine cp (ek' (et (cr (ry hO rfl (y_add ((k + 1 : Nat) : Int) tz rfl rfl (by rw [wd] <;> omega)) (mv hO rfl rfl (rj ?_))))))
  refine ends_round (M13, k + 1) ?_ ?_ ?_
  · exact ⟨rfl, rfl, rfl, rfl, tz⟩
  · exact ⟨ch19, (by (try dsimp only); exact ⟨by omega, idx_miss (by omega) hi (by assumption)⟩), hO⟩
  · (try dsimp only); omega
 have h21 : ¬ ((k : Int) < (s.length : Int)) := oq h7
 refine cx (eh (eh (ej (et (cq (cr (as_ hO rfl rfl (rj (et ?_)))))))))
 refine ct (er (.inl rfl) rfl rfl ?_)
 refine Ret.mk hle6 hO (congrArg (Value.int .i64) ?_)
 rw [List.take_of_length_le (by omega)] at hi; exact hi.symm

end Go.Proofs.YtdniefnjgkhkeaaDoor
