/-
  Contracts of Go functions, each walked operation by operation: swage/frame.After, (*swage/ir.sheet).reg, (*swage/ir.sheet).k, (*swage/ir.sheet).dear.
  Conditions: as each statement says.
-/
import Derived.Test.YtdniefnjgkhkeaaDoorVf
import Derived.Test.YtdniefnjgkhkeaaDoorProg
import Derived.Test.YtdniefnjgkhkeaaDoorC1
import Derived.Test.YtdniefnjgkhkeaaDoorC2
import Derived.Test.YtdniefnjgkhkeaaDoorC3
import Derived.Test.YtdniefnjgkhkeaaDoorC4
import Derived.Test.YtdniefnjgkhkeaaDoorC5
import Derived.Test.YtdniefnjgkhkeaaDoorC6
import Derived.Test.YtdniefnjgkhkeaaDoorC7
import Derived.Test.YtdniefnjgkhkeaaDoorC8
import Derived.Test.YtdniefnjgkhkeaaDoorV2
import Derived.Test.YtdniefnjgkhkeaaDoorC9
import Derived.Test.YtdniefnjgkhkeaaDoorV3
namespace Go.Proofs.YtdniefnjgkhkeaaDoor
open Go
set_option maxRecDepth 100000
set_option linter.unusedVariables false
set_option linter.unusedSimpArgs false
theorem tcall_53 : cl Tryd.prog 53 := ⟨_, Tryd.func53, by kernel_rfl, by kernel_rfl⟩
theorem tf_28_1 : fOff Tryd.prog 28 1 = some 1 := by kernel_rfl
theorem tf_28_2 : fOff Tryd.prog 28 2 = some 2 := by kernel_rfl
theorem tf_38_3 : fOff Tryd.prog 38 3 = some 3 := by kernel_rfl
theorem tf_38_5 : fOff Tryd.prog 38 5 = some 5 := by kernel_rfl
theorem tf_38_6 : fOff Tryd.prog 38 6 = some 6 := by kernel_rfl
theorem tf_61_0 : fOff Tryd.prog 61 0 = some 0 := by kernel_rfl
theorem tf_61_1 : fOff Tryd.prog 61 1 = some 1 := by kernel_rfl
theorem tl_25 : lone1 Tryd.prog 25 = true := by kernel_rfl
theorem tl_36 : lone1 Tryd.prog 36 = true := by kernel_rfl
theorem tl_53 : lone1 Tryd.prog 53 = true := by kernel_rfl
theorem tl_58 : lone1 Tryd.prog 58 = true := by kernel_rfl
theorem ts_25 : slEl Tryd.prog 25 = some 9 := by kernel_rfl
theorem ts_55 : slEl Tryd.prog 55 = some 1 := by kernel_rfl
theorem c_After {p_p : Addr} (p : Prog) {b_heights : Option Addr} {c_heights : Nat} (heights : List (List Int)) (fn : Int) (pc : Int) (called : Int) {w : World} {M : Mem} {bs : List (Nat × Obj)} (h_p : PAt M p_p p) (h_heights : RdS M b_heights c_heights heights) (hh : HOk p heights) (h0 : 0 ≤ fn) (h1 : fn < p.funcs.length) (hO : Own w M (bs)) :
    Calls Tryd.prog 39 #[.pointer (some p_p), .slice b_heights heights.length c_heights, .int .i64 fn, .int .i64 pc, .int .i64 called] w (Ret M bs (fun M' v => v = .bool (afterB p heights fn pc called))) := by
 refine ce (vs := [.pointer (some p_p), .slice b_heights heights.length c_heights, .int .i64 fn, .int .i64 pc, .int .i64 called]) (n := 54) Tryd.func39 rfl rfl rfl ?_
 have bd1 : heights.length * 24 ≤ 140737488351232 := h_heights.bd
 have hl1 := hh.len
 have hl2 := hh.row fn.toNat (by omega)
 refine cq (cr (as_ hO rfl rfl (rj (et (cq (cr (mv hO rfl rfl (ry hO rfl (y_gt tz rfl rfl) (mv hO rfl rfl ?_)))))))))
 rcases bt (decide (0 < pc)) with h2 | h2
 ·
  have h3 : 0 < pc := ot h2
  refine ry hO rfl (ym (by rw [h2]; rfl) rfl) (ry hO rfl (ym (by rw [h2]; rfl) rfl) (ry hO rfl (yn (by rw [h2]; rfl) rfl) (ry hO rfl (ya tf_24_0 (by rw [h2]; rfl) rfl) ?_)))
  obtain ⟨_, at7, b4, c5, rfl, s6⟩ := id h_p
  refine ry hO rfl (yl tl_22 (by rw [h2]; rfl) rfl (fun _ h => at7.cell h 0 rfl)) (ry hO rfl (ym (by rw [h2]; rfl) rfl) ?_)
  obtain ⟨p8, rfl, _⟩ := RdS.get s6 fn.toNat (by omega)
  have hO : Own w M (bs) := by assumption
  have q9 : PAt M (p8.add (fn.toNat * 3)) (nth p.funcs fn.toNat) := RdS.at s6 fn.toNat (by omega)
  refine ry hO rfl (yi ts_22 (by rw [h2]; rfl) rfl rfl (by omega) (by omega)) (ry hO rfl (ya tf_44_2 (by rw [h2]; rfl) rfl) ?_)
  obtain ⟨_, at13, b10, c11, rfl, s12⟩ := id q9
  refine ry hO rfl (yl tl_42 (by rw [h2]; rfl) rfl (fun _ h => at13.cell h 2 rfl)) ?_
  have bd14 : ((nth p.funcs fn.toNat).code).length * 16 ≤ 140737488351232 := s12.bd
  refine ry hO rfl (y_len ts_42 (by rw [h2]; rfl) rfl) (ry hO rfl (y_le (by rw [h2]; rfl) rfl rfl) (ry hO rfl (pt tz (by rw [h2]; rfl) rfl) (mv hO rfl rfl ?_)))
  rcases bt (decide (pc ≤ (((nth p.funcs fn.toNat).code).length : Int))) with h15 | h15
  ·
   have h16 : pc ≤ (((nth p.funcs fn.toNat).code).length : Int) := ot h15
   refine ry hO rfl (ym (by rw [h15]; rfl) rfl) (ry hO rfl (ym (by rw [h15]; rfl) rfl) ?_)
   obtain ⟨p17, rfl, _⟩ := RdS.get h_heights fn.toNat (by omega)
   have hO : Own w M (bs) := by assumption
   have q18 : PAt M (p17.add (fn.toNat * 1)) (nth heights fn.toNat) := RdS.at h_heights fn.toNat (by omega)
   refine ry hO rfl (yi ts_55 (by rw [h15]; rfl) rfl rfl (by omega) (by omega)) ?_
   obtain ⟨_, at22, b19, c20, rfl, s21⟩ := id q18
   refine ry hO rfl (yl tl_36 (by rw [h15]; rfl) rfl (fun _ h => at22.cell0 h rfl)) (ry hO rfl (ym (by rw [h15]; rfl) rfl) (ry hO rfl (y_sub (pc - 1) (by rw [h15]; rfl) rfl rfl (by rw [wd] <;> omega)) ?_))
   obtain ⟨p23, rfl, _⟩ := RdS.get s21 ((pc - 1).toNat) (by omega)
   have hO : Own w M (bs) := by assumption
   have q24 : PAt M (p23.add (((pc - 1).toNat) * 1)) (nth (nth heights fn.toNat) ((pc - 1).toNat)) := RdS.at s21 ((pc - 1).toNat) (by omega)
   refine ry hO rfl (yi ts_36 (by rw [h15]; rfl) rfl rfl (by omega) (by omega)) ?_
   obtain ⟨_, at25, rfl⟩ := id q24
   refine ry hO rfl (yl tl_3 (by rw [h15]; rfl) rfl (fun _ h => at25.cell0 h rfl)) (ry hO rfl (y_ne (by rw [h15]; rfl) rfl rfl) (ry hO rfl (pt tz (by rw [h15]; rfl) rfl) (mv hO rfl rfl ?_)))
   rcases bt (!decide ((nth (nth heights fn.toNat) ((pc - 1).toNat)) = -1)) with h26 | h26
   ·
    have h27 : (decide ((nth (nth heights fn.toNat) ((pc - 1).toNat)) = -1)) = false := by simpa using h26
    have h28 : ¬ ((nth (nth heights fn.toNat) ((pc - 1).toNat)) = -1) := oq h27
    refine ry hO rfl (ym (by rw [h26]; rfl) rfl) (ry hO rfl (yn (by rw [h26]; rfl) rfl) (ry hO rfl (ya tf_24_0 (by rw [h26]; rfl) rfl) (ry hO rfl (yl tl_22 (by rw [h26]; rfl) rfl (fun _ h => at7.cell h 0 rfl)) (ry hO rfl (ym (by rw [h26]; rfl) rfl) ?_))))
    have q29 : PAt M (p8.add (fn.toNat * 3)) (nth p.funcs fn.toNat) := RdS.at s6 fn.toNat (by omega)
    refine ry hO rfl (yi ts_22 (by rw [h26]; rfl) rfl rfl (by omega) (by omega)) (ry hO rfl (ya tf_44_2 (by rw [h26]; rfl) rfl) ?_)
    obtain ⟨_, at33, b30, c31, rfl, s32⟩ := id q29
    refine ry hO rfl (yl tl_42 (by rw [h26]; rfl) rfl (fun _ h => at33.cell h 2 rfl)) (ry hO rfl (ym (by rw [h26]; rfl) rfl) (ry hO rfl (y_sub (pc - 1) (by rw [h26]; rfl) rfl rfl (by rw [wd] <;> omega)) ?_))
    obtain ⟨p34, rfl, _⟩ := RdS.get s32 ((pc - 1).toNat) (by omega)
    have hO : Own w M (bs) := by assumption
    have q35 : PAt M (p34.add (((pc - 1).toNat) * 2)) (nth ((nth p.funcs fn.toNat).code) ((pc - 1).toNat)) := RdS.at s32 ((pc - 1).toNat) (by omega)
    refine ry hO rfl (yi ts_42 (by rw [h26]; rfl) rfl rfl (by omega) (by omega)) ?_
    obtain ⟨_, at36, rfl⟩ := id q35
    refine ry hO rfl (yq [.int .i64 ((nth ((nth p.funcs fn.toNat).code) ((pc - 1).toNat)).kind), .int .i64 ((nth ((nth p.funcs fn.toNat).code) ((pc - 1).toNat)).a)] ta_41 rfl (by rw [h26]; rfl) rfl (fun _ h j _ e => at36.cell h j e)) (ry hO rfl (ym (by rw [h26]; rfl) rfl) (ry hO rfl (y_build [.int .i64 14, .int .i64 called] (.agg #[.int .i64 14, .int .i64 called]) (by rw [h26]; rfl) rfl (fun _ => by kernel_rfl)) (ry hO rfl (y_eqS (vs := [.int .i64 ((nth ((nth p.funcs fn.toNat).code) ((pc - 1).toNat)).kind), .int .i64 ((nth ((nth p.funcs fn.toNat).code) ((pc - 1).toNat)).a)]) (us := [.int .i64 14, .int .i64 called]) hmIns (eqIns _ _ _ _) (by rw [h26]; rfl) rfl rfl) (ry hO rfl (pt tz (by rw [h26]; rfl) rfl) (as_ hO rfl rfl (rj (ez (E' := [(10, .bool (decide ((nth ((nth p.funcs fn.toNat).code) ((pc - 1).toNat)).kind = 14) && decide ((nth ((nth p.funcs fn.toNat).code) ((pc - 1).toNat)).a = called)))]) ⟨rfl, tz⟩ (et (ct ?_)))))))))
    refine er (.inl rfl) rfl rfl ?_
    refine Ret.mk (mr _) hO (congrArg Value.bool ?_)
    (first | rfl | (simp_all [afterB]; done) | omega | grind [afterB])
   have h37 : (decide ((nth (nth heights fn.toNat) ((pc - 1).toNat)) = -1)) = true := by simpa using h26
   have h38 : (nth (nth heights fn.toNat) ((pc - 1).toNat)) = -1 := ot h37
   refine ry hO rfl (ek (by rw [h26]; rfl)) (ry hO rfl (ek (by rw [h26]; rfl)) (ry hO rfl (ek (by rw [h26]; rfl)) (ry hO rfl (ek (by rw [h26]; rfl)) (ry hO rfl (ek (by rw [h26]; rfl)) (ry hO rfl (ek (by rw [h26]; rfl)) (ry hO rfl (ek (by rw [h26]; rfl)) (ry hO rfl (ek (by rw [h26]; rfl)) (ry hO rfl (ek (by rw [h26]; rfl)) (ry hO rfl (ek (by rw [h26]; rfl)) ?_)))))))))
   refine ry hO rfl (ek (by rw [h26]; rfl)) (ry hO rfl (ek (by rw [h26]; rfl)) (ry hO rfl (ek (by rw [h26]; rfl)) (ry hO rfl (ek (by rw [h26]; rfl)) (ry hO rfl (ek (by rw [h26]; rfl)) (ry hO rfl (pf tz (by rw [h26]; rfl) rfl) (as_ hO rfl rfl (rj (ez (E' := [(10, .bool false)]) ⟨rfl, tz⟩ (et ?_)))))))))
   refine ct (er (.inl rfl) rfl rfl ?_)
   refine Ret.mk (mr _) hO (congrArg Value.bool ?_)
   (first | rfl | (simp_all [afterB]; done) | omega | grind [afterB])
  have h39 : ¬ (pc ≤ (((nth p.funcs fn.toNat).code).length : Int)) := oq h15
  refine ry hO rfl (ek (by rw [h15]; rfl)) (ry hO rfl (ek (by rw [h15]; rfl)) (ry hO rfl (ek (by rw [h15]; rfl)) (ry hO rfl (ek (by rw [h15]; rfl)) (ry hO rfl (ek (by rw [h15]; rfl)) (ry hO rfl (ek (by rw [h15]; rfl)) (ry hO rfl (ek (by rw [h15]; rfl)) (ry hO rfl (ek (by rw [h15]; rfl)) (ry hO rfl (ek (by rw [h15]; rfl)) (ry hO rfl (pf tz (by rw [h15]; rfl) rfl) ?_)))))))))
  refine mv hO rfl rfl (ry hO rfl (ek rfl) (ry hO rfl (ek rfl) (ry hO rfl (ek rfl) (ry hO rfl (ek rfl) (ry hO rfl (ek rfl) (ry hO rfl (ek rfl) (ry hO rfl (ek rfl) (ry hO rfl (ek rfl) (ry hO rfl (ek rfl) ?_)))))))))
  refine ry hO rfl (ek rfl) (ry hO rfl (ek rfl) (ry hO rfl (ek rfl) (ry hO rfl (ek rfl) (ry hO rfl (ek rfl) (ry hO rfl (ek rfl) (ry hO rfl (pf tz rfl rfl) (as_ hO rfl rfl (rj (ez (E' := [(10, .bool false)]) ⟨rfl, tz⟩ ?_)))))))))
  refine et (ct (er (.inl rfl) rfl rfl ?_))
  refine Ret.mk (mr _) hO (congrArg Value.bool ?_)
  (first | rfl | (simp_all [afterB]; done) | omega | grind [afterB])
 have h40 : ¬ (0 < pc) := oq h2
 refine ry hO rfl (ek (by rw [h2]; rfl)) (ry hO rfl (ek (by rw [h2]; rfl)) (ry hO rfl (ek (by rw [h2]; rfl)) (ry hO rfl (ek (by rw [h2]; rfl)) (ry hO rfl (ek (by rw [h2]; rfl)) (ry hO rfl (ek (by rw [h2]; rfl)) (ry hO rfl (ek (by rw [h2]; rfl)) (ry hO rfl (ek (by rw [h2]; rfl)) (ry hO rfl (ek (by rw [h2]; rfl)) (ry hO rfl (ek (by rw [h2]; rfl)) ?_)))))))))
 refine ry hO rfl (ek (by rw [h2]; rfl)) (ry hO rfl (pf tz (by rw [h2]; rfl) rfl) (mv hO rfl rfl (ry hO rfl (ek rfl) (ry hO rfl (ek rfl) (ry hO rfl (ek rfl) (ry hO rfl (ek rfl) (ry hO rfl (ek rfl) (ry hO rfl (ek rfl) (ry hO rfl (ek rfl) ?_)))))))))
 refine ry hO rfl (ek rfl) (ry hO rfl (ek rfl) (ry hO rfl (pf tz rfl rfl) (mv hO rfl rfl (ry hO rfl (ek rfl) (ry hO rfl (ek rfl) (ry hO rfl (ek rfl) (ry hO rfl (ek rfl) (ry hO rfl (ek rfl) (ry hO rfl (ek rfl) ?_)))))))))
 refine ry hO rfl (ek rfl) (ry hO rfl (ek rfl) (ry hO rfl (ek rfl) (ry hO rfl (ek rfl) (ry hO rfl (ek rfl) (ry hO rfl (ek rfl) (ry hO rfl (ek rfl) (ry hO rfl (ek rfl) (ry hO rfl (ek rfl) (ry hO rfl (pf tz rfl rfl) ?_)))))))))
 refine as_ hO rfl rfl (rj (ez (E' := [(10, .bool false)]) ⟨rfl, tz⟩ (et (ct (er (.inl rfl) rfl rfl ?_)))))
 refine Ret.mk (mr _) hO (congrArg Value.bool ?_)
 (first | rfl | (simp_all [afterB]; done) | omega | grind [afterB])

theorem c_reg {p_s : Addr} (s : Sheet) (r : Int) {w : World} {M : Mem} {bs : List (Nat × Obj)} (h_s : PAt M p_s s)  (hO : Own w M (bs)) :
    Calls Tryd.prog 35 #[.pointer (some p_s), .int .i64 r] w (Ret M bs (fun M' v => v = .bool (regB s r))) := by
 refine ce (vs := [.pointer (some p_s), .int .i64 r]) (n := 18) Tryd.func35 rfl rfl rfl (cq (cr (as_ hO rfl rfl (rj (et (cq (cr (mv hO rfl rfl (ry hO rfl (y_ge tz rfl rfl) ?_)))))))))
 refine mv hO rfl rfl ?_
 rcases bt (decide (0 ≤ r)) with h1 | h1
 ·
  have h2 : 0 ≤ r := ot h1
  refine ry hO rfl (ym (by rw [h1]; rfl) rfl) (ry hO rfl (ym (by rw [h1]; rfl) rfl) (ry hO rfl (yn (by rw [h1]; rfl) rfl) (ry hO rfl (ya tf_61_0 (by rw [h1]; rfl) rfl) ?_)))
  obtain ⟨_, at10, p3, p5, b7, c8, rfl, q4, q6, s9⟩ := id h_s
  refine ry hO rfl (yl tl_53 (by rw [h1]; rfl) rfl (fun _ h => at10.cell h 0 rfl)) (ry hO rfl (yn (by rw [h1]; rfl) rfl) (ry hO rfl (ya tf_28_1 (by rw [h1]; rfl) rfl) ?_))
  obtain ⟨_, at17, b11, c12, b14, c15, rfl, s13, s16⟩ := id q4
  refine ry hO rfl (yl tl_3 (by rw [h1]; rfl) rfl (fun _ h => at17.cell h 1 rfl)) (ry hO rfl (yv (by rw [h1]; rfl) rfl rfl) (ry hO rfl (pt tz (by rw [h1]; rfl) rfl) (as_ hO rfl rfl (rj (ez (E' := [(4, .bool (decide (r < s.code.val.regs)))]) ⟨rfl, tz⟩ (et (ct (er (.inl rfl) rfl rfl ?_))))))))
  refine Ret.mk (mr _) hO (congrArg Value.bool ?_)
  (first | rfl | (simp_all [regB]; done) | omega | grind [regB])
 have h18 : ¬ (0 ≤ r) := oq h1
 refine ry hO rfl (ek (by rw [h1]; rfl)) (ry hO rfl (ek (by rw [h1]; rfl)) (ry hO rfl (ek (by rw [h1]; rfl)) (ry hO rfl (ek (by rw [h1]; rfl)) (ry hO rfl (ek (by rw [h1]; rfl)) (ry hO rfl (ek (by rw [h1]; rfl)) (ry hO rfl (ek (by rw [h1]; rfl)) (ry hO rfl (ek (by rw [h1]; rfl)) (ry hO rfl (ek (by rw [h1]; rfl)) (ry hO rfl (pf tz (by rw [h1]; rfl) rfl) ?_)))))))))
 refine as_ hO rfl rfl (rj (ez (E' := [(4, .bool false)]) ⟨rfl, tz⟩ (et (ct (er (.inl rfl) rfl rfl ?_)))))
 refine Ret.mk (mr _) hO (congrArg Value.bool ?_)
 (first | rfl | (simp_all [regB]; done) | omega | grind [regB])

theorem c_k {p_s : Addr} (s : Sheet) {p_x : Addr} (x : Ir) {w : World} {M : Mem} {bs : List (Nat × Obj)} (h_s : PAt M p_s s) (h_x : PAt M p_x x)  (hO : Own w M (bs)) :
    Calls Tryd.prog 31 #[.pointer (some p_s), .pointer (some p_x)] w (Ret M bs (fun M' v => v = .bool (kB s x))) := by
 refine ce (vs := [.pointer (some p_s), .pointer (some p_x)]) (n := 123) Tryd.func31 rfl rfl rfl (cq (cr (as_ hO rfl rfl (rj (et (cq (cq (cr (mv hO rfl rfl ?_)))))))))
 refine nc hO rfl rfl (fa tf_38_0 hO rfl rfl ?_)
 obtain ⟨_, at4, b1, c2, rfl, s3⟩ := id h_x
 refine lc tl_3 at4 0 rfl hO rfl rfl (rj (et (cb (cq (cr (ry hO rfl (ye tz rfl rfl) (as_ hO rfl rfl (rj (et ?_)))))))))
 refine cd rfl (fun h5 => ?_) (fun h5 => ?_)
 ·
  have h6 : x.kind = 1 := ot h5
  refine cq (cr (mv hO rfl rfl (nc hO rfl rfl (fa tf_38_4 hO rfl rfl (lc tl_3 at4 4 rfl hO rfl rfl (rd' tz (oc (vs := [.int .i64 x.k]) tcall_52 rfl rfl (c_wrapIs x.k  hO) ?_)))))))
  rintro _ w7 ⟨M8, _, le9, hO, rfl, rfl⟩
  refine ⟨_, rfl, ?_⟩
  have h10 := h_s.mono le9
  have h11 := h_x.mono le9
  have at12 := at4.mono le9
  have s13 := s3.mono le9
  have hle14 := le9
  refine as_ hO rfl rfl (rj (ez (E' := [(1, .pointer (some p_x)), (4, .bool (isW x.k))]) ⟨rfl, rfl, tz⟩ (et (ct (eg (ew' (er (.inl rfl) rfl rfl ?_)))))))
  refine Ret.mk hle14 hO (congrArg Value.bool ?_)
  (first | rfl | (simp_all [kB]; done) | omega | grind [kB])
 have h15 : ¬ (x.kind = 1) := oq h5
 refine cq (cr (ry hO rfl (ye tz rfl rfl) (as_ hO rfl rfl (rj (et (cd rfl (fun h16 => ?_) (fun h16 => ?_)))))))
 ·
  have h17 : x.kind = 9 := ot h16
  refine cq (cr (mv hO rfl rfl (nc hO rfl rfl (fa tf_38_4 hO rfl rfl (lc tl_3 at4 4 rfl hO rfl rfl (rd' tz (oc (vs := [.int .i64 x.k]) tcall_52 rfl rfl (c_wrapIs x.k  hO) ?_)))))))
  rintro _ w18 ⟨M19, _, le20, hO, rfl, rfl⟩
  refine ⟨_, rfl, ?_⟩
  have h21 := h_s.mono le20
  have h22 := h_x.mono le20
  have at23 := at4.mono le20
  have s24 := s3.mono le20
  have hle25 := le20
  refine mv hO rfl rfl ?_
  rcases bt (isW x.k) with h26 | h26
  ·
   refine ry hO rfl (ym (by rw [h26]; rfl) rfl) (ry hO rfl (yn (by rw [h26]; rfl) rfl) (ry hO rfl (ya tf_38_3 (by rw [h26]; rfl) rfl) (ry hO rfl (yl tl_3 (by rw [h26]; rfl) rfl (fun _ h => at23.cell h 3 rfl)) (ry hO rfl (ye (by rw [h26]; rfl) rfl rfl) (ry hO rfl (ym (by rw [h26]; rfl) rfl) ?_)))))
   rcases bt (decide (x.b = 0)) with h27 | h27
   ·
    have h28 : x.b = 0 := ot h27
    refine ry hO rfl (ek (by rw [h27]; rfl)) (ry hO rfl (ek (by rw [h27]; rfl)) (ry hO rfl (ek (by rw [h27]; rfl)) (ry hO rfl (ek (by rw [h27]; rfl)) (ry hO rfl (ek (by rw [h27]; rfl)) (ry hO rfl (pt (by rw [h26]; rfl) (by rw [h27]; rfl) rfl) (ry hO rfl (pt tz (by rw [h26]; rfl) rfl) (as_ hO rfl rfl (rj (ez (E' := [(1, .pointer (some p_x)), (4, .bool true)]) ⟨rfl, rfl, tz⟩ ?_)))))))))
    refine et (ct (eg (ew' (er (.inl rfl) rfl rfl ?_))))
    refine Ret.mk hle25 hO (congrArg Value.bool ?_)
    (first | rfl | (simp_all [kB]; done) | omega | grind [kB])
   have h29 : ¬ (x.b = 0) := oq h27
   refine ry hO rfl (ym (by rw [h27]; rfl) rfl) (ry hO rfl (yn (by rw [h27]; rfl) rfl) (ry hO rfl (ya tf_38_3 (by rw [h27]; rfl) rfl) (ry hO rfl (yl tl_3 (by rw [h27]; rfl) rfl (fun _ h => at23.cell h 3 rfl)) (ry hO rfl (ye (by rw [h27]; rfl) rfl rfl) (ry hO rfl (pf (by rw [h26]; rfl) (by rw [h27]; rfl) rfl) (ry hO rfl (pt tz (by rw [h26]; rfl) rfl) (as_ hO rfl rfl (rj (ez (E' := [(1, .pointer (some p_x)), (4, .bool (decide (x.b = 1)))]) ⟨rfl, rfl, tz⟩ ?_)))))))))
   refine et (ct (eg (ew' (er (.inl rfl) rfl rfl ?_))))
   refine Ret.mk hle25 hO (congrArg Value.bool ?_)
   (first | rfl | (simp_all [kB]; done) | omega | grind [kB])
  refine ry hO rfl (ek (by rw [h26]; rfl)) (ry hO rfl (ek (by rw [h26]; rfl)) (ry hO rfl (ek (by rw [h26]; rfl)) (ry hO rfl (ek (by rw [h26]; rfl)) (ry hO rfl (ek (by rw [h26]; rfl)) (ry hO rfl (ek (by rw [h26]; rfl)) (ry hO rfl (yu rfl) (ry hO rfl (yu rfl) (ry hO rfl (yu rfl) (ry hO rfl (yu rfl) ?_)))))))))
  refine ry hO rfl (yu rfl) (ry hO rfl (ek (by rw [h26]; rfl)) (ry hO rfl (pf tz (by rw [h26]; rfl) rfl) (as_ hO rfl rfl (rj (ez (E' := [(1, .pointer (some p_x)), (4, .bool false)]) ⟨rfl, rfl, tz⟩ (et (ct (eg (ew' ?_)))))))))
  refine er (.inl rfl) rfl rfl ?_
  refine Ret.mk hle25 hO (congrArg Value.bool ?_)
  (first | rfl | (simp_all [kB]; done) | omega | grind [kB])
 have h30 : ¬ (x.kind = 9) := oq h16
 refine cq (cr (ry hO rfl (ye tz rfl rfl) (as_ hO rfl rfl (rj (ez (E' := [(0, .pointer (some p_s)), (1, .pointer (some p_x)), (4, .bool false), (8, .int .i64 x.kind), (37, .bool (decide (x.kind = 3)))]) ⟨rfl, rfl, rfl, rfl, rfl, tz⟩ (et (cd rfl (fun h31 => ?_) (fun h31 => ?_))))))))
 ·
  have h32 : x.kind = 3 := ot h31
  refine cq (cr (mv hO rfl rfl (nc hO rfl rfl (fa tf_38_4 hO rfl rfl (lc tl_3 at4 4 rfl hO rfl rfl (ry hO rfl (y_ge tz rfl rfl) (mv hO rfl rfl ?_)))))))
  rcases bt (decide (3 ≤ x.k)) with h33 | h33
  ·
   have h34 : 3 ≤ x.k := ot h33
   refine ry hO rfl (ym (by rw [h33]; rfl) rfl) (ry hO rfl (yn (by rw [h33]; rfl) rfl) (ry hO rfl (ya tf_38_4 (by rw [h33]; rfl) rfl) (ry hO rfl (yl tl_3 (by rw [h33]; rfl) rfl (fun _ h => at4.cell h 4 rfl)) (ry hO rfl (y_le (by rw [h33]; rfl) rfl rfl) (ry hO rfl (pt tz (by rw [h33]; rfl) rfl) (as_ hO rfl rfl (rj (ez (E' := [(1, .pointer (some p_x)), (4, .bool (decide (x.k ≤ 9)))]) ⟨rfl, rfl, tz⟩ (et ?_)))))))))
   refine ct (eg (ew' (er (.inl rfl) rfl rfl ?_)))
   refine Ret.mk (mr _) hO (congrArg Value.bool ?_)
   (first | rfl | (simp_all [kB]; done) | omega | grind [kB])
  have h35 : ¬ (3 ≤ x.k) := oq h33
  refine ry hO rfl (ek (by rw [h33]; rfl)) (ry hO rfl (ek (by rw [h33]; rfl)) (ry hO rfl (ek (by rw [h33]; rfl)) (ry hO rfl (ek (by rw [h33]; rfl)) (ry hO rfl (ek (by rw [h33]; rfl)) (ry hO rfl (pf tz (by rw [h33]; rfl) rfl) (as_ hO rfl rfl (rj (ez (E' := [(1, .pointer (some p_x)), (4, .bool false)]) ⟨rfl, rfl, tz⟩ (et ?_)))))))))
  refine ct (eg (ew' (er (.inl rfl) rfl rfl ?_)))
  refine Ret.mk (mr _) hO (congrArg Value.bool ?_)
  (first | rfl | (simp_all [kB]; done) | omega | grind [kB])
 have h36 : ¬ (x.kind = 3) := oq h31
 refine cq (cq (cr (ry hO rfl (ye tz rfl rfl) (as_ hO rfl rfl (rj (et (cd rfl (fun h37 => ?_) (fun h37 => ?_))))))))
 ·
  have h38 : x.kind = 4 := ot h37
  refine cp (et (cv (by rw [h37]; rfl) (cq ?_)))
  rcases bt (decide (0 ≤ x.k)) with h41 | h41
  ·
   have h42 : 0 ≤ x.k := ot h41
   obtain ⟨w43, hO, ew44⟩ : ∃ w', Own w' M (bs) ∧ { w with drawn := w.drawn + 1 } = w' := ⟨_, hO.drawn _, rfl⟩
   refine cw (S := fun w => Own w M (bs)) (.take 0 (.take 1 (.take 2 (.take 3 (.take 4 (.take 5 (.take 6 (.take 7 (.take 8 (.take 9 (.take 10 (.take 11 (.take 12 (.take 13 (.take 14 (.take 15 (.take 16 (.take 17 (.take 18 (.take 19 (.take 20 .done))))))))))))))))))))) 21 tm (by kernel_rfl) ew44 hO (hm rfl rfl (fun _ _ _ h => h) rfl (hn rfl rfl (fun _ _ _ h => h) rfl (hfa tf_38_4 rfl rfl (fun _ _ _ h => h) rfl (hlc tl_3 at4 4 rfl rfl rfl (fun _ _ _ h => h) rfl (gy rfl rfl (fun _ _ _ h => h) (y_ge tz rfl rfl) (hm rfl rfl (fun _ _ _ h => h) rfl (gy rfl rfl (fun _ _ _ h => h) (ym (by rw [h41]; rfl) rfl) (gy rfl rfl (fun _ _ _ h => h) (yn (by rw [h41]; rfl) rfl) (gy rfl rfl (fun _ _ _ h => h) (ya tf_38_4 (by rw [h41]; rfl) rfl) ?_)))))))))
   refine gy rfl rfl (fun _ _ _ h => h) (yl tl_3 (by rw [h41]; rfl) rfl (fun _ h => at4.cell h 4 rfl)) (gy rfl rfl (fun _ _ _ h => h) (ym (by rw [h41]; rfl) rfl) (gy rfl rfl (fun _ _ _ h => h) (yn (by rw [h41]; rfl) rfl) (gy rfl rfl (fun _ _ _ h => h) (ya tf_61_0 (by rw [h41]; rfl) rfl) ?_)))
   obtain ⟨_, at52, p45, p47, b49, c50, rfl, q46, q48, s51⟩ := id h_s
   refine gy rfl rfl (fun _ _ _ h => h) (yl tl_53 (by rw [h41]; rfl) rfl (fun _ h => at52.cell h 0 rfl)) (gy rfl rfl (fun _ _ _ h => h) (yn (by rw [h41]; rfl) rfl) (gy rfl rfl (fun _ _ _ h => h) (ya tf_28_2 (by rw [h41]; rfl) rfl) ?_))
   obtain ⟨_, at59, b53, c54, b56, c57, rfl, s55, s58⟩ := id q46
   refine gy rfl rfl (fun _ _ _ h => h) (yl tl_25 (by rw [h41]; rfl) rfl (fun _ h => at59.cell h 2 rfl)) ?_
   have bd60 : s.code.val.code.length * 88 ≤ 140737488351232 := s55.bd
   refine gy rfl rfl (fun _ _ _ h => h) (y_len ts_25 (by rw [h41]; rfl) rfl) (gy rfl rfl (fun _ _ _ h => h) (yv (by rw [h41]; rfl) rfl rfl) (gy rfl rfl (fun _ _ _ h => h) (pt tz (by rw [h41]; rfl) rfl) (ha rfl rfl (fun _ _ _ h => h) rfl (gd (ez (E' := [(1, .pointer (some p_x)), (4, .bool (decide (x.k < (s.code.val.code.length : Int))))]) ⟨rfl, rfl, tz⟩ (et (ct (eg (ew' ?_)))))))))
   refine er (.inl rfl) rfl rfl ?_
   refine Ret.mk (mr _) hO (congrArg Value.bool ?_)
   (first | rfl | (simp_all [kB]; done) | omega | grind [kB])
  have h61 : ¬ (0 ≤ x.k) := oq h41
  obtain ⟨w62, hO, ew63⟩ : ∃ w', Own w' M (bs) ∧ { w with drawn := w.drawn + 1 } = w' := ⟨_, hO.drawn _, rfl⟩
  refine cw (S := fun w => Own w M (bs)) (.take 0 (.take 1 (.take 2 (.take 3 (.take 4 (.take 5 (.take 6 (.take 7 (.take 8 (.take 9 (.take 10 (.take 11 (.take 12 (.take 13 (.take 14 (.take 15 (.take 16 (.take 17 (.take 18 (.take 19 (.take 20 .done))))))))))))))))))))) 21 tm (by kernel_rfl) ew63 hO (hm rfl rfl (fun _ _ _ h => h) rfl (hn rfl rfl (fun _ _ _ h => h) rfl (hfa tf_38_4 rfl rfl (fun _ _ _ h => h) rfl (hlc tl_3 at4 4 rfl rfl rfl (fun _ _ _ h => h) rfl (gy rfl rfl (fun _ _ _ h => h) (y_ge tz rfl rfl) (hm rfl rfl (fun _ _ _ h => h) rfl (gy rfl rfl (fun _ _ _ h => h) (ek (by rw [h41]; rfl)) (gy rfl rfl (fun _ _ _ h => h) (ek (by rw [h41]; rfl)) (gy rfl rfl (fun _ _ _ h => h) (ek (by rw [h41]; rfl)) ?_)))))))))
  refine gy rfl rfl (fun _ _ _ h => h) (ek (by rw [h41]; rfl)) (gy rfl rfl (fun _ _ _ h => h) (ek (by rw [h41]; rfl)) (gy rfl rfl (fun _ _ _ h => h) (ek (by rw [h41]; rfl)) (gy rfl rfl (fun _ _ _ h => h) (ek (by rw [h41]; rfl)) (gy rfl rfl (fun _ _ _ h => h) (ek (by rw [h41]; rfl)) (gy rfl rfl (fun _ _ _ h => h) (ek (by rw [h41]; rfl)) (gy rfl rfl (fun _ _ _ h => h) (ek (by rw [h41]; rfl)) (gy rfl rfl (fun _ _ _ h => h) (ek (by rw [h41]; rfl)) (gy rfl rfl (fun _ _ _ h => h) (ek (by rw [h41]; rfl)) (gy rfl rfl (fun _ _ _ h => h) (ek (by rw [h41]; rfl)) ?_)))))))))
  refine gy rfl rfl (fun _ _ _ h => h) (pf tz (by rw [h41]; rfl) rfl) (ha rfl rfl (fun _ _ _ h => h) rfl (gd (ez (E' := [(1, .pointer (some p_x)), (4, .bool false)]) ⟨rfl, rfl, tz⟩ (et (ct (eg (ew' (er (.inl rfl) rfl rfl ?_))))))))
  refine Ret.mk (mr _) hO (congrArg Value.bool ?_)
  (first | rfl | (simp_all [kB]; done) | omega | grind [kB])
 have h64 : ¬ (x.kind = 4) := oq h37
 refine cr (ry hO rfl (ye tz rfl rfl) (as_ hO rfl rfl (rj (et (cd rfl (fun h65 => ?_) (fun h65 => ?_))))))
 ·
  have h66 : x.kind = 5 := ot h65
  refine cq ?_
  rcases bt (decide (0 ≤ x.k)) with h69 | h69
  ·
   have h70 : 0 ≤ x.k := ot h69
   obtain ⟨w71, hO, ew72⟩ : ∃ w', Own w' M (bs) ∧ { w with drawn := w.drawn + 1 } = w' := ⟨_, hO.drawn _, rfl⟩
   refine cw (S := fun w => Own w M (bs)) (.take 0 (.take 1 (.take 2 (.take 3 (.take 4 (.take 5 (.take 6 (.take 7 (.take 8 (.take 9 (.take 10 (.take 11 (.take 12 (.take 13 (.take 14 (.take 15 (.take 16 (.take 17 (.take 18 (.take 19 (.take 20 .done))))))))))))))))))))) 21 tm (by kernel_rfl) ew72 hO (hm rfl rfl (fun _ _ _ h => h) rfl (hn rfl rfl (fun _ _ _ h => h) rfl (hfa tf_38_4 rfl rfl (fun _ _ _ h => h) rfl (hlc tl_3 at4 4 rfl rfl rfl (fun _ _ _ h => h) rfl (gy rfl rfl (fun _ _ _ h => h) (y_ge tz rfl rfl) (hm rfl rfl (fun _ _ _ h => h) rfl (gy rfl rfl (fun _ _ _ h => h) (ym (by rw [h69]; rfl) rfl) (gy rfl rfl (fun _ _ _ h => h) (yn (by rw [h69]; rfl) rfl) (gy rfl rfl (fun _ _ _ h => h) (ya tf_38_4 (by rw [h69]; rfl) rfl) ?_)))))))))
   refine gy rfl rfl (fun _ _ _ h => h) (yl tl_3 (by rw [h69]; rfl) rfl (fun _ h => at4.cell h 4 rfl)) (gy rfl rfl (fun _ _ _ h => h) (ym (by rw [h69]; rfl) rfl) (gy rfl rfl (fun _ _ _ h => h) (yn (by rw [h69]; rfl) rfl) (gy rfl rfl (fun _ _ _ h => h) (ya tf_61_0 (by rw [h69]; rfl) rfl) ?_)))
   obtain ⟨_, at80, p73, p75, b77, c78, rfl, q74, q76, s79⟩ := id h_s
   refine gy rfl rfl (fun _ _ _ h => h) (yl tl_53 (by rw [h69]; rfl) rfl (fun _ h => at80.cell h 0 rfl)) (gy rfl rfl (fun _ _ _ h => h) (yn (by rw [h69]; rfl) rfl) (gy rfl rfl (fun _ _ _ h => h) (ya tf_28_2 (by rw [h69]; rfl) rfl) ?_))
   obtain ⟨_, at87, b81, c82, b84, c85, rfl, s83, s86⟩ := id q74
   refine gy rfl rfl (fun _ _ _ h => h) (yl tl_25 (by rw [h69]; rfl) rfl (fun _ h => at87.cell h 2 rfl)) ?_
   have bd88 : s.code.val.code.length * 88 ≤ 140737488351232 := s83.bd
   refine gy rfl rfl (fun _ _ _ h => h) (y_len ts_25 (by rw [h69]; rfl) rfl) (gy rfl rfl (fun _ _ _ h => h) (yv (by rw [h69]; rfl) rfl rfl) (gy rfl rfl (fun _ _ _ h => h) (pt tz (by rw [h69]; rfl) rfl) (ha rfl rfl (fun _ _ _ h => h) rfl (gd (ez (E' := [(1, .pointer (some p_x)), (4, .bool (decide (x.k < (s.code.val.code.length : Int))))]) ⟨rfl, rfl, tz⟩ (et (ct (eg (ew' ?_)))))))))
   refine er (.inl rfl) rfl rfl ?_
   refine Ret.mk (mr _) hO (congrArg Value.bool ?_)
   (first | rfl | (simp_all [kB]; done) | omega | grind [kB])
  have h89 : ¬ (0 ≤ x.k) := oq h69
  obtain ⟨w90, hO, ew91⟩ : ∃ w', Own w' M (bs) ∧ { w with drawn := w.drawn + 1 } = w' := ⟨_, hO.drawn _, rfl⟩
  refine cw (S := fun w => Own w M (bs)) (.take 0 (.take 1 (.take 2 (.take 3 (.take 4 (.take 5 (.take 6 (.take 7 (.take 8 (.take 9 (.take 10 (.take 11 (.take 12 (.take 13 (.take 14 (.take 15 (.take 16 (.take 17 (.take 18 (.take 19 (.take 20 .done))))))))))))))))))))) 21 tm (by kernel_rfl) ew91 hO (hm rfl rfl (fun _ _ _ h => h) rfl (hn rfl rfl (fun _ _ _ h => h) rfl (hfa tf_38_4 rfl rfl (fun _ _ _ h => h) rfl (hlc tl_3 at4 4 rfl rfl rfl (fun _ _ _ h => h) rfl (gy rfl rfl (fun _ _ _ h => h) (y_ge tz rfl rfl) (hm rfl rfl (fun _ _ _ h => h) rfl (gy rfl rfl (fun _ _ _ h => h) (ek (by rw [h69]; rfl)) (gy rfl rfl (fun _ _ _ h => h) (ek (by rw [h69]; rfl)) (gy rfl rfl (fun _ _ _ h => h) (ek (by rw [h69]; rfl)) ?_)))))))))
  refine gy rfl rfl (fun _ _ _ h => h) (ek (by rw [h69]; rfl)) (gy rfl rfl (fun _ _ _ h => h) (ek (by rw [h69]; rfl)) (gy rfl rfl (fun _ _ _ h => h) (ek (by rw [h69]; rfl)) (gy rfl rfl (fun _ _ _ h => h) (ek (by rw [h69]; rfl)) (gy rfl rfl (fun _ _ _ h => h) (ek (by rw [h69]; rfl)) (gy rfl rfl (fun _ _ _ h => h) (ek (by rw [h69]; rfl)) (gy rfl rfl (fun _ _ _ h => h) (ek (by rw [h69]; rfl)) (gy rfl rfl (fun _ _ _ h => h) (ek (by rw [h69]; rfl)) (gy rfl rfl (fun _ _ _ h => h) (ek (by rw [h69]; rfl)) (gy rfl rfl (fun _ _ _ h => h) (ek (by rw [h69]; rfl)) ?_)))))))))
  refine gy rfl rfl (fun _ _ _ h => h) (pf tz (by rw [h69]; rfl) rfl) (ha rfl rfl (fun _ _ _ h => h) rfl (gd (ez (E' := [(1, .pointer (some p_x)), (4, .bool false)]) ⟨rfl, rfl, tz⟩ (et (ct (eg (ew' (er (.inl rfl) rfl rfl ?_))))))))
  refine Ret.mk (mr _) hO (congrArg Value.bool ?_)
  (first | rfl | (simp_all [kB]; done) | omega | grind [kB])
 have h92 : ¬ (x.kind = 5) := oq h65
 refine cq (cr (ry hO rfl (ye tz rfl rfl) (as_ hO rfl rfl (rj (et (cd rfl (fun h93 => ?_) (fun h93 => ?_)))))))
 ·
  have h94 : x.kind = 6 := ot h93
  refine cq ?_
  rcases bt (decide (0 ≤ x.k)) with h97 | h97
  ·
   have h98 : 0 ≤ x.k := ot h97
   rcases bt (decide (x.k < (s.p.val.funcs.length : Int))) with h101 | h101
   ·
    have h102 : x.k < (s.p.val.funcs.length : Int) := ot h101
    obtain ⟨w103, hO, ew104⟩ : ∃ w', Own w' M (bs) ∧ { w with drawn := w.drawn + 1 } = w' := ⟨_, hO.drawn _, rfl⟩
    refine cw (S := fun w => Own w M (bs)) (.take 0 (.take 1 (.take 2 (.take 3 (.take 4 (.take 5 (.take 6 (.take 7 (.take 8 (.take 9 (.take 10 (.take 11 (.take 12 (.take 13 (.take 14 (.take 15 (.take 16 (.take 17 (.take 18 (.take 19 (.take 20 (.take 21 (.take 22 (.take 23 (.take 24 (.take 25 (.take 26 (.take 27 (.take 28 (.take 29 (.take 30 (.take 31 (.take 32 (.take 33 (.take 34 (.take 35 (.take 36 (.take 37 (.take 38 (.take 39 (.take 40 (.take 41 (.take 42 .done))))))))))))))))))))))))))))))))))))))))))) 43 tm (by kernel_rfl) ew104 hO (hm rfl rfl (fun _ _ _ h => h) rfl (hn rfl rfl (fun _ _ _ h => h) rfl (hfa tf_38_4 rfl rfl (fun _ _ _ h => h) rfl (hlc tl_3 at4 4 rfl rfl rfl (fun _ _ _ h => h) rfl (gy rfl rfl (fun _ _ _ h => h) (y_ge tz rfl rfl) (hm rfl rfl (fun _ _ _ h => h) rfl (gy rfl rfl (fun _ _ _ h => h) (ym (by rw [h97]; rfl) rfl) (gy rfl rfl (fun _ _ _ h => h) (yn (by rw [h97]; rfl) rfl) (gy rfl rfl (fun _ _ _ h => h) (ya tf_38_4 (by rw [h97]; rfl) rfl) ?_)))))))))
    refine gy rfl rfl (fun _ _ _ h => h) (yl tl_3 (by rw [h97]; rfl) rfl (fun _ h => at4.cell h 4 rfl)) (gy rfl rfl (fun _ _ _ h => h) (ym (by rw [h97]; rfl) rfl) (gy rfl rfl (fun _ _ _ h => h) (yn (by rw [h97]; rfl) rfl) (gy rfl rfl (fun _ _ _ h => h) (ya tf_61_1 (by rw [h97]; rfl) rfl) ?_)))
    obtain ⟨_, at112, p105, p107, b109, c110, rfl, q106, q108, s111⟩ := id h_s
    refine gy rfl rfl (fun _ _ _ h => h) (yl tl_58 (by rw [h97]; rfl) rfl (fun _ h => at112.cell h 1 rfl)) (gy rfl rfl (fun _ _ _ h => h) (yn (by rw [h97]; rfl) rfl) (gy rfl rfl (fun _ _ _ h => h) (ya tf_24_0 (by rw [h97]; rfl) rfl) ?_))
    obtain ⟨_, at116, b113, c114, rfl, s115⟩ := id q108
    refine gy rfl rfl (fun _ _ _ h => h) (yl tl_22 (by rw [h97]; rfl) rfl (fun _ h => at116.cell h 0 rfl)) ?_
    have bd117 : s.p.val.funcs.length * 40 ≤ 140737488351232 := s115.bd
    refine gy rfl rfl (fun _ _ _ h => h) (y_len ts_22 (by rw [h97]; rfl) rfl) (gy rfl rfl (fun _ _ _ h => h) (yv (by rw [h97]; rfl) rfl rfl) (gy rfl rfl (fun _ _ _ h => h) (pt tz (by rw [h97]; rfl) rfl) (hm rfl rfl (fun _ _ _ h => h) rfl (gy rfl rfl (fun _ _ _ h => h) (ym (by rw [h101]; rfl) rfl) (gy rfl rfl (fun _ _ _ h => h) (yn (by rw [h101]; rfl) rfl) (gy rfl rfl (fun _ _ _ h => h) (ya tf_38_5 (by rw [h101]; rfl) rfl) (gy rfl rfl (fun _ _ _ h => h) (yl tl_36 (by rw [h101]; rfl) rfl (fun _ h => at4.cell h 5 rfl)) ?_)))))))
    have bd118 : x.args.length * 8 ≤ 140737488351232 := s3.bd
    refine gy rfl rfl (fun _ _ _ h => h) (y_len ts_36 (by rw [h101]; rfl) rfl) (gy rfl rfl (fun _ _ _ h => h) (ym (by rw [h101]; rfl) rfl) (gy rfl rfl (fun _ _ _ h => h) (yn (by rw [h101]; rfl) rfl) (gy rfl rfl (fun _ _ _ h => h) (ya tf_61_1 (by rw [h101]; rfl) rfl) (gy rfl rfl (fun _ _ _ h => h) (yl tl_58 (by rw [h101]; rfl) rfl (fun _ h => at112.cell h 1 rfl)) (gy rfl rfl (fun _ _ _ h => h) (yn (by rw [h101]; rfl) rfl) (gy rfl rfl (fun _ _ _ h => h) (ya tf_24_0 (by rw [h101]; rfl) rfl) (gy rfl rfl (fun _ _ _ h => h) (yl tl_22 (by rw [h101]; rfl) rfl (fun _ h => at116.cell h 0 rfl)) (gy rfl rfl (fun _ _ _ h => h) (ym (by rw [h101]; rfl) rfl) (gy rfl rfl (fun _ _ _ h => h) (yn (by rw [h101]; rfl) rfl) ?_)))))))))
    refine gy rfl rfl (fun _ _ _ h => h) (ya tf_38_4 (by rw [h101]; rfl) rfl) (gy rfl rfl (fun _ _ _ h => h) (yl tl_3 (by rw [h101]; rfl) rfl (fun _ h => at4.cell h 4 rfl)) ?_)
    obtain ⟨p119, rfl, _⟩ := RdS.get s115 x.k.toNat (by omega)
    have hO : Own w103 M (bs) := by assumption
    have q120 : PAt M (p119.add (x.k.toNat * 3)) (nth s.p.val.funcs x.k.toNat) := RdS.at s115 x.k.toNat (by omega)
    refine gy rfl rfl (fun _ _ _ h => h) (yi ts_22 (by rw [h101]; rfl) rfl rfl (by omega) (by omega)) (gy rfl rfl (fun _ _ _ h => h) (ya tf_44_0 (by rw [h101]; rfl) rfl) ?_)
    obtain ⟨_, at124, b121, c122, rfl, s123⟩ := id q120
    refine gy rfl rfl (fun _ _ _ h => h) (yl tl_3 (by rw [h101]; rfl) rfl (fun _ h => at124.cell h 0 rfl)) (gy rfl rfl (fun _ _ _ h => h) (ye (by rw [h101]; rfl) rfl rfl) (gy rfl rfl (fun _ _ _ h => h) (pt tz (by rw [h101]; rfl) rfl) (ha rfl rfl (fun _ _ _ h => h) rfl (gd (ez (E' := [(1, .pointer (some p_x)), (4, .bool (decide ((x.args.length : Int) = (nth s.p.val.funcs x.k.toNat).args)))]) ⟨rfl, rfl, tz⟩ (et (ct (eg (ew' ?_)))))))))
    refine er (.inl rfl) rfl rfl ?_
    refine Ret.mk (mr _) hO (congrArg Value.bool ?_)
    (first | rfl | (simp_all [kB]; done) | omega | grind [kB])
   have h125 : ¬ (x.k < (s.p.val.funcs.length : Int)) := oq h101
   obtain ⟨w126, hO, ew127⟩ : ∃ w', Own w' M (bs) ∧ { w with drawn := w.drawn + 1 } = w' := ⟨_, hO.drawn _, rfl⟩
   refine cw (S := fun w => Own w M (bs)) (.take 0 (.take 1 (.take 2 (.take 3 (.take 4 (.take 5 (.take 6 (.take 7 (.take 8 (.take 9 (.take 10 (.take 11 (.take 12 (.take 13 (.take 14 (.take 15 (.take 16 (.take 17 (.take 18 (.take 19 (.take 20 (.take 21 (.take 22 (.take 23 (.take 24 (.take 25 (.take 26 (.take 27 (.take 28 (.take 29 (.take 30 (.take 31 (.take 32 (.take 33 (.take 34 (.take 35 (.take 36 (.take 37 (.take 38 (.take 39 (.take 40 (.take 41 (.take 42 .done))))))))))))))))))))))))))))))))))))))))))) 43 tm (by kernel_rfl) ew127 hO (hm rfl rfl (fun _ _ _ h => h) rfl (hn rfl rfl (fun _ _ _ h => h) rfl (hfa tf_38_4 rfl rfl (fun _ _ _ h => h) rfl (hlc tl_3 at4 4 rfl rfl rfl (fun _ _ _ h => h) rfl (gy rfl rfl (fun _ _ _ h => h) (y_ge tz rfl rfl) (hm rfl rfl (fun _ _ _ h => h) rfl (gy rfl rfl (fun _ _ _ h => h) (ym (by rw [h97]; rfl) rfl) (gy rfl rfl (fun _ _ _ h => h) (yn (by rw [h97]; rfl) rfl) (gy rfl rfl (fun _ _ _ h => h) (ya tf_38_4 (by rw [h97]; rfl) rfl) ?_)))))))))
   refine gy rfl rfl (fun _ _ _ h => h) (yl tl_3 (by rw [h97]; rfl) rfl (fun _ h => at4.cell h 4 rfl)) (gy rfl rfl (fun _ _ _ h => h) (ym (by rw [h97]; rfl) rfl) (gy rfl rfl (fun _ _ _ h => h) (yn (by rw [h97]; rfl) rfl) (gy rfl rfl (fun _ _ _ h => h) (ya tf_61_1 (by rw [h97]; rfl) rfl) ?_)))
   obtain ⟨_, at135, p128, p130, b132, c133, rfl, q129, q131, s134⟩ := id h_s
   refine gy rfl rfl (fun _ _ _ h => h) (yl tl_58 (by rw [h97]; rfl) rfl (fun _ h => at135.cell h 1 rfl)) (gy rfl rfl (fun _ _ _ h => h) (yn (by rw [h97]; rfl) rfl) (gy rfl rfl (fun _ _ _ h => h) (ya tf_24_0 (by rw [h97]; rfl) rfl) ?_))
   obtain ⟨_, at139, b136, c137, rfl, s138⟩ := id q131
   refine gy rfl rfl (fun _ _ _ h => h) (yl tl_22 (by rw [h97]; rfl) rfl (fun _ h => at139.cell h 0 rfl)) ?_
   have bd140 : s.p.val.funcs.length * 40 ≤ 140737488351232 := s138.bd
   refine gy rfl rfl (fun _ _ _ h => h) (y_len ts_22 (by rw [h97]; rfl) rfl) (gy rfl rfl (fun _ _ _ h => h) (yv (by rw [h97]; rfl) rfl rfl) (gy rfl rfl (fun _ _ _ h => h) (pt tz (by rw [h97]; rfl) rfl) (hm rfl rfl (fun _ _ _ h => h) rfl (gy rfl rfl (fun _ _ _ h => h) (ek (by rw [h101]; rfl)) (gy rfl rfl (fun _ _ _ h => h) (ek (by rw [h101]; rfl)) (gy rfl rfl (fun _ _ _ h => h) (ek (by rw [h101]; rfl)) (gy rfl rfl (fun _ _ _ h => h) (ek (by rw [h101]; rfl)) (gy rfl rfl (fun _ _ _ h => h) (ek (by rw [h101]; rfl)) (gy rfl rfl (fun _ _ _ h => h) (ek (by rw [h101]; rfl)) ?_)))))))))
   refine gy rfl rfl (fun _ _ _ h => h) (ek (by rw [h101]; rfl)) (gy rfl rfl (fun _ _ _ h => h) (ek (by rw [h101]; rfl)) (gy rfl rfl (fun _ _ _ h => h) (ek (by rw [h101]; rfl)) (gy rfl rfl (fun _ _ _ h => h) (ek (by rw [h101]; rfl)) (gy rfl rfl (fun _ _ _ h => h) (ek (by rw [h101]; rfl)) (gy rfl rfl (fun _ _ _ h => h) (ek (by rw [h101]; rfl)) (gy rfl rfl (fun _ _ _ h => h) (ek (by rw [h101]; rfl)) (gy rfl rfl (fun _ _ _ h => h) (ek (by rw [h101]; rfl)) (gy rfl rfl (fun _ _ _ h => h) (ek (by rw [h101]; rfl)) (gy rfl rfl (fun _ _ _ h => h) (ek (by rw [h101]; rfl)) ?_)))))))))
   refine gy rfl rfl (fun _ _ _ h => h) (ek (by rw [h101]; rfl)) (gy rfl rfl (fun _ _ _ h => h) (ek (by rw [h101]; rfl)) (gy rfl rfl (fun _ _ _ h => h) (ek (by rw [h101]; rfl)) (gy rfl rfl (fun _ _ _ h => h) (ek (by rw [h101]; rfl)) (gy rfl rfl (fun _ _ _ h => h) (pf tz (by rw [h101]; rfl) rfl) (ha rfl rfl (fun _ _ _ h => h) rfl (gd (ez (E' := [(1, .pointer (some p_x)), (4, .bool false)]) ⟨rfl, rfl, tz⟩ (et (ct ?_)))))))))
   refine eg (ew' (er (.inl rfl) rfl rfl ?_))
   refine Ret.mk (mr _) hO (congrArg Value.bool ?_)
   (first | rfl | (simp_all [kB]; done) | omega | grind [kB])
  have h141 : ¬ (0 ≤ x.k) := oq h97
  obtain ⟨w142, hO, ew143⟩ : ∃ w', Own w' M (bs) ∧ { w with drawn := w.drawn + 1 } = w' := ⟨_, hO.drawn _, rfl⟩
  refine cw (S := fun w => Own w M (bs)) (.take 0 (.take 1 (.take 2 (.take 3 (.take 4 (.take 5 (.take 6 (.take 7 (.take 8 (.take 9 (.take 10 (.take 11 (.take 12 (.take 13 (.take 14 (.take 15 (.take 16 (.take 17 (.take 18 (.take 19 (.take 20 (.take 21 (.take 22 (.take 23 (.take 24 (.take 25 (.take 26 (.take 27 (.take 28 (.take 29 (.take 30 (.take 31 (.take 32 (.take 33 (.take 34 (.take 35 (.take 36 (.take 37 (.take 38 (.take 39 (.take 40 (.take 41 (.take 42 .done))))))))))))))))))))))))))))))))))))))))))) 43 tm (by kernel_rfl) ew143 hO (hm rfl rfl (fun _ _ _ h => h) rfl (hn rfl rfl (fun _ _ _ h => h) rfl (hfa tf_38_4 rfl rfl (fun _ _ _ h => h) rfl (hlc tl_3 at4 4 rfl rfl rfl (fun _ _ _ h => h) rfl (gy rfl rfl (fun _ _ _ h => h) (y_ge tz rfl rfl) (hm rfl rfl (fun _ _ _ h => h) rfl (gy rfl rfl (fun _ _ _ h => h) (ek (by rw [h97]; rfl)) (gy rfl rfl (fun _ _ _ h => h) (ek (by rw [h97]; rfl)) (gy rfl rfl (fun _ _ _ h => h) (ek (by rw [h97]; rfl)) ?_)))))))))
  refine gy rfl rfl (fun _ _ _ h => h) (ek (by rw [h97]; rfl)) (gy rfl rfl (fun _ _ _ h => h) (ek (by rw [h97]; rfl)) (gy rfl rfl (fun _ _ _ h => h) (ek (by rw [h97]; rfl)) (gy rfl rfl (fun _ _ _ h => h) (ek (by rw [h97]; rfl)) (gy rfl rfl (fun _ _ _ h => h) (ek (by rw [h97]; rfl)) (gy rfl rfl (fun _ _ _ h => h) (ek (by rw [h97]; rfl)) (gy rfl rfl (fun _ _ _ h => h) (ek (by rw [h97]; rfl)) (gy rfl rfl (fun _ _ _ h => h) (ek (by rw [h97]; rfl)) (gy rfl rfl (fun _ _ _ h => h) (ek (by rw [h97]; rfl)) (gy rfl rfl (fun _ _ _ h => h) (ek (by rw [h97]; rfl)) ?_)))))))))
  refine gy rfl rfl (fun _ _ _ h => h) (pf tz (by rw [h97]; rfl) rfl) (hm rfl rfl (fun _ _ _ h => h) rfl (gy rfl rfl (fun _ _ _ h => h) (ek rfl) (gy rfl rfl (fun _ _ _ h => h) (ek rfl) (gy rfl rfl (fun _ _ _ h => h) (ek rfl) (gy rfl rfl (fun _ _ _ h => h) (ek rfl) (gy rfl rfl (fun _ _ _ h => h) (ek rfl) (gy rfl rfl (fun _ _ _ h => h) (ek rfl) (gy rfl rfl (fun _ _ _ h => h) (ek rfl) (gy rfl rfl (fun _ _ _ h => h) (ek rfl) ?_)))))))))
  refine gy rfl rfl (fun _ _ _ h => h) (ek rfl) (gy rfl rfl (fun _ _ _ h => h) (ek rfl) (gy rfl rfl (fun _ _ _ h => h) (ek rfl) (gy rfl rfl (fun _ _ _ h => h) (ek rfl) (gy rfl rfl (fun _ _ _ h => h) (ek rfl) (gy rfl rfl (fun _ _ _ h => h) (ek rfl) (gy rfl rfl (fun _ _ _ h => h) (ek rfl) (gy rfl rfl (fun _ _ _ h => h) (ek rfl) (gy rfl rfl (fun _ _ _ h => h) (ek rfl) (gy rfl rfl (fun _ _ _ h => h) (ek rfl) ?_)))))))))
  refine gy rfl rfl (fun _ _ _ h => h) (ek rfl) (gy rfl rfl (fun _ _ _ h => h) (ek rfl) (gy rfl rfl (fun _ _ _ h => h) (pf tz rfl rfl) (ha rfl rfl (fun _ _ _ h => h) rfl (gd (ez (E' := [(1, .pointer (some p_x)), (4, .bool false)]) ⟨rfl, rfl, tz⟩ (et (ct (eg (ew' ?_)))))))))
  refine er (.inl rfl) rfl rfl ?_
  refine Ret.mk (mr _) hO (congrArg Value.bool ?_)
  (first | rfl | (simp_all [kB]; done) | omega | grind [kB])
 have h144 : ¬ (x.kind = 6) := oq h93
 refine cp (ek' (et (cq (cr (mv hO rfl rfl (nc hO rfl rfl (fa tf_38_4 hO rfl rfl (lc tl_3 at4 4 rfl hO rfl rfl (ry hO rfl (ye tz rfl rfl) ?_)))))))))
 refine as_ hO rfl rfl (rj (ez (E' := [(4, .bool (decide (x.k = 0)))]) ⟨rfl, tz⟩ (et (ct (er (.inl rfl) rfl rfl ?_)))))
 refine Ret.mk (mr _) hO (congrArg Value.bool ?_)
 (first | rfl | (simp_all [kB]; done) | omega | grind [kB])

theorem c_dear {p_s : Addr} (s : Sheet) (at_ : Int) {p_x : Addr} (x : Ir) {w : World} {M : Mem} {bs : List (Nat × Obj)} (h_s : PAt M p_s s) (h_x : PAt M p_x x)  (hO : Own w M (bs)) :
    Calls Tryd.prog 32 #[.pointer (some p_s), .int .i64 at_, .pointer (some p_x)] w (Ret M bs (fun M' v => v = .bool (dearB at_ x))) := by
 refine ce (vs := [.pointer (some p_s), .int .i64 at_, .pointer (some p_x)]) (n := 58) Tryd.func32 rfl rfl rfl (cq (cr (as_ hO rfl rfl (rj (et (cq (cr (mv hO rfl rfl (nc hO rfl rfl ?_)))))))))
 refine fa tf_38_0 hO rfl rfl ?_
 obtain ⟨_, at4, b1, c2, rfl, s3⟩ := id h_x
 refine lc tl_3 at4 0 rfl hO rfl rfl (ry hO rfl (ye tz rfl rfl) (mv hO rfl rfl ?_))
 rcases bt (decide (x.kind = 6)) with h5 | h5
 ·
  have h6 : x.kind = 6 := ot h5
  refine ry hO rfl (ek (by rw [h5]; rfl)) (ry hO rfl (ek (by rw [h5]; rfl)) (ry hO rfl (ek (by rw [h5]; rfl)) (ry hO rfl (ek (by rw [h5]; rfl)) (ry hO rfl (ek (by rw [h5]; rfl)) (ry hO rfl (pt tz (by rw [h5]; rfl) rfl) (mv hO rfl rfl (ry hO rfl (ek rfl) (ry hO rfl (ek rfl) (ry hO rfl (ek rfl) ?_)))))))))
  refine ry hO rfl (ek rfl) (ry hO rfl (ek rfl) (ry hO rfl (ek rfl) (ry hO rfl (yu rfl) (ry hO rfl (yu rfl) (ry hO rfl (yu rfl) (ry hO rfl (yu rfl) (ry hO rfl (yu rfl) (ry hO rfl (yu rfl) (ry hO rfl (ek rfl) ?_)))))))))
  refine ry hO rfl (pt tz rfl rfl) (as_ hO rfl rfl (rj (ez (E' := [(2, .pointer (some p_x)), (6, .bool false), (7, .bool true)]) ⟨rfl, rfl, rfl, tz⟩ (et (cq (cr (mv hO rfl rfl (nc hO rfl rfl (fa tf_38_6 hO rfl rfl ?_)))))))))
  refine lc tl_3 at4 6 rfl hO rfl rfl (ry hO rfl (y_le tz rfl rfl) (mv hO rfl rfl ?_))
  rcases bt (decide (x.cost ≤ 256)) with h7 | h7
  ·
   have h8 : x.cost ≤ 256 := ot h7
   refine ry hO rfl (ym (by rw [h7]; rfl) rfl) (ry hO rfl (yn (by rw [h7]; rfl) rfl) (ry hO rfl (ya tf_38_6 (by rw [h7]; rfl) rfl) (ry hO rfl (yl tl_3 (by rw [h7]; rfl) rfl (fun _ h => at4.cell h 6 rfl)) (ry hO rfl (y_gt (by rw [h7]; rfl) rfl rfl) (ry hO rfl (ym (by rw [h7]; rfl) rfl) ?_)))))
   rcases bt (decide (0 < x.cost)) with h9 | h9
   ·
    have h10 : 0 < x.cost := ot h9
    refine ry hO rfl (ek (by rw [h9]; rfl)) (ry hO rfl (ek (by rw [h9]; rfl)) (ry hO rfl (ek (by rw [h9]; rfl)) (ry hO rfl (ek (by rw [h9]; rfl)) (ry hO rfl (ek (by rw [h9]; rfl)) (ry hO rfl (ek (by rw [h9]; rfl)) (ry hO rfl (yu rfl) (ry hO rfl (yu rfl) (ry hO rfl (ek (by rw [h9]; rfl)) (ry hO rfl (pt (by rw [h7]; rfl) (by rw [h9]; rfl) rfl) ?_)))))))))
    refine ry hO rfl (pt tz (by rw [h7]; rfl) rfl) (as_ hO rfl rfl (rj (ez (E' := [(6, .bool true)]) ⟨rfl, tz⟩ (et (ct (er (.inl rfl) rfl rfl ?_))))))
    refine Ret.mk (mr _) hO (congrArg Value.bool ?_)
    (first | rfl | (simp_all [dearB]; done) | omega | grind [dearB])
   have h11 : ¬ (0 < x.cost) := oq h9
   refine ry hO rfl (ym (by rw [h9]; rfl) rfl) (ry hO rfl (yn (by rw [h9]; rfl) rfl) (ry hO rfl (ya tf_38_6 (by rw [h9]; rfl) rfl) (ry hO rfl (yl tl_3 (by rw [h9]; rfl) rfl (fun _ h => at4.cell h 6 rfl)) (ry hO rfl (ye (by rw [h9]; rfl) rfl rfl) (ry hO rfl (ym (by rw [h9]; rfl) rfl) ?_)))))
   rcases bt (decide (x.cost = 0)) with h12 | h12
   ·
    have h13 : x.cost = 0 := ot h12
    refine ry hO rfl (ym (by rw [h12]; rfl) rfl) (ry hO rfl (y_not' (by rw [h12]; rfl) rfl rfl) (ry hO rfl (pt (by rw [h9]; rfl) (by rw [h12]; rfl) rfl) (ry hO rfl (pf (by rw [h7]; rfl) (by rw [h9]; rfl) rfl) (ry hO rfl (pt tz (by rw [h7]; rfl) rfl) (as_ hO rfl rfl (rj (ez (E' := [(6, .bool false)]) ⟨rfl, tz⟩ (et (ct ?_)))))))))
    refine er (.inl rfl) rfl rfl ?_
    refine Ret.mk (mr _) hO (congrArg Value.bool ?_)
    (first | rfl | (simp_all [dearB]; done) | omega | grind [dearB])
   have h14 : ¬ (x.cost = 0) := oq h12
   refine ry hO rfl (ek (by rw [h12]; rfl)) (ry hO rfl (ek (by rw [h12]; rfl)) (ry hO rfl (pf (by rw [h9]; rfl) (by rw [h12]; rfl) rfl) (ry hO rfl (pf (by rw [h7]; rfl) (by rw [h9]; rfl) rfl) (ry hO rfl (pt tz (by rw [h7]; rfl) rfl) (as_ hO rfl rfl (rj (ez (E' := [(6, .bool false)]) ⟨rfl, tz⟩ (et (ct ?_)))))))))
   refine er (.inl rfl) rfl rfl ?_
   refine Ret.mk (mr _) hO (congrArg Value.bool ?_)
   (first | rfl | (simp_all [dearB]; done) | omega | grind [dearB])
  have h15 : ¬ (x.cost ≤ 256) := oq h7
  refine ry hO rfl (ek (by rw [h7]; rfl)) (ry hO rfl (ek (by rw [h7]; rfl)) (ry hO rfl (ek (by rw [h7]; rfl)) (ry hO rfl (ek (by rw [h7]; rfl)) (ry hO rfl (ek (by rw [h7]; rfl)) (ry hO rfl (ek (by rw [h7]; rfl)) (ry hO rfl (yu rfl) (ry hO rfl (yu rfl) (ry hO rfl (yu rfl) (ry hO rfl (yu rfl) ?_)))))))))
  refine ry hO rfl (yu rfl) (ry hO rfl (yu rfl) (ry hO rfl (yu rfl) (ry hO rfl (yu rfl) (ry hO rfl (yu rfl) (ry hO rfl (ek (by rw [h7]; rfl)) (ry hO rfl (pf tz (by rw [h7]; rfl) rfl) (as_ hO rfl rfl (rj (ez (E' := [(6, .bool false)]) ⟨rfl, tz⟩ ?_)))))))))
  refine et (ct (er (.inl rfl) rfl rfl ?_))
  refine Ret.mk (mr _) hO (congrArg Value.bool ?_)
  (first | rfl | (simp_all [dearB]; done) | omega | grind [dearB])
 have h16 : ¬ (x.kind = 6) := oq h5
 refine ry hO rfl (ym (by rw [h5]; rfl) rfl) (ry hO rfl (yn (by rw [h5]; rfl) rfl) (ry hO rfl (ya tf_38_0 (by rw [h5]; rfl) rfl) (ry hO rfl (yl tl_3 (by rw [h5]; rfl) rfl (fun _ h => at4.cell h 0 rfl)) (ry hO rfl (ye (by rw [h5]; rfl) rfl rfl) (ry hO rfl (pf tz (by rw [h5]; rfl) rfl) (mv hO rfl rfl ?_))))))
 rcases bt (decide (x.kind = 7)) with h17 | h17
 ·
  have h18 : x.kind = 7 := ot h17
  refine ry hO rfl (ek (by rw [h17]; rfl)) (ry hO rfl (ek (by rw [h17]; rfl)) (ry hO rfl (ek (by rw [h17]; rfl)) (ry hO rfl (ek (by rw [h17]; rfl)) (ry hO rfl (ek (by rw [h17]; rfl)) (ry hO rfl (ek (by rw [h17]; rfl)) (ry hO rfl (yu rfl) (ry hO rfl (yu rfl) (ry hO rfl (yu rfl) (ry hO rfl (yu rfl) ?_)))))))))
  refine ry hO rfl (yu rfl) (ry hO rfl (yu rfl) (ry hO rfl (ek (by rw [h17]; rfl)) (ry hO rfl (pt tz (by rw [h17]; rfl) rfl) (as_ hO rfl rfl (rj (ez (E' := [(2, .pointer (some p_x)), (6, .bool false), (7, .bool true)]) ⟨rfl, rfl, rfl, tz⟩ (et (cq (cr ?_)))))))))
  refine mv hO rfl rfl (nc hO rfl rfl (fa tf_38_6 hO rfl rfl (lc tl_3 at4 6 rfl hO rfl rfl (ry hO rfl (y_le tz rfl rfl) (mv hO rfl rfl ?_)))))
  rcases bt (decide (x.cost ≤ 256)) with h19 | h19
  ·
   have h20 : x.cost ≤ 256 := ot h19
   refine ry hO rfl (ym (by rw [h19]; rfl) rfl) (ry hO rfl (yn (by rw [h19]; rfl) rfl) (ry hO rfl (ya tf_38_6 (by rw [h19]; rfl) rfl) (ry hO rfl (yl tl_3 (by rw [h19]; rfl) rfl (fun _ h => at4.cell h 6 rfl)) (ry hO rfl (y_gt (by rw [h19]; rfl) rfl rfl) (ry hO rfl (ym (by rw [h19]; rfl) rfl) ?_)))))
   rcases bt (decide (0 < x.cost)) with h21 | h21
   ·
    have h22 : 0 < x.cost := ot h21
    refine ry hO rfl (ek (by rw [h21]; rfl)) (ry hO rfl (ek (by rw [h21]; rfl)) (ry hO rfl (ek (by rw [h21]; rfl)) (ry hO rfl (ek (by rw [h21]; rfl)) (ry hO rfl (ek (by rw [h21]; rfl)) (ry hO rfl (ek (by rw [h21]; rfl)) (ry hO rfl (yu rfl) (ry hO rfl (yu rfl) (ry hO rfl (ek (by rw [h21]; rfl)) (ry hO rfl (pt (by rw [h19]; rfl) (by rw [h21]; rfl) rfl) ?_)))))))))
    refine ry hO rfl (pt tz (by rw [h19]; rfl) rfl) (as_ hO rfl rfl (rj (ez (E' := [(6, .bool true)]) ⟨rfl, tz⟩ (et (ct (er (.inl rfl) rfl rfl ?_))))))
    refine Ret.mk (mr _) hO (congrArg Value.bool ?_)
    (first | rfl | (simp_all [dearB]; done) | omega | grind [dearB])
   have h23 : ¬ (0 < x.cost) := oq h21
   refine ry hO rfl (ym (by rw [h21]; rfl) rfl) (ry hO rfl (yn (by rw [h21]; rfl) rfl) (ry hO rfl (ya tf_38_6 (by rw [h21]; rfl) rfl) (ry hO rfl (yl tl_3 (by rw [h21]; rfl) rfl (fun _ h => at4.cell h 6 rfl)) (ry hO rfl (ye (by rw [h21]; rfl) rfl rfl) (ry hO rfl (ym (by rw [h21]; rfl) rfl) ?_)))))
   rcases bt (decide (x.cost = 0)) with h24 | h24
   ·
    have h25 : x.cost = 0 := ot h24
    refine ry hO rfl (ym (by rw [h24]; rfl) rfl) (ry hO rfl (y_not' (by rw [h24]; rfl) rfl rfl) (ry hO rfl (pt (by rw [h21]; rfl) (by rw [h24]; rfl) rfl) (ry hO rfl (pf (by rw [h19]; rfl) (by rw [h21]; rfl) rfl) (ry hO rfl (pt tz (by rw [h19]; rfl) rfl) (as_ hO rfl rfl (rj (ez (E' := [(6, .bool false)]) ⟨rfl, tz⟩ (et (ct ?_)))))))))
    refine er (.inl rfl) rfl rfl ?_
    refine Ret.mk (mr _) hO (congrArg Value.bool ?_)
    (first | rfl | (simp_all [dearB]; done) | omega | grind [dearB])
   have h26 : ¬ (x.cost = 0) := oq h24
   refine ry hO rfl (ek (by rw [h24]; rfl)) (ry hO rfl (ek (by rw [h24]; rfl)) (ry hO rfl (pf (by rw [h21]; rfl) (by rw [h24]; rfl) rfl) (ry hO rfl (pf (by rw [h19]; rfl) (by rw [h21]; rfl) rfl) (ry hO rfl (pt tz (by rw [h19]; rfl) rfl) (as_ hO rfl rfl (rj (ez (E' := [(6, .bool false)]) ⟨rfl, tz⟩ (et (ct ?_)))))))))
   refine er (.inl rfl) rfl rfl ?_
   refine Ret.mk (mr _) hO (congrArg Value.bool ?_)
   (first | rfl | (simp_all [dearB]; done) | omega | grind [dearB])
  have h27 : ¬ (x.cost ≤ 256) := oq h19
  refine ry hO rfl (ek (by rw [h19]; rfl)) (ry hO rfl (ek (by rw [h19]; rfl)) (ry hO rfl (ek (by rw [h19]; rfl)) (ry hO rfl (ek (by rw [h19]; rfl)) (ry hO rfl (ek (by rw [h19]; rfl)) (ry hO rfl (ek (by rw [h19]; rfl)) (ry hO rfl (yu rfl) (ry hO rfl (yu rfl) (ry hO rfl (yu rfl) (ry hO rfl (yu rfl) ?_)))))))))
  refine ry hO rfl (yu rfl) (ry hO rfl (yu rfl) (ry hO rfl (yu rfl) (ry hO rfl (yu rfl) (ry hO rfl (yu rfl) (ry hO rfl (ek (by rw [h19]; rfl)) (ry hO rfl (pf tz (by rw [h19]; rfl) rfl) (as_ hO rfl rfl (rj (ez (E' := [(6, .bool false)]) ⟨rfl, tz⟩ ?_)))))))))
  refine et (ct (er (.inl rfl) rfl rfl ?_))
  refine Ret.mk (mr _) hO (congrArg Value.bool ?_)
  (first | rfl | (simp_all [dearB]; done) | omega | grind [dearB])
 have h28 : ¬ (x.kind = 7) := oq h17
 refine ry hO rfl (ym (by rw [h17]; rfl) rfl) (ry hO rfl (yn (by rw [h17]; rfl) rfl) (ry hO rfl (ya tf_38_0 (by rw [h17]; rfl) rfl) (ry hO rfl (yl tl_3 (by rw [h17]; rfl) rfl (fun _ h => at4.cell h 0 rfl)) (rd' (by rw [h17]; rfl) (oc (vs := [.int .i64 x.kind]) tcall_53 rfl rfl (c_Goes x.kind  hO) ?_)))))
 rintro _ w29 ⟨M30, _, le31, hO, rfl, rfl⟩
 refine ⟨_, rfl, ?_⟩
 have h32 := h_s.mono le31
 have h33 := h_x.mono le31
 have at34 := at4.mono le31
 have s35 := s3.mono le31
 have hle36 := le31
 refine ry hO rfl (ym (by rw [h17]; rfl) rfl) ?_
 rcases bt (goesB x.kind) with h37 | h37
 ·
  refine ry hO rfl (ym (by rw [h37]; rfl) rfl) (ry hO rfl (yn (by rw [h37]; rfl) rfl) (ry hO rfl (ya tf_38_4 (by rw [h37]; rfl) rfl) (ry hO rfl (yl tl_3 (by rw [h37]; rfl) rfl (fun _ h => at34.cell h 4 rfl)) (ry hO rfl (ym (by rw [h37]; rfl) rfl) (ry hO rfl (y_le (by rw [h37]; rfl) rfl rfl) (ry hO rfl (pt (by rw [h17]; rfl) (by rw [h37]; rfl) rfl) (ry hO rfl (pf tz (by rw [h17]; rfl) rfl) (as_ hO rfl rfl (rj ?_)))))))))
  refine ez (E' := [(2, .pointer (some p_x)), (6, .bool false), (7, .bool (decide (x.k ≤ at_)))]) ⟨rfl, rfl, rfl, tz⟩ (et (cq (cr (mv hO rfl rfl (nc hO rfl rfl (fa tf_38_6 hO rfl rfl (lc tl_3 at34 6 rfl hO rfl rfl (ry hO rfl (y_le tz rfl rfl) (mv hO rfl rfl ?_)))))))))
  rcases bt (decide (x.cost ≤ 256)) with h38 | h38
  ·
   have h39 : x.cost ≤ 256 := ot h38
   refine ry hO rfl (ym (by rw [h38]; rfl) rfl) (ry hO rfl (yn (by rw [h38]; rfl) rfl) (ry hO rfl (ya tf_38_6 (by rw [h38]; rfl) rfl) (ry hO rfl (yl tl_3 (by rw [h38]; rfl) rfl (fun _ h => at34.cell h 6 rfl)) (ry hO rfl (y_gt (by rw [h38]; rfl) rfl rfl) (ry hO rfl (ym (by rw [h38]; rfl) rfl) ?_)))))
   rcases bt (decide (0 < x.cost)) with h40 | h40
   ·
    have h41 : 0 < x.cost := ot h40
    refine ry hO rfl (ek (by rw [h40]; rfl)) (ry hO rfl (ek (by rw [h40]; rfl)) (ry hO rfl (ek (by rw [h40]; rfl)) (ry hO rfl (ek (by rw [h40]; rfl)) (ry hO rfl (ek (by rw [h40]; rfl)) (ry hO rfl (ek (by rw [h40]; rfl)) (ry hO rfl (yu rfl) (ry hO rfl (yu rfl) (ry hO rfl (ek (by rw [h40]; rfl)) (ry hO rfl (pt (by rw [h38]; rfl) (by rw [h40]; rfl) rfl) ?_)))))))))
    refine ry hO rfl (pt tz (by rw [h38]; rfl) rfl) (as_ hO rfl rfl (rj (ez (E' := [(6, .bool true)]) ⟨rfl, tz⟩ (et (ct (er (.inl rfl) rfl rfl ?_))))))
    refine Ret.mk hle36 hO (congrArg Value.bool ?_)
    (first | rfl | (simp_all [dearB]; done) | omega | grind [dearB])
   have h42 : ¬ (0 < x.cost) := oq h40
   refine ry hO rfl (ym (by rw [h40]; rfl) rfl) (ry hO rfl (yn (by rw [h40]; rfl) rfl) (ry hO rfl (ya tf_38_6 (by rw [h40]; rfl) rfl) (ry hO rfl (yl tl_3 (by rw [h40]; rfl) rfl (fun _ h => at34.cell h 6 rfl)) (ry hO rfl (ye (by rw [h40]; rfl) rfl rfl) (ry hO rfl (ym (by rw [h40]; rfl) rfl) ?_)))))
   rcases bt (decide (x.cost = 0)) with h43 | h43
   ·
    have h44 : x.cost = 0 := ot h43
    refine ry hO rfl (ym (by rw [h43]; rfl) rfl) (ry hO rfl (yt (by rw [h43]; rfl) rfl) (ry hO rfl (pt (by rw [h40]; rfl) (by rw [h43]; rfl) rfl) (ry hO rfl (pf (by rw [h38]; rfl) (by rw [h40]; rfl) rfl) (ry hO rfl (pt tz (by rw [h38]; rfl) rfl) (as_ hO rfl rfl (rj (ez (E' := [(6, .bool (!(decide (x.k ≤ at_))))]) ⟨rfl, tz⟩ (et (ct ?_)))))))))
    refine er (.inl rfl) rfl rfl ?_
    refine Ret.mk hle36 hO (congrArg Value.bool ?_)
    (first | rfl | (simp_all [dearB]; done) | omega | grind [dearB])
   have h45 : ¬ (x.cost = 0) := oq h43
   refine ry hO rfl (ek (by rw [h43]; rfl)) (ry hO rfl (ek (by rw [h43]; rfl)) (ry hO rfl (pf (by rw [h40]; rfl) (by rw [h43]; rfl) rfl) (ry hO rfl (pf (by rw [h38]; rfl) (by rw [h40]; rfl) rfl) (ry hO rfl (pt tz (by rw [h38]; rfl) rfl) (as_ hO rfl rfl (rj (ez (E' := [(6, .bool false)]) ⟨rfl, tz⟩ (et (ct ?_)))))))))
   refine er (.inl rfl) rfl rfl ?_
   refine Ret.mk hle36 hO (congrArg Value.bool ?_)
   (first | rfl | (simp_all [dearB]; done) | omega | grind [dearB])
  have h46 : ¬ (x.cost ≤ 256) := oq h38
  refine ry hO rfl (ek (by rw [h38]; rfl)) (ry hO rfl (ek (by rw [h38]; rfl)) (ry hO rfl (ek (by rw [h38]; rfl)) (ry hO rfl (ek (by rw [h38]; rfl)) (ry hO rfl (ek (by rw [h38]; rfl)) (ry hO rfl (ek (by rw [h38]; rfl)) (ry hO rfl (yu rfl) (ry hO rfl (yu rfl) (ry hO rfl (yu rfl) (ry hO rfl (yu rfl) ?_)))))))))
  refine ry hO rfl (yu rfl) (ry hO rfl (yu rfl) (ry hO rfl (yu rfl) (ry hO rfl (yu rfl) (ry hO rfl (yu rfl) (ry hO rfl (ek (by rw [h38]; rfl)) (ry hO rfl (pf tz (by rw [h38]; rfl) rfl) (as_ hO rfl rfl (rj (ez (E' := [(6, .bool false)]) ⟨rfl, tz⟩ ?_)))))))))
  refine et (ct (er (.inl rfl) rfl rfl ?_))
  refine Ret.mk hle36 hO (congrArg Value.bool ?_)
  (first | rfl | (simp_all [dearB]; done) | omega | grind [dearB])
 refine ry hO rfl (ek (by rw [h37]; rfl)) (ry hO rfl (ek (by rw [h37]; rfl)) (ry hO rfl (ek (by rw [h37]; rfl)) (ry hO rfl (ek (by rw [h37]; rfl)) (ry hO rfl (ek (by rw [h37]; rfl)) (ry hO rfl (ek (by rw [h37]; rfl)) (ry hO rfl (pf (by rw [h17]; rfl) (by rw [h37]; rfl) rfl) (ry hO rfl (pf tz (by rw [h17]; rfl) rfl) (as_ hO rfl rfl (rj ?_)))))))))
 refine ez (E' := [(2, .pointer (some p_x)), (6, .bool false), (7, .bool false)]) ⟨rfl, rfl, rfl, tz⟩ (et (cq (cr (mv hO rfl rfl (nc hO rfl rfl (fa tf_38_6 hO rfl rfl (lc tl_3 at34 6 rfl hO rfl rfl (ry hO rfl (y_le tz rfl rfl) (mv hO rfl rfl ?_)))))))))
 rcases bt (decide (x.cost ≤ 256)) with h47 | h47
 ·
  have h48 : x.cost ≤ 256 := ot h47
  refine ry hO rfl (ym (by rw [h47]; rfl) rfl) (ry hO rfl (yn (by rw [h47]; rfl) rfl) (ry hO rfl (ya tf_38_6 (by rw [h47]; rfl) rfl) (ry hO rfl (yl tl_3 (by rw [h47]; rfl) rfl (fun _ h => at34.cell h 6 rfl)) (ry hO rfl (y_gt (by rw [h47]; rfl) rfl rfl) (ry hO rfl (ym (by rw [h47]; rfl) rfl) ?_)))))
  rcases bt (decide (0 < x.cost)) with h49 | h49
  ·
   have h50 : 0 < x.cost := ot h49
   refine ry hO rfl (ek (by rw [h49]; rfl)) (ry hO rfl (ek (by rw [h49]; rfl)) (ry hO rfl (ek (by rw [h49]; rfl)) (ry hO rfl (ek (by rw [h49]; rfl)) (ry hO rfl (ek (by rw [h49]; rfl)) (ry hO rfl (ek (by rw [h49]; rfl)) (ry hO rfl (yu rfl) (ry hO rfl (yu rfl) (ry hO rfl (ek (by rw [h49]; rfl)) (ry hO rfl (pt (by rw [h47]; rfl) (by rw [h49]; rfl) rfl) ?_)))))))))
   refine ry hO rfl (pt tz (by rw [h47]; rfl) rfl) (as_ hO rfl rfl (rj (ez (E' := [(6, .bool true)]) ⟨rfl, tz⟩ (et (ct (er (.inl rfl) rfl rfl ?_))))))
   refine Ret.mk hle36 hO (congrArg Value.bool ?_)
   (first | rfl | (simp_all [dearB]; done) | omega | grind [dearB])
  have h51 : ¬ (0 < x.cost) := oq h49
  refine ry hO rfl (ym (by rw [h49]; rfl) rfl) (ry hO rfl (yn (by rw [h49]; rfl) rfl) (ry hO rfl (ya tf_38_6 (by rw [h49]; rfl) rfl) (ry hO rfl (yl tl_3 (by rw [h49]; rfl) rfl (fun _ h => at34.cell h 6 rfl)) (ry hO rfl (ye (by rw [h49]; rfl) rfl rfl) (ry hO rfl (ym (by rw [h49]; rfl) rfl) ?_)))))
  rcases bt (decide (x.cost = 0)) with h52 | h52
  ·
   have h53 : x.cost = 0 := ot h52
   refine ry hO rfl (ym (by rw [h52]; rfl) rfl) (ry hO rfl (y_not' (by rw [h52]; rfl) rfl rfl) (ry hO rfl (pt (by rw [h49]; rfl) (by rw [h52]; rfl) rfl) (ry hO rfl (pf (by rw [h47]; rfl) (by rw [h49]; rfl) rfl) (ry hO rfl (pt tz (by rw [h47]; rfl) rfl) (as_ hO rfl rfl (rj (ez (E' := [(6, .bool true)]) ⟨rfl, tz⟩ (et (ct ?_)))))))))
   refine er (.inl rfl) rfl rfl ?_
   refine Ret.mk hle36 hO (congrArg Value.bool ?_)
   (first | rfl | (simp_all [dearB]; done) | omega | grind [dearB])
  have h54 : ¬ (x.cost = 0) := oq h52
  refine ry hO rfl (ek (by rw [h52]; rfl)) (ry hO rfl (ek (by rw [h52]; rfl)) (ry hO rfl (pf (by rw [h49]; rfl) (by rw [h52]; rfl) rfl) (ry hO rfl (pf (by rw [h47]; rfl) (by rw [h49]; rfl) rfl) (ry hO rfl (pt tz (by rw [h47]; rfl) rfl) (as_ hO rfl rfl (rj (ez (E' := [(6, .bool false)]) ⟨rfl, tz⟩ (et (ct ?_)))))))))
  refine er (.inl rfl) rfl rfl ?_
  refine Ret.mk hle36 hO (congrArg Value.bool ?_)
  (first | rfl | (simp_all [dearB]; done) | omega | grind [dearB])
 have h55 : ¬ (x.cost ≤ 256) := oq h47
 refine ry hO rfl (ek (by rw [h47]; rfl)) (ry hO rfl (ek (by rw [h47]; rfl)) (ry hO rfl (ek (by rw [h47]; rfl)) (ry hO rfl (ek (by rw [h47]; rfl)) (ry hO rfl (ek (by rw [h47]; rfl)) (ry hO rfl (ek (by rw [h47]; rfl)) (ry hO rfl (yu rfl) (ry hO rfl (yu rfl) (ry hO rfl (yu rfl) (ry hO rfl (yu rfl) ?_)))))))))
 refine ry hO rfl (yu rfl) (ry hO rfl (yu rfl) (ry hO rfl (yu rfl) (ry hO rfl (yu rfl) (ry hO rfl (yu rfl) (ry hO rfl (ek (by rw [h47]; rfl)) (ry hO rfl (pf tz (by rw [h47]; rfl) rfl) (as_ hO rfl rfl (rj (ez (E' := [(6, .bool false)]) ⟨rfl, tz⟩ ?_)))))))))
 refine et (ct (er (.inl rfl) rfl rfl ?_))
 refine Ret.mk hle36 hO (congrArg Value.bool ?_)
 (first | rfl | (simp_all [dearB]; done) | omega | grind [dearB])

end Go.Proofs.YtdniefnjgkhkeaaDoor
