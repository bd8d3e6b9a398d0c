/-
  Contracts of Go functions, each walked operation by operation: swage/verify.Heights, swage/verify.All.
  Conditions: as each statement says.
-/
import Derived.Test.YtdniefnjgkhkeaaDoorVf
import Derived.Test.YtdniefnjgkhkeaaDoorProg
import Derived.Test.YtdniefnjgkhkeaaDoorC1
import Derived.Test.YtdniefnjgkhkeaaDoorC2
import Derived.Test.YtdniefnjgkhkeaaDoorC3
import Derived.Test.YtdniefnjgkhkeaaDoorC4
import Derived.Test.YtdniefnjgkhkeaaDoorC5
import Derived.Test.YtdniefnjgkhkeaaDoorC6
import Derived.Test.YtdniefnjgkhkeaaDoorC7
import Derived.Test.YtdniefnjgkhkeaaDoorC8
import Derived.Test.YtdniefnjgkhkeaaDoorV2
namespace Go.Proofs.YtdniefnjgkhkeaaDoor
open Go
set_option maxRecDepth 100000
set_option linter.unusedVariables false
set_option linter.unusedSimpArgs false
theorem ta_24 : aggN Tryd.prog 24 = some 1 := by kernel_rfl
theorem tcall_29 : cl Tryd.prog 29 := ⟨_, Tryd.func29, by kernel_rfl, by kernel_rfl⟩
theorem tcall_30 : cl Tryd.prog 30 := ⟨_, Tryd.func30, by kernel_rfl, by kernel_rfl⟩
theorem tcall_48 : cl Tryd.prog 48 := ⟨_, Tryd.func48, by kernel_rfl, by kernel_rfl⟩
theorem tcall_49 : cl Tryd.prog 49 := ⟨_, Tryd.func49, by kernel_rfl, by kernel_rfl⟩
theorem tcall_50 : cl Tryd.prog 50 := ⟨_, Tryd.func50, by kernel_rfl, by kernel_rfl⟩
theorem tcall_51 : cl Tryd.prog 51 := ⟨_, Tryd.func51, by kernel_rfl, by kernel_rfl⟩
theorem tv_55 : slInfo Tryd.prog 55 = some (36, 1, 24, .slice none 0 0) := by kernel_rfl
theorem c_VHeights {vs_p : List Value} (p : Prog) (fn : Int) {w : World} {M : Mem} {bs : List (Nat × Obj)} (h_p : Rep.rd M vs_p p) (hG : Glob M)  (hO : Own w M (bs)) :
    Calls Tryd.prog 30 #[.agg vs_p.toArray, .int .i64 fn] w (Ret M bs (fun M' v => ∃ v0 v1 v2, v = .tuple #[v0, v1, v2] ∧ (∃ b c, v0 = .slice b ((ht' p fn).1).length c ∧ RdS M' b c ((ht' p fn).1)) ∧ (v1 = .int .i64 ((ht' p fn).2.1)) ∧ (v2 = .int .i64 ((ht' p fn).2.2)))) := by
 obtain ⟨b1, c2, rfl, s3⟩ := h_p
 refine ce (vs := [.agg #[.slice b1 p.funcs.length c2], .int .i64 fn]) (n := 56) Tryd.func30 rfl rfl rfl (cq (cr (rd' tz (og_box hO rfl rfl (fun b4 w5 hO => ?_)))))
 have hO : Own _ M ([(b4, .cells #[.slice b1 p.funcs.length c2] 24)] ++ bs) := hO
 refine as_ hO rfl rfl (as_ hO rfl rfl (as_ hO rfl rfl (rj (et (cq (cq (cr ?_)))))))
 obtain ⟨M6, le7, hO, hk8, hn9, hd10⟩ := Own.keeps (rs := [(b4, .cells #[.slice b1 p.funcs.length c2] 24)]) hO
 have s11 := s3.mono le7
 have hle12 := le7
 have at13 := Has.at (vs := [.slice b1 p.funcs.length c2]) hk8 rfl
 refine rd' tz (oc (vs := [.pointer (some ⟨b4, 0, none⟩)]) tcall_29 rfl rfl (c_packMay p ⟨_, at13, ⟨b1, c2, rfl, s11⟩⟩ hO) ?_)
 rintro _ w14 ⟨M15, _, le16, hO, rfl, rfl⟩
 refine ⟨_, rfl, ?_⟩
 have s17 := s11.mono le16
 have hk18 := hk8.mono le16
 have at19 := at13.mono le16
 have hle20 := m_ hle12 le16
 have kl21 := m_ le7 le16
 refine ry hO rfl (yt tz rfl) (mv hO rfl rfl ?_)
 rcases bt (!(packMay p)) with h22 | h22
 ·
  have h23 : (packMay p) = false := by simpa using h22
  refine ry hO rfl (ek (by rw [h22]; rfl)) (ry hO rfl (ek (by rw [h22]; rfl)) (ry hO rfl (pt tz (by rw [h22]; rfl) rfl) (mv hO rfl rfl (ry hO rfl (ek rfl) (ry hO rfl (ek rfl) (ry hO rfl (ek rfl) (ry hO rfl (ek rfl) (ry hO rfl (ek rfl) (ry hO rfl (pt tz rfl rfl) ?_)))))))))
  refine rj (ez (E' := [(1, .int .i64 fn), (2, .pointer (some ⟨b4, 0, none⟩)), (4, .slice none 0 0), (5, .int .i64 0), (6, .int .i64 0), (26, .bool true)]) ⟨rfl, rfl, rfl, rfl, rfl, rfl, tz⟩ (et (cv rfl (cq (cr (as_ hO rfl rfl (as_ hO rfl rfl (as_ hO rfl rfl (rj ?_)))))))))
  refine et (ct (ew' (ends_ret3 (.inl rfl) rfl rfl rfl rfl ?_)))
  refine Ret.mk hle20 hO (⟨_, _, _, rfl, ?_, ?_, ?_⟩)
  ·
   have hx24 : ([] : List Int) = (ht' p fn).1 := by rw [show ht' p fn = ([], 0, 500) from if_neg (fun q => by first | omega | simp_all)]
   exact hx24 ▸ ⟨_, _, rfl, (RdS.nil _ _ _)⟩
  ·
   refine congrArg (Value.int .i64) ?_
   rw [show ht' p fn = ([], 0, 500) from if_neg (fun q => by first | omega | simp_all)]
  ·
   refine congrArg (Value.int .i64) ?_
   rw [show ht' p fn = ([], 0, 500) from if_neg (fun q => by first | omega | simp_all)]
 have h25 : (packMay p) = true := by simpa using h22
 refine ry hO rfl (ym (by rw [h22]; rfl) rfl) (ry hO rfl (yv (by rw [h22]; rfl) rfl rfl) (ry hO rfl (pf tz (by rw [h22]; rfl) rfl) (mv hO rfl rfl ?_)))
 rcases bt (decide (fn < 0)) with h26 | h26
 ·
  have h27 : fn < 0 := ot h26
  refine ry hO rfl (ek (by rw [h26]; rfl)) (ry hO rfl (ek (by rw [h26]; rfl)) (ry hO rfl (ek (by rw [h26]; rfl)) (ry hO rfl (ek (by rw [h26]; rfl)) (ry hO rfl (ek (by rw [h26]; rfl)) (ry hO rfl (pt tz (by rw [h26]; rfl) rfl) (rj (ez (E' := [(1, .int .i64 fn), (2, .pointer (some ⟨b4, 0, none⟩)), (4, .slice none 0 0), (5, .int .i64 0), (6, .int .i64 0), (26, .bool true)]) ⟨rfl, rfl, rfl, rfl, rfl, rfl, tz⟩ (et (cv rfl ?_)))))))))
  refine cq (cr (as_ hO rfl rfl (as_ hO rfl rfl (as_ hO rfl rfl (rj (et (ct (ew' (ends_ret3 (.inl rfl) rfl rfl rfl rfl ?_)))))))))
  refine Ret.mk hle20 hO (⟨_, _, _, rfl, ?_, ?_, ?_⟩)
  ·
   have hx28 : ([] : List Int) = (ht' p fn).1 := by rw [show ht' p fn = ([], 0, 500) from if_neg (fun q => by first | omega | simp_all)]
   exact hx28 ▸ ⟨_, _, rfl, (RdS.nil _ _ _)⟩
  ·
   refine congrArg (Value.int .i64) ?_
   rw [show ht' p fn = ([], 0, 500) from if_neg (fun q => by first | omega | simp_all)]
  ·
   refine congrArg (Value.int .i64) ?_
   rw [show ht' p fn = ([], 0, 500) from if_neg (fun q => by first | omega | simp_all)]
 have h29 : ¬ (fn < 0) := oq h26
 refine ry hO rfl (ym (by rw [h26]; rfl) rfl) (ry hO rfl (yf 0 tf_24_0 rfl (by rw [h26]; rfl) rfl) (ry hO rfl (yl tl_22 (by rw [h26]; rfl) rfl (fun _ h => at19.cell h 0 rfl)) ?_))
 have bd30 : p.funcs.length * 40 ≤ 140737488351232 := s17.bd
 refine ry hO rfl (y_len ts_22 (by rw [h26]; rfl) rfl) (ry hO rfl (y_ge (by rw [h26]; rfl) rfl rfl) (ry hO rfl (pf tz (by rw [h26]; rfl) rfl) (rj (ez (E' := [(1, .int .i64 fn), (2, .pointer (some ⟨b4, 0, none⟩)), (4, .slice none 0 0), (5, .int .i64 0), (6, .int .i64 0), (26, .bool (decide ((p.funcs.length : Int) ≤ fn)))]) ⟨rfl, rfl, rfl, rfl, rfl, rfl, tz⟩ (et (cd rfl (fun h31 => ?_) (fun h31 => ?_)))))))
 ·
  have h32 : (p.funcs.length : Int) ≤ fn := ot h31
  refine cq (cr (as_ hO rfl rfl (as_ hO rfl rfl (as_ hO rfl rfl (rj (et (ct (ew' (ends_ret3 (.inl rfl) rfl rfl rfl rfl ?_)))))))))
  refine Ret.mk hle20 hO (⟨_, _, _, rfl, ?_, ?_, ?_⟩)
  ·
   have hx33 : ([] : List Int) = (ht' p fn).1 := by rw [show ht' p fn = ([], 0, 500) from if_neg (fun q => by first | omega | simp_all)]
   exact hx33 ▸ ⟨_, _, rfl, (RdS.nil _ _ _)⟩
  ·
   refine congrArg (Value.int .i64) ?_
   rw [show ht' p fn = ([], 0, 500) from if_neg (fun q => by first | omega | simp_all)]
  ·
   refine congrArg (Value.int .i64) ?_
   rw [show ht' p fn = ([], 0, 500) from if_neg (fun q => by first | omega | simp_all)]
 have h34 : ¬ ((p.funcs.length : Int) ≤ fn) := oq h31
 refine cp (et (cq (cr ?_)))
 have hin : packMay p = true ∧ 0 ≤ fn ∧ fn < p.funcs.length := ⟨by simp_all, by omega, by omega⟩
 have hcm := funcMay_code (packMay_func hin.1 (k := fn.toNat) (by omega))
 refine fb 0 tf_24_0 rfl hO rfl rfl (lc tl_22 at19 0 rfl hO rfl rfl (mv hO rfl rfl ?_))
 obtain ⟨p35, rfl, _⟩ := RdS.get s17 fn.toNat (by omega)
 have hO : Own w14 M15 (bs) := by assumption
 have q36 : PAt M15 (p35.add (fn.toNat * 3)) (nth p.funcs fn.toNat) := RdS.at s17 fn.toNat (by omega)
 refine ry hO rfl (yi ts_22 tz rfl rfl (by omega) (by omega)) (as_ hO rfl rfl (rj (et (cq (cr (mv hO rfl rfl (nc hO rfl rfl ?_)))))))
 obtain ⟨_, at40, b37, c38, rfl, s39⟩ := id q36
 refine ry hO rfl (yq [.int .i64 ((nth p.funcs fn.toNat).args), .int .i64 ((nth p.funcs fn.toNat).locals), .slice b37 (((nth p.funcs fn.toNat).code).length) c38] ta_44 rfl tz rfl (fun _ h j _ e => at40.cell h j e)) ?_
 have hc44 := (c_flowReached (vs_f := [.int .i64 ((nth p.funcs fn.toNat).args), .int .i64 ((nth p.funcs fn.toNat).locals), .slice b37 (((nth p.funcs fn.toNat).code).length) c38]) (nth p.funcs fn.toNat) ⟨b37, c38, rfl, s39⟩ hO)
 rw [show (flowReached (nth p.funcs fn.toNat)) = (reachedL (nth p.funcs fn.toNat), (0 : Int)) by exact if_pos hcm] at hc44
 refine rd' tz (oc (vs := [.agg #[.int .i64 ((nth p.funcs fn.toNat).args), .int .i64 ((nth p.funcs fn.toNat).locals), .slice b37 (((nth p.funcs fn.toNat).code).length) c38]]) tcall_48 rfl rfl hc44 ?_)
 rintro _ w41 ⟨M42, _, le43, hO, rfl, ⟨_, _, rfl, ⟨b45, c46, rfl, s47⟩, rfl⟩⟩
 refine ⟨_, rfl, ?_⟩
 have s48 := s17.mono le43
 have q49 := q36.mono le43
 have at50 := at40.mono le43
 have s51 := s39.mono le43
 have hk52 := hk18.mono le43
 have at53 := at19.mono le43
 have hle54 := m_ hle20 le43
 have kl55 := m_ kl21 le43
 refine mv hO rfl rfl (ry hO rfl (yx [.slice b45 ((reachedL (nth p.funcs fn.toNat)).length) c46, .int .i64 (0 : Int)] rfl tz rfl) (ry hO rfl (yx [.slice b45 ((reachedL (nth p.funcs fn.toNat)).length) c46, .int .i64 (0 : Int)] rfl tz rfl) (as_ hO rfl rfl (as_ hO rfl rfl (rj (ez (E' := [(2, .pointer (some ⟨b4, 0, none⟩)), (4, .slice none 0 0), (5, .int .i64 0), (6, .int .i64 0), (7, .pointer (some (p35.add (fn.toNat * 3)))), (8, .slice b45 ((reachedL (nth p.funcs fn.toNat)).length) c46)]) ⟨rfl, rfl, rfl, rfl, rfl, rfl, tz⟩ (et (cq (cr ?_)))))))))
 refine mv hO rfl rfl (mv hO rfl rfl (rd' tz (oc (vs := [.pointer (some ⟨b4, 0, none⟩), .pointer (some (p35.add (fn.toNat * 3))), .slice b45 ((reachedL (nth p.funcs fn.toNat)).length) c46]) tcall_49 rfl rfl (c_plain p (nth p.funcs fn.toNat) (reachedL (nth p.funcs fn.toNat)) ⟨_, at53, ⟨some p35, c2, rfl, s48⟩⟩ q49 s47 (by assumption) (by exact reachedL_len _) hO) ?_)))
 rintro _ w56 ⟨M57, ve59, le58, hO, rfl, q60⟩
 refine ⟨_, rfl, ?_⟩
 have q61 := q49.mono le58
 have at62 := at50.mono le58
 have s63 := s51.mono le58
 have s64 := s47.mono le58
 have s65 := s48.mono le58
 have hk66 := hk52.mono le58
 have at67 := at53.mono le58
 have hle68 := m_ hle54 le58
 have kl69 := m_ kl55 le58
 refine as_ hO rfl rfl (rj (et (cq (cr (as_ hO rfl rfl (rj (et (cq (cq ?_)))))))))
 refine cr (mv hO rfl rfl (ry hO rfl (y_errnil q60 ti_103 tz rfl) (rj (et (cd rfl (fun h70 => ?_) (fun h70 => ?_))))))
 ·
  refine cr (mv hO rfl rfl (rd' tz (oc (vs := [.pointer (some ⟨b4, 0, none⟩), .pointer (some (p35.add (fn.toNat * 3)))]) tcall_50 rfl rfl (c_heights p (nth p.funcs fn.toNat) ⟨_, at67, ⟨some p35, c2, rfl, s65⟩⟩ q61 (by assumption) (by exact callsIn_of hcm (Option.isNone_iff_eq_none.1 (by assumption))) hO) ?_)))
  rintro _ w71 ⟨M72, _, le73, hO, rfl, ⟨_, ve77, rfl, ⟨b74, c75, rfl, s76⟩, q78⟩⟩
  refine ⟨_, rfl, ?_⟩
  have q79 := q61.mono le73
  have at80 := at62.mono le73
  have s81 := s63.mono le73
  have s82 := s64.mono le73
  have q83 := q60.mono le73
  have s84 := s65.mono le73
  have hk85 := hk66.mono le73
  have at86 := at67.mono le73
  have hle87 := m_ hle68 le73
  have kl88 := m_ kl69 le73
  refine mv hO rfl rfl (ry hO rfl (yx [.slice b74 (((heightsE p (nth p.funcs fn.toNat)).1).length) c75, ve77] rfl tz rfl) (ry hO rfl (yx [.slice b74 (((heightsE p (nth p.funcs fn.toNat)).1).length) c75, ve77] rfl tz rfl) (as_ hO rfl rfl (as_ hO rfl rfl (rj (ez (E' := [(4, .slice none 0 0), (5, .int .i64 0), (6, .int .i64 0), (10, ve77), (11, .slice b74 (((heightsE p (nth p.funcs fn.toNat)).1).length) c75)]) ⟨rfl, rfl, rfl, rfl, rfl, tz⟩ (et (cq (cr ?_)))))))))
  refine mv hO rfl rfl (rd' tz (oc (vs := [ve77]) tcall_51 rfl rfl (c_told ((heightsE p (nth p.funcs fn.toNat)).2) q78 (hG.mono hle87) hO) ?_))
  rintro _ w89 ⟨M90, _, le91, hO, rfl, ⟨_, _, rfl, rfl, rfl⟩⟩
  refine ⟨_, rfl, ?_⟩
  have q92 := q78.mono le91
  have s93 := s76.mono le91
  have s94 := s84.mono le91
  have hk95 := hk85.mono le91
  have at96 := at86.mono le91
  have hle97 := m_ hle87 le91
  have kl98 := m_ kl88 le91
  refine mv hO rfl rfl (ry hO rfl (yx [.int .i64 ((toldT ((heightsE p (nth p.funcs fn.toNat)).2)).1), .int .i64 ((toldT ((heightsE p (nth p.funcs fn.toNat)).2)).2)] rfl tz rfl) (ry hO rfl (yx [.int .i64 ((toldT ((heightsE p (nth p.funcs fn.toNat)).2)).1), .int .i64 ((toldT ((heightsE p (nth p.funcs fn.toNat)).2)).2)] rfl tz rfl) (as_ hO rfl rfl (as_ hO rfl rfl (rj (et (cq (cr (mv hO rfl rfl ?_)))))))))
  refine mv hO rfl rfl (mv hO rfl rfl (as_ hO rfl rfl (as_ hO rfl rfl (as_ hO rfl rfl (rj (ez (E' := [(4, .slice b74 (((heightsE p (nth p.funcs fn.toNat)).1).length) c75), (5, .int .i64 ((toldT ((heightsE p (nth p.funcs fn.toNat)).2)).1)), (6, .int .i64 ((toldT ((heightsE p (nth p.funcs fn.toNat)).2)).2))]) ⟨rfl, rfl, rfl, tz⟩ (et (ct (ends_ret3 (.inl rfl) rfl rfl rfl rfl ?_)))))))))
  refine Ret.mk hle97 hO (⟨_, _, _, rfl, ?_, ?_, ?_⟩)
  ·
   have hx99 : ((heightsE p (nth p.funcs fn.toNat)).1) = (ht' p fn).1 := by first | (rw [show ht' p fn = _ from if_pos hin, if_pos ‹_›]; done) | (rw [show ht' p fn = _ from if_pos hin, if_neg (c := (plainE p (nth p.funcs fn.toNat) (reachedL (nth p.funcs fn.toNat))).isNone = true) (Bool.eq_false_iff.1 (by assumption))]; done)
   exact hx99 ▸ ⟨_, _, rfl, s93⟩
  ·
   refine congrArg (Value.int .i64) ?_
   first | (rw [show ht' p fn = _ from if_pos hin, if_pos ‹_›]; done) | (rw [show ht' p fn = _ from if_pos hin, if_neg (c := (plainE p (nth p.funcs fn.toNat) (reachedL (nth p.funcs fn.toNat))).isNone = true) (Bool.eq_false_iff.1 (by assumption))]; done)
  ·
   refine congrArg (Value.int .i64) ?_
   first | (rw [show ht' p fn = _ from if_pos hin, if_pos ‹_›]; done) | (rw [show ht' p fn = _ from if_pos hin, if_neg (c := (plainE p (nth p.funcs fn.toNat) (reachedL (nth p.funcs fn.toNat))).isNone = true) (Bool.eq_false_iff.1 (by assumption))]; done)
 refine cp (ez (E' := [(4, .slice none 0 0), (5, .int .i64 0), (6, .int .i64 0), (10, ve59), (11, .slice none 0 0)]) ⟨rfl, rfl, rfl, rfl, rfl, tz⟩ (et (cq (cr (mv hO rfl rfl (rd' tz (oc (vs := [ve59]) tcall_51 rfl rfl (c_told (plainE p (nth p.funcs fn.toNat) (reachedL (nth p.funcs fn.toNat))) q60 (hG.mono hle68) hO) ?_)))))))
 rintro _ w100 ⟨M101, _, le102, hO, rfl, ⟨_, _, rfl, rfl, rfl⟩⟩
 refine ⟨_, rfl, ?_⟩
 have q103 := q60.mono le102
 have s104 := s65.mono le102
 have hk105 := hk66.mono le102
 have at106 := at67.mono le102
 have hle107 := m_ hle68 le102
 have kl108 := m_ kl69 le102
 refine mv hO rfl rfl (ry hO rfl (yx [.int .i64 ((toldT (plainE p (nth p.funcs fn.toNat) (reachedL (nth p.funcs fn.toNat)))).1), .int .i64 ((toldT (plainE p (nth p.funcs fn.toNat) (reachedL (nth p.funcs fn.toNat)))).2)] rfl tz rfl) (ry hO rfl (yx [.int .i64 ((toldT (plainE p (nth p.funcs fn.toNat) (reachedL (nth p.funcs fn.toNat)))).1), .int .i64 ((toldT (plainE p (nth p.funcs fn.toNat) (reachedL (nth p.funcs fn.toNat)))).2)] rfl tz rfl) (as_ hO rfl rfl (as_ hO rfl rfl (rj (et (cq (cr (mv hO rfl rfl ?_)))))))))
 refine mv hO rfl rfl (mv hO rfl rfl (as_ hO rfl rfl (as_ hO rfl rfl (as_ hO rfl rfl (rj (ez (E' := [(4, .slice none 0 0), (5, .int .i64 ((toldT (plainE p (nth p.funcs fn.toNat) (reachedL (nth p.funcs fn.toNat)))).1)), (6, .int .i64 ((toldT (plainE p (nth p.funcs fn.toNat) (reachedL (nth p.funcs fn.toNat)))).2))]) ⟨rfl, rfl, rfl, tz⟩ (et (ct (ends_ret3 (.inl rfl) rfl rfl rfl rfl ?_)))))))))
 refine Ret.mk hle107 hO (⟨_, _, _, rfl, ?_, ?_, ?_⟩)
 ·
  have hx109 : ([] : List Int) = (ht' p fn).1 := by first | (rw [show ht' p fn = _ from if_pos hin, if_pos ‹_›]; done) | (rw [show ht' p fn = _ from if_pos hin, if_neg (c := (plainE p (nth p.funcs fn.toNat) (reachedL (nth p.funcs fn.toNat))).isNone = true) (Bool.eq_false_iff.1 (by assumption))]; done)
  exact hx109 ▸ ⟨_, _, rfl, (RdS.nil _ _ _)⟩
 ·
  refine congrArg (Value.int .i64) ?_
  first | (rw [show ht' p fn = _ from if_pos hin, if_pos ‹_›]; done) | (rw [show ht' p fn = _ from if_pos hin, if_neg (c := (plainE p (nth p.funcs fn.toNat) (reachedL (nth p.funcs fn.toNat))).isNone = true) (Bool.eq_false_iff.1 (by assumption))]; done)
 ·
  refine congrArg (Value.int .i64) ?_
  first | (rw [show ht' p fn = _ from if_pos hin, if_pos ‹_›]; done) | (rw [show ht' p fn = _ from if_pos hin, if_neg (c := (plainE p (nth p.funcs fn.toNat) (reachedL (nth p.funcs fn.toNat))).isNone = true) (Bool.eq_false_iff.1 (by assumption))]; done)

theorem c_All {p_p : Addr} (p : Prog) {w : World} {M : Mem} {bs : List (Nat × Obj)} (h_p : PAt M p_p p) (hG : Glob M)  (hO : Own w M (bs)) :
    Calls Tryd.prog 16 #[.pointer (some p_p)] w (Ret M bs (fun M' v => ∃ v0 v1, v = .tuple #[v0, v1] ∧ (∃ b c, v0 = .slice b ((allT p).1).length c ∧ RdS M' b c ((allT p).1)) ∧ (v1 = .int .i64 ((allT p).2)))) := by
 refine ce (vs := [.pointer (some p_p)]) (n := 38) Tryd.func16 rfl rfl rfl (cq (cr (as_ hO rfl rfl (as_ hO rfl rfl (rj (et (cq (cq (cr ?_)))))))))
 refine mv hO rfl rfl (rd' tz (oc (vs := [.pointer (some p_p)]) tcall_29 rfl rfl (c_packMay p h_p hO) ?_))
 rintro _ w1 ⟨M2, _, le3, hO, rfl, rfl⟩
 refine ⟨_, rfl, ?_⟩
 have h4 := h_p.mono le3
 have hle5 := le3
 refine ry hO rfl (yt tz rfl) (rj (et (cd rfl (fun h6 => ?_) (fun h6 => ?_))))
 ·
  have h7 : (packMay p) = false := by simpa using h6
  refine cq (cr (as_ hO rfl rfl (as_ hO rfl rfl (rj (et (ct (ew' (ends_ret2 (.inl rfl) rfl rfl rfl ?_))))))))
  refine Ret.mk hle5 hO (⟨_, _, rfl, ?_, ?_⟩)
  ·
   have hx8 : ([] : List (List Int)) = (allT p).1 := by rw [show allT p = ([], 500) from if_neg (by simp_all)]
   exact hx8 ▸ ⟨_, _, rfl, (RdS.nil _ _ _)⟩
  ·
   refine congrArg (Value.int .i64) ?_
   rw [show allT p = ([], 500) from if_neg (by simp_all)]
 have h9 : (packMay p) = true := by simpa using h6
 refine cp (et (cq (cr (as_ hO rfl rfl (rj (et (cq (cq (cr ?_)))))))))
 refine mv hO rfl rfl (nc hO rfl rfl (fa tf_24_0 hO rfl rfl ?_))
 obtain ⟨_, at13, b10, c11, rfl, s12⟩ := id h4
 refine lc tl_22 at13 0 rfl hO rfl rfl ?_
 have bd14 : p.funcs.length * 40 ≤ 140737488351232 := s12.bd
 refine ln ts_22 hO rfl rfl (mv hO rfl rfl (rj (ez (E' := [(0, .pointer (some p_p)), (2, .slice none 0 0), (3, .int .i64 0), (4, .slice none 0 0), (16, .int .i64 (p.funcs.length : Int)), (17, .int .i64 0)]) ⟨rfl, rfl, rfl, rfl, rfl, rfl, tz⟩ (et (cb ?_)))))
 have hO : Own w1 M2 ([] ++ bs) := hO
 refine cg_loop (σ := Mem × Nat × (List (Nat × Obj)) × (List (List Int)) × (Option Addr) × Nat) (fun qs => [(17, .int .i64 (qs.2.1 : Int)), (4, .slice qs.2.2.2.2.1 qs.2.2.2.1.length qs.2.2.2.2.2), (0, .pointer (some p_p)), (16, .int .i64 (p.funcs.length : Int))]) (fun qs w => Mem.le M2 qs.1 ∧ Rw qs.1 qs.2.2.1 qs.2.2.2.2.1 qs.2.2.2.2.2 qs.2.2.2.1 ∧ (qs.2.1 ≤ p.funcs.length ∧ noneErr p qs.2.1 ∧ qs.2.2.2.1 = (List.range qs.2.1).map (fun j : Nat => (ht' p j).1)) ∧ Own w qs.1 (qs.2.2.1 ++ bs)) (fun qs => p.funcs.length - qs.2.1) (M2, 0, [], ([] : List (List Int)), none, 0) ⟨rfl, rfl, rfl, rfl, tz⟩ ⟨mr _, (Rw.nil _), (by (try dsimp only); exact ⟨Nat.zero_le _, fun j hj => absurd hj (Nat.not_lt_zero _), rfl⟩), hO⟩ ?_
 rintro ⟨Mi, k, rs1, l1, bb1, cc1⟩ w16 ⟨le18, r15, ⟨hk, hne, hl1⟩, hO⟩
 try dsimp only at *
 have h19 := h4.mono le18
 have at20 := at13.mono le18
 have s21 := s12.mono le18
 have hle22 := m_ hle5 le18
 refine cq (cr (ry hO rfl (yv tz rfl rfl) (rj (et (cq (cd rfl (fun h23 => ?_) (fun h23 => ?_)))))))
 ·
  have h24 : (k : Int) < (p.funcs.length : Int) := ot h23
  refine cp (et (cq (cb (cq (cr (mv hO rfl rfl (as_ hO rfl rfl (rj (et ?_)))))))))
  refine cq (cr (mv hO rfl rfl (nc hO rfl rfl (ry hO rfl (yq [.slice b10 p.funcs.length c11] ta_24 rfl tz rfl (fun _ h j _ e => at20.cell h j e)) (mv hO rfl rfl (rd' tz (oc (vs := [.agg #[.slice b10 p.funcs.length c11], .int .i64 (k : Int)]) tcall_30 rfl rfl (c_VHeights (vs_p := [.slice b10 p.funcs.length c11]) p (k : Int) ⟨b10, c11, rfl, s21⟩ (hG.mono hle22) hO) ?_)))))))
  rintro _ w25 ⟨M26, _, le27, hO, rfl, ⟨_, _, _, rfl, ⟨b28, c29, rfl, s30⟩, rfl, rfl⟩⟩
  refine ⟨_, rfl, ?_⟩
  have r31 := r15.mono le27
  have h32 := h19.mono le27
  have at33 := at20.mono le27
  have s34 := s21.mono le27
  have hle35 := m_ hle22 le27
  have ch36 := m_ le18 le27
  refine mv hO rfl rfl (ry hO rfl (yx [.slice b28 (((ht' p (k : Int)).1).length) c29, .int .i64 ((ht' p (k : Int)).2.1), .int .i64 ((ht' p (k : Int)).2.2)] rfl tz rfl) (ry hO rfl (yx [.slice b28 (((ht' p (k : Int)).1).length) c29, .int .i64 ((ht' p (k : Int)).2.1), .int .i64 ((ht' p (k : Int)).2.2)] rfl tz rfl) (ry hO rfl (yx [.slice b28 (((ht' p (k : Int)).1).length) c29, .int .i64 ((ht' p (k : Int)).2.1), .int .i64 ((ht' p (k : Int)).2.2)] rfl tz rfl) (as_ hO rfl rfl (as_ hO rfl rfl (as_ hO rfl rfl (rj (ez (E' := [(17, .int .i64 (k : Int)), (4, .slice bb1 l1.length cc1), (0, .pointer (some p_p)), (16, .int .i64 (p.funcs.length : Int)), (6, .slice b28 (((ht' p (k : Int)).1).length) c29), (8, .int .i64 ((ht' p (k : Int)).2.2))]) ⟨rfl, rfl, rfl, rfl, rfl, rfl, tz⟩ (et ?_)))))))))
  refine cq (cq (cr (mv hO rfl rfl (ry hO rfl (y_ne tz rfl rfl) (rj (et (cd rfl (fun h37 => ?_) (fun h37 => ?_))))))))
  ·
   have h38 : (decide ((ht' p (k : Int)).2.2 = 0)) = false := by simpa using h37
   have h39 : ¬ ((ht' p (k : Int)).2.2 = 0) := oq h38
   refine cq (cr (mv hO rfl rfl (as_ hO rfl rfl (as_ hO rfl rfl (rj (et (ct (ew' (eg ?_)))))))))
   refine ew' (ew' (eg (ew' (ends_ret2 (.inl rfl) rfl rfl rfl ?_))))
   refine Ret.mk hle35 (hO.forget) (⟨_, _, rfl, ?_, ?_⟩)
   ·
    have hx40 : ([] : List (List Int)) = (allT p).1 := by rw [all_hit ‹_› (by omega) hne (by simp_all)]
    exact hx40 ▸ ⟨_, _, rfl, (RdS.nil _ _ _)⟩
   ·
    refine congrArg (Value.int .i64) ?_
    rw [all_hit ‹_› (by omega) hne (by simp_all)]
  have h41 : (decide ((ht' p (k : Int)).2.2 = 0)) = true := by simpa using h37
  have h42 : (ht' p (k : Int)).2.2 = 0 := ot h41
  refine cp (et (cr (mv hO rfl rfl (mv hO rfl rfl (rd' tz (og (vs := [.slice b28 (((ht' p (k : Int)).1).length) c29]) (cs := [.slice b28 (((ht' p (k : Int)).1).length) c29]) (e := 36) hO rfl rfl (fun _ => by kernel_rfl) (fun b43 w44 hO => ?_)))))))
  have hO : Own _ M26 ([(b43, .cells #[.slice b28 (((ht' p (k : Int)).1).length) c29] 36)] ++ (rs1 ++ bs)) := hO
  have hO := hO.front1
  have hO := hO.front1
  have hO : Own _ M26 ([(b43, .cells #[.slice b28 (((ht' p (k : Int)).1).length) c29] 36)] ++ (rs1 ++ bs)) := hO
  refine rd' tz (og_append1 (α := List Int) (rs := rs1) (us := [.slice b28 (((ht' p (k : Int)).1).length) c29]) (x := ((ht' p (k : Int)).1)) tv_55 rfl rfl hO r31 rfl rfl rfl ⟨b28, c29, rfl, s30⟩ (by have := packMay_len ‹_›; simp only [Rep.sz, hl1, List.length_map, List.length_range]; omega) (by decide) (by have := packMay_len ‹_›; simp only [hl1, List.length_map, List.length_range]; omega) (fun rs45 b46 c47 w48 hO r49 => ?_))
  refine as_ hO rfl rfl (rj (ek' (et (cr (ry hO rfl (y_add ((k + 1 : Nat) : Int) tz rfl rfl (by rw [wd] <;> omega)) (mv hO rfl rfl (rj ?_)))))))
  refine ends_round (M26, k + 1, rs45, (l1 ++ [(ht' p (k : Int)).1]), b46, c47) ?_ ?_ ?_
  · exact ⟨rfl, rfl, rfl, rfl, tz⟩
  · exact ⟨ch36, r49, (by (try dsimp only); exact ⟨by omega, noneErr_next hne (by simp_all), by rw [hl1, List.range_succ, List.map_append]; rfl⟩), hO⟩
  · (try dsimp only); omega
 have h50 : ¬ ((k : Int) < (p.funcs.length : Int)) := oq h23
 refine cx (eh (eh (ej (et (cq (cr (mv hO rfl rfl (as_ hO rfl rfl (as_ hO rfl rfl ?_)))))))))
 refine rj (et (ct (ends_ret2 (.inl rfl) rfl rfl rfl ?_)))
 obtain ⟨M51, le52, hO, hk53, hn54, hd55⟩ := Own.keeps (rs := rs1) hO
 have r56 := r15.mono le52
 have h57 := h19.mono le52
 have at58 := at20.mono le52
 have s59 := s21.mono le52
 have hle60 := m_ hle22 le52
 have ch61 := m_ le18 le52
 refine Ret.mk hle60 hO (⟨_, _, rfl, ?_, ?_⟩)
 ·
  have hx62 : l1 = (allT p).1 := by (rw [all_none ‹_› (by omega) hne]) <;> first | rfl | (rw [hl1, show k = p.funcs.length by omega])
  have s63 := Rw.kept r56 hk53 (mr _)
  exact hx62 ▸ ⟨_, _, rfl, s63⟩
 ·
  refine congrArg (Value.int .i64) ?_
  (rw [all_none ‹_› (by omega) hne]) <;> first | rfl | (rw [hl1, show k = p.funcs.length by omega])

end Go.Proofs.YtdniefnjgkhkeaaDoor
