/-
  Contracts of Go functions, each walked operation by operation: swage/ir.May.
  Conditions: as each statement says.
-/
import Derived.Test.YtdniefnjgkhkeaaDoorVf
import Derived.Test.YtdniefnjgkhkeaaDoorProg
import Derived.Test.YtdniefnjgkhkeaaDoorC1
import Derived.Test.YtdniefnjgkhkeaaDoorC2
import Derived.Test.YtdniefnjgkhkeaaDoorC3
import Derived.Test.YtdniefnjgkhkeaaDoorC4
import Derived.Test.YtdniefnjgkhkeaaDoorC5
import Derived.Test.YtdniefnjgkhkeaaDoorC6
import Derived.Test.YtdniefnjgkhkeaaDoorC7
import Derived.Test.YtdniefnjgkhkeaaDoorC8
import Derived.Test.YtdniefnjgkhkeaaDoorV2
import Derived.Test.YtdniefnjgkhkeaaDoorC9
import Derived.Test.YtdniefnjgkhkeaaDoorC10
import Derived.Test.YtdniefnjgkhkeaaDoorV3
import Derived.Test.YtdniefnjgkhkeaaDoorC11
import Derived.Test.YtdniefnjgkhkeaaDoorC12
import Derived.Test.YtdniefnjgkhkeaaDoorC13
import Derived.Test.YtdniefnjgkhkeaaDoorV4
namespace Go.Proofs.YtdniefnjgkhkeaaDoor
open Go
set_option maxRecDepth 100000
set_option linter.unusedVariables false
set_option linter.unusedSimpArgs false
theorem tcall_16 : cl Tryd.prog 16 := ⟨_, Tryd.func16, by kernel_rfl, by kernel_rfl⟩
theorem tcall_17 : cl Tryd.prog 17 := ⟨_, Tryd.func17, by kernel_rfl, by kernel_rfl⟩
theorem tcall_18 : cl Tryd.prog 18 := ⟨_, Tryd.func18, by kernel_rfl, by kernel_rfl⟩
theorem tcall_19 : cl Tryd.prog 19 := ⟨_, Tryd.func19, by kernel_rfl, by kernel_rfl⟩
set_option maxHeartbeats 12800000 in
theorem c_May {vs_p : List Value} (p : Prog) {vs_c : List Value} (c : CodeD) {w : World} {M : Mem} {bs : List (Nat × Obj)} (h_p : Rep.rd M vs_p p) (h_c : Rep.rd M vs_c c) (hG : Glob M)  (hO : Own w M (bs)) :
    Calls Tryd.prog 9 #[.agg vs_p.toArray, .agg vs_c.toArray] w (Ret M bs (fun M' v => v = .bool (irMay p c))) := by
 obtain ⟨b1, c2, rfl, s3⟩ := h_p
 obtain ⟨b4, c5, b7, c8, rfl, s6, s9⟩ := h_c
 refine ce (vs := [.agg #[.slice b1 p.funcs.length c2], .agg #[.int .i64 c.fn, .int .i64 c.regs, .slice b4 c.code.length c5, .slice b7 c.metas.length c8]]) (n := 100) Tryd.func9 rfl rfl rfl (cq (cr (rd' tz (og_box hO rfl rfl (fun b10 w11 hO => ?_)))))
 have hO : Own _ M ([(b10, .cells #[.slice b1 p.funcs.length c2] 24)] ++ bs) := hO
 refine rd' tz (og_box hO rfl rfl (fun b12 w13 hO => ?_))
 have hO : Own _ M ([(b12, .cells #[.int .i64 c.fn, .int .i64 c.regs, .slice b4 c.code.length c5, .slice b7 c.metas.length c8] 28)] ++ ([(b10, .cells #[.slice b1 p.funcs.length c2] 24)] ++ bs)) := hO
 refine as_ hO rfl rfl (rj (et (cq (cr ?_))))
 have hO := hO.front1
 obtain ⟨M14, le15, hO, hk16, hn17, hd18⟩ := Own.keeps (rs := [(b10, .cells #[.slice b1 p.funcs.length c2] 24)]) hO
 have s19 := s3.mono le15
 have s20 := s6.mono le15
 have s21 := s9.mono le15
 have hle22 := le15
 have at23 := Has.at (vs := [.slice b1 p.funcs.length c2]) hk16 rfl
 refine rd' tz (oc (vs := [.pointer (some ⟨b10, 0, none⟩)]) tcall_16 rfl rfl (c_All p ⟨_, at23, ⟨b1, c2, rfl, s19⟩⟩ (hG.mono hle22) hO) ?_)
 rintro _ w24 ⟨M25, _, le26, hO, rfl, ⟨_, _, rfl, ⟨b27, c28, rfl, s29⟩, rfl⟩⟩
 refine ⟨_, rfl, ?_⟩
 have s30 := s19.mono le26
 have s31 := s20.mono le26
 have s32 := s21.mono le26
 have hk33 := hk16.mono le26
 have at34 := at23.mono le26
 have hle35 := m_ hle22 le26
 have kl36 := m_ le15 le26
 refine mv hO rfl rfl (ry hO rfl (yx [.slice b27 (((allT p).1).length) c28, .int .i64 ((allT p).2)] rfl tz rfl) (ry hO rfl (yx [.slice b27 (((allT p).1).length) c28, .int .i64 ((allT p).2)] rfl tz rfl) (as_ hO rfl rfl (as_ hO rfl rfl (rj (et (cq (cr (fb 2 tf_28_2 rfl hO rfl rfl ?_)))))))))
 refine ry hO rfl (yl tl_25 tz rfl (fun _ h => ob h 0 2 rfl rfl)) ?_
 have bd37 : c.code.length * 88 ≤ 140737488351232 := s31.bd
 refine ln ts_25 hO rfl rfl (as_ hO rfl rfl (rj (ez (E' := [(2, .pointer (some ⟨b10, 0, none⟩)), (3, .pointer (some ⟨b12, 0, none⟩)), (4, .bool false), (5, .slice b27 (((allT p).1).length) c28), (6, .int .i64 ((allT p).2)), (7, .int .i64 (c.code.length : Int))]) ⟨rfl, rfl, rfl, rfl, rfl, rfl, tz⟩ (et (cg_cut (E' := [(2, .pointer (some ⟨b10, 0, none⟩)), (3, .pointer (some ⟨b12, 0, none⟩)), (4, .bool false), (5, .slice b27 (((allT p).1).length) c28), (7, .int .i64 (c.code.length : Int))]) (fun w' => ∃ M', Mem.le M25 M' ∧ Own w' M' ([(b12, .cells #[.int .i64 c.fn, .int .i64 c.regs, .slice b4 c.code.length c5, .slice b7 c.metas.length c8] 28)] ++ bs) ∧ (mayA p c = true)) ?_ (fun hcut42 => ?_))))))
 ·
  rintro w40 ⟨M41, le39, hO, hA⟩
  have s44 := s29.mono le39
  have s45 := s31.mono le39
  have s46 := s32.mono le39
  have s47 := s30.mono le39
  have hk48 := hk33.mono le39
  have at49 := at34.mono le39
  have hle50 := m_ hle35 le39
  have kl51 := m_ kl36 le39
  refine cq (cr ?_)
  have hM := mayA_of hA
  have hOk := (allT_ok hM.err).2
  have hMf0 := hM.fn0
  have hMf1 := hM.fn1
  have hMn0 := hM.n0
  have hMn1 := hM.n1
  refine mv hO rfl rfl (ry hO rfl (y_build [.pointer (some ⟨b12, 0, none⟩), .pointer (some ⟨b10, 0, none⟩), .slice b27 (((allT p).1).length) c28] (.agg #[.pointer (some ⟨b12, 0, none⟩), .pointer (some ⟨b10, 0, none⟩), .slice b27 (((allT p).1).length) c28]) tz rfl (fun _ => by kernel_rfl)) (rd' tz (og_box hO rfl rfl (fun b52 w53 hO => ?_))))
  have hO : Own _ M41 ([(b52, .cells #[.pointer (some ⟨b12, 0, none⟩), .pointer (some ⟨b10, 0, none⟩), .slice b27 (((allT p).1).length) c28] 61)] ++ ([(b12, .cells #[.int .i64 c.fn, .int .i64 c.regs, .slice b4 c.code.length c5, .slice b7 c.metas.length c8] 28)] ++ bs)) := hO
  refine as_ hO rfl rfl (rj (et (cq (cq (cr (fb 2 tf_28_2 rfl hO rfl rfl (ry hO rfl (yl tl_25 tz rfl (fun _ h => ob (h.front1) 0 2 rfl rfl)) (ln ts_25 hO rfl rfl (mv hO rfl rfl ?_)))))))))
  refine rj (ez (E' := [(3, .pointer (some ⟨b12, 0, none⟩)), (4, .bool false), (7, .int .i64 (c.code.length : Int)), (8, .pointer (some ⟨b52, 0, none⟩)), (70, .int .i64 (c.code.length : Int)), (71, .int .i64 0)]) ⟨rfl, rfl, rfl, rfl, rfl, rfl, tz⟩ (et (cb ?_)))
  have hO := hO.front1
  obtain ⟨M54, le55, hO, hk56, hn57, hd58⟩ := Own.keeps (rs := [(b12, .cells #[.int .i64 c.fn, .int .i64 c.regs, .slice b4 c.code.length c5, .slice b7 c.metas.length c8] 28)]) hO
  have s59 := s45.mono le55
  have s60 := s46.mono le55
  have s61 := s44.mono le55
  have s62 := s47.mono le55
  have hk63 := hk48.mono le55
  have at64 := at49.mono le55
  have hle65 := m_ hle50 le55
  have kl66 := m_ kl51 le55
  have at67 := Has.at (vs := [.int .i64 c.fn, .int .i64 c.regs, .slice b4 c.code.length c5, .slice b7 c.metas.length c8]) hk56 rfl
  obtain ⟨M68, le69, hO, hk70, hn71, hd72⟩ := Own.keeps (rs := [(b52, .cells #[.pointer (some ⟨b12, 0, none⟩), .pointer (some ⟨b10, 0, none⟩), .slice b27 (((allT p).1).length) c28] 61)]) hO
  have s73 := s61.mono le69
  have s74 := s62.mono le69
  have s75 := s59.mono le69
  have s76 := s60.mono le69
  have hk77 := hk63.mono le69
  have at78 := at64.mono le69
  have hk79 := hk56.mono le69
  have at80 := at67.mono le69
  have hle81 := m_ hle65 le69
  have kl82 := m_ kl66 le69
  have kl83 := m_ le55 le69
  have at84 := Has.at (vs := [.pointer (some ⟨b12, 0, none⟩), .pointer (some ⟨b10, 0, none⟩), .slice b27 (((allT p).1).length) c28]) hk70 rfl
  refine cg_loop (σ := Mem × Nat) (fun qs => [(71, .int .i64 (qs.2 : Int)), (3, .pointer (some ⟨b12, 0, none⟩)), (7, .int .i64 (c.code.length : Int)), (8, .pointer (some ⟨b52, 0, none⟩)), (70, .int .i64 (c.code.length : Int))]) (fun qs w => Mem.le M68 qs.1 ∧ (qs.2 ≤ c.code.length ∧ ∀ j : Nat, j < qs.2 → insB (sheetOf p c) j (nth (sheetOf p c).code.val.code j) = true) ∧ Own w qs.1 (bs)) (fun qs => c.code.length - qs.2) (M68, 0) ⟨rfl, rfl, rfl, rfl, rfl, tz⟩ ⟨mr _, (by (try dsimp only); exact ⟨Nat.zero_le _, fun j hj => absurd hj (Nat.not_lt_zero _)⟩), hO⟩ ?_
  rintro ⟨Mi, k⟩ w85 ⟨le87, ⟨hk, hin⟩, hO⟩
  try dsimp only at *
  have s88 := s74.mono le87
  have s89 := s75.mono le87
  have s90 := s76.mono le87
  have s91 := s73.mono le87
  have hk92 := hk77.mono le87
  have at93 := at78.mono le87
  have hk94 := hk79.mono le87
  have at95 := at80.mono le87
  have hk96 := hk70.mono le87
  have at97 := at84.mono le87
  have hle98 := m_ hle81 le87
  have kl99 := m_ kl82 le87
  have kl100 := m_ kl83 le87
  have kl101 := m_ le69 le87
  refine cq (cr (ry hO rfl (yv tz rfl rfl) (rj (et (cq (cd rfl (fun h102 => ?_) (fun h102 => ?_)))))))
  ·
   have h103 : (k : Int) < (c.code.length : Int) := ot h102
   refine cp (et (cq (cb (cq (cr (mv hO rfl rfl (as_ hO rfl rfl (rj (et ?_)))))))))
   refine cq (cr (mv hO rfl rfl (mv hO rfl rfl (rd' tz (oc (vs := [.pointer (some ⟨b52, 0, none⟩), .int .i64 (k : Int)]) tcall_17 rfl rfl (c_ins (⟨(⟨c⟩ : Ptr CodeD), (⟨p⟩ : Ptr Prog), (allT p).1⟩ : Sheet) (k : Int) ⟨_, at97, ⟨⟨b12, 0, none⟩, ⟨b10, 0, none⟩, b27, c28, rfl, ⟨_, at95, ⟨b4, c5, b7, c8, rfl, s89, s90⟩⟩, ⟨_, at93, ⟨b1, c2, rfl, s88⟩⟩, s91⟩⟩ (by omega) (by omega) hO) ?_)))))
   rintro _ w104 ⟨M105, _, le106, hO, rfl, rfl⟩
   refine ⟨_, rfl, ?_⟩
   have s107 := s88.mono le106
   have s108 := s89.mono le106
   have s109 := s90.mono le106
   have s110 := s91.mono le106
   have hk111 := hk92.mono le106
   have at112 := at93.mono le106
   have hk113 := hk94.mono le106
   have at114 := at95.mono le106
   have hk115 := hk96.mono le106
   have at116 := at97.mono le106
   have hle117 := m_ hle98 le106
   have ch118 := m_ le87 le106
   have kl119 := m_ kl99 le106
   have kl120 := m_ kl100 le106
   have kl121 := m_ kl101 le106
   refine ry hO rfl (yt tz rfl) (rj (et (cd rfl (fun h122 => ?_) (fun h122 => ?_))))
   ·
    have h123 : (insB (⟨(⟨c⟩ : Ptr CodeD), (⟨p⟩ : Ptr Prog), (allT p).1⟩ : Sheet) (k : Int) (nth (⟨(⟨c⟩ : Ptr CodeD), (⟨p⟩ : Ptr Prog), (allT p).1⟩ : Sheet).code.val.code (k : Int).toNat)) = false := by simpa using h122
    refine cq (cr (as_ hO rfl rfl (rj (ez (E' := [(71, .int .i64 (k : Int)), (3, .pointer (some ⟨b12, 0, none⟩)), (7, .int .i64 (c.code.length : Int)), (8, .pointer (some ⟨b52, 0, none⟩)), (70, .int .i64 (c.code.length : Int)), (4, .bool false)]) ⟨rfl, rfl, rfl, rfl, rfl, rfl, tz⟩ (et (ct (eg (ew' (ew' ?_)))))))))
    refine eg (ew' (er (.inl rfl) rfl rfl ?_))
    refine Ret.mk hle117 hO (congrArg Value.bool ?_)
    first | (rw [irMay_eq, show codeB (sheetOf p c) = false from codeB_bad (s := sheetOf p c) (k := k) (by show k < c.code.length; omega) (by assumption)]; simp; done) | (rw [irMay_eq]; have h_1 : codeB (sheetOf p c) = true := codeB_done hin (by show c.code.length ≤ k; omega); simp_all [lastB, sheetOf]; done) | (rw [irMay_eq]; simp_all [mayA]; done) | (rw [irMay_eq]; grind [mayA, lastB])
   have h124 : (insB (⟨(⟨c⟩ : Ptr CodeD), (⟨p⟩ : Ptr Prog), (allT p).1⟩ : Sheet) (k : Int) (nth (⟨(⟨c⟩ : Ptr CodeD), (⟨p⟩ : Ptr Prog), (allT p).1⟩ : Sheet).code.val.code (k : Int).toNat)) = true := by simpa using h122
   refine cp (ek' (et (cr (ry hO rfl (y_add ((k + 1 : Nat) : Int) tz rfl rfl (by rw [wd] <;> omega)) (mv hO rfl rfl (rj ?_))))))
   refine ends_round (M105, k + 1) ?_ ?_ ?_
   · exact ⟨rfl, rfl, rfl, rfl, rfl, tz⟩
   · exact ⟨ch118, (by (try dsimp only); exact ⟨by omega, codeB_next hin (by assumption)⟩), hO⟩
   · (try dsimp only); omega
  have h125 : ¬ ((k : Int) < (c.code.length : Int)) := oq h102
  refine cx (eh (eh (ej (et (cq (cr (fb 2 tf_28_2 rfl hO rfl rfl (lc tl_25 at95 2 rfl hO rfl rfl (mv hO rfl rfl ?_)))))))))
  refine ry hO rfl (y_sub ((c.code.length : Int) - 1) tz rfl rfl (by rw [wd] <;> omega)) ?_
  obtain ⟨p126, rfl, _⟩ := RdS.get s89 (((c.code.length : Int) - 1).toNat) (by omega)
  have hO : Own w85 Mi (bs) := by assumption
  have q127 : PAt Mi (p126.add ((((c.code.length : Int) - 1).toNat) * 9)) (nth c.code (((c.code.length : Int) - 1).toNat)) := RdS.at s89 (((c.code.length : Int) - 1).toNat) (by omega)
  refine ry hO rfl (yi ts_25 tz rfl rfl (by omega) (by omega)) (fa tf_38_0 hO rfl rfl ?_)
  obtain ⟨_, at131, b128, c129, rfl, s130⟩ := id q127
  refine lc tl_3 at131 0 rfl hO rfl rfl (as_ hO rfl rfl (rj (ez (E' := [(3, .pointer (some ⟨b12, 0, none⟩)), (8, .pointer (some ⟨b52, 0, none⟩)), (10, .int .i64 ((nth c.code (((c.code.length : Int) - 1).toNat)).kind))]) ⟨rfl, rfl, rfl, tz⟩ (et (cq (cr (mv hO rfl rfl (ry hO rfl (ye tz rfl rfl) (mv hO rfl rfl ?_)))))))))
  rcases bt (decide ((nth c.code (((c.code.length : Int) - 1).toNat)).kind = 4)) with h132 | h132
  ·
   have h133 : (nth c.code (((c.code.length : Int) - 1).toNat)).kind = 4 := ot h132
   refine ry hO rfl (ek (by rw [h132]; rfl)) (ry hO rfl (ek (by rw [h132]; rfl)) (ry hO rfl (pt tz (by rw [h132]; rfl) rfl) (mv hO rfl rfl (ry hO rfl (yf 3 tf_28_3 rfl rfl rfl) (ry hO rfl (yl tl_26 rfl rfl (fun _ h => at95.cell h 3 rfl)) (ry hO rfl (ym rfl rfl) (ry hO rfl (y_makeF [.pointer (some ⟨b52, 0, none⟩)] [] rfl rfl rfl) (rd' rfl (oc (vs := [.slice b7 c.metas.length c8, .func (.func 19) #[.pointer (some ⟨b52, 0, none⟩)] #[]]) tcall_18 rfl rfl (c_ContainsFuncMeta c.metas (fun x => (metaNotB (⟨(⟨c⟩ : Ptr CodeD), (⟨p⟩ : Ptr Prog), (allT p).1⟩ : Sheet) x)) s90 tcall_19 (fun x w_ M_ v_ b_ le rd o => c_metaNot (⟨(⟨c⟩ : Ptr CodeD), (⟨p⟩ : Ptr Prog), (allT p).1⟩ : Sheet) x (PAt.mono ⟨_, at97, ⟨⟨b12, 0, none⟩, ⟨b10, 0, none⟩, b27, c28, rfl, ⟨_, at95, ⟨some p126, c5, b7, c8, rfl, s89, s90⟩⟩, ⟨_, at93, ⟨b1, c2, rfl, s88⟩⟩, s91⟩⟩ le) rd (by exact hOk) (by exact hMf0) (by exact hMf1) o) hO) ?_)))))))))
   rintro _ w134 ⟨M135, _, le136, hO, rfl, rfl⟩
   refine ⟨_, rfl, ?_⟩
   have s137 := s90.mono le136
   have s138 := s88.mono le136
   have s139 := s89.mono le136
   have s140 := s91.mono le136
   have hk141 := hk92.mono le136
   have at142 := at93.mono le136
   have hk143 := hk94.mono le136
   have at144 := at95.mono le136
   have hk145 := hk96.mono le136
   have at146 := at97.mono le136
   have hle147 := m_ hle98 le136
   have ch148 := m_ le87 le136
   have kl149 := m_ kl99 le136
   have kl150 := m_ kl100 le136
   have kl151 := m_ kl101 le136
   refine ry hO rfl (yt rfl rfl) (ry hO rfl (pt tz rfl rfl) (as_ hO rfl rfl (rj (ez (E' := [(4, .bool (!(c.metas.any (fun x => (metaNotB (⟨(⟨c⟩ : Ptr CodeD), (⟨p⟩ : Ptr Prog), (allT p).1⟩ : Sheet) x)))))]) ⟨rfl, tz⟩ (et (ct (er (.inl rfl) rfl rfl ?_)))))))
   refine Ret.mk hle147 hO (congrArg Value.bool ?_)
   first | (rw [irMay_eq, show codeB (sheetOf p c) = false from codeB_bad (s := sheetOf p c) (k := k) (by show k < c.code.length; omega) (by assumption)]; simp; done) | (rw [irMay_eq]; have h_1 : codeB (sheetOf p c) = true := codeB_done hin (by show c.code.length ≤ k; omega); simp_all [lastB, sheetOf]; done) | (rw [irMay_eq]; simp_all [mayA]; done) | (rw [irMay_eq]; grind [mayA, lastB])
  have h152 : ¬ ((nth c.code (((c.code.length : Int) - 1).toNat)).kind = 4) := oq h132
  refine ry hO rfl (ym (by rw [h132]; rfl) rfl) (ry hO rfl (ye (by rw [h132]; rfl) rfl rfl) (ry hO rfl (pf tz (by rw [h132]; rfl) rfl) (mv hO rfl rfl ?_)))
  rcases bt (decide ((nth c.code (((c.code.length : Int) - 1).toNat)).kind = 8)) with h153 | h153
  ·
   have h154 : (nth c.code (((c.code.length : Int) - 1).toNat)).kind = 8 := ot h153
   refine ry hO rfl (yf 3 tf_28_3 rfl (by rw [h153]; rfl) rfl) (ry hO rfl (yl tl_26 (by rw [h153]; rfl) rfl (fun _ h => at95.cell h 3 rfl)) (ry hO rfl (ym (by rw [h153]; rfl) rfl) (ry hO rfl (y_makeF [.pointer (some ⟨b52, 0, none⟩)] [] (by rw [h153]; rfl) rfl rfl) (rd' (by rw [h153]; rfl) (oc (vs := [.slice b7 c.metas.length c8, .func (.func 19) #[.pointer (some ⟨b52, 0, none⟩)] #[]]) tcall_18 rfl rfl (c_ContainsFuncMeta c.metas (fun x => (metaNotB (⟨(⟨c⟩ : Ptr CodeD), (⟨p⟩ : Ptr Prog), (allT p).1⟩ : Sheet) x)) s90 tcall_19 (fun x w_ M_ v_ b_ le rd o => c_metaNot (⟨(⟨c⟩ : Ptr CodeD), (⟨p⟩ : Ptr Prog), (allT p).1⟩ : Sheet) x (PAt.mono ⟨_, at97, ⟨⟨b12, 0, none⟩, ⟨b10, 0, none⟩, b27, c28, rfl, ⟨_, at95, ⟨some p126, c5, b7, c8, rfl, s89, s90⟩⟩, ⟨_, at93, ⟨b1, c2, rfl, s88⟩⟩, s91⟩⟩ le) rd (by exact hOk) (by exact hMf0) (by exact hMf1) o) hO) ?_)))))
   rintro _ w155 ⟨M156, _, le157, hO, rfl, rfl⟩
   refine ⟨_, rfl, ?_⟩
   have s158 := s90.mono le157
   have s159 := s88.mono le157
   have s160 := s89.mono le157
   have s161 := s91.mono le157
   have hk162 := hk92.mono le157
   have at163 := at93.mono le157
   have hk164 := hk94.mono le157
   have at165 := at95.mono le157
   have hk166 := hk96.mono le157
   have at167 := at97.mono le157
   have hle168 := m_ hle98 le157
   have ch169 := m_ le87 le157
   have kl170 := m_ kl99 le157
   have kl171 := m_ kl100 le157
   have kl172 := m_ kl101 le157
   refine ry hO rfl (yt (by rw [h153]; rfl) rfl) (ry hO rfl (pt tz (by rw [h153]; rfl) rfl) (as_ hO rfl rfl (rj (ez (E' := [(4, .bool (!(c.metas.any (fun x => (metaNotB (⟨(⟨c⟩ : Ptr CodeD), (⟨p⟩ : Ptr Prog), (allT p).1⟩ : Sheet) x)))))]) ⟨rfl, tz⟩ (et (ct (er (.inl rfl) rfl rfl ?_)))))))
   refine Ret.mk hle168 hO (congrArg Value.bool ?_)
   first | (rw [irMay_eq, show codeB (sheetOf p c) = false from codeB_bad (s := sheetOf p c) (k := k) (by show k < c.code.length; omega) (by assumption)]; simp; done) | (rw [irMay_eq]; have h_1 : codeB (sheetOf p c) = true := codeB_done hin (by show c.code.length ≤ k; omega); simp_all [lastB, sheetOf]; done) | (rw [irMay_eq]; simp_all [mayA]; done) | (rw [irMay_eq]; grind [mayA, lastB])
  have h173 : ¬ ((nth c.code (((c.code.length : Int) - 1).toNat)).kind = 8) := oq h153
  refine ry hO rfl (ek (by rw [h153]; rfl)) (ry hO rfl (ek (by rw [h153]; rfl)) (ry hO rfl (ek (by rw [h153]; rfl)) (ry hO rfl (ek (by rw [h153]; rfl)) (ry hO rfl (ek (by rw [h153]; rfl)) (ry hO rfl (ek (by rw [h153]; rfl)) (ry hO rfl (pf tz (by rw [h153]; rfl) rfl) (as_ hO rfl rfl (rj (ez (E' := [(4, .bool false)]) ⟨rfl, tz⟩ ?_)))))))))
  refine et (ct (er (.inl rfl) rfl rfl ?_))
  refine Ret.mk hle98 hO (congrArg Value.bool ?_)
  first | (rw [irMay_eq, show codeB (sheetOf p c) = false from codeB_bad (s := sheetOf p c) (k := k) (by show k < c.code.length; omega) (by assumption)]; simp; done) | (rw [irMay_eq]; have h_1 : codeB (sheetOf p c) = true := codeB_done hin (by show c.code.length ≤ k; omega); simp_all [lastB, sheetOf]; done) | (rw [irMay_eq]; simp_all [mayA]; done) | (rw [irMay_eq]; grind [mayA, lastB])
 have le38 := mr M25
 refine cq (cq ?_)
 rcases bt (!decide ((allT p).2 = 0)) with h176 | h176
 ·
  have h177 : (decide ((allT p).2 = 0)) = false := by simpa using h176
  have h178 : ¬ ((allT p).2 = 0) := oq h177
  obtain ⟨w179, hO, ew180⟩ : ∃ w', Own w' M25 ([(b12, .cells #[.int .i64 c.fn, .int .i64 c.regs, .slice b4 c.code.length c5, .slice b7 c.metas.length c8] 28)] ++ bs) ∧ { w24 with drawn := w24.drawn + 1 } = w' := ⟨_, hO.drawn _, rfl⟩
  refine cw (S := fun w => Own w M25 ([(b12, .cells #[.int .i64 c.fn, .int .i64 c.regs, .slice b4 c.code.length c5, .slice b7 c.metas.length c8] 28)] ++ bs)) (.take 0 (.take 1 (.take 2 (.take 3 (.take 4 (.take 5 (.take 6 (.take 7 (.take 8 (.take 9 (.take 10 (.take 11 (.take 12 (.take 13 (.take 14 (.take 15 (.take 16 (.take 17 (.take 18 (.take 19 (.take 20 (.take 21 (.take 22 (.take 23 (.take 24 (.take 25 (.take 26 (.take 27 (.take 28 (.take 29 (.take 30 (.take 31 (.take 32 (.take 33 (.take 34 (.take 35 (.take 36 (.take 37 (.take 38 (.take 39 (.take 40 (.take 41 (.take 42 (.take 43 (.take 44 (.take 45 (.take 46 .done))))))))))))))))))))))))))))))))))))))))))))))) 47 tm (by kernel_rfl) ew180 hO (hm rfl rfl (fun _ _ _ h => h) rfl (gy rfl rfl (fun _ _ _ h => h) (y_ne tz rfl rfl) (hm rfl rfl (fun _ _ _ h => h) rfl (gy rfl rfl (fun _ _ _ h => h) (ek (by rw [h176]; rfl)) (gy rfl rfl (fun _ _ _ h => h) (ek (by rw [h176]; rfl)) (gy rfl rfl (fun _ _ _ h => h) (ek (by rw [h176]; rfl)) (gy rfl rfl (fun _ _ _ h => h) (pt tz (by rw [h176]; rfl) rfl) (hm rfl rfl (fun _ _ _ h => h) rfl (gy rfl rfl (fun _ _ _ h => h) (ek rfl) ?_)))))))))
  refine gy rfl rfl (fun _ _ _ h => h) (ek rfl) (gy rfl rfl (fun _ _ _ h => h) (ek rfl) (gy rfl rfl (fun _ _ _ h => h) (ek rfl) (gy rfl rfl (fun _ _ _ h => h) (ek rfl) (gy rfl rfl (fun _ _ _ h => h) (ek rfl) (gy rfl rfl (fun _ _ _ h => h) (pt tz rfl rfl) (hm rfl rfl (fun _ _ _ h => h) rfl (gy rfl rfl (fun _ _ _ h => h) (ek rfl) (gy rfl rfl (fun _ _ _ h => h) (ek rfl) (gy rfl rfl (fun _ _ _ h => h) (ek rfl) ?_)))))))))
  refine gy rfl rfl (fun _ _ _ h => h) (ek rfl) (gy rfl rfl (fun _ _ _ h => h) (ek rfl) (gy rfl rfl (fun _ _ _ h => h) (ek rfl) (gy rfl rfl (fun _ _ _ h => h) (ek rfl) (gy rfl rfl (fun _ _ _ h => h) (ek rfl) (gy rfl rfl (fun _ _ _ h => h) (ek rfl) (gy rfl rfl (fun _ _ _ h => h) (ek rfl) (gy rfl rfl (fun _ _ _ h => h) (ek rfl) (gy rfl rfl (fun _ _ _ h => h) (pt tz rfl rfl) (hm rfl rfl (fun _ _ _ h => h) rfl ?_)))))))))
  refine gy rfl rfl (fun _ _ _ h => h) (ek rfl) (gy rfl rfl (fun _ _ _ h => h) (ek rfl) (gy rfl rfl (fun _ _ _ h => h) (ek rfl) (gy rfl rfl (fun _ _ _ h => h) (pt tz rfl rfl) (hm rfl rfl (fun _ _ _ h => h) rfl (gy rfl rfl (fun _ _ _ h => h) (ek rfl) (gy rfl rfl (fun _ _ _ h => h) (ek rfl) (gy rfl rfl (fun _ _ _ h => h) (pt tz rfl rfl) (hm rfl rfl (fun _ _ _ h => h) rfl (gy rfl rfl (fun _ _ _ h => h) (ek rfl) ?_)))))))))
  refine gy rfl rfl (fun _ _ _ h => h) (ek rfl) (gy rfl rfl (fun _ _ _ h => h) (pt tz rfl rfl) (hm rfl rfl (fun _ _ _ h => h) rfl (gy rfl rfl (fun _ _ _ h => h) (ek rfl) (gy rfl rfl (fun _ _ _ h => h) (ek rfl) (gy rfl rfl (fun _ _ _ h => h) (ek rfl) (gy rfl rfl (fun _ _ _ h => h) (ek rfl) (gy rfl rfl (fun _ _ _ h => h) (pt tz rfl rfl) (gd (ez (E' := [(2, .pointer (some ⟨b10, 0, none⟩)), (3, .pointer (some ⟨b12, 0, none⟩)), (4, .bool false), (5, .slice b27 (((allT p).1).length) c28), (7, .int .i64 (c.code.length : Int)), (64, .bool true)]) ⟨rfl, rfl, rfl, rfl, rfl, rfl, tz⟩ ?_)))))))))
  refine et (cv rfl (cq (cr (as_ hO rfl rfl (rj (et (ct (ew' (er (.inl rfl) rfl rfl ?_)))))))))
  refine Ret.mk hle35 (hO.forget) (congrArg Value.bool ?_)
  first | (rw [irMay_eq, show codeB (sheetOf p c) = false from codeB_bad (s := sheetOf p c) (k := k) (by show k < c.code.length; omega) (by assumption)]; simp; done) | (rw [irMay_eq]; have h_1 : codeB (sheetOf p c) = true := codeB_done hin (by show c.code.length ≤ k; omega); simp_all [lastB, sheetOf]; done) | (rw [irMay_eq]; simp_all [mayA]; done) | (rw [irMay_eq]; grind [mayA, lastB])
 have h181 : (decide ((allT p).2 = 0)) = true := by simpa using h176
 have h182 : (allT p).2 = 0 := ot h181
 rcases bt (decide (c.fn < 0)) with h185 | h185
 ·
  have h186 : c.fn < 0 := ot h185
  obtain ⟨w187, hO, ew188⟩ : ∃ w', Own w' M25 ([(b12, .cells #[.int .i64 c.fn, .int .i64 c.regs, .slice b4 c.code.length c5, .slice b7 c.metas.length c8] 28)] ++ bs) ∧ { w24 with drawn := w24.drawn + 1 } = w' := ⟨_, hO.drawn _, rfl⟩
  refine cw (S := fun w => Own w M25 ([(b12, .cells #[.int .i64 c.fn, .int .i64 c.regs, .slice b4 c.code.length c5, .slice b7 c.metas.length c8] 28)] ++ bs)) (.take 0 (.take 1 (.take 2 (.take 3 (.take 4 (.take 5 (.take 6 (.take 7 (.take 8 (.take 9 (.take 10 (.take 11 (.take 12 (.take 13 (.take 14 (.take 15 (.take 16 (.take 17 (.take 18 (.take 19 (.take 20 (.take 21 (.take 22 (.take 23 (.take 24 (.take 25 (.take 26 (.take 27 (.take 28 (.take 29 (.take 30 (.take 31 (.take 32 (.take 33 (.take 34 (.take 35 (.take 36 (.take 37 (.take 38 (.take 39 (.take 40 (.take 41 (.take 42 (.take 43 (.take 44 (.take 45 (.take 46 .done))))))))))))))))))))))))))))))))))))))))))))))) 47 tm (by kernel_rfl) ew188 hO (hm rfl rfl (fun _ _ _ h => h) rfl (gy rfl rfl (fun _ _ _ h => h) (y_ne tz rfl rfl) (hm rfl rfl (fun _ _ _ h => h) rfl (gy rfl rfl (fun _ _ _ h => h) (yf 0 tf_28_0 rfl (by rw [h176]; rfl) rfl) (gy rfl rfl (fun _ _ _ h => h) (yl tl_3 (by rw [h176]; rfl) rfl (fun _ h => ob h 0 0 rfl rfl)) (gy rfl rfl (fun _ _ _ h => h) (yv (by rw [h176]; rfl) rfl rfl) (gy rfl rfl (fun _ _ _ h => h) (pf tz (by rw [h176]; rfl) rfl) (hm rfl rfl (fun _ _ _ h => h) rfl (gy rfl rfl (fun _ _ _ h => h) (ek (by rw [h185]; rfl)) ?_)))))))))
  refine gy rfl rfl (fun _ _ _ h => h) (ek (by rw [h185]; rfl)) (gy rfl rfl (fun _ _ _ h => h) (ek (by rw [h185]; rfl)) (gy rfl rfl (fun _ _ _ h => h) (ek (by rw [h185]; rfl)) (gy rfl rfl (fun _ _ _ h => h) (ek (by rw [h185]; rfl)) (gy rfl rfl (fun _ _ _ h => h) (ek (by rw [h185]; rfl)) (gy rfl rfl (fun _ _ _ h => h) (pt tz (by rw [h185]; rfl) rfl) (hm rfl rfl (fun _ _ _ h => h) rfl (gy rfl rfl (fun _ _ _ h => h) (ek rfl) (gy rfl rfl (fun _ _ _ h => h) (ek rfl) (gy rfl rfl (fun _ _ _ h => h) (ek rfl) ?_)))))))))
  refine gy rfl rfl (fun _ _ _ h => h) (ek rfl) (gy rfl rfl (fun _ _ _ h => h) (ek rfl) (gy rfl rfl (fun _ _ _ h => h) (ek rfl) (gy rfl rfl (fun _ _ _ h => h) (ek rfl) (gy rfl rfl (fun _ _ _ h => h) (ek rfl) (gy rfl rfl (fun _ _ _ h => h) (ek rfl) (gy rfl rfl (fun _ _ _ h => h) (ek rfl) (gy rfl rfl (fun _ _ _ h => h) (ek rfl) (gy rfl rfl (fun _ _ _ h => h) (pt tz rfl rfl) (hm rfl rfl (fun _ _ _ h => h) rfl ?_)))))))))
  refine gy rfl rfl (fun _ _ _ h => h) (ek rfl) (gy rfl rfl (fun _ _ _ h => h) (ek rfl) (gy rfl rfl (fun _ _ _ h => h) (ek rfl) (gy rfl rfl (fun _ _ _ h => h) (pt tz rfl rfl) (hm rfl rfl (fun _ _ _ h => h) rfl (gy rfl rfl (fun _ _ _ h => h) (ek rfl) (gy rfl rfl (fun _ _ _ h => h) (ek rfl) (gy rfl rfl (fun _ _ _ h => h) (pt tz rfl rfl) (hm rfl rfl (fun _ _ _ h => h) rfl (gy rfl rfl (fun _ _ _ h => h) (ek rfl) ?_)))))))))
  refine gy rfl rfl (fun _ _ _ h => h) (ek rfl) (gy rfl rfl (fun _ _ _ h => h) (pt tz rfl rfl) (hm rfl rfl (fun _ _ _ h => h) rfl (gy rfl rfl (fun _ _ _ h => h) (ek rfl) (gy rfl rfl (fun _ _ _ h => h) (ek rfl) (gy rfl rfl (fun _ _ _ h => h) (ek rfl) (gy rfl rfl (fun _ _ _ h => h) (ek rfl) (gy rfl rfl (fun _ _ _ h => h) (pt tz rfl rfl) (gd (ez (E' := [(2, .pointer (some ⟨b10, 0, none⟩)), (3, .pointer (some ⟨b12, 0, none⟩)), (4, .bool false), (5, .slice b27 (((allT p).1).length) c28), (7, .int .i64 (c.code.length : Int)), (64, .bool true)]) ⟨rfl, rfl, rfl, rfl, rfl, rfl, tz⟩ ?_)))))))))
  refine et (cv rfl (cq (cr (as_ hO rfl rfl (rj (et (ct (ew' (er (.inl rfl) rfl rfl ?_)))))))))
  refine Ret.mk hle35 (hO.forget) (congrArg Value.bool ?_)
  first | (rw [irMay_eq, show codeB (sheetOf p c) = false from codeB_bad (s := sheetOf p c) (k := k) (by show k < c.code.length; omega) (by assumption)]; simp; done) | (rw [irMay_eq]; have h_1 : codeB (sheetOf p c) = true := codeB_done hin (by show c.code.length ≤ k; omega); simp_all [lastB, sheetOf]; done) | (rw [irMay_eq]; simp_all [mayA]; done) | (rw [irMay_eq]; grind [mayA, lastB])
 have h189 : ¬ (c.fn < 0) := oq h185
 rcases bt (decide ((p.funcs.length : Int) ≤ c.fn)) with h192 | h192
 ·
  have h193 : (p.funcs.length : Int) ≤ c.fn := ot h192
  obtain ⟨w194, hO, ew195⟩ : ∃ w', Own w' M25 ([(b12, .cells #[.int .i64 c.fn, .int .i64 c.regs, .slice b4 c.code.length c5, .slice b7 c.metas.length c8] 28)] ++ bs) ∧ { w24 with drawn := w24.drawn + 1 } = w' := ⟨_, hO.drawn _, rfl⟩
  refine cw (S := fun w => Own w M25 ([(b12, .cells #[.int .i64 c.fn, .int .i64 c.regs, .slice b4 c.code.length c5, .slice b7 c.metas.length c8] 28)] ++ bs)) (.take 0 (.take 1 (.take 2 (.take 3 (.take 4 (.take 5 (.take 6 (.take 7 (.take 8 (.take 9 (.take 10 (.take 11 (.take 12 (.take 13 (.take 14 (.take 15 (.take 16 (.take 17 (.take 18 (.take 19 (.take 20 (.take 21 (.take 22 (.take 23 (.take 24 (.take 25 (.take 26 (.take 27 (.take 28 (.take 29 (.take 30 (.take 31 (.take 32 (.take 33 (.take 34 (.take 35 (.take 36 (.take 37 (.take 38 (.take 39 (.take 40 (.take 41 (.take 42 (.take 43 (.take 44 (.take 45 (.take 46 .done))))))))))))))))))))))))))))))))))))))))))))))) 47 tm (by kernel_rfl) ew195 hO (hm rfl rfl (fun _ _ _ h => h) rfl (gy rfl rfl (fun _ _ _ h => h) (y_ne tz rfl rfl) (hm rfl rfl (fun _ _ _ h => h) rfl (gy rfl rfl (fun _ _ _ h => h) (yf 0 tf_28_0 rfl (by rw [h176]; rfl) rfl) (gy rfl rfl (fun _ _ _ h => h) (yl tl_3 (by rw [h176]; rfl) rfl (fun _ h => ob h 0 0 rfl rfl)) (gy rfl rfl (fun _ _ _ h => h) (yv (by rw [h176]; rfl) rfl rfl) (gy rfl rfl (fun _ _ _ h => h) (pf tz (by rw [h176]; rfl) rfl) (hm rfl rfl (fun _ _ _ h => h) rfl (gy rfl rfl (fun _ _ _ h => h) (yf 0 tf_28_0 rfl (by rw [h185]; rfl) rfl) ?_)))))))))
  refine gy rfl rfl (fun _ _ _ h => h) (yl tl_3 (by rw [h185]; rfl) rfl (fun _ h => ob h 0 0 rfl rfl)) (gy rfl rfl (fun _ _ _ h => h) (yf 0 tf_24_0 rfl (by rw [h185]; rfl) rfl) (gy rfl rfl (fun _ _ _ h => h) (yl tl_22 (by rw [h185]; rfl) rfl (fun _ h => at34.cell h 0 rfl)) ?_))
  have bd196 : p.funcs.length * 40 ≤ 140737488351232 := s30.bd
  refine gy rfl rfl (fun _ _ _ h => h) (y_len ts_22 (by rw [h185]; rfl) rfl) (gy rfl rfl (fun _ _ _ h => h) (y_ge (by rw [h185]; rfl) rfl rfl) (gy rfl rfl (fun _ _ _ h => h) (pf tz (by rw [h185]; rfl) rfl) (hm rfl rfl (fun _ _ _ h => h) rfl (gy rfl rfl (fun _ _ _ h => h) (ek (by rw [h192]; rfl)) (gy rfl rfl (fun _ _ _ h => h) (ek (by rw [h192]; rfl)) (gy rfl rfl (fun _ _ _ h => h) (ek (by rw [h192]; rfl)) (gy rfl rfl (fun _ _ _ h => h) (ek (by rw [h192]; rfl)) (gy rfl rfl (fun _ _ _ h => h) (ek (by rw [h192]; rfl)) (gy rfl rfl (fun _ _ _ h => h) (ek (by rw [h192]; rfl)) ?_)))))))))
  refine gy rfl rfl (fun _ _ _ h => h) (ek (by rw [h192]; rfl)) (gy rfl rfl (fun _ _ _ h => h) (ek (by rw [h192]; rfl)) (gy rfl rfl (fun _ _ _ h => h) (ek (by rw [h192]; rfl)) (gy rfl rfl (fun _ _ _ h => h) (ek (by rw [h192]; rfl)) (gy rfl rfl (fun _ _ _ h => h) (ek (by rw [h192]; rfl)) (gy rfl rfl (fun _ _ _ h => h) (pt tz (by rw [h192]; rfl) rfl) (hm rfl rfl (fun _ _ _ h => h) rfl (gy rfl rfl (fun _ _ _ h => h) (ek rfl) (gy rfl rfl (fun _ _ _ h => h) (ek rfl) (gy rfl rfl (fun _ _ _ h => h) (ek rfl) ?_)))))))))
  refine gy rfl rfl (fun _ _ _ h => h) (pt tz rfl rfl) (hm rfl rfl (fun _ _ _ h => h) rfl (gy rfl rfl (fun _ _ _ h => h) (ek rfl) (gy rfl rfl (fun _ _ _ h => h) (ek rfl) (gy rfl rfl (fun _ _ _ h => h) (pt tz rfl rfl) (hm rfl rfl (fun _ _ _ h => h) rfl (gy rfl rfl (fun _ _ _ h => h) (ek rfl) (gy rfl rfl (fun _ _ _ h => h) (ek rfl) (gy rfl rfl (fun _ _ _ h => h) (pt tz rfl rfl) (hm rfl rfl (fun _ _ _ h => h) rfl ?_)))))))))
  refine gy rfl rfl (fun _ _ _ h => h) (ek rfl) (gy rfl rfl (fun _ _ _ h => h) (ek rfl) (gy rfl rfl (fun _ _ _ h => h) (ek rfl) (gy rfl rfl (fun _ _ _ h => h) (ek rfl) (gy rfl rfl (fun _ _ _ h => h) (pt tz rfl rfl) (gd (ez (E' := [(2, .pointer (some ⟨b10, 0, none⟩)), (3, .pointer (some ⟨b12, 0, none⟩)), (4, .bool false), (5, .slice b27 (((allT p).1).length) c28), (7, .int .i64 (c.code.length : Int)), (64, .bool true)]) ⟨rfl, rfl, rfl, rfl, rfl, rfl, tz⟩ (et (cv rfl (cq ?_)))))))))
  refine cr (as_ hO rfl rfl (rj (et (ct (ew' (er (.inl rfl) rfl rfl ?_))))))
  refine Ret.mk hle35 (hO.forget) (congrArg Value.bool ?_)
  first | (rw [irMay_eq, show codeB (sheetOf p c) = false from codeB_bad (s := sheetOf p c) (k := k) (by show k < c.code.length; omega) (by assumption)]; simp; done) | (rw [irMay_eq]; have h_1 : codeB (sheetOf p c) = true := codeB_done hin (by show c.code.length ≤ k; omega); simp_all [lastB, sheetOf]; done) | (rw [irMay_eq]; simp_all [mayA]; done) | (rw [irMay_eq]; grind [mayA, lastB])
 have h197 : ¬ ((p.funcs.length : Int) ≤ c.fn) := oq h192
 rcases bt (decide (c.regs < (max 1 ((nth p.funcs c.fn.toNat).locals)))) with h200 | h200
 ·
  have h201 : c.regs < (max 1 ((nth p.funcs c.fn.toNat).locals)) := ot h200
  obtain ⟨w202, hO, ew203⟩ : ∃ w', Own w' M25 ([(b12, .cells #[.int .i64 c.fn, .int .i64 c.regs, .slice b4 c.code.length c5, .slice b7 c.metas.length c8] 28)] ++ bs) ∧ { w24 with drawn := w24.drawn + 1 } = w' := ⟨_, hO.drawn _, rfl⟩
  refine cw (S := fun w => Own w M25 ([(b12, .cells #[.int .i64 c.fn, .int .i64 c.regs, .slice b4 c.code.length c5, .slice b7 c.metas.length c8] 28)] ++ bs)) (.take 0 (.take 1 (.take 2 (.take 3 (.take 4 (.take 5 (.take 6 (.take 7 (.take 8 (.take 9 (.take 10 (.take 11 (.take 12 (.take 13 (.take 14 (.take 15 (.take 16 (.take 17 (.take 18 (.take 19 (.take 20 (.take 21 (.take 22 (.take 23 (.take 24 (.take 25 (.take 26 (.take 27 (.take 28 (.take 29 (.take 30 (.take 31 (.take 32 (.take 33 (.take 34 (.take 35 (.take 36 (.take 37 (.take 38 (.take 39 (.take 40 (.take 41 (.take 42 (.take 43 (.take 44 (.take 45 (.take 46 .done))))))))))))))))))))))))))))))))))))))))))))))) 47 tm (by kernel_rfl) ew203 hO (hm rfl rfl (fun _ _ _ h => h) rfl (gy rfl rfl (fun _ _ _ h => h) (y_ne tz rfl rfl) (hm rfl rfl (fun _ _ _ h => h) rfl (gy rfl rfl (fun _ _ _ h => h) (yf 0 tf_28_0 rfl (by rw [h176]; rfl) rfl) (gy rfl rfl (fun _ _ _ h => h) (yl tl_3 (by rw [h176]; rfl) rfl (fun _ h => ob h 0 0 rfl rfl)) (gy rfl rfl (fun _ _ _ h => h) (yv (by rw [h176]; rfl) rfl rfl) (gy rfl rfl (fun _ _ _ h => h) (pf tz (by rw [h176]; rfl) rfl) (hm rfl rfl (fun _ _ _ h => h) rfl (gy rfl rfl (fun _ _ _ h => h) (yf 0 tf_28_0 rfl (by rw [h185]; rfl) rfl) ?_)))))))))
  refine gy rfl rfl (fun _ _ _ h => h) (yl tl_3 (by rw [h185]; rfl) rfl (fun _ h => ob h 0 0 rfl rfl)) (gy rfl rfl (fun _ _ _ h => h) (yf 0 tf_24_0 rfl (by rw [h185]; rfl) rfl) (gy rfl rfl (fun _ _ _ h => h) (yl tl_22 (by rw [h185]; rfl) rfl (fun _ h => at34.cell h 0 rfl)) ?_))
  have bd204 : p.funcs.length * 40 ≤ 140737488351232 := s30.bd
  refine gy rfl rfl (fun _ _ _ h => h) (y_len ts_22 (by rw [h185]; rfl) rfl) (gy rfl rfl (fun _ _ _ h => h) (y_ge (by rw [h185]; rfl) rfl rfl) (gy rfl rfl (fun _ _ _ h => h) (pf tz (by rw [h185]; rfl) rfl) (hm rfl rfl (fun _ _ _ h => h) rfl (gy rfl rfl (fun _ _ _ h => h) (yf 1 tf_28_1 rfl (by rw [h192]; rfl) rfl) (gy rfl rfl (fun _ _ _ h => h) (yl tl_3 (by rw [h192]; rfl) rfl (fun _ h => ob h 0 1 rfl rfl)) (gy rfl rfl (fun _ _ _ h => h) (yf 0 tf_24_0 rfl (by rw [h192]; rfl) rfl) (gy rfl rfl (fun _ _ _ h => h) (yl tl_22 (by rw [h192]; rfl) rfl (fun _ h => at34.cell h 0 rfl)) (gy rfl rfl (fun _ _ _ h => h) (yf 0 tf_28_0 rfl (by rw [h192]; rfl) rfl) (gy rfl rfl (fun _ _ _ h => h) (yl tl_3 (by rw [h192]; rfl) rfl (fun _ h => ob h 0 0 rfl rfl)) ?_)))))))))
  obtain ⟨p205, rfl, _⟩ := RdS.get s30 c.fn.toNat (by omega)
  have hO : Own w202 M25 ([(b12, .cells #[.int .i64 c.fn, .int .i64 c.regs, .slice b4 c.code.length c5, .slice b7 c.metas.length c8] 28)] ++ bs) := by assumption
  have q206 : PAt M25 (p205.add (c.fn.toNat * 3)) (nth p.funcs c.fn.toNat) := RdS.at s30 c.fn.toNat (by omega)
  refine gy rfl rfl (fun _ _ _ h => h) (yi ts_22 (by rw [h192]; rfl) rfl rfl (by omega) (by omega)) (gy rfl rfl (fun _ _ _ h => h) (ya tf_44_1 (by rw [h192]; rfl) rfl) ?_)
  obtain ⟨_, at210, b207, c208, rfl, s209⟩ := id q206
  refine gy rfl rfl (fun _ _ _ h => h) (yl tl_3 (by rw [h192]; rfl) rfl (fun _ h => at210.cell h 1 rfl)) (gy rfl rfl (fun _ _ _ h => h) (y_max (by rw [h192]; rfl) rfl rfl) (gy rfl rfl (fun _ _ _ h => h) (yv (by rw [h192]; rfl) rfl rfl) (gy rfl rfl (fun _ _ _ h => h) (pf tz (by rw [h192]; rfl) rfl) (hm rfl rfl (fun _ _ _ h => h) rfl (gy rfl rfl (fun _ _ _ h => h) (ek (by rw [h200]; rfl)) (gy rfl rfl (fun _ _ _ h => h) (ek (by rw [h200]; rfl)) (gy rfl rfl (fun _ _ _ h => h) (ek (by rw [h200]; rfl)) (gy rfl rfl (fun _ _ _ h => h) (pt tz (by rw [h200]; rfl) rfl) (hm rfl rfl (fun _ _ _ h => h) rfl ?_)))))))))
  refine gy rfl rfl (fun _ _ _ h => h) (ek rfl) (gy rfl rfl (fun _ _ _ h => h) (ek rfl) (gy rfl rfl (fun _ _ _ h => h) (pt tz rfl rfl) (hm rfl rfl (fun _ _ _ h => h) rfl (gy rfl rfl (fun _ _ _ h => h) (ek rfl) (gy rfl rfl (fun _ _ _ h => h) (ek rfl) (gy rfl rfl (fun _ _ _ h => h) (pt tz rfl rfl) (hm rfl rfl (fun _ _ _ h => h) rfl (gy rfl rfl (fun _ _ _ h => h) (ek rfl) (gy rfl rfl (fun _ _ _ h => h) (ek rfl) ?_)))))))))
  refine gy rfl rfl (fun _ _ _ h => h) (ek rfl) (gy rfl rfl (fun _ _ _ h => h) (ek rfl) (gy rfl rfl (fun _ _ _ h => h) (pt tz rfl rfl) (gd (ez (E' := [(2, .pointer (some ⟨b10, 0, none⟩)), (3, .pointer (some ⟨b12, 0, none⟩)), (4, .bool false), (5, .slice b27 (((allT p).1).length) c28), (7, .int .i64 (c.code.length : Int)), (64, .bool true)]) ⟨rfl, rfl, rfl, rfl, rfl, rfl, tz⟩ (et (cv rfl (cq (cr (as_ hO rfl rfl ?_)))))))))
  refine rj (et (ct (ew' (er (.inl rfl) rfl rfl ?_))))
  refine Ret.mk hle35 (hO.forget) (congrArg Value.bool ?_)
  first | (rw [irMay_eq, show codeB (sheetOf p c) = false from codeB_bad (s := sheetOf p c) (k := k) (by show k < c.code.length; omega) (by assumption)]; simp; done) | (rw [irMay_eq]; have h_1 : codeB (sheetOf p c) = true := codeB_done hin (by show c.code.length ≤ k; omega); simp_all [lastB, sheetOf]; done) | (rw [irMay_eq]; simp_all [mayA]; done) | (rw [irMay_eq]; grind [mayA, lastB])
 have h211 : ¬ (c.regs < (max 1 ((nth p.funcs c.fn.toNat).locals))) := oq h200
 rcases bt (decide (64 < c.regs)) with h214 | h214
 ·
  have h215 : 64 < c.regs := ot h214
  obtain ⟨w216, hO, ew217⟩ : ∃ w', Own w' M25 ([(b12, .cells #[.int .i64 c.fn, .int .i64 c.regs, .slice b4 c.code.length c5, .slice b7 c.metas.length c8] 28)] ++ bs) ∧ { w24 with drawn := w24.drawn + 1 } = w' := ⟨_, hO.drawn _, rfl⟩
  refine cw (S := fun w => Own w M25 ([(b12, .cells #[.int .i64 c.fn, .int .i64 c.regs, .slice b4 c.code.length c5, .slice b7 c.metas.length c8] 28)] ++ bs)) (.take 0 (.take 1 (.take 2 (.take 3 (.take 4 (.take 5 (.take 6 (.take 7 (.take 8 (.take 9 (.take 10 (.take 11 (.take 12 (.take 13 (.take 14 (.take 15 (.take 16 (.take 17 (.take 18 (.take 19 (.take 20 (.take 21 (.take 22 (.take 23 (.take 24 (.take 25 (.take 26 (.take 27 (.take 28 (.take 29 (.take 30 (.take 31 (.take 32 (.take 33 (.take 34 (.take 35 (.take 36 (.take 37 (.take 38 (.take 39 (.take 40 (.take 41 (.take 42 (.take 43 (.take 44 (.take 45 (.take 46 .done))))))))))))))))))))))))))))))))))))))))))))))) 47 tm (by kernel_rfl) ew217 hO (hm rfl rfl (fun _ _ _ h => h) rfl (gy rfl rfl (fun _ _ _ h => h) (y_ne tz rfl rfl) (hm rfl rfl (fun _ _ _ h => h) rfl (gy rfl rfl (fun _ _ _ h => h) (yf 0 tf_28_0 rfl (by rw [h176]; rfl) rfl) (gy rfl rfl (fun _ _ _ h => h) (yl tl_3 (by rw [h176]; rfl) rfl (fun _ h => ob h 0 0 rfl rfl)) (gy rfl rfl (fun _ _ _ h => h) (yv (by rw [h176]; rfl) rfl rfl) (gy rfl rfl (fun _ _ _ h => h) (pf tz (by rw [h176]; rfl) rfl) (hm rfl rfl (fun _ _ _ h => h) rfl (gy rfl rfl (fun _ _ _ h => h) (yf 0 tf_28_0 rfl (by rw [h185]; rfl) rfl) ?_)))))))))
  refine gy rfl rfl (fun _ _ _ h => h) (yl tl_3 (by rw [h185]; rfl) rfl (fun _ h => ob h 0 0 rfl rfl)) (gy rfl rfl (fun _ _ _ h => h) (yf 0 tf_24_0 rfl (by rw [h185]; rfl) rfl) (gy rfl rfl (fun _ _ _ h => h) (yl tl_22 (by rw [h185]; rfl) rfl (fun _ h => at34.cell h 0 rfl)) ?_))
  have bd218 : p.funcs.length * 40 ≤ 140737488351232 := s30.bd
  refine gy rfl rfl (fun _ _ _ h => h) (y_len ts_22 (by rw [h185]; rfl) rfl) (gy rfl rfl (fun _ _ _ h => h) (y_ge (by rw [h185]; rfl) rfl rfl) (gy rfl rfl (fun _ _ _ h => h) (pf tz (by rw [h185]; rfl) rfl) (hm rfl rfl (fun _ _ _ h => h) rfl (gy rfl rfl (fun _ _ _ h => h) (yf 1 tf_28_1 rfl (by rw [h192]; rfl) rfl) (gy rfl rfl (fun _ _ _ h => h) (yl tl_3 (by rw [h192]; rfl) rfl (fun _ h => ob h 0 1 rfl rfl)) (gy rfl rfl (fun _ _ _ h => h) (yf 0 tf_24_0 rfl (by rw [h192]; rfl) rfl) (gy rfl rfl (fun _ _ _ h => h) (yl tl_22 (by rw [h192]; rfl) rfl (fun _ h => at34.cell h 0 rfl)) (gy rfl rfl (fun _ _ _ h => h) (yf 0 tf_28_0 rfl (by rw [h192]; rfl) rfl) (gy rfl rfl (fun _ _ _ h => h) (yl tl_3 (by rw [h192]; rfl) rfl (fun _ h => ob h 0 0 rfl rfl)) ?_)))))))))
  obtain ⟨p219, rfl, _⟩ := RdS.get s30 c.fn.toNat (by omega)
  have hO : Own w216 M25 ([(b12, .cells #[.int .i64 c.fn, .int .i64 c.regs, .slice b4 c.code.length c5, .slice b7 c.metas.length c8] 28)] ++ bs) := by assumption
  have q220 : PAt M25 (p219.add (c.fn.toNat * 3)) (nth p.funcs c.fn.toNat) := RdS.at s30 c.fn.toNat (by omega)
  refine gy rfl rfl (fun _ _ _ h => h) (yi ts_22 (by rw [h192]; rfl) rfl rfl (by omega) (by omega)) (gy rfl rfl (fun _ _ _ h => h) (ya tf_44_1 (by rw [h192]; rfl) rfl) ?_)
  obtain ⟨_, at224, b221, c222, rfl, s223⟩ := id q220
  refine gy rfl rfl (fun _ _ _ h => h) (yl tl_3 (by rw [h192]; rfl) rfl (fun _ h => at224.cell h 1 rfl)) (gy rfl rfl (fun _ _ _ h => h) (y_max (by rw [h192]; rfl) rfl rfl) (gy rfl rfl (fun _ _ _ h => h) (yv (by rw [h192]; rfl) rfl rfl) (gy rfl rfl (fun _ _ _ h => h) (pf tz (by rw [h192]; rfl) rfl) (hm rfl rfl (fun _ _ _ h => h) rfl (gy rfl rfl (fun _ _ _ h => h) (yf 1 tf_28_1 rfl (by rw [h200]; rfl) rfl) (gy rfl rfl (fun _ _ _ h => h) (yl tl_3 (by rw [h200]; rfl) rfl (fun _ h => ob h 0 1 rfl rfl)) (gy rfl rfl (fun _ _ _ h => h) (y_gt (by rw [h200]; rfl) rfl rfl) (gy rfl rfl (fun _ _ _ h => h) (pf tz (by rw [h200]; rfl) rfl) (hm rfl rfl (fun _ _ _ h => h) rfl ?_)))))))))
  refine gy rfl rfl (fun _ _ _ h => h) (ek (by rw [h214]; rfl)) (gy rfl rfl (fun _ _ _ h => h) (ek (by rw [h214]; rfl)) (gy rfl rfl (fun _ _ _ h => h) (pt tz (by rw [h214]; rfl) rfl) (hm rfl rfl (fun _ _ _ h => h) rfl (gy rfl rfl (fun _ _ _ h => h) (ek rfl) (gy rfl rfl (fun _ _ _ h => h) (ek rfl) (gy rfl rfl (fun _ _ _ h => h) (pt tz rfl rfl) (hm rfl rfl (fun _ _ _ h => h) rfl (gy rfl rfl (fun _ _ _ h => h) (ek rfl) (gy rfl rfl (fun _ _ _ h => h) (ek rfl) ?_)))))))))
  refine gy rfl rfl (fun _ _ _ h => h) (ek rfl) (gy rfl rfl (fun _ _ _ h => h) (ek rfl) (gy rfl rfl (fun _ _ _ h => h) (pt tz rfl rfl) (gd (ez (E' := [(2, .pointer (some ⟨b10, 0, none⟩)), (3, .pointer (some ⟨b12, 0, none⟩)), (4, .bool false), (5, .slice b27 (((allT p).1).length) c28), (7, .int .i64 (c.code.length : Int)), (64, .bool true)]) ⟨rfl, rfl, rfl, rfl, rfl, rfl, tz⟩ (et (cv rfl (cq (cr (as_ hO rfl rfl ?_)))))))))
  refine rj (et (ct (ew' (er (.inl rfl) rfl rfl ?_))))
  refine Ret.mk hle35 (hO.forget) (congrArg Value.bool ?_)
  first | (rw [irMay_eq, show codeB (sheetOf p c) = false from codeB_bad (s := sheetOf p c) (k := k) (by show k < c.code.length; omega) (by assumption)]; simp; done) | (rw [irMay_eq]; have h_1 : codeB (sheetOf p c) = true := codeB_done hin (by show c.code.length ≤ k; omega); simp_all [lastB, sheetOf]; done) | (rw [irMay_eq]; simp_all [mayA]; done) | (rw [irMay_eq]; grind [mayA, lastB])
 have h225 : ¬ (64 < c.regs) := oq h214
 rcases bt (decide ((c.code.length : Int) < 1)) with h228 | h228
 ·
  have h229 : (c.code.length : Int) < 1 := ot h228
  obtain ⟨w230, hO, ew231⟩ : ∃ w', Own w' M25 ([(b12, .cells #[.int .i64 c.fn, .int .i64 c.regs, .slice b4 c.code.length c5, .slice b7 c.metas.length c8] 28)] ++ bs) ∧ { w24 with drawn := w24.drawn + 1 } = w' := ⟨_, hO.drawn _, rfl⟩
  refine cw (S := fun w => Own w M25 ([(b12, .cells #[.int .i64 c.fn, .int .i64 c.regs, .slice b4 c.code.length c5, .slice b7 c.metas.length c8] 28)] ++ bs)) (.take 0 (.take 1 (.take 2 (.take 3 (.take 4 (.take 5 (.take 6 (.take 7 (.take 8 (.take 9 (.take 10 (.take 11 (.take 12 (.take 13 (.take 14 (.take 15 (.take 16 (.take 17 (.take 18 (.take 19 (.take 20 (.take 21 (.take 22 (.take 23 (.take 24 (.take 25 (.take 26 (.take 27 (.take 28 (.take 29 (.take 30 (.take 31 (.take 32 (.take 33 (.take 34 (.take 35 (.take 36 (.take 37 (.take 38 (.take 39 (.take 40 (.take 41 (.take 42 (.take 43 (.take 44 (.take 45 (.take 46 .done))))))))))))))))))))))))))))))))))))))))))))))) 47 tm (by kernel_rfl) ew231 hO (hm rfl rfl (fun _ _ _ h => h) rfl (gy rfl rfl (fun _ _ _ h => h) (y_ne tz rfl rfl) (hm rfl rfl (fun _ _ _ h => h) rfl (gy rfl rfl (fun _ _ _ h => h) (yf 0 tf_28_0 rfl (by rw [h176]; rfl) rfl) (gy rfl rfl (fun _ _ _ h => h) (yl tl_3 (by rw [h176]; rfl) rfl (fun _ h => ob h 0 0 rfl rfl)) (gy rfl rfl (fun _ _ _ h => h) (yv (by rw [h176]; rfl) rfl rfl) (gy rfl rfl (fun _ _ _ h => h) (pf tz (by rw [h176]; rfl) rfl) (hm rfl rfl (fun _ _ _ h => h) rfl (gy rfl rfl (fun _ _ _ h => h) (yf 0 tf_28_0 rfl (by rw [h185]; rfl) rfl) ?_)))))))))
  refine gy rfl rfl (fun _ _ _ h => h) (yl tl_3 (by rw [h185]; rfl) rfl (fun _ h => ob h 0 0 rfl rfl)) (gy rfl rfl (fun _ _ _ h => h) (yf 0 tf_24_0 rfl (by rw [h185]; rfl) rfl) (gy rfl rfl (fun _ _ _ h => h) (yl tl_22 (by rw [h185]; rfl) rfl (fun _ h => at34.cell h 0 rfl)) ?_))
  have bd232 : p.funcs.length * 40 ≤ 140737488351232 := s30.bd
  refine gy rfl rfl (fun _ _ _ h => h) (y_len ts_22 (by rw [h185]; rfl) rfl) (gy rfl rfl (fun _ _ _ h => h) (y_ge (by rw [h185]; rfl) rfl rfl) (gy rfl rfl (fun _ _ _ h => h) (pf tz (by rw [h185]; rfl) rfl) (hm rfl rfl (fun _ _ _ h => h) rfl (gy rfl rfl (fun _ _ _ h => h) (yf 1 tf_28_1 rfl (by rw [h192]; rfl) rfl) (gy rfl rfl (fun _ _ _ h => h) (yl tl_3 (by rw [h192]; rfl) rfl (fun _ h => ob h 0 1 rfl rfl)) (gy rfl rfl (fun _ _ _ h => h) (yf 0 tf_24_0 rfl (by rw [h192]; rfl) rfl) (gy rfl rfl (fun _ _ _ h => h) (yl tl_22 (by rw [h192]; rfl) rfl (fun _ h => at34.cell h 0 rfl)) (gy rfl rfl (fun _ _ _ h => h) (yf 0 tf_28_0 rfl (by rw [h192]; rfl) rfl) (gy rfl rfl (fun _ _ _ h => h) (yl tl_3 (by rw [h192]; rfl) rfl (fun _ h => ob h 0 0 rfl rfl)) ?_)))))))))
  obtain ⟨p233, rfl, _⟩ := RdS.get s30 c.fn.toNat (by omega)
  have hO : Own w230 M25 ([(b12, .cells #[.int .i64 c.fn, .int .i64 c.regs, .slice b4 c.code.length c5, .slice b7 c.metas.length c8] 28)] ++ bs) := by assumption
  have q234 : PAt M25 (p233.add (c.fn.toNat * 3)) (nth p.funcs c.fn.toNat) := RdS.at s30 c.fn.toNat (by omega)
  refine gy rfl rfl (fun _ _ _ h => h) (yi ts_22 (by rw [h192]; rfl) rfl rfl (by omega) (by omega)) (gy rfl rfl (fun _ _ _ h => h) (ya tf_44_1 (by rw [h192]; rfl) rfl) ?_)
  obtain ⟨_, at238, b235, c236, rfl, s237⟩ := id q234
  refine gy rfl rfl (fun _ _ _ h => h) (yl tl_3 (by rw [h192]; rfl) rfl (fun _ h => at238.cell h 1 rfl)) (gy rfl rfl (fun _ _ _ h => h) (y_max (by rw [h192]; rfl) rfl rfl) (gy rfl rfl (fun _ _ _ h => h) (yv (by rw [h192]; rfl) rfl rfl) (gy rfl rfl (fun _ _ _ h => h) (pf tz (by rw [h192]; rfl) rfl) (hm rfl rfl (fun _ _ _ h => h) rfl (gy rfl rfl (fun _ _ _ h => h) (yf 1 tf_28_1 rfl (by rw [h200]; rfl) rfl) (gy rfl rfl (fun _ _ _ h => h) (yl tl_3 (by rw [h200]; rfl) rfl (fun _ h => ob h 0 1 rfl rfl)) (gy rfl rfl (fun _ _ _ h => h) (y_gt (by rw [h200]; rfl) rfl rfl) (gy rfl rfl (fun _ _ _ h => h) (pf tz (by rw [h200]; rfl) rfl) (hm rfl rfl (fun _ _ _ h => h) rfl ?_)))))))))
  refine gy rfl rfl (fun _ _ _ h => h) (ym (by rw [h214]; rfl) rfl) (gy rfl rfl (fun _ _ _ h => h) (yv (by rw [h214]; rfl) rfl rfl) (gy rfl rfl (fun _ _ _ h => h) (pf tz (by rw [h214]; rfl) rfl) (hm rfl rfl (fun _ _ _ h => h) rfl (gy rfl rfl (fun _ _ _ h => h) (ek (by rw [h228]; rfl)) (gy rfl rfl (fun _ _ _ h => h) (ek (by rw [h228]; rfl)) (gy rfl rfl (fun _ _ _ h => h) (pt tz (by rw [h228]; rfl) rfl) (hm rfl rfl (fun _ _ _ h => h) rfl (gy rfl rfl (fun _ _ _ h => h) (ek rfl) (gy rfl rfl (fun _ _ _ h => h) (ek rfl) ?_)))))))))
  refine gy rfl rfl (fun _ _ _ h => h) (ek rfl) (gy rfl rfl (fun _ _ _ h => h) (ek rfl) (gy rfl rfl (fun _ _ _ h => h) (pt tz rfl rfl) (gd (ez (E' := [(2, .pointer (some ⟨b10, 0, none⟩)), (3, .pointer (some ⟨b12, 0, none⟩)), (4, .bool false), (5, .slice b27 (((allT p).1).length) c28), (7, .int .i64 (c.code.length : Int)), (64, .bool true)]) ⟨rfl, rfl, rfl, rfl, rfl, rfl, tz⟩ (et (cv rfl (cq (cr (as_ hO rfl rfl ?_)))))))))
  refine rj (et (ct (ew' (er (.inl rfl) rfl rfl ?_))))
  refine Ret.mk hle35 (hO.forget) (congrArg Value.bool ?_)
  first | (rw [irMay_eq, show codeB (sheetOf p c) = false from codeB_bad (s := sheetOf p c) (k := k) (by show k < c.code.length; omega) (by assumption)]; simp; done) | (rw [irMay_eq]; have h_1 : codeB (sheetOf p c) = true := codeB_done hin (by show c.code.length ≤ k; omega); simp_all [lastB, sheetOf]; done) | (rw [irMay_eq]; simp_all [mayA]; done) | (rw [irMay_eq]; grind [mayA, lastB])
 have h239 : ¬ ((c.code.length : Int) < 1) := oq h228
 rcases bt (decide (256 < (c.code.length : Int))) with h242 | h242
 ·
  have h243 : 256 < (c.code.length : Int) := ot h242
  obtain ⟨w244, hO, ew245⟩ : ∃ w', Own w' M25 ([(b12, .cells #[.int .i64 c.fn, .int .i64 c.regs, .slice b4 c.code.length c5, .slice b7 c.metas.length c8] 28)] ++ bs) ∧ { w24 with drawn := w24.drawn + 1 } = w' := ⟨_, hO.drawn _, rfl⟩
  refine cw (S := fun w => Own w M25 ([(b12, .cells #[.int .i64 c.fn, .int .i64 c.regs, .slice b4 c.code.length c5, .slice b7 c.metas.length c8] 28)] ++ bs)) (.take 0 (.take 1 (.take 2 (.take 3 (.take 4 (.take 5 (.take 6 (.take 7 (.take 8 (.take 9 (.take 10 (.take 11 (.take 12 (.take 13 (.take 14 (.take 15 (.take 16 (.take 17 (.take 18 (.take 19 (.take 20 (.take 21 (.take 22 (.take 23 (.take 24 (.take 25 (.take 26 (.take 27 (.take 28 (.take 29 (.take 30 (.take 31 (.take 32 (.take 33 (.take 34 (.take 35 (.take 36 (.take 37 (.take 38 (.take 39 (.take 40 (.take 41 (.take 42 (.take 43 (.take 44 (.take 45 (.take 46 .done))))))))))))))))))))))))))))))))))))))))))))))) 47 tm (by kernel_rfl) ew245 hO (hm rfl rfl (fun _ _ _ h => h) rfl (gy rfl rfl (fun _ _ _ h => h) (y_ne tz rfl rfl) (hm rfl rfl (fun _ _ _ h => h) rfl (gy rfl rfl (fun _ _ _ h => h) (yf 0 tf_28_0 rfl (by rw [h176]; rfl) rfl) (gy rfl rfl (fun _ _ _ h => h) (yl tl_3 (by rw [h176]; rfl) rfl (fun _ h => ob h 0 0 rfl rfl)) (gy rfl rfl (fun _ _ _ h => h) (yv (by rw [h176]; rfl) rfl rfl) (gy rfl rfl (fun _ _ _ h => h) (pf tz (by rw [h176]; rfl) rfl) (hm rfl rfl (fun _ _ _ h => h) rfl (gy rfl rfl (fun _ _ _ h => h) (yf 0 tf_28_0 rfl (by rw [h185]; rfl) rfl) ?_)))))))))
  refine gy rfl rfl (fun _ _ _ h => h) (yl tl_3 (by rw [h185]; rfl) rfl (fun _ h => ob h 0 0 rfl rfl)) (gy rfl rfl (fun _ _ _ h => h) (yf 0 tf_24_0 rfl (by rw [h185]; rfl) rfl) (gy rfl rfl (fun _ _ _ h => h) (yl tl_22 (by rw [h185]; rfl) rfl (fun _ h => at34.cell h 0 rfl)) ?_))
  have bd246 : p.funcs.length * 40 ≤ 140737488351232 := s30.bd
  refine gy rfl rfl (fun _ _ _ h => h) (y_len ts_22 (by rw [h185]; rfl) rfl) (gy rfl rfl (fun _ _ _ h => h) (y_ge (by rw [h185]; rfl) rfl rfl) (gy rfl rfl (fun _ _ _ h => h) (pf tz (by rw [h185]; rfl) rfl) (hm rfl rfl (fun _ _ _ h => h) rfl (gy rfl rfl (fun _ _ _ h => h) (yf 1 tf_28_1 rfl (by rw [h192]; rfl) rfl) (gy rfl rfl (fun _ _ _ h => h) (yl tl_3 (by rw [h192]; rfl) rfl (fun _ h => ob h 0 1 rfl rfl)) (gy rfl rfl (fun _ _ _ h => h) (yf 0 tf_24_0 rfl (by rw [h192]; rfl) rfl) (gy rfl rfl (fun _ _ _ h => h) (yl tl_22 (by rw [h192]; rfl) rfl (fun _ h => at34.cell h 0 rfl)) (gy rfl rfl (fun _ _ _ h => h) (yf 0 tf_28_0 rfl (by rw [h192]; rfl) rfl) (gy rfl rfl (fun _ _ _ h => h) (yl tl_3 (by rw [h192]; rfl) rfl (fun _ h => ob h 0 0 rfl rfl)) ?_)))))))))
  obtain ⟨p247, rfl, _⟩ := RdS.get s30 c.fn.toNat (by omega)
  have hO : Own w244 M25 ([(b12, .cells #[.int .i64 c.fn, .int .i64 c.regs, .slice b4 c.code.length c5, .slice b7 c.metas.length c8] 28)] ++ bs) := by assumption
  have q248 : PAt M25 (p247.add (c.fn.toNat * 3)) (nth p.funcs c.fn.toNat) := RdS.at s30 c.fn.toNat (by omega)
  refine gy rfl rfl (fun _ _ _ h => h) (yi ts_22 (by rw [h192]; rfl) rfl rfl (by omega) (by omega)) (gy rfl rfl (fun _ _ _ h => h) (ya tf_44_1 (by rw [h192]; rfl) rfl) ?_)
  obtain ⟨_, at252, b249, c250, rfl, s251⟩ := id q248
  refine gy rfl rfl (fun _ _ _ h => h) (yl tl_3 (by rw [h192]; rfl) rfl (fun _ h => at252.cell h 1 rfl)) (gy rfl rfl (fun _ _ _ h => h) (y_max (by rw [h192]; rfl) rfl rfl) (gy rfl rfl (fun _ _ _ h => h) (yv (by rw [h192]; rfl) rfl rfl) (gy rfl rfl (fun _ _ _ h => h) (pf tz (by rw [h192]; rfl) rfl) (hm rfl rfl (fun _ _ _ h => h) rfl (gy rfl rfl (fun _ _ _ h => h) (yf 1 tf_28_1 rfl (by rw [h200]; rfl) rfl) (gy rfl rfl (fun _ _ _ h => h) (yl tl_3 (by rw [h200]; rfl) rfl (fun _ h => ob h 0 1 rfl rfl)) (gy rfl rfl (fun _ _ _ h => h) (y_gt (by rw [h200]; rfl) rfl rfl) (gy rfl rfl (fun _ _ _ h => h) (pf tz (by rw [h200]; rfl) rfl) (hm rfl rfl (fun _ _ _ h => h) rfl ?_)))))))))
  refine gy rfl rfl (fun _ _ _ h => h) (ym (by rw [h214]; rfl) rfl) (gy rfl rfl (fun _ _ _ h => h) (yv (by rw [h214]; rfl) rfl rfl) (gy rfl rfl (fun _ _ _ h => h) (pf tz (by rw [h214]; rfl) rfl) (hm rfl rfl (fun _ _ _ h => h) rfl (gy rfl rfl (fun _ _ _ h => h) (ym (by rw [h228]; rfl) rfl) (gy rfl rfl (fun _ _ _ h => h) (y_gt (by rw [h228]; rfl) rfl rfl) (gy rfl rfl (fun _ _ _ h => h) (pf tz (by rw [h228]; rfl) rfl) (hm rfl rfl (fun _ _ _ h => h) rfl (gy rfl rfl (fun _ _ _ h => h) (ek (by rw [h242]; rfl)) (gy rfl rfl (fun _ _ _ h => h) (ek (by rw [h242]; rfl)) ?_)))))))))
  refine gy rfl rfl (fun _ _ _ h => h) (ek (by rw [h242]; rfl)) (gy rfl rfl (fun _ _ _ h => h) (ek (by rw [h242]; rfl)) (gy rfl rfl (fun _ _ _ h => h) (pt tz (by rw [h242]; rfl) rfl) (gd (ez (E' := [(2, .pointer (some ⟨b10, 0, none⟩)), (3, .pointer (some ⟨b12, 0, none⟩)), (4, .bool false), (5, .slice b27 (((allT p).1).length) c28), (7, .int .i64 (c.code.length : Int)), (64, .bool true)]) ⟨rfl, rfl, rfl, rfl, rfl, rfl, tz⟩ (et (cv rfl (cq (cr (as_ hO rfl rfl ?_)))))))))
  refine rj (et (ct (ew' (er (.inl rfl) rfl rfl ?_))))
  refine Ret.mk hle35 (hO.forget) (congrArg Value.bool ?_)
  first | (rw [irMay_eq, show codeB (sheetOf p c) = false from codeB_bad (s := sheetOf p c) (k := k) (by show k < c.code.length; omega) (by assumption)]; simp; done) | (rw [irMay_eq]; have h_1 : codeB (sheetOf p c) = true := codeB_done hin (by show c.code.length ≤ k; omega); simp_all [lastB, sheetOf]; done) | (rw [irMay_eq]; simp_all [mayA]; done) | (rw [irMay_eq]; grind [mayA, lastB])
 have h253 : ¬ (256 < (c.code.length : Int)) := oq h242
 obtain ⟨w254, hO, ew255⟩ : ∃ w', Own w' M25 ([(b12, .cells #[.int .i64 c.fn, .int .i64 c.regs, .slice b4 c.code.length c5, .slice b7 c.metas.length c8] 28)] ++ bs) ∧ { w24 with drawn := w24.drawn + 1 } = w' := ⟨_, hO.drawn _, rfl⟩
 refine cw (S := fun w => Own w M25 ([(b12, .cells #[.int .i64 c.fn, .int .i64 c.regs, .slice b4 c.code.length c5, .slice b7 c.metas.length c8] 28)] ++ bs)) (.take 0 (.take 1 (.take 2 (.take 3 (.take 4 (.take 5 (.take 6 (.take 7 (.take 8 (.take 9 (.take 10 (.take 11 (.take 12 (.take 13 (.take 14 (.take 15 (.take 16 (.take 17 (.take 18 (.take 19 (.take 20 (.take 21 (.take 22 (.take 23 (.take 24 (.take 25 (.take 26 (.take 27 (.take 28 (.take 29 (.take 30 (.take 31 (.take 32 (.take 33 (.take 34 (.take 35 (.take 36 (.take 37 (.take 38 (.take 39 (.take 40 (.take 41 (.take 42 (.take 43 (.take 44 (.take 45 (.take 46 .done))))))))))))))))))))))))))))))))))))))))))))))) 47 tm (by kernel_rfl) ew255 hO (hm rfl rfl (fun _ _ _ h => h) rfl (gy rfl rfl (fun _ _ _ h => h) (y_ne tz rfl rfl) (hm rfl rfl (fun _ _ _ h => h) rfl (gy rfl rfl (fun _ _ _ h => h) (yf 0 tf_28_0 rfl (by rw [h176]; rfl) rfl) (gy rfl rfl (fun _ _ _ h => h) (yl tl_3 (by rw [h176]; rfl) rfl (fun _ h => ob h 0 0 rfl rfl)) (gy rfl rfl (fun _ _ _ h => h) (yv (by rw [h176]; rfl) rfl rfl) (gy rfl rfl (fun _ _ _ h => h) (pf tz (by rw [h176]; rfl) rfl) (hm rfl rfl (fun _ _ _ h => h) rfl (gy rfl rfl (fun _ _ _ h => h) (yf 0 tf_28_0 rfl (by rw [h185]; rfl) rfl) ?_)))))))))
 refine gy rfl rfl (fun _ _ _ h => h) (yl tl_3 (by rw [h185]; rfl) rfl (fun _ h => ob h 0 0 rfl rfl)) (gy rfl rfl (fun _ _ _ h => h) (yf 0 tf_24_0 rfl (by rw [h185]; rfl) rfl) (gy rfl rfl (fun _ _ _ h => h) (yl tl_22 (by rw [h185]; rfl) rfl (fun _ h => at34.cell h 0 rfl)) ?_))
 have bd256 : p.funcs.length * 40 ≤ 140737488351232 := s30.bd
 refine gy rfl rfl (fun _ _ _ h => h) (y_len ts_22 (by rw [h185]; rfl) rfl) (gy rfl rfl (fun _ _ _ h => h) (y_ge (by rw [h185]; rfl) rfl rfl) (gy rfl rfl (fun _ _ _ h => h) (pf tz (by rw [h185]; rfl) rfl) (hm rfl rfl (fun _ _ _ h => h) rfl (gy rfl rfl (fun _ _ _ h => h) (yf 1 tf_28_1 rfl (by rw [h192]; rfl) rfl) (gy rfl rfl (fun _ _ _ h => h) (yl tl_3 (by rw [h192]; rfl) rfl (fun _ h => ob h 0 1 rfl rfl)) (gy rfl rfl (fun _ _ _ h => h) (yf 0 tf_24_0 rfl (by rw [h192]; rfl) rfl) (gy rfl rfl (fun _ _ _ h => h) (yl tl_22 (by rw [h192]; rfl) rfl (fun _ h => at34.cell h 0 rfl)) (gy rfl rfl (fun _ _ _ h => h) (yf 0 tf_28_0 rfl (by rw [h192]; rfl) rfl) (gy rfl rfl (fun _ _ _ h => h) (yl tl_3 (by rw [h192]; rfl) rfl (fun _ h => ob h 0 0 rfl rfl)) ?_)))))))))
 obtain ⟨p257, rfl, _⟩ := RdS.get s30 c.fn.toNat (by omega)
 have hO : Own w254 M25 ([(b12, .cells #[.int .i64 c.fn, .int .i64 c.regs, .slice b4 c.code.length c5, .slice b7 c.metas.length c8] 28)] ++ bs) := by assumption
 have q258 : PAt M25 (p257.add (c.fn.toNat * 3)) (nth p.funcs c.fn.toNat) := RdS.at s30 c.fn.toNat (by omega)
 refine gy rfl rfl (fun _ _ _ h => h) (yi ts_22 (by rw [h192]; rfl) rfl rfl (by omega) (by omega)) (gy rfl rfl (fun _ _ _ h => h) (ya tf_44_1 (by rw [h192]; rfl) rfl) ?_)
 obtain ⟨_, at262, b259, c260, rfl, s261⟩ := id q258
 refine gy rfl rfl (fun _ _ _ h => h) (yl tl_3 (by rw [h192]; rfl) rfl (fun _ h => at262.cell h 1 rfl)) (gy rfl rfl (fun _ _ _ h => h) (y_max (by rw [h192]; rfl) rfl rfl) (gy rfl rfl (fun _ _ _ h => h) (yv (by rw [h192]; rfl) rfl rfl) (gy rfl rfl (fun _ _ _ h => h) (pf tz (by rw [h192]; rfl) rfl) (hm rfl rfl (fun _ _ _ h => h) rfl (gy rfl rfl (fun _ _ _ h => h) (yf 1 tf_28_1 rfl (by rw [h200]; rfl) rfl) (gy rfl rfl (fun _ _ _ h => h) (yl tl_3 (by rw [h200]; rfl) rfl (fun _ h => ob h 0 1 rfl rfl)) (gy rfl rfl (fun _ _ _ h => h) (y_gt (by rw [h200]; rfl) rfl rfl) (gy rfl rfl (fun _ _ _ h => h) (pf tz (by rw [h200]; rfl) rfl) (hm rfl rfl (fun _ _ _ h => h) rfl ?_)))))))))
 refine gy rfl rfl (fun _ _ _ h => h) (ym (by rw [h214]; rfl) rfl) (gy rfl rfl (fun _ _ _ h => h) (yv (by rw [h214]; rfl) rfl rfl) (gy rfl rfl (fun _ _ _ h => h) (pf tz (by rw [h214]; rfl) rfl) (hm rfl rfl (fun _ _ _ h => h) rfl (gy rfl rfl (fun _ _ _ h => h) (ym (by rw [h228]; rfl) rfl) (gy rfl rfl (fun _ _ _ h => h) (y_gt (by rw [h228]; rfl) rfl rfl) (gy rfl rfl (fun _ _ _ h => h) (pf tz (by rw [h228]; rfl) rfl) (hm rfl rfl (fun _ _ _ h => h) rfl (gy rfl rfl (fun _ _ _ h => h) (yf 3 tf_28_3 rfl (by rw [h242]; rfl) rfl) (gy rfl rfl (fun _ _ _ h => h) (yl tl_26 (by rw [h242]; rfl) rfl (fun _ h => ob h 0 3 rfl rfl)) ?_)))))))))
 have bd263 : c.metas.length * 24 ≤ 140737488351232 := s32.bd
 refine gy rfl rfl (fun _ _ _ h => h) (y_len ts_26 (by rw [h242]; rfl) rfl) (gy rfl rfl (fun _ _ _ h => h) (y_gt (by rw [h242]; rfl) rfl rfl) (gy rfl rfl (fun _ _ _ h => h) (pf tz (by rw [h242]; rfl) rfl) (gd (ez (E' := [(2, .pointer (some ⟨b10, 0, none⟩)), (3, .pointer (some ⟨b12, 0, none⟩)), (4, .bool false), (5, .slice b27 (((allT p).1).length) c28), (7, .int .i64 (c.code.length : Int)), (64, .bool (decide (64 < (c.metas.length : Int))))]) ⟨rfl, rfl, rfl, rfl, rfl, rfl, tz⟩ (et (cd rfl (fun h264 => ?_) (fun h264 => ?_)))))))
 ·
  have h265 : 64 < (c.metas.length : Int) := ot h264
  refine cq (cr (as_ hO rfl rfl (rj (et (ct (ew' (er (.inl rfl) rfl rfl ?_)))))))
  refine Ret.mk hle35 (hO.forget) (congrArg Value.bool ?_)
  first | (rw [irMay_eq, show codeB (sheetOf p c) = false from codeB_bad (s := sheetOf p c) (k := k) (by show k < c.code.length; omega) (by assumption)]; simp; done) | (rw [irMay_eq]; have h_1 : codeB (sheetOf p c) = true := codeB_done hin (by show c.code.length ≤ k; omega); simp_all [lastB, sheetOf]; done) | (rw [irMay_eq]; simp_all [mayA]; done) | (rw [irMay_eq]; grind [mayA, lastB])
 have h266 : ¬ (64 < (c.metas.length : Int)) := oq h264
 refine cp (ez (E' := [(2, .pointer (some ⟨b10, 0, none⟩)), (3, .pointer (some ⟨b12, 0, none⟩)), (4, .bool false), (5, .slice b27 (((allT p).1).length) c28), (7, .int .i64 (c.code.length : Int))]) ⟨rfl, rfl, rfl, rfl, rfl, tz⟩ (et ?_))
 exact hcut42 _ ⟨_, le38, hO, (by (simp_all [mayA] <;> omega))⟩

end Go.Proofs.YtdniefnjgkhkeaaDoor
