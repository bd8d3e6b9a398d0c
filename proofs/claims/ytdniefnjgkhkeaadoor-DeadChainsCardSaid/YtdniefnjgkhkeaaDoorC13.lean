/-
  Contracts of Go functions, each walked operation by operation: (*swage/ir.sheet).ins.
  Conditions: as each statement says.
-/
import Derived.Test.YtdniefnjgkhkeaaDoorVf
import Derived.Test.YtdniefnjgkhkeaaDoorProg
import Derived.Test.YtdniefnjgkhkeaaDoorC1
import Derived.Test.YtdniefnjgkhkeaaDoorC2
import Derived.Test.YtdniefnjgkhkeaaDoorC3
import Derived.Test.YtdniefnjgkhkeaaDoorC4
import Derived.Test.YtdniefnjgkhkeaaDoorC5
import Derived.Test.YtdniefnjgkhkeaaDoorC6
import Derived.Test.YtdniefnjgkhkeaaDoorC7
import Derived.Test.YtdniefnjgkhkeaaDoorC8
import Derived.Test.YtdniefnjgkhkeaaDoorV2
import Derived.Test.YtdniefnjgkhkeaaDoorC9
import Derived.Test.YtdniefnjgkhkeaaDoorC10
import Derived.Test.YtdniefnjgkhkeaaDoorV3
import Derived.Test.YtdniefnjgkhkeaaDoorC11
import Derived.Test.YtdniefnjgkhkeaaDoorC12
namespace Go.Proofs.YtdniefnjgkhkeaaDoor
open Go
set_option maxRecDepth 100000
set_option linter.unusedVariables false
set_option linter.unusedSimpArgs false
theorem ta_38 : aggN Tryd.prog 38 = some 9 := by kernel_rfl
theorem tcall_31 : cl Tryd.prog 31 := ⟨_, Tryd.func31, by kernel_rfl, by kernel_rfl⟩
theorem tcall_32 : cl Tryd.prog 32 := ⟨_, Tryd.func32, by kernel_rfl, by kernel_rfl⟩
theorem tcall_33 : cl Tryd.prog 33 := ⟨_, Tryd.func33, by kernel_rfl, by kernel_rfl⟩
theorem tcall_34 : cl Tryd.prog 34 := ⟨_, Tryd.func34, by kernel_rfl, by kernel_rfl⟩
theorem tcall_36 : cl Tryd.prog 36 := ⟨_, Tryd.func36, by kernel_rfl, by kernel_rfl⟩
theorem tf_28_3 : fOff Tryd.prog 28 3 = some 3 := by kernel_rfl
theorem tf_38_1 : fOff Tryd.prog 38 1 = some 1 := by kernel_rfl
theorem tf_38_7 : fOff Tryd.prog 38 7 = some 7 := by kernel_rfl
theorem tf_38_8 : fOff Tryd.prog 38 8 = some 8 := by kernel_rfl
theorem tl_26 : lone1 Tryd.prog 26 = true := by kernel_rfl
theorem tl_83 : lone1 Tryd.prog 83 = true := by kernel_rfl
theorem tn_38 : (Tryd.prog.info? 38).map (·.size) = some 9 := by kernel_rfl
theorem ts_81 : slEl Tryd.prog 81 = some 1 := by kernel_rfl
theorem tz_38 : zeroOf Tryd.prog 38 = some (.agg #[.int .i64 0, .int .i64 0, .int .i64 0, .int .i64 0, .int .i64 0, .slice none 0 0, .int .i64 0, .int .i64 0, .int .i64 0]) := by kernel_rfl
set_option maxHeartbeats 12800000 in
theorem c_ins {p_s : Addr} (s : Sheet) (at_ : Int) {w : World} {M : Mem} {bs : List (Nat × Obj)} (h_s : PAt M p_s s) (h0 : 0 ≤ at_) (h1 : at_ < s.code.val.code.length) (hO : Own w M (bs)) :
    Calls Tryd.prog 17 #[.pointer (some p_s), .int .i64 at_] w (Ret M bs (fun M' v => v = .bool (insB s at_ (nth s.code.val.code at_.toNat)))) := by
 refine ce (vs := [.pointer (some p_s), .int .i64 at_]) (n := 137) Tryd.func17 rfl rfl rfl (cq (cr (as_ hO rfl rfl (rj (et (cq (cr (mv hO rfl rfl (nc hO rfl rfl ?_)))))))))
 refine fa tf_61_0 hO rfl rfl ?_
 obtain ⟨_, at8, p1, p3, b5, c6, rfl, q2, q4, s7⟩ := id h_s
 refine lc tl_53 at8 0 rfl hO rfl rfl (nc hO rfl rfl (fa tf_28_2 hO rfl rfl ?_))
 obtain ⟨_, at15, b9, c10, b12, c13, rfl, s11, s14⟩ := id q2
 refine lc tl_25 at15 2 rfl hO rfl rfl (mv hO rfl rfl ?_)
 obtain ⟨p16, rfl, _⟩ := RdS.get s11 at_.toNat (by omega)
 have hO : Own w M (bs) := by assumption
 have q17 : PAt M (p16.add (at_.toNat * 9)) (nth s.code.val.code at_.toNat) := RdS.at s11 at_.toNat (by omega)
 refine ry hO rfl (yi ts_25 tz rfl rfl (by omega) (by omega)) ?_
 obtain ⟨_, at21, b18, c19, rfl, s20⟩ := id q17
 refine ry hO rfl (yq [.int .i64 ((nth s.code.val.code at_.toNat).kind), .int .i64 ((nth s.code.val.code at_.toNat).r), .int .i64 ((nth s.code.val.code at_.toNat).a), .int .i64 ((nth s.code.val.code at_.toNat).b), .int .i64 ((nth s.code.val.code at_.toNat).k), .slice b18 (((nth s.code.val.code at_.toNat).args).length) c19, .int .i64 ((nth s.code.val.code at_.toNat).cost), .int .i64 ((nth s.code.val.code at_.toNat).mt), .int .i64 ((nth s.code.val.code at_.toNat).pc)] ta_38 rfl tz rfl (fun _ h j _ e => at21.cell h j e)) (rd' tz (og_alloc hO rfl tz_38 (fun b22 w23 hO => ?_)))
 have hO : Own _ M ([(b22, .cells #[.int .i64 0, .int .i64 0, .int .i64 0, .int .i64 0, .int .i64 0, .slice none 0 0, .int .i64 0, .int .i64 0, .int .i64 0] 38)] ++ bs) := hO
 refine rd' tz (oo (vs := [.int .i64 ((nth s.code.val.code at_.toNat).kind), .int .i64 ((nth s.code.val.code at_.toNat).r), .int .i64 ((nth s.code.val.code at_.toNat).a), .int .i64 ((nth s.code.val.code at_.toNat).b), .int .i64 ((nth s.code.val.code at_.toNat).k), .slice b18 (((nth s.code.val.code at_.toNat).args).length) c19, .int .i64 ((nth s.code.val.code at_.toNat).cost), .int .i64 ((nth s.code.val.code at_.toNat).mt), .int .i64 ((nth s.code.val.code at_.toNat).pc)]) hO tn_38 rfl rfl rfl (nb rfl) rfl rfl (fun w24 hO => ?_))
 have hO : Own _ M ([(b22, .cells #[.int .i64 ((nth s.code.val.code at_.toNat).kind), .int .i64 ((nth s.code.val.code at_.toNat).r), .int .i64 ((nth s.code.val.code at_.toNat).a), .int .i64 ((nth s.code.val.code at_.toNat).b), .int .i64 ((nth s.code.val.code at_.toNat).k), .slice b18 (((nth s.code.val.code at_.toNat).args).length) c19, .int .i64 ((nth s.code.val.code at_.toNat).cost), .int .i64 ((nth s.code.val.code at_.toNat).mt), .int .i64 ((nth s.code.val.code at_.toNat).pc)] 38)] ++ bs) := hO
 refine rj (ez (E' := [(0, .pointer (some p_s)), (1, .int .i64 at_), (4, .bool false), (5, .pointer (some ⟨b22, 0, none⟩))]) ⟨rfl, rfl, rfl, rfl, tz⟩ (et ?_))
 obtain ⟨M25, le26, hO, hk27, hn28, hd29⟩ := Own.keeps (rs := [(b22, .cells #[.int .i64 ((nth s.code.val.code at_.toNat).kind), .int .i64 ((nth s.code.val.code at_.toNat).r), .int .i64 ((nth s.code.val.code at_.toNat).a), .int .i64 ((nth s.code.val.code at_.toNat).b), .int .i64 ((nth s.code.val.code at_.toNat).k), .slice b18 (((nth s.code.val.code at_.toNat).args).length) c19, .int .i64 ((nth s.code.val.code at_.toNat).cost), .int .i64 ((nth s.code.val.code at_.toNat).mt), .int .i64 ((nth s.code.val.code at_.toNat).pc)] 38)]) hO
 have h30 := h_s.mono le26
 have at31 := at8.mono le26
 have q32 := q2.mono le26
 have at33 := at15.mono le26
 have s34 := s11.mono le26
 have s35 := s14.mono le26
 have q36 := q4.mono le26
 have s37 := s7.mono le26
 have s38 := s20.mono le26
 have hle39 := le26
 have at40 := Has.at (vs := [.int .i64 ((nth s.code.val.code at_.toNat).kind), .int .i64 ((nth s.code.val.code at_.toNat).r), .int .i64 ((nth s.code.val.code at_.toNat).a), .int .i64 ((nth s.code.val.code at_.toNat).b), .int .i64 ((nth s.code.val.code at_.toNat).k), .slice b18 (((nth s.code.val.code at_.toNat).args).length) c19, .int .i64 ((nth s.code.val.code at_.toNat).cost), .int .i64 ((nth s.code.val.code at_.toNat).mt), .int .i64 ((nth s.code.val.code at_.toNat).pc)]) hk27 rfl
 refine cg_cut (E' := [(0, .pointer (some p_s)), (4, .bool false), (5, .pointer (some ⟨b22, 0, none⟩))]) (fun w' => ∃ M', Mem.le M25 M' ∧ Own w' M' (bs) ∧ (insA s at_ (nth s.code.val.code at_.toNat) = true)) ?_ (fun hcut45 => ?_)
 ·
  rintro w43 ⟨M44, le42, hO, hA⟩
  have h47 := h30.mono le42
  have at48 := at31.mono le42
  have q49 := q32.mono le42
  have at50 := at33.mono le42
  have s51 := s34.mono le42
  have s52 := s35.mono le42
  have q53 := q36.mono le42
  have s54 := s37.mono le42
  have s55 := s38.mono le42
  have hk56 := hk27.mono le42
  have at57 := at40.mono le42
  have hle58 := m_ hle39 le42
  have kl59 := m_ le26 le42
  refine cq (cq (cr (rd' tz (oc (vs := [.pointer (some ⟨b22, 0, none⟩)]) tcall_34 rfl rfl (c_Reads (nth s.code.val.code at_.toNat) ⟨_, at57, ⟨b18, c19, rfl, s55⟩⟩ hO) ?_))))
  rintro _ w60 ⟨M61, _, le62, hO, rfl, ⟨b63, c64, rfl, s65⟩⟩
  refine ⟨_, rfl, ?_⟩
  have h66 := h47.mono le62
  have at67 := at48.mono le62
  have q68 := q49.mono le62
  have at69 := at50.mono le62
  have s70 := s51.mono le62
  have s71 := s52.mono le62
  have q72 := q53.mono le62
  have s73 := s54.mono le62
  have s74 := s55.mono le62
  have hk75 := hk56.mono le62
  have at76 := at57.mono le62
  have hle77 := m_ hle58 le62
  have kl78 := m_ kl59 le62
  have bd79 : (rp (nth s.code.val.code at_.toNat)).length * 8 ≤ 140737488351232 := s65.bd
  refine ln ts_81 hO rfl rfl (mv hO rfl rfl (rj (et (cb (cg_loop (σ := Mem × Nat) (fun qs => [(83, .int .i64 (qs.2 : Int)), (0, .pointer (some p_s)), (5, .pointer (some ⟨b22, 0, none⟩)), (81, .slice b63 (((rp (nth s.code.val.code at_.toNat))).length) c64), (82, .int .i64 (((rp (nth s.code.val.code at_.toNat))).length : Int))]) (fun qs w => Mem.le M61 qs.1 ∧ (qs.2 ≤ (rp (nth s.code.val.code at_.toNat)).length ∧ ∀ j : Nat, j < qs.2 → regB s (nth (rp (nth s.code.val.code at_.toNat)) j).val = true) ∧ Own w qs.1 (bs)) (fun qs => (rp (nth s.code.val.code at_.toNat)).length - qs.2) (M61, 0) ⟨rfl, rfl, rfl, rfl, rfl, tz⟩ ⟨mr _, (by (try dsimp only); exact ⟨Nat.zero_le _, fun j hj => absurd hj (Nat.not_lt_zero _)⟩), hO⟩ ?_)))))
  rintro ⟨Mi, k⟩ w80 ⟨le82, ⟨hk, hreg⟩, hO⟩
  try dsimp only at *
  have h83 := h66.mono le82
  have at84 := at67.mono le82
  have q85 := q68.mono le82
  have at86 := at69.mono le82
  have s87 := s70.mono le82
  have s88 := s71.mono le82
  have q89 := q72.mono le82
  have s90 := s73.mono le82
  have s91 := s65.mono le82
  have s92 := s74.mono le82
  have hk93 := hk75.mono le82
  have at94 := at76.mono le82
  have hle95 := m_ hle77 le82
  have kl96 := m_ kl78 le82
  refine cq (cr (ry hO rfl (yv tz rfl rfl) (rj (et (cq (cd rfl (fun h97 => ?_) (fun h97 => ?_)))))))
  ·
   have h98 : (k : Int) < (((rp (nth s.code.val.code at_.toNat))).length : Int) := ot h97
   refine cp (et (cq (cb (cq (cr ?_)))))
   obtain ⟨p99, rfl, _⟩ := RdS.get s91 k (by omega)
   have hO : Own w80 Mi (bs) := by assumption
   have q100 : PAt Mi (p99.add (k * 1)) (nth (rp (nth s.code.val.code at_.toNat)) k) := RdS.at s91 k (by omega)
   refine ry hO rfl (y_indexN k ts_81 tz rfl rfl (by omega)) ?_
   obtain ⟨_, at103, p101, rfl, q102⟩ := id q100
   refine ry hO rfl (yl tl_83 tz rfl (fun _ h => at103.cell0 h rfl)) (as_ hO rfl rfl (rj (et (cq (cr (mv hO rfl rfl (mv hO rfl rfl (nc hO rfl rfl ?_))))))))
   obtain ⟨_, at104, rfl⟩ := id q102
   refine ry hO rfl (yl tl_3 tz rfl (fun _ h => at104.cell0 h rfl)) (rd' tz (oc (vs := [.pointer (some p_s), .int .i64 ((nth (rp (nth s.code.val.code at_.toNat)) k).val)]) tcall_35 rfl rfl (c_reg s ((nth (rp (nth s.code.val.code at_.toNat)) k).val) h83 hO) ?_))
   rintro _ w105 ⟨M106, _, le107, hO, rfl, rfl⟩
   refine ⟨_, rfl, ?_⟩
   have h108 := h83.mono le107
   have at109 := at84.mono le107
   have q110 := q85.mono le107
   have at111 := at86.mono le107
   have s112 := s87.mono le107
   have s113 := s88.mono le107
   have q114 := q89.mono le107
   have s115 := s90.mono le107
   have s116 := s91.mono le107
   have q117 := q100.mono le107
   have at118 := at103.mono le107
   have q119 := q102.mono le107
   have at120 := at104.mono le107
   have s121 := s92.mono le107
   have hk122 := hk93.mono le107
   have at123 := at94.mono le107
   have hle124 := m_ hle95 le107
   have ch125 := m_ le82 le107
   have kl126 := m_ kl96 le107
   refine ry hO rfl (yt tz rfl) (rj (ez (E' := [(83, .int .i64 (k : Int)), (0, .pointer (some p_s)), (5, .pointer (some ⟨b22, 0, none⟩)), (81, .slice (some p99) (((rp (nth s.code.val.code at_.toNat))).length) c64), (82, .int .i64 (((rp (nth s.code.val.code at_.toNat))).length : Int)), (92, .bool (!(regB s ((nth (rp (nth s.code.val.code at_.toNat)) k).val))))]) ⟨rfl, rfl, rfl, rfl, rfl, rfl, tz⟩ (et (cd rfl (fun h127 => ?_) (fun h127 => ?_)))))
   ·
    have h128 : (regB s ((nth (rp (nth s.code.val.code at_.toNat)) k).val)) = false := by simpa using h127
    refine cq (cr (as_ hO rfl rfl (rj (et (ct (eg (ew' (ew' (eg ?_)))))))))
    refine ew' (er (.inl rfl) rfl rfl ?_)
    refine Ret.mk hle124 hO (congrArg Value.bool ?_)
    generalize (nth s.code.val.code at_.toNat) = x at *; first | (have h_1 := all_bad (s := s) (x := x) (k := k) (by omega) (by assumption); simp [insB, h_1]; done) | (have h_1 := all_done hreg (by omega); simp_all [insB, insZ]; done) | (simp_all [insB, insA]; done) | grind [insB, insA, insZ]
   have h129 : (regB s ((nth (rp (nth s.code.val.code at_.toNat)) k).val)) = true := by simpa using h127
   refine cp (ek' (et (cr (ry hO rfl (y_add ((k + 1 : Nat) : Int) tz rfl rfl (by rw [wd] <;> omega)) (mv hO rfl rfl (rj ?_))))))
   refine ends_round (M106, k + 1) ?_ ?_ ?_
   · exact ⟨rfl, rfl, rfl, rfl, rfl, tz⟩
   · exact ⟨ch125, (by (try dsimp only); exact ⟨by omega, all_next hreg (by simpa using ‹_›)⟩), hO⟩
   · (try dsimp only); omega
  have h130 : ¬ ((k : Int) < (((rp (nth s.code.val.code at_.toNat))).length : Int)) := oq h97
  refine cx (eh (eh (ej (et (cq (cq (cr (fb 0 tf_38_0 rfl hO rfl rfl (lc tl_3 at94 0 rfl hO rfl rfl ?_)))))))))
  refine rd' tz (oc (vs := [.int .i64 ((nth s.code.val.code at_.toNat).kind)]) tcall_36 rfl rfl (c_Sets ((nth s.code.val.code at_.toNat).kind)  hO) ?_)
  rintro _ w131 ⟨M132, _, le133, hO, rfl, rfl⟩
  refine ⟨_, rfl, ?_⟩
  have h134 := h83.mono le133
  have at135 := at84.mono le133
  have q136 := q85.mono le133
  have at137 := at86.mono le133
  have s138 := s87.mono le133
  have s139 := s88.mono le133
  have q140 := q89.mono le133
  have s141 := s90.mono le133
  have s142 := s91.mono le133
  have s143 := s92.mono le133
  have hk144 := hk93.mono le133
  have at145 := at94.mono le133
  have hle146 := m_ hle95 le133
  have ch147 := m_ le82 le133
  have kl148 := m_ kl96 le133
  refine rj (et (cd rfl (fun h149 => ?_) (fun h149 => ?_)))
  ·
   refine cq (cq (cr (mv hO rfl rfl (fb 1 tf_38_1 rfl hO rfl rfl (lc tl_3 at145 1 rfl hO rfl rfl (rd' tz (oc (vs := [.pointer (some p_s), .int .i64 ((nth s.code.val.code at_.toNat).r)]) tcall_35 rfl rfl (c_reg s ((nth s.code.val.code at_.toNat).r) h134 hO) ?_)))))))
   rintro _ w150 ⟨M151, _, le152, hO, rfl, rfl⟩
   refine ⟨_, rfl, ?_⟩
   have h153 := h134.mono le152
   have at154 := at135.mono le152
   have q155 := q136.mono le152
   have at156 := at137.mono le152
   have s157 := s138.mono le152
   have s158 := s139.mono le152
   have q159 := q140.mono le152
   have s160 := s141.mono le152
   have s161 := s142.mono le152
   have s162 := s143.mono le152
   have hk163 := hk144.mono le152
   have at164 := at145.mono le152
   have hle165 := m_ hle146 le152
   have ch166 := m_ ch147 le152
   have kl167 := m_ kl148 le152
   refine ry hO rfl (yt tz rfl) (rj (ez (E' := [(5, .pointer (some ⟨b22, 0, none⟩)), (101, .bool (!(regB s ((nth s.code.val.code at_.toNat).r))))]) ⟨rfl, rfl, tz⟩ (et (cd rfl (fun h168 => ?_) (fun h168 => ?_)))))
   ·
    have h169 : (regB s ((nth s.code.val.code at_.toNat).r)) = false := by simpa using h168
    refine cq (cr (as_ hO rfl rfl (rj (et (ct (ew' (ew' (er (.inl rfl) rfl rfl ?_))))))))
    refine Ret.mk hle165 hO (congrArg Value.bool ?_)
    generalize (nth s.code.val.code at_.toNat) = x at *; first | (have h_1 := all_bad (s := s) (x := x) (k := k) (by omega) (by assumption); simp [insB, h_1]; done) | (have h_1 := all_done hreg (by omega); simp_all [insB, insZ]; done) | (simp_all [insB, insA]; done) | grind [insB, insA, insZ]
   have h170 : (regB s ((nth s.code.val.code at_.toNat).r)) = true := by simpa using h168
   refine cp (et (cr (fb 1 tf_38_1 rfl hO rfl rfl ?_)))
   obtain ⟨M172, le173, hO⟩ := Own.unkeeps hO hk163 hn28 hd29 kl167
   have s174 := s20.mono le173
   have hle175 := le173
   refine rd' tz (oo (vs := [.int .i64 0]) hO tn_3 rfl rfl rfl (nb rfl) rfl rfl (fun w171 hO => ?_))
   have hO : Own _ M172 ([(b22, .cells #[.int .i64 ((nth s.code.val.code at_.toNat).kind), .int .i64 0, .int .i64 ((nth s.code.val.code at_.toNat).a), .int .i64 ((nth s.code.val.code at_.toNat).b), .int .i64 ((nth s.code.val.code at_.toNat).k), .slice b18 (((nth s.code.val.code at_.toNat).args).length) c19, .int .i64 ((nth s.code.val.code at_.toNat).cost), .int .i64 ((nth s.code.val.code at_.toNat).mt), .int .i64 ((nth s.code.val.code at_.toNat).pc)] 38)] ++ bs) := hO
   refine rj (et (cq (cq (cr (fb 0 tf_38_0 rfl hO rfl rfl (ry hO rfl (yl tl_3 tz rfl (fun _ h => ob h 0 0 rfl rfl)) (rd' tz (oc (vs := [.int .i64 ((nth s.code.val.code at_.toNat).kind)]) tcall_33 rfl rfl (c_Leaves ((nth s.code.val.code at_.toNat).kind)  hO) ?_))))))))
   rintro _ w176 ⟨M177, _, le178, hO, rfl, rfl⟩
   refine ⟨_, rfl, ?_⟩
   have s179 := s174.mono le178
   have hle180 := m_ hle175 le178
   refine rj (et (cd rfl (fun h181 => ?_) (fun h181 => ?_)))
   ·
    refine cr (fb 7 tf_38_7 rfl hO rfl rfl (rd' tz (oo (vs := [.int .i64 0]) hO tn_3 rfl rfl rfl (nb rfl) rfl rfl (fun w182 hO => ?_))))
    have hO : Own _ M177 ([(b22, .cells #[.int .i64 ((nth s.code.val.code at_.toNat).kind), .int .i64 0, .int .i64 ((nth s.code.val.code at_.toNat).a), .int .i64 ((nth s.code.val.code at_.toNat).b), .int .i64 ((nth s.code.val.code at_.toNat).k), .slice b18 (((nth s.code.val.code at_.toNat).args).length) c19, .int .i64 ((nth s.code.val.code at_.toNat).cost), .int .i64 0, .int .i64 ((nth s.code.val.code at_.toNat).pc)] 38)] ++ bs) := hO
    refine rj (et (cq (cq (cr (fb 0 tf_38_0 rfl hO rfl rfl (ry hO rfl (yl tl_3 tz rfl (fun _ h => ob h 0 0 rfl rfl)) (rj (et (cb ?_)))))))))
    refine cq (cb (cq (cb (cq (cq (cq (cq (cr (ry hO rfl (ye tz rfl rfl) ?_)))))))))
    refine as_ hO rfl rfl (rj (et (cd rfl (fun h183 => ?_) (fun h183 => ?_))))
    ·
     have h184 : (nth s.code.val.code at_.toNat).kind = 3 := ot h183
     refine cp (et (cv (by rw [h183]; rfl) (cx (eh (eh (ej (et (cr (fb 3 tf_38_3 rfl hO rfl rfl ?_)))))))))
     refine rd' tz (oo (vs := [.int .i64 0]) hO tn_3 rfl rfl rfl (nb rfl) rfl rfl (fun w185 hO => ?_))
     have hO : Own _ M177 ([(b22, .cells #[.int .i64 ((nth s.code.val.code at_.toNat).kind), .int .i64 0, .int .i64 ((nth s.code.val.code at_.toNat).a), .int .i64 0, .int .i64 ((nth s.code.val.code at_.toNat).k), .slice b18 (((nth s.code.val.code at_.toNat).args).length) c19, .int .i64 ((nth s.code.val.code at_.toNat).cost), .int .i64 0, .int .i64 ((nth s.code.val.code at_.toNat).pc)] 38)] ++ bs) := hO
     refine rj (ek' (et (cq (cr (fb 2 tf_38_2 rfl hO rfl rfl (rd' tz (oo (vs := [.int .i64 0]) hO tn_3 rfl rfl rfl (nb rfl) rfl rfl (fun w186 hO => ?_))))))))
     have hO : Own _ M177 ([(b22, .cells #[.int .i64 ((nth s.code.val.code at_.toNat).kind), .int .i64 0, .int .i64 0, .int .i64 0, .int .i64 ((nth s.code.val.code at_.toNat).k), .slice b18 (((nth s.code.val.code at_.toNat).args).length) c19, .int .i64 ((nth s.code.val.code at_.toNat).cost), .int .i64 0, .int .i64 ((nth s.code.val.code at_.toNat).pc)] 38)] ++ bs) := hO
     refine rj (ez (E' := [(5, .pointer (some ⟨b22, 0, none⟩))]) ⟨rfl, tz⟩ (et (cx (ej (et (cq (cr (fb 1 tf_38_1 rfl hO rfl rfl (ry hO rfl (yl tl_3 tz rfl (fun _ h => ob h 0 1 rfl rfl)) ?_)))))))))
     refine ry hO rfl (ye tz rfl rfl) (mv hO rfl rfl (ry hO rfl (yf 2 tf_38_2 rfl (by rw [(by decide : (decide ((0 : Int) = (0 : Int))) = true)]; rfl) rfl) (ry hO rfl (yl tl_3 (by rw [(by decide : (decide ((0 : Int) = (0 : Int))) = true)]; rfl) rfl (fun _ h => ob h 0 2 rfl rfl)) (ry hO rfl (ye (by rw [(by decide : (decide ((0 : Int) = (0 : Int))) = true)]; rfl) rfl rfl) (ry hO rfl (pt tz (by rw [(by decide : (decide ((0 : Int) = (0 : Int))) = true)]; rfl) rfl) (mv hO rfl rfl (ry hO rfl (yf 3 tf_38_3 rfl (by rw [(by decide : (decide ((0 : Int) = (0 : Int))) = true)]; rfl) rfl) (ry hO rfl (yl tl_3 (by rw [(by decide : (decide ((0 : Int) = (0 : Int))) = true)]; rfl) rfl (fun _ h => ob h 0 3 rfl rfl)) (ry hO rfl (ye (by rw [(by decide : (decide ((0 : Int) = (0 : Int))) = true)]; rfl) rfl rfl) ?_)))))))))
     refine ry hO rfl (pt tz (by rw [(by decide : (decide ((0 : Int) = (0 : Int))) = true)]; rfl) rfl) (mv hO rfl rfl (ry hO rfl (yf 7 tf_38_7 rfl (by rw [(by decide : (decide ((0 : Int) = (0 : Int))) = true)]; rfl) rfl) (ry hO rfl (yl tl_3 (by rw [(by decide : (decide ((0 : Int) = (0 : Int))) = true)]; rfl) rfl (fun _ h => ob h 0 7 rfl rfl)) (ry hO rfl (ye (by rw [(by decide : (decide ((0 : Int) = (0 : Int))) = true)]; rfl) rfl rfl) (ry hO rfl (pt tz (by rw [(by decide : (decide ((0 : Int) = (0 : Int))) = true)]; rfl) rfl) (as_ hO rfl rfl (rj (ez (E' := [(4, .bool (decide (0 = 0)))]) ⟨rfl, tz⟩ (et ?_)))))))))
     refine ct (er (.inl rfl) rfl rfl ?_)
     refine Ret.mk hle180 (hO.forget) (congrArg Value.bool ?_)
     generalize (nth s.code.val.code at_.toNat) = x at *; first | (have h_1 := all_bad (s := s) (x := x) (k := k) (by omega) (by assumption); simp [insB, h_1]; done) | (have h_1 := all_done hreg (by omega); simp_all [insB, insZ]; done) | (simp_all [insB, insA]; done) | grind [insB, insA, insZ]
    have h187 : ¬ ((nth s.code.val.code at_.toNat).kind = 3) := oq h183
    refine cr (ry hO rfl (ye tz rfl rfl) (as_ hO rfl rfl (rj (et (cd rfl (fun h188 => ?_) (fun h188 => ?_))))))
    ·
     have h189 : (nth s.code.val.code at_.toNat).kind = 9 := ot h188
     refine cx (eh (eh (ej (et (cr (fb 3 tf_38_3 rfl hO rfl rfl (rd' tz (oo (vs := [.int .i64 0]) hO tn_3 rfl rfl rfl (nb rfl) rfl rfl (fun w190 hO => ?_)))))))))
     have hO : Own _ M177 ([(b22, .cells #[.int .i64 ((nth s.code.val.code at_.toNat).kind), .int .i64 0, .int .i64 ((nth s.code.val.code at_.toNat).a), .int .i64 0, .int .i64 ((nth s.code.val.code at_.toNat).k), .slice b18 (((nth s.code.val.code at_.toNat).args).length) c19, .int .i64 ((nth s.code.val.code at_.toNat).cost), .int .i64 0, .int .i64 ((nth s.code.val.code at_.toNat).pc)] 38)] ++ bs) := hO
     refine rj (ek' (ez (E' := [(5, .pointer (some ⟨b22, 0, none⟩))]) ⟨rfl, tz⟩ (et (cq (cr (fb 2 tf_38_2 rfl hO rfl rfl (rd' tz (oo (vs := [.int .i64 0]) hO tn_3 rfl rfl rfl (nb rfl) rfl rfl (fun w191 hO => ?_)))))))))
     have hO : Own _ M177 ([(b22, .cells #[.int .i64 ((nth s.code.val.code at_.toNat).kind), .int .i64 0, .int .i64 0, .int .i64 0, .int .i64 ((nth s.code.val.code at_.toNat).k), .slice b18 (((nth s.code.val.code at_.toNat).args).length) c19, .int .i64 ((nth s.code.val.code at_.toNat).cost), .int .i64 0, .int .i64 ((nth s.code.val.code at_.toNat).pc)] 38)] ++ bs) := hO
     refine rj (et (cx (ej (et (cq (cr (fb 1 tf_38_1 rfl hO rfl rfl (ry hO rfl (yl tl_3 tz rfl (fun _ h => ob h 0 1 rfl rfl)) (ry hO rfl (ye tz rfl rfl) ?_)))))))))
     refine mv hO rfl rfl (ry hO rfl (yf 2 tf_38_2 rfl (by rw [(by decide : (decide ((0 : Int) = (0 : Int))) = true)]; rfl) rfl) (ry hO rfl (yl tl_3 (by rw [(by decide : (decide ((0 : Int) = (0 : Int))) = true)]; rfl) rfl (fun _ h => ob h 0 2 rfl rfl)) (ry hO rfl (ye (by rw [(by decide : (decide ((0 : Int) = (0 : Int))) = true)]; rfl) rfl rfl) (ry hO rfl (pt tz (by rw [(by decide : (decide ((0 : Int) = (0 : Int))) = true)]; rfl) rfl) (mv hO rfl rfl (ry hO rfl (yf 3 tf_38_3 rfl (by rw [(by decide : (decide ((0 : Int) = (0 : Int))) = true)]; rfl) rfl) (ry hO rfl (yl tl_3 (by rw [(by decide : (decide ((0 : Int) = (0 : Int))) = true)]; rfl) rfl (fun _ h => ob h 0 3 rfl rfl)) (ry hO rfl (ye (by rw [(by decide : (decide ((0 : Int) = (0 : Int))) = true)]; rfl) rfl rfl) (ry hO rfl (pt tz (by rw [(by decide : (decide ((0 : Int) = (0 : Int))) = true)]; rfl) rfl) ?_)))))))))
     refine mv hO rfl rfl (ry hO rfl (yf 7 tf_38_7 rfl (by rw [(by decide : (decide ((0 : Int) = (0 : Int))) = true)]; rfl) rfl) (ry hO rfl (yl tl_3 (by rw [(by decide : (decide ((0 : Int) = (0 : Int))) = true)]; rfl) rfl (fun _ h => ob h 0 7 rfl rfl)) (ry hO rfl (ye (by rw [(by decide : (decide ((0 : Int) = (0 : Int))) = true)]; rfl) rfl rfl) (ry hO rfl (pt tz (by rw [(by decide : (decide ((0 : Int) = (0 : Int))) = true)]; rfl) rfl) (as_ hO rfl rfl (rj (ez (E' := [(4, .bool (decide (0 = 0)))]) ⟨rfl, tz⟩ (et (ct ?_)))))))))
     refine er (.inl rfl) rfl rfl ?_
     refine Ret.mk hle180 (hO.forget) (congrArg Value.bool ?_)
     generalize (nth s.code.val.code at_.toNat) = x at *; first | (have h_1 := all_bad (s := s) (x := x) (k := k) (by omega) (by assumption); simp [insB, h_1]; done) | (have h_1 := all_done hreg (by omega); simp_all [insB, insZ]; done) | (simp_all [insB, insA]; done) | grind [insB, insA, insZ]
    have h192 : ¬ ((nth s.code.val.code at_.toNat).kind = 9) := oq h188
    refine cp (et (cq (cq (cr (ry hO rfl (ye tz rfl rfl) (as_ hO rfl rfl (rj (ez (E' := [(5, .pointer (some ⟨b22, 0, none⟩)), (108, .int .i64 ((nth s.code.val.code at_.toNat).kind)), (112, .bool (decide ((nth s.code.val.code at_.toNat).kind = 2)))]) ⟨rfl, rfl, rfl, tz⟩ (et ?_)))))))))
    refine cd rfl (fun h193 => ?_) (fun h193 => ?_)
    ·
     have h194 : (nth s.code.val.code at_.toNat).kind = 2 := ot h193
     refine cp (et (cv (by rw [h193]; rfl) (cx (eh (ep (by decide) (eh (ej (et (cq ?_)))))))))
     refine cr (fb 2 tf_38_2 rfl hO rfl rfl (rd' tz (oo (vs := [.int .i64 0]) hO tn_3 rfl rfl rfl (nb rfl) rfl rfl (fun w195 hO => ?_))))
     have hO : Own _ M177 ([(b22, .cells #[.int .i64 ((nth s.code.val.code at_.toNat).kind), .int .i64 0, .int .i64 0, .int .i64 ((nth s.code.val.code at_.toNat).b), .int .i64 ((nth s.code.val.code at_.toNat).k), .slice b18 (((nth s.code.val.code at_.toNat).args).length) c19, .int .i64 ((nth s.code.val.code at_.toNat).cost), .int .i64 0, .int .i64 ((nth s.code.val.code at_.toNat).pc)] 38)] ++ bs) := hO
     refine rj (et (cx (ej (et (cq (cr (fb 1 tf_38_1 rfl hO rfl rfl (ry hO rfl (yl tl_3 tz rfl (fun _ h => ob h 0 1 rfl rfl)) (ry hO rfl (ye tz rfl rfl) ?_)))))))))
     refine mv hO rfl rfl (ry hO rfl (yf 2 tf_38_2 rfl (by rw [(by decide : (decide ((0 : Int) = (0 : Int))) = true)]; rfl) rfl) (ry hO rfl (yl tl_3 (by rw [(by decide : (decide ((0 : Int) = (0 : Int))) = true)]; rfl) rfl (fun _ h => ob h 0 2 rfl rfl)) (ry hO rfl (ye (by rw [(by decide : (decide ((0 : Int) = (0 : Int))) = true)]; rfl) rfl rfl) (ry hO rfl (pt tz (by rw [(by decide : (decide ((0 : Int) = (0 : Int))) = true)]; rfl) rfl) (mv hO rfl rfl (ry hO rfl (yf 3 tf_38_3 rfl (by rw [(by decide : (decide ((0 : Int) = (0 : Int))) = true)]; rfl) rfl) (ry hO rfl (yl tl_3 (by rw [(by decide : (decide ((0 : Int) = (0 : Int))) = true)]; rfl) rfl (fun _ h => ob h 0 3 rfl rfl)) (ry hO rfl (ye (by rw [(by decide : (decide ((0 : Int) = (0 : Int))) = true)]; rfl) rfl rfl) (ry hO rfl (pt tz (by rw [(by decide : (decide ((0 : Int) = (0 : Int))) = true)]; rfl) rfl) ?_)))))))))
     refine mv hO rfl rfl ?_
     rcases bt (decide ((nth s.code.val.code at_.toNat).b = 0)) with h196 | h196
     ·
      have h197 : (nth s.code.val.code at_.toNat).b = 0 := ot h196
      refine ry hO rfl (yf 7 tf_38_7 rfl (by rw [h196]; rfl) rfl) (ry hO rfl (yl tl_3 (by rw [h196]; rfl) rfl (fun _ h => ob h 0 7 rfl rfl)) (ry hO rfl (ye (by rw [h196]; rfl) rfl rfl) (ry hO rfl (pt tz (by rw [h196]; rfl) rfl) (as_ hO rfl rfl (rj (ez (E' := [(4, .bool (decide (0 = 0)))]) ⟨rfl, tz⟩ (et (ct (er (.inl rfl) rfl rfl ?_)))))))))
      refine Ret.mk hle180 (hO.forget) (congrArg Value.bool ?_)
      generalize (nth s.code.val.code at_.toNat) = x at *; first | (have h_1 := all_bad (s := s) (x := x) (k := k) (by omega) (by assumption); simp [insB, h_1]; done) | (have h_1 := all_done hreg (by omega); simp_all [insB, insZ]; done) | (simp_all [insB, insA]; done) | grind [insB, insA, insZ]
     have h198 : ¬ ((nth s.code.val.code at_.toNat).b = 0) := oq h196
     refine ry hO rfl (ek (by rw [h196]; rfl)) (ry hO rfl (ek (by rw [h196]; rfl)) (ry hO rfl (ek (by rw [h196]; rfl)) (ry hO rfl (pf tz (by rw [h196]; rfl) rfl) (as_ hO rfl rfl (rj (ez (E' := [(4, .bool false)]) ⟨rfl, tz⟩ (et (ct (er (.inl rfl) rfl rfl ?_)))))))))
     refine Ret.mk hle180 (hO.forget) (congrArg Value.bool ?_)
     generalize (nth s.code.val.code at_.toNat) = x at *; first | (have h_1 := all_bad (s := s) (x := x) (k := k) (by omega) (by assumption); simp [insB, h_1]; done) | (have h_1 := all_done hreg (by omega); simp_all [insB, insZ]; done) | (simp_all [insB, insA]; done) | grind [insB, insA, insZ]
    have h199 : ¬ ((nth s.code.val.code at_.toNat).kind = 2) := oq h193
    refine cq (cr (ry hO rfl (ye tz rfl rfl) (as_ hO rfl rfl (rj (et (cd rfl (fun h200 => ?_) (fun h200 => ?_)))))))
    ·
     have h201 : (nth s.code.val.code at_.toNat).kind = 5 := ot h200
     refine cp (et (cv (by rw [h200]; rfl) (cx (eh (ep (by decide) (eh (ej (et (cq ?_)))))))))
     refine cr (fb 2 tf_38_2 rfl hO rfl rfl (rd' tz (oo (vs := [.int .i64 0]) hO tn_3 rfl rfl rfl (nb rfl) rfl rfl (fun w202 hO => ?_))))
     have hO : Own _ M177 ([(b22, .cells #[.int .i64 ((nth s.code.val.code at_.toNat).kind), .int .i64 0, .int .i64 0, .int .i64 ((nth s.code.val.code at_.toNat).b), .int .i64 ((nth s.code.val.code at_.toNat).k), .slice b18 (((nth s.code.val.code at_.toNat).args).length) c19, .int .i64 ((nth s.code.val.code at_.toNat).cost), .int .i64 0, .int .i64 ((nth s.code.val.code at_.toNat).pc)] 38)] ++ bs) := hO
     refine rj (et (cx (ej (et (cq (cr (fb 1 tf_38_1 rfl hO rfl rfl (ry hO rfl (yl tl_3 tz rfl (fun _ h => ob h 0 1 rfl rfl)) (ry hO rfl (ye tz rfl rfl) ?_)))))))))
     refine mv hO rfl rfl (ry hO rfl (yf 2 tf_38_2 rfl (by rw [(by decide : (decide ((0 : Int) = (0 : Int))) = true)]; rfl) rfl) (ry hO rfl (yl tl_3 (by rw [(by decide : (decide ((0 : Int) = (0 : Int))) = true)]; rfl) rfl (fun _ h => ob h 0 2 rfl rfl)) (ry hO rfl (ye (by rw [(by decide : (decide ((0 : Int) = (0 : Int))) = true)]; rfl) rfl rfl) (ry hO rfl (pt tz (by rw [(by decide : (decide ((0 : Int) = (0 : Int))) = true)]; rfl) rfl) (mv hO rfl rfl (ry hO rfl (yf 3 tf_38_3 rfl (by rw [(by decide : (decide ((0 : Int) = (0 : Int))) = true)]; rfl) rfl) (ry hO rfl (yl tl_3 (by rw [(by decide : (decide ((0 : Int) = (0 : Int))) = true)]; rfl) rfl (fun _ h => ob h 0 3 rfl rfl)) (ry hO rfl (ye (by rw [(by decide : (decide ((0 : Int) = (0 : Int))) = true)]; rfl) rfl rfl) (ry hO rfl (pt tz (by rw [(by decide : (decide ((0 : Int) = (0 : Int))) = true)]; rfl) rfl) ?_)))))))))
     refine mv hO rfl rfl ?_
     rcases bt (decide ((nth s.code.val.code at_.toNat).b = 0)) with h203 | h203
     ·
      have h204 : (nth s.code.val.code at_.toNat).b = 0 := ot h203
      refine ry hO rfl (yf 7 tf_38_7 rfl (by rw [h203]; rfl) rfl) (ry hO rfl (yl tl_3 (by rw [h203]; rfl) rfl (fun _ h => ob h 0 7 rfl rfl)) (ry hO rfl (ye (by rw [h203]; rfl) rfl rfl) (ry hO rfl (pt tz (by rw [h203]; rfl) rfl) (as_ hO rfl rfl (rj (ez (E' := [(4, .bool (decide (0 = 0)))]) ⟨rfl, tz⟩ (et (ct (er (.inl rfl) rfl rfl ?_)))))))))
      refine Ret.mk hle180 (hO.forget) (congrArg Value.bool ?_)
      generalize (nth s.code.val.code at_.toNat) = x at *; first | (have h_1 := all_bad (s := s) (x := x) (k := k) (by omega) (by assumption); simp [insB, h_1]; done) | (have h_1 := all_done hreg (by omega); simp_all [insB, insZ]; done) | (simp_all [insB, insA]; done) | grind [insB, insA, insZ]
     have h205 : ¬ ((nth s.code.val.code at_.toNat).b = 0) := oq h203
     refine ry hO rfl (ek (by rw [h203]; rfl)) (ry hO rfl (ek (by rw [h203]; rfl)) (ry hO rfl (ek (by rw [h203]; rfl)) (ry hO rfl (pf tz (by rw [h203]; rfl) rfl) (as_ hO rfl rfl (rj (ez (E' := [(4, .bool false)]) ⟨rfl, tz⟩ (et (ct (er (.inl rfl) rfl rfl ?_)))))))))
     refine Ret.mk hle180 (hO.forget) (congrArg Value.bool ?_)
     generalize (nth s.code.val.code at_.toNat) = x at *; first | (have h_1 := all_bad (s := s) (x := x) (k := k) (by omega) (by assumption); simp [insB, h_1]; done) | (have h_1 := all_done hreg (by omega); simp_all [insB, insZ]; done) | (simp_all [insB, insA]; done) | grind [insB, insA, insZ]
    have h206 : ¬ ((nth s.code.val.code at_.toNat).kind = 5) := oq h200
    refine cq (cr (ry hO rfl (ye tz rfl rfl) (as_ hO rfl rfl (rj (et (cd rfl (fun h207 => ?_) (fun h207 => ?_)))))))
    ·
     have h208 : (nth s.code.val.code at_.toNat).kind = 7 := ot h207
     refine cp (et (cv (by rw [h207]; rfl) (cx (eh (ep (by decide) (eh (ej (et (cq ?_)))))))))
     refine cr (fb 2 tf_38_2 rfl hO rfl rfl (rd' tz (oo (vs := [.int .i64 0]) hO tn_3 rfl rfl rfl (nb rfl) rfl rfl (fun w209 hO => ?_))))
     have hO : Own _ M177 ([(b22, .cells #[.int .i64 ((nth s.code.val.code at_.toNat).kind), .int .i64 0, .int .i64 0, .int .i64 ((nth s.code.val.code at_.toNat).b), .int .i64 ((nth s.code.val.code at_.toNat).k), .slice b18 (((nth s.code.val.code at_.toNat).args).length) c19, .int .i64 ((nth s.code.val.code at_.toNat).cost), .int .i64 0, .int .i64 ((nth s.code.val.code at_.toNat).pc)] 38)] ++ bs) := hO
     refine rj (et (cx (ej (et (cq (cr (fb 1 tf_38_1 rfl hO rfl rfl (ry hO rfl (yl tl_3 tz rfl (fun _ h => ob h 0 1 rfl rfl)) (ry hO rfl (ye tz rfl rfl) ?_)))))))))
     refine mv hO rfl rfl (ry hO rfl (yf 2 tf_38_2 rfl (by rw [(by decide : (decide ((0 : Int) = (0 : Int))) = true)]; rfl) rfl) (ry hO rfl (yl tl_3 (by rw [(by decide : (decide ((0 : Int) = (0 : Int))) = true)]; rfl) rfl (fun _ h => ob h 0 2 rfl rfl)) (ry hO rfl (ye (by rw [(by decide : (decide ((0 : Int) = (0 : Int))) = true)]; rfl) rfl rfl) (ry hO rfl (pt tz (by rw [(by decide : (decide ((0 : Int) = (0 : Int))) = true)]; rfl) rfl) (mv hO rfl rfl (ry hO rfl (yf 3 tf_38_3 rfl (by rw [(by decide : (decide ((0 : Int) = (0 : Int))) = true)]; rfl) rfl) (ry hO rfl (yl tl_3 (by rw [(by decide : (decide ((0 : Int) = (0 : Int))) = true)]; rfl) rfl (fun _ h => ob h 0 3 rfl rfl)) (ry hO rfl (ye (by rw [(by decide : (decide ((0 : Int) = (0 : Int))) = true)]; rfl) rfl rfl) (ry hO rfl (pt tz (by rw [(by decide : (decide ((0 : Int) = (0 : Int))) = true)]; rfl) rfl) ?_)))))))))
     refine mv hO rfl rfl ?_
     rcases bt (decide ((nth s.code.val.code at_.toNat).b = 0)) with h210 | h210
     ·
      have h211 : (nth s.code.val.code at_.toNat).b = 0 := ot h210
      refine ry hO rfl (yf 7 tf_38_7 rfl (by rw [h210]; rfl) rfl) (ry hO rfl (yl tl_3 (by rw [h210]; rfl) rfl (fun _ h => ob h 0 7 rfl rfl)) (ry hO rfl (ye (by rw [h210]; rfl) rfl rfl) (ry hO rfl (pt tz (by rw [h210]; rfl) rfl) (as_ hO rfl rfl (rj (ez (E' := [(4, .bool (decide (0 = 0)))]) ⟨rfl, tz⟩ (et (ct (er (.inl rfl) rfl rfl ?_)))))))))
      refine Ret.mk hle180 (hO.forget) (congrArg Value.bool ?_)
      generalize (nth s.code.val.code at_.toNat) = x at *; first | (have h_1 := all_bad (s := s) (x := x) (k := k) (by omega) (by assumption); simp [insB, h_1]; done) | (have h_1 := all_done hreg (by omega); simp_all [insB, insZ]; done) | (simp_all [insB, insA]; done) | grind [insB, insA, insZ]
     have h212 : ¬ ((nth s.code.val.code at_.toNat).b = 0) := oq h210
     refine ry hO rfl (ek (by rw [h210]; rfl)) (ry hO rfl (ek (by rw [h210]; rfl)) (ry hO rfl (ek (by rw [h210]; rfl)) (ry hO rfl (pf tz (by rw [h210]; rfl) rfl) (as_ hO rfl rfl (rj (ez (E' := [(4, .bool false)]) ⟨rfl, tz⟩ (et (ct (er (.inl rfl) rfl rfl ?_)))))))))
     refine Ret.mk hle180 (hO.forget) (congrArg Value.bool ?_)
     generalize (nth s.code.val.code at_.toNat) = x at *; first | (have h_1 := all_bad (s := s) (x := x) (k := k) (by omega) (by assumption); simp [insB, h_1]; done) | (have h_1 := all_done hreg (by omega); simp_all [insB, insZ]; done) | (simp_all [insB, insA]; done) | grind [insB, insA, insZ]
    have h213 : ¬ ((nth s.code.val.code at_.toNat).kind = 7) := oq h207
    refine cr (ry hO rfl (ye tz rfl rfl) (as_ hO rfl rfl (rj (et (cd rfl (fun h214 => ?_) (fun h214 => ?_))))))
    ·
     have h215 : (nth s.code.val.code at_.toNat).kind = 8 := ot h214
     refine cx (eh (ep (by decide) (eh (ej (et (cq (cr (fb 2 tf_38_2 rfl hO rfl rfl (rd' tz (oo (vs := [.int .i64 0]) hO tn_3 rfl rfl rfl (nb rfl) rfl rfl (fun w216 hO => ?_)))))))))))
     have hO : Own _ M177 ([(b22, .cells #[.int .i64 ((nth s.code.val.code at_.toNat).kind), .int .i64 0, .int .i64 0, .int .i64 ((nth s.code.val.code at_.toNat).b), .int .i64 ((nth s.code.val.code at_.toNat).k), .slice b18 (((nth s.code.val.code at_.toNat).args).length) c19, .int .i64 ((nth s.code.val.code at_.toNat).cost), .int .i64 0, .int .i64 ((nth s.code.val.code at_.toNat).pc)] 38)] ++ bs) := hO
     refine rj (et (cx (ej (et (cq (cr (fb 1 tf_38_1 rfl hO rfl rfl (ry hO rfl (yl tl_3 tz rfl (fun _ h => ob h 0 1 rfl rfl)) (ry hO rfl (ye tz rfl rfl) ?_)))))))))
     refine mv hO rfl rfl (ry hO rfl (yf 2 tf_38_2 rfl (by rw [(by decide : (decide ((0 : Int) = (0 : Int))) = true)]; rfl) rfl) (ry hO rfl (yl tl_3 (by rw [(by decide : (decide ((0 : Int) = (0 : Int))) = true)]; rfl) rfl (fun _ h => ob h 0 2 rfl rfl)) (ry hO rfl (ye (by rw [(by decide : (decide ((0 : Int) = (0 : Int))) = true)]; rfl) rfl rfl) (ry hO rfl (pt tz (by rw [(by decide : (decide ((0 : Int) = (0 : Int))) = true)]; rfl) rfl) (mv hO rfl rfl (ry hO rfl (yf 3 tf_38_3 rfl (by rw [(by decide : (decide ((0 : Int) = (0 : Int))) = true)]; rfl) rfl) (ry hO rfl (yl tl_3 (by rw [(by decide : (decide ((0 : Int) = (0 : Int))) = true)]; rfl) rfl (fun _ h => ob h 0 3 rfl rfl)) (ry hO rfl (ye (by rw [(by decide : (decide ((0 : Int) = (0 : Int))) = true)]; rfl) rfl rfl) (ry hO rfl (pt tz (by rw [(by decide : (decide ((0 : Int) = (0 : Int))) = true)]; rfl) rfl) ?_)))))))))
     refine mv hO rfl rfl ?_
     rcases bt (decide ((nth s.code.val.code at_.toNat).b = 0)) with h217 | h217
     ·
      have h218 : (nth s.code.val.code at_.toNat).b = 0 := ot h217
      refine ry hO rfl (yf 7 tf_38_7 rfl (by rw [h217]; rfl) rfl) (ry hO rfl (yl tl_3 (by rw [h217]; rfl) rfl (fun _ h => ob h 0 7 rfl rfl)) (ry hO rfl (ye (by rw [h217]; rfl) rfl rfl) (ry hO rfl (pt tz (by rw [h217]; rfl) rfl) (as_ hO rfl rfl (rj (ez (E' := [(4, .bool (decide (0 = 0)))]) ⟨rfl, tz⟩ (et (ct (er (.inl rfl) rfl rfl ?_)))))))))
      refine Ret.mk hle180 (hO.forget) (congrArg Value.bool ?_)
      generalize (nth s.code.val.code at_.toNat) = x at *; first | (have h_1 := all_bad (s := s) (x := x) (k := k) (by omega) (by assumption); simp [insB, h_1]; done) | (have h_1 := all_done hreg (by omega); simp_all [insB, insZ]; done) | (simp_all [insB, insA]; done) | grind [insB, insA, insZ]
     have h219 : ¬ ((nth s.code.val.code at_.toNat).b = 0) := oq h217
     refine ry hO rfl (ek (by rw [h217]; rfl)) (ry hO rfl (ek (by rw [h217]; rfl)) (ry hO rfl (ek (by rw [h217]; rfl)) (ry hO rfl (pf tz (by rw [h217]; rfl) rfl) (as_ hO rfl rfl (rj (ez (E' := [(4, .bool false)]) ⟨rfl, tz⟩ (et (ct (er (.inl rfl) rfl rfl ?_)))))))))
     refine Ret.mk hle180 (hO.forget) (congrArg Value.bool ?_)
     generalize (nth s.code.val.code at_.toNat) = x at *; first | (have h_1 := all_bad (s := s) (x := x) (k := k) (by omega) (by assumption); simp [insB, h_1]; done) | (have h_1 := all_done hreg (by omega); simp_all [insB, insZ]; done) | (simp_all [insB, insA]; done) | grind [insB, insA, insZ]
    have h220 : ¬ ((nth s.code.val.code at_.toNat).kind = 8) := oq h214
    refine cp (et (cx (ep (by decide) (eh (ep (by decide) (eh (ej (et (cq ?_)))))))))
    refine cr (fb 1 tf_38_1 rfl hO rfl rfl (ry hO rfl (yl tl_3 tz rfl (fun _ h => ob h 0 1 rfl rfl)) (ry hO rfl (ye tz rfl rfl) (mv hO rfl rfl (ry hO rfl (yf 2 tf_38_2 rfl (by rw [(by decide : (decide ((0 : Int) = (0 : Int))) = true)]; rfl) rfl) (ry hO rfl (yl tl_3 (by rw [(by decide : (decide ((0 : Int) = (0 : Int))) = true)]; rfl) rfl (fun _ h => ob h 0 2 rfl rfl)) (ry hO rfl (ye (by rw [(by decide : (decide ((0 : Int) = (0 : Int))) = true)]; rfl) rfl rfl) (ry hO rfl (pt tz (by rw [(by decide : (decide ((0 : Int) = (0 : Int))) = true)]; rfl) rfl) (mv hO rfl rfl ?_)))))))))
    rcases bt (decide ((nth s.code.val.code at_.toNat).a = 0)) with h221 | h221
    ·
     have h222 : (nth s.code.val.code at_.toNat).a = 0 := ot h221
     refine ry hO rfl (yf 3 tf_38_3 rfl (by rw [h221]; rfl) rfl) (ry hO rfl (yl tl_3 (by rw [h221]; rfl) rfl (fun _ h => ob h 0 3 rfl rfl)) (ry hO rfl (ye (by rw [h221]; rfl) rfl rfl) (ry hO rfl (pt tz (by rw [h221]; rfl) rfl) (mv hO rfl rfl ?_))))
     rcases bt (decide ((nth s.code.val.code at_.toNat).b = 0)) with h223 | h223
     ·
      have h224 : (nth s.code.val.code at_.toNat).b = 0 := ot h223
      refine ry hO rfl (yf 7 tf_38_7 rfl (by rw [h223]; rfl) rfl) (ry hO rfl (yl tl_3 (by rw [h223]; rfl) rfl (fun _ h => ob h 0 7 rfl rfl)) (ry hO rfl (ye (by rw [h223]; rfl) rfl rfl) (ry hO rfl (pt tz (by rw [h223]; rfl) rfl) (as_ hO rfl rfl (rj (ez (E' := [(4, .bool (decide (0 = 0)))]) ⟨rfl, tz⟩ (et (ct (er (.inl rfl) rfl rfl ?_)))))))))
      refine Ret.mk hle180 (hO.forget) (congrArg Value.bool ?_)
      generalize (nth s.code.val.code at_.toNat) = x at *; first | (have h_1 := all_bad (s := s) (x := x) (k := k) (by omega) (by assumption); simp [insB, h_1]; done) | (have h_1 := all_done hreg (by omega); simp_all [insB, insZ]; done) | (simp_all [insB, insA]; done) | grind [insB, insA, insZ]
     have h225 : ¬ ((nth s.code.val.code at_.toNat).b = 0) := oq h223
     refine ry hO rfl (ek (by rw [h223]; rfl)) (ry hO rfl (ek (by rw [h223]; rfl)) (ry hO rfl (ek (by rw [h223]; rfl)) (ry hO rfl (pf tz (by rw [h223]; rfl) rfl) (as_ hO rfl rfl (rj (ez (E' := [(4, .bool false)]) ⟨rfl, tz⟩ (et (ct (er (.inl rfl) rfl rfl ?_)))))))))
     refine Ret.mk hle180 (hO.forget) (congrArg Value.bool ?_)
     generalize (nth s.code.val.code at_.toNat) = x at *; first | (have h_1 := all_bad (s := s) (x := x) (k := k) (by omega) (by assumption); simp [insB, h_1]; done) | (have h_1 := all_done hreg (by omega); simp_all [insB, insZ]; done) | (simp_all [insB, insA]; done) | grind [insB, insA, insZ]
    have h226 : ¬ ((nth s.code.val.code at_.toNat).a = 0) := oq h221
    refine ry hO rfl (ek (by rw [h221]; rfl)) (ry hO rfl (ek (by rw [h221]; rfl)) (ry hO rfl (ek (by rw [h221]; rfl)) (ry hO rfl (pf tz (by rw [h221]; rfl) rfl) (mv hO rfl rfl (ry hO rfl (ek rfl) (ry hO rfl (ek rfl) (ry hO rfl (ek rfl) (ry hO rfl (pf tz rfl rfl) (as_ hO rfl rfl ?_)))))))))
    refine rj (ez (E' := [(4, .bool false)]) ⟨rfl, tz⟩ (et (ct (er (.inl rfl) rfl rfl ?_))))
    refine Ret.mk hle180 (hO.forget) (congrArg Value.bool ?_)
    generalize (nth s.code.val.code at_.toNat) = x at *; first | (have h_1 := all_bad (s := s) (x := x) (k := k) (by omega) (by assumption); simp [insB, h_1]; done) | (have h_1 := all_done hreg (by omega); simp_all [insB, insZ]; done) | (simp_all [insB, insA]; done) | grind [insB, insA, insZ]
   refine cp (et (cq (cq (cr (fb 0 tf_38_0 rfl hO rfl rfl (ry hO rfl (yl tl_3 tz rfl (fun _ h => ob h 0 0 rfl rfl)) (rj (et (cb ?_)))))))))
   refine cq (cb (cq (cb (cq (cq (cq (cq (cr (ry hO rfl (ye tz rfl rfl) ?_)))))))))
   refine as_ hO rfl rfl (rj (et (cd rfl (fun h227 => ?_) (fun h227 => ?_))))
   ·
    have h228 : (nth s.code.val.code at_.toNat).kind = 3 := ot h227
    refine cp (et (cv (by rw [h227]; rfl) (cx (eh (eh (ej (et (cr (fb 3 tf_38_3 rfl hO rfl rfl ?_)))))))))
    refine rd' tz (oo (vs := [.int .i64 0]) hO tn_3 rfl rfl rfl (nb rfl) rfl rfl (fun w229 hO => ?_))
    have hO : Own _ M177 ([(b22, .cells #[.int .i64 ((nth s.code.val.code at_.toNat).kind), .int .i64 0, .int .i64 ((nth s.code.val.code at_.toNat).a), .int .i64 0, .int .i64 ((nth s.code.val.code at_.toNat).k), .slice b18 (((nth s.code.val.code at_.toNat).args).length) c19, .int .i64 ((nth s.code.val.code at_.toNat).cost), .int .i64 ((nth s.code.val.code at_.toNat).mt), .int .i64 ((nth s.code.val.code at_.toNat).pc)] 38)] ++ bs) := hO
    refine rj (ek' (et (cq (cr (fb 2 tf_38_2 rfl hO rfl rfl (rd' tz (oo (vs := [.int .i64 0]) hO tn_3 rfl rfl rfl (nb rfl) rfl rfl (fun w230 hO => ?_))))))))
    have hO : Own _ M177 ([(b22, .cells #[.int .i64 ((nth s.code.val.code at_.toNat).kind), .int .i64 0, .int .i64 0, .int .i64 0, .int .i64 ((nth s.code.val.code at_.toNat).k), .slice b18 (((nth s.code.val.code at_.toNat).args).length) c19, .int .i64 ((nth s.code.val.code at_.toNat).cost), .int .i64 ((nth s.code.val.code at_.toNat).mt), .int .i64 ((nth s.code.val.code at_.toNat).pc)] 38)] ++ bs) := hO
    refine rj (et (cx (ej (et (cq (cr (fb 1 tf_38_1 rfl hO rfl rfl (ry hO rfl (yl tl_3 tz rfl (fun _ h => ob h 0 1 rfl rfl)) (ry hO rfl (ye tz rfl rfl) ?_)))))))))
    refine mv hO rfl rfl (ry hO rfl (yf 2 tf_38_2 rfl (by rw [(by decide : (decide ((0 : Int) = (0 : Int))) = true)]; rfl) rfl) (ry hO rfl (yl tl_3 (by rw [(by decide : (decide ((0 : Int) = (0 : Int))) = true)]; rfl) rfl (fun _ h => ob h 0 2 rfl rfl)) (ry hO rfl (ye (by rw [(by decide : (decide ((0 : Int) = (0 : Int))) = true)]; rfl) rfl rfl) (ry hO rfl (pt tz (by rw [(by decide : (decide ((0 : Int) = (0 : Int))) = true)]; rfl) rfl) (mv hO rfl rfl (ry hO rfl (yf 3 tf_38_3 rfl (by rw [(by decide : (decide ((0 : Int) = (0 : Int))) = true)]; rfl) rfl) (ry hO rfl (yl tl_3 (by rw [(by decide : (decide ((0 : Int) = (0 : Int))) = true)]; rfl) rfl (fun _ h => ob h 0 3 rfl rfl)) (ry hO rfl (ye (by rw [(by decide : (decide ((0 : Int) = (0 : Int))) = true)]; rfl) rfl rfl) (ry hO rfl (pt tz (by rw [(by decide : (decide ((0 : Int) = (0 : Int))) = true)]; rfl) rfl) ?_)))))))))
    refine mv hO rfl rfl (ry hO rfl (yf 7 tf_38_7 rfl (by rw [(by decide : (decide ((0 : Int) = (0 : Int))) = true)]; rfl) rfl) (ry hO rfl (yl tl_3 (by rw [(by decide : (decide ((0 : Int) = (0 : Int))) = true)]; rfl) rfl (fun _ h => ob h 0 7 rfl rfl)) (ry hO rfl (ye (by rw [(by decide : (decide ((0 : Int) = (0 : Int))) = true)]; rfl) rfl rfl) (ry hO rfl (pt tz (by rw [(by decide : (decide ((0 : Int) = (0 : Int))) = true)]; rfl) rfl) (as_ hO rfl rfl (rj (ez (E' := [(4, .bool (decide ((nth s.code.val.code at_.toNat).mt = 0)))]) ⟨rfl, tz⟩ (et (ct ?_)))))))))
    refine er (.inl rfl) rfl rfl ?_
    refine Ret.mk hle180 (hO.forget) (congrArg Value.bool ?_)
    generalize (nth s.code.val.code at_.toNat) = x at *; first | (have h_1 := all_bad (s := s) (x := x) (k := k) (by omega) (by assumption); simp [insB, h_1]; done) | (have h_1 := all_done hreg (by omega); simp_all [insB, insZ]; done) | (simp_all [insB, insA]; done) | grind [insB, insA, insZ]
   have h231 : ¬ ((nth s.code.val.code at_.toNat).kind = 3) := oq h227
   refine cr (ry hO rfl (ye tz rfl rfl) (as_ hO rfl rfl (rj (et (cd rfl (fun h232 => ?_) (fun h232 => ?_))))))
   ·
    have h233 : (nth s.code.val.code at_.toNat).kind = 9 := ot h232
    refine cx (eh (eh (ej (et (cr (fb 3 tf_38_3 rfl hO rfl rfl (rd' tz (oo (vs := [.int .i64 0]) hO tn_3 rfl rfl rfl (nb rfl) rfl rfl (fun w234 hO => ?_)))))))))
    have hO : Own _ M177 ([(b22, .cells #[.int .i64 ((nth s.code.val.code at_.toNat).kind), .int .i64 0, .int .i64 ((nth s.code.val.code at_.toNat).a), .int .i64 0, .int .i64 ((nth s.code.val.code at_.toNat).k), .slice b18 (((nth s.code.val.code at_.toNat).args).length) c19, .int .i64 ((nth s.code.val.code at_.toNat).cost), .int .i64 ((nth s.code.val.code at_.toNat).mt), .int .i64 ((nth s.code.val.code at_.toNat).pc)] 38)] ++ bs) := hO
    refine rj (ek' (et (cq (cr (fb 2 tf_38_2 rfl hO rfl rfl (rd' tz (oo (vs := [.int .i64 0]) hO tn_3 rfl rfl rfl (nb rfl) rfl rfl (fun w235 hO => ?_))))))))
    have hO : Own _ M177 ([(b22, .cells #[.int .i64 ((nth s.code.val.code at_.toNat).kind), .int .i64 0, .int .i64 0, .int .i64 0, .int .i64 ((nth s.code.val.code at_.toNat).k), .slice b18 (((nth s.code.val.code at_.toNat).args).length) c19, .int .i64 ((nth s.code.val.code at_.toNat).cost), .int .i64 ((nth s.code.val.code at_.toNat).mt), .int .i64 ((nth s.code.val.code at_.toNat).pc)] 38)] ++ bs) := hO
    refine rj (ez (E' := [(5, .pointer (some ⟨b22, 0, none⟩))]) ⟨rfl, tz⟩ (et (cx (ej (et (cq (cr (fb 1 tf_38_1 rfl hO rfl rfl (ry hO rfl (yl tl_3 tz rfl (fun _ h => ob h 0 1 rfl rfl)) ?_)))))))))
    refine ry hO rfl (ye tz rfl rfl) (mv hO rfl rfl (ry hO rfl (yf 2 tf_38_2 rfl (by rw [(by decide : (decide ((0 : Int) = (0 : Int))) = true)]; rfl) rfl) (ry hO rfl (yl tl_3 (by rw [(by decide : (decide ((0 : Int) = (0 : Int))) = true)]; rfl) rfl (fun _ h => ob h 0 2 rfl rfl)) (ry hO rfl (ye (by rw [(by decide : (decide ((0 : Int) = (0 : Int))) = true)]; rfl) rfl rfl) (ry hO rfl (pt tz (by rw [(by decide : (decide ((0 : Int) = (0 : Int))) = true)]; rfl) rfl) (mv hO rfl rfl (ry hO rfl (yf 3 tf_38_3 rfl (by rw [(by decide : (decide ((0 : Int) = (0 : Int))) = true)]; rfl) rfl) (ry hO rfl (yl tl_3 (by rw [(by decide : (decide ((0 : Int) = (0 : Int))) = true)]; rfl) rfl (fun _ h => ob h 0 3 rfl rfl)) (ry hO rfl (ye (by rw [(by decide : (decide ((0 : Int) = (0 : Int))) = true)]; rfl) rfl rfl) ?_)))))))))
    refine ry hO rfl (pt tz (by rw [(by decide : (decide ((0 : Int) = (0 : Int))) = true)]; rfl) rfl) (mv hO rfl rfl (ry hO rfl (yf 7 tf_38_7 rfl (by rw [(by decide : (decide ((0 : Int) = (0 : Int))) = true)]; rfl) rfl) (ry hO rfl (yl tl_3 (by rw [(by decide : (decide ((0 : Int) = (0 : Int))) = true)]; rfl) rfl (fun _ h => ob h 0 7 rfl rfl)) (ry hO rfl (ye (by rw [(by decide : (decide ((0 : Int) = (0 : Int))) = true)]; rfl) rfl rfl) (ry hO rfl (pt tz (by rw [(by decide : (decide ((0 : Int) = (0 : Int))) = true)]; rfl) rfl) (as_ hO rfl rfl (rj (ez (E' := [(4, .bool (decide ((nth s.code.val.code at_.toNat).mt = 0)))]) ⟨rfl, tz⟩ (et ?_)))))))))
    refine ct (er (.inl rfl) rfl rfl ?_)
    refine Ret.mk hle180 (hO.forget) (congrArg Value.bool ?_)
    generalize (nth s.code.val.code at_.toNat) = x at *; first | (have h_1 := all_bad (s := s) (x := x) (k := k) (by omega) (by assumption); simp [insB, h_1]; done) | (have h_1 := all_done hreg (by omega); simp_all [insB, insZ]; done) | (simp_all [insB, insA]; done) | grind [insB, insA, insZ]
   have h236 : ¬ ((nth s.code.val.code at_.toNat).kind = 9) := oq h232
   refine cp (et (cq (cq (cr (ry hO rfl (ye tz rfl rfl) (as_ hO rfl rfl (rj (ez (E' := [(5, .pointer (some ⟨b22, 0, none⟩)), (108, .int .i64 ((nth s.code.val.code at_.toNat).kind)), (112, .bool (decide ((nth s.code.val.code at_.toNat).kind = 2)))]) ⟨rfl, rfl, rfl, tz⟩ (et ?_)))))))))
   refine cd rfl (fun h237 => ?_) (fun h237 => ?_)
   ·
    have h238 : (nth s.code.val.code at_.toNat).kind = 2 := ot h237
    refine cp (et (cv (by rw [h237]; rfl) (cx (eh (ep (by decide) (eh (ej (et (cq ?_)))))))))
    refine cr (fb 2 tf_38_2 rfl hO rfl rfl (rd' tz (oo (vs := [.int .i64 0]) hO tn_3 rfl rfl rfl (nb rfl) rfl rfl (fun w239 hO => ?_))))
    have hO : Own _ M177 ([(b22, .cells #[.int .i64 ((nth s.code.val.code at_.toNat).kind), .int .i64 0, .int .i64 0, .int .i64 ((nth s.code.val.code at_.toNat).b), .int .i64 ((nth s.code.val.code at_.toNat).k), .slice b18 (((nth s.code.val.code at_.toNat).args).length) c19, .int .i64 ((nth s.code.val.code at_.toNat).cost), .int .i64 ((nth s.code.val.code at_.toNat).mt), .int .i64 ((nth s.code.val.code at_.toNat).pc)] 38)] ++ bs) := hO
    refine rj (et (cx (ej (et (cq (cr (fb 1 tf_38_1 rfl hO rfl rfl (ry hO rfl (yl tl_3 tz rfl (fun _ h => ob h 0 1 rfl rfl)) (ry hO rfl (ye tz rfl rfl) ?_)))))))))
    refine mv hO rfl rfl (ry hO rfl (yf 2 tf_38_2 rfl (by rw [(by decide : (decide ((0 : Int) = (0 : Int))) = true)]; rfl) rfl) (ry hO rfl (yl tl_3 (by rw [(by decide : (decide ((0 : Int) = (0 : Int))) = true)]; rfl) rfl (fun _ h => ob h 0 2 rfl rfl)) (ry hO rfl (ye (by rw [(by decide : (decide ((0 : Int) = (0 : Int))) = true)]; rfl) rfl rfl) (ry hO rfl (pt tz (by rw [(by decide : (decide ((0 : Int) = (0 : Int))) = true)]; rfl) rfl) (mv hO rfl rfl (ry hO rfl (yf 3 tf_38_3 rfl (by rw [(by decide : (decide ((0 : Int) = (0 : Int))) = true)]; rfl) rfl) (ry hO rfl (yl tl_3 (by rw [(by decide : (decide ((0 : Int) = (0 : Int))) = true)]; rfl) rfl (fun _ h => ob h 0 3 rfl rfl)) (ry hO rfl (ye (by rw [(by decide : (decide ((0 : Int) = (0 : Int))) = true)]; rfl) rfl rfl) (ry hO rfl (pt tz (by rw [(by decide : (decide ((0 : Int) = (0 : Int))) = true)]; rfl) rfl) ?_)))))))))
    refine mv hO rfl rfl ?_
    rcases bt (decide ((nth s.code.val.code at_.toNat).b = 0)) with h240 | h240
    ·
     have h241 : (nth s.code.val.code at_.toNat).b = 0 := ot h240
     refine ry hO rfl (yf 7 tf_38_7 rfl (by rw [h240]; rfl) rfl) (ry hO rfl (yl tl_3 (by rw [h240]; rfl) rfl (fun _ h => ob h 0 7 rfl rfl)) (ry hO rfl (ye (by rw [h240]; rfl) rfl rfl) (ry hO rfl (pt tz (by rw [h240]; rfl) rfl) (as_ hO rfl rfl (rj (ez (E' := [(4, .bool (decide ((nth s.code.val.code at_.toNat).mt = 0)))]) ⟨rfl, tz⟩ (et (ct (er (.inl rfl) rfl rfl ?_)))))))))
     refine Ret.mk hle180 (hO.forget) (congrArg Value.bool ?_)
     generalize (nth s.code.val.code at_.toNat) = x at *; first | (have h_1 := all_bad (s := s) (x := x) (k := k) (by omega) (by assumption); simp [insB, h_1]; done) | (have h_1 := all_done hreg (by omega); simp_all [insB, insZ]; done) | (simp_all [insB, insA]; done) | grind [insB, insA, insZ]
    have h242 : ¬ ((nth s.code.val.code at_.toNat).b = 0) := oq h240
    refine ry hO rfl (ek (by rw [h240]; rfl)) (ry hO rfl (ek (by rw [h240]; rfl)) (ry hO rfl (ek (by rw [h240]; rfl)) (ry hO rfl (pf tz (by rw [h240]; rfl) rfl) (as_ hO rfl rfl (rj (ez (E' := [(4, .bool false)]) ⟨rfl, tz⟩ (et (ct (er (.inl rfl) rfl rfl ?_)))))))))
    refine Ret.mk hle180 (hO.forget) (congrArg Value.bool ?_)
    generalize (nth s.code.val.code at_.toNat) = x at *; first | (have h_1 := all_bad (s := s) (x := x) (k := k) (by omega) (by assumption); simp [insB, h_1]; done) | (have h_1 := all_done hreg (by omega); simp_all [insB, insZ]; done) | (simp_all [insB, insA]; done) | grind [insB, insA, insZ]
   have h243 : ¬ ((nth s.code.val.code at_.toNat).kind = 2) := oq h237
   refine cq (cr (ry hO rfl (ye tz rfl rfl) (as_ hO rfl rfl (rj (et (cd rfl (fun h244 => ?_) (fun h244 => ?_)))))))
   ·
    have h245 : (nth s.code.val.code at_.toNat).kind = 5 := ot h244
    refine cp (et (cv (by rw [h244]; rfl) (cx (eh (ep (by decide) (eh (ej (et (cq ?_)))))))))
    refine cr (fb 2 tf_38_2 rfl hO rfl rfl (rd' tz (oo (vs := [.int .i64 0]) hO tn_3 rfl rfl rfl (nb rfl) rfl rfl (fun w246 hO => ?_))))
    have hO : Own _ M177 ([(b22, .cells #[.int .i64 ((nth s.code.val.code at_.toNat).kind), .int .i64 0, .int .i64 0, .int .i64 ((nth s.code.val.code at_.toNat).b), .int .i64 ((nth s.code.val.code at_.toNat).k), .slice b18 (((nth s.code.val.code at_.toNat).args).length) c19, .int .i64 ((nth s.code.val.code at_.toNat).cost), .int .i64 ((nth s.code.val.code at_.toNat).mt), .int .i64 ((nth s.code.val.code at_.toNat).pc)] 38)] ++ bs) := hO
    refine rj (et (cx (ej (et (cq (cr (fb 1 tf_38_1 rfl hO rfl rfl (ry hO rfl (yl tl_3 tz rfl (fun _ h => ob h 0 1 rfl rfl)) (ry hO rfl (ye tz rfl rfl) ?_)))))))))
    refine mv hO rfl rfl (ry hO rfl (yf 2 tf_38_2 rfl (by rw [(by decide : (decide ((0 : Int) = (0 : Int))) = true)]; rfl) rfl) (ry hO rfl (yl tl_3 (by rw [(by decide : (decide ((0 : Int) = (0 : Int))) = true)]; rfl) rfl (fun _ h => ob h 0 2 rfl rfl)) (ry hO rfl (ye (by rw [(by decide : (decide ((0 : Int) = (0 : Int))) = true)]; rfl) rfl rfl) (ry hO rfl (pt tz (by rw [(by decide : (decide ((0 : Int) = (0 : Int))) = true)]; rfl) rfl) (mv hO rfl rfl (ry hO rfl (yf 3 tf_38_3 rfl (by rw [(by decide : (decide ((0 : Int) = (0 : Int))) = true)]; rfl) rfl) (ry hO rfl (yl tl_3 (by rw [(by decide : (decide ((0 : Int) = (0 : Int))) = true)]; rfl) rfl (fun _ h => ob h 0 3 rfl rfl)) (ry hO rfl (ye (by rw [(by decide : (decide ((0 : Int) = (0 : Int))) = true)]; rfl) rfl rfl) (ry hO rfl (pt tz (by rw [(by decide : (decide ((0 : Int) = (0 : Int))) = true)]; rfl) rfl) ?_)))))))))
    refine mv hO rfl rfl ?_
    rcases bt (decide ((nth s.code.val.code at_.toNat).b = 0)) with h247 | h247
    ·
     have h248 : (nth s.code.val.code at_.toNat).b = 0 := ot h247
     refine ry hO rfl (yf 7 tf_38_7 rfl (by rw [h247]; rfl) rfl) (ry hO rfl (yl tl_3 (by rw [h247]; rfl) rfl (fun _ h => ob h 0 7 rfl rfl)) (ry hO rfl (ye (by rw [h247]; rfl) rfl rfl) (ry hO rfl (pt tz (by rw [h247]; rfl) rfl) (as_ hO rfl rfl (rj (ez (E' := [(4, .bool (decide ((nth s.code.val.code at_.toNat).mt = 0)))]) ⟨rfl, tz⟩ (et (ct (er (.inl rfl) rfl rfl ?_)))))))))
     refine Ret.mk hle180 (hO.forget) (congrArg Value.bool ?_)
     generalize (nth s.code.val.code at_.toNat) = x at *; first | (have h_1 := all_bad (s := s) (x := x) (k := k) (by omega) (by assumption); simp [insB, h_1]; done) | (have h_1 := all_done hreg (by omega); simp_all [insB, insZ]; done) | (simp_all [insB, insA]; done) | grind [insB, insA, insZ]
    have h249 : ¬ ((nth s.code.val.code at_.toNat).b = 0) := oq h247
    refine ry hO rfl (ek (by rw [h247]; rfl)) (ry hO rfl (ek (by rw [h247]; rfl)) (ry hO rfl (ek (by rw [h247]; rfl)) (ry hO rfl (pf tz (by rw [h247]; rfl) rfl) (as_ hO rfl rfl (rj (ez (E' := [(4, .bool false)]) ⟨rfl, tz⟩ (et (ct (er (.inl rfl) rfl rfl ?_)))))))))
    refine Ret.mk hle180 (hO.forget) (congrArg Value.bool ?_)
    generalize (nth s.code.val.code at_.toNat) = x at *; first | (have h_1 := all_bad (s := s) (x := x) (k := k) (by omega) (by assumption); simp [insB, h_1]; done) | (have h_1 := all_done hreg (by omega); simp_all [insB, insZ]; done) | (simp_all [insB, insA]; done) | grind [insB, insA, insZ]
   have h250 : ¬ ((nth s.code.val.code at_.toNat).kind = 5) := oq h244
   refine cq (cr (ry hO rfl (ye tz rfl rfl) (as_ hO rfl rfl (rj (et (cd rfl (fun h251 => ?_) (fun h251 => ?_)))))))
   ·
    have h252 : (nth s.code.val.code at_.toNat).kind = 7 := ot h251
    refine cp (et (cv (by rw [h251]; rfl) (cx (eh (ep (by decide) (eh (ej (et (cq ?_)))))))))
    refine cr (fb 2 tf_38_2 rfl hO rfl rfl (rd' tz (oo (vs := [.int .i64 0]) hO tn_3 rfl rfl rfl (nb rfl) rfl rfl (fun w253 hO => ?_))))
    have hO : Own _ M177 ([(b22, .cells #[.int .i64 ((nth s.code.val.code at_.toNat).kind), .int .i64 0, .int .i64 0, .int .i64 ((nth s.code.val.code at_.toNat).b), .int .i64 ((nth s.code.val.code at_.toNat).k), .slice b18 (((nth s.code.val.code at_.toNat).args).length) c19, .int .i64 ((nth s.code.val.code at_.toNat).cost), .int .i64 ((nth s.code.val.code at_.toNat).mt), .int .i64 ((nth s.code.val.code at_.toNat).pc)] 38)] ++ bs) := hO
    refine rj (et (cx (ej (et (cq (cr (fb 1 tf_38_1 rfl hO rfl rfl (ry hO rfl (yl tl_3 tz rfl (fun _ h => ob h 0 1 rfl rfl)) (ry hO rfl (ye tz rfl rfl) ?_)))))))))
    refine mv hO rfl rfl (ry hO rfl (yf 2 tf_38_2 rfl (by rw [(by decide : (decide ((0 : Int) = (0 : Int))) = true)]; rfl) rfl) (ry hO rfl (yl tl_3 (by rw [(by decide : (decide ((0 : Int) = (0 : Int))) = true)]; rfl) rfl (fun _ h => ob h 0 2 rfl rfl)) (ry hO rfl (ye (by rw [(by decide : (decide ((0 : Int) = (0 : Int))) = true)]; rfl) rfl rfl) (ry hO rfl (pt tz (by rw [(by decide : (decide ((0 : Int) = (0 : Int))) = true)]; rfl) rfl) (mv hO rfl rfl (ry hO rfl (yf 3 tf_38_3 rfl (by rw [(by decide : (decide ((0 : Int) = (0 : Int))) = true)]; rfl) rfl) (ry hO rfl (yl tl_3 (by rw [(by decide : (decide ((0 : Int) = (0 : Int))) = true)]; rfl) rfl (fun _ h => ob h 0 3 rfl rfl)) (ry hO rfl (ye (by rw [(by decide : (decide ((0 : Int) = (0 : Int))) = true)]; rfl) rfl rfl) (ry hO rfl (pt tz (by rw [(by decide : (decide ((0 : Int) = (0 : Int))) = true)]; rfl) rfl) ?_)))))))))
    refine mv hO rfl rfl ?_
    rcases bt (decide ((nth s.code.val.code at_.toNat).b = 0)) with h254 | h254
    ·
     have h255 : (nth s.code.val.code at_.toNat).b = 0 := ot h254
     refine ry hO rfl (yf 7 tf_38_7 rfl (by rw [h254]; rfl) rfl) (ry hO rfl (yl tl_3 (by rw [h254]; rfl) rfl (fun _ h => ob h 0 7 rfl rfl)) (ry hO rfl (ye (by rw [h254]; rfl) rfl rfl) (ry hO rfl (pt tz (by rw [h254]; rfl) rfl) (as_ hO rfl rfl (rj (ez (E' := [(4, .bool (decide ((nth s.code.val.code at_.toNat).mt = 0)))]) ⟨rfl, tz⟩ (et (ct (er (.inl rfl) rfl rfl ?_)))))))))
     refine Ret.mk hle180 (hO.forget) (congrArg Value.bool ?_)
     generalize (nth s.code.val.code at_.toNat) = x at *; first | (have h_1 := all_bad (s := s) (x := x) (k := k) (by omega) (by assumption); simp [insB, h_1]; done) | (have h_1 := all_done hreg (by omega); simp_all [insB, insZ]; done) | (simp_all [insB, insA]; done) | grind [insB, insA, insZ]
    have h256 : ¬ ((nth s.code.val.code at_.toNat).b = 0) := oq h254
    refine ry hO rfl (ek (by rw [h254]; rfl)) (ry hO rfl (ek (by rw [h254]; rfl)) (ry hO rfl (ek (by rw [h254]; rfl)) (ry hO rfl (pf tz (by rw [h254]; rfl) rfl) (as_ hO rfl rfl (rj (ez (E' := [(4, .bool false)]) ⟨rfl, tz⟩ (et (ct (er (.inl rfl) rfl rfl ?_)))))))))
    refine Ret.mk hle180 (hO.forget) (congrArg Value.bool ?_)
    generalize (nth s.code.val.code at_.toNat) = x at *; first | (have h_1 := all_bad (s := s) (x := x) (k := k) (by omega) (by assumption); simp [insB, h_1]; done) | (have h_1 := all_done hreg (by omega); simp_all [insB, insZ]; done) | (simp_all [insB, insA]; done) | grind [insB, insA, insZ]
   have h257 : ¬ ((nth s.code.val.code at_.toNat).kind = 7) := oq h251
   refine cr (ry hO rfl (ye tz rfl rfl) (as_ hO rfl rfl (rj (et (cd rfl (fun h258 => ?_) (fun h258 => ?_))))))
   ·
    have h259 : (nth s.code.val.code at_.toNat).kind = 8 := ot h258
    refine cx (eh (ep (by decide) (eh (ej (et (cq (cr (fb 2 tf_38_2 rfl hO rfl rfl (rd' tz (oo (vs := [.int .i64 0]) hO tn_3 rfl rfl rfl (nb rfl) rfl rfl (fun w260 hO => ?_)))))))))))
    have hO : Own _ M177 ([(b22, .cells #[.int .i64 ((nth s.code.val.code at_.toNat).kind), .int .i64 0, .int .i64 0, .int .i64 ((nth s.code.val.code at_.toNat).b), .int .i64 ((nth s.code.val.code at_.toNat).k), .slice b18 (((nth s.code.val.code at_.toNat).args).length) c19, .int .i64 ((nth s.code.val.code at_.toNat).cost), .int .i64 ((nth s.code.val.code at_.toNat).mt), .int .i64 ((nth s.code.val.code at_.toNat).pc)] 38)] ++ bs) := hO
    refine rj (et (cx (ej (et (cq (cr (fb 1 tf_38_1 rfl hO rfl rfl (ry hO rfl (yl tl_3 tz rfl (fun _ h => ob h 0 1 rfl rfl)) (ry hO rfl (ye tz rfl rfl) ?_)))))))))
    refine mv hO rfl rfl (ry hO rfl (yf 2 tf_38_2 rfl (by rw [(by decide : (decide ((0 : Int) = (0 : Int))) = true)]; rfl) rfl) (ry hO rfl (yl tl_3 (by rw [(by decide : (decide ((0 : Int) = (0 : Int))) = true)]; rfl) rfl (fun _ h => ob h 0 2 rfl rfl)) (ry hO rfl (ye (by rw [(by decide : (decide ((0 : Int) = (0 : Int))) = true)]; rfl) rfl rfl) (ry hO rfl (pt tz (by rw [(by decide : (decide ((0 : Int) = (0 : Int))) = true)]; rfl) rfl) (mv hO rfl rfl (ry hO rfl (yf 3 tf_38_3 rfl (by rw [(by decide : (decide ((0 : Int) = (0 : Int))) = true)]; rfl) rfl) (ry hO rfl (yl tl_3 (by rw [(by decide : (decide ((0 : Int) = (0 : Int))) = true)]; rfl) rfl (fun _ h => ob h 0 3 rfl rfl)) (ry hO rfl (ye (by rw [(by decide : (decide ((0 : Int) = (0 : Int))) = true)]; rfl) rfl rfl) (ry hO rfl (pt tz (by rw [(by decide : (decide ((0 : Int) = (0 : Int))) = true)]; rfl) rfl) ?_)))))))))
    refine mv hO rfl rfl ?_
    rcases bt (decide ((nth s.code.val.code at_.toNat).b = 0)) with h261 | h261
    ·
     have h262 : (nth s.code.val.code at_.toNat).b = 0 := ot h261
     refine ry hO rfl (yf 7 tf_38_7 rfl (by rw [h261]; rfl) rfl) (ry hO rfl (yl tl_3 (by rw [h261]; rfl) rfl (fun _ h => ob h 0 7 rfl rfl)) (ry hO rfl (ye (by rw [h261]; rfl) rfl rfl) (ry hO rfl (pt tz (by rw [h261]; rfl) rfl) (as_ hO rfl rfl (rj (ez (E' := [(4, .bool (decide ((nth s.code.val.code at_.toNat).mt = 0)))]) ⟨rfl, tz⟩ (et (ct (er (.inl rfl) rfl rfl ?_)))))))))
     refine Ret.mk hle180 (hO.forget) (congrArg Value.bool ?_)
     generalize (nth s.code.val.code at_.toNat) = x at *; first | (have h_1 := all_bad (s := s) (x := x) (k := k) (by omega) (by assumption); simp [insB, h_1]; done) | (have h_1 := all_done hreg (by omega); simp_all [insB, insZ]; done) | (simp_all [insB, insA]; done) | grind [insB, insA, insZ]
    have h263 : ¬ ((nth s.code.val.code at_.toNat).b = 0) := oq h261
    refine ry hO rfl (ek (by rw [h261]; rfl)) (ry hO rfl (ek (by rw [h261]; rfl)) (ry hO rfl (ek (by rw [h261]; rfl)) (ry hO rfl (pf tz (by rw [h261]; rfl) rfl) (as_ hO rfl rfl (rj (ez (E' := [(4, .bool false)]) ⟨rfl, tz⟩ (et (ct (er (.inl rfl) rfl rfl ?_)))))))))
    refine Ret.mk hle180 (hO.forget) (congrArg Value.bool ?_)
    generalize (nth s.code.val.code at_.toNat) = x at *; first | (have h_1 := all_bad (s := s) (x := x) (k := k) (by omega) (by assumption); simp [insB, h_1]; done) | (have h_1 := all_done hreg (by omega); simp_all [insB, insZ]; done) | (simp_all [insB, insA]; done) | grind [insB, insA, insZ]
   have h264 : ¬ ((nth s.code.val.code at_.toNat).kind = 8) := oq h258
   refine cp (et (cx (ep (by decide) (eh (ep (by decide) (eh (ej (et (cq ?_)))))))))
   refine cr (fb 1 tf_38_1 rfl hO rfl rfl (ry hO rfl (yl tl_3 tz rfl (fun _ h => ob h 0 1 rfl rfl)) (ry hO rfl (ye tz rfl rfl) (mv hO rfl rfl (ry hO rfl (yf 2 tf_38_2 rfl (by rw [(by decide : (decide ((0 : Int) = (0 : Int))) = true)]; rfl) rfl) (ry hO rfl (yl tl_3 (by rw [(by decide : (decide ((0 : Int) = (0 : Int))) = true)]; rfl) rfl (fun _ h => ob h 0 2 rfl rfl)) (ry hO rfl (ye (by rw [(by decide : (decide ((0 : Int) = (0 : Int))) = true)]; rfl) rfl rfl) (ry hO rfl (pt tz (by rw [(by decide : (decide ((0 : Int) = (0 : Int))) = true)]; rfl) rfl) (mv hO rfl rfl ?_)))))))))
   rcases bt (decide ((nth s.code.val.code at_.toNat).a = 0)) with h265 | h265
   ·
    have h266 : (nth s.code.val.code at_.toNat).a = 0 := ot h265
    refine ry hO rfl (yf 3 tf_38_3 rfl (by rw [h265]; rfl) rfl) (ry hO rfl (yl tl_3 (by rw [h265]; rfl) rfl (fun _ h => ob h 0 3 rfl rfl)) (ry hO rfl (ye (by rw [h265]; rfl) rfl rfl) (ry hO rfl (pt tz (by rw [h265]; rfl) rfl) (mv hO rfl rfl ?_))))
    rcases bt (decide ((nth s.code.val.code at_.toNat).b = 0)) with h267 | h267
    ·
     have h268 : (nth s.code.val.code at_.toNat).b = 0 := ot h267
     refine ry hO rfl (yf 7 tf_38_7 rfl (by rw [h267]; rfl) rfl) (ry hO rfl (yl tl_3 (by rw [h267]; rfl) rfl (fun _ h => ob h 0 7 rfl rfl)) (ry hO rfl (ye (by rw [h267]; rfl) rfl rfl) (ry hO rfl (pt tz (by rw [h267]; rfl) rfl) (as_ hO rfl rfl (rj (ez (E' := [(4, .bool (decide ((nth s.code.val.code at_.toNat).mt = 0)))]) ⟨rfl, tz⟩ (et (ct (er (.inl rfl) rfl rfl ?_)))))))))
     refine Ret.mk hle180 (hO.forget) (congrArg Value.bool ?_)
     generalize (nth s.code.val.code at_.toNat) = x at *; first | (have h_1 := all_bad (s := s) (x := x) (k := k) (by omega) (by assumption); simp [insB, h_1]; done) | (have h_1 := all_done hreg (by omega); simp_all [insB, insZ]; done) | (simp_all [insB, insA]; done) | grind [insB, insA, insZ]
    have h269 : ¬ ((nth s.code.val.code at_.toNat).b = 0) := oq h267
    refine ry hO rfl (ek (by rw [h267]; rfl)) (ry hO rfl (ek (by rw [h267]; rfl)) (ry hO rfl (ek (by rw [h267]; rfl)) (ry hO rfl (pf tz (by rw [h267]; rfl) rfl) (as_ hO rfl rfl (rj (ez (E' := [(4, .bool false)]) ⟨rfl, tz⟩ (et (ct (er (.inl rfl) rfl rfl ?_)))))))))
    refine Ret.mk hle180 (hO.forget) (congrArg Value.bool ?_)
    generalize (nth s.code.val.code at_.toNat) = x at *; first | (have h_1 := all_bad (s := s) (x := x) (k := k) (by omega) (by assumption); simp [insB, h_1]; done) | (have h_1 := all_done hreg (by omega); simp_all [insB, insZ]; done) | (simp_all [insB, insA]; done) | grind [insB, insA, insZ]
   have h270 : ¬ ((nth s.code.val.code at_.toNat).a = 0) := oq h265
   refine ry hO rfl (ek (by rw [h265]; rfl)) (ry hO rfl (ek (by rw [h265]; rfl)) (ry hO rfl (ek (by rw [h265]; rfl)) (ry hO rfl (pf tz (by rw [h265]; rfl) rfl) (mv hO rfl rfl (ry hO rfl (ek rfl) (ry hO rfl (ek rfl) (ry hO rfl (ek rfl) (ry hO rfl (pf tz rfl rfl) (as_ hO rfl rfl ?_)))))))))
   refine rj (ez (E' := [(4, .bool false)]) ⟨rfl, tz⟩ (et (ct (er (.inl rfl) rfl rfl ?_))))
   refine Ret.mk hle180 (hO.forget) (congrArg Value.bool ?_)
   generalize (nth s.code.val.code at_.toNat) = x at *; first | (have h_1 := all_bad (s := s) (x := x) (k := k) (by omega) (by assumption); simp [insB, h_1]; done) | (have h_1 := all_done hreg (by omega); simp_all [insB, insZ]; done) | (simp_all [insB, insA]; done) | grind [insB, insA, insZ]
  refine cp (et (cq (cq (cr (fb 0 tf_38_0 rfl hO rfl rfl (lc tl_3 at145 0 rfl hO rfl rfl (rd' tz (oc (vs := [.int .i64 ((nth s.code.val.code at_.toNat).kind)]) tcall_33 rfl rfl (c_Leaves ((nth s.code.val.code at_.toNat).kind)  hO) ?_))))))))
  rintro _ w271 ⟨M272, _, le273, hO, rfl, rfl⟩
  refine ⟨_, rfl, ?_⟩
  have h274 := h134.mono le273
  have at275 := at135.mono le273
  have q276 := q136.mono le273
  have at277 := at137.mono le273
  have s278 := s138.mono le273
  have s279 := s139.mono le273
  have q280 := q140.mono le273
  have s281 := s141.mono le273
  have s282 := s142.mono le273
  have s283 := s143.mono le273
  have hk284 := hk144.mono le273
  have at285 := at145.mono le273
  have hle286 := m_ hle146 le273
  have ch287 := m_ ch147 le273
  have kl288 := m_ kl148 le273
  refine rj (et (cd rfl (fun h289 => ?_) (fun h289 => ?_)))
  ·
   refine cr (fb 7 tf_38_7 rfl hO rfl rfl ?_)
   obtain ⟨M291, le292, hO⟩ := Own.unkeeps hO hk284 hn28 hd29 kl288
   have h293 := h_s.mono le292
   have at294 := at8.mono le292
   have q295 := q2.mono le292
   have at296 := at15.mono le292
   have s297 := s11.mono le292
   have s298 := s14.mono le292
   have q299 := q4.mono le292
   have s300 := s7.mono le292
   have s301 := s20.mono le292
   have hle302 := le292
   refine rd' tz (oo (vs := [.int .i64 0]) hO tn_3 rfl rfl rfl (nb rfl) rfl rfl (fun w290 hO => ?_))
   have hO : Own _ M291 ([(b22, .cells #[.int .i64 ((nth s.code.val.code at_.toNat).kind), .int .i64 ((nth s.code.val.code at_.toNat).r), .int .i64 ((nth s.code.val.code at_.toNat).a), .int .i64 ((nth s.code.val.code at_.toNat).b), .int .i64 ((nth s.code.val.code at_.toNat).k), .slice b18 (((nth s.code.val.code at_.toNat).args).length) c19, .int .i64 ((nth s.code.val.code at_.toNat).cost), .int .i64 0, .int .i64 ((nth s.code.val.code at_.toNat).pc)] 38)] ++ bs) := hO
   refine rj (et (cq (cq (cr (fb 0 tf_38_0 rfl hO rfl rfl (ry hO rfl (yl tl_3 tz rfl (fun _ h => ob h 0 0 rfl rfl)) (rj (ez (E' := [(5, .pointer (some ⟨b22, 0, none⟩)), (108, .int .i64 ((nth s.code.val.code at_.toNat).kind))]) ⟨rfl, rfl, tz⟩ (et ?_)))))))))
   refine cb (cq (cb (cq (cb (cq (cq (cq (cq (cr ?_)))))))))
   refine ry hO rfl (ye tz rfl rfl) (as_ hO rfl rfl (rj (et (cd rfl (fun h303 => ?_) (fun h303 => ?_)))))
   ·
    have h304 : (nth s.code.val.code at_.toNat).kind = 3 := ot h303
    refine cp (et (cv (by rw [h303]; rfl) (cx (eh (eh (ej (et (cr (fb 3 tf_38_3 rfl hO rfl rfl ?_)))))))))
    refine rd' tz (oo (vs := [.int .i64 0]) hO tn_3 rfl rfl rfl (nb rfl) rfl rfl (fun w305 hO => ?_))
    have hO : Own _ M291 ([(b22, .cells #[.int .i64 ((nth s.code.val.code at_.toNat).kind), .int .i64 ((nth s.code.val.code at_.toNat).r), .int .i64 ((nth s.code.val.code at_.toNat).a), .int .i64 0, .int .i64 ((nth s.code.val.code at_.toNat).k), .slice b18 (((nth s.code.val.code at_.toNat).args).length) c19, .int .i64 ((nth s.code.val.code at_.toNat).cost), .int .i64 0, .int .i64 ((nth s.code.val.code at_.toNat).pc)] 38)] ++ bs) := hO
    refine rj (ek' (et (cq (cr (fb 2 tf_38_2 rfl hO rfl rfl (rd' tz (oo (vs := [.int .i64 0]) hO tn_3 rfl rfl rfl (nb rfl) rfl rfl (fun w306 hO => ?_))))))))
    have hO : Own _ M291 ([(b22, .cells #[.int .i64 ((nth s.code.val.code at_.toNat).kind), .int .i64 ((nth s.code.val.code at_.toNat).r), .int .i64 0, .int .i64 0, .int .i64 ((nth s.code.val.code at_.toNat).k), .slice b18 (((nth s.code.val.code at_.toNat).args).length) c19, .int .i64 ((nth s.code.val.code at_.toNat).cost), .int .i64 0, .int .i64 ((nth s.code.val.code at_.toNat).pc)] 38)] ++ bs) := hO
    refine rj (et (cx (ej (et (cq (cr (fb 1 tf_38_1 rfl hO rfl rfl (ry hO rfl (yl tl_3 tz rfl (fun _ h => ob h 0 1 rfl rfl)) (ry hO rfl (ye tz rfl rfl) ?_)))))))))
    refine mv hO rfl rfl ?_
    rcases bt (decide ((nth s.code.val.code at_.toNat).r = 0)) with h307 | h307
    ·
     have h308 : (nth s.code.val.code at_.toNat).r = 0 := ot h307
     refine ry hO rfl (yf 2 tf_38_2 rfl (by rw [h307]; rfl) rfl) (ry hO rfl (yl tl_3 (by rw [h307]; rfl) rfl (fun _ h => ob h 0 2 rfl rfl)) (ry hO rfl (ye (by rw [h307]; rfl) rfl rfl) (ry hO rfl (pt tz (by rw [h307]; rfl) rfl) (mv hO rfl rfl (ry hO rfl (yf 3 tf_38_3 rfl (by rw [(by decide : (decide ((0 : Int) = (0 : Int))) = true)]; rfl) rfl) (ry hO rfl (yl tl_3 (by rw [(by decide : (decide ((0 : Int) = (0 : Int))) = true)]; rfl) rfl (fun _ h => ob h 0 3 rfl rfl)) (ry hO rfl (ye (by rw [(by decide : (decide ((0 : Int) = (0 : Int))) = true)]; rfl) rfl rfl) (ry hO rfl (pt tz (by rw [(by decide : (decide ((0 : Int) = (0 : Int))) = true)]; rfl) rfl) (mv hO rfl rfl ?_)))))))))
     refine ry hO rfl (yf 7 tf_38_7 rfl (by rw [(by decide : (decide ((0 : Int) = (0 : Int))) = true)]; rfl) rfl) (ry hO rfl (yl tl_3 (by rw [(by decide : (decide ((0 : Int) = (0 : Int))) = true)]; rfl) rfl (fun _ h => ob h 0 7 rfl rfl)) (ry hO rfl (ye (by rw [(by decide : (decide ((0 : Int) = (0 : Int))) = true)]; rfl) rfl rfl) (ry hO rfl (pt tz (by rw [(by decide : (decide ((0 : Int) = (0 : Int))) = true)]; rfl) rfl) (as_ hO rfl rfl (rj (ez (E' := [(4, .bool (decide (0 = 0)))]) ⟨rfl, tz⟩ (et (ct (er (.inl rfl) rfl rfl ?_)))))))))
     refine Ret.mk hle302 (hO.forget) (congrArg Value.bool ?_)
     generalize (nth s.code.val.code at_.toNat) = x at *; first | (have h_1 := all_bad (s := s) (x := x) (k := k) (by omega) (by assumption); simp [insB, h_1]; done) | (have h_1 := all_done hreg (by omega); simp_all [insB, insZ]; done) | (simp_all [insB, insA]; done) | grind [insB, insA, insZ]
    have h309 : ¬ ((nth s.code.val.code at_.toNat).r = 0) := oq h307
    refine ry hO rfl (ek (by rw [h307]; rfl)) (ry hO rfl (ek (by rw [h307]; rfl)) (ry hO rfl (ek (by rw [h307]; rfl)) (ry hO rfl (pf tz (by rw [h307]; rfl) rfl) (mv hO rfl rfl (ry hO rfl (ek rfl) (ry hO rfl (ek rfl) (ry hO rfl (ek rfl) (ry hO rfl (pf tz rfl rfl) (mv hO rfl rfl ?_)))))))))
    refine ry hO rfl (ek rfl) (ry hO rfl (ek rfl) (ry hO rfl (ek rfl) (ry hO rfl (pf tz rfl rfl) (as_ hO rfl rfl (rj (ez (E' := [(4, .bool false)]) ⟨rfl, tz⟩ (et (ct (er (.inl rfl) rfl rfl ?_)))))))))
    refine Ret.mk hle302 (hO.forget) (congrArg Value.bool ?_)
    generalize (nth s.code.val.code at_.toNat) = x at *; first | (have h_1 := all_bad (s := s) (x := x) (k := k) (by omega) (by assumption); simp [insB, h_1]; done) | (have h_1 := all_done hreg (by omega); simp_all [insB, insZ]; done) | (simp_all [insB, insA]; done) | grind [insB, insA, insZ]
   have h310 : ¬ ((nth s.code.val.code at_.toNat).kind = 3) := oq h303
   refine cr (ry hO rfl (ye tz rfl rfl) (as_ hO rfl rfl (rj (et (cd rfl (fun h311 => ?_) (fun h311 => ?_))))))
   ·
    have h312 : (nth s.code.val.code at_.toNat).kind = 9 := ot h311
    refine cx (eh (eh (ej (et (cr (fb 3 tf_38_3 rfl hO rfl rfl (rd' tz (oo (vs := [.int .i64 0]) hO tn_3 rfl rfl rfl (nb rfl) rfl rfl (fun w313 hO => ?_)))))))))
    have hO : Own _ M291 ([(b22, .cells #[.int .i64 ((nth s.code.val.code at_.toNat).kind), .int .i64 ((nth s.code.val.code at_.toNat).r), .int .i64 ((nth s.code.val.code at_.toNat).a), .int .i64 0, .int .i64 ((nth s.code.val.code at_.toNat).k), .slice b18 (((nth s.code.val.code at_.toNat).args).length) c19, .int .i64 ((nth s.code.val.code at_.toNat).cost), .int .i64 0, .int .i64 ((nth s.code.val.code at_.toNat).pc)] 38)] ++ bs) := hO
    refine rj (ek' (et (cq (cr (fb 2 tf_38_2 rfl hO rfl rfl (rd' tz (oo (vs := [.int .i64 0]) hO tn_3 rfl rfl rfl (nb rfl) rfl rfl (fun w314 hO => ?_))))))))
    have hO : Own _ M291 ([(b22, .cells #[.int .i64 ((nth s.code.val.code at_.toNat).kind), .int .i64 ((nth s.code.val.code at_.toNat).r), .int .i64 0, .int .i64 0, .int .i64 ((nth s.code.val.code at_.toNat).k), .slice b18 (((nth s.code.val.code at_.toNat).args).length) c19, .int .i64 ((nth s.code.val.code at_.toNat).cost), .int .i64 0, .int .i64 ((nth s.code.val.code at_.toNat).pc)] 38)] ++ bs) := hO
    refine rj (et (cx (ej (et (cq (cr (fb 1 tf_38_1 rfl hO rfl rfl (ry hO rfl (yl tl_3 tz rfl (fun _ h => ob h 0 1 rfl rfl)) (ry hO rfl (ye tz rfl rfl) ?_)))))))))
    refine mv hO rfl rfl ?_
    rcases bt (decide ((nth s.code.val.code at_.toNat).r = 0)) with h315 | h315
    ·
     have h316 : (nth s.code.val.code at_.toNat).r = 0 := ot h315
     refine ry hO rfl (yf 2 tf_38_2 rfl (by rw [h315]; rfl) rfl) (ry hO rfl (yl tl_3 (by rw [h315]; rfl) rfl (fun _ h => ob h 0 2 rfl rfl)) (ry hO rfl (ye (by rw [h315]; rfl) rfl rfl) (ry hO rfl (pt tz (by rw [h315]; rfl) rfl) (mv hO rfl rfl (ry hO rfl (yf 3 tf_38_3 rfl (by rw [(by decide : (decide ((0 : Int) = (0 : Int))) = true)]; rfl) rfl) (ry hO rfl (yl tl_3 (by rw [(by decide : (decide ((0 : Int) = (0 : Int))) = true)]; rfl) rfl (fun _ h => ob h 0 3 rfl rfl)) (ry hO rfl (ye (by rw [(by decide : (decide ((0 : Int) = (0 : Int))) = true)]; rfl) rfl rfl) (ry hO rfl (pt tz (by rw [(by decide : (decide ((0 : Int) = (0 : Int))) = true)]; rfl) rfl) (mv hO rfl rfl ?_)))))))))
     refine ry hO rfl (yf 7 tf_38_7 rfl (by rw [(by decide : (decide ((0 : Int) = (0 : Int))) = true)]; rfl) rfl) (ry hO rfl (yl tl_3 (by rw [(by decide : (decide ((0 : Int) = (0 : Int))) = true)]; rfl) rfl (fun _ h => ob h 0 7 rfl rfl)) (ry hO rfl (ye (by rw [(by decide : (decide ((0 : Int) = (0 : Int))) = true)]; rfl) rfl rfl) (ry hO rfl (pt tz (by rw [(by decide : (decide ((0 : Int) = (0 : Int))) = true)]; rfl) rfl) (as_ hO rfl rfl (rj (ez (E' := [(4, .bool (decide (0 = 0)))]) ⟨rfl, tz⟩ (et (ct (er (.inl rfl) rfl rfl ?_)))))))))
     refine Ret.mk hle302 (hO.forget) (congrArg Value.bool ?_)
     generalize (nth s.code.val.code at_.toNat) = x at *; first | (have h_1 := all_bad (s := s) (x := x) (k := k) (by omega) (by assumption); simp [insB, h_1]; done) | (have h_1 := all_done hreg (by omega); simp_all [insB, insZ]; done) | (simp_all [insB, insA]; done) | grind [insB, insA, insZ]
    have h317 : ¬ ((nth s.code.val.code at_.toNat).r = 0) := oq h315
    refine ry hO rfl (ek (by rw [h315]; rfl)) (ry hO rfl (ek (by rw [h315]; rfl)) (ry hO rfl (ek (by rw [h315]; rfl)) (ry hO rfl (pf tz (by rw [h315]; rfl) rfl) (mv hO rfl rfl (ry hO rfl (ek rfl) (ry hO rfl (ek rfl) (ry hO rfl (ek rfl) (ry hO rfl (pf tz rfl rfl) (mv hO rfl rfl ?_)))))))))
    refine ry hO rfl (ek rfl) (ry hO rfl (ek rfl) (ry hO rfl (ek rfl) (ry hO rfl (pf tz rfl rfl) (as_ hO rfl rfl (rj (ez (E' := [(4, .bool false)]) ⟨rfl, tz⟩ (et (ct (er (.inl rfl) rfl rfl ?_)))))))))
    refine Ret.mk hle302 (hO.forget) (congrArg Value.bool ?_)
    generalize (nth s.code.val.code at_.toNat) = x at *; first | (have h_1 := all_bad (s := s) (x := x) (k := k) (by omega) (by assumption); simp [insB, h_1]; done) | (have h_1 := all_done hreg (by omega); simp_all [insB, insZ]; done) | (simp_all [insB, insA]; done) | grind [insB, insA, insZ]
   have h318 : ¬ ((nth s.code.val.code at_.toNat).kind = 9) := oq h311
   refine cp (et (cq (cq (cr (ry hO rfl (ye tz rfl rfl) (as_ hO rfl rfl (rj (et (cd rfl (fun h319 => ?_) (fun h319 => ?_))))))))))
   ·
    have h320 : (nth s.code.val.code at_.toNat).kind = 2 := ot h319
    refine cp (et (cv (by rw [h319]; rfl) (cx (eh (ep (by decide) (eh (ej (et (cq ?_)))))))))
    refine cr (fb 2 tf_38_2 rfl hO rfl rfl (rd' tz (oo (vs := [.int .i64 0]) hO tn_3 rfl rfl rfl (nb rfl) rfl rfl (fun w321 hO => ?_))))
    have hO : Own _ M291 ([(b22, .cells #[.int .i64 ((nth s.code.val.code at_.toNat).kind), .int .i64 ((nth s.code.val.code at_.toNat).r), .int .i64 0, .int .i64 ((nth s.code.val.code at_.toNat).b), .int .i64 ((nth s.code.val.code at_.toNat).k), .slice b18 (((nth s.code.val.code at_.toNat).args).length) c19, .int .i64 ((nth s.code.val.code at_.toNat).cost), .int .i64 0, .int .i64 ((nth s.code.val.code at_.toNat).pc)] 38)] ++ bs) := hO
    refine rj (et (cx (ej (et (cq (cr (fb 1 tf_38_1 rfl hO rfl rfl (ry hO rfl (yl tl_3 tz rfl (fun _ h => ob h 0 1 rfl rfl)) (ry hO rfl (ye tz rfl rfl) ?_)))))))))
    refine mv hO rfl rfl ?_
    rcases bt (decide ((nth s.code.val.code at_.toNat).r = 0)) with h322 | h322
    ·
     have h323 : (nth s.code.val.code at_.toNat).r = 0 := ot h322
     refine ry hO rfl (yf 2 tf_38_2 rfl (by rw [h322]; rfl) rfl) (ry hO rfl (yl tl_3 (by rw [h322]; rfl) rfl (fun _ h => ob h 0 2 rfl rfl)) (ry hO rfl (ye (by rw [h322]; rfl) rfl rfl) (ry hO rfl (pt tz (by rw [h322]; rfl) rfl) (mv hO rfl rfl (ry hO rfl (yf 3 tf_38_3 rfl (by rw [(by decide : (decide ((0 : Int) = (0 : Int))) = true)]; rfl) rfl) (ry hO rfl (yl tl_3 (by rw [(by decide : (decide ((0 : Int) = (0 : Int))) = true)]; rfl) rfl (fun _ h => ob h 0 3 rfl rfl)) (ry hO rfl (ye (by rw [(by decide : (decide ((0 : Int) = (0 : Int))) = true)]; rfl) rfl rfl) (ry hO rfl (pt tz (by rw [(by decide : (decide ((0 : Int) = (0 : Int))) = true)]; rfl) rfl) (mv hO rfl rfl ?_)))))))))
     rcases bt (decide ((nth s.code.val.code at_.toNat).b = 0)) with h324 | h324
     ·
      have h325 : (nth s.code.val.code at_.toNat).b = 0 := ot h324
      refine ry hO rfl (yf 7 tf_38_7 rfl (by rw [h324]; rfl) rfl) (ry hO rfl (yl tl_3 (by rw [h324]; rfl) rfl (fun _ h => ob h 0 7 rfl rfl)) (ry hO rfl (ye (by rw [h324]; rfl) rfl rfl) (ry hO rfl (pt tz (by rw [h324]; rfl) rfl) (as_ hO rfl rfl (rj (ez (E' := [(4, .bool (decide (0 = 0)))]) ⟨rfl, tz⟩ (et (ct (er (.inl rfl) rfl rfl ?_)))))))))
      refine Ret.mk hle302 (hO.forget) (congrArg Value.bool ?_)
      generalize (nth s.code.val.code at_.toNat) = x at *; first | (have h_1 := all_bad (s := s) (x := x) (k := k) (by omega) (by assumption); simp [insB, h_1]; done) | (have h_1 := all_done hreg (by omega); simp_all [insB, insZ]; done) | (simp_all [insB, insA]; done) | grind [insB, insA, insZ]
     have h326 : ¬ ((nth s.code.val.code at_.toNat).b = 0) := oq h324
     refine ry hO rfl (ek (by rw [h324]; rfl)) (ry hO rfl (ek (by rw [h324]; rfl)) (ry hO rfl (ek (by rw [h324]; rfl)) (ry hO rfl (pf tz (by rw [h324]; rfl) rfl) (as_ hO rfl rfl (rj (ez (E' := [(4, .bool false)]) ⟨rfl, tz⟩ (et (ct (er (.inl rfl) rfl rfl ?_)))))))))
     refine Ret.mk hle302 (hO.forget) (congrArg Value.bool ?_)
     generalize (nth s.code.val.code at_.toNat) = x at *; first | (have h_1 := all_bad (s := s) (x := x) (k := k) (by omega) (by assumption); simp [insB, h_1]; done) | (have h_1 := all_done hreg (by omega); simp_all [insB, insZ]; done) | (simp_all [insB, insA]; done) | grind [insB, insA, insZ]
    have h327 : ¬ ((nth s.code.val.code at_.toNat).r = 0) := oq h322
    refine ry hO rfl (ek (by rw [h322]; rfl)) (ry hO rfl (ek (by rw [h322]; rfl)) (ry hO rfl (ek (by rw [h322]; rfl)) (ry hO rfl (pf tz (by rw [h322]; rfl) rfl) (mv hO rfl rfl (ry hO rfl (ek rfl) (ry hO rfl (ek rfl) (ry hO rfl (ek rfl) (ry hO rfl (pf tz rfl rfl) (mv hO rfl rfl ?_)))))))))
    refine ry hO rfl (ek rfl) (ry hO rfl (ek rfl) (ry hO rfl (ek rfl) (ry hO rfl (pf tz rfl rfl) (as_ hO rfl rfl (rj (ez (E' := [(4, .bool false)]) ⟨rfl, tz⟩ (et (ct (er (.inl rfl) rfl rfl ?_)))))))))
    refine Ret.mk hle302 (hO.forget) (congrArg Value.bool ?_)
    generalize (nth s.code.val.code at_.toNat) = x at *; first | (have h_1 := all_bad (s := s) (x := x) (k := k) (by omega) (by assumption); simp [insB, h_1]; done) | (have h_1 := all_done hreg (by omega); simp_all [insB, insZ]; done) | (simp_all [insB, insA]; done) | grind [insB, insA, insZ]
   have h328 : ¬ ((nth s.code.val.code at_.toNat).kind = 2) := oq h319
   refine cq (cr (ry hO rfl (ye tz rfl rfl) (as_ hO rfl rfl (rj (et (cd rfl (fun h329 => ?_) (fun h329 => ?_)))))))
   ·
    have h330 : (nth s.code.val.code at_.toNat).kind = 5 := ot h329
    refine cp (et (cv (by rw [h329]; rfl) (cx (eh (ep (by decide) (eh (ej (et (cq ?_)))))))))
    refine cr (fb 2 tf_38_2 rfl hO rfl rfl (rd' tz (oo (vs := [.int .i64 0]) hO tn_3 rfl rfl rfl (nb rfl) rfl rfl (fun w331 hO => ?_))))
    have hO : Own _ M291 ([(b22, .cells #[.int .i64 ((nth s.code.val.code at_.toNat).kind), .int .i64 ((nth s.code.val.code at_.toNat).r), .int .i64 0, .int .i64 ((nth s.code.val.code at_.toNat).b), .int .i64 ((nth s.code.val.code at_.toNat).k), .slice b18 (((nth s.code.val.code at_.toNat).args).length) c19, .int .i64 ((nth s.code.val.code at_.toNat).cost), .int .i64 0, .int .i64 ((nth s.code.val.code at_.toNat).pc)] 38)] ++ bs) := hO
    refine rj (et (cx (ej (et (cq (cr (fb 1 tf_38_1 rfl hO rfl rfl (ry hO rfl (yl tl_3 tz rfl (fun _ h => ob h 0 1 rfl rfl)) (ry hO rfl (ye tz rfl rfl) ?_)))))))))
    refine mv hO rfl rfl ?_
    rcases bt (decide ((nth s.code.val.code at_.toNat).r = 0)) with h332 | h332
    ·
     have h333 : (nth s.code.val.code at_.toNat).r = 0 := ot h332
     refine ry hO rfl (yf 2 tf_38_2 rfl (by rw [h332]; rfl) rfl) (ry hO rfl (yl tl_3 (by rw [h332]; rfl) rfl (fun _ h => ob h 0 2 rfl rfl)) (ry hO rfl (ye (by rw [h332]; rfl) rfl rfl) (ry hO rfl (pt tz (by rw [h332]; rfl) rfl) (mv hO rfl rfl (ry hO rfl (yf 3 tf_38_3 rfl (by rw [(by decide : (decide ((0 : Int) = (0 : Int))) = true)]; rfl) rfl) (ry hO rfl (yl tl_3 (by rw [(by decide : (decide ((0 : Int) = (0 : Int))) = true)]; rfl) rfl (fun _ h => ob h 0 3 rfl rfl)) (ry hO rfl (ye (by rw [(by decide : (decide ((0 : Int) = (0 : Int))) = true)]; rfl) rfl rfl) (ry hO rfl (pt tz (by rw [(by decide : (decide ((0 : Int) = (0 : Int))) = true)]; rfl) rfl) (mv hO rfl rfl ?_)))))))))
     rcases bt (decide ((nth s.code.val.code at_.toNat).b = 0)) with h334 | h334
     ·
      have h335 : (nth s.code.val.code at_.toNat).b = 0 := ot h334
      refine ry hO rfl (yf 7 tf_38_7 rfl (by rw [h334]; rfl) rfl) (ry hO rfl (yl tl_3 (by rw [h334]; rfl) rfl (fun _ h => ob h 0 7 rfl rfl)) (ry hO rfl (ye (by rw [h334]; rfl) rfl rfl) (ry hO rfl (pt tz (by rw [h334]; rfl) rfl) (as_ hO rfl rfl (rj (ez (E' := [(4, .bool (decide (0 = 0)))]) ⟨rfl, tz⟩ (et (ct (er (.inl rfl) rfl rfl ?_)))))))))
      refine Ret.mk hle302 (hO.forget) (congrArg Value.bool ?_)
      generalize (nth s.code.val.code at_.toNat) = x at *; first | (have h_1 := all_bad (s := s) (x := x) (k := k) (by omega) (by assumption); simp [insB, h_1]; done) | (have h_1 := all_done hreg (by omega); simp_all [insB, insZ]; done) | (simp_all [insB, insA]; done) | grind [insB, insA, insZ]
     have h336 : ¬ ((nth s.code.val.code at_.toNat).b = 0) := oq h334
     refine ry hO rfl (ek (by rw [h334]; rfl)) (ry hO rfl (ek (by rw [h334]; rfl)) (ry hO rfl (ek (by rw [h334]; rfl)) (ry hO rfl (pf tz (by rw [h334]; rfl) rfl) (as_ hO rfl rfl (rj (ez (E' := [(4, .bool false)]) ⟨rfl, tz⟩ (et (ct (er (.inl rfl) rfl rfl ?_)))))))))
     refine Ret.mk hle302 (hO.forget) (congrArg Value.bool ?_)
     generalize (nth s.code.val.code at_.toNat) = x at *; first | (have h_1 := all_bad (s := s) (x := x) (k := k) (by omega) (by assumption); simp [insB, h_1]; done) | (have h_1 := all_done hreg (by omega); simp_all [insB, insZ]; done) | (simp_all [insB, insA]; done) | grind [insB, insA, insZ]
    have h337 : ¬ ((nth s.code.val.code at_.toNat).r = 0) := oq h332
    refine ry hO rfl (ek (by rw [h332]; rfl)) (ry hO rfl (ek (by rw [h332]; rfl)) (ry hO rfl (ek (by rw [h332]; rfl)) (ry hO rfl (pf tz (by rw [h332]; rfl) rfl) (mv hO rfl rfl (ry hO rfl (ek rfl) (ry hO rfl (ek rfl) (ry hO rfl (ek rfl) (ry hO rfl (pf tz rfl rfl) (mv hO rfl rfl ?_)))))))))
    refine ry hO rfl (ek rfl) (ry hO rfl (ek rfl) (ry hO rfl (ek rfl) (ry hO rfl (pf tz rfl rfl) (as_ hO rfl rfl (rj (ez (E' := [(4, .bool false)]) ⟨rfl, tz⟩ (et (ct (er (.inl rfl) rfl rfl ?_)))))))))
    refine Ret.mk hle302 (hO.forget) (congrArg Value.bool ?_)
    generalize (nth s.code.val.code at_.toNat) = x at *; first | (have h_1 := all_bad (s := s) (x := x) (k := k) (by omega) (by assumption); simp [insB, h_1]; done) | (have h_1 := all_done hreg (by omega); simp_all [insB, insZ]; done) | (simp_all [insB, insA]; done) | grind [insB, insA, insZ]
   have h338 : ¬ ((nth s.code.val.code at_.toNat).kind = 5) := oq h329
   refine cq (cr (ry hO rfl (ye tz rfl rfl) (as_ hO rfl rfl (rj (et (cd rfl (fun h339 => ?_) (fun h339 => ?_)))))))
   ·
    have h340 : (nth s.code.val.code at_.toNat).kind = 7 := ot h339
    refine cp (et (cv (by rw [h339]; rfl) (cx (eh (ep (by decide) (eh (ej (et (cq ?_)))))))))
    refine cr (fb 2 tf_38_2 rfl hO rfl rfl (rd' tz (oo (vs := [.int .i64 0]) hO tn_3 rfl rfl rfl (nb rfl) rfl rfl (fun w341 hO => ?_))))
    have hO : Own _ M291 ([(b22, .cells #[.int .i64 ((nth s.code.val.code at_.toNat).kind), .int .i64 ((nth s.code.val.code at_.toNat).r), .int .i64 0, .int .i64 ((nth s.code.val.code at_.toNat).b), .int .i64 ((nth s.code.val.code at_.toNat).k), .slice b18 (((nth s.code.val.code at_.toNat).args).length) c19, .int .i64 ((nth s.code.val.code at_.toNat).cost), .int .i64 0, .int .i64 ((nth s.code.val.code at_.toNat).pc)] 38)] ++ bs) := hO
    refine rj (et (cx (ej (et (cq (cr (fb 1 tf_38_1 rfl hO rfl rfl (ry hO rfl (yl tl_3 tz rfl (fun _ h => ob h 0 1 rfl rfl)) (ry hO rfl (ye tz rfl rfl) ?_)))))))))
    refine mv hO rfl rfl ?_
    rcases bt (decide ((nth s.code.val.code at_.toNat).r = 0)) with h342 | h342
    ·
     have h343 : (nth s.code.val.code at_.toNat).r = 0 := ot h342
     refine ry hO rfl (yf 2 tf_38_2 rfl (by rw [h342]; rfl) rfl) (ry hO rfl (yl tl_3 (by rw [h342]; rfl) rfl (fun _ h => ob h 0 2 rfl rfl)) (ry hO rfl (ye (by rw [h342]; rfl) rfl rfl) (ry hO rfl (pt tz (by rw [h342]; rfl) rfl) (mv hO rfl rfl (ry hO rfl (yf 3 tf_38_3 rfl (by rw [(by decide : (decide ((0 : Int) = (0 : Int))) = true)]; rfl) rfl) (ry hO rfl (yl tl_3 (by rw [(by decide : (decide ((0 : Int) = (0 : Int))) = true)]; rfl) rfl (fun _ h => ob h 0 3 rfl rfl)) (ry hO rfl (ye (by rw [(by decide : (decide ((0 : Int) = (0 : Int))) = true)]; rfl) rfl rfl) (ry hO rfl (pt tz (by rw [(by decide : (decide ((0 : Int) = (0 : Int))) = true)]; rfl) rfl) (mv hO rfl rfl ?_)))))))))
     rcases bt (decide ((nth s.code.val.code at_.toNat).b = 0)) with h344 | h344
     ·
      have h345 : (nth s.code.val.code at_.toNat).b = 0 := ot h344
      refine ry hO rfl (yf 7 tf_38_7 rfl (by rw [h344]; rfl) rfl) (ry hO rfl (yl tl_3 (by rw [h344]; rfl) rfl (fun _ h => ob h 0 7 rfl rfl)) (ry hO rfl (ye (by rw [h344]; rfl) rfl rfl) (ry hO rfl (pt tz (by rw [h344]; rfl) rfl) (as_ hO rfl rfl (rj (ez (E' := [(4, .bool (decide (0 = 0)))]) ⟨rfl, tz⟩ (et (ct (er (.inl rfl) rfl rfl ?_)))))))))
      refine Ret.mk hle302 (hO.forget) (congrArg Value.bool ?_)
      generalize (nth s.code.val.code at_.toNat) = x at *; first | (have h_1 := all_bad (s := s) (x := x) (k := k) (by omega) (by assumption); simp [insB, h_1]; done) | (have h_1 := all_done hreg (by omega); simp_all [insB, insZ]; done) | (simp_all [insB, insA]; done) | grind [insB, insA, insZ]
     have h346 : ¬ ((nth s.code.val.code at_.toNat).b = 0) := oq h344
     refine ry hO rfl (ek (by rw [h344]; rfl)) (ry hO rfl (ek (by rw [h344]; rfl)) (ry hO rfl (ek (by rw [h344]; rfl)) (ry hO rfl (pf tz (by rw [h344]; rfl) rfl) (as_ hO rfl rfl (rj (ez (E' := [(4, .bool false)]) ⟨rfl, tz⟩ (et (ct (er (.inl rfl) rfl rfl ?_)))))))))
     refine Ret.mk hle302 (hO.forget) (congrArg Value.bool ?_)
     generalize (nth s.code.val.code at_.toNat) = x at *; first | (have h_1 := all_bad (s := s) (x := x) (k := k) (by omega) (by assumption); simp [insB, h_1]; done) | (have h_1 := all_done hreg (by omega); simp_all [insB, insZ]; done) | (simp_all [insB, insA]; done) | grind [insB, insA, insZ]
    have h347 : ¬ ((nth s.code.val.code at_.toNat).r = 0) := oq h342
    refine ry hO rfl (ek (by rw [h342]; rfl)) (ry hO rfl (ek (by rw [h342]; rfl)) (ry hO rfl (ek (by rw [h342]; rfl)) (ry hO rfl (pf tz (by rw [h342]; rfl) rfl) (mv hO rfl rfl (ry hO rfl (ek rfl) (ry hO rfl (ek rfl) (ry hO rfl (ek rfl) (ry hO rfl (pf tz rfl rfl) (mv hO rfl rfl ?_)))))))))
    refine ry hO rfl (ek rfl) (ry hO rfl (ek rfl) (ry hO rfl (ek rfl) (ry hO rfl (pf tz rfl rfl) (as_ hO rfl rfl (rj (ez (E' := [(4, .bool false)]) ⟨rfl, tz⟩ (et (ct (er (.inl rfl) rfl rfl ?_)))))))))
    refine Ret.mk hle302 (hO.forget) (congrArg Value.bool ?_)
    generalize (nth s.code.val.code at_.toNat) = x at *; first | (have h_1 := all_bad (s := s) (x := x) (k := k) (by omega) (by assumption); simp [insB, h_1]; done) | (have h_1 := all_done hreg (by omega); simp_all [insB, insZ]; done) | (simp_all [insB, insA]; done) | grind [insB, insA, insZ]
   have h348 : ¬ ((nth s.code.val.code at_.toNat).kind = 7) := oq h339
   refine cr (ry hO rfl (ye tz rfl rfl) (as_ hO rfl rfl (rj (et (cd rfl (fun h349 => ?_) (fun h349 => ?_))))))
   ·
    have h350 : (nth s.code.val.code at_.toNat).kind = 8 := ot h349
    refine cx (eh (ep (by decide) (eh (ej (et (cq (cr (fb 2 tf_38_2 rfl hO rfl rfl (rd' tz (oo (vs := [.int .i64 0]) hO tn_3 rfl rfl rfl (nb rfl) rfl rfl (fun w351 hO => ?_)))))))))))
    have hO : Own _ M291 ([(b22, .cells #[.int .i64 ((nth s.code.val.code at_.toNat).kind), .int .i64 ((nth s.code.val.code at_.toNat).r), .int .i64 0, .int .i64 ((nth s.code.val.code at_.toNat).b), .int .i64 ((nth s.code.val.code at_.toNat).k), .slice b18 (((nth s.code.val.code at_.toNat).args).length) c19, .int .i64 ((nth s.code.val.code at_.toNat).cost), .int .i64 0, .int .i64 ((nth s.code.val.code at_.toNat).pc)] 38)] ++ bs) := hO
    refine rj (et (cx (ej (et (cq (cr (fb 1 tf_38_1 rfl hO rfl rfl (ry hO rfl (yl tl_3 tz rfl (fun _ h => ob h 0 1 rfl rfl)) (ry hO rfl (ye tz rfl rfl) ?_)))))))))
    refine mv hO rfl rfl ?_
    rcases bt (decide ((nth s.code.val.code at_.toNat).r = 0)) with h352 | h352
    ·
     have h353 : (nth s.code.val.code at_.toNat).r = 0 := ot h352
     refine ry hO rfl (yf 2 tf_38_2 rfl (by rw [h352]; rfl) rfl) (ry hO rfl (yl tl_3 (by rw [h352]; rfl) rfl (fun _ h => ob h 0 2 rfl rfl)) (ry hO rfl (ye (by rw [h352]; rfl) rfl rfl) (ry hO rfl (pt tz (by rw [h352]; rfl) rfl) (mv hO rfl rfl (ry hO rfl (yf 3 tf_38_3 rfl (by rw [(by decide : (decide ((0 : Int) = (0 : Int))) = true)]; rfl) rfl) (ry hO rfl (yl tl_3 (by rw [(by decide : (decide ((0 : Int) = (0 : Int))) = true)]; rfl) rfl (fun _ h => ob h 0 3 rfl rfl)) (ry hO rfl (ye (by rw [(by decide : (decide ((0 : Int) = (0 : Int))) = true)]; rfl) rfl rfl) (ry hO rfl (pt tz (by rw [(by decide : (decide ((0 : Int) = (0 : Int))) = true)]; rfl) rfl) (mv hO rfl rfl ?_)))))))))
     rcases bt (decide ((nth s.code.val.code at_.toNat).b = 0)) with h354 | h354
     ·
      have h355 : (nth s.code.val.code at_.toNat).b = 0 := ot h354
      refine ry hO rfl (yf 7 tf_38_7 rfl (by rw [h354]; rfl) rfl) (ry hO rfl (yl tl_3 (by rw [h354]; rfl) rfl (fun _ h => ob h 0 7 rfl rfl)) (ry hO rfl (ye (by rw [h354]; rfl) rfl rfl) (ry hO rfl (pt tz (by rw [h354]; rfl) rfl) (as_ hO rfl rfl (rj (ez (E' := [(4, .bool (decide (0 = 0)))]) ⟨rfl, tz⟩ (et (ct (er (.inl rfl) rfl rfl ?_)))))))))
      refine Ret.mk hle302 (hO.forget) (congrArg Value.bool ?_)
      generalize (nth s.code.val.code at_.toNat) = x at *; first | (have h_1 := all_bad (s := s) (x := x) (k := k) (by omega) (by assumption); simp [insB, h_1]; done) | (have h_1 := all_done hreg (by omega); simp_all [insB, insZ]; done) | (simp_all [insB, insA]; done) | grind [insB, insA, insZ]
     have h356 : ¬ ((nth s.code.val.code at_.toNat).b = 0) := oq h354
     refine ry hO rfl (ek (by rw [h354]; rfl)) (ry hO rfl (ek (by rw [h354]; rfl)) (ry hO rfl (ek (by rw [h354]; rfl)) (ry hO rfl (pf tz (by rw [h354]; rfl) rfl) (as_ hO rfl rfl (rj (ez (E' := [(4, .bool false)]) ⟨rfl, tz⟩ (et (ct (er (.inl rfl) rfl rfl ?_)))))))))
     refine Ret.mk hle302 (hO.forget) (congrArg Value.bool ?_)
     generalize (nth s.code.val.code at_.toNat) = x at *; first | (have h_1 := all_bad (s := s) (x := x) (k := k) (by omega) (by assumption); simp [insB, h_1]; done) | (have h_1 := all_done hreg (by omega); simp_all [insB, insZ]; done) | (simp_all [insB, insA]; done) | grind [insB, insA, insZ]
    have h357 : ¬ ((nth s.code.val.code at_.toNat).r = 0) := oq h352
    refine ry hO rfl (ek (by rw [h352]; rfl)) (ry hO rfl (ek (by rw [h352]; rfl)) (ry hO rfl (ek (by rw [h352]; rfl)) (ry hO rfl (pf tz (by rw [h352]; rfl) rfl) (mv hO rfl rfl (ry hO rfl (ek rfl) (ry hO rfl (ek rfl) (ry hO rfl (ek rfl) (ry hO rfl (pf tz rfl rfl) (mv hO rfl rfl ?_)))))))))
    refine ry hO rfl (ek rfl) (ry hO rfl (ek rfl) (ry hO rfl (ek rfl) (ry hO rfl (pf tz rfl rfl) (as_ hO rfl rfl (rj (ez (E' := [(4, .bool false)]) ⟨rfl, tz⟩ (et (ct (er (.inl rfl) rfl rfl ?_)))))))))
    refine Ret.mk hle302 (hO.forget) (congrArg Value.bool ?_)
    generalize (nth s.code.val.code at_.toNat) = x at *; first | (have h_1 := all_bad (s := s) (x := x) (k := k) (by omega) (by assumption); simp [insB, h_1]; done) | (have h_1 := all_done hreg (by omega); simp_all [insB, insZ]; done) | (simp_all [insB, insA]; done) | grind [insB, insA, insZ]
   have h358 : ¬ ((nth s.code.val.code at_.toNat).kind = 8) := oq h349
   refine cp (et (cx (ep (by decide) (eh (ep (by decide) (eh (ej (et (cq ?_)))))))))
   refine cr (fb 1 tf_38_1 rfl hO rfl rfl (ry hO rfl (yl tl_3 tz rfl (fun _ h => ob h 0 1 rfl rfl)) (ry hO rfl (ye tz rfl rfl) (mv hO rfl rfl ?_))))
   rcases bt (decide ((nth s.code.val.code at_.toNat).r = 0)) with h359 | h359
   ·
    have h360 : (nth s.code.val.code at_.toNat).r = 0 := ot h359
    refine ry hO rfl (yf 2 tf_38_2 rfl (by rw [h359]; rfl) rfl) (ry hO rfl (yl tl_3 (by rw [h359]; rfl) rfl (fun _ h => ob h 0 2 rfl rfl)) (ry hO rfl (ye (by rw [h359]; rfl) rfl rfl) (ry hO rfl (pt tz (by rw [h359]; rfl) rfl) (mv hO rfl rfl ?_))))
    rcases bt (decide ((nth s.code.val.code at_.toNat).a = 0)) with h361 | h361
    ·
     have h362 : (nth s.code.val.code at_.toNat).a = 0 := ot h361
     refine ry hO rfl (yf 3 tf_38_3 rfl (by rw [h361]; rfl) rfl) (ry hO rfl (yl tl_3 (by rw [h361]; rfl) rfl (fun _ h => ob h 0 3 rfl rfl)) (ry hO rfl (ye (by rw [h361]; rfl) rfl rfl) (ry hO rfl (pt tz (by rw [h361]; rfl) rfl) (mv hO rfl rfl ?_))))
     rcases bt (decide ((nth s.code.val.code at_.toNat).b = 0)) with h363 | h363
     ·
      have h364 : (nth s.code.val.code at_.toNat).b = 0 := ot h363
      refine ry hO rfl (yf 7 tf_38_7 rfl (by rw [h363]; rfl) rfl) (ry hO rfl (yl tl_3 (by rw [h363]; rfl) rfl (fun _ h => ob h 0 7 rfl rfl)) (ry hO rfl (ye (by rw [h363]; rfl) rfl rfl) (ry hO rfl (pt tz (by rw [h363]; rfl) rfl) (as_ hO rfl rfl (rj (ez (E' := [(4, .bool (decide (0 = 0)))]) ⟨rfl, tz⟩ (et (ct (er (.inl rfl) rfl rfl ?_)))))))))
      refine Ret.mk hle302 (hO.forget) (congrArg Value.bool ?_)
      generalize (nth s.code.val.code at_.toNat) = x at *; first | (have h_1 := all_bad (s := s) (x := x) (k := k) (by omega) (by assumption); simp [insB, h_1]; done) | (have h_1 := all_done hreg (by omega); simp_all [insB, insZ]; done) | (simp_all [insB, insA]; done) | grind [insB, insA, insZ]
     have h365 : ¬ ((nth s.code.val.code at_.toNat).b = 0) := oq h363
     refine ry hO rfl (ek (by rw [h363]; rfl)) (ry hO rfl (ek (by rw [h363]; rfl)) (ry hO rfl (ek (by rw [h363]; rfl)) (ry hO rfl (pf tz (by rw [h363]; rfl) rfl) (as_ hO rfl rfl (rj (ez (E' := [(4, .bool false)]) ⟨rfl, tz⟩ (et (ct (er (.inl rfl) rfl rfl ?_)))))))))
     refine Ret.mk hle302 (hO.forget) (congrArg Value.bool ?_)
     generalize (nth s.code.val.code at_.toNat) = x at *; first | (have h_1 := all_bad (s := s) (x := x) (k := k) (by omega) (by assumption); simp [insB, h_1]; done) | (have h_1 := all_done hreg (by omega); simp_all [insB, insZ]; done) | (simp_all [insB, insA]; done) | grind [insB, insA, insZ]
    have h366 : ¬ ((nth s.code.val.code at_.toNat).a = 0) := oq h361
    refine ry hO rfl (ek (by rw [h361]; rfl)) (ry hO rfl (ek (by rw [h361]; rfl)) (ry hO rfl (ek (by rw [h361]; rfl)) (ry hO rfl (pf tz (by rw [h361]; rfl) rfl) (mv hO rfl rfl (ry hO rfl (ek rfl) (ry hO rfl (ek rfl) (ry hO rfl (ek rfl) (ry hO rfl (pf tz rfl rfl) (as_ hO rfl rfl ?_)))))))))
    refine rj (ez (E' := [(4, .bool false)]) ⟨rfl, tz⟩ (et (ct (er (.inl rfl) rfl rfl ?_))))
    refine Ret.mk hle302 (hO.forget) (congrArg Value.bool ?_)
    generalize (nth s.code.val.code at_.toNat) = x at *; first | (have h_1 := all_bad (s := s) (x := x) (k := k) (by omega) (by assumption); simp [insB, h_1]; done) | (have h_1 := all_done hreg (by omega); simp_all [insB, insZ]; done) | (simp_all [insB, insA]; done) | grind [insB, insA, insZ]
   have h367 : ¬ ((nth s.code.val.code at_.toNat).r = 0) := oq h359
   refine ry hO rfl (ek (by rw [h359]; rfl)) (ry hO rfl (ek (by rw [h359]; rfl)) (ry hO rfl (ek (by rw [h359]; rfl)) (ry hO rfl (pf tz (by rw [h359]; rfl) rfl) (mv hO rfl rfl (ry hO rfl (ek rfl) (ry hO rfl (ek rfl) (ry hO rfl (ek rfl) (ry hO rfl (pf tz rfl rfl) (mv hO rfl rfl ?_)))))))))
   refine ry hO rfl (ek rfl) (ry hO rfl (ek rfl) (ry hO rfl (ek rfl) (ry hO rfl (pf tz rfl rfl) (as_ hO rfl rfl (rj (ez (E' := [(4, .bool false)]) ⟨rfl, tz⟩ (et (ct (er (.inl rfl) rfl rfl ?_)))))))))
   refine Ret.mk hle302 (hO.forget) (congrArg Value.bool ?_)
   generalize (nth s.code.val.code at_.toNat) = x at *; first | (have h_1 := all_bad (s := s) (x := x) (k := k) (by omega) (by assumption); simp [insB, h_1]; done) | (have h_1 := all_done hreg (by omega); simp_all [insB, insZ]; done) | (simp_all [insB, insA]; done) | grind [insB, insA, insZ]
  refine cp (et (cq (cq (cr (fb 0 tf_38_0 rfl hO rfl rfl (lc tl_3 at285 0 rfl hO rfl rfl (rj (ez (E' := [(5, .pointer (some ⟨b22, 0, none⟩)), (108, .int .i64 ((nth s.code.val.code at_.toNat).kind))]) ⟨rfl, rfl, tz⟩ (et ?_)))))))))
  refine cb (cq (cb (cq (cb (cq (cq (cq (cq (cr ?_)))))))))
  refine ry hO rfl (ye tz rfl rfl) (as_ hO rfl rfl (rj (et (cd rfl (fun h368 => ?_) (fun h368 => ?_)))))
  ·
   have h369 : (nth s.code.val.code at_.toNat).kind = 3 := ot h368
   refine cp (et (cv (by rw [h368]; rfl) (cx (eh (eh (ej (et (cr (fb 3 tf_38_3 rfl hO rfl rfl ?_)))))))))
   obtain ⟨M371, le372, hO⟩ := Own.unkeeps hO hk284 hn28 hd29 kl288
   have s373 := s20.mono le372
   have hle374 := le372
   refine rd' tz (oo (vs := [.int .i64 0]) hO tn_3 rfl rfl rfl (nb rfl) rfl rfl (fun w370 hO => ?_))
   have hO : Own _ M371 ([(b22, .cells #[.int .i64 ((nth s.code.val.code at_.toNat).kind), .int .i64 ((nth s.code.val.code at_.toNat).r), .int .i64 ((nth s.code.val.code at_.toNat).a), .int .i64 0, .int .i64 ((nth s.code.val.code at_.toNat).k), .slice b18 (((nth s.code.val.code at_.toNat).args).length) c19, .int .i64 ((nth s.code.val.code at_.toNat).cost), .int .i64 ((nth s.code.val.code at_.toNat).mt), .int .i64 ((nth s.code.val.code at_.toNat).pc)] 38)] ++ bs) := hO
   refine rj (ek' (et (cq (cr (fb 2 tf_38_2 rfl hO rfl rfl (rd' tz (oo (vs := [.int .i64 0]) hO tn_3 rfl rfl rfl (nb rfl) rfl rfl (fun w375 hO => ?_))))))))
   have hO : Own _ M371 ([(b22, .cells #[.int .i64 ((nth s.code.val.code at_.toNat).kind), .int .i64 ((nth s.code.val.code at_.toNat).r), .int .i64 0, .int .i64 0, .int .i64 ((nth s.code.val.code at_.toNat).k), .slice b18 (((nth s.code.val.code at_.toNat).args).length) c19, .int .i64 ((nth s.code.val.code at_.toNat).cost), .int .i64 ((nth s.code.val.code at_.toNat).mt), .int .i64 ((nth s.code.val.code at_.toNat).pc)] 38)] ++ bs) := hO
   refine rj (et (cx (ej (et (cq (cr (fb 1 tf_38_1 rfl hO rfl rfl (ry hO rfl (yl tl_3 tz rfl (fun _ h => ob h 0 1 rfl rfl)) (ry hO rfl (ye tz rfl rfl) ?_)))))))))
   refine mv hO rfl rfl ?_
   rcases bt (decide ((nth s.code.val.code at_.toNat).r = 0)) with h376 | h376
   ·
    have h377 : (nth s.code.val.code at_.toNat).r = 0 := ot h376
    refine ry hO rfl (yf 2 tf_38_2 rfl (by rw [h376]; rfl) rfl) (ry hO rfl (yl tl_3 (by rw [h376]; rfl) rfl (fun _ h => ob h 0 2 rfl rfl)) (ry hO rfl (ye (by rw [h376]; rfl) rfl rfl) (ry hO rfl (pt tz (by rw [h376]; rfl) rfl) (mv hO rfl rfl (ry hO rfl (yf 3 tf_38_3 rfl (by rw [(by decide : (decide ((0 : Int) = (0 : Int))) = true)]; rfl) rfl) (ry hO rfl (yl tl_3 (by rw [(by decide : (decide ((0 : Int) = (0 : Int))) = true)]; rfl) rfl (fun _ h => ob h 0 3 rfl rfl)) (ry hO rfl (ye (by rw [(by decide : (decide ((0 : Int) = (0 : Int))) = true)]; rfl) rfl rfl) (ry hO rfl (pt tz (by rw [(by decide : (decide ((0 : Int) = (0 : Int))) = true)]; rfl) rfl) (mv hO rfl rfl ?_)))))))))
    refine ry hO rfl (yf 7 tf_38_7 rfl (by rw [(by decide : (decide ((0 : Int) = (0 : Int))) = true)]; rfl) rfl) (ry hO rfl (yl tl_3 (by rw [(by decide : (decide ((0 : Int) = (0 : Int))) = true)]; rfl) rfl (fun _ h => ob h 0 7 rfl rfl)) (ry hO rfl (ye (by rw [(by decide : (decide ((0 : Int) = (0 : Int))) = true)]; rfl) rfl rfl) (ry hO rfl (pt tz (by rw [(by decide : (decide ((0 : Int) = (0 : Int))) = true)]; rfl) rfl) (as_ hO rfl rfl (rj (ez (E' := [(4, .bool (decide ((nth s.code.val.code at_.toNat).mt = 0)))]) ⟨rfl, tz⟩ (et (ct (er (.inl rfl) rfl rfl ?_)))))))))
    refine Ret.mk hle374 (hO.forget) (congrArg Value.bool ?_)
    generalize (nth s.code.val.code at_.toNat) = x at *; first | (have h_1 := all_bad (s := s) (x := x) (k := k) (by omega) (by assumption); simp [insB, h_1]; done) | (have h_1 := all_done hreg (by omega); simp_all [insB, insZ]; done) | (simp_all [insB, insA]; done) | grind [insB, insA, insZ]
   have h378 : ¬ ((nth s.code.val.code at_.toNat).r = 0) := oq h376
   refine ry hO rfl (ek (by rw [h376]; rfl)) (ry hO rfl (ek (by rw [h376]; rfl)) (ry hO rfl (ek (by rw [h376]; rfl)) (ry hO rfl (pf tz (by rw [h376]; rfl) rfl) (mv hO rfl rfl (ry hO rfl (ek rfl) (ry hO rfl (ek rfl) (ry hO rfl (ek rfl) (ry hO rfl (pf tz rfl rfl) (mv hO rfl rfl ?_)))))))))
   refine ry hO rfl (ek rfl) (ry hO rfl (ek rfl) (ry hO rfl (ek rfl) (ry hO rfl (pf tz rfl rfl) (as_ hO rfl rfl (rj (ez (E' := [(4, .bool false)]) ⟨rfl, tz⟩ (et (ct (er (.inl rfl) rfl rfl ?_)))))))))
   refine Ret.mk hle374 (hO.forget) (congrArg Value.bool ?_)
   generalize (nth s.code.val.code at_.toNat) = x at *; first | (have h_1 := all_bad (s := s) (x := x) (k := k) (by omega) (by assumption); simp [insB, h_1]; done) | (have h_1 := all_done hreg (by omega); simp_all [insB, insZ]; done) | (simp_all [insB, insA]; done) | grind [insB, insA, insZ]
  have h379 : ¬ ((nth s.code.val.code at_.toNat).kind = 3) := oq h368
  refine cr (ry hO rfl (ye tz rfl rfl) (as_ hO rfl rfl (rj (et (cd rfl (fun h380 => ?_) (fun h380 => ?_))))))
  ·
   have h381 : (nth s.code.val.code at_.toNat).kind = 9 := ot h380
   refine cx (eh (eh (ej (et (cr (fb 3 tf_38_3 rfl hO rfl rfl ?_))))))
   obtain ⟨M383, le384, hO⟩ := Own.unkeeps hO hk284 hn28 hd29 kl288
   have s385 := s20.mono le384
   have hle386 := le384
   refine rd' tz (oo (vs := [.int .i64 0]) hO tn_3 rfl rfl rfl (nb rfl) rfl rfl (fun w382 hO => ?_))
   have hO : Own _ M383 ([(b22, .cells #[.int .i64 ((nth s.code.val.code at_.toNat).kind), .int .i64 ((nth s.code.val.code at_.toNat).r), .int .i64 ((nth s.code.val.code at_.toNat).a), .int .i64 0, .int .i64 ((nth s.code.val.code at_.toNat).k), .slice b18 (((nth s.code.val.code at_.toNat).args).length) c19, .int .i64 ((nth s.code.val.code at_.toNat).cost), .int .i64 ((nth s.code.val.code at_.toNat).mt), .int .i64 ((nth s.code.val.code at_.toNat).pc)] 38)] ++ bs) := hO
   refine rj (ek' (et (cq (cr (fb 2 tf_38_2 rfl hO rfl rfl (rd' tz (oo (vs := [.int .i64 0]) hO tn_3 rfl rfl rfl (nb rfl) rfl rfl (fun w387 hO => ?_))))))))
   have hO : Own _ M383 ([(b22, .cells #[.int .i64 ((nth s.code.val.code at_.toNat).kind), .int .i64 ((nth s.code.val.code at_.toNat).r), .int .i64 0, .int .i64 0, .int .i64 ((nth s.code.val.code at_.toNat).k), .slice b18 (((nth s.code.val.code at_.toNat).args).length) c19, .int .i64 ((nth s.code.val.code at_.toNat).cost), .int .i64 ((nth s.code.val.code at_.toNat).mt), .int .i64 ((nth s.code.val.code at_.toNat).pc)] 38)] ++ bs) := hO
   refine rj (et (cx (ej (et (cq (cr (fb 1 tf_38_1 rfl hO rfl rfl (ry hO rfl (yl tl_3 tz rfl (fun _ h => ob h 0 1 rfl rfl)) (ry hO rfl (ye tz rfl rfl) ?_)))))))))
   refine mv hO rfl rfl ?_
   rcases bt (decide ((nth s.code.val.code at_.toNat).r = 0)) with h388 | h388
   ·
    have h389 : (nth s.code.val.code at_.toNat).r = 0 := ot h388
    refine ry hO rfl (yf 2 tf_38_2 rfl (by rw [h388]; rfl) rfl) (ry hO rfl (yl tl_3 (by rw [h388]; rfl) rfl (fun _ h => ob h 0 2 rfl rfl)) (ry hO rfl (ye (by rw [h388]; rfl) rfl rfl) (ry hO rfl (pt tz (by rw [h388]; rfl) rfl) (mv hO rfl rfl (ry hO rfl (yf 3 tf_38_3 rfl (by rw [(by decide : (decide ((0 : Int) = (0 : Int))) = true)]; rfl) rfl) (ry hO rfl (yl tl_3 (by rw [(by decide : (decide ((0 : Int) = (0 : Int))) = true)]; rfl) rfl (fun _ h => ob h 0 3 rfl rfl)) (ry hO rfl (ye (by rw [(by decide : (decide ((0 : Int) = (0 : Int))) = true)]; rfl) rfl rfl) (ry hO rfl (pt tz (by rw [(by decide : (decide ((0 : Int) = (0 : Int))) = true)]; rfl) rfl) (mv hO rfl rfl ?_)))))))))
    refine ry hO rfl (yf 7 tf_38_7 rfl (by rw [(by decide : (decide ((0 : Int) = (0 : Int))) = true)]; rfl) rfl) (ry hO rfl (yl tl_3 (by rw [(by decide : (decide ((0 : Int) = (0 : Int))) = true)]; rfl) rfl (fun _ h => ob h 0 7 rfl rfl)) (ry hO rfl (ye (by rw [(by decide : (decide ((0 : Int) = (0 : Int))) = true)]; rfl) rfl rfl) (ry hO rfl (pt tz (by rw [(by decide : (decide ((0 : Int) = (0 : Int))) = true)]; rfl) rfl) (as_ hO rfl rfl (rj (ez (E' := [(4, .bool (decide ((nth s.code.val.code at_.toNat).mt = 0)))]) ⟨rfl, tz⟩ (et (ct (er (.inl rfl) rfl rfl ?_)))))))))
    refine Ret.mk hle386 (hO.forget) (congrArg Value.bool ?_)
    generalize (nth s.code.val.code at_.toNat) = x at *; first | (have h_1 := all_bad (s := s) (x := x) (k := k) (by omega) (by assumption); simp [insB, h_1]; done) | (have h_1 := all_done hreg (by omega); simp_all [insB, insZ]; done) | (simp_all [insB, insA]; done) | grind [insB, insA, insZ]
   have h390 : ¬ ((nth s.code.val.code at_.toNat).r = 0) := oq h388
   refine ry hO rfl (ek (by rw [h388]; rfl)) (ry hO rfl (ek (by rw [h388]; rfl)) (ry hO rfl (ek (by rw [h388]; rfl)) (ry hO rfl (pf tz (by rw [h388]; rfl) rfl) (mv hO rfl rfl (ry hO rfl (ek rfl) (ry hO rfl (ek rfl) (ry hO rfl (ek rfl) (ry hO rfl (pf tz rfl rfl) (mv hO rfl rfl ?_)))))))))
   refine ry hO rfl (ek rfl) (ry hO rfl (ek rfl) (ry hO rfl (ek rfl) (ry hO rfl (pf tz rfl rfl) (as_ hO rfl rfl (rj (ez (E' := [(4, .bool false)]) ⟨rfl, tz⟩ (et (ct (er (.inl rfl) rfl rfl ?_)))))))))
   refine Ret.mk hle386 (hO.forget) (congrArg Value.bool ?_)
   generalize (nth s.code.val.code at_.toNat) = x at *; first | (have h_1 := all_bad (s := s) (x := x) (k := k) (by omega) (by assumption); simp [insB, h_1]; done) | (have h_1 := all_done hreg (by omega); simp_all [insB, insZ]; done) | (simp_all [insB, insA]; done) | grind [insB, insA, insZ]
  have h391 : ¬ ((nth s.code.val.code at_.toNat).kind = 9) := oq h380
  refine cp (et (cq (cq (cr (ry hO rfl (ye tz rfl rfl) (as_ hO rfl rfl (rj (et (cd rfl (fun h392 => ?_) (fun h392 => ?_))))))))))
  ·
   have h393 : (nth s.code.val.code at_.toNat).kind = 2 := ot h392
   refine cp (et (cv (by rw [h392]; rfl) (cx (eh (ep (by decide) (eh (ej (et (cq ?_)))))))))
   refine cr (fb 2 tf_38_2 rfl hO rfl rfl ?_)
   obtain ⟨M395, le396, hO⟩ := Own.unkeeps hO hk284 hn28 hd29 kl288
   have s397 := s20.mono le396
   have hle398 := le396
   refine rd' tz (oo (vs := [.int .i64 0]) hO tn_3 rfl rfl rfl (nb rfl) rfl rfl (fun w394 hO => ?_))
   have hO : Own _ M395 ([(b22, .cells #[.int .i64 ((nth s.code.val.code at_.toNat).kind), .int .i64 ((nth s.code.val.code at_.toNat).r), .int .i64 0, .int .i64 ((nth s.code.val.code at_.toNat).b), .int .i64 ((nth s.code.val.code at_.toNat).k), .slice b18 (((nth s.code.val.code at_.toNat).args).length) c19, .int .i64 ((nth s.code.val.code at_.toNat).cost), .int .i64 ((nth s.code.val.code at_.toNat).mt), .int .i64 ((nth s.code.val.code at_.toNat).pc)] 38)] ++ bs) := hO
   refine rj (et (cx (ej (et (cq (cr (fb 1 tf_38_1 rfl hO rfl rfl (ry hO rfl (yl tl_3 tz rfl (fun _ h => ob h 0 1 rfl rfl)) (ry hO rfl (ye tz rfl rfl) ?_)))))))))
   refine mv hO rfl rfl ?_
   rcases bt (decide ((nth s.code.val.code at_.toNat).r = 0)) with h399 | h399
   ·
    have h400 : (nth s.code.val.code at_.toNat).r = 0 := ot h399
    refine ry hO rfl (yf 2 tf_38_2 rfl (by rw [h399]; rfl) rfl) (ry hO rfl (yl tl_3 (by rw [h399]; rfl) rfl (fun _ h => ob h 0 2 rfl rfl)) (ry hO rfl (ye (by rw [h399]; rfl) rfl rfl) (ry hO rfl (pt tz (by rw [h399]; rfl) rfl) (mv hO rfl rfl (ry hO rfl (yf 3 tf_38_3 rfl (by rw [(by decide : (decide ((0 : Int) = (0 : Int))) = true)]; rfl) rfl) (ry hO rfl (yl tl_3 (by rw [(by decide : (decide ((0 : Int) = (0 : Int))) = true)]; rfl) rfl (fun _ h => ob h 0 3 rfl rfl)) (ry hO rfl (ye (by rw [(by decide : (decide ((0 : Int) = (0 : Int))) = true)]; rfl) rfl rfl) (ry hO rfl (pt tz (by rw [(by decide : (decide ((0 : Int) = (0 : Int))) = true)]; rfl) rfl) (mv hO rfl rfl ?_)))))))))
    rcases bt (decide ((nth s.code.val.code at_.toNat).b = 0)) with h401 | h401
    ·
     have h402 : (nth s.code.val.code at_.toNat).b = 0 := ot h401
     refine ry hO rfl (yf 7 tf_38_7 rfl (by rw [h401]; rfl) rfl) (ry hO rfl (yl tl_3 (by rw [h401]; rfl) rfl (fun _ h => ob h 0 7 rfl rfl)) (ry hO rfl (ye (by rw [h401]; rfl) rfl rfl) (ry hO rfl (pt tz (by rw [h401]; rfl) rfl) (as_ hO rfl rfl (rj (ez (E' := [(4, .bool (decide ((nth s.code.val.code at_.toNat).mt = 0)))]) ⟨rfl, tz⟩ (et (ct (er (.inl rfl) rfl rfl ?_)))))))))
     refine Ret.mk hle398 (hO.forget) (congrArg Value.bool ?_)
     generalize (nth s.code.val.code at_.toNat) = x at *; first | (have h_1 := all_bad (s := s) (x := x) (k := k) (by omega) (by assumption); simp [insB, h_1]; done) | (have h_1 := all_done hreg (by omega); simp_all [insB, insZ]; done) | (simp_all [insB, insA]; done) | grind [insB, insA, insZ]
    have h403 : ¬ ((nth s.code.val.code at_.toNat).b = 0) := oq h401
    refine ry hO rfl (ek (by rw [h401]; rfl)) (ry hO rfl (ek (by rw [h401]; rfl)) (ry hO rfl (ek (by rw [h401]; rfl)) (ry hO rfl (pf tz (by rw [h401]; rfl) rfl) (as_ hO rfl rfl (rj (ez (E' := [(4, .bool false)]) ⟨rfl, tz⟩ (et (ct (er (.inl rfl) rfl rfl ?_)))))))))
    refine Ret.mk hle398 (hO.forget) (congrArg Value.bool ?_)
    generalize (nth s.code.val.code at_.toNat) = x at *; first | (have h_1 := all_bad (s := s) (x := x) (k := k) (by omega) (by assumption); simp [insB, h_1]; done) | (have h_1 := all_done hreg (by omega); simp_all [insB, insZ]; done) | (simp_all [insB, insA]; done) | grind [insB, insA, insZ]
   have h404 : ¬ ((nth s.code.val.code at_.toNat).r = 0) := oq h399
   refine ry hO rfl (ek (by rw [h399]; rfl)) (ry hO rfl (ek (by rw [h399]; rfl)) (ry hO rfl (ek (by rw [h399]; rfl)) (ry hO rfl (pf tz (by rw [h399]; rfl) rfl) (mv hO rfl rfl (ry hO rfl (ek rfl) (ry hO rfl (ek rfl) (ry hO rfl (ek rfl) (ry hO rfl (pf tz rfl rfl) (mv hO rfl rfl ?_)))))))))
   refine ry hO rfl (ek rfl) (ry hO rfl (ek rfl) (ry hO rfl (ek rfl) (ry hO rfl (pf tz rfl rfl) (as_ hO rfl rfl (rj (ez (E' := [(4, .bool false)]) ⟨rfl, tz⟩ (et (ct (er (.inl rfl) rfl rfl ?_)))))))))
   refine Ret.mk hle398 (hO.forget) (congrArg Value.bool ?_)
   generalize (nth s.code.val.code at_.toNat) = x at *; first | (have h_1 := all_bad (s := s) (x := x) (k := k) (by omega) (by assumption); simp [insB, h_1]; done) | (have h_1 := all_done hreg (by omega); simp_all [insB, insZ]; done) | (simp_all [insB, insA]; done) | grind [insB, insA, insZ]
  have h405 : ¬ ((nth s.code.val.code at_.toNat).kind = 2) := oq h392
  refine cq (cr (ry hO rfl (ye tz rfl rfl) (as_ hO rfl rfl (rj (et (cd rfl (fun h406 => ?_) (fun h406 => ?_)))))))
  ·
   have h407 : (nth s.code.val.code at_.toNat).kind = 5 := ot h406
   refine cp (et (cv (by rw [h406]; rfl) (cx (eh (ep (by decide) (eh (ej (et (cq ?_)))))))))
   refine cr (fb 2 tf_38_2 rfl hO rfl rfl ?_)
   obtain ⟨M409, le410, hO⟩ := Own.unkeeps hO hk284 hn28 hd29 kl288
   have s411 := s20.mono le410
   have hle412 := le410
   refine rd' tz (oo (vs := [.int .i64 0]) hO tn_3 rfl rfl rfl (nb rfl) rfl rfl (fun w408 hO => ?_))
   have hO : Own _ M409 ([(b22, .cells #[.int .i64 ((nth s.code.val.code at_.toNat).kind), .int .i64 ((nth s.code.val.code at_.toNat).r), .int .i64 0, .int .i64 ((nth s.code.val.code at_.toNat).b), .int .i64 ((nth s.code.val.code at_.toNat).k), .slice b18 (((nth s.code.val.code at_.toNat).args).length) c19, .int .i64 ((nth s.code.val.code at_.toNat).cost), .int .i64 ((nth s.code.val.code at_.toNat).mt), .int .i64 ((nth s.code.val.code at_.toNat).pc)] 38)] ++ bs) := hO
   refine rj (et (cx (ej (et (cq (cr (fb 1 tf_38_1 rfl hO rfl rfl (ry hO rfl (yl tl_3 tz rfl (fun _ h => ob h 0 1 rfl rfl)) (ry hO rfl (ye tz rfl rfl) ?_)))))))))
   refine mv hO rfl rfl ?_
   rcases bt (decide ((nth s.code.val.code at_.toNat).r = 0)) with h413 | h413
   ·
    have h414 : (nth s.code.val.code at_.toNat).r = 0 := ot h413
    refine ry hO rfl (yf 2 tf_38_2 rfl (by rw [h413]; rfl) rfl) (ry hO rfl (yl tl_3 (by rw [h413]; rfl) rfl (fun _ h => ob h 0 2 rfl rfl)) (ry hO rfl (ye (by rw [h413]; rfl) rfl rfl) (ry hO rfl (pt tz (by rw [h413]; rfl) rfl) (mv hO rfl rfl (ry hO rfl (yf 3 tf_38_3 rfl (by rw [(by decide : (decide ((0 : Int) = (0 : Int))) = true)]; rfl) rfl) (ry hO rfl (yl tl_3 (by rw [(by decide : (decide ((0 : Int) = (0 : Int))) = true)]; rfl) rfl (fun _ h => ob h 0 3 rfl rfl)) (ry hO rfl (ye (by rw [(by decide : (decide ((0 : Int) = (0 : Int))) = true)]; rfl) rfl rfl) (ry hO rfl (pt tz (by rw [(by decide : (decide ((0 : Int) = (0 : Int))) = true)]; rfl) rfl) (mv hO rfl rfl ?_)))))))))
    rcases bt (decide ((nth s.code.val.code at_.toNat).b = 0)) with h415 | h415
    ·
     have h416 : (nth s.code.val.code at_.toNat).b = 0 := ot h415
     refine ry hO rfl (yf 7 tf_38_7 rfl (by rw [h415]; rfl) rfl) (ry hO rfl (yl tl_3 (by rw [h415]; rfl) rfl (fun _ h => ob h 0 7 rfl rfl)) (ry hO rfl (ye (by rw [h415]; rfl) rfl rfl) (ry hO rfl (pt tz (by rw [h415]; rfl) rfl) (as_ hO rfl rfl (rj (ez (E' := [(4, .bool (decide ((nth s.code.val.code at_.toNat).mt = 0)))]) ⟨rfl, tz⟩ (et (ct (er (.inl rfl) rfl rfl ?_)))))))))
     refine Ret.mk hle412 (hO.forget) (congrArg Value.bool ?_)
     generalize (nth s.code.val.code at_.toNat) = x at *; first | (have h_1 := all_bad (s := s) (x := x) (k := k) (by omega) (by assumption); simp [insB, h_1]; done) | (have h_1 := all_done hreg (by omega); simp_all [insB, insZ]; done) | (simp_all [insB, insA]; done) | grind [insB, insA, insZ]
    have h417 : ¬ ((nth s.code.val.code at_.toNat).b = 0) := oq h415
    refine ry hO rfl (ek (by rw [h415]; rfl)) (ry hO rfl (ek (by rw [h415]; rfl)) (ry hO rfl (ek (by rw [h415]; rfl)) (ry hO rfl (pf tz (by rw [h415]; rfl) rfl) (as_ hO rfl rfl (rj (ez (E' := [(4, .bool false)]) ⟨rfl, tz⟩ (et (ct (er (.inl rfl) rfl rfl ?_)))))))))
    refine Ret.mk hle412 (hO.forget) (congrArg Value.bool ?_)
    generalize (nth s.code.val.code at_.toNat) = x at *; first | (have h_1 := all_bad (s := s) (x := x) (k := k) (by omega) (by assumption); simp [insB, h_1]; done) | (have h_1 := all_done hreg (by omega); simp_all [insB, insZ]; done) | (simp_all [insB, insA]; done) | grind [insB, insA, insZ]
   have h418 : ¬ ((nth s.code.val.code at_.toNat).r = 0) := oq h413
   refine ry hO rfl (ek (by rw [h413]; rfl)) (ry hO rfl (ek (by rw [h413]; rfl)) (ry hO rfl (ek (by rw [h413]; rfl)) (ry hO rfl (pf tz (by rw [h413]; rfl) rfl) (mv hO rfl rfl (ry hO rfl (ek rfl) (ry hO rfl (ek rfl) (ry hO rfl (ek rfl) (ry hO rfl (pf tz rfl rfl) (mv hO rfl rfl ?_)))))))))
   refine ry hO rfl (ek rfl) (ry hO rfl (ek rfl) (ry hO rfl (ek rfl) (ry hO rfl (pf tz rfl rfl) (as_ hO rfl rfl (rj (ez (E' := [(4, .bool false)]) ⟨rfl, tz⟩ (et (ct (er (.inl rfl) rfl rfl ?_)))))))))
   refine Ret.mk hle412 (hO.forget) (congrArg Value.bool ?_)
   generalize (nth s.code.val.code at_.toNat) = x at *; first | (have h_1 := all_bad (s := s) (x := x) (k := k) (by omega) (by assumption); simp [insB, h_1]; done) | (have h_1 := all_done hreg (by omega); simp_all [insB, insZ]; done) | (simp_all [insB, insA]; done) | grind [insB, insA, insZ]
  have h419 : ¬ ((nth s.code.val.code at_.toNat).kind = 5) := oq h406
  refine cq (cr (ry hO rfl (ye tz rfl rfl) (as_ hO rfl rfl (rj (et (cd rfl (fun h420 => ?_) (fun h420 => ?_)))))))
  ·
   have h421 : (nth s.code.val.code at_.toNat).kind = 7 := ot h420
   refine cp (et (cv (by rw [h420]; rfl) (cx (eh (ep (by decide) (eh (ej (et (cq ?_)))))))))
   refine cr (fb 2 tf_38_2 rfl hO rfl rfl ?_)
   obtain ⟨M423, le424, hO⟩ := Own.unkeeps hO hk284 hn28 hd29 kl288
   have s425 := s20.mono le424
   have hle426 := le424
   refine rd' tz (oo (vs := [.int .i64 0]) hO tn_3 rfl rfl rfl (nb rfl) rfl rfl (fun w422 hO => ?_))
   have hO : Own _ M423 ([(b22, .cells #[.int .i64 ((nth s.code.val.code at_.toNat).kind), .int .i64 ((nth s.code.val.code at_.toNat).r), .int .i64 0, .int .i64 ((nth s.code.val.code at_.toNat).b), .int .i64 ((nth s.code.val.code at_.toNat).k), .slice b18 (((nth s.code.val.code at_.toNat).args).length) c19, .int .i64 ((nth s.code.val.code at_.toNat).cost), .int .i64 ((nth s.code.val.code at_.toNat).mt), .int .i64 ((nth s.code.val.code at_.toNat).pc)] 38)] ++ bs) := hO
   refine rj (et (cx (ej (et (cq (cr (fb 1 tf_38_1 rfl hO rfl rfl (ry hO rfl (yl tl_3 tz rfl (fun _ h => ob h 0 1 rfl rfl)) (ry hO rfl (ye tz rfl rfl) ?_)))))))))
   refine mv hO rfl rfl ?_
   rcases bt (decide ((nth s.code.val.code at_.toNat).r = 0)) with h427 | h427
   ·
    have h428 : (nth s.code.val.code at_.toNat).r = 0 := ot h427
    refine ry hO rfl (yf 2 tf_38_2 rfl (by rw [h427]; rfl) rfl) (ry hO rfl (yl tl_3 (by rw [h427]; rfl) rfl (fun _ h => ob h 0 2 rfl rfl)) (ry hO rfl (ye (by rw [h427]; rfl) rfl rfl) (ry hO rfl (pt tz (by rw [h427]; rfl) rfl) (mv hO rfl rfl (ry hO rfl (yf 3 tf_38_3 rfl (by rw [(by decide : (decide ((0 : Int) = (0 : Int))) = true)]; rfl) rfl) (ry hO rfl (yl tl_3 (by rw [(by decide : (decide ((0 : Int) = (0 : Int))) = true)]; rfl) rfl (fun _ h => ob h 0 3 rfl rfl)) (ry hO rfl (ye (by rw [(by decide : (decide ((0 : Int) = (0 : Int))) = true)]; rfl) rfl rfl) (ry hO rfl (pt tz (by rw [(by decide : (decide ((0 : Int) = (0 : Int))) = true)]; rfl) rfl) (mv hO rfl rfl ?_)))))))))
    rcases bt (decide ((nth s.code.val.code at_.toNat).b = 0)) with h429 | h429
    ·
     have h430 : (nth s.code.val.code at_.toNat).b = 0 := ot h429
     refine ry hO rfl (yf 7 tf_38_7 rfl (by rw [h429]; rfl) rfl) (ry hO rfl (yl tl_3 (by rw [h429]; rfl) rfl (fun _ h => ob h 0 7 rfl rfl)) (ry hO rfl (ye (by rw [h429]; rfl) rfl rfl) (ry hO rfl (pt tz (by rw [h429]; rfl) rfl) (as_ hO rfl rfl (rj (ez (E' := [(4, .bool (decide ((nth s.code.val.code at_.toNat).mt = 0)))]) ⟨rfl, tz⟩ (et (ct (er (.inl rfl) rfl rfl ?_)))))))))
     refine Ret.mk hle426 (hO.forget) (congrArg Value.bool ?_)
     generalize (nth s.code.val.code at_.toNat) = x at *; first | (have h_1 := all_bad (s := s) (x := x) (k := k) (by omega) (by assumption); simp [insB, h_1]; done) | (have h_1 := all_done hreg (by omega); simp_all [insB, insZ]; done) | (simp_all [insB, insA]; done) | grind [insB, insA, insZ]
    have h431 : ¬ ((nth s.code.val.code at_.toNat).b = 0) := oq h429
    refine ry hO rfl (ek (by rw [h429]; rfl)) (ry hO rfl (ek (by rw [h429]; rfl)) (ry hO rfl (ek (by rw [h429]; rfl)) (ry hO rfl (pf tz (by rw [h429]; rfl) rfl) (as_ hO rfl rfl (rj (ez (E' := [(4, .bool false)]) ⟨rfl, tz⟩ (et (ct (er (.inl rfl) rfl rfl ?_)))))))))
    refine Ret.mk hle426 (hO.forget) (congrArg Value.bool ?_)
    generalize (nth s.code.val.code at_.toNat) = x at *; first | (have h_1 := all_bad (s := s) (x := x) (k := k) (by omega) (by assumption); simp [insB, h_1]; done) | (have h_1 := all_done hreg (by omega); simp_all [insB, insZ]; done) | (simp_all [insB, insA]; done) | grind [insB, insA, insZ]
   have h432 : ¬ ((nth s.code.val.code at_.toNat).r = 0) := oq h427
   refine ry hO rfl (ek (by rw [h427]; rfl)) (ry hO rfl (ek (by rw [h427]; rfl)) (ry hO rfl (ek (by rw [h427]; rfl)) (ry hO rfl (pf tz (by rw [h427]; rfl) rfl) (mv hO rfl rfl (ry hO rfl (ek rfl) (ry hO rfl (ek rfl) (ry hO rfl (ek rfl) (ry hO rfl (pf tz rfl rfl) (mv hO rfl rfl ?_)))))))))
   refine ry hO rfl (ek rfl) (ry hO rfl (ek rfl) (ry hO rfl (ek rfl) (ry hO rfl (pf tz rfl rfl) (as_ hO rfl rfl (rj (ez (E' := [(4, .bool false)]) ⟨rfl, tz⟩ (et (ct (er (.inl rfl) rfl rfl ?_)))))))))
   refine Ret.mk hle426 (hO.forget) (congrArg Value.bool ?_)
   generalize (nth s.code.val.code at_.toNat) = x at *; first | (have h_1 := all_bad (s := s) (x := x) (k := k) (by omega) (by assumption); simp [insB, h_1]; done) | (have h_1 := all_done hreg (by omega); simp_all [insB, insZ]; done) | (simp_all [insB, insA]; done) | grind [insB, insA, insZ]
  have h433 : ¬ ((nth s.code.val.code at_.toNat).kind = 7) := oq h420
  refine cr (ry hO rfl (ye tz rfl rfl) (as_ hO rfl rfl (rj (et (cd rfl (fun h434 => ?_) (fun h434 => ?_))))))
  ·
   have h435 : (nth s.code.val.code at_.toNat).kind = 8 := ot h434
   refine cx (eh (ep (by decide) (eh (ej (et (cq (cr (fb 2 tf_38_2 rfl hO rfl rfl ?_))))))))
   obtain ⟨M437, le438, hO⟩ := Own.unkeeps hO hk284 hn28 hd29 kl288
   have s439 := s20.mono le438
   have hle440 := le438
   refine rd' tz (oo (vs := [.int .i64 0]) hO tn_3 rfl rfl rfl (nb rfl) rfl rfl (fun w436 hO => ?_))
   have hO : Own _ M437 ([(b22, .cells #[.int .i64 ((nth s.code.val.code at_.toNat).kind), .int .i64 ((nth s.code.val.code at_.toNat).r), .int .i64 0, .int .i64 ((nth s.code.val.code at_.toNat).b), .int .i64 ((nth s.code.val.code at_.toNat).k), .slice b18 (((nth s.code.val.code at_.toNat).args).length) c19, .int .i64 ((nth s.code.val.code at_.toNat).cost), .int .i64 ((nth s.code.val.code at_.toNat).mt), .int .i64 ((nth s.code.val.code at_.toNat).pc)] 38)] ++ bs) := hO
   refine rj (et (cx (ej (et (cq (cr (fb 1 tf_38_1 rfl hO rfl rfl (ry hO rfl (yl tl_3 tz rfl (fun _ h => ob h 0 1 rfl rfl)) (ry hO rfl (ye tz rfl rfl) ?_)))))))))
   refine mv hO rfl rfl ?_
   rcases bt (decide ((nth s.code.val.code at_.toNat).r = 0)) with h441 | h441
   ·
    have h442 : (nth s.code.val.code at_.toNat).r = 0 := ot h441
    refine ry hO rfl (yf 2 tf_38_2 rfl (by rw [h441]; rfl) rfl) (ry hO rfl (yl tl_3 (by rw [h441]; rfl) rfl (fun _ h => ob h 0 2 rfl rfl)) (ry hO rfl (ye (by rw [h441]; rfl) rfl rfl) (ry hO rfl (pt tz (by rw [h441]; rfl) rfl) (mv hO rfl rfl (ry hO rfl (yf 3 tf_38_3 rfl (by rw [(by decide : (decide ((0 : Int) = (0 : Int))) = true)]; rfl) rfl) (ry hO rfl (yl tl_3 (by rw [(by decide : (decide ((0 : Int) = (0 : Int))) = true)]; rfl) rfl (fun _ h => ob h 0 3 rfl rfl)) (ry hO rfl (ye (by rw [(by decide : (decide ((0 : Int) = (0 : Int))) = true)]; rfl) rfl rfl) (ry hO rfl (pt tz (by rw [(by decide : (decide ((0 : Int) = (0 : Int))) = true)]; rfl) rfl) (mv hO rfl rfl ?_)))))))))
    rcases bt (decide ((nth s.code.val.code at_.toNat).b = 0)) with h443 | h443
    ·
     have h444 : (nth s.code.val.code at_.toNat).b = 0 := ot h443
     refine ry hO rfl (yf 7 tf_38_7 rfl (by rw [h443]; rfl) rfl) (ry hO rfl (yl tl_3 (by rw [h443]; rfl) rfl (fun _ h => ob h 0 7 rfl rfl)) (ry hO rfl (ye (by rw [h443]; rfl) rfl rfl) (ry hO rfl (pt tz (by rw [h443]; rfl) rfl) (as_ hO rfl rfl (rj (ez (E' := [(4, .bool (decide ((nth s.code.val.code at_.toNat).mt = 0)))]) ⟨rfl, tz⟩ (et (ct (er (.inl rfl) rfl rfl ?_)))))))))
     refine Ret.mk hle440 (hO.forget) (congrArg Value.bool ?_)
     generalize (nth s.code.val.code at_.toNat) = x at *; first | (have h_1 := all_bad (s := s) (x := x) (k := k) (by omega) (by assumption); simp [insB, h_1]; done) | (have h_1 := all_done hreg (by omega); simp_all [insB, insZ]; done) | (simp_all [insB, insA]; done) | grind [insB, insA, insZ]
    have h445 : ¬ ((nth s.code.val.code at_.toNat).b = 0) := oq h443
    refine ry hO rfl (ek (by rw [h443]; rfl)) (ry hO rfl (ek (by rw [h443]; rfl)) (ry hO rfl (ek (by rw [h443]; rfl)) (ry hO rfl (pf tz (by rw [h443]; rfl) rfl) (as_ hO rfl rfl (rj (ez (E' := [(4, .bool false)]) ⟨rfl, tz⟩ (et (ct (er (.inl rfl) rfl rfl ?_)))))))))
    refine Ret.mk hle440 (hO.forget) (congrArg Value.bool ?_)
    generalize (nth s.code.val.code at_.toNat) = x at *; first | (have h_1 := all_bad (s := s) (x := x) (k := k) (by omega) (by assumption); simp [insB, h_1]; done) | (have h_1 := all_done hreg (by omega); simp_all [insB, insZ]; done) | (simp_all [insB, insA]; done) | grind [insB, insA, insZ]
   have h446 : ¬ ((nth s.code.val.code at_.toNat).r = 0) := oq h441
   refine ry hO rfl (ek (by rw [h441]; rfl)) (ry hO rfl (ek (by rw [h441]; rfl)) (ry hO rfl (ek (by rw [h441]; rfl)) (ry hO rfl (pf tz (by rw [h441]; rfl) rfl) (mv hO rfl rfl (ry hO rfl (ek rfl) (ry hO rfl (ek rfl) (ry hO rfl (ek rfl) (ry hO rfl (pf tz rfl rfl) (mv hO rfl rfl ?_)))))))))
   refine ry hO rfl (ek rfl) (ry hO rfl (ek rfl) (ry hO rfl (ek rfl) (ry hO rfl (pf tz rfl rfl) (as_ hO rfl rfl (rj (ez (E' := [(4, .bool false)]) ⟨rfl, tz⟩ (et (ct (er (.inl rfl) rfl rfl ?_)))))))))
   refine Ret.mk hle440 (hO.forget) (congrArg Value.bool ?_)
   generalize (nth s.code.val.code at_.toNat) = x at *; first | (have h_1 := all_bad (s := s) (x := x) (k := k) (by omega) (by assumption); simp [insB, h_1]; done) | (have h_1 := all_done hreg (by omega); simp_all [insB, insZ]; done) | (simp_all [insB, insA]; done) | grind [insB, insA, insZ]
  have h447 : ¬ ((nth s.code.val.code at_.toNat).kind = 8) := oq h434
  refine cp (et (cx (ep (by decide) (eh (ep (by decide) (eh (ej (et (cq ?_)))))))))
  refine cr (fb 1 tf_38_1 rfl hO rfl rfl (lc tl_3 at285 1 rfl hO rfl rfl (ry hO rfl (ye tz rfl rfl) (mv hO rfl rfl ?_))))
  rcases bt (decide ((nth s.code.val.code at_.toNat).r = 0)) with h448 | h448
  ·
   have h449 : (nth s.code.val.code at_.toNat).r = 0 := ot h448
   refine ry hO rfl (yf 2 tf_38_2 rfl (by rw [h448]; rfl) rfl) (ry hO rfl (yl tl_3 (by rw [h448]; rfl) rfl (fun _ h => at285.cell h 2 rfl)) (ry hO rfl (ye (by rw [h448]; rfl) rfl rfl) (ry hO rfl (pt tz (by rw [h448]; rfl) rfl) (mv hO rfl rfl ?_))))
   rcases bt (decide ((nth s.code.val.code at_.toNat).a = 0)) with h450 | h450
   ·
    have h451 : (nth s.code.val.code at_.toNat).a = 0 := ot h450
    refine ry hO rfl (yf 3 tf_38_3 rfl (by rw [h450]; rfl) rfl) (ry hO rfl (yl tl_3 (by rw [h450]; rfl) rfl (fun _ h => at285.cell h 3 rfl)) (ry hO rfl (ye (by rw [h450]; rfl) rfl rfl) (ry hO rfl (pt tz (by rw [h450]; rfl) rfl) (mv hO rfl rfl ?_))))
    rcases bt (decide ((nth s.code.val.code at_.toNat).b = 0)) with h452 | h452
    ·
     have h453 : (nth s.code.val.code at_.toNat).b = 0 := ot h452
     refine ry hO rfl (yf 7 tf_38_7 rfl (by rw [h452]; rfl) rfl) (ry hO rfl (yl tl_3 (by rw [h452]; rfl) rfl (fun _ h => at285.cell h 7 rfl)) (ry hO rfl (ye (by rw [h452]; rfl) rfl rfl) (ry hO rfl (pt tz (by rw [h452]; rfl) rfl) (as_ hO rfl rfl (rj (ez (E' := [(4, .bool (decide ((nth s.code.val.code at_.toNat).mt = 0)))]) ⟨rfl, tz⟩ (et (ct (er (.inl rfl) rfl rfl ?_)))))))))
     refine Ret.mk hle286 hO (congrArg Value.bool ?_)
     generalize (nth s.code.val.code at_.toNat) = x at *; first | (have h_1 := all_bad (s := s) (x := x) (k := k) (by omega) (by assumption); simp [insB, h_1]; done) | (have h_1 := all_done hreg (by omega); simp_all [insB, insZ]; done) | (simp_all [insB, insA]; done) | grind [insB, insA, insZ]
    have h454 : ¬ ((nth s.code.val.code at_.toNat).b = 0) := oq h452
    refine ry hO rfl (ek (by rw [h452]; rfl)) (ry hO rfl (ek (by rw [h452]; rfl)) (ry hO rfl (ek (by rw [h452]; rfl)) (ry hO rfl (pf tz (by rw [h452]; rfl) rfl) (as_ hO rfl rfl (rj (ez (E' := [(4, .bool false)]) ⟨rfl, tz⟩ (et (ct (er (.inl rfl) rfl rfl ?_)))))))))
    refine Ret.mk hle286 hO (congrArg Value.bool ?_)
    generalize (nth s.code.val.code at_.toNat) = x at *; first | (have h_1 := all_bad (s := s) (x := x) (k := k) (by omega) (by assumption); simp [insB, h_1]; done) | (have h_1 := all_done hreg (by omega); simp_all [insB, insZ]; done) | (simp_all [insB, insA]; done) | grind [insB, insA, insZ]
   have h455 : ¬ ((nth s.code.val.code at_.toNat).a = 0) := oq h450
   refine ry hO rfl (ek (by rw [h450]; rfl)) (ry hO rfl (ek (by rw [h450]; rfl)) (ry hO rfl (ek (by rw [h450]; rfl)) (ry hO rfl (pf tz (by rw [h450]; rfl) rfl) (mv hO rfl rfl (ry hO rfl (ek rfl) (ry hO rfl (ek rfl) (ry hO rfl (ek rfl) (ry hO rfl (pf tz rfl rfl) (as_ hO rfl rfl ?_)))))))))
   refine rj (ez (E' := [(4, .bool false)]) ⟨rfl, tz⟩ (et (ct (er (.inl rfl) rfl rfl ?_))))
   refine Ret.mk hle286 hO (congrArg Value.bool ?_)
   generalize (nth s.code.val.code at_.toNat) = x at *; first | (have h_1 := all_bad (s := s) (x := x) (k := k) (by omega) (by assumption); simp [insB, h_1]; done) | (have h_1 := all_done hreg (by omega); simp_all [insB, insZ]; done) | (simp_all [insB, insA]; done) | grind [insB, insA, insZ]
  have h456 : ¬ ((nth s.code.val.code at_.toNat).r = 0) := oq h448
  refine ry hO rfl (ek (by rw [h448]; rfl)) (ry hO rfl (ek (by rw [h448]; rfl)) (ry hO rfl (ek (by rw [h448]; rfl)) (ry hO rfl (pf tz (by rw [h448]; rfl) rfl) (mv hO rfl rfl (ry hO rfl (ek rfl) (ry hO rfl (ek rfl) (ry hO rfl (ek rfl) (ry hO rfl (pf tz rfl rfl) (mv hO rfl rfl ?_)))))))))
  refine ry hO rfl (ek rfl) (ry hO rfl (ek rfl) (ry hO rfl (ek rfl) (ry hO rfl (pf tz rfl rfl) (as_ hO rfl rfl (rj (ez (E' := [(4, .bool false)]) ⟨rfl, tz⟩ (et (ct (er (.inl rfl) rfl rfl ?_)))))))))
  refine Ret.mk hle286 hO (congrArg Value.bool ?_)
  generalize (nth s.code.val.code at_.toNat) = x at *; first | (have h_1 := all_bad (s := s) (x := x) (k := k) (by omega) (by assumption); simp [insB, h_1]; done) | (have h_1 := all_done hreg (by omega); simp_all [insB, insZ]; done) | (simp_all [insB, insA]; done) | grind [insB, insA, insZ]
 have le41 := mr M25
 refine cq (cq ?_)
 rcases bt (decide ((nth s.code.val.code at_.toNat).kind < 0)) with h459 | h459
 ·
  have h460 : (nth s.code.val.code at_.toNat).kind < 0 := ot h459
  obtain ⟨w461, hO, ew462⟩ : ∃ w', Own w' M25 (bs) ∧ { w24 with drawn := w24.drawn + 1 } = w' := ⟨_, hO.drawn _, rfl⟩
  refine cw (S := fun w => Own w M25 (bs)) (.take 0 (.take 1 (.take 2 (.take 3 (.take 4 (.take 5 (.take 6 (.take 7 (.take 8 (.take 9 (.take 10 (.take 11 (.take 12 (.take 13 (.take 14 (.take 15 (.take 16 (.take 17 (.take 18 (.take 19 (.take 20 (.take 21 (.take 22 (.take 23 (.take 24 (.take 25 (.take 26 (.take 27 (.take 28 (.take 29 (.take 30 (.take 31 (.take 32 (.take 33 (.take 34 (.take 35 (.take 36 (.take 37 (.take 38 (.take 39 (.take 40 (.take 41 (.take 42 (.take 43 (.take 44 (.take 45 (.take 46 (.take 47 (.take 48 (.take 49 (.take 50 (.take 51 (.take 52 (.take 53 (.take 54 (.take 55 (.take 56 (.take 57 (.take 58 (.take 59 (.take 60 (.take 61 (.take 62 .done))))))))))))))))))))))))))))))))))))))))))))))))))))))))))))))) 63 tm (by kernel_rfl) ew462 hO (hfb 0 tf_38_0 rfl rfl rfl (fun _ _ _ h => h) rfl (hlc tl_3 at40 0 rfl rfl rfl (fun _ _ _ h => h) rfl (gy rfl rfl (fun _ _ _ h => h) (yv tz rfl rfl) (hm rfl rfl (fun _ _ _ h => h) rfl (gy rfl rfl (fun _ _ _ h => h) (ek (by rw [h459]; rfl)) (gy rfl rfl (fun _ _ _ h => h) (ek (by rw [h459]; rfl)) (gy rfl rfl (fun _ _ _ h => h) (ek (by rw [h459]; rfl)) (gy rfl rfl (fun _ _ _ h => h) (pt tz (by rw [h459]; rfl) rfl) (hm rfl rfl (fun _ _ _ h => h) rfl ?_)))))))))
  refine gy rfl rfl (fun _ _ _ h => h) (ek rfl) (gy rfl rfl (fun _ _ _ h => h) (ek rfl) (gy rfl rfl (fun _ _ _ h => h) (ek rfl) (gy rfl rfl (fun _ _ _ h => h) (pt tz rfl rfl) (hm rfl rfl (fun _ _ _ h => h) rfl (gy rfl rfl (fun _ _ _ h => h) (ek rfl) (gy rfl rfl (fun _ _ _ h => h) (ek rfl) (gy rfl rfl (fun _ _ _ h => h) (ek rfl) (gy rfl rfl (fun _ _ _ h => h) (ek rfl) (gy rfl rfl (fun _ _ _ h => h) (pt tz rfl rfl) ?_)))))))))
  refine hm rfl rfl (fun _ _ _ h => h) rfl (gy rfl rfl (fun _ _ _ h => h) (ek rfl) (gy rfl rfl (fun _ _ _ h => h) (ek rfl) (gy rfl rfl (fun _ _ _ h => h) (ek rfl) (gy rfl rfl (fun _ _ _ h => h) (pt tz rfl rfl) (hm rfl rfl (fun _ _ _ h => h) rfl (gy rfl rfl (fun _ _ _ h => h) (ek rfl) (gy rfl rfl (fun _ _ _ h => h) (ek rfl) (gy rfl rfl (fun _ _ _ h => h) (ek rfl) (gy rfl rfl (fun _ _ _ h => h) (pt tz rfl rfl) ?_)))))))))
  refine hm rfl rfl (fun _ _ _ h => h) rfl (gy rfl rfl (fun _ _ _ h => h) (ek rfl) (gy rfl rfl (fun _ _ _ h => h) (ek rfl) (gy rfl rfl (fun _ _ _ h => h) (ek rfl) (gy rfl rfl (fun _ _ _ h => h) (ek rfl) (gy rfl rfl (fun _ _ _ h => h) (yu rfl) (gy rfl rfl (fun _ _ _ h => h) (yu rfl) (gy rfl rfl (fun _ _ _ h => h) (yu rfl) (gy rfl rfl (fun _ _ _ h => h) (yu rfl) (gy rfl rfl (fun _ _ _ h => h) (yu rfl) ?_)))))))))
  refine gy rfl rfl (fun _ _ _ h => h) (yu rfl) (gy rfl rfl (fun _ _ _ h => h) (yu rfl) (gy rfl rfl (fun _ _ _ h => h) (yu rfl) (gy rfl rfl (fun _ _ _ h => h) (yu rfl) (gy rfl rfl (fun _ _ _ h => h) (yu rfl) (gy rfl rfl (fun _ _ _ h => h) (yu rfl) (gy rfl rfl (fun _ _ _ h => h) (yu rfl) (gy rfl rfl (fun _ _ _ h => h) (yu rfl) (gy rfl rfl (fun _ _ _ h => h) (yu rfl) (gy rfl rfl (fun _ _ _ h => h) (yu rfl) ?_)))))))))
  refine gy rfl rfl (fun _ _ _ h => h) (yu rfl) (gy rfl rfl (fun _ _ _ h => h) (ek rfl) (gy rfl rfl (fun _ _ _ h => h) (pt tz rfl rfl) (hm rfl rfl (fun _ _ _ h => h) rfl (gy rfl rfl (fun _ _ _ h => h) (ek rfl) (gy rfl rfl (fun _ _ _ h => h) (ek rfl) (gy rfl rfl (fun _ _ _ h => h) (ek rfl) (gy rfl rfl (fun _ _ _ h => h) (ek rfl) (gy rfl rfl (fun _ _ _ h => h) (yu rfl) (gy rfl rfl (fun _ _ _ h => h) (yu rfl) ?_)))))))))
  refine gy rfl rfl (fun _ _ _ h => h) (yu rfl) (gy rfl rfl (fun _ _ _ h => h) (yu rfl) (gy rfl rfl (fun _ _ _ h => h) (ek rfl) (gy rfl rfl (fun _ _ _ h => h) (pt tz rfl rfl) (gd (ez (E' := [(0, .pointer (some p_s)), (4, .bool false), (5, .pointer (some ⟨b22, 0, none⟩)), (80, .bool true)]) ⟨rfl, rfl, rfl, rfl, tz⟩ (et (cv rfl (cq (cr ?_)))))))))
  refine as_ hO rfl rfl (rj (et (ct (ew' (er (.inl rfl) rfl rfl ?_)))))
  refine Ret.mk hle39 hO (congrArg Value.bool ?_)
  generalize (nth s.code.val.code at_.toNat) = x at *; first | (have h_1 := all_bad (s := s) (x := x) (k := k) (by omega) (by assumption); simp [insB, h_1]; done) | (have h_1 := all_done hreg (by omega); simp_all [insB, insZ]; done) | (simp_all [insB, insA]; done) | grind [insB, insA, insZ]
 have h463 : ¬ ((nth s.code.val.code at_.toNat).kind < 0) := oq h459
 rcases bt (decide (11 < (nth s.code.val.code at_.toNat).kind)) with h466 | h466
 ·
  have h467 : 11 < (nth s.code.val.code at_.toNat).kind := ot h466
  obtain ⟨w468, hO, ew469⟩ : ∃ w', Own w' M25 (bs) ∧ { w24 with drawn := w24.drawn + 1 } = w' := ⟨_, hO.drawn _, rfl⟩
  refine cw (S := fun w => Own w M25 (bs)) (.take 0 (.take 1 (.take 2 (.take 3 (.take 4 (.take 5 (.take 6 (.take 7 (.take 8 (.take 9 (.take 10 (.take 11 (.take 12 (.take 13 (.take 14 (.take 15 (.take 16 (.take 17 (.take 18 (.take 19 (.take 20 (.take 21 (.take 22 (.take 23 (.take 24 (.take 25 (.take 26 (.take 27 (.take 28 (.take 29 (.take 30 (.take 31 (.take 32 (.take 33 (.take 34 (.take 35 (.take 36 (.take 37 (.take 38 (.take 39 (.take 40 (.take 41 (.take 42 (.take 43 (.take 44 (.take 45 (.take 46 (.take 47 (.take 48 (.take 49 (.take 50 (.take 51 (.take 52 (.take 53 (.take 54 (.take 55 (.take 56 (.take 57 (.take 58 (.take 59 (.take 60 (.take 61 (.take 62 .done))))))))))))))))))))))))))))))))))))))))))))))))))))))))))))))) 63 tm (by kernel_rfl) ew469 hO (hfb 0 tf_38_0 rfl rfl rfl (fun _ _ _ h => h) rfl (hlc tl_3 at40 0 rfl rfl rfl (fun _ _ _ h => h) rfl (gy rfl rfl (fun _ _ _ h => h) (yv tz rfl rfl) (hm rfl rfl (fun _ _ _ h => h) rfl (gy rfl rfl (fun _ _ _ h => h) (yf 0 tf_38_0 rfl (by rw [h459]; rfl) rfl) (gy rfl rfl (fun _ _ _ h => h) (yl tl_3 (by rw [h459]; rfl) rfl (fun _ h => at40.cell h 0 rfl)) (gy rfl rfl (fun _ _ _ h => h) (y_gt (by rw [h459]; rfl) rfl rfl) (gy rfl rfl (fun _ _ _ h => h) (pf tz (by rw [h459]; rfl) rfl) (hm rfl rfl (fun _ _ _ h => h) rfl ?_)))))))))
  refine gy rfl rfl (fun _ _ _ h => h) (ek (by rw [h466]; rfl)) (gy rfl rfl (fun _ _ _ h => h) (ek (by rw [h466]; rfl)) (gy rfl rfl (fun _ _ _ h => h) (ek (by rw [h466]; rfl)) (gy rfl rfl (fun _ _ _ h => h) (pt tz (by rw [h466]; rfl) rfl) (hm rfl rfl (fun _ _ _ h => h) rfl (gy rfl rfl (fun _ _ _ h => h) (ek rfl) (gy rfl rfl (fun _ _ _ h => h) (ek rfl) (gy rfl rfl (fun _ _ _ h => h) (ek rfl) (gy rfl rfl (fun _ _ _ h => h) (ek rfl) (gy rfl rfl (fun _ _ _ h => h) (pt tz rfl rfl) ?_)))))))))
  refine hm rfl rfl (fun _ _ _ h => h) rfl (gy rfl rfl (fun _ _ _ h => h) (ek rfl) (gy rfl rfl (fun _ _ _ h => h) (ek rfl) (gy rfl rfl (fun _ _ _ h => h) (ek rfl) (gy rfl rfl (fun _ _ _ h => h) (pt tz rfl rfl) (hm rfl rfl (fun _ _ _ h => h) rfl (gy rfl rfl (fun _ _ _ h => h) (ek rfl) (gy rfl rfl (fun _ _ _ h => h) (ek rfl) (gy rfl rfl (fun _ _ _ h => h) (ek rfl) (gy rfl rfl (fun _ _ _ h => h) (pt tz rfl rfl) ?_)))))))))
  refine hm rfl rfl (fun _ _ _ h => h) rfl (gy rfl rfl (fun _ _ _ h => h) (ek rfl) (gy rfl rfl (fun _ _ _ h => h) (ek rfl) (gy rfl rfl (fun _ _ _ h => h) (ek rfl) (gy rfl rfl (fun _ _ _ h => h) (ek rfl) (gy rfl rfl (fun _ _ _ h => h) (yu rfl) (gy rfl rfl (fun _ _ _ h => h) (yu rfl) (gy rfl rfl (fun _ _ _ h => h) (yu rfl) (gy rfl rfl (fun _ _ _ h => h) (yu rfl) (gy rfl rfl (fun _ _ _ h => h) (yu rfl) ?_)))))))))
  refine gy rfl rfl (fun _ _ _ h => h) (yu rfl) (gy rfl rfl (fun _ _ _ h => h) (yu rfl) (gy rfl rfl (fun _ _ _ h => h) (yu rfl) (gy rfl rfl (fun _ _ _ h => h) (yu rfl) (gy rfl rfl (fun _ _ _ h => h) (yu rfl) (gy rfl rfl (fun _ _ _ h => h) (yu rfl) (gy rfl rfl (fun _ _ _ h => h) (yu rfl) (gy rfl rfl (fun _ _ _ h => h) (yu rfl) (gy rfl rfl (fun _ _ _ h => h) (yu rfl) (gy rfl rfl (fun _ _ _ h => h) (yu rfl) ?_)))))))))
  refine gy rfl rfl (fun _ _ _ h => h) (yu rfl) (gy rfl rfl (fun _ _ _ h => h) (ek rfl) (gy rfl rfl (fun _ _ _ h => h) (pt tz rfl rfl) (hm rfl rfl (fun _ _ _ h => h) rfl (gy rfl rfl (fun _ _ _ h => h) (ek rfl) (gy rfl rfl (fun _ _ _ h => h) (ek rfl) (gy rfl rfl (fun _ _ _ h => h) (ek rfl) (gy rfl rfl (fun _ _ _ h => h) (ek rfl) (gy rfl rfl (fun _ _ _ h => h) (yu rfl) (gy rfl rfl (fun _ _ _ h => h) (yu rfl) ?_)))))))))
  refine gy rfl rfl (fun _ _ _ h => h) (yu rfl) (gy rfl rfl (fun _ _ _ h => h) (yu rfl) (gy rfl rfl (fun _ _ _ h => h) (ek rfl) (gy rfl rfl (fun _ _ _ h => h) (pt tz rfl rfl) (gd (ez (E' := [(0, .pointer (some p_s)), (4, .bool false), (5, .pointer (some ⟨b22, 0, none⟩)), (80, .bool true)]) ⟨rfl, rfl, rfl, rfl, tz⟩ (et (cv rfl (cq (cr ?_)))))))))
  refine as_ hO rfl rfl (rj (et (ct (ew' (er (.inl rfl) rfl rfl ?_)))))
  refine Ret.mk hle39 hO (congrArg Value.bool ?_)
  generalize (nth s.code.val.code at_.toNat) = x at *; first | (have h_1 := all_bad (s := s) (x := x) (k := k) (by omega) (by assumption); simp [insB, h_1]; done) | (have h_1 := all_done hreg (by omega); simp_all [insB, insZ]; done) | (simp_all [insB, insA]; done) | grind [insB, insA, insZ]
 have h470 : ¬ (11 < (nth s.code.val.code at_.toNat).kind) := oq h466
 rcases bt (!(kB s (nth s.code.val.code at_.toNat))) with h473 | h473
 ·
  have h474 : (kB s (nth s.code.val.code at_.toNat)) = false := by simpa using h473
  obtain ⟨w475, hO, ew476⟩ : ∃ w', Own w' M25 (bs) ∧ { w24 with drawn := w24.drawn + 1 } = w' := ⟨_, hO.drawn _, rfl⟩
  refine cw (S := fun w => Own w M25 (bs)) (.take 0 (.take 1 (.take 2 (.take 3 (.take 4 (.take 5 (.take 6 (.take 7 (.take 8 (.take 9 (.one 10 (.take 11 (.take 12 (.take 13 (.take 14 (.take 15 (.take 16 (.take 17 (.take 18 (.take 19 (.take 20 (.take 21 (.take 22 (.take 23 (.take 24 (.take 25 (.take 26 (.take 27 (.take 28 (.take 29 (.take 30 (.take 31 (.take 32 (.take 33 (.take 34 (.take 35 (.take 36 (.take 37 (.take 38 (.take 39 (.take 40 (.take 41 (.take 42 (.take 43 (.take 44 (.take 45 (.take 46 (.take 47 (.take 48 (.take 49 (.take 50 (.take 51 (.take 52 (.take 53 (.take 54 (.take 55 (.take 56 (.take 57 (.take 58 (.take 59 (.take 60 (.take 61 (.take 62 .done))))))))))))))))))))))))))))))))))))))))))))))))))))))))))))))) 63 tm (by kernel_rfl) ew476 hO (hfb 0 tf_38_0 rfl rfl rfl (fun _ _ _ h => h) rfl (hlc tl_3 at40 0 rfl rfl rfl (fun _ _ _ h => h) rfl (gy rfl rfl (fun _ _ _ h => h) (yv tz rfl rfl) (hm rfl rfl (fun _ _ _ h => h) rfl (gy rfl rfl (fun _ _ _ h => h) (yf 0 tf_38_0 rfl (by rw [h459]; rfl) rfl) (gy rfl rfl (fun _ _ _ h => h) (yl tl_3 (by rw [h459]; rfl) rfl (fun _ h => at40.cell h 0 rfl)) (gy rfl rfl (fun _ _ _ h => h) (y_gt (by rw [h459]; rfl) rfl rfl) (gy rfl rfl (fun _ _ _ h => h) (pf tz (by rw [h459]; rfl) rfl) (hm rfl rfl (fun _ _ _ h => h) rfl ?_)))))))))
  refine gy rfl rfl (fun _ _ _ h => h) (ym (by rw [h466]; rfl) rfl) (hn' rfl (by rw [h466]; rfl) (oc (vs := [.pointer (some p_s), .pointer (some ⟨b22, 0, none⟩)]) tcall_31 rfl rfl (c_k s (nth s.code.val.code at_.toNat) h30 ⟨_, at40, ⟨b18, c19, rfl, s38⟩⟩ hO) ?_))
  rintro _ w477 ⟨M478, _, le479, hO, rfl, rfl⟩
  refine ⟨_, rfl, ?_⟩
  have hO := hO.less le479
  refine kg_s hO (gy rfl rfl (fun _ _ _ h => h) (yt (by rw [h466]; rfl) rfl) (gy rfl rfl (fun _ _ _ h => h) (pf tz (by rw [h466]; rfl) rfl) (hm rfl rfl (fun _ _ _ h => h) rfl (gy rfl rfl (fun _ _ _ h => h) (ek (by rw [h473]; rfl)) (gy rfl rfl (fun _ _ _ h => h) (ek (by rw [h473]; rfl)) (gy rfl rfl (fun _ _ _ h => h) (ek (by rw [h473]; rfl)) (gy rfl rfl (fun _ _ _ h => h) (ek (by rw [h473]; rfl)) (gy rfl rfl (fun _ _ _ h => h) (pt tz (by rw [h473]; rfl) rfl) (hm rfl rfl (fun _ _ _ h => h) rfl ?_)))))))))
  refine gy rfl rfl (fun _ _ _ h => h) (ek rfl) (gy rfl rfl (fun _ _ _ h => h) (ek rfl) (gy rfl rfl (fun _ _ _ h => h) (ek rfl) (gy rfl rfl (fun _ _ _ h => h) (pt tz rfl rfl) (hm rfl rfl (fun _ _ _ h => h) rfl (gy rfl rfl (fun _ _ _ h => h) (ek rfl) (gy rfl rfl (fun _ _ _ h => h) (ek rfl) (gy rfl rfl (fun _ _ _ h => h) (ek rfl) (gy rfl rfl (fun _ _ _ h => h) (pt tz rfl rfl) (hm rfl rfl (fun _ _ _ h => h) rfl ?_)))))))))
  refine gy rfl rfl (fun _ _ _ h => h) (ek rfl) (gy rfl rfl (fun _ _ _ h => h) (ek rfl) (gy rfl rfl (fun _ _ _ h => h) (ek rfl) (gy rfl rfl (fun _ _ _ h => h) (ek rfl) (gy rfl rfl (fun _ _ _ h => h) (yu rfl) (gy rfl rfl (fun _ _ _ h => h) (yu rfl) (gy rfl rfl (fun _ _ _ h => h) (yu rfl) (gy rfl rfl (fun _ _ _ h => h) (yu rfl) (gy rfl rfl (fun _ _ _ h => h) (yu rfl) (gy rfl rfl (fun _ _ _ h => h) (yu rfl) ?_)))))))))
  refine gy rfl rfl (fun _ _ _ h => h) (yu rfl) (gy rfl rfl (fun _ _ _ h => h) (yu rfl) (gy rfl rfl (fun _ _ _ h => h) (yu rfl) (gy rfl rfl (fun _ _ _ h => h) (yu rfl) (gy rfl rfl (fun _ _ _ h => h) (yu rfl) (gy rfl rfl (fun _ _ _ h => h) (yu rfl) (gy rfl rfl (fun _ _ _ h => h) (yu rfl) (gy rfl rfl (fun _ _ _ h => h) (yu rfl) (gy rfl rfl (fun _ _ _ h => h) (yu rfl) (gy rfl rfl (fun _ _ _ h => h) (yu rfl) ?_)))))))))
  refine gy rfl rfl (fun _ _ _ h => h) (ek rfl) (gy rfl rfl (fun _ _ _ h => h) (pt tz rfl rfl) (hm rfl rfl (fun _ _ _ h => h) rfl (gy rfl rfl (fun _ _ _ h => h) (ek rfl) (gy rfl rfl (fun _ _ _ h => h) (ek rfl) (gy rfl rfl (fun _ _ _ h => h) (ek rfl) (gy rfl rfl (fun _ _ _ h => h) (ek rfl) (gy rfl rfl (fun _ _ _ h => h) (yu rfl) (gy rfl rfl (fun _ _ _ h => h) (yu rfl) (gy rfl rfl (fun _ _ _ h => h) (yu rfl) ?_)))))))))
  refine gy rfl rfl (fun _ _ _ h => h) (yu rfl) (gy rfl rfl (fun _ _ _ h => h) (ek rfl) (gy rfl rfl (fun _ _ _ h => h) (pt tz rfl rfl) (gd (ez (E' := [(0, .pointer (some p_s)), (4, .bool false), (5, .pointer (some ⟨b22, 0, none⟩)), (80, .bool true)]) ⟨rfl, rfl, rfl, rfl, tz⟩ (et (cv rfl (cq (cr (as_ hO rfl rfl ?_)))))))))
  refine rj (et (ct (ew' (er (.inl rfl) rfl rfl ?_))))
  refine Ret.mk hle39 hO (congrArg Value.bool ?_)
  generalize (nth s.code.val.code at_.toNat) = x at *; first | (have h_1 := all_bad (s := s) (x := x) (k := k) (by omega) (by assumption); simp [insB, h_1]; done) | (have h_1 := all_done hreg (by omega); simp_all [insB, insZ]; done) | (simp_all [insB, insA]; done) | grind [insB, insA, insZ]
 have h480 : (kB s (nth s.code.val.code at_.toNat)) = true := by simpa using h473
 rcases bt (!(dearB at_ (nth s.code.val.code at_.toNat))) with h483 | h483
 ·
  have h484 : (dearB at_ (nth s.code.val.code at_.toNat)) = false := by simpa using h483
  obtain ⟨w485, hO, ew486⟩ : ∃ w', Own w' M25 (bs) ∧ { w24 with drawn := w24.drawn + 1 } = w' := ⟨_, hO.drawn _, rfl⟩
  refine cw (S := fun w => Own w M25 (bs)) (.take 0 (.take 1 (.take 2 (.take 3 (.take 4 (.take 5 (.take 6 (.take 7 (.take 8 (.take 9 (.one 10 (.take 11 (.take 12 (.take 13 (.take 14 (.take 15 (.one 16 (.take 17 (.take 18 (.take 19 (.take 20 (.take 21 (.take 22 (.take 23 (.take 24 (.take 25 (.take 26 (.take 27 (.take 28 (.take 29 (.take 30 (.take 31 (.take 32 (.take 33 (.take 34 (.take 35 (.take 36 (.take 37 (.take 38 (.take 39 (.take 40 (.take 41 (.take 42 (.take 43 (.take 44 (.take 45 (.take 46 (.take 47 (.take 48 (.take 49 (.take 50 (.take 51 (.take 52 (.take 53 (.take 54 (.take 55 (.take 56 (.take 57 (.take 58 (.take 59 (.take 60 (.take 61 (.take 62 .done))))))))))))))))))))))))))))))))))))))))))))))))))))))))))))))) 63 tm (by kernel_rfl) ew486 hO (hfb 0 tf_38_0 rfl rfl rfl (fun _ _ _ h => h) rfl (hlc tl_3 at40 0 rfl rfl rfl (fun _ _ _ h => h) rfl (gy rfl rfl (fun _ _ _ h => h) (yv tz rfl rfl) (hm rfl rfl (fun _ _ _ h => h) rfl (gy rfl rfl (fun _ _ _ h => h) (yf 0 tf_38_0 rfl (by rw [h459]; rfl) rfl) (gy rfl rfl (fun _ _ _ h => h) (yl tl_3 (by rw [h459]; rfl) rfl (fun _ h => at40.cell h 0 rfl)) (gy rfl rfl (fun _ _ _ h => h) (y_gt (by rw [h459]; rfl) rfl rfl) (gy rfl rfl (fun _ _ _ h => h) (pf tz (by rw [h459]; rfl) rfl) (hm rfl rfl (fun _ _ _ h => h) rfl ?_)))))))))
  refine gy rfl rfl (fun _ _ _ h => h) (ym (by rw [h466]; rfl) rfl) (hn' rfl (by rw [h466]; rfl) (oc (vs := [.pointer (some p_s), .pointer (some ⟨b22, 0, none⟩)]) tcall_31 rfl rfl (c_k s (nth s.code.val.code at_.toNat) h30 ⟨_, at40, ⟨b18, c19, rfl, s38⟩⟩ hO) ?_))
  rintro _ w487 ⟨M488, _, le489, hO, rfl, rfl⟩
  refine ⟨_, rfl, ?_⟩
  have hO := hO.less le489
  refine kg_s hO (gy rfl rfl (fun _ _ _ h => h) (yt (by rw [h466]; rfl) rfl) (gy rfl rfl (fun _ _ _ h => h) (pf tz (by rw [h466]; rfl) rfl) (hm rfl rfl (fun _ _ _ h => h) rfl (gy rfl rfl (fun _ _ _ h => h) (ym (by rw [h473]; rfl) rfl) (gy rfl rfl (fun _ _ _ h => h) (ym (by rw [h473]; rfl) rfl) (hn' rfl (by rw [h473]; rfl) (oc (vs := [.pointer (some p_s), .int .i64 at_, .pointer (some ⟨b22, 0, none⟩)]) tcall_32 rfl rfl (c_dear s at_ (nth s.code.val.code at_.toNat) h30 ⟨_, at40, ⟨b18, c19, rfl, s38⟩⟩ hO) ?_)))))))
  rintro _ w490 ⟨M491, _, le492, hO, rfl, rfl⟩
  refine ⟨_, rfl, ?_⟩
  have hO := hO.less le492
  refine kg_s hO (gy rfl rfl (fun _ _ _ h => h) (yt (by rw [h473]; rfl) rfl) (gy rfl rfl (fun _ _ _ h => h) (pf tz (by rw [h473]; rfl) rfl) (hm rfl rfl (fun _ _ _ h => h) rfl (gy rfl rfl (fun _ _ _ h => h) (ek (by rw [h483]; rfl)) (gy rfl rfl (fun _ _ _ h => h) (ek (by rw [h483]; rfl)) (gy rfl rfl (fun _ _ _ h => h) (ek (by rw [h483]; rfl)) (gy rfl rfl (fun _ _ _ h => h) (pt tz (by rw [h483]; rfl) rfl) (hm rfl rfl (fun _ _ _ h => h) rfl (gy rfl rfl (fun _ _ _ h => h) (ek rfl) ?_)))))))))
  refine gy rfl rfl (fun _ _ _ h => h) (ek rfl) (gy rfl rfl (fun _ _ _ h => h) (ek rfl) (gy rfl rfl (fun _ _ _ h => h) (pt tz rfl rfl) (hm rfl rfl (fun _ _ _ h => h) rfl (gy rfl rfl (fun _ _ _ h => h) (ek rfl) (gy rfl rfl (fun _ _ _ h => h) (ek rfl) (gy rfl rfl (fun _ _ _ h => h) (ek rfl) (gy rfl rfl (fun _ _ _ h => h) (ek rfl) (gy rfl rfl (fun _ _ _ h => h) (yu rfl) (gy rfl rfl (fun _ _ _ h => h) (yu rfl) ?_)))))))))
  refine gy rfl rfl (fun _ _ _ h => h) (yu rfl) (gy rfl rfl (fun _ _ _ h => h) (yu rfl) (gy rfl rfl (fun _ _ _ h => h) (yu rfl) (gy rfl rfl (fun _ _ _ h => h) (yu rfl) (gy rfl rfl (fun _ _ _ h => h) (yu rfl) (gy rfl rfl (fun _ _ _ h => h) (yu rfl) (gy rfl rfl (fun _ _ _ h => h) (yu rfl) (gy rfl rfl (fun _ _ _ h => h) (yu rfl) (gy rfl rfl (fun _ _ _ h => h) (yu rfl) (gy rfl rfl (fun _ _ _ h => h) (yu rfl) ?_)))))))))
  refine gy rfl rfl (fun _ _ _ h => h) (yu rfl) (gy rfl rfl (fun _ _ _ h => h) (yu rfl) (gy rfl rfl (fun _ _ _ h => h) (yu rfl) (gy rfl rfl (fun _ _ _ h => h) (yu rfl) (gy rfl rfl (fun _ _ _ h => h) (ek rfl) (gy rfl rfl (fun _ _ _ h => h) (pt tz rfl rfl) (hm rfl rfl (fun _ _ _ h => h) rfl (gy rfl rfl (fun _ _ _ h => h) (ek rfl) (gy rfl rfl (fun _ _ _ h => h) (ek rfl) (gy rfl rfl (fun _ _ _ h => h) (ek rfl) ?_)))))))))
  refine gy rfl rfl (fun _ _ _ h => h) (ek rfl) (gy rfl rfl (fun _ _ _ h => h) (yu rfl) (gy rfl rfl (fun _ _ _ h => h) (yu rfl) (gy rfl rfl (fun _ _ _ h => h) (yu rfl) (gy rfl rfl (fun _ _ _ h => h) (yu rfl) (gy rfl rfl (fun _ _ _ h => h) (ek rfl) (gy rfl rfl (fun _ _ _ h => h) (pt tz rfl rfl) (gd (ez (E' := [(0, .pointer (some p_s)), (4, .bool false), (5, .pointer (some ⟨b22, 0, none⟩)), (80, .bool true)]) ⟨rfl, rfl, rfl, rfl, tz⟩ (et ?_)))))))))
  refine cv rfl (cq (cr (as_ hO rfl rfl (rj (et (ct (ew' (er (.inl rfl) rfl rfl ?_))))))))
  refine Ret.mk hle39 hO (congrArg Value.bool ?_)
  generalize (nth s.code.val.code at_.toNat) = x at *; first | (have h_1 := all_bad (s := s) (x := x) (k := k) (by omega) (by assumption); simp [insB, h_1]; done) | (have h_1 := all_done hreg (by omega); simp_all [insB, insZ]; done) | (simp_all [insB, insA]; done) | grind [insB, insA, insZ]
 have h493 : (dearB at_ (nth s.code.val.code at_.toNat)) = true := by simpa using h483
 rcases bt (decide ((nth s.code.val.code at_.toNat).pc < 0)) with h496 | h496
 ·
  have h497 : (nth s.code.val.code at_.toNat).pc < 0 := ot h496
  obtain ⟨w498, hO, ew499⟩ : ∃ w', Own w' M25 (bs) ∧ { w24 with drawn := w24.drawn + 1 } = w' := ⟨_, hO.drawn _, rfl⟩
  refine cw (S := fun w => Own w M25 (bs)) (.take 0 (.take 1 (.take 2 (.take 3 (.take 4 (.take 5 (.take 6 (.take 7 (.take 8 (.take 9 (.one 10 (.take 11 (.take 12 (.take 13 (.take 14 (.take 15 (.one 16 (.take 17 (.take 18 (.take 19 (.take 20 (.take 21 (.take 22 (.take 23 (.take 24 (.take 25 (.take 26 (.take 27 (.take 28 (.take 29 (.take 30 (.take 31 (.take 32 (.take 33 (.take 34 (.take 35 (.take 36 (.take 37 (.take 38 (.take 39 (.take 40 (.take 41 (.take 42 (.take 43 (.take 44 (.take 45 (.take 46 (.take 47 (.take 48 (.take 49 (.take 50 (.take 51 (.take 52 (.take 53 (.take 54 (.take 55 (.take 56 (.take 57 (.take 58 (.take 59 (.take 60 (.take 61 (.take 62 .done))))))))))))))))))))))))))))))))))))))))))))))))))))))))))))))) 63 tm (by kernel_rfl) ew499 hO (hfb 0 tf_38_0 rfl rfl rfl (fun _ _ _ h => h) rfl (hlc tl_3 at40 0 rfl rfl rfl (fun _ _ _ h => h) rfl (gy rfl rfl (fun _ _ _ h => h) (yv tz rfl rfl) (hm rfl rfl (fun _ _ _ h => h) rfl (gy rfl rfl (fun _ _ _ h => h) (yf 0 tf_38_0 rfl (by rw [h459]; rfl) rfl) (gy rfl rfl (fun _ _ _ h => h) (yl tl_3 (by rw [h459]; rfl) rfl (fun _ h => at40.cell h 0 rfl)) (gy rfl rfl (fun _ _ _ h => h) (y_gt (by rw [h459]; rfl) rfl rfl) (gy rfl rfl (fun _ _ _ h => h) (pf tz (by rw [h459]; rfl) rfl) (hm rfl rfl (fun _ _ _ h => h) rfl ?_)))))))))
  refine gy rfl rfl (fun _ _ _ h => h) (ym (by rw [h466]; rfl) rfl) (hn' rfl (by rw [h466]; rfl) (oc (vs := [.pointer (some p_s), .pointer (some ⟨b22, 0, none⟩)]) tcall_31 rfl rfl (c_k s (nth s.code.val.code at_.toNat) h30 ⟨_, at40, ⟨b18, c19, rfl, s38⟩⟩ hO) ?_))
  rintro _ w500 ⟨M501, _, le502, hO, rfl, rfl⟩
  refine ⟨_, rfl, ?_⟩
  have hO := hO.less le502
  refine kg_s hO (gy rfl rfl (fun _ _ _ h => h) (yt (by rw [h466]; rfl) rfl) (gy rfl rfl (fun _ _ _ h => h) (pf tz (by rw [h466]; rfl) rfl) (hm rfl rfl (fun _ _ _ h => h) rfl (gy rfl rfl (fun _ _ _ h => h) (ym (by rw [h473]; rfl) rfl) (gy rfl rfl (fun _ _ _ h => h) (ym (by rw [h473]; rfl) rfl) (hn' rfl (by rw [h473]; rfl) (oc (vs := [.pointer (some p_s), .int .i64 at_, .pointer (some ⟨b22, 0, none⟩)]) tcall_32 rfl rfl (c_dear s at_ (nth s.code.val.code at_.toNat) h30 ⟨_, at40, ⟨b18, c19, rfl, s38⟩⟩ hO) ?_)))))))
  rintro _ w503 ⟨M504, _, le505, hO, rfl, rfl⟩
  refine ⟨_, rfl, ?_⟩
  have hO := hO.less le505
  refine kg_s hO (gy rfl rfl (fun _ _ _ h => h) (yt (by rw [h473]; rfl) rfl) (gy rfl rfl (fun _ _ _ h => h) (pf tz (by rw [h473]; rfl) rfl) (hm rfl rfl (fun _ _ _ h => h) rfl (gy rfl rfl (fun _ _ _ h => h) (yf 8 tf_38_8 rfl (by rw [h483]; rfl) rfl) (gy rfl rfl (fun _ _ _ h => h) (yl tl_3 (by rw [h483]; rfl) rfl (fun _ h => at40.cell h 8 rfl)) (gy rfl rfl (fun _ _ _ h => h) (yv (by rw [h483]; rfl) rfl rfl) (gy rfl rfl (fun _ _ _ h => h) (pf tz (by rw [h483]; rfl) rfl) (hm rfl rfl (fun _ _ _ h => h) rfl (gy rfl rfl (fun _ _ _ h => h) (ek (by rw [h496]; rfl)) ?_)))))))))
  refine gy rfl rfl (fun _ _ _ h => h) (ek (by rw [h496]; rfl)) (gy rfl rfl (fun _ _ _ h => h) (ek (by rw [h496]; rfl)) (gy rfl rfl (fun _ _ _ h => h) (pt tz (by rw [h496]; rfl) rfl) (hm rfl rfl (fun _ _ _ h => h) rfl (gy rfl rfl (fun _ _ _ h => h) (ek rfl) (gy rfl rfl (fun _ _ _ h => h) (ek rfl) (gy rfl rfl (fun _ _ _ h => h) (ek rfl) (gy rfl rfl (fun _ _ _ h => h) (ek rfl) (gy rfl rfl (fun _ _ _ h => h) (yu rfl) (gy rfl rfl (fun _ _ _ h => h) (yu rfl) ?_)))))))))
  refine gy rfl rfl (fun _ _ _ h => h) (yu rfl) (gy rfl rfl (fun _ _ _ h => h) (yu rfl) (gy rfl rfl (fun _ _ _ h => h) (yu rfl) (gy rfl rfl (fun _ _ _ h => h) (yu rfl) (gy rfl rfl (fun _ _ _ h => h) (yu rfl) (gy rfl rfl (fun _ _ _ h => h) (yu rfl) (gy rfl rfl (fun _ _ _ h => h) (yu rfl) (gy rfl rfl (fun _ _ _ h => h) (yu rfl) (gy rfl rfl (fun _ _ _ h => h) (yu rfl) (gy rfl rfl (fun _ _ _ h => h) (yu rfl) ?_)))))))))
  refine gy rfl rfl (fun _ _ _ h => h) (yu rfl) (gy rfl rfl (fun _ _ _ h => h) (yu rfl) (gy rfl rfl (fun _ _ _ h => h) (yu rfl) (gy rfl rfl (fun _ _ _ h => h) (yu rfl) (gy rfl rfl (fun _ _ _ h => h) (ek rfl) (gy rfl rfl (fun _ _ _ h => h) (pt tz rfl rfl) (hm rfl rfl (fun _ _ _ h => h) rfl (gy rfl rfl (fun _ _ _ h => h) (ek rfl) (gy rfl rfl (fun _ _ _ h => h) (ek rfl) (gy rfl rfl (fun _ _ _ h => h) (ek rfl) ?_)))))))))
  refine gy rfl rfl (fun _ _ _ h => h) (ek rfl) (gy rfl rfl (fun _ _ _ h => h) (yu rfl) (gy rfl rfl (fun _ _ _ h => h) (yu rfl) (gy rfl rfl (fun _ _ _ h => h) (yu rfl) (gy rfl rfl (fun _ _ _ h => h) (yu rfl) (gy rfl rfl (fun _ _ _ h => h) (ek rfl) (gy rfl rfl (fun _ _ _ h => h) (pt tz rfl rfl) (gd (ez (E' := [(0, .pointer (some p_s)), (4, .bool false), (5, .pointer (some ⟨b22, 0, none⟩)), (80, .bool true)]) ⟨rfl, rfl, rfl, rfl, tz⟩ (et ?_)))))))))
  refine cv rfl (cq (cr (as_ hO rfl rfl (rj (et (ct (ew' (er (.inl rfl) rfl rfl ?_))))))))
  refine Ret.mk hle39 hO (congrArg Value.bool ?_)
  generalize (nth s.code.val.code at_.toNat) = x at *; first | (have h_1 := all_bad (s := s) (x := x) (k := k) (by omega) (by assumption); simp [insB, h_1]; done) | (have h_1 := all_done hreg (by omega); simp_all [insB, insZ]; done) | (simp_all [insB, insA]; done) | grind [insB, insA, insZ]
 have h506 : ¬ ((nth s.code.val.code at_.toNat).pc < 0) := oq h496
 rcases bt (decide (64 ≤ (nth s.code.val.code at_.toNat).pc)) with h509 | h509
 ·
  have h510 : 64 ≤ (nth s.code.val.code at_.toNat).pc := ot h509
  obtain ⟨w511, hO, ew512⟩ : ∃ w', Own w' M25 (bs) ∧ { w24 with drawn := w24.drawn + 1 } = w' := ⟨_, hO.drawn _, rfl⟩
  refine cw (S := fun w => Own w M25 (bs)) (.take 0 (.take 1 (.take 2 (.take 3 (.take 4 (.take 5 (.take 6 (.take 7 (.take 8 (.take 9 (.one 10 (.take 11 (.take 12 (.take 13 (.take 14 (.take 15 (.one 16 (.take 17 (.take 18 (.take 19 (.take 20 (.take 21 (.take 22 (.take 23 (.take 24 (.take 25 (.take 26 (.take 27 (.take 28 (.take 29 (.take 30 (.take 31 (.take 32 (.take 33 (.take 34 (.take 35 (.take 36 (.take 37 (.take 38 (.take 39 (.take 40 (.take 41 (.take 42 (.take 43 (.take 44 (.take 45 (.take 46 (.take 47 (.take 48 (.take 49 (.take 50 (.take 51 (.take 52 (.take 53 (.take 54 (.take 55 (.take 56 (.take 57 (.take 58 (.take 59 (.take 60 (.take 61 (.take 62 .done))))))))))))))))))))))))))))))))))))))))))))))))))))))))))))))) 63 tm (by kernel_rfl) ew512 hO (hfb 0 tf_38_0 rfl rfl rfl (fun _ _ _ h => h) rfl (hlc tl_3 at40 0 rfl rfl rfl (fun _ _ _ h => h) rfl (gy rfl rfl (fun _ _ _ h => h) (yv tz rfl rfl) (hm rfl rfl (fun _ _ _ h => h) rfl (gy rfl rfl (fun _ _ _ h => h) (yf 0 tf_38_0 rfl (by rw [h459]; rfl) rfl) (gy rfl rfl (fun _ _ _ h => h) (yl tl_3 (by rw [h459]; rfl) rfl (fun _ h => at40.cell h 0 rfl)) (gy rfl rfl (fun _ _ _ h => h) (y_gt (by rw [h459]; rfl) rfl rfl) (gy rfl rfl (fun _ _ _ h => h) (pf tz (by rw [h459]; rfl) rfl) (hm rfl rfl (fun _ _ _ h => h) rfl ?_)))))))))
  refine gy rfl rfl (fun _ _ _ h => h) (ym (by rw [h466]; rfl) rfl) (hn' rfl (by rw [h466]; rfl) (oc (vs := [.pointer (some p_s), .pointer (some ⟨b22, 0, none⟩)]) tcall_31 rfl rfl (c_k s (nth s.code.val.code at_.toNat) h30 ⟨_, at40, ⟨b18, c19, rfl, s38⟩⟩ hO) ?_))
  rintro _ w513 ⟨M514, _, le515, hO, rfl, rfl⟩
  refine ⟨_, rfl, ?_⟩
  have hO := hO.less le515
  refine kg_s hO (gy rfl rfl (fun _ _ _ h => h) (yt (by rw [h466]; rfl) rfl) (gy rfl rfl (fun _ _ _ h => h) (pf tz (by rw [h466]; rfl) rfl) (hm rfl rfl (fun _ _ _ h => h) rfl (gy rfl rfl (fun _ _ _ h => h) (ym (by rw [h473]; rfl) rfl) (gy rfl rfl (fun _ _ _ h => h) (ym (by rw [h473]; rfl) rfl) (hn' rfl (by rw [h473]; rfl) (oc (vs := [.pointer (some p_s), .int .i64 at_, .pointer (some ⟨b22, 0, none⟩)]) tcall_32 rfl rfl (c_dear s at_ (nth s.code.val.code at_.toNat) h30 ⟨_, at40, ⟨b18, c19, rfl, s38⟩⟩ hO) ?_)))))))
  rintro _ w516 ⟨M517, _, le518, hO, rfl, rfl⟩
  refine ⟨_, rfl, ?_⟩
  have hO := hO.less le518
  refine kg_s hO (gy rfl rfl (fun _ _ _ h => h) (yt (by rw [h473]; rfl) rfl) (gy rfl rfl (fun _ _ _ h => h) (pf tz (by rw [h473]; rfl) rfl) (hm rfl rfl (fun _ _ _ h => h) rfl (gy rfl rfl (fun _ _ _ h => h) (yf 8 tf_38_8 rfl (by rw [h483]; rfl) rfl) (gy rfl rfl (fun _ _ _ h => h) (yl tl_3 (by rw [h483]; rfl) rfl (fun _ h => at40.cell h 8 rfl)) (gy rfl rfl (fun _ _ _ h => h) (yv (by rw [h483]; rfl) rfl rfl) (gy rfl rfl (fun _ _ _ h => h) (pf tz (by rw [h483]; rfl) rfl) (hm rfl rfl (fun _ _ _ h => h) rfl (gy rfl rfl (fun _ _ _ h => h) (yf 8 tf_38_8 rfl (by rw [h496]; rfl) rfl) ?_)))))))))
  refine gy rfl rfl (fun _ _ _ h => h) (yl tl_3 (by rw [h496]; rfl) rfl (fun _ h => at40.cell h 8 rfl)) (gy rfl rfl (fun _ _ _ h => h) (y_ge (by rw [h496]; rfl) rfl rfl) (gy rfl rfl (fun _ _ _ h => h) (pf tz (by rw [h496]; rfl) rfl) (hm rfl rfl (fun _ _ _ h => h) rfl (gy rfl rfl (fun _ _ _ h => h) (ek (by rw [h509]; rfl)) (gy rfl rfl (fun _ _ _ h => h) (ek (by rw [h509]; rfl)) (gy rfl rfl (fun _ _ _ h => h) (ek (by rw [h509]; rfl)) (gy rfl rfl (fun _ _ _ h => h) (ek (by rw [h509]; rfl)) (gy rfl rfl (fun _ _ _ h => h) (yu rfl) (gy rfl rfl (fun _ _ _ h => h) (yu rfl) ?_)))))))))
  refine gy rfl rfl (fun _ _ _ h => h) (yu rfl) (gy rfl rfl (fun _ _ _ h => h) (yu rfl) (gy rfl rfl (fun _ _ _ h => h) (yu rfl) (gy rfl rfl (fun _ _ _ h => h) (yu rfl) (gy rfl rfl (fun _ _ _ h => h) (yu rfl) (gy rfl rfl (fun _ _ _ h => h) (yu rfl) (gy rfl rfl (fun _ _ _ h => h) (yu rfl) (gy rfl rfl (fun _ _ _ h => h) (yu rfl) (gy rfl rfl (fun _ _ _ h => h) (yu rfl) (gy rfl rfl (fun _ _ _ h => h) (yu rfl) ?_)))))))))
  refine gy rfl rfl (fun _ _ _ h => h) (yu rfl) (gy rfl rfl (fun _ _ _ h => h) (yu rfl) (gy rfl rfl (fun _ _ _ h => h) (yu rfl) (gy rfl rfl (fun _ _ _ h => h) (yu rfl) (gy rfl rfl (fun _ _ _ h => h) (ek (by rw [h509]; rfl)) (gy rfl rfl (fun _ _ _ h => h) (pt tz (by rw [h509]; rfl) rfl) (hm rfl rfl (fun _ _ _ h => h) rfl (gy rfl rfl (fun _ _ _ h => h) (ek rfl) (gy rfl rfl (fun _ _ _ h => h) (ek rfl) (gy rfl rfl (fun _ _ _ h => h) (ek rfl) ?_)))))))))
  refine gy rfl rfl (fun _ _ _ h => h) (ek rfl) (gy rfl rfl (fun _ _ _ h => h) (yu rfl) (gy rfl rfl (fun _ _ _ h => h) (yu rfl) (gy rfl rfl (fun _ _ _ h => h) (yu rfl) (gy rfl rfl (fun _ _ _ h => h) (yu rfl) (gy rfl rfl (fun _ _ _ h => h) (ek rfl) (gy rfl rfl (fun _ _ _ h => h) (pt tz rfl rfl) (gd (ez (E' := [(0, .pointer (some p_s)), (4, .bool false), (5, .pointer (some ⟨b22, 0, none⟩)), (80, .bool true)]) ⟨rfl, rfl, rfl, rfl, tz⟩ (et ?_)))))))))
  refine cv rfl (cq (cr (as_ hO rfl rfl (rj (et (ct (ew' (er (.inl rfl) rfl rfl ?_))))))))
  refine Ret.mk hle39 hO (congrArg Value.bool ?_)
  generalize (nth s.code.val.code at_.toNat) = x at *; first | (have h_1 := all_bad (s := s) (x := x) (k := k) (by omega) (by assumption); simp [insB, h_1]; done) | (have h_1 := all_done hreg (by omega); simp_all [insB, insZ]; done) | (simp_all [insB, insA]; done) | grind [insB, insA, insZ]
 have h519 : ¬ (64 ≤ (nth s.code.val.code at_.toNat).pc) := oq h509
 rcases bt (leavesB ((nth s.code.val.code at_.toNat).kind)) with h522 | h522
 ·
  rcases bt (decide ((nth s.code.val.code at_.toNat).mt < 0)) with h525 | h525
  ·
   have h526 : (nth s.code.val.code at_.toNat).mt < 0 := ot h525
   obtain ⟨w527, hO, ew528⟩ : ∃ w', Own w' M25 (bs) ∧ { w24 with drawn := w24.drawn + 1 } = w' := ⟨_, hO.drawn _, rfl⟩
   refine cw (S := fun w => Own w M25 (bs)) (.take 0 (.take 1 (.take 2 (.take 3 (.take 4 (.take 5 (.take 6 (.take 7 (.take 8 (.take 9 (.one 10 (.take 11 (.take 12 (.take 13 (.take 14 (.take 15 (.one 16 (.take 17 (.take 18 (.take 19 (.take 20 (.take 21 (.take 22 (.take 23 (.take 24 (.take 25 (.take 26 (.take 27 (.take 28 (.take 29 (.take 30 (.take 31 (.one 32 (.take 33 (.take 34 (.take 35 (.take 36 (.take 37 (.take 38 (.take 39 (.take 40 (.take 41 (.take 42 (.take 43 (.take 44 (.take 45 (.take 46 (.take 47 (.take 48 (.take 49 (.take 50 (.take 51 (.take 52 (.take 53 (.take 54 (.take 55 (.take 56 (.take 57 (.take 58 (.take 59 (.take 60 (.take 61 (.take 62 .done))))))))))))))))))))))))))))))))))))))))))))))))))))))))))))))) 63 tm (by kernel_rfl) ew528 hO (hfb 0 tf_38_0 rfl rfl rfl (fun _ _ _ h => h) rfl (hlc tl_3 at40 0 rfl rfl rfl (fun _ _ _ h => h) rfl (gy rfl rfl (fun _ _ _ h => h) (yv tz rfl rfl) (hm rfl rfl (fun _ _ _ h => h) rfl (gy rfl rfl (fun _ _ _ h => h) (yf 0 tf_38_0 rfl (by rw [h459]; rfl) rfl) (gy rfl rfl (fun _ _ _ h => h) (yl tl_3 (by rw [h459]; rfl) rfl (fun _ h => at40.cell h 0 rfl)) (gy rfl rfl (fun _ _ _ h => h) (y_gt (by rw [h459]; rfl) rfl rfl) (gy rfl rfl (fun _ _ _ h => h) (pf tz (by rw [h459]; rfl) rfl) (hm rfl rfl (fun _ _ _ h => h) rfl ?_)))))))))
   refine gy rfl rfl (fun _ _ _ h => h) (ym (by rw [h466]; rfl) rfl) (hn' rfl (by rw [h466]; rfl) (oc (vs := [.pointer (some p_s), .pointer (some ⟨b22, 0, none⟩)]) tcall_31 rfl rfl (c_k s (nth s.code.val.code at_.toNat) h30 ⟨_, at40, ⟨b18, c19, rfl, s38⟩⟩ hO) ?_))
   rintro _ w529 ⟨M530, _, le531, hO, rfl, rfl⟩
   refine ⟨_, rfl, ?_⟩
   have hO := hO.less le531
   refine kg_s hO (gy rfl rfl (fun _ _ _ h => h) (yt (by rw [h466]; rfl) rfl) (gy rfl rfl (fun _ _ _ h => h) (pf tz (by rw [h466]; rfl) rfl) (hm rfl rfl (fun _ _ _ h => h) rfl (gy rfl rfl (fun _ _ _ h => h) (ym (by rw [h473]; rfl) rfl) (gy rfl rfl (fun _ _ _ h => h) (ym (by rw [h473]; rfl) rfl) (hn' rfl (by rw [h473]; rfl) (oc (vs := [.pointer (some p_s), .int .i64 at_, .pointer (some ⟨b22, 0, none⟩)]) tcall_32 rfl rfl (c_dear s at_ (nth s.code.val.code at_.toNat) h30 ⟨_, at40, ⟨b18, c19, rfl, s38⟩⟩ hO) ?_)))))))
   rintro _ w532 ⟨M533, _, le534, hO, rfl, rfl⟩
   refine ⟨_, rfl, ?_⟩
   have hO := hO.less le534
   refine kg_s hO (gy rfl rfl (fun _ _ _ h => h) (yt (by rw [h473]; rfl) rfl) (gy rfl rfl (fun _ _ _ h => h) (pf tz (by rw [h473]; rfl) rfl) (hm rfl rfl (fun _ _ _ h => h) rfl (gy rfl rfl (fun _ _ _ h => h) (yf 8 tf_38_8 rfl (by rw [h483]; rfl) rfl) (gy rfl rfl (fun _ _ _ h => h) (yl tl_3 (by rw [h483]; rfl) rfl (fun _ h => at40.cell h 8 rfl)) (gy rfl rfl (fun _ _ _ h => h) (yv (by rw [h483]; rfl) rfl rfl) (gy rfl rfl (fun _ _ _ h => h) (pf tz (by rw [h483]; rfl) rfl) (hm rfl rfl (fun _ _ _ h => h) rfl (gy rfl rfl (fun _ _ _ h => h) (yf 8 tf_38_8 rfl (by rw [h496]; rfl) rfl) ?_)))))))))
   refine gy rfl rfl (fun _ _ _ h => h) (yl tl_3 (by rw [h496]; rfl) rfl (fun _ h => at40.cell h 8 rfl)) (gy rfl rfl (fun _ _ _ h => h) (y_ge (by rw [h496]; rfl) rfl rfl) (gy rfl rfl (fun _ _ _ h => h) (pf tz (by rw [h496]; rfl) rfl) (hm rfl rfl (fun _ _ _ h => h) rfl (gy rfl rfl (fun _ _ _ h => h) (yf 0 tf_38_0 rfl (by rw [h509]; rfl) rfl) (gy rfl rfl (fun _ _ _ h => h) (yl tl_3 (by rw [h509]; rfl) rfl (fun _ h => at40.cell h 0 rfl)) (hn' rfl (by rw [h509]; rfl) (oc (vs := [.int .i64 ((nth s.code.val.code at_.toNat).kind)]) tcall_33 rfl rfl (c_Leaves ((nth s.code.val.code at_.toNat).kind)  hO) ?_)))))))
   rintro _ w535 ⟨M536, _, le537, hO, rfl, rfl⟩
   refine ⟨_, rfl, ?_⟩
   have hO := hO.less le537
   refine kg_s hO (gy rfl rfl (fun _ _ _ h => h) (ym (by rw [h509]; rfl) rfl) (gy rfl rfl (fun _ _ _ h => h) (yf 7 tf_38_7 rfl (by rw [h522]; rfl) rfl) (gy rfl rfl (fun _ _ _ h => h) (yl tl_3 (by rw [h522]; rfl) rfl (fun _ h => at40.cell h 7 rfl)) (gy rfl rfl (fun _ _ _ h => h) (yv (by rw [h522]; rfl) rfl rfl) (gy rfl rfl (fun _ _ _ h => h) (ym (by rw [h522]; rfl) rfl) (gy rfl rfl (fun _ _ _ h => h) (ek (by rw [h525]; rfl)) (gy rfl rfl (fun _ _ _ h => h) (ek (by rw [h525]; rfl)) (gy rfl rfl (fun _ _ _ h => h) (ek (by rw [h525]; rfl)) (gy rfl rfl (fun _ _ _ h => h) (ek (by rw [h525]; rfl)) ?_)))))))))
   refine gy rfl rfl (fun _ _ _ h => h) (ek (by rw [h525]; rfl)) (gy rfl rfl (fun _ _ _ h => h) (ek (by rw [h525]; rfl)) (gy rfl rfl (fun _ _ _ h => h) (ek (by rw [h525]; rfl)) (gy rfl rfl (fun _ _ _ h => h) (ek (by rw [h525]; rfl)) (gy rfl rfl (fun _ _ _ h => h) (ek (by rw [h525]; rfl)) (gy rfl rfl (fun _ _ _ h => h) (ek (by rw [h525]; rfl)) (gy rfl rfl (fun _ _ _ h => h) (ek (by rw [h525]; rfl)) (gy rfl rfl (fun _ _ _ h => h) (pt (by rw [h522]; rfl) (by rw [h525]; rfl) rfl) (gy rfl rfl (fun _ _ _ h => h) (pt (by rw [h509]; rfl) (by rw [h522]; rfl) rfl) (gy rfl rfl (fun _ _ _ h => h) (pf tz (by rw [h509]; rfl) rfl) ?_)))))))))
   refine hm rfl rfl (fun _ _ _ h => h) rfl (gy rfl rfl (fun _ _ _ h => h) (ek rfl) (gy rfl rfl (fun _ _ _ h => h) (ek rfl) (gy rfl rfl (fun _ _ _ h => h) (ek rfl) (gy rfl rfl (fun _ _ _ h => h) (ek rfl) (gy rfl rfl (fun _ _ _ h => h) (yu rfl) (gy rfl rfl (fun _ _ _ h => h) (yu rfl) (gy rfl rfl (fun _ _ _ h => h) (yu rfl) (gy rfl rfl (fun _ _ _ h => h) (yu rfl) (gy rfl rfl (fun _ _ _ h => h) (ek rfl) ?_)))))))))
   refine gy rfl rfl (fun _ _ _ h => h) (pt tz rfl rfl) (gd (ez (E' := [(0, .pointer (some p_s)), (4, .bool false), (5, .pointer (some ⟨b22, 0, none⟩)), (80, .bool true)]) ⟨rfl, rfl, rfl, rfl, tz⟩ (et (cv rfl (cq (cr (as_ hO rfl rfl (rj (et ?_)))))))))
   refine ct (ew' (er (.inl rfl) rfl rfl ?_))
   refine Ret.mk hle39 hO (congrArg Value.bool ?_)
   generalize (nth s.code.val.code at_.toNat) = x at *; first | (have h_1 := all_bad (s := s) (x := x) (k := k) (by omega) (by assumption); simp [insB, h_1]; done) | (have h_1 := all_done hreg (by omega); simp_all [insB, insZ]; done) | (simp_all [insB, insA]; done) | grind [insB, insA, insZ]
  have h538 : ¬ ((nth s.code.val.code at_.toNat).mt < 0) := oq h525
  rcases bt (decide ((s.code.val.metas.length : Int) ≤ (nth s.code.val.code at_.toNat).mt)) with h541 | h541
  ·
   have h542 : (s.code.val.metas.length : Int) ≤ (nth s.code.val.code at_.toNat).mt := ot h541
   obtain ⟨w543, hO, ew544⟩ : ∃ w', Own w' M25 (bs) ∧ { w24 with drawn := w24.drawn + 1 } = w' := ⟨_, hO.drawn _, rfl⟩
   refine cw (S := fun w => Own w M25 (bs)) (.take 0 (.take 1 (.take 2 (.take 3 (.take 4 (.take 5 (.take 6 (.take 7 (.take 8 (.take 9 (.one 10 (.take 11 (.take 12 (.take 13 (.take 14 (.take 15 (.one 16 (.take 17 (.take 18 (.take 19 (.take 20 (.take 21 (.take 22 (.take 23 (.take 24 (.take 25 (.take 26 (.take 27 (.take 28 (.take 29 (.take 30 (.take 31 (.one 32 (.take 33 (.take 34 (.take 35 (.take 36 (.take 37 (.take 38 (.take 39 (.take 40 (.take 41 (.take 42 (.take 43 (.take 44 (.take 45 (.take 46 (.take 47 (.take 48 (.take 49 (.take 50 (.take 51 (.take 52 (.take 53 (.take 54 (.take 55 (.take 56 (.take 57 (.take 58 (.take 59 (.take 60 (.take 61 (.take 62 .done))))))))))))))))))))))))))))))))))))))))))))))))))))))))))))))) 63 tm (by kernel_rfl) ew544 hO (hfb 0 tf_38_0 rfl rfl rfl (fun _ _ _ h => h) rfl (hlc tl_3 at40 0 rfl rfl rfl (fun _ _ _ h => h) rfl (gy rfl rfl (fun _ _ _ h => h) (yv tz rfl rfl) (hm rfl rfl (fun _ _ _ h => h) rfl (gy rfl rfl (fun _ _ _ h => h) (yf 0 tf_38_0 rfl (by rw [h459]; rfl) rfl) (gy rfl rfl (fun _ _ _ h => h) (yl tl_3 (by rw [h459]; rfl) rfl (fun _ h => at40.cell h 0 rfl)) (gy rfl rfl (fun _ _ _ h => h) (y_gt (by rw [h459]; rfl) rfl rfl) (gy rfl rfl (fun _ _ _ h => h) (pf tz (by rw [h459]; rfl) rfl) (hm rfl rfl (fun _ _ _ h => h) rfl ?_)))))))))
   refine gy rfl rfl (fun _ _ _ h => h) (ym (by rw [h466]; rfl) rfl) (hn' rfl (by rw [h466]; rfl) (oc (vs := [.pointer (some p_s), .pointer (some ⟨b22, 0, none⟩)]) tcall_31 rfl rfl (c_k s (nth s.code.val.code at_.toNat) h30 ⟨_, at40, ⟨b18, c19, rfl, s38⟩⟩ hO) ?_))
   rintro _ w545 ⟨M546, _, le547, hO, rfl, rfl⟩
   refine ⟨_, rfl, ?_⟩
   have hO := hO.less le547
   refine kg_s hO (gy rfl rfl (fun _ _ _ h => h) (yt (by rw [h466]; rfl) rfl) (gy rfl rfl (fun _ _ _ h => h) (pf tz (by rw [h466]; rfl) rfl) (hm rfl rfl (fun _ _ _ h => h) rfl (gy rfl rfl (fun _ _ _ h => h) (ym (by rw [h473]; rfl) rfl) (gy rfl rfl (fun _ _ _ h => h) (ym (by rw [h473]; rfl) rfl) (hn' rfl (by rw [h473]; rfl) (oc (vs := [.pointer (some p_s), .int .i64 at_, .pointer (some ⟨b22, 0, none⟩)]) tcall_32 rfl rfl (c_dear s at_ (nth s.code.val.code at_.toNat) h30 ⟨_, at40, ⟨b18, c19, rfl, s38⟩⟩ hO) ?_)))))))
   rintro _ w548 ⟨M549, _, le550, hO, rfl, rfl⟩
   refine ⟨_, rfl, ?_⟩
   have hO := hO.less le550
   refine kg_s hO (gy rfl rfl (fun _ _ _ h => h) (yt (by rw [h473]; rfl) rfl) (gy rfl rfl (fun _ _ _ h => h) (pf tz (by rw [h473]; rfl) rfl) (hm rfl rfl (fun _ _ _ h => h) rfl (gy rfl rfl (fun _ _ _ h => h) (yf 8 tf_38_8 rfl (by rw [h483]; rfl) rfl) (gy rfl rfl (fun _ _ _ h => h) (yl tl_3 (by rw [h483]; rfl) rfl (fun _ h => at40.cell h 8 rfl)) (gy rfl rfl (fun _ _ _ h => h) (yv (by rw [h483]; rfl) rfl rfl) (gy rfl rfl (fun _ _ _ h => h) (pf tz (by rw [h483]; rfl) rfl) (hm rfl rfl (fun _ _ _ h => h) rfl (gy rfl rfl (fun _ _ _ h => h) (yf 8 tf_38_8 rfl (by rw [h496]; rfl) rfl) ?_)))))))))
   refine gy rfl rfl (fun _ _ _ h => h) (yl tl_3 (by rw [h496]; rfl) rfl (fun _ h => at40.cell h 8 rfl)) (gy rfl rfl (fun _ _ _ h => h) (y_ge (by rw [h496]; rfl) rfl rfl) (gy rfl rfl (fun _ _ _ h => h) (pf tz (by rw [h496]; rfl) rfl) (hm rfl rfl (fun _ _ _ h => h) rfl (gy rfl rfl (fun _ _ _ h => h) (yf 0 tf_38_0 rfl (by rw [h509]; rfl) rfl) (gy rfl rfl (fun _ _ _ h => h) (yl tl_3 (by rw [h509]; rfl) rfl (fun _ h => at40.cell h 0 rfl)) (hn' rfl (by rw [h509]; rfl) (oc (vs := [.int .i64 ((nth s.code.val.code at_.toNat).kind)]) tcall_33 rfl rfl (c_Leaves ((nth s.code.val.code at_.toNat).kind)  hO) ?_)))))))
   rintro _ w551 ⟨M552, _, le553, hO, rfl, rfl⟩
   refine ⟨_, rfl, ?_⟩
   have hO := hO.less le553
   refine kg_s hO (gy rfl rfl (fun _ _ _ h => h) (ym (by rw [h509]; rfl) rfl) (gy rfl rfl (fun _ _ _ h => h) (yf 7 tf_38_7 rfl (by rw [h522]; rfl) rfl) (gy rfl rfl (fun _ _ _ h => h) (yl tl_3 (by rw [h522]; rfl) rfl (fun _ h => at40.cell h 7 rfl)) (gy rfl rfl (fun _ _ _ h => h) (yv (by rw [h522]; rfl) rfl rfl) (gy rfl rfl (fun _ _ _ h => h) (ym (by rw [h522]; rfl) rfl) (gy rfl rfl (fun _ _ _ h => h) (yf 7 tf_38_7 rfl (by rw [h525]; rfl) rfl) (gy rfl rfl (fun _ _ _ h => h) (yl tl_3 (by rw [h525]; rfl) rfl (fun _ h => at40.cell h 7 rfl)) (gy rfl rfl (fun _ _ _ h => h) (ym (by rw [h525]; rfl) rfl) (gy rfl rfl (fun _ _ _ h => h) (yn (by rw [h525]; rfl) rfl) ?_)))))))))
   refine gy rfl rfl (fun _ _ _ h => h) (ya tf_61_0 (by rw [h525]; rfl) rfl) (gy rfl rfl (fun _ _ _ h => h) (yl tl_53 (by rw [h525]; rfl) rfl (fun _ h => at31.cell h 0 rfl)) (gy rfl rfl (fun _ _ _ h => h) (yn (by rw [h525]; rfl) rfl) (gy rfl rfl (fun _ _ _ h => h) (ya tf_28_3 (by rw [h525]; rfl) rfl) (gy rfl rfl (fun _ _ _ h => h) (yl tl_26 (by rw [h525]; rfl) rfl (fun _ h => at33.cell h 3 rfl)) ?_))))
   have bd554 : s.code.val.metas.length * 24 ≤ 140737488351232 := s35.bd
   refine gy rfl rfl (fun _ _ _ h => h) (y_len ts_26 (by rw [h525]; rfl) rfl) (gy rfl rfl (fun _ _ _ h => h) (y_ge (by rw [h525]; rfl) rfl rfl) (gy rfl rfl (fun _ _ _ h => h) (pf (by rw [h522]; rfl) (by rw [h525]; rfl) rfl) (gy rfl rfl (fun _ _ _ h => h) (pt (by rw [h509]; rfl) (by rw [h522]; rfl) rfl) (gy rfl rfl (fun _ _ _ h => h) (pf tz (by rw [h509]; rfl) rfl) (hm rfl rfl (fun _ _ _ h => h) rfl (gy rfl rfl (fun _ _ _ h => h) (ek (by rw [h541]; rfl)) (gy rfl rfl (fun _ _ _ h => h) (ek (by rw [h541]; rfl)) (gy rfl rfl (fun _ _ _ h => h) (ek (by rw [h541]; rfl)) (gy rfl rfl (fun _ _ _ h => h) (ek (by rw [h541]; rfl)) ?_)))))))))
   refine gy rfl rfl (fun _ _ _ h => h) (yu rfl) (gy rfl rfl (fun _ _ _ h => h) (yu rfl) (gy rfl rfl (fun _ _ _ h => h) (yu rfl) (gy rfl rfl (fun _ _ _ h => h) (yu rfl) (gy rfl rfl (fun _ _ _ h => h) (ek (by rw [h541]; rfl)) (gy rfl rfl (fun _ _ _ h => h) (pt tz (by rw [h541]; rfl) rfl) (gd (ez (E' := [(0, .pointer (some p_s)), (4, .bool false), (5, .pointer (some ⟨b22, 0, none⟩)), (80, .bool true)]) ⟨rfl, rfl, rfl, rfl, tz⟩ (et (cv rfl ?_)))))))))
   refine cq (cr (as_ hO rfl rfl (rj (et (ct (ew' (er (.inl rfl) rfl rfl ?_)))))))
   refine Ret.mk hle39 hO (congrArg Value.bool ?_)
   generalize (nth s.code.val.code at_.toNat) = x at *; first | (have h_1 := all_bad (s := s) (x := x) (k := k) (by omega) (by assumption); simp [insB, h_1]; done) | (have h_1 := all_done hreg (by omega); simp_all [insB, insZ]; done) | (simp_all [insB, insA]; done) | grind [insB, insA, insZ]
  have h555 : ¬ ((s.code.val.metas.length : Int) ≤ (nth s.code.val.code at_.toNat).mt) := oq h541
  rcases bt (!decide ((nth s.code.val.code at_.toNat).kind = 6)) with h558 | h558
  ·
   have h559 : (decide ((nth s.code.val.code at_.toNat).kind = 6)) = false := by simpa using h558
   have h560 : ¬ ((nth s.code.val.code at_.toNat).kind = 6) := oq h559
   obtain ⟨w561, hO, ew562⟩ : ∃ w', Own w' M25 (bs) ∧ { w24 with drawn := w24.drawn + 1 } = w' := ⟨_, hO.drawn _, rfl⟩
   refine cw (S := fun w => Own w M25 (bs)) (.take 0 (.take 1 (.take 2 (.take 3 (.take 4 (.take 5 (.take 6 (.take 7 (.take 8 (.take 9 (.one 10 (.take 11 (.take 12 (.take 13 (.take 14 (.take 15 (.one 16 (.take 17 (.take 18 (.take 19 (.take 20 (.take 21 (.take 22 (.take 23 (.take 24 (.take 25 (.take 26 (.take 27 (.take 28 (.take 29 (.take 30 (.take 31 (.one 32 (.take 33 (.take 34 (.take 35 (.take 36 (.take 37 (.take 38 (.take 39 (.take 40 (.take 41 (.take 42 (.take 43 (.take 44 (.take 45 (.take 46 (.take 47 (.take 48 (.take 49 (.take 50 (.take 51 (.take 52 (.take 53 (.take 54 (.take 55 (.take 56 (.take 57 (.take 58 (.take 59 (.take 60 (.take 61 (.take 62 .done))))))))))))))))))))))))))))))))))))))))))))))))))))))))))))))) 63 tm (by kernel_rfl) ew562 hO (hfb 0 tf_38_0 rfl rfl rfl (fun _ _ _ h => h) rfl (hlc tl_3 at40 0 rfl rfl rfl (fun _ _ _ h => h) rfl (gy rfl rfl (fun _ _ _ h => h) (yv tz rfl rfl) (hm rfl rfl (fun _ _ _ h => h) rfl (gy rfl rfl (fun _ _ _ h => h) (yf 0 tf_38_0 rfl (by rw [h459]; rfl) rfl) (gy rfl rfl (fun _ _ _ h => h) (yl tl_3 (by rw [h459]; rfl) rfl (fun _ h => at40.cell h 0 rfl)) (gy rfl rfl (fun _ _ _ h => h) (y_gt (by rw [h459]; rfl) rfl rfl) (gy rfl rfl (fun _ _ _ h => h) (pf tz (by rw [h459]; rfl) rfl) (hm rfl rfl (fun _ _ _ h => h) rfl ?_)))))))))
   refine gy rfl rfl (fun _ _ _ h => h) (ym (by rw [h466]; rfl) rfl) (hn' rfl (by rw [h466]; rfl) (oc (vs := [.pointer (some p_s), .pointer (some ⟨b22, 0, none⟩)]) tcall_31 rfl rfl (c_k s (nth s.code.val.code at_.toNat) h30 ⟨_, at40, ⟨b18, c19, rfl, s38⟩⟩ hO) ?_))
   rintro _ w563 ⟨M564, _, le565, hO, rfl, rfl⟩
   refine ⟨_, rfl, ?_⟩
   have hO := hO.less le565
   refine kg_s hO (gy rfl rfl (fun _ _ _ h => h) (yt (by rw [h466]; rfl) rfl) (gy rfl rfl (fun _ _ _ h => h) (pf tz (by rw [h466]; rfl) rfl) (hm rfl rfl (fun _ _ _ h => h) rfl (gy rfl rfl (fun _ _ _ h => h) (ym (by rw [h473]; rfl) rfl) (gy rfl rfl (fun _ _ _ h => h) (ym (by rw [h473]; rfl) rfl) (hn' rfl (by rw [h473]; rfl) (oc (vs := [.pointer (some p_s), .int .i64 at_, .pointer (some ⟨b22, 0, none⟩)]) tcall_32 rfl rfl (c_dear s at_ (nth s.code.val.code at_.toNat) h30 ⟨_, at40, ⟨b18, c19, rfl, s38⟩⟩ hO) ?_)))))))
   rintro _ w566 ⟨M567, _, le568, hO, rfl, rfl⟩
   refine ⟨_, rfl, ?_⟩
   have hO := hO.less le568
   refine kg_s hO (gy rfl rfl (fun _ _ _ h => h) (yt (by rw [h473]; rfl) rfl) (gy rfl rfl (fun _ _ _ h => h) (pf tz (by rw [h473]; rfl) rfl) (hm rfl rfl (fun _ _ _ h => h) rfl (gy rfl rfl (fun _ _ _ h => h) (yf 8 tf_38_8 rfl (by rw [h483]; rfl) rfl) (gy rfl rfl (fun _ _ _ h => h) (yl tl_3 (by rw [h483]; rfl) rfl (fun _ h => at40.cell h 8 rfl)) (gy rfl rfl (fun _ _ _ h => h) (yv (by rw [h483]; rfl) rfl rfl) (gy rfl rfl (fun _ _ _ h => h) (pf tz (by rw [h483]; rfl) rfl) (hm rfl rfl (fun _ _ _ h => h) rfl (gy rfl rfl (fun _ _ _ h => h) (yf 8 tf_38_8 rfl (by rw [h496]; rfl) rfl) ?_)))))))))
   refine gy rfl rfl (fun _ _ _ h => h) (yl tl_3 (by rw [h496]; rfl) rfl (fun _ h => at40.cell h 8 rfl)) (gy rfl rfl (fun _ _ _ h => h) (y_ge (by rw [h496]; rfl) rfl rfl) (gy rfl rfl (fun _ _ _ h => h) (pf tz (by rw [h496]; rfl) rfl) (hm rfl rfl (fun _ _ _ h => h) rfl (gy rfl rfl (fun _ _ _ h => h) (yf 0 tf_38_0 rfl (by rw [h509]; rfl) rfl) (gy rfl rfl (fun _ _ _ h => h) (yl tl_3 (by rw [h509]; rfl) rfl (fun _ h => at40.cell h 0 rfl)) (hn' rfl (by rw [h509]; rfl) (oc (vs := [.int .i64 ((nth s.code.val.code at_.toNat).kind)]) tcall_33 rfl rfl (c_Leaves ((nth s.code.val.code at_.toNat).kind)  hO) ?_)))))))
   rintro _ w569 ⟨M570, _, le571, hO, rfl, rfl⟩
   refine ⟨_, rfl, ?_⟩
   have hO := hO.less le571
   refine kg_s hO (gy rfl rfl (fun _ _ _ h => h) (ym (by rw [h509]; rfl) rfl) (gy rfl rfl (fun _ _ _ h => h) (yf 7 tf_38_7 rfl (by rw [h522]; rfl) rfl) (gy rfl rfl (fun _ _ _ h => h) (yl tl_3 (by rw [h522]; rfl) rfl (fun _ h => at40.cell h 7 rfl)) (gy rfl rfl (fun _ _ _ h => h) (yv (by rw [h522]; rfl) rfl rfl) (gy rfl rfl (fun _ _ _ h => h) (ym (by rw [h522]; rfl) rfl) (gy rfl rfl (fun _ _ _ h => h) (yf 7 tf_38_7 rfl (by rw [h525]; rfl) rfl) (gy rfl rfl (fun _ _ _ h => h) (yl tl_3 (by rw [h525]; rfl) rfl (fun _ h => at40.cell h 7 rfl)) (gy rfl rfl (fun _ _ _ h => h) (ym (by rw [h525]; rfl) rfl) (gy rfl rfl (fun _ _ _ h => h) (yn (by rw [h525]; rfl) rfl) ?_)))))))))
   refine gy rfl rfl (fun _ _ _ h => h) (ya tf_61_0 (by rw [h525]; rfl) rfl) (gy rfl rfl (fun _ _ _ h => h) (yl tl_53 (by rw [h525]; rfl) rfl (fun _ h => at31.cell h 0 rfl)) (gy rfl rfl (fun _ _ _ h => h) (yn (by rw [h525]; rfl) rfl) (gy rfl rfl (fun _ _ _ h => h) (ya tf_28_3 (by rw [h525]; rfl) rfl) (gy rfl rfl (fun _ _ _ h => h) (yl tl_26 (by rw [h525]; rfl) rfl (fun _ h => at33.cell h 3 rfl)) ?_))))
   have bd572 : s.code.val.metas.length * 24 ≤ 140737488351232 := s35.bd
   refine gy rfl rfl (fun _ _ _ h => h) (y_len ts_26 (by rw [h525]; rfl) rfl) (gy rfl rfl (fun _ _ _ h => h) (y_ge (by rw [h525]; rfl) rfl rfl) (gy rfl rfl (fun _ _ _ h => h) (pf (by rw [h522]; rfl) (by rw [h525]; rfl) rfl) (gy rfl rfl (fun _ _ _ h => h) (pt (by rw [h509]; rfl) (by rw [h522]; rfl) rfl) (gy rfl rfl (fun _ _ _ h => h) (pf tz (by rw [h509]; rfl) rfl) (hm rfl rfl (fun _ _ _ h => h) rfl (gy rfl rfl (fun _ _ _ h => h) (yf 0 tf_38_0 rfl (by rw [h541]; rfl) rfl) (gy rfl rfl (fun _ _ _ h => h) (yl tl_3 (by rw [h541]; rfl) rfl (fun _ h => at40.cell h 0 rfl)) (gy rfl rfl (fun _ _ _ h => h) (y_ne (by rw [h541]; rfl) rfl rfl) (gy rfl rfl (fun _ _ _ h => h) (ym (by rw [h541]; rfl) rfl) ?_)))))))))
   refine gy rfl rfl (fun _ _ _ h => h) (yf 5 tf_38_5 rfl (by rw [h558]; rfl) rfl) (gy rfl rfl (fun _ _ _ h => h) (yl tl_36 (by rw [h558]; rfl) rfl (fun _ h => at40.cell h 5 rfl)) ?_)
   have bd573 : ((nth s.code.val.code at_.toNat).args).length * 8 ≤ 140737488351232 := s38.bd
   refine gy rfl rfl (fun _ _ _ h => h) (y_len ts_36 (by rw [h558]; rfl) rfl) (gy rfl rfl (fun _ _ _ h => h) (y_gt (by rw [h558]; rfl) rfl rfl) (gy rfl rfl (fun _ _ _ h => h) (pt (by rw [h541]; rfl) (by rw [h558]; rfl) rfl) (gy rfl rfl (fun _ _ _ h => h) (pf tz (by rw [h541]; rfl) rfl) (gd (ez (E' := [(0, .pointer (some p_s)), (4, .bool false), (5, .pointer (some ⟨b22, 0, none⟩)), (80, .bool (decide (0 < (((nth s.code.val.code at_.toNat).args).length : Int))))]) ⟨rfl, rfl, rfl, rfl, tz⟩ (et (cd rfl (fun h574 => ?_) (fun h574 => ?_))))))))
   ·
    have h575 : 0 < (((nth s.code.val.code at_.toNat).args).length : Int) := ot h574
    refine cq (cr (as_ hO rfl rfl (rj (et (ct (ew' (er (.inl rfl) rfl rfl ?_)))))))
    refine Ret.mk hle39 hO (congrArg Value.bool ?_)
    generalize (nth s.code.val.code at_.toNat) = x at *; first | (have h_1 := all_bad (s := s) (x := x) (k := k) (by omega) (by assumption); simp [insB, h_1]; done) | (have h_1 := all_done hreg (by omega); simp_all [insB, insZ]; done) | (simp_all [insB, insA]; done) | grind [insB, insA, insZ]
   have h576 : ¬ (0 < (((nth s.code.val.code at_.toNat).args).length : Int)) := oq h574
   exact cp (ez (E' := [(0, .pointer (some p_s)), (4, .bool false), (5, .pointer (some ⟨b22, 0, none⟩))]) ⟨rfl, rfl, rfl, tz⟩ (et (hcut45 _ ⟨_, le41, hO, (by simp_all [insA])⟩)))
  have h577 : (decide ((nth s.code.val.code at_.toNat).kind = 6)) = true := by simpa using h558
  have h578 : (nth s.code.val.code at_.toNat).kind = 6 := ot h577
  obtain ⟨w579, hO, ew580⟩ : ∃ w', Own w' M25 (bs) ∧ { w24 with drawn := w24.drawn + 1 } = w' := ⟨_, hO.drawn _, rfl⟩
  refine cw (S := fun w => Own w M25 (bs)) (.take 0 (.take 1 (.take 2 (.take 3 (.take 4 (.take 5 (.take 6 (.take 7 (.take 8 (.take 9 (.one 10 (.take 11 (.take 12 (.take 13 (.take 14 (.take 15 (.one 16 (.take 17 (.take 18 (.take 19 (.take 20 (.take 21 (.take 22 (.take 23 (.take 24 (.take 25 (.take 26 (.take 27 (.take 28 (.take 29 (.take 30 (.take 31 (.one 32 (.take 33 (.take 34 (.take 35 (.take 36 (.take 37 (.take 38 (.take 39 (.take 40 (.take 41 (.take 42 (.take 43 (.take 44 (.take 45 (.take 46 (.take 47 (.take 48 (.take 49 (.take 50 (.take 51 (.take 52 (.take 53 (.take 54 (.take 55 (.take 56 (.take 57 (.take 58 (.take 59 (.take 60 (.take 61 (.take 62 .done))))))))))))))))))))))))))))))))))))))))))))))))))))))))))))))) 63 tm (by kernel_rfl) ew580 hO (hfb 0 tf_38_0 rfl rfl rfl (fun _ _ _ h => h) rfl (hlc tl_3 at40 0 rfl rfl rfl (fun _ _ _ h => h) rfl (gy rfl rfl (fun _ _ _ h => h) (yv tz rfl rfl) (hm rfl rfl (fun _ _ _ h => h) rfl (gy rfl rfl (fun _ _ _ h => h) (yf 0 tf_38_0 rfl (by rw [h459]; rfl) rfl) (gy rfl rfl (fun _ _ _ h => h) (yl tl_3 (by rw [h459]; rfl) rfl (fun _ h => at40.cell h 0 rfl)) (gy rfl rfl (fun _ _ _ h => h) (y_gt (by rw [h459]; rfl) rfl rfl) (gy rfl rfl (fun _ _ _ h => h) (pf tz (by rw [h459]; rfl) rfl) (hm rfl rfl (fun _ _ _ h => h) rfl ?_)))))))))
  refine gy rfl rfl (fun _ _ _ h => h) (ym (by rw [h466]; rfl) rfl) (hn' rfl (by rw [h466]; rfl) (oc (vs := [.pointer (some p_s), .pointer (some ⟨b22, 0, none⟩)]) tcall_31 rfl rfl (c_k s (nth s.code.val.code at_.toNat) h30 ⟨_, at40, ⟨b18, c19, rfl, s38⟩⟩ hO) ?_))
  rintro _ w581 ⟨M582, _, le583, hO, rfl, rfl⟩
  refine ⟨_, rfl, ?_⟩
  have hO := hO.less le583
  refine kg_s hO (gy rfl rfl (fun _ _ _ h => h) (yt (by rw [h466]; rfl) rfl) (gy rfl rfl (fun _ _ _ h => h) (pf tz (by rw [h466]; rfl) rfl) (hm rfl rfl (fun _ _ _ h => h) rfl (gy rfl rfl (fun _ _ _ h => h) (ym (by rw [h473]; rfl) rfl) (gy rfl rfl (fun _ _ _ h => h) (ym (by rw [h473]; rfl) rfl) (hn' rfl (by rw [h473]; rfl) (oc (vs := [.pointer (some p_s), .int .i64 at_, .pointer (some ⟨b22, 0, none⟩)]) tcall_32 rfl rfl (c_dear s at_ (nth s.code.val.code at_.toNat) h30 ⟨_, at40, ⟨b18, c19, rfl, s38⟩⟩ hO) ?_)))))))
  rintro _ w584 ⟨M585, _, le586, hO, rfl, rfl⟩
  refine ⟨_, rfl, ?_⟩
  have hO := hO.less le586
  refine kg_s hO (gy rfl rfl (fun _ _ _ h => h) (yt (by rw [h473]; rfl) rfl) (gy rfl rfl (fun _ _ _ h => h) (pf tz (by rw [h473]; rfl) rfl) (hm rfl rfl (fun _ _ _ h => h) rfl (gy rfl rfl (fun _ _ _ h => h) (yf 8 tf_38_8 rfl (by rw [h483]; rfl) rfl) (gy rfl rfl (fun _ _ _ h => h) (yl tl_3 (by rw [h483]; rfl) rfl (fun _ h => at40.cell h 8 rfl)) (gy rfl rfl (fun _ _ _ h => h) (yv (by rw [h483]; rfl) rfl rfl) (gy rfl rfl (fun _ _ _ h => h) (pf tz (by rw [h483]; rfl) rfl) (hm rfl rfl (fun _ _ _ h => h) rfl (gy rfl rfl (fun _ _ _ h => h) (yf 8 tf_38_8 rfl (by rw [h496]; rfl) rfl) ?_)))))))))
  refine gy rfl rfl (fun _ _ _ h => h) (yl tl_3 (by rw [h496]; rfl) rfl (fun _ h => at40.cell h 8 rfl)) (gy rfl rfl (fun _ _ _ h => h) (y_ge (by rw [h496]; rfl) rfl rfl) (gy rfl rfl (fun _ _ _ h => h) (pf tz (by rw [h496]; rfl) rfl) (hm rfl rfl (fun _ _ _ h => h) rfl (gy rfl rfl (fun _ _ _ h => h) (yf 0 tf_38_0 rfl (by rw [h509]; rfl) rfl) (gy rfl rfl (fun _ _ _ h => h) (yl tl_3 (by rw [h509]; rfl) rfl (fun _ h => at40.cell h 0 rfl)) (hn' rfl (by rw [h509]; rfl) (oc (vs := [.int .i64 ((nth s.code.val.code at_.toNat).kind)]) tcall_33 rfl rfl (c_Leaves ((nth s.code.val.code at_.toNat).kind)  hO) ?_)))))))
  rintro _ w587 ⟨M588, _, le589, hO, rfl, rfl⟩
  refine ⟨_, rfl, ?_⟩
  have hO := hO.less le589
  refine kg_s hO (gy rfl rfl (fun _ _ _ h => h) (ym (by rw [h509]; rfl) rfl) (gy rfl rfl (fun _ _ _ h => h) (yf 7 tf_38_7 rfl (by rw [h522]; rfl) rfl) (gy rfl rfl (fun _ _ _ h => h) (yl tl_3 (by rw [h522]; rfl) rfl (fun _ h => at40.cell h 7 rfl)) (gy rfl rfl (fun _ _ _ h => h) (yv (by rw [h522]; rfl) rfl rfl) (gy rfl rfl (fun _ _ _ h => h) (ym (by rw [h522]; rfl) rfl) (gy rfl rfl (fun _ _ _ h => h) (yf 7 tf_38_7 rfl (by rw [h525]; rfl) rfl) (gy rfl rfl (fun _ _ _ h => h) (yl tl_3 (by rw [h525]; rfl) rfl (fun _ h => at40.cell h 7 rfl)) (gy rfl rfl (fun _ _ _ h => h) (ym (by rw [h525]; rfl) rfl) (gy rfl rfl (fun _ _ _ h => h) (yn (by rw [h525]; rfl) rfl) ?_)))))))))
  refine gy rfl rfl (fun _ _ _ h => h) (ya tf_61_0 (by rw [h525]; rfl) rfl) (gy rfl rfl (fun _ _ _ h => h) (yl tl_53 (by rw [h525]; rfl) rfl (fun _ h => at31.cell h 0 rfl)) (gy rfl rfl (fun _ _ _ h => h) (yn (by rw [h525]; rfl) rfl) (gy rfl rfl (fun _ _ _ h => h) (ya tf_28_3 (by rw [h525]; rfl) rfl) (gy rfl rfl (fun _ _ _ h => h) (yl tl_26 (by rw [h525]; rfl) rfl (fun _ h => at33.cell h 3 rfl)) ?_))))
  have bd590 : s.code.val.metas.length * 24 ≤ 140737488351232 := s35.bd
  refine gy rfl rfl (fun _ _ _ h => h) (y_len ts_26 (by rw [h525]; rfl) rfl) (gy rfl rfl (fun _ _ _ h => h) (y_ge (by rw [h525]; rfl) rfl rfl) (gy rfl rfl (fun _ _ _ h => h) (pf (by rw [h522]; rfl) (by rw [h525]; rfl) rfl) (gy rfl rfl (fun _ _ _ h => h) (pt (by rw [h509]; rfl) (by rw [h522]; rfl) rfl) (gy rfl rfl (fun _ _ _ h => h) (pf tz (by rw [h509]; rfl) rfl) (hm rfl rfl (fun _ _ _ h => h) rfl (gy rfl rfl (fun _ _ _ h => h) (yf 0 tf_38_0 rfl (by rw [h541]; rfl) rfl) (gy rfl rfl (fun _ _ _ h => h) (yl tl_3 (by rw [h541]; rfl) rfl (fun _ h => at40.cell h 0 rfl)) (gy rfl rfl (fun _ _ _ h => h) (y_ne (by rw [h541]; rfl) rfl rfl) (gy rfl rfl (fun _ _ _ h => h) (ym (by rw [h541]; rfl) rfl) ?_)))))))))
  refine gy rfl rfl (fun _ _ _ h => h) (ek (by rw [h558]; rfl)) (gy rfl rfl (fun _ _ _ h => h) (ek (by rw [h558]; rfl)) (gy rfl rfl (fun _ _ _ h => h) (ek (by rw [h558]; rfl)) (gy rfl rfl (fun _ _ _ h => h) (ek (by rw [h558]; rfl)) (gy rfl rfl (fun _ _ _ h => h) (pf (by rw [h541]; rfl) (by rw [h558]; rfl) rfl) (gy rfl rfl (fun _ _ _ h => h) (pf tz (by rw [h541]; rfl) rfl) (gd (ez (E' := [(0, .pointer (some p_s)), (4, .bool false), (5, .pointer (some ⟨b22, 0, none⟩)), (80, .bool false)]) ⟨rfl, rfl, rfl, rfl, tz⟩ (et (cj rfl ?_)))))))))
  exact cp (ez (E' := [(0, .pointer (some p_s)), (4, .bool false), (5, .pointer (some ⟨b22, 0, none⟩))]) ⟨rfl, rfl, rfl, tz⟩ (et (hcut45 _ ⟨_, le41, hO, (by simp_all [insA])⟩)))
 rcases bt (!decide ((nth s.code.val.code at_.toNat).kind = 6)) with h593 | h593
 ·
  have h594 : (decide ((nth s.code.val.code at_.toNat).kind = 6)) = false := by simpa using h593
  have h595 : ¬ ((nth s.code.val.code at_.toNat).kind = 6) := oq h594
  obtain ⟨w596, hO, ew597⟩ : ∃ w', Own w' M25 (bs) ∧ { w24 with drawn := w24.drawn + 1 } = w' := ⟨_, hO.drawn _, rfl⟩
  refine cw (S := fun w => Own w M25 (bs)) (.take 0 (.take 1 (.take 2 (.take 3 (.take 4 (.take 5 (.take 6 (.take 7 (.take 8 (.take 9 (.one 10 (.take 11 (.take 12 (.take 13 (.take 14 (.take 15 (.one 16 (.take 17 (.take 18 (.take 19 (.take 20 (.take 21 (.take 22 (.take 23 (.take 24 (.take 25 (.take 26 (.take 27 (.take 28 (.take 29 (.take 30 (.take 31 (.one 32 (.take 33 (.take 34 (.take 35 (.take 36 (.take 37 (.take 38 (.take 39 (.take 40 (.take 41 (.take 42 (.take 43 (.take 44 (.take 45 (.take 46 (.take 47 (.take 48 (.take 49 (.take 50 (.take 51 (.take 52 (.take 53 (.take 54 (.take 55 (.take 56 (.take 57 (.take 58 (.take 59 (.take 60 (.take 61 (.take 62 .done))))))))))))))))))))))))))))))))))))))))))))))))))))))))))))))) 63 tm (by kernel_rfl) ew597 hO (hfb 0 tf_38_0 rfl rfl rfl (fun _ _ _ h => h) rfl (hlc tl_3 at40 0 rfl rfl rfl (fun _ _ _ h => h) rfl (gy rfl rfl (fun _ _ _ h => h) (yv tz rfl rfl) (hm rfl rfl (fun _ _ _ h => h) rfl (gy rfl rfl (fun _ _ _ h => h) (yf 0 tf_38_0 rfl (by rw [h459]; rfl) rfl) (gy rfl rfl (fun _ _ _ h => h) (yl tl_3 (by rw [h459]; rfl) rfl (fun _ h => at40.cell h 0 rfl)) (gy rfl rfl (fun _ _ _ h => h) (y_gt (by rw [h459]; rfl) rfl rfl) (gy rfl rfl (fun _ _ _ h => h) (pf tz (by rw [h459]; rfl) rfl) (hm rfl rfl (fun _ _ _ h => h) rfl ?_)))))))))
  refine gy rfl rfl (fun _ _ _ h => h) (ym (by rw [h466]; rfl) rfl) (hn' rfl (by rw [h466]; rfl) (oc (vs := [.pointer (some p_s), .pointer (some ⟨b22, 0, none⟩)]) tcall_31 rfl rfl (c_k s (nth s.code.val.code at_.toNat) h30 ⟨_, at40, ⟨b18, c19, rfl, s38⟩⟩ hO) ?_))
  rintro _ w598 ⟨M599, _, le600, hO, rfl, rfl⟩
  refine ⟨_, rfl, ?_⟩
  have hO := hO.less le600
  refine kg_s hO (gy rfl rfl (fun _ _ _ h => h) (yt (by rw [h466]; rfl) rfl) (gy rfl rfl (fun _ _ _ h => h) (pf tz (by rw [h466]; rfl) rfl) (hm rfl rfl (fun _ _ _ h => h) rfl (gy rfl rfl (fun _ _ _ h => h) (ym (by rw [h473]; rfl) rfl) (gy rfl rfl (fun _ _ _ h => h) (ym (by rw [h473]; rfl) rfl) (hn' rfl (by rw [h473]; rfl) (oc (vs := [.pointer (some p_s), .int .i64 at_, .pointer (some ⟨b22, 0, none⟩)]) tcall_32 rfl rfl (c_dear s at_ (nth s.code.val.code at_.toNat) h30 ⟨_, at40, ⟨b18, c19, rfl, s38⟩⟩ hO) ?_)))))))
  rintro _ w601 ⟨M602, _, le603, hO, rfl, rfl⟩
  refine ⟨_, rfl, ?_⟩
  have hO := hO.less le603
  refine kg_s hO (gy rfl rfl (fun _ _ _ h => h) (yt (by rw [h473]; rfl) rfl) (gy rfl rfl (fun _ _ _ h => h) (pf tz (by rw [h473]; rfl) rfl) (hm rfl rfl (fun _ _ _ h => h) rfl (gy rfl rfl (fun _ _ _ h => h) (yf 8 tf_38_8 rfl (by rw [h483]; rfl) rfl) (gy rfl rfl (fun _ _ _ h => h) (yl tl_3 (by rw [h483]; rfl) rfl (fun _ h => at40.cell h 8 rfl)) (gy rfl rfl (fun _ _ _ h => h) (yv (by rw [h483]; rfl) rfl rfl) (gy rfl rfl (fun _ _ _ h => h) (pf tz (by rw [h483]; rfl) rfl) (hm rfl rfl (fun _ _ _ h => h) rfl (gy rfl rfl (fun _ _ _ h => h) (yf 8 tf_38_8 rfl (by rw [h496]; rfl) rfl) ?_)))))))))
  refine gy rfl rfl (fun _ _ _ h => h) (yl tl_3 (by rw [h496]; rfl) rfl (fun _ h => at40.cell h 8 rfl)) (gy rfl rfl (fun _ _ _ h => h) (y_ge (by rw [h496]; rfl) rfl rfl) (gy rfl rfl (fun _ _ _ h => h) (pf tz (by rw [h496]; rfl) rfl) (hm rfl rfl (fun _ _ _ h => h) rfl (gy rfl rfl (fun _ _ _ h => h) (yf 0 tf_38_0 rfl (by rw [h509]; rfl) rfl) (gy rfl rfl (fun _ _ _ h => h) (yl tl_3 (by rw [h509]; rfl) rfl (fun _ h => at40.cell h 0 rfl)) (hn' rfl (by rw [h509]; rfl) (oc (vs := [.int .i64 ((nth s.code.val.code at_.toNat).kind)]) tcall_33 rfl rfl (c_Leaves ((nth s.code.val.code at_.toNat).kind)  hO) ?_)))))))
  rintro _ w604 ⟨M605, _, le606, hO, rfl, rfl⟩
  refine ⟨_, rfl, ?_⟩
  have hO := hO.less le606
  refine kg_s hO (gy rfl rfl (fun _ _ _ h => h) (ym (by rw [h509]; rfl) rfl) (gy rfl rfl (fun _ _ _ h => h) (ek (by rw [h522]; rfl)) (gy rfl rfl (fun _ _ _ h => h) (ek (by rw [h522]; rfl)) (gy rfl rfl (fun _ _ _ h => h) (ek (by rw [h522]; rfl)) (gy rfl rfl (fun _ _ _ h => h) (ek (by rw [h522]; rfl)) (gy rfl rfl (fun _ _ _ h => h) (yu rfl) (gy rfl rfl (fun _ _ _ h => h) (yu rfl) (gy rfl rfl (fun _ _ _ h => h) (yu rfl) (gy rfl rfl (fun _ _ _ h => h) (yu rfl) ?_)))))))))
  refine gy rfl rfl (fun _ _ _ h => h) (yu rfl) (gy rfl rfl (fun _ _ _ h => h) (yu rfl) (gy rfl rfl (fun _ _ _ h => h) (yu rfl) (gy rfl rfl (fun _ _ _ h => h) (yu rfl) (gy rfl rfl (fun _ _ _ h => h) (yu rfl) (gy rfl rfl (fun _ _ _ h => h) (yu rfl) (gy rfl rfl (fun _ _ _ h => h) (yu rfl) (gy rfl rfl (fun _ _ _ h => h) (ek (by rw [h522]; rfl)) (gy rfl rfl (fun _ _ _ h => h) (pf (by rw [h509]; rfl) (by rw [h522]; rfl) rfl) (gy rfl rfl (fun _ _ _ h => h) (pf tz (by rw [h509]; rfl) rfl) ?_)))))))))
  refine hm rfl rfl (fun _ _ _ h => h) rfl (gy rfl rfl (fun _ _ _ h => h) (yf 0 tf_38_0 rfl rfl rfl) (gy rfl rfl (fun _ _ _ h => h) (yl tl_3 rfl rfl (fun _ h => at40.cell h 0 rfl)) (gy rfl rfl (fun _ _ _ h => h) (y_ne rfl rfl rfl) (gy rfl rfl (fun _ _ _ h => h) (ym rfl rfl) (gy rfl rfl (fun _ _ _ h => h) (yf 5 tf_38_5 rfl (by rw [h593]; rfl) rfl) (gy rfl rfl (fun _ _ _ h => h) (yl tl_36 (by rw [h593]; rfl) rfl (fun _ h => at40.cell h 5 rfl)) ?_))))))
  have bd607 : ((nth s.code.val.code at_.toNat).args).length * 8 ≤ 140737488351232 := s38.bd
  refine gy rfl rfl (fun _ _ _ h => h) (y_len ts_36 (by rw [h593]; rfl) rfl) (gy rfl rfl (fun _ _ _ h => h) (y_gt (by rw [h593]; rfl) rfl rfl) (gy rfl rfl (fun _ _ _ h => h) (pt rfl (by rw [h593]; rfl) rfl) (gy rfl rfl (fun _ _ _ h => h) (pf tz rfl rfl) (gd (ez (E' := [(0, .pointer (some p_s)), (4, .bool false), (5, .pointer (some ⟨b22, 0, none⟩)), (80, .bool (decide (0 < (((nth s.code.val.code at_.toNat).args).length : Int))))]) ⟨rfl, rfl, rfl, rfl, tz⟩ (et (cd rfl (fun h608 => ?_) (fun h608 => ?_))))))))
  ·
   have h609 : 0 < (((nth s.code.val.code at_.toNat).args).length : Int) := ot h608
   refine cq (cr (as_ hO rfl rfl (rj (et (ct (ew' (er (.inl rfl) rfl rfl ?_)))))))
   refine Ret.mk hle39 hO (congrArg Value.bool ?_)
   generalize (nth s.code.val.code at_.toNat) = x at *; first | (have h_1 := all_bad (s := s) (x := x) (k := k) (by omega) (by assumption); simp [insB, h_1]; done) | (have h_1 := all_done hreg (by omega); simp_all [insB, insZ]; done) | (simp_all [insB, insA]; done) | grind [insB, insA, insZ]
  have h610 : ¬ (0 < (((nth s.code.val.code at_.toNat).args).length : Int)) := oq h608
  exact cp (ez (E' := [(0, .pointer (some p_s)), (4, .bool false), (5, .pointer (some ⟨b22, 0, none⟩))]) ⟨rfl, rfl, rfl, tz⟩ (et (hcut45 _ ⟨_, le41, hO, (by simp_all [insA])⟩)))
 have h611 : (decide ((nth s.code.val.code at_.toNat).kind = 6)) = true := by simpa using h593
 have h612 : (nth s.code.val.code at_.toNat).kind = 6 := ot h611
 obtain ⟨w613, hO, ew614⟩ : ∃ w', Own w' M25 (bs) ∧ { w24 with drawn := w24.drawn + 1 } = w' := ⟨_, hO.drawn _, rfl⟩
 refine cw (S := fun w => Own w M25 (bs)) (.take 0 (.take 1 (.take 2 (.take 3 (.take 4 (.take 5 (.take 6 (.take 7 (.take 8 (.take 9 (.one 10 (.take 11 (.take 12 (.take 13 (.take 14 (.take 15 (.one 16 (.take 17 (.take 18 (.take 19 (.take 20 (.take 21 (.take 22 (.take 23 (.take 24 (.take 25 (.take 26 (.take 27 (.take 28 (.take 29 (.take 30 (.take 31 (.one 32 (.take 33 (.take 34 (.take 35 (.take 36 (.take 37 (.take 38 (.take 39 (.take 40 (.take 41 (.take 42 (.take 43 (.take 44 (.take 45 (.take 46 (.take 47 (.take 48 (.take 49 (.take 50 (.take 51 (.take 52 (.take 53 (.take 54 (.take 55 (.take 56 (.take 57 (.take 58 (.take 59 (.take 60 (.take 61 (.take 62 .done))))))))))))))))))))))))))))))))))))))))))))))))))))))))))))))) 63 tm (by kernel_rfl) ew614 hO (hfb 0 tf_38_0 rfl rfl rfl (fun _ _ _ h => h) rfl (hlc tl_3 at40 0 rfl rfl rfl (fun _ _ _ h => h) rfl (gy rfl rfl (fun _ _ _ h => h) (yv tz rfl rfl) (hm rfl rfl (fun _ _ _ h => h) rfl (gy rfl rfl (fun _ _ _ h => h) (yf 0 tf_38_0 rfl (by rw [h459]; rfl) rfl) (gy rfl rfl (fun _ _ _ h => h) (yl tl_3 (by rw [h459]; rfl) rfl (fun _ h => at40.cell h 0 rfl)) (gy rfl rfl (fun _ _ _ h => h) (y_gt (by rw [h459]; rfl) rfl rfl) (gy rfl rfl (fun _ _ _ h => h) (pf tz (by rw [h459]; rfl) rfl) (hm rfl rfl (fun _ _ _ h => h) rfl ?_)))))))))
 refine gy rfl rfl (fun _ _ _ h => h) (ym (by rw [h466]; rfl) rfl) (hn' rfl (by rw [h466]; rfl) (oc (vs := [.pointer (some p_s), .pointer (some ⟨b22, 0, none⟩)]) tcall_31 rfl rfl (c_k s (nth s.code.val.code at_.toNat) h30 ⟨_, at40, ⟨b18, c19, rfl, s38⟩⟩ hO) ?_))
 rintro _ w615 ⟨M616, _, le617, hO, rfl, rfl⟩
 refine ⟨_, rfl, ?_⟩
 have hO := hO.less le617
 refine kg_s hO (gy rfl rfl (fun _ _ _ h => h) (yt (by rw [h466]; rfl) rfl) (gy rfl rfl (fun _ _ _ h => h) (pf tz (by rw [h466]; rfl) rfl) (hm rfl rfl (fun _ _ _ h => h) rfl (gy rfl rfl (fun _ _ _ h => h) (ym (by rw [h473]; rfl) rfl) (gy rfl rfl (fun _ _ _ h => h) (ym (by rw [h473]; rfl) rfl) (hn' rfl (by rw [h473]; rfl) (oc (vs := [.pointer (some p_s), .int .i64 at_, .pointer (some ⟨b22, 0, none⟩)]) tcall_32 rfl rfl (c_dear s at_ (nth s.code.val.code at_.toNat) h30 ⟨_, at40, ⟨b18, c19, rfl, s38⟩⟩ hO) ?_)))))))
 rintro _ w618 ⟨M619, _, le620, hO, rfl, rfl⟩
 refine ⟨_, rfl, ?_⟩
 have hO := hO.less le620
 refine kg_s hO (gy rfl rfl (fun _ _ _ h => h) (yt (by rw [h473]; rfl) rfl) (gy rfl rfl (fun _ _ _ h => h) (pf tz (by rw [h473]; rfl) rfl) (hm rfl rfl (fun _ _ _ h => h) rfl (gy rfl rfl (fun _ _ _ h => h) (yf 8 tf_38_8 rfl (by rw [h483]; rfl) rfl) (gy rfl rfl (fun _ _ _ h => h) (yl tl_3 (by rw [h483]; rfl) rfl (fun _ h => at40.cell h 8 rfl)) (gy rfl rfl (fun _ _ _ h => h) (yv (by rw [h483]; rfl) rfl rfl) (gy rfl rfl (fun _ _ _ h => h) (pf tz (by rw [h483]; rfl) rfl) (hm rfl rfl (fun _ _ _ h => h) rfl (gy rfl rfl (fun _ _ _ h => h) (yf 8 tf_38_8 rfl (by rw [h496]; rfl) rfl) ?_)))))))))
 refine gy rfl rfl (fun _ _ _ h => h) (yl tl_3 (by rw [h496]; rfl) rfl (fun _ h => at40.cell h 8 rfl)) (gy rfl rfl (fun _ _ _ h => h) (y_ge (by rw [h496]; rfl) rfl rfl) (gy rfl rfl (fun _ _ _ h => h) (pf tz (by rw [h496]; rfl) rfl) (hm rfl rfl (fun _ _ _ h => h) rfl (gy rfl rfl (fun _ _ _ h => h) (yf 0 tf_38_0 rfl (by rw [h509]; rfl) rfl) (gy rfl rfl (fun _ _ _ h => h) (yl tl_3 (by rw [h509]; rfl) rfl (fun _ h => at40.cell h 0 rfl)) (hn' rfl (by rw [h509]; rfl) (oc (vs := [.int .i64 ((nth s.code.val.code at_.toNat).kind)]) tcall_33 rfl rfl (c_Leaves ((nth s.code.val.code at_.toNat).kind)  hO) ?_)))))))
 rintro _ w621 ⟨M622, _, le623, hO, rfl, rfl⟩
 refine ⟨_, rfl, ?_⟩
 have hO := hO.less le623
 refine kg_s hO (gy rfl rfl (fun _ _ _ h => h) (ym (by rw [h509]; rfl) rfl) (gy rfl rfl (fun _ _ _ h => h) (ek (by rw [h522]; rfl)) (gy rfl rfl (fun _ _ _ h => h) (ek (by rw [h522]; rfl)) (gy rfl rfl (fun _ _ _ h => h) (ek (by rw [h522]; rfl)) (gy rfl rfl (fun _ _ _ h => h) (ek (by rw [h522]; rfl)) (gy rfl rfl (fun _ _ _ h => h) (yu rfl) (gy rfl rfl (fun _ _ _ h => h) (yu rfl) (gy rfl rfl (fun _ _ _ h => h) (yu rfl) (gy rfl rfl (fun _ _ _ h => h) (yu rfl) ?_)))))))))
 refine gy rfl rfl (fun _ _ _ h => h) (yu rfl) (gy rfl rfl (fun _ _ _ h => h) (yu rfl) (gy rfl rfl (fun _ _ _ h => h) (yu rfl) (gy rfl rfl (fun _ _ _ h => h) (yu rfl) (gy rfl rfl (fun _ _ _ h => h) (yu rfl) (gy rfl rfl (fun _ _ _ h => h) (yu rfl) (gy rfl rfl (fun _ _ _ h => h) (yu rfl) (gy rfl rfl (fun _ _ _ h => h) (ek (by rw [h522]; rfl)) (gy rfl rfl (fun _ _ _ h => h) (pf (by rw [h509]; rfl) (by rw [h522]; rfl) rfl) (gy rfl rfl (fun _ _ _ h => h) (pf tz (by rw [h509]; rfl) rfl) ?_)))))))))
 refine hm rfl rfl (fun _ _ _ h => h) rfl (gy rfl rfl (fun _ _ _ h => h) (yf 0 tf_38_0 rfl rfl rfl) (gy rfl rfl (fun _ _ _ h => h) (yl tl_3 rfl rfl (fun _ h => at40.cell h 0 rfl)) (gy rfl rfl (fun _ _ _ h => h) (y_ne rfl rfl rfl) (gy rfl rfl (fun _ _ _ h => h) (ym rfl rfl) (gy rfl rfl (fun _ _ _ h => h) (ek (by rw [h593]; rfl)) (gy rfl rfl (fun _ _ _ h => h) (ek (by rw [h593]; rfl)) (gy rfl rfl (fun _ _ _ h => h) (ek (by rw [h593]; rfl)) (gy rfl rfl (fun _ _ _ h => h) (ek (by rw [h593]; rfl)) (gy rfl rfl (fun _ _ _ h => h) (pf rfl (by rw [h593]; rfl) rfl) ?_)))))))))
 exact gy rfl rfl (fun _ _ _ h => h) (pf tz rfl rfl) (gd (ez (E' := [(0, .pointer (some p_s)), (4, .bool false), (5, .pointer (some ⟨b22, 0, none⟩)), (80, .bool false)]) ⟨rfl, rfl, rfl, rfl, tz⟩ (et (cj rfl (cp (ez (E' := [(0, .pointer (some p_s)), (4, .bool false), (5, .pointer (some ⟨b22, 0, none⟩))]) ⟨rfl, rfl, rfl, tz⟩ (et (hcut45 _ ⟨_, le41, hO, (by simp_all [insA])⟩))))))))

end Go.Proofs.YtdniefnjgkhkeaaDoor
