/-
  Contracts of Go functions, each walked operation by operation: swage/verify.plain, swage/verify.heights.
  Conditions: as each statement says.
-/
import Derived.Test.YtdniefnjgkhkeaaDoorVf
import Derived.Test.YtdniefnjgkhkeaaDoorProg
import Derived.Test.YtdniefnjgkhkeaaDoorC1
import Derived.Test.YtdniefnjgkhkeaaDoorC2
import Derived.Test.YtdniefnjgkhkeaaDoorC3
import Derived.Test.YtdniefnjgkhkeaaDoorC4
import Derived.Test.YtdniefnjgkhkeaaDoorC5
import Derived.Test.YtdniefnjgkhkeaaDoorC6
import Derived.Test.YtdniefnjgkhkeaaDoorC7
import Derived.Test.YtdniefnjgkhkeaaDoorV2
namespace Go.Proofs.YtdniefnjgkhkeaaDoor
open Go
set_option maxRecDepth 100000
set_option linter.unusedVariables false
set_option linter.unusedSimpArgs false
theorem tc_121 : (lone1 Tryd.prog 121 = true ∨ (aggN Tryd.prog 121).isSome = true) ∧ (match Tryd.prog.underlying 121 with | some (.interface _) => false | _ => true) = true := ⟨.inl (by kernel_rfl), by kernel_rfl⟩
theorem tc_30 : (lone1 Tryd.prog 30 = true ∨ (aggN Tryd.prog 30).isSome = true) ∧ (match Tryd.prog.underlying 30 with | some (.interface _) => false | _ => true) = true := ⟨.inl (by kernel_rfl), by kernel_rfl⟩
theorem tcall_63 : cl Tryd.prog 63 := ⟨_, Tryd.func63, by kernel_rfl, by kernel_rfl⟩
theorem tcall_64 : cl Tryd.prog 64 := ⟨_, Tryd.func64, by kernel_rfl, by kernel_rfl⟩
theorem tcall_65 : cl Tryd.prog 65 := ⟨_, Tryd.func65, by kernel_rfl, by kernel_rfl⟩
theorem tcall_66 : cl Tryd.prog 66 := ⟨_, Tryd.func66, by kernel_rfl, by kernel_rfl⟩
theorem tcall_67 : cl Tryd.prog 67 := ⟨_, Tryd.func67, by kernel_rfl, by kernel_rfl⟩
theorem c_plain {p_p : Addr} (p : Prog) {p_f : Addr} (f : FuncD) {b_reached : Option Addr} {c_reached : Nat} (reached : List Bool) {w : World} {M : Mem} {bs : List (Nat × Obj)} (h_p : PAt M p_p p) (h_f : PAt M p_f f) (h_reached : RdS M b_reached c_reached reached) (hc : codeMay f.code = true) (hr : reached.length = f.code.length) (hO : Own w M (bs)) :
    Calls Tryd.prog 49 #[.pointer (some p_p), .pointer (some p_f), .slice b_reached reached.length c_reached] w (Ret M bs (fun M' v => RdE M' v (plainE p f reached))) := by
 refine ce (vs := [.pointer (some p_p), .pointer (some p_f), .slice b_reached reached.length c_reached]) (n := 68) Tryd.func49 rfl rfl rfl ?_
 have bd1 : reached.length * 1 ≤ 140737488351232 := h_reached.bd
 have hl := codeMay_len hc
 refine cq (cr (as_ hO rfl rfl (rj (et (cq (cq (cr (mv hO rfl rfl (nc hO rfl rfl ?_)))))))))
 refine fa tf_44_2 hO rfl rfl ?_
 obtain ⟨_, at5, b2, c3, rfl, s4⟩ := id h_f
 refine lc tl_42 at5 2 rfl hO rfl rfl ?_
 have bd6 : f.code.length * 16 ≤ 140737488351232 := s4.bd
 refine ln ts_42 hO rfl rfl (mv hO rfl rfl (rj (et (cb (cg_loop (σ := Mem × Nat) (fun qs => [(16, .int .i64 (qs.2 : Int)), (0, .pointer (some p_p)), (1, .pointer (some p_f)), (2, .slice b_reached reached.length c_reached), (14, .slice b2 f.code.length c3), (15, .int .i64 (f.code.length : Int))]) (fun qs w => Mem.le M qs.1 ∧ (qs.2 ≤ f.code.length ∧ noneBad p f reached qs.2) ∧ Own w qs.1 (bs)) (fun qs => f.code.length - qs.2) (M, 0) ⟨rfl, rfl, rfl, rfl, rfl, rfl, tz⟩ ⟨mr _, (by (try dsimp only); exact ⟨Nat.zero_le _, fun j hj => absurd hj (Nat.not_lt_zero _)⟩), hO⟩ ?_)))))
 rintro ⟨Mi, k⟩ w7 ⟨le9, ⟨hk, hb⟩, hO⟩
 try dsimp only at *
 have h10 := h_p.mono le9
 have h11 := h_f.mono le9
 have at12 := at5.mono le9
 have s13 := s4.mono le9
 have h14 := h_reached.mono le9
 have hle15 := le9
 refine cq (cr (ry hO rfl (yv tz rfl rfl) (rj (et (cq (cd rfl (fun h16 => ?_) (fun h16 => ?_)))))))
 ·
  have h17 : (k : Int) < (f.code.length : Int) := ot h16
  refine cp (et (cq (cb (cq (cr (mv hO rfl rfl ?_))))))
  obtain ⟨p18, rfl, _⟩ := RdS.get s13 k (by omega)
  have hO : Own w7 Mi (bs) := by assumption
  have q19 : PAt Mi (p18.add (k * 2)) (nth f.code k) := RdS.at s13 k (by omega)
  refine ry hO rfl (y_indexN k ts_42 tz rfl rfl (by omega)) ?_
  obtain ⟨_, at20, rfl⟩ := id q19
  refine ry hO rfl (yq [.int .i64 ((nth f.code k).kind), .int .i64 ((nth f.code k).a)] ta_41 rfl tz rfl (fun _ h j _ e => at20.cell h j e)) (rd' tz (og_alloc hO rfl tz_41 (fun b21 w22 hO => ?_)))
  have hO : Own _ Mi ([(b21, .cells #[.int .i64 0, .int .i64 0] 41)] ++ bs) := hO
  refine as_ hO rfl rfl (rd' tz (oo (vs := [.int .i64 ((nth f.code k).kind), .int .i64 ((nth f.code k).a)]) hO tn_41 rfl rfl rfl (nb rfl) rfl rfl (fun w23 hO => ?_)))
  have hO : Own _ Mi ([(b21, .cells #[.int .i64 ((nth f.code k).kind), .int .i64 ((nth f.code k).a)] 41)] ++ bs) := hO
  refine rj (et (cq (cr (mv hO rfl rfl (mv hO rfl rfl ?_)))))
  obtain ⟨p24, rfl, _⟩ := RdS.get h14 k (by omega)
  have hO : Own w23 Mi ([(b21, .cells #[.int .i64 ((nth f.code k).kind), .int .i64 ((nth f.code k).a)] 41)] ++ bs) := by assumption
  have q25 : PAt Mi (p24.add (k * 1)) (nth reached k) := RdS.at h14 k (by omega)
  refine ry hO rfl (y_indexN k ts_50 tz rfl rfl (by omega)) ?_
  obtain ⟨_, at26, rfl⟩ := id q25
  refine ry hO rfl (yl tl_4 tz rfl (fun _ h => at26.cell0 h rfl)) (mv hO rfl rfl ?_)
  rcases bt (nth reached k) with h27 | h27
  ·
   refine ry hO rfl (ym (by rw [h27]; rfl) rfl) (ry hO rfl (ym (by rw [h27]; rfl) rfl) (ry hO rfl (yq [.int .i64 ((nth f.code k).kind), .int .i64 ((nth f.code k).a)] ta_41 rfl (by rw [h27]; rfl) rfl (fun _ h => Own.cellsB h 0 0 rfl (by intro j v e; exact rowCells (vs := [.int .i64 ((nth f.code k).kind), .int .i64 ((nth f.code k).a)]) rfl e))) (rd' (by rw [h27]; rfl) (oc (vs := [.pointer (some p_p), .pointer (some p_f), .agg #[.int .i64 ((nth f.code k).kind), .int .i64 ((nth f.code k).a)]]) tcall_63 rfl rfl (c_outside p f (vs_i := [.int .i64 ((nth f.code k).kind), .int .i64 ((nth f.code k).a)]) (nth f.code k) h10 h11 rfl hO) ?_))))
   rintro _ w28 ⟨M29, _, le30, hO, rfl, rfl⟩
   refine ⟨_, rfl, ?_⟩
   have h31 := h10.mono le30
   have h32 := h11.mono le30
   have at33 := at12.mono le30
   have s34 := s13.mono le30
   have h35 := h14.mono le30
   have q36 := q19.mono le30
   have at37 := at20.mono le30
   have q38 := q25.mono le30
   have at39 := at26.mono le30
   have hle40 := m_ hle15 le30
   have ch41 := m_ le9 le30
   refine ry hO rfl (pt tz (by rw [h27]; rfl) rfl) (rj (ez (E' := [(16, .int .i64 (k : Int)), (0, .pointer (some p_p)), (1, .pointer (some p_f)), (2, .slice (some p24) reached.length c_reached), (14, .slice (some p18) f.code.length c3), (15, .int .i64 (f.code.length : Int)), (7, .int .i64 (k : Int)), (30, .bool (outsideB p f (nth f.code k)))]) ⟨rfl, rfl, rfl, rfl, rfl, rfl, rfl, rfl, tz⟩ (et (cd rfl (fun h42 => ?_) (fun h42 => ?_)))))
   ·
    refine cq (cr (mv hO rfl rfl (ry hO rfl (y_makeI tc_30.1 tc_30.2 tz rfl) (ry hO rfl (y_build [.int .i64 (k : Int), .iface 30 (.int .i64 501)] (.agg #[.int .i64 (k : Int), .iface 30 (.int .i64 501)]) tz rfl (fun _ => by kernel_rfl)) (rd' tz (og_box hO rfl rfl (fun b43 w44 hO => ?_)))))))
    have hO : Own _ M29 ([(b43, .cells #[.int .i64 (k : Int), .iface 30 (.int .i64 501)] 123)] ++ ([(b21, .cells #[.int .i64 ((nth f.code k).kind), .int .i64 ((nth f.code k).a)] 41)] ++ bs)) := hO
    refine ry hO rfl (y_makeI tc_121.1 tc_121.2 tz rfl) (as_ hO rfl rfl (rj (ez (E' := [(16, .int .i64 (k : Int)), (0, .pointer (some p_p)), (1, .pointer (some p_f)), (2, .slice (some p24) reached.length c_reached), (14, .slice (some p18) f.code.length c3), (15, .int .i64 (f.code.length : Int)), (6, .iface 121 (.pointer (some ⟨b43, 0, none⟩)))]) ⟨rfl, rfl, rfl, rfl, rfl, rfl, rfl, tz⟩ (et (ct (eg (ew' (ew' (eg ?_)))))))))
    refine ew' (er (.inl rfl) rfl rfl ?_)
    obtain ⟨M45, le46, hO, hk47, hn48, hd49⟩ := Own.keeps (rs := [(b43, .cells #[.int .i64 (k : Int), .iface 30 (.int .i64 501)] 123)]) hO
    have h50 := h31.mono le46
    have h51 := h32.mono le46
    have at52 := at33.mono le46
    have s53 := s34.mono le46
    have h54 := h35.mono le46
    have hle55 := m_ hle40 le46
    have ch56 := m_ ch41 le46
    have at57 := Has.at (vs := [.int .i64 (k : Int), .iface 30 (.int .i64 501)]) hk47 rfl
    refine Ret.mk hle55 (hO.forget) ?_
    have hx58 : (some ((k : Int), 501)) = plainE p f reached := by exact plain_hit (by omega) hb (by simp_all [badAt])
    exact hx58 ▸ (.inr ⟨(k : Int), 501, _, rfl, rfl, at57⟩)
   refine cp (ek' (et (cr (ry hO rfl (y_add ((k + 1 : Nat) : Int) tz rfl rfl (by rw [wd] <;> omega)) (mv hO rfl rfl (rj ?_))))))
   have hO := hO.forget
   refine ends_round (M29, k + 1) ?_ ?_ ?_
   · exact ⟨rfl, rfl, rfl, rfl, rfl, rfl, tz⟩
   · exact ⟨ch41, (by (try dsimp only); exact ⟨by omega, noneBad_next hb (by simp_all [badAt])⟩), hO⟩
   · (try dsimp only); omega
  refine ry hO rfl (ek (by rw [h27]; rfl)) (ry hO rfl (ek (by rw [h27]; rfl)) (ry hO rfl (ek (by rw [h27]; rfl)) (ry hO rfl (ek (by rw [h27]; rfl)) (ry hO rfl (pf tz (by rw [h27]; rfl) rfl) (rj (ez (E' := [(16, .int .i64 (k : Int)), (0, .pointer (some p_p)), (1, .pointer (some p_f)), (2, .slice (some p24) reached.length c_reached), (14, .slice (some p18) f.code.length c3), (15, .int .i64 (f.code.length : Int)), (7, .int .i64 (k : Int)), (30, .bool false)]) ⟨rfl, rfl, rfl, rfl, rfl, rfl, rfl, rfl, tz⟩ (et (cj rfl (cp ?_)))))))))
  refine ek' (et (cr (ry hO rfl (y_add ((k + 1 : Nat) : Int) tz rfl rfl (by rw [wd] <;> omega)) (mv hO rfl rfl (rj ?_)))))
  have hO := hO.forget
  refine ends_round (Mi, k + 1) ?_ ?_ ?_
  · exact ⟨rfl, rfl, rfl, rfl, rfl, rfl, tz⟩
  · exact ⟨le9, (by (try dsimp only); exact ⟨by omega, noneBad_next hb (by simp_all [badAt])⟩), hO⟩
  · (try dsimp only); omega
 have h59 : ¬ ((k : Int) < (f.code.length : Int)) := oq h16
 refine cx (eh (eh (ej (et (cq (cr (mv hO rfl rfl (nc hO rfl rfl (fa tf_44_2 hO rfl rfl ?_)))))))))
 refine lc tl_42 at12 2 rfl hO rfl rfl (ln ts_42 hO rfl rfl (ry hO rfl (y_sub ((f.code.length : Int) - 1) tz rfl rfl (by rw [wd] <;> omega)) (as_ hO rfl rfl (rj (ez (E' := [(1, .pointer (some p_f)), (2, .slice b_reached reached.length c_reached), (9, .int .i64 ((f.code.length : Int) - 1))]) ⟨rfl, rfl, rfl, tz⟩ (et (cq (cq (cr ?_)))))))))
 refine mv hO rfl rfl (nc hO rfl rfl (fa tf_44_2 hO rfl rfl (lc tl_42 at12 2 rfl hO rfl rfl (mv hO rfl rfl ?_))))
 obtain ⟨p60, rfl, _⟩ := RdS.get s13 (((f.code.length : Int) - 1).toNat) (by omega)
 have hO : Own w7 Mi (bs) := by assumption
 have q61 : PAt Mi (p60.add ((((f.code.length : Int) - 1).toNat) * 2)) (nth f.code (((f.code.length : Int) - 1).toNat)) := RdS.at s13 (((f.code.length : Int) - 1).toNat) (by omega)
 refine ry hO rfl (yi ts_42 tz rfl rfl (by omega) (by omega)) (fa tf_41_0 hO rfl rfl ?_)
 obtain ⟨_, at62, rfl⟩ := id q61
 refine lc tl_3 at62 0 rfl hO rfl rfl (as_ hO rfl rfl (rj (et (cq (cr (mv hO rfl rfl (mv hO rfl rfl ?_)))))))
 obtain ⟨p63, rfl, _⟩ := RdS.get h14 (((f.code.length : Int) - 1).toNat) (by omega)
 have hO : Own w7 Mi (bs) := by assumption
 have q64 : PAt Mi (p63.add ((((f.code.length : Int) - 1).toNat) * 1)) (nth reached (((f.code.length : Int) - 1).toNat)) := RdS.at h14 (((f.code.length : Int) - 1).toNat) (by omega)
 refine ry hO rfl (yi ts_50 tz rfl rfl (by omega) (by omega)) ?_
 obtain ⟨_, at65, rfl⟩ := id q64
 refine ry hO rfl (yl tl_4 tz rfl (fun _ h => at65.cell0 h rfl)) (mv hO rfl rfl ?_)
 rcases bt (nth reached (((f.code.length : Int) - 1).toNat)) with h66 | h66
 ·
  refine ry hO rfl (ym (by rw [h66]; rfl) rfl) (ry hO rfl (y_ne (by rw [h66]; rfl) rfl rfl) (ry hO rfl (pt tz (by rw [h66]; rfl) rfl) (mv hO rfl rfl ?_)))
  rcases bt (!decide ((nth f.code (((f.code.length : Int) - 1).toNat)).kind = 12)) with h67 | h67
  ·
   have h68 : (decide ((nth f.code (((f.code.length : Int) - 1).toNat)).kind = 12)) = false := by simpa using h67
   have h69 : ¬ ((nth f.code (((f.code.length : Int) - 1).toNat)).kind = 12) := oq h68
   refine ry hO rfl (ym (by rw [h67]; rfl) rfl) (ry hO rfl (y_ne (by rw [h67]; rfl) rfl rfl) (ry hO rfl (pt tz (by rw [h67]; rfl) rfl) (rj (ez (E' := [(9, .int .i64 ((f.code.length : Int) - 1)), (62, .bool (!decide ((nth f.code (((f.code.length : Int) - 1).toNat)).kind = 16)))]) ⟨rfl, rfl, tz⟩ (et (cd rfl (fun h70 => ?_) (fun h70 => ?_)))))))
   ·
    have h71 : (decide ((nth f.code (((f.code.length : Int) - 1).toNat)).kind = 16)) = false := by simpa using h70
    have h72 : ¬ ((nth f.code (((f.code.length : Int) - 1).toNat)).kind = 16) := oq h71
    refine cq (cr (mv hO rfl rfl (ry hO rfl (y_makeI tc_30.1 tc_30.2 tz rfl) (ry hO rfl (y_build [.int .i64 ((f.code.length : Int) - 1), .iface 30 (.int .i64 503)] (.agg #[.int .i64 ((f.code.length : Int) - 1), .iface 30 (.int .i64 503)]) tz rfl (fun _ => by kernel_rfl)) (rd' tz (og_box hO rfl rfl (fun b73 w74 hO => ?_)))))))
    have hO : Own _ Mi ([(b73, .cells #[.int .i64 ((f.code.length : Int) - 1), .iface 30 (.int .i64 503)] 123)] ++ bs) := hO
    refine ry hO rfl (y_makeI tc_121.1 tc_121.2 tz rfl) (as_ hO rfl rfl (rj (et (ct (ew' (er (.inl rfl) rfl rfl ?_))))))
    obtain ⟨M75, le76, hO, hk77, hn78, hd79⟩ := Own.keeps (rs := [(b73, .cells #[.int .i64 ((f.code.length : Int) - 1), .iface 30 (.int .i64 503)] 123)]) hO
    have hle80 := m_ hle15 le76
    have ch81 := m_ le9 le76
    have at82 := Has.at (vs := [.int .i64 ((f.code.length : Int) - 1), .iface 30 (.int .i64 503)]) hk77 rfl
    refine Ret.mk hle80 hO ?_
    have hx83 : (some ((f.code.length : Int) - 1, 503)) = plainE p f reached := by rw [plain_none (by omega) hb]; simp_all
    exact hx83 ▸ (.inr ⟨(f.code.length : Int) - 1, 503, _, rfl, rfl, at82⟩)
   have h84 : (decide ((nth f.code (((f.code.length : Int) - 1).toNat)).kind = 16)) = true := by simpa using h70
   have h85 : (nth f.code (((f.code.length : Int) - 1).toNat)).kind = 16 := ot h84
   refine cp (et (cq (cr (as_ hO rfl rfl (rj (et (ct (er (.inl rfl) rfl rfl ?_))))))))
   refine Ret.mk hle15 hO ?_
   have hx86 : (none : Option (Int × Int)) = plainE p f reached := by rw [plain_none (by omega) hb]; simp_all
   exact hx86 ▸ (.inl ⟨rfl, rfl⟩)
  have h87 : (decide ((nth f.code (((f.code.length : Int) - 1).toNat)).kind = 12)) = true := by simpa using h67
  have h88 : (nth f.code (((f.code.length : Int) - 1).toNat)).kind = 12 := ot h87
  refine ry hO rfl (ek (by rw [h67]; rfl)) (ry hO rfl (ek (by rw [h67]; rfl)) (ry hO rfl (pf tz (by rw [h67]; rfl) rfl) (rj (ez (E' := [(9, .int .i64 ((f.code.length : Int) - 1)), (62, .bool false)]) ⟨rfl, rfl, tz⟩ (et (cj rfl (cp (et (cq ?_)))))))))
  refine cr (as_ hO rfl rfl (rj (et (ct (er (.inl rfl) rfl rfl ?_)))))
  refine Ret.mk hle15 hO ?_
  have hx89 : (none : Option (Int × Int)) = plainE p f reached := by rw [plain_none (by omega) hb]; simp_all
  exact hx89 ▸ (.inl ⟨rfl, rfl⟩)
 refine ry hO rfl (ek (by rw [h66]; rfl)) (ry hO rfl (ek (by rw [h66]; rfl)) (ry hO rfl (pf tz (by rw [h66]; rfl) rfl) (mv hO rfl rfl (ry hO rfl (ek rfl) (ry hO rfl (ek rfl) (ry hO rfl (pf tz rfl rfl) (rj (ez (E' := [(9, .int .i64 ((f.code.length : Int) - 1)), (62, .bool false)]) ⟨rfl, rfl, tz⟩ (et ?_)))))))))
 refine cj rfl (cp (et (cq (cr (as_ hO rfl rfl (rj (et (ct (er (.inl rfl) rfl rfl ?_)))))))))
 refine Ret.mk hle15 hO ?_
 have hx90 : (none : Option (Int × Int)) = plainE p f reached := by rw [plain_none (by omega) hb]; simp_all
 exact hx90 ▸ (.inl ⟨rfl, rfl⟩)

theorem c_heights {p_p : Addr} (p : Prog) {p_f : Addr} (f : FuncD) {w : World} {M : Mem} {bs : List (Nat × Obj)} (h_p : PAt M p_p p) (h_f : PAt M p_f f) (hc : codeMay f.code = true) (hci : callsIn p f) (hO : Own w M (bs)) :
    Calls Tryd.prog 50 #[.pointer (some p_p), .pointer (some p_f)] w (Ret M bs (fun M' v => ∃ v0 v1, v = .tuple #[v0, v1] ∧ (∃ b c, v0 = .slice b ((heightsE p f).1).length c ∧ RdS M' b c ((heightsE p f).1)) ∧ (RdE M' v1 ((heightsE p f).2)))) := by
 refine ce (vs := [.pointer (some p_p), .pointer (some p_f)]) (n := 117) Tryd.func50 rfl rfl rfl ?_
 have hl := codeMay_len hc
 refine cq (cr (as_ hO rfl rfl (as_ hO rfl rfl (rj (et (cq (cr (rd' tz (og (vs := [.int .i64 (-1)]) (cs := [.int .i64 (-1)]) (e := 3) hO rfl rfl (fun _ => by kernel_rfl) (fun b1 w2 hO => ?_))))))))))
 have hO : Own _ M ([(b1, .cells #[.int .i64 (-1)] 3)] ++ bs) := hO
 refine mv hO rfl rfl (nc hO rfl rfl (fa tf_44_2 hO rfl rfl ?_))
 obtain ⟨_, at6, b3, c4, rfl, s5⟩ := id h_f
 refine lc tl_42 at6 2 rfl hO rfl rfl ?_
 have bd7 : f.code.length * 16 ≤ 140737488351232 := s5.bd
 refine ln ts_42 hO rfl rfl ?_
 obtain ⟨M8, le9, hO, hk10, hn11, hd12⟩ := Own.keeps (rs := [(b1, .cells #[.int .i64 (-1)] 3)]) hO
 have h13 := h_p.mono le9
 have h14 := h_f.mono le9
 have at15 := at6.mono le9
 have s16 := s5.mono le9
 have hle17 := le9
 have at18 := Has.at (vs := [.int .i64 (-1)]) hk10 rfl
 have s19 : RdS M8 (some ⟨b1, 0, none⟩) 1 ([-1] : List Int) := (Rw.lit (M := M8) (b := b1) (e := 3) (cs := [.int .i64 (-1)]) (RdL.cons (α := Int) (us := [.int .i64 (-1)]) (x := -1) rfl (RdL.nil _)) (by simp [Rep.sz])).kept hk10 (mr _)
 have hc23 := (c_Repeat ([-1] : List Int) (f.code.length : Int) s19 (by first | rfl | simp) (by first | omega | ((try simp only [List.length_replicate, List.length_set, Int.toNat_natCast] at *); first | omega | (have h_1 := hi.len; have h_2 := rw' hi.row (k := 0) (by omega); omega) | (have h_1 := hi2.len; have h_3 := rw' hL (k := k) (by omega); omega))) (by first | omega | ((try simp only [List.length_replicate, List.length_set, Int.toNat_natCast] at *); first | omega | (have h_1 := hi.len; have h_2 := rw' hi.row (k := 0) (by omega); omega) | (have h_1 := hi2.len; have h_3 := rw' hL (k := k) (by omega); omega))) hO)
 rw [show (List.replicate (f.code.length : Int).toNat (nth ([-1] : List Int) 0)) = (List.replicate f.code.length (-1 : Int)) by simp [nth]] at hc23
 refine rd' tz (oc (vs := [.slice (some ⟨b1, 0, none⟩) 1 1, .int .i64 (f.code.length : Int)]) tcall_64 rfl rfl hc23 ?_)
 rintro _ w20 ⟨M21, rs24, _, le22, hO, rfl, b25, c26, rfl, r27⟩
 refine ⟨_, rfl, ?_⟩
 have h28 := h13.mono le22
 have h29 := h14.mono le22
 have at30 := at15.mono le22
 have s31 := s16.mono le22
 have hk32 := hk10.mono le22
 have at33 := at18.mono le22
 have hle34 := m_ hle17 le22
 have kl35 := m_ le9 le22
 refine as_ hO rfl rfl (rj (et (cq (cr (mv hO rfl rfl ?_)))))
 obtain ⟨b36, o37, rfl⟩ := Rw.ofs r27 (i := 0) (by first | omega | ((try simp only [List.length_replicate, List.length_set, Int.toNat_natCast] at *); first | omega | (have h_1 := hi.len; have h_2 := rw' hi.row (k := 0) (by omega); omega) | (have h_1 := hi2.len; have h_3 := rw' hL (k := k) (by omega); omega)))
 have hO : Own w20 M21 (rs24 ++ bs) := by assumption
 refine ry hO rfl (yi ts_36 tz rfl rfl (by first | omega | ((try simp only [List.length_replicate, List.length_set, Int.toNat_natCast] at *); first | omega | (have h_1 := hi.len; have h_2 := rw' hi.row (k := 0) (by omega); omega) | (have h_1 := hi2.len; have h_3 := rw' hL (k := k) (by omega); omega))) (by first | omega | ((try simp only [List.length_replicate, List.length_set, Int.toNat_natCast] at *); first | omega | (have h_1 := hi.len; have h_2 := rw' hi.row (k := 0) (by omega); omega) | (have h_1 := hi2.len; have h_3 := rw' hL (k := k) (by omega); omega)))) (rd' tz (og_storeR (i := 0) (x := 0) (vs := [.int .i64 0]) hO r27 (by first | omega | ((try simp only [List.length_replicate, List.length_set, Int.toNat_natCast] at *); first | omega | (have h_1 := hi.len; have h_2 := rw' hi.row (k := 0) (by omega); omega) | (have h_1 := hi2.len; have h_3 := rw' hL (k := k) (by omega); omega))) tn_3 rfl rfl rfl rfl rfl (fun rs39 w38 hO r40 => ?_)))
 refine rj (ez (E' := [(0, .pointer (some p_p)), (1, .pointer (some p_f)), (4, .slice none 0 0), (5, .nilIface), (6, .slice (some ⟨b36, o37, none⟩) (((List.replicate f.code.length (-1 : Int))).length) c26)]) ⟨rfl, rfl, rfl, rfl, rfl, tz⟩ (et (cq (cq (cr (rd' tz (og (vs := [.int .i64 0]) (cs := [.int .i64 0]) (e := 3) hO rfl rfl (fun _ => by kernel_rfl) (fun b41 w42 hO => ?_))))))))
 have hO : Own _ M21 ([(b41, .cells #[.int .i64 0] 3)] ++ (rs39 ++ bs)) := hO
 refine as_ hO rfl rfl (rj (et (cb ?_)))
 have r44 : Rw M21 [(b41, .cells #[.int .i64 0] 3)] (some ⟨b41, 0, none⟩) 1 ([0] : List Int) := Rw.lit (cs := [.int .i64 0]) (RdL.cons (α := Int) (us := [.int .i64 0]) (x := 0) rfl (RdL.nil _)) (by simp [Rep.sz])
 refine cg_loop (σ := Mem × Nat × (List (Nat × Obj)) × (List Int) × (List (Nat × Obj)) × (List Int) × (Option Addr) × Nat) (fun qs => [(7, .slice qs.2.2.2.2.2.2.1 qs.2.2.2.2.2.1.length qs.2.2.2.2.2.2.2), (0, .pointer (some p_p)), (1, .pointer (some p_f)), (6, .slice (some ⟨b36, o37, none⟩) (((List.replicate f.code.length (-1 : Int))).length) c26)]) (fun qs w => Mem.le M21 qs.1 ∧ Rw qs.1 qs.2.2.1 (some ⟨b36, o37, none⟩) c26 qs.2.2.2.1 ∧ Rw qs.1 qs.2.2.2.2.1 qs.2.2.2.2.2.2.1 qs.2.2.2.2.2.2.2 qs.2.2.2.2.2.1 ∧ (heightsE p f = hRun p f qs.2.1 qs.2.2.2.1 qs.2.2.2.2.2.1 ∧ HInv f qs.2.1 qs.2.2.2.1 qs.2.2.2.2.2.1 ∧ qs.2.1 ≤ 64) ∧ Own w qs.1 (qs.2.2.2.2.1 ++ (qs.2.2.1 ++ bs))) (fun qs => qs.2.1) (M21, f.code.length, rs39, ((List.replicate f.code.length (-1 : Int)).set 0 0), [(b41, .cells #[.int .i64 0] 3)], ([0] : List Int), some ⟨b41, 0, none⟩, 1) ⟨rfl, rfl, rfl, rfl, tz⟩ ⟨mr _, r40, r44, (by (try dsimp only); exact ⟨rfl, HInv.init hc, hl.2⟩), hO⟩ ?_
 rintro ⟨Mi, fu, rs1, o1, rs2, r1, bb2, cc2⟩ w46 ⟨le48, r43, r45, ⟨hre, hi, h64⟩, hO⟩
 try dsimp only at *
 have h49 := h28.mono le48
 have h50 := h29.mono le48
 have at51 := at30.mono le48
 have s52 := s31.mono le48
 have hk53 := hk32.mono le48
 have at54 := at33.mono le48
 have hle55 := m_ hle34 le48
 have kl56 := m_ kl35 le48
 refine cq (cq (cr (mv hO rfl rfl ?_)))
 have bd57 : r1.length * 8 ≤ 140737488351232 := r45.bd
 refine ln ts_36 hO rfl rfl (ry hO rfl (y_gt tz rfl rfl) (rj (et (cd rfl (fun h58 => ?_) (fun h58 => ?_)))))
 ·
  have h59 : 0 < (r1.length : Int) := ot h58
  refine cp (et (cq (cb (cq (cr (mv hO rfl rfl ?_))))))
  obtain ⟨b60, o61, rfl⟩ := Rw.ofs r45 (i := 0) (by first | omega | ((try simp only [List.length_replicate, List.length_set, Int.toNat_natCast] at *); first | omega | (have h_1 := hi.len; have h_2 := rw' hi.row (k := 0) (by omega); omega) | (have h_1 := hi2.len; have h_3 := rw' hL (k := k) (by omega); omega)))
  have hO : Own w46 Mi (rs2 ++ (rs1 ++ bs)) := by assumption
  refine ry hO rfl (yi ts_36 tz rfl rfl (by first | omega | ((try simp only [List.length_replicate, List.length_set, Int.toNat_natCast] at *); first | omega | (have h_1 := hi.len; have h_2 := rw' hi.row (k := 0) (by omega); omega) | (have h_1 := hi2.len; have h_3 := rw' hL (k := k) (by omega); omega))) (by first | omega | ((try simp only [List.length_replicate, List.length_set, Int.toNat_natCast] at *); first | omega | (have h_1 := hi.len; have h_2 := rw' hi.row (k := 0) (by omega); omega) | (have h_1 := hi2.len; have h_3 := rw' hL (k := k) (by omega); omega)))) ?_
  obtain ⟨vs62, hr63, hc64⟩ := Rw.cells (t := rs1 ++ bs) r45 0 (by first | omega | ((try simp only [List.length_replicate, List.length_set, Int.toNat_natCast] at *); first | omega | (have h_1 := hi.len; have h_2 := rw' hi.row (k := 0) (by omega); omega) | (have h_1 := hi2.len; have h_3 := rw' hL (k := k) (by omega); omega)))
  obtain rfl := hr63
  refine ry hO rfl (yl tl_3 tz rfl (fun w h => hc64 w h 0 _ rfl)) (as_ hO rfl rfl (rj (et (cq ?_))))
  obtain ⟨w65, hO, ew66⟩ : ∃ w', Own w' Mi (rs2 ++ (rs1 ++ bs)) ∧ { w46 with drawn := w46.drawn + 1 } = w' := ⟨_, hO.drawn _, rfl⟩
  refine cw (S := fun w => Own w Mi (rs2 ++ (rs1 ++ bs))) (.take 0 (.take 1 (.take 2 (.take 3 (.take 4 (.take 5 (.take 6 (.take 7 (.take 8 (.take 9 (.take 10 (.take 11 (.take 12 (.take 13 (.take 14 (.one 15 (.one 16 (.take 17 (.take 18 (.take 19 (.take 20 (.take 21 (.take 22 (.take 23 .done)))))))))))))))))))))))) 24 tm (by kernel_rfl) ew66 hO (hm rfl rfl (fun _ _ _ h => h) rfl (hn rfl rfl (fun _ _ _ h => h) rfl (hfa tf_44_2 rfl rfl (fun _ _ _ h => h) rfl (hlc tl_42 at51 2 rfl rfl rfl (fun _ _ _ h => h) rfl (hm rfl rfl (fun _ _ _ h => h) rfl ?_)))))
  obtain ⟨p67, rfl, _⟩ := RdS.get s52 ((nth r1 0).toNat) (by first | omega | ((try simp only [List.length_replicate, List.length_set, Int.toNat_natCast] at *); first | omega | (have h_1 := hi.len; have h_2 := rw' hi.row (k := 0) (by omega); omega) | (have h_1 := hi2.len; have h_3 := rw' hL (k := k) (by omega); omega)))
  have hO : Own w65 Mi (rs2 ++ (rs1 ++ bs)) := by assumption
  have q68 : PAt Mi (p67.add (((nth r1 0).toNat) * 2)) (nth f.code ((nth r1 0).toNat)) := RdS.at s52 ((nth r1 0).toNat) (by first | omega | ((try simp only [List.length_replicate, List.length_set, Int.toNat_natCast] at *); first | omega | (have h_1 := hi.len; have h_2 := rw' hi.row (k := 0) (by omega); omega) | (have h_1 := hi2.len; have h_3 := rw' hL (k := k) (by omega); omega)))
  refine gy rfl rfl (fun _ _ _ h => h) (yi ts_42 tz rfl rfl (by first | omega | ((try simp only [List.length_replicate, List.length_set, Int.toNat_natCast] at *); first | omega | (have h_1 := hi.len; have h_2 := rw' hi.row (k := 0) (by omega); omega) | (have h_1 := hi2.len; have h_3 := rw' hL (k := k) (by omega); omega))) (by first | omega | ((try simp only [List.length_replicate, List.length_set, Int.toNat_natCast] at *); first | omega | (have h_1 := hi.len; have h_2 := rw' hi.row (k := 0) (by omega); omega) | (have h_1 := hi2.len; have h_3 := rw' hL (k := k) (by omega); omega)))) ?_
  obtain ⟨_, at69, rfl⟩ := id q68
  refine gy rfl rfl (fun _ _ _ h => h) (yq [.int .i64 ((nth f.code ((nth r1 0).toNat)).kind), .int .i64 ((nth f.code ((nth r1 0).toNat)).a)] ta_41 rfl tz rfl (fun _ h j _ e => at69.cell h j e)) (hm rfl rfl (fun _ _ _ h => h) rfl (hm rfl rfl (fun _ _ _ h => h) rfl (hn rfl rfl (fun _ _ _ h => h) rfl (hfa tf_44_2 rfl rfl (fun _ _ _ h => h) rfl (hlc tl_42 at51 2 rfl rfl rfl (fun _ _ _ h => h) rfl (hm rfl rfl (fun _ _ _ h => h) rfl ?_))))))
  have q70 : PAt Mi (p67.add (((nth r1 0).toNat) * 2)) (nth f.code ((nth r1 0).toNat)) := RdS.at s52 ((nth r1 0).toNat) (by first | omega | ((try simp only [List.length_replicate, List.length_set, Int.toNat_natCast] at *); first | omega | (have h_1 := hi.len; have h_2 := rw' hi.row (k := 0) (by omega); omega) | (have h_1 := hi2.len; have h_3 := rw' hL (k := k) (by omega); omega)))
  refine gy rfl rfl (fun _ _ _ h => h) (yi ts_42 tz rfl rfl (by first | omega | ((try simp only [List.length_replicate, List.length_set, Int.toNat_natCast] at *); first | omega | (have h_1 := hi.len; have h_2 := rw' hi.row (k := 0) (by omega); omega) | (have h_1 := hi2.len; have h_3 := rw' hL (k := k) (by omega); omega))) (by first | omega | ((try simp only [List.length_replicate, List.length_set, Int.toNat_natCast] at *); first | omega | (have h_1 := hi.len; have h_2 := rw' hi.row (k := 0) (by omega); omega) | (have h_1 := hi2.len; have h_3 := rw' hL (k := k) (by omega); omega)))) ?_
  obtain ⟨_, at71, rfl⟩ := id q70
  refine gy rfl rfl (fun _ _ _ h => h) (yq [.int .i64 ((nth f.code ((nth r1 0).toNat)).kind), .int .i64 ((nth f.code ((nth r1 0).toNat)).a)] ta_41 rfl tz rfl (fun _ h j _ e => at71.cell h j e)) (hn' rfl tz (oc (vs := [.pointer (some p_p), .agg #[.int .i64 ((nth f.code ((nth r1 0).toNat)).kind), .int .i64 ((nth f.code ((nth r1 0).toNat)).a)]]) tcall_66 rfl rfl (c_args p (vs_i := [.int .i64 ((nth f.code ((nth r1 0).toNat)).kind), .int .i64 ((nth f.code ((nth r1 0).toNat)).a)]) (nth f.code ((nth r1 0).toNat)) h49 rfl (by intro h; exact hci _ (rw' hi.row (by omega)).1 (rw' hi.row (by omega)).2 (hi.got _ (nth_mem (by omega))) h) hO) ?_))
  rintro _ w72 ⟨M73, _, le74, hO, rfl, rfl⟩
  refine ⟨_, rfl, ?_⟩
  have hO := hO.less le74
  refine kg_s hO (hn' rfl tz (oc (vs := [.agg #[.int .i64 ((nth f.code ((nth r1 0).toNat)).kind), .int .i64 ((nth f.code ((nth r1 0).toNat)).a)], .int .i64 (argsOf p (nth f.code ((nth r1 0).toNat)))]) tcall_65 rfl rfl (c_Effect (vs_i := [.int .i64 ((nth f.code ((nth r1 0).toNat)).kind), .int .i64 ((nth f.code ((nth r1 0).toNat)).a)]) (nth f.code ((nth r1 0).toNat)) (argsOf p (nth f.code ((nth r1 0).toNat))) rfl hO) ?_))
  rintro _ w75 ⟨M76, _, le77, hO, rfl, ⟨_, _, _, rfl, rfl, rfl, rfl⟩⟩
  refine ⟨_, rfl, ?_⟩
  have r78 := r45.mono le77
  have h79 := h49.mono le77
  have h80 := h50.mono le77
  have at81 := at51.mono le77
  have s82 := s52.mono le77
  have r83 := r43.mono le77
  have q84 := q68.mono le77
  have at85 := at69.mono le77
  have q86 := q70.mono le77
  have at87 := at71.mono le77
  have hk88 := hk53.mono le77
  have at89 := at54.mono le77
  have hle90 := m_ hle55 le77
  have ch91 := m_ le48 le77
  have kl92 := m_ kl56 le77
  refine kg_s (hO.less le77) (hm rfl rfl (fun _ _ _ h => h) rfl (gy rfl rfl (fun _ _ _ h => h) (yx [.int .i64 ((ft (nth f.code ((nth r1 0).toNat)) (argsOf p (nth f.code ((nth r1 0).toNat)))).1), .int .i64 ((ft (nth f.code ((nth r1 0).toNat)) (argsOf p (nth f.code ((nth r1 0).toNat)))).2.1), .int .i64 ((ft (nth f.code ((nth r1 0).toNat)) (argsOf p (nth f.code ((nth r1 0).toNat)))).2.2)] rfl tz rfl) (gy rfl rfl (fun _ _ _ h => h) (yx [.int .i64 ((ft (nth f.code ((nth r1 0).toNat)) (argsOf p (nth f.code ((nth r1 0).toNat)))).1), .int .i64 ((ft (nth f.code ((nth r1 0).toNat)) (argsOf p (nth f.code ((nth r1 0).toNat)))).2.1), .int .i64 ((ft (nth f.code ((nth r1 0).toNat)) (argsOf p (nth f.code ((nth r1 0).toNat)))).2.2)] rfl tz rfl) (gy rfl rfl (fun _ _ _ h => h) (yx [.int .i64 ((ft (nth f.code ((nth r1 0).toNat)) (argsOf p (nth f.code ((nth r1 0).toNat)))).1), .int .i64 ((ft (nth f.code ((nth r1 0).toNat)) (argsOf p (nth f.code ((nth r1 0).toNat)))).2.1), .int .i64 ((ft (nth f.code ((nth r1 0).toNat)) (argsOf p (nth f.code ((nth r1 0).toNat)))).2.2)] rfl tz rfl) (ha rfl rfl (fun _ _ _ h => h) rfl (ha rfl rfl (fun _ _ _ h => h) rfl (ha rfl rfl (fun _ _ _ h => h) rfl (gd (ez (E' := [(7, .slice (some ⟨b60, o61, none⟩) r1.length cc2), (0, .pointer (some p_p)), (1, .pointer (some p_f)), (6, .slice (some ⟨b36, o37, none⟩) (((List.replicate f.code.length (-1 : Int))).length) c26), (8, .int .i64 (nth r1 0)), (9, .int .i64 ((ft (nth f.code ((nth r1 0).toNat)) (argsOf p (nth f.code ((nth r1 0).toNat)))).1)), (10, .int .i64 ((ft (nth f.code ((nth r1 0).toNat)) (argsOf p (nth f.code ((nth r1 0).toNat)))).2.1))]) ⟨rfl, rfl, rfl, rfl, rfl, rfl, rfl, tz⟩ ?_)))))))))
  refine et (cq (cr (mv hO rfl rfl (mv hO rfl rfl (ry hO rfl (yi ts_36 tz rfl rfl (by first | omega | ((try simp only [List.length_replicate, List.length_set, Int.toNat_natCast] at *); first | omega | (have h_1 := hi.len; have h_2 := rw' hi.row (k := 0) (by omega); omega) | (have h_1 := hi2.len; have h_3 := rw' hL (k := k) (by omega); omega))) (by first | omega | ((try simp only [List.length_replicate, List.length_set, Int.toNat_natCast] at *); first | omega | (have h_1 := hi.len; have h_2 := rw' hi.row (k := 0) (by omega); omega) | (have h_1 := hi2.len; have h_3 := rw' hL (k := k) (by omega); omega)))) ?_)))))
  obtain ⟨vs93, hr94, hc95⟩ := Rw.cells (t := rs2 ++ bs) r83 ((nth r1 0).toNat) (by first | omega | ((try simp only [List.length_replicate, List.length_set, Int.toNat_natCast] at *); first | omega | (have h_1 := hi.len; have h_2 := rw' hi.row (k := 0) (by omega); omega) | (have h_1 := hi2.len; have h_3 := rw' hL (k := k) (by omega); omega)))
  obtain rfl := hr94
  refine ry hO rfl (yl tl_3 tz rfl (fun w h => hc95 w (h.front1) 0 _ rfl)) (mv hO rfl rfl (ry hO rfl (y_sub (nth o1 (nth r1 0).toNat - (effAt p f (nth r1 0)).1) tz rfl rfl (by have h_1 := hi.bd (nth r1 0).toNat; have h_2 := effectT_bd (nth f.code (nth r1 0).toNat) (argsOf p (nth f.code (nth r1 0).toNat)); exact wd (by omega) (by omega))) (mv hO rfl rfl (ry hO rfl (y_add (hAt p f o1 (nth r1 0)) tz rfl rfl (by have h_1 := hi.bd (nth r1 0).toNat; have h_2 := effectT_bd (nth f.code (nth r1 0).toNat) (argsOf p (nth f.code (nth r1 0).toNat)); exact wd (by show _ ≤ _ - (ft _ _).1 + (ft _ _).2.1; omega) (by show _ - (ft _ _).1 + (ft _ _).2.1 ≤ _; omega))) (as_ hO rfl rfl (rj (ez (E' := [(7, .slice (some ⟨b60, o61, none⟩) r1.length cc2), (0, .pointer (some p_p)), (1, .pointer (some p_f)), (6, .slice (some ⟨b36, o37, none⟩) (((List.replicate f.code.length (-1 : Int))).length) c26), (8, .int .i64 (nth r1 0)), (9, .int .i64 ((ft (nth f.code ((nth r1 0).toNat)) (argsOf p (nth f.code ((nth r1 0).toNat)))).1)), (12, .int .i64 (hAt p f o1 (nth r1 0)))]) ⟨rfl, rfl, rfl, rfl, rfl, rfl, rfl, tz⟩ (et (cq ?_)))))))))
  refine cq (cr (mv hO rfl rfl (mv hO rfl rfl (ry hO rfl (yi ts_36 tz rfl rfl (by first | omega | ((try simp only [List.length_replicate, List.length_set, Int.toNat_natCast] at *); first | omega | (have h_1 := hi.len; have h_2 := rw' hi.row (k := 0) (by omega); omega) | (have h_1 := hi2.len; have h_3 := rw' hL (k := k) (by omega); omega))) (by first | omega | ((try simp only [List.length_replicate, List.length_set, Int.toNat_natCast] at *); first | omega | (have h_1 := hi.len; have h_2 := rw' hi.row (k := 0) (by omega); omega) | (have h_1 := hi2.len; have h_3 := rw' hL (k := k) (by omega); omega)))) ?_))))
  obtain ⟨vs96, hr97, hc98⟩ := Rw.cells (t := rs2 ++ bs) r83 ((nth r1 0).toNat) (by first | omega | ((try simp only [List.length_replicate, List.length_set, Int.toNat_natCast] at *); first | omega | (have h_1 := hi.len; have h_2 := rw' hi.row (k := 0) (by omega); omega) | (have h_1 := hi2.len; have h_3 := rw' hL (k := k) (by omega); omega)))
  obtain rfl := hr97
  refine ry hO rfl (yl tl_3 tz rfl (fun w h => hc98 w (h.front1) 0 _ rfl)) (mv hO rfl rfl (ry hO rfl (yv tz rfl rfl) (mv hO rfl rfl ?_)))
  rcases bt (decide ((nth o1 ((nth r1 0).toNat)) < (ft (nth f.code ((nth r1 0).toNat)) (argsOf p (nth f.code ((nth r1 0).toNat)))).1)) with h99 | h99
  ·
   have h100 : (nth o1 ((nth r1 0).toNat)) < (ft (nth f.code ((nth r1 0).toNat)) (argsOf p (nth f.code ((nth r1 0).toNat)))).1 := ot h99
   refine ry hO rfl (ek (by rw [h99]; rfl)) (ry hO rfl (ek (by rw [h99]; rfl)) (ry hO rfl (pt tz (by rw [h99]; rfl) rfl) (rj (ez (E' := [(7, .slice (some ⟨b60, o61, none⟩) r1.length cc2), (0, .pointer (some p_p)), (1, .pointer (some p_f)), (6, .slice (some ⟨b36, o37, none⟩) (((List.replicate f.code.length (-1 : Int))).length) c26), (8, .int .i64 (nth r1 0)), (12, .int .i64 (hAt p f o1 (nth r1 0))), (73, .bool true)]) ⟨rfl, rfl, rfl, rfl, rfl, rfl, rfl, tz⟩ (et (cv rfl (cq (cr (mv hO rfl rfl ?_)))))))))
   refine ry hO rfl (y_makeI tc_30.1 tc_30.2 tz rfl) (ry hO rfl (y_build [.int .i64 (nth r1 0), .iface 30 (.int .i64 502)] (.agg #[.int .i64 (nth r1 0), .iface 30 (.int .i64 502)]) tz rfl (fun _ => by kernel_rfl)) (rd' tz (og_box hO rfl rfl (fun b101 w102 hO => ?_))))
   have hO : Own _ M76 ([(b101, .cells #[.int .i64 (nth r1 0), .iface 30 (.int .i64 502)] 123)] ++ (rs2 ++ (rs1 ++ bs))) := hO
   refine ry hO rfl (y_makeI tc_121.1 tc_121.2 tz rfl) (as_ hO rfl rfl (as_ hO rfl rfl (rj (et (ct (ew' (eg (ew' (ew' ?_)))))))))
   refine eg (ew' (ends_ret2 (.inl rfl) rfl rfl rfl ?_))
   obtain ⟨M103, le104, hO, hk105, hn106, hd107⟩ := Own.keeps (rs := [(b101, .cells #[.int .i64 (nth r1 0), .iface 30 (.int .i64 502)] 123)]) hO
   have r108 := r78.mono le104
   have h109 := h79.mono le104
   have h110 := h80.mono le104
   have at111 := at81.mono le104
   have s112 := s82.mono le104
   have r113 := r83.mono le104
   have hk114 := hk88.mono le104
   have at115 := at89.mono le104
   have hle116 := m_ hle90 le104
   have ch117 := m_ ch91 le104
   have kl118 := m_ kl92 le104
   have at119 := Has.at (vs := [.int .i64 (nth r1 0), .iface 30 (.int .i64 502)]) hk105 rfl
   refine Ret.mk hle116 (hO.forget.forget) (⟨_, _, rfl, ?_, ?_⟩)
   ·
    have hx120 : ([] : List Int) = (heightsE p f).1 := by first | (rw [hre, hRun_low (by omega) (by have := hi.cnt; omega) (by first | exact .inl ‹_› | exact .inr ‹_›)]; done) | (rw [hre, hRun_bad (by omega) (by have := hi.cnt; omega) hok (hto_bad (by omega) hfo ‹_› ‹_›)]; done) | (rw [hre, hRun_done ‹_›]; done)
    exact hx120 ▸ ⟨_, _, rfl, (RdS.nil _ _ _)⟩
   ·
    have hx121 : (some ((nth r1 0), 502)) = (heightsE p f).2 := by first | (rw [hre, hRun_low (by omega) (by have := hi.cnt; omega) (by first | exact .inl ‹_› | exact .inr ‹_›)]; done) | (rw [hre, hRun_bad (by omega) (by have := hi.cnt; omega) hok (hto_bad (by omega) hfo ‹_› ‹_›)]; done) | (rw [hre, hRun_done ‹_›]; done)
    exact hx121 ▸ (.inr ⟨(nth r1 0), 502, _, rfl, rfl, at119⟩)
  have h122 : ¬ ((nth o1 ((nth r1 0).toNat)) < (ft (nth f.code ((nth r1 0).toNat)) (argsOf p (nth f.code ((nth r1 0).toNat)))).1) := oq h99
  refine ry hO rfl (ym (by rw [h99]; rfl) rfl) (ry hO rfl (y_gt (by rw [h99]; rfl) rfl rfl) (ry hO rfl (pf tz (by rw [h99]; rfl) rfl) (rj (ez (E' := [(7, .slice (some ⟨b60, o61, none⟩) r1.length cc2), (0, .pointer (some p_p)), (1, .pointer (some p_f)), (6, .slice (some ⟨b36, o37, none⟩) (((List.replicate f.code.length (-1 : Int))).length) c26), (8, .int .i64 (nth r1 0)), (12, .int .i64 (hAt p f o1 (nth r1 0))), (73, .bool (decide (8 < (hAt p f o1 (nth r1 0)))))]) ⟨rfl, rfl, rfl, rfl, rfl, rfl, rfl, tz⟩ (et (cd rfl (fun h123 => ?_) (fun h123 => ?_)))))))
  ·
   have h124 : 8 < (hAt p f o1 (nth r1 0)) := ot h123
   refine cq (cr (mv hO rfl rfl (ry hO rfl (y_makeI tc_30.1 tc_30.2 tz rfl) (ry hO rfl (y_build [.int .i64 (nth r1 0), .iface 30 (.int .i64 502)] (.agg #[.int .i64 (nth r1 0), .iface 30 (.int .i64 502)]) tz rfl (fun _ => by kernel_rfl)) (rd' tz (og_box hO rfl rfl (fun b125 w126 hO => ?_)))))))
   have hO : Own _ M76 ([(b125, .cells #[.int .i64 (nth r1 0), .iface 30 (.int .i64 502)] 123)] ++ (rs2 ++ (rs1 ++ bs))) := hO
   refine ry hO rfl (y_makeI tc_121.1 tc_121.2 tz rfl) (as_ hO rfl rfl (as_ hO rfl rfl (rj (et (ct (ew' (eg (ew' (ew' ?_)))))))))
   refine eg (ew' (ends_ret2 (.inl rfl) rfl rfl rfl ?_))
   obtain ⟨M127, le128, hO, hk129, hn130, hd131⟩ := Own.keeps (rs := [(b125, .cells #[.int .i64 (nth r1 0), .iface 30 (.int .i64 502)] 123)]) hO
   have r132 := r78.mono le128
   have h133 := h79.mono le128
   have h134 := h80.mono le128
   have at135 := at81.mono le128
   have s136 := s82.mono le128
   have r137 := r83.mono le128
   have hk138 := hk88.mono le128
   have at139 := at89.mono le128
   have hle140 := m_ hle90 le128
   have ch141 := m_ ch91 le128
   have kl142 := m_ kl92 le128
   have at143 := Has.at (vs := [.int .i64 (nth r1 0), .iface 30 (.int .i64 502)]) hk129 rfl
   refine Ret.mk hle140 (hO.forget.forget) (⟨_, _, rfl, ?_, ?_⟩)
   ·
    have hx144 : ([] : List Int) = (heightsE p f).1 := by first | (rw [hre, hRun_low (by omega) (by have := hi.cnt; omega) (by first | exact .inl ‹_› | exact .inr ‹_›)]; done) | (rw [hre, hRun_bad (by omega) (by have := hi.cnt; omega) hok (hto_bad (by omega) hfo ‹_› ‹_›)]; done) | (rw [hre, hRun_done ‹_›]; done)
    exact hx144 ▸ ⟨_, _, rfl, (RdS.nil _ _ _)⟩
   ·
    have hx145 : (some ((nth r1 0), 502)) = (heightsE p f).2 := by first | (rw [hre, hRun_low (by omega) (by have := hi.cnt; omega) (by first | exact .inl ‹_› | exact .inr ‹_›)]; done) | (rw [hre, hRun_bad (by omega) (by have := hi.cnt; omega) hok (hto_bad (by omega) hfo ‹_› ‹_›)]; done) | (rw [hre, hRun_done ‹_›]; done)
    exact hx145 ▸ (.inr ⟨(nth r1 0), 502, _, rfl, rfl, at143⟩)
  have h146 : ¬ (8 < (hAt p f o1 (nth r1 0))) := oq h123
  refine cp (et (cq (cr ?_)))
  have hL := nextL_ok (f := f) (pc := nth r1 0) hc (rw' hi.row (by omega)).1 (rw' hi.row (by omega)).2
  have hG2 := reached_next hc (rw' hi.row (k := 0) (by omega)).1 (rw' hi.row (k := 0) (by omega)).2 (hi.got _ (nth_mem (by omega)))
  have hok : ¬ (nth o1 (nth r1 0).toNat < (effAt p f (nth r1 0)).1 ∨ 8 < hAt p f o1 (nth r1 0)) := fun q => q.elim ‹_› ‹_›
  have hh0 : 0 ≤ hAt p f o1 (nth r1 0) := by have h_1 := hi.bd (nth r1 0).toNat; have h_2 := effectT_bd (nth f.code (nth r1 0).toNat) (argsOf p (nth f.code (nth r1 0).toNat)); have h_3 : ¬ nth o1 (nth r1 0).toNat < (ft (nth f.code (nth r1 0).toNat) (argsOf p (nth f.code (nth r1 0).toNat))).1 := fun q => hok (.inl q); show 0 ≤ _ - (ft _ _).1 + (ft _ _).2.1; omega
  have hh8 : hAt p f o1 (nth r1 0) ≤ 8 := by have h_3 : ¬ 8 < hAt p f o1 (nth r1 0) := fun q => hok (.inr q); omega
  refine mv hO rfl rfl (nc hO rfl rfl (ry hO rfl (yq [.int .i64 f.args, .int .i64 f.locals, .slice (some p67) f.code.length c4] ta_44 rfl tz rfl (fun _ h j _ e => at81.cell h j e)) (mv hO rfl rfl ?_)))
  have hc150 := (c_flowNext (vs_f := [.int .i64 f.args, .int .i64 f.locals, .slice (some p67) f.code.length c4]) f (nth r1 0) ⟨some p67, c4, rfl, s82⟩ hO)
  rw [show (flowNext f (nth r1 0)) = (nextL f (nth r1 0), (0 : Int)) by exact if_pos ⟨hc, (rw' hi.row (by omega)).1, (rw' hi.row (by omega)).2⟩] at hc150
  refine rd' tz (oc (vs := [.agg #[.int .i64 f.args, .int .i64 f.locals, .slice (some p67) f.code.length c4], .int .i64 (nth r1 0)]) tcall_67 rfl rfl hc150 ?_)
  rintro _ w147 ⟨M148, _, le149, hO, rfl, ⟨_, _, rfl, ⟨b151, c152, rfl, s153⟩, rfl⟩⟩
  refine ⟨_, rfl, ?_⟩
  have r154 := r78.mono le149
  have h155 := h79.mono le149
  have h156 := h80.mono le149
  have at157 := at81.mono le149
  have s158 := s82.mono le149
  have r159 := r83.mono le149
  have hk160 := hk88.mono le149
  have at161 := at89.mono le149
  have hle162 := m_ hle90 le149
  have ch163 := m_ ch91 le149
  have kl164 := m_ kl92 le149
  refine mv hO rfl rfl (ry hO rfl (yx [.slice b151 ((nextL f (nth r1 0)).length) c152, .int .i64 (0 : Int)] rfl tz rfl) (ry hO rfl (yx [.slice b151 ((nextL f (nth r1 0)).length) c152, .int .i64 (0 : Int)] rfl tz rfl) (as_ hO rfl rfl (as_ hO rfl rfl (rj (ez (E' := [(7, .slice (some ⟨b60, o61, none⟩) r1.length cc2), (0, .pointer (some p_p)), (1, .pointer (some p_f)), (6, .slice (some ⟨b36, o37, none⟩) (((List.replicate f.code.length (-1 : Int))).length) c26), (8, .int .i64 (nth r1 0)), (12, .int .i64 (hAt p f o1 (nth r1 0))), (13, .slice b151 ((nextL f (nth r1 0)).length) c152)]) ⟨rfl, rfl, rfl, rfl, rfl, rfl, rfl, tz⟩ (et (cq (cr ?_)))))))))
  refine mv hO rfl rfl ?_
  have bd165 : (nextL f (nth r1 0)).length * 8 ≤ 140737488351232 := s153.bd
  refine ln ts_36 hO rfl rfl (mv hO rfl rfl (rj (et (cb (cg_loop (σ := Nat × (List (Nat × Obj)) × (List Int) × (List (Nat × Obj)) × (List Int) × (Option Addr) × Nat) (fun qs => [(89, .int .i64 (qs.1 : Int)), (7, .slice qs.2.2.2.2.2.1 qs.2.2.2.2.1.length qs.2.2.2.2.2.2), (0, .pointer (some p_p)), (1, .pointer (some p_f)), (6, .slice (some ⟨b36, o37, none⟩) (((List.replicate f.code.length (-1 : Int))).length) c26), (8, .int .i64 (nth r1 0)), (12, .int .i64 (hAt p f o1 (nth r1 0))), (87, .slice b151 ((nextL f (nth r1 0)).length) c152), (88, .int .i64 ((nextL f (nth r1 0)).length : Int))]) (fun qs w => Rw M148 qs.2.1 (some ⟨b36, o37, none⟩) c26 qs.2.2.1 ∧ Rw M148 qs.2.2.2.1 qs.2.2.2.2.2.1 qs.2.2.2.2.2.2 qs.2.2.2.2.1 ∧ (qs.1 ≤ (nextL f (nth r1 0)).length ∧ some (qs.2.2.1, qs.2.2.2.2.1) = ((nextL f (nth r1 0)).take qs.1).foldl (hto (hAt p f o1 (nth r1 0))) (some (o1, r1)) ∧ HInv f fu qs.2.2.1 qs.2.2.2.2.1 ∧ 1 ≤ qs.2.2.2.2.1.length) ∧ Own w M148 (qs.2.2.2.1 ++ (qs.2.1 ++ bs))) (fun qs => (nextL f (nth r1 0)).length - qs.1) (0, rs1, o1, rs2, r1, some ⟨b60, o61, none⟩, cc2) ⟨rfl, rfl, rfl, rfl, rfl, rfl, rfl, rfl, rfl, tz⟩ ⟨r159, r154, (by (try dsimp only); exact ⟨Nat.zero_le _, rfl, hi, by omega⟩), hO⟩ ?_)))))
  rintro ⟨k, rs3, o2, rs4, r2, bb4, cc4⟩ w168 ⟨r166, r167, ⟨hk, hfo, hi2, h1r⟩, hO⟩
  try dsimp only at *
  refine cq (cr (ry hO rfl (yv tz rfl rfl) (rj (et (cq (cd rfl (fun h171 => ?_) (fun h171 => ?_)))))))
  ·
   have h172 : (k : Int) < ((nextL f (nth r1 0)).length : Int) := ot h171
   refine cp (et (cq (cb (cq (cr ?_)))))
   obtain ⟨p173, rfl, _⟩ := RdS.get s153 k (by first | omega | ((try simp only [List.length_replicate, List.length_set, Int.toNat_natCast] at *); first | omega | (have h_1 := hi.len; have h_2 := rw' hi.row (k := 0) (by omega); omega) | (have h_1 := hi2.len; have h_3 := rw' hL (k := k) (by omega); omega)))
   have hO : Own w168 M148 (rs4 ++ (rs3 ++ bs)) := by assumption
   have q174 : PAt M148 (p173.add (k * 1)) (nth (nextL f (nth r1 0)) k) := RdS.at s153 k (by first | omega | ((try simp only [List.length_replicate, List.length_set, Int.toNat_natCast] at *); first | omega | (have h_1 := hi.len; have h_2 := rw' hi.row (k := 0) (by omega); omega) | (have h_1 := hi2.len; have h_3 := rw' hL (k := k) (by omega); omega)))
   refine ry hO rfl (y_indexN k ts_36 tz rfl rfl (by first | omega | ((try simp only [List.length_replicate, List.length_set, Int.toNat_natCast] at *); first | omega | (have h_1 := hi.len; have h_2 := rw' hi.row (k := 0) (by omega); omega) | (have h_1 := hi2.len; have h_3 := rw' hL (k := k) (by omega); omega)))) ?_
   obtain ⟨_, at175, rfl⟩ := id q174
   refine ry hO rfl (yl tl_3 tz rfl (fun _ h => at175.cell0 h rfl)) (as_ hO rfl rfl (rj (et (cq (cr (mv hO rfl rfl (mv hO rfl rfl (ry hO rfl (yi ts_36 tz rfl rfl (by first | omega | ((try simp only [List.length_replicate, List.length_set, Int.toNat_natCast] at *); first | omega | (have h_1 := hi.len; have h_2 := rw' hi.row (k := 0) (by omega); omega) | (have h_1 := hi2.len; have h_3 := rw' hL (k := k) (by omega); omega))) (by first | omega | ((try simp only [List.length_replicate, List.length_set, Int.toNat_natCast] at *); first | omega | (have h_1 := hi.len; have h_2 := rw' hi.row (k := 0) (by omega); omega) | (have h_1 := hi2.len; have h_3 := rw' hL (k := k) (by omega); omega)))) ?_))))))))
   obtain ⟨vs176, hr177, hc178⟩ := Rw.cells (t := rs4 ++ bs) r166 ((nth (nextL f (nth r1 0)) k).toNat) (by first | omega | ((try simp only [List.length_replicate, List.length_set, Int.toNat_natCast] at *); first | omega | (have h_1 := hi.len; have h_2 := rw' hi.row (k := 0) (by omega); omega) | (have h_1 := hi2.len; have h_3 := rw' hL (k := k) (by omega); omega)))
   obtain rfl := hr177
   refine ry hO rfl (yl tl_3 tz rfl (fun w h => hc178 w (h.front1) 0 _ rfl)) (rj (et (cb (cq (cr (ry hO rfl (ye tz rfl rfl) (as_ hO rfl rfl (rj (ez (E' := [(89, .int .i64 (k : Int)), (7, .slice bb4 r2.length cc4), (0, .pointer (some p_p)), (1, .pointer (some p_f)), (6, .slice (some ⟨b36, o37, none⟩) (((List.replicate f.code.length (-1 : Int))).length) c26), (8, .int .i64 (nth r1 0)), (12, .int .i64 (hAt p f o1 (nth r1 0))), (87, .slice (some p173) ((nextL f (nth r1 0)).length) c152), (88, .int .i64 ((nextL f (nth r1 0)).length : Int)), (16, .int .i64 (nth (nextL f (nth r1 0)) k)), (96, .int .i64 (nth o2 ((nth (nextL f (nth r1 0)) k).toNat))), (102, .bool (decide ((nth o2 ((nth (nextL f (nth r1 0)) k).toNat)) = -1)))]) ⟨rfl, rfl, rfl, rfl, rfl, rfl, rfl, rfl, rfl, rfl, rfl, rfl, tz⟩ ?_)))))))))
   refine et (cd rfl (fun h179 => ?_) (fun h179 => ?_))
   ·
    have h180 : (nth o2 ((nth (nextL f (nth r1 0)) k).toNat)) = -1 := ot h179
    refine cq (cr (mv hO rfl rfl (mv hO rfl rfl (mv hO rfl rfl (ry hO rfl (yi ts_36 tz rfl rfl (by first | omega | ((try simp only [List.length_replicate, List.length_set, Int.toNat_natCast] at *); first | omega | (have h_1 := hi.len; have h_2 := rw' hi.row (k := 0) (by omega); omega) | (have h_1 := hi2.len; have h_3 := rw' hL (k := k) (by omega); omega))) (by first | omega | ((try simp only [List.length_replicate, List.length_set, Int.toNat_natCast] at *); first | omega | (have h_1 := hi.len; have h_2 := rw' hi.row (k := 0) (by omega); omega) | (have h_1 := hi2.len; have h_3 := rw' hL (k := k) (by omega); omega)))) ?_)))))
    have hO := hO.front1
    refine rd' tz (og_storeR (i := ((nth (nextL f (nth r1 0)) k).toNat)) (x := (hAt p f o1 (nth r1 0))) (vs := [.int .i64 (hAt p f o1 (nth r1 0))]) hO r166 (by first | omega | ((try simp only [List.length_replicate, List.length_set, Int.toNat_natCast] at *); first | omega | (have h_1 := hi.len; have h_2 := rw' hi.row (k := 0) (by omega); omega) | (have h_1 := hi2.len; have h_3 := rw' hL (k := k) (by omega); omega))) tn_3 rfl rfl rfl rfl rfl (fun rs182 w181 hO r183 => ?_))
    refine rj (et (cr (mv hO rfl rfl (mv hO rfl rfl (rd' tz (og (vs := [.int .i64 (nth (nextL f (nth r1 0)) k)]) (cs := [.int .i64 (nth (nextL f (nth r1 0)) k)]) (e := 3) hO rfl rfl (fun _ => by kernel_rfl) (fun b184 w185 hO => ?_)))))))
    have hO : Own _ M148 ([(b184, .cells #[.int .i64 (nth (nextL f (nth r1 0)) k)] 3)] ++ (rs182 ++ (rs4 ++ bs))) := hO
    have hO := hO.front2
    have hO := hO.front1
    have hO : Own _ M148 ([(b184, .cells #[.int .i64 (nth (nextL f (nth r1 0)) k)] 3)] ++ (rs4 ++ (rs182 ++ bs))) := hO
    refine rd' tz (og_append1 (α := Int) (rs := rs4) (us := [.int .i64 (nth (nextL f (nth r1 0)) k)]) (x := (nth (nextL f (nth r1 0)) k)) tv_36 rfl rfl hO r167 rfl rfl rfl rfl (by simp only [Rep.sz]; have := hi2.cnt; omega) (by decide) (by have := hi2.cnt; omega) (fun rs186 b187 c188 w189 hO r190 => ?_))
    refine as_ hO rfl rfl (rj (ek' (ek' (ez (E' := [(89, .int .i64 (k : Int)), (7, .slice b187 (((r2 ++ [(nth (nextL f (nth r1 0)) k)])).length) c188), (0, .pointer (some p_p)), (1, .pointer (some p_f)), (6, .slice (some ⟨b36, o37, none⟩) (((List.replicate f.code.length (-1 : Int))).length) c26), (8, .int .i64 (nth r1 0)), (12, .int .i64 (hAt p f o1 (nth r1 0))), (87, .slice (some p173) ((nextL f (nth r1 0)).length) c152), (88, .int .i64 ((nextL f (nth r1 0)).length : Int))]) ⟨rfl, rfl, rfl, rfl, rfl, rfl, rfl, rfl, rfl, tz⟩ (et (cr (ry hO rfl (y_add ((k + 1 : Nat) : Int) tz rfl rfl (by rw [wd] <;> omega)) (mv hO rfl rfl (rj ?_)))))))))
    have hO := hO.front1
    have hO := hO.front1
    refine ends_round (k + 1, rs182, (o2.set ((nth (nextL f (nth r1 0)) k).toNat) (hAt p f o1 (nth r1 0))), rs186, (r2 ++ [(nth (nextL f (nth r1 0)) k)]), b187, c188) ?_ ?_ ?_
    · exact ⟨rfl, rfl, rfl, rfl, rfl, rfl, rfl, rfl, rfl, tz⟩
    · exact ⟨r183, r190, (by (try dsimp only); exact ⟨by omega, hto_hit (by omega) hfo ‹_›, hi2.put (rw' hL (by omega)).1 (rw' hL (by omega)).2 (hG2 _ (nth_mem (by omega))) ‹_› hh0 hh8, by rw [List.length_append]; omega⟩), hO⟩
    · (try dsimp only); omega
   have h191 : ¬ ((nth o2 ((nth (nextL f (nth r1 0)) k).toNat)) = -1) := oq h179
   refine cq (cr (mv hO rfl rfl (ry hO rfl (ye tz rfl rfl) (as_ hO rfl rfl (rj (et (cd rfl (fun h192 => ?_) (fun h192 => ?_))))))))
   ·
    have h193 : (nth o2 ((nth (nextL f (nth r1 0)) k).toNat)) = (hAt p f o1 (nth r1 0)) := ot h192
    refine cp (ek' (ek' (et (cr (ry hO rfl (y_add ((k + 1 : Nat) : Int) tz rfl rfl (by rw [wd] <;> omega)) (mv hO rfl rfl (rj ?_)))))))
    have hO := hO.front1
    have hO := hO.front1
    refine ends_round (k + 1, rs3, o2, rs4, r2, bb4, cc4) ?_ ?_ ?_
    · exact ⟨rfl, rfl, rfl, rfl, rfl, rfl, rfl, rfl, rfl, tz⟩
    · exact ⟨r166, r167, (by (try dsimp only); exact ⟨by omega, hto_same (by omega) hfo ‹_› ‹_›, hi2, h1r⟩), hO⟩
    · (try dsimp only); omega
   have h194 : ¬ ((nth o2 ((nth (nextL f (nth r1 0)) k).toNat)) = (hAt p f o1 (nth r1 0))) := oq h192
   refine cq (cr (mv hO rfl rfl (ry hO rfl (y_makeI tc_30.1 tc_30.2 tz rfl) (ry hO rfl (y_build [.int .i64 (nth r1 0), .iface 30 (.int .i64 502)] (.agg #[.int .i64 (nth r1 0), .iface 30 (.int .i64 502)]) tz rfl (fun _ => by kernel_rfl)) (rd' tz (og_box hO rfl rfl (fun b195 w196 hO => ?_)))))))
   have hO : Own _ M148 ([(b195, .cells #[.int .i64 (nth r1 0), .iface 30 (.int .i64 502)] 123)] ++ (rs4 ++ (rs3 ++ bs))) := hO
   refine ry hO rfl (y_makeI tc_121.1 tc_121.2 tz rfl) (as_ hO rfl rfl (as_ hO rfl rfl (rj (ez (E' := [(89, .int .i64 (k : Int)), (7, .slice bb4 r2.length cc4), (0, .pointer (some p_p)), (1, .pointer (some p_f)), (6, .slice (some ⟨b36, o37, none⟩) (((List.replicate f.code.length (-1 : Int))).length) c26), (8, .int .i64 (nth r1 0)), (12, .int .i64 (hAt p f o1 (nth r1 0))), (87, .slice (some p173) ((nextL f (nth r1 0)).length) c152), (88, .int .i64 ((nextL f (nth r1 0)).length : Int)), (4, .slice none 0 0), (5, .iface 121 (.pointer (some ⟨b195, 0, none⟩)))]) ⟨rfl, rfl, rfl, rfl, rfl, rfl, rfl, rfl, rfl, rfl, rfl, tz⟩ (et (ct (eg (eg (ew' ?_)))))))))
   refine ew' (eg (eg (ew' (ew' (eg (ew' (ends_ret2 (.inl rfl) rfl rfl rfl ?_)))))))
   obtain ⟨M197, le198, hO, hk199, hn200, hd201⟩ := Own.keeps (rs := [(b195, .cells #[.int .i64 (nth r1 0), .iface 30 (.int .i64 502)] 123)]) hO
   have r202 := r167.mono le198
   have h203 := h155.mono le198
   have h204 := h156.mono le198
   have at205 := at157.mono le198
   have s206 := s158.mono le198
   have r207 := r166.mono le198
   have s208 := s153.mono le198
   have hk209 := hk160.mono le198
   have at210 := at161.mono le198
   have hle211 := m_ hle162 le198
   have ch212 := m_ ch163 le198
   have kl213 := m_ kl164 le198
   have at214 := Has.at (vs := [.int .i64 (nth r1 0), .iface 30 (.int .i64 502)]) hk199 rfl
   refine Ret.mk hle211 (hO.forget.forget) (⟨_, _, rfl, ?_, ?_⟩)
   ·
    have hx215 : ([] : List Int) = (heightsE p f).1 := by first | (rw [hre, hRun_low (by omega) (by have := hi.cnt; omega) (by first | exact .inl ‹_› | exact .inr ‹_›)]; done) | (rw [hre, hRun_bad (by omega) (by have := hi.cnt; omega) hok (hto_bad (by omega) hfo ‹_› ‹_›)]; done) | (rw [hre, hRun_done ‹_›]; done)
    exact hx215 ▸ ⟨_, _, rfl, (RdS.nil _ _ _)⟩
   ·
    have hx216 : (some ((nth r1 0), 502)) = (heightsE p f).2 := by first | (rw [hre, hRun_low (by omega) (by have := hi.cnt; omega) (by first | exact .inl ‹_› | exact .inr ‹_›)]; done) | (rw [hre, hRun_bad (by omega) (by have := hi.cnt; omega) hok (hto_bad (by omega) hfo ‹_› ‹_›)]; done) | (rw [hre, hRun_done ‹_›]; done)
    exact hx216 ▸ (.inr ⟨(nth r1 0), 502, _, rfl, rfl, at214⟩)
  have h217 : ¬ ((k : Int) < ((nextL f (nth r1 0)).length : Int)) := oq h171
  refine cx (eh (eh (ej (ek' (et (cr (mv hO rfl rfl ?_)))))))
  obtain ⟨b219, c220, hb221, hc222, r218⟩ : ∃ b' c', slBase bb4 cc4 (1 : Int).toNat 1 = b' ∧ cc4 - (1 : Int).toNat = c' ∧ Rw M148 rs4 b' c' (r2.drop 1) := ⟨_, _, rfl, rfl, r167.drop 1 (by first | omega | ((try simp only [List.length_replicate, List.length_set, Int.toNat_natCast] at *); first | omega | (have h_1 := hi.len; have h_2 := rw' hi.row (k := 0) (by omega); omega) | (have h_1 := hi2.len; have h_3 := rw' hL (k := k) (by omega); omega)))⟩
  refine ry hO rfl (y_sliceFrom' b219 (r2.drop 1).length c220 ts_36 tz rfl rfl (by first | omega | ((try simp only [List.length_replicate, List.length_set, Int.toNat_natCast] at *); first | omega | (have h_1 := hi.len; have h_2 := rw' hi.row (k := 0) (by omega); omega) | (have h_1 := hi2.len; have h_3 := rw' hL (k := k) (by omega); omega))) (by first | omega | ((try simp only [List.length_replicate, List.length_set, Int.toNat_natCast] at *); first | omega | (have h_1 := hi.len; have h_2 := rw' hi.row (k := 0) (by omega); omega) | (have h_1 := hi2.len; have h_3 := rw' hL (k := k) (by omega); omega))) hb221 (by rw [List.length_drop]; rfl) hc222) (as_ hO rfl rfl (rj ?_))
  have hO := hO.front1
  have hO := hO.front1
  refine ends_round (M148, (fu - 1), rs3, o2, rs4, (r2.drop 1), b219, c220) ?_ ?_ ?_
  · exact ⟨rfl, rfl, rfl, rfl, tz⟩
  · exact ⟨ch163, r166, r218, (by (try dsimp only); exact ⟨hre.trans (hRun_next (by omega) (by have := hi.cnt; omega) hok (by rw [List.take_of_length_le (by omega)] at hfo; exact hfo)), hi2.next h1r, by omega⟩), hO⟩
  · (try dsimp only); have := hi.cnt; omega
 have h223 : ¬ (0 < (r1.length : Int)) := oq h58
 refine cx (eh (eh (ej (et (cq (cr (mv hO rfl rfl (as_ hO rfl rfl (as_ hO rfl rfl ?_)))))))))
 refine rj (et (ct (ends_ret2 (.inl rfl) rfl rfl rfl ?_)))
 have hO := hO.front1
 obtain ⟨M224, le225, hO, hk226, hn227, hd228⟩ := Own.keeps (rs := rs1) hO
 have r229 := r45.mono le225
 have h230 := h49.mono le225
 have h231 := h50.mono le225
 have at232 := at51.mono le225
 have s233 := s52.mono le225
 have r234 := r43.mono le225
 have hk235 := hk53.mono le225
 have at236 := at54.mono le225
 have hle237 := m_ hle55 le225
 have ch238 := m_ le48 le225
 have kl239 := m_ kl56 le225
 refine Ret.mk hle237 (hO.forget) (⟨_, _, rfl, ?_, ?_⟩)
 ·
  have hx240 : o1 = (heightsE p f).1 := by first | (rw [hre, hRun_low (by omega) (by have := hi.cnt; omega) (by first | exact .inl ‹_› | exact .inr ‹_›)]; done) | (rw [hre, hRun_bad (by omega) (by have := hi.cnt; omega) hok (hto_bad (by omega) hfo ‹_› ‹_›)]; done) | (rw [hre, hRun_done ‹_›]; done)
  have s241 := Rw.kept r234 hk226 (mr _)
  exact hx240 ▸ ⟨_, _, congrArg (fun q => Value.slice (some ⟨b36, o37, none⟩) q c26) (by rw [List.length_replicate]; exact hi.len.symm : ((List.replicate f.code.length (-1 : Int))).length = o1.length), s241⟩
 ·
  have hx242 : (none : Option (Int × Int)) = (heightsE p f).2 := by first | (rw [hre, hRun_low (by omega) (by have := hi.cnt; omega) (by first | exact .inl ‹_› | exact .inr ‹_›)]; done) | (rw [hre, hRun_bad (by omega) (by have := hi.cnt; omega) hok (hto_bad (by omega) hfo ‹_› ‹_›)]; done) | (rw [hre, hRun_done ‹_›]; done)
  exact hx242 ▸ (.inl ⟨rfl, rfl⟩)

end Go.Proofs.YtdniefnjgkhkeaaDoor
