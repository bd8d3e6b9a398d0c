/-
  Contracts of Go functions, each walked operation by operation: swage/flow.Next, swage/flow.Reached.
  Conditions: as each statement says.
-/
import Derived.Test.YtdniefnjgkhkeaaDoorVf
import Derived.Test.YtdniefnjgkhkeaaDoorProg
import Derived.Test.YtdniefnjgkhkeaaDoorC1
import Derived.Test.YtdniefnjgkhkeaaDoorC2
import Derived.Test.YtdniefnjgkhkeaaDoorC3
namespace Go.Proofs.YtdniefnjgkhkeaaDoor
open Go
set_option maxRecDepth 100000
set_option linter.unusedVariables false
set_option linter.unusedSimpArgs false
theorem tcall_61 : cl Tryd.prog 61 := ⟨_, Tryd.func61, by kernel_rfl, by kernel_rfl⟩
theorem tcall_62 : cl Tryd.prog 62 := ⟨_, Tryd.func62, by kernel_rfl, by kernel_rfl⟩
theorem tl_4 : lone1 Tryd.prog 4 = true := by kernel_rfl
theorem tn_4 : (Tryd.prog.info? 4).map (·.size) = some 1 := by kernel_rfl
theorem ts_50 : slEl Tryd.prog 50 = some 1 := by kernel_rfl
theorem tv_50 : slInfo Tryd.prog 50 = some (4, 1, 1, .bool false) := by kernel_rfl
theorem c_flowNext {vs_f : List Value} (f : FuncD) (pc : Int) {w : World} {M : Mem} {bs : List (Nat × Obj)} (h_f : Rep.rd M vs_f f)  (hO : Own w M (bs)) :
    Calls Tryd.prog 67 #[.agg vs_f.toArray, .int .i64 pc] w (Ret M bs (fun M' v => ∃ v0 v1, v = .tuple #[v0, v1] ∧ (∃ b c, v0 = .slice b ((flowNext f pc).1).length c ∧ RdS M' b c ((flowNext f pc).1)) ∧ (v1 = .int .i64 ((flowNext f pc).2)))) := by
 obtain ⟨b1, c2, rfl, s3⟩ := h_f
 refine ce (vs := [.agg #[.int .i64 f.args, .int .i64 f.locals, .slice b1 f.code.length c2], .int .i64 pc]) (n := 21) Tryd.func67 rfl rfl rfl (cq (cr (rd' tz (og_box hO rfl rfl (fun b4 w5 hO => ?_)))))
 have hO : Own _ M ([(b4, .cells #[.int .i64 f.args, .int .i64 f.locals, .slice b1 f.code.length c2] 44)] ++ bs) := hO
 refine as_ hO rfl rfl (as_ hO rfl rfl (rj (et (cq (cq (cr ?_))))))
 obtain ⟨M6, le7, hO, hk8, hn9, hd10⟩ := Own.keeps (rs := [(b4, .cells #[.int .i64 f.args, .int .i64 f.locals, .slice b1 f.code.length c2] 44)]) hO
 have s11 := s3.mono le7
 have hle12 := le7
 have at13 := Has.at (vs := [.int .i64 f.args, .int .i64 f.locals, .slice b1 f.code.length c2]) hk8 rfl
 refine rd' tz (oc (vs := [.pointer (some ⟨b4, 0, none⟩)]) tcall_61 rfl rfl (c_flowMay f ⟨_, at13, ⟨b1, c2, rfl, s11⟩⟩ hO) ?_)
 rintro _ w14 ⟨M15, _, le16, hO, rfl, rfl⟩
 refine ⟨_, rfl, ?_⟩
 have s17 := s11.mono le16
 have hk18 := hk8.mono le16
 have at19 := at13.mono le16
 have hle20 := m_ hle12 le16
 have kl21 := m_ le7 le16
 refine ry hO rfl (yt tz rfl) (mv hO rfl rfl ?_)
 rcases bt (!(codeMay f.code)) with h22 | h22
 ·
  have h23 : (codeMay f.code) = false := by simpa using h22
  refine ry hO rfl (ek (by rw [h22]; rfl)) (ry hO rfl (ek (by rw [h22]; rfl)) (ry hO rfl (pt tz (by rw [h22]; rfl) rfl) (mv hO rfl rfl (ry hO rfl (ek rfl) (ry hO rfl (ek rfl) (ry hO rfl (ek rfl) (ry hO rfl (ek rfl) (ry hO rfl (ek rfl) (ry hO rfl (pt tz rfl rfl) ?_)))))))))
  refine rj (ez (E' := [(1, .int .i64 pc), (2, .pointer (some ⟨b4, 0, none⟩)), (4, .slice none 0 0), (5, .int .i64 0), (18, .bool true)]) ⟨rfl, rfl, rfl, rfl, rfl, tz⟩ (et (cv rfl (cq (cr (as_ hO rfl rfl (as_ hO rfl rfl (rj (et ?_)))))))))
  refine ct (ew' (ends_ret2 (.inl rfl) rfl rfl rfl ?_))
  refine Ret.mk hle20 hO (⟨_, _, rfl, ?_, ?_⟩)
  ·
   have hx24 : ([] : List Int) = (flowNext f pc).1 := by (first | rfl | (simp_all [flowNext]; done) | omega | grind [flowNext])
   exact hx24 ▸ ⟨_, _, rfl, (RdS.nil _ _ _)⟩
  ·
   refine congrArg (Value.int .i64) ?_
   (first | rfl | (simp_all [flowNext]; done) | omega | grind [flowNext])
 have h25 : (codeMay f.code) = true := by simpa using h22
 refine ry hO rfl (ym (by rw [h22]; rfl) rfl) (ry hO rfl (yv (by rw [h22]; rfl) rfl rfl) (ry hO rfl (pf tz (by rw [h22]; rfl) rfl) (mv hO rfl rfl ?_)))
 rcases bt (decide (pc < 0)) with h26 | h26
 ·
  have h27 : pc < 0 := ot h26
  refine ry hO rfl (ek (by rw [h26]; rfl)) (ry hO rfl (ek (by rw [h26]; rfl)) (ry hO rfl (ek (by rw [h26]; rfl)) (ry hO rfl (ek (by rw [h26]; rfl)) (ry hO rfl (ek (by rw [h26]; rfl)) (ry hO rfl (pt tz (by rw [h26]; rfl) rfl) (rj (ez (E' := [(1, .int .i64 pc), (2, .pointer (some ⟨b4, 0, none⟩)), (4, .slice none 0 0), (5, .int .i64 0), (18, .bool true)]) ⟨rfl, rfl, rfl, rfl, rfl, tz⟩ (et (cv rfl ?_)))))))))
  refine cq (cr (as_ hO rfl rfl (as_ hO rfl rfl (rj (et (ct (ew' (ends_ret2 (.inl rfl) rfl rfl rfl ?_))))))))
  refine Ret.mk hle20 hO (⟨_, _, rfl, ?_, ?_⟩)
  ·
   have hx28 : ([] : List Int) = (flowNext f pc).1 := by (first | rfl | (simp_all [flowNext]; done) | omega | grind [flowNext])
   exact hx28 ▸ ⟨_, _, rfl, (RdS.nil _ _ _)⟩
  ·
   refine congrArg (Value.int .i64) ?_
   (first | rfl | (simp_all [flowNext]; done) | omega | grind [flowNext])
 have h29 : ¬ (pc < 0) := oq h26
 refine ry hO rfl (ym (by rw [h26]; rfl) rfl) (ry hO rfl (yf 2 tf_44_2 rfl (by rw [h26]; rfl) rfl) (ry hO rfl (yl tl_42 (by rw [h26]; rfl) rfl (fun _ h => at19.cell h 2 rfl)) ?_))
 have bd30 : f.code.length * 16 ≤ 140737488351232 := s17.bd
 refine ry hO rfl (y_len ts_42 (by rw [h26]; rfl) rfl) (ry hO rfl (y_ge (by rw [h26]; rfl) rfl rfl) (ry hO rfl (pf tz (by rw [h26]; rfl) rfl) (rj (ez (E' := [(1, .int .i64 pc), (2, .pointer (some ⟨b4, 0, none⟩)), (4, .slice none 0 0), (5, .int .i64 0), (18, .bool (decide ((f.code.length : Int) ≤ pc)))]) ⟨rfl, rfl, rfl, rfl, rfl, tz⟩ (et (cd rfl (fun h31 => ?_) (fun h31 => ?_)))))))
 ·
  have h32 : (f.code.length : Int) ≤ pc := ot h31
  refine cq (cr (as_ hO rfl rfl (as_ hO rfl rfl (rj (et (ct (ew' (ends_ret2 (.inl rfl) rfl rfl rfl ?_))))))))
  refine Ret.mk hle20 hO (⟨_, _, rfl, ?_, ?_⟩)
  ·
   have hx33 : ([] : List Int) = (flowNext f pc).1 := by (first | rfl | (simp_all [flowNext]; done) | omega | grind [flowNext])
   exact hx33 ▸ ⟨_, _, rfl, (RdS.nil _ _ _)⟩
  ·
   refine congrArg (Value.int .i64) ?_
   (first | rfl | (simp_all [flowNext]; done) | omega | grind [flowNext])
 have h34 : ¬ ((f.code.length : Int) ≤ pc) := oq h31
 refine cp (et (cq (cr (mv hO rfl rfl (rd' tz (oc (vs := [.pointer (some ⟨b4, 0, none⟩), .int .i64 pc]) tcall_62 rfl rfl (c_flowNextL f pc ⟨_, at19, ⟨b1, c2, rfl, s17⟩⟩ (by omega) (by omega) (by exact (codeMay_len ‹_›).2) hO) ?_))))))
 rintro _ w35 ⟨M36, rs38, _, le37, hO, rfl, b39, c40, rfl, r41⟩
 refine ⟨_, rfl, ?_⟩
 have s42 := s17.mono le37
 have hk43 := hk18.mono le37
 have at44 := at19.mono le37
 have hle45 := m_ hle20 le37
 have kl46 := m_ kl21 le37
 refine as_ hO rfl rfl (as_ hO rfl rfl (rj (et (ct (ends_ret2 (.inl rfl) rfl rfl rfl ?_)))))
 obtain ⟨M47, le48, hO, hk49, hn50, hd51⟩ := Own.keeps (rs := rs38) hO
 have r52 := r41.mono le48
 have s53 := s42.mono le48
 have hk54 := hk43.mono le48
 have at55 := at44.mono le48
 have hle56 := m_ hle45 le48
 have kl57 := m_ kl46 le48
 refine Ret.mk hle56 hO (⟨_, _, rfl, ?_, ?_⟩)
 ·
  have hx58 : (nextL f pc) = (flowNext f pc).1 := by (first | rfl | (simp_all [flowNext]; done) | omega | grind [flowNext])
  have s59 := Rw.kept r52 hk49 (mr _)
  exact hx58 ▸ ⟨_, _, rfl, s59⟩
 ·
  refine congrArg (Value.int .i64) ?_
  (first | rfl | (simp_all [flowNext]; done) | omega | grind [flowNext])

theorem c_flowReached {vs_f : List Value} (f : FuncD) {w : World} {M : Mem} {bs : List (Nat × Obj)} (h_f : Rep.rd M vs_f f)  (hO : Own w M (bs)) :
    Calls Tryd.prog 48 #[.agg vs_f.toArray] w (Ret M bs (fun M' v => ∃ v0 v1, v = .tuple #[v0, v1] ∧ (∃ b c, v0 = .slice b ((flowReached f).1).length c ∧ RdS M' b c ((flowReached f).1)) ∧ (v1 = .int .i64 ((flowReached f).2)))) := by
 obtain ⟨b1, c2, rfl, s3⟩ := h_f
 refine ce (vs := [.agg #[.int .i64 f.args, .int .i64 f.locals, .slice b1 f.code.length c2]]) (n := 45) Tryd.func48 rfl rfl rfl (cq (cr (rd' tz (og_box hO rfl rfl (fun b4 w5 hO => ?_)))))
 have hO : Own _ M ([(b4, .cells #[.int .i64 f.args, .int .i64 f.locals, .slice b1 f.code.length c2] 44)] ++ bs) := hO
 refine as_ hO rfl rfl (as_ hO rfl rfl (rj (et (cq (cq (cr ?_))))))
 obtain ⟨M6, le7, hO, hk8, hn9, hd10⟩ := Own.keeps (rs := [(b4, .cells #[.int .i64 f.args, .int .i64 f.locals, .slice b1 f.code.length c2] 44)]) hO
 have s11 := s3.mono le7
 have hle12 := le7
 have at13 := Has.at (vs := [.int .i64 f.args, .int .i64 f.locals, .slice b1 f.code.length c2]) hk8 rfl
 refine rd' tz (oc (vs := [.pointer (some ⟨b4, 0, none⟩)]) tcall_61 rfl rfl (c_flowMay f ⟨_, at13, ⟨b1, c2, rfl, s11⟩⟩ hO) ?_)
 rintro _ w14 ⟨M15, _, le16, hO, rfl, rfl⟩
 refine ⟨_, rfl, ?_⟩
 have s17 := s11.mono le16
 have hk18 := hk8.mono le16
 have at19 := at13.mono le16
 have hle20 := m_ hle12 le16
 have kl21 := m_ le7 le16
 refine ry hO rfl (yt tz rfl) (rj (et (cd rfl (fun h22 => ?_) (fun h22 => ?_))))
 ·
  have h23 : (codeMay f.code) = false := by simpa using h22
  refine cq (cr (as_ hO rfl rfl (as_ hO rfl rfl (rj (et (ct (ew' (ends_ret2 (.inl rfl) rfl rfl rfl ?_))))))))
  refine Ret.mk hle20 hO (⟨_, _, rfl, ?_, ?_⟩)
  ·
   have hx24 : ([] : List Bool) = (flowReached f).1 := by (first | rfl | (simp_all [flowReached]; done) | omega | grind [flowReached])
   exact hx24 ▸ ⟨_, _, rfl, (RdS.nil _ _ _)⟩
  ·
   refine congrArg (Value.int .i64) ?_
   (first | rfl | (simp_all [flowReached]; done) | omega | grind [flowReached])
 have h25 : (codeMay f.code) = true := by simpa using h22
 refine cp (et (cq (cr (fb 2 tf_44_2 rfl hO rfl rfl (lc tl_42 at19 2 rfl hO rfl rfl ?_)))))
 have bd26 : f.code.length * 16 ≤ 140737488351232 := s17.bd
 refine ln ts_42 hO rfl rfl (rd' tz (og_make (α := Bool) (x0 := false) tv_50 rfl rfl (by decide) hO rfl rfl (by omega) (by simp only [Rep.sz]; omega) (by decide) (by omega) (fun rs27 b28 c29 w30 hO r31 => ?_)))
 refine as_ hO rfl rfl (rj (et (cq (cr (mv hO rfl rfl ?_)))))
 obtain ⟨b32, o33, rfl⟩ := Rw.ofs r31 (i := 0) (by rw [List.length_replicate]; have := codeMay_len ‹codeMay f.code = true›; omega)
 have hO : Own w30 M15 (rs27 ++ bs) := by assumption
 refine ry hO rfl (yi ts_50 tz rfl rfl (by omega) (by (try simp only [List.length_replicate, List.length_set, Int.toNat_natCast]); have := codeMay_len ‹codeMay f.code = true›; omega)) (rd' tz (og_storeR (i := 0) (x := true) (vs := [.bool true]) hO r31 (by rw [List.length_replicate]; have := codeMay_len ‹codeMay f.code = true›; omega) tn_4 rfl rfl rfl rfl rfl (fun rs35 w34 hO r36 => ?_)))
 refine rj (ez (E' := [(1, .pointer (some ⟨b4, 0, none⟩)), (2, .slice none 0 0), (3, .int .i64 0), (4, .slice (some ⟨b32, o33, none⟩) (((List.replicate (((f.code.length : Int) : Int).toNat) (false : Bool))).length) c29)]) ⟨rfl, rfl, rfl, rfl, tz⟩ (et (cq (cq (cr (rd' tz (og (vs := [.int .i64 0]) (cs := [.int .i64 0]) (e := 3) hO rfl rfl (fun _ => by kernel_rfl) (fun b37 w38 hO => ?_))))))))
 have hO : Own _ M15 ([(b37, .cells #[.int .i64 0] 3)] ++ (rs35 ++ bs)) := hO
 refine as_ hO rfl rfl (rj (et (cb ?_)))
 have r40 : Rw M15 [(b37, .cells #[.int .i64 0] 3)] (some ⟨b37, 0, none⟩) 1 ([0] : List Int) := Rw.lit (cs := [.int .i64 0]) (RdL.cons (α := Int) (us := [.int .i64 0]) (x := 0) rfl (RdL.nil _)) (by simp [Rep.sz])
 refine cg_loop (σ := Mem × Nat × (List (Nat × Obj)) × (List Bool) × (List (Nat × Obj)) × (List Int) × (Option Addr) × Nat) (fun qs => [(5, .slice qs.2.2.2.2.2.2.1 qs.2.2.2.2.2.1.length qs.2.2.2.2.2.2.2), (1, .pointer (some ⟨b4, 0, none⟩)), (2, .slice none 0 0), (3, .int .i64 0), (4, .slice (some ⟨b32, o33, none⟩) (((List.replicate (((f.code.length : Int) : Int).toNat) (false : Bool))).length) c29)]) (fun qs w => Mem.le M15 qs.1 ∧ Rw qs.1 qs.2.2.1 (some ⟨b32, o33, none⟩) c29 qs.2.2.2.1 ∧ Rw qs.1 qs.2.2.2.2.1 qs.2.2.2.2.2.2.1 qs.2.2.2.2.2.2.2 qs.2.2.2.2.2.1 ∧ (reachedL f = reachRun f qs.2.1 qs.2.2.2.1 qs.2.2.2.2.2.1 ∧ qs.2.2.2.1.length = f.code.length ∧ cf qs.2.2.2.1 + qs.2.2.2.2.2.1.length ≤ qs.2.1 ∧ qs.2.1 ≤ 64 ∧ rowOk f qs.2.2.2.2.2.1) ∧ Own w qs.1 (qs.2.2.2.2.1 ++ (qs.2.2.1 ++ bs))) (fun qs => qs.2.1) (M15, f.code.length, rs35, ((List.replicate (((f.code.length : Int) : Int).toNat) (false : Bool)).set 0 true), [(b37, .cells #[.int .i64 0] 3)], ([0] : List Int), some ⟨b37, 0, none⟩, 1) ⟨rfl, rfl, rfl, rfl, rfl, tz⟩ ⟨mr _, r36, r40, (by (try dsimp only); have hcl := codeMay_len ‹codeMay f.code = true›; exact ⟨rfl, by simp, by have := cf_init f.code.length hcl.1; simpa using this, hcl.2, fun x hx => by simp at hx; subst hx; omega⟩), hO⟩ ?_
 rintro ⟨Mi, fu, rs1, o1, rs2, r1, bb2, cc2⟩ w42 ⟨le44, r39, r41, ⟨hre, hol, hcf, h64, hro⟩, hO⟩
 try dsimp only at *
 have s45 := s17.mono le44
 have hk46 := hk18.mono le44
 have at47 := at19.mono le44
 have hle48 := m_ hle20 le44
 have kl49 := m_ kl21 le44
 refine cq (cq (cr (mv hO rfl rfl ?_)))
 have bd50 : r1.length * 8 ≤ 140737488351232 := r41.bd
 refine ln ts_36 hO rfl rfl (ry hO rfl (y_gt tz rfl rfl) (rj (et (cd rfl (fun h51 => ?_) (fun h51 => ?_)))))
 ·
  have h52 : 0 < (r1.length : Int) := ot h51
  refine cp (et (cq (cb (cq (cr (mv hO rfl rfl ?_))))))
  obtain ⟨b53, o54, rfl⟩ := Rw.ofs r41 (i := 0) (by omega)
  have hO : Own w42 Mi (rs2 ++ (rs1 ++ bs)) := by assumption
  refine ry hO rfl (yi ts_36 tz rfl rfl (by omega) (by omega)) ?_
  obtain ⟨vs55, hr56, hc57⟩ := Rw.cells (t := rs1 ++ bs) r41 0 (by first | omega | (have := rw' hL (k := k) (by omega); omega))
  obtain rfl := hr56
  refine ry hO rfl (yl tl_3 tz rfl (fun w h => hc57 w h 0 _ rfl)) (rd' tz (oc (vs := [.pointer (some ⟨b4, 0, none⟩), .int .i64 (nth r1 0)]) tcall_62 rfl rfl (c_flowNextL f (nth r1 0) ⟨_, at47, ⟨b1, c2, rfl, s45⟩⟩ (by exact (rw' hro (by omega)).1) (by exact (rw' hro (by omega)).2) (by exact (codeMay_len ‹_›).2) hO) ?_))
  rintro _ w58 ⟨M59, rs61, _, le60, hO, rfl, b62, c63, rfl, r64⟩
  refine ⟨_, rfl, ?_⟩
  have r65 := r41.mono le60
  have r66 := r39.mono le60
  have s67 := s45.mono le60
  have hk68 := hk46.mono le60
  have at69 := at47.mono le60
  have hle70 := m_ hle48 le60
  have ch71 := m_ le44 le60
  have kl72 := m_ kl49 le60
  have bd73 : (nextL f (nth r1 0)).length * 8 ≤ 140737488351232 := r64.bd
  refine ln ts_36 hO rfl rfl (mv hO rfl rfl (rj (et (cb (cg_loop (σ := Nat × (List (Nat × Obj)) × (List Bool) × (List (Nat × Obj)) × (List Int) × (Option Addr) × Nat) (fun qs => [(27, .int .i64 (qs.1 : Int)), (5, .slice qs.2.2.2.2.2.1 qs.2.2.2.2.1.length qs.2.2.2.2.2.2), (1, .pointer (some ⟨b4, 0, none⟩)), (2, .slice none 0 0), (3, .int .i64 0), (4, .slice (some ⟨b32, o33, none⟩) (((List.replicate (((f.code.length : Int) : Int).toNat) (false : Bool))).length) c29), (25, .slice b62 (((nextL f (nth r1 0))).length) c63), (26, .int .i64 (((nextL f (nth r1 0))).length : Int))]) (fun qs w => Rw M59 qs.2.1 (some ⟨b32, o33, none⟩) c29 qs.2.2.1 ∧ Rw M59 qs.2.2.2.1 qs.2.2.2.2.2.1 qs.2.2.2.2.2.2 qs.2.2.2.2.1 ∧ (qs.1 ≤ (nextL f (nth r1 0)).length ∧ (qs.2.2.1, qs.2.2.2.2.1) = ((nextL f (nth r1 0)).take qs.1).foldl rstep (o1, r1) ∧ qs.2.2.1.length = f.code.length ∧ cf qs.2.2.1 + qs.2.2.2.2.1.length ≤ fu ∧ rowOk f qs.2.2.2.2.1 ∧ 1 ≤ qs.2.2.2.2.1.length) ∧ Own w M59 (rs61 ++ (qs.2.2.2.1 ++ (qs.2.1 ++ bs)))) (fun qs => (nextL f (nth r1 0)).length - qs.1) (0, rs1, o1, rs2, r1, some ⟨b53, o54, none⟩, cc2) ⟨rfl, rfl, rfl, rfl, rfl, rfl, rfl, rfl, tz⟩ ⟨r66, r65, (by (try dsimp only); exact ⟨Nat.zero_le _, rfl, hol, hcf, hro, by omega⟩), hO⟩ ?_)))))
  rintro ⟨k, rs3, o2, rs4, r2, bb4, cc4⟩ w76 ⟨r74, r75, ⟨hk, hfo, hol2, hcf2, hro2, h1r⟩, hO⟩
  try dsimp only at *
  refine cq (cr (ry hO rfl (yv tz rfl rfl) (rj (et (cq (cd rfl (fun h79 => ?_) (fun h79 => ?_)))))))
  ·
   have h80 : (k : Int) < (((nextL f (nth r1 0))).length : Int) := ot h79
   refine cp (et (cq (cb (cq (cr ?_)))))
   have hL := nextL_ok (f := f) (pc := nth r1 0) ‹_› (rw' hro (by omega)).1 (rw' hro (by omega)).2
   obtain ⟨b81, o82, rfl⟩ := Rw.ofs r64 (i := k) (by omega)
   have hO : Own w76 M59 (rs61 ++ (rs4 ++ (rs3 ++ bs))) := by assumption
   refine ry hO rfl (y_indexN k ts_36 tz rfl rfl (by omega)) ?_
   obtain ⟨vs83, hr84, hc85⟩ := Rw.cells (t := rs4 ++ (rs3 ++ bs)) r64 k (by first | omega | (have := rw' hL (k := k) (by omega); omega))
   obtain rfl := hr84
   refine ry hO rfl (yl tl_3 tz rfl (fun w h => hc85 w h 0 _ rfl)) (as_ hO rfl rfl (rj (et (cq (cr (mv hO rfl rfl (mv hO rfl rfl (ry hO rfl (yi ts_50 tz rfl rfl (by exact (rw' hL (k := k) (by omega)).1) (by (try simp only [List.length_replicate, List.length_set, Int.toNat_natCast]); have := rw' hL (k := k) (by omega); omega)) ?_))))))))
   obtain ⟨vs86, hr87, hc88⟩ := Rw.cells (t := rs61 ++ (rs4 ++ bs)) r74 ((nth (nextL f (nth r1 0)) k).toNat) (by first | omega | (have := rw' hL (k := k) (by omega); omega))
   obtain rfl := hr87
   refine ry hO rfl (yl tl_4 tz rfl (fun w h => hc88 w (h.front2) 0 _ rfl)) (ry hO rfl (yt tz rfl) (rj (ez (E' := [(27, .int .i64 (k : Int)), (5, .slice bb4 r2.length cc4), (1, .pointer (some ⟨b4, 0, none⟩)), (2, .slice none 0 0), (3, .int .i64 0), (4, .slice (some ⟨b32, o33, none⟩) (((List.replicate (((f.code.length : Int) : Int).toNat) (false : Bool))).length) c29), (25, .slice (some ⟨b81, o82, none⟩) (((nextL f (nth r1 0))).length) c63), (26, .int .i64 (((nextL f (nth r1 0))).length : Int)), (7, .int .i64 (nth (nextL f (nth r1 0)) k)), (35, .bool (!(nth o2 ((nth (nextL f (nth r1 0)) k).toNat))))]) ⟨rfl, rfl, rfl, rfl, rfl, rfl, rfl, rfl, rfl, rfl, tz⟩ (et (cd rfl (fun h89 => ?_) (fun h89 => ?_))))))
   ·
    have h90 : (nth o2 ((nth (nextL f (nth r1 0)) k).toNat)) = false := by simpa using h89
    refine cq (cr (mv hO rfl rfl (mv hO rfl rfl (ry hO rfl (yi ts_50 tz rfl rfl (by exact (rw' hL (k := k) (by omega)).1) (by (try simp only [List.length_replicate, List.length_set, Int.toNat_natCast]); have := rw' hL (k := k) (by omega); omega)) ?_))))
    have hO := hO.front2
    refine rd' tz (og_storeR (i := ((nth (nextL f (nth r1 0)) k).toNat)) (x := true) (vs := [.bool true]) hO r74 (by have := rw' hL (k := k) (by omega); omega) tn_4 rfl rfl rfl rfl rfl (fun rs92 w91 hO r93 => ?_))
    refine rj (et (cr (mv hO rfl rfl (mv hO rfl rfl (rd' tz (og (vs := [.int .i64 (nth (nextL f (nth r1 0)) k)]) (cs := [.int .i64 (nth (nextL f (nth r1 0)) k)]) (e := 3) hO rfl rfl (fun _ => by kernel_rfl) (fun b94 w95 hO => ?_)))))))
    have hO : Own _ M59 ([(b94, .cells #[.int .i64 (nth (nextL f (nth r1 0)) k)] 3)] ++ (rs92 ++ (rs61 ++ (rs4 ++ bs)))) := hO
    have hO := hO.front3
    have hO := hO.front1
    have hO : Own _ M59 ([(b94, .cells #[.int .i64 (nth (nextL f (nth r1 0)) k)] 3)] ++ (rs4 ++ (rs92 ++ (rs61 ++ bs)))) := hO
    refine rd' tz (og_append1 (α := Int) (rs := rs4) (us := [.int .i64 (nth (nextL f (nth r1 0)) k)]) (x := (nth (nextL f (nth r1 0)) k)) tv_36 rfl rfl hO r75 rfl rfl rfl rfl (by simp only [Rep.sz]; omega) (by decide) (by first | omega | (simp; done) | (simp; omega)) (fun rs96 b97 c98 w99 hO r100 => ?_))
    refine as_ hO rfl rfl (rj (ek' (ez (E' := [(27, .int .i64 (k : Int)), (5, .slice b97 (((r2 ++ [(nth (nextL f (nth r1 0)) k)])).length) c98), (1, .pointer (some ⟨b4, 0, none⟩)), (2, .slice none 0 0), (3, .int .i64 0), (4, .slice (some ⟨b32, o33, none⟩) (((List.replicate (((f.code.length : Int) : Int).toNat) (false : Bool))).length) c29), (25, .slice (some ⟨b81, o82, none⟩) (((nextL f (nth r1 0))).length) c63), (26, .int .i64 (((nextL f (nth r1 0))).length : Int))]) ⟨rfl, rfl, rfl, rfl, rfl, rfl, rfl, rfl, tz⟩ (et (cr (ry hO rfl (y_add ((k + 1 : Nat) : Int) tz rfl rfl (by rw [wd] <;> omega)) (mv hO rfl rfl (rj ?_))))))))
    have hO := hO.front1
    have hO := hO.front1
    have hO := hO.front2
    refine ends_round (k + 1, rs92, (o2.set ((nth (nextL f (nth r1 0)) k).toNat) true), rs96, (r2 ++ [(nth (nextL f (nth r1 0)) k)]), b97, c98) ?_ ?_ ?_
    · exact ⟨rfl, rfl, rfl, rfl, rfl, rfl, rfl, rfl, tz⟩
    · exact ⟨r93, r100, (by (try dsimp only); exact rstep_hit (by omega) hL hfo hol2 hcf2 hro2 h1r ‹_›), hO⟩
    · (try dsimp only); omega
   have h101 : (nth o2 ((nth (nextL f (nth r1 0)) k).toNat)) = true := by simpa using h89
   refine cp (ek' (et (cr (ry hO rfl (y_add ((k + 1 : Nat) : Int) tz rfl rfl (by rw [wd] <;> omega)) (mv hO rfl rfl (rj ?_))))))
   have hO := hO.front2
   have hO := hO.front2
   have hO := hO.front2
   refine ends_round (k + 1, rs3, o2, rs4, r2, bb4, cc4) ?_ ?_ ?_
   · exact ⟨rfl, rfl, rfl, rfl, rfl, rfl, rfl, rfl, tz⟩
   · exact ⟨r74, r75, (by (try dsimp only); exact ⟨by omega, rstep_miss (by omega) hfo ‹_›, hol2, hcf2, hro2, h1r⟩), hO⟩
   · (try dsimp only); omega
  have h102 : ¬ ((k : Int) < (((nextL f (nth r1 0))).length : Int)) := oq h79
  refine cx (eh (eh (ej (ek' (et (cr ?_))))))
  have := 0
  refine mv hO rfl rfl ?_
  obtain ⟨b104, c105, hb106, hc107, r103⟩ : ∃ b' c', slBase bb4 cc4 (1 : Int).toNat 1 = b' ∧ cc4 - (1 : Int).toNat = c' ∧ Rw M59 rs4 b' c' (r2.drop 1) := ⟨_, _, rfl, rfl, r75.drop 1 (by omega)⟩
  refine ry hO rfl (y_sliceFrom' b104 (r2.drop 1).length c105 ts_36 tz rfl rfl (by omega) (by omega) hb106 (by rw [List.length_drop]; rfl) hc107) (as_ hO rfl rfl (rj ?_))
  have hO := hO.forget
  have hO := hO.front1
  have hO := hO.front1
  refine ends_round (M59, (fu - 1), rs3, o2, rs4, (r2.drop 1), b104, c105) ?_ ?_ ?_
  · exact ⟨rfl, rfl, rfl, rfl, rfl, tz⟩
  · exact ⟨ch71, r74, r103, (by (try dsimp only); have hst := reach_step hre hcf2 h1r (by omega) hro2 (by omega) hfo; exact ⟨hst.2.1, hol2, hst.2.2.1, by omega, hst.2.2.2⟩), hO⟩
  · (try dsimp only); omega
 have h108 : ¬ (0 < (r1.length : Int)) := oq h51
 refine cx (eh (eh (ej (et (cq (cr (mv hO rfl rfl (as_ hO rfl rfl (as_ hO rfl rfl ?_)))))))))
 refine rj (et (ct (ends_ret2 (.inl rfl) rfl rfl rfl ?_)))
 have hO := hO.front1
 obtain ⟨M109, le110, hO, hk111, hn112, hd113⟩ := Own.keeps (rs := rs1) hO
 have r114 := r41.mono le110
 have r115 := r39.mono le110
 have s116 := s45.mono le110
 have hk117 := hk46.mono le110
 have at118 := at47.mono le110
 have hle119 := m_ hle48 le110
 have ch120 := m_ le44 le110
 have kl121 := m_ kl49 le110
 refine Ret.mk hle119 (hO.forget) (⟨_, _, rfl, ?_, ?_⟩)
 ·
  have hx122 : o1 = (flowReached f).1 := by rw [show flowReached f = (reachedL f, 0) from if_pos ‹_›]; exact reach_done hre ‹_›
  have s123 := Rw.kept r115 hk111 (mr _)
  exact hx122 ▸ ⟨_, _, congrArg (fun q => Value.slice (some ⟨b32, o33, none⟩) q c29) (by simp only [List.length_set, List.length_replicate, Int.toNat_natCast] at *; omega : ((List.replicate (((f.code.length : Int) : Int).toNat) (false : Bool))).length = o1.length), s123⟩
 ·
  refine congrArg (Value.int .i64) ?_
  rw [show flowReached f = (reachedL f, 0) from if_pos ‹_›]

end Go.Proofs.YtdniefnjgkhkeaaDoor
