/-
  Contracts of Go functions, each walked operation by operation: swage/ir.CopyMeta.
  Conditions: as each statement says.
-/
import Derived.Test.YtdniefnjgkhkeaaDoorVf
import Derived.Test.YtdniefnjgkhkeaaDoorProg
import Derived.Test.YtdniefnjgkhkeaaDoorC1
import Derived.Test.YtdniefnjgkhkeaaDoorC2
import Derived.Test.YtdniefnjgkhkeaaDoorC3
import Derived.Test.YtdniefnjgkhkeaaDoorC4
import Derived.Test.YtdniefnjgkhkeaaDoorC5
import Derived.Test.YtdniefnjgkhkeaaDoorC6
import Derived.Test.YtdniefnjgkhkeaaDoorC7
import Derived.Test.YtdniefnjgkhkeaaDoorC8
import Derived.Test.YtdniefnjgkhkeaaDoorV2
import Derived.Test.YtdniefnjgkhkeaaDoorC9
import Derived.Test.YtdniefnjgkhkeaaDoorC10
import Derived.Test.YtdniefnjgkhkeaaDoorV3
import Derived.Test.YtdniefnjgkhkeaaDoorC11
import Derived.Test.YtdniefnjgkhkeaaDoorC12
import Derived.Test.YtdniefnjgkhkeaaDoorC13
import Derived.Test.YtdniefnjgkhkeaaDoorC14
import Derived.Test.YtdniefnjgkhkeaaDoorV4
import Derived.Test.YtdniefnjgkhkeaaDoorC15
import Derived.Test.YtdniefnjgkhkeaaDoorV5
namespace Go.Proofs.YtdniefnjgkhkeaaDoor
open Go
set_option maxRecDepth 100000
set_option linter.unusedVariables false
set_option linter.unusedSimpArgs false
theorem tcall_43 : cl Tryd.prog 43 := ⟨_, Tryd.func43, by kernel_rfl, by kernel_rfl⟩
theorem tcall_44 : cl Tryd.prog 44 := ⟨_, Tryd.func44, by kernel_rfl, by kernel_rfl⟩
theorem tn_63 : (Tryd.prog.info? 63).map (·.size) = some 1 := by kernel_rfl
theorem tn_65 : (Tryd.prog.info? 65).map (·.size) = some 1 := by kernel_rfl
theorem tn_85 : (Tryd.prog.info? 85).map (·.size) = some 1 := by kernel_rfl
theorem tz_65 : zeroOf Tryd.prog 65 = some (.agg #[.slice none 0 0]) := by kernel_rfl
theorem c_CopyMeta {vs_m : List Value} (m : Meta) {w : World} {M : Mem} {bs : List (Nat × Obj)} (h_m : Rep.rd M vs_m m)  (hO : Own w M (bs)) :
    Calls Tryd.prog 26 #[.agg vs_m.toArray] w (Ret M bs (fun M' v => ∃ vs, v = .agg vs.toArray ∧ Rep.rd M' vs m)) := by
 obtain ⟨b1, c2, rfl, s3⟩ := h_m
 refine ce (vs := [.agg #[.slice b1 m.parts.length c2]]) (n := 40) Tryd.func26 rfl rfl rfl (cq (cr (rd' tz (og_box hO rfl rfl (fun b4 w5 hO => ?_)))))
 have hO : Own _ M ([(b4, .cells #[.slice b1 m.parts.length c2] 65)] ++ bs) := hO
 refine rd' tz (og_alloc hO rfl tz_65 (fun b6 w7 hO => ?_))
 have hO : Own _ M ([(b6, .cells #[.slice none 0 0] 65)] ++ ([(b4, .cells #[.slice b1 m.parts.length c2] 65)] ++ bs)) := hO
 refine rj (et (cq (cr (fb 0 tf_65_0 rfl hO rfl rfl (ry hO rfl (yl tl_63 tz rfl (fun _ h => ob (h.front1) 0 0 rfl rfl)) (rd' tz (oc (vs := [.slice b1 m.parts.length c2]) tcall_43 rfl rfl (c_ClonePart m.parts s3 hO) ?_)))))))
 rintro _ w8 ⟨M9, rs11, _, le10, hO, rfl, b12, c13, rfl, r14⟩
 refine ⟨_, rfl, ?_⟩
 have s15 := s3.mono le10
 have hle16 := le10
 refine fb 0 tf_65_0 rfl hO rfl rfl ?_
 have hO := hO.front2
 refine rd' tz (oo (vs := [.slice b12 (((m.parts)).length) c13]) hO tn_63 rfl rfl rfl (nb rfl) rfl rfl (fun w17 hO => ?_))
 have hO : Own _ M9 ([(b4, .cells #[.slice b12 (((m.parts)).length) c13] 65)] ++ (rs11 ++ ([(b6, .cells #[.slice none 0 0] 65)] ++ bs))) := hO
 refine rj (et (cq (cq (cr (fb 0 tf_65_0 rfl hO rfl rfl (ry hO rfl (yl tl_63 tz rfl (fun _ h => ob h 0 0 rfl rfl)) ?_))))))
 have bd18 : (m.parts).length * 64 ≤ 140737488351232 := r14.bd
 refine ln ts_63 hO rfl rfl (mv hO rfl rfl (rj (et (cb (cg_loop (σ := Mem × Nat × (List (Nat × Obj)) × (List Part)) (fun qs => [(11, .int .i64 (qs.2.1 : Int)), (1, .pointer (some ⟨b4, 0, none⟩)), (2, .pointer (some ⟨b6, 0, none⟩)), (10, .int .i64 (((m.parts)).length : Int))]) (fun qs w => Mem.le M9 qs.1 ∧ Rw qs.1 qs.2.2.1 b12 c13 qs.2.2.2 ∧ (qs.2.1 ≤ m.parts.length ∧ qs.2.2.2 = m.parts) ∧ Own w qs.1 ([(b4, .cells #[.slice b12 (((m.parts)).length) c13] 65)] ++ (qs.2.2.1 ++ ([(b6, .cells #[.slice none 0 0] 65)] ++ bs)))) (fun qs => m.parts.length - qs.2.1) (M9, 0, rs11, (m.parts)) ⟨rfl, rfl, rfl, rfl, tz⟩ ⟨mr _, r14, (by (try dsimp only); exact ⟨Nat.zero_le _, rfl⟩), hO⟩ ?_)))))
 rintro ⟨Mi, k, rs1, l1⟩ w20 ⟨le22, r19, ⟨hk, hl1⟩, hO⟩
 try dsimp only at *
 have hle23 := m_ hle16 le22
 refine cq (cr (ry hO rfl (yv tz rfl rfl) (rj (et (cq (cd rfl (fun h24 => ?_) (fun h24 => ?_)))))))
 ·
  have h25 : (k : Int) < (((m.parts)).length : Int) := ot h24
  refine cp (et (cq (cb (cq (cr (mv hO rfl rfl (as_ hO rfl rfl (rj (et ?_)))))))))
  obtain ⟨w26, hO, ew27⟩ : ∃ w', Own w' Mi ([(b4, .cells #[.slice b12 (((m.parts)).length) c13] 65)] ++ (rs1 ++ ([(b6, .cells #[.slice none 0 0] 65)] ++ bs))) ∧ { w20 with drawn := w20.drawn + 1 } = w' := ⟨_, hO.drawn _, rfl⟩
  refine cw (S := fun w => Own w Mi ([(b4, .cells #[.slice b12 (((m.parts)).length) c13] 65)] ++ ([(b6, .cells #[.slice none 0 0] 65)] ++ bs))) (.take 0 (.take 1 (.take 2 (.take 3 (.take 4 (.take 5 (.take 6 (.take 7 (.take 8 (.take 9 (.take 10 (.take 13 (.take 14 (.take 15 (.take 16 (.take 17 (.two 11 18 (.two 12 18 (.one 18 (.one 19 (.take 20 (.take 21 (.one 22 (.take 23 (.take 24 (.one 25 .done)))))))) (.one 12 (.one 19 (.take 20 (.take 21 (.one 22 (.take 23 (.take 24 (.one 25 .done))))))))) (.one 11 (.one 12 (.one 19 (.take 20 (.take 21 (.one 22 (.take 23 (.take 24 (.one 25 .done)))))))))))))))))))))))))) 26 tm (by kernel_rfl) ew27 ((hO.front1).forget) (hfb 0 tf_65_0 rfl rfl rfl (fun _ _ _ h => h) rfl (gy rfl rfl (fun _ _ _ h => h) (yl tl_63 tz rfl (fun _ h => ob h 0 0 rfl rfl)) (hm rfl rfl (fun _ _ _ h => h) rfl (hfb 0 tf_65_0 rfl rfl rfl (fun _ _ _ h => h) rfl (gy rfl rfl (fun _ _ _ h => h) (yl tl_63 tz rfl (fun _ h => ob h 0 0 rfl rfl)) (hm rfl rfl (fun _ _ _ h => h) rfl (hfb 0 tf_65_0 rfl rfl rfl (fun _ _ _ h => h) rfl (gy rfl rfl (fun _ _ _ h => h) (yl tl_63 tz rfl (fun _ h => ob h 0 0 rfl rfl)) (hm rfl rfl (fun _ _ _ h => h) rfl ?_)))))))))
  obtain ⟨b28, o29, rfl⟩ := Rw.ofs r19 (i := k) (by first | omega | (simp only [hl1, List.length_set] at *; omega))
  have hO : Own w26 Mi ([(b4, .cells #[.slice (some ⟨b28, o29, none⟩) (((m.parts)).length) c13] 65)] ++ (rs1 ++ ([(b6, .cells #[.slice none 0 0] 65)] ++ bs))) := by assumption
  refine gy rfl rfl (fun _ _ _ h => h) (y_indexN k ts_63 tz rfl rfl (by first | omega | (simp only [hl1, List.length_set] at *; omega))) (hfa tf_87_2 rfl rfl (fun _ _ _ h => h) rfl (hfb 0 tf_65_0 rfl rfl rfl (fun _ _ _ h => h) rfl (gy rfl rfl (fun _ _ _ h => h) (yl tl_63 tz rfl (fun _ h => ob h 0 0 rfl rfl)) (hm rfl rfl (fun _ _ _ h => h) rfl (gy rfl rfl (fun _ _ _ h => h) (y_indexN k ts_63 tz rfl rfl (by first | omega | (simp only [hl1, List.length_set] at *; omega))) (hfa tf_87_3 rfl rfl (fun _ _ _ h => h) rfl ?_))))))
  refine hg_two ?_ ?_
  ·
   obtain ⟨vs30, hr31, hc32⟩ := Rw.cells (t := [(b4, .cells #[.slice (some ⟨b28, o29, none⟩) (((m.parts)).length) c13] 65)] ++ ([(b6, .cells #[.slice none 0 0] 65)] ++ bs)) r19 k (by first | omega | (simp only [hl1, List.length_set] at *; omega))
   obtain ⟨b33, c34, b36, c37, rfl, s35, s38⟩ := hr31
   refine hn' rfl tz (og_y (ops := #[]) (S := fun w => Own w Mi ([(b4, .cells #[.slice (some ⟨b28, o29, none⟩) (((m.parts)).length) c13] 65)] ++ (rs1 ++ ([(b6, .cells #[.slice none 0 0] 65)] ++ bs)))) (yl tl_85 tz rfl (fun w h => hc32 w (h.front1) 2 _ rfl)) tz rfl hO ?_)
   refine kg_s (hO.front1).forget ?_
   refine hg_two ?_ ?_
   ·
    refine hn' rfl tz (oc (vs := [.slice b33 (((nth l1 k).locals).length) c34]) tcall_44 rfl rfl (c_CloneSrc ((nth l1 k).locals) s35 hO) ?_)
    rintro _ w39 ⟨M40, rs42, _, le41, hO, rfl, b43, c44, rfl, r45⟩
    refine ⟨_, rfl, ?_⟩
    have r46 := r19.mono le41
    have s47 := s35.mono le41
    have hle48 := m_ hle23 le41
    have ch49 := m_ le22 le41
    refine kg_s ((hO.forget.front1).forget.less le41) ?_
    obtain ⟨vs50, hr51, hc52⟩ := Rw.cells (t := rs42 ++ ([(b4, .cells #[.slice (some ⟨b28, o29, none⟩) (((m.parts)).length) c13] 65)] ++ ([(b6, .cells #[.slice none 0 0] 65)] ++ bs))) r46 k (by first | omega | (simp only [hl1, List.length_set] at *; omega))
    obtain ⟨b53, c54, b56, c57, rfl, s55, s58⟩ := hr51
    refine hn' rfl tz (og_y (ops := #[]) (S := fun w => Own w M40 (rs42 ++ ([(b4, .cells #[.slice (some ⟨b28, o29, none⟩) (((m.parts)).length) c13] 65)] ++ (rs1 ++ ([(b6, .cells #[.slice none 0 0] 65)] ++ bs))))) (yl tl_85 tz rfl (fun w h => hc52 w (h.front2) 3 _ rfl)) tz rfl hO ?_)
    refine kg_s ((hO.forget.front1).forget.less le41) (hn' rfl tz (oc (vs := [.slice b56 (((nth l1 k).stack).length) c57]) tcall_44 rfl rfl (c_CloneSrc ((nth l1 k).stack) s58 hO) ?_))
    rintro _ w59 ⟨M60, rs62, _, le61, hO, rfl, b63, c64, rfl, r65⟩
    refine ⟨_, rfl, ?_⟩
    have r66 := r46.mono le61
    have s67 := s47.mono le61
    have r68 := r45.mono le61
    have s69 := s58.mono le61
    have hle70 := m_ hle48 le61
    have ch71 := m_ ch49 le61
    refine kg_s ((hO.forget.forget.front1).forget.less (m_ le41 le61)) (gy rfl rfl (fun _ _ _ h => h) (y_indexN k ts_63 tz rfl rfl (by first | omega | (simp only [hl1, List.length_set] at *; omega))) (hfa tf_87_2 rfl rfl (fun _ _ _ h => h) rfl ?_))
    have hO := hO.front3
    have hO := hO.front2
    obtain ⟨M75, le76, hO, hk77, hn78, hd79⟩ := Own.keeps (rs := rs42) hO
    have r80 := r66.mono le76
    have s81 := s67.mono le76
    have r82 := r68.mono le76
    have s83 := s69.mono le76
    have r84 := r65.mono le76
    have hle85 := m_ hle70 le76
    have ch86 := m_ ch71 le76
    have hO : Own _ M75 (rs1 ++ (rs62 ++ ([(b4, .cells #[.slice (some ⟨b28, o29, none⟩) (((m.parts)).length) c13] 65)] ++ ([(b6, .cells #[.slice none 0 0] 65)] ++ bs)))) := hO
    obtain ⟨vs87, hr88, hc89⟩ := Rw.cells (t := rs62 ++ ([(b4, .cells #[.slice (some ⟨b28, o29, none⟩) (((m.parts)).length) c13] 65)] ++ ([(b6, .cells #[.slice none 0 0] 65)] ++ bs))) r80 k (by first | omega | (simp only [hl1, List.length_set] at *; omega))
    obtain ⟨b90, c91, b93, c94, rfl, s92, s95⟩ := hr88
    refine hn' rfl tz (og_storeRF (i := k) (j := 2) (x := (⟨(nth l1 k).fn, (nth l1 k).pc, (((nth l1 k).locals)), (nth l1 k).stack⟩ : Part)) (y := nth l1 k) (vs := [.int .i64 ((nth l1 k).fn), .int .i64 ((nth l1 k).pc), .slice b90 (((nth l1 k).locals).length) c91, .slice b93 (((nth l1 k).stack).length) c94]) hO r80 (nth_eq (by first | omega | (simp only [hl1, List.length_set] at *; omega))) hc89 rfl (nb rfl) tn_85 rfl ⟨b43, c44, b93, c94, (by first | rfl | (rw [hl1]; done) | simp [hl1]), (Rw.kept r82 hk77 (mr _)), s95⟩ rfl rfl (fun rs73 w72 hO r74 => ?_))
    refine kg_s (hO.forget.forget.less (m_ (m_ le41 le61) le76)) (gy rfl rfl (fun _ _ _ h => h) (y_indexN k ts_63 tz rfl rfl (by first | omega | (simp only [hl1, List.length_set] at *; omega))) (hfa tf_87_3 rfl rfl (fun _ _ _ h => h) rfl ?_))
    have hO := hO.front1
    obtain ⟨M99, le100, hO, hk101, hn102, hd103⟩ := Own.keeps (rs := rs62) hO
    have r104 := r74.mono le100
    have s105 := s81.mono le100
    have r106 := r82.mono le100
    have s107 := s83.mono le100
    have r108 := r84.mono le100
    have hk109 := hk77.mono le100
    have hk110 := hk77.mono le100
    have hle111 := m_ hle85 le100
    have ch112 := m_ ch86 le100
    have kl113 := m_ le76 le100
    have hO : Own _ M99 (rs73 ++ ([(b4, .cells #[.slice (some ⟨b28, o29, none⟩) (((m.parts)).length) c13] 65)] ++ ([(b6, .cells #[.slice none 0 0] 65)] ++ bs))) := hO
    obtain ⟨vs114, hr115, hc116⟩ := Rw.cells (t := [(b4, .cells #[.slice (some ⟨b28, o29, none⟩) (((m.parts)).length) c13] 65)] ++ ([(b6, .cells #[.slice none 0 0] 65)] ++ bs)) r104 k (by first | omega | (simp only [hl1, List.length_set] at *; omega))
    obtain ⟨b117, c118, b120, c121, rfl, s119, s122⟩ := hr115
    refine hn' rfl tz (og_storeRF (i := k) (j := 3) (x := (⟨(nth (l1.set k (⟨(nth l1 k).fn, (nth l1 k).pc, (((nth l1 k).locals)), (nth l1 k).stack⟩ : Part)) k).fn, (nth (l1.set k (⟨(nth l1 k).fn, (nth l1 k).pc, (((nth l1 k).locals)), (nth l1 k).stack⟩ : Part)) k).pc, (nth (l1.set k (⟨(nth l1 k).fn, (nth l1 k).pc, (((nth l1 k).locals)), (nth l1 k).stack⟩ : Part)) k).locals, (((nth l1 k).stack))⟩ : Part)) (y := nth (l1.set k (⟨(nth l1 k).fn, (nth l1 k).pc, (((nth l1 k).locals)), (nth l1 k).stack⟩ : Part)) k) (vs := [.int .i64 ((nth (l1.set k (⟨(nth l1 k).fn, (nth l1 k).pc, (((nth l1 k).locals)), (nth l1 k).stack⟩ : Part)) k).fn), .int .i64 ((nth (l1.set k (⟨(nth l1 k).fn, (nth l1 k).pc, (((nth l1 k).locals)), (nth l1 k).stack⟩ : Part)) k).pc), .slice b117 (((nth (l1.set k (⟨(nth l1 k).fn, (nth l1 k).pc, (((nth l1 k).locals)), (nth l1 k).stack⟩ : Part)) k).locals).length) c118, .slice b120 (((nth (l1.set k (⟨(nth l1 k).fn, (nth l1 k).pc, (((nth l1 k).locals)), (nth l1 k).stack⟩ : Part)) k).stack).length) c121]) hO r104 (nth_eq (by first | omega | (simp only [hl1, List.length_set] at *; omega))) hc116 rfl (nb rfl) tn_85 rfl ⟨b117, c118, b63, c64, (by first | rfl | (rw [hl1]; done) | simp [hl1]), s119, (Rw.kept r108 hk101 (mr _))⟩ rfl rfl (fun rs97 w96 hO r98 => ?_))
    refine kg_s (hO.forget.less (m_ (m_ (m_ le41 le61) le76) le100)) (gd (ek' (ez (E' := [(11, .int .i64 (k : Int)), (1, .pointer (some ⟨b4, 0, none⟩)), (2, .pointer (some ⟨b6, 0, none⟩)), (10, .int .i64 (((m.parts)).length : Int))]) ⟨rfl, rfl, rfl, rfl, tz⟩ (et (cr (ry hO rfl (y_add ((k + 1 : Nat) : Int) tz rfl rfl (by rw [wd] <;> omega)) (mv hO rfl rfl (rj ?_))))))))
    have hO := hO.front2
    have hO := hO.front1
    have hO := hO.front2
    refine ends_round (M99, k + 1, rs97, ((l1.set k (⟨(nth l1 k).fn, (nth l1 k).pc, (((nth l1 k).locals)), (nth l1 k).stack⟩ : Part)).set k (⟨(nth (l1.set k (⟨(nth l1 k).fn, (nth l1 k).pc, (((nth l1 k).locals)), (nth l1 k).stack⟩ : Part)) k).fn, (nth (l1.set k (⟨(nth l1 k).fn, (nth l1 k).pc, (((nth l1 k).locals)), (nth l1 k).stack⟩ : Part)) k).pc, (nth (l1.set k (⟨(nth l1 k).fn, (nth l1 k).pc, (((nth l1 k).locals)), (nth l1 k).stack⟩ : Part)) k).locals, (((nth l1 k).stack))⟩ : Part))) ?_ ?_ ?_
    · exact ⟨rfl, rfl, rfl, rfl, tz⟩
    · exact ⟨ch112, r98, (by (try dsimp only); exact ⟨by omega, by rw [hl1]; have h_1 : m.parts.set k ⟨(nth m.parts k).fn, (nth m.parts k).pc, (nth m.parts k).locals, (nth m.parts k).stack⟩ = m.parts := set_nth_same _ _; simp only [h_1]⟩), hO⟩
    · (try dsimp only); omega
   obtain ⟨vs123, hr124, hc125⟩ := Rw.cells (t := [(b4, .cells #[.slice (some ⟨b28, o29, none⟩) (((m.parts)).length) c13] 65)] ++ ([(b6, .cells #[.slice none 0 0] 65)] ++ bs)) r19 k (by first | omega | (simp only [hl1, List.length_set] at *; omega))
   obtain ⟨b126, c127, b129, c130, rfl, s128, s131⟩ := hr124
   refine hn' rfl tz (og_y (ops := #[]) (S := fun w => Own w Mi ([(b4, .cells #[.slice (some ⟨b28, o29, none⟩) (((m.parts)).length) c13] 65)] ++ (rs1 ++ ([(b6, .cells #[.slice none 0 0] 65)] ++ bs)))) (yl tl_85 tz rfl (fun w h => hc125 w (h.front1) 3 _ rfl)) tz rfl hO ?_)
   refine kg_s (hO.front1).forget (hn' rfl tz (oc (vs := [.slice b33 (((nth l1 k).locals).length) c34]) tcall_44 rfl rfl (c_CloneSrc ((nth l1 k).locals) s35 hO) ?_))
   rintro _ w132 ⟨M133, rs135, _, le134, hO, rfl, b136, c137, rfl, r138⟩
   refine ⟨_, rfl, ?_⟩
   have r139 := r19.mono le134
   have s140 := s35.mono le134
   have s141 := s131.mono le134
   have hle142 := m_ hle23 le134
   have ch143 := m_ le22 le134
   refine kg_s ((hO.forget.front1).forget.less le134) (hn' rfl tz (oc (vs := [.slice b129 (((nth l1 k).stack).length) c130]) tcall_44 rfl rfl (c_CloneSrc ((nth l1 k).stack) s141 hO) ?_))
   rintro _ w144 ⟨M145, rs147, _, le146, hO, rfl, b148, c149, rfl, r150⟩
   refine ⟨_, rfl, ?_⟩
   have r151 := r139.mono le146
   have s152 := s140.mono le146
   have s153 := s141.mono le146
   have r154 := r138.mono le146
   have hle155 := m_ hle142 le146
   have ch156 := m_ ch143 le146
   refine kg_s ((hO.forget.forget.front1).forget.less (m_ le134 le146)) (gy rfl rfl (fun _ _ _ h => h) (y_indexN k ts_63 tz rfl rfl (by first | omega | (simp only [hl1, List.length_set] at *; omega))) (hfa tf_87_2 rfl rfl (fun _ _ _ h => h) rfl ?_))
   have hO := hO.front3
   have hO := hO.front2
   obtain ⟨M160, le161, hO, hk162, hn163, hd164⟩ := Own.keeps (rs := rs135) hO
   have r165 := r151.mono le161
   have s166 := s152.mono le161
   have s167 := s153.mono le161
   have r168 := r154.mono le161
   have r169 := r150.mono le161
   have hle170 := m_ hle155 le161
   have ch171 := m_ ch156 le161
   have hO : Own _ M160 (rs1 ++ (rs147 ++ ([(b4, .cells #[.slice (some ⟨b28, o29, none⟩) (((m.parts)).length) c13] 65)] ++ ([(b6, .cells #[.slice none 0 0] 65)] ++ bs)))) := hO
   obtain ⟨vs172, hr173, hc174⟩ := Rw.cells (t := rs147 ++ ([(b4, .cells #[.slice (some ⟨b28, o29, none⟩) (((m.parts)).length) c13] 65)] ++ ([(b6, .cells #[.slice none 0 0] 65)] ++ bs))) r165 k (by first | omega | (simp only [hl1, List.length_set] at *; omega))
   obtain ⟨b175, c176, b178, c179, rfl, s177, s180⟩ := hr173
   refine hn' rfl tz (og_storeRF (i := k) (j := 2) (x := (⟨(nth l1 k).fn, (nth l1 k).pc, (((nth l1 k).locals)), (nth l1 k).stack⟩ : Part)) (y := nth l1 k) (vs := [.int .i64 ((nth l1 k).fn), .int .i64 ((nth l1 k).pc), .slice b175 (((nth l1 k).locals).length) c176, .slice b178 (((nth l1 k).stack).length) c179]) hO r165 (nth_eq (by first | omega | (simp only [hl1, List.length_set] at *; omega))) hc174 rfl (nb rfl) tn_85 rfl ⟨b136, c137, b178, c179, (by first | rfl | (rw [hl1]; done) | simp [hl1]), (Rw.kept r168 hk162 (mr _)), s180⟩ rfl rfl (fun rs158 w157 hO r159 => ?_))
   refine kg_s (hO.forget.forget.less (m_ (m_ le134 le146) le161)) (gy rfl rfl (fun _ _ _ h => h) (y_indexN k ts_63 tz rfl rfl (by first | omega | (simp only [hl1, List.length_set] at *; omega))) (hfa tf_87_3 rfl rfl (fun _ _ _ h => h) rfl ?_))
   have hO := hO.front1
   obtain ⟨M184, le185, hO, hk186, hn187, hd188⟩ := Own.keeps (rs := rs147) hO
   have r189 := r159.mono le185
   have s190 := s166.mono le185
   have s191 := s167.mono le185
   have r192 := r168.mono le185
   have r193 := r169.mono le185
   have hk194 := hk162.mono le185
   have hk195 := hk162.mono le185
   have hle196 := m_ hle170 le185
   have ch197 := m_ ch171 le185
   have kl198 := m_ le161 le185
   have hO : Own _ M184 (rs158 ++ ([(b4, .cells #[.slice (some ⟨b28, o29, none⟩) (((m.parts)).length) c13] 65)] ++ ([(b6, .cells #[.slice none 0 0] 65)] ++ bs))) := hO
   obtain ⟨vs199, hr200, hc201⟩ := Rw.cells (t := [(b4, .cells #[.slice (some ⟨b28, o29, none⟩) (((m.parts)).length) c13] 65)] ++ ([(b6, .cells #[.slice none 0 0] 65)] ++ bs)) r189 k (by first | omega | (simp only [hl1, List.length_set] at *; omega))
   obtain ⟨b202, c203, b205, c206, rfl, s204, s207⟩ := hr200
   refine hn' rfl tz (og_storeRF (i := k) (j := 3) (x := (⟨(nth (l1.set k (⟨(nth l1 k).fn, (nth l1 k).pc, (((nth l1 k).locals)), (nth l1 k).stack⟩ : Part)) k).fn, (nth (l1.set k (⟨(nth l1 k).fn, (nth l1 k).pc, (((nth l1 k).locals)), (nth l1 k).stack⟩ : Part)) k).pc, (nth (l1.set k (⟨(nth l1 k).fn, (nth l1 k).pc, (((nth l1 k).locals)), (nth l1 k).stack⟩ : Part)) k).locals, (((nth l1 k).stack))⟩ : Part)) (y := nth (l1.set k (⟨(nth l1 k).fn, (nth l1 k).pc, (((nth l1 k).locals)), (nth l1 k).stack⟩ : Part)) k) (vs := [.int .i64 ((nth (l1.set k (⟨(nth l1 k).fn, (nth l1 k).pc, (((nth l1 k).locals)), (nth l1 k).stack⟩ : Part)) k).fn), .int .i64 ((nth (l1.set k (⟨(nth l1 k).fn, (nth l1 k).pc, (((nth l1 k).locals)), (nth l1 k).stack⟩ : Part)) k).pc), .slice b202 (((nth (l1.set k (⟨(nth l1 k).fn, (nth l1 k).pc, (((nth l1 k).locals)), (nth l1 k).stack⟩ : Part)) k).locals).length) c203, .slice b205 (((nth (l1.set k (⟨(nth l1 k).fn, (nth l1 k).pc, (((nth l1 k).locals)), (nth l1 k).stack⟩ : Part)) k).stack).length) c206]) hO r189 (nth_eq (by first | omega | (simp only [hl1, List.length_set] at *; omega))) hc201 rfl (nb rfl) tn_85 rfl ⟨b202, c203, b148, c149, (by first | rfl | (rw [hl1]; done) | simp [hl1]), s204, (Rw.kept r193 hk186 (mr _))⟩ rfl rfl (fun rs182 w181 hO r183 => ?_))
   refine kg_s (hO.forget.less (m_ (m_ (m_ le134 le146) le161) le185)) (gd (ek' (ez (E' := [(11, .int .i64 (k : Int)), (1, .pointer (some ⟨b4, 0, none⟩)), (2, .pointer (some ⟨b6, 0, none⟩)), (10, .int .i64 (((m.parts)).length : Int))]) ⟨rfl, rfl, rfl, rfl, tz⟩ (et (cr (ry hO rfl (y_add ((k + 1 : Nat) : Int) tz rfl rfl (by rw [wd] <;> omega)) (mv hO rfl rfl (rj ?_))))))))
   have hO := hO.front2
   have hO := hO.front1
   have hO := hO.front2
   refine ends_round (M184, k + 1, rs182, ((l1.set k (⟨(nth l1 k).fn, (nth l1 k).pc, (((nth l1 k).locals)), (nth l1 k).stack⟩ : Part)).set k (⟨(nth (l1.set k (⟨(nth l1 k).fn, (nth l1 k).pc, (((nth l1 k).locals)), (nth l1 k).stack⟩ : Part)) k).fn, (nth (l1.set k (⟨(nth l1 k).fn, (nth l1 k).pc, (((nth l1 k).locals)), (nth l1 k).stack⟩ : Part)) k).pc, (nth (l1.set k (⟨(nth l1 k).fn, (nth l1 k).pc, (((nth l1 k).locals)), (nth l1 k).stack⟩ : Part)) k).locals, (((nth l1 k).stack))⟩ : Part))) ?_ ?_ ?_
   · exact ⟨rfl, rfl, rfl, rfl, tz⟩
   · exact ⟨ch197, r183, (by (try dsimp only); exact ⟨by omega, by rw [hl1]; have h_1 : m.parts.set k ⟨(nth m.parts k).fn, (nth m.parts k).pc, (nth m.parts k).locals, (nth m.parts k).stack⟩ = m.parts := set_nth_same _ _; simp only [h_1]⟩), hO⟩
   · (try dsimp only); omega
  obtain ⟨vs208, hr209, hc210⟩ := Rw.cells (t := [(b4, .cells #[.slice (some ⟨b28, o29, none⟩) (((m.parts)).length) c13] 65)] ++ ([(b6, .cells #[.slice none 0 0] 65)] ++ bs)) r19 k (by first | omega | (simp only [hl1, List.length_set] at *; omega))
  obtain ⟨b211, c212, b214, c215, rfl, s213, s216⟩ := hr209
  refine hn' rfl tz (og_y (ops := #[]) (S := fun w => Own w Mi ([(b4, .cells #[.slice (some ⟨b28, o29, none⟩) (((m.parts)).length) c13] 65)] ++ (rs1 ++ ([(b6, .cells #[.slice none 0 0] 65)] ++ bs)))) (yl tl_85 tz rfl (fun w h => hc210 w (h.front1) 3 _ rfl)) tz rfl hO ?_)
  refine kg_s (hO.front1).forget ?_
  obtain ⟨vs217, hr218, hc219⟩ := Rw.cells (t := [(b4, .cells #[.slice (some ⟨b28, o29, none⟩) (((m.parts)).length) c13] 65)] ++ ([(b6, .cells #[.slice none 0 0] 65)] ++ bs)) r19 k (by first | omega | (simp only [hl1, List.length_set] at *; omega))
  obtain ⟨b220, c221, b223, c224, rfl, s222, s225⟩ := hr218
  refine hn' rfl tz (og_y (ops := #[]) (S := fun w => Own w Mi ([(b4, .cells #[.slice (some ⟨b28, o29, none⟩) (((m.parts)).length) c13] 65)] ++ (rs1 ++ ([(b6, .cells #[.slice none 0 0] 65)] ++ bs)))) (yl tl_85 tz rfl (fun w h => hc219 w (h.front1) 2 _ rfl)) tz rfl hO ?_)
  refine kg_s (hO.front1).forget (hn' rfl tz (oc (vs := [.slice b220 (((nth l1 k).locals).length) c221]) tcall_44 rfl rfl (c_CloneSrc ((nth l1 k).locals) s222 hO) ?_))
  rintro _ w226 ⟨M227, rs229, _, le228, hO, rfl, b230, c231, rfl, r232⟩
  refine ⟨_, rfl, ?_⟩
  have r233 := r19.mono le228
  have s234 := s216.mono le228
  have s235 := s222.mono le228
  have hle236 := m_ hle23 le228
  have ch237 := m_ le22 le228
  refine kg_s ((hO.forget.front1).forget.less le228) (hn' rfl tz (oc (vs := [.slice b214 (((nth l1 k).stack).length) c215]) tcall_44 rfl rfl (c_CloneSrc ((nth l1 k).stack) s234 hO) ?_))
  rintro _ w238 ⟨M239, rs241, _, le240, hO, rfl, b242, c243, rfl, r244⟩
  refine ⟨_, rfl, ?_⟩
  have r245 := r233.mono le240
  have s246 := s234.mono le240
  have s247 := s235.mono le240
  have r248 := r232.mono le240
  have hle249 := m_ hle236 le240
  have ch250 := m_ ch237 le240
  refine kg_s ((hO.forget.forget.front1).forget.less (m_ le228 le240)) (gy rfl rfl (fun _ _ _ h => h) (y_indexN k ts_63 tz rfl rfl (by first | omega | (simp only [hl1, List.length_set] at *; omega))) (hfa tf_87_2 rfl rfl (fun _ _ _ h => h) rfl ?_))
  have hO := hO.front3
  have hO := hO.front2
  obtain ⟨M254, le255, hO, hk256, hn257, hd258⟩ := Own.keeps (rs := rs229) hO
  have r259 := r245.mono le255
  have s260 := s246.mono le255
  have s261 := s247.mono le255
  have r262 := r248.mono le255
  have r263 := r244.mono le255
  have hle264 := m_ hle249 le255
  have ch265 := m_ ch250 le255
  have hO : Own _ M254 (rs1 ++ (rs241 ++ ([(b4, .cells #[.slice (some ⟨b28, o29, none⟩) (((m.parts)).length) c13] 65)] ++ ([(b6, .cells #[.slice none 0 0] 65)] ++ bs)))) := hO
  obtain ⟨vs266, hr267, hc268⟩ := Rw.cells (t := rs241 ++ ([(b4, .cells #[.slice (some ⟨b28, o29, none⟩) (((m.parts)).length) c13] 65)] ++ ([(b6, .cells #[.slice none 0 0] 65)] ++ bs))) r259 k (by first | omega | (simp only [hl1, List.length_set] at *; omega))
  obtain ⟨b269, c270, b272, c273, rfl, s271, s274⟩ := hr267
  refine hn' rfl tz (og_storeRF (i := k) (j := 2) (x := (⟨(nth l1 k).fn, (nth l1 k).pc, (((nth l1 k).locals)), (nth l1 k).stack⟩ : Part)) (y := nth l1 k) (vs := [.int .i64 ((nth l1 k).fn), .int .i64 ((nth l1 k).pc), .slice b269 (((nth l1 k).locals).length) c270, .slice b272 (((nth l1 k).stack).length) c273]) hO r259 (nth_eq (by first | omega | (simp only [hl1, List.length_set] at *; omega))) hc268 rfl (nb rfl) tn_85 rfl ⟨b230, c231, b272, c273, (by first | rfl | (rw [hl1]; done) | simp [hl1]), (Rw.kept r262 hk256 (mr _)), s274⟩ rfl rfl (fun rs252 w251 hO r253 => ?_))
  refine kg_s (hO.forget.forget.less (m_ (m_ le228 le240) le255)) (gy rfl rfl (fun _ _ _ h => h) (y_indexN k ts_63 tz rfl rfl (by first | omega | (simp only [hl1, List.length_set] at *; omega))) (hfa tf_87_3 rfl rfl (fun _ _ _ h => h) rfl ?_))
  have hO := hO.front1
  obtain ⟨M278, le279, hO, hk280, hn281, hd282⟩ := Own.keeps (rs := rs241) hO
  have r283 := r253.mono le279
  have s284 := s260.mono le279
  have s285 := s261.mono le279
  have r286 := r262.mono le279
  have r287 := r263.mono le279
  have hk288 := hk256.mono le279
  have hk289 := hk256.mono le279
  have hle290 := m_ hle264 le279
  have ch291 := m_ ch265 le279
  have kl292 := m_ le255 le279
  have hO : Own _ M278 (rs252 ++ ([(b4, .cells #[.slice (some ⟨b28, o29, none⟩) (((m.parts)).length) c13] 65)] ++ ([(b6, .cells #[.slice none 0 0] 65)] ++ bs))) := hO
  obtain ⟨vs293, hr294, hc295⟩ := Rw.cells (t := [(b4, .cells #[.slice (some ⟨b28, o29, none⟩) (((m.parts)).length) c13] 65)] ++ ([(b6, .cells #[.slice none 0 0] 65)] ++ bs)) r283 k (by first | omega | (simp only [hl1, List.length_set] at *; omega))
  obtain ⟨b296, c297, b299, c300, rfl, s298, s301⟩ := hr294
  refine hn' rfl tz (og_storeRF (i := k) (j := 3) (x := (⟨(nth (l1.set k (⟨(nth l1 k).fn, (nth l1 k).pc, (((nth l1 k).locals)), (nth l1 k).stack⟩ : Part)) k).fn, (nth (l1.set k (⟨(nth l1 k).fn, (nth l1 k).pc, (((nth l1 k).locals)), (nth l1 k).stack⟩ : Part)) k).pc, (nth (l1.set k (⟨(nth l1 k).fn, (nth l1 k).pc, (((nth l1 k).locals)), (nth l1 k).stack⟩ : Part)) k).locals, (((nth l1 k).stack))⟩ : Part)) (y := nth (l1.set k (⟨(nth l1 k).fn, (nth l1 k).pc, (((nth l1 k).locals)), (nth l1 k).stack⟩ : Part)) k) (vs := [.int .i64 ((nth (l1.set k (⟨(nth l1 k).fn, (nth l1 k).pc, (((nth l1 k).locals)), (nth l1 k).stack⟩ : Part)) k).fn), .int .i64 ((nth (l1.set k (⟨(nth l1 k).fn, (nth l1 k).pc, (((nth l1 k).locals)), (nth l1 k).stack⟩ : Part)) k).pc), .slice b296 (((nth (l1.set k (⟨(nth l1 k).fn, (nth l1 k).pc, (((nth l1 k).locals)), (nth l1 k).stack⟩ : Part)) k).locals).length) c297, .slice b299 (((nth (l1.set k (⟨(nth l1 k).fn, (nth l1 k).pc, (((nth l1 k).locals)), (nth l1 k).stack⟩ : Part)) k).stack).length) c300]) hO r283 (nth_eq (by first | omega | (simp only [hl1, List.length_set] at *; omega))) hc295 rfl (nb rfl) tn_85 rfl ⟨b296, c297, b242, c243, (by first | rfl | (rw [hl1]; done) | simp [hl1]), s298, (Rw.kept r287 hk280 (mr _))⟩ rfl rfl (fun rs276 w275 hO r277 => ?_))
  refine kg_s (hO.forget.less (m_ (m_ (m_ le228 le240) le255) le279)) (gd (ek' (ez (E' := [(11, .int .i64 (k : Int)), (1, .pointer (some ⟨b4, 0, none⟩)), (2, .pointer (some ⟨b6, 0, none⟩)), (10, .int .i64 (((m.parts)).length : Int))]) ⟨rfl, rfl, rfl, rfl, tz⟩ (et (cr (ry hO rfl (y_add ((k + 1 : Nat) : Int) tz rfl rfl (by rw [wd] <;> omega)) (mv hO rfl rfl (rj ?_))))))))
  have hO := hO.front2
  have hO := hO.front1
  have hO := hO.front2
  refine ends_round (M278, k + 1, rs276, ((l1.set k (⟨(nth l1 k).fn, (nth l1 k).pc, (((nth l1 k).locals)), (nth l1 k).stack⟩ : Part)).set k (⟨(nth (l1.set k (⟨(nth l1 k).fn, (nth l1 k).pc, (((nth l1 k).locals)), (nth l1 k).stack⟩ : Part)) k).fn, (nth (l1.set k (⟨(nth l1 k).fn, (nth l1 k).pc, (((nth l1 k).locals)), (nth l1 k).stack⟩ : Part)) k).pc, (nth (l1.set k (⟨(nth l1 k).fn, (nth l1 k).pc, (((nth l1 k).locals)), (nth l1 k).stack⟩ : Part)) k).locals, (((nth l1 k).stack))⟩ : Part))) ?_ ?_ ?_
  · exact ⟨rfl, rfl, rfl, rfl, tz⟩
  · exact ⟨ch291, r277, (by (try dsimp only); exact ⟨by omega, by rw [hl1]; have h_1 : m.parts.set k ⟨(nth m.parts k).fn, (nth m.parts k).pc, (nth m.parts k).locals, (nth m.parts k).stack⟩ = m.parts := set_nth_same _ _; simp only [h_1]⟩), hO⟩
  · (try dsimp only); omega
 have h302 : ¬ ((k : Int) < (((m.parts)).length : Int)) := oq h24
 refine cx (eh (eh (ej (et (cq (cr (ry hO rfl (yq [.slice b12 (((m.parts)).length) c13] ta_65 rfl tz rfl (fun _ h => Own.cellsB h 0 0 rfl (by intro j v e; exact rowCells (vs := [.slice b12 (((m.parts)).length) c13]) rfl e))) ?_)))))))
 have hO := hO.front2
 refine rd' tz (oo (vs := [.slice b12 (((m.parts)).length) c13]) hO tn_65 rfl rfl rfl (nb rfl) rfl rfl (fun w303 hO => ?_))
 have hO : Own _ Mi ([(b6, .cells #[.slice b12 (((m.parts)).length) c13] 65)] ++ ([(b4, .cells #[.slice b12 (((m.parts)).length) c13] 65)] ++ (rs1 ++ bs))) := hO
 refine rj (et (ct (ends_retC (vs := [.slice b12 (((m.parts)).length) c13]) hO ta_65 (.inl rfl) rfl rfl ?_)))
 have hO := hO.front2
 obtain ⟨M304, le305, hO, hk306, hn307, hd308⟩ := Own.keeps (rs := rs1) hO
 have r309 := r19.mono le305
 have hle310 := m_ hle23 le305
 have ch311 := m_ le22 le305
 refine Ret.mk hle310 (hO.forget.forget) ?_
 have hx312 : (⟨l1⟩ : Meta) = m := by simp [hl1]
 exact ⟨[.slice b12 (((m.parts)).length) c13], rfl, Eq.subst (motive := fun z => Rep.rd _ [.slice b12 (((m.parts)).length) c13] z) hx312 ⟨b12, c13, (by first | rfl | (rw [hl1]; done) | simp [hl1]), (Rw.kept r309 hk306 (mr _))⟩⟩

end Go.Proofs.YtdniefnjgkhkeaaDoor
