/-
  Contracts of Go functions, each walked operation by operation: slices.DeleteFunc(()int,int), swage/flow.next$1.
  Conditions: as each statement says.
-/
import Derived.Test.YtdniefnjgkhkeaaDoorVf
import Derived.Test.YtdniefnjgkhkeaaDoorProg
import Derived.Test.YtdniefnjgkhkeaaDoorC1
namespace Go.Proofs.YtdniefnjgkhkeaaDoor
open Go
set_option maxRecDepth 100000
set_option linter.unusedVariables false
set_option linter.unusedSimpArgs false
theorem tcall_81 : cl Tryd.prog 81 := ⟨_, Tryd.func81, by kernel_rfl, by kernel_rfl⟩
theorem tl_99 : lone1 Tryd.prog 99 = true := by kernel_rfl
theorem tn_3 : (Tryd.prog.info? 3).map (·.size) = some 1 := by kernel_rfl
theorem tv_36 : slInfo Tryd.prog 36 = some (3, 1, 8, .int .i64 0) := by kernel_rfl
theorem c_DeleteFunc {b_s : Option Addr} {c_s : Nat} {rs_s : List (Nat × Obj)} (s : List Int) {f : FuncId} {f_1 f_2 : Array Value} (p_f : Int → Bool) {w : World} {M : Mem} {bs : List (Nat × Obj)} (h_s : Rw M rs_s b_s c_s s) (k_f : cl Tryd.prog f) (h_f : ∀ (x : Int) (w' : World) (M' : Mem) (vs : List Value) (bs' : List (Nat × Obj)), Mem.le M M' → Rep.rd M' vs x → Own w' M' bs' → Calls Tryd.prog f (f_1 ++ #[.int .i64 x] ++ f_2) w' (Ret M' bs' (fun _ v => v = .bool (p_f x))))  (hO : Own w M (rs_s ++ bs)) :
    Calls Tryd.prog 75 #[.slice b_s s.length c_s, .func (.func f) f_1 f_2] w (RetR M bs fun M' rs v => ∃ b c, v = .slice b (s.filter (fun x => !p_f x)).length c ∧ Rw M' rs b c (s.filter (fun x => !p_f x))) := by
 refine ce (vs := [.slice b_s s.length c_s, .func (.func f) f_1 f_2]) (n := 42) Tryd.func75 rfl rfl rfl ?_
 have bd1 : s.length * 8 ≤ 140737488351232 := h_s.bd
 refine cq (cr (as_ hO rfl rfl (rj (et (cq (cr (mv hO rfl rfl (mv hO rfl rfl ?_))))))))
 obtain ⟨M2, le3, hO, hk4, hn5, hd6⟩ := Own.keeps (rs := rs_s) hO
 have h7 := h_s.mono le3
 have hle8 := le3
 have s9 := Rw.kept h7 hk4 (mr _)
 refine rd' tz (oc (vs := [.slice b_s s.length c_s, .func (.func f) f_1 f_2]) tcall_81 rfl rfl (c_IndexFuncInt s p_f s9 k_f (fun x w_ M_ v_ b_ le rd o => h_f x w_ M_ v_ b_ (m_ hle8 le) rd o) hO) ?_)
 rintro _ w10 ⟨M11, _, le12, hO, rfl, rfl⟩
 refine ⟨_, rfl, ?_⟩
 have h13 := h7.mono le12
 have hk14 := hk4.mono le12
 have hk15 := hk4.mono le12
 have hle16 := m_ hle8 le12
 have kl17 := m_ le3 le12
 refine as_ hO rfl rfl (rj (et (cq (cq (cr (mv hO rfl rfl (ry hO rfl (ye tz rfl rfl) (rj (et ?_)))))))))
 refine cd rfl (fun h18 => ?_) (fun h18 => ?_)
 ·
  have h19 : (idxI s p_f) = -1 := ot h18
  refine cq (cr (mv hO rfl rfl (as_ hO rfl rfl (rj (et (ct (ew' (er (.inl rfl) rfl rfl ?_))))))))
  obtain ⟨M20, le21, hO⟩ := Own.unkeeps hO hk14 hn5 hd6 kl17
  have h22 := h_s.mono le21
  have hle23 := le21
  have hx24 : s = s.filter (fun x => !p_f x) := by exact del_all (by assumption)
  exact RetR.mk (rs := rs_s) hle23 hO (hx24 ▸ ⟨_, _, rfl, h22⟩)
 have h25 : ¬ ((idxI s p_f) = -1) := oq h18
 refine cp (et (cq (cq (cr ?_))))
 obtain ⟨i0, hi0, hlt0⟩ : ∃ i : Nat, idxI s p_f = i ∧ i < s.length := idx_some (by assumption)
 refine mv hO rfl rfl (ry hO rfl (y_add ((i0 + 1 : Nat) : Int) tz rfl rfl (by rw [wd] <;> omega)) (as_ hO rfl rfl (rj (et (cb ?_)))))
 obtain ⟨M26, le27, hO⟩ := Own.unkeeps hO hk14 hn5 hd6 kl17
 have h28 := h_s.mono le27
 have hle29 := le27
 refine cg_loop (σ := Mem × Nat × Nat × (List (Nat × Obj)) × (List Int)) (fun qs => [(5, .int .i64 (qs.2.1 : Int)), (6, .int .i64 (qs.2.2.1 : Int)), (0, .slice b_s s.length c_s), (1, .func (.func f) f_1 f_2), (4, .slice none 0 0)]) (fun qs w => Mem.le M26 qs.1 ∧ Rw qs.1 qs.2.2.2.1 b_s c_s qs.2.2.2.2 ∧ (qs.2.1 < qs.2.2.1 ∧ qs.2.2.1 ≤ s.length ∧ qs.2.2.2.2.length = s.length ∧ qs.2.2.2.2.take qs.2.1 = (s.take qs.2.2.1).filter (fun x => !p_f x) ∧ qs.2.2.2.2.drop qs.2.2.1 = s.drop qs.2.2.1) ∧ Own w qs.1 (qs.2.2.2.1 ++ bs)) (fun qs => s.length - qs.2.2.1) (M26, i0, (i0 + 1), rs_s, s) ⟨(by exact congrArg (fun z => some (Value.int .i64 z)) hi0), rfl, rfl, rfl, rfl, tz⟩ ⟨mr _, h28, (by (try dsimp only); exact del_init hi0), hO⟩ ?_
 rintro ⟨Mi, i, j, rs1, l1⟩ w31 ⟨le33, r30, ⟨hij, hj, hl, ht, hd⟩, hO⟩
 try dsimp only at *
 have hle34 := m_ hle29 le33
 refine cq (cq (cr (mv hO rfl rfl (mv hO rfl rfl ?_))))
 have bd35 : l1.length * 8 ≤ 140737488351232 := r30.bd
 refine ln ts_36 hO rfl rfl (ry hO rfl (yv tz rfl rfl) (rj (et (cd rfl (fun h36 => ?_) (fun h36 => ?_)))))
 ·
  have h37 : (j : Int) < (s.length : Int) := ot h36
  refine cp (et (cq (cb (cq (cr (mv hO rfl rfl (mv hO rfl rfl ?_)))))))
  obtain ⟨b38, o39, rfl⟩ := Rw.ofs r30 (i := j) (by omega)
  have hO : Own w31 Mi (rs1 ++ bs) := by assumption
  refine ry hO rfl (y_indexN j ts_36 tz rfl rfl (by omega)) ?_
  obtain ⟨vs40, hr41, hc42⟩ := Rw.cells (t := bs) r30 j (by omega)
  obtain rfl := hr41
  refine ry hO rfl (yl tl_3 tz rfl (fun w h => hc42 w h 0 _ rfl)) (as_ hO rfl rfl (rj (ez (E' := [(5, .int .i64 (i : Int)), (6, .int .i64 (j : Int)), (0, .slice (some ⟨b38, o39, none⟩) s.length c_s), (1, .func (.func f) f_1 f_2), (4, .slice none 0 0), (7, .int .i64 (nth l1 j))]) ⟨rfl, rfl, rfl, rfl, rfl, rfl, tz⟩ (et (cq (cr (mv hO rfl rfl (mv hO rfl rfl (rd' tz (og_callv (vs := [.int .i64 (nth l1 j)]) k_f rfl rfl rfl (h_f (nth l1 j) _ _ _ _ hle34 rfl hO) ?_))))))))))
  rintro _ w43 ⟨M44, _, le45, hO, rfl, rfl⟩
  refine ⟨_, rfl, ?_⟩
  have r46 := r30.mono le45
  have hle47 := m_ hle34 le45
  have ch48 := m_ le33 le45
  refine ry hO rfl (yt tz rfl) (rj (et (cd rfl (fun h49 => ?_) (fun h49 => ?_))))
  ·
   have h50 : (p_f (nth l1 j)) = false := by simpa using h49
   refine cq (cr (mv hO rfl rfl (mv hO rfl rfl (mv hO rfl rfl (ry hO rfl (y_indexN i ts_36 tz rfl rfl (by omega)) (rd' tz (og_storeR (i := i) (x := (nth l1 j)) (vs := [.int .i64 (nth l1 j)]) hO r46 (by omega) tn_3 rfl rfl rfl rfl rfl (fun rs52 w51 hO r53 => ?_))))))))
   refine rj (ez (E' := [(5, .int .i64 (i : Int)), (6, .int .i64 (j : Int)), (0, .slice (some ⟨b38, o39, none⟩) s.length c_s), (1, .func (.func f) f_1 f_2), (4, .slice none 0 0)]) ⟨rfl, rfl, rfl, rfl, rfl, tz⟩ (et (cr (mv hO rfl rfl (ry hO rfl (y_add ((i + 1 : Nat) : Int) tz rfl rfl (by rw [wd] <;> omega)) (as_ hO rfl rfl (rj (ek' (et ?_)))))))))
   refine cr (mv hO rfl rfl (ry hO rfl (y_add ((j + 1 : Nat) : Int) tz rfl rfl (by rw [wd] <;> omega)) (as_ hO rfl rfl (rj ?_))))
   refine ends_round (M44, i + 1, j + 1, rs52, (l1.set i (nth l1 j))) ?_ ?_ ?_
   · exact ⟨rfl, rfl, rfl, rfl, rfl, tz⟩
   · exact ⟨ch48, r53, (by (try dsimp only); exact del_keep hij (by omega) hl ht hd (by simpa using ‹(p_f (nth l1 j)) = false›)), hO⟩
   · (try dsimp only); omega
  have h54 : (p_f (nth l1 j)) = true := by simpa using h49
  refine cp (ek' (et (cr (mv hO rfl rfl (ry hO rfl (y_add ((j + 1 : Nat) : Int) tz rfl rfl (by rw [wd] <;> omega)) (as_ hO rfl rfl (rj ?_)))))))
  refine ends_round (M44, i, j + 1, rs1, l1) ?_ ?_ ?_
  · exact ⟨rfl, rfl, rfl, rfl, rfl, tz⟩
  · exact ⟨ch48, r46, (by (try dsimp only); exact del_drop hij (by omega) hl ht hd ‹(p_f (nth l1 j)) = true›), hO⟩
  · (try dsimp only); omega
 have h55 : ¬ ((j : Int) < (s.length : Int)) := oq h36
 refine cx (eh (eh (ej (et (cq (cr (mv hO rfl rfl (mv hO rfl rfl (ry hO rfl (y_sliceFrom ts_36 tz rfl rfl (by omega) (by omega)) ?_)))))))))
 have r56 := r30.drop i (by omega)
 have hO : Own _ Mi (rs1 ++ bs) := hO
 refine rd' tz (og_clear (α := Int) (i := i) (x0 := 0) tv_36 rfl rfl (by decide) hO r30 rfl rfl (by simp only [Int.toNat_natCast]; omega) (fun rs57 w58 hO r59 => ?_))
 have r60 : Rw Mi rs57 b_s c_s (l1.take i ++ List.replicate (s.length - i) (0 : Int)) := by have e_ : (l1.take i ++ List.replicate (s.length - (i : Int).toNat) 0 ++ l1.drop (i + (s.length - (i : Int).toNat))) = (l1.take i ++ List.replicate (s.length - i) (0 : Int)) := (by rw [Int.toNat_natCast, show i + (s.length - i) = l1.length by omega, List.drop_length, List.append_nil]); exact e_ ▸ r59
 refine rj (et (cq (cr (mv hO rfl rfl (mv hO rfl rfl ?_)))))
 have r61 := r60.take i
 have hcap41 := r60.le
 refine ry hO rfl (y_sliceTo' ((l1.take i ++ List.replicate (s.length - i) (0 : Int)).take i).length ts_36 tz rfl rfl (by omega) (by simp only [List.length_append, List.length_take, List.length_replicate] at hcap41; omega) (by rw [List.length_take, Int.toNat_natCast]; simp only [List.length_append, List.length_take, List.length_replicate]; omega)) (as_ hO rfl rfl (rj (ez (E' := [(4, .slice b_s ((((l1.take i ++ List.replicate (s.length - i) (0 : Int)).take i)).length) c_s)]) ⟨rfl, tz⟩ (et (ct (er (.inl rfl) rfl rfl ?_))))))
 have hx62 : ((l1.take i ++ List.replicate (s.length - i) (0 : Int)).take i) = s.filter (fun x => !p_f x) := by exact del_done (by omega) (by omega) hl ht
 exact RetR.mk (rs := rs57) hle34 hO (hx62 ▸ ⟨_, _, rfl, r61⟩)

theorem c_flowNone (to : Int) {p_f : Addr} (f : Ptr FuncD) {w : World} {M : Mem} {bs : List (Nat × Obj)} (h_f : PAt M p_f f)  (hO : Own w M (bs)) :
    Calls Tryd.prog 73 #[.int .i64 to, .pointer (some p_f)] w (Ret M bs (fun M' v => v = .bool (decide ((f.val.code.length : Int) ≤ to)))) := by
 refine ce (vs := [.int .i64 to, .pointer (some p_f)]) (n := 11) Tryd.func73 rfl rfl rfl (cq (cr (as_ hO rfl rfl (rj (et (cq (cr (mv hO rfl rfl ?_))))))))
 obtain ⟨_, at3, p1, rfl, q2⟩ := id h_f
 refine ry hO rfl (yl tl_99 tz rfl (fun _ h => at3.cell0 h rfl)) (nc hO rfl rfl (fa tf_44_2 hO rfl rfl ?_))
 obtain ⟨_, at7, b4, c5, rfl, s6⟩ := id q2
 refine lc tl_42 at7 2 rfl hO rfl rfl ?_
 have bd8 : f.val.code.length * 16 ≤ 140737488351232 := s6.bd
 refine ln ts_42 hO rfl rfl (ry hO rfl (y_ge tz rfl rfl) (as_ hO rfl rfl (rj (et (ct (er (.inl rfl) rfl rfl ?_))))))
 refine Ret.mk (mr _) hO (congrArg Value.bool ?_)
 (first | rfl | (simp_all []; done) | omega | grind [])

end Go.Proofs.YtdniefnjgkhkeaaDoor
