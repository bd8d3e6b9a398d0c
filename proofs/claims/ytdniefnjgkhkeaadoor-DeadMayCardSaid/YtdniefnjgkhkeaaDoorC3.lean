/-
  Contracts of Go functions, each walked operation by operation: slices.Compact(()int,int), swage/flow.next.
  Conditions: as each statement says.
-/
import Derived.Test.YtdniefnjgkhkeaaDoorVf
import Derived.Test.YtdniefnjgkhkeaaDoorProg
import Derived.Test.YtdniefnjgkhkeaaDoorC1
import Derived.Test.YtdniefnjgkhkeaaDoorC2
namespace Go.Proofs.YtdniefnjgkhkeaaDoor
open Go
set_option maxRecDepth 100000
set_option linter.unusedVariables false
set_option linter.unusedSimpArgs false
theorem tcall_73 : cl Tryd.prog 73 := ⟨_, Tryd.func73, by kernel_rfl, by kernel_rfl⟩
theorem tcall_74 : cl Tryd.prog 74 := ⟨_, Tryd.func74, by kernel_rfl, by kernel_rfl⟩
theorem tcall_75 : cl Tryd.prog 75 := ⟨_, Tryd.func75, by kernel_rfl, by kernel_rfl⟩
theorem tn_41 : (Tryd.prog.info? 41).map (·.size) = some 2 := by kernel_rfl
theorem tz_41 : zeroOf Tryd.prog 41 = some (.agg #[.int .i64 0, .int .i64 0]) := by kernel_rfl
theorem c_Compact {b_s : Option Addr} {c_s : Nat} {rs_s : List (Nat × Obj)} (s : List Int) {w : World} {M : Mem} {bs : List (Nat × Obj)} (h_s : Rw M rs_s b_s c_s s) (hs2 : s.length ≤ 2) (hO : Own w M (rs_s ++ bs)) :
    Calls Tryd.prog 74 #[.slice b_s s.length c_s] w (RetR M bs fun M' rs v => ∃ b c, v = .slice b (compactI s).length c ∧ Rw M' rs b c (compactI s)) := by
 refine ce (vs := [.slice b_s s.length c_s]) (n := 61) Tryd.func74 rfl rfl rfl ?_
 have bd1 : s.length * 8 ≤ 140737488351232 := h_s.bd
 refine cq (cr (as_ hO rfl rfl (rj (et (cq (cq (cr (mv hO rfl rfl (ln ts_36 hO rfl rfl ?_)))))))))
 refine ry hO rfl (yv tz rfl rfl) (rj (et (cd rfl (fun h2 => ?_) (fun h2 => ?_))))
 ·
  have h3 : (s.length : Int) < 2 := ot h2
  refine cq (cr (mv hO rfl rfl (as_ hO rfl rfl (rj (et (ct (ew' (er (.inl rfl) rfl rfl ?_))))))))
  have hx4 : s = compactI s := by exact compact_short (by omega)
  exact RetR.mk (rs := rs_s) (mr _) hO (hx4 ▸ ⟨_, _, rfl, h_s⟩)
 have h5 : ¬ ((s.length : Int) < 2) := oq h2
 refine cp (et (cq (cq (cr (as_ hO rfl rfl (rj (et (cb (cg_loop (σ := Mem × Nat) (fun qs => [(3, .int .i64 (qs.2 : Int)), (0, .slice b_s s.length c_s)]) (fun qs w => Mem.le M qs.1 ∧ (1 ≤ qs.2 ∧ qs.2 ≤ s.length ∧ (1 < qs.2 → nth s 0 ≠ nth s 1)) ∧ Own w qs.1 (rs_s ++ bs)) (fun qs => s.length - qs.2) (M, 1) ⟨rfl, rfl, tz⟩ ⟨mr _, (by (try dsimp only); omega), hO⟩ ?_)))))))))
 rintro ⟨Mi, i⟩ w6 ⟨le8, ⟨h1i, hil, hne⟩, hO⟩
 try dsimp only at *
 have h9 := h_s.mono le8
 have hle10 := le8
 refine cq (cq (cr (mv hO rfl rfl (mv hO rfl rfl (ln ts_36 hO rfl rfl (ry hO rfl (yv tz rfl rfl) (rj (et (cd rfl (fun h11 => ?_) (fun h11 => ?_))))))))))
 ·
  have h12 : (i : Int) < (s.length : Int) := ot h11
  refine cp (et (cq (cb (cq ?_))))
  obtain ⟨w13, hO, ew14⟩ : ∃ w', Own w' Mi (rs_s ++ bs) ∧ { w6 with drawn := w6.drawn + 1 } = w' := ⟨_, hO.drawn _, rfl⟩
  refine cw (S := fun w => Own w Mi (rs_s ++ bs)) (.take 0 (.take 1 (.take 2 (.take 3 (.take 4 (.take 5 (.take 6 (.take 7 (.take 8 (.take 9 .done)))))))))) 10 tm (by kernel_rfl) ew14 hO (hm rfl rfl (fun _ _ _ h => h) rfl (hm rfl rfl (fun _ _ _ h => h) rfl ?_))
  obtain ⟨b15, o16, rfl⟩ := Rw.ofs h9 (i := i) (by omega)
  have hO : Own w13 Mi (rs_s ++ bs) := by assumption
  refine gy rfl rfl (fun _ _ _ h => h) (y_indexN i ts_36 tz rfl rfl (by omega)) ?_
  obtain ⟨vs17, hr18, hc19⟩ := Rw.cells (t := bs) h9 i (by omega)
  obtain rfl := hr18
  refine gy rfl rfl (fun _ _ _ h => h) (yl tl_3 tz rfl (fun w h => hc19 w h 0 _ rfl)) (hm rfl rfl (fun _ _ _ h => h) rfl (hm rfl rfl (fun _ _ _ h => h) rfl (gy rfl rfl (fun _ _ _ h => h) (y_sub ((i : Int) - 1) tz rfl rfl (by rw [wd] <;> omega)) (gy rfl rfl (fun _ _ _ h => h) (yi ts_36 tz rfl rfl (by omega) (by omega)) ?_))))
  obtain ⟨vs20, hr21, hc22⟩ := Rw.cells (t := bs) h9 (((i : Int) - 1).toNat) (by omega)
  obtain rfl := hr21
  refine gy rfl rfl (fun _ _ _ h => h) (yl tl_3 tz rfl (fun w h => hc22 w h 0 _ rfl)) (gy rfl rfl (fun _ _ _ h => h) (ye tz rfl rfl) (gd (ez (E' := [(3, .int .i64 (i : Int)), (0, .slice (some ⟨b15, o16, none⟩) s.length c_s), (25, .bool (decide ((nth s i) = (nth s (((i : Int) - 1).toNat)))))]) ⟨rfl, rfl, rfl, tz⟩ (et (cd rfl (fun h23 => ?_) (fun h23 => ?_))))))
  ·
   have h24 : (nth s i) = (nth s (((i : Int) - 1).toNat)) := ot h23
   refine cq (cr (mv hO rfl rfl (mv hO rfl rfl ?_)))
   obtain ⟨b26, c27, hb28, hc29, r25⟩ : ∃ b' c', slBase (some ⟨b15, o16, none⟩) c_s (i : Int).toNat 1 = b' ∧ c_s - (i : Int).toNat = c' ∧ Rw Mi rs_s b' c' (s.drop i) := ⟨_, _, rfl, rfl, h9.drop i (by omega)⟩
   refine ry hO rfl (y_sliceFrom' b26 (s.drop i).length c27 ts_36 tz rfl rfl (by omega) (by omega) hb28 (by rw [List.length_drop]; rfl) hc29) (as_ hO rfl rfl (rj (et (cq (cq (cr (as_ hO rfl rfl (rj (et ?_)))))))))
   refine cb (cg_loop (σ := Nat) (fun qs => [(5, .int .i64 1), (3, .int .i64 (i : Int)), (0, .slice (some ⟨b15, o16, none⟩) s.length c_s), (4, .slice b26 (((s.drop i)).length) c27)]) (fun qs w => (True) ∧ Own w Mi (rs_s ++ bs)) (fun qs => qs) (0) ⟨rfl, rfl, rfl, rfl, tz⟩ ⟨(by (try dsimp only); first | done | trivial), hO⟩ ?_)
   rintro u w30 ⟨hi31, hO⟩
   try dsimp only at *
   refine cq (cq (cr (mv hO rfl rfl (mv hO rfl rfl ?_))))
   have bd33 : (s.drop i).length * 8 ≤ 140737488351232 := r25.bd
   refine ln ts_36 hO rfl rfl (ry hO rfl (yv tz rfl rfl) (rj (et (cd rfl (fun h34 => ?_) (fun h34 => ?_)))))
   ·
    have h35 : 1 < (((s.drop i)).length : Int) := ot h34
    exfalso; simp only [List.length_drop] at *; omega
   have h36 : ¬ (1 < (((s.drop i)).length : Int)) := oq h34
   refine cx (eh (eh (ej (et (cq (cr (mv hO rfl rfl (mv hO rfl rfl (ry hO rfl (y_sliceFrom ts_36 tz rfl rfl (by omega) (by omega)) ?_)))))))))
   have r37 := h9.drop i (by omega)
   have hO : Own _ Mi (rs_s ++ bs) := hO
   refine rd' tz (og_clear (α := Int) (i := i) (x0 := 0) tv_36 rfl rfl (by decide) hO h9 rfl rfl (by simp only [Int.toNat_natCast]; omega) (fun rs38 w39 hO r40 => ?_))
   have r41 : Rw Mi rs38 (some ⟨b15, o16, none⟩) c_s (s.take i ++ List.replicate (s.length - i) (0 : Int)) := by have e_ : (s.take i ++ List.replicate (s.length - (i : Int).toNat) 0 ++ s.drop (i + (s.length - (i : Int).toNat))) = (s.take i ++ List.replicate (s.length - i) (0 : Int)) := (by rw [Int.toNat_natCast, show i + (s.length - i) = s.length by omega, List.drop_length, List.append_nil]); exact e_ ▸ r40
   refine rj (et (cq (cr (mv hO rfl rfl (mv hO rfl rfl ?_)))))
   have r42 := r41.take i
   have hcap59 := r41.le
   refine ry hO rfl (y_sliceTo' ((s.take i ++ List.replicate (s.length - i) (0 : Int)).take i).length ts_36 tz rfl rfl (by omega) (by simp only [List.length_append, List.length_take, List.length_replicate] at hcap59; omega) (by rw [List.length_take, Int.toNat_natCast]; simp only [List.length_append, List.length_take, List.length_replicate]; omega)) (as_ hO rfl rfl (rj (ez (E' := [(3, .int .i64 (i : Int)), (0, .slice (some ⟨b15, o16, none⟩) s.length c_s), (2, .slice (some ⟨b15, o16, none⟩) ((((s.take i ++ List.replicate (s.length - i) (0 : Int)).take i)).length) c_s)]) ⟨rfl, rfl, rfl, tz⟩ (et (ct (eg (ew' (ew' (eg ?_)))))))))
   refine ew' (er (.inl rfl) rfl rfl ?_)
   have hx43 : ((s.take i ++ List.replicate (s.length - i) (0 : Int)).take i) = compactI s := by exact compact_eq (by omega) (by omega) hs2 ‹_›
   exact RetR.mk (rs := rs38) hle10 hO (hx43 ▸ ⟨_, _, rfl, r42⟩)
  have h44 : ¬ ((nth s i) = (nth s (((i : Int) - 1).toNat))) := oq h23
  refine cp (ek' (et (cr (mv hO rfl rfl (ry hO rfl (y_add ((i + 1 : Nat) : Int) tz rfl rfl (by rw [wd] <;> omega)) (as_ hO rfl rfl (rj ?_)))))))
  refine ends_round (Mi, i + 1) ?_ ?_ ?_
  · exact ⟨rfl, rfl, tz⟩
  · exact ⟨le8, (by (try dsimp only); exact ⟨by omega, by omega, fun _ => compact_ne (by omega) (by omega) ‹_›⟩), hO⟩
  · (try dsimp only); omega
 have h45 : ¬ ((i : Int) < (s.length : Int)) := oq h11
 refine cx (eh (eh (ej (et (cq (cr (mv hO rfl rfl (as_ hO rfl rfl (rj ?_)))))))))
 refine et (ct (er (.inl rfl) rfl rfl ?_))
 have hx46 : s = compactI s := by exact compact_end (by omega) hs2 hne (by omega)
 exact RetR.mk (rs := rs_s) hle10 hO (hx46 ▸ ⟨_, _, rfl, h9⟩)

theorem c_flowNextL {p_f : Addr} (f : FuncD) (pc : Int) {w : World} {M : Mem} {bs : List (Nat × Obj)} (h_f : PAt M p_f f) (h0 : 0 ≤ pc) (h1 : pc < f.code.length) (h64 : f.code.length ≤ 64) (hO : Own w M (bs)) :
    Calls Tryd.prog 62 #[.pointer (some p_f), .int .i64 pc] w (RetR M bs fun M' rs v => ∃ b c, v = .slice b (nextL f pc).length c ∧ Rw M' rs b c (nextL f pc)) := by
 refine ce (vs := [.pointer (some p_f), .int .i64 pc]) (n := 39) Tryd.func62 rfl rfl rfl (cq (cr (rd' tz (og_box hO rfl rfl (fun b1 w2 hO => ?_)))))
 have hO : Own _ M ([(b1, .cells #[.pointer (some p_f)] 99)] ++ bs) := hO
 refine as_ hO rfl rfl (rj (et (cq (cr (ry hO rfl (yl tl_99 tz rfl (fun _ h => ob h 0 0 rfl rfl)) (nc hO rfl rfl (fa tf_44_2 hO rfl rfl ?_)))))))
 obtain ⟨_, at6, b3, c4, rfl, s5⟩ := id h_f
 refine lc tl_42 at6 2 rfl hO rfl rfl (mv hO rfl rfl ?_)
 obtain ⟨p7, rfl, _⟩ := RdS.get s5 pc.toNat (by omega)
 have hO : Own w2 M ([(b1, .cells #[.pointer (some p_f)] 99)] ++ bs) := by assumption
 have q8 : PAt M (p7.add (pc.toNat * 2)) (nth f.code pc.toNat) := RdS.at s5 pc.toNat (by omega)
 refine ry hO rfl (yi ts_42 tz rfl rfl (by omega) (by omega)) ?_
 obtain ⟨_, at9, rfl⟩ := id q8
 refine ry hO rfl (yq [.int .i64 ((nth f.code pc.toNat).kind), .int .i64 ((nth f.code pc.toNat).a)] ta_41 rfl tz rfl (fun _ h j _ e => at9.cell h j e)) (rd' tz (og_alloc hO rfl tz_41 (fun b10 w11 hO => ?_)))
 have hO : Own _ M ([(b10, .cells #[.int .i64 0, .int .i64 0] 41)] ++ ([(b1, .cells #[.pointer (some p_f)] 99)] ++ bs)) := hO
 refine rd' tz (oo (vs := [.int .i64 ((nth f.code pc.toNat).kind), .int .i64 ((nth f.code pc.toNat).a)]) hO tn_41 rfl rfl rfl (nb rfl) rfl rfl (fun w12 hO => ?_))
 have hO : Own _ M ([(b10, .cells #[.int .i64 ((nth f.code pc.toNat).kind), .int .i64 ((nth f.code pc.toNat).a)] 41)] ++ ([(b1, .cells #[.pointer (some p_f)] 99)] ++ bs)) := hO
 refine rj (et (cq (cr (as_ hO rfl rfl (rj (ez (E' := [(1, .int .i64 pc), (2, .pointer (some ⟨b1, 0, none⟩)), (4, .slice none 0 0), (5, .pointer (some ⟨b10, 0, none⟩)), (6, .slice none 0 0)]) ⟨rfl, rfl, rfl, rfl, rfl, tz⟩ (et (cq (cq ?_)))))))))
 refine cr (fb 0 tf_41_0 rfl hO rfl rfl (ry hO rfl (yl tl_3 tz rfl (fun _ h => ob h 0 0 rfl rfl)) (rj (et (cb (cq (cr (ry hO rfl (ye tz rfl rfl) (as_ hO rfl rfl ?_)))))))))
 refine rj (et (cd rfl (fun h13 => ?_) (fun h13 => ?_)))
 ·
  have h14 : (nth f.code pc.toNat).kind = 16 := ot h13
  refine cp (ek' (et (cq (cr (ry hO rfl (y_makeF [] [.pointer (some ⟨b1, 0, none⟩)] tz rfl rfl) (as_ hO rfl rfl (rj (et (cq ?_)))))))))
  refine cr (mv hO rfl rfl (mv hO rfl rfl ?_))
  have hO := hO.front1
  obtain ⟨M15, le16, hO, hk17, hn18, hd19⟩ := Own.keeps (rs := [(b1, .cells #[.pointer (some p_f)] 99)]) hO
  have h20 := h_f.mono le16
  have at21 := at6.mono le16
  have s22 := s5.mono le16
  have hle23 := le16
  have at24 := Has.at (vs := [.pointer (some p_f)]) hk17 rfl
  refine rd' tz (oc (vs := [.slice none 0 0, .func (.func 73) #[] #[.pointer (some ⟨b1, 0, none⟩)]]) tcall_75 rfl rfl (c_DeleteFunc ([]) (fun x => (decide (((⟨f⟩ : Ptr FuncD).val.code.length : Int) ≤ x))) (Rw.nil _) tcall_73 (fun x w_ M_ v_ b_ le rd o => c_flowNone x (⟨f⟩ : Ptr FuncD) (PAt.mono ⟨_, at24, ⟨p_f, rfl, h20⟩⟩ le) o) hO) ?_)
  rintro _ w25 ⟨M26, rs28, _, le27, hO, rfl, b29, c30, rfl, r31⟩
  refine ⟨_, rfl, ?_⟩
  have h32 := h20.mono le27
  have at33 := at21.mono le27
  have s34 := s22.mono le27
  have hk35 := hk17.mono le27
  have at36 := at24.mono le27
  have hle37 := m_ hle23 le27
  have kl38 := m_ le16 le27
  have hO : Own _ M26 (rs28 ++ ([(b10, .cells #[.int .i64 ((nth f.code pc.toNat).kind), .int .i64 ((nth f.code pc.toNat).a)] 41)] ++ bs)) := hO
  refine rd' tz (oc (vs := [.slice b29 (((([]).filter (fun x => !(fun x => (decide (((⟨f⟩ : Ptr FuncD).val.code.length : Int) ≤ x))) x))).length) c30]) tcall_74 rfl rfl (c_Compact (([]).filter (fun x => !(fun x => (decide (((⟨f⟩ : Ptr FuncD).val.code.length : Int) ≤ x))) x)) r31 (by exact Nat.le_trans (List.length_filter_le _ _) (by simp)) hO) ?_)
  rintro _ w39 ⟨M40, rs42, _, le41, hO, rfl, b43, c44, rfl, r45⟩
  refine ⟨_, rfl, ?_⟩
  have r46 := r31.mono le41
  have h47 := h32.mono le41
  have at48 := at33.mono le41
  have s49 := s34.mono le41
  have hk50 := hk35.mono le41
  have at51 := at36.mono le41
  have hle52 := m_ hle37 le41
  have kl53 := m_ kl38 le41
  refine as_ hO rfl rfl (rj (ez (E' := [(4, .slice b43 (((compactI (([]).filter (fun x => !(fun x => (decide (((⟨f⟩ : Ptr FuncD).val.code.length : Int) ≤ x))) x)))).length) c44)]) ⟨rfl, tz⟩ (et (ct (er (.inl rfl) rfl rfl ?_)))))
  have hx54 : (compactI (([]).filter (fun x => !(fun x => (decide (((⟨f⟩ : Ptr FuncD).val.code.length : Int) ≤ x))) x))) = nextL f pc := by (first | rfl | (simp_all [nextL, nextAll]; done) | omega | grind [nextL, nextAll])
  exact RetR.mk (rs := rs42) hle52 (Own.mid1 hO) (hx54 ▸ ⟨_, _, rfl, r45⟩)
 have h55 : ¬ ((nth f.code pc.toNat).kind = 16) := oq h13
 refine cq (cr (ry hO rfl (ye tz rfl rfl) (as_ hO rfl rfl (rj (et (cd rfl (fun h56 => ?_) (fun h56 => ?_)))))))
 ·
  have h57 : (nth f.code pc.toNat).kind = 12 := ot h56
  refine cr (fb 1 tf_41_1 rfl hO rfl rfl (ry hO rfl (yl tl_3 tz rfl (fun _ h => ob h 0 1 rfl rfl)) (rd' tz (og (vs := [.int .i64 ((nth f.code pc.toNat).a)]) (cs := [.int .i64 ((nth f.code pc.toNat).a)]) (e := 3) hO rfl rfl (fun _ => by kernel_rfl) (fun b58 w59 hO => ?_)))))
  have hO : Own _ M ([(b58, .cells #[.int .i64 ((nth f.code pc.toNat).a)] 3)] ++ ([(b10, .cells #[.int .i64 ((nth f.code pc.toNat).kind), .int .i64 ((nth f.code pc.toNat).a)] 41)] ++ ([(b1, .cells #[.pointer (some p_f)] 99)] ++ bs))) := hO
  refine as_ hO rfl rfl (rj (ek' (ez (E' := [(2, .pointer (some ⟨b1, 0, none⟩)), (4, .slice none 0 0), (6, .slice (some ⟨b58, 0, none⟩) 1 1)]) ⟨rfl, rfl, rfl, tz⟩ (et (cq (cr (ry hO rfl (y_makeF [] [.pointer (some ⟨b1, 0, none⟩)] tz rfl rfl) (as_ hO rfl rfl (rj ?_)))))))))
  refine et (cq (cr (mv hO rfl rfl (mv hO rfl rfl ?_))))
  have hO := hO.front2
  obtain ⟨M60, le61, hO, hk62, hn63, hd64⟩ := Own.keeps (rs := [(b1, .cells #[.pointer (some p_f)] 99)]) hO
  have h65 := h_f.mono le61
  have at66 := at6.mono le61
  have s67 := s5.mono le61
  have hle68 := le61
  have at69 := Has.at (vs := [.pointer (some p_f)]) hk62 rfl
  have r70 : Rw M60 [(b58, .cells #[.int .i64 ((nth f.code pc.toNat).a)] 3)] (some ⟨b58, 0, none⟩) 1 ([(nth f.code pc.toNat).a] : List Int) := Rw.lit (cs := [.int .i64 ((nth f.code pc.toNat).a)]) (RdL.cons (α := Int) (us := [.int .i64 ((nth f.code pc.toNat).a)]) (x := (nth f.code pc.toNat).a) rfl (RdL.nil _)) (by simp [Rep.sz])
  have hO : Own _ M60 ([(b58, .cells #[.int .i64 ((nth f.code pc.toNat).a)] 3)] ++ ([(b10, .cells #[.int .i64 ((nth f.code pc.toNat).kind), .int .i64 ((nth f.code pc.toNat).a)] 41)] ++ bs)) := hO
  refine rd' tz (oc (vs := [.slice (some ⟨b58, 0, none⟩) 1 1, .func (.func 73) #[] #[.pointer (some ⟨b1, 0, none⟩)]]) tcall_75 rfl rfl (c_DeleteFunc ([(nth f.code pc.toNat).a] : List Int) (fun x => (decide (((⟨f⟩ : Ptr FuncD).val.code.length : Int) ≤ x))) r70 tcall_73 (fun x w_ M_ v_ b_ le rd o => c_flowNone x (⟨f⟩ : Ptr FuncD) (PAt.mono ⟨_, at69, ⟨p_f, rfl, h65⟩⟩ le) o) hO) ?_)
  rintro _ w71 ⟨M72, rs74, _, le73, hO, rfl, b75, c76, rfl, r77⟩
  refine ⟨_, rfl, ?_⟩
  have h78 := h65.mono le73
  have at79 := at66.mono le73
  have s80 := s67.mono le73
  have hk81 := hk62.mono le73
  have at82 := at69.mono le73
  have hle83 := m_ hle68 le73
  have kl84 := m_ le61 le73
  have hO : Own _ M72 (rs74 ++ ([(b10, .cells #[.int .i64 ((nth f.code pc.toNat).kind), .int .i64 ((nth f.code pc.toNat).a)] 41)] ++ bs)) := hO
  refine rd' tz (oc (vs := [.slice b75 (((([(nth f.code pc.toNat).a] : List Int).filter (fun x => !(fun x => (decide (((⟨f⟩ : Ptr FuncD).val.code.length : Int) ≤ x))) x))).length) c76]) tcall_74 rfl rfl (c_Compact (([(nth f.code pc.toNat).a] : List Int).filter (fun x => !(fun x => (decide (((⟨f⟩ : Ptr FuncD).val.code.length : Int) ≤ x))) x)) r77 (by exact Nat.le_trans (List.length_filter_le _ _) (by simp)) hO) ?_)
  rintro _ w85 ⟨M86, rs88, _, le87, hO, rfl, b89, c90, rfl, r91⟩
  refine ⟨_, rfl, ?_⟩
  have r92 := r77.mono le87
  have h93 := h78.mono le87
  have at94 := at79.mono le87
  have s95 := s80.mono le87
  have hk96 := hk81.mono le87
  have at97 := at82.mono le87
  have hle98 := m_ hle83 le87
  have kl99 := m_ kl84 le87
  refine as_ hO rfl rfl (rj (et (ct (er (.inl rfl) rfl rfl ?_))))
  have hx100 : (compactI (([(nth f.code pc.toNat).a] : List Int).filter (fun x => !(fun x => (decide (((⟨f⟩ : Ptr FuncD).val.code.length : Int) ≤ x))) x))) = nextL f pc := by (first | rfl | (simp_all [nextL, nextAll]; done) | omega | grind [nextL, nextAll])
  exact RetR.mk (rs := rs88) hle98 (Own.mid1 hO) (hx100 ▸ ⟨_, _, rfl, r91⟩)
 have h101 : ¬ ((nth f.code pc.toNat).kind = 12) := oq h56
 refine cq (cr (ry hO rfl (ye tz rfl rfl) (as_ hO rfl rfl (rj (ez (E' := [(1, .int .i64 pc), (2, .pointer (some ⟨b1, 0, none⟩)), (4, .slice none 0 0), (5, .pointer (some ⟨b10, 0, none⟩)), (6, .slice none 0 0), (27, .bool (decide ((nth f.code pc.toNat).kind = 13)))]) ⟨rfl, rfl, rfl, rfl, rfl, rfl, tz⟩ (et (cd rfl (fun h102 => ?_) (fun h102 => ?_))))))))
 ·
  have h103 : (nth f.code pc.toNat).kind = 13 := ot h102
  refine cr (mv hO rfl rfl (ry hO rfl (y_add (pc + 1) tz rfl rfl (by rw [wd] <;> omega)) (fb 1 tf_41_1 rfl hO rfl rfl (ry hO rfl (yl tl_3 tz rfl (fun _ h => ob h 0 1 rfl rfl)) (rd' tz (og (vs := [.int .i64 (pc + 1), .int .i64 ((nth f.code pc.toNat).a)]) (cs := [.int .i64 (pc + 1), .int .i64 ((nth f.code pc.toNat).a)]) (e := 3) hO rfl rfl (fun _ => by kernel_rfl) (fun b104 w105 hO => ?_)))))))
  have hO : Own _ M ([(b104, .cells #[.int .i64 (pc + 1), .int .i64 ((nth f.code pc.toNat).a)] 3)] ++ ([(b10, .cells #[.int .i64 ((nth f.code pc.toNat).kind), .int .i64 ((nth f.code pc.toNat).a)] 41)] ++ ([(b1, .cells #[.pointer (some p_f)] 99)] ++ bs))) := hO
  refine as_ hO rfl rfl (rj (ek' (et (cq (cr (ry hO rfl (y_makeF [] [.pointer (some ⟨b1, 0, none⟩)] tz rfl rfl) (as_ hO rfl rfl (rj (ez (E' := [(4, .slice none 0 0), (6, .slice (some ⟨b104, 0, none⟩) 2 2), (7, .func (.func 73) #[] #[.pointer (some ⟨b1, 0, none⟩)])]) ⟨rfl, rfl, rfl, tz⟩ ?_)))))))))
  refine et (cq (cr (mv hO rfl rfl (mv hO rfl rfl ?_))))
  have hO := hO.front2
  obtain ⟨M106, le107, hO, hk108, hn109, hd110⟩ := Own.keeps (rs := [(b1, .cells #[.pointer (some p_f)] 99)]) hO
  have h111 := h_f.mono le107
  have at112 := at6.mono le107
  have s113 := s5.mono le107
  have hle114 := le107
  have at115 := Has.at (vs := [.pointer (some p_f)]) hk108 rfl
  have r116 : Rw M106 [(b104, .cells #[.int .i64 (pc + 1), .int .i64 ((nth f.code pc.toNat).a)] 3)] (some ⟨b104, 0, none⟩) 2 ([pc + 1, (nth f.code pc.toNat).a] : List Int) := Rw.lit (cs := [.int .i64 (pc + 1), .int .i64 ((nth f.code pc.toNat).a)]) (RdL.cons (α := Int) (us := [.int .i64 (pc + 1)]) (x := pc + 1) rfl (RdL.cons (α := Int) (us := [.int .i64 ((nth f.code pc.toNat).a)]) (x := (nth f.code pc.toNat).a) rfl (RdL.nil _))) (by simp [Rep.sz])
  have hO : Own _ M106 ([(b104, .cells #[.int .i64 (pc + 1), .int .i64 ((nth f.code pc.toNat).a)] 3)] ++ ([(b10, .cells #[.int .i64 ((nth f.code pc.toNat).kind), .int .i64 ((nth f.code pc.toNat).a)] 41)] ++ bs)) := hO
  refine rd' tz (oc (vs := [.slice (some ⟨b104, 0, none⟩) 2 2, .func (.func 73) #[] #[.pointer (some ⟨b1, 0, none⟩)]]) tcall_75 rfl rfl (c_DeleteFunc ([pc + 1, (nth f.code pc.toNat).a] : List Int) (fun x => (decide (((⟨f⟩ : Ptr FuncD).val.code.length : Int) ≤ x))) r116 tcall_73 (fun x w_ M_ v_ b_ le rd o => c_flowNone x (⟨f⟩ : Ptr FuncD) (PAt.mono ⟨_, at115, ⟨p_f, rfl, h111⟩⟩ le) o) hO) ?_)
  rintro _ w117 ⟨M118, rs120, _, le119, hO, rfl, b121, c122, rfl, r123⟩
  refine ⟨_, rfl, ?_⟩
  have h124 := h111.mono le119
  have at125 := at112.mono le119
  have s126 := s113.mono le119
  have hk127 := hk108.mono le119
  have at128 := at115.mono le119
  have hle129 := m_ hle114 le119
  have kl130 := m_ le107 le119
  have hO : Own _ M118 (rs120 ++ ([(b10, .cells #[.int .i64 ((nth f.code pc.toNat).kind), .int .i64 ((nth f.code pc.toNat).a)] 41)] ++ bs)) := hO
  refine rd' tz (oc (vs := [.slice b121 (((([pc + 1, (nth f.code pc.toNat).a] : List Int).filter (fun x => !(fun x => (decide (((⟨f⟩ : Ptr FuncD).val.code.length : Int) ≤ x))) x))).length) c122]) tcall_74 rfl rfl (c_Compact (([pc + 1, (nth f.code pc.toNat).a] : List Int).filter (fun x => !(fun x => (decide (((⟨f⟩ : Ptr FuncD).val.code.length : Int) ≤ x))) x)) r123 (by exact Nat.le_trans (List.length_filter_le _ _) (by simp)) hO) ?_)
  rintro _ w131 ⟨M132, rs134, _, le133, hO, rfl, b135, c136, rfl, r137⟩
  refine ⟨_, rfl, ?_⟩
  have r138 := r123.mono le133
  have h139 := h124.mono le133
  have at140 := at125.mono le133
  have s141 := s126.mono le133
  have hk142 := hk127.mono le133
  have at143 := at128.mono le133
  have hle144 := m_ hle129 le133
  have kl145 := m_ kl130 le133
  refine as_ hO rfl rfl (rj (et (ct (er (.inl rfl) rfl rfl ?_))))
  have hx146 : (compactI (([pc + 1, (nth f.code pc.toNat).a] : List Int).filter (fun x => !(fun x => (decide (((⟨f⟩ : Ptr FuncD).val.code.length : Int) ≤ x))) x))) = nextL f pc := by (first | rfl | (simp_all [nextL, nextAll]; done) | omega | grind [nextL, nextAll])
  exact RetR.mk (rs := rs134) hle144 (Own.mid1 hO) (hx146 ▸ ⟨_, _, rfl, r137⟩)
 have h147 : ¬ ((nth f.code pc.toNat).kind = 13) := oq h102
 refine cr (mv hO rfl rfl (ry hO rfl (y_add (pc + 1) tz rfl rfl (by rw [wd] <;> omega)) (rd' tz (og (vs := [.int .i64 (pc + 1)]) (cs := [.int .i64 (pc + 1)]) (e := 3) hO rfl rfl (fun _ => by kernel_rfl) (fun b148 w149 hO => ?_)))))
 have hO : Own _ M ([(b148, .cells #[.int .i64 (pc + 1)] 3)] ++ ([(b10, .cells #[.int .i64 ((nth f.code pc.toNat).kind), .int .i64 ((nth f.code pc.toNat).a)] 41)] ++ ([(b1, .cells #[.pointer (some p_f)] 99)] ++ bs))) := hO
 refine as_ hO rfl rfl (rj (ek' (et (cq (cr (ry hO rfl (y_makeF [] [.pointer (some ⟨b1, 0, none⟩)] tz rfl rfl) (as_ hO rfl rfl (rj (et ?_)))))))))
 refine cq (cr (mv hO rfl rfl (mv hO rfl rfl ?_)))
 have hO := hO.front2
 obtain ⟨M150, le151, hO, hk152, hn153, hd154⟩ := Own.keeps (rs := [(b1, .cells #[.pointer (some p_f)] 99)]) hO
 have h155 := h_f.mono le151
 have at156 := at6.mono le151
 have s157 := s5.mono le151
 have hle158 := le151
 have at159 := Has.at (vs := [.pointer (some p_f)]) hk152 rfl
 have r160 : Rw M150 [(b148, .cells #[.int .i64 (pc + 1)] 3)] (some ⟨b148, 0, none⟩) 1 ([pc + 1] : List Int) := Rw.lit (cs := [.int .i64 (pc + 1)]) (RdL.cons (α := Int) (us := [.int .i64 (pc + 1)]) (x := pc + 1) rfl (RdL.nil _)) (by simp [Rep.sz])
 have hO : Own _ M150 ([(b148, .cells #[.int .i64 (pc + 1)] 3)] ++ ([(b10, .cells #[.int .i64 ((nth f.code pc.toNat).kind), .int .i64 ((nth f.code pc.toNat).a)] 41)] ++ bs)) := hO
 refine rd' tz (oc (vs := [.slice (some ⟨b148, 0, none⟩) 1 1, .func (.func 73) #[] #[.pointer (some ⟨b1, 0, none⟩)]]) tcall_75 rfl rfl (c_DeleteFunc ([pc + 1] : List Int) (fun x => (decide (((⟨f⟩ : Ptr FuncD).val.code.length : Int) ≤ x))) r160 tcall_73 (fun x w_ M_ v_ b_ le rd o => c_flowNone x (⟨f⟩ : Ptr FuncD) (PAt.mono ⟨_, at159, ⟨p_f, rfl, h155⟩⟩ le) o) hO) ?_)
 rintro _ w161 ⟨M162, rs164, _, le163, hO, rfl, b165, c166, rfl, r167⟩
 refine ⟨_, rfl, ?_⟩
 have h168 := h155.mono le163
 have at169 := at156.mono le163
 have s170 := s157.mono le163
 have hk171 := hk152.mono le163
 have at172 := at159.mono le163
 have hle173 := m_ hle158 le163
 have kl174 := m_ le151 le163
 have hO : Own _ M162 (rs164 ++ ([(b10, .cells #[.int .i64 ((nth f.code pc.toNat).kind), .int .i64 ((nth f.code pc.toNat).a)] 41)] ++ bs)) := hO
 refine rd' tz (oc (vs := [.slice b165 (((([pc + 1] : List Int).filter (fun x => !(fun x => (decide (((⟨f⟩ : Ptr FuncD).val.code.length : Int) ≤ x))) x))).length) c166]) tcall_74 rfl rfl (c_Compact (([pc + 1] : List Int).filter (fun x => !(fun x => (decide (((⟨f⟩ : Ptr FuncD).val.code.length : Int) ≤ x))) x)) r167 (by exact Nat.le_trans (List.length_filter_le _ _) (by simp)) hO) ?_)
 rintro _ w175 ⟨M176, rs178, _, le177, hO, rfl, b179, c180, rfl, r181⟩
 refine ⟨_, rfl, ?_⟩
 have r182 := r167.mono le177
 have h183 := h168.mono le177
 have at184 := at169.mono le177
 have s185 := s170.mono le177
 have hk186 := hk171.mono le177
 have at187 := at172.mono le177
 have hle188 := m_ hle173 le177
 have kl189 := m_ kl174 le177
 refine as_ hO rfl rfl (rj (ez (E' := [(4, .slice b179 (((compactI (([pc + 1] : List Int).filter (fun x => !(fun x => (decide (((⟨f⟩ : Ptr FuncD).val.code.length : Int) ≤ x))) x)))).length) c180)]) ⟨rfl, tz⟩ (et (ct (er (.inl rfl) rfl rfl ?_)))))
 have hx190 : (compactI (([pc + 1] : List Int).filter (fun x => !(fun x => (decide (((⟨f⟩ : Ptr FuncD).val.code.length : Int) ≤ x))) x))) = nextL f pc := by (first | rfl | (simp_all [nextL, nextAll]; done) | omega | grind [nextL, nextAll])
 exact RetR.mk (rs := rs178) hle188 (Own.mid1 hO) (hx190 ▸ ⟨_, _, rfl, r181⟩)

end Go.Proofs.YtdniefnjgkhkeaaDoor
