/-
  Contracts of Go functions, each walked operation by operation: swage/ir.Reads.
  Conditions: as each statement says.
-/
import Derived.Test.YtdniefnjgkhkeaaDoorVf
import Derived.Test.YtdniefnjgkhkeaaDoorProg
import Derived.Test.YtdniefnjgkhkeaaDoorC1
import Derived.Test.YtdniefnjgkhkeaaDoorC2
import Derived.Test.YtdniefnjgkhkeaaDoorC3
import Derived.Test.YtdniefnjgkhkeaaDoorC4
import Derived.Test.YtdniefnjgkhkeaaDoorC5
import Derived.Test.YtdniefnjgkhkeaaDoorC6
import Derived.Test.YtdniefnjgkhkeaaDoorC7
import Derived.Test.YtdniefnjgkhkeaaDoorC8
import Derived.Test.YtdniefnjgkhkeaaDoorV2
import Derived.Test.YtdniefnjgkhkeaaDoorC9
import Derived.Test.YtdniefnjgkhkeaaDoorC10
import Derived.Test.YtdniefnjgkhkeaaDoorV3
import Derived.Test.YtdniefnjgkhkeaaDoorC11
namespace Go.Proofs.YtdniefnjgkhkeaaDoor
open Go
set_option maxRecDepth 100000
set_option linter.unusedVariables false
set_option linter.unusedSimpArgs false
theorem tf_38_2 : fOff Tryd.prog 38 2 = some 2 := by kernel_rfl
theorem tv_81 : slInfo Tryd.prog 81 = some (83, 1, 8, .pointer none) := by kernel_rfl
theorem c_Reads {p_x : Addr} (x : Ir) {w : World} {M : Mem} {bs : List (Nat × Obj)} (h_x : PAt M p_x x)  (hO : Own w M (bs)) :
    Calls Tryd.prog 34 #[.pointer (some p_x)] w (Ret M bs (fun M' v => ∃ b c, v = .slice b (rp x).length c ∧ RdS M' b c (rp x))) := by
 refine ce (vs := [.pointer (some p_x)]) (n := 50) Tryd.func34 rfl rfl rfl (cq (cr (as_ hO rfl rfl (rj (et (cq (cr (as_ hO rfl rfl (rj ?_)))))))))
 refine et (cq (cq (cr (mv hO rfl rfl (nc hO rfl rfl (fa tf_38_0 hO rfl rfl ?_))))))
 obtain ⟨_, at4, b1, c2, rfl, s3⟩ := id h_x
 refine lc tl_3 at4 0 rfl hO rfl rfl (rj (et (cb (cq (cb (cq (cb (cq (cb ?_)))))))))
 refine cq (cq (cq (cr (ry hO rfl (ye tz rfl rfl) (as_ hO rfl rfl (rj (et (cd rfl (fun h5 => ?_) (fun h5 => ?_)))))))))
 ·
  have h6 : x.kind = 3 := ot h5
  refine cx (eh (eh (ej (et (cr (mv hO rfl rfl (mv hO rfl rfl (nc hO rfl rfl (fa tf_38_3 hO rfl rfl ?_)))))))))
  refine rd' tz (og (vs := [.pointer (some (p_x.add 3))]) (cs := [.pointer (some (p_x.add 3))]) (e := 83) hO rfl rfl (fun _ => by kernel_rfl) (fun b7 w8 hO => ?_))
  have hO : Own _ M ([(b7, .cells #[.pointer (some (p_x.add 3))] 83)] ++ bs) := hO
  have hO : Own _ M ([(b7, .cells #[.pointer (some (p_x.add 3))] 83)] ++ bs) := hO
  refine rd' tz (og_append1 (α := Ptr Int) (rs := []) (us := [.pointer (some (p_x.add 3))]) (x := (⟨x.b⟩ : Ptr Int)) tv_81 rfl rfl hO (Rw.nil (α := Ptr Int) M) rfl rfl rfl ⟨(p_x.add 3), rfl, ⟨[.int .i64 x.b], (at4.drop 3).take 1, rfl⟩⟩ (by first | (simp only [Rep.sz]; omega) | (simp [Rep.sz]; done) | (simp [Rep.sz]; omega)) (by decide) (by first | omega | (simp; done) | (simp; omega)) (fun rs9 b10 c11 w12 hO r13 => ?_))
  refine as_ hO rfl rfl (rj (ek' (ez (E' := [(0, .pointer (some p_x)), (2, .slice none 0 0), (3, .slice b10 ((([] ++ [(⟨x.b⟩ : Ptr Int)])).length) c11)]) ⟨rfl, rfl, rfl, tz⟩ (et (cq (cr (mv hO rfl rfl (mv hO rfl rfl (nc hO rfl rfl ?_)))))))))
  refine fa tf_38_2 hO rfl rfl (rd' tz (og (vs := [.pointer (some (p_x.add 2))]) (cs := [.pointer (some (p_x.add 2))]) (e := 83) hO rfl rfl (fun _ => by kernel_rfl) (fun b14 w15 hO => ?_)))
  have hO : Own _ M ([(b14, .cells #[.pointer (some (p_x.add 2))] 83)] ++ (rs9 ++ bs)) := hO
  have hO := hO.front1
  have hO := hO.front1
  have hO : Own _ M ([(b14, .cells #[.pointer (some (p_x.add 2))] 83)] ++ (rs9 ++ bs)) := hO
  refine rd' tz (og_append1 (α := Ptr Int) (rs := rs9) (us := [.pointer (some (p_x.add 2))]) (x := (⟨x.a⟩ : Ptr Int)) tv_81 rfl rfl hO r13 rfl rfl rfl ⟨(p_x.add 2), rfl, ⟨[.int .i64 x.a], (at4.drop 2).take 1, rfl⟩⟩ (by first | (simp only [Rep.sz]; omega) | (simp [Rep.sz]; done) | (simp [Rep.sz]; omega)) (by decide) (by first | omega | (simp; done) | (simp; omega)) (fun rs16 b17 c18 w19 hO r20 => ?_))
  refine as_ hO rfl rfl (rj (et (cx (ep (by decide) (eh (ej (et (cq (cr ?_)))))))))
  refine mv hO rfl rfl (as_ hO rfl rfl (rj (et (ct (er (.inl rfl) rfl rfl ?_)))))
  obtain ⟨M21, le22, hO, hk23, hn24, hd25⟩ := Own.keeps (rs := rs16) hO
  have h26 := h_x.mono le22
  have at27 := at4.mono le22
  have s28 := s3.mono le22
  have r29 := r20.mono le22
  have r30 := r13.mono le22
  have hle31 := le22
  refine Ret.mk hle31 hO ?_
  have hx32 : (([] ++ [(⟨x.b⟩ : Ptr Int)]) ++ [(⟨x.a⟩ : Ptr Int)]) = rp x := by first | (simp_all [rp, readsL]; done) | (rw [hl1, List.take_of_length_le (by omega)]; simp_all [rp, readsL])
  have s33 := Rw.kept r29 hk23 (mr _)
  exact hx32 ▸ ⟨_, _, rfl, s33⟩
 have h34 : ¬ (x.kind = 3) := oq h5
 refine cp (et (cq (cq (cq (cr (ry hO rfl (ye tz rfl rfl) (as_ hO rfl rfl (rj (et ?_)))))))))
 refine cd rfl (fun h35 => ?_) (fun h35 => ?_)
 ·
  have h36 : x.kind = 2 := ot h35
  refine cp (et (cv (by rw [h35]; rfl) (cx (eh (eh (ep (by decide) (eh (ej (et ?_)))))))))
  refine cq (cr (mv hO rfl rfl (mv hO rfl rfl (nc hO rfl rfl (fa tf_38_2 hO rfl rfl (rd' tz (og (vs := [.pointer (some (p_x.add 2))]) (cs := [.pointer (some (p_x.add 2))]) (e := 83) hO rfl rfl (fun _ => by kernel_rfl) (fun b37 w38 hO => ?_))))))))
  have hO : Own _ M ([(b37, .cells #[.pointer (some (p_x.add 2))] 83)] ++ bs) := hO
  have hO : Own _ M ([(b37, .cells #[.pointer (some (p_x.add 2))] 83)] ++ bs) := hO
  refine rd' tz (og_append1 (α := Ptr Int) (rs := []) (us := [.pointer (some (p_x.add 2))]) (x := (⟨x.a⟩ : Ptr Int)) tv_81 rfl rfl hO (Rw.nil (α := Ptr Int) M) rfl rfl rfl ⟨(p_x.add 2), rfl, ⟨[.int .i64 x.a], (at4.drop 2).take 1, rfl⟩⟩ (by first | (simp only [Rep.sz]; omega) | (simp [Rep.sz]; done) | (simp [Rep.sz]; omega)) (by decide) (by first | omega | (simp; done) | (simp; omega)) (fun rs39 b40 c41 w42 hO r43 => ?_))
  refine as_ hO rfl rfl (rj (ez (E' := [(0, .pointer (some p_x)), (2, .slice none 0 0), (3, .slice b40 ((([] ++ [(⟨x.a⟩ : Ptr Int)])).length) c41)]) ⟨rfl, rfl, rfl, tz⟩ (et (cx (ep (by decide) (eh (ej (et (cq ?_)))))))))
  refine cr (mv hO rfl rfl (as_ hO rfl rfl (rj (et (ct (er (.inl rfl) rfl rfl ?_))))))
  obtain ⟨M44, le45, hO, hk46, hn47, hd48⟩ := Own.keeps (rs := rs39) hO
  have h49 := h_x.mono le45
  have at50 := at4.mono le45
  have s51 := s3.mono le45
  have r52 := r43.mono le45
  have hle53 := le45
  refine Ret.mk hle53 hO ?_
  have hx54 : ([] ++ [(⟨x.a⟩ : Ptr Int)]) = rp x := by first | (simp_all [rp, readsL]; done) | (rw [hl1, List.take_of_length_le (by omega)]; simp_all [rp, readsL])
  have s55 := Rw.kept r52 hk46 (mr _)
  exact hx54 ▸ ⟨_, _, rfl, s55⟩
 have h56 : ¬ (x.kind = 2) := oq h35
 refine cq (cr (ry hO rfl (ye tz rfl rfl) (as_ hO rfl rfl (rj (et (cd rfl (fun h57 => ?_) (fun h57 => ?_)))))))
 ·
  have h58 : x.kind = 5 := ot h57
  refine cp (et (cv (by rw [h57]; rfl) (cx (eh (eh (ep (by decide) (eh (ej (et ?_)))))))))
  refine cq (cr (mv hO rfl rfl (mv hO rfl rfl (nc hO rfl rfl (fa tf_38_2 hO rfl rfl (rd' tz (og (vs := [.pointer (some (p_x.add 2))]) (cs := [.pointer (some (p_x.add 2))]) (e := 83) hO rfl rfl (fun _ => by kernel_rfl) (fun b59 w60 hO => ?_))))))))
  have hO : Own _ M ([(b59, .cells #[.pointer (some (p_x.add 2))] 83)] ++ bs) := hO
  have hO : Own _ M ([(b59, .cells #[.pointer (some (p_x.add 2))] 83)] ++ bs) := hO
  refine rd' tz (og_append1 (α := Ptr Int) (rs := []) (us := [.pointer (some (p_x.add 2))]) (x := (⟨x.a⟩ : Ptr Int)) tv_81 rfl rfl hO (Rw.nil (α := Ptr Int) M) rfl rfl rfl ⟨(p_x.add 2), rfl, ⟨[.int .i64 x.a], (at4.drop 2).take 1, rfl⟩⟩ (by first | (simp only [Rep.sz]; omega) | (simp [Rep.sz]; done) | (simp [Rep.sz]; omega)) (by decide) (by first | omega | (simp; done) | (simp; omega)) (fun rs61 b62 c63 w64 hO r65 => ?_))
  refine as_ hO rfl rfl (rj (ez (E' := [(0, .pointer (some p_x)), (2, .slice none 0 0), (3, .slice b62 ((([] ++ [(⟨x.a⟩ : Ptr Int)])).length) c63)]) ⟨rfl, rfl, rfl, tz⟩ (et (cx (ep (by decide) (eh (ej (et (cq ?_)))))))))
  refine cr (mv hO rfl rfl (as_ hO rfl rfl (rj (et (ct (er (.inl rfl) rfl rfl ?_))))))
  obtain ⟨M66, le67, hO, hk68, hn69, hd70⟩ := Own.keeps (rs := rs61) hO
  have h71 := h_x.mono le67
  have at72 := at4.mono le67
  have s73 := s3.mono le67
  have r74 := r65.mono le67
  have hle75 := le67
  refine Ret.mk hle75 hO ?_
  have hx76 : ([] ++ [(⟨x.a⟩ : Ptr Int)]) = rp x := by first | (simp_all [rp, readsL]; done) | (rw [hl1, List.take_of_length_le (by omega)]; simp_all [rp, readsL])
  have s77 := Rw.kept r74 hk68 (mr _)
  exact hx76 ▸ ⟨_, _, rfl, s77⟩
 have h78 : ¬ (x.kind = 5) := oq h57
 refine cq (cr (ry hO rfl (ye tz rfl rfl) (as_ hO rfl rfl (rj (ez (E' := [(0, .pointer (some p_x)), (2, .slice none 0 0), (3, .slice none 0 0), (8, .int .i64 x.kind), (11, .bool (decide (x.kind = 7)))]) ⟨rfl, rfl, rfl, rfl, rfl, tz⟩ (et (cd rfl (fun h79 => ?_) (fun h79 => ?_))))))))
 ·
  have h80 : x.kind = 7 := ot h79
  refine cp (et (cv (by rw [h79]; rfl) (cx (eh (eh (ep (by decide) (eh (ej (et ?_)))))))))
  refine cq (cr (mv hO rfl rfl (mv hO rfl rfl (nc hO rfl rfl (fa tf_38_2 hO rfl rfl (rd' tz (og (vs := [.pointer (some (p_x.add 2))]) (cs := [.pointer (some (p_x.add 2))]) (e := 83) hO rfl rfl (fun _ => by kernel_rfl) (fun b81 w82 hO => ?_))))))))
  have hO : Own _ M ([(b81, .cells #[.pointer (some (p_x.add 2))] 83)] ++ bs) := hO
  have hO : Own _ M ([(b81, .cells #[.pointer (some (p_x.add 2))] 83)] ++ bs) := hO
  refine rd' tz (og_append1 (α := Ptr Int) (rs := []) (us := [.pointer (some (p_x.add 2))]) (x := (⟨x.a⟩ : Ptr Int)) tv_81 rfl rfl hO (Rw.nil (α := Ptr Int) M) rfl rfl rfl ⟨(p_x.add 2), rfl, ⟨[.int .i64 x.a], (at4.drop 2).take 1, rfl⟩⟩ (by first | (simp only [Rep.sz]; omega) | (simp [Rep.sz]; done) | (simp [Rep.sz]; omega)) (by decide) (by first | omega | (simp; done) | (simp; omega)) (fun rs83 b84 c85 w86 hO r87 => ?_))
  refine as_ hO rfl rfl (rj (et (cx (ep (by decide) (eh (ej (et (cq (cr ?_)))))))))
  refine mv hO rfl rfl (as_ hO rfl rfl (rj (et (ct (er (.inl rfl) rfl rfl ?_)))))
  obtain ⟨M88, le89, hO, hk90, hn91, hd92⟩ := Own.keeps (rs := rs83) hO
  have h93 := h_x.mono le89
  have at94 := at4.mono le89
  have s95 := s3.mono le89
  have r96 := r87.mono le89
  have hle97 := le89
  refine Ret.mk hle97 hO ?_
  have hx98 : ([] ++ [(⟨x.a⟩ : Ptr Int)]) = rp x := by first | (simp_all [rp, readsL]; done) | (rw [hl1, List.take_of_length_le (by omega)]; simp_all [rp, readsL])
  have s99 := Rw.kept r96 hk90 (mr _)
  exact hx98 ▸ ⟨_, _, rfl, s99⟩
 have h100 : ¬ (x.kind = 7) := oq h79
 refine cq (cr (ry hO rfl (ye tz rfl rfl) (as_ hO rfl rfl (rj (et (cd rfl (fun h101 => ?_) (fun h101 => ?_)))))))
 ·
  have h102 : x.kind = 8 := ot h101
  refine cp (et (cv (by rw [h101]; rfl) (cx (eh (eh (ep (by decide) (eh (ej (et ?_)))))))))
  refine cq (cr (mv hO rfl rfl (mv hO rfl rfl (nc hO rfl rfl (fa tf_38_2 hO rfl rfl (rd' tz (og (vs := [.pointer (some (p_x.add 2))]) (cs := [.pointer (some (p_x.add 2))]) (e := 83) hO rfl rfl (fun _ => by kernel_rfl) (fun b103 w104 hO => ?_))))))))
  have hO : Own _ M ([(b103, .cells #[.pointer (some (p_x.add 2))] 83)] ++ bs) := hO
  have hO : Own _ M ([(b103, .cells #[.pointer (some (p_x.add 2))] 83)] ++ bs) := hO
  refine rd' tz (og_append1 (α := Ptr Int) (rs := []) (us := [.pointer (some (p_x.add 2))]) (x := (⟨x.a⟩ : Ptr Int)) tv_81 rfl rfl hO (Rw.nil (α := Ptr Int) M) rfl rfl rfl ⟨(p_x.add 2), rfl, ⟨[.int .i64 x.a], (at4.drop 2).take 1, rfl⟩⟩ (by first | (simp only [Rep.sz]; omega) | (simp [Rep.sz]; done) | (simp [Rep.sz]; omega)) (by decide) (by first | omega | (simp; done) | (simp; omega)) (fun rs105 b106 c107 w108 hO r109 => ?_))
  refine as_ hO rfl rfl (rj (et (cx (ep (by decide) (eh (ej (et (cq (cr ?_)))))))))
  refine mv hO rfl rfl (as_ hO rfl rfl (rj (ez (E' := [(2, .slice b106 ((([] ++ [(⟨x.a⟩ : Ptr Int)])).length) c107)]) ⟨rfl, tz⟩ (et (ct (er (.inl rfl) rfl rfl ?_))))))
  obtain ⟨M110, le111, hO, hk112, hn113, hd114⟩ := Own.keeps (rs := rs105) hO
  have r115 := r109.mono le111
  have hle116 := le111
  refine Ret.mk hle116 hO ?_
  have hx117 : ([] ++ [(⟨x.a⟩ : Ptr Int)]) = rp x := by first | (simp_all [rp, readsL]; done) | (rw [hl1, List.take_of_length_le (by omega)]; simp_all [rp, readsL])
  have s118 := Rw.kept r115 hk112 (mr _)
  exact hx117 ▸ ⟨_, _, rfl, s118⟩
 have h119 : ¬ (x.kind = 8) := oq h101
 refine cr (ry hO rfl (ye tz rfl rfl) (as_ hO rfl rfl (rj (et (cd rfl (fun h120 => ?_) (fun h120 => ?_))))))
 ·
  have h121 : x.kind = 9 := ot h120
  refine cx (eh (eh (ep (by decide) (eh (ej (et (cq (cr (mv hO rfl rfl ?_)))))))))
  refine mv hO rfl rfl (nc hO rfl rfl (fa tf_38_2 hO rfl rfl (rd' tz (og (vs := [.pointer (some (p_x.add 2))]) (cs := [.pointer (some (p_x.add 2))]) (e := 83) hO rfl rfl (fun _ => by kernel_rfl) (fun b122 w123 hO => ?_)))))
  have hO : Own _ M ([(b122, .cells #[.pointer (some (p_x.add 2))] 83)] ++ bs) := hO
  have hO : Own _ M ([(b122, .cells #[.pointer (some (p_x.add 2))] 83)] ++ bs) := hO
  refine rd' tz (og_append1 (α := Ptr Int) (rs := []) (us := [.pointer (some (p_x.add 2))]) (x := (⟨x.a⟩ : Ptr Int)) tv_81 rfl rfl hO (Rw.nil (α := Ptr Int) M) rfl rfl rfl ⟨(p_x.add 2), rfl, ⟨[.int .i64 x.a], (at4.drop 2).take 1, rfl⟩⟩ (by first | (simp only [Rep.sz]; omega) | (simp [Rep.sz]; done) | (simp [Rep.sz]; omega)) (by decide) (by first | omega | (simp; done) | (simp; omega)) (fun rs124 b125 c126 w127 hO r128 => ?_))
  refine as_ hO rfl rfl (rj (ez (E' := [(0, .pointer (some p_x)), (2, .slice none 0 0), (3, .slice b125 ((([] ++ [(⟨x.a⟩ : Ptr Int)])).length) c126)]) ⟨rfl, rfl, rfl, tz⟩ (et (cx (ep (by decide) (eh (ej (et (cq ?_)))))))))
  refine cr (mv hO rfl rfl (as_ hO rfl rfl (rj (et (ct (er (.inl rfl) rfl rfl ?_))))))
  obtain ⟨M129, le130, hO, hk131, hn132, hd133⟩ := Own.keeps (rs := rs124) hO
  have h134 := h_x.mono le130
  have at135 := at4.mono le130
  have s136 := s3.mono le130
  have r137 := r128.mono le130
  have hle138 := le130
  refine Ret.mk hle138 hO ?_
  have hx139 : ([] ++ [(⟨x.a⟩ : Ptr Int)]) = rp x := by first | (simp_all [rp, readsL]; done) | (rw [hl1, List.take_of_length_le (by omega)]; simp_all [rp, readsL])
  have s140 := Rw.kept r137 hk131 (mr _)
  exact hx139 ▸ ⟨_, _, rfl, s140⟩
 have h141 : ¬ (x.kind = 9) := oq h120
 refine cp (et (cq (cr (ry hO rfl (ye tz rfl rfl) (as_ hO rfl rfl (rj (et (cd rfl (fun h142 => ?_) (fun h142 => ?_)))))))))
 ·
  have h143 : x.kind = 6 := ot h142
  refine cx (eh (ep (by decide) (eh (ep (by decide) (eh (ej (et (cq (cq ?_)))))))))
  refine cr (mv hO rfl rfl (nc hO rfl rfl (fa tf_38_5 hO rfl rfl (lc tl_36 at4 5 rfl hO rfl rfl ?_))))
  have bd144 : x.args.length * 8 ≤ 140737488351232 := s3.bd
  refine ln ts_36 hO rfl rfl (mv hO rfl rfl (rj (ez (E' := [(0, .pointer (some p_x)), (2, .slice none 0 0), (3, .slice none 0 0), (35, .int .i64 (x.args.length : Int)), (36, .int .i64 0)]) ⟨rfl, rfl, rfl, rfl, rfl, tz⟩ (et (cb ?_)))))
  have hO : Own w M ([] ++ bs) := hO
  refine cg_loop (σ := Nat × (List (Nat × Obj)) × (List (Ptr Int)) × (Option Addr) × Nat) (fun qs => [(36, .int .i64 (qs.1 : Int)), (3, .slice qs.2.2.2.1 qs.2.2.1.length qs.2.2.2.2), (0, .pointer (some p_x)), (2, .slice none 0 0), (35, .int .i64 (x.args.length : Int))]) (fun qs w => Rw M qs.2.1 qs.2.2.2.1 qs.2.2.2.2 qs.2.2.1 ∧ (qs.1 ≤ x.args.length ∧ qs.2.2.1 = (x.args.take qs.1).map Ptr.mk) ∧ Own w M (qs.2.1 ++ bs)) (fun qs => x.args.length - qs.1) (0, [], ([] : List (Ptr Int)), none, 0) ⟨rfl, rfl, rfl, rfl, rfl, tz⟩ ⟨(Rw.nil _), (by (try dsimp only); exact ⟨Nat.zero_le _, rfl⟩), hO⟩ ?_
  rintro ⟨k, rs1, l1, bb1, cc1⟩ w146 ⟨r145, ⟨hk, hl1⟩, hO⟩
  try dsimp only at *
  refine cq (cr (ry hO rfl (yv tz rfl rfl) (rj (et (cq (cd rfl (fun h149 => ?_) (fun h149 => ?_)))))))
  ·
   have h150 : (k : Int) < (x.args.length : Int) := ot h149
   refine cp (et (cq (cb (cq (cr (mv hO rfl rfl (as_ hO rfl rfl (rj (et ?_)))))))))
   refine cr (mv hO rfl rfl (mv hO rfl rfl (nc hO rfl rfl (fa tf_38_5 hO rfl rfl (lc tl_36 at4 5 rfl hO rfl rfl (mv hO rfl rfl ?_))))))
   obtain ⟨p151, rfl, _⟩ := RdS.get s3 k (by omega)
   have hO : Own w146 M (rs1 ++ bs) := by assumption
   have q152 : PAt M (p151.add (k * 1)) (nth x.args k) := RdS.at s3 k (by omega)
   refine ry hO rfl (y_indexN k ts_36 tz rfl rfl (by omega)) (rd' tz (og (vs := [.pointer (some (p151.add (k * 1)))]) (cs := [.pointer (some (p151.add (k * 1)))]) (e := 83) hO rfl rfl (fun _ => by kernel_rfl) (fun b153 w154 hO => ?_)))
   have hO : Own _ M ([(b153, .cells #[.pointer (some (p151.add (k * 1)))] 83)] ++ (rs1 ++ bs)) := hO
   have hO := hO.front1
   have hO := hO.front1
   have hO : Own _ M ([(b153, .cells #[.pointer (some (p151.add (k * 1)))] 83)] ++ (rs1 ++ bs)) := hO
   refine rd' tz (og_append1 (α := Ptr Int) (rs := rs1) (us := [.pointer (some (p151.add (k * 1)))]) (x := (⟨(nth x.args k)⟩ : Ptr Int)) tv_81 rfl rfl hO r145 rfl rfl rfl ⟨(p151.add (k * 1)), rfl, q152⟩ (by simp only [Rep.sz, hl1, List.length_map, List.length_take]; omega) (by decide) (by simp only [hl1, List.length_map, List.length_take]; omega) (fun rs155 b156 c157 w158 hO r159 => ?_))
   refine as_ hO rfl rfl (rj (ek' (ez (E' := [(36, .int .i64 (k : Int)), (3, .slice b156 (((l1 ++ [(⟨(nth x.args k)⟩ : Ptr Int)])).length) c157), (0, .pointer (some p_x)), (2, .slice none 0 0), (35, .int .i64 (x.args.length : Int))]) ⟨rfl, rfl, rfl, rfl, rfl, tz⟩ (et (cr (ry hO rfl (y_add ((k + 1 : Nat) : Int) tz rfl rfl (by rw [wd] <;> omega)) (mv hO rfl rfl (rj ?_))))))))
   refine ends_round (k + 1, rs155, (l1 ++ [(⟨(nth x.args k)⟩ : Ptr Int)]), b156, c157) ?_ ?_ ?_
   · exact ⟨rfl, rfl, rfl, rfl, rfl, tz⟩
   · exact ⟨r159, (by (try dsimp only); exact ⟨by omega, by rw [hl1, nth_take (by omega), List.map_append]; rfl⟩), hO⟩
   · (try dsimp only); omega
  have h160 : ¬ ((k : Int) < (x.args.length : Int)) := oq h149
  refine cx (eh (eh (ej (et (cx (ej (et (cq (cr ?_)))))))))
  refine mv hO rfl rfl (as_ hO rfl rfl (rj (et (ct (er (.inl rfl) rfl rfl ?_)))))
  obtain ⟨M161, le162, hO, hk163, hn164, hd165⟩ := Own.keeps (rs := rs1) hO
  have r166 := r145.mono le162
  have h167 := h_x.mono le162
  have at168 := at4.mono le162
  have s169 := s3.mono le162
  have hle170 := le162
  refine Ret.mk hle170 hO ?_
  have hx171 : l1 = rp x := by first | (simp_all [rp, readsL]; done) | (rw [hl1, List.take_of_length_le (by omega)]; simp_all [rp, readsL])
  have s172 := Rw.kept r166 hk163 (mr _)
  exact hx171 ▸ ⟨_, _, rfl, s172⟩
 have h173 : ¬ (x.kind = 6) := oq h142
 refine cp (et (cx (ep (by decide) (eh (ep (by decide) (eh (ep (by decide) (eh (ej ?_)))))))))
 refine et (cq (cr (mv hO rfl rfl (as_ hO rfl rfl (rj (et (ct (er (.inl rfl) rfl rfl ?_))))))))
 refine Ret.mk (mr _) hO ?_
 have hx174 : ([] : List (Ptr Int)) = rp x := by first | (simp_all [rp, readsL]; done) | (rw [hl1, List.take_of_length_le (by omega)]; simp_all [rp, readsL])
 exact hx174 ▸ ⟨_, _, rfl, (RdS.nil _ _ _)⟩

end Go.Proofs.YtdniefnjgkhkeaaDoor
