/-
  Contracts of Go functions, each walked operation by operation: slices.Clone(()int,int), slices.Clone(()swage/api.Ir,swage/api.Ir), slices.Clone(()swage/api.Meta,swage/api.Meta), slices.Clone(()swage/api.Part,swage/api.Part), slices.Clone(()swage/api.Src,swage/api.Src).
  Conditions: as each statement says.
-/
import Derived.Test.YtdniefnjgkhkeaaDoorVf
import Derived.Test.YtdniefnjgkhkeaaDoorProg
import Derived.Test.YtdniefnjgkhkeaaDoorC1
import Derived.Test.YtdniefnjgkhkeaaDoorC2
import Derived.Test.YtdniefnjgkhkeaaDoorC3
import Derived.Test.YtdniefnjgkhkeaaDoorC4
import Derived.Test.YtdniefnjgkhkeaaDoorC5
import Derived.Test.YtdniefnjgkhkeaaDoorC6
import Derived.Test.YtdniefnjgkhkeaaDoorC7
import Derived.Test.YtdniefnjgkhkeaaDoorC8
import Derived.Test.YtdniefnjgkhkeaaDoorV2
import Derived.Test.YtdniefnjgkhkeaaDoorC9
import Derived.Test.YtdniefnjgkhkeaaDoorC10
import Derived.Test.YtdniefnjgkhkeaaDoorV3
import Derived.Test.YtdniefnjgkhkeaaDoorC11
import Derived.Test.YtdniefnjgkhkeaaDoorC12
import Derived.Test.YtdniefnjgkhkeaaDoorC13
import Derived.Test.YtdniefnjgkhkeaaDoorC14
import Derived.Test.YtdniefnjgkhkeaaDoorV4
import Derived.Test.YtdniefnjgkhkeaaDoorV5
namespace Go.Proofs.YtdniefnjgkhkeaaDoor
open Go
set_option maxRecDepth 100000
set_option linter.unusedVariables false
set_option linter.unusedSimpArgs false
theorem tv_25 : slInfo Tryd.prog 25 = some (38, 9, 88, .agg #[.int .i64 0, .int .i64 0, .int .i64 0, .int .i64 0, .int .i64 0, .slice none 0 0, .int .i64 0, .int .i64 0, .int .i64 0]) := by kernel_rfl
theorem tv_26 : slInfo Tryd.prog 26 = some (65, 1, 24, .agg #[.slice none 0 0]) := by kernel_rfl
theorem tv_63 : slInfo Tryd.prog 63 = some (87, 4, 64, .agg #[.int .i64 0, .int .i64 0, .slice none 0 0, .slice none 0 0]) := by kernel_rfl
theorem tv_85 : slInfo Tryd.prog 85 = some (95, 2, 16, .agg #[.bool false, .int .i64 0]) := by kernel_rfl
theorem c_CloneInt {b_s : Option Addr} {c_s : Nat} (s : List Int) {w : World} {M : Mem} {bs : List (Nat × Obj)} (h_s : RdS M b_s c_s s)  (hO : Own w M (bs)) :
    Calls Tryd.prog 25 #[.slice b_s s.length c_s] w (RetR M bs fun M' rs v => ∃ b c, v = .slice b s.length c ∧ Rw M' rs b c s) := by
 refine ce (vs := [.slice b_s s.length c_s]) (n := 8) Tryd.func25 rfl rfl rfl ?_
 have bd1 : s.length * 8 ≤ 140737488351232 := h_s.bd
 refine cq (cr (as_ hO rfl rfl (rj (et (cq (cq (cr (mv hO rfl rfl (ry hO rfl (y_seql ts_36 tz rfl rfl) ?_)))))))))
 refine rj (et (cd rfl (fun h2 => ?_) (fun h2 => ?_)))
 ·
  obtain rfl : b_s = none := by simpa using h2
  refine cq (cr (as_ hO rfl rfl (rj (et (ct (ew' (er (.inl rfl) rfl rfl ?_)))))))
  have hx3 : ([] : List Int) = s := by exact (RdS.none_nil ‹_›).symm
  exact RetR.mk (rs := []) (mr _) hO (hx3 ▸ ⟨_, _, rfl, (Rw.nil _)⟩)
 refine cp (et (cq (cr (rd' tz (og (vs := []) (cs := []) (e := 3) hO rfl rfl (fun _ => by kernel_rfl) (fun b4 w5 hO => ?_))))))
 have hO : Own _ M ([(b4, .cells #[] 3)] ++ bs) := hO
 refine mv hO rfl rfl ?_
 have r6 : Rw M [(b4, .cells #[] 3)] (some ⟨b4, 0, none⟩) 0 ([] : List Int) := Rw.lit (cs := []) (RdL.nil _) (by simp [Rep.sz])
 have hO : Own _ M ([(b4, .cells #[] 3)] ++ bs) := hO
 refine rd' tz (og_appendS (α := Int) (rs := [(b4, .cells #[] 3)]) tv_36 rfl rfl hO r6 h_s rfl rfl rfl (by first | (simp only [Rep.sz]; omega) | (simp [Rep.sz]; done) | (simp [Rep.sz]; omega)) (by decide) (by first | omega | (simp; done) | (simp; omega)) (fun rs7 b8 c9 w10 hO r11 => ?_))
 refine as_ hO rfl rfl (rj (et (ct (er (.inl rfl) rfl rfl ?_))))
 have hx12 : (([] : List Int) ++ s) = s := by simp
 exact RetR.mk (rs := rs7) (mr _) hO (hx12 ▸ ⟨_, _, rfl, r11⟩)

theorem c_CloneIr {b_s : Option Addr} {c_s : Nat} (s : List Ir) {w : World} {M : Mem} {bs : List (Nat × Obj)} (h_s : RdS M b_s c_s s)  (hO : Own w M (bs)) :
    Calls Tryd.prog 23 #[.slice b_s s.length c_s] w (RetR M bs fun M' rs v => ∃ b c, v = .slice b s.length c ∧ Rw M' rs b c s) := by
 refine ce (vs := [.slice b_s s.length c_s]) (n := 8) Tryd.func23 rfl rfl rfl ?_
 have bd1 : s.length * 88 ≤ 140737488351232 := h_s.bd
 refine cq (cr (as_ hO rfl rfl (rj (et (cq (cq (cr (mv hO rfl rfl (ry hO rfl (y_seql ts_25 tz rfl rfl) ?_)))))))))
 refine rj (et (cd rfl (fun h2 => ?_) (fun h2 => ?_)))
 ·
  obtain rfl : b_s = none := by simpa using h2
  refine cq (cr (as_ hO rfl rfl (rj (et (ct (ew' (er (.inl rfl) rfl rfl ?_)))))))
  have hx3 : ([] : List Ir) = s := by exact (RdS.none_nil ‹_›).symm
  exact RetR.mk (rs := []) (mr _) hO (hx3 ▸ ⟨_, _, rfl, (Rw.nil _)⟩)
 refine cp (et (cq (cr (rd' tz (og (vs := []) (cs := []) (e := 38) hO rfl rfl (fun _ => by kernel_rfl) (fun b4 w5 hO => ?_))))))
 have hO : Own _ M ([(b4, .cells #[] 38)] ++ bs) := hO
 refine mv hO rfl rfl ?_
 have r6 : Rw M [(b4, .cells #[] 38)] (some ⟨b4, 0, none⟩) 0 ([] : List Ir) := Rw.lit (cs := []) (RdL.nil _) (by simp [Rep.sz])
 have hO : Own _ M ([(b4, .cells #[] 38)] ++ bs) := hO
 refine rd' tz (og_appendS (α := Ir) (rs := [(b4, .cells #[] 38)]) tv_25 rfl rfl hO r6 h_s rfl rfl rfl (by first | (simp only [Rep.sz]; omega) | (simp [Rep.sz]; done) | (simp [Rep.sz]; omega)) (by decide) (by first | omega | (simp; done) | (simp; omega)) (fun rs7 b8 c9 w10 hO r11 => ?_))
 refine as_ hO rfl rfl (rj (et (ct (er (.inl rfl) rfl rfl ?_))))
 have hx12 : (([] : List Ir) ++ s) = s := by simp
 exact RetR.mk (rs := rs7) (mr _) hO (hx12 ▸ ⟨_, _, rfl, r11⟩)

theorem c_CloneMeta {b_s : Option Addr} {c_s : Nat} (s : List Meta) {w : World} {M : Mem} {bs : List (Nat × Obj)} (h_s : RdS M b_s c_s s)  (hO : Own w M (bs)) :
    Calls Tryd.prog 24 #[.slice b_s s.length c_s] w (RetR M bs fun M' rs v => ∃ b c, v = .slice b s.length c ∧ Rw M' rs b c s) := by
 refine ce (vs := [.slice b_s s.length c_s]) (n := 8) Tryd.func24 rfl rfl rfl ?_
 have bd1 : s.length * 24 ≤ 140737488351232 := h_s.bd
 refine cq (cr (as_ hO rfl rfl (rj (et (cq (cq (cr (mv hO rfl rfl (ry hO rfl (y_seql ts_26 tz rfl rfl) ?_)))))))))
 refine rj (et (cd rfl (fun h2 => ?_) (fun h2 => ?_)))
 ·
  obtain rfl : b_s = none := by simpa using h2
  refine cq (cr (as_ hO rfl rfl (rj (et (ct (ew' (er (.inl rfl) rfl rfl ?_)))))))
  have hx3 : ([] : List Meta) = s := by exact (RdS.none_nil ‹_›).symm
  exact RetR.mk (rs := []) (mr _) hO (hx3 ▸ ⟨_, _, rfl, (Rw.nil _)⟩)
 refine cp (et (cq (cr (rd' tz (og (vs := []) (cs := []) (e := 65) hO rfl rfl (fun _ => by kernel_rfl) (fun b4 w5 hO => ?_))))))
 have hO : Own _ M ([(b4, .cells #[] 65)] ++ bs) := hO
 refine mv hO rfl rfl ?_
 have r6 : Rw M [(b4, .cells #[] 65)] (some ⟨b4, 0, none⟩) 0 ([] : List Meta) := Rw.lit (cs := []) (RdL.nil _) (by simp [Rep.sz])
 have hO : Own _ M ([(b4, .cells #[] 65)] ++ bs) := hO
 refine rd' tz (og_appendS (α := Meta) (rs := [(b4, .cells #[] 65)]) tv_26 rfl rfl hO r6 h_s rfl rfl rfl (by first | (simp only [Rep.sz]; omega) | (simp [Rep.sz]; done) | (simp [Rep.sz]; omega)) (by decide) (by first | omega | (simp; done) | (simp; omega)) (fun rs7 b8 c9 w10 hO r11 => ?_))
 refine as_ hO rfl rfl (rj (et (ct (er (.inl rfl) rfl rfl ?_))))
 have hx12 : (([] : List Meta) ++ s) = s := by simp
 exact RetR.mk (rs := rs7) (mr _) hO (hx12 ▸ ⟨_, _, rfl, r11⟩)

theorem c_ClonePart {b_s : Option Addr} {c_s : Nat} (s : List Part) {w : World} {M : Mem} {bs : List (Nat × Obj)} (h_s : RdS M b_s c_s s)  (hO : Own w M (bs)) :
    Calls Tryd.prog 43 #[.slice b_s s.length c_s] w (RetR M bs fun M' rs v => ∃ b c, v = .slice b s.length c ∧ Rw M' rs b c s) := by
 refine ce (vs := [.slice b_s s.length c_s]) (n := 8) Tryd.func43 rfl rfl rfl ?_
 have bd1 : s.length * 64 ≤ 140737488351232 := h_s.bd
 refine cq (cr (as_ hO rfl rfl (rj (et (cq (cq (cr (mv hO rfl rfl (ry hO rfl (y_seql ts_63 tz rfl rfl) ?_)))))))))
 refine rj (et (cd rfl (fun h2 => ?_) (fun h2 => ?_)))
 ·
  obtain rfl : b_s = none := by simpa using h2
  refine cq (cr (as_ hO rfl rfl (rj (et (ct (ew' (er (.inl rfl) rfl rfl ?_)))))))
  have hx3 : ([] : List Part) = s := by exact (RdS.none_nil ‹_›).symm
  exact RetR.mk (rs := []) (mr _) hO (hx3 ▸ ⟨_, _, rfl, (Rw.nil _)⟩)
 refine cp (et (cq (cr (rd' tz (og (vs := []) (cs := []) (e := 87) hO rfl rfl (fun _ => by kernel_rfl) (fun b4 w5 hO => ?_))))))
 have hO : Own _ M ([(b4, .cells #[] 87)] ++ bs) := hO
 refine mv hO rfl rfl ?_
 have r6 : Rw M [(b4, .cells #[] 87)] (some ⟨b4, 0, none⟩) 0 ([] : List Part) := Rw.lit (cs := []) (RdL.nil _) (by simp [Rep.sz])
 have hO : Own _ M ([(b4, .cells #[] 87)] ++ bs) := hO
 refine rd' tz (og_appendS (α := Part) (rs := [(b4, .cells #[] 87)]) tv_63 rfl rfl hO r6 h_s rfl rfl rfl (by first | (simp only [Rep.sz]; omega) | (simp [Rep.sz]; done) | (simp [Rep.sz]; omega)) (by decide) (by first | omega | (simp; done) | (simp; omega)) (fun rs7 b8 c9 w10 hO r11 => ?_))
 refine as_ hO rfl rfl (rj (et (ct (er (.inl rfl) rfl rfl ?_))))
 have hx12 : (([] : List Part) ++ s) = s := by simp
 exact RetR.mk (rs := rs7) (mr _) hO (hx12 ▸ ⟨_, _, rfl, r11⟩)

theorem c_CloneSrc {b_s : Option Addr} {c_s : Nat} (s : List Src) {w : World} {M : Mem} {bs : List (Nat × Obj)} (h_s : RdS M b_s c_s s)  (hO : Own w M (bs)) :
    Calls Tryd.prog 44 #[.slice b_s s.length c_s] w (RetR M bs fun M' rs v => ∃ b c, v = .slice b s.length c ∧ Rw M' rs b c s) := by
 refine ce (vs := [.slice b_s s.length c_s]) (n := 8) Tryd.func44 rfl rfl rfl ?_
 have bd1 : s.length * 16 ≤ 140737488351232 := h_s.bd
 refine cq (cr (as_ hO rfl rfl (rj (et (cq (cq (cr (mv hO rfl rfl (ry hO rfl (y_seql ts_85 tz rfl rfl) ?_)))))))))
 refine rj (et (cd rfl (fun h2 => ?_) (fun h2 => ?_)))
 ·
  obtain rfl : b_s = none := by simpa using h2
  refine cq (cr (as_ hO rfl rfl (rj (et (ct (ew' (er (.inl rfl) rfl rfl ?_)))))))
  have hx3 : ([] : List Src) = s := by exact (RdS.none_nil ‹_›).symm
  exact RetR.mk (rs := []) (mr _) hO (hx3 ▸ ⟨_, _, rfl, (Rw.nil _)⟩)
 refine cp (et (cq (cr (rd' tz (og (vs := []) (cs := []) (e := 95) hO rfl rfl (fun _ => by kernel_rfl) (fun b4 w5 hO => ?_))))))
 have hO : Own _ M ([(b4, .cells #[] 95)] ++ bs) := hO
 refine mv hO rfl rfl ?_
 have r6 : Rw M [(b4, .cells #[] 95)] (some ⟨b4, 0, none⟩) 0 ([] : List Src) := Rw.lit (cs := []) (RdL.nil _) (by simp [Rep.sz])
 have hO : Own _ M ([(b4, .cells #[] 95)] ++ bs) := hO
 refine rd' tz (og_appendS (α := Src) (rs := [(b4, .cells #[] 95)]) tv_85 rfl rfl hO r6 h_s rfl rfl rfl (by first | (simp only [Rep.sz]; omega) | (simp [Rep.sz]; done) | (simp [Rep.sz]; omega)) (by decide) (by first | omega | (simp; done) | (simp; omega)) (fun rs7 b8 c9 w10 hO r11 => ?_))
 refine as_ hO rfl rfl (rj (et (ct (er (.inl rfl) rfl rfl ?_))))
 have hx12 : (([] : List Src) ++ s) = s := by simp
 exact RetR.mk (rs := rs7) (mr _) hO (hx12 ▸ ⟨_, _, rfl, r11⟩)

end Go.Proofs.YtdniefnjgkhkeaaDoor
