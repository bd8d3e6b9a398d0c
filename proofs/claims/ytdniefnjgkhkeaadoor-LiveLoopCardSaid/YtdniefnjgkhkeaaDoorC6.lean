/-
  Contracts of Go functions, each walked operation by operation: slices.Repeat(()int,int).
  Conditions: as each statement says.
-/
import Derived.Test.YtdniefnjgkhkeaaDoorVf
import Derived.Test.YtdniefnjgkhkeaaDoorProg
import Derived.Test.YtdniefnjgkhkeaaDoorC1
import Derived.Test.YtdniefnjgkhkeaaDoorC2
import Derived.Test.YtdniefnjgkhkeaaDoorC3
import Derived.Test.YtdniefnjgkhkeaaDoorC4
import Derived.Test.YtdniefnjgkhkeaaDoorC5
namespace Go.Proofs.YtdniefnjgkhkeaaDoor
open Go
set_option maxRecDepth 100000
set_option linter.unusedVariables false
set_option linter.unusedSimpArgs false
theorem tcall_76 : cl Tryd.prog 76 := ⟨_, Tryd.func76, by kernel_rfl, by kernel_rfl⟩
theorem tu_138 : Tryd.prog.underlying 138 = some (.int .u64) := by kernel_rfl
theorem c_Repeat {b_s : Option Addr} {c_s : Nat} (s : List Int) (count : Int) {w : World} {M : Mem} {bs : List (Nat × Obj)} (h_s : RdS M b_s c_s s) (hs : s.length = 1) (h1 : 1 ≤ count) (h64 : count ≤ 64) (hO : Own w M (bs)) :
    Calls Tryd.prog 64 #[.slice b_s s.length c_s, .int .i64 count] w (RetR M bs fun M' rs v => ∃ b c, v = .slice b (List.replicate count.toNat (nth s 0)).length c ∧ Rw M' rs b c (List.replicate count.toNat (nth s 0))) := by
 refine ce (vs := [.slice b_s s.length c_s, .int .i64 count]) (n := 48) Tryd.func64 rfl rfl rfl ?_
 have bd1 : s.length * 8 ≤ 140737488351232 := h_s.bd
 refine cq (cr (as_ hO rfl rfl (rj (et (cq (cq (cr (mv hO rfl rfl (ry hO rfl (yv tz rfl rfl) ?_)))))))))
 refine rj (et (cd rfl (fun h2 => ?_) (fun h2 => ?_)))
 ·
  have h3 : count < 0 := ot h2
  exfalso; omega
 have h4 : ¬ (count < 0) := oq h2
 refine cp (et (cq (cr (mv hO rfl rfl (ln ts_36 hO rfl rfl (ry hO rfl (y_convInt 1 tu_138 tu_3 (by rw [hs]; decide) tz rfl) (mv hO rfl rfl (ry hO rfl (y_convInt count tu_138 tu_3 (by exact wrap_u64 (by omega) (by omega)) tz rfl) (rd' tz (oc (vs := [.int .u64 1, .int .u64 count]) tcall_76 rfl rfl (c_Mul 1 count  (by rfl) (by omega) (by omega) hO) ?_))))))))))
 rintro _ w5 ⟨M6, _, le7, hO, rfl, ⟨_, _, rfl, rfl, rfl⟩⟩
 refine ⟨_, rfl, ?_⟩
 have h8 := h_s.mono le7
 have hle9 := le7
 refine mv hO rfl rfl (ry hO rfl (yx [.int .u64 (0 : Int), .int .u64 count] rfl tz rfl) (ry hO rfl (yx [.int .u64 (0 : Int), .int .u64 count] rfl tz rfl) (as_ hO rfl rfl (as_ hO rfl rfl (rj (ez (E' := [(0, .slice b_s s.length c_s), (4, .slice none 0 0), (5, .int .u64 (0 : Int)), (6, .int .u64 count)]) ⟨rfl, rfl, rfl, rfl, tz⟩ (et (cq (cq ?_)))))))))
 refine cr (mv hO rfl rfl (ry hO rfl (y_gt tz rfl rfl) (mv hO rfl rfl ?_)))
 rcases bt (decide (0 < (0 : Int))) with h10 | h10
 ·
  have h11 : 0 < (0 : Int) := ot h10
  refine ry hO rfl (ek (by rw [h10]; rfl)) (ry hO rfl (ek (by rw [h10]; rfl)) (ry hO rfl (pt tz (by rw [h10]; rfl) rfl) (rj (et ?_))))
  exfalso; omega
 have h12 : ¬ (0 < (0 : Int)) := oq h10
 refine ry hO rfl (ym (by rw [h10]; rfl) rfl) (ry hO rfl (y_gt (by rw [h10]; rfl) rfl rfl) (ry hO rfl (pf tz (by rw [h10]; rfl) rfl) (rj (et (cd rfl (fun h13 => ?_) (fun h13 => ?_))))))
 ·
  have h14 : 9223372036854775807 < count := ot h13
  exfalso; omega
 have h15 : ¬ (9223372036854775807 < count) := oq h13
 refine cp (et (cq (cr (mv hO rfl rfl (ry hO rfl (y_convInt count tu_3 tu_138 (by exact wd (by omega) (by omega)) tz rfl) (rd' tz (og_make (α := Int) (x0 := 0) tv_36 rfl rfl (by decide) hO rfl rfl (by omega) (by simp only [Rep.sz]; omega) (by decide) (by omega) (fun rs16 b17 c18 w19 hO r20 => ?_))))))))
 refine as_ hO rfl rfl (rj (ez (E' := [(0, .slice b_s s.length c_s), (4, .slice none 0 0), (7, .slice b17 (((List.replicate ((count : Int).toNat) (0 : Int))).length) c18)]) ⟨rfl, rfl, rfl, tz⟩ (et (cq (cr (mv hO rfl rfl (mv hO rfl rfl ?_)))))))
 have hO : Own _ M6 (rs16 ++ bs) := hO
 obtain ⟨vs24, hv25, hx26⟩ := RdS.src (P := Tryd.prog) h8 hO
 refine rd' tz (og_copy (α := Int) (i := 0) (xs := s) tv_36 rfl hO r20 rfl rfl (slBase_zero _ _ _).symm rfl rfl (by rw [List.length_replicate, hs]; exact Nat.min_eq_left (by omega)) hx26 hv25 (by rw [List.length_replicate, hs]; omega) (fun rs21 w22 hO r23 => ?_))
 refine as_ hO rfl rfl (rj (et (cq (cb (cg_loop (σ := Nat × (List (Nat × Obj)) × (List Int)) (fun qs => [(8, .int .i64 (qs.1 : Int)), (4, .slice none 0 0), (7, .slice b17 (((List.replicate ((count : Int).toNat) (0 : Int))).length) c18)]) (fun qs w => Rw M6 qs.2.1 b17 c18 qs.2.2 ∧ (1 ≤ qs.1 ∧ qs.1 ≤ count.toNat ∧ qs.2.2.length = count.toNat ∧ qs.2.2.take qs.1 = List.replicate qs.1 (nth s 0)) ∧ Own w M6 (qs.2.1 ++ bs)) (fun qs => count.toNat - qs.1) (1, rs21, ((List.replicate ((count : Int).toNat) (0 : Int)).take 0 ++ s ++ (List.replicate ((count : Int).toNat) (0 : Int)).drop (0 + s.length))) ⟨(by exact congrArg (fun q : Nat => some (Value.int .i64 (q : Int))) hs), rfl, rfl, tz⟩ ⟨r23, (by (try dsimp only); exact ⟨by omega, by omega, by simp [hs]; omega, rep_init hs (by omega)⟩), hO⟩ ?_)))))
 rintro ⟨k, rs1, l1⟩ w28 ⟨r27, ⟨h1k, hkc, hl, ht⟩, hO⟩
 try dsimp only at *
 refine cq (cq (cr (mv hO rfl rfl (mv hO rfl rfl ?_))))
 have bd31 : l1.length * 8 ≤ 140737488351232 := r27.bd
 refine ln ts_36 hO rfl rfl (ry hO rfl (yv tz rfl rfl) (rj (et (cd rfl (fun h32 => ?_) (fun h32 => ?_)))))
 ·
  have h33 : (k : Int) < (((List.replicate ((count : Int).toNat) (0 : Int))).length : Int) := ot h32
  refine cp (et (cb ?_))
  obtain ⟨w34, hO, ew35⟩ : ∃ w', Own w' M6 (rs1 ++ bs) ∧ { w28 with drawn := w28.drawn + 1 } = w' := ⟨_, hO.drawn _, rfl⟩
  refine cw (S := fun w => Own w M6 (bs)) (.take 0 (.take 1 (.take 2 (.take 3 (.take 4 (.take 5 (.take 6 (.one 7 (.take 8 (.take 9 .done)))))))))) 10 tm (by kernel_rfl) ew35 hO.forget (hm rfl rfl (fun _ _ _ h => h) rfl (hm rfl rfl (fun _ _ _ h => h) rfl (hm rfl rfl (fun _ _ _ h => h) rfl (gy rfl rfl (fun _ _ _ h => h) (y_sliceFrom ts_36 tz rfl rfl (by omega) (by (try simp only [List.length_replicate]); omega)) ?_))))
  have r36 := r27.drop k (by (try simp only [List.length_replicate]); omega)
  refine hm rfl rfl (fun _ _ _ h => h) rfl (hm rfl rfl (fun _ _ _ h => h) rfl ?_)
  have r37 := r27.take k
  have hcap44 := r27.le
  refine gy rfl rfl (fun _ _ _ h => h) (y_sliceTo' (l1.take k).length ts_36 tz rfl rfl (by omega) (by omega) (by rw [List.length_take, Int.toNat_natCast]; omega)) ?_
  have hO : Own _ M6 (rs1 ++ bs) := hO
  obtain ⟨vs41, hv42, hx43⟩ := Rw.heldq (P := Tryd.prog) (r27.take (min k (count.toNat - k))) hO ((l1.take k)).length
  refine hn' rfl tz (og_copy (α := Int) (i := k) (xs := (l1.take (min k (count.toNat - k)))) tv_36 rfl hO r27 rfl rfl rfl rfl rfl (by show min _ _ = _; simp only [List.length_take, List.length_replicate, Int.toNat_natCast, hl]; omega) hx43 hv42 (by rw [List.length_take]; omega) (fun rs38 w39 hO r40 => ?_))
  refine kg_s hO.forget (gy rfl rfl (fun _ _ _ h => h) (y_add ((k + min k (count.toNat - k) : Nat) : Int) tz rfl rfl (by rw [wd, List.length_take, hl] <;> (try rw [List.length_take]) <;> omega)) (ha rfl rfl (fun _ _ _ h => h) rfl (gd (ek' ?_))))
  refine ends_round ((k + min k (count.toNat - k)), rs38, (l1.take k ++ (l1.take (min k (count.toNat - k))) ++ l1.drop (k + (l1.take (min k (count.toNat - k))).length))) ?_ ?_ ?_
  · exact ⟨rfl, rfl, rfl, tz⟩
  · exact ⟨r40, (by (try dsimp only); exact ⟨by omega, by omega, by simp only [List.length_append, List.length_take, List.length_drop, hl]; omega, by have := take_rep hl ht hkc h1k; rw [show (List.take (min k (count.toNat - k)) l1).length = min k (count.toNat - k) by rw [List.length_take]; omega]; exact this⟩), hO⟩
  · (try dsimp only); simp only [List.length_replicate] at *; omega
 have h44 : ¬ ((k : Int) < (((List.replicate ((count : Int).toNat) (0 : Int))).length : Int)) := oq h32
 refine cx (eh (eh (ej (et (cq (cr (mv hO rfl rfl (as_ hO rfl rfl (rj ?_)))))))))
 refine et (ct (er (.inl rfl) rfl rfl ?_))
 have hx45 : l1 = List.replicate count.toNat (nth s 0) := by simp only [List.length_replicate] at *; rw [← List.take_of_length_le (l := l1) (i := k) (by omega), ht]; congr 1; omega
 exact RetR.mk (rs := rs1) hle9 hO (hx45 ▸ ⟨_, _, congrArg (fun q => Value.slice b17 q c18) (by rw [List.length_replicate]; omega : ((List.replicate ((count : Int).toNat) (0 : Int))).length = l1.length), r27⟩)

end Go.Proofs.YtdniefnjgkhkeaaDoor
