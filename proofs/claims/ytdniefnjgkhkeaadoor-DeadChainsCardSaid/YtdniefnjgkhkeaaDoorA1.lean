/-
  Contracts of Go functions, each walked operation by operation: swage/swagelaw0.Num, swage/swagelaw0.SameInts, swage/swagelaw0.SameBools, swage/swagelaw0.SameIr, swage/ir.Srcs, swage/dead.behind, swage/dead.after, swage/dead.here, slices.Equal(()bool,bool), swage/dead.live, swage/dead.Live.
  Conditions: as each statement says.
-/
import Derived.Test.YtdniefnjgkhkeaaDoorVf
import Derived.Test.YtdniefnjgkhkeaaDoorProg
import Derived.Test.YtdniefnjgkhkeaaDoorC1
import Derived.Test.YtdniefnjgkhkeaaDoorC2
import Derived.Test.YtdniefnjgkhkeaaDoorC3
import Derived.Test.YtdniefnjgkhkeaaDoorC4
import Derived.Test.YtdniefnjgkhkeaaDoorC5
import Derived.Test.YtdniefnjgkhkeaaDoorC6
import Derived.Test.YtdniefnjgkhkeaaDoorC7
import Derived.Test.YtdniefnjgkhkeaaDoorC8
import Derived.Test.YtdniefnjgkhkeaaDoorV2
import Derived.Test.YtdniefnjgkhkeaaDoorC9
import Derived.Test.YtdniefnjgkhkeaaDoorC10
import Derived.Test.YtdniefnjgkhkeaaDoorV3
import Derived.Test.YtdniefnjgkhkeaaDoorC11
import Derived.Test.YtdniefnjgkhkeaaDoorC12
import Derived.Test.YtdniefnjgkhkeaaDoorC13
import Derived.Test.YtdniefnjgkhkeaaDoorC14
import Derived.Test.YtdniefnjgkhkeaaDoorV4
import Derived.Test.YtdniefnjgkhkeaaDoorC15
import Derived.Test.YtdniefnjgkhkeaaDoorV5
import Derived.Test.YtdniefnjgkhkeaaDoorC16
import Derived.Test.YtdniefnjgkhkeaaDoorAu
namespace Go.Proofs.YtdniefnjgkhkeaaDoor
open Go
set_option maxRecDepth 100000
set_option linter.unusedVariables false
set_option linter.unusedSimpArgs false
theorem ta_28 : aggN Tryd.prog 28 = some 4 := by kernel_rfl
theorem tcall_21 : cl Tryd.prog 21 := ⟨_, Tryd.func21, by kernel_rfl, by kernel_rfl⟩
theorem tcall_22 : cl Tryd.prog 22 := ⟨_, Tryd.func22, by kernel_rfl, by kernel_rfl⟩
theorem tcall_28 : cl Tryd.prog 28 := ⟨_, Tryd.func28, by kernel_rfl, by kernel_rfl⟩
theorem tcall_41 : cl Tryd.prog 41 := ⟨_, Tryd.func41, by kernel_rfl, by kernel_rfl⟩
theorem tcall_42 : cl Tryd.prog 42 := ⟨_, Tryd.func42, by kernel_rfl, by kernel_rfl⟩
theorem tcall_45 : cl Tryd.prog 45 := ⟨_, Tryd.func45, by kernel_rfl, by kernel_rfl⟩
theorem tcall_56 : cl Tryd.prog 56 := ⟨_, Tryd.func56, by kernel_rfl, by kernel_rfl⟩
theorem tcall_9 : cl Tryd.prog 9 := ⟨_, Tryd.func9, by kernel_rfl, by kernel_rfl⟩
theorem tl_114 : lone1 Tryd.prog 114 = true := by kernel_rfl
theorem tl_50 : lone1 Tryd.prog 50 = true := by kernel_rfl
theorem tn_50 : (Tryd.prog.info? 50).map (·.size) = some 1 := by kernel_rfl
theorem ts_111 : slEl Tryd.prog 111 = some 1 := by kernel_rfl
theorem ts_134 : slEl Tryd.prog 134 = some 1 := by kernel_rfl
theorem ts_46 : slEl Tryd.prog 46 = some 1 := by kernel_rfl
theorem tu_4 : Tryd.prog.underlying 4 = some (.bool) := by kernel_rfl
theorem tv_111 : slInfo Tryd.prog 111 = some (114, 1, 8, .pointer none) := by kernel_rfl
theorem tv_46 : slInfo Tryd.prog 46 = some (50, 1, 24, .slice none 0 0) := by kernel_rfl
def s_Num (n : Nat) (e : Int) : Option Int := some e
theorem c_Num {n : Nat}  (e : Int) {r : Int} {w : World} {M : Mem} {bs : List (Nat × Obj)}  (hs : s_Num n e = some r) (hO : Own w M (bs)) :
    Calls Tryd.prog 8 #[.int .i64 e] w (fun e w' => ∃ M' : Mem, Mem.le M M' ∧ Own w' M' (bs) ∧ e = .returned (.int .i64 r)) := by
 unfold s_Num at hs
 refine ce (vs := [.int .i64 e]) (n := 4) Tryd.func8 rfl rfl rfl (cq (cr (as_ hO rfl rfl (rj (et (cq (cr (mv hO rfl rfl (as_ hO rfl rfl ?_)))))))))
 refine rj (et (ct (er (.inl rfl) rfl rfl ?_)))
 obtain rfl := o_ hs
 exact ⟨M, (mr _), hO, rfl⟩

def s_SameInts_L0 (n : Nat) (a : List Int) (b : List Int) : Nat → Int → Option Bool
  | 0, _ => none
  | fu5 + 1, x4 => cond (decide (x4 < (a.length : Int))) (cond (inb x4 a.length) (cond (inb x4 b.length) (cond (!decide ((nth a x4.toNat) = (nth b x4.toNat))) (some false) (s_SameInts_L0 n a b fu5 (wI (x4 + 1)))) none) none) (some true)
def s_SameInts (n : Nat) (a : List Int) (b : List Int) : Option Bool := cond (!decide ((a.length : Int) = (b.length : Int))) (some false) (s_SameInts_L0 n a b n 0)
theorem c_SameInts {n : Nat} {b_a : Option Addr} {c_a : Nat} {b_b : Option Addr} {c_b : Nat} (a : List Int) (b : List Int) {r : Bool} {w : World} {M : Mem} {bs : List (Nat × Obj)} (h_a : RdS M b_a c_a a) (h_b : RdS M b_b c_b b) (hs : s_SameInts n a b = some r) (hO : Own w M (bs)) :
    Calls Tryd.prog 21 #[.slice b_a a.length c_a, .slice b_b b.length c_b] w (fun e w' => ∃ M' : Mem, Mem.le M M' ∧ Own w' M' (bs) ∧ e = .returned (.bool r)) := by
 unfold s_SameInts at hs
 refine ce (vs := [.slice b_a a.length c_a, .slice b_b b.length c_b]) (n := 26) Tryd.func21 rfl rfl rfl (cq (cr (as_ hO rfl rfl (rj (et (cq (cq (cr (mv hO rfl rfl ?_)))))))))
 refine ln ts_36 hO rfl rfl (mv hO rfl rfl (ln ts_36 hO rfl rfl (ry hO rfl (y_ne tz rfl rfl) (rj (et (cd rfl (fun h1 => ?_) (fun h1 => ?_)))))))
 ·
  replace hs := cond_t h1 hs
  have h2 : (decide ((a.length : Int) = (b.length : Int))) = false := not_t h1
  refine cq (cr (as_ hO rfl rfl (rj (et (ct (ew' (er (.inl rfl) rfl rfl ?_)))))))
  obtain rfl := o_ hs
  exact ⟨M, (mr _), hO, rfl⟩
 replace hs := cond_f h1 hs
 have h3 : (decide ((a.length : Int) = (b.length : Int))) = true := not_f h1
 refine cp (et (cq (cq (cr (as_ hO rfl rfl (rj (et (cb (ci (fun m7 E' w' => ∃ x4 : Int, E' = [(0, .slice b_a a.length c_a), (1, .slice b_b b.length c_b), (4, .bool false), (5, .int .i64 x4)] ∧ s_SameInts_L0 n a b m7 x4 = some r ∧ Own w' M (bs)) (m0 := n) ⟨0, rfl, hs, hO⟩ ⟨rfl, rfl, rfl, rfl, tz⟩ ?_)))))))))
 rintro fu5 _ w6 ⟨x4, rfl, hs, hO⟩
 rcases fu5 with _ | fu5
 ·
  simp [s_SameInts_L0] at hs
 rw [s_SameInts_L0] at hs
 refine cq (cq (cr (mv hO rfl rfl (mv hO rfl rfl (ln ts_36 hO rfl rfl (ry hO rfl (yv tz rfl rfl) (rj (et (cd rfl (fun h8 => ?_) (fun h8 => ?_))))))))))
 ·
  replace hs := cond_t h8 hs
  refine cp (et (cq (cb (cq ?_))))
  obtain ⟨w9, hO, ew10⟩ : ∃ w', Own w' M (bs) ∧ { w6 with drawn := w6.drawn + 1 } = w' := ⟨_, hO.drawn _, rfl⟩
  refine cw (S := fun w => Own w M (bs)) (.take 0 (.take 1 (.take 2 (.take 3 (.take 4 (.take 5 (.take 6 (.take 7 (.take 8 .done))))))))) 9 tm (by kernel_rfl) ew10 hO (hm rfl rfl (fun _ _ _ h => h) rfl (hm rfl rfl (fun _ _ _ h => h) rfl ?_))
  obtain ⟨hg11, hs⟩ := grd hs
  obtain ⟨p12, rfl, _⟩ := RdS.get h_a x4.toNat (by exact ib hg11)
  have hO : Own w9 M (bs) := by assumption
  have q13 : PAt M (p12.add (x4.toNat * 1)) (nth a x4.toNat) := RdS.at h_a x4.toNat (by exact ib hg11)
  refine gy rfl rfl (fun _ _ _ h => h) (yi ts_36 tz rfl rfl (by exact inb_0 hg11) (by exact inb_lt hg11)) ?_
  obtain ⟨_, at14, rfl⟩ := id q13
  refine gy rfl rfl (fun _ _ _ h => h) (yl tl_3 tz rfl (fun _ h => at14.cell0 h rfl)) (hm rfl rfl (fun _ _ _ h => h) rfl (hm rfl rfl (fun _ _ _ h => h) rfl ?_))
  obtain ⟨hg15, hs⟩ := grd hs
  obtain ⟨p16, rfl, _⟩ := RdS.get h_b x4.toNat (by exact ib hg15)
  have hO : Own w9 M (bs) := by assumption
  have q17 : PAt M (p16.add (x4.toNat * 1)) (nth b x4.toNat) := RdS.at h_b x4.toNat (by exact ib hg15)
  refine gy rfl rfl (fun _ _ _ h => h) (yi ts_36 tz rfl rfl (by exact inb_0 hg15) (by exact inb_lt hg15)) ?_
  obtain ⟨_, at18, rfl⟩ := id q17
  refine gy rfl rfl (fun _ _ _ h => h) (yl tl_3 tz rfl (fun _ h => at18.cell0 h rfl)) (gy rfl rfl (fun _ _ _ h => h) (y_ne tz rfl rfl) (gd (ez (E' := [(0, .slice (some p12) a.length c_a), (1, .slice (some p16) b.length c_b), (4, .bool false), (5, .int .i64 x4), (25, .bool (!decide ((nth a x4.toNat) = (nth b x4.toNat))))]) ⟨rfl, rfl, rfl, rfl, rfl, tz⟩ (et (cd rfl (fun h19 => ?_) (fun h19 => ?_))))))
  ·
   replace hs := cond_t h19 hs
   have h20 : (decide ((nth a x4.toNat) = (nth b x4.toNat))) = false := not_t h19
   refine cq (cr (as_ hO rfl rfl (rj (et (ct (eg (ew' (ew' (eg ?_)))))))))
   refine ew' (er (.inl rfl) rfl rfl ?_)
   obtain rfl := o_ hs
   exact ⟨M, (mr _), hO, rfl⟩
  replace hs := cond_f h19 hs
  have h21 : (decide ((nth a x4.toNat) = (nth b x4.toNat))) = true := not_f h19
  exact cp (ek' (et (cr (mv hO rfl rfl (ry hO rfl (y_add (wI (x4 + 1)) tz rfl rfl rfl) (as_ hO rfl rfl (rj (eo ⟨wI (x4 + 1), rfl, hs, hO⟩ ⟨rfl, rfl, rfl, rfl, tz⟩ (Nat.lt_succ_self _)))))))))
 replace hs := cond_f h8 hs
 refine cx (eh (eh (ej (et (cq (cr (as_ hO rfl rfl (rj (et ?_)))))))))
 refine ct (er (.inl rfl) rfl rfl ?_)
 obtain rfl := o_ hs
 exact ⟨M, (mr _), hO, rfl⟩

def s_SameBools_L0 (n : Nat) (a : List Bool) (b : List Bool) : Nat → Int → Option Bool
  | 0, _ => none
  | fu5 + 1, x4 => cond (decide (x4 < (a.length : Int))) (cond (inb x4 a.length) (cond (inb x4 b.length) (cond ((nth a x4.toNat) != (nth b x4.toNat)) (some false) (s_SameBools_L0 n a b fu5 (wI (x4 + 1)))) none) none) (some true)
def s_SameBools (n : Nat) (a : List Bool) (b : List Bool) : Option Bool := cond (!decide ((a.length : Int) = (b.length : Int))) (some false) (s_SameBools_L0 n a b n 0)
theorem c_SameBools {n : Nat} {b_a : Option Addr} {c_a : Nat} {b_b : Option Addr} {c_b : Nat} (a : List Bool) (b : List Bool) {r : Bool} {w : World} {M : Mem} {bs : List (Nat × Obj)} (h_a : RdS M b_a c_a a) (h_b : RdS M b_b c_b b) (hs : s_SameBools n a b = some r) (hO : Own w M (bs)) :
    Calls Tryd.prog 13 #[.slice b_a a.length c_a, .slice b_b b.length c_b] w (fun e w' => ∃ M' : Mem, Mem.le M M' ∧ Own w' M' (bs) ∧ e = .returned (.bool r)) := by
 unfold s_SameBools at hs
 refine ce (vs := [.slice b_a a.length c_a, .slice b_b b.length c_b]) (n := 26) Tryd.func13 rfl rfl rfl (cq (cr (as_ hO rfl rfl (rj (et (cq (cq (cr (mv hO rfl rfl ?_)))))))))
 refine ln ts_50 hO rfl rfl (mv hO rfl rfl (ln ts_50 hO rfl rfl (ry hO rfl (y_ne tz rfl rfl) (rj (et (cd rfl (fun h1 => ?_) (fun h1 => ?_)))))))
 ·
  replace hs := cond_t h1 hs
  have h2 : (decide ((a.length : Int) = (b.length : Int))) = false := not_t h1
  refine cq (cr (as_ hO rfl rfl (rj (et (ct (ew' (er (.inl rfl) rfl rfl ?_)))))))
  obtain rfl := o_ hs
  exact ⟨M, (mr _), hO, rfl⟩
 replace hs := cond_f h1 hs
 have h3 : (decide ((a.length : Int) = (b.length : Int))) = true := not_f h1
 refine cp (et (cq (cq (cr (as_ hO rfl rfl (rj (et (cb (ci (fun m7 E' w' => ∃ x4 : Int, E' = [(0, .slice b_a a.length c_a), (1, .slice b_b b.length c_b), (4, .bool false), (5, .int .i64 x4)] ∧ s_SameBools_L0 n a b m7 x4 = some r ∧ Own w' M (bs)) (m0 := n) ⟨0, rfl, hs, hO⟩ ⟨rfl, rfl, rfl, rfl, tz⟩ ?_)))))))))
 rintro fu5 _ w6 ⟨x4, rfl, hs, hO⟩
 rcases fu5 with _ | fu5
 ·
  simp [s_SameBools_L0] at hs
 rw [s_SameBools_L0] at hs
 refine cq (cq (cr (mv hO rfl rfl (mv hO rfl rfl (ln ts_50 hO rfl rfl (ry hO rfl (yv tz rfl rfl) (rj (et (cd rfl (fun h8 => ?_) (fun h8 => ?_))))))))))
 ·
  replace hs := cond_t h8 hs
  refine cp (et (cq (cb (cq ?_))))
  obtain ⟨w9, hO, ew10⟩ : ∃ w', Own w' M (bs) ∧ { w6 with drawn := w6.drawn + 1 } = w' := ⟨_, hO.drawn _, rfl⟩
  refine cw (S := fun w => Own w M (bs)) (.take 0 (.take 1 (.take 2 (.take 3 (.take 4 (.take 5 (.take 6 (.take 7 (.take 8 .done))))))))) 9 tm (by kernel_rfl) ew10 hO (hm rfl rfl (fun _ _ _ h => h) rfl (hm rfl rfl (fun _ _ _ h => h) rfl ?_))
  obtain ⟨hg11, hs⟩ := grd hs
  obtain ⟨p12, rfl, _⟩ := RdS.get h_a x4.toNat (by exact ib hg11)
  have hO : Own w9 M (bs) := by assumption
  have q13 : PAt M (p12.add (x4.toNat * 1)) (nth a x4.toNat) := RdS.at h_a x4.toNat (by exact ib hg11)
  refine gy rfl rfl (fun _ _ _ h => h) (yi ts_50 tz rfl rfl (by exact inb_0 hg11) (by exact inb_lt hg11)) ?_
  obtain ⟨_, at14, rfl⟩ := id q13
  refine gy rfl rfl (fun _ _ _ h => h) (yl tl_4 tz rfl (fun _ h => at14.cell0 h rfl)) (hm rfl rfl (fun _ _ _ h => h) rfl (hm rfl rfl (fun _ _ _ h => h) rfl ?_))
  obtain ⟨hg15, hs⟩ := grd hs
  obtain ⟨p16, rfl, _⟩ := RdS.get h_b x4.toNat (by exact ib hg15)
  have hO : Own w9 M (bs) := by assumption
  have q17 : PAt M (p16.add (x4.toNat * 1)) (nth b x4.toNat) := RdS.at h_b x4.toNat (by exact ib hg15)
  refine gy rfl rfl (fun _ _ _ h => h) (yi ts_50 tz rfl rfl (by exact inb_0 hg15) (by exact inb_lt hg15)) ?_
  obtain ⟨_, at18, rfl⟩ := id q17
  refine gy rfl rfl (fun _ _ _ h => h) (yl tl_4 tz rfl (fun _ h => at18.cell0 h rfl)) (gy rfl rfl (fun _ _ _ h => h) (y_bneq tu_4 tz rfl rfl) (gd (ez (E' := [(0, .slice (some p12) a.length c_a), (1, .slice (some p16) b.length c_b), (4, .bool false), (5, .int .i64 x4), (25, .bool ((nth a x4.toNat) != (nth b x4.toNat)))]) ⟨rfl, rfl, rfl, rfl, rfl, tz⟩ (et (cd rfl (fun h19 => ?_) (fun h19 => ?_))))))
  ·
   replace hs := cond_t h19 hs
   refine cq (cr (as_ hO rfl rfl (rj (et (ct (eg (ew' (ew' (eg ?_)))))))))
   refine ew' (er (.inl rfl) rfl rfl ?_)
   obtain rfl := o_ hs
   exact ⟨M, (mr _), hO, rfl⟩
  replace hs := cond_f h19 hs
  exact cp (ek' (et (cr (mv hO rfl rfl (ry hO rfl (y_add (wI (x4 + 1)) tz rfl rfl rfl) (as_ hO rfl rfl (rj (eo ⟨wI (x4 + 1), rfl, hs, hO⟩ ⟨rfl, rfl, rfl, rfl, tz⟩ (Nat.lt_succ_self _)))))))))
 replace hs := cond_f h8 hs
 refine cx (eh (eh (ej (et (cq (cr (as_ hO rfl rfl (rj (et ?_)))))))))
 refine ct (er (.inl rfl) rfl rfl ?_)
 obtain rfl := o_ hs
 exact ⟨M, (mr _), hO, rfl⟩

def s_SameIr (n : Nat) (a : Ir) (b : Ir) : Option Bool := cond (decide (a.kind = b.kind)) (cond (decide (a.r = b.r)) (cond (decide (a.a = b.a)) (cond (decide (a.b = b.b)) (cond (decide (a.k = b.k)) (cond (decide (a.cost = b.cost)) (cond (decide (a.mt = b.mt)) (cond (decide (a.pc = b.pc)) ((s_SameInts n a.args b.args).bind fun v19 => some v19) (some false)) (some false)) (some false)) (some false)) (some false)) (some false)) (some false)) (some false)
set_option maxHeartbeats 6400000 in
theorem c_SameIr {n : Nat} {vs_a : List Value} {vs_b : List Value} (a : Ir) (b : Ir) {r : Bool} {w : World} {M : Mem} {bs : List (Nat × Obj)} (h_a : Rep.rd M vs_a a) (h_b : Rep.rd M vs_b b) (hs : s_SameIr n a b = some r) (hO : Own w M (bs)) :
    Calls Tryd.prog 11 #[.agg vs_a.toArray, .agg vs_b.toArray] w (fun e w' => ∃ M' : Mem, Mem.le M M' ∧ Own w' M' (bs) ∧ e = .returned (.bool r)) := by
 obtain ⟨b1, c2, rfl, s3⟩ := h_a
 obtain ⟨b4, c5, rfl, s6⟩ := h_b
 unfold s_SameIr at hs
 refine ce (vs := [.agg #[.int .i64 a.kind, .int .i64 a.r, .int .i64 a.a, .int .i64 a.b, .int .i64 a.k, .slice b1 a.args.length c2, .int .i64 a.cost, .int .i64 a.mt, .int .i64 a.pc], .agg #[.int .i64 b.kind, .int .i64 b.r, .int .i64 b.a, .int .i64 b.b, .int .i64 b.k, .slice b4 b.args.length c5, .int .i64 b.cost, .int .i64 b.mt, .int .i64 b.pc]]) (n := 66) Tryd.func11 rfl rfl rfl (cq (cr (rd' tz (og_box hO rfl rfl (fun b7 w8 hO => ?_)))))
 have hO : Own _ M ([(b7, .cells #[.int .i64 a.kind, .int .i64 a.r, .int .i64 a.a, .int .i64 a.b, .int .i64 a.k, .slice b1 a.args.length c2, .int .i64 a.cost, .int .i64 a.mt, .int .i64 a.pc] 38)] ++ bs) := hO
 refine rd' tz (og_box hO rfl rfl (fun b9 w10 hO => ?_))
 have hO : Own _ M ([(b9, .cells #[.int .i64 b.kind, .int .i64 b.r, .int .i64 b.a, .int .i64 b.b, .int .i64 b.k, .slice b4 b.args.length c5, .int .i64 b.cost, .int .i64 b.mt, .int .i64 b.pc] 38)] ++ ([(b7, .cells #[.int .i64 a.kind, .int .i64 a.r, .int .i64 a.a, .int .i64 a.b, .int .i64 a.k, .slice b1 a.args.length c2, .int .i64 a.cost, .int .i64 a.mt, .int .i64 a.pc] 38)] ++ bs)) := hO
 refine as_ hO rfl rfl (rj (et (cq (cr (fb 0 tf_38_0 rfl hO rfl rfl (ry hO rfl (yl tl_3 tz rfl (fun _ h => ob (h.front1) 0 0 rfl rfl)) (fb 0 tf_38_0 rfl hO rfl rfl (ry hO rfl (yl tl_3 tz rfl (fun _ h => ob h 0 0 rfl rfl)) (ry hO rfl (ye tz rfl rfl) ?_)))))))))
 refine mv hO rfl rfl ?_
 rcases bt (decide (a.kind = b.kind)) with h11 | h11
 ·
  replace hs := cond_t h11 hs
  refine ry hO rfl (yf 1 tf_38_1 rfl (by rw [h11]; rfl) rfl) (ry hO rfl (yl tl_3 (by rw [h11]; rfl) rfl (fun _ h => ob (h.front1) 0 1 rfl rfl)) (ry hO rfl (yf 1 tf_38_1 rfl (by rw [h11]; rfl) rfl) (ry hO rfl (yl tl_3 (by rw [h11]; rfl) rfl (fun _ h => ob h 0 1 rfl rfl)) (ry hO rfl (ye (by rw [h11]; rfl) rfl rfl) (ry hO rfl (pt tz (by rw [h11]; rfl) rfl) (mv hO rfl rfl ?_))))))
  rcases bt (decide (a.r = b.r)) with h12 | h12
  ·
   replace hs := cond_t h12 hs
   refine ry hO rfl (yf 2 tf_38_2 rfl (by rw [h12]; rfl) rfl) (ry hO rfl (yl tl_3 (by rw [h12]; rfl) rfl (fun _ h => ob (h.front1) 0 2 rfl rfl)) (ry hO rfl (yf 2 tf_38_2 rfl (by rw [h12]; rfl) rfl) (ry hO rfl (yl tl_3 (by rw [h12]; rfl) rfl (fun _ h => ob h 0 2 rfl rfl)) (ry hO rfl (ye (by rw [h12]; rfl) rfl rfl) (ry hO rfl (pt tz (by rw [h12]; rfl) rfl) (mv hO rfl rfl ?_))))))
   rcases bt (decide (a.a = b.a)) with h13 | h13
   ·
    replace hs := cond_t h13 hs
    refine ry hO rfl (yf 3 tf_38_3 rfl (by rw [h13]; rfl) rfl) (ry hO rfl (yl tl_3 (by rw [h13]; rfl) rfl (fun _ h => ob (h.front1) 0 3 rfl rfl)) (ry hO rfl (yf 3 tf_38_3 rfl (by rw [h13]; rfl) rfl) (ry hO rfl (yl tl_3 (by rw [h13]; rfl) rfl (fun _ h => ob h 0 3 rfl rfl)) (ry hO rfl (ye (by rw [h13]; rfl) rfl rfl) (ry hO rfl (pt tz (by rw [h13]; rfl) rfl) (mv hO rfl rfl ?_))))))
    rcases bt (decide (a.b = b.b)) with h14 | h14
    ·
     replace hs := cond_t h14 hs
     refine ry hO rfl (yf 4 tf_38_4 rfl (by rw [h14]; rfl) rfl) (ry hO rfl (yl tl_3 (by rw [h14]; rfl) rfl (fun _ h => ob (h.front1) 0 4 rfl rfl)) (ry hO rfl (yf 4 tf_38_4 rfl (by rw [h14]; rfl) rfl) (ry hO rfl (yl tl_3 (by rw [h14]; rfl) rfl (fun _ h => ob h 0 4 rfl rfl)) (ry hO rfl (ye (by rw [h14]; rfl) rfl rfl) (ry hO rfl (pt tz (by rw [h14]; rfl) rfl) (mv hO rfl rfl ?_))))))
     rcases bt (decide (a.k = b.k)) with h15 | h15
     ·
      replace hs := cond_t h15 hs
      refine ry hO rfl (yf 6 tf_38_6 rfl (by rw [h15]; rfl) rfl) (ry hO rfl (yl tl_3 (by rw [h15]; rfl) rfl (fun _ h => ob (h.front1) 0 6 rfl rfl)) (ry hO rfl (yf 6 tf_38_6 rfl (by rw [h15]; rfl) rfl) (ry hO rfl (yl tl_3 (by rw [h15]; rfl) rfl (fun _ h => ob h 0 6 rfl rfl)) (ry hO rfl (ye (by rw [h15]; rfl) rfl rfl) (ry hO rfl (pt tz (by rw [h15]; rfl) rfl) (mv hO rfl rfl ?_))))))
      rcases bt (decide (a.cost = b.cost)) with h16 | h16
      ·
       replace hs := cond_t h16 hs
       refine ry hO rfl (yf 7 tf_38_7 rfl (by rw [h16]; rfl) rfl) (ry hO rfl (yl tl_3 (by rw [h16]; rfl) rfl (fun _ h => ob (h.front1) 0 7 rfl rfl)) (ry hO rfl (yf 7 tf_38_7 rfl (by rw [h16]; rfl) rfl) (ry hO rfl (yl tl_3 (by rw [h16]; rfl) rfl (fun _ h => ob h 0 7 rfl rfl)) (ry hO rfl (ye (by rw [h16]; rfl) rfl rfl) (ry hO rfl (pt tz (by rw [h16]; rfl) rfl) (mv hO rfl rfl ?_))))))
       rcases bt (decide (a.mt = b.mt)) with h17 | h17
       ·
        replace hs := cond_t h17 hs
        refine ry hO rfl (yf 8 tf_38_8 rfl (by rw [h17]; rfl) rfl) (ry hO rfl (yl tl_3 (by rw [h17]; rfl) rfl (fun _ h => ob (h.front1) 0 8 rfl rfl)) (ry hO rfl (yf 8 tf_38_8 rfl (by rw [h17]; rfl) rfl) (ry hO rfl (yl tl_3 (by rw [h17]; rfl) rfl (fun _ h => ob h 0 8 rfl rfl)) (ry hO rfl (ye (by rw [h17]; rfl) rfl rfl) (ry hO rfl (pt tz (by rw [h17]; rfl) rfl) (mv hO rfl rfl ?_))))))
        rcases bt (decide (a.pc = b.pc)) with h18 | h18
        ·
         replace hs := cond_t h18 hs
         refine ry hO rfl (yf 5 tf_38_5 rfl (by rw [h18]; rfl) rfl) (ry hO rfl (yl tl_36 (by rw [h18]; rfl) rfl (fun _ h => ob (h.front1) 0 5 rfl rfl)) (ry hO rfl (yf 5 tf_38_5 rfl (by rw [h18]; rfl) rfl) (ry hO rfl (yl tl_36 (by rw [h18]; rfl) rfl (fun _ h => ob h 0 5 rfl rfl)) ?_)))
         obtain ⟨v19, hv20, hs⟩ := bind_s hs
         refine rd' (by rw [h18]; rfl) (oc (vs := [.slice b1 a.args.length c2, .slice b4 b.args.length c5]) tcall_21 rfl rfl (c_SameInts a.args b.args s3 s6 hv20 hO) ?_)
         rintro _ w21 ⟨M22, le23, hO, rfl⟩
         refine ⟨_, rfl, ?_⟩
         have s24 := s3.mono le23
         have s25 := s6.mono le23
         have hle26 := le23
         have hO : Own _ M22 ([(b9, .cells #[.int .i64 b.kind, .int .i64 b.r, .int .i64 b.a, .int .i64 b.b, .int .i64 b.k, .slice b4 b.args.length c5, .int .i64 b.cost, .int .i64 b.mt, .int .i64 b.pc] 38)] ++ ([(b7, .cells #[.int .i64 a.kind, .int .i64 a.r, .int .i64 a.a, .int .i64 a.b, .int .i64 a.k, .slice b1 a.args.length c2, .int .i64 a.cost, .int .i64 a.mt, .int .i64 a.pc] 38)] ++ bs)) := hO
         refine ry hO rfl (pt tz (by rw [h18]; rfl) rfl) (as_ hO rfl rfl (rj (ez (E' := [(4, .bool v19)]) ⟨rfl, tz⟩ (et (ct (er (.inl rfl) rfl rfl ?_))))))
         have hO := hO.forget
         have hO := hO.forget
         obtain rfl := o_ hs
         exact ⟨M22, hle26, hO, rfl⟩
        replace hs := cond_f h18 hs
        refine ry hO rfl (ek (by rw [h18]; rfl)) (ry hO rfl (ek (by rw [h18]; rfl)) (ry hO rfl (ek (by rw [h18]; rfl)) (ry hO rfl (ek (by rw [h18]; rfl)) (ry hO rfl (ek (by rw [h18]; rfl)) (ry hO rfl (pf tz (by rw [h18]; rfl) rfl) (as_ hO rfl rfl (rj (ez (E' := [(4, .bool false)]) ⟨rfl, tz⟩ (et ?_)))))))))
        refine ct (er (.inl rfl) rfl rfl ?_)
        have hO := hO.forget
        have hO := hO.forget
        obtain rfl := o_ hs
        exact ⟨M, (mr _), hO, rfl⟩
       replace hs := cond_f h17 hs
       refine ry hO rfl (ek (by rw [h17]; rfl)) (ry hO rfl (ek (by rw [h17]; rfl)) (ry hO rfl (ek (by rw [h17]; rfl)) (ry hO rfl (ek (by rw [h17]; rfl)) (ry hO rfl (ek (by rw [h17]; rfl)) (ry hO rfl (pf tz (by rw [h17]; rfl) rfl) (mv hO rfl rfl (ry hO rfl (ek rfl) (ry hO rfl (ek rfl) (ry hO rfl (ek rfl) ?_)))))))))
       refine ry hO rfl (ek rfl) (ry hO rfl (ek rfl) (ry hO rfl (pf tz rfl rfl) (as_ hO rfl rfl (rj (ez (E' := [(4, .bool false)]) ⟨rfl, tz⟩ (et (ct (er (.inl rfl) rfl rfl ?_))))))))
       have hO := hO.forget
       have hO := hO.forget
       obtain rfl := o_ hs
       exact ⟨M, (mr _), hO, rfl⟩
      replace hs := cond_f h16 hs
      refine ry hO rfl (ek (by rw [h16]; rfl)) (ry hO rfl (ek (by rw [h16]; rfl)) (ry hO rfl (ek (by rw [h16]; rfl)) (ry hO rfl (ek (by rw [h16]; rfl)) (ry hO rfl (ek (by rw [h16]; rfl)) (ry hO rfl (pf tz (by rw [h16]; rfl) rfl) (mv hO rfl rfl (ry hO rfl (ek rfl) (ry hO rfl (ek rfl) (ry hO rfl (ek rfl) ?_)))))))))
      refine ry hO rfl (ek rfl) (ry hO rfl (ek rfl) (ry hO rfl (pf tz rfl rfl) (mv hO rfl rfl (ry hO rfl (ek rfl) (ry hO rfl (ek rfl) (ry hO rfl (ek rfl) (ry hO rfl (ek rfl) (ry hO rfl (ek rfl) (ry hO rfl (pf tz rfl rfl) ?_)))))))))
      refine as_ hO rfl rfl (rj (ez (E' := [(4, .bool false)]) ⟨rfl, tz⟩ (et (ct (er (.inl rfl) rfl rfl ?_)))))
      have hO := hO.forget
      have hO := hO.forget
      obtain rfl := o_ hs
      exact ⟨M, (mr _), hO, rfl⟩
     replace hs := cond_f h15 hs
     refine ry hO rfl (ek (by rw [h15]; rfl)) (ry hO rfl (ek (by rw [h15]; rfl)) (ry hO rfl (ek (by rw [h15]; rfl)) (ry hO rfl (ek (by rw [h15]; rfl)) (ry hO rfl (ek (by rw [h15]; rfl)) (ry hO rfl (pf tz (by rw [h15]; rfl) rfl) (mv hO rfl rfl (ry hO rfl (ek rfl) (ry hO rfl (ek rfl) (ry hO rfl (ek rfl) ?_)))))))))
     refine ry hO rfl (ek rfl) (ry hO rfl (ek rfl) (ry hO rfl (pf tz rfl rfl) (mv hO rfl rfl (ry hO rfl (ek rfl) (ry hO rfl (ek rfl) (ry hO rfl (ek rfl) (ry hO rfl (ek rfl) (ry hO rfl (ek rfl) (ry hO rfl (pf tz rfl rfl) ?_)))))))))
     refine mv hO rfl rfl (ry hO rfl (ek rfl) (ry hO rfl (ek rfl) (ry hO rfl (ek rfl) (ry hO rfl (ek rfl) (ry hO rfl (ek rfl) (ry hO rfl (pf tz rfl rfl) (as_ hO rfl rfl (rj (ez (E' := [(4, .bool false)]) ⟨rfl, tz⟩ ?_)))))))))
     refine et (ct (er (.inl rfl) rfl rfl ?_))
     have hO := hO.forget
     have hO := hO.forget
     obtain rfl := o_ hs
     exact ⟨M, (mr _), hO, rfl⟩
    replace hs := cond_f h14 hs
    refine ry hO rfl (ek (by rw [h14]; rfl)) (ry hO rfl (ek (by rw [h14]; rfl)) (ry hO rfl (ek (by rw [h14]; rfl)) (ry hO rfl (ek (by rw [h14]; rfl)) (ry hO rfl (ek (by rw [h14]; rfl)) (ry hO rfl (pf tz (by rw [h14]; rfl) rfl) (mv hO rfl rfl (ry hO rfl (ek rfl) (ry hO rfl (ek rfl) (ry hO rfl (ek rfl) ?_)))))))))
    refine ry hO rfl (ek rfl) (ry hO rfl (ek rfl) (ry hO rfl (pf tz rfl rfl) (mv hO rfl rfl (ry hO rfl (ek rfl) (ry hO rfl (ek rfl) (ry hO rfl (ek rfl) (ry hO rfl (ek rfl) (ry hO rfl (ek rfl) (ry hO rfl (pf tz rfl rfl) ?_)))))))))
    refine mv hO rfl rfl (ry hO rfl (ek rfl) (ry hO rfl (ek rfl) (ry hO rfl (ek rfl) (ry hO rfl (ek rfl) (ry hO rfl (ek rfl) (ry hO rfl (pf tz rfl rfl) (mv hO rfl rfl (ry hO rfl (ek rfl) (ry hO rfl (ek rfl) ?_)))))))))
    refine ry hO rfl (ek rfl) (ry hO rfl (ek rfl) (ry hO rfl (ek rfl) (ry hO rfl (pf tz rfl rfl) (as_ hO rfl rfl (rj (ez (E' := [(4, .bool false)]) ⟨rfl, tz⟩ (et (ct (er (.inl rfl) rfl rfl ?_)))))))))
    have hO := hO.forget
    have hO := hO.forget
    obtain rfl := o_ hs
    exact ⟨M, (mr _), hO, rfl⟩
   replace hs := cond_f h13 hs
   refine ry hO rfl (ek (by rw [h13]; rfl)) (ry hO rfl (ek (by rw [h13]; rfl)) (ry hO rfl (ek (by rw [h13]; rfl)) (ry hO rfl (ek (by rw [h13]; rfl)) (ry hO rfl (ek (by rw [h13]; rfl)) (ry hO rfl (pf tz (by rw [h13]; rfl) rfl) (mv hO rfl rfl (ry hO rfl (ek rfl) (ry hO rfl (ek rfl) (ry hO rfl (ek rfl) ?_)))))))))
   refine ry hO rfl (ek rfl) (ry hO rfl (ek rfl) (ry hO rfl (pf tz rfl rfl) (mv hO rfl rfl (ry hO rfl (ek rfl) (ry hO rfl (ek rfl) (ry hO rfl (ek rfl) (ry hO rfl (ek rfl) (ry hO rfl (ek rfl) (ry hO rfl (pf tz rfl rfl) ?_)))))))))
   refine mv hO rfl rfl (ry hO rfl (ek rfl) (ry hO rfl (ek rfl) (ry hO rfl (ek rfl) (ry hO rfl (ek rfl) (ry hO rfl (ek rfl) (ry hO rfl (pf tz rfl rfl) (mv hO rfl rfl (ry hO rfl (ek rfl) (ry hO rfl (ek rfl) ?_)))))))))
   refine ry hO rfl (ek rfl) (ry hO rfl (ek rfl) (ry hO rfl (ek rfl) (ry hO rfl (pf tz rfl rfl) (mv hO rfl rfl (ry hO rfl (ek rfl) (ry hO rfl (ek rfl) (ry hO rfl (ek rfl) (ry hO rfl (ek rfl) (ry hO rfl (ek rfl) ?_)))))))))
   refine ry hO rfl (pf tz rfl rfl) (as_ hO rfl rfl (rj (ez (E' := [(4, .bool false)]) ⟨rfl, tz⟩ (et (ct (er (.inl rfl) rfl rfl ?_))))))
   have hO := hO.forget
   have hO := hO.forget
   obtain rfl := o_ hs
   exact ⟨M, (mr _), hO, rfl⟩
  replace hs := cond_f h12 hs
  refine ry hO rfl (ek (by rw [h12]; rfl)) (ry hO rfl (ek (by rw [h12]; rfl)) (ry hO rfl (ek (by rw [h12]; rfl)) (ry hO rfl (ek (by rw [h12]; rfl)) (ry hO rfl (ek (by rw [h12]; rfl)) (ry hO rfl (pf tz (by rw [h12]; rfl) rfl) (mv hO rfl rfl (ry hO rfl (ek rfl) (ry hO rfl (ek rfl) (ry hO rfl (ek rfl) ?_)))))))))
  refine ry hO rfl (ek rfl) (ry hO rfl (ek rfl) (ry hO rfl (pf tz rfl rfl) (mv hO rfl rfl (ry hO rfl (ek rfl) (ry hO rfl (ek rfl) (ry hO rfl (ek rfl) (ry hO rfl (ek rfl) (ry hO rfl (ek rfl) (ry hO rfl (pf tz rfl rfl) ?_)))))))))
  refine mv hO rfl rfl (ry hO rfl (ek rfl) (ry hO rfl (ek rfl) (ry hO rfl (ek rfl) (ry hO rfl (ek rfl) (ry hO rfl (ek rfl) (ry hO rfl (pf tz rfl rfl) (mv hO rfl rfl (ry hO rfl (ek rfl) (ry hO rfl (ek rfl) ?_)))))))))
  refine ry hO rfl (ek rfl) (ry hO rfl (ek rfl) (ry hO rfl (ek rfl) (ry hO rfl (pf tz rfl rfl) (mv hO rfl rfl (ry hO rfl (ek rfl) (ry hO rfl (ek rfl) (ry hO rfl (ek rfl) (ry hO rfl (ek rfl) (ry hO rfl (ek rfl) ?_)))))))))
  refine ry hO rfl (pf tz rfl rfl) (mv hO rfl rfl (ry hO rfl (ek rfl) (ry hO rfl (ek rfl) (ry hO rfl (ek rfl) (ry hO rfl (ek rfl) (ry hO rfl (ek rfl) (ry hO rfl (pf tz rfl rfl) (as_ hO rfl rfl (rj ?_)))))))))
  refine ez (E' := [(4, .bool false)]) ⟨rfl, tz⟩ (et (ct (er (.inl rfl) rfl rfl ?_)))
  have hO := hO.forget
  have hO := hO.forget
  obtain rfl := o_ hs
  exact ⟨M, (mr _), hO, rfl⟩
 replace hs := cond_f h11 hs
 refine ry hO rfl (ek (by rw [h11]; rfl)) (ry hO rfl (ek (by rw [h11]; rfl)) (ry hO rfl (ek (by rw [h11]; rfl)) (ry hO rfl (ek (by rw [h11]; rfl)) (ry hO rfl (ek (by rw [h11]; rfl)) (ry hO rfl (pf tz (by rw [h11]; rfl) rfl) (mv hO rfl rfl (ry hO rfl (ek rfl) (ry hO rfl (ek rfl) (ry hO rfl (ek rfl) ?_)))))))))
 refine ry hO rfl (ek rfl) (ry hO rfl (ek rfl) (ry hO rfl (pf tz rfl rfl) (mv hO rfl rfl (ry hO rfl (ek rfl) (ry hO rfl (ek rfl) (ry hO rfl (ek rfl) (ry hO rfl (ek rfl) (ry hO rfl (ek rfl) (ry hO rfl (pf tz rfl rfl) ?_)))))))))
 refine mv hO rfl rfl (ry hO rfl (ek rfl) (ry hO rfl (ek rfl) (ry hO rfl (ek rfl) (ry hO rfl (ek rfl) (ry hO rfl (ek rfl) (ry hO rfl (pf tz rfl rfl) (mv hO rfl rfl (ry hO rfl (ek rfl) (ry hO rfl (ek rfl) ?_)))))))))
 refine ry hO rfl (ek rfl) (ry hO rfl (ek rfl) (ry hO rfl (ek rfl) (ry hO rfl (pf tz rfl rfl) (mv hO rfl rfl (ry hO rfl (ek rfl) (ry hO rfl (ek rfl) (ry hO rfl (ek rfl) (ry hO rfl (ek rfl) (ry hO rfl (ek rfl) ?_)))))))))
 refine ry hO rfl (pf tz rfl rfl) (mv hO rfl rfl (ry hO rfl (ek rfl) (ry hO rfl (ek rfl) (ry hO rfl (ek rfl) (ry hO rfl (ek rfl) (ry hO rfl (ek rfl) (ry hO rfl (pf tz rfl rfl) (mv hO rfl rfl (ry hO rfl (ek rfl) ?_)))))))))
 refine ry hO rfl (ek rfl) (ry hO rfl (ek rfl) (ry hO rfl (ek rfl) (ry hO rfl (ek rfl) (ry hO rfl (pf tz rfl rfl) (as_ hO rfl rfl (rj (ez (E' := [(4, .bool false)]) ⟨rfl, tz⟩ (et (ct ?_)))))))))
 refine er (.inl rfl) rfl rfl ?_
 have hO := hO.forget
 have hO := hO.forget
 obtain rfl := o_ hs
 exact ⟨M, (mr _), hO, rfl⟩

def s_Srcs_L2 (n : Nat) (m : Meta) (x15 : Int) (x81 : Int) : Nat → (List (Ptr Src)) → Int → Option ((List (Ptr Src)) ⊕ ((List (Ptr Src)) ⊕ (List (Ptr Src))))
  | 0, _, _ => none
  | fu122 + 1, l119, x121 => cond (decide (x121 < (((nth ([(nth m.parts x15.toNat).locals, (nth m.parts x15.toNat).stack] : List (List Src)) x81.toNat)).length : Int))) (cond (inb x121 (nth ([(nth m.parts x15.toNat).locals, (nth m.parts x15.toNat).stack] : List (List Src)) x81.toNat).length) (cond (room (l119.length + 1) 8) (s_Srcs_L2 n m x15 x81 fu122 (l119 ++ [(⟨(nth (nth ([(nth m.parts x15.toNat).locals, (nth m.parts x15.toNat).stack] : List (List Src)) x81.toNat) x121.toNat)⟩ : Ptr Src)]) (wI (x121 + 1))) none) none) (some (.inl l119))
def s_Srcs_L1 (n : Nat) (m : Meta) (x15 : Int) : Nat → (List (Ptr Src)) → Int → Option ((List (Ptr Src)) ⊕ (List (Ptr Src)))
  | 0, _, _ => none
  | fu83 + 1, l79, x81 => cond (decide (x81 < 2)) (andj (cond (inb x81 2) (s_Srcs_L2 n m x15 x81 n l79 0) none) fun l101 => s_Srcs_L1 n m x15 fu83 l101 (wI (x81 + 1))) (some (.inl l79))
def s_Srcs_L0 (n : Nat) (m : Meta) : Nat → (List (Ptr Src)) → Int → Option (List (Ptr Src))
  | 0, _, _ => none
  | fu17 + 1, l13, x15 => cond (decide (x15 < (m.parts.length : Int))) (andj (cond (inb x15 m.parts.length) (s_Srcs_L1 n m x15 n l13 0) none) fun l29 => s_Srcs_L0 n m fu17 l29 (wI (x15 + 1))) (some l13)
def s_Srcs (n : Nat) (m : Meta) : Option (List (Ptr Src)) := s_Srcs_L0 n m n ([] : List (Ptr Src)) 0
set_option maxHeartbeats 6400000 in
theorem c_Srcs {n : Nat} {p_m : Addr} (m : Meta) {r : (List (Ptr Src))} {w : World} {M : Mem} {bs : List (Nat × Obj)} (h_m : PAt M p_m m) (hs : s_Srcs n m = some r) (hO : Own w M (bs)) :
    Calls Tryd.prog 56 #[.pointer (some p_m)] w (fun e w' => ∃ M' : Mem, ∃ b1 : Option Addr, ∃ c2 : Nat, ∃ rs3 : List (Nat × Obj), Mem.le M M' ∧ Own w' M' (rs3 ++ bs) ∧ e = .returned (.slice b1 r.length c2) ∧ Rw M' rs3 b1 c2 r) := by
 unfold s_Srcs at hs
 refine ce (vs := [.pointer (some p_m)]) (n := 53) Tryd.func56 rfl rfl rfl (cq (cr (as_ hO rfl rfl (rj (et (cq (cr (as_ hO rfl rfl (rj ?_)))))))))
 refine et (cq (cq (cr (mv hO rfl rfl (nc hO rfl rfl (fa tf_65_0 hO rfl rfl ?_))))))
 obtain ⟨_, at8, b5, c6, rfl, s7⟩ := id h_m
 refine lc tl_63 at8 0 rfl hO rfl rfl (ln ts_63 hO rfl rfl (mv hO rfl rfl (rj (et (cb ?_)))))
 have hO : Own w M ([] ++ bs) := hO
 refine ci (fun m19 E' w' => ∃ Mi9 : Mem, ∃ b10 : Option Addr, ∃ c11 : Nat, ∃ rs12 : List (Nat × Obj), ∃ l13 : List (Ptr Src), ∃ x15 : Int, E' = [(0, .pointer (some p_m)), (2, .slice none 0 0), (3, .slice b10 l13.length c11), (12, .int .i64 (m.parts.length : Int)), (13, .int .i64 x15)] ∧ Mem.le M Mi9 ∧ Rw Mi9 rs12 b10 c11 l13 ∧ s_Srcs_L0 n m m19 l13 x15 = some r ∧ Own w' Mi9 (rs12 ++ bs)) (m0 := n) ⟨M, none, 0, [], ([] : List (Ptr Src)), 0, rfl, (mr _), (Rw.nil _), hs, hO⟩ ⟨rfl, rfl, rfl, rfl, rfl, tz⟩ ?_
 rintro fu17 _ w18 ⟨Mi9, b10, c11, rs12, l13, x15, rfl, le16, r14, hs, hO⟩
 rcases fu17 with _ | fu17
 ·
  simp [s_Srcs_L0] at hs
 rw [s_Srcs_L0] at hs
 have h20 := h_m.mono le16
 have at21 := at8.mono le16
 have s22 := s7.mono le16
 have hle23 := le16
 refine cq (cr (ry hO rfl (yv tz rfl rfl) (rj (et (cq (cd rfl (fun h24 => ?_) (fun h24 => ?_)))))))
 ·
  replace hs := cond_t h24 hs
  refine cp (et (cq ?_))
  obtain ⟨o32, hs, hj34⟩ := andj_s hs
  refine cg_join (fun E' w' => ∃ Mi25 : Mem, ∃ b26 : Option Addr, ∃ c27 : Nat, ∃ rs28 : List (Nat × Obj), ∃ l29 : List (Ptr Src), E' = [(0, .pointer (some p_m)), (2, .slice none 0 0), (3, .slice b26 l29.length c27), (12, .int .i64 (m.parts.length : Int)), (13, .int .i64 x15)] ∧ Mem.le Mi9 Mi25 ∧ Rw Mi25 rs28 b26 c27 l29 ∧ o32 = .inl l29 ∧ Own w' Mi25 (rs28 ++ bs)) ?_ ?_
  ·
   have le37 := mr Mi9
   refine cb (cq (cr (mv hO rfl rfl (as_ hO rfl rfl (rj (et (cq ?_)))))))
   obtain ⟨w38, hO, ew39⟩ : ∃ w', Own w' Mi9 (rs12 ++ bs) ∧ { w18 with drawn := w18.drawn + 1 } = w' := ⟨_, hO.drawn _, rfl⟩
   refine cw (S := fun w => Own w Mi9 (rs12 ++ bs)) (.take 0 (.take 1 (.take 2 (.take 3 (.take 4 (.take 5 (.take 6 (.take 7 (.take 8 (.take 9 (.take 10 (.take 11 (.take 12 (.take 13 (.take 14 (.take 15 (.take 18 (.one 16 (.take 17 .done))))))))))))))))))) 19 tm (by kernel_rfl) ew39 hO (hm rfl rfl (fun _ _ _ h => h) rfl (hn rfl rfl (fun _ _ _ h => h) rfl (hfa tf_65_0 rfl rfl (fun _ _ _ h => h) rfl (hlc tl_63 at21 0 rfl rfl rfl (fun _ _ _ h => h) rfl (hm rfl rfl (fun _ _ _ h => h) rfl ?_)))))
   obtain ⟨hg40, hs⟩ := grd hs
   obtain ⟨p41, rfl, _⟩ := RdS.get s22 x15.toNat (by exact ib hg40)
   have hO : Own w38 Mi9 (rs12 ++ bs) := by assumption
   have q42 : PAt Mi9 (p41.add (x15.toNat * 4)) (nth m.parts x15.toNat) := RdS.at s22 x15.toNat (by exact ib hg40)
   refine gy rfl rfl (fun _ _ _ h => h) (yi ts_63 tz rfl rfl (by exact inb_0 hg40) (by exact inb_lt hg40)) (hfa tf_87_2 rfl rfl (fun _ _ _ h => h) rfl ?_)
   obtain ⟨_, at49, b43, c44, b46, c47, rfl, s45, s48⟩ := id q42
   refine hlc tl_85 at49 2 rfl rfl rfl (fun _ _ _ h => h) rfl (hm rfl rfl (fun _ _ _ h => h) rfl (hn rfl rfl (fun _ _ _ h => h) rfl (hfa tf_65_0 rfl rfl (fun _ _ _ h => h) rfl (hlc tl_63 at21 0 rfl rfl rfl (fun _ _ _ h => h) rfl (hm rfl rfl (fun _ _ _ h => h) rfl ?_)))))
   have q50 : PAt Mi9 (p41.add (x15.toNat * 4)) (nth m.parts x15.toNat) := RdS.at s22 x15.toNat (by exact ib hg40)
   refine gy rfl rfl (fun _ _ _ h => h) (yi ts_63 tz rfl rfl (by exact inb_0 hg40) (by exact inb_lt hg40)) (hfa tf_87_3 rfl rfl (fun _ _ _ h => h) rfl ?_)
   obtain ⟨_, at57, b51, c52, b54, c55, rfl, s53, s56⟩ := id q50
   refine hlc tl_85 at57 3 rfl rfl rfl (fun _ _ _ h => h) rfl (hm rfl rfl (fun _ _ _ h => h) rfl (hn' rfl tz (og (vs := [.slice b43 (((nth m.parts x15.toNat).locals).length) c44, .slice b54 (((nth m.parts x15.toNat).stack).length) c55]) (cs := [.slice b43 (((nth m.parts x15.toNat).locals).length) c44, .slice b54 (((nth m.parts x15.toNat).stack).length) c55]) (e := 85) hO rfl rfl (fun _ => by kernel_rfl) (fun b58 w59 hO => ?_))))
   have hO : Own _ Mi9 ([(b58, .cells #[.slice b43 (((nth m.parts x15.toNat).locals).length) c44, .slice b54 (((nth m.parts x15.toNat).stack).length) c55] 85)] ++ (rs12 ++ bs)) := hO
   refine kg_s hO.forget (gy rfl rfl (fun _ _ _ h => h) (y_len ts_134 tz rfl) (gd (ez (E' := [(0, .pointer (some p_m)), (2, .slice none 0 0), (3, .slice b10 l13.length c11), (12, .int .i64 (m.parts.length : Int)), (13, .int .i64 x15), (34, .int .i64 0), (32, .slice (some ⟨b58, 0, none⟩) 2 2), (33, .int .i64 2)]) ⟨rfl, rfl, rfl, rfl, rfl, rfl, rfl, rfl, tz⟩ (et (cb ?_)))))
   obtain ⟨M60, le61, hO, hk62, hn63, hd64⟩ := Own.keeps (rs := [(b58, .cells #[.slice b43 (((nth m.parts x15.toNat).locals).length) c44, .slice b54 (((nth m.parts x15.toNat).stack).length) c55] 85)]) hO
   have h65 := h20.mono le61
   have at66 := at21.mono le61
   have s67 := s22.mono le61
   have r68 := r14.mono le61
   have s69 := s45.mono le61
   have s70 := s56.mono le61
   have hle71 := m_ hle23 le61
   have ch72 := m_ le16 le61
   have ch73 := m_ le37 le61
   have at74 := Has.at (vs := [.slice b43 (((nth m.parts x15.toNat).locals).length) c44, .slice b54 (((nth m.parts x15.toNat).stack).length) c55]) hk62 rfl
   refine ci (fun m85 E' w' => ∃ Mi75 : Mem, ∃ b76 : Option Addr, ∃ c77 : Nat, ∃ rs78 : List (Nat × Obj), ∃ l79 : List (Ptr Src), ∃ x81 : Int, E' = [(0, .pointer (some p_m)), (2, .slice none 0 0), (3, .slice b76 l79.length c77), (12, .int .i64 (m.parts.length : Int)), (13, .int .i64 x15), (32, .slice (some ⟨b58, 0, none⟩) 2 2), (33, .int .i64 2), (34, .int .i64 x81)] ∧ Mem.le M60 Mi75 ∧ Rw Mi75 rs78 b76 c77 l79 ∧ s_Srcs_L1 n m x15 m85 l79 x81 = some o32 ∧ Own w' Mi75 (rs78 ++ bs)) (m0 := n) ⟨M60, b10, c11, rs12, l13, 0, rfl, (mr _), r68, hs, hO⟩ ⟨rfl, rfl, rfl, rfl, rfl, rfl, rfl, rfl, tz⟩ ?_
   rintro fu83 _ w84 ⟨Mi75, b76, c77, rs78, l79, x81, rfl, le82, r80, hs, hO⟩
   rcases fu83 with _ | fu83
   ·
    simp [s_Srcs_L1] at hs
   rw [s_Srcs_L1] at hs
   have h86 := h65.mono le82
   have at87 := at66.mono le82
   have s88 := s67.mono le82
   have s89 := s69.mono le82
   have s90 := s70.mono le82
   have hk91 := hk62.mono le82
   have at92 := at74.mono le82
   have hle93 := m_ hle71 le82
   have ch94 := m_ ch72 le82
   have ch95 := m_ ch73 le82
   have kl96 := m_ le61 le82
   refine cq (cr (ry hO rfl (yv tz rfl rfl) (rj (et (cq (cd rfl (fun h97 => ?_) (fun h97 => ?_)))))))
   ·
    replace hs := cond_t h97 hs
    refine cp (et (cq ?_))
    obtain ⟨o103, hs, hj105⟩ := andj_s hs
    refine cg_join (fun E' w' => ∃ b98 : Option Addr, ∃ c99 : Nat, ∃ rs100 : List (Nat × Obj), ∃ l101 : List (Ptr Src), E' = [(0, .pointer (some p_m)), (2, .slice none 0 0), (3, .slice b98 l101.length c99), (12, .int .i64 (m.parts.length : Int)), (13, .int .i64 x15), (32, .slice (some ⟨b58, 0, none⟩) 2 2), (33, .int .i64 2), (34, .int .i64 x81)] ∧ Rw Mi75 rs100 b98 c99 l101 ∧ o103 = .inl l101 ∧ Own w' Mi75 (rs100 ++ bs)) ?_ ?_
    ·
     refine cb (cq (cr ?_))
     obtain ⟨hg108, hs⟩ := grd hs
     have s109 : RdS Mi75 (some ⟨b58, 0, none⟩) 2 ([(nth m.parts x15.toNat).locals, (nth m.parts x15.toNat).stack] : List (List Src)) := (Rw.lit (M := Mi75) (b := b58) (e := 85) (cs := [.slice b43 (((nth m.parts x15.toNat).locals).length) c44, .slice b54 (((nth m.parts x15.toNat).stack).length) c55]) (RdL.cons (α := List Src) (us := [.slice b43 (((nth m.parts x15.toNat).locals).length) c44]) (x := (nth m.parts x15.toNat).locals) ⟨b43, c44, rfl, s89⟩ (RdL.cons (α := List Src) (us := [.slice b54 (((nth m.parts x15.toNat).stack).length) c55]) (x := (nth m.parts x15.toNat).stack) ⟨b54, c55, rfl, s90⟩ (RdL.nil _))) (by simp [Rep.sz])).kept hk91 (mr _)
     have s111 : RdS Mi75 (some ⟨b58, 0, none⟩) 2 ([(nth m.parts x15.toNat).locals, (nth m.parts x15.toNat).stack] : List (List Src)) := (Rw.lit (M := Mi75) (b := b58) (e := 85) (cs := [.slice b43 (((nth m.parts x15.toNat).locals).length) c44, .slice b54 (((nth m.parts x15.toNat).stack).length) c55]) (RdL.cons (α := List Src) (us := [.slice b43 (((nth m.parts x15.toNat).locals).length) c44]) (x := (nth m.parts x15.toNat).locals) ⟨b43, c44, rfl, s89⟩ (RdL.cons (α := List Src) (us := [.slice b54 (((nth m.parts x15.toNat).stack).length) c55]) (x := (nth m.parts x15.toNat).stack) ⟨b54, c55, rfl, s90⟩ (RdL.nil _))) (by simp [Rep.sz])).kept hk91 (mr _)
     have q110 : PAt Mi75 ((⟨b58, 0, none⟩ : Addr).add (x81.toNat * 1)) (nth ([(nth m.parts x15.toNat).locals, (nth m.parts x15.toNat).stack] : List (List Src)) x81.toNat) := RdS.at s111 x81.toNat (by have h_1 := ib hg108; simpa using h_1)
     refine ry hO rfl (yi ts_134 tz rfl rfl (by exact inb_0 hg108) (by have h_1 := inb_lt hg108; simpa using h_1)) ?_
     obtain ⟨_, at115, b112, c113, rfl, s114⟩ := id q110
     refine ry hO rfl (yl tl_85 tz rfl (fun _ h => at115.cell0 h rfl)) (as_ hO rfl rfl (rj (et (cq (cr (mv hO rfl rfl (ln ts_85 hO rfl rfl (mv hO rfl rfl (rj ?_)))))))))
     refine et (cb (ci (fun m124 E' w' => ∃ b116 : Option Addr, ∃ c117 : Nat, ∃ rs118 : List (Nat × Obj), ∃ l119 : List (Ptr Src), ∃ x121 : Int, E' = [(0, .pointer (some p_m)), (2, .slice none 0 0), (3, .slice b116 l119.length c117), (6, .slice b112 (((nth ([(nth m.parts x15.toNat).locals, (nth m.parts x15.toNat).stack] : List (List Src)) x81.toNat)).length) c113), (12, .int .i64 (m.parts.length : Int)), (13, .int .i64 x15), (32, .slice (some ⟨b58, 0, none⟩) 2 2), (33, .int .i64 2), (34, .int .i64 x81), (39, .int .i64 (((nth ([(nth m.parts x15.toNat).locals, (nth m.parts x15.toNat).stack] : List (List Src)) x81.toNat)).length : Int)), (40, .int .i64 x121)] ∧ Rw Mi75 rs118 b116 c117 l119 ∧ s_Srcs_L2 n m x15 x81 m124 l119 x121 = some o103 ∧ Own w' Mi75 (rs118 ++ bs)) (m0 := n) ⟨b76, c77, rs78, l79, 0, rfl, r80, hs, hO⟩ ⟨rfl, rfl, rfl, rfl, rfl, rfl, rfl, rfl, rfl, rfl, rfl, tz⟩ ?_))
     rintro fu122 _ w123 ⟨b116, c117, rs118, l119, x121, rfl, r120, hs, hO⟩
     rcases fu122 with _ | fu122
     ·
      simp [s_Srcs_L2] at hs
     rw [s_Srcs_L2] at hs
     refine cq (cr (ry hO rfl (yv tz rfl rfl) (rj (et (cq (cd rfl (fun h125 => ?_) (fun h125 => ?_)))))))
     ·
      replace hs := cond_t h125 hs
      refine cp (et (cq (cb (cq (cr (mv hO rfl rfl (as_ hO rfl rfl (rj (et ?_)))))))))
      refine cr (mv hO rfl rfl (mv hO rfl rfl (mv hO rfl rfl ?_)))
      obtain ⟨hg126, hs⟩ := grd hs
      obtain ⟨p127, rfl, _⟩ := RdS.get s114 x121.toNat (by exact ib hg126)
      have hO : Own w123 Mi75 (rs118 ++ bs) := by assumption
      have q128 : PAt Mi75 (p127.add (x121.toNat * 2)) (nth (nth ([(nth m.parts x15.toNat).locals, (nth m.parts x15.toNat).stack] : List (List Src)) x81.toNat) x121.toNat) := RdS.at s114 x121.toNat (by exact ib hg126)
      refine ry hO rfl (yi ts_85 tz rfl rfl (by exact inb_0 hg126) (by exact inb_lt hg126)) (rd' tz (og (vs := [.pointer (some (p127.add (x121.toNat * 2)))]) (cs := [.pointer (some (p127.add (x121.toNat * 2)))]) (e := 114) hO rfl rfl (fun _ => by kernel_rfl) (fun b129 w130 hO => ?_)))
      have hO : Own _ Mi75 ([(b129, .cells #[.pointer (some (p127.add (x121.toNat * 2)))] 114)] ++ (rs118 ++ bs)) := hO
      obtain ⟨hg131, hs⟩ := grd hs
      have hO := hO.front1
      have hO := hO.front1
      have hO : Own _ Mi75 ([(b129, .cells #[.pointer (some (p127.add (x121.toNat * 2)))] 114)] ++ (rs118 ++ bs)) := hO
      refine rd' tz (og_append1 (α := Ptr Src) (rs := rs118) (us := [.pointer (some (p127.add (x121.toNat * 2)))]) (x := (⟨(nth (nth ([(nth m.parts x15.toNat).locals, (nth m.parts x15.toNat).stack] : List (List Src)) x81.toNat) x121.toNat)⟩ : Ptr Src)) tv_111 rfl rfl hO r120 rfl rfl rfl ⟨(p127.add (x121.toNat * 2)), rfl, q128⟩ (by exact room_le hg131) (by decide) (by exact room_k hg131 (by decide)) (fun rs132 b133 c134 w135 hO r136 => ?_))
      exact as_ hO rfl rfl (rj (ek' (ez (E' := [(0, .pointer (some p_m)), (2, .slice none 0 0), (3, .slice b133 (((l119 ++ [(⟨(nth (nth ([(nth m.parts x15.toNat).locals, (nth m.parts x15.toNat).stack] : List (List Src)) x81.toNat) x121.toNat)⟩ : Ptr Src)])).length) c134), (6, .slice (some p127) (((nth ([(nth m.parts x15.toNat).locals, (nth m.parts x15.toNat).stack] : List (List Src)) x81.toNat)).length) c113), (12, .int .i64 (m.parts.length : Int)), (13, .int .i64 x15), (32, .slice (some ⟨b58, 0, none⟩) 2 2), (33, .int .i64 2), (34, .int .i64 x81), (39, .int .i64 (((nth ([(nth m.parts x15.toNat).locals, (nth m.parts x15.toNat).stack] : List (List Src)) x81.toNat)).length : Int)), (40, .int .i64 x121)]) ⟨rfl, rfl, rfl, rfl, rfl, rfl, rfl, rfl, rfl, rfl, rfl, tz⟩ (et (cr (ry hO rfl (y_add (wI (x121 + 1)) tz rfl rfl rfl) (mv hO rfl rfl (rj (eo ⟨b133, c134, rs132, (l119 ++ [(⟨(nth (nth ([(nth m.parts x15.toNat).locals, (nth m.parts x15.toNat).stack] : List (List Src)) x81.toNat) x121.toNat)⟩ : Ptr Src)]), wI (x121 + 1), rfl, r136, hs, hO⟩ ⟨rfl, rfl, rfl, rfl, rfl, rfl, rfl, rfl, rfl, rfl, rfl, tz⟩ (Nat.lt_succ_self _))))))))))
     replace hs := cond_f h125 hs
     exact cx (eh (eh (ej (ek' (ej' ⟨b116, c117, rs118, l119, rfl, r120, inl_s hs, hO⟩ ⟨rfl, rfl, rfl, rfl, rfl, rfl, rfl, rfl, tz⟩)))))
    rintro _ w107 ⟨b98, c99, rs100, l101, rfl, r102, ho106, hO⟩
    replace hs := Aft.l hj105 ho106
    try dsimp only at hs
    exact et (cr (ry hO rfl (y_add (wI (x81 + 1)) tz rfl rfl rfl) (mv hO rfl rfl (rj (eo ⟨Mi75, b98, c99, rs100, l101, wI (x81 + 1), rfl, le82, r102, hs, hO⟩ ⟨rfl, rfl, rfl, rfl, rfl, rfl, rfl, rfl, tz⟩ (Nat.lt_succ_self _))))))
   replace hs := cond_f h97 hs
   exact cx (eh (eh (ej (ek' (ej' ⟨Mi75, b76, c77, rs78, l79, rfl, ch95, r80, inl_s hs, hO⟩ ⟨rfl, rfl, rfl, rfl, rfl, tz⟩)))))
  rintro _ w36 ⟨Mi25, b26, c27, rs28, l29, rfl, le31, r30, ho35, hO⟩
  replace hs := Aft.l hj34 ho35
  try dsimp only at hs
  have h137 := h20.mono le31
  have at138 := at21.mono le31
  have s139 := s22.mono le31
  have hle140 := m_ hle23 le31
  have ch141 := m_ le16 le31
  exact et (cr (ry hO rfl (y_add (wI (x15 + 1)) tz rfl rfl rfl) (mv hO rfl rfl (rj (eo ⟨Mi25, b26, c27, rs28, l29, wI (x15 + 1), rfl, ch141, r30, hs, hO⟩ ⟨rfl, rfl, rfl, rfl, rfl, tz⟩ (Nat.lt_succ_self _))))))
 replace hs := cond_f h24 hs
 refine cx (eh (eh (ej (et (cq (cr (mv hO rfl rfl (as_ hO rfl rfl (rj ?_)))))))))
 refine et (ct (er (.inl rfl) rfl rfl ?_))
 obtain rfl := o_ hs
 exact ⟨Mi9, b10, c11, rs12, hle23, hO, rfl, r14⟩

def s_behind (n : Nat) (x : Ir) (at_ : Int) : Option (List Int) := cond (decide (x.kind = 4)) (some ([x.k] : List Int)) (cond (decide (x.kind = 5)) (some ([wI (at_ + 1), x.k] : List Int)) (cond (decide (x.kind = 8)) (some ([] : List Int)) (some ([wI (at_ + 1)] : List Int))))
theorem d_behind {n : Nat} {p_x : Addr} (x : Ir) (at_ : Int) {r : (List Int)} {w : World} {M : Mem} {bs : List (Nat × Obj)} (h_x : PAt M p_x x) (hs : s_behind n x at_ = some r) (hO : Own w M (bs)) :
    Calls Tryd.prog 45 #[.pointer (some p_x), .int .i64 at_] w (fun e w' => ∃ M' : Mem, ∃ b1 : Option Addr, ∃ c2 : Nat, ∃ rs3 : List (Nat × Obj), Mem.le M M' ∧ Own w' M' (rs3 ++ bs) ∧ e = .returned (.slice b1 r.length c2) ∧ Rw M' rs3 b1 c2 r) := by
 unfold s_behind at hs
 refine ce (vs := [.pointer (some p_x), .int .i64 at_]) (n := 30) Tryd.func45 rfl rfl rfl (cq (cr (as_ hO rfl rfl (rj (et (cq (cq (cr (mv hO rfl rfl ?_)))))))))
 refine nc hO rfl rfl (fa tf_38_0 hO rfl rfl ?_)
 obtain ⟨_, at8, b5, c6, rfl, s7⟩ := id h_x
 refine lc tl_3 at8 0 rfl hO rfl rfl (rj (et (cb (cq (cr (ry hO rfl (ye tz rfl rfl) (as_ hO rfl rfl (rj (et ?_)))))))))
 refine cd rfl (fun h9 => ?_) (fun h9 => ?_)
 ·
  replace hs := cond_t h9 hs
  refine cq (cr (mv hO rfl rfl (nc hO rfl rfl (fa tf_38_4 hO rfl rfl (lc tl_3 at8 4 rfl hO rfl rfl (rd' tz (og (vs := [.int .i64 x.k]) (cs := [.int .i64 x.k]) (e := 3) hO rfl rfl (fun _ => by kernel_rfl) (fun b10 w11 hO => ?_))))))))
  have hO : Own _ M ([(b10, .cells #[.int .i64 x.k] 3)] ++ bs) := hO
  refine as_ hO rfl rfl (rj (ez (E' := [(1, .int .i64 at_), (4, .slice (some ⟨b10, 0, none⟩) 1 1)]) ⟨rfl, rfl, tz⟩ (et (ct (eg (ew' (er (.inl rfl) rfl rfl ?_)))))))
  have r12 : Rw M [(b10, .cells #[.int .i64 x.k] 3)] (some ⟨b10, 0, none⟩) 1 ([x.k] : List Int) := Rw.lit (cs := [.int .i64 x.k]) (RdL.cons (α := Int) (us := [.int .i64 x.k]) (x := x.k) rfl (RdL.nil _)) (by simp [Rep.sz])
  obtain rfl := o_ hs
  exact ⟨M, some ⟨b10, 0, none⟩, 1, [(b10, .cells #[.int .i64 x.k] 3)], (mr _), hO, rfl, r12⟩
 replace hs := cond_f h9 hs
 refine cq (cr (ry hO rfl (ye tz rfl rfl) (as_ hO rfl rfl (rj (et (cd rfl (fun h13 => ?_) (fun h13 => ?_)))))))
 ·
  replace hs := cond_t h13 hs
  refine cq (cr (mv hO rfl rfl (ry hO rfl (y_add (wI (at_ + 1)) tz rfl rfl rfl) (mv hO rfl rfl (nc hO rfl rfl (fa tf_38_4 hO rfl rfl (lc tl_3 at8 4 rfl hO rfl rfl (rd' tz (og (vs := [.int .i64 (wI (at_ + 1)), .int .i64 x.k]) (cs := [.int .i64 (wI (at_ + 1)), .int .i64 x.k]) (e := 3) hO rfl rfl (fun _ => by kernel_rfl) (fun b14 w15 hO => ?_))))))))))
  have hO : Own _ M ([(b14, .cells #[.int .i64 (wI (at_ + 1)), .int .i64 x.k] 3)] ++ bs) := hO
  refine as_ hO rfl rfl (rj (ez (E' := [(1, .int .i64 at_), (4, .slice (some ⟨b14, 0, none⟩) 2 2)]) ⟨rfl, rfl, tz⟩ (et (ct (eg (ew' (er (.inl rfl) rfl rfl ?_)))))))
  have r16 : Rw M [(b14, .cells #[.int .i64 (wI (at_ + 1)), .int .i64 x.k] 3)] (some ⟨b14, 0, none⟩) 2 ([wI (at_ + 1), x.k] : List Int) := Rw.lit (cs := [.int .i64 (wI (at_ + 1)), .int .i64 x.k]) (RdL.cons (α := Int) (us := [.int .i64 (wI (at_ + 1))]) (x := wI (at_ + 1)) rfl (RdL.cons (α := Int) (us := [.int .i64 x.k]) (x := x.k) rfl (RdL.nil _))) (by simp [Rep.sz])
  obtain rfl := o_ hs
  exact ⟨M, some ⟨b14, 0, none⟩, 2, [(b14, .cells #[.int .i64 (wI (at_ + 1)), .int .i64 x.k] 3)], (mr _), hO, rfl, r16⟩
 replace hs := cond_f h13 hs
 refine cq (cr (ry hO rfl (ye tz rfl rfl) (as_ hO rfl rfl (rj (ez (E' := [(1, .int .i64 at_), (4, .slice none 0 0), (25, .bool (decide (x.kind = 8)))]) ⟨rfl, rfl, rfl, tz⟩ (et (cd rfl (fun h17 => ?_) (fun h17 => ?_))))))))
 ·
  replace hs := cond_t h17 hs
  refine cq (cr (as_ hO rfl rfl (rj (et (ct (eg (ew' (er (.inl rfl) rfl rfl ?_))))))))
  obtain rfl := o_ hs
  exact ⟨M, none, 0, [], (mr _), hO, rfl, (Rw.nil _)⟩
 replace hs := cond_f h17 hs
 refine cp (ek' (et (cq (cr (mv hO rfl rfl (ry hO rfl (y_add (wI (at_ + 1)) tz rfl rfl rfl) (rd' tz (og (vs := [.int .i64 (wI (at_ + 1))]) (cs := [.int .i64 (wI (at_ + 1))]) (e := 3) hO rfl rfl (fun _ => by kernel_rfl) (fun b18 w19 hO => ?_)))))))))
 have hO : Own _ M ([(b18, .cells #[.int .i64 (wI (at_ + 1))] 3)] ++ bs) := hO
 refine as_ hO rfl rfl (rj (et (ct (er (.inl rfl) rfl rfl ?_))))
 have r20 : Rw M [(b18, .cells #[.int .i64 (wI (at_ + 1))] 3)] (some ⟨b18, 0, none⟩) 1 ([wI (at_ + 1)] : List Int) := Rw.lit (cs := [.int .i64 (wI (at_ + 1))]) (RdL.cons (α := Int) (us := [.int .i64 (wI (at_ + 1))]) (x := wI (at_ + 1)) rfl (RdL.nil _)) (by simp [Rep.sz])
 obtain rfl := o_ hs
 exact ⟨M, some ⟨b18, 0, none⟩, 1, [(b18, .cells #[.int .i64 (wI (at_ + 1))] 3)], (mr _), hO, rfl, r20⟩

def s_after_L1 (n : Nat) (live : List (List Bool)) (v21 : (List Int)) (x41 : Int) : Nat → (List Bool) → Int → Option ((List Bool) ⊕ (List Bool))
  | 0, _, _ => none
  | fu71 + 1, l68, x70 => cond (decide (x70 < (((nth live ((nth v21 x41.toNat).toNat))).length : Int))) (cond (inb x70 (nth live ((nth v21 x41.toNat).toNat)).length) (cond (inb x70 l68.length) (cond (nth l68 x70.toNat) (s_after_L1 n live v21 x41 fu71 (l68.set x70.toNat true) (wI (x70 + 1))) (s_after_L1 n live v21 x41 fu71 (l68.set x70.toNat (nth (nth live ((nth v21 x41.toNat).toNat)) x70.toNat)) (wI (x70 + 1)))) none) none) (some (.inl l68))
def s_after_L0 (n : Nat) (live : List (List Bool)) (v21 : (List Int)) : Nat → (List Bool) → Int → Option (List Bool)
  | 0, _, _ => none
  | fu42 + 1, l39, x41 => cond (decide (x41 < (v21.length : Int))) (andj (cond (inb x41 v21.length) (cond (inb (nth v21 x41.toNat) live.length) (s_after_L1 n live v21 x41 n l39 0) none) none) fun l47 => s_after_L0 n live v21 fu42 l47 (wI (x41 + 1))) (some l39)
def s_after (n : Nat) (c : CodeD) (live : List (List Bool)) (at_ : Int) : Option (List Bool) := cond (mkb c.regs 1) (cond (inb at_ c.code.length) ((s_behind n (nth c.code at_.toNat) at_).bind fun v21 => s_after_L0 n live v21 n (List.replicate ((c.regs : Int).toNat) (false : Bool)) 0) none) none
theorem c_after {n : Nat} {p_c : Addr} {b_live : Option Addr} {c_live : Nat} (c : CodeD) (live : List (List Bool)) (at_ : Int) {r : (List Bool)} {w : World} {M : Mem} {bs : List (Nat × Obj)} (h_c : PAt M p_c c) (h_live : RdS M b_live c_live live) (hs : s_after n c live at_ = some r) (hO : Own w M (bs)) :
    Calls Tryd.prog 28 #[.pointer (some p_c), .slice b_live live.length c_live, .int .i64 at_] w (fun e w' => ∃ M' : Mem, ∃ b1 : Option Addr, ∃ c2 : Nat, ∃ rs3 : List (Nat × Obj), Mem.le M M' ∧ Own w' M' (rs3 ++ bs) ∧ e = .returned (.slice b1 r.length c2) ∧ Rw M' rs3 b1 c2 r) := by
 unfold s_after at hs
 refine ce (vs := [.pointer (some p_c), .slice b_live live.length c_live, .int .i64 at_]) (n := 53) Tryd.func28 rfl rfl rfl (cq (cr (as_ hO rfl rfl (rj (et (cq (cr (mv hO rfl rfl (nc hO rfl rfl ?_)))))))))
 refine fa tf_28_1 hO rfl rfl ?_
 obtain ⟨_, at11, b5, c6, b8, c9, rfl, s7, s10⟩ := id h_c
 refine lc tl_3 at11 1 rfl hO rfl rfl ?_
 obtain ⟨hg12, hs⟩ := grd hs
 refine rd' tz (og_make (α := Bool) (x0 := false) tv_50 rfl rfl (by decide) hO rfl rfl (by exact mkb_0 hg12) (by exact mkb_r hg12) (by decide) (by exact mkb_k hg12 (by decide)) (fun rs13 b14 c15 w16 hO r17 => ?_))
 refine as_ hO rfl rfl (rj (et (cq (cq (cr (mv hO rfl rfl (nc hO rfl rfl (fa tf_28_2 hO rfl rfl (lc tl_25 at11 2 rfl hO rfl rfl ?_)))))))))
 refine mv hO rfl rfl ?_
 obtain ⟨hg18, hs⟩ := grd hs
 obtain ⟨p19, rfl, _⟩ := RdS.get s7 at_.toNat (by exact ib hg18)
 have hO : Own w16 M (rs13 ++ bs) := by assumption
 have q20 : PAt M (p19.add (at_.toNat * 9)) (nth c.code at_.toNat) := RdS.at s7 at_.toNat (by exact ib hg18)
 refine ry hO rfl (yi ts_25 tz rfl rfl (by exact inb_0 hg18) (by exact inb_lt hg18)) (mv hO rfl rfl ?_)
 obtain ⟨v21, hv22, hs⟩ := bind_s hs
 refine rd' tz (oc (vs := [.pointer (some (p19.add (at_.toNat * 9))), .int .i64 at_]) tcall_45 rfl rfl (d_behind (nth c.code at_.toNat) at_ q20 hv22 hO) ?_)
 rintro _ w23 ⟨M24, b26, c27, rs28, le25, hO, rfl, r29⟩
 refine ⟨_, rfl, ?_⟩
 have h30 := h_c.mono le25
 have at31 := at11.mono le25
 have s32 := s7.mono le25
 have s33 := s10.mono le25
 have h34 := h_live.mono le25
 have r35 := r17.mono le25
 have q36 := q20.mono le25
 have hle37 := le25
 have hO : Own _ M24 (rs28 ++ (rs13 ++ bs)) := hO
 refine ln ts_36 hO rfl rfl (mv hO rfl rfl (rj (ez (E' := [(1, .slice b_live live.length c_live), (6, .slice none 0 0), (7, .slice b14 (((List.replicate ((c.regs : Int).toNat) (false : Bool))).length) c15), (24, .slice b26 v21.length c27), (25, .int .i64 (v21.length : Int)), (26, .int .i64 0)]) ⟨rfl, rfl, rfl, rfl, rfl, rfl, tz⟩ (et (cb (ci (fun m44 E' w' => ∃ rs38 : List (Nat × Obj), ∃ l39 : List Bool, ∃ x41 : Int, E' = [(1, .slice b_live live.length c_live), (6, .slice none 0 0), (7, .slice b14 l39.length c15), (24, .slice b26 v21.length c27), (25, .int .i64 (v21.length : Int)), (26, .int .i64 x41)] ∧ Rw M24 rs38 b14 c15 l39 ∧ s_after_L0 n live v21 m44 l39 x41 = some r ∧ Own w' M24 (rs28 ++ (rs38 ++ bs))) (m0 := n) ⟨rs13, (List.replicate ((c.regs : Int).toNat) (false : Bool)), 0, rfl, r35, hs, hO⟩ ⟨rfl, rfl, rfl, rfl, rfl, rfl, tz⟩ ?_))))))
 rintro fu42 _ w43 ⟨rs38, l39, x41, rfl, r40, hs, hO⟩
 rcases fu42 with _ | fu42
 ·
  simp [s_after_L0] at hs
 rw [s_after_L0] at hs
 refine cq (cr (ry hO rfl (yv tz rfl rfl) (rj (et (cq (cd rfl (fun h45 => ?_) (fun h45 => ?_)))))))
 ·
  replace hs := cond_t h45 hs
  refine cp (et (cq ?_))
  obtain ⟨o49, hs, hj51⟩ := andj_s hs
  refine cg_join (fun E' w' => ∃ rs46 : List (Nat × Obj), ∃ l47 : List Bool, E' = [(1, .slice b_live live.length c_live), (6, .slice none 0 0), (7, .slice b14 l47.length c15), (24, .slice b26 v21.length c27), (25, .int .i64 (v21.length : Int)), (26, .int .i64 x41)] ∧ Rw M24 rs46 b14 c15 l47 ∧ o49 = .inl l47 ∧ Own w' M24 (rs28 ++ (rs46 ++ bs))) ?_ ?_
  ·
   refine cb (cq (cr ?_))
   obtain ⟨hg54, hs⟩ := grd hs
   obtain ⟨b55, o56, rfl⟩ := Rw.ofs r29 (i := x41.toNat) (by exact ib hg54)
   have hO : Own w43 M24 (rs28 ++ (rs38 ++ bs)) := by assumption
   refine ry hO rfl (yi ts_36 tz rfl rfl (by exact inb_0 hg54) (by exact inb_lt hg54)) ?_
   obtain ⟨vs57, hr58, hc59⟩ := Rw.cells (t := rs38 ++ bs) r29 x41.toNat (by exact ib hg54)
   obtain rfl := hr58
   refine ry hO rfl (yl tl_3 tz rfl (fun w h => hc59 w h 0 _ rfl)) (as_ hO rfl rfl (rj (et (cq (cr (mv hO rfl rfl (mv hO rfl rfl ?_)))))))
   obtain ⟨hg60, hs⟩ := grd hs
   obtain ⟨p61, rfl, _⟩ := RdS.get h34 ((nth v21 x41.toNat).toNat) (by exact ib hg60)
   have hO : Own w43 M24 (rs28 ++ (rs38 ++ bs)) := by assumption
   have q62 : PAt M24 (p61.add (((nth v21 x41.toNat).toNat) * 1)) (nth live ((nth v21 x41.toNat).toNat)) := RdS.at h34 ((nth v21 x41.toNat).toNat) (by exact ib hg60)
   refine ry hO rfl (yi ts_46 tz rfl rfl (by exact inb_0 hg60) (by exact inb_lt hg60)) ?_
   obtain ⟨_, at66, b63, c64, rfl, s65⟩ := id q62
   refine ry hO rfl (yl tl_50 tz rfl (fun _ h => at66.cell0 h rfl)) (ln ts_50 hO rfl rfl (mv hO rfl rfl (rj (ez (E' := [(1, .slice (some p61) live.length c_live), (6, .slice none 0 0), (7, .slice b14 l39.length c15), (24, .slice (some ⟨b55, o56, none⟩) v21.length c27), (25, .int .i64 (v21.length : Int)), (26, .int .i64 x41), (33, .slice b63 (((nth live ((nth v21 x41.toNat).toNat))).length) c64), (34, .int .i64 (((nth live ((nth v21 x41.toNat).toNat))).length : Int)), (35, .int .i64 0)]) ⟨rfl, rfl, rfl, rfl, rfl, rfl, rfl, rfl, rfl, tz⟩ (et (cb (ci (fun m73 E' w' => ∃ rs67 : List (Nat × Obj), ∃ l68 : List Bool, ∃ x70 : Int, E' = [(1, .slice (some p61) live.length c_live), (6, .slice none 0 0), (7, .slice b14 l68.length c15), (24, .slice (some ⟨b55, o56, none⟩) v21.length c27), (25, .int .i64 (v21.length : Int)), (26, .int .i64 x41), (33, .slice b63 (((nth live ((nth v21 x41.toNat).toNat))).length) c64), (34, .int .i64 (((nth live ((nth v21 x41.toNat).toNat))).length : Int)), (35, .int .i64 x70)] ∧ Rw M24 rs67 b14 c15 l68 ∧ s_after_L1 n live v21 x41 m73 l68 x70 = some o49 ∧ Own w' M24 (rs28 ++ (rs67 ++ bs))) (m0 := n) ⟨rs38, l39, 0, rfl, r40, hs, hO⟩ ⟨rfl, rfl, rfl, rfl, rfl, rfl, rfl, rfl, rfl, tz⟩ ?_)))))))
   rintro fu71 _ w72 ⟨rs67, l68, x70, rfl, r69, hs, hO⟩
   rcases fu71 with _ | fu71
   ·
    simp [s_after_L1] at hs
   rw [s_after_L1] at hs
   refine cq (cr (ry hO rfl (yv tz rfl rfl) (rj (et (cq (cd rfl (fun h74 => ?_) (fun h74 => ?_)))))))
   ·
    replace hs := cond_t h74 hs
    refine cp (et (cq (cb (cq (cr (mv hO rfl rfl ?_))))))
    obtain ⟨hg75, hs⟩ := grd hs
    obtain ⟨p76, rfl, _⟩ := RdS.get s65 x70.toNat (by exact ib hg75)
    have hO : Own w72 M24 (rs28 ++ (rs67 ++ bs)) := by assumption
    have q77 : PAt M24 (p76.add (x70.toNat * 1)) (nth (nth live ((nth v21 x41.toNat).toNat)) x70.toNat) := RdS.at s65 x70.toNat (by exact ib hg75)
    refine ry hO rfl (yi ts_50 tz rfl rfl (by exact inb_0 hg75) (by exact inb_lt hg75)) ?_
    obtain ⟨_, at78, rfl⟩ := id q77
    refine ry hO rfl (yl tl_4 tz rfl (fun _ h => at78.cell0 h rfl)) (as_ hO rfl rfl (as_ hO rfl rfl (rj (et (cr (mv hO rfl rfl (mv hO rfl rfl (mv hO rfl rfl (mv hO rfl rfl ?_)))))))))
    obtain ⟨hg79, hs⟩ := grd hs
    obtain ⟨b80, o81, rfl⟩ := Rw.ofs r69 (i := x70.toNat) (by exact ib hg79)
    have hO : Own w72 M24 (rs28 ++ (rs67 ++ bs)) := by assumption
    refine ry hO rfl (yi ts_50 tz rfl rfl (by exact inb_0 hg79) (by exact inb_lt hg79)) ?_
    obtain ⟨vs82, hr83, hc84⟩ := Rw.cells (t := rs28 ++ bs) r69 x70.toNat (by exact ib hg79)
    obtain rfl := hr83
    refine ry hO rfl (yl tl_4 tz rfl (fun w h => hc84 w (h.front1) 0 _ rfl)) (mv hO rfl rfl ?_)
    rcases bt (nth l68 x70.toNat) with h85 | h85
    ·
     replace hs := cond_t h85 hs
     refine ry hO rfl (ek (by rw [h85]; rfl)) (ry hO rfl (pt tz (by rw [h85]; rfl) rfl) (ry hO rfl (yi ts_50 tz rfl rfl (by exact inb_0 hg79) (by exact inb_lt hg79)) ?_))
     have hO := hO.front1
     refine rd' tz (og_storeR (i := x70.toNat) (x := true) (vs := [.bool true]) hO r69 (by exact ib hg79) tn_4 rfl rfl rfl rfl rfl (fun rs87 w86 hO r88 => ?_))
     refine rj (ez (E' := [(1, .slice (some p61) live.length c_live), (6, .slice none 0 0), (7, .slice (some ⟨b80, o81, none⟩) (((l68.set x70.toNat true)).length) c15), (24, .slice (some ⟨b55, o56, none⟩) v21.length c27), (25, .int .i64 (v21.length : Int)), (26, .int .i64 x41), (33, .slice (some p76) (((nth live ((nth v21 x41.toNat).toNat))).length) c64), (34, .int .i64 (((nth live ((nth v21 x41.toNat).toNat))).length : Int)), (35, .int .i64 x70), (36, .bool (decide (x70 < (((nth live ((nth v21 x41.toNat).toNat))).length : Int)))), (37, .int .i64 x70), (38, .pointer (some (p76.add (x70.toNat * 1)))), (39, .bool (nth (nth live ((nth v21 x41.toNat).toNat)) x70.toNat)), (10, .int .i64 x70), (11, .bool (nth (nth live ((nth v21 x41.toNat).toNat)) x70.toNat)), (40, .slice (some ⟨b80, o81, none⟩) (((l68.set x70.toNat true)).length) c15), (41, .int .i64 x70), (42, .slice (some ⟨b80, o81, none⟩) (((l68.set x70.toNat true)).length) c15), (43, .int .i64 x70), (44, .pointer (some ((⟨b80, o81, none⟩ : Addr).add (x70.toNat * 1)))), (45, .bool (nth l68 x70.toNat)), (46, .bool (nth l68 x70.toNat)), (47, undef), (48, .bool true), (49, .pointer (some ((⟨b80, o81, none⟩ : Addr).add (x70.toNat * 1))))]) ⟨rfl, rfl, (congrArg (fun q : Nat => some (Value.slice (some ⟨b80, o81, none⟩) q c15)) (Eq.symm List.length_set)), rfl, rfl, rfl, rfl, rfl, rfl, rfl, rfl, rfl, rfl, rfl, rfl, (congrArg (fun q : Nat => some (Value.slice (some ⟨b80, o81, none⟩) q c15)) (Eq.symm List.length_set)), rfl, (congrArg (fun q : Nat => some (Value.slice (some ⟨b80, o81, none⟩) q c15)) (Eq.symm List.length_set)), rfl, rfl, rfl, rfl, rfl, rfl, rfl, tz⟩ (ek' (ez (E' := [(1, .slice (some p61) live.length c_live), (6, .slice none 0 0), (7, .slice (some ⟨b80, o81, none⟩) (((l68.set x70.toNat true)).length) c15), (24, .slice (some ⟨b55, o56, none⟩) v21.length c27), (25, .int .i64 (v21.length : Int)), (26, .int .i64 x41), (33, .slice (some p76) (((nth live ((nth v21 x41.toNat).toNat))).length) c64), (34, .int .i64 (((nth live ((nth v21 x41.toNat).toNat))).length : Int)), (35, .int .i64 x70)]) ⟨rfl, rfl, rfl, rfl, rfl, rfl, rfl, rfl, rfl, tz⟩ (et (cr (ry hO rfl (y_add (wI (x70 + 1)) tz rfl rfl rfl) (mv hO rfl rfl (rj ?_))))))))
     have hO := hO.front1
     exact eo ⟨rs87, (l68.set x70.toNat true), wI (x70 + 1), rfl, r88, hs, hO⟩ ⟨rfl, rfl, rfl, rfl, rfl, rfl, rfl, rfl, rfl, tz⟩ (Nat.lt_succ_self _)
    replace hs := cond_f h85 hs
    refine ry hO rfl (ym (by rw [h85]; rfl) rfl) (ry hO rfl (pf tz (by rw [h85]; rfl) rfl) (ry hO rfl (yi ts_50 tz rfl rfl (by exact inb_0 hg79) (by exact inb_lt hg79)) ?_))
    have hO := hO.front1
    refine rd' tz (og_storeR (i := x70.toNat) (x := (nth (nth live ((nth v21 x41.toNat).toNat)) x70.toNat)) (vs := [.bool (nth (nth live ((nth v21 x41.toNat).toNat)) x70.toNat)]) hO r69 (by exact ib hg79) tn_4 rfl rfl rfl rfl rfl (fun rs90 w89 hO r91 => ?_))
    refine rj (ez (E' := [(1, .slice (some p61) live.length c_live), (6, .slice none 0 0), (7, .slice (some ⟨b80, o81, none⟩) (((l68.set x70.toNat (nth (nth live ((nth v21 x41.toNat).toNat)) x70.toNat))).length) c15), (24, .slice (some ⟨b55, o56, none⟩) v21.length c27), (25, .int .i64 (v21.length : Int)), (26, .int .i64 x41), (33, .slice (some p76) (((nth live ((nth v21 x41.toNat).toNat))).length) c64), (34, .int .i64 (((nth live ((nth v21 x41.toNat).toNat))).length : Int)), (35, .int .i64 x70), (36, .bool (decide (x70 < (((nth live ((nth v21 x41.toNat).toNat))).length : Int)))), (37, .int .i64 x70), (38, .pointer (some (p76.add (x70.toNat * 1)))), (39, .bool (nth (nth live ((nth v21 x41.toNat).toNat)) x70.toNat)), (10, .int .i64 x70), (11, .bool (nth (nth live ((nth v21 x41.toNat).toNat)) x70.toNat)), (40, .slice (some ⟨b80, o81, none⟩) (((l68.set x70.toNat (nth (nth live ((nth v21 x41.toNat).toNat)) x70.toNat))).length) c15), (41, .int .i64 x70), (42, .slice (some ⟨b80, o81, none⟩) (((l68.set x70.toNat (nth (nth live ((nth v21 x41.toNat).toNat)) x70.toNat))).length) c15), (43, .int .i64 x70), (44, .pointer (some ((⟨b80, o81, none⟩ : Addr).add (x70.toNat * 1)))), (45, .bool (nth l68 x70.toNat)), (46, .bool (nth l68 x70.toNat)), (47, .bool (nth (nth live ((nth v21 x41.toNat).toNat)) x70.toNat)), (48, .bool (nth (nth live ((nth v21 x41.toNat).toNat)) x70.toNat)), (49, .pointer (some ((⟨b80, o81, none⟩ : Addr).add (x70.toNat * 1))))]) ⟨rfl, rfl, (congrArg (fun q : Nat => some (Value.slice (some ⟨b80, o81, none⟩) q c15)) (Eq.symm List.length_set)), rfl, rfl, rfl, rfl, rfl, rfl, rfl, rfl, rfl, rfl, rfl, rfl, (congrArg (fun q : Nat => some (Value.slice (some ⟨b80, o81, none⟩) q c15)) (Eq.symm List.length_set)), rfl, (congrArg (fun q : Nat => some (Value.slice (some ⟨b80, o81, none⟩) q c15)) (Eq.symm List.length_set)), rfl, rfl, rfl, rfl, rfl, rfl, rfl, tz⟩ (ek' (ez (E' := [(1, .slice (some p61) live.length c_live), (6, .slice none 0 0), (7, .slice (some ⟨b80, o81, none⟩) (((l68.set x70.toNat (nth (nth live ((nth v21 x41.toNat).toNat)) x70.toNat))).length) c15), (24, .slice (some ⟨b55, o56, none⟩) v21.length c27), (25, .int .i64 (v21.length : Int)), (26, .int .i64 x41), (33, .slice (some p76) (((nth live ((nth v21 x41.toNat).toNat))).length) c64), (34, .int .i64 (((nth live ((nth v21 x41.toNat).toNat))).length : Int)), (35, .int .i64 x70)]) ⟨rfl, rfl, rfl, rfl, rfl, rfl, rfl, rfl, rfl, tz⟩ (et (cr (ry hO rfl (y_add (wI (x70 + 1)) tz rfl rfl rfl) (mv hO rfl rfl (rj ?_))))))))
    have hO := hO.front1
    exact eo ⟨rs90, (l68.set x70.toNat (nth (nth live ((nth v21 x41.toNat).toNat)) x70.toNat)), wI (x70 + 1), rfl, r91, hs, hO⟩ ⟨rfl, rfl, rfl, rfl, rfl, rfl, rfl, rfl, rfl, tz⟩ (Nat.lt_succ_self _)
   replace hs := cond_f h74 hs
   exact cx (eh (eh (ej (ek' (ej' ⟨rs67, l68, rfl, r69, inl_s hs, hO⟩ ⟨rfl, rfl, rfl, rfl, rfl, rfl, tz⟩)))))
  rintro _ w53 ⟨rs46, l47, rfl, r48, ho52, hO⟩
  replace hs := Aft.l hj51 ho52
  try dsimp only at hs
  exact et (cr (ry hO rfl (y_add (wI (x41 + 1)) tz rfl rfl rfl) (mv hO rfl rfl (rj (eo ⟨rs46, l47, wI (x41 + 1), rfl, r48, hs, hO⟩ ⟨rfl, rfl, rfl, rfl, rfl, rfl, tz⟩ (Nat.lt_succ_self _))))))
 replace hs := cond_f h45 hs
 refine cx (eh (eh (ej (et (cq (cr (mv hO rfl rfl (as_ hO rfl rfl (rj ?_)))))))))
 refine et (ct (er (.inl rfl) rfl rfl ?_))
 have hO := hO.forget
 obtain rfl := o_ hs
 exact ⟨M24, b14, c15, rs38, hle37, hO, rfl, r40⟩

def s_here_L1 (n : Nat) (v141 : (List (Ptr Src))) : Nat → (List Bool) → Int → Option ((List Bool) ⊕ (List Bool))
  | 0, _, _ => none
  | fu165 + 1, l162, x164 => cond (decide (x164 < (v141.length : Int))) (cond (inb x164 v141.length) (cond (!(((nth v141 x164.toNat).val).cst)) (cond (inb (((nth v141 x164.toNat).val).v) l162.length) (s_here_L1 n v141 fu165 (l162.set ((((nth v141 x164.toNat).val).v).toNat) true) (wI (x164 + 1))) none) (s_here_L1 n v141 fu165 l162 (wI (x164 + 1)))) none) (some (.inl l162))
def s_here_L0 (n : Nat) (c : CodeD) (at_ : Int) : Nat → (List Bool) → Int → Option (List Bool)
  | 0, _, _ => none
  | fu89 + 1, l86, x88 => cond (decide (x88 < (((rp (nth c.code at_.toNat))).length : Int))) (cond (inb x88 (rp (nth c.code at_.toNat)).length) (cond (inb ((nth (rp (nth c.code at_.toNat)) x88.toNat).val) l86.length) (s_here_L0 n c at_ fu89 (l86.set (((nth (rp (nth c.code at_.toNat)) x88.toNat).val).toNat) true) (wI (x88 + 1))) none) none) (andj (cond (leavesB ((nth c.code at_.toNat).kind)) (cond (inb ((nth c.code at_.toNat).mt) c.metas.length) ((s_Srcs n (nth c.metas (((nth c.code at_.toNat).mt).toNat))).bind fun v141 => s_here_L1 n v141 n l86 0) none) (some (.inl l86))) fun l108 => some l108)
def s_here (n : Nat) (c : CodeD) (live : List (List Bool)) (at_ : Int) : Option (List Bool) := cond (inb at_ c.code.length) ((s_after n c live at_).bind fun v15 => andj (cond (setsB ((nth c.code at_.toNat).kind)) (cond (inb ((nth c.code at_.toNat).r) v15.length) (some (.inl (v15.set (((nth c.code at_.toNat).r).toNat) false))) none) (some (.inl v15))) fun l33 => s_here_L0 n c at_ n l33 0) none
set_option maxHeartbeats 6400000 in
theorem c_here {n : Nat} {p_c : Addr} {b_live : Option Addr} {c_live : Nat} (c : CodeD) (live : List (List Bool)) (at_ : Int) {r : (List Bool)} {w : World} {M : Mem} {bs : List (Nat × Obj)} (h_c : PAt M p_c c) (h_live : RdS M b_live c_live live) (hs : s_here n c live at_ = some r) (hO : Own w M (bs)) :
    Calls Tryd.prog 41 #[.pointer (some p_c), .slice b_live live.length c_live, .int .i64 at_] w (fun e w' => ∃ M' : Mem, ∃ b1 : Option Addr, ∃ c2 : Nat, ∃ rs3 : List (Nat × Obj), Mem.le M M' ∧ Own w' M' (rs3 ++ bs) ∧ e = .returned (.slice b1 r.length c2) ∧ Rw M' rs3 b1 c2 r) := by
 unfold s_here at hs
 refine ce (vs := [.pointer (some p_c), .slice b_live live.length c_live, .int .i64 at_]) (n := 80) Tryd.func41 rfl rfl rfl (cq (cr (as_ hO rfl rfl (rj (et (cq (cr (mv hO rfl rfl (nc hO rfl rfl ?_)))))))))
 refine fa tf_28_2 hO rfl rfl ?_
 obtain ⟨_, at11, b5, c6, b8, c9, rfl, s7, s10⟩ := id h_c
 refine lc tl_25 at11 2 rfl hO rfl rfl (mv hO rfl rfl ?_)
 obtain ⟨hg12, hs⟩ := grd hs
 obtain ⟨p13, rfl, _⟩ := RdS.get s7 at_.toNat (by exact ib hg12)
 have hO : Own w M (bs) := by assumption
 have q14 : PAt M (p13.add (at_.toNat * 9)) (nth c.code at_.toNat) := RdS.at s7 at_.toNat (by exact ib hg12)
 refine ry hO rfl (yi ts_25 tz rfl rfl (by exact inb_0 hg12) (by exact inb_lt hg12)) (as_ hO rfl rfl (rj (et (cq (cr (mv hO rfl rfl (mv hO rfl rfl (mv hO rfl rfl ?_))))))))
 obtain ⟨v15, hv16, hs⟩ := bind_s hs
 refine rd' tz (oc (vs := [.pointer (some p_c), .slice b_live live.length c_live, .int .i64 at_]) tcall_28 rfl rfl (c_after c live at_ h_c h_live hv16 hO) ?_)
 rintro _ w17 ⟨M18, b20, c21, rs22, le19, hO, rfl, r23⟩
 refine ⟨_, rfl, ?_⟩
 have h24 := h_c.mono le19
 have at25 := at11.mono le19
 have s26 := s7.mono le19
 have s27 := s10.mono le19
 have h28 := h_live.mono le19
 have q29 := q14.mono le19
 have hle30 := le19
 have hO : Own _ M18 (rs22 ++ bs) := hO
 refine as_ hO rfl rfl (rj (ez (E' := [(0, .pointer (some p_c)), (6, .slice none 0 0), (7, .pointer (some (p13.add (at_.toNat * 9)))), (8, .slice b20 v15.length c21)]) ⟨rfl, rfl, rfl, rfl, tz⟩ (et (cq ?_))))
 obtain ⟨o36, hs, hj38⟩ := andj_s hs
 refine cg_join (fun E' w' => ∃ Mi31 : Mem, ∃ rs32 : List (Nat × Obj), ∃ l33 : List Bool, E' = [(0, .pointer (some p_c)), (6, .slice none 0 0), (7, .pointer (some (p13.add (at_.toNat * 9)))), (8, .slice b20 l33.length c21)] ∧ Mem.le M18 Mi31 ∧ Rw Mi31 rs32 b20 c21 l33 ∧ o36 = .inl l33 ∧ Own w' Mi31 (rs32 ++ bs)) ?_ ?_
 ·
  have le41 := mr M18
  refine cq (cr (mv hO rfl rfl (nc hO rfl rfl (fa tf_38_0 hO rfl rfl ?_))))
  obtain ⟨_, at45, b42, c43, rfl, s44⟩ := id q29
  refine lc tl_3 at45 0 rfl hO rfl rfl (rd' tz (oc (vs := [.int .i64 ((nth c.code at_.toNat).kind)]) tcall_36 rfl rfl (c_Sets ((nth c.code at_.toNat).kind)  hO) ?_))
  rintro _ w46 ⟨M47, _, le48, hO, rfl, rfl⟩
  refine ⟨_, rfl, ?_⟩
  have h49 := h24.mono le48
  have at50 := at25.mono le48
  have s51 := s26.mono le48
  have s52 := s27.mono le48
  have q53 := q29.mono le48
  have at54 := at45.mono le48
  have s55 := s44.mono le48
  have r56 := r23.mono le48
  have hle57 := m_ hle30 le48
  have ch58 := m_ le41 le48
  refine rj (et (cd rfl (fun h59 => ?_) (fun h59 => ?_)))
  ·
   replace hs := cond_t h59 hs
   refine cr (mv hO rfl rfl (mv hO rfl rfl (nc hO rfl rfl (fa tf_38_1 hO rfl rfl (lc tl_3 at54 1 rfl hO rfl rfl ?_)))))
   obtain ⟨hg60, hs⟩ := grd hs
   obtain ⟨b61, o62, rfl⟩ := Rw.ofs r56 (i := ((nth c.code at_.toNat).r).toNat) (by exact ib hg60)
   have hO : Own w46 M47 (rs22 ++ bs) := by assumption
   refine ry hO rfl (yi ts_50 tz rfl rfl (by exact inb_0 hg60) (by exact inb_lt hg60)) (rd' tz (og_storeR (i := (((nth c.code at_.toNat).r).toNat)) (x := false) (vs := [.bool false]) hO r56 (by exact ib hg60) tn_4 rfl rfl rfl rfl rfl (fun rs64 w63 hO r65 => ?_)))
   exact rj (ez (E' := [(0, .pointer (some p_c)), (6, .slice none 0 0), (7, .pointer (some (p13.add (at_.toNat * 9)))), (8, .slice (some ⟨b61, o62, none⟩) (((v15.set (((nth c.code at_.toNat).r).toNat) false)).length) c21), (23, .pointer (some (p13.add (at_.toNat * 9)))), (24, .pointer (some (p13.add (at_.toNat * 9)))), (25, .pointer (some ((p13.add (at_.toNat * 9)).add 0))), (26, .int .i64 ((nth c.code at_.toNat).kind)), (27, .bool (setsB ((nth c.code at_.toNat).kind))), (28, .slice (some ⟨b61, o62, none⟩) (((v15.set (((nth c.code at_.toNat).r).toNat) false)).length) c21), (29, .pointer (some (p13.add (at_.toNat * 9)))), (30, .pointer (some (p13.add (at_.toNat * 9)))), (31, .pointer (some ((p13.add (at_.toNat * 9)).add 1))), (32, .int .i64 ((nth c.code at_.toNat).r)), (33, .pointer (some ((⟨b61, o62, none⟩ : Addr).add ((((nth c.code at_.toNat).r).toNat) * 1))))]) ⟨rfl, rfl, rfl, (congrArg (fun q : Nat => some (Value.slice (some ⟨b61, o62, none⟩) q c21)) (Eq.symm List.length_set)), rfl, rfl, rfl, rfl, rfl, (congrArg (fun q : Nat => some (Value.slice (some ⟨b61, o62, none⟩) q c21)) (Eq.symm List.length_set)), rfl, rfl, rfl, rfl, rfl, tz⟩ (ej' ⟨M47, rs64, (v15.set (((nth c.code at_.toNat).r).toNat) false), rfl, ch58, r65, inl_s hs, hO⟩ ⟨rfl, rfl, rfl, rfl, tz⟩))
  replace hs := cond_f h59 hs
  exact cp (ej' ⟨M47, rs22, v15, rfl, ch58, r56, inl_s hs, hO⟩ ⟨rfl, rfl, rfl, rfl, tz⟩)
 rintro _ w40 ⟨Mi31, rs32, l33, rfl, le35, r34, ho39, hO⟩
 replace hs := Aft.l hj38 ho39
 try dsimp only at hs
 have h66 := h24.mono le35
 have at67 := at25.mono le35
 have s68 := s26.mono le35
 have s69 := s27.mono le35
 have q70 := q29.mono le35
 have hle71 := m_ hle30 le35
 refine et (cq (cq (cr (mv hO rfl rfl (rd' tz (oc (vs := [.pointer (some (p13.add (at_.toNat * 9)))]) tcall_34 rfl rfl (c_Reads (nth c.code at_.toNat) q70 hO) ?_))))))
 rintro _ w72 ⟨M73, _, le74, hO, rfl, ⟨b75, c76, rfl, s77⟩⟩
 refine ⟨_, rfl, ?_⟩
 have h78 := h66.mono le74
 have at79 := at67.mono le74
 have s80 := s68.mono le74
 have s81 := s69.mono le74
 have q82 := q70.mono le74
 have r83 := r34.mono le74
 have hle84 := m_ hle71 le74
 refine ln ts_81 hO rfl rfl (mv hO rfl rfl (rj (et (cb (ci (fun m91 E' w' => ∃ rs85 : List (Nat × Obj), ∃ l86 : List Bool, ∃ x88 : Int, E' = [(0, .pointer (some p_c)), (6, .slice none 0 0), (7, .pointer (some (p13.add (at_.toNat * 9)))), (8, .slice b20 l86.length c21), (35, .slice b75 (((rp (nth c.code at_.toNat))).length) c76), (36, .int .i64 (((rp (nth c.code at_.toNat))).length : Int)), (37, .int .i64 x88)] ∧ Rw M73 rs85 b20 c21 l86 ∧ s_here_L0 n c at_ m91 l86 x88 = some r ∧ Own w' M73 (rs85 ++ bs)) (m0 := n) ⟨rs32, l33, 0, rfl, r83, hs, hO⟩ ⟨rfl, rfl, rfl, rfl, rfl, rfl, rfl, tz⟩ ?_)))))
 rintro fu89 _ w90 ⟨rs85, l86, x88, rfl, r87, hs, hO⟩
 rcases fu89 with _ | fu89
 ·
  simp [s_here_L0] at hs
 rw [s_here_L0] at hs
 refine cq (cr (ry hO rfl (yv tz rfl rfl) (rj (et (cq (cd rfl (fun h92 => ?_) (fun h92 => ?_)))))))
 ·
  replace hs := cond_t h92 hs
  refine cp (et (cq (cb (cq (cr ?_)))))
  obtain ⟨hg93, hs⟩ := grd hs
  obtain ⟨p94, rfl, _⟩ := RdS.get s77 x88.toNat (by exact ib hg93)
  have hO : Own w90 M73 (rs85 ++ bs) := by assumption
  have q95 : PAt M73 (p94.add (x88.toNat * 1)) (nth (rp (nth c.code at_.toNat)) x88.toNat) := RdS.at s77 x88.toNat (by exact ib hg93)
  refine ry hO rfl (yi ts_81 tz rfl rfl (by exact inb_0 hg93) (by exact inb_lt hg93)) ?_
  obtain ⟨_, at98, p96, rfl, q97⟩ := id q95
  refine ry hO rfl (yl tl_83 tz rfl (fun _ h => at98.cell0 h rfl)) (as_ hO rfl rfl (rj (et (cr (mv hO rfl rfl (mv hO rfl rfl (nc hO rfl rfl ?_)))))))
  obtain ⟨_, at99, rfl⟩ := id q97
  refine ry hO rfl (yl tl_3 tz rfl (fun _ h => at99.cell0 h rfl)) ?_
  obtain ⟨hg100, hs⟩ := grd hs
  obtain ⟨b101, o102, rfl⟩ := Rw.ofs r87 (i := ((nth (rp (nth c.code at_.toNat)) x88.toNat).val).toNat) (by exact ib hg100)
  have hO : Own w90 M73 (rs85 ++ bs) := by assumption
  refine ry hO rfl (yi ts_50 tz rfl rfl (by exact inb_0 hg100) (by exact inb_lt hg100)) (rd' tz (og_storeR (i := (((nth (rp (nth c.code at_.toNat)) x88.toNat).val).toNat)) (x := true) (vs := [.bool true]) hO r87 (by exact ib hg100) tn_4 rfl rfl rfl rfl rfl (fun rs104 w103 hO r105 => ?_)))
  exact rj (ez (E' := [(0, .pointer (some p_c)), (6, .slice none 0 0), (7, .pointer (some (p13.add (at_.toNat * 9)))), (8, .slice (some ⟨b101, o102, none⟩) (((l86.set (((nth (rp (nth c.code at_.toNat)) x88.toNat).val).toNat) true)).length) c21), (35, .slice (some p94) (((rp (nth c.code at_.toNat))).length) c76), (36, .int .i64 (((rp (nth c.code at_.toNat))).length : Int)), (37, .int .i64 x88), (38, .bool (decide (x88 < (((rp (nth c.code at_.toNat))).length : Int)))), (39, .pointer (some (p94.add (x88.toNat * 1)))), (40, .pointer (some p96)), (10, .pointer (some p96)), (41, .slice (some ⟨b101, o102, none⟩) (((l86.set (((nth (rp (nth c.code at_.toNat)) x88.toNat).val).toNat) true)).length) c21), (42, .pointer (some p96)), (43, .pointer (some p96)), (44, .int .i64 ((nth (rp (nth c.code at_.toNat)) x88.toNat).val)), (45, .pointer (some ((⟨b101, o102, none⟩ : Addr).add ((((nth (rp (nth c.code at_.toNat)) x88.toNat).val).toNat) * 1))))]) ⟨rfl, rfl, rfl, (congrArg (fun q : Nat => some (Value.slice (some ⟨b101, o102, none⟩) q c21)) (Eq.symm List.length_set)), rfl, rfl, rfl, rfl, rfl, rfl, rfl, (congrArg (fun q : Nat => some (Value.slice (some ⟨b101, o102, none⟩) q c21)) (Eq.symm List.length_set)), rfl, rfl, rfl, rfl, tz⟩ (ek' (ez (E' := [(0, .pointer (some p_c)), (6, .slice none 0 0), (7, .pointer (some (p13.add (at_.toNat * 9)))), (8, .slice (some ⟨b101, o102, none⟩) (((l86.set (((nth (rp (nth c.code at_.toNat)) x88.toNat).val).toNat) true)).length) c21), (35, .slice (some p94) (((rp (nth c.code at_.toNat))).length) c76), (36, .int .i64 (((rp (nth c.code at_.toNat))).length : Int)), (37, .int .i64 x88)]) ⟨rfl, rfl, rfl, rfl, rfl, rfl, rfl, tz⟩ (et (cr (ry hO rfl (y_add (wI (x88 + 1)) tz rfl rfl rfl) (mv hO rfl rfl (rj (eo ⟨rs104, (l86.set (((nth (rp (nth c.code at_.toNat)) x88.toNat).val).toNat) true), wI (x88 + 1), rfl, r105, hs, hO⟩ ⟨rfl, rfl, rfl, rfl, rfl, rfl, rfl, tz⟩ (Nat.lt_succ_self _))))))))))
 replace hs := cond_f h92 hs
 refine cx (eh (eh (ej (et (cq ?_)))))
 obtain ⟨o111, hs, hj113⟩ := andj_s hs
 refine cg_join (fun E' w' => ∃ Mi106 : Mem, ∃ rs107 : List (Nat × Obj), ∃ l108 : List Bool, E' = [(6, .slice none 0 0), (8, .slice b20 l108.length c21)] ∧ Mem.le M73 Mi106 ∧ Rw Mi106 rs107 b20 c21 l108 ∧ o111 = .inl l108 ∧ Own w' Mi106 (rs107 ++ bs)) ?_ ?_
 ·
  have le116 := mr M73
  refine cq (cr (mv hO rfl rfl (nc hO rfl rfl (fa tf_38_0 hO rfl rfl ?_))))
  obtain ⟨_, at120, b117, c118, rfl, s119⟩ := id q82
  refine lc tl_3 at120 0 rfl hO rfl rfl (rd' tz (oc (vs := [.int .i64 ((nth c.code at_.toNat).kind)]) tcall_33 rfl rfl (c_Leaves ((nth c.code at_.toNat).kind)  hO) ?_))
  rintro _ w121 ⟨M122, _, le123, hO, rfl, rfl⟩
  refine ⟨_, rfl, ?_⟩
  have h124 := h78.mono le123
  have at125 := at79.mono le123
  have s126 := s80.mono le123
  have s127 := s81.mono le123
  have q128 := q82.mono le123
  have at129 := at120.mono le123
  have s130 := s119.mono le123
  have r131 := r87.mono le123
  have s132 := s77.mono le123
  have hle133 := m_ hle84 le123
  have ch134 := m_ le116 le123
  refine rj (ez (E' := [(0, .pointer (some p_c)), (6, .slice none 0 0), (7, .pointer (some (p13.add (at_.toNat * 9)))), (8, .slice b20 l86.length c21), (51, .bool (leavesB ((nth c.code at_.toNat).kind)))]) ⟨rfl, rfl, rfl, rfl, rfl, tz⟩ (et (cd rfl (fun h135 => ?_) (fun h135 => ?_))))
  ·
   replace hs := cond_t h135 hs
   refine cq ?_
   obtain ⟨w136, hO, ew137⟩ : ∃ w', Own w' M122 (rs85 ++ bs) ∧ { w121 with drawn := w121.drawn + 1 } = w' := ⟨_, hO.drawn _, rfl⟩
   refine cw (S := fun w => Own w M122 (rs85 ++ bs)) (.take 0 (.take 1 (.take 2 (.take 3 (.take 4 (.take 5 (.take 6 (.take 7 (.take 8 (.take 11 (.one 9 (.take 10 .done)))))))))))) 12 tm (by kernel_rfl) ew137 hO (hm rfl rfl (fun _ _ _ h => h) rfl (hn rfl rfl (fun _ _ _ h => h) rfl (hfa tf_28_3 rfl rfl (fun _ _ _ h => h) rfl (hlc tl_26 at125 3 rfl rfl rfl (fun _ _ _ h => h) rfl (hm rfl rfl (fun _ _ _ h => h) rfl (hn rfl rfl (fun _ _ _ h => h) rfl (hfa tf_38_7 rfl rfl (fun _ _ _ h => h) rfl (hlc tl_3 at129 7 rfl rfl rfl (fun _ _ _ h => h) rfl ?_))))))))
   obtain ⟨hg138, hs⟩ := grd hs
   obtain ⟨p139, rfl, _⟩ := RdS.get s127 (((nth c.code at_.toNat).mt).toNat) (by exact ib hg138)
   have hO : Own w136 M122 (rs85 ++ bs) := by assumption
   have q140 : PAt M122 (p139.add ((((nth c.code at_.toNat).mt).toNat) * 1)) (nth c.metas (((nth c.code at_.toNat).mt).toNat)) := RdS.at s127 (((nth c.code at_.toNat).mt).toNat) (by exact ib hg138)
   refine gy rfl rfl (fun _ _ _ h => h) (yi ts_26 tz rfl rfl (by exact inb_0 hg138) (by exact inb_lt hg138)) (hm rfl rfl (fun _ _ _ h => h) rfl ?_)
   obtain ⟨v141, hv142, hs⟩ := bind_s hs
   refine hn' rfl tz (oc (vs := [.pointer (some (p139.add ((((nth c.code at_.toNat).mt).toNat) * 1)))]) tcall_56 rfl rfl (c_Srcs (nth c.metas (((nth c.code at_.toNat).mt).toNat)) q140 hv142 hO) ?_)
   rintro _ w143 ⟨M144, b146, c147, rs148, le145, hO, rfl, r149⟩
   refine ⟨_, rfl, ?_⟩
   have h150 := h124.mono le145
   have at151 := at125.mono le145
   have s152 := s126.mono le145
   have s153 := s127.mono le145
   have q154 := q128.mono le145
   have at155 := at129.mono le145
   have s156 := s130.mono le145
   have r157 := r131.mono le145
   have q158 := q140.mono le145
   have hle159 := m_ hle133 le145
   have ch160 := m_ ch134 le145
   have hO : Own _ M144 (rs148 ++ (rs85 ++ bs)) := hO
   refine kg_s (hO.forget.less le145) (gy rfl rfl (fun _ _ _ h => h) (y_len ts_111 tz rfl) (gd (ez (E' := [(6, .slice none 0 0), (8, .slice b20 l86.length c21), (63, .int .i64 0), (61, .slice b146 v141.length c147), (62, .int .i64 (v141.length : Int))]) ⟨rfl, rfl, rfl, rfl, rfl, tz⟩ (et (cb (ci (fun m167 E' w' => ∃ rs161 : List (Nat × Obj), ∃ l162 : List Bool, ∃ x164 : Int, E' = [(6, .slice none 0 0), (8, .slice b20 l162.length c21), (61, .slice b146 v141.length c147), (62, .int .i64 (v141.length : Int)), (63, .int .i64 x164)] ∧ Rw M144 rs161 b20 c21 l162 ∧ s_here_L1 n v141 m167 l162 x164 = some o111 ∧ Own w' M144 (rs148 ++ (rs161 ++ bs))) (m0 := n) ⟨rs85, l86, 0, rfl, r157, hs, hO⟩ ⟨rfl, rfl, rfl, rfl, rfl, tz⟩ ?_))))))
   rintro fu165 _ w166 ⟨rs161, l162, x164, rfl, r163, hs, hO⟩
   rcases fu165 with _ | fu165
   ·
    simp [s_here_L1] at hs
   rw [s_here_L1] at hs
   refine cq (cr (ry hO rfl (yv tz rfl rfl) (rj (et (cq (cd rfl (fun h168 => ?_) (fun h168 => ?_)))))))
   ·
    replace hs := cond_t h168 hs
    refine cp (et (cq (cb (cq (cr ?_)))))
    obtain ⟨hg169, hs⟩ := grd hs
    obtain ⟨b170, o171, rfl⟩ := Rw.ofs r149 (i := x164.toNat) (by exact ib hg169)
    have hO : Own w166 M144 (rs148 ++ (rs161 ++ bs)) := by assumption
    refine ry hO rfl (yi ts_111 tz rfl rfl (by exact inb_0 hg169) (by exact inb_lt hg169)) ?_
    obtain ⟨vs172, hr173, hc174⟩ := Rw.cells (t := rs161 ++ bs) r149 x164.toNat (by exact ib hg169)
    obtain ⟨p175, rfl, q176⟩ := hr173
    refine ry hO rfl (yl tl_114 tz rfl (fun w h => hc174 w h 0 _ rfl)) (as_ hO rfl rfl (rj (et (cq (cr (mv hO rfl rfl (nc hO rfl rfl (fa tf_95_0 hO rfl rfl ?_))))))))
    obtain ⟨_, at177, rfl⟩ := id q176
    refine lc tl_4 at177 0 rfl hO rfl rfl (ry hO rfl (yt tz rfl) (rj (ez (E' := [(6, .slice none 0 0), (8, .slice b20 l162.length c21), (61, .slice (some ⟨b170, o171, none⟩) v141.length c147), (62, .int .i64 (v141.length : Int)), (63, .int .i64 x164), (12, .pointer (some p175)), (71, .bool (!(((nth v141 x164.toNat).val).cst)))]) ⟨rfl, rfl, rfl, rfl, rfl, rfl, rfl, tz⟩ (et (cd rfl (fun h178 => ?_) (fun h178 => ?_))))))
    ·
     replace hs := cond_t h178 hs
     have h179 : (((nth v141 x164.toNat).val).cst) = false := not_t h178
     refine cr (mv hO rfl rfl (mv hO rfl rfl (nc hO rfl rfl (fa tf_95_1 hO rfl rfl (lc tl_3 at177 1 rfl hO rfl rfl ?_)))))
     obtain ⟨hg180, hs⟩ := grd hs
     obtain ⟨b181, o182, rfl⟩ := Rw.ofs r163 (i := (((nth v141 x164.toNat).val).v).toNat) (by exact ib hg180)
     have hO : Own w166 M144 (rs148 ++ (rs161 ++ bs)) := by assumption
     refine ry hO rfl (yi ts_50 tz rfl rfl (by exact inb_0 hg180) (by exact inb_lt hg180)) ?_
     have hO := hO.front1
     refine rd' tz (og_storeR (i := ((((nth v141 x164.toNat).val).v).toNat)) (x := true) (vs := [.bool true]) hO r163 (by exact ib hg180) tn_4 rfl rfl rfl rfl rfl (fun rs184 w183 hO r185 => ?_))
     refine rj (ez (E' := [(6, .slice none 0 0), (8, .slice (some ⟨b181, o182, none⟩) (((l162.set ((((nth v141 x164.toNat).val).v).toNat) true)).length) c21), (61, .slice (some ⟨b170, o171, none⟩) v141.length c147), (62, .int .i64 (v141.length : Int)), (63, .int .i64 x164), (12, .pointer (some p175)), (71, .bool (!(((nth v141 x164.toNat).val).cst))), (72, .slice (some ⟨b181, o182, none⟩) (((l162.set ((((nth v141 x164.toNat).val).v).toNat) true)).length) c21), (73, .pointer (some p175)), (74, .pointer (some p175)), (75, .pointer (some (p175.add 1))), (76, .int .i64 (((nth v141 x164.toNat).val).v)), (77, .pointer (some ((⟨b181, o182, none⟩ : Addr).add (((((nth v141 x164.toNat).val).v).toNat) * 1))))]) ⟨rfl, (congrArg (fun q : Nat => some (Value.slice (some ⟨b181, o182, none⟩) q c21)) (Eq.symm List.length_set)), rfl, rfl, rfl, rfl, rfl, (congrArg (fun q : Nat => some (Value.slice (some ⟨b181, o182, none⟩) q c21)) (Eq.symm List.length_set)), rfl, rfl, rfl, rfl, rfl, tz⟩ (ek' (ez (E' := [(6, .slice none 0 0), (8, .slice (some ⟨b181, o182, none⟩) (((l162.set ((((nth v141 x164.toNat).val).v).toNat) true)).length) c21), (61, .slice (some ⟨b170, o171, none⟩) v141.length c147), (62, .int .i64 (v141.length : Int)), (63, .int .i64 x164)]) ⟨rfl, rfl, rfl, rfl, rfl, tz⟩ (et (cr (ry hO rfl (y_add (wI (x164 + 1)) tz rfl rfl rfl) (mv hO rfl rfl (rj ?_))))))))
     have hO := hO.front1
     exact eo ⟨rs184, (l162.set ((((nth v141 x164.toNat).val).v).toNat) true), wI (x164 + 1), rfl, r185, hs, hO⟩ ⟨rfl, rfl, rfl, rfl, rfl, tz⟩ (Nat.lt_succ_self _)
    replace hs := cond_f h178 hs
    have h186 : (((nth v141 x164.toNat).val).cst) = true := not_f h178
    exact cp (ek' (et (cr (ry hO rfl (y_add (wI (x164 + 1)) tz rfl rfl rfl) (mv hO rfl rfl (rj (eo ⟨rs161, l162, wI (x164 + 1), rfl, r163, hs, hO⟩ ⟨rfl, rfl, rfl, rfl, rfl, tz⟩ (Nat.lt_succ_self _))))))))
   replace hs := cond_f h168 hs
   refine cx (eh (eh (ej ?_)))
   have hO := hO.forget
   exact ej' ⟨M144, rs161, l162, rfl, ch160, r163, inl_s hs, hO⟩ ⟨rfl, rfl, tz⟩
  replace hs := cond_f h135 hs
  exact cp (ej' ⟨M122, rs85, l86, rfl, ch134, r131, inl_s hs, hO⟩ ⟨rfl, rfl, tz⟩)
 rintro _ w115 ⟨Mi106, rs107, l108, rfl, le110, r109, ho114, hO⟩
 replace hs := Aft.l hj113 ho114
 try dsimp only at hs
 have hle187 := m_ hle84 le110
 refine et (cq (cr (mv hO rfl rfl (as_ hO rfl rfl (rj (et (ct (er (.inl rfl) rfl rfl ?_))))))))
 obtain rfl := o_ hs
 exact ⟨Mi106, b20, c21, rs107, hle187, hO, rfl, r109⟩

def s_EqualBool_L0 (n : Nat) (a : List Bool) (b : List Bool) : Nat → Int → Option Bool
  | 0, _ => none
  | fu5 + 1, x4 => cond (decide (x4 < (a.length : Int))) (cond (inb x4 a.length) (cond (inb x4 b.length) (cond ((nth a x4.toNat) != (nth b x4.toNat)) (some false) (s_EqualBool_L0 n a b fu5 (wI (x4 + 1)))) none) none) (some true)
def s_EqualBool (n : Nat) (a : List Bool) (b : List Bool) : Option Bool := cond (!decide ((a.length : Int) = (b.length : Int))) (some false) (s_EqualBool_L0 n a b n 0)
theorem c_EqualBool {n : Nat} {b_a : Option Addr} {c_a : Nat} {b_b : Option Addr} {c_b : Nat} (a : List Bool) (b : List Bool) {r : Bool} {w : World} {M : Mem} {bs : List (Nat × Obj)} (h_a : RdS M b_a c_a a) (h_b : RdS M b_b c_b b) (hs : s_EqualBool n a b = some r) (hO : Own w M (bs)) :
    Calls Tryd.prog 42 #[.slice b_a a.length c_a, .slice b_b b.length c_b] w (fun e w' => ∃ M' : Mem, Mem.le M M' ∧ Own w' M' (bs) ∧ e = .returned (.bool r)) := by
 unfold s_EqualBool at hs
 refine ce (vs := [.slice b_a a.length c_a, .slice b_b b.length c_b]) (n := 26) Tryd.func42 rfl rfl rfl (cq (cr (as_ hO rfl rfl (rj (et (cq (cq (cr (mv hO rfl rfl ?_)))))))))
 refine ln ts_50 hO rfl rfl (mv hO rfl rfl (ln ts_50 hO rfl rfl (ry hO rfl (y_ne tz rfl rfl) (rj (et (cd rfl (fun h1 => ?_) (fun h1 => ?_)))))))
 ·
  replace hs := cond_t h1 hs
  have h2 : (decide ((a.length : Int) = (b.length : Int))) = false := not_t h1
  refine cq (cr (as_ hO rfl rfl (rj (et (ct (ew' (er (.inl rfl) rfl rfl ?_)))))))
  obtain rfl := o_ hs
  exact ⟨M, (mr _), hO, rfl⟩
 replace hs := cond_f h1 hs
 have h3 : (decide ((a.length : Int) = (b.length : Int))) = true := not_f h1
 refine cp (et (cq (cq (cr (mv hO rfl rfl (ln ts_50 hO rfl rfl (mv hO rfl rfl (rj (et ?_)))))))))
 refine cb (ci (fun m7 E' w' => ∃ x4 : Int, E' = [(0, .slice b_a a.length c_a), (1, .slice b_b b.length c_b), (4, .bool false), (12, .int .i64 (a.length : Int)), (13, .int .i64 x4)] ∧ s_EqualBool_L0 n a b m7 x4 = some r ∧ Own w' M (bs)) (m0 := n) ⟨0, rfl, hs, hO⟩ ⟨rfl, rfl, rfl, rfl, rfl, tz⟩ ?_)
 rintro fu5 _ w6 ⟨x4, rfl, hs, hO⟩
 rcases fu5 with _ | fu5
 ·
  simp [s_EqualBool_L0] at hs
 rw [s_EqualBool_L0] at hs
 refine cq (cr (ry hO rfl (yv tz rfl rfl) (rj (et (cq (cd rfl (fun h8 => ?_) (fun h8 => ?_)))))))
 ·
  replace hs := cond_t h8 hs
  refine cp (et (cq (cb (cq (cr (mv hO rfl rfl (as_ hO rfl rfl (rj (et ?_)))))))))
  refine cq ?_
  obtain ⟨w9, hO, ew10⟩ : ∃ w', Own w' M (bs) ∧ { w6 with drawn := w6.drawn + 1 } = w' := ⟨_, hO.drawn _, rfl⟩
  refine cw (S := fun w => Own w M (bs)) (.take 0 (.take 1 (.take 2 (.take 3 (.take 4 (.take 5 (.take 6 (.take 7 (.take 8 .done))))))))) 9 tm (by kernel_rfl) ew10 hO (hm rfl rfl (fun _ _ _ h => h) rfl (hm rfl rfl (fun _ _ _ h => h) rfl ?_))
  obtain ⟨hg11, hs⟩ := grd hs
  obtain ⟨p12, rfl, _⟩ := RdS.get h_a x4.toNat (by exact ib hg11)
  have hO : Own w9 M (bs) := by assumption
  have q13 : PAt M (p12.add (x4.toNat * 1)) (nth a x4.toNat) := RdS.at h_a x4.toNat (by exact ib hg11)
  refine gy rfl rfl (fun _ _ _ h => h) (yi ts_50 tz rfl rfl (by exact inb_0 hg11) (by exact inb_lt hg11)) ?_
  obtain ⟨_, at14, rfl⟩ := id q13
  refine gy rfl rfl (fun _ _ _ h => h) (yl tl_4 tz rfl (fun _ h => at14.cell0 h rfl)) (hm rfl rfl (fun _ _ _ h => h) rfl (hm rfl rfl (fun _ _ _ h => h) rfl ?_))
  obtain ⟨hg15, hs⟩ := grd hs
  obtain ⟨p16, rfl, _⟩ := RdS.get h_b x4.toNat (by exact ib hg15)
  have hO : Own w9 M (bs) := by assumption
  have q17 : PAt M (p16.add (x4.toNat * 1)) (nth b x4.toNat) := RdS.at h_b x4.toNat (by exact ib hg15)
  refine gy rfl rfl (fun _ _ _ h => h) (yi ts_50 tz rfl rfl (by exact inb_0 hg15) (by exact inb_lt hg15)) ?_
  obtain ⟨_, at18, rfl⟩ := id q17
  refine gy rfl rfl (fun _ _ _ h => h) (yl tl_4 tz rfl (fun _ h => at18.cell0 h rfl)) (gy rfl rfl (fun _ _ _ h => h) (y_bneq tu_4 tz rfl rfl) (gd (ez (E' := [(0, .slice (some p12) a.length c_a), (1, .slice (some p16) b.length c_b), (4, .bool false), (12, .int .i64 (a.length : Int)), (13, .int .i64 x4), (24, .bool ((nth a x4.toNat) != (nth b x4.toNat)))]) ⟨rfl, rfl, rfl, rfl, rfl, rfl, tz⟩ (et (cd rfl (fun h19 => ?_) (fun h19 => ?_))))))
  ·
   replace hs := cond_t h19 hs
   refine cq (cr (as_ hO rfl rfl (rj (et (ct (eg (ew' (ew' (eg ?_)))))))))
   refine ew' (er (.inl rfl) rfl rfl ?_)
   obtain rfl := o_ hs
   exact ⟨M, (mr _), hO, rfl⟩
  replace hs := cond_f h19 hs
  exact cp (ek' (et (cr (ry hO rfl (y_add (wI (x4 + 1)) tz rfl rfl rfl) (mv hO rfl rfl (rj (eo ⟨wI (x4 + 1), rfl, hs, hO⟩ ⟨rfl, rfl, rfl, rfl, rfl, tz⟩ (Nat.lt_succ_self _))))))))
 replace hs := cond_f h8 hs
 refine cx (eh (eh (ej (et (cq (cr (as_ hO rfl rfl (rj (et ?_)))))))))
 refine ct (er (.inl rfl) rfl rfl ?_)
 obtain rfl := o_ hs
 exact ⟨M, (mr _), hO, rfl⟩

def s_live_L2 (n : Nat) (c : CodeD) : Nat → (List (List Bool)) → Bool → Int → Option (((List (List Bool)) × Bool) ⊕ (List (List Bool)))
  | 0, _, _, _ => none
  | fu93 + 1, l88, y90, x91 => cond (decide (0 ≤ x91)) ((s_here n c l88 x91).bind fun v121 => cond (inb x91 l88.length) ((s_EqualBool n v121 (nth l88 x91.toNat)).bind fun v175 => cond (!v175) (s_live_L2 n c fu93 (l88.set x91.toNat v121) true (wI (x91 - 1))) (s_live_L2 n c fu93 l88 y90 (wI (x91 - 1)))) none) (some (.inl (l88, y90)))
def s_live_L1 (n : Nat) (c : CodeD) : Nat → (List (List Bool)) → Bool → Option (List (List Bool))
  | 0, _, _ => none
  | fu64 + 1, l60, y62 => cond y62 (andj (s_live_L2 n c n l60 false (wI ((l60.length : Int) - 1))) fun (l76, y78) => s_live_L1 n c fu64 l76 y78) (some l60)
def s_live_L0 (n : Nat) (c : CodeD) : Nat → (List (List Bool)) → Int → Option (List (List Bool))
  | 0, _, _ => none
  | fu24 + 1, l20, x22 => cond (decide (x22 < (((List.replicate (((c.code.length : Int) : Int).toNat) (([] : List Bool) : List Bool))).length : Int))) (cond (mkb c.regs 1) (cond (inb x22 l20.length) (s_live_L0 n c fu24 (l20.set x22.toNat (List.replicate ((c.regs : Int).toNat) (false : Bool))) (wI (x22 + 1))) none) none) (s_live_L1 n c n l20 true)
def s_live (n : Nat) (c : CodeD) : Option (List (List Bool)) := cond (mkb (c.code.length : Int) 24) (s_live_L0 n c n (List.replicate (((c.code.length : Int) : Int).toNat) (([] : List Bool) : List Bool)) 0) none
set_option maxHeartbeats 6400000 in
theorem c_live {n : Nat} {p_c : Addr} (c : CodeD) {r : (List (List Bool))} {w : World} {M : Mem} {bs : List (Nat × Obj)} (h_c : PAt M p_c c) (hs : s_live n c = some r) (hO : Own w M (bs)) :
    Calls Tryd.prog 22 #[.pointer (some p_c)] w (fun e w' => ∃ M' : Mem, ∃ b1 : Option Addr, ∃ c2 : Nat, ∃ rs3 : List (Nat × Obj), Mem.le M M' ∧ Own w' M' (rs3 ++ bs) ∧ e = .returned (.slice b1 r.length c2) ∧ Rw M' rs3 b1 c2 r) := by
 unfold s_live at hs
 refine ce (vs := [.pointer (some p_c)]) (n := 52) Tryd.func22 rfl rfl rfl (cq (cr (as_ hO rfl rfl (rj (et (cq (cr (mv hO rfl rfl (nc hO rfl rfl ?_)))))))))
 refine fa tf_28_2 hO rfl rfl ?_
 obtain ⟨_, at11, b5, c6, b8, c9, rfl, s7, s10⟩ := id h_c
 refine lc tl_25 at11 2 rfl hO rfl rfl (ln ts_25 hO rfl rfl ?_)
 obtain ⟨hg12, hs⟩ := grd hs
 refine rd' tz (og_make (α := List Bool) (x0 := ([] : List Bool)) tv_46 rfl ⟨none, 0, rfl, (RdS.nil _ _ _)⟩ (by decide) hO rfl rfl (by exact mkb_0 hg12) (by exact mkb_r hg12) (by decide) (by exact mkb_k hg12 (by decide)) (fun rs13 b14 c15 w16 hO r17 => ?_))
 refine as_ hO rfl rfl (rj (et (cq (cq (cr (mv hO rfl rfl (ln ts_46 hO rfl rfl (mv hO rfl rfl (rj ?_)))))))))
 refine et (cb (ci (fun m26 E' w' => ∃ Mi18 : Mem, ∃ rs19 : List (Nat × Obj), ∃ l20 : List (List Bool), ∃ x22 : Int, E' = [(0, .pointer (some p_c)), (2, .slice none 0 0), (3, .slice b14 l20.length c15), (15, .int .i64 (((List.replicate (((c.code.length : Int) : Int).toNat) (([] : List Bool) : List Bool))).length : Int)), (16, .int .i64 x22)] ∧ Mem.le M Mi18 ∧ Rw Mi18 rs19 b14 c15 l20 ∧ s_live_L0 n c m26 l20 x22 = some r ∧ Own w' Mi18 (rs19 ++ bs)) (m0 := n) ⟨M, rs13, (List.replicate (((c.code.length : Int) : Int).toNat) (([] : List Bool) : List Bool)), 0, rfl, (mr _), r17, hs, hO⟩ ⟨rfl, rfl, rfl, rfl, rfl, tz⟩ ?_))
 rintro fu24 _ w25 ⟨Mi18, rs19, l20, x22, rfl, le23, r21, hs, hO⟩
 rcases fu24 with _ | fu24
 ·
  simp [s_live_L0] at hs
 rw [s_live_L0] at hs
 have h27 := h_c.mono le23
 have at28 := at11.mono le23
 have s29 := s7.mono le23
 have s30 := s10.mono le23
 have hle31 := le23
 refine cq (cr (ry hO rfl (yv tz rfl rfl) (rj (et (cq (cd rfl (fun h32 => ?_) (fun h32 => ?_)))))))
 ·
  replace hs := cond_t h32 hs
  refine cp (et (cq (cb (cq (cr (mv hO rfl rfl (as_ hO rfl rfl (rj (et ?_)))))))))
  refine cr (mv hO rfl rfl (mv hO rfl rfl (mv hO rfl rfl (nc hO rfl rfl (fa tf_28_1 hO rfl rfl (lc tl_3 at28 1 rfl hO rfl rfl ?_))))))
  obtain ⟨hg33, hs⟩ := grd hs
  refine rd' tz (og_make (α := Bool) (x0 := false) tv_50 rfl rfl (by decide) hO rfl rfl (by exact mkb_0 hg33) (by exact mkb_r hg33) (by decide) (by exact mkb_k hg33 (by decide)) (fun rs34 b35 c36 w37 hO r38 => ?_))
  obtain ⟨hg39, hs⟩ := grd hs
  obtain ⟨b40, o41, rfl⟩ := Rw.ofs r21 (i := x22.toNat) (by exact ib hg39)
  have hO : Own w37 Mi18 (rs34 ++ (rs19 ++ bs)) := by assumption
  refine ry hO rfl (yi ts_46 tz rfl rfl (by exact inb_0 hg39) (by exact inb_lt hg39)) ?_
  obtain ⟨M42, le43, hO, hk44, hn45, hd46⟩ := Own.keeps (rs := rs34) hO
  have h47 := h27.mono le43
  have at48 := at28.mono le43
  have s49 := s29.mono le43
  have s50 := s30.mono le43
  have r51 := r21.mono le43
  have r52 := r38.mono le43
  have hle53 := m_ hle31 le43
  have ch54 := m_ le23 le43
  refine rd' tz (og_storeR (i := x22.toNat) (x := (List.replicate ((c.regs : Int).toNat) (false : Bool))) (vs := [.slice b35 (((List.replicate ((c.regs : Int).toNat) (false : Bool))).length) c36]) hO r51 (by exact ib hg39) tn_50 rfl rfl ⟨b35, c36, rfl, (Rw.kept r52 hk44 (mr _))⟩ rfl rfl (fun rs56 w55 hO r57 => ?_))
  exact rj (ez (E' := [(0, .pointer (some p_c)), (2, .slice none 0 0), (3, .slice (some ⟨b40, o41, none⟩) (((l20.set x22.toNat (List.replicate ((c.regs : Int).toNat) (false : Bool)))).length) c15), (15, .int .i64 (((List.replicate (((c.code.length : Int) : Int).toNat) (([] : List Bool) : List Bool))).length : Int)), (16, .int .i64 x22), (17, .bool (decide (x22 < (((List.replicate (((c.code.length : Int) : Int).toNat) (([] : List Bool) : List Bool))).length : Int)))), (18, .int .i64 x22), (4, .int .i64 x22), (19, .slice (some ⟨b40, o41, none⟩) (((l20.set x22.toNat (List.replicate ((c.regs : Int).toNat) (false : Bool)))).length) c15), (20, .int .i64 x22), (21, .pointer (some p_c)), (22, .pointer (some p_c)), (23, .pointer (some (p_c.add 1))), (24, .int .i64 c.regs), (25, .slice b35 (((List.replicate ((c.regs : Int).toNat) (false : Bool))).length) c36), (26, .pointer (some ((⟨b40, o41, none⟩ : Addr).add (x22.toNat * 1))))]) ⟨rfl, rfl, (congrArg (fun q : Nat => some (Value.slice (some ⟨b40, o41, none⟩) q c15)) (Eq.symm List.length_set)), rfl, rfl, rfl, rfl, rfl, (congrArg (fun q : Nat => some (Value.slice (some ⟨b40, o41, none⟩) q c15)) (Eq.symm List.length_set)), rfl, rfl, rfl, rfl, rfl, rfl, rfl, tz⟩ (ek' (ez (E' := [(0, .pointer (some p_c)), (2, .slice none 0 0), (3, .slice (some ⟨b40, o41, none⟩) (((l20.set x22.toNat (List.replicate ((c.regs : Int).toNat) (false : Bool)))).length) c15), (15, .int .i64 (((List.replicate (((c.code.length : Int) : Int).toNat) (([] : List Bool) : List Bool))).length : Int)), (16, .int .i64 x22)]) ⟨rfl, rfl, rfl, rfl, rfl, tz⟩ (et (cr (ry hO rfl (y_add (wI (x22 + 1)) tz rfl rfl rfl) (mv hO rfl rfl (rj (eo ⟨M42, rs56, (l20.set x22.toNat (List.replicate ((c.regs : Int).toNat) (false : Bool))), wI (x22 + 1), rfl, ch54, r57, hs, hO⟩ ⟨rfl, rfl, rfl, rfl, rfl, tz⟩ (Nat.lt_succ_self _))))))))))
 replace hs := cond_f h32 hs
 refine cx (eh (eh (ej (et (cq (cq (cr (as_ hO rfl rfl (rj ?_)))))))))
 refine et (cb (ci (fun m66 E' w' => ∃ Mi58 : Mem, ∃ rs59 : List (Nat × Obj), ∃ l60 : List (List Bool), ∃ y62 : Bool, E' = [(0, .pointer (some p_c)), (2, .slice none 0 0), (3, .slice b14 l60.length c15), (5, .bool y62)] ∧ Mem.le Mi18 Mi58 ∧ Rw Mi58 rs59 b14 c15 l60 ∧ s_live_L1 n c m66 l60 y62 = some r ∧ Own w' Mi58 (rs59 ++ bs)) (m0 := n) ⟨Mi18, rs19, l20, true, rfl, (mr _), r21, hs, hO⟩ ⟨rfl, rfl, rfl, rfl, tz⟩ ?_))
 rintro fu64 _ w65 ⟨Mi58, rs59, l60, y62, rfl, le63, r61, hs, hO⟩
 rcases fu64 with _ | fu64
 ·
  simp [s_live_L1] at hs
 rw [s_live_L1] at hs
 have h67 := h27.mono le63
 have at68 := at28.mono le63
 have s69 := s29.mono le63
 have s70 := s30.mono le63
 have hle71 := m_ hle31 le63
 have ch72 := m_ le23 le63
 refine cq (cq (cr (mv hO rfl rfl (rj (et (cd rfl (fun h73 => ?_) (fun h73 => ?_)))))))
 ·
  replace hs := cond_t h73 hs
  refine cp (et ?_)
  obtain ⟨o80, hs, hj82⟩ := andj_s hs
  refine cg_join (fun E' w' => ∃ Mi74 : Mem, ∃ rs75 : List (Nat × Obj), ∃ l76 : List (List Bool), ∃ y78 : Bool, E' = [(0, .pointer (some p_c)), (2, .slice none 0 0), (3, .slice b14 l76.length c15), (5, .bool y78)] ∧ Mem.le Mi58 Mi74 ∧ Rw Mi74 rs75 b14 c15 l76 ∧ o80 = .inl (l76, y78) ∧ Own w' Mi74 (rs75 ++ bs)) ?_ ?_
  ·
   have le85 := mr Mi58
   refine cb (cq (cr (as_ hO rfl rfl (rj (et (cq (cr (mv hO rfl rfl (ln ts_46 hO rfl rfl ?_)))))))))
   refine ry hO rfl (y_sub (wI ((l60.length : Int) - 1)) tz rfl rfl rfl) (as_ hO rfl rfl (rj (et (cb (ci (fun m95 E' w' => ∃ Mi86 : Mem, ∃ rs87 : List (Nat × Obj), ∃ l88 : List (List Bool), ∃ y90 : Bool, ∃ x91 : Int, E' = [(0, .pointer (some p_c)), (2, .slice none 0 0), (3, .slice b14 l88.length c15), (5, .bool y90), (6, .int .i64 x91)] ∧ Mem.le Mi58 Mi86 ∧ Rw Mi86 rs87 b14 c15 l88 ∧ s_live_L2 n c m95 l88 y90 x91 = some o80 ∧ Own w' Mi86 (rs87 ++ bs)) (m0 := n) ⟨Mi58, rs59, l60, false, wI ((l60.length : Int) - 1), rfl, (mr _), r61, hs, hO⟩ ⟨rfl, rfl, rfl, rfl, rfl, tz⟩ ?_)))))
   rintro fu93 _ w94 ⟨Mi86, rs87, l88, y90, x91, rfl, le92, r89, hs, hO⟩
   rcases fu93 with _ | fu93
   ·
    simp [s_live_L2] at hs
   rw [s_live_L2] at hs
   have h96 := h67.mono le92
   have at97 := at68.mono le92
   have s98 := s69.mono le92
   have s99 := s70.mono le92
   have hle100 := m_ hle71 le92
   have ch101 := m_ ch72 le92
   have ch102 := m_ le63 le92
   have ch103 := m_ le85 le92
   refine cq (cq (cr (mv hO rfl rfl (ry hO rfl (y_ge tz rfl rfl) (rj (et (cd rfl (fun h104 => ?_) (fun h104 => ?_))))))))
   ·
    replace hs := cond_t h104 hs
    refine cp (et (cq (cb (cq (cr (mv hO rfl rfl (mv hO rfl rfl (mv hO rfl rfl ?_))))))))
    obtain ⟨M105, le106, hO, hk107, hn108, hd109⟩ := Own.keeps (rs := rs87) hO
    have h110 := h96.mono le106
    have at111 := at97.mono le106
    have s112 := s98.mono le106
    have s113 := s99.mono le106
    have r114 := r89.mono le106
    have hle115 := m_ hle100 le106
    have ch116 := m_ ch101 le106
    have ch117 := m_ ch102 le106
    have ch118 := m_ ch103 le106
    have ch119 := m_ le92 le106
    have s120 := Rw.kept r114 hk107 (mr _)
    obtain ⟨v121, hv122, hs⟩ := bind_s hs
    refine rd' tz (oc (vs := [.pointer (some p_c), .slice b14 l88.length c15, .int .i64 x91]) tcall_41 rfl rfl (c_here c l88 x91 h110 s120 hv122 hO) ?_)
    rintro _ w123 ⟨M124, b126, c127, rs128, le125, hO, rfl, r129⟩
    refine ⟨_, rfl, ?_⟩
    have h130 := h110.mono le125
    have at131 := at111.mono le125
    have s132 := s112.mono le125
    have s133 := s113.mono le125
    have r134 := r114.mono le125
    have hk135 := hk107.mono le125
    have hk136 := hk107.mono le125
    have hle137 := m_ hle115 le125
    have ch138 := m_ ch116 le125
    have ch139 := m_ ch117 le125
    have ch140 := m_ ch118 le125
    have ch141 := m_ ch119 le125
    have kl142 := m_ le106 le125
    have hO : Own _ M124 (rs128 ++ bs) := hO
    refine as_ hO rfl rfl (rj (et (cq (cr (mv hO rfl rfl (mv hO rfl rfl (mv hO rfl rfl ?_)))))))
    obtain ⟨hg143, hs⟩ := grd hs
    have s144 := Rw.kept r134 hk135 (mr _)
    obtain ⟨p145, rfl, _⟩ := RdS.get s144 x91.toNat (by exact ib hg143)
    have hO : Own w123 M124 (rs128 ++ bs) := by assumption
    have s147 := Rw.kept r134 hk135 (mr _)
    have q146 : PAt M124 (p145.add (x91.toNat * 1)) (nth l88 x91.toNat) := RdS.at s147 x91.toNat (by exact ib hg143)
    refine ry hO rfl (yi ts_46 tz rfl rfl (by exact inb_0 hg143) (by exact inb_lt hg143)) ?_
    obtain ⟨_, at151, b148, c149, rfl, s150⟩ := id q146
    refine ry hO rfl (yl tl_50 tz rfl (fun _ h => at151.cell0 h rfl)) ?_
    obtain ⟨M152, le153, hO, hk154, hn155, hd156⟩ := Own.keeps (rs := rs128) hO
    have h157 := h130.mono le153
    have at158 := at131.mono le153
    have s159 := s132.mono le153
    have s160 := s133.mono le153
    have r161 := r134.mono le153
    have r162 := r129.mono le153
    have q163 := q146.mono le153
    have at164 := at151.mono le153
    have s165 := s150.mono le153
    have hk166 := hk135.mono le153
    have hk167 := hk136.mono le153
    have hle168 := m_ hle137 le153
    have ch169 := m_ ch138 le153
    have ch170 := m_ ch139 le153
    have ch171 := m_ ch140 le153
    have ch172 := m_ ch141 le153
    have kl173 := m_ kl142 le153
    have s174 := Rw.kept r162 hk154 (mr _)
    obtain ⟨v175, hv176, hs⟩ := bind_s hs
    refine rd' tz (oc (vs := [.slice b126 v121.length c127, .slice b148 (((nth l88 x91.toNat)).length) c149]) tcall_42 rfl rfl (c_EqualBool v121 (nth l88 x91.toNat) s174 s165 hv176 hO) ?_)
    rintro _ w177 ⟨M178, le179, hO, rfl⟩
    refine ⟨_, rfl, ?_⟩
    have h180 := h157.mono le179
    have at181 := at158.mono le179
    have s182 := s159.mono le179
    have s183 := s160.mono le179
    have r184 := r161.mono le179
    have r185 := r162.mono le179
    have q186 := q163.mono le179
    have at187 := at164.mono le179
    have s188 := s165.mono le179
    have hk189 := hk166.mono le179
    have hk190 := hk167.mono le179
    have hk191 := hk154.mono le179
    have hk192 := hk154.mono le179
    have hle193 := m_ hle168 le179
    have ch194 := m_ ch169 le179
    have ch195 := m_ ch170 le179
    have ch196 := m_ ch171 le179
    have ch197 := m_ ch172 le179
    have kl198 := m_ kl173 le179
    have kl199 := m_ le153 le179
    have hO : Own _ M178 (bs) := hO
    refine ry hO rfl (yt tz rfl) (rj (ez (E' := [(0, .pointer (some p_c)), (2, .slice none 0 0), (3, .slice (some p145) l88.length c15), (5, .bool y90), (6, .int .i64 x91), (7, .slice b126 v121.length c127), (46, .bool (!v175))]) ⟨rfl, rfl, rfl, rfl, rfl, rfl, rfl, tz⟩ (et (cd rfl (fun h200 => ?_) (fun h200 => ?_)))))
    ·
     replace hs := cond_t h200 hs
     have h201 : v175 = false := not_t h200
     refine cr (mv hO rfl rfl (mv hO rfl rfl (mv hO rfl rfl ?_)))
     obtain ⟨M202, le203, hO⟩ := Own.unkeeps hO hk191 hn155 hd156 kl199
     have h204 := h130.mono le203
     have at205 := at131.mono le203
     have s206 := s132.mono le203
     have s207 := s133.mono le203
     have r208 := r134.mono le203
     have r209 := r129.mono le203
     have hk210 := hk135.mono le203
     have hk211 := hk136.mono le203
     have hle212 := m_ hle137 le203
     have ch213 := m_ ch138 le203
     have ch214 := m_ ch139 le203
     have ch215 := m_ ch140 le203
     have ch216 := m_ ch141 le203
     have kl217 := m_ kl142 le203
     obtain ⟨M218, le219, hO⟩ := Own.unkeeps hO hk210 hn108 hd109 kl217
     have h220 := h96.mono le219
     have at221 := at97.mono le219
     have s222 := s98.mono le219
     have s223 := s99.mono le219
     have r224 := r89.mono le219
     have hle225 := m_ hle100 le219
     have ch226 := m_ ch101 le219
     have ch227 := m_ ch102 le219
     have ch228 := m_ ch103 le219
     have ch229 := m_ le92 le219
     have r230 : Rw M218 rs128 b126 c127 v121 := Rw.boolM r209
     refine ry hO rfl (yi ts_46 tz rfl rfl (by exact inb_0 hg143) (by exact inb_lt hg143)) ?_
     have hO := hO.front1
     obtain ⟨M231, le232, hO, hk233, hn234, hd235⟩ := Own.keeps (rs := rs128) hO
     have h236 := h220.mono le232
     have at237 := at221.mono le232
     have s238 := s222.mono le232
     have s239 := s223.mono le232
     have r240 := r224.mono le232
     have r241 := r230.mono le232
     have hle242 := m_ hle225 le232
     have ch243 := m_ ch226 le232
     have ch244 := m_ ch227 le232
     have ch245 := m_ ch228 le232
     have ch246 := m_ ch229 le232
     refine rd' tz (og_storeR (i := x91.toNat) (x := v121) (vs := [.slice b126 v121.length c127]) hO r240 (by exact ib hg143) tn_50 rfl rfl ⟨b126, c127, rfl, (Rw.kept r241 hk233 (mr _))⟩ rfl rfl (fun rs248 w247 hO r249 => ?_))
     refine as_ hO rfl rfl (rj (ez (E' := [(0, .pointer (some p_c)), (2, .slice none 0 0), (3, .slice (some p145) (((l88.set x91.toNat v121)).length) c15), (5, .bool true), (6, .int .i64 x91), (7, .slice b126 v121.length c127), (46, .bool (!v175)), (47, .slice (some p145) (((l88.set x91.toNat v121)).length) c15), (48, .int .i64 x91), (49, .slice b126 v121.length c127), (50, .pointer (some ((p145 : Addr).add (x91.toNat * 1))))]) ⟨rfl, rfl, (congrArg (fun q : Nat => some (Value.slice (some p145) q c15)) (Eq.symm List.length_set)), rfl, rfl, rfl, rfl, (congrArg (fun q : Nat => some (Value.slice (some p145) q c15)) (Eq.symm List.length_set)), rfl, rfl, rfl, tz⟩ (ek' (et (cr (mv hO rfl rfl (ry hO rfl (y_sub (wI (x91 - 1)) tz rfl rfl rfl) (as_ hO rfl rfl (rj ?_)))))))))
     exact eo ⟨M231, rs248, (l88.set x91.toNat v121), true, wI (x91 - 1), rfl, ch246, r249, hs, hO⟩ ⟨rfl, rfl, rfl, rfl, rfl, tz⟩ (Nat.lt_succ_self _)
    replace hs := cond_f h200 hs
    have h250 : v175 = true := not_f h200
    refine cp (ek' (et (cr (mv hO rfl rfl (ry hO rfl (y_sub (wI (x91 - 1)) tz rfl rfl rfl) (as_ hO rfl rfl (rj ?_)))))))
    obtain ⟨M251, le252, hO⟩ := Own.unkeeps hO hk189 hn108 hd109 kl198
    have h253 := h96.mono le252
    have at254 := at97.mono le252
    have s255 := s98.mono le252
    have s256 := s99.mono le252
    have r257 := r89.mono le252
    have hle258 := m_ hle100 le252
    have ch259 := m_ ch101 le252
    have ch260 := m_ ch102 le252
    have ch261 := m_ ch103 le252
    have ch262 := m_ le92 le252
    have r263 : Rw M251 rs128 b126 c127 v121 := Rw.boolM r185
    exact eo ⟨M251, rs87, l88, y90, wI (x91 - 1), rfl, ch262, r257, hs, hO⟩ ⟨rfl, rfl, rfl, rfl, rfl, tz⟩ (Nat.lt_succ_self _)
   replace hs := cond_f h104 hs
   exact cx (eh (eh (ej (ek' (ej' ⟨Mi86, rs87, l88, y90, rfl, ch103, r89, inl_s hs, hO⟩ ⟨rfl, rfl, rfl, rfl, tz⟩)))))
  rintro _ w84 ⟨Mi74, rs75, l76, y78, rfl, le79, r77, ho83, hO⟩
  replace hs := Aft.l hj82 ho83
  try dsimp only at hs
  have h264 := h67.mono le79
  have at265 := at68.mono le79
  have s266 := s69.mono le79
  have s267 := s70.mono le79
  have hle268 := m_ hle71 le79
  have ch269 := m_ ch72 le79
  have ch270 := m_ le63 le79
  exact eo ⟨Mi74, rs75, l76, y78, rfl, ch270, r77, hs, hO⟩ ⟨rfl, rfl, rfl, rfl, tz⟩ (Nat.lt_succ_self _)
 replace hs := cond_f h73 hs
 refine cx (eh (eh (ej (et (cq (cr (mv hO rfl rfl (as_ hO rfl rfl (rj ?_)))))))))
 refine et (ct (er (.inl rfl) rfl rfl ?_))
 obtain rfl := o_ hs
 exact ⟨Mi58, b14, c15, rs59, hle71, hO, rfl, r61⟩

def s_Live (n : Nat) (p : Prog) (c : CodeD) : Option ((List (List Bool)) × Int) := cond (!(irMay p c)) (some (([] : List (List Bool)), 1700)) ((s_live n c).bind fun v38 => some (v38, 0))
theorem c_Live {n : Nat} {vs_p : List Value} {vs_c : List Value} (p : Prog) (c : CodeD) {r : (List (List Bool)) × Int} {w : World} {M : Mem} {bs : List (Nat × Obj)} (h_p : Rep.rd M vs_p p) (h_c : Rep.rd M vs_c c) (hG : Glob M) (hs : s_Live n p c = some r) (hO : Own w M (bs)) :
    Calls Tryd.prog 12 #[.agg vs_p.toArray, .agg vs_c.toArray] w (fun e w' => ∃ M' : Mem, ∃ b10 : Option Addr, ∃ c11 : Nat, ∃ rs12 : List (Nat × Obj), Mem.le M M' ∧ Own w' M' (rs12 ++ bs) ∧ e = .returned (.tuple #[.slice b10 r.1.length c11, .int .i64 r.2]) ∧ Rw M' rs12 b10 c11 r.1) := by
 obtain ⟨b1, c2, rfl, s3⟩ := h_p
 obtain ⟨b4, c5, b7, c8, rfl, s6, s9⟩ := h_c
 unfold s_Live at hs
 refine ce (vs := [.agg #[.slice b1 p.funcs.length c2], .agg #[.int .i64 c.fn, .int .i64 c.regs, .slice b4 c.code.length c5, .slice b7 c.metas.length c8]]) (n := 11) Tryd.func12 rfl rfl rfl (cq (cr (rd' tz (og_box hO rfl rfl (fun b14 w15 hO => ?_)))))
 have hO : Own _ M ([(b14, .cells #[.slice b1 p.funcs.length c2] 24)] ++ bs) := hO
 refine rd' tz (og_box hO rfl rfl (fun b16 w17 hO => ?_))
 have hO : Own _ M ([(b16, .cells #[.int .i64 c.fn, .int .i64 c.regs, .slice b4 c.code.length c5, .slice b7 c.metas.length c8] 28)] ++ ([(b14, .cells #[.slice b1 p.funcs.length c2] 24)] ++ bs)) := hO
 refine as_ hO rfl rfl (as_ hO rfl rfl (rj (et (cq (cq (cr (ry hO rfl (yq [.slice b1 p.funcs.length c2] ta_24 rfl tz rfl (fun _ h => Own.cellsB (h.front1) 0 0 rfl (by intro j v e; exact rowCells (vs := [.slice b1 p.funcs.length c2]) rfl e))) (ry hO rfl (yq [.int .i64 c.fn, .int .i64 c.regs, .slice b4 c.code.length c5, .slice b7 c.metas.length c8] ta_28 rfl tz rfl (fun _ h => Own.cellsB h 0 0 rfl (by intro j v e; exact rowCells (vs := [.int .i64 c.fn, .int .i64 c.regs, .slice b4 c.code.length c5, .slice b7 c.metas.length c8]) rfl e))) (rd' tz (oc (vs := [.agg #[.slice b1 p.funcs.length c2], .agg #[.int .i64 c.fn, .int .i64 c.regs, .slice b4 c.code.length c5, .slice b7 c.metas.length c8]]) tcall_9 rfl rfl (c_May (vs_p := [.slice b1 p.funcs.length c2]) p (vs_c := [.int .i64 c.fn, .int .i64 c.regs, .slice b4 c.code.length c5, .slice b7 c.metas.length c8]) c ⟨b1, c2, rfl, s3⟩ ⟨b4, c5, b7, c8, rfl, s6, s9⟩ (hG.mono (mr _)) hO) ?_))))))))))
 rintro _ w18 ⟨M19, _, le20, hO, rfl, rfl⟩
 refine ⟨_, rfl, ?_⟩
 have s21 := s3.mono le20
 have s22 := s6.mono le20
 have s23 := s9.mono le20
 have hle24 := le20
 refine ry hO rfl (yt tz rfl) (rj (et (cd rfl (fun h25 => ?_) (fun h25 => ?_))))
 ·
  replace hs := cond_t h25 hs
  have h26 : (irMay p c) = false := not_t h25
  refine cq (cr (as_ hO rfl rfl (as_ hO rfl rfl (rj (et (ct (ew' (ends_ret2 (.inl rfl) rfl rfl rfl ?_))))))))
  have hO := hO.forget
  have hO := hO.forget
  obtain rfl := o_ hs
  exact ⟨M19, none, 0, [], hle24, hO, rfl, (Rw.nil _)⟩
 replace hs := cond_f h25 hs
 have h27 : (irMay p c) = true := not_f h25
 refine cp (et (cq (cr ?_)))
 obtain ⟨M28, le29, hO, hk30, hn31, hd32⟩ := Own.keeps (rs := [(b16, .cells #[.int .i64 c.fn, .int .i64 c.regs, .slice b4 c.code.length c5, .slice b7 c.metas.length c8] 28)]) hO
 have s33 := s21.mono le29
 have s34 := s22.mono le29
 have s35 := s23.mono le29
 have hle36 := m_ hle24 le29
 have at37 := Has.at (vs := [.int .i64 c.fn, .int .i64 c.regs, .slice b4 c.code.length c5, .slice b7 c.metas.length c8]) hk30 rfl
 obtain ⟨v38, hv39, hs⟩ := bind_s hs
 refine rd' tz (oc (vs := [.pointer (some ⟨b16, 0, none⟩)]) tcall_22 rfl rfl (c_live c ⟨_, at37, ⟨b4, c5, b7, c8, rfl, s34, s35⟩⟩ hv39 hO) ?_)
 rintro _ w40 ⟨M41, b43, c44, rs45, le42, hO, rfl, r46⟩
 refine ⟨_, rfl, ?_⟩
 have s47 := s33.mono le42
 have s48 := s34.mono le42
 have s49 := s35.mono le42
 have hk50 := hk30.mono le42
 have at51 := at37.mono le42
 have hle52 := m_ hle36 le42
 have kl53 := m_ le29 le42
 have hO : Own _ M41 (rs45 ++ ([(b14, .cells #[.slice b1 p.funcs.length c2] 24)] ++ bs)) := hO
 refine as_ hO rfl rfl (as_ hO rfl rfl (rj (et (ct (ends_ret2 (.inl rfl) rfl rfl rfl ?_)))))
 have hO := hO.front1
 have hO := hO.forget
 obtain rfl := o_ hs
 exact ⟨M41, b43, c44, rs45, hle52, hO, rfl, r46⟩

end Go.Proofs.YtdniefnjgkhkeaaDoor
