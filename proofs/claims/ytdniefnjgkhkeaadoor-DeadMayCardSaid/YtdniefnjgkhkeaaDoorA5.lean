/-
  Contracts of Go functions, each walked operation by operation: swage/swagelaw0.SameSrcs, swage/swagelaw0.sameParts, swage/swagelaw0.SameCode, swage/swagelaw17.DeadMay.
  Conditions: as each statement says.
-/
import Derived.Test.YtdniefnjgkhkeaaDoorVf
import Derived.Test.YtdniefnjgkhkeaaDoorProg
import Derived.Test.YtdniefnjgkhkeaaDoorC1
import Derived.Test.YtdniefnjgkhkeaaDoorC2
import Derived.Test.YtdniefnjgkhkeaaDoorC3
import Derived.Test.YtdniefnjgkhkeaaDoorC4
import Derived.Test.YtdniefnjgkhkeaaDoorC5
import Derived.Test.YtdniefnjgkhkeaaDoorC6
import Derived.Test.YtdniefnjgkhkeaaDoorC7
import Derived.Test.YtdniefnjgkhkeaaDoorC8
import Derived.Test.YtdniefnjgkhkeaaDoorV2
import Derived.Test.YtdniefnjgkhkeaaDoorC9
import Derived.Test.YtdniefnjgkhkeaaDoorC10
import Derived.Test.YtdniefnjgkhkeaaDoorV3
import Derived.Test.YtdniefnjgkhkeaaDoorC11
import Derived.Test.YtdniefnjgkhkeaaDoorC12
import Derived.Test.YtdniefnjgkhkeaaDoorC13
import Derived.Test.YtdniefnjgkhkeaaDoorC14
import Derived.Test.YtdniefnjgkhkeaaDoorV4
import Derived.Test.YtdniefnjgkhkeaaDoorC15
import Derived.Test.YtdniefnjgkhkeaaDoorV5
import Derived.Test.YtdniefnjgkhkeaaDoorC16
import Derived.Test.YtdniefnjgkhkeaaDoorA1
import Derived.Test.YtdniefnjgkhkeaaDoorAu
import Derived.Test.YtdniefnjgkhkeaaDoorA2
import Derived.Test.YtdniefnjgkhkeaaDoorA3
namespace Go.Proofs.YtdniefnjgkhkeaaDoor
open Go
set_option maxRecDepth 100000
set_option linter.unusedVariables false
set_option linter.unusedSimpArgs false
theorem tcall_10 : cl Tryd.prog 10 := ⟨_, Tryd.func10, by kernel_rfl, by kernel_rfl⟩
theorem tcall_11 : cl Tryd.prog 11 := ⟨_, Tryd.func11, by kernel_rfl, by kernel_rfl⟩
theorem tcall_20 : cl Tryd.prog 20 := ⟨_, Tryd.func20, by kernel_rfl, by kernel_rfl⟩
theorem tcall_40 : cl Tryd.prog 40 := ⟨_, Tryd.func40, by kernel_rfl, by kernel_rfl⟩
theorem tcall_6 : cl Tryd.prog 6 := ⟨_, Tryd.func6, by kernel_rfl, by kernel_rfl⟩
theorem tm_95 : Tryd.prog.eqGuardType Tryd.prog.depth 95 = false := by kernel_rfl
theorem te_95 (a0 : Bool) (a1 : Int) (b0 : Bool) (b1 : Int) (w : World) : (Op.equal 95 (.agg #[.bool a0, .int .i64 a1]) (.agg #[.bool b0, .int .i64 b1])).run Tryd.prog w = .ok ((a0 == b0) && (decide (a1 = b1))) w := by
  show (Op.equalIn (9999 + 1) _ _ _).run _ w = _
  rw [run_equalIn_struct w 9999 95 _ _ (by kernel_rfl) (by kernel_rfl), show Tryd.prog.fieldsOf 95 = _ from by unfold Program.fieldsOf; rw [Tryd.underlying95]]
  have p0 : ∀ (a0 : Bool) (a1 : Int) (w : World), (part 4 #[.bool a0, .int .i64 a1] 0).run Tryd.prog w = .ok (.bool a0) w := fun a0 a1 w => by kernel_rfl
  have p1 : ∀ (a0 : Bool) (a1 : Int) (w : World), (part 3 #[.bool a0, .int .i64 a1] 1).run Tryd.prog w = .ok (.int .i64 a1) w := fun a0 a1 w => by kernel_rfl
  have h0 : ∀ (x y : Bool) (w : World), (Op.equalIn 9999 4 (.bool x) (.bool y)).run Tryd.prog w = .ok (x == y) w := fun x y w => run_equalIn_bool w 9998 4 x y (by kernel_rfl)
  have h1 : ∀ (x y : Int) (w : World), (Op.equalIn 9999 3 (.int .i64 x) (.int .i64 y)).run Tryd.prog w = .ok (x == y) w := fun x y w => run_equalIn_int w 9998 3 .i64 .i64 x y (by kernel_rfl)
  by_cases e0 : a0 = b0 <;> by_cases e1 : a1 = b1 <;> simp [Op.eqFields, Result.andThen, p0, p1, h0, h1, e0, e1]
def s_SameSrcs_L0 (n : Nat) (a : List Src) (b : List Src) : Nat → Int → Option Bool
  | 0, _ => none
  | fu5 + 1, x4 => cond (decide (x4 < (a.length : Int))) (cond (inb x4 a.length) (cond (inb x4 b.length) (cond (!((((nth a x4.toNat).cst) == ((nth b x4.toNat).cst)) && (decide ((nth a x4.toNat).v = (nth b x4.toNat).v)))) (some false) (s_SameSrcs_L0 n a b fu5 (wI (x4 + 1)))) none) none) (some true)
def s_SameSrcs (n : Nat) (a : List Src) (b : List Src) : Option Bool := cond (!decide ((a.length : Int) = (b.length : Int))) (some false) (s_SameSrcs_L0 n a b n 0)
theorem c_SameSrcs {n : Nat} {b_a : Option Addr} {c_a : Nat} {b_b : Option Addr} {c_b : Nat} (a : List Src) (b : List Src) {r : Bool} {w : World} {M : Mem} {bs : List (Nat × Obj)} (h_a : RdS M b_a c_a a) (h_b : RdS M b_b c_b b) (hs : s_SameSrcs n a b = some r) (hO : Own w M (bs)) :
    Calls Tryd.prog 40 #[.slice b_a a.length c_a, .slice b_b b.length c_b] w (fun e w' => ∃ M' : Mem, Mem.le M M' ∧ Own w' M' (bs) ∧ e = .returned (.bool r)) := by
 unfold s_SameSrcs at hs
 refine ce (vs := [.slice b_a a.length c_a, .slice b_b b.length c_b]) (n := 26) Tryd.func40 rfl rfl rfl (cq (cr (as_ hO rfl rfl (rj (et (cq (cq (cr (mv hO rfl rfl ?_)))))))))
 refine ln ts_85 hO rfl rfl (mv hO rfl rfl (ln ts_85 hO rfl rfl (ry hO rfl (y_ne tz rfl rfl) (rj (et (cd rfl (fun h1 => ?_) (fun h1 => ?_)))))))
 ·
  replace hs := cond_t h1 hs
  have h2 : (decide ((a.length : Int) = (b.length : Int))) = false := not_t h1
  refine cq (cr (as_ hO rfl rfl (rj (et (ct (ew' (er (.inl rfl) rfl rfl ?_)))))))
  obtain rfl := o_ hs
  exact ⟨M, (mr _), hO, rfl⟩
 replace hs := cond_f h1 hs
 have h3 : (decide ((a.length : Int) = (b.length : Int))) = true := not_f h1
 refine cp (et (cq (cq (cr (as_ hO rfl rfl (rj (et (cb (ci (fun m7 E' w' => ∃ x4 : Int, E' = [(0, .slice b_a a.length c_a), (1, .slice b_b b.length c_b), (4, .bool false), (5, .int .i64 x4)] ∧ s_SameSrcs_L0 n a b m7 x4 = some r ∧ Own w' M (bs)) (m0 := n) ⟨0, rfl, hs, hO⟩ ⟨rfl, rfl, rfl, rfl, tz⟩ ?_)))))))))
 rintro fu5 _ w6 ⟨x4, rfl, hs, hO⟩
 rcases fu5 with _ | fu5
 ·
  simp [s_SameSrcs_L0] at hs
 rw [s_SameSrcs_L0] at hs
 refine cq (cq (cr (mv hO rfl rfl (mv hO rfl rfl (ln ts_85 hO rfl rfl (ry hO rfl (yv tz rfl rfl) (rj (et (cd rfl (fun h8 => ?_) (fun h8 => ?_))))))))))
 ·
  replace hs := cond_t h8 hs
  refine cp (et (cq (cb (cq ?_))))
  obtain ⟨w9, hO, ew10⟩ : ∃ w', Own w' M (bs) ∧ { w6 with drawn := w6.drawn + 1 } = w' := ⟨_, hO.drawn _, rfl⟩
  refine cw (S := fun w => Own w M (bs)) (.take 0 (.take 1 (.take 2 (.take 3 (.take 4 (.take 5 (.take 6 (.take 7 (.take 8 .done))))))))) 9 tm (by kernel_rfl) ew10 hO (hm rfl rfl (fun _ _ _ h => h) rfl (hm rfl rfl (fun _ _ _ h => h) rfl ?_))
  obtain ⟨hg11, hs⟩ := grd hs
  obtain ⟨p12, rfl, _⟩ := RdS.get h_a x4.toNat (by exact ib hg11)
  have hO : Own w9 M (bs) := by assumption
  have q13 : PAt M (p12.add (x4.toNat * 2)) (nth a x4.toNat) := RdS.at h_a x4.toNat (by exact ib hg11)
  refine gy rfl rfl (fun _ _ _ h => h) (yi ts_85 tz rfl rfl (by exact inb_0 hg11) (by exact inb_lt hg11)) ?_
  obtain ⟨_, at14, rfl⟩ := id q13
  refine gy rfl rfl (fun _ _ _ h => h) (yq [.bool ((nth a x4.toNat).cst), .int .i64 ((nth a x4.toNat).v)] ta_95 rfl tz rfl (fun _ h j _ e => at14.cell h j e)) (hm rfl rfl (fun _ _ _ h => h) rfl (hm rfl rfl (fun _ _ _ h => h) rfl ?_))
  obtain ⟨hg15, hs⟩ := grd hs
  obtain ⟨p16, rfl, _⟩ := RdS.get h_b x4.toNat (by exact ib hg15)
  have hO : Own w9 M (bs) := by assumption
  have q17 : PAt M (p16.add (x4.toNat * 2)) (nth b x4.toNat) := RdS.at h_b x4.toNat (by exact ib hg15)
  refine gy rfl rfl (fun _ _ _ h => h) (yi ts_85 tz rfl rfl (by exact inb_0 hg15) (by exact inb_lt hg15)) ?_
  obtain ⟨_, at18, rfl⟩ := id q17
  refine gy rfl rfl (fun _ _ _ h => h) (yq [.bool ((nth b x4.toNat).cst), .int .i64 ((nth b x4.toNat).v)] ta_95 rfl tz rfl (fun _ h j _ e => at18.cell h j e)) (gy rfl rfl (fun _ _ _ h => h) (y_neS (vs := [.bool ((nth a x4.toNat).cst), .int .i64 ((nth a x4.toNat).v)]) (us := [.bool ((nth b x4.toNat).cst), .int .i64 ((nth b x4.toNat).v)]) tm_95 (te_95 _ _ _ _) tz rfl rfl) (gd (ez (E' := [(0, .slice (some p12) a.length c_a), (1, .slice (some p16) b.length c_b), (4, .bool false), (5, .int .i64 x4), (25, .bool (!((((nth a x4.toNat).cst) == ((nth b x4.toNat).cst)) && (decide ((nth a x4.toNat).v = (nth b x4.toNat).v)))))]) ⟨rfl, rfl, rfl, rfl, rfl, tz⟩ (et (cd rfl (fun h19 => ?_) (fun h19 => ?_))))))
  ·
   replace hs := cond_t h19 hs
   have h20 : ((((nth a x4.toNat).cst) == ((nth b x4.toNat).cst)) && (decide ((nth a x4.toNat).v = (nth b x4.toNat).v))) = false := not_t h19
   refine cq (cr (as_ hO rfl rfl (rj (et (ct (eg (ew' (ew' (eg ?_)))))))))
   refine ew' (er (.inl rfl) rfl rfl ?_)
   obtain rfl := o_ hs
   exact ⟨M, (mr _), hO, rfl⟩
  replace hs := cond_f h19 hs
  have h21 : ((((nth a x4.toNat).cst) == ((nth b x4.toNat).cst)) && (decide ((nth a x4.toNat).v = (nth b x4.toNat).v))) = true := not_f h19
  exact cp (ek' (et (cr (mv hO rfl rfl (ry hO rfl (y_add (wI (x4 + 1)) tz rfl rfl rfl) (as_ hO rfl rfl (rj (eo ⟨wI (x4 + 1), rfl, hs, hO⟩ ⟨rfl, rfl, rfl, rfl, tz⟩ (Nat.lt_succ_self _)))))))))
 replace hs := cond_f h8 hs
 refine cx (eh (eh (ej (et (cq (cr (as_ hO rfl rfl (rj (et ?_)))))))))
 refine ct (er (.inl rfl) rfl rfl ?_)
 obtain rfl := o_ hs
 exact ⟨M, (mr _), hO, rfl⟩

def s_sameParts_L0 (n : Nat) (a : List Part) (b : List Part) : Nat → Int → Option Bool
  | 0, _ => none
  | fu5 + 1, x4 => cond (decide (x4 < (a.length : Int))) (cond (!decide ((nth a x4.toNat).fn = (nth b x4.toNat).fn)) (cond (inb x4 a.length) (cond (inb x4 b.length) (some false) none) none) (cond (!decide ((nth a x4.toNat).pc = (nth b x4.toNat).pc)) (cond (inb x4 a.length) (cond (inb x4 b.length) (some false) none) none) (cond (inb x4 a.length) (cond (inb x4 b.length) ((s_SameSrcs n ((nth a x4.toNat).locals) ((nth b x4.toNat).locals)).bind fun v135 => cond (!v135) (some false) ((s_SameSrcs n ((nth a x4.toNat).stack) ((nth b x4.toNat).stack)).bind fun v159 => cond (!v159) (some false) (s_sameParts_L0 n a b fu5 (wI (x4 + 1))))) none) none))) (some true)
def s_sameParts (n : Nat) (a : List Part) (b : List Part) : Option Bool := cond (!decide ((a.length : Int) = (b.length : Int))) (some false) (s_sameParts_L0 n a b n 0)
set_option maxHeartbeats 6400000 in
theorem c_sameParts {n : Nat} {b_a : Option Addr} {c_a : Nat} {b_b : Option Addr} {c_b : Nat} (a : List Part) (b : List Part) {r : Bool} {w : World} {M : Mem} {bs : List (Nat × Obj)} (h_a : RdS M b_a c_a a) (h_b : RdS M b_b c_b b) (hs : s_sameParts n a b = some r) (hO : Own w M (bs)) :
    Calls Tryd.prog 20 #[.slice b_a a.length c_a, .slice b_b b.length c_b] w (fun e w' => ∃ M' : Mem, Mem.le M M' ∧ Own w' M' (bs) ∧ e = .returned (.bool r)) := by
 unfold s_sameParts at hs
 refine ce (vs := [.slice b_a a.length c_a, .slice b_b b.length c_b]) (n := 69) Tryd.func20 rfl rfl rfl (cq (cr (as_ hO rfl rfl (rj (et (cq (cq (cr (mv hO rfl rfl ?_)))))))))
 refine ln ts_63 hO rfl rfl (mv hO rfl rfl (ln ts_63 hO rfl rfl (ry hO rfl (y_ne tz rfl rfl) (rj (et (cd rfl (fun h1 => ?_) (fun h1 => ?_)))))))
 ·
  replace hs := cond_t h1 hs
  have h2 : (decide ((a.length : Int) = (b.length : Int))) = false := not_t h1
  refine cq (cr (as_ hO rfl rfl (rj (et (ct (ew' (er (.inl rfl) rfl rfl ?_)))))))
  obtain rfl := o_ hs
  exact ⟨M, (mr _), hO, rfl⟩
 replace hs := cond_f h1 hs
 have h3 : (decide ((a.length : Int) = (b.length : Int))) = true := not_f h1
 refine cp (et (cq (cq (cr (as_ hO rfl rfl (rj (et (cb (ci (fun m7 E' w' => ∃ x4 : Int, E' = [(0, .slice b_a a.length c_a), (1, .slice b_b b.length c_b), (4, .bool false), (5, .int .i64 x4)] ∧ s_sameParts_L0 n a b m7 x4 = some r ∧ Own w' M (bs)) (m0 := n) ⟨0, rfl, hs, hO⟩ ⟨rfl, rfl, rfl, rfl, tz⟩ ?_)))))))))
 rintro fu5 _ w6 ⟨x4, rfl, hs, hO⟩
 rcases fu5 with _ | fu5
 ·
  simp [s_sameParts_L0] at hs
 rw [s_sameParts_L0] at hs
 refine cq (cq (cr (mv hO rfl rfl (mv hO rfl rfl (ln ts_63 hO rfl rfl (ry hO rfl (yv tz rfl rfl) (rj (et (cd rfl (fun h8 => ?_) (fun h8 => ?_))))))))))
 ·
  replace hs := cond_t h8 hs
  refine cp (et (cq (cb (cq ?_))))
  rcases bt (!decide ((nth a x4.toNat).fn = (nth b x4.toNat).fn)) with h11 | h11
  ·
   replace hs := cond_t h11 hs
   have h12 : (decide ((nth a x4.toNat).fn = (nth b x4.toNat).fn)) = false := not_t h11
   obtain ⟨w13, hO, ew14⟩ : ∃ w', Own w' M (bs) ∧ { w6 with drawn := w6.drawn + 1 } = w' := ⟨_, hO.drawn _, rfl⟩
   refine cw (S := fun w => Own w M (bs)) (.take 0 (.take 1 (.take 2 (.take 3 (.take 4 (.take 5 (.take 6 (.take 7 (.take 8 (.take 9 (.take 10 (.take 11 (.take 12 (.take 13 (.take 14 (.take 15 (.take 16 (.take 17 (.take 18 (.take 19 (.take 20 (.take 21 (.take 22 (.take 23 (.take 24 (.take 25 (.take 26 (.take 27 (.take 28 (.take 29 (.take 30 (.take 31 (.take 32 (.take 33 (.take 34 (.take 35 (.take 36 (.take 37 (.take 38 (.take 39 (.take 40 (.take 41 (.take 42 (.take 43 (.take 44 (.take 45 (.take 46 (.take 47 (.take 48 (.take 49 (.take 50 (.take 51 .done)))))))))))))))))))))))))))))))))))))))))))))))))))) 52 tm (by kernel_rfl) ew14 hO (hm rfl rfl (fun _ _ _ h => h) rfl (hm rfl rfl (fun _ _ _ h => h) rfl ?_))
   obtain ⟨hg15, hs⟩ := grd hs
   obtain ⟨p16, rfl, _⟩ := RdS.get h_a x4.toNat (by exact ib hg15)
   have hO : Own w13 M (bs) := by assumption
   have q17 : PAt M (p16.add (x4.toNat * 4)) (nth a x4.toNat) := RdS.at h_a x4.toNat (by exact ib hg15)
   refine gy rfl rfl (fun _ _ _ h => h) (yi ts_63 tz rfl rfl (by exact inb_0 hg15) (by exact inb_lt hg15)) (hfa tf_87_0 rfl rfl (fun _ _ _ h => h) rfl ?_)
   obtain ⟨_, at24, b18, c19, b21, c22, rfl, s20, s23⟩ := id q17
   refine hlc tl_3 at24 0 rfl rfl rfl (fun _ _ _ h => h) rfl (hm rfl rfl (fun _ _ _ h => h) rfl (hm rfl rfl (fun _ _ _ h => h) rfl ?_))
   obtain ⟨hg25, hs⟩ := grd hs
   obtain ⟨p26, rfl, _⟩ := RdS.get h_b x4.toNat (by exact ib hg25)
   have hO : Own w13 M (bs) := by assumption
   have q27 : PAt M (p26.add (x4.toNat * 4)) (nth b x4.toNat) := RdS.at h_b x4.toNat (by exact ib hg25)
   refine gy rfl rfl (fun _ _ _ h => h) (yi ts_63 tz rfl rfl (by exact inb_0 hg25) (by exact inb_lt hg25)) (hfa tf_87_0 rfl rfl (fun _ _ _ h => h) rfl ?_)
   obtain ⟨_, at34, b28, c29, b31, c32, rfl, s30, s33⟩ := id q27
   refine hlc tl_3 at34 0 rfl rfl rfl (fun _ _ _ h => h) rfl (gy rfl rfl (fun _ _ _ h => h) (y_ne tz rfl rfl) (hm rfl rfl (fun _ _ _ h => h) rfl (gy rfl rfl (fun _ _ _ h => h) (ek (by rw [h11]; rfl)) (gy rfl rfl (fun _ _ _ h => h) (ek (by rw [h11]; rfl)) (gy rfl rfl (fun _ _ _ h => h) (ek (by rw [h11]; rfl)) (gy rfl rfl (fun _ _ _ h => h) (ek (by rw [h11]; rfl)) (gy rfl rfl (fun _ _ _ h => h) (ek (by rw [h11]; rfl)) (gy rfl rfl (fun _ _ _ h => h) (ek (by rw [h11]; rfl)) (gy rfl rfl (fun _ _ _ h => h) (ek (by rw [h11]; rfl)) ?_)))))))))
   refine gy rfl rfl (fun _ _ _ h => h) (ek (by rw [h11]; rfl)) (gy rfl rfl (fun _ _ _ h => h) (ek (by rw [h11]; rfl)) (gy rfl rfl (fun _ _ _ h => h) (ek (by rw [h11]; rfl)) (gy rfl rfl (fun _ _ _ h => h) (ek (by rw [h11]; rfl)) (gy rfl rfl (fun _ _ _ h => h) (pt tz (by rw [h11]; rfl) rfl) (hm rfl rfl (fun _ _ _ h => h) rfl (gy rfl rfl (fun _ _ _ h => h) (ek rfl) (gy rfl rfl (fun _ _ _ h => h) (ek rfl) (gy rfl rfl (fun _ _ _ h => h) (ek rfl) (gy rfl rfl (fun _ _ _ h => h) (ek rfl) ?_)))))))))
   refine gy rfl rfl (fun _ _ _ h => h) (ek rfl) (gy rfl rfl (fun _ _ _ h => h) (ek rfl) (gy rfl rfl (fun _ _ _ h => h) (ek rfl) (gy rfl rfl (fun _ _ _ h => h) (ek rfl) (gy rfl rfl (fun _ _ _ h => h) (ek rfl) (gy rfl rfl (fun _ _ _ h => h) (ek rfl) (gy rfl rfl (fun _ _ _ h => h) (ek rfl) (gy rfl rfl (fun _ _ _ h => h) (ek rfl) (gy rfl rfl (fun _ _ _ h => h) (pt tz rfl rfl) (hm rfl rfl (fun _ _ _ h => h) rfl ?_)))))))))
   refine gy rfl rfl (fun _ _ _ h => h) (ek rfl) (gy rfl rfl (fun _ _ _ h => h) (ek rfl) (gy rfl rfl (fun _ _ _ h => h) (ek rfl) (gy rfl rfl (fun _ _ _ h => h) (ek rfl) (gy rfl rfl (fun _ _ _ h => h) (ek rfl) (gy rfl rfl (fun _ _ _ h => h) (ek rfl) (gy rfl rfl (fun _ _ _ h => h) (ek rfl) (gy rfl rfl (fun _ _ _ h => h) (ek rfl) (gy rfl rfl (fun _ _ _ h => h) (ek rfl) (gy rfl rfl (fun _ _ _ h => h) (ek rfl) ?_)))))))))
   refine gy rfl rfl (fun _ _ _ h => h) (ek rfl) (gy rfl rfl (fun _ _ _ h => h) (ek rfl) (gy rfl rfl (fun _ _ _ h => h) (pt tz rfl rfl) (gd (ez (E' := [(0, .slice (some p16) a.length c_a), (1, .slice (some p26) b.length c_b), (4, .bool false), (5, .int .i64 x4), (68, .bool true)]) ⟨rfl, rfl, rfl, rfl, rfl, tz⟩ (et (cv rfl (cq (cr (as_ hO rfl rfl ?_)))))))))
   refine rj (et (ct (eg (ew' (ew' (eg (ew' (er (.inl rfl) rfl rfl ?_))))))))
   obtain rfl := o_ hs
   exact ⟨M, (mr _), hO, rfl⟩
  replace hs := cond_f h11 hs
  have h35 : (decide ((nth a x4.toNat).fn = (nth b x4.toNat).fn)) = true := not_f h11
  rcases bt (!decide ((nth a x4.toNat).pc = (nth b x4.toNat).pc)) with h38 | h38
  ·
   replace hs := cond_t h38 hs
   have h39 : (decide ((nth a x4.toNat).pc = (nth b x4.toNat).pc)) = false := not_t h38
   obtain ⟨w40, hO, ew41⟩ : ∃ w', Own w' M (bs) ∧ { w6 with drawn := w6.drawn + 1 } = w' := ⟨_, hO.drawn _, rfl⟩
   refine cw (S := fun w => Own w M (bs)) (.take 0 (.take 1 (.take 2 (.take 3 (.take 4 (.take 5 (.take 6 (.take 7 (.take 8 (.take 9 (.take 10 (.take 11 (.take 12 (.take 13 (.take 14 (.take 15 (.take 16 (.take 17 (.take 18 (.take 19 (.take 20 (.take 21 (.take 22 (.take 23 (.take 24 (.take 25 (.take 26 (.take 27 (.take 28 (.take 29 (.take 30 (.take 31 (.take 32 (.take 33 (.take 34 (.take 35 (.take 36 (.take 37 (.take 38 (.take 39 (.take 40 (.take 41 (.take 42 (.take 43 (.take 44 (.take 45 (.take 46 (.take 47 (.take 48 (.take 49 (.take 50 (.take 51 .done)))))))))))))))))))))))))))))))))))))))))))))))))))) 52 tm (by kernel_rfl) ew41 hO (hm rfl rfl (fun _ _ _ h => h) rfl (hm rfl rfl (fun _ _ _ h => h) rfl ?_))
   obtain ⟨hg42, hs⟩ := grd hs
   obtain ⟨p43, rfl, _⟩ := RdS.get h_a x4.toNat (by exact ib hg42)
   have hO : Own w40 M (bs) := by assumption
   have q44 : PAt M (p43.add (x4.toNat * 4)) (nth a x4.toNat) := RdS.at h_a x4.toNat (by exact ib hg42)
   refine gy rfl rfl (fun _ _ _ h => h) (yi ts_63 tz rfl rfl (by exact inb_0 hg42) (by exact inb_lt hg42)) (hfa tf_87_0 rfl rfl (fun _ _ _ h => h) rfl ?_)
   obtain ⟨_, at51, b45, c46, b48, c49, rfl, s47, s50⟩ := id q44
   refine hlc tl_3 at51 0 rfl rfl rfl (fun _ _ _ h => h) rfl (hm rfl rfl (fun _ _ _ h => h) rfl (hm rfl rfl (fun _ _ _ h => h) rfl ?_))
   obtain ⟨hg52, hs⟩ := grd hs
   obtain ⟨p53, rfl, _⟩ := RdS.get h_b x4.toNat (by exact ib hg52)
   have hO : Own w40 M (bs) := by assumption
   have q54 : PAt M (p53.add (x4.toNat * 4)) (nth b x4.toNat) := RdS.at h_b x4.toNat (by exact ib hg52)
   refine gy rfl rfl (fun _ _ _ h => h) (yi ts_63 tz rfl rfl (by exact inb_0 hg52) (by exact inb_lt hg52)) (hfa tf_87_0 rfl rfl (fun _ _ _ h => h) rfl ?_)
   obtain ⟨_, at61, b55, c56, b58, c59, rfl, s57, s60⟩ := id q54
   refine hlc tl_3 at61 0 rfl rfl rfl (fun _ _ _ h => h) rfl (gy rfl rfl (fun _ _ _ h => h) (y_ne tz rfl rfl) (hm rfl rfl (fun _ _ _ h => h) rfl (gy rfl rfl (fun _ _ _ h => h) (ym (by rw [h11]; rfl) rfl) (gy rfl rfl (fun _ _ _ h => h) (ym (by rw [h11]; rfl) rfl) ?_))))
   have q62 : PAt M (p43.add (x4.toNat * 4)) (nth a x4.toNat) := RdS.at h_a x4.toNat (by exact ib hg42)
   refine gy rfl rfl (fun _ _ _ h => h) (yi ts_63 (by rw [h11]; rfl) rfl rfl (by exact inb_0 hg42) (by exact inb_lt hg42)) (gy rfl rfl (fun _ _ _ h => h) (ya tf_87_1 (by rw [h11]; rfl) rfl) ?_)
   obtain ⟨_, at69, b63, c64, b66, c67, rfl, s65, s68⟩ := id q62
   refine gy rfl rfl (fun _ _ _ h => h) (yl tl_3 (by rw [h11]; rfl) rfl (fun _ h => at69.cell h 1 rfl)) (gy rfl rfl (fun _ _ _ h => h) (ym (by rw [h11]; rfl) rfl) (gy rfl rfl (fun _ _ _ h => h) (ym (by rw [h11]; rfl) rfl) ?_))
   have q70 : PAt M (p53.add (x4.toNat * 4)) (nth b x4.toNat) := RdS.at h_b x4.toNat (by exact ib hg52)
   refine gy rfl rfl (fun _ _ _ h => h) (yi ts_63 (by rw [h11]; rfl) rfl rfl (by exact inb_0 hg52) (by exact inb_lt hg52)) (gy rfl rfl (fun _ _ _ h => h) (ya tf_87_1 (by rw [h11]; rfl) rfl) ?_)
   obtain ⟨_, at77, b71, c72, b74, c75, rfl, s73, s76⟩ := id q70
   refine gy rfl rfl (fun _ _ _ h => h) (yl tl_3 (by rw [h11]; rfl) rfl (fun _ h => at77.cell h 1 rfl)) (gy rfl rfl (fun _ _ _ h => h) (y_ne (by rw [h11]; rfl) rfl rfl) (gy rfl rfl (fun _ _ _ h => h) (pf tz (by rw [h11]; rfl) rfl) (hm rfl rfl (fun _ _ _ h => h) rfl (gy rfl rfl (fun _ _ _ h => h) (ek (by rw [h38]; rfl)) (gy rfl rfl (fun _ _ _ h => h) (ek (by rw [h38]; rfl)) (gy rfl rfl (fun _ _ _ h => h) (ek (by rw [h38]; rfl)) (gy rfl rfl (fun _ _ _ h => h) (ek (by rw [h38]; rfl)) (gy rfl rfl (fun _ _ _ h => h) (ek (by rw [h38]; rfl)) (gy rfl rfl (fun _ _ _ h => h) (ek (by rw [h38]; rfl)) ?_)))))))))
   refine gy rfl rfl (fun _ _ _ h => h) (ek (by rw [h38]; rfl)) (gy rfl rfl (fun _ _ _ h => h) (ek (by rw [h38]; rfl)) (gy rfl rfl (fun _ _ _ h => h) (ek (by rw [h38]; rfl)) (gy rfl rfl (fun _ _ _ h => h) (ek (by rw [h38]; rfl)) (gy rfl rfl (fun _ _ _ h => h) (ek (by rw [h38]; rfl)) (gy rfl rfl (fun _ _ _ h => h) (ek (by rw [h38]; rfl)) (gy rfl rfl (fun _ _ _ h => h) (pt tz (by rw [h38]; rfl) rfl) (hm rfl rfl (fun _ _ _ h => h) rfl (gy rfl rfl (fun _ _ _ h => h) (ek rfl) (gy rfl rfl (fun _ _ _ h => h) (ek rfl) ?_)))))))))
   refine gy rfl rfl (fun _ _ _ h => h) (ek rfl) (gy rfl rfl (fun _ _ _ h => h) (ek rfl) (gy rfl rfl (fun _ _ _ h => h) (ek rfl) (gy rfl rfl (fun _ _ _ h => h) (ek rfl) (gy rfl rfl (fun _ _ _ h => h) (ek rfl) (gy rfl rfl (fun _ _ _ h => h) (ek rfl) (gy rfl rfl (fun _ _ _ h => h) (ek rfl) (gy rfl rfl (fun _ _ _ h => h) (ek rfl) (gy rfl rfl (fun _ _ _ h => h) (ek rfl) (gy rfl rfl (fun _ _ _ h => h) (ek rfl) ?_)))))))))
   refine gy rfl rfl (fun _ _ _ h => h) (pt tz rfl rfl) (gd (ez (E' := [(0, .slice (some p43) a.length c_a), (1, .slice (some p53) b.length c_b), (4, .bool false), (5, .int .i64 x4), (68, .bool true)]) ⟨rfl, rfl, rfl, rfl, rfl, tz⟩ (et (cv rfl (cq (cr (as_ hO rfl rfl (rj (et ?_)))))))))
   refine ct (eg (ew' (ew' (eg (ew' (er (.inl rfl) rfl rfl ?_))))))
   obtain rfl := o_ hs
   exact ⟨M, (mr _), hO, rfl⟩
  replace hs := cond_f h38 hs
  have h78 : (decide ((nth a x4.toNat).pc = (nth b x4.toNat).pc)) = true := not_f h38
  obtain ⟨w81, hO, ew82⟩ : ∃ w', Own w' M (bs) ∧ { w6 with drawn := w6.drawn + 1 } = w' := ⟨_, hO.drawn _, rfl⟩
  refine cw (S := fun w => Own w M (bs)) (.take 0 (.take 1 (.take 2 (.take 3 (.take 4 (.take 5 (.take 6 (.take 7 (.take 8 (.take 9 (.take 10 (.take 11 (.take 12 (.take 13 (.take 14 (.take 15 (.take 16 (.take 17 (.take 18 (.take 19 (.take 20 (.take 21 (.take 22 (.take 23 (.take 24 (.take 25 (.take 26 (.take 27 (.take 28 (.take 29 (.take 30 (.take 31 (.take 32 (.take 33 (.take 34 (.one 35 (.take 36 (.take 37 (.take 38 (.take 39 (.take 40 (.take 41 (.take 42 (.take 43 (.take 44 (.take 45 (.take 46 (.take 47 (.take 48 (.one 49 (.take 50 (.take 51 .done)))))))))))))))))))))))))))))))))))))))))))))))))))) 52 tm (by kernel_rfl) ew82 hO (hm rfl rfl (fun _ _ _ h => h) rfl (hm rfl rfl (fun _ _ _ h => h) rfl ?_))
  obtain ⟨hg83, hs⟩ := grd hs
  obtain ⟨p84, rfl, _⟩ := RdS.get h_a x4.toNat (by exact ib hg83)
  have hO : Own w81 M (bs) := by assumption
  have q85 : PAt M (p84.add (x4.toNat * 4)) (nth a x4.toNat) := RdS.at h_a x4.toNat (by exact ib hg83)
  refine gy rfl rfl (fun _ _ _ h => h) (yi ts_63 tz rfl rfl (by exact inb_0 hg83) (by exact inb_lt hg83)) (hfa tf_87_0 rfl rfl (fun _ _ _ h => h) rfl ?_)
  obtain ⟨_, at92, b86, c87, b89, c90, rfl, s88, s91⟩ := id q85
  refine hlc tl_3 at92 0 rfl rfl rfl (fun _ _ _ h => h) rfl (hm rfl rfl (fun _ _ _ h => h) rfl (hm rfl rfl (fun _ _ _ h => h) rfl ?_))
  obtain ⟨hg93, hs⟩ := grd hs
  obtain ⟨p94, rfl, _⟩ := RdS.get h_b x4.toNat (by exact ib hg93)
  have hO : Own w81 M (bs) := by assumption
  have q95 : PAt M (p94.add (x4.toNat * 4)) (nth b x4.toNat) := RdS.at h_b x4.toNat (by exact ib hg93)
  refine gy rfl rfl (fun _ _ _ h => h) (yi ts_63 tz rfl rfl (by exact inb_0 hg93) (by exact inb_lt hg93)) (hfa tf_87_0 rfl rfl (fun _ _ _ h => h) rfl ?_)
  obtain ⟨_, at102, b96, c97, b99, c100, rfl, s98, s101⟩ := id q95
  refine hlc tl_3 at102 0 rfl rfl rfl (fun _ _ _ h => h) rfl (gy rfl rfl (fun _ _ _ h => h) (y_ne tz rfl rfl) (hm rfl rfl (fun _ _ _ h => h) rfl (gy rfl rfl (fun _ _ _ h => h) (ym (by rw [h11]; rfl) rfl) (gy rfl rfl (fun _ _ _ h => h) (ym (by rw [h11]; rfl) rfl) ?_))))
  have q103 : PAt M (p84.add (x4.toNat * 4)) (nth a x4.toNat) := RdS.at h_a x4.toNat (by exact ib hg83)
  refine gy rfl rfl (fun _ _ _ h => h) (yi ts_63 (by rw [h11]; rfl) rfl rfl (by exact inb_0 hg83) (by exact inb_lt hg83)) (gy rfl rfl (fun _ _ _ h => h) (ya tf_87_1 (by rw [h11]; rfl) rfl) ?_)
  obtain ⟨_, at110, b104, c105, b107, c108, rfl, s106, s109⟩ := id q103
  refine gy rfl rfl (fun _ _ _ h => h) (yl tl_3 (by rw [h11]; rfl) rfl (fun _ h => at110.cell h 1 rfl)) (gy rfl rfl (fun _ _ _ h => h) (ym (by rw [h11]; rfl) rfl) (gy rfl rfl (fun _ _ _ h => h) (ym (by rw [h11]; rfl) rfl) ?_))
  have q111 : PAt M (p94.add (x4.toNat * 4)) (nth b x4.toNat) := RdS.at h_b x4.toNat (by exact ib hg93)
  refine gy rfl rfl (fun _ _ _ h => h) (yi ts_63 (by rw [h11]; rfl) rfl rfl (by exact inb_0 hg93) (by exact inb_lt hg93)) (gy rfl rfl (fun _ _ _ h => h) (ya tf_87_1 (by rw [h11]; rfl) rfl) ?_)
  obtain ⟨_, at118, b112, c113, b115, c116, rfl, s114, s117⟩ := id q111
  refine gy rfl rfl (fun _ _ _ h => h) (yl tl_3 (by rw [h11]; rfl) rfl (fun _ h => at118.cell h 1 rfl)) (gy rfl rfl (fun _ _ _ h => h) (y_ne (by rw [h11]; rfl) rfl rfl) (gy rfl rfl (fun _ _ _ h => h) (pf tz (by rw [h11]; rfl) rfl) (hm rfl rfl (fun _ _ _ h => h) rfl (gy rfl rfl (fun _ _ _ h => h) (ym (by rw [h38]; rfl) rfl) (gy rfl rfl (fun _ _ _ h => h) (ym (by rw [h38]; rfl) rfl) ?_)))))
  have q119 : PAt M (p84.add (x4.toNat * 4)) (nth a x4.toNat) := RdS.at h_a x4.toNat (by exact ib hg83)
  refine gy rfl rfl (fun _ _ _ h => h) (yi ts_63 (by rw [h38]; rfl) rfl rfl (by exact inb_0 hg83) (by exact inb_lt hg83)) (gy rfl rfl (fun _ _ _ h => h) (ya tf_87_2 (by rw [h38]; rfl) rfl) ?_)
  obtain ⟨_, at126, b120, c121, b123, c124, rfl, s122, s125⟩ := id q119
  refine gy rfl rfl (fun _ _ _ h => h) (yl tl_85 (by rw [h38]; rfl) rfl (fun _ h => at126.cell h 2 rfl)) (gy rfl rfl (fun _ _ _ h => h) (ym (by rw [h38]; rfl) rfl) (gy rfl rfl (fun _ _ _ h => h) (ym (by rw [h38]; rfl) rfl) ?_))
  have q127 : PAt M (p94.add (x4.toNat * 4)) (nth b x4.toNat) := RdS.at h_b x4.toNat (by exact ib hg93)
  refine gy rfl rfl (fun _ _ _ h => h) (yi ts_63 (by rw [h38]; rfl) rfl rfl (by exact inb_0 hg93) (by exact inb_lt hg93)) (gy rfl rfl (fun _ _ _ h => h) (ya tf_87_2 (by rw [h38]; rfl) rfl) ?_)
  obtain ⟨_, at134, b128, c129, b131, c132, rfl, s130, s133⟩ := id q127
  refine gy rfl rfl (fun _ _ _ h => h) (yl tl_85 (by rw [h38]; rfl) rfl (fun _ h => at134.cell h 2 rfl)) ?_
  obtain ⟨v135, hv136, hs⟩ := bind_s hs
  refine hn' rfl (by rw [h38]; rfl) (oc (vs := [.slice b120 (((nth a x4.toNat).locals).length) c121, .slice b128 (((nth b x4.toNat).locals).length) c129]) tcall_40 rfl rfl (c_SameSrcs ((nth a x4.toNat).locals) ((nth b x4.toNat).locals) s122 s130 hv136 hO) ?_)
  rintro _ w137 ⟨M138, le139, hO, rfl⟩
  refine ⟨_, rfl, ?_⟩
  have hO := hO.less le139
  have hO : Own _ M (bs) := hO
  refine kg_s hO (gy rfl rfl (fun _ _ _ h => h) (yt (by rw [h38]; rfl) rfl) (gy rfl rfl (fun _ _ _ h => h) (pf tz (by rw [h38]; rfl) rfl) (hm rfl rfl (fun _ _ _ h => h) rfl ?_)))
  rcases bt (!v135) with h140 | h140
  ·
   replace hs := cond_t h140 hs
   have h141 : v135 = false := not_t h140
   refine gy rfl rfl (fun _ _ _ h => h) (ek (by rw [h140]; rfl)) (gy rfl rfl (fun _ _ _ h => h) (ek (by rw [h140]; rfl)) (gy rfl rfl (fun _ _ _ h => h) (ek (by rw [h140]; rfl)) (gy rfl rfl (fun _ _ _ h => h) (ek (by rw [h140]; rfl)) (gy rfl rfl (fun _ _ _ h => h) (ek (by rw [h140]; rfl)) (gy rfl rfl (fun _ _ _ h => h) (ek (by rw [h140]; rfl)) (gy rfl rfl (fun _ _ _ h => h) (ek (by rw [h140]; rfl)) (gy rfl rfl (fun _ _ _ h => h) (ek (by rw [h140]; rfl)) (gy rfl rfl (fun _ _ _ h => h) (ek (by rw [h140]; rfl)) (gy rfl rfl (fun _ _ _ h => h) (ek (by rw [h140]; rfl)) ?_)))))))))
   refine hg_oneU1 rfl rfl (by rw [h140]; rfl) hO (gy rfl rfl (fun _ _ _ h => h) (ek (by rw [h140]; rfl)) (gy rfl rfl (fun _ _ _ h => h) (pt tz (by rw [h140]; rfl) rfl) (gd (ez (E' := [(0, .slice (some p84) a.length c_a), (1, .slice (some p94) b.length c_b), (4, .bool false), (5, .int .i64 x4), (68, .bool true)]) ⟨rfl, rfl, rfl, rfl, rfl, tz⟩ (et (cv rfl (cq (cr (as_ hO rfl rfl ?_)))))))))
   refine rj (et (ct (eg (ew' (ew' (eg (ew' (er (.inl rfl) rfl rfl ?_))))))))
   obtain rfl := o_ hs
   exact ⟨M, (mr _), hO, rfl⟩
  replace hs := cond_f h140 hs
  have h142 : v135 = true := not_f h140
  refine gy rfl rfl (fun _ _ _ h => h) (ym (by rw [h140]; rfl) rfl) (gy rfl rfl (fun _ _ _ h => h) (ym (by rw [h140]; rfl) rfl) ?_)
  have q143 : PAt M (p84.add (x4.toNat * 4)) (nth a x4.toNat) := RdS.at h_a x4.toNat (by exact ib hg83)
  refine gy rfl rfl (fun _ _ _ h => h) (yi ts_63 (by rw [h140]; rfl) rfl rfl (by exact inb_0 hg83) (by exact inb_lt hg83)) (gy rfl rfl (fun _ _ _ h => h) (ya tf_87_3 (by rw [h140]; rfl) rfl) ?_)
  obtain ⟨_, at150, b144, c145, b147, c148, rfl, s146, s149⟩ := id q143
  refine gy rfl rfl (fun _ _ _ h => h) (yl tl_85 (by rw [h140]; rfl) rfl (fun _ h => at150.cell h 3 rfl)) (gy rfl rfl (fun _ _ _ h => h) (ym (by rw [h140]; rfl) rfl) (gy rfl rfl (fun _ _ _ h => h) (ym (by rw [h140]; rfl) rfl) ?_))
  have q151 : PAt M (p94.add (x4.toNat * 4)) (nth b x4.toNat) := RdS.at h_b x4.toNat (by exact ib hg93)
  refine gy rfl rfl (fun _ _ _ h => h) (yi ts_63 (by rw [h140]; rfl) rfl rfl (by exact inb_0 hg93) (by exact inb_lt hg93)) (gy rfl rfl (fun _ _ _ h => h) (ya tf_87_3 (by rw [h140]; rfl) rfl) ?_)
  obtain ⟨_, at158, b152, c153, b155, c156, rfl, s154, s157⟩ := id q151
  refine gy rfl rfl (fun _ _ _ h => h) (yl tl_85 (by rw [h140]; rfl) rfl (fun _ h => at158.cell h 3 rfl)) ?_
  obtain ⟨v159, hv160, hs⟩ := bind_s hs
  refine hn' rfl (by rw [h140]; rfl) (oc (vs := [.slice b147 (((nth a x4.toNat).stack).length) c148, .slice b155 (((nth b x4.toNat).stack).length) c156]) tcall_40 rfl rfl (c_SameSrcs ((nth a x4.toNat).stack) ((nth b x4.toNat).stack) s149 s157 hv160 hO) ?_)
  rintro _ w161 ⟨M162, le163, hO, rfl⟩
  refine ⟨_, rfl, ?_⟩
  have hO := hO.less le163
  have hO : Own _ M (bs) := hO
  refine kg_s hO (gy rfl rfl (fun _ _ _ h => h) (yt (by rw [h140]; rfl) rfl) (gy rfl rfl (fun _ _ _ h => h) (pf tz (by rw [h140]; rfl) rfl) (gd (ez (E' := [(0, .slice (some p84) a.length c_a), (1, .slice (some p94) b.length c_b), (4, .bool false), (5, .int .i64 x4), (68, .bool (!v159))]) ⟨rfl, rfl, rfl, rfl, rfl, tz⟩ (et (cd rfl (fun h164 => ?_) (fun h164 => ?_)))))))
  ·
   replace hs := cond_t h164 hs
   have h165 : v159 = false := not_t h164
   refine cq (cr (as_ hO rfl rfl (rj (et (ct (eg (ew' (ew' (eg ?_)))))))))
   refine ew' (er (.inl rfl) rfl rfl ?_)
   obtain rfl := o_ hs
   exact ⟨M, (mr _), hO, rfl⟩
  replace hs := cond_f h164 hs
  have h166 : v159 = true := not_f h164
  exact cp (ek' (et (cr (mv hO rfl rfl (ry hO rfl (y_add (wI (x4 + 1)) tz rfl rfl rfl) (as_ hO rfl rfl (rj (eo ⟨wI (x4 + 1), rfl, hs, hO⟩ ⟨rfl, rfl, rfl, rfl, tz⟩ (Nat.lt_succ_self _)))))))))
 replace hs := cond_f h8 hs
 refine cx (eh (eh (ej (et (cq (cr (as_ hO rfl rfl (rj (et ?_)))))))))
 refine ct (er (.inl rfl) rfl rfl ?_)
 obtain rfl := o_ hs
 exact ⟨M, (mr _), hO, rfl⟩

def s_SameCode_L1 (n : Nat) (a : CodeD) (b : CodeD) : Nat → Int → Option Bool
  | 0, _ => none
  | fu63 + 1, x62 => cond (decide (x62 < (a.metas.length : Int))) (cond (inb x62 a.metas.length) (cond (inb x62 b.metas.length) ((s_sameParts n ((nth a.metas x62.toNat).parts) ((nth b.metas x62.toNat).parts)).bind fun v83 => cond (!v83) (some false) (s_SameCode_L1 n a b fu63 (wI (x62 + 1)))) none) none) (some true)
def s_SameCode_L0 (n : Nat) (a : CodeD) (b : CodeD) : Nat → Int → Option Bool
  | 0, _ => none
  | fu34 + 1, x33 => cond (decide (x33 < (a.code.length : Int))) (cond (inb x33 a.code.length) (cond (inb x33 b.code.length) ((s_SameIr n (nth a.code x33.toNat) (nth b.code x33.toNat)).bind fun v54 => cond (!v54) (some false) (s_SameCode_L0 n a b fu34 (wI (x33 + 1)))) none) none) (s_SameCode_L1 n a b n 0)
def s_SameCode (n : Nat) (a : CodeD) (b : CodeD) : Option Bool := andj (cond (!decide (a.fn = b.fn)) (some (.inl true)) (cond (!decide (a.regs = b.regs)) (some (.inl true)) (cond (!decide ((a.code.length : Int) = (b.code.length : Int))) (some (.inl true)) (some (.inl (!decide ((a.metas.length : Int) = (b.metas.length : Int)))))))) fun y17 => cond y17 (some false) (s_SameCode_L0 n a b n 0)
set_option maxHeartbeats 6400000 in
theorem c_SameCode {n : Nat} {vs_a : List Value} {vs_b : List Value} (a : CodeD) (b : CodeD) {r : Bool} {w : World} {M : Mem} {bs : List (Nat × Obj)} (h_a : Rep.rd M vs_a a) (h_b : Rep.rd M vs_b b) (hs : s_SameCode n a b = some r) (hO : Own w M (bs)) :
    Calls Tryd.prog 10 #[.agg vs_a.toArray, .agg vs_b.toArray] w (fun e w' => ∃ M' : Mem, Mem.le M M' ∧ Own w' M' (bs) ∧ e = .returned (.bool r)) := by
 obtain ⟨b1, c2, b4, c5, rfl, s3, s6⟩ := h_a
 obtain ⟨b7, c8, b10, c11, rfl, s9, s12⟩ := h_b
 unfold s_SameCode at hs
 refine ce (vs := [.agg #[.int .i64 a.fn, .int .i64 a.regs, .slice b1 a.code.length c2, .slice b4 a.metas.length c5], .agg #[.int .i64 b.fn, .int .i64 b.regs, .slice b7 b.code.length c8, .slice b10 b.metas.length c11]]) (n := 77) Tryd.func10 rfl rfl rfl (cq (cr (rd' tz (og_box hO rfl rfl (fun b13 w14 hO => ?_)))))
 have hO : Own _ M ([(b13, .cells #[.int .i64 a.fn, .int .i64 a.regs, .slice b1 a.code.length c2, .slice b4 a.metas.length c5] 28)] ++ bs) := hO
 refine rd' tz (og_box hO rfl rfl (fun b15 w16 hO => ?_))
 have hO : Own _ M ([(b15, .cells #[.int .i64 b.fn, .int .i64 b.regs, .slice b7 b.code.length c8, .slice b10 b.metas.length c11] 28)] ++ ([(b13, .cells #[.int .i64 a.fn, .int .i64 a.regs, .slice b1 a.code.length c2, .slice b4 a.metas.length c5] 28)] ++ bs)) := hO
 refine as_ hO rfl rfl (rj (et (cq (cq ?_))))
 obtain ⟨o18, hs, hj20⟩ := andj_s hs
 refine cg_join (fun E' w' => ∃ y17 : Bool, E' = [(2, .pointer (some ⟨b13, 0, none⟩)), (3, .pointer (some ⟨b15, 0, none⟩)), (4, .bool false), (36, .bool y17)] ∧ o18 = .inl y17 ∧ Own w' M ([(b15, .cells #[.int .i64 b.fn, .int .i64 b.regs, .slice b7 b.code.length c8, .slice b10 b.metas.length c11] 28)] ++ ([(b13, .cells #[.int .i64 a.fn, .int .i64 a.regs, .slice b1 a.code.length c2, .slice b4 a.metas.length c5] 28)] ++ bs))) ?_ ?_
 ·
  refine cr (fb 0 tf_28_0 rfl hO rfl rfl (ry hO rfl (yl tl_3 tz rfl (fun _ h => ob (h.front1) 0 0 rfl rfl)) (fb 0 tf_28_0 rfl hO rfl rfl (ry hO rfl (yl tl_3 tz rfl (fun _ h => ob h 0 0 rfl rfl)) (ry hO rfl (y_ne tz rfl rfl) (mv hO rfl rfl ?_))))))
  rcases bt (!decide (a.fn = b.fn)) with h23 | h23
  ·
   replace hs := cond_t h23 hs
   have h24 : (decide (a.fn = b.fn)) = false := not_t h23
   refine ry hO rfl (ek (by rw [h23]; rfl)) (ry hO rfl (ek (by rw [h23]; rfl)) (ry hO rfl (ek (by rw [h23]; rfl)) (ry hO rfl (ek (by rw [h23]; rfl)) (ry hO rfl (ek (by rw [h23]; rfl)) (ry hO rfl (pt tz (by rw [h23]; rfl) rfl) (mv hO rfl rfl (ry hO rfl (ek rfl) (ry hO rfl (ek rfl) (ry hO rfl (ek rfl) ?_)))))))))
   refine ry hO rfl (ek rfl) (ry hO rfl (ek rfl) (ry hO rfl (ek rfl) (ry hO rfl (ek rfl) (ry hO rfl (pt tz rfl rfl) (mv hO rfl rfl (ry hO rfl (ek rfl) (ry hO rfl (ek rfl) (ry hO rfl (ek rfl) (ry hO rfl (ek rfl) ?_)))))))))
   exact ry hO rfl (ek rfl) (ry hO rfl (ek rfl) (ry hO rfl (ek rfl) (ry hO rfl (pt tz rfl rfl) (rj (ej' ⟨true, rfl, inl_s hs, hO⟩ ⟨rfl, rfl, rfl, rfl, tz⟩)))))
  replace hs := cond_f h23 hs
  have h25 : (decide (a.fn = b.fn)) = true := not_f h23
  refine ry hO rfl (yf 1 tf_28_1 rfl (by rw [h23]; rfl) rfl) (ry hO rfl (yl tl_3 (by rw [h23]; rfl) rfl (fun _ h => ob (h.front1) 0 1 rfl rfl)) (ry hO rfl (yf 1 tf_28_1 rfl (by rw [h23]; rfl) rfl) (ry hO rfl (yl tl_3 (by rw [h23]; rfl) rfl (fun _ h => ob h 0 1 rfl rfl)) (ry hO rfl (y_ne (by rw [h23]; rfl) rfl rfl) (ry hO rfl (pf tz (by rw [h23]; rfl) rfl) (mv hO rfl rfl ?_))))))
  rcases bt (!decide (a.regs = b.regs)) with h26 | h26
  ·
   replace hs := cond_t h26 hs
   have h27 : (decide (a.regs = b.regs)) = false := not_t h26
   refine ry hO rfl (ek (by rw [h26]; rfl)) (ry hO rfl (ek (by rw [h26]; rfl)) (ry hO rfl (ek (by rw [h26]; rfl)) (ry hO rfl (ek (by rw [h26]; rfl)) (ry hO rfl (ek (by rw [h26]; rfl)) (ry hO rfl (ek (by rw [h26]; rfl)) (ry hO rfl (ek (by rw [h26]; rfl)) (ry hO rfl (pt tz (by rw [h26]; rfl) rfl) (mv hO rfl rfl (ry hO rfl (ek rfl) ?_)))))))))
   exact ry hO rfl (ek rfl) (ry hO rfl (ek rfl) (ry hO rfl (ek rfl) (ry hO rfl (ek rfl) (ry hO rfl (ek rfl) (ry hO rfl (ek rfl) (ry hO rfl (pt tz rfl rfl) (rj (ej' ⟨true, rfl, inl_s hs, hO⟩ ⟨rfl, rfl, rfl, rfl, tz⟩))))))))
  replace hs := cond_f h26 hs
  have h28 : (decide (a.regs = b.regs)) = true := not_f h26
  refine ry hO rfl (yf 2 tf_28_2 rfl (by rw [h26]; rfl) rfl) (ry hO rfl (yl tl_25 (by rw [h26]; rfl) rfl (fun _ h => ob (h.front1) 0 2 rfl rfl)) (ry hO rfl (y_len ts_25 (by rw [h26]; rfl) rfl) (ry hO rfl (yf 2 tf_28_2 rfl (by rw [h26]; rfl) rfl) (ry hO rfl (yl tl_25 (by rw [h26]; rfl) rfl (fun _ h => ob h 0 2 rfl rfl)) (ry hO rfl (y_len ts_25 (by rw [h26]; rfl) rfl) (ry hO rfl (y_ne (by rw [h26]; rfl) rfl rfl) (ry hO rfl (pf tz (by rw [h26]; rfl) rfl) (mv hO rfl rfl ?_))))))))
  rcases bt (!decide ((a.code.length : Int) = (b.code.length : Int))) with h29 | h29
  ·
   replace hs := cond_t h29 hs
   have h30 : (decide ((a.code.length : Int) = (b.code.length : Int))) = false := not_t h29
   exact ry hO rfl (ek (by rw [h29]; rfl)) (ry hO rfl (ek (by rw [h29]; rfl)) (ry hO rfl (ek (by rw [h29]; rfl)) (ry hO rfl (ek (by rw [h29]; rfl)) (ry hO rfl (ek (by rw [h29]; rfl)) (ry hO rfl (ek (by rw [h29]; rfl)) (ry hO rfl (ek (by rw [h29]; rfl)) (ry hO rfl (pt tz (by rw [h29]; rfl) rfl) (rj (ej' ⟨true, rfl, inl_s hs, hO⟩ ⟨rfl, rfl, rfl, rfl, tz⟩)))))))))
  replace hs := cond_f h29 hs
  have h31 : (decide ((a.code.length : Int) = (b.code.length : Int))) = true := not_f h29
  exact ry hO rfl (yf 3 tf_28_3 rfl (by rw [h29]; rfl) rfl) (ry hO rfl (yl tl_26 (by rw [h29]; rfl) rfl (fun _ h => ob (h.front1) 0 3 rfl rfl)) (ry hO rfl (y_len ts_26 (by rw [h29]; rfl) rfl) (ry hO rfl (yf 3 tf_28_3 rfl (by rw [h29]; rfl) rfl) (ry hO rfl (yl tl_26 (by rw [h29]; rfl) rfl (fun _ h => ob h 0 3 rfl rfl)) (ry hO rfl (y_len ts_26 (by rw [h29]; rfl) rfl) (ry hO rfl (y_ne (by rw [h29]; rfl) rfl rfl) (ry hO rfl (pf tz (by rw [h29]; rfl) rfl) (rj (ej' ⟨!decide ((a.metas.length : Int) = (b.metas.length : Int)), rfl, inl_s hs, hO⟩ ⟨rfl, rfl, rfl, rfl, tz⟩)))))))))
 rintro _ w22 ⟨y17, rfl, ho21, hO⟩
 replace hs := Aft.l hj20 ho21
 try dsimp only at hs
 refine et (cd rfl (fun h32 => ?_) (fun h32 => ?_))
 ·
  replace hs := cond_t h32 hs
  refine cq (cr (as_ hO rfl rfl (rj (et (ct (ew' (er (.inl rfl) rfl rfl ?_)))))))
  have hO := hO.forget
  have hO := hO.forget
  obtain rfl := o_ hs
  exact ⟨M, (mr _), hO, rfl⟩
 replace hs := cond_f h32 hs
 refine cp (et (cq (cq (cr (as_ hO rfl rfl (rj (et (cb (ci (fun m36 E' w' => ∃ x33 : Int, E' = [(2, .pointer (some ⟨b13, 0, none⟩)), (3, .pointer (some ⟨b15, 0, none⟩)), (4, .bool false), (5, .int .i64 x33)] ∧ s_SameCode_L0 n a b m36 x33 = some r ∧ Own w' M ([(b15, .cells #[.int .i64 b.fn, .int .i64 b.regs, .slice b7 b.code.length c8, .slice b10 b.metas.length c11] 28)] ++ ([(b13, .cells #[.int .i64 a.fn, .int .i64 a.regs, .slice b1 a.code.length c2, .slice b4 a.metas.length c5] 28)] ++ bs))) (m0 := n) ⟨0, rfl, hs, hO⟩ ⟨rfl, rfl, rfl, rfl, tz⟩ ?_)))))))))
 rintro fu34 _ w35 ⟨x33, rfl, hs, hO⟩
 rcases fu34 with _ | fu34
 ·
  simp [s_SameCode_L0] at hs
 rw [s_SameCode_L0] at hs
 refine cq (cq (cr (mv hO rfl rfl (fb 2 tf_28_2 rfl hO rfl rfl (ry hO rfl (yl tl_25 tz rfl (fun _ h => ob (h.front1) 0 2 rfl rfl)) (ln ts_25 hO rfl rfl (ry hO rfl (yv tz rfl rfl) (rj (et ?_)))))))))
 refine cd rfl (fun h37 => ?_) (fun h37 => ?_)
 ·
  replace hs := cond_t h37 hs
  refine cp (et (cq (cb (cq ?_))))
  obtain ⟨w38, hO, ew39⟩ : ∃ w', Own w' M ([(b15, .cells #[.int .i64 b.fn, .int .i64 b.regs, .slice b7 b.code.length c8, .slice b10 b.metas.length c11] 28)] ++ ([(b13, .cells #[.int .i64 a.fn, .int .i64 a.regs, .slice b1 a.code.length c2, .slice b4 a.metas.length c5] 28)] ++ bs)) ∧ { w35 with drawn := w35.drawn + 1 } = w' := ⟨_, hO.drawn _, rfl⟩
  refine cw (S := fun w => Own w M ([(b15, .cells #[.int .i64 b.fn, .int .i64 b.regs, .slice b7 b.code.length c8, .slice b10 b.metas.length c11] 28)] ++ ([(b13, .cells #[.int .i64 a.fn, .int .i64 a.regs, .slice b1 a.code.length c2, .slice b4 a.metas.length c5] 28)] ++ bs))) (.take 0 (.take 1 (.take 2 (.take 3 (.take 4 (.take 5 (.take 6 (.take 7 (.take 8 (.take 9 (.one 10 (.take 11 .done)))))))))))) 12 tm (by kernel_rfl) ew39 hO (hfb 2 tf_28_2 rfl rfl rfl (fun _ _ _ h => h) rfl (gy rfl rfl (fun _ _ _ h => h) (yl tl_25 tz rfl (fun _ h => ob (h.front1) 0 2 rfl rfl)) (hm rfl rfl (fun _ _ _ h => h) rfl ?_)))
  obtain ⟨hg40, hs⟩ := grd hs
  obtain ⟨p41, rfl, _⟩ := RdS.get s3 x33.toNat (by exact ib hg40)
  have hO : Own w38 M ([(b15, .cells #[.int .i64 b.fn, .int .i64 b.regs, .slice b7 b.code.length c8, .slice b10 b.metas.length c11] 28)] ++ ([(b13, .cells #[.int .i64 a.fn, .int .i64 a.regs, .slice (some p41) a.code.length c2, .slice b4 a.metas.length c5] 28)] ++ bs)) := by assumption
  have q42 : PAt M (p41.add (x33.toNat * 9)) (nth a.code x33.toNat) := RdS.at s3 x33.toNat (by exact ib hg40)
  refine gy rfl rfl (fun _ _ _ h => h) (yi ts_25 tz rfl rfl (by exact inb_0 hg40) (by exact inb_lt hg40)) ?_
  obtain ⟨_, at46, b43, c44, rfl, s45⟩ := id q42
  refine gy rfl rfl (fun _ _ _ h => h) (yq [.int .i64 ((nth a.code x33.toNat).kind), .int .i64 ((nth a.code x33.toNat).r), .int .i64 ((nth a.code x33.toNat).a), .int .i64 ((nth a.code x33.toNat).b), .int .i64 ((nth a.code x33.toNat).k), .slice b43 (((nth a.code x33.toNat).args).length) c44, .int .i64 ((nth a.code x33.toNat).cost), .int .i64 ((nth a.code x33.toNat).mt), .int .i64 ((nth a.code x33.toNat).pc)] ta_38 rfl tz rfl (fun _ h j _ e => at46.cell h j e)) (hfb 2 tf_28_2 rfl rfl rfl (fun _ _ _ h => h) rfl (gy rfl rfl (fun _ _ _ h => h) (yl tl_25 tz rfl (fun _ h => ob h 0 2 rfl rfl)) (hm rfl rfl (fun _ _ _ h => h) rfl ?_)))
  obtain ⟨hg47, hs⟩ := grd hs
  obtain ⟨p48, rfl, _⟩ := RdS.get s9 x33.toNat (by exact ib hg47)
  have hO : Own w38 M ([(b15, .cells #[.int .i64 b.fn, .int .i64 b.regs, .slice (some p48) b.code.length c8, .slice b10 b.metas.length c11] 28)] ++ ([(b13, .cells #[.int .i64 a.fn, .int .i64 a.regs, .slice (some p41) a.code.length c2, .slice b4 a.metas.length c5] 28)] ++ bs)) := by assumption
  have q49 : PAt M (p48.add (x33.toNat * 9)) (nth b.code x33.toNat) := RdS.at s9 x33.toNat (by exact ib hg47)
  refine gy rfl rfl (fun _ _ _ h => h) (yi ts_25 tz rfl rfl (by exact inb_0 hg47) (by exact inb_lt hg47)) ?_
  obtain ⟨_, at53, b50, c51, rfl, s52⟩ := id q49
  refine gy rfl rfl (fun _ _ _ h => h) (yq [.int .i64 ((nth b.code x33.toNat).kind), .int .i64 ((nth b.code x33.toNat).r), .int .i64 ((nth b.code x33.toNat).a), .int .i64 ((nth b.code x33.toNat).b), .int .i64 ((nth b.code x33.toNat).k), .slice b50 (((nth b.code x33.toNat).args).length) c51, .int .i64 ((nth b.code x33.toNat).cost), .int .i64 ((nth b.code x33.toNat).mt), .int .i64 ((nth b.code x33.toNat).pc)] ta_38 rfl tz rfl (fun _ h j _ e => at53.cell h j e)) ?_
  obtain ⟨v54, hv55, hs⟩ := bind_s hs
  refine hn' rfl tz (oc (vs := [.agg #[.int .i64 ((nth a.code x33.toNat).kind), .int .i64 ((nth a.code x33.toNat).r), .int .i64 ((nth a.code x33.toNat).a), .int .i64 ((nth a.code x33.toNat).b), .int .i64 ((nth a.code x33.toNat).k), .slice b43 (((nth a.code x33.toNat).args).length) c44, .int .i64 ((nth a.code x33.toNat).cost), .int .i64 ((nth a.code x33.toNat).mt), .int .i64 ((nth a.code x33.toNat).pc)], .agg #[.int .i64 ((nth b.code x33.toNat).kind), .int .i64 ((nth b.code x33.toNat).r), .int .i64 ((nth b.code x33.toNat).a), .int .i64 ((nth b.code x33.toNat).b), .int .i64 ((nth b.code x33.toNat).k), .slice b50 (((nth b.code x33.toNat).args).length) c51, .int .i64 ((nth b.code x33.toNat).cost), .int .i64 ((nth b.code x33.toNat).mt), .int .i64 ((nth b.code x33.toNat).pc)]]) tcall_11 rfl rfl (c_SameIr (vs_a := [.int .i64 ((nth a.code x33.toNat).kind), .int .i64 ((nth a.code x33.toNat).r), .int .i64 ((nth a.code x33.toNat).a), .int .i64 ((nth a.code x33.toNat).b), .int .i64 ((nth a.code x33.toNat).k), .slice b43 (((nth a.code x33.toNat).args).length) c44, .int .i64 ((nth a.code x33.toNat).cost), .int .i64 ((nth a.code x33.toNat).mt), .int .i64 ((nth a.code x33.toNat).pc)]) (nth a.code x33.toNat) (vs_b := [.int .i64 ((nth b.code x33.toNat).kind), .int .i64 ((nth b.code x33.toNat).r), .int .i64 ((nth b.code x33.toNat).a), .int .i64 ((nth b.code x33.toNat).b), .int .i64 ((nth b.code x33.toNat).k), .slice b50 (((nth b.code x33.toNat).args).length) c51, .int .i64 ((nth b.code x33.toNat).cost), .int .i64 ((nth b.code x33.toNat).mt), .int .i64 ((nth b.code x33.toNat).pc)]) (nth b.code x33.toNat) ⟨b43, c44, rfl, s45⟩ ⟨b50, c51, rfl, s52⟩ hv55 hO) ?_)
  rintro _ w56 ⟨M57, le58, hO, rfl⟩
  refine ⟨_, rfl, ?_⟩
  have hO := hO.less le58
  have hO : Own _ M ([(b15, .cells #[.int .i64 b.fn, .int .i64 b.regs, .slice (some p48) b.code.length c8, .slice b10 b.metas.length c11] 28)] ++ ([(b13, .cells #[.int .i64 a.fn, .int .i64 a.regs, .slice (some p41) a.code.length c2, .slice b4 a.metas.length c5] 28)] ++ bs)) := hO
  refine kg_s hO (gy rfl rfl (fun _ _ _ h => h) (yt tz rfl) (gd (ez (E' := [(2, .pointer (some ⟨b13, 0, none⟩)), (3, .pointer (some ⟨b15, 0, none⟩)), (4, .bool false), (5, .int .i64 x33), (55, .bool (!v54))]) ⟨rfl, rfl, rfl, rfl, rfl, tz⟩ (et (cd rfl (fun h59 => ?_) (fun h59 => ?_))))))
  ·
   replace hs := cond_t h59 hs
   have h60 : v54 = false := not_t h59
   refine cq (cr (as_ hO rfl rfl (rj (et (ct (eg (ew' (ew' (eg ?_)))))))))
   refine ew' (er (.inl rfl) rfl rfl ?_)
   have hO := hO.forget
   have hO := hO.forget
   obtain rfl := o_ hs
   exact ⟨M, (mr _), hO, rfl⟩
  replace hs := cond_f h59 hs
  have h61 : v54 = true := not_f h59
  exact cp (ek' (et (cr (mv hO rfl rfl (ry hO rfl (y_add (wI (x33 + 1)) tz rfl rfl rfl) (as_ hO rfl rfl (rj (eo ⟨wI (x33 + 1), rfl, hs, hO⟩ ⟨rfl, rfl, rfl, rfl, tz⟩ (Nat.lt_succ_self _)))))))))
 replace hs := cond_f h37 hs
 refine cx (eh (eh (ej (et (cq (cq (cr (as_ hO rfl rfl (rj ?_)))))))))
 refine et (cb (ci (fun m65 E' w' => ∃ x62 : Int, E' = [(2, .pointer (some ⟨b13, 0, none⟩)), (3, .pointer (some ⟨b15, 0, none⟩)), (4, .bool false), (6, .int .i64 x62)] ∧ s_SameCode_L1 n a b m65 x62 = some r ∧ Own w' M ([(b15, .cells #[.int .i64 b.fn, .int .i64 b.regs, .slice b7 b.code.length c8, .slice b10 b.metas.length c11] 28)] ++ ([(b13, .cells #[.int .i64 a.fn, .int .i64 a.regs, .slice b1 a.code.length c2, .slice b4 a.metas.length c5] 28)] ++ bs))) (m0 := n) ⟨0, rfl, hs, hO⟩ ⟨rfl, rfl, rfl, rfl, tz⟩ ?_))
 rintro fu63 _ w64 ⟨x62, rfl, hs, hO⟩
 rcases fu63 with _ | fu63
 ·
  simp [s_SameCode_L1] at hs
 rw [s_SameCode_L1] at hs
 refine cq (cq (cr (mv hO rfl rfl (fb 3 tf_28_3 rfl hO rfl rfl (ry hO rfl (yl tl_26 tz rfl (fun _ h => ob (h.front1) 0 3 rfl rfl)) (ln ts_26 hO rfl rfl (ry hO rfl (yv tz rfl rfl) (rj (et ?_)))))))))
 refine cd rfl (fun h66 => ?_) (fun h66 => ?_)
 ·
  replace hs := cond_t h66 hs
  refine cp (et (cq (cb (cq ?_))))
  obtain ⟨w67, hO, ew68⟩ : ∃ w', Own w' M ([(b15, .cells #[.int .i64 b.fn, .int .i64 b.regs, .slice b7 b.code.length c8, .slice b10 b.metas.length c11] 28)] ++ ([(b13, .cells #[.int .i64 a.fn, .int .i64 a.regs, .slice b1 a.code.length c2, .slice b4 a.metas.length c5] 28)] ++ bs)) ∧ { w64 with drawn := w64.drawn + 1 } = w' := ⟨_, hO.drawn _, rfl⟩
  refine cw (S := fun w => Own w M ([(b15, .cells #[.int .i64 b.fn, .int .i64 b.regs, .slice b7 b.code.length c8, .slice b10 b.metas.length c11] 28)] ++ ([(b13, .cells #[.int .i64 a.fn, .int .i64 a.regs, .slice b1 a.code.length c2, .slice b4 a.metas.length c5] 28)] ++ bs))) (.take 0 (.take 1 (.take 2 (.take 3 (.take 4 (.take 5 (.take 6 (.take 7 (.take 8 (.take 9 (.take 10 (.take 11 (.one 12 (.take 13 .done)))))))))))))) 14 tm (by kernel_rfl) ew68 hO (hfb 3 tf_28_3 rfl rfl rfl (fun _ _ _ h => h) rfl (gy rfl rfl (fun _ _ _ h => h) (yl tl_26 tz rfl (fun _ h => ob (h.front1) 0 3 rfl rfl)) (hm rfl rfl (fun _ _ _ h => h) rfl ?_)))
  obtain ⟨hg69, hs⟩ := grd hs
  obtain ⟨p70, rfl, _⟩ := RdS.get s6 x62.toNat (by exact ib hg69)
  have hO : Own w67 M ([(b15, .cells #[.int .i64 b.fn, .int .i64 b.regs, .slice b7 b.code.length c8, .slice b10 b.metas.length c11] 28)] ++ ([(b13, .cells #[.int .i64 a.fn, .int .i64 a.regs, .slice b1 a.code.length c2, .slice (some p70) a.metas.length c5] 28)] ++ bs)) := by assumption
  have q71 : PAt M (p70.add (x62.toNat * 1)) (nth a.metas x62.toNat) := RdS.at s6 x62.toNat (by exact ib hg69)
  refine gy rfl rfl (fun _ _ _ h => h) (yi ts_26 tz rfl rfl (by exact inb_0 hg69) (by exact inb_lt hg69)) (hfa tf_65_0 rfl rfl (fun _ _ _ h => h) rfl ?_)
  obtain ⟨_, at75, b72, c73, rfl, s74⟩ := id q71
  refine hlc tl_63 at75 0 rfl rfl rfl (fun _ _ _ h => h) rfl (hfb 3 tf_28_3 rfl rfl rfl (fun _ _ _ h => h) rfl (gy rfl rfl (fun _ _ _ h => h) (yl tl_26 tz rfl (fun _ h => ob h 0 3 rfl rfl)) (hm rfl rfl (fun _ _ _ h => h) rfl ?_)))
  obtain ⟨hg76, hs⟩ := grd hs
  obtain ⟨p77, rfl, _⟩ := RdS.get s12 x62.toNat (by exact ib hg76)
  have hO : Own w67 M ([(b15, .cells #[.int .i64 b.fn, .int .i64 b.regs, .slice b7 b.code.length c8, .slice (some p77) b.metas.length c11] 28)] ++ ([(b13, .cells #[.int .i64 a.fn, .int .i64 a.regs, .slice b1 a.code.length c2, .slice (some p70) a.metas.length c5] 28)] ++ bs)) := by assumption
  have q78 : PAt M (p77.add (x62.toNat * 1)) (nth b.metas x62.toNat) := RdS.at s12 x62.toNat (by exact ib hg76)
  refine gy rfl rfl (fun _ _ _ h => h) (yi ts_26 tz rfl rfl (by exact inb_0 hg76) (by exact inb_lt hg76)) (hfa tf_65_0 rfl rfl (fun _ _ _ h => h) rfl ?_)
  obtain ⟨_, at82, b79, c80, rfl, s81⟩ := id q78
  refine hlc tl_63 at82 0 rfl rfl rfl (fun _ _ _ h => h) rfl ?_
  obtain ⟨v83, hv84, hs⟩ := bind_s hs
  refine hn' rfl tz (oc (vs := [.slice b72 (((nth a.metas x62.toNat).parts).length) c73, .slice b79 (((nth b.metas x62.toNat).parts).length) c80]) tcall_20 rfl rfl (c_sameParts ((nth a.metas x62.toNat).parts) ((nth b.metas x62.toNat).parts) s74 s81 hv84 hO) ?_)
  rintro _ w85 ⟨M86, le87, hO, rfl⟩
  refine ⟨_, rfl, ?_⟩
  have hO := hO.less le87
  have hO : Own _ M ([(b15, .cells #[.int .i64 b.fn, .int .i64 b.regs, .slice b7 b.code.length c8, .slice (some p77) b.metas.length c11] 28)] ++ ([(b13, .cells #[.int .i64 a.fn, .int .i64 a.regs, .slice b1 a.code.length c2, .slice (some p70) a.metas.length c5] 28)] ++ bs)) := hO
  refine kg_s hO (gy rfl rfl (fun _ _ _ h => h) (yt tz rfl) (gd (ez (E' := [(2, .pointer (some ⟨b13, 0, none⟩)), (3, .pointer (some ⟨b15, 0, none⟩)), (4, .bool false), (6, .int .i64 x62), (76, .bool (!v83))]) ⟨rfl, rfl, rfl, rfl, rfl, tz⟩ (et (cd rfl (fun h88 => ?_) (fun h88 => ?_))))))
  ·
   replace hs := cond_t h88 hs
   have h89 : v83 = false := not_t h88
   refine cq (cr (as_ hO rfl rfl (rj (et (ct (eg (ew' (ew' (eg ?_)))))))))
   refine ew' (er (.inl rfl) rfl rfl ?_)
   have hO := hO.forget
   have hO := hO.forget
   obtain rfl := o_ hs
   exact ⟨M, (mr _), hO, rfl⟩
  replace hs := cond_f h88 hs
  have h90 : v83 = true := not_f h88
  exact cp (ek' (et (cr (mv hO rfl rfl (ry hO rfl (y_add (wI (x62 + 1)) tz rfl rfl rfl) (as_ hO rfl rfl (rj (eo ⟨wI (x62 + 1), rfl, hs, hO⟩ ⟨rfl, rfl, rfl, rfl, tz⟩ (Nat.lt_succ_self _)))))))))
 replace hs := cond_f h66 hs
 refine cx (eh (eh (ej (et (cq (cr (as_ hO rfl rfl (rj (et ?_)))))))))
 refine ct (er (.inl rfl) rfl rfl ?_)
 have hO := hO.forget
 have hO := hO.forget
 obtain rfl := o_ hs
 exact ⟨M, (mr _), hO, rfl⟩

def s_DeadMay_L0 (n : Nat) (c : CodeD) (v26 : CodeD × Int) : Nat → Int → Option Bool
  | 0, _ => none
  | fu245 + 1, x243 => cond (decide (x243 < (v26.1.code.length : Int))) (cond (inb x243 v26.1.code.length) (cond (inb x243 c.code.length) (andj (cond (decide ((nth c.code x243.toNat).kind = 1)) (some (.inl true)) (cond (decide ((nth c.code x243.toNat).kind = 2)) (some (.inl true)) (cond (decide ((nth c.code x243.toNat).kind = 3)) (cond (!decide ((nth c.code x243.toNat).k = 6)) (some (.inl (!decide ((nth c.code x243.toNat).k = 7)))) (some (.inl false))) (some (.inl false))))) fun y287 => cond (!decide ((nth v26.1.code x243.toNat).cost = (nth c.code x243.toNat).cost)) (some false) ((s_SameIr n (nth v26.1.code x243.toNat) (nth c.code x243.toNat)).bind fun v302 => cond (!v302) (cond (!y287) (some false) (cond (!decide ((nth v26.1.code x243.toNat).kind = 0)) (some false) (s_DeadMay_L0 n c v26 fu245 (wI (x243 + 1))))) (s_DeadMay_L0 n c v26 fu245 (wI (x243 + 1))))) none) none) (some true)
def s_DeadMay (n : Nat) (p : Prog) (c : CodeD) : Option Bool := (s_awake n ).bind fun v14 => cond (!v14) (some false) ((s_Dead n p c).bind fun v26 => (s_Num n v26.2).bind fun v45 => cond (!decide (v45 = 0)) (andj ((s_Num n v26.2).bind fun v67 => cond (decide (v67 = 1700)) (cond (!(irMay p c)) (some (.inl (decide ((v26.1.code.length : Int) = 0)))) (some (.inl false))) (some (.inl false))) fun y59 => some y59) ((s_Dead n p v26.1).bind fun v111 => andj (cond (!(irMay p v26.1)) (some (.inl true)) ((s_Num n v111.2).bind fun v181 => cond (!decide (v181 = 0)) (some (.inl true)) ((s_SameCode n v26.1 v111.1).bind fun v204 => cond (!v204) (some (.inl true)) (some (.inl (!decide ((v26.1.code.length : Int) = (c.code.length : Int)))))))) fun y152 => cond y152 (some false) (s_DeadMay_L0 n c v26 n 0)))
set_option maxHeartbeats 6400000 in
theorem c_DeadMay {n : Nat} {vs_p : List Value} {vs_c : List Value} (p : Prog) (c : CodeD) {r : Bool} {w : World} {M : Mem} {bs : List (Nat × Obj)} (h_p : Rep.rd M vs_p p) (h_c : Rep.rd M vs_c c) (hG : Glob M) (hs : s_DeadMay n p c = some r) (hO : Own w M (bs)) :
    Calls Tryd.prog 3 #[.agg vs_p.toArray, .agg vs_c.toArray] w (fun e w' => ∃ M' : Mem, Mem.le M M' ∧ Own w' M' (bs) ∧ e = .returned (.bool r)) := by
 obtain ⟨b1, c2, rfl, s3⟩ := h_p
 obtain ⟨b4, c5, b7, c8, rfl, s6, s9⟩ := h_c
 unfold s_DeadMay at hs
 refine ce (vs := [.agg #[.slice b1 p.funcs.length c2], .agg #[.int .i64 c.fn, .int .i64 c.regs, .slice b4 c.code.length c5, .slice b7 c.metas.length c8]]) (n := 129) Tryd.func3 rfl rfl rfl (cq (cr (rd' tz (og_box hO rfl rfl (fun b10 w11 hO => ?_)))))
 have hO : Own _ M ([(b10, .cells #[.slice b1 p.funcs.length c2] 24)] ++ bs) := hO
 refine rd' tz (og_box hO rfl rfl (fun b12 w13 hO => ?_))
 have hO : Own _ M ([(b12, .cells #[.int .i64 c.fn, .int .i64 c.regs, .slice b4 c.code.length c5, .slice b7 c.metas.length c8] 28)] ++ ([(b10, .cells #[.slice b1 p.funcs.length c2] 24)] ++ bs)) := hO
 refine as_ hO rfl rfl (rj (et (cq (cq (cr ?_)))))
 obtain ⟨v14, hv15, hs⟩ := bind_s hs
 refine rd' tz (oc (vs := []) tcall_6 rfl rfl (c_awake  (hG.mono (mr _)) hv15 hO) ?_)
 rintro _ w16 ⟨M17, le18, hO, rfl⟩
 refine ⟨_, rfl, ?_⟩
 have s19 := s3.mono le18
 have s20 := s6.mono le18
 have s21 := s9.mono le18
 have hle22 := le18
 have hO : Own _ M17 ([(b12, .cells #[.int .i64 c.fn, .int .i64 c.regs, .slice b4 c.code.length c5, .slice b7 c.metas.length c8] 28)] ++ ([(b10, .cells #[.slice b1 p.funcs.length c2] 24)] ++ bs)) := hO
 refine ry hO rfl (yt tz rfl) (rj (et (cd rfl (fun h23 => ?_) (fun h23 => ?_))))
 ·
  replace hs := cond_t h23 hs
  have h24 : v14 = false := not_t h23
  refine cq (cr (as_ hO rfl rfl (rj (et (ct (ew' (er (.inl rfl) rfl rfl ?_)))))))
  have hO := hO.forget
  have hO := hO.forget
  obtain rfl := o_ hs
  exact ⟨M17, hle22, hO, rfl⟩
 replace hs := cond_f h23 hs
 have h25 : v14 = true := not_f h23
 refine cp (et (cq (cr (ry hO rfl (yq [.slice b1 p.funcs.length c2] ta_24 rfl tz rfl (fun _ h => Own.cellsB (h.front1) 0 0 rfl (by intro j v e; exact rowCells (vs := [.slice b1 p.funcs.length c2]) rfl e))) (ry hO rfl (yq [.int .i64 c.fn, .int .i64 c.regs, .slice b4 c.code.length c5, .slice b7 c.metas.length c8] ta_28 rfl tz rfl (fun _ h => Own.cellsB h 0 0 rfl (by intro j v e; exact rowCells (vs := [.int .i64 c.fn, .int .i64 c.regs, .slice b4 c.code.length c5, .slice b7 c.metas.length c8]) rfl e))) ?_)))))
 obtain ⟨v26, hv27, hs⟩ := bind_s hs
 refine rd' tz (oc (vs := [.agg #[.slice b1 p.funcs.length c2], .agg #[.int .i64 c.fn, .int .i64 c.regs, .slice b4 c.code.length c5, .slice b7 c.metas.length c8]]) tcall_7 rfl rfl (c_Dead (vs_p := [.slice b1 p.funcs.length c2]) p (vs_c := [.int .i64 c.fn, .int .i64 c.regs, .slice b4 c.code.length c5, .slice b7 c.metas.length c8]) c ⟨b1, c2, rfl, s19⟩ ⟨b4, c5, b7, c8, rfl, s20, s21⟩ (hG.mono hle22) hv27 hO) ?_)
 rintro _ w28 ⟨M29, b31, c32, rs33, b35, c36, le30, hO, rfl, r34, s37⟩
 refine ⟨_, rfl, ?_⟩
 have s38 := s19.mono le30
 have s39 := s20.mono le30
 have s40 := s21.mono le30
 have hle41 := m_ hle22 le30
 have hO : Own _ M29 (rs33 ++ ([(b12, .cells #[.int .i64 c.fn, .int .i64 c.regs, .slice b4 c.code.length c5, .slice b7 c.metas.length c8] 28)] ++ ([(b10, .cells #[.slice b1 p.funcs.length c2] 24)] ++ bs))) := hO
 refine mv hO rfl rfl (ry hO rfl (yx [.agg #[.int .i64 v26.1.fn, .int .i64 v26.1.regs, .slice b31 v26.1.code.length c32, .slice b35 v26.1.metas.length c36], .int .i64 v26.2] rfl tz rfl) (ry hO rfl (yx [.agg #[.int .i64 v26.1.fn, .int .i64 v26.1.regs, .slice b31 v26.1.code.length c32, .slice b35 v26.1.metas.length c36], .int .i64 v26.2] rfl tz rfl) (rd' tz (og_alloc hO rfl tz_28 (fun b42 w43 hO => ?_)))))
 have hO : Own _ M29 ([(b42, .cells #[.int .i64 0, .int .i64 0, .slice none 0 0, .slice none 0 0] 28)] ++ (rs33 ++ ([(b12, .cells #[.int .i64 c.fn, .int .i64 c.regs, .slice b4 c.code.length c5, .slice b7 c.metas.length c8] 28)] ++ ([(b10, .cells #[.slice b1 p.funcs.length c2] 24)] ++ bs)))) := hO
 refine rd' tz (og_storeS (vs := [.int .i64 v26.1.fn, .int .i64 v26.1.regs, .slice b31 v26.1.code.length c32, .slice b35 v26.1.metas.length c36]) hO tn_28 rfl rfl rfl (nb rfl) rfl rfl (fun w44 hO => ?_))
 have hO : Own _ M29 ([(b42, .cells #[.int .i64 v26.1.fn, .int .i64 v26.1.regs, .slice b31 v26.1.code.length c32, .slice b35 v26.1.metas.length c36] 28)] ++ (rs33 ++ ([(b12, .cells #[.int .i64 c.fn, .int .i64 c.regs, .slice b4 c.code.length c5, .slice b7 c.metas.length c8] 28)] ++ ([(b10, .cells #[.slice b1 p.funcs.length c2] 24)] ++ bs)))) := hO
 refine as_ hO rfl rfl (rj (ez (E' := [(2, .pointer (some ⟨b10, 0, none⟩)), (3, .pointer (some ⟨b12, 0, none⟩)), (4, .bool false), (5, .pointer (some ⟨b42, 0, none⟩)), (6, .int .i64 v26.2)]) ⟨rfl, rfl, rfl, rfl, rfl, tz⟩ (et (cq (cq (cr (mv hO rfl rfl ?_)))))))
 obtain ⟨v45, hv46, hs⟩ := bind_s hs
 refine rd' tz (oc (vs := [.int .i64 v26.2]) tcall_8 rfl rfl (c_Num v26.2  hv46 hO) ?_)
 rintro _ w47 ⟨M48, le49, hO, rfl⟩
 refine ⟨_, rfl, ?_⟩
 have r50 := r34.mono le49
 have s51 := s37.mono le49
 have s52 := s39.mono le49
 have s53 := s40.mono le49
 have s54 := s38.mono le49
 have hle55 := m_ hle41 le49
 have hO : Own _ M48 ([(b42, .cells #[.int .i64 v26.1.fn, .int .i64 v26.1.regs, .slice b31 v26.1.code.length c32, .slice b35 v26.1.metas.length c36] 28)] ++ (rs33 ++ ([(b12, .cells #[.int .i64 c.fn, .int .i64 c.regs, .slice b4 c.code.length c5, .slice b7 c.metas.length c8] 28)] ++ ([(b10, .cells #[.slice b1 p.funcs.length c2] 24)] ++ bs)))) := hO
 refine ry hO rfl (y_ne tz rfl rfl) (rj (et (cd rfl (fun h56 => ?_) (fun h56 => ?_))))
 ·
  replace hs := cond_t h56 hs
  have h57 : (decide (v45 = 0)) = false := not_t h56
  refine cq ?_
  obtain ⟨o61, hs, hj63⟩ := andj_s hs
  refine cg_join (fun E' w' => ∃ Mi58 : Mem, ∃ y59 : Bool, E' = [(2, .pointer (some ⟨b10, 0, none⟩)), (3, .pointer (some ⟨b12, 0, none⟩)), (4, .bool y59), (5, .pointer (some ⟨b42, 0, none⟩))] ∧ Mem.le M48 Mi58 ∧ o61 = .inl y59 ∧ Own w' Mi58 ([(b42, .cells #[.int .i64 v26.1.fn, .int .i64 v26.1.regs, .slice b31 v26.1.code.length c32, .slice b35 v26.1.metas.length c36] 28)] ++ (rs33 ++ ([(b12, .cells #[.int .i64 c.fn, .int .i64 c.regs, .slice b4 c.code.length c5, .slice b7 c.metas.length c8] 28)] ++ ([(b10, .cells #[.slice b1 p.funcs.length c2] 24)] ++ bs))))) ?_ ?_
  ·
   have le66 := mr M48
   refine cr (mv hO rfl rfl ?_)
   obtain ⟨v67, hv68, hs⟩ := bind_s hs
   refine rd' tz (oc (vs := [.int .i64 v26.2]) tcall_8 rfl rfl (c_Num v26.2  hv68 hO) ?_)
   rintro _ w69 ⟨M70, le71, hO, rfl⟩
   refine ⟨_, rfl, ?_⟩
   have r72 := r50.mono le71
   have s73 := s51.mono le71
   have s74 := s52.mono le71
   have s75 := s53.mono le71
   have s76 := s54.mono le71
   have hle77 := m_ hle55 le71
   have ch78 := m_ le66 le71
   have hO : Own _ M70 ([(b42, .cells #[.int .i64 v26.1.fn, .int .i64 v26.1.regs, .slice b31 v26.1.code.length c32, .slice b35 v26.1.metas.length c36] 28)] ++ (rs33 ++ ([(b12, .cells #[.int .i64 c.fn, .int .i64 c.regs, .slice b4 c.code.length c5, .slice b7 c.metas.length c8] 28)] ++ ([(b10, .cells #[.slice b1 p.funcs.length c2] 24)] ++ bs)))) := hO
   refine ry hO rfl (ye tz rfl rfl) (mv hO rfl rfl ?_)
   rcases bt (decide (v67 = 1700)) with h79 | h79
   ·
    replace hs := cond_t h79 hs
    refine ry hO rfl (yq [.slice b1 p.funcs.length c2] ta_24 rfl (by rw [h79]; rfl) rfl (fun _ h => Own.cellsB (h.front3) 0 0 rfl (by intro j v e; exact rowCells (vs := [.slice b1 p.funcs.length c2]) rfl e))) (ry hO rfl (yq [.int .i64 c.fn, .int .i64 c.regs, .slice b4 c.code.length c5, .slice b7 c.metas.length c8] ta_28 rfl (by rw [h79]; rfl) rfl (fun _ h => Own.cellsB (h.front2) 0 0 rfl (by intro j v e; exact rowCells (vs := [.int .i64 c.fn, .int .i64 c.regs, .slice b4 c.code.length c5, .slice b7 c.metas.length c8]) rfl e))) (rd' (by rw [h79]; rfl) (oc (vs := [.agg #[.slice b1 p.funcs.length c2], .agg #[.int .i64 c.fn, .int .i64 c.regs, .slice b4 c.code.length c5, .slice b7 c.metas.length c8]]) tcall_9 rfl rfl (c_May (vs_p := [.slice b1 p.funcs.length c2]) p (vs_c := [.int .i64 c.fn, .int .i64 c.regs, .slice b4 c.code.length c5, .slice b7 c.metas.length c8]) c ⟨b1, c2, rfl, s76⟩ ⟨b4, c5, b7, c8, rfl, s74, s75⟩ (hG.mono hle77) hO) ?_)))
    rintro _ w80 ⟨M81, _, le82, hO, rfl, rfl⟩
    refine ⟨_, rfl, ?_⟩
    have s83 := s76.mono le82
    have s84 := s74.mono le82
    have s85 := s75.mono le82
    have r86 := r72.mono le82
    have s87 := s73.mono le82
    have hle88 := m_ hle77 le82
    have ch89 := m_ ch78 le82
    refine ry hO rfl (yt (by rw [h79]; rfl) rfl) (ry hO rfl (pt tz (by rw [h79]; rfl) rfl) (mv hO rfl rfl ?_))
    rcases bt (!(irMay p c)) with h90 | h90
    ·
     replace hs := cond_t h90 hs
     have h91 : (irMay p c) = false := not_t h90
     exact ry hO rfl (yf 2 tf_28_2 rfl (by rw [h90]; rfl) rfl) (ry hO rfl (yl tl_25 (by rw [h90]; rfl) rfl (fun _ h => ob h 0 2 rfl rfl)) (ry hO rfl (y_len ts_25 (by rw [h90]; rfl) rfl) (ry hO rfl (ye (by rw [h90]; rfl) rfl rfl) (ry hO rfl (pt tz (by rw [h90]; rfl) rfl) (as_ hO rfl rfl (rj (ej' ⟨M81, decide ((v26.1.code.length : Int) = 0), rfl, ch89, inl_s hs, hO⟩ ⟨rfl, rfl, rfl, rfl, tz⟩)))))))
    replace hs := cond_f h90 hs
    have h92 : (irMay p c) = true := not_f h90
    exact ry hO rfl (ek (by rw [h90]; rfl)) (ry hO rfl (ek (by rw [h90]; rfl)) (ry hO rfl (ek (by rw [h90]; rfl)) (ry hO rfl (ek (by rw [h90]; rfl)) (ry hO rfl (pf tz (by rw [h90]; rfl) rfl) (as_ hO rfl rfl (rj (ej' ⟨M81, false, rfl, ch89, inl_s hs, hO⟩ ⟨rfl, rfl, rfl, rfl, tz⟩)))))))
   replace hs := cond_f h79 hs
   refine ry hO rfl (ek (by rw [h79]; rfl)) (ry hO rfl (ek (by rw [h79]; rfl)) (ry hO rfl (ek (by rw [h79]; rfl)) (ry hO rfl (ek (by rw [h79]; rfl)) (ry hO rfl (pf tz (by rw [h79]; rfl) rfl) (mv hO rfl rfl (ry hO rfl (ek rfl) (ry hO rfl (ek rfl) (ry hO rfl (ek rfl) (ry hO rfl (ek rfl) ?_)))))))))
   exact ry hO rfl (pf tz rfl rfl) (as_ hO rfl rfl (rj (ej' ⟨M70, false, rfl, ch78, inl_s hs, hO⟩ ⟨rfl, rfl, rfl, rfl, tz⟩)))
  rintro _ w65 ⟨Mi58, y59, rfl, le60, ho64, hO⟩
  replace hs := Aft.l hj63 ho64
  try dsimp only at hs
  have r93 := r50.mono le60
  have s94 := s51.mono le60
  have s95 := s52.mono le60
  have s96 := s53.mono le60
  have s97 := s54.mono le60
  have hle98 := m_ hle55 le60
  refine et (ct (ew' (er (.inl rfl) rfl rfl ?_)))
  have hO := hO.forget
  have hO := hO.forget
  have hO := hO.forget
  have hO := hO.forget
  obtain rfl := o_ hs
  exact ⟨Mi58, hle98, hO, rfl⟩
 replace hs := cond_f h56 hs
 have h99 : (decide (v45 = 0)) = true := not_f h56
 refine cp (et (cq (cr (ry hO rfl (yq [.slice b1 p.funcs.length c2] ta_24 rfl tz rfl (fun _ h => Own.cellsB (h.front3) 0 0 rfl (by intro j v e; exact rowCells (vs := [.slice b1 p.funcs.length c2]) rfl e))) (ry hO rfl (yq [.int .i64 v26.1.fn, .int .i64 v26.1.regs, .slice b31 v26.1.code.length c32, .slice b35 v26.1.metas.length c36] ta_28 rfl tz rfl (fun _ h => Own.cellsB h 0 0 rfl (by intro j v e; exact rowCells (vs := [.int .i64 v26.1.fn, .int .i64 v26.1.regs, .slice b31 v26.1.code.length c32, .slice b35 v26.1.metas.length c36]) rfl e))) ?_)))))
 have hO := hO.front1
 obtain ⟨M100, le101, hO, hk102, hn103, hd104⟩ := Own.keeps (rs := rs33) hO
 have s105 := s54.mono le101
 have r106 := r50.mono le101
 have s107 := s51.mono le101
 have s108 := s52.mono le101
 have s109 := s53.mono le101
 have hle110 := m_ hle55 le101
 obtain ⟨v111, hv112, hs⟩ := bind_s hs
 refine rd' tz (oc (vs := [.agg #[.slice b1 p.funcs.length c2], .agg #[.int .i64 v26.1.fn, .int .i64 v26.1.regs, .slice b31 v26.1.code.length c32, .slice b35 v26.1.metas.length c36]]) tcall_7 rfl rfl (c_Dead (vs_p := [.slice b1 p.funcs.length c2]) p (vs_c := [.int .i64 v26.1.fn, .int .i64 v26.1.regs, .slice b31 v26.1.code.length c32, .slice b35 v26.1.metas.length c36]) v26.1 ⟨b1, c2, rfl, s105⟩ ⟨b31, c32, b35, c36, rfl, (Rw.kept r106 hk102 (mr _)), s107⟩ (hG.mono hle110) hv112 hO) ?_)
 rintro _ w113 ⟨M114, b116, c117, rs118, b120, c121, le115, hO, rfl, r119, s122⟩
 refine ⟨_, rfl, ?_⟩
 have s123 := s105.mono le115
 have r124 := r106.mono le115
 have s125 := s107.mono le115
 have s126 := s108.mono le115
 have s127 := s109.mono le115
 have hk128 := hk102.mono le115
 have hk129 := hk102.mono le115
 have hle130 := m_ hle110 le115
 have kl131 := m_ le101 le115
 have hO : Own _ M114 (rs118 ++ ([(b42, .cells #[.int .i64 v26.1.fn, .int .i64 v26.1.regs, .slice b31 v26.1.code.length c32, .slice b35 v26.1.metas.length c36] 28)] ++ ([(b12, .cells #[.int .i64 c.fn, .int .i64 c.regs, .slice b4 c.code.length c5, .slice b7 c.metas.length c8] 28)] ++ ([(b10, .cells #[.slice b1 p.funcs.length c2] 24)] ++ bs)))) := hO
 refine mv hO rfl rfl (ry hO rfl (yx [.agg #[.int .i64 v111.1.fn, .int .i64 v111.1.regs, .slice b116 v111.1.code.length c117, .slice b120 v111.1.metas.length c121], .int .i64 v111.2] rfl tz rfl) (ry hO rfl (yx [.agg #[.int .i64 v111.1.fn, .int .i64 v111.1.regs, .slice b116 v111.1.code.length c117, .slice b120 v111.1.metas.length c121], .int .i64 v111.2] rfl tz rfl) (rd' tz (og_alloc hO rfl tz_28 (fun b132 w133 hO => ?_)))))
 have hO : Own _ M114 ([(b132, .cells #[.int .i64 0, .int .i64 0, .slice none 0 0, .slice none 0 0] 28)] ++ (rs118 ++ ([(b42, .cells #[.int .i64 v26.1.fn, .int .i64 v26.1.regs, .slice b31 v26.1.code.length c32, .slice b35 v26.1.metas.length c36] 28)] ++ ([(b12, .cells #[.int .i64 c.fn, .int .i64 c.regs, .slice b4 c.code.length c5, .slice b7 c.metas.length c8] 28)] ++ ([(b10, .cells #[.slice b1 p.funcs.length c2] 24)] ++ bs))))) := hO
 refine rd' tz (og_storeS (vs := [.int .i64 v111.1.fn, .int .i64 v111.1.regs, .slice b116 v111.1.code.length c117, .slice b120 v111.1.metas.length c121]) hO tn_28 rfl rfl rfl (nb rfl) rfl rfl (fun w134 hO => ?_))
 have hO : Own _ M114 ([(b132, .cells #[.int .i64 v111.1.fn, .int .i64 v111.1.regs, .slice b116 v111.1.code.length c117, .slice b120 v111.1.metas.length c121] 28)] ++ (rs118 ++ ([(b42, .cells #[.int .i64 v26.1.fn, .int .i64 v26.1.regs, .slice b31 v26.1.code.length c32, .slice b35 v26.1.metas.length c36] 28)] ++ ([(b12, .cells #[.int .i64 c.fn, .int .i64 c.regs, .slice b4 c.code.length c5, .slice b7 c.metas.length c8] 28)] ++ ([(b10, .cells #[.slice b1 p.funcs.length c2] 24)] ++ bs))))) := hO
 refine as_ hO rfl rfl (rj (ez (E' := [(2, .pointer (some ⟨b10, 0, none⟩)), (3, .pointer (some ⟨b12, 0, none⟩)), (4, .bool false), (5, .pointer (some ⟨b42, 0, none⟩)), (7, .pointer (some ⟨b132, 0, none⟩)), (8, .int .i64 v111.2)]) ⟨rfl, rfl, rfl, rfl, rfl, rfl, tz⟩ (et (cq ?_))))
 have hO := hO.front1
 obtain ⟨M135, le136, hO, hk137, hn138, hd139⟩ := Own.keeps (rs := rs118) hO
 have r140 := r119.mono le136
 have s141 := s122.mono le136
 have r142 := r124.mono le136
 have s143 := s125.mono le136
 have s144 := s126.mono le136
 have s145 := s127.mono le136
 have s146 := s123.mono le136
 have hk147 := hk128.mono le136
 have hk148 := hk129.mono le136
 have hle149 := m_ hle130 le136
 have kl150 := m_ kl131 le136
 refine cq ?_
 obtain ⟨o154, hs, hj156⟩ := andj_s hs
 refine cg_join (fun E' w' => ∃ Mi151 : Mem, ∃ y152 : Bool, E' = [(3, .pointer (some ⟨b12, 0, none⟩)), (4, .bool false), (5, .pointer (some ⟨b42, 0, none⟩)), (68, .bool y152)] ∧ Mem.le M135 Mi151 ∧ o154 = .inl y152 ∧ Own w' Mi151 ([(b132, .cells #[.int .i64 v111.1.fn, .int .i64 v111.1.regs, .slice b116 v111.1.code.length c117, .slice b120 v111.1.metas.length c121] 28)] ++ ([(b42, .cells #[.int .i64 v26.1.fn, .int .i64 v26.1.regs, .slice b31 v26.1.code.length c32, .slice b35 v26.1.metas.length c36] 28)] ++ ([(b12, .cells #[.int .i64 c.fn, .int .i64 c.regs, .slice b4 c.code.length c5, .slice b7 c.metas.length c8] 28)] ++ ([(b10, .cells #[.slice b1 p.funcs.length c2] 24)] ++ bs))))) ?_ ?_
 ·
  have le159 := mr M135
  refine cr (ry hO rfl (yq [.slice b1 p.funcs.length c2] ta_24 rfl tz rfl (fun _ h => Own.cellsB (h.front3) 0 0 rfl (by intro j v e; exact rowCells (vs := [.slice b1 p.funcs.length c2]) rfl e))) (ry hO rfl (yq [.int .i64 v26.1.fn, .int .i64 v26.1.regs, .slice b31 v26.1.code.length c32, .slice b35 v26.1.metas.length c36] ta_28 rfl tz rfl (fun _ h => Own.cellsB (h.front1) 0 0 rfl (by intro j v e; exact rowCells (vs := [.int .i64 v26.1.fn, .int .i64 v26.1.regs, .slice b31 v26.1.code.length c32, .slice b35 v26.1.metas.length c36]) rfl e))) (rd' tz (oc (vs := [.agg #[.slice b1 p.funcs.length c2], .agg #[.int .i64 v26.1.fn, .int .i64 v26.1.regs, .slice b31 v26.1.code.length c32, .slice b35 v26.1.metas.length c36]]) tcall_9 rfl rfl (c_May (vs_p := [.slice b1 p.funcs.length c2]) p (vs_c := [.int .i64 v26.1.fn, .int .i64 v26.1.regs, .slice b31 v26.1.code.length c32, .slice b35 v26.1.metas.length c36]) v26.1 ⟨b1, c2, rfl, s146⟩ ⟨b31, c32, b35, c36, rfl, (Rw.kept r142 hk147 (mr _)), s143⟩ (hG.mono hle149) hO) ?_))))
  rintro _ w160 ⟨M161, _, le162, hO, rfl, rfl⟩
  refine ⟨_, rfl, ?_⟩
  have s163 := s146.mono le162
  have r164 := r142.mono le162
  have s165 := s143.mono le162
  have r166 := r140.mono le162
  have s167 := s141.mono le162
  have s168 := s144.mono le162
  have s169 := s145.mono le162
  have hk170 := hk147.mono le162
  have hk171 := hk148.mono le162
  have hk172 := hk137.mono le162
  have hk173 := hk137.mono le162
  have hle174 := m_ hle149 le162
  have ch175 := m_ le159 le162
  have kl176 := m_ kl150 le162
  have kl177 := m_ le136 le162
  refine ry hO rfl (yt tz rfl) (mv hO rfl rfl ?_)
  rcases bt (!(irMay p v26.1)) with h178 | h178
  ·
   replace hs := cond_t h178 hs
   have h179 : (irMay p v26.1) = false := not_t h178
   refine ry hO rfl (ek (by rw [h178]; rfl)) (ry hO rfl (ek (by rw [h178]; rfl)) (ry hO rfl (ek (by rw [h178]; rfl)) (ry hO rfl (pt tz (by rw [h178]; rfl) rfl) (mv hO rfl rfl (ry hO rfl (ek rfl) (ry hO rfl (ek rfl) (ry hO rfl (ek rfl) (ry hO rfl (ek rfl) (ry hO rfl (pt tz rfl rfl) ?_)))))))))
   refine mv hO rfl rfl (ry hO rfl (ek rfl) (ry hO rfl (ek rfl) (ry hO rfl (ek rfl) (ry hO rfl (ek rfl) (ry hO rfl (ek rfl) (ry hO rfl (ek rfl) (ry hO rfl (ek rfl) (ry hO rfl (pt tz rfl rfl) (rj ?_)))))))))
   exact ej' ⟨M161, true, rfl, ch175, inl_s hs, hO⟩ ⟨rfl, rfl, rfl, rfl, tz⟩
  replace hs := cond_f h178 hs
  have h180 : (irMay p v26.1) = true := not_f h178
  refine ry hO rfl (ym (by rw [h178]; rfl) rfl) ?_
  obtain ⟨v181, hv182, hs⟩ := bind_s hs
  refine rd' (by rw [h178]; rfl) (oc (vs := [.int .i64 v111.2]) tcall_8 rfl rfl (c_Num v111.2  hv182 hO) ?_)
  rintro _ w183 ⟨M184, le185, hO, rfl⟩
  refine ⟨_, rfl, ?_⟩
  have s186 := s163.mono le185
  have r187 := r164.mono le185
  have s188 := s165.mono le185
  have r189 := r166.mono le185
  have s190 := s167.mono le185
  have s191 := s168.mono le185
  have s192 := s169.mono le185
  have hk193 := hk170.mono le185
  have hk194 := hk171.mono le185
  have hk195 := hk172.mono le185
  have hk196 := hk173.mono le185
  have hle197 := m_ hle174 le185
  have ch198 := m_ ch175 le185
  have kl199 := m_ kl176 le185
  have kl200 := m_ kl177 le185
  have hO : Own _ M184 ([(b132, .cells #[.int .i64 v111.1.fn, .int .i64 v111.1.regs, .slice b116 v111.1.code.length c117, .slice b120 v111.1.metas.length c121] 28)] ++ ([(b42, .cells #[.int .i64 v26.1.fn, .int .i64 v26.1.regs, .slice b31 v26.1.code.length c32, .slice b35 v26.1.metas.length c36] 28)] ++ ([(b12, .cells #[.int .i64 c.fn, .int .i64 c.regs, .slice b4 c.code.length c5, .slice b7 c.metas.length c8] 28)] ++ ([(b10, .cells #[.slice b1 p.funcs.length c2] 24)] ++ bs)))) := hO
  refine ry hO rfl (y_ne (by rw [h178]; rfl) rfl rfl) (ry hO rfl (pf tz (by rw [h178]; rfl) rfl) (mv hO rfl rfl ?_))
  rcases bt (!decide (v181 = 0)) with h201 | h201
  ·
   replace hs := cond_t h201 hs
   have h202 : (decide (v181 = 0)) = false := not_t h201
   refine ry hO rfl (ek (by rw [h201]; rfl)) (ry hO rfl (ek (by rw [h201]; rfl)) (ry hO rfl (ek (by rw [h201]; rfl)) (ry hO rfl (ek (by rw [h201]; rfl)) (ry hO rfl (pt tz (by rw [h201]; rfl) rfl) (mv hO rfl rfl (ry hO rfl (ek rfl) (ry hO rfl (ek rfl) (ry hO rfl (ek rfl) (ry hO rfl (ek rfl) ?_)))))))))
   exact ry hO rfl (ek rfl) (ry hO rfl (ek rfl) (ry hO rfl (ek rfl) (ry hO rfl (pt tz rfl rfl) (rj (ej' ⟨M184, true, rfl, ch198, inl_s hs, hO⟩ ⟨rfl, rfl, rfl, rfl, tz⟩)))))
  replace hs := cond_f h201 hs
  have h203 : (decide (v181 = 0)) = true := not_f h201
  refine ry hO rfl (yq [.int .i64 v26.1.fn, .int .i64 v26.1.regs, .slice b31 v26.1.code.length c32, .slice b35 v26.1.metas.length c36] ta_28 rfl (by rw [h201]; rfl) rfl (fun _ h => Own.cellsB (h.front1) 0 0 rfl (by intro j v e; exact rowCells (vs := [.int .i64 v26.1.fn, .int .i64 v26.1.regs, .slice b31 v26.1.code.length c32, .slice b35 v26.1.metas.length c36]) rfl e))) (ry hO rfl (yq [.int .i64 v111.1.fn, .int .i64 v111.1.regs, .slice b116 v111.1.code.length c117, .slice b120 v111.1.metas.length c121] ta_28 rfl (by rw [h201]; rfl) rfl (fun _ h => Own.cellsB h 0 0 rfl (by intro j v e; exact rowCells (vs := [.int .i64 v111.1.fn, .int .i64 v111.1.regs, .slice b116 v111.1.code.length c117, .slice b120 v111.1.metas.length c121]) rfl e))) ?_)
  obtain ⟨v204, hv205, hs⟩ := bind_s hs
  refine rd' (by rw [h201]; rfl) (oc (vs := [.agg #[.int .i64 v26.1.fn, .int .i64 v26.1.regs, .slice b31 v26.1.code.length c32, .slice b35 v26.1.metas.length c36], .agg #[.int .i64 v111.1.fn, .int .i64 v111.1.regs, .slice b116 v111.1.code.length c117, .slice b120 v111.1.metas.length c121]]) tcall_10 rfl rfl (c_SameCode (vs_a := [.int .i64 v26.1.fn, .int .i64 v26.1.regs, .slice b31 v26.1.code.length c32, .slice b35 v26.1.metas.length c36]) v26.1 (vs_b := [.int .i64 v111.1.fn, .int .i64 v111.1.regs, .slice b116 v111.1.code.length c117, .slice b120 v111.1.metas.length c121]) v111.1 ⟨b31, c32, b35, c36, rfl, (Rw.kept r187 hk193 (mr _)), s188⟩ ⟨b116, c117, b120, c121, rfl, (Rw.kept r189 hk195 (mr _)), s190⟩ hv205 hO) ?_)
  rintro _ w206 ⟨M207, le208, hO, rfl⟩
  refine ⟨_, rfl, ?_⟩
  have s209 := s186.mono le208
  have r210 := r187.mono le208
  have s211 := s188.mono le208
  have r212 := r189.mono le208
  have s213 := s190.mono le208
  have s214 := s191.mono le208
  have s215 := s192.mono le208
  have hk216 := hk193.mono le208
  have hk217 := hk194.mono le208
  have hk218 := hk195.mono le208
  have hk219 := hk196.mono le208
  have hle220 := m_ hle197 le208
  have ch221 := m_ ch198 le208
  have kl222 := m_ kl199 le208
  have kl223 := m_ kl200 le208
  have hO : Own _ M207 ([(b132, .cells #[.int .i64 v111.1.fn, .int .i64 v111.1.regs, .slice b116 v111.1.code.length c117, .slice b120 v111.1.metas.length c121] 28)] ++ ([(b42, .cells #[.int .i64 v26.1.fn, .int .i64 v26.1.regs, .slice b31 v26.1.code.length c32, .slice b35 v26.1.metas.length c36] 28)] ++ ([(b12, .cells #[.int .i64 c.fn, .int .i64 c.regs, .slice b4 c.code.length c5, .slice b7 c.metas.length c8] 28)] ++ ([(b10, .cells #[.slice b1 p.funcs.length c2] 24)] ++ bs)))) := hO
  refine ry hO rfl (yt (by rw [h201]; rfl) rfl) (ry hO rfl (pf tz (by rw [h201]; rfl) rfl) (mv hO rfl rfl ?_))
  rcases bt (!v204) with h224 | h224
  ·
   replace hs := cond_t h224 hs
   have h225 : v204 = false := not_t h224
   exact ry hO rfl (ek (by rw [h224]; rfl)) (ry hO rfl (ek (by rw [h224]; rfl)) (ry hO rfl (ek (by rw [h224]; rfl)) (ry hO rfl (ek (by rw [h224]; rfl)) (ry hO rfl (ek (by rw [h224]; rfl)) (ry hO rfl (ek (by rw [h224]; rfl)) (ry hO rfl (ek (by rw [h224]; rfl)) (ry hO rfl (pt tz (by rw [h224]; rfl) rfl) (rj (ej' ⟨M207, true, rfl, ch221, inl_s hs, hO⟩ ⟨rfl, rfl, rfl, rfl, tz⟩)))))))))
  replace hs := cond_f h224 hs
  have h226 : v204 = true := not_f h224
  exact ry hO rfl (yf 2 tf_28_2 rfl (by rw [h224]; rfl) rfl) (ry hO rfl (yl tl_25 (by rw [h224]; rfl) rfl (fun _ h => ob (h.front1) 0 2 rfl rfl)) (ry hO rfl (y_len ts_25 (by rw [h224]; rfl) rfl) (ry hO rfl (yf 2 tf_28_2 rfl (by rw [h224]; rfl) rfl) (ry hO rfl (yl tl_25 (by rw [h224]; rfl) rfl (fun _ h => ob (h.front2) 0 2 rfl rfl)) (ry hO rfl (y_len ts_25 (by rw [h224]; rfl) rfl) (ry hO rfl (y_ne (by rw [h224]; rfl) rfl rfl) (ry hO rfl (pf tz (by rw [h224]; rfl) rfl) (rj (ej' ⟨M207, !decide ((v26.1.code.length : Int) = (c.code.length : Int)), rfl, ch221, inl_s hs, hO⟩ ⟨rfl, rfl, rfl, rfl, tz⟩)))))))))
 rintro _ w158 ⟨Mi151, y152, rfl, le153, ho157, hO⟩
 replace hs := Aft.l hj156 ho157
 try dsimp only at hs
 have r227 := r140.mono le153
 have s228 := s141.mono le153
 have r229 := r142.mono le153
 have s230 := s143.mono le153
 have s231 := s144.mono le153
 have s232 := s145.mono le153
 have s233 := s146.mono le153
 have hk234 := hk147.mono le153
 have hk235 := hk148.mono le153
 have hk236 := hk137.mono le153
 have hk237 := hk137.mono le153
 have hle238 := m_ hle149 le153
 have kl239 := m_ kl150 le153
 have kl240 := m_ le136 le153
 refine et (cd rfl (fun h241 => ?_) (fun h241 => ?_))
 ·
  replace hs := cond_t h241 hs
  refine cq (cr (as_ hO rfl rfl (rj (et (ct (ew' (er (.inl rfl) rfl rfl ?_)))))))
  have hO := hO.forget
  have hO := hO.forget
  have hO := hO.forget
  have hO := hO.forget
  obtain rfl := o_ hs
  exact ⟨Mi151, hle238, hO, rfl⟩
 replace hs := cond_f h241 hs
 refine cp (et (cq (cq (cr (as_ hO rfl rfl (rj (et (cb (ci (fun m247 E' w' => ∃ Mi242 : Mem, ∃ x243 : Int, E' = [(3, .pointer (some ⟨b12, 0, none⟩)), (4, .bool false), (5, .pointer (some ⟨b42, 0, none⟩)), (9, .int .i64 x243)] ∧ Mem.le Mi151 Mi242 ∧ s_DeadMay_L0 n c v26 m247 x243 = some r ∧ Own w' Mi242 ([(b132, .cells #[.int .i64 v111.1.fn, .int .i64 v111.1.regs, .slice b116 v111.1.code.length c117, .slice b120 v111.1.metas.length c121] 28)] ++ ([(b42, .cells #[.int .i64 v26.1.fn, .int .i64 v26.1.regs, .slice b31 v26.1.code.length c32, .slice b35 v26.1.metas.length c36] 28)] ++ ([(b12, .cells #[.int .i64 c.fn, .int .i64 c.regs, .slice b4 c.code.length c5, .slice b7 c.metas.length c8] 28)] ++ ([(b10, .cells #[.slice b1 p.funcs.length c2] 24)] ++ bs))))) (m0 := n) ⟨Mi151, 0, rfl, (mr _), hs, hO⟩ ⟨rfl, rfl, rfl, rfl, tz⟩ ?_)))))))))
 rintro fu245 _ w246 ⟨Mi242, x243, rfl, le244, hs, hO⟩
 rcases fu245 with _ | fu245
 ·
  simp [s_DeadMay_L0] at hs
 rw [s_DeadMay_L0] at hs
 have r248 := r227.mono le244
 have s249 := s228.mono le244
 have r250 := r229.mono le244
 have s251 := s230.mono le244
 have s252 := s231.mono le244
 have s253 := s232.mono le244
 have s254 := s233.mono le244
 have hk255 := hk234.mono le244
 have hk256 := hk235.mono le244
 have hk257 := hk236.mono le244
 have hk258 := hk237.mono le244
 have hle259 := m_ hle238 le244
 have kl260 := m_ kl239 le244
 have kl261 := m_ kl240 le244
 refine cq (cq (cr (mv hO rfl rfl (fb 2 tf_28_2 rfl hO rfl rfl (ry hO rfl (yl tl_25 tz rfl (fun _ h => ob (h.front1) 0 2 rfl rfl)) (ln ts_25 hO rfl rfl (ry hO rfl (yv tz rfl rfl) (rj (et ?_)))))))))
 refine cd rfl (fun h262 => ?_) (fun h262 => ?_)
 ·
  replace hs := cond_t h262 hs
  refine cp (et (cq (cb (cq ?_))))
  obtain ⟨w263, hO, ew264⟩ : ∃ w', Own w' Mi242 ([(b132, .cells #[.int .i64 v111.1.fn, .int .i64 v111.1.regs, .slice b116 v111.1.code.length c117, .slice b120 v111.1.metas.length c121] 28)] ++ ([(b42, .cells #[.int .i64 v26.1.fn, .int .i64 v26.1.regs, .slice b31 v26.1.code.length c32, .slice b35 v26.1.metas.length c36] 28)] ++ ([(b12, .cells #[.int .i64 c.fn, .int .i64 c.regs, .slice b4 c.code.length c5, .slice b7 c.metas.length c8] 28)] ++ ([(b10, .cells #[.slice b1 p.funcs.length c2] 24)] ++ bs)))) ∧ { w246 with drawn := w246.drawn + 1 } = w' := ⟨_, hO.drawn _, rfl⟩
  refine cw (S := fun w => Own w Mi242 ([(b132, .cells #[.int .i64 v111.1.fn, .int .i64 v111.1.regs, .slice b116 v111.1.code.length c117, .slice b120 v111.1.metas.length c121] 28)] ++ ([(b42, .cells #[.int .i64 v26.1.fn, .int .i64 v26.1.regs, .slice b31 v26.1.code.length c32, .slice b35 v26.1.metas.length c36] 28)] ++ ([(b12, .cells #[.int .i64 c.fn, .int .i64 c.regs, .slice b4 c.code.length c5, .slice b7 c.metas.length c8] 28)] ++ ([(b10, .cells #[.slice b1 p.funcs.length c2] 24)] ++ bs))))) (.take 0 (.take 1 (.take 2 (.take 3 (.take 4 (.take 5 (.take 6 (.take 7 (.take 8 (.take 9 (.two 10 11 (.one 11 (.one 12 (.last 13))) (.one 10 (.one 12 (.last 13)))))))))))))) 13 tm (by kernel_rfl) ew264 hO (hfb 2 tf_28_2 rfl rfl rfl (fun _ _ _ h => h) rfl (gy rfl rfl (fun _ _ _ h => h) (yl tl_25 tz rfl (fun _ h => ob (h.front1) 0 2 rfl rfl)) (hm rfl rfl (fun _ _ _ h => h) rfl ?_)))
  obtain ⟨hg265, hs⟩ := grd hs
  have s266 := Rw.kept r250 hk255 (mr _)
  obtain ⟨p267, rfl, _⟩ := RdS.get s266 x243.toNat (by exact ib hg265)
  have hO : Own w263 Mi242 ([(b132, .cells #[.int .i64 v111.1.fn, .int .i64 v111.1.regs, .slice b116 v111.1.code.length c117, .slice b120 v111.1.metas.length c121] 28)] ++ ([(b42, .cells #[.int .i64 v26.1.fn, .int .i64 v26.1.regs, .slice (some p267) v26.1.code.length c32, .slice b35 v26.1.metas.length c36] 28)] ++ ([(b12, .cells #[.int .i64 c.fn, .int .i64 c.regs, .slice b4 c.code.length c5, .slice b7 c.metas.length c8] 28)] ++ ([(b10, .cells #[.slice b1 p.funcs.length c2] 24)] ++ bs)))) := by assumption
  have s269 := Rw.kept r250 hk255 (mr _)
  have q268 : PAt Mi242 (p267.add (x243.toNat * 9)) (nth v26.1.code x243.toNat) := RdS.at s269 x243.toNat (by exact ib hg265)
  refine gy rfl rfl (fun _ _ _ h => h) (yi ts_25 tz rfl rfl (by exact inb_0 hg265) (by exact inb_lt hg265)) ?_
  obtain ⟨_, at273, b270, c271, rfl, s272⟩ := id q268
  refine gy rfl rfl (fun _ _ _ h => h) (yq [.int .i64 ((nth v26.1.code x243.toNat).kind), .int .i64 ((nth v26.1.code x243.toNat).r), .int .i64 ((nth v26.1.code x243.toNat).a), .int .i64 ((nth v26.1.code x243.toNat).b), .int .i64 ((nth v26.1.code x243.toNat).k), .slice b270 (((nth v26.1.code x243.toNat).args).length) c271, .int .i64 ((nth v26.1.code x243.toNat).cost), .int .i64 ((nth v26.1.code x243.toNat).mt), .int .i64 ((nth v26.1.code x243.toNat).pc)] ta_38 rfl tz rfl (fun _ h j _ e => at273.cell h j e)) (hfb 2 tf_28_2 rfl rfl rfl (fun _ _ _ h => h) rfl (gy rfl rfl (fun _ _ _ h => h) (yl tl_25 tz rfl (fun _ h => ob (h.front2) 0 2 rfl rfl)) (hm rfl rfl (fun _ _ _ h => h) rfl ?_)))
  obtain ⟨hg274, hs⟩ := grd hs
  obtain ⟨p275, rfl, _⟩ := RdS.get s252 x243.toNat (by exact ib hg274)
  have hO : Own w263 Mi242 ([(b132, .cells #[.int .i64 v111.1.fn, .int .i64 v111.1.regs, .slice b116 v111.1.code.length c117, .slice b120 v111.1.metas.length c121] 28)] ++ ([(b42, .cells #[.int .i64 v26.1.fn, .int .i64 v26.1.regs, .slice (some p267) v26.1.code.length c32, .slice b35 v26.1.metas.length c36] 28)] ++ ([(b12, .cells #[.int .i64 c.fn, .int .i64 c.regs, .slice (some p275) c.code.length c5, .slice b7 c.metas.length c8] 28)] ++ ([(b10, .cells #[.slice b1 p.funcs.length c2] 24)] ++ bs)))) := by assumption
  have q276 : PAt Mi242 (p275.add (x243.toNat * 9)) (nth c.code x243.toNat) := RdS.at s252 x243.toNat (by exact ib hg274)
  refine gy rfl rfl (fun _ _ _ h => h) (yi ts_25 tz rfl rfl (by exact inb_0 hg274) (by exact inb_lt hg274)) ?_
  obtain ⟨_, at280, b277, c278, rfl, s279⟩ := id q276
  refine gy rfl rfl (fun _ _ _ h => h) (yq [.int .i64 ((nth c.code x243.toNat).kind), .int .i64 ((nth c.code x243.toNat).r), .int .i64 ((nth c.code x243.toNat).a), .int .i64 ((nth c.code x243.toNat).b), .int .i64 ((nth c.code x243.toNat).k), .slice b277 (((nth c.code x243.toNat).args).length) c278, .int .i64 ((nth c.code x243.toNat).cost), .int .i64 ((nth c.code x243.toNat).mt), .int .i64 ((nth c.code x243.toNat).pc)] ta_38 rfl tz rfl (fun _ h j _ e => at280.cell h j e)) ?_
  refine hg_two ?_ ?_
  ·
   refine hn' rfl tz (og_alloc hO rfl tz_38 (fun b281 w282 hO => ?_))
   have hO : Own _ Mi242 ([(b281, .cells #[.int .i64 0, .int .i64 0, .int .i64 0, .int .i64 0, .int .i64 0, .slice none 0 0, .int .i64 0, .int .i64 0, .int .i64 0] 38)] ++ ([(b132, .cells #[.int .i64 v111.1.fn, .int .i64 v111.1.regs, .slice b116 v111.1.code.length c117, .slice b120 v111.1.metas.length c121] 28)] ++ ([(b42, .cells #[.int .i64 v26.1.fn, .int .i64 v26.1.regs, .slice (some p267) v26.1.code.length c32, .slice b35 v26.1.metas.length c36] 28)] ++ ([(b12, .cells #[.int .i64 c.fn, .int .i64 c.regs, .slice (some p275) c.code.length c5, .slice b7 c.metas.length c8] 28)] ++ ([(b10, .cells #[.slice b1 p.funcs.length c2] 24)] ++ bs))))) := hO
   refine kg_s hO.forget ?_
   refine hn' rfl tz (og_alloc hO rfl tz_38 (fun b283 w284 hO => ?_))
   have hO : Own _ Mi242 ([(b283, .cells #[.int .i64 0, .int .i64 0, .int .i64 0, .int .i64 0, .int .i64 0, .slice none 0 0, .int .i64 0, .int .i64 0, .int .i64 0] 38)] ++ ([(b281, .cells #[.int .i64 0, .int .i64 0, .int .i64 0, .int .i64 0, .int .i64 0, .slice none 0 0, .int .i64 0, .int .i64 0, .int .i64 0] 38)] ++ ([(b132, .cells #[.int .i64 v111.1.fn, .int .i64 v111.1.regs, .slice b116 v111.1.code.length c117, .slice b120 v111.1.metas.length c121] 28)] ++ ([(b42, .cells #[.int .i64 v26.1.fn, .int .i64 v26.1.regs, .slice (some p267) v26.1.code.length c32, .slice b35 v26.1.metas.length c36] 28)] ++ ([(b12, .cells #[.int .i64 c.fn, .int .i64 c.regs, .slice (some p275) c.code.length c5, .slice b7 c.metas.length c8] 28)] ++ ([(b10, .cells #[.slice b1 p.funcs.length c2] 24)] ++ bs)))))) := hO
   refine kg_s hO.forget.forget ?_
   have hO := hO.front1
   refine hn' rfl tz (og_storeS (vs := [.int .i64 ((nth v26.1.code x243.toNat).kind), .int .i64 ((nth v26.1.code x243.toNat).r), .int .i64 ((nth v26.1.code x243.toNat).a), .int .i64 ((nth v26.1.code x243.toNat).b), .int .i64 ((nth v26.1.code x243.toNat).k), .slice b270 (((nth v26.1.code x243.toNat).args).length) c271, .int .i64 ((nth v26.1.code x243.toNat).cost), .int .i64 ((nth v26.1.code x243.toNat).mt), .int .i64 ((nth v26.1.code x243.toNat).pc)]) hO tn_38 rfl rfl rfl (nb rfl) rfl rfl (fun w285 hO => ?_))
   have hO : Own _ Mi242 ([(b281, .cells #[.int .i64 ((nth v26.1.code x243.toNat).kind), .int .i64 ((nth v26.1.code x243.toNat).r), .int .i64 ((nth v26.1.code x243.toNat).a), .int .i64 ((nth v26.1.code x243.toNat).b), .int .i64 ((nth v26.1.code x243.toNat).k), .slice b270 (((nth v26.1.code x243.toNat).args).length) c271, .int .i64 ((nth v26.1.code x243.toNat).cost), .int .i64 ((nth v26.1.code x243.toNat).mt), .int .i64 ((nth v26.1.code x243.toNat).pc)] 38)] ++ ([(b283, .cells #[.int .i64 0, .int .i64 0, .int .i64 0, .int .i64 0, .int .i64 0, .slice none 0 0, .int .i64 0, .int .i64 0, .int .i64 0] 38)] ++ ([(b132, .cells #[.int .i64 v111.1.fn, .int .i64 v111.1.regs, .slice b116 v111.1.code.length c117, .slice b120 v111.1.metas.length c121] 28)] ++ ([(b42, .cells #[.int .i64 v26.1.fn, .int .i64 v26.1.regs, .slice (some p267) v26.1.code.length c32, .slice b35 v26.1.metas.length c36] 28)] ++ ([(b12, .cells #[.int .i64 c.fn, .int .i64 c.regs, .slice (some p275) c.code.length c5, .slice b7 c.metas.length c8] 28)] ++ ([(b10, .cells #[.slice b1 p.funcs.length c2] 24)] ++ bs)))))) := hO
   refine kg_s hO.forget.forget ?_
   have hO := hO.front1
   refine hg_last rfl tz (og_storeS (vs := [.int .i64 ((nth c.code x243.toNat).kind), .int .i64 ((nth c.code x243.toNat).r), .int .i64 ((nth c.code x243.toNat).a), .int .i64 ((nth c.code x243.toNat).b), .int .i64 ((nth c.code x243.toNat).k), .slice b277 (((nth c.code x243.toNat).args).length) c278, .int .i64 ((nth c.code x243.toNat).cost), .int .i64 ((nth c.code x243.toNat).mt), .int .i64 ((nth c.code x243.toNat).pc)]) hO tn_38 rfl rfl rfl (nb rfl) rfl rfl (fun w286 hO => ?_))
   have hO : Own _ Mi242 ([(b283, .cells #[.int .i64 ((nth c.code x243.toNat).kind), .int .i64 ((nth c.code x243.toNat).r), .int .i64 ((nth c.code x243.toNat).a), .int .i64 ((nth c.code x243.toNat).b), .int .i64 ((nth c.code x243.toNat).k), .slice b277 (((nth c.code x243.toNat).args).length) c278, .int .i64 ((nth c.code x243.toNat).cost), .int .i64 ((nth c.code x243.toNat).mt), .int .i64 ((nth c.code x243.toNat).pc)] 38)] ++ ([(b281, .cells #[.int .i64 ((nth v26.1.code x243.toNat).kind), .int .i64 ((nth v26.1.code x243.toNat).r), .int .i64 ((nth v26.1.code x243.toNat).a), .int .i64 ((nth v26.1.code x243.toNat).b), .int .i64 ((nth v26.1.code x243.toNat).k), .slice b270 (((nth v26.1.code x243.toNat).args).length) c271, .int .i64 ((nth v26.1.code x243.toNat).cost), .int .i64 ((nth v26.1.code x243.toNat).mt), .int .i64 ((nth v26.1.code x243.toNat).pc)] 38)] ++ ([(b132, .cells #[.int .i64 v111.1.fn, .int .i64 v111.1.regs, .slice b116 v111.1.code.length c117, .slice b120 v111.1.metas.length c121] 28)] ++ ([(b42, .cells #[.int .i64 v26.1.fn, .int .i64 v26.1.regs, .slice (some p267) v26.1.code.length c32, .slice b35 v26.1.metas.length c36] 28)] ++ ([(b12, .cells #[.int .i64 c.fn, .int .i64 c.regs, .slice (some p275) c.code.length c5, .slice b7 c.metas.length c8] 28)] ++ ([(b10, .cells #[.slice b1 p.funcs.length c2] 24)] ++ bs)))))) := hO
   refine ez (E' := [(3, .pointer (some ⟨b12, 0, none⟩)), (4, .bool false), (5, .pointer (some ⟨b42, 0, none⟩)), (9, .int .i64 x243), (10, .pointer (some ⟨b281, 0, none⟩)), (11, .pointer (some ⟨b283, 0, none⟩))]) ⟨rfl, rfl, rfl, rfl, rfl, rfl, tz⟩ (et (cq ?_))
   obtain ⟨o288, hs, hj290⟩ := andj_s hs
   refine cg_join (fun E' w' => ∃ y287 : Bool, E' = [(3, .pointer (some ⟨b12, 0, none⟩)), (4, .bool false), (5, .pointer (some ⟨b42, 0, none⟩)), (9, .int .i64 x243), (10, .pointer (some ⟨b281, 0, none⟩)), (11, .pointer (some ⟨b283, 0, none⟩)), (12, .bool y287)] ∧ o288 = .inl y287 ∧ Own w' Mi242 ([(b283, .cells #[.int .i64 ((nth c.code x243.toNat).kind), .int .i64 ((nth c.code x243.toNat).r), .int .i64 ((nth c.code x243.toNat).a), .int .i64 ((nth c.code x243.toNat).b), .int .i64 ((nth c.code x243.toNat).k), .slice b277 (((nth c.code x243.toNat).args).length) c278, .int .i64 ((nth c.code x243.toNat).cost), .int .i64 ((nth c.code x243.toNat).mt), .int .i64 ((nth c.code x243.toNat).pc)] 38)] ++ ([(b281, .cells #[.int .i64 ((nth v26.1.code x243.toNat).kind), .int .i64 ((nth v26.1.code x243.toNat).r), .int .i64 ((nth v26.1.code x243.toNat).a), .int .i64 ((nth v26.1.code x243.toNat).b), .int .i64 ((nth v26.1.code x243.toNat).k), .slice b270 (((nth v26.1.code x243.toNat).args).length) c271, .int .i64 ((nth v26.1.code x243.toNat).cost), .int .i64 ((nth v26.1.code x243.toNat).mt), .int .i64 ((nth v26.1.code x243.toNat).pc)] 38)] ++ ([(b132, .cells #[.int .i64 v111.1.fn, .int .i64 v111.1.regs, .slice b116 v111.1.code.length c117, .slice b120 v111.1.metas.length c121] 28)] ++ ([(b42, .cells #[.int .i64 v26.1.fn, .int .i64 v26.1.regs, .slice (some p267) v26.1.code.length c32, .slice b35 v26.1.metas.length c36] 28)] ++ ([(b12, .cells #[.int .i64 c.fn, .int .i64 c.regs, .slice (some p275) c.code.length c5, .slice b7 c.metas.length c8] 28)] ++ ([(b10, .cells #[.slice b1 p.funcs.length c2] 24)] ++ bs))))))) ?_ ?_
   ·
    refine cr (fb 0 tf_38_0 rfl hO rfl rfl (ry hO rfl (yl tl_3 tz rfl (fun _ h => ob h 0 0 rfl rfl)) (ry hO rfl (ye tz rfl rfl) (mv hO rfl rfl ?_))))
    rcases bt (decide ((nth c.code x243.toNat).kind = 1)) with h293 | h293
    ·
     replace hs := cond_t h293 hs
     refine ry hO rfl (ek (by rw [h293]; rfl)) (ry hO rfl (ek (by rw [h293]; rfl)) (ry hO rfl (ek (by rw [h293]; rfl)) (ry hO rfl (pt tz (by rw [h293]; rfl) rfl) (mv hO rfl rfl (ry hO rfl (ek rfl) (ry hO rfl (ek rfl) (ry hO rfl (ek rfl) (ry hO rfl (ek rfl) (ry hO rfl (yu rfl) ?_)))))))))
     refine ry hO rfl (yu rfl) (ry hO rfl (yu rfl) (ry hO rfl (ek rfl) (ry hO rfl (ek rfl) (ry hO rfl (yu rfl) (ry hO rfl (yu rfl) (ry hO rfl (yu rfl) (ry hO rfl (ek rfl) (ry hO rfl (pt tz rfl rfl) (as_ hO rfl rfl ?_)))))))))
     exact rj (ej' ⟨true, rfl, inl_s hs, hO⟩ ⟨rfl, rfl, rfl, rfl, rfl, rfl, rfl, tz⟩)
    replace hs := cond_f h293 hs
    refine ry hO rfl (yf 0 tf_38_0 rfl (by rw [h293]; rfl) rfl) (ry hO rfl (yl tl_3 (by rw [h293]; rfl) rfl (fun _ h => ob h 0 0 rfl rfl)) (ry hO rfl (ye (by rw [h293]; rfl) rfl rfl) (ry hO rfl (pf tz (by rw [h293]; rfl) rfl) (mv hO rfl rfl ?_))))
    rcases bt (decide ((nth c.code x243.toNat).kind = 2)) with h294 | h294
    ·
     replace hs := cond_t h294 hs
     refine ry hO rfl (ek (by rw [h294]; rfl)) (ry hO rfl (ek (by rw [h294]; rfl)) (ry hO rfl (ek (by rw [h294]; rfl)) (ry hO rfl (ek (by rw [h294]; rfl)) (ry hO rfl (yu rfl) (ry hO rfl (yu rfl) (ry hO rfl (yu rfl) (ry hO rfl (ek (by rw [h294]; rfl)) (ry hO rfl (ek (by rw [h294]; rfl)) (ry hO rfl (yu rfl) ?_)))))))))
     exact ry hO rfl (yu rfl) (ry hO rfl (yu rfl) (ry hO rfl (ek (by rw [h294]; rfl)) (ry hO rfl (pt tz (by rw [h294]; rfl) rfl) (as_ hO rfl rfl (rj (ej' ⟨true, rfl, inl_s hs, hO⟩ ⟨rfl, rfl, rfl, rfl, rfl, rfl, rfl, tz⟩))))))
    replace hs := cond_f h294 hs
    refine ry hO rfl (yf 0 tf_38_0 rfl (by rw [h294]; rfl) rfl) (ry hO rfl (yl tl_3 (by rw [h294]; rfl) rfl (fun _ h => ob h 0 0 rfl rfl)) (ry hO rfl (ye (by rw [h294]; rfl) rfl rfl) (ry hO rfl (ym (by rw [h294]; rfl) rfl) ?_)))
    rcases bt (decide ((nth c.code x243.toNat).kind = 3)) with h295 | h295
    ·
     replace hs := cond_t h295 hs
     refine ry hO rfl (yf 4 tf_38_4 rfl (by rw [h295]; rfl) rfl) (ry hO rfl (yl tl_3 (by rw [h295]; rfl) rfl (fun _ h => ob h 0 4 rfl rfl)) (ry hO rfl (y_ne (by rw [h295]; rfl) rfl rfl) (ry hO rfl (pt (by rw [h294]; rfl) (by rw [h295]; rfl) rfl) (ry hO rfl (ym (by rw [h294]; rfl) rfl) ?_))))
     rcases bt (!decide ((nth c.code x243.toNat).k = 6)) with h296 | h296
     ·
      replace hs := cond_t h296 hs
      have h297 : (decide ((nth c.code x243.toNat).k = 6)) = false := not_t h296
      exact ry hO rfl (yf 4 tf_38_4 rfl (by rw [h296]; rfl) rfl) (ry hO rfl (yl tl_3 (by rw [h296]; rfl) rfl (fun _ h => ob h 0 4 rfl rfl)) (ry hO rfl (y_ne (by rw [h296]; rfl) rfl rfl) (ry hO rfl (pt (by rw [h294]; rfl) (by rw [h296]; rfl) rfl) (ry hO rfl (pf tz (by rw [h294]; rfl) rfl) (as_ hO rfl rfl (rj (ej' ⟨!decide ((nth c.code x243.toNat).k = 7), rfl, inl_s hs, hO⟩ ⟨rfl, rfl, rfl, rfl, rfl, rfl, rfl, tz⟩)))))))
     replace hs := cond_f h296 hs
     have h298 : (decide ((nth c.code x243.toNat).k = 6)) = true := not_f h296
     exact ry hO rfl (ek (by rw [h296]; rfl)) (ry hO rfl (ek (by rw [h296]; rfl)) (ry hO rfl (ek (by rw [h296]; rfl)) (ry hO rfl (pf (by rw [h294]; rfl) (by rw [h296]; rfl) rfl) (ry hO rfl (pf tz (by rw [h294]; rfl) rfl) (as_ hO rfl rfl (rj (ej' ⟨false, rfl, inl_s hs, hO⟩ ⟨rfl, rfl, rfl, rfl, rfl, rfl, rfl, tz⟩)))))))
    replace hs := cond_f h295 hs
    refine ry hO rfl (ek (by rw [h295]; rfl)) (ry hO rfl (ek (by rw [h295]; rfl)) (ry hO rfl (ek (by rw [h295]; rfl)) (ry hO rfl (pf (by rw [h294]; rfl) (by rw [h295]; rfl) rfl) (ry hO rfl (ym (by rw [h294]; rfl) rfl) (ry hO rfl (ek rfl) (ry hO rfl (ek rfl) (ry hO rfl (ek rfl) (ry hO rfl (pf (by rw [h294]; rfl) rfl rfl) (ry hO rfl (pf tz (by rw [h294]; rfl) rfl) ?_)))))))))
    exact as_ hO rfl rfl (rj (ej' ⟨false, rfl, inl_s hs, hO⟩ ⟨rfl, rfl, rfl, rfl, rfl, rfl, rfl, tz⟩))
   rintro _ w292 ⟨y287, rfl, ho291, hO⟩
   replace hs := Aft.l hj290 ho291
   try dsimp only at hs
   refine et (cq (cr (fb 6 tf_38_6 rfl hO rfl rfl (ry hO rfl (yl tl_3 tz rfl (fun _ h => ob (h.front1) 0 6 rfl rfl)) (fb 6 tf_38_6 rfl hO rfl rfl (ry hO rfl (yl tl_3 tz rfl (fun _ h => ob h 0 6 rfl rfl)) (ry hO rfl (y_ne tz rfl rfl) (mv hO rfl rfl ?_))))))))
   rcases bt (!decide ((nth v26.1.code x243.toNat).cost = (nth c.code x243.toNat).cost)) with h299 | h299
   ·
    replace hs := cond_t h299 hs
    have h300 : (decide ((nth v26.1.code x243.toNat).cost = (nth c.code x243.toNat).cost)) = false := not_t h299
    refine ry hO rfl (ek (by rw [h299]; rfl)) (ry hO rfl (ek (by rw [h299]; rfl)) (ry hO rfl (ek (by rw [h299]; rfl)) (ry hO rfl (ek (by rw [h299]; rfl)) (ry hO rfl (ek (by rw [h299]; rfl)) (ry hO rfl (yu rfl) (ry hO rfl (yu rfl) (ry hO rfl (yu rfl) (ry hO rfl (yu rfl) (ry hO rfl (yu rfl) ?_)))))))))
    refine ry hO rfl (yu rfl) (ry hO rfl (yu rfl) (ry hO rfl (ek (by rw [h299]; rfl)) (ry hO rfl (pt tz (by rw [h299]; rfl) rfl) (rj (ez (E' := [(3, .pointer (some ⟨b12, 0, none⟩)), (4, .bool false), (5, .pointer (some ⟨b42, 0, none⟩)), (9, .int .i64 x243), (128, .bool true)]) ⟨rfl, rfl, rfl, rfl, rfl, tz⟩ (et (cv rfl (cq (cr ?_)))))))))
    refine as_ hO rfl rfl (rj (et (ct (eg (ew' (ew' (eg (ew' (er (.inl rfl) rfl rfl ?_)))))))))
    have hO := hO.forget
    have hO := hO.forget
    have hO := hO.forget
    have hO := hO.forget
    have hO := hO.forget
    have hO := hO.forget
    obtain rfl := o_ hs
    exact ⟨Mi242, hle259, hO, rfl⟩
   replace hs := cond_f h299 hs
   have h301 : (decide ((nth v26.1.code x243.toNat).cost = (nth c.code x243.toNat).cost)) = true := not_f h299
   refine ry hO rfl (yq [.int .i64 ((nth v26.1.code x243.toNat).kind), .int .i64 ((nth v26.1.code x243.toNat).r), .int .i64 ((nth v26.1.code x243.toNat).a), .int .i64 ((nth v26.1.code x243.toNat).b), .int .i64 ((nth v26.1.code x243.toNat).k), .slice b270 (((nth v26.1.code x243.toNat).args).length) c271, .int .i64 ((nth v26.1.code x243.toNat).cost), .int .i64 ((nth v26.1.code x243.toNat).mt), .int .i64 ((nth v26.1.code x243.toNat).pc)] ta_38 rfl (by rw [h299]; rfl) rfl (fun _ h => Own.cellsB (h.front1) 0 0 rfl (by intro j v e; exact rowCells (vs := [.int .i64 ((nth v26.1.code x243.toNat).kind), .int .i64 ((nth v26.1.code x243.toNat).r), .int .i64 ((nth v26.1.code x243.toNat).a), .int .i64 ((nth v26.1.code x243.toNat).b), .int .i64 ((nth v26.1.code x243.toNat).k), .slice b270 (((nth v26.1.code x243.toNat).args).length) c271, .int .i64 ((nth v26.1.code x243.toNat).cost), .int .i64 ((nth v26.1.code x243.toNat).mt), .int .i64 ((nth v26.1.code x243.toNat).pc)]) rfl e))) (ry hO rfl (yq [.int .i64 ((nth c.code x243.toNat).kind), .int .i64 ((nth c.code x243.toNat).r), .int .i64 ((nth c.code x243.toNat).a), .int .i64 ((nth c.code x243.toNat).b), .int .i64 ((nth c.code x243.toNat).k), .slice b277 (((nth c.code x243.toNat).args).length) c278, .int .i64 ((nth c.code x243.toNat).cost), .int .i64 ((nth c.code x243.toNat).mt), .int .i64 ((nth c.code x243.toNat).pc)] ta_38 rfl (by rw [h299]; rfl) rfl (fun _ h => Own.cellsB h 0 0 rfl (by intro j v e; exact rowCells (vs := [.int .i64 ((nth c.code x243.toNat).kind), .int .i64 ((nth c.code x243.toNat).r), .int .i64 ((nth c.code x243.toNat).a), .int .i64 ((nth c.code x243.toNat).b), .int .i64 ((nth c.code x243.toNat).k), .slice b277 (((nth c.code x243.toNat).args).length) c278, .int .i64 ((nth c.code x243.toNat).cost), .int .i64 ((nth c.code x243.toNat).mt), .int .i64 ((nth c.code x243.toNat).pc)]) rfl e))) ?_)
   obtain ⟨v302, hv303, hs⟩ := bind_s hs
   refine rd' (by rw [h299]; rfl) (oc (vs := [.agg #[.int .i64 ((nth v26.1.code x243.toNat).kind), .int .i64 ((nth v26.1.code x243.toNat).r), .int .i64 ((nth v26.1.code x243.toNat).a), .int .i64 ((nth v26.1.code x243.toNat).b), .int .i64 ((nth v26.1.code x243.toNat).k), .slice b270 (((nth v26.1.code x243.toNat).args).length) c271, .int .i64 ((nth v26.1.code x243.toNat).cost), .int .i64 ((nth v26.1.code x243.toNat).mt), .int .i64 ((nth v26.1.code x243.toNat).pc)], .agg #[.int .i64 ((nth c.code x243.toNat).kind), .int .i64 ((nth c.code x243.toNat).r), .int .i64 ((nth c.code x243.toNat).a), .int .i64 ((nth c.code x243.toNat).b), .int .i64 ((nth c.code x243.toNat).k), .slice b277 (((nth c.code x243.toNat).args).length) c278, .int .i64 ((nth c.code x243.toNat).cost), .int .i64 ((nth c.code x243.toNat).mt), .int .i64 ((nth c.code x243.toNat).pc)]]) tcall_11 rfl rfl (c_SameIr (vs_a := [.int .i64 ((nth v26.1.code x243.toNat).kind), .int .i64 ((nth v26.1.code x243.toNat).r), .int .i64 ((nth v26.1.code x243.toNat).a), .int .i64 ((nth v26.1.code x243.toNat).b), .int .i64 ((nth v26.1.code x243.toNat).k), .slice b270 (((nth v26.1.code x243.toNat).args).length) c271, .int .i64 ((nth v26.1.code x243.toNat).cost), .int .i64 ((nth v26.1.code x243.toNat).mt), .int .i64 ((nth v26.1.code x243.toNat).pc)]) (nth v26.1.code x243.toNat) (vs_b := [.int .i64 ((nth c.code x243.toNat).kind), .int .i64 ((nth c.code x243.toNat).r), .int .i64 ((nth c.code x243.toNat).a), .int .i64 ((nth c.code x243.toNat).b), .int .i64 ((nth c.code x243.toNat).k), .slice b277 (((nth c.code x243.toNat).args).length) c278, .int .i64 ((nth c.code x243.toNat).cost), .int .i64 ((nth c.code x243.toNat).mt), .int .i64 ((nth c.code x243.toNat).pc)]) (nth c.code x243.toNat) ⟨b270, c271, rfl, s272⟩ ⟨b277, c278, rfl, s279⟩ hv303 hO) ?_)
   rintro _ w304 ⟨M305, le306, hO, rfl⟩
   refine ⟨_, rfl, ?_⟩
   have s307 := s272.mono le306
   have s308 := s279.mono le306
   have r309 := r248.mono le306
   have s310 := s249.mono le306
   have r311 := r250.mono le306
   have s312 := s251.mono le306
   have s313 := s252.mono le306
   have s314 := s253.mono le306
   have s315 := s254.mono le306
   have hk316 := hk255.mono le306
   have hk317 := hk256.mono le306
   have hk318 := hk257.mono le306
   have hk319 := hk258.mono le306
   have hle320 := m_ hle259 le306
   have ch321 := m_ le244 le306
   have kl322 := m_ kl260 le306
   have kl323 := m_ kl261 le306
   have hO : Own _ M305 ([(b283, .cells #[.int .i64 ((nth c.code x243.toNat).kind), .int .i64 ((nth c.code x243.toNat).r), .int .i64 ((nth c.code x243.toNat).a), .int .i64 ((nth c.code x243.toNat).b), .int .i64 ((nth c.code x243.toNat).k), .slice b277 (((nth c.code x243.toNat).args).length) c278, .int .i64 ((nth c.code x243.toNat).cost), .int .i64 ((nth c.code x243.toNat).mt), .int .i64 ((nth c.code x243.toNat).pc)] 38)] ++ ([(b281, .cells #[.int .i64 ((nth v26.1.code x243.toNat).kind), .int .i64 ((nth v26.1.code x243.toNat).r), .int .i64 ((nth v26.1.code x243.toNat).a), .int .i64 ((nth v26.1.code x243.toNat).b), .int .i64 ((nth v26.1.code x243.toNat).k), .slice b270 (((nth v26.1.code x243.toNat).args).length) c271, .int .i64 ((nth v26.1.code x243.toNat).cost), .int .i64 ((nth v26.1.code x243.toNat).mt), .int .i64 ((nth v26.1.code x243.toNat).pc)] 38)] ++ ([(b132, .cells #[.int .i64 v111.1.fn, .int .i64 v111.1.regs, .slice b116 v111.1.code.length c117, .slice b120 v111.1.metas.length c121] 28)] ++ ([(b42, .cells #[.int .i64 v26.1.fn, .int .i64 v26.1.regs, .slice (some p267) v26.1.code.length c32, .slice b35 v26.1.metas.length c36] 28)] ++ ([(b12, .cells #[.int .i64 c.fn, .int .i64 c.regs, .slice (some p275) c.code.length c5, .slice b7 c.metas.length c8] 28)] ++ ([(b10, .cells #[.slice b1 p.funcs.length c2] 24)] ++ bs)))))) := hO
   refine ry hO rfl (yt (by rw [h299]; rfl) rfl) (ry hO rfl (ym (by rw [h299]; rfl) rfl) ?_)
   rcases bt (!v302) with h324 | h324
   ·
    replace hs := cond_t h324 hs
    have h325 : v302 = false := not_t h324
    refine ry hO rfl (ym (by rw [h324]; rfl) rfl) (ry hO rfl (yt (by rw [h324]; rfl) rfl) (ry hO rfl (ym (by rw [h324]; rfl) rfl) ?_))
    rcases bt (!y287) with h326 | h326
    ·
     replace hs := cond_t h326 hs
     have h327 : y287 = false := not_t h326
     refine ry hO rfl (ek (by rw [h326]; rfl)) (ry hO rfl (ek (by rw [h326]; rfl)) (ry hO rfl (ek (by rw [h326]; rfl)) (ry hO rfl (pt (by rw [h324]; rfl) (by rw [h326]; rfl) rfl) (ry hO rfl (pt (by rw [h299]; rfl) (by rw [h324]; rfl) rfl) (ry hO rfl (pf tz (by rw [h299]; rfl) rfl) (rj (ez (E' := [(3, .pointer (some ⟨b12, 0, none⟩)), (4, .bool false), (5, .pointer (some ⟨b42, 0, none⟩)), (9, .int .i64 x243), (128, .bool true)]) ⟨rfl, rfl, rfl, rfl, rfl, tz⟩ (et (cv rfl ?_)))))))))
     refine cq (cr (as_ hO rfl rfl (rj (et (ct (eg (ew' (ew' (eg ?_)))))))))
     refine ew' (er (.inl rfl) rfl rfl ?_)
     have hO := hO.forget
     have hO := hO.forget
     have hO := hO.forget
     have hO := hO.forget
     have hO := hO.forget
     have hO := hO.forget
     obtain rfl := o_ hs
     exact ⟨M305, hle320, hO, rfl⟩
    replace hs := cond_f h326 hs
    have h328 : y287 = true := not_f h326
    refine ry hO rfl (yf 0 tf_38_0 rfl (by rw [h326]; rfl) rfl) (ry hO rfl (yl tl_3 (by rw [h326]; rfl) rfl (fun _ h => ob (h.front1) 0 0 rfl rfl)) (ry hO rfl (y_ne (by rw [h326]; rfl) rfl rfl) (ry hO rfl (pf (by rw [h324]; rfl) (by rw [h326]; rfl) rfl) (ry hO rfl (pt (by rw [h299]; rfl) (by rw [h324]; rfl) rfl) (ry hO rfl (pf tz (by rw [h299]; rfl) rfl) (rj (ez (E' := [(3, .pointer (some ⟨b12, 0, none⟩)), (4, .bool false), (5, .pointer (some ⟨b42, 0, none⟩)), (9, .int .i64 x243), (128, .bool (!decide ((nth v26.1.code x243.toNat).kind = 0)))]) ⟨rfl, rfl, rfl, rfl, rfl, tz⟩ (et (cd rfl (fun h329 => ?_) (fun h329 => ?_))))))))))
    ·
     replace hs := cond_t h329 hs
     have h330 : (decide ((nth v26.1.code x243.toNat).kind = 0)) = false := not_t h329
     refine cq (cr (as_ hO rfl rfl (rj (et (ct (eg (ew' (ew' (eg ?_)))))))))
     refine ew' (er (.inl rfl) rfl rfl ?_)
     have hO := hO.forget
     have hO := hO.forget
     have hO := hO.forget
     have hO := hO.forget
     have hO := hO.forget
     have hO := hO.forget
     obtain rfl := o_ hs
     exact ⟨M305, hle320, hO, rfl⟩
    replace hs := cond_f h329 hs
    have h331 : (decide ((nth v26.1.code x243.toNat).kind = 0)) = true := not_f h329
    refine cp (ek' (et (cr (mv hO rfl rfl (ry hO rfl (y_add (wI (x243 + 1)) tz rfl rfl rfl) (as_ hO rfl rfl (rj ?_)))))))
    have hO := hO.forget
    have hO := hO.forget
    exact eo ⟨M305, wI (x243 + 1), rfl, ch321, hs, hO⟩ ⟨rfl, rfl, rfl, rfl, tz⟩ (Nat.lt_succ_self _)
   replace hs := cond_f h324 hs
   have h332 : v302 = true := not_f h324
   refine ry hO rfl (ek (by rw [h324]; rfl)) (ry hO rfl (ek (by rw [h324]; rfl)) (ry hO rfl (ek (by rw [h324]; rfl)) (ry hO rfl (yu rfl) (ry hO rfl (yu rfl) (ry hO rfl (yu rfl) (ry hO rfl (ek (by rw [h324]; rfl)) (ry hO rfl (pf (by rw [h299]; rfl) (by rw [h324]; rfl) rfl) (ry hO rfl (pf tz (by rw [h299]; rfl) rfl) (rj ?_)))))))))
   refine ez (E' := [(3, .pointer (some ⟨b12, 0, none⟩)), (4, .bool false), (5, .pointer (some ⟨b42, 0, none⟩)), (9, .int .i64 x243), (128, .bool false)]) ⟨rfl, rfl, rfl, rfl, rfl, tz⟩ (et (cj rfl (cp (ek' (et (cr (mv hO rfl rfl (ry hO rfl (y_add (wI (x243 + 1)) tz rfl rfl rfl) (as_ hO rfl rfl ?_)))))))))
   refine rj ?_
   have hO := hO.forget
   have hO := hO.forget
   exact eo ⟨M305, wI (x243 + 1), rfl, ch321, hs, hO⟩ ⟨rfl, rfl, rfl, rfl, tz⟩ (Nat.lt_succ_self _)
  refine hn' rfl tz (og_alloc hO rfl tz_38 (fun b281 w282 hO => ?_))
  have hO : Own _ Mi242 ([(b281, .cells #[.int .i64 0, .int .i64 0, .int .i64 0, .int .i64 0, .int .i64 0, .slice none 0 0, .int .i64 0, .int .i64 0, .int .i64 0] 38)] ++ ([(b132, .cells #[.int .i64 v111.1.fn, .int .i64 v111.1.regs, .slice b116 v111.1.code.length c117, .slice b120 v111.1.metas.length c121] 28)] ++ ([(b42, .cells #[.int .i64 v26.1.fn, .int .i64 v26.1.regs, .slice (some p267) v26.1.code.length c32, .slice b35 v26.1.metas.length c36] 28)] ++ ([(b12, .cells #[.int .i64 c.fn, .int .i64 c.regs, .slice (some p275) c.code.length c5, .slice b7 c.metas.length c8] 28)] ++ ([(b10, .cells #[.slice b1 p.funcs.length c2] 24)] ++ bs))))) := hO
  refine kg_s hO.forget ?_
  refine hn' rfl tz (og_alloc hO rfl tz_38 (fun b283 w284 hO => ?_))
  have hO : Own _ Mi242 ([(b283, .cells #[.int .i64 0, .int .i64 0, .int .i64 0, .int .i64 0, .int .i64 0, .slice none 0 0, .int .i64 0, .int .i64 0, .int .i64 0] 38)] ++ ([(b281, .cells #[.int .i64 0, .int .i64 0, .int .i64 0, .int .i64 0, .int .i64 0, .slice none 0 0, .int .i64 0, .int .i64 0, .int .i64 0] 38)] ++ ([(b132, .cells #[.int .i64 v111.1.fn, .int .i64 v111.1.regs, .slice b116 v111.1.code.length c117, .slice b120 v111.1.metas.length c121] 28)] ++ ([(b42, .cells #[.int .i64 v26.1.fn, .int .i64 v26.1.regs, .slice (some p267) v26.1.code.length c32, .slice b35 v26.1.metas.length c36] 28)] ++ ([(b12, .cells #[.int .i64 c.fn, .int .i64 c.regs, .slice (some p275) c.code.length c5, .slice b7 c.metas.length c8] 28)] ++ ([(b10, .cells #[.slice b1 p.funcs.length c2] 24)] ++ bs)))))) := hO
  refine kg_s hO.forget.forget ?_
  refine hn' rfl tz (og_storeS (vs := [.int .i64 ((nth v26.1.code x243.toNat).kind), .int .i64 ((nth v26.1.code x243.toNat).r), .int .i64 ((nth v26.1.code x243.toNat).a), .int .i64 ((nth v26.1.code x243.toNat).b), .int .i64 ((nth v26.1.code x243.toNat).k), .slice b270 (((nth v26.1.code x243.toNat).args).length) c271, .int .i64 ((nth v26.1.code x243.toNat).cost), .int .i64 ((nth v26.1.code x243.toNat).mt), .int .i64 ((nth v26.1.code x243.toNat).pc)]) hO tn_38 rfl rfl rfl (nb rfl) rfl rfl (fun w285 hO => ?_))
  have hO : Own _ Mi242 ([(b283, .cells #[.int .i64 ((nth v26.1.code x243.toNat).kind), .int .i64 ((nth v26.1.code x243.toNat).r), .int .i64 ((nth v26.1.code x243.toNat).a), .int .i64 ((nth v26.1.code x243.toNat).b), .int .i64 ((nth v26.1.code x243.toNat).k), .slice b270 (((nth v26.1.code x243.toNat).args).length) c271, .int .i64 ((nth v26.1.code x243.toNat).cost), .int .i64 ((nth v26.1.code x243.toNat).mt), .int .i64 ((nth v26.1.code x243.toNat).pc)] 38)] ++ ([(b281, .cells #[.int .i64 0, .int .i64 0, .int .i64 0, .int .i64 0, .int .i64 0, .slice none 0 0, .int .i64 0, .int .i64 0, .int .i64 0] 38)] ++ ([(b132, .cells #[.int .i64 v111.1.fn, .int .i64 v111.1.regs, .slice b116 v111.1.code.length c117, .slice b120 v111.1.metas.length c121] 28)] ++ ([(b42, .cells #[.int .i64 v26.1.fn, .int .i64 v26.1.regs, .slice (some p267) v26.1.code.length c32, .slice b35 v26.1.metas.length c36] 28)] ++ ([(b12, .cells #[.int .i64 c.fn, .int .i64 c.regs, .slice (some p275) c.code.length c5, .slice b7 c.metas.length c8] 28)] ++ ([(b10, .cells #[.slice b1 p.funcs.length c2] 24)] ++ bs)))))) := hO
  refine kg_s hO.forget.forget ?_
  have hO := hO.front1
  refine hg_last rfl tz (og_storeS (vs := [.int .i64 ((nth c.code x243.toNat).kind), .int .i64 ((nth c.code x243.toNat).r), .int .i64 ((nth c.code x243.toNat).a), .int .i64 ((nth c.code x243.toNat).b), .int .i64 ((nth c.code x243.toNat).k), .slice b277 (((nth c.code x243.toNat).args).length) c278, .int .i64 ((nth c.code x243.toNat).cost), .int .i64 ((nth c.code x243.toNat).mt), .int .i64 ((nth c.code x243.toNat).pc)]) hO tn_38 rfl rfl rfl (nb rfl) rfl rfl (fun w286 hO => ?_))
  have hO : Own _ Mi242 ([(b281, .cells #[.int .i64 ((nth c.code x243.toNat).kind), .int .i64 ((nth c.code x243.toNat).r), .int .i64 ((nth c.code x243.toNat).a), .int .i64 ((nth c.code x243.toNat).b), .int .i64 ((nth c.code x243.toNat).k), .slice b277 (((nth c.code x243.toNat).args).length) c278, .int .i64 ((nth c.code x243.toNat).cost), .int .i64 ((nth c.code x243.toNat).mt), .int .i64 ((nth c.code x243.toNat).pc)] 38)] ++ ([(b283, .cells #[.int .i64 ((nth v26.1.code x243.toNat).kind), .int .i64 ((nth v26.1.code x243.toNat).r), .int .i64 ((nth v26.1.code x243.toNat).a), .int .i64 ((nth v26.1.code x243.toNat).b), .int .i64 ((nth v26.1.code x243.toNat).k), .slice b270 (((nth v26.1.code x243.toNat).args).length) c271, .int .i64 ((nth v26.1.code x243.toNat).cost), .int .i64 ((nth v26.1.code x243.toNat).mt), .int .i64 ((nth v26.1.code x243.toNat).pc)] 38)] ++ ([(b132, .cells #[.int .i64 v111.1.fn, .int .i64 v111.1.regs, .slice b116 v111.1.code.length c117, .slice b120 v111.1.metas.length c121] 28)] ++ ([(b42, .cells #[.int .i64 v26.1.fn, .int .i64 v26.1.regs, .slice (some p267) v26.1.code.length c32, .slice b35 v26.1.metas.length c36] 28)] ++ ([(b12, .cells #[.int .i64 c.fn, .int .i64 c.regs, .slice (some p275) c.code.length c5, .slice b7 c.metas.length c8] 28)] ++ ([(b10, .cells #[.slice b1 p.funcs.length c2] 24)] ++ bs)))))) := hO
  refine ez (E' := [(3, .pointer (some ⟨b12, 0, none⟩)), (4, .bool false), (5, .pointer (some ⟨b42, 0, none⟩)), (9, .int .i64 x243), (11, .pointer (some ⟨b281, 0, none⟩)), (10, .pointer (some ⟨b283, 0, none⟩))]) ⟨rfl, rfl, rfl, rfl, rfl, rfl, tz⟩ (et (cq ?_))
  obtain ⟨o288, hs, hj290⟩ := andj_s hs
  refine cg_join (fun E' w' => ∃ y287 : Bool, E' = [(3, .pointer (some ⟨b12, 0, none⟩)), (4, .bool false), (5, .pointer (some ⟨b42, 0, none⟩)), (9, .int .i64 x243), (10, .pointer (some ⟨b283, 0, none⟩)), (11, .pointer (some ⟨b281, 0, none⟩)), (12, .bool y287)] ∧ o288 = .inl y287 ∧ Own w' Mi242 ([(b281, .cells #[.int .i64 ((nth c.code x243.toNat).kind), .int .i64 ((nth c.code x243.toNat).r), .int .i64 ((nth c.code x243.toNat).a), .int .i64 ((nth c.code x243.toNat).b), .int .i64 ((nth c.code x243.toNat).k), .slice b277 (((nth c.code x243.toNat).args).length) c278, .int .i64 ((nth c.code x243.toNat).cost), .int .i64 ((nth c.code x243.toNat).mt), .int .i64 ((nth c.code x243.toNat).pc)] 38)] ++ ([(b283, .cells #[.int .i64 ((nth v26.1.code x243.toNat).kind), .int .i64 ((nth v26.1.code x243.toNat).r), .int .i64 ((nth v26.1.code x243.toNat).a), .int .i64 ((nth v26.1.code x243.toNat).b), .int .i64 ((nth v26.1.code x243.toNat).k), .slice b270 (((nth v26.1.code x243.toNat).args).length) c271, .int .i64 ((nth v26.1.code x243.toNat).cost), .int .i64 ((nth v26.1.code x243.toNat).mt), .int .i64 ((nth v26.1.code x243.toNat).pc)] 38)] ++ ([(b132, .cells #[.int .i64 v111.1.fn, .int .i64 v111.1.regs, .slice b116 v111.1.code.length c117, .slice b120 v111.1.metas.length c121] 28)] ++ ([(b42, .cells #[.int .i64 v26.1.fn, .int .i64 v26.1.regs, .slice (some p267) v26.1.code.length c32, .slice b35 v26.1.metas.length c36] 28)] ++ ([(b12, .cells #[.int .i64 c.fn, .int .i64 c.regs, .slice (some p275) c.code.length c5, .slice b7 c.metas.length c8] 28)] ++ ([(b10, .cells #[.slice b1 p.funcs.length c2] 24)] ++ bs))))))) ?_ ?_
  ·
   refine cr (fb 0 tf_38_0 rfl hO rfl rfl (ry hO rfl (yl tl_3 tz rfl (fun _ h => ob h 0 0 rfl rfl)) (ry hO rfl (ye tz rfl rfl) (mv hO rfl rfl ?_))))
   rcases bt (decide ((nth c.code x243.toNat).kind = 1)) with h293 | h293
   ·
    replace hs := cond_t h293 hs
    refine ry hO rfl (ek (by rw [h293]; rfl)) (ry hO rfl (ek (by rw [h293]; rfl)) (ry hO rfl (ek (by rw [h293]; rfl)) (ry hO rfl (pt tz (by rw [h293]; rfl) rfl) (mv hO rfl rfl (ry hO rfl (ek rfl) (ry hO rfl (ek rfl) (ry hO rfl (ek rfl) (ry hO rfl (ek rfl) (ry hO rfl (yu rfl) ?_)))))))))
    refine ry hO rfl (yu rfl) (ry hO rfl (yu rfl) (ry hO rfl (ek rfl) (ry hO rfl (ek rfl) (ry hO rfl (yu rfl) (ry hO rfl (yu rfl) (ry hO rfl (yu rfl) (ry hO rfl (ek rfl) (ry hO rfl (pt tz rfl rfl) (as_ hO rfl rfl ?_)))))))))
    exact rj (ej' ⟨true, rfl, inl_s hs, hO⟩ ⟨rfl, rfl, rfl, rfl, rfl, rfl, rfl, tz⟩)
   replace hs := cond_f h293 hs
   refine ry hO rfl (yf 0 tf_38_0 rfl (by rw [h293]; rfl) rfl) (ry hO rfl (yl tl_3 (by rw [h293]; rfl) rfl (fun _ h => ob h 0 0 rfl rfl)) (ry hO rfl (ye (by rw [h293]; rfl) rfl rfl) (ry hO rfl (pf tz (by rw [h293]; rfl) rfl) (mv hO rfl rfl ?_))))
   rcases bt (decide ((nth c.code x243.toNat).kind = 2)) with h294 | h294
   ·
    replace hs := cond_t h294 hs
    refine ry hO rfl (ek (by rw [h294]; rfl)) (ry hO rfl (ek (by rw [h294]; rfl)) (ry hO rfl (ek (by rw [h294]; rfl)) (ry hO rfl (ek (by rw [h294]; rfl)) (ry hO rfl (yu rfl) (ry hO rfl (yu rfl) (ry hO rfl (yu rfl) (ry hO rfl (ek (by rw [h294]; rfl)) (ry hO rfl (ek (by rw [h294]; rfl)) (ry hO rfl (yu rfl) ?_)))))))))
    exact ry hO rfl (yu rfl) (ry hO rfl (yu rfl) (ry hO rfl (ek (by rw [h294]; rfl)) (ry hO rfl (pt tz (by rw [h294]; rfl) rfl) (as_ hO rfl rfl (rj (ej' ⟨true, rfl, inl_s hs, hO⟩ ⟨rfl, rfl, rfl, rfl, rfl, rfl, rfl, tz⟩))))))
   replace hs := cond_f h294 hs
   refine ry hO rfl (yf 0 tf_38_0 rfl (by rw [h294]; rfl) rfl) (ry hO rfl (yl tl_3 (by rw [h294]; rfl) rfl (fun _ h => ob h 0 0 rfl rfl)) (ry hO rfl (ye (by rw [h294]; rfl) rfl rfl) (ry hO rfl (ym (by rw [h294]; rfl) rfl) ?_)))
   rcases bt (decide ((nth c.code x243.toNat).kind = 3)) with h295 | h295
   ·
    replace hs := cond_t h295 hs
    refine ry hO rfl (yf 4 tf_38_4 rfl (by rw [h295]; rfl) rfl) (ry hO rfl (yl tl_3 (by rw [h295]; rfl) rfl (fun _ h => ob h 0 4 rfl rfl)) (ry hO rfl (y_ne (by rw [h295]; rfl) rfl rfl) (ry hO rfl (pt (by rw [h294]; rfl) (by rw [h295]; rfl) rfl) (ry hO rfl (ym (by rw [h294]; rfl) rfl) ?_))))
    rcases bt (!decide ((nth c.code x243.toNat).k = 6)) with h296 | h296
    ·
     replace hs := cond_t h296 hs
     have h297 : (decide ((nth c.code x243.toNat).k = 6)) = false := not_t h296
     exact ry hO rfl (yf 4 tf_38_4 rfl (by rw [h296]; rfl) rfl) (ry hO rfl (yl tl_3 (by rw [h296]; rfl) rfl (fun _ h => ob h 0 4 rfl rfl)) (ry hO rfl (y_ne (by rw [h296]; rfl) rfl rfl) (ry hO rfl (pt (by rw [h294]; rfl) (by rw [h296]; rfl) rfl) (ry hO rfl (pf tz (by rw [h294]; rfl) rfl) (as_ hO rfl rfl (rj (ej' ⟨!decide ((nth c.code x243.toNat).k = 7), rfl, inl_s hs, hO⟩ ⟨rfl, rfl, rfl, rfl, rfl, rfl, rfl, tz⟩)))))))
    replace hs := cond_f h296 hs
    have h298 : (decide ((nth c.code x243.toNat).k = 6)) = true := not_f h296
    exact ry hO rfl (ek (by rw [h296]; rfl)) (ry hO rfl (ek (by rw [h296]; rfl)) (ry hO rfl (ek (by rw [h296]; rfl)) (ry hO rfl (pf (by rw [h294]; rfl) (by rw [h296]; rfl) rfl) (ry hO rfl (pf tz (by rw [h294]; rfl) rfl) (as_ hO rfl rfl (rj (ej' ⟨false, rfl, inl_s hs, hO⟩ ⟨rfl, rfl, rfl, rfl, rfl, rfl, rfl, tz⟩)))))))
   replace hs := cond_f h295 hs
   refine ry hO rfl (ek (by rw [h295]; rfl)) (ry hO rfl (ek (by rw [h295]; rfl)) (ry hO rfl (ek (by rw [h295]; rfl)) (ry hO rfl (pf (by rw [h294]; rfl) (by rw [h295]; rfl) rfl) (ry hO rfl (ym (by rw [h294]; rfl) rfl) (ry hO rfl (ek rfl) (ry hO rfl (ek rfl) (ry hO rfl (ek rfl) (ry hO rfl (pf (by rw [h294]; rfl) rfl rfl) (ry hO rfl (pf tz (by rw [h294]; rfl) rfl) ?_)))))))))
   exact as_ hO rfl rfl (rj (ej' ⟨false, rfl, inl_s hs, hO⟩ ⟨rfl, rfl, rfl, rfl, rfl, rfl, rfl, tz⟩))
  rintro _ w292 ⟨y287, rfl, ho291, hO⟩
  replace hs := Aft.l hj290 ho291
  try dsimp only at hs
  refine et (cq (cr (fb 6 tf_38_6 rfl hO rfl rfl (ry hO rfl (yl tl_3 tz rfl (fun _ h => ob (h.front1) 0 6 rfl rfl)) (fb 6 tf_38_6 rfl hO rfl rfl (ry hO rfl (yl tl_3 tz rfl (fun _ h => ob h 0 6 rfl rfl)) (ry hO rfl (y_ne tz rfl rfl) (mv hO rfl rfl ?_))))))))
  rcases bt (!decide ((nth v26.1.code x243.toNat).cost = (nth c.code x243.toNat).cost)) with h299 | h299
  ·
   replace hs := cond_t h299 hs
   have h300 : (decide ((nth v26.1.code x243.toNat).cost = (nth c.code x243.toNat).cost)) = false := not_t h299
   refine ry hO rfl (ek (by rw [h299]; rfl)) (ry hO rfl (ek (by rw [h299]; rfl)) (ry hO rfl (ek (by rw [h299]; rfl)) (ry hO rfl (ek (by rw [h299]; rfl)) (ry hO rfl (ek (by rw [h299]; rfl)) (ry hO rfl (yu rfl) (ry hO rfl (yu rfl) (ry hO rfl (yu rfl) (ry hO rfl (yu rfl) (ry hO rfl (yu rfl) ?_)))))))))
   refine ry hO rfl (yu rfl) (ry hO rfl (yu rfl) (ry hO rfl (ek (by rw [h299]; rfl)) (ry hO rfl (pt tz (by rw [h299]; rfl) rfl) (rj (ez (E' := [(3, .pointer (some ⟨b12, 0, none⟩)), (4, .bool false), (5, .pointer (some ⟨b42, 0, none⟩)), (9, .int .i64 x243), (128, .bool true)]) ⟨rfl, rfl, rfl, rfl, rfl, tz⟩ (et (cv rfl (cq (cr ?_)))))))))
   refine as_ hO rfl rfl (rj (et (ct (eg (ew' (ew' (eg (ew' (er (.inl rfl) rfl rfl ?_)))))))))
   have hO := hO.forget
   have hO := hO.forget
   have hO := hO.forget
   have hO := hO.forget
   have hO := hO.forget
   have hO := hO.forget
   obtain rfl := o_ hs
   exact ⟨Mi242, hle259, hO, rfl⟩
  replace hs := cond_f h299 hs
  have h301 : (decide ((nth v26.1.code x243.toNat).cost = (nth c.code x243.toNat).cost)) = true := not_f h299
  refine ry hO rfl (yq [.int .i64 ((nth v26.1.code x243.toNat).kind), .int .i64 ((nth v26.1.code x243.toNat).r), .int .i64 ((nth v26.1.code x243.toNat).a), .int .i64 ((nth v26.1.code x243.toNat).b), .int .i64 ((nth v26.1.code x243.toNat).k), .slice b270 (((nth v26.1.code x243.toNat).args).length) c271, .int .i64 ((nth v26.1.code x243.toNat).cost), .int .i64 ((nth v26.1.code x243.toNat).mt), .int .i64 ((nth v26.1.code x243.toNat).pc)] ta_38 rfl (by rw [h299]; rfl) rfl (fun _ h => Own.cellsB (h.front1) 0 0 rfl (by intro j v e; exact rowCells (vs := [.int .i64 ((nth v26.1.code x243.toNat).kind), .int .i64 ((nth v26.1.code x243.toNat).r), .int .i64 ((nth v26.1.code x243.toNat).a), .int .i64 ((nth v26.1.code x243.toNat).b), .int .i64 ((nth v26.1.code x243.toNat).k), .slice b270 (((nth v26.1.code x243.toNat).args).length) c271, .int .i64 ((nth v26.1.code x243.toNat).cost), .int .i64 ((nth v26.1.code x243.toNat).mt), .int .i64 ((nth v26.1.code x243.toNat).pc)]) rfl e))) (ry hO rfl (yq [.int .i64 ((nth c.code x243.toNat).kind), .int .i64 ((nth c.code x243.toNat).r), .int .i64 ((nth c.code x243.toNat).a), .int .i64 ((nth c.code x243.toNat).b), .int .i64 ((nth c.code x243.toNat).k), .slice b277 (((nth c.code x243.toNat).args).length) c278, .int .i64 ((nth c.code x243.toNat).cost), .int .i64 ((nth c.code x243.toNat).mt), .int .i64 ((nth c.code x243.toNat).pc)] ta_38 rfl (by rw [h299]; rfl) rfl (fun _ h => Own.cellsB h 0 0 rfl (by intro j v e; exact rowCells (vs := [.int .i64 ((nth c.code x243.toNat).kind), .int .i64 ((nth c.code x243.toNat).r), .int .i64 ((nth c.code x243.toNat).a), .int .i64 ((nth c.code x243.toNat).b), .int .i64 ((nth c.code x243.toNat).k), .slice b277 (((nth c.code x243.toNat).args).length) c278, .int .i64 ((nth c.code x243.toNat).cost), .int .i64 ((nth c.code x243.toNat).mt), .int .i64 ((nth c.code x243.toNat).pc)]) rfl e))) ?_)
  obtain ⟨v302, hv303, hs⟩ := bind_s hs
  refine rd' (by rw [h299]; rfl) (oc (vs := [.agg #[.int .i64 ((nth v26.1.code x243.toNat).kind), .int .i64 ((nth v26.1.code x243.toNat).r), .int .i64 ((nth v26.1.code x243.toNat).a), .int .i64 ((nth v26.1.code x243.toNat).b), .int .i64 ((nth v26.1.code x243.toNat).k), .slice b270 (((nth v26.1.code x243.toNat).args).length) c271, .int .i64 ((nth v26.1.code x243.toNat).cost), .int .i64 ((nth v26.1.code x243.toNat).mt), .int .i64 ((nth v26.1.code x243.toNat).pc)], .agg #[.int .i64 ((nth c.code x243.toNat).kind), .int .i64 ((nth c.code x243.toNat).r), .int .i64 ((nth c.code x243.toNat).a), .int .i64 ((nth c.code x243.toNat).b), .int .i64 ((nth c.code x243.toNat).k), .slice b277 (((nth c.code x243.toNat).args).length) c278, .int .i64 ((nth c.code x243.toNat).cost), .int .i64 ((nth c.code x243.toNat).mt), .int .i64 ((nth c.code x243.toNat).pc)]]) tcall_11 rfl rfl (c_SameIr (vs_a := [.int .i64 ((nth v26.1.code x243.toNat).kind), .int .i64 ((nth v26.1.code x243.toNat).r), .int .i64 ((nth v26.1.code x243.toNat).a), .int .i64 ((nth v26.1.code x243.toNat).b), .int .i64 ((nth v26.1.code x243.toNat).k), .slice b270 (((nth v26.1.code x243.toNat).args).length) c271, .int .i64 ((nth v26.1.code x243.toNat).cost), .int .i64 ((nth v26.1.code x243.toNat).mt), .int .i64 ((nth v26.1.code x243.toNat).pc)]) (nth v26.1.code x243.toNat) (vs_b := [.int .i64 ((nth c.code x243.toNat).kind), .int .i64 ((nth c.code x243.toNat).r), .int .i64 ((nth c.code x243.toNat).a), .int .i64 ((nth c.code x243.toNat).b), .int .i64 ((nth c.code x243.toNat).k), .slice b277 (((nth c.code x243.toNat).args).length) c278, .int .i64 ((nth c.code x243.toNat).cost), .int .i64 ((nth c.code x243.toNat).mt), .int .i64 ((nth c.code x243.toNat).pc)]) (nth c.code x243.toNat) ⟨b270, c271, rfl, s272⟩ ⟨b277, c278, rfl, s279⟩ hv303 hO) ?_)
  rintro _ w304 ⟨M305, le306, hO, rfl⟩
  refine ⟨_, rfl, ?_⟩
  have s307 := s272.mono le306
  have s308 := s279.mono le306
  have r309 := r248.mono le306
  have s310 := s249.mono le306
  have r311 := r250.mono le306
  have s312 := s251.mono le306
  have s313 := s252.mono le306
  have s314 := s253.mono le306
  have s315 := s254.mono le306
  have hk316 := hk255.mono le306
  have hk317 := hk256.mono le306
  have hk318 := hk257.mono le306
  have hk319 := hk258.mono le306
  have hle320 := m_ hle259 le306
  have ch321 := m_ le244 le306
  have kl322 := m_ kl260 le306
  have kl323 := m_ kl261 le306
  have hO : Own _ M305 ([(b281, .cells #[.int .i64 ((nth c.code x243.toNat).kind), .int .i64 ((nth c.code x243.toNat).r), .int .i64 ((nth c.code x243.toNat).a), .int .i64 ((nth c.code x243.toNat).b), .int .i64 ((nth c.code x243.toNat).k), .slice b277 (((nth c.code x243.toNat).args).length) c278, .int .i64 ((nth c.code x243.toNat).cost), .int .i64 ((nth c.code x243.toNat).mt), .int .i64 ((nth c.code x243.toNat).pc)] 38)] ++ ([(b283, .cells #[.int .i64 ((nth v26.1.code x243.toNat).kind), .int .i64 ((nth v26.1.code x243.toNat).r), .int .i64 ((nth v26.1.code x243.toNat).a), .int .i64 ((nth v26.1.code x243.toNat).b), .int .i64 ((nth v26.1.code x243.toNat).k), .slice b270 (((nth v26.1.code x243.toNat).args).length) c271, .int .i64 ((nth v26.1.code x243.toNat).cost), .int .i64 ((nth v26.1.code x243.toNat).mt), .int .i64 ((nth v26.1.code x243.toNat).pc)] 38)] ++ ([(b132, .cells #[.int .i64 v111.1.fn, .int .i64 v111.1.regs, .slice b116 v111.1.code.length c117, .slice b120 v111.1.metas.length c121] 28)] ++ ([(b42, .cells #[.int .i64 v26.1.fn, .int .i64 v26.1.regs, .slice (some p267) v26.1.code.length c32, .slice b35 v26.1.metas.length c36] 28)] ++ ([(b12, .cells #[.int .i64 c.fn, .int .i64 c.regs, .slice (some p275) c.code.length c5, .slice b7 c.metas.length c8] 28)] ++ ([(b10, .cells #[.slice b1 p.funcs.length c2] 24)] ++ bs)))))) := hO
  refine ry hO rfl (yt (by rw [h299]; rfl) rfl) (ry hO rfl (ym (by rw [h299]; rfl) rfl) ?_)
  rcases bt (!v302) with h324 | h324
  ·
   replace hs := cond_t h324 hs
   have h325 : v302 = false := not_t h324
   refine ry hO rfl (ym (by rw [h324]; rfl) rfl) (ry hO rfl (yt (by rw [h324]; rfl) rfl) (ry hO rfl (ym (by rw [h324]; rfl) rfl) ?_))
   rcases bt (!y287) with h326 | h326
   ·
    replace hs := cond_t h326 hs
    have h327 : y287 = false := not_t h326
    refine ry hO rfl (ek (by rw [h326]; rfl)) (ry hO rfl (ek (by rw [h326]; rfl)) (ry hO rfl (ek (by rw [h326]; rfl)) (ry hO rfl (pt (by rw [h324]; rfl) (by rw [h326]; rfl) rfl) (ry hO rfl (pt (by rw [h299]; rfl) (by rw [h324]; rfl) rfl) (ry hO rfl (pf tz (by rw [h299]; rfl) rfl) (rj (ez (E' := [(3, .pointer (some ⟨b12, 0, none⟩)), (4, .bool false), (5, .pointer (some ⟨b42, 0, none⟩)), (9, .int .i64 x243), (128, .bool true)]) ⟨rfl, rfl, rfl, rfl, rfl, tz⟩ (et (cv rfl ?_)))))))))
    refine cq (cr (as_ hO rfl rfl (rj (et (ct (eg (ew' (ew' (eg ?_)))))))))
    refine ew' (er (.inl rfl) rfl rfl ?_)
    have hO := hO.forget
    have hO := hO.forget
    have hO := hO.forget
    have hO := hO.forget
    have hO := hO.forget
    have hO := hO.forget
    obtain rfl := o_ hs
    exact ⟨M305, hle320, hO, rfl⟩
   replace hs := cond_f h326 hs
   have h328 : y287 = true := not_f h326
   refine ry hO rfl (yf 0 tf_38_0 rfl (by rw [h326]; rfl) rfl) (ry hO rfl (yl tl_3 (by rw [h326]; rfl) rfl (fun _ h => ob (h.front1) 0 0 rfl rfl)) (ry hO rfl (y_ne (by rw [h326]; rfl) rfl rfl) (ry hO rfl (pf (by rw [h324]; rfl) (by rw [h326]; rfl) rfl) (ry hO rfl (pt (by rw [h299]; rfl) (by rw [h324]; rfl) rfl) (ry hO rfl (pf tz (by rw [h299]; rfl) rfl) (rj (ez (E' := [(3, .pointer (some ⟨b12, 0, none⟩)), (4, .bool false), (5, .pointer (some ⟨b42, 0, none⟩)), (9, .int .i64 x243), (128, .bool (!decide ((nth v26.1.code x243.toNat).kind = 0)))]) ⟨rfl, rfl, rfl, rfl, rfl, tz⟩ (et (cd rfl (fun h329 => ?_) (fun h329 => ?_))))))))))
   ·
    replace hs := cond_t h329 hs
    have h330 : (decide ((nth v26.1.code x243.toNat).kind = 0)) = false := not_t h329
    refine cq (cr (as_ hO rfl rfl (rj (et (ct (eg (ew' (ew' (eg ?_)))))))))
    refine ew' (er (.inl rfl) rfl rfl ?_)
    have hO := hO.forget
    have hO := hO.forget
    have hO := hO.forget
    have hO := hO.forget
    have hO := hO.forget
    have hO := hO.forget
    obtain rfl := o_ hs
    exact ⟨M305, hle320, hO, rfl⟩
   replace hs := cond_f h329 hs
   have h331 : (decide ((nth v26.1.code x243.toNat).kind = 0)) = true := not_f h329
   refine cp (ek' (et (cr (mv hO rfl rfl (ry hO rfl (y_add (wI (x243 + 1)) tz rfl rfl rfl) (as_ hO rfl rfl (rj ?_)))))))
   have hO := hO.forget
   have hO := hO.forget
   exact eo ⟨M305, wI (x243 + 1), rfl, ch321, hs, hO⟩ ⟨rfl, rfl, rfl, rfl, tz⟩ (Nat.lt_succ_self _)
  replace hs := cond_f h324 hs
  have h332 : v302 = true := not_f h324
  refine ry hO rfl (ek (by rw [h324]; rfl)) (ry hO rfl (ek (by rw [h324]; rfl)) (ry hO rfl (ek (by rw [h324]; rfl)) (ry hO rfl (yu rfl) (ry hO rfl (yu rfl) (ry hO rfl (yu rfl) (ry hO rfl (ek (by rw [h324]; rfl)) (ry hO rfl (pf (by rw [h299]; rfl) (by rw [h324]; rfl) rfl) (ry hO rfl (pf tz (by rw [h299]; rfl) rfl) (rj ?_)))))))))
  refine ez (E' := [(3, .pointer (some ⟨b12, 0, none⟩)), (4, .bool false), (5, .pointer (some ⟨b42, 0, none⟩)), (9, .int .i64 x243), (128, .bool false)]) ⟨rfl, rfl, rfl, rfl, rfl, tz⟩ (et (cj rfl (cp (ek' (et (cr (mv hO rfl rfl (ry hO rfl (y_add (wI (x243 + 1)) tz rfl rfl rfl) (as_ hO rfl rfl ?_)))))))))
  refine rj ?_
  have hO := hO.forget
  have hO := hO.forget
  exact eo ⟨M305, wI (x243 + 1), rfl, ch321, hs, hO⟩ ⟨rfl, rfl, rfl, rfl, tz⟩ (Nat.lt_succ_self _)
 replace hs := cond_f h262 hs
 refine cx (eh (eh (ej (et (cq (cr (as_ hO rfl rfl (rj (et ?_)))))))))
 refine ct (er (.inl rfl) rfl rfl ?_)
 have hO := hO.forget
 have hO := hO.forget
 have hO := hO.forget
 have hO := hO.forget
 obtain rfl := o_ hs
 exact ⟨Mi242, hle259, hO, rfl⟩

end Go.Proofs.YtdniefnjgkhkeaaDoor
