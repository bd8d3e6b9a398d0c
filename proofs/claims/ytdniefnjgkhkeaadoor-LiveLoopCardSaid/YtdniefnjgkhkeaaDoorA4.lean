/-
  Contracts of Go functions, each walked operation by operation: swage/swagelaw17.DeadChains, swage/swagelaw17.LiveLoop.
  Conditions: as each statement says.
-/
import Derived.Test.YtdniefnjgkhkeaaDoorVf
import Derived.Test.YtdniefnjgkhkeaaDoorProg
import Derived.Test.YtdniefnjgkhkeaaDoorC1
import Derived.Test.YtdniefnjgkhkeaaDoorC2
import Derived.Test.YtdniefnjgkhkeaaDoorC3
import Derived.Test.YtdniefnjgkhkeaaDoorC4
import Derived.Test.YtdniefnjgkhkeaaDoorC5
import Derived.Test.YtdniefnjgkhkeaaDoorC6
import Derived.Test.YtdniefnjgkhkeaaDoorC7
import Derived.Test.YtdniefnjgkhkeaaDoorC8
import Derived.Test.YtdniefnjgkhkeaaDoorV2
import Derived.Test.YtdniefnjgkhkeaaDoorC9
import Derived.Test.YtdniefnjgkhkeaaDoorC10
import Derived.Test.YtdniefnjgkhkeaaDoorV3
import Derived.Test.YtdniefnjgkhkeaaDoorC11
import Derived.Test.YtdniefnjgkhkeaaDoorC12
import Derived.Test.YtdniefnjgkhkeaaDoorC13
import Derived.Test.YtdniefnjgkhkeaaDoorC14
import Derived.Test.YtdniefnjgkhkeaaDoorV4
import Derived.Test.YtdniefnjgkhkeaaDoorC15
import Derived.Test.YtdniefnjgkhkeaaDoorV5
import Derived.Test.YtdniefnjgkhkeaaDoorC16
import Derived.Test.YtdniefnjgkhkeaaDoorA1
import Derived.Test.YtdniefnjgkhkeaaDoorAu
import Derived.Test.YtdniefnjgkhkeaaDoorA2
import Derived.Test.YtdniefnjgkhkeaaDoorA3
namespace Go.Proofs.YtdniefnjgkhkeaaDoor
open Go
set_option maxRecDepth 100000
set_option linter.unusedVariables false
set_option linter.unusedSimpArgs false
theorem tcall_11 : cl Tryd.prog 11 := ⟨_, Tryd.func11, by kernel_rfl, by kernel_rfl⟩
theorem tcall_6 : cl Tryd.prog 6 := ⟨_, Tryd.func6, by kernel_rfl, by kernel_rfl⟩
def s_DeadChains_L1 (n : Nat) (read : Bool) (x10 : Int) (l22 : List Ir) (x37 : Int) (v87 : CodeD × Int) : Nat → Int → Option Bool
  | 0, _ => none
  | fu139 + 1, x138 => cond (decide (x138 < wI (2 + x10))) (andj (cond (inb x138 v87.1.code.length) (cond (decide ((nth v87.1.code x138.toNat).kind = 2) != read) (esc (some false)) (cond (!decide ((nth v87.1.code x138.toNat).cost = 1)) (esc (some false)) (some (.inl ())))) none) fun _ => s_DeadChains_L1 n read x10 l22 x37 v87 fu139 (wI (x138 + 1))) (cond (inb (wI (2 + x10)) v87.1.code.length) (cond (inb (wI (2 + x10)) (l22 ++ [(⟨8, 0, x37, 0, 0, ([] : List Int), 1, 0, 0⟩ : Ir)]).length) ((s_SameIr n (nth v87.1.code ((wI (2 + x10)).toNat)) (nth (l22 ++ [(⟨8, 0, x37, 0, 0, ([] : List Int), 1, 0, 0⟩ : Ir)]) ((wI (2 + x10)).toNat))).bind fun v187 => some v187) none) none)
def s_DeadChains_L0 (n : Nat) (read : Bool) (x10 : Int) : Nat → (List Ir) → Int → Option Bool
  | 0, _, _ => none
  | fu25 + 1, l22, x24 => cond (decide (x24 < wI (2 + x10))) (cond (room (l22.length + 1) 88) (s_DeadChains_L0 n read x10 fu25 (l22 ++ [(⟨2, wI (x24 + 1), x24, 0, 0, ([] : List Int), 1, 0, 0⟩ : Ir)]) (wI (x24 + 1))) none) (andj (cond read (some (.inl (wI (2 + x10)))) (some (.inl 0))) fun x37 => cond (room (l22.length + 1) 88) ((s_Dead n (⟨([(⟨0, 1, ([(⟨0, 1⟩ : Ins), (⟨16, 0⟩ : Ins)] : List Ins)⟩ : FuncD)] : List FuncD)⟩ : Prog) (⟨0, wI ((wI (2 + x10)) + 1), (l22 ++ [(⟨8, 0, x37, 0, 0, ([] : List Int), 1, 0, 0⟩ : Ir)]), ([] : List Meta)⟩ : CodeD)).bind fun v87 => (s_Num n v87.2).bind fun v114 => cond (!decide (v114 = 0)) (some false) (cond (!decide ((v87.1.code.length : Int) = wI ((wI (2 + x10)) + 1))) (some false) (s_DeadChains_L1 n read x10 l22 x37 v87 n 0))) none)
def s_DeadChains (n : Nat) (many : Int) (read : Bool) : Option Bool := (s_awake n ).bind fun v1 => cond (!v1) (some false) ((some (IntKind.i64.wrap ((BitVec.ofInt 64 many &&& BitVec.ofInt 64 7).toNat : Int))).bind fun x10 => s_DeadChains_L0 n read x10 n ([] : List Ir) 0)
set_option maxHeartbeats 6400000 in
theorem c_DeadChains {n : Nat}  (many : Int) (read : Bool) {r : Bool} {w : World} {M : Mem} {bs : List (Nat × Obj)} (hG : Glob M) (hs : s_DeadChains n many read = some r) (hO : Own w M (bs)) :
    Calls Tryd.prog 4 #[.int .i64 many, .bool read] w (fun e w' => ∃ M' : Mem, Mem.le M M' ∧ Own w' M' (bs) ∧ e = .returned (.bool r)) := by
 unfold s_DeadChains at hs
 refine ce (vs := [.int .i64 many, .bool read]) (n := 96) Tryd.func4 rfl rfl rfl (cq (cr (as_ hO rfl rfl (rj (et (cq (cq (cr ?_))))))))
 obtain ⟨v1, hv2, hs⟩ := bind_s hs
 refine rd' tz (oc (vs := []) tcall_6 rfl rfl (c_awake  (hG.mono (mr _)) hv2 hO) ?_)
 rintro _ w3 ⟨M4, le5, hO, rfl⟩
 refine ⟨_, rfl, ?_⟩
 have hle6 := le5
 have hO : Own _ M4 (bs) := hO
 refine ry hO rfl (yt tz rfl) (rj (et (cd rfl (fun h7 => ?_) (fun h7 => ?_))))
 ·
  replace hs := cond_t h7 hs
  have h8 : v1 = false := not_t h7
  refine cq (cr (as_ hO rfl rfl (rj (et (ct (ew' (er (.inl rfl) rfl rfl ?_)))))))
  obtain rfl := o_ hs
  exact ⟨M4, hle6, hO, rfl⟩
 replace hs := cond_f h7 hs
 have h9 : v1 = true := not_f h7
 refine cp (et (cq (cr (mv hO rfl rfl ?_))))
 obtain ⟨x10, hx11, hs⟩ := bind_s hs
 refine ry hO rfl (y_and x10 tz rfl rfl (o_ hx11)) (ry hO rfl (y_add (wI (2 + x10)) tz rfl rfl rfl) (as_ hO rfl rfl (rj (et (cq (cr (ry hO rfl (y_build [.int .i64 1] (.agg #[.int .i64 0, .int .i64 1]) tz rfl (fun _ => by kernel_rfl)) (ry hO rfl (y_build [.int .i64 16] (.agg #[.int .i64 16, .int .i64 0]) tz rfl (fun _ => by kernel_rfl)) (rd' tz (og (vs := [.agg #[.int .i64 0, .int .i64 1], .agg #[.int .i64 16, .int .i64 0]]) (cs := [.int .i64 0, .int .i64 1, .int .i64 16, .int .i64 0]) (e := 41) hO rfl rfl (fun _ => by kernel_rfl) (fun b12 w13 hO => ?_)))))))))))
 have hO : Own _ M4 ([(b12, .cells #[.int .i64 0, .int .i64 1, .int .i64 16, .int .i64 0] 41)] ++ bs) := hO
 refine ry hO rfl (y_build [.int .i64 1, .slice (some ⟨b12, 0, none⟩) 2 2] (.agg #[.int .i64 0, .int .i64 1, .slice (some ⟨b12, 0, none⟩) 2 2]) tz rfl (fun _ => by kernel_rfl)) (rd' tz (og (vs := [.agg #[.int .i64 0, .int .i64 1, .slice (some ⟨b12, 0, none⟩) 2 2]]) (cs := [.int .i64 0, .int .i64 1, .slice (some ⟨b12, 0, none⟩) 2 2]) (e := 44) hO rfl rfl (fun _ => by kernel_rfl) (fun b14 w15 hO => ?_)))
 have hO : Own _ M4 ([(b14, .cells #[.int .i64 0, .int .i64 1, .slice (some ⟨b12, 0, none⟩) 2 2] 44)] ++ ([(b12, .cells #[.int .i64 0, .int .i64 1, .int .i64 16, .int .i64 0] 41)] ++ bs)) := hO
 refine ry hO rfl (y_build [.slice (some ⟨b14, 0, none⟩) 1 1] (.agg #[.slice (some ⟨b14, 0, none⟩) 1 1]) tz rfl (fun _ => by kernel_rfl)) (rd' tz (og_alloc hO rfl tz_24 (fun b16 w17 hO => ?_)))
 have hO : Own _ M4 ([(b16, .cells #[.slice none 0 0] 24)] ++ ([(b14, .cells #[.int .i64 0, .int .i64 1, .slice (some ⟨b12, 0, none⟩) 2 2] 44)] ++ ([(b12, .cells #[.int .i64 0, .int .i64 1, .int .i64 16, .int .i64 0] 41)] ++ bs))) := hO
 refine rd' tz (og_storeS (vs := [.slice (some ⟨b14, 0, none⟩) 1 1]) hO tn_24 rfl rfl rfl (nb rfl) rfl rfl (fun w18 hO => ?_))
 have hO : Own _ M4 ([(b16, .cells #[.slice (some ⟨b14, 0, none⟩) 1 1] 24)] ++ ([(b14, .cells #[.int .i64 0, .int .i64 1, .slice (some ⟨b12, 0, none⟩) 2 2] 44)] ++ ([(b12, .cells #[.int .i64 0, .int .i64 1, .int .i64 16, .int .i64 0] 41)] ++ bs))) := hO
 refine rj (ez (E' := [(1, .bool read), (4, .bool false), (5, .int .i64 (wI (2 + x10))), (6, .pointer (some ⟨b16, 0, none⟩))]) ⟨rfl, rfl, rfl, rfl, tz⟩ (et (cq (cr (as_ hO rfl rfl (rj (et (cq (cq ?_)))))))))
 refine cr (as_ hO rfl rfl (rj (et (cb ?_))))
 have hO : Own w18 M4 ([] ++ ([(b16, .cells #[.slice (some ⟨b14, 0, none⟩) 1 1] 24)] ++ ([(b14, .cells #[.int .i64 0, .int .i64 1, .slice (some ⟨b12, 0, none⟩) 2 2] 44)] ++ ([(b12, .cells #[.int .i64 0, .int .i64 1, .int .i64 16, .int .i64 0] 41)] ++ bs)))) := hO
 refine ci (fun m27 E' w' => ∃ b19 : Option Addr, ∃ c20 : Nat, ∃ rs21 : List (Nat × Obj), ∃ l22 : List Ir, ∃ x24 : Int, E' = [(1, .bool read), (4, .bool false), (5, .int .i64 (wI (2 + x10))), (6, .pointer (some ⟨b16, 0, none⟩)), (7, .slice b19 l22.length c20), (8, .int .i64 x24)] ∧ Rw M4 rs21 b19 c20 l22 ∧ s_DeadChains_L0 n read x10 m27 l22 x24 = some r ∧ Own w' M4 (rs21 ++ ([(b16, .cells #[.slice (some ⟨b14, 0, none⟩) 1 1] 24)] ++ ([(b14, .cells #[.int .i64 0, .int .i64 1, .slice (some ⟨b12, 0, none⟩) 2 2] 44)] ++ ([(b12, .cells #[.int .i64 0, .int .i64 1, .int .i64 16, .int .i64 0] 41)] ++ bs))))) (m0 := n) ⟨none, 0, [], ([] : List Ir), 0, rfl, (Rw.nil _), hs, hO⟩ ⟨rfl, rfl, rfl, rfl, rfl, rfl, tz⟩ ?_
 rintro fu25 _ w26 ⟨b19, c20, rs21, l22, x24, rfl, r23, hs, hO⟩
 rcases fu25 with _ | fu25
 ·
  simp [s_DeadChains_L0] at hs
 rw [s_DeadChains_L0] at hs
 refine cq (cq (cr (mv hO rfl rfl (mv hO rfl rfl (ry hO rfl (yv tz rfl rfl) (rj (et (cd rfl (fun h28 => ?_) (fun h28 => ?_)))))))))
 ·
  replace hs := cond_t h28 hs
  refine cp (et (cq (cb (cr (mv hO rfl rfl (mv hO rfl rfl (ry hO rfl (y_add (wI (x24 + 1)) tz rfl rfl rfl) (mv hO rfl rfl (ry hO rfl (y_build [.int .i64 2, .int .i64 (wI (x24 + 1)), .int .i64 x24, .int .i64 1] (.agg #[.int .i64 2, .int .i64 (wI (x24 + 1)), .int .i64 x24, .int .i64 0, .int .i64 0, .slice none 0 0, .int .i64 1, .int .i64 0, .int .i64 0]) tz rfl (fun _ => by kernel_rfl)) ?_)))))))))
  refine rd' tz (og (vs := [.agg #[.int .i64 2, .int .i64 (wI (x24 + 1)), .int .i64 x24, .int .i64 0, .int .i64 0, .slice none 0 0, .int .i64 1, .int .i64 0, .int .i64 0]]) (cs := [.int .i64 2, .int .i64 (wI (x24 + 1)), .int .i64 x24, .int .i64 0, .int .i64 0, .slice none 0 0, .int .i64 1, .int .i64 0, .int .i64 0]) (e := 38) hO rfl rfl (fun _ => by kernel_rfl) (fun b29 w30 hO => ?_))
  have hO : Own _ M4 ([(b29, .cells #[.int .i64 2, .int .i64 (wI (x24 + 1)), .int .i64 x24, .int .i64 0, .int .i64 0, .slice none 0 0, .int .i64 1, .int .i64 0, .int .i64 0] 38)] ++ (rs21 ++ ([(b16, .cells #[.slice (some ⟨b14, 0, none⟩) 1 1] 24)] ++ ([(b14, .cells #[.int .i64 0, .int .i64 1, .slice (some ⟨b12, 0, none⟩) 2 2] 44)] ++ ([(b12, .cells #[.int .i64 0, .int .i64 1, .int .i64 16, .int .i64 0] 41)] ++ bs))))) := hO
  obtain ⟨hg31, hs⟩ := grd hs
  have hO := hO.front1
  have hO := hO.front1
  have hO : Own _ M4 ([(b29, .cells #[.int .i64 2, .int .i64 (wI (x24 + 1)), .int .i64 x24, .int .i64 0, .int .i64 0, .slice none 0 0, .int .i64 1, .int .i64 0, .int .i64 0] 38)] ++ (rs21 ++ ([(b16, .cells #[.slice (some ⟨b14, 0, none⟩) 1 1] 24)] ++ ([(b14, .cells #[.int .i64 0, .int .i64 1, .slice (some ⟨b12, 0, none⟩) 2 2] 44)] ++ ([(b12, .cells #[.int .i64 0, .int .i64 1, .int .i64 16, .int .i64 0] 41)] ++ bs))))) := hO
  refine rd' tz (og_append1 (α := Ir) (rs := rs21) (us := [.int .i64 2, .int .i64 (wI (x24 + 1)), .int .i64 x24, .int .i64 0, .int .i64 0, .slice none 0 0, .int .i64 1, .int .i64 0, .int .i64 0]) (x := (⟨2, wI (x24 + 1), x24, 0, 0, ([] : List Int), 1, 0, 0⟩ : Ir)) tv_25 rfl rfl hO r23 rfl rfl rfl ⟨none, 0, rfl, (RdS.nil _ _ _)⟩ (by exact room_le hg31) (by decide) (by exact room_k hg31 (by decide)) (fun rs32 b33 c34 w35 hO r36 => ?_))
  refine as_ hO rfl rfl (rj (ek' (ez (E' := [(1, .bool read), (4, .bool false), (5, .int .i64 (wI (2 + x10))), (6, .pointer (some ⟨b16, 0, none⟩)), (7, .slice b33 (((l22 ++ [(⟨2, wI (x24 + 1), x24, 0, 0, ([] : List Int), 1, 0, 0⟩ : Ir)])).length) c34), (8, .int .i64 x24)]) ⟨rfl, rfl, rfl, rfl, rfl, rfl, tz⟩ (et (cr (mv hO rfl rfl (ry hO rfl (y_add (wI (x24 + 1)) tz rfl rfl rfl) (as_ hO rfl rfl (rj ?_)))))))))
  exact eo ⟨b33, c34, rs32, (l22 ++ [(⟨2, wI (x24 + 1), x24, 0, 0, ([] : List Int), 1, 0, 0⟩ : Ir)]), wI (x24 + 1), rfl, r36, hs, hO⟩ ⟨rfl, rfl, rfl, rfl, rfl, rfl, tz⟩ (Nat.lt_succ_self _)
 replace hs := cond_f h28 hs
 refine cx (eh (eh (ej (et (cq (cr (as_ hO rfl rfl (rj (et ?_)))))))))
 refine cq ?_
 obtain ⟨o38, hs, hj40⟩ := andj_s hs
 refine cg_join (fun E' w' => ∃ x37 : Int, E' = [(1, .bool read), (4, .bool false), (5, .int .i64 (wI (2 + x10))), (6, .pointer (some ⟨b16, 0, none⟩)), (7, .slice b19 l22.length c20), (9, .int .i64 x37)] ∧ o38 = .inl x37 ∧ Own w' M4 (rs21 ++ ([(b16, .cells #[.slice (some ⟨b14, 0, none⟩) 1 1] 24)] ++ ([(b14, .cells #[.int .i64 0, .int .i64 1, .slice (some ⟨b12, 0, none⟩) 2 2] 44)] ++ ([(b12, .cells #[.int .i64 0, .int .i64 1, .int .i64 16, .int .i64 0] 41)] ++ bs))))) ?_ ?_
 ·
  refine cq (cr (mv hO rfl rfl (rj (et (cd rfl (fun h43 => ?_) (fun h43 => ?_))))))
  ·
   replace hs := cond_t h43 hs
   exact cr (mv hO rfl rfl (as_ hO rfl rfl (rj (ej' ⟨wI (2 + x10), rfl, inl_s hs, hO⟩ ⟨rfl, rfl, rfl, rfl, rfl, rfl, tz⟩))))
  replace hs := cond_f h43 hs
  exact cp (ej' ⟨0, rfl, inl_s hs, hO⟩ ⟨rfl, rfl, rfl, rfl, rfl, rfl, tz⟩)
 rintro _ w42 ⟨x37, rfl, ho41, hO⟩
 replace hs := Aft.l hj40 ho41
 try dsimp only at hs
 refine et (cq (cr (mv hO rfl rfl (mv hO rfl rfl (ry hO rfl (y_build [.int .i64 8, .int .i64 x37, .int .i64 1] (.agg #[.int .i64 8, .int .i64 0, .int .i64 x37, .int .i64 0, .int .i64 0, .slice none 0 0, .int .i64 1, .int .i64 0, .int .i64 0]) tz rfl (fun _ => by kernel_rfl)) (rd' tz (og (vs := [.agg #[.int .i64 8, .int .i64 0, .int .i64 x37, .int .i64 0, .int .i64 0, .slice none 0 0, .int .i64 1, .int .i64 0, .int .i64 0]]) (cs := [.int .i64 8, .int .i64 0, .int .i64 x37, .int .i64 0, .int .i64 0, .slice none 0 0, .int .i64 1, .int .i64 0, .int .i64 0]) (e := 38) hO rfl rfl (fun _ => by kernel_rfl) (fun b44 w45 hO => ?_))))))))
 have hO : Own _ M4 ([(b44, .cells #[.int .i64 8, .int .i64 0, .int .i64 x37, .int .i64 0, .int .i64 0, .slice none 0 0, .int .i64 1, .int .i64 0, .int .i64 0] 38)] ++ (rs21 ++ ([(b16, .cells #[.slice (some ⟨b14, 0, none⟩) 1 1] 24)] ++ ([(b14, .cells #[.int .i64 0, .int .i64 1, .slice (some ⟨b12, 0, none⟩) 2 2] 44)] ++ ([(b12, .cells #[.int .i64 0, .int .i64 1, .int .i64 16, .int .i64 0] 41)] ++ bs))))) := hO
 obtain ⟨hg46, hs⟩ := grd hs
 have hO := hO.front1
 have hO := hO.front1
 have hO : Own _ M4 ([(b44, .cells #[.int .i64 8, .int .i64 0, .int .i64 x37, .int .i64 0, .int .i64 0, .slice none 0 0, .int .i64 1, .int .i64 0, .int .i64 0] 38)] ++ (rs21 ++ ([(b16, .cells #[.slice (some ⟨b14, 0, none⟩) 1 1] 24)] ++ ([(b14, .cells #[.int .i64 0, .int .i64 1, .slice (some ⟨b12, 0, none⟩) 2 2] 44)] ++ ([(b12, .cells #[.int .i64 0, .int .i64 1, .int .i64 16, .int .i64 0] 41)] ++ bs))))) := hO
 refine rd' tz (og_append1 (α := Ir) (rs := rs21) (us := [.int .i64 8, .int .i64 0, .int .i64 x37, .int .i64 0, .int .i64 0, .slice none 0 0, .int .i64 1, .int .i64 0, .int .i64 0]) (x := (⟨8, 0, x37, 0, 0, ([] : List Int), 1, 0, 0⟩ : Ir)) tv_25 rfl rfl hO r23 rfl rfl rfl ⟨none, 0, rfl, (RdS.nil _ _ _)⟩ (by exact room_le hg46) (by decide) (by exact room_k hg46 (by decide)) (fun rs47 b48 c49 w50 hO r51 => ?_))
 refine as_ hO rfl rfl (rj (et (cq (cr (ry hO rfl (yq [.slice (some ⟨b14, 0, none⟩) 1 1] ta_24 rfl tz rfl (fun _ h => Own.cellsB (h.front1) 0 0 rfl (by intro j v e; exact rowCells (vs := [.slice (some ⟨b14, 0, none⟩) 1 1]) rfl e))) (mv hO rfl rfl (ry hO rfl (y_add (wI ((wI (2 + x10)) + 1)) tz rfl rfl rfl) (mv hO rfl rfl (ry hO rfl (y_build [.int .i64 (wI ((wI (2 + x10)) + 1)), .slice b48 (((l22 ++ [(⟨8, 0, x37, 0, 0, ([] : List Int), 1, 0, 0⟩ : Ir)])).length) c49] (.agg #[.int .i64 0, .int .i64 (wI ((wI (2 + x10)) + 1)), .slice b48 (((l22 ++ [(⟨8, 0, x37, 0, 0, ([] : List Int), 1, 0, 0⟩ : Ir)])).length) c49, .slice none 0 0]) tz rfl (fun _ => by kernel_rfl)) ?_)))))))))
 have hO := hO.front3
 obtain ⟨M52, le53, hO, hk54, hn55, hd56⟩ := Own.keeps (rs := [(b12, .cells #[.int .i64 0, .int .i64 1, .int .i64 16, .int .i64 0] 41)]) hO
 have r57 := r51.mono le53
 have r58 := r23.mono le53
 have hle59 := m_ hle6 le53
 have at60 := Has.at (vs := [.int .i64 0, .int .i64 1, .int .i64 16, .int .i64 0]) hk54 rfl
 have hO := hO.front2
 obtain ⟨M61, le62, hO, hk63, hn64, hd65⟩ := Own.keeps (rs := [(b14, .cells #[.int .i64 0, .int .i64 1, .slice (some ⟨b12, 0, none⟩) 2 2] 44)]) hO
 have r66 := r57.mono le62
 have r67 := r58.mono le62
 have hk68 := hk54.mono le62
 have at69 := at60.mono le62
 have hle70 := m_ hle59 le62
 have kl71 := m_ le53 le62
 have at72 := Has.at (vs := [.int .i64 0, .int .i64 1, .slice (some ⟨b12, 0, none⟩) 2 2]) hk63 rfl
 obtain ⟨M73, le74, hO, hk75, hn76, hd77⟩ := Own.keeps (rs := rs47) hO
 have r78 := r66.mono le74
 have r79 := r67.mono le74
 have hk80 := hk68.mono le74
 have at81 := at69.mono le74
 have hk82 := hk63.mono le74
 have at83 := at72.mono le74
 have hle84 := m_ hle70 le74
 have kl85 := m_ kl71 le74
 have kl86 := m_ le62 le74
 obtain ⟨v87, hv88, hs⟩ := bind_s hs
 refine rd' tz (oc (vs := [.agg #[.slice (some ⟨b14, 0, none⟩) 1 1], .agg #[.int .i64 0, .int .i64 (wI ((wI (2 + x10)) + 1)), .slice b48 (((l22 ++ [(⟨8, 0, x37, 0, 0, ([] : List Int), 1, 0, 0⟩ : Ir)])).length) c49, .slice none 0 0]]) tcall_7 rfl rfl (c_Dead (vs_p := [.slice (some ⟨b14, 0, none⟩) 1 1]) (⟨([(⟨0, 1, ([(⟨0, 1⟩ : Ins), (⟨16, 0⟩ : Ins)] : List Ins)⟩ : FuncD)] : List FuncD)⟩ : Prog) (vs_c := [.int .i64 0, .int .i64 (wI ((wI (2 + x10)) + 1)), .slice b48 (((l22 ++ [(⟨8, 0, x37, 0, 0, ([] : List Int), 1, 0, 0⟩ : Ir)])).length) c49, .slice none 0 0]) (⟨0, wI ((wI (2 + x10)) + 1), (l22 ++ [(⟨8, 0, x37, 0, 0, ([] : List Int), 1, 0, 0⟩ : Ir)]), ([] : List Meta)⟩ : CodeD) ⟨some ⟨b14, 0, none⟩, 1, rfl, ((Rw.lit (M := M73) (b := b14) (e := 44) (l := ([(⟨0, 1, ([(⟨0, 1⟩ : Ins), (⟨16, 0⟩ : Ins)] : List Ins)⟩ : FuncD)] : List FuncD)) (cs := [.int .i64 0, .int .i64 1, .slice (some ⟨b12, 0, none⟩) 2 2]) (RdL.cons (α := FuncD) (us := [.int .i64 0, .int .i64 1, .slice (some ⟨b12, 0, none⟩) 2 2]) (x := (⟨0, 1, ([(⟨0, 1⟩ : Ins), (⟨16, 0⟩ : Ins)] : List Ins)⟩ : FuncD)) ⟨some ⟨b12, 0, none⟩, 2, rfl, ((Rw.lit (M := M73) (b := b12) (e := 41) (l := ([(⟨0, 1⟩ : Ins), (⟨16, 0⟩ : Ins)] : List Ins)) (cs := [.int .i64 0, .int .i64 1, .int .i64 16, .int .i64 0]) (RdL.cons (α := Ins) (us := [.int .i64 0, .int .i64 1]) (x := (⟨0, 1⟩ : Ins)) rfl (RdL.cons (α := Ins) (us := [.int .i64 16, .int .i64 0]) (x := (⟨16, 0⟩ : Ins)) rfl (RdL.nil _))) (by simp [Rep.sz])).kept hk80 (mr _) : RdS M73 (some ⟨b12, 0, none⟩) 2 ([(⟨0, 1⟩ : Ins), (⟨16, 0⟩ : Ins)] : List Ins))⟩ (RdL.nil _)) (by simp [Rep.sz])).kept hk82 (mr _) : RdS M73 (some ⟨b14, 0, none⟩) 1 ([(⟨0, 1, ([(⟨0, 1⟩ : Ins), (⟨16, 0⟩ : Ins)] : List Ins)⟩ : FuncD)] : List FuncD))⟩ ⟨b48, c49, none, 0, rfl, (Rw.kept r78 hk75 (mr _)), (RdS.nil _ _ _)⟩ (hG.mono hle84) hv88 hO) ?_)
 rintro _ w89 ⟨M90, b92, c93, rs94, b96, c97, le91, hO, rfl, r95, s98⟩
 refine ⟨_, rfl, ?_⟩
 have r99 := r78.mono le91
 have r100 := r79.mono le91
 have hk101 := hk80.mono le91
 have at102 := at81.mono le91
 have hk103 := hk82.mono le91
 have at104 := at83.mono le91
 have hk105 := hk75.mono le91
 have hk106 := hk75.mono le91
 have hle107 := m_ hle84 le91
 have kl108 := m_ kl85 le91
 have kl109 := m_ kl86 le91
 have kl110 := m_ le74 le91
 have hO : Own _ M90 (rs94 ++ ([(b16, .cells #[.slice (some ⟨b14, 0, none⟩) 1 1] 24)] ++ bs)) := hO
 refine mv hO rfl rfl (ry hO rfl (yx [.agg #[.int .i64 v87.1.fn, .int .i64 v87.1.regs, .slice b92 v87.1.code.length c93, .slice b96 v87.1.metas.length c97], .int .i64 v87.2] rfl tz rfl) (ry hO rfl (yx [.agg #[.int .i64 v87.1.fn, .int .i64 v87.1.regs, .slice b92 v87.1.code.length c93, .slice b96 v87.1.metas.length c97], .int .i64 v87.2] rfl tz rfl) (rd' tz (og_alloc hO rfl tz_28 (fun b111 w112 hO => ?_)))))
 have hO : Own _ M90 ([(b111, .cells #[.int .i64 0, .int .i64 0, .slice none 0 0, .slice none 0 0] 28)] ++ (rs94 ++ ([(b16, .cells #[.slice (some ⟨b14, 0, none⟩) 1 1] 24)] ++ bs))) := hO
 refine rd' tz (og_storeS (vs := [.int .i64 v87.1.fn, .int .i64 v87.1.regs, .slice b92 v87.1.code.length c93, .slice b96 v87.1.metas.length c97]) hO tn_28 rfl rfl rfl (nb rfl) rfl rfl (fun w113 hO => ?_))
 have hO : Own _ M90 ([(b111, .cells #[.int .i64 v87.1.fn, .int .i64 v87.1.regs, .slice b92 v87.1.code.length c93, .slice b96 v87.1.metas.length c97] 28)] ++ (rs94 ++ ([(b16, .cells #[.slice (some ⟨b14, 0, none⟩) 1 1] 24)] ++ bs))) := hO
 refine as_ hO rfl rfl (rj (ez (E' := [(1, .bool read), (4, .bool false), (5, .int .i64 (wI (2 + x10))), (7, .slice b48 (((l22 ++ [(⟨8, 0, x37, 0, 0, ([] : List Int), 1, 0, 0⟩ : Ir)])).length) c49), (10, .pointer (some ⟨b111, 0, none⟩)), (11, .int .i64 v87.2)]) ⟨rfl, rfl, rfl, rfl, rfl, rfl, tz⟩ (et (cq (cq (cr (mv hO rfl rfl ?_)))))))
 obtain ⟨v114, hv115, hs⟩ := bind_s hs
 refine rd' tz (oc (vs := [.int .i64 v87.2]) tcall_8 rfl rfl (c_Num v87.2  hv115 hO) ?_)
 rintro _ w116 ⟨M117, le118, hO, rfl⟩
 refine ⟨_, rfl, ?_⟩
 have r119 := r99.mono le118
 have r120 := r95.mono le118
 have s121 := s98.mono le118
 have hk122 := hk101.mono le118
 have at123 := at102.mono le118
 have hk124 := hk103.mono le118
 have at125 := at104.mono le118
 have hk126 := hk105.mono le118
 have hk127 := hk106.mono le118
 have hle128 := m_ hle107 le118
 have kl129 := m_ kl108 le118
 have kl130 := m_ kl109 le118
 have kl131 := m_ kl110 le118
 have hO : Own _ M117 ([(b111, .cells #[.int .i64 v87.1.fn, .int .i64 v87.1.regs, .slice b92 v87.1.code.length c93, .slice b96 v87.1.metas.length c97] 28)] ++ (rs94 ++ ([(b16, .cells #[.slice (some ⟨b14, 0, none⟩) 1 1] 24)] ++ bs))) := hO
 refine ry hO rfl (y_ne tz rfl rfl) (mv hO rfl rfl ?_)
 rcases bt (!decide (v114 = 0)) with h132 | h132
 ·
  replace hs := cond_t h132 hs
  have h133 : (decide (v114 = 0)) = false := not_t h132
  refine ry hO rfl (ek (by rw [h132]; rfl)) (ry hO rfl (ek (by rw [h132]; rfl)) (ry hO rfl (ek (by rw [h132]; rfl)) (ry hO rfl (ek (by rw [h132]; rfl)) (ry hO rfl (ek (by rw [h132]; rfl)) (ry hO rfl (ek (by rw [h132]; rfl)) (ry hO rfl (pt tz (by rw [h132]; rfl) rfl) (rj (ez (E' := [(1, .bool read), (4, .bool false), (5, .int .i64 (wI (2 + x10))), (7, .slice b48 (((l22 ++ [(⟨8, 0, x37, 0, 0, ([] : List Int), 1, 0, 0⟩ : Ir)])).length) c49), (10, .pointer (some ⟨b111, 0, none⟩)), (62, .bool true)]) ⟨rfl, rfl, rfl, rfl, rfl, rfl, tz⟩ (et ?_)))))))))
  refine cv rfl (cq (cr (as_ hO rfl rfl (rj (et (ct (ew' (er (.inl rfl) rfl rfl ?_))))))))
  have hO := hO.forget
  have hO := hO.forget
  have hO := hO.forget
  obtain rfl := o_ hs
  exact ⟨M117, hle128, hO, rfl⟩
 replace hs := cond_f h132 hs
 have h134 : (decide (v114 = 0)) = true := not_f h132
 refine ry hO rfl (yf 2 tf_28_2 rfl (by rw [h132]; rfl) rfl) (ry hO rfl (yl tl_25 (by rw [h132]; rfl) rfl (fun _ h => ob h 0 2 rfl rfl)) (ry hO rfl (y_len ts_25 (by rw [h132]; rfl) rfl) (ry hO rfl (ym (by rw [h132]; rfl) rfl) (ry hO rfl (y_add (wI ((wI (2 + x10)) + 1)) (by rw [h132]; rfl) rfl rfl rfl) (ry hO rfl (y_ne (by rw [h132]; rfl) rfl rfl) (ry hO rfl (pf tz (by rw [h132]; rfl) rfl) (rj (ez (E' := [(1, .bool read), (4, .bool false), (5, .int .i64 (wI (2 + x10))), (7, .slice b48 (((l22 ++ [(⟨8, 0, x37, 0, 0, ([] : List Int), 1, 0, 0⟩ : Ir)])).length) c49), (10, .pointer (some ⟨b111, 0, none⟩)), (62, .bool (!decide ((v87.1.code.length : Int) = wI ((wI (2 + x10)) + 1))))]) ⟨rfl, rfl, rfl, rfl, rfl, rfl, tz⟩ (et ?_)))))))))
 refine cd rfl (fun h135 => ?_) (fun h135 => ?_)
 ·
  replace hs := cond_t h135 hs
  have h136 : (decide ((v87.1.code.length : Int) = wI ((wI (2 + x10)) + 1))) = false := not_t h135
  refine cq (cr (as_ hO rfl rfl (rj (et (ct (ew' (er (.inl rfl) rfl rfl ?_)))))))
  have hO := hO.forget
  have hO := hO.forget
  have hO := hO.forget
  obtain rfl := o_ hs
  exact ⟨M117, hle128, hO, rfl⟩
 replace hs := cond_f h135 hs
 have h137 : (decide ((v87.1.code.length : Int) = wI ((wI (2 + x10)) + 1))) = true := not_f h135
 refine cp (et (cq (cq (cr (as_ hO rfl rfl (rj (et (cb (ci (fun m141 E' w' => ∃ x138 : Int, E' = [(1, .bool read), (4, .bool false), (5, .int .i64 (wI (2 + x10))), (7, .slice b48 (((l22 ++ [(⟨8, 0, x37, 0, 0, ([] : List Int), 1, 0, 0⟩ : Ir)])).length) c49), (10, .pointer (some ⟨b111, 0, none⟩)), (12, .int .i64 x138)] ∧ s_DeadChains_L1 n read x10 l22 x37 v87 m141 x138 = some r ∧ Own w' M117 ([(b111, .cells #[.int .i64 v87.1.fn, .int .i64 v87.1.regs, .slice b92 v87.1.code.length c93, .slice b96 v87.1.metas.length c97] 28)] ++ (rs94 ++ ([(b16, .cells #[.slice (some ⟨b14, 0, none⟩) 1 1] 24)] ++ bs)))) (m0 := n) ⟨0, rfl, hs, hO⟩ ⟨rfl, rfl, rfl, rfl, rfl, rfl, tz⟩ ?_)))))))))
 rintro fu139 _ w140 ⟨x138, rfl, hs, hO⟩
 rcases fu139 with _ | fu139
 ·
  simp [s_DeadChains_L1] at hs
 rw [s_DeadChains_L1] at hs
 refine cq (cq (cr (mv hO rfl rfl (mv hO rfl rfl (ry hO rfl (yv tz rfl rfl) (rj (et (cd rfl (fun h142 => ?_) (fun h142 => ?_)))))))))
 ·
  replace hs := cond_t h142 hs
  refine cp (et (cq ?_))
  obtain ⟨o143, hs, hj145⟩ := andj_s hs
  refine cg_join (fun E' w' => E' = [(1, .bool read), (4, .bool false), (5, .int .i64 (wI (2 + x10))), (7, .slice b48 (((l22 ++ [(⟨8, 0, x37, 0, 0, ([] : List Int), 1, 0, 0⟩ : Ir)])).length) c49), (10, .pointer (some ⟨b111, 0, none⟩)), (12, .int .i64 x138)] ∧ o143 = .inl () ∧ Own w' M117 ([(b111, .cells #[.int .i64 v87.1.fn, .int .i64 v87.1.regs, .slice b92 v87.1.code.length c93, .slice b96 v87.1.metas.length c97] 28)] ++ (rs94 ++ ([(b16, .cells #[.slice (some ⟨b14, 0, none⟩) 1 1] 24)] ++ bs)))) ?_ ?_
  ·
   refine cb (cq (cr (fb 2 tf_28_2 rfl hO rfl rfl (ry hO rfl (yl tl_25 tz rfl (fun _ h => ob h 0 2 rfl rfl)) (mv hO rfl rfl ?_)))))
   obtain ⟨hg148, hs⟩ := grd hs
   obtain ⟨b149, o150, rfl⟩ := Rw.ofs r120 (i := x138.toNat) (by exact ib hg148)
   have hO : Own w140 M117 ([(b111, .cells #[.int .i64 v87.1.fn, .int .i64 v87.1.regs, .slice (some ⟨b149, o150, none⟩) v87.1.code.length c93, .slice b96 v87.1.metas.length c97] 28)] ++ (rs94 ++ ([(b16, .cells #[.slice (some ⟨b14, 0, none⟩) 1 1] 24)] ++ bs))) := by assumption
   refine ry hO rfl (yi ts_25 tz rfl rfl (by exact inb_0 hg148) (by exact inb_lt hg148)) (fa tf_38_0 hO rfl rfl ?_)
   obtain ⟨vs151, hr152, hc153⟩ := Rw.cells (t := [(b111, .cells #[.int .i64 v87.1.fn, .int .i64 v87.1.regs, .slice (some ⟨b149, o150, none⟩) v87.1.code.length c93, .slice b96 v87.1.metas.length c97] 28)] ++ ([(b16, .cells #[.slice (some ⟨b14, 0, none⟩) 1 1] 24)] ++ bs)) r120 x138.toNat (by exact ib hg148)
   obtain ⟨b154, c155, rfl, s156⟩ := hr152
   refine ry hO rfl (yl tl_3 tz rfl (fun w h => hc153 w (h.front1) 0 _ rfl)) (ry hO rfl (ye tz rfl rfl) (mv hO rfl rfl (ry hO rfl (y_bneq tu_4 tz rfl rfl) (mv hO rfl rfl ?_))))
   rcases bt (decide ((nth v87.1.code x138.toNat).kind = 2) != read) with h157 | h157
   ·
    replace hs := cond_t h157 hs
    refine ry hO rfl (ek (by rw [h157]; rfl)) (ry hO rfl (ek (by rw [h157]; rfl)) (ry hO rfl (ek (by rw [h157]; rfl)) (ry hO rfl (ek (by rw [h157]; rfl)) (ry hO rfl (ek (by rw [h157]; rfl)) (ry hO rfl (ek (by rw [h157]; rfl)) (ry hO rfl (ek (by rw [h157]; rfl)) (ry hO rfl (pt tz (by rw [h157]; rfl) rfl) (rj (ez (E' := [(1, .bool read), (4, .bool false), (5, .int .i64 (wI (2 + x10))), (7, .slice b48 (((l22 ++ [(⟨8, 0, x37, 0, 0, ([] : List Int), 1, 0, 0⟩ : Ir)])).length) c49), (10, .pointer (some ⟨b111, 0, none⟩)), (12, .int .i64 x138), (85, .bool true)]) ⟨rfl, rfl, rfl, rfl, rfl, rfl, rfl, tz⟩ ?_)))))))))
    refine et (cv rfl (cq (cr (as_ hO rfl rfl (rj (et (ct (eg (ew' ?_)))))))))
    refine ew' (ew' (eg (ew' ?_)))
    replace hs := esc_s hs hj145
    refine er (.inl rfl) rfl rfl ?_
    have hO := hO.forget
    have hO := hO.forget
    have hO := hO.forget
    obtain rfl := o_ hs
    exact ⟨M117, hle128, hO, rfl⟩
   replace hs := cond_f h157 hs
   refine ry hO rfl (yf 2 tf_28_2 rfl (by rw [h157]; rfl) rfl) (ry hO rfl (yl tl_25 (by rw [h157]; rfl) rfl (fun _ h => ob h 0 2 rfl rfl)) (ry hO rfl (ym (by rw [h157]; rfl) rfl) (ry hO rfl (yi ts_25 (by rw [h157]; rfl) rfl rfl (by exact inb_0 hg148) (by exact inb_lt hg148)) (ry hO rfl (ya tf_38_6 (by rw [h157]; rfl) rfl) ?_))))
   obtain ⟨vs158, hr159, hc160⟩ := Rw.cells (t := [(b111, .cells #[.int .i64 v87.1.fn, .int .i64 v87.1.regs, .slice (some ⟨b149, o150, none⟩) v87.1.code.length c93, .slice b96 v87.1.metas.length c97] 28)] ++ ([(b16, .cells #[.slice (some ⟨b14, 0, none⟩) 1 1] 24)] ++ bs)) r120 x138.toNat (by exact ib hg148)
   obtain ⟨b161, c162, rfl, s163⟩ := hr159
   refine ry hO rfl (yl tl_3 (by rw [h157]; rfl) rfl (fun w h => hc160 w (h.front1) 6 _ rfl)) (ry hO rfl (y_ne (by rw [h157]; rfl) rfl rfl) (ry hO rfl (pf tz (by rw [h157]; rfl) rfl) (rj (ez (E' := [(1, .bool read), (4, .bool false), (5, .int .i64 (wI (2 + x10))), (7, .slice b48 (((l22 ++ [(⟨8, 0, x37, 0, 0, ([] : List Int), 1, 0, 0⟩ : Ir)])).length) c49), (10, .pointer (some ⟨b111, 0, none⟩)), (12, .int .i64 x138), (85, .bool (!decide ((nth v87.1.code x138.toNat).cost = 1)))]) ⟨rfl, rfl, rfl, rfl, rfl, rfl, rfl, tz⟩ (et (cd rfl (fun h164 => ?_) (fun h164 => ?_)))))))
   ·
    replace hs := cond_t h164 hs
    have h165 : (decide ((nth v87.1.code x138.toNat).cost = 1)) = false := not_t h164
    refine cq (cr (as_ hO rfl rfl (rj (et (ct (eg (ew' (ew' (ew' ?_)))))))))
    refine eg (ew' ?_)
    replace hs := esc_s hs hj145
    refine er (.inl rfl) rfl rfl ?_
    have hO := hO.forget
    have hO := hO.forget
    have hO := hO.forget
    obtain rfl := o_ hs
    exact ⟨M117, hle128, hO, rfl⟩
   replace hs := cond_f h164 hs
   have h166 : (decide ((nth v87.1.code x138.toNat).cost = 1)) = true := not_f h164
   exact cp (ek' (ej' ⟨rfl, inl_s hs, hO⟩ ⟨rfl, rfl, rfl, rfl, rfl, rfl, tz⟩))
  rintro _ w147 ⟨rfl, ho146, hO⟩
  replace hs := Aft.l hj145 ho146
  try dsimp only at hs
  exact et (cr (mv hO rfl rfl (ry hO rfl (y_add (wI (x138 + 1)) tz rfl rfl rfl) (as_ hO rfl rfl (rj (eo ⟨wI (x138 + 1), rfl, hs, hO⟩ ⟨rfl, rfl, rfl, rfl, rfl, rfl, tz⟩ (Nat.lt_succ_self _)))))))
 replace hs := cond_f h142 hs
 refine cx (eh (eh (ej (et (cq ?_)))))
 obtain ⟨w167, hO, ew168⟩ : ∃ w', Own w' M117 ([(b111, .cells #[.int .i64 v87.1.fn, .int .i64 v87.1.regs, .slice b92 v87.1.code.length c93, .slice b96 v87.1.metas.length c97] 28)] ++ (rs94 ++ ([(b16, .cells #[.slice (some ⟨b14, 0, none⟩) 1 1] 24)] ++ bs))) ∧ { w140 with drawn := w140.drawn + 1 } = w' := ⟨_, hO.drawn _, rfl⟩
 refine cw (S := fun w => Own w M117 ([(b111, .cells #[.int .i64 v87.1.fn, .int .i64 v87.1.regs, .slice b92 v87.1.code.length c93, .slice b96 v87.1.metas.length c97] 28)] ++ (rs94 ++ ([(b16, .cells #[.slice (some ⟨b14, 0, none⟩) 1 1] 24)] ++ bs)))) (.take 0 (.take 1 (.take 2 (.take 3 (.take 4 (.take 5 (.take 6 (.take 7 (.take 8 (.one 9 (.take 10 .done))))))))))) 11 tm (by kernel_rfl) ew168 hO (hfb 2 tf_28_2 rfl rfl rfl (fun _ _ _ h => h) rfl (gy rfl rfl (fun _ _ _ h => h) (yl tl_25 tz rfl (fun _ h => ob h 0 2 rfl rfl)) (hm rfl rfl (fun _ _ _ h => h) rfl ?_)))
 obtain ⟨hg169, hs⟩ := grd hs
 obtain ⟨b170, o171, rfl⟩ := Rw.ofs r120 (i := (wI (2 + x10)).toNat) (by exact ib hg169)
 have hO : Own w167 M117 ([(b111, .cells #[.int .i64 v87.1.fn, .int .i64 v87.1.regs, .slice (some ⟨b170, o171, none⟩) v87.1.code.length c93, .slice b96 v87.1.metas.length c97] 28)] ++ (rs94 ++ ([(b16, .cells #[.slice (some ⟨b14, 0, none⟩) 1 1] 24)] ++ bs))) := by assumption
 refine gy rfl rfl (fun _ _ _ h => h) (yi ts_25 tz rfl rfl (by exact inb_0 hg169) (by exact inb_lt hg169)) ?_
 obtain ⟨vs172, hr173, hc174⟩ := Rw.cells (t := [(b111, .cells #[.int .i64 v87.1.fn, .int .i64 v87.1.regs, .slice (some ⟨b170, o171, none⟩) v87.1.code.length c93, .slice b96 v87.1.metas.length c97] 28)] ++ ([(b16, .cells #[.slice (some ⟨b14, 0, none⟩) 1 1] 24)] ++ bs)) r120 ((wI (2 + x10)).toNat) (by exact ib hg169)
 obtain ⟨b175, c176, rfl, s177⟩ := hr173
 refine gy rfl rfl (fun _ _ _ h => h) (yq [.int .i64 ((nth v87.1.code ((wI (2 + x10)).toNat)).kind), .int .i64 ((nth v87.1.code ((wI (2 + x10)).toNat)).r), .int .i64 ((nth v87.1.code ((wI (2 + x10)).toNat)).a), .int .i64 ((nth v87.1.code ((wI (2 + x10)).toNat)).b), .int .i64 ((nth v87.1.code ((wI (2 + x10)).toNat)).k), .slice b175 (((nth v87.1.code ((wI (2 + x10)).toNat)).args).length) c176, .int .i64 ((nth v87.1.code ((wI (2 + x10)).toNat)).cost), .int .i64 ((nth v87.1.code ((wI (2 + x10)).toNat)).mt), .int .i64 ((nth v87.1.code ((wI (2 + x10)).toNat)).pc)] ta_38 rfl tz rfl (fun w h j v e => hc174 w (h.front1) j v e)) (hm rfl rfl (fun _ _ _ h => h) rfl (hm rfl rfl (fun _ _ _ h => h) rfl ?_))
 obtain ⟨hg178, hs⟩ := grd hs
 have s179 := Rw.kept r119 hk126 (mr _)
 obtain ⟨p180, rfl, _⟩ := RdS.get s179 ((wI (2 + x10)).toNat) (by exact ib hg178)
 have hO : Own w167 M117 ([(b111, .cells #[.int .i64 v87.1.fn, .int .i64 v87.1.regs, .slice (some ⟨b170, o171, none⟩) v87.1.code.length c93, .slice b96 v87.1.metas.length c97] 28)] ++ (rs94 ++ ([(b16, .cells #[.slice (some ⟨b14, 0, none⟩) 1 1] 24)] ++ bs))) := by assumption
 have s182 := Rw.kept r119 hk126 (mr _)
 have q181 : PAt M117 (p180.add (((wI (2 + x10)).toNat) * 9)) (nth (l22 ++ [(⟨8, 0, x37, 0, 0, ([] : List Int), 1, 0, 0⟩ : Ir)]) ((wI (2 + x10)).toNat)) := RdS.at s182 ((wI (2 + x10)).toNat) (by exact ib hg178)
 refine gy rfl rfl (fun _ _ _ h => h) (yi ts_25 tz rfl rfl (by exact inb_0 hg178) (by exact inb_lt hg178)) ?_
 obtain ⟨_, at186, b183, c184, rfl, s185⟩ := id q181
 refine gy rfl rfl (fun _ _ _ h => h) (yq [.int .i64 ((nth (l22 ++ [(⟨8, 0, x37, 0, 0, ([] : List Int), 1, 0, 0⟩ : Ir)]) ((wI (2 + x10)).toNat)).kind), .int .i64 ((nth (l22 ++ [(⟨8, 0, x37, 0, 0, ([] : List Int), 1, 0, 0⟩ : Ir)]) ((wI (2 + x10)).toNat)).r), .int .i64 ((nth (l22 ++ [(⟨8, 0, x37, 0, 0, ([] : List Int), 1, 0, 0⟩ : Ir)]) ((wI (2 + x10)).toNat)).a), .int .i64 ((nth (l22 ++ [(⟨8, 0, x37, 0, 0, ([] : List Int), 1, 0, 0⟩ : Ir)]) ((wI (2 + x10)).toNat)).b), .int .i64 ((nth (l22 ++ [(⟨8, 0, x37, 0, 0, ([] : List Int), 1, 0, 0⟩ : Ir)]) ((wI (2 + x10)).toNat)).k), .slice b183 (((nth (l22 ++ [(⟨8, 0, x37, 0, 0, ([] : List Int), 1, 0, 0⟩ : Ir)]) ((wI (2 + x10)).toNat)).args).length) c184, .int .i64 ((nth (l22 ++ [(⟨8, 0, x37, 0, 0, ([] : List Int), 1, 0, 0⟩ : Ir)]) ((wI (2 + x10)).toNat)).cost), .int .i64 ((nth (l22 ++ [(⟨8, 0, x37, 0, 0, ([] : List Int), 1, 0, 0⟩ : Ir)]) ((wI (2 + x10)).toNat)).mt), .int .i64 ((nth (l22 ++ [(⟨8, 0, x37, 0, 0, ([] : List Int), 1, 0, 0⟩ : Ir)]) ((wI (2 + x10)).toNat)).pc)] ta_38 rfl tz rfl (fun _ h j _ e => at186.cell h j e)) ?_
 obtain ⟨v187, hv188, hs⟩ := bind_s hs
 refine hn' rfl tz (oc (vs := [.agg #[.int .i64 ((nth v87.1.code ((wI (2 + x10)).toNat)).kind), .int .i64 ((nth v87.1.code ((wI (2 + x10)).toNat)).r), .int .i64 ((nth v87.1.code ((wI (2 + x10)).toNat)).a), .int .i64 ((nth v87.1.code ((wI (2 + x10)).toNat)).b), .int .i64 ((nth v87.1.code ((wI (2 + x10)).toNat)).k), .slice b175 (((nth v87.1.code ((wI (2 + x10)).toNat)).args).length) c176, .int .i64 ((nth v87.1.code ((wI (2 + x10)).toNat)).cost), .int .i64 ((nth v87.1.code ((wI (2 + x10)).toNat)).mt), .int .i64 ((nth v87.1.code ((wI (2 + x10)).toNat)).pc)], .agg #[.int .i64 ((nth (l22 ++ [(⟨8, 0, x37, 0, 0, ([] : List Int), 1, 0, 0⟩ : Ir)]) ((wI (2 + x10)).toNat)).kind), .int .i64 ((nth (l22 ++ [(⟨8, 0, x37, 0, 0, ([] : List Int), 1, 0, 0⟩ : Ir)]) ((wI (2 + x10)).toNat)).r), .int .i64 ((nth (l22 ++ [(⟨8, 0, x37, 0, 0, ([] : List Int), 1, 0, 0⟩ : Ir)]) ((wI (2 + x10)).toNat)).a), .int .i64 ((nth (l22 ++ [(⟨8, 0, x37, 0, 0, ([] : List Int), 1, 0, 0⟩ : Ir)]) ((wI (2 + x10)).toNat)).b), .int .i64 ((nth (l22 ++ [(⟨8, 0, x37, 0, 0, ([] : List Int), 1, 0, 0⟩ : Ir)]) ((wI (2 + x10)).toNat)).k), .slice b183 (((nth (l22 ++ [(⟨8, 0, x37, 0, 0, ([] : List Int), 1, 0, 0⟩ : Ir)]) ((wI (2 + x10)).toNat)).args).length) c184, .int .i64 ((nth (l22 ++ [(⟨8, 0, x37, 0, 0, ([] : List Int), 1, 0, 0⟩ : Ir)]) ((wI (2 + x10)).toNat)).cost), .int .i64 ((nth (l22 ++ [(⟨8, 0, x37, 0, 0, ([] : List Int), 1, 0, 0⟩ : Ir)]) ((wI (2 + x10)).toNat)).mt), .int .i64 ((nth (l22 ++ [(⟨8, 0, x37, 0, 0, ([] : List Int), 1, 0, 0⟩ : Ir)]) ((wI (2 + x10)).toNat)).pc)]]) tcall_11 rfl rfl (c_SameIr (vs_a := [.int .i64 ((nth v87.1.code ((wI (2 + x10)).toNat)).kind), .int .i64 ((nth v87.1.code ((wI (2 + x10)).toNat)).r), .int .i64 ((nth v87.1.code ((wI (2 + x10)).toNat)).a), .int .i64 ((nth v87.1.code ((wI (2 + x10)).toNat)).b), .int .i64 ((nth v87.1.code ((wI (2 + x10)).toNat)).k), .slice b175 (((nth v87.1.code ((wI (2 + x10)).toNat)).args).length) c176, .int .i64 ((nth v87.1.code ((wI (2 + x10)).toNat)).cost), .int .i64 ((nth v87.1.code ((wI (2 + x10)).toNat)).mt), .int .i64 ((nth v87.1.code ((wI (2 + x10)).toNat)).pc)]) (nth v87.1.code ((wI (2 + x10)).toNat)) (vs_b := [.int .i64 ((nth (l22 ++ [(⟨8, 0, x37, 0, 0, ([] : List Int), 1, 0, 0⟩ : Ir)]) ((wI (2 + x10)).toNat)).kind), .int .i64 ((nth (l22 ++ [(⟨8, 0, x37, 0, 0, ([] : List Int), 1, 0, 0⟩ : Ir)]) ((wI (2 + x10)).toNat)).r), .int .i64 ((nth (l22 ++ [(⟨8, 0, x37, 0, 0, ([] : List Int), 1, 0, 0⟩ : Ir)]) ((wI (2 + x10)).toNat)).a), .int .i64 ((nth (l22 ++ [(⟨8, 0, x37, 0, 0, ([] : List Int), 1, 0, 0⟩ : Ir)]) ((wI (2 + x10)).toNat)).b), .int .i64 ((nth (l22 ++ [(⟨8, 0, x37, 0, 0, ([] : List Int), 1, 0, 0⟩ : Ir)]) ((wI (2 + x10)).toNat)).k), .slice b183 (((nth (l22 ++ [(⟨8, 0, x37, 0, 0, ([] : List Int), 1, 0, 0⟩ : Ir)]) ((wI (2 + x10)).toNat)).args).length) c184, .int .i64 ((nth (l22 ++ [(⟨8, 0, x37, 0, 0, ([] : List Int), 1, 0, 0⟩ : Ir)]) ((wI (2 + x10)).toNat)).cost), .int .i64 ((nth (l22 ++ [(⟨8, 0, x37, 0, 0, ([] : List Int), 1, 0, 0⟩ : Ir)]) ((wI (2 + x10)).toNat)).mt), .int .i64 ((nth (l22 ++ [(⟨8, 0, x37, 0, 0, ([] : List Int), 1, 0, 0⟩ : Ir)]) ((wI (2 + x10)).toNat)).pc)]) (nth (l22 ++ [(⟨8, 0, x37, 0, 0, ([] : List Int), 1, 0, 0⟩ : Ir)]) ((wI (2 + x10)).toNat)) ⟨b175, c176, rfl, s177⟩ ⟨b183, c184, rfl, s185⟩ hv188 hO) ?_)
 rintro _ w189 ⟨M190, le191, hO, rfl⟩
 refine ⟨_, rfl, ?_⟩
 have hO := hO.less le191
 have hO : Own _ M117 ([(b111, .cells #[.int .i64 v87.1.fn, .int .i64 v87.1.regs, .slice (some ⟨b170, o171, none⟩) v87.1.code.length c93, .slice b96 v87.1.metas.length c97] 28)] ++ (rs94 ++ ([(b16, .cells #[.slice (some ⟨b14, 0, none⟩) 1 1] 24)] ++ bs))) := hO
 refine kg_s hO (ha rfl rfl (fun _ _ _ h => h) rfl (gd (ez (E' := [(4, .bool v187)]) ⟨rfl, tz⟩ (et (ct (er (.inl rfl) rfl rfl ?_))))))
 have hO := hO.forget
 have hO := hO.forget
 have hO := hO.forget
 obtain rfl := o_ hs
 exact ⟨M117, hle128, hO, rfl⟩

def s_LiveLoop_L1 (n : Nat) (v83 : (List (List Bool)) × Int) : Nat → Int → Option Bool
  | 0, _ => none
  | fu129 + 1, x127 => cond (decide (x127 < (v83.1.length : Int))) (cond (inb x127 v83.1.length) ((s_SameBools n (nth v83.1 x127.toNat) ([false, true, false] : List Bool)).bind fun v175 => cond (!v175) (some false) (s_LiveLoop_L1 n v83 fu129 (wI (x127 + 1)))) none) (some true)
def s_LiveLoop_L0 (n : Nat) (x10 : Int) : Nat → (List Ir) → Int → Option Bool
  | 0, _, _ => none
  | fu28 + 1, l25, x27 => cond (decide (x27 < wI (1 + x10))) (cond (room (l25.length + 1) 88) (s_LiveLoop_L0 n x10 fu28 (l25 ++ [(⟨0, 0, 0, 0, 0, ([] : List Int), 0, 0, 0⟩ : Ir)]) (wI (x27 + 1))) none) (cond (room (l25.length + 1) 88) ((s_Live n (⟨([(⟨0, 1, ([(⟨0, 1⟩ : Ins), (⟨16, 0⟩ : Ins)] : List Ins)⟩ : FuncD)] : List FuncD)⟩ : Prog) (⟨0, 3, (l25 ++ [(⟨4, 0, 0, 0, 0, ([] : List Int), 1, 0, 0⟩ : Ir)]), ([] : List Meta)⟩ : CodeD)).bind fun v83 => (s_Num n v83.2).bind fun v104 => cond (!decide (v104 = 0)) (some false) (cond (!decide ((v83.1.length : Int) = wI ((wI (1 + x10)) + 2))) (some false) (s_LiveLoop_L1 n v83 n 0))) none)
def s_LiveLoop (n : Nat) (pad : Int) : Option Bool := (s_awake n ).bind fun v1 => cond (!v1) (some false) ((some (IntKind.i64.wrap ((BitVec.ofInt 64 pad &&& BitVec.ofInt 64 15).toNat : Int))).bind fun x10 => s_LiveLoop_L0 n x10 n ([(⟨7, 0, 1, 0, 0, ([] : List Int), 1, 0, 0⟩ : Ir)] : List Ir) 0)
set_option maxHeartbeats 6400000 in
theorem c_LiveLoop {n : Nat}  (pad : Int) {r : Bool} {w : World} {M : Mem} {bs : List (Nat × Obj)} (hG : Glob M) (hs : s_LiveLoop n pad = some r) (hO : Own w M (bs)) :
    Calls Tryd.prog 5 #[.int .i64 pad] w (fun e w' => ∃ M' : Mem, Mem.le M M' ∧ Own w' M' (bs) ∧ e = .returned (.bool r)) := by
 unfold s_LiveLoop at hs
 refine ce (vs := [.int .i64 pad]) (n := 66) Tryd.func5 rfl rfl rfl (cq (cr (as_ hO rfl rfl (rj (et (cq (cq (cr ?_))))))))
 obtain ⟨v1, hv2, hs⟩ := bind_s hs
 refine rd' tz (oc (vs := []) tcall_6 rfl rfl (c_awake  (hG.mono (mr _)) hv2 hO) ?_)
 rintro _ w3 ⟨M4, le5, hO, rfl⟩
 refine ⟨_, rfl, ?_⟩
 have hle6 := le5
 have hO : Own _ M4 (bs) := hO
 refine ry hO rfl (yt tz rfl) (rj (et (cd rfl (fun h7 => ?_) (fun h7 => ?_))))
 ·
  replace hs := cond_t h7 hs
  have h8 : v1 = false := not_t h7
  refine cq (cr (as_ hO rfl rfl (rj (et (ct (ew' (er (.inl rfl) rfl rfl ?_)))))))
  obtain rfl := o_ hs
  exact ⟨M4, hle6, hO, rfl⟩
 replace hs := cond_f h7 hs
 have h9 : v1 = true := not_f h7
 refine cp (et (cq (cr (mv hO rfl rfl ?_))))
 obtain ⟨x10, hx11, hs⟩ := bind_s hs
 refine ry hO rfl (y_and x10 tz rfl rfl (o_ hx11)) (ry hO rfl (y_add (wI (1 + x10)) tz rfl rfl rfl) (as_ hO rfl rfl (rj (et (cq (cr (ry hO rfl (y_build [.int .i64 1] (.agg #[.int .i64 0, .int .i64 1]) tz rfl (fun _ => by kernel_rfl)) (ry hO rfl (y_build [.int .i64 16] (.agg #[.int .i64 16, .int .i64 0]) tz rfl (fun _ => by kernel_rfl)) (rd' tz (og (vs := [.agg #[.int .i64 0, .int .i64 1], .agg #[.int .i64 16, .int .i64 0]]) (cs := [.int .i64 0, .int .i64 1, .int .i64 16, .int .i64 0]) (e := 41) hO rfl rfl (fun _ => by kernel_rfl) (fun b12 w13 hO => ?_)))))))))))
 have hO : Own _ M4 ([(b12, .cells #[.int .i64 0, .int .i64 1, .int .i64 16, .int .i64 0] 41)] ++ bs) := hO
 refine ry hO rfl (y_build [.int .i64 1, .slice (some ⟨b12, 0, none⟩) 2 2] (.agg #[.int .i64 0, .int .i64 1, .slice (some ⟨b12, 0, none⟩) 2 2]) tz rfl (fun _ => by kernel_rfl)) (rd' tz (og (vs := [.agg #[.int .i64 0, .int .i64 1, .slice (some ⟨b12, 0, none⟩) 2 2]]) (cs := [.int .i64 0, .int .i64 1, .slice (some ⟨b12, 0, none⟩) 2 2]) (e := 44) hO rfl rfl (fun _ => by kernel_rfl) (fun b14 w15 hO => ?_)))
 have hO : Own _ M4 ([(b14, .cells #[.int .i64 0, .int .i64 1, .slice (some ⟨b12, 0, none⟩) 2 2] 44)] ++ ([(b12, .cells #[.int .i64 0, .int .i64 1, .int .i64 16, .int .i64 0] 41)] ++ bs)) := hO
 refine ry hO rfl (y_build [.slice (some ⟨b14, 0, none⟩) 1 1] (.agg #[.slice (some ⟨b14, 0, none⟩) 1 1]) tz rfl (fun _ => by kernel_rfl)) (rd' tz (og_alloc hO rfl tz_24 (fun b16 w17 hO => ?_)))
 have hO : Own _ M4 ([(b16, .cells #[.slice none 0 0] 24)] ++ ([(b14, .cells #[.int .i64 0, .int .i64 1, .slice (some ⟨b12, 0, none⟩) 2 2] 44)] ++ ([(b12, .cells #[.int .i64 0, .int .i64 1, .int .i64 16, .int .i64 0] 41)] ++ bs))) := hO
 refine rd' tz (og_storeS (vs := [.slice (some ⟨b14, 0, none⟩) 1 1]) hO tn_24 rfl rfl rfl (nb rfl) rfl rfl (fun w18 hO => ?_))
 have hO : Own _ M4 ([(b16, .cells #[.slice (some ⟨b14, 0, none⟩) 1 1] 24)] ++ ([(b14, .cells #[.int .i64 0, .int .i64 1, .slice (some ⟨b12, 0, none⟩) 2 2] 44)] ++ ([(b12, .cells #[.int .i64 0, .int .i64 1, .int .i64 16, .int .i64 0] 41)] ++ bs))) := hO
 refine rj (ez (E' := [(2, .bool false), (3, .int .i64 (wI (1 + x10))), (4, .pointer (some ⟨b16, 0, none⟩))]) ⟨rfl, rfl, rfl, tz⟩ (et (cq (cr (ry hO rfl (y_build [.int .i64 7, .int .i64 1, .int .i64 1] (.agg #[.int .i64 7, .int .i64 0, .int .i64 1, .int .i64 0, .int .i64 0, .slice none 0 0, .int .i64 1, .int .i64 0, .int .i64 0]) tz rfl (fun _ => by kernel_rfl)) (rd' tz (og (vs := [.agg #[.int .i64 7, .int .i64 0, .int .i64 1, .int .i64 0, .int .i64 0, .slice none 0 0, .int .i64 1, .int .i64 0, .int .i64 0]]) (cs := [.int .i64 7, .int .i64 0, .int .i64 1, .int .i64 0, .int .i64 0, .slice none 0 0, .int .i64 1, .int .i64 0, .int .i64 0]) (e := 38) hO rfl rfl (fun _ => by kernel_rfl) (fun b19 w20 hO => ?_))))))))
 have hO : Own _ M4 ([(b19, .cells #[.int .i64 7, .int .i64 0, .int .i64 1, .int .i64 0, .int .i64 0, .slice none 0 0, .int .i64 1, .int .i64 0, .int .i64 0] 38)] ++ ([(b16, .cells #[.slice (some ⟨b14, 0, none⟩) 1 1] 24)] ++ ([(b14, .cells #[.int .i64 0, .int .i64 1, .slice (some ⟨b12, 0, none⟩) 2 2] 44)] ++ ([(b12, .cells #[.int .i64 0, .int .i64 1, .int .i64 16, .int .i64 0] 41)] ++ bs)))) := hO
 refine as_ hO rfl rfl (rj (et (cq (cq (cr (as_ hO rfl rfl (rj (et (cb ?_)))))))))
 have r21 : Rw M4 [(b19, .cells #[.int .i64 7, .int .i64 0, .int .i64 1, .int .i64 0, .int .i64 0, .slice none 0 0, .int .i64 1, .int .i64 0, .int .i64 0] 38)] (some ⟨b19, 0, none⟩) 1 ([(⟨7, 0, 1, 0, 0, ([] : List Int), 1, 0, 0⟩ : Ir)] : List Ir) := Rw.lit (cs := [.int .i64 7, .int .i64 0, .int .i64 1, .int .i64 0, .int .i64 0, .slice none 0 0, .int .i64 1, .int .i64 0, .int .i64 0]) (RdL.cons (α := Ir) (us := [.int .i64 7, .int .i64 0, .int .i64 1, .int .i64 0, .int .i64 0, .slice none 0 0, .int .i64 1, .int .i64 0, .int .i64 0]) (x := (⟨7, 0, 1, 0, 0, ([] : List Int), 1, 0, 0⟩ : Ir)) ⟨none, 0, rfl, (RdS.nil _ _ _)⟩ (RdL.nil _)) (by simp [Rep.sz])
 refine ci (fun m30 E' w' => ∃ b22 : Option Addr, ∃ c23 : Nat, ∃ rs24 : List (Nat × Obj), ∃ l25 : List Ir, ∃ x27 : Int, E' = [(2, .bool false), (3, .int .i64 (wI (1 + x10))), (4, .pointer (some ⟨b16, 0, none⟩)), (5, .slice b22 l25.length c23), (6, .int .i64 x27)] ∧ Rw M4 rs24 b22 c23 l25 ∧ s_LiveLoop_L0 n x10 m30 l25 x27 = some r ∧ Own w' M4 (rs24 ++ ([(b16, .cells #[.slice (some ⟨b14, 0, none⟩) 1 1] 24)] ++ ([(b14, .cells #[.int .i64 0, .int .i64 1, .slice (some ⟨b12, 0, none⟩) 2 2] 44)] ++ ([(b12, .cells #[.int .i64 0, .int .i64 1, .int .i64 16, .int .i64 0] 41)] ++ bs))))) (m0 := n) ⟨some ⟨b19, 0, none⟩, 1, [(b19, .cells #[.int .i64 7, .int .i64 0, .int .i64 1, .int .i64 0, .int .i64 0, .slice none 0 0, .int .i64 1, .int .i64 0, .int .i64 0] 38)], ([(⟨7, 0, 1, 0, 0, ([] : List Int), 1, 0, 0⟩ : Ir)] : List Ir), 0, rfl, r21, hs, hO⟩ ⟨rfl, rfl, rfl, rfl, rfl, tz⟩ ?_
 rintro fu28 _ w29 ⟨b22, c23, rs24, l25, x27, rfl, r26, hs, hO⟩
 rcases fu28 with _ | fu28
 ·
  simp [s_LiveLoop_L0] at hs
 rw [s_LiveLoop_L0] at hs
 refine cq (cq (cr (mv hO rfl rfl (mv hO rfl rfl (ry hO rfl (yv tz rfl rfl) (rj (et (cd rfl (fun h31 => ?_) (fun h31 => ?_)))))))))
 ·
  replace hs := cond_t h31 hs
  refine cp (et (cq (cb (cr (mv hO rfl rfl (ry hO rfl (y_build [] (.agg #[.int .i64 0, .int .i64 0, .int .i64 0, .int .i64 0, .int .i64 0, .slice none 0 0, .int .i64 0, .int .i64 0, .int .i64 0]) tz rfl (fun _ => by kernel_rfl)) (rd' tz (og (vs := [.agg #[.int .i64 0, .int .i64 0, .int .i64 0, .int .i64 0, .int .i64 0, .slice none 0 0, .int .i64 0, .int .i64 0, .int .i64 0]]) (cs := [.int .i64 0, .int .i64 0, .int .i64 0, .int .i64 0, .int .i64 0, .slice none 0 0, .int .i64 0, .int .i64 0, .int .i64 0]) (e := 38) hO rfl rfl (fun _ => by kernel_rfl) (fun b32 w33 hO => ?_)))))))))
  have hO : Own _ M4 ([(b32, .cells #[.int .i64 0, .int .i64 0, .int .i64 0, .int .i64 0, .int .i64 0, .slice none 0 0, .int .i64 0, .int .i64 0, .int .i64 0] 38)] ++ (rs24 ++ ([(b16, .cells #[.slice (some ⟨b14, 0, none⟩) 1 1] 24)] ++ ([(b14, .cells #[.int .i64 0, .int .i64 1, .slice (some ⟨b12, 0, none⟩) 2 2] 44)] ++ ([(b12, .cells #[.int .i64 0, .int .i64 1, .int .i64 16, .int .i64 0] 41)] ++ bs))))) := hO
  obtain ⟨hg34, hs⟩ := grd hs
  have hO := hO.front1
  have hO := hO.front1
  have hO : Own _ M4 ([(b32, .cells #[.int .i64 0, .int .i64 0, .int .i64 0, .int .i64 0, .int .i64 0, .slice none 0 0, .int .i64 0, .int .i64 0, .int .i64 0] 38)] ++ (rs24 ++ ([(b16, .cells #[.slice (some ⟨b14, 0, none⟩) 1 1] 24)] ++ ([(b14, .cells #[.int .i64 0, .int .i64 1, .slice (some ⟨b12, 0, none⟩) 2 2] 44)] ++ ([(b12, .cells #[.int .i64 0, .int .i64 1, .int .i64 16, .int .i64 0] 41)] ++ bs))))) := hO
  refine rd' tz (og_append1 (α := Ir) (rs := rs24) (us := [.int .i64 0, .int .i64 0, .int .i64 0, .int .i64 0, .int .i64 0, .slice none 0 0, .int .i64 0, .int .i64 0, .int .i64 0]) (x := (⟨0, 0, 0, 0, 0, ([] : List Int), 0, 0, 0⟩ : Ir)) tv_25 rfl rfl hO r26 rfl rfl rfl ⟨none, 0, rfl, (RdS.nil _ _ _)⟩ (by exact room_le hg34) (by decide) (by exact room_k hg34 (by decide)) (fun rs35 b36 c37 w38 hO r39 => ?_))
  exact as_ hO rfl rfl (rj (ek' (et (cr (mv hO rfl rfl (ry hO rfl (y_add (wI (x27 + 1)) tz rfl rfl rfl) (as_ hO rfl rfl (rj (eo ⟨b36, c37, rs35, (l25 ++ [(⟨0, 0, 0, 0, 0, ([] : List Int), 0, 0, 0⟩ : Ir)]), wI (x27 + 1), rfl, r39, hs, hO⟩ ⟨rfl, rfl, rfl, rfl, rfl, tz⟩ (Nat.lt_succ_self _))))))))))
 replace hs := cond_f h31 hs
 refine cx (eh (eh (ej (et (cq (cr (mv hO rfl rfl (ry hO rfl (y_build [.int .i64 4, .int .i64 0, .int .i64 1] (.agg #[.int .i64 4, .int .i64 0, .int .i64 0, .int .i64 0, .int .i64 0, .slice none 0 0, .int .i64 1, .int .i64 0, .int .i64 0]) tz rfl (fun _ => by kernel_rfl)) (rd' tz (og (vs := [.agg #[.int .i64 4, .int .i64 0, .int .i64 0, .int .i64 0, .int .i64 0, .slice none 0 0, .int .i64 1, .int .i64 0, .int .i64 0]]) (cs := [.int .i64 4, .int .i64 0, .int .i64 0, .int .i64 0, .int .i64 0, .slice none 0 0, .int .i64 1, .int .i64 0, .int .i64 0]) (e := 38) hO rfl rfl (fun _ => by kernel_rfl) (fun b40 w41 hO => ?_)))))))))))
 have hO : Own _ M4 ([(b40, .cells #[.int .i64 4, .int .i64 0, .int .i64 0, .int .i64 0, .int .i64 0, .slice none 0 0, .int .i64 1, .int .i64 0, .int .i64 0] 38)] ++ (rs24 ++ ([(b16, .cells #[.slice (some ⟨b14, 0, none⟩) 1 1] 24)] ++ ([(b14, .cells #[.int .i64 0, .int .i64 1, .slice (some ⟨b12, 0, none⟩) 2 2] 44)] ++ ([(b12, .cells #[.int .i64 0, .int .i64 1, .int .i64 16, .int .i64 0] 41)] ++ bs))))) := hO
 obtain ⟨hg42, hs⟩ := grd hs
 have hO := hO.front1
 have hO := hO.front1
 have hO : Own _ M4 ([(b40, .cells #[.int .i64 4, .int .i64 0, .int .i64 0, .int .i64 0, .int .i64 0, .slice none 0 0, .int .i64 1, .int .i64 0, .int .i64 0] 38)] ++ (rs24 ++ ([(b16, .cells #[.slice (some ⟨b14, 0, none⟩) 1 1] 24)] ++ ([(b14, .cells #[.int .i64 0, .int .i64 1, .slice (some ⟨b12, 0, none⟩) 2 2] 44)] ++ ([(b12, .cells #[.int .i64 0, .int .i64 1, .int .i64 16, .int .i64 0] 41)] ++ bs))))) := hO
 refine rd' tz (og_append1 (α := Ir) (rs := rs24) (us := [.int .i64 4, .int .i64 0, .int .i64 0, .int .i64 0, .int .i64 0, .slice none 0 0, .int .i64 1, .int .i64 0, .int .i64 0]) (x := (⟨4, 0, 0, 0, 0, ([] : List Int), 1, 0, 0⟩ : Ir)) tv_25 rfl rfl hO r26 rfl rfl rfl ⟨none, 0, rfl, (RdS.nil _ _ _)⟩ (by exact room_le hg42) (by decide) (by exact room_k hg42 (by decide)) (fun rs43 b44 c45 w46 hO r47 => ?_))
 refine as_ hO rfl rfl (rj (et (cq (cr (ry hO rfl (yq [.slice (some ⟨b14, 0, none⟩) 1 1] ta_24 rfl tz rfl (fun _ h => Own.cellsB (h.front1) 0 0 rfl (by intro j v e; exact rowCells (vs := [.slice (some ⟨b14, 0, none⟩) 1 1]) rfl e))) (mv hO rfl rfl (ry hO rfl (y_build [.int .i64 3, .slice b44 (((l25 ++ [(⟨4, 0, 0, 0, 0, ([] : List Int), 1, 0, 0⟩ : Ir)])).length) c45] (.agg #[.int .i64 0, .int .i64 3, .slice b44 (((l25 ++ [(⟨4, 0, 0, 0, 0, ([] : List Int), 1, 0, 0⟩ : Ir)])).length) c45, .slice none 0 0]) tz rfl (fun _ => by kernel_rfl)) ?_)))))))
 have hO := hO.front3
 obtain ⟨M48, le49, hO, hk50, hn51, hd52⟩ := Own.keeps (rs := [(b12, .cells #[.int .i64 0, .int .i64 1, .int .i64 16, .int .i64 0] 41)]) hO
 have r53 := r47.mono le49
 have r54 := r26.mono le49
 have hle55 := m_ hle6 le49
 have at56 := Has.at (vs := [.int .i64 0, .int .i64 1, .int .i64 16, .int .i64 0]) hk50 rfl
 have hO := hO.front2
 obtain ⟨M57, le58, hO, hk59, hn60, hd61⟩ := Own.keeps (rs := [(b14, .cells #[.int .i64 0, .int .i64 1, .slice (some ⟨b12, 0, none⟩) 2 2] 44)]) hO
 have r62 := r53.mono le58
 have r63 := r54.mono le58
 have hk64 := hk50.mono le58
 have at65 := at56.mono le58
 have hle66 := m_ hle55 le58
 have kl67 := m_ le49 le58
 have at68 := Has.at (vs := [.int .i64 0, .int .i64 1, .slice (some ⟨b12, 0, none⟩) 2 2]) hk59 rfl
 obtain ⟨M69, le70, hO, hk71, hn72, hd73⟩ := Own.keeps (rs := rs43) hO
 have r74 := r62.mono le70
 have r75 := r63.mono le70
 have hk76 := hk64.mono le70
 have at77 := at65.mono le70
 have hk78 := hk59.mono le70
 have at79 := at68.mono le70
 have hle80 := m_ hle66 le70
 have kl81 := m_ kl67 le70
 have kl82 := m_ le58 le70
 obtain ⟨v83, hv84, hs⟩ := bind_s hs
 refine rd' tz (oc (vs := [.agg #[.slice (some ⟨b14, 0, none⟩) 1 1], .agg #[.int .i64 0, .int .i64 3, .slice b44 (((l25 ++ [(⟨4, 0, 0, 0, 0, ([] : List Int), 1, 0, 0⟩ : Ir)])).length) c45, .slice none 0 0]]) tcall_12 rfl rfl (c_Live (vs_p := [.slice (some ⟨b14, 0, none⟩) 1 1]) (⟨([(⟨0, 1, ([(⟨0, 1⟩ : Ins), (⟨16, 0⟩ : Ins)] : List Ins)⟩ : FuncD)] : List FuncD)⟩ : Prog) (vs_c := [.int .i64 0, .int .i64 3, .slice b44 (((l25 ++ [(⟨4, 0, 0, 0, 0, ([] : List Int), 1, 0, 0⟩ : Ir)])).length) c45, .slice none 0 0]) (⟨0, 3, (l25 ++ [(⟨4, 0, 0, 0, 0, ([] : List Int), 1, 0, 0⟩ : Ir)]), ([] : List Meta)⟩ : CodeD) ⟨some ⟨b14, 0, none⟩, 1, rfl, ((Rw.lit (M := M69) (b := b14) (e := 44) (l := ([(⟨0, 1, ([(⟨0, 1⟩ : Ins), (⟨16, 0⟩ : Ins)] : List Ins)⟩ : FuncD)] : List FuncD)) (cs := [.int .i64 0, .int .i64 1, .slice (some ⟨b12, 0, none⟩) 2 2]) (RdL.cons (α := FuncD) (us := [.int .i64 0, .int .i64 1, .slice (some ⟨b12, 0, none⟩) 2 2]) (x := (⟨0, 1, ([(⟨0, 1⟩ : Ins), (⟨16, 0⟩ : Ins)] : List Ins)⟩ : FuncD)) ⟨some ⟨b12, 0, none⟩, 2, rfl, ((Rw.lit (M := M69) (b := b12) (e := 41) (l := ([(⟨0, 1⟩ : Ins), (⟨16, 0⟩ : Ins)] : List Ins)) (cs := [.int .i64 0, .int .i64 1, .int .i64 16, .int .i64 0]) (RdL.cons (α := Ins) (us := [.int .i64 0, .int .i64 1]) (x := (⟨0, 1⟩ : Ins)) rfl (RdL.cons (α := Ins) (us := [.int .i64 16, .int .i64 0]) (x := (⟨16, 0⟩ : Ins)) rfl (RdL.nil _))) (by simp [Rep.sz])).kept hk76 (mr _) : RdS M69 (some ⟨b12, 0, none⟩) 2 ([(⟨0, 1⟩ : Ins), (⟨16, 0⟩ : Ins)] : List Ins))⟩ (RdL.nil _)) (by simp [Rep.sz])).kept hk78 (mr _) : RdS M69 (some ⟨b14, 0, none⟩) 1 ([(⟨0, 1, ([(⟨0, 1⟩ : Ins), (⟨16, 0⟩ : Ins)] : List Ins)⟩ : FuncD)] : List FuncD))⟩ ⟨b44, c45, none, 0, rfl, (Rw.kept r74 hk71 (mr _)), (RdS.nil _ _ _)⟩ (hG.mono hle80) hv84 hO) ?_)
 rintro _ w85 ⟨M86, b88, c89, rs90, le87, hO, rfl, r91⟩
 refine ⟨_, rfl, ?_⟩
 have r92 := r74.mono le87
 have r93 := r75.mono le87
 have hk94 := hk76.mono le87
 have at95 := at77.mono le87
 have hk96 := hk78.mono le87
 have at97 := at79.mono le87
 have hk98 := hk71.mono le87
 have hk99 := hk71.mono le87
 have hle100 := m_ hle80 le87
 have kl101 := m_ kl81 le87
 have kl102 := m_ kl82 le87
 have kl103 := m_ le70 le87
 have hO : Own _ M86 (rs90 ++ ([(b16, .cells #[.slice (some ⟨b14, 0, none⟩) 1 1] 24)] ++ bs)) := hO
 refine mv hO rfl rfl (ry hO rfl (yx [.slice b88 v83.1.length c89, .int .i64 v83.2] rfl tz rfl) (ry hO rfl (yx [.slice b88 v83.1.length c89, .int .i64 v83.2] rfl tz rfl) (as_ hO rfl rfl (as_ hO rfl rfl (rj (ez (E' := [(2, .bool false), (3, .int .i64 (wI (1 + x10))), (7, .slice b88 v83.1.length c89), (8, .int .i64 v83.2)]) ⟨rfl, rfl, rfl, rfl, tz⟩ (et (cq (cq ?_)))))))))
 refine cr (mv hO rfl rfl ?_)
 obtain ⟨v104, hv105, hs⟩ := bind_s hs
 refine rd' tz (oc (vs := [.int .i64 v83.2]) tcall_8 rfl rfl (c_Num v83.2  hv105 hO) ?_)
 rintro _ w106 ⟨M107, le108, hO, rfl⟩
 refine ⟨_, rfl, ?_⟩
 have r109 := r91.mono le108
 have hk110 := hk94.mono le108
 have at111 := at95.mono le108
 have hk112 := hk96.mono le108
 have at113 := at97.mono le108
 have hk114 := hk98.mono le108
 have hk115 := hk99.mono le108
 have hle116 := m_ hle100 le108
 have kl117 := m_ kl101 le108
 have kl118 := m_ kl102 le108
 have kl119 := m_ kl103 le108
 have hO : Own _ M107 (rs90 ++ ([(b16, .cells #[.slice (some ⟨b14, 0, none⟩) 1 1] 24)] ++ bs)) := hO
 refine ry hO rfl (y_ne tz rfl rfl) (mv hO rfl rfl ?_)
 rcases bt (!decide (v104 = 0)) with h120 | h120
 ·
  replace hs := cond_t h120 hs
  have h121 : (decide (v104 = 0)) = false := not_t h120
  refine ry hO rfl (ek (by rw [h120]; rfl)) (ry hO rfl (ek (by rw [h120]; rfl)) (ry hO rfl (ek (by rw [h120]; rfl)) (ry hO rfl (ek (by rw [h120]; rfl)) (ry hO rfl (ek (by rw [h120]; rfl)) (ry hO rfl (pt tz (by rw [h120]; rfl) rfl) (rj (ez (E' := [(2, .bool false), (7, .slice b88 v83.1.length c89), (52, .bool true)]) ⟨rfl, rfl, rfl, tz⟩ (et (cv rfl ?_)))))))))
  refine cq (cr (as_ hO rfl rfl (rj (et (ct (ew' (er (.inl rfl) rfl rfl ?_)))))))
  have hO := hO.forget
  have hO := hO.forget
  obtain rfl := o_ hs
  exact ⟨M107, hle116, hO, rfl⟩
 replace hs := cond_f h120 hs
 have h122 : (decide (v104 = 0)) = true := not_f h120
 refine ry hO rfl (ym (by rw [h120]; rfl) rfl) (ry hO rfl (y_len ts_46 (by rw [h120]; rfl) rfl) (ry hO rfl (ym (by rw [h120]; rfl) rfl) (ry hO rfl (y_add (wI ((wI (1 + x10)) + 2)) (by rw [h120]; rfl) rfl rfl rfl) (ry hO rfl (y_ne (by rw [h120]; rfl) rfl rfl) (ry hO rfl (pf tz (by rw [h120]; rfl) rfl) (rj (ez (E' := [(2, .bool false), (7, .slice b88 v83.1.length c89), (52, .bool (!decide ((v83.1.length : Int) = wI ((wI (1 + x10)) + 2))))]) ⟨rfl, rfl, rfl, tz⟩ (et (cd rfl (fun h123 => ?_) (fun h123 => ?_))))))))))
 ·
  replace hs := cond_t h123 hs
  have h124 : (decide ((v83.1.length : Int) = wI ((wI (1 + x10)) + 2))) = false := not_t h123
  refine cq (cr (as_ hO rfl rfl (rj (et (ct (ew' (er (.inl rfl) rfl rfl ?_)))))))
  have hO := hO.forget
  have hO := hO.forget
  obtain rfl := o_ hs
  exact ⟨M107, hle116, hO, rfl⟩
 replace hs := cond_f h123 hs
 have h125 : (decide ((v83.1.length : Int) = wI ((wI (1 + x10)) + 2))) = true := not_f h123
 refine cp (et (cq (cq (cr (as_ hO rfl rfl (rj (et (cb (ci (fun m131 E' w' => ∃ Mi126 : Mem, ∃ x127 : Int, E' = [(2, .bool false), (7, .slice b88 v83.1.length c89), (9, .int .i64 x127)] ∧ Mem.le M107 Mi126 ∧ s_LiveLoop_L1 n v83 m131 x127 = some r ∧ Own w' Mi126 (rs90 ++ ([(b16, .cells #[.slice (some ⟨b14, 0, none⟩) 1 1] 24)] ++ bs))) (m0 := n) ⟨M107, 0, rfl, (mr _), hs, hO⟩ ⟨rfl, rfl, rfl, tz⟩ ?_)))))))))
 rintro fu129 _ w130 ⟨Mi126, x127, rfl, le128, hs, hO⟩
 rcases fu129 with _ | fu129
 ·
  simp [s_LiveLoop_L1] at hs
 rw [s_LiveLoop_L1] at hs
 have r132 := r109.mono le128
 have hk133 := hk110.mono le128
 have at134 := at111.mono le128
 have hk135 := hk112.mono le128
 have at136 := at113.mono le128
 have hk137 := hk114.mono le128
 have hk138 := hk115.mono le128
 have hle139 := m_ hle116 le128
 have kl140 := m_ kl117 le128
 have kl141 := m_ kl118 le128
 have kl142 := m_ kl119 le128
 refine cq (cq (cr (mv hO rfl rfl (mv hO rfl rfl (ln ts_46 hO rfl rfl (ry hO rfl (yv tz rfl rfl) (rj (et (cd rfl (fun h143 => ?_) (fun h143 => ?_))))))))))
 ·
  replace hs := cond_t h143 hs
  refine cp (et (cq (cb (cq (cr (mv hO rfl rfl (mv hO rfl rfl ?_)))))))
  obtain ⟨hg144, hs⟩ := grd hs
  obtain ⟨b145, o146, rfl⟩ := Rw.ofs r132 (i := x127.toNat) (by exact ib hg144)
  have hO : Own w130 Mi126 (rs90 ++ ([(b16, .cells #[.slice (some ⟨b14, 0, none⟩) 1 1] 24)] ++ bs)) := by assumption
  refine ry hO rfl (yi ts_46 tz rfl rfl (by exact inb_0 hg144) (by exact inb_lt hg144)) ?_
  obtain ⟨vs147, hr148, hc149⟩ := Rw.cells (t := [(b16, .cells #[.slice (some ⟨b14, 0, none⟩) 1 1] 24)] ++ bs) r132 x127.toNat (by exact ib hg144)
  obtain ⟨b150, c151, rfl, s152⟩ := hr148
  refine ry hO rfl (yl tl_50 tz rfl (fun w h => hc149 w h 0 _ rfl)) (rd' tz (og (vs := [.bool false, .bool true, .bool false]) (cs := [.bool false, .bool true, .bool false]) (e := 4) hO rfl rfl (fun _ => by kernel_rfl) (fun b153 w154 hO => ?_)))
  have hO : Own _ Mi126 ([(b153, .cells #[.bool false, .bool true, .bool false] 4)] ++ (rs90 ++ ([(b16, .cells #[.slice (some ⟨b14, 0, none⟩) 1 1] 24)] ++ bs))) := hO
  obtain ⟨M155, le156, hO, hk157, hn158, hd159⟩ := Own.keeps (rs := [(b153, .cells #[.bool false, .bool true, .bool false] 4)]) hO
  have r160 := r132.mono le156
  have s161 := s152.mono le156
  have hk162 := hk133.mono le156
  have at163 := at134.mono le156
  have hk164 := hk135.mono le156
  have at165 := at136.mono le156
  have hk166 := hk137.mono le156
  have hk167 := hk138.mono le156
  have hle168 := m_ hle139 le156
  have ch169 := m_ le128 le156
  have kl170 := m_ kl140 le156
  have kl171 := m_ kl141 le156
  have kl172 := m_ kl142 le156
  have at173 := Has.at (vs := [.bool false, .bool true, .bool false]) hk157 rfl
  have s174 : RdS M155 (some ⟨b153, 0, none⟩) 3 ([false, true, false] : List Bool) := (Rw.lit (M := M155) (b := b153) (e := 4) (cs := [.bool false, .bool true, .bool false]) (RdL.cons (α := Bool) (us := [.bool false]) (x := false) rfl (RdL.cons (α := Bool) (us := [.bool true]) (x := true) rfl (RdL.cons (α := Bool) (us := [.bool false]) (x := false) rfl (RdL.nil _)))) (by simp [Rep.sz])).kept hk157 (mr _)
  obtain ⟨v175, hv176, hs⟩ := bind_s hs
  refine rd' tz (oc (vs := [.slice b150 (((nth v83.1 x127.toNat)).length) c151, .slice (some ⟨b153, 0, none⟩) 3 3]) tcall_13 rfl rfl (c_SameBools (nth v83.1 x127.toNat) ([false, true, false] : List Bool) s161 s174 hv176 hO) ?_)
  rintro _ w177 ⟨M178, le179, hO, rfl⟩
  refine ⟨_, rfl, ?_⟩
  have r180 := r160.mono le179
  have s181 := s161.mono le179
  have hk182 := hk162.mono le179
  have at183 := at163.mono le179
  have hk184 := hk164.mono le179
  have at185 := at165.mono le179
  have hk186 := hk166.mono le179
  have hk187 := hk167.mono le179
  have hk188 := hk157.mono le179
  have at189 := at173.mono le179
  have hle190 := m_ hle168 le179
  have ch191 := m_ ch169 le179
  have kl192 := m_ kl170 le179
  have kl193 := m_ kl171 le179
  have kl194 := m_ kl172 le179
  have kl195 := m_ le156 le179
  have hO : Own _ M178 (rs90 ++ ([(b16, .cells #[.slice (some ⟨b14, 0, none⟩) 1 1] 24)] ++ bs)) := hO
  refine ry hO rfl (yt tz rfl) (rj (ez (E' := [(2, .bool false), (7, .slice (some ⟨b145, o146, none⟩) v83.1.length c89), (9, .int .i64 x127), (65, .bool (!v175))]) ⟨rfl, rfl, rfl, rfl, tz⟩ (et (cd rfl (fun h196 => ?_) (fun h196 => ?_)))))
  ·
   replace hs := cond_t h196 hs
   have h197 : v175 = false := not_t h196
   refine cq (cr (as_ hO rfl rfl (rj (et (ct (eg (ew' (ew' (eg ?_)))))))))
   refine ew' (er (.inl rfl) rfl rfl ?_)
   have hO := hO.forget
   have hO := hO.forget
   obtain rfl := o_ hs
   exact ⟨M178, hle190, hO, rfl⟩
  replace hs := cond_f h196 hs
  have h198 : v175 = true := not_f h196
  exact cp (ek' (et (cr (mv hO rfl rfl (ry hO rfl (y_add (wI (x127 + 1)) tz rfl rfl rfl) (as_ hO rfl rfl (rj (eo ⟨M178, wI (x127 + 1), rfl, ch191, hs, hO⟩ ⟨rfl, rfl, rfl, tz⟩ (Nat.lt_succ_self _)))))))))
 replace hs := cond_f h143 hs
 refine cx (eh (eh (ej (et (cq (cr (as_ hO rfl rfl (rj (et ?_)))))))))
 refine ct (er (.inl rfl) rfl rfl ?_)
 have hO := hO.forget
 have hO := hO.forget
 obtain rfl := o_ hs
 exact ⟨Mi126, hle139, hO, rfl⟩

end Go.Proofs.YtdniefnjgkhkeaaDoor
