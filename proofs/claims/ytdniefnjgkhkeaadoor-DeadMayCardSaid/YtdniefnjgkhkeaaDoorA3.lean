/-
  Contracts of Go functions, each walked operation by operation: swage/swagelaw17.awake.
  Conditions: as each statement says.
-/
import Derived.Test.YtdniefnjgkhkeaaDoorVf
import Derived.Test.YtdniefnjgkhkeaaDoorProg
import Derived.Test.YtdniefnjgkhkeaaDoorC1
import Derived.Test.YtdniefnjgkhkeaaDoorC2
import Derived.Test.YtdniefnjgkhkeaaDoorC3
import Derived.Test.YtdniefnjgkhkeaaDoorC4
import Derived.Test.YtdniefnjgkhkeaaDoorC5
import Derived.Test.YtdniefnjgkhkeaaDoorC6
import Derived.Test.YtdniefnjgkhkeaaDoorC7
import Derived.Test.YtdniefnjgkhkeaaDoorC8
import Derived.Test.YtdniefnjgkhkeaaDoorV2
import Derived.Test.YtdniefnjgkhkeaaDoorC9
import Derived.Test.YtdniefnjgkhkeaaDoorC10
import Derived.Test.YtdniefnjgkhkeaaDoorV3
import Derived.Test.YtdniefnjgkhkeaaDoorC11
import Derived.Test.YtdniefnjgkhkeaaDoorC12
import Derived.Test.YtdniefnjgkhkeaaDoorC13
import Derived.Test.YtdniefnjgkhkeaaDoorC14
import Derived.Test.YtdniefnjgkhkeaaDoorV4
import Derived.Test.YtdniefnjgkhkeaaDoorC15
import Derived.Test.YtdniefnjgkhkeaaDoorV5
import Derived.Test.YtdniefnjgkhkeaaDoorC16
import Derived.Test.YtdniefnjgkhkeaaDoorA1
import Derived.Test.YtdniefnjgkhkeaaDoorAu
import Derived.Test.YtdniefnjgkhkeaaDoorA2
namespace Go.Proofs.YtdniefnjgkhkeaaDoor
open Go
set_option maxRecDepth 100000
set_option linter.unusedVariables false
set_option linter.unusedSimpArgs false
theorem tcall_12 : cl Tryd.prog 12 := ⟨_, Tryd.func12, by kernel_rfl, by kernel_rfl⟩
theorem tcall_13 : cl Tryd.prog 13 := ⟨_, Tryd.func13, by kernel_rfl, by kernel_rfl⟩
theorem tcall_7 : cl Tryd.prog 7 := ⟨_, Tryd.func7, by kernel_rfl, by kernel_rfl⟩
theorem tcall_8 : cl Tryd.prog 8 := ⟨_, Tryd.func8, by kernel_rfl, by kernel_rfl⟩
theorem tn_24 : (Tryd.prog.info? 24).map (·.size) = some 1 := by kernel_rfl
theorem tz_24 : zeroOf Tryd.prog 24 = some (.agg #[.slice none 0 0]) := by kernel_rfl
def s_awake (n : Nat)  : Option Bool := (s_Dead n (⟨([(⟨0, 1, ([(⟨0, 1⟩ : Ins), (⟨16, 0⟩ : Ins)] : List Ins)⟩ : FuncD)] : List FuncD)⟩ : Prog) (⟨0, 4, ([(⟨1, 1, 0, 0, 3, ([] : List Int), 1, 0, 0⟩ : Ir), (⟨2, 2, 1, 0, 0, ([] : List Int), 1, 0, 0⟩ : Ir), (⟨3, 3, 0, 0, 6, ([] : List Int), 1, 0, 0⟩ : Ir), (⟨8, 0, 0, 0, 0, ([] : List Int), 1, 0, 0⟩ : Ir)] : List Ir), ([] : List Meta)⟩ : CodeD)).bind fun v43 => (s_Live n (⟨([(⟨0, 1, ([(⟨0, 1⟩ : Ins), (⟨16, 0⟩ : Ins)] : List Ins)⟩ : FuncD)] : List FuncD)⟩ : Prog) (⟨0, 4, ([(⟨1, 1, 0, 0, 3, ([] : List Int), 1, 0, 0⟩ : Ir), (⟨2, 2, 1, 0, 0, ([] : List Int), 1, 0, 0⟩ : Ir), (⟨3, 3, 0, 0, 6, ([] : List Int), 1, 0, 0⟩ : Ir), (⟨8, 0, 0, 0, 0, ([] : List Int), 1, 0, 0⟩ : Ir)] : List Ir), ([] : List Meta)⟩ : CodeD)).bind fun v68 => (s_Dead n (⟨([(⟨0, 1, ([(⟨0, 1⟩ : Ins), (⟨16, 0⟩ : Ins)] : List Ins)⟩ : FuncD)] : List FuncD)⟩ : Prog) (⟨0, 0, ([] : List Ir), ([] : List Meta)⟩ : CodeD)).bind fun v89 => cond (!decide ((v43.1.code.length : Int) = 4)) (some false) (cond (!decide ((v68.1.length : Int) = 4)) (some false) ((s_Num n v43.2).bind fun v123 => cond (decide (v123 = 0)) ((s_Num n v68.2).bind fun v144 => cond (decide (v144 = 0)) ((s_Num n v89.2).bind fun v165 => cond (decide (v165 = 1700)) (cond (inb 0 v43.1.code.length) (cond (decide ((nth v43.1.code 0).kind = 0)) (cond (inb 1 v43.1.code.length) (cond (decide ((nth v43.1.code 1).kind = 0)) (cond (inb 2 v43.1.code.length) (cond (decide ((nth v43.1.code 2).kind = 3)) (cond (inb 1 v68.1.length) ((s_SameBools n (nth v68.1 1) ([true, true, false, false] : List Bool)).bind fun v246 => some v246) none) (some false)) none) (some false)) none) (some false)) none) (some false)) (some false)) (some false)))
set_option maxHeartbeats 6400000 in
theorem c_awake {n : Nat}   {r : Bool} {w : World} {M : Mem} {bs : List (Nat × Obj)} (hG : Glob M) (hs : s_awake n  = some r) (hO : Own w M (bs)) :
    Calls Tryd.prog 6 #[] w (fun e w' => ∃ M' : Mem, Mem.le M M' ∧ Own w' M' (bs) ∧ e = .returned (.bool r)) := by
 unfold s_awake at hs
 refine ce (vs := []) (n := 92) Tryd.func6 rfl rfl rfl (cq (cr (as_ hO rfl rfl (rj (et (cq (cr (ry hO rfl (y_build [.int .i64 1] (.agg #[.int .i64 0, .int .i64 1]) tz rfl (fun _ => by kernel_rfl)) (ry hO rfl (y_build [.int .i64 16] (.agg #[.int .i64 16, .int .i64 0]) tz rfl (fun _ => by kernel_rfl)) ?_)))))))))
 refine rd' tz (og (vs := [.agg #[.int .i64 0, .int .i64 1], .agg #[.int .i64 16, .int .i64 0]]) (cs := [.int .i64 0, .int .i64 1, .int .i64 16, .int .i64 0]) (e := 41) hO rfl rfl (fun _ => by kernel_rfl) (fun b1 w2 hO => ?_))
 have hO : Own _ M ([(b1, .cells #[.int .i64 0, .int .i64 1, .int .i64 16, .int .i64 0] 41)] ++ bs) := hO
 refine ry hO rfl (y_build [.int .i64 1, .slice (some ⟨b1, 0, none⟩) 2 2] (.agg #[.int .i64 0, .int .i64 1, .slice (some ⟨b1, 0, none⟩) 2 2]) tz rfl (fun _ => by kernel_rfl)) (rd' tz (og (vs := [.agg #[.int .i64 0, .int .i64 1, .slice (some ⟨b1, 0, none⟩) 2 2]]) (cs := [.int .i64 0, .int .i64 1, .slice (some ⟨b1, 0, none⟩) 2 2]) (e := 44) hO rfl rfl (fun _ => by kernel_rfl) (fun b3 w4 hO => ?_)))
 have hO : Own _ M ([(b3, .cells #[.int .i64 0, .int .i64 1, .slice (some ⟨b1, 0, none⟩) 2 2] 44)] ++ ([(b1, .cells #[.int .i64 0, .int .i64 1, .int .i64 16, .int .i64 0] 41)] ++ bs)) := hO
 refine ry hO rfl (y_build [.slice (some ⟨b3, 0, none⟩) 1 1] (.agg #[.slice (some ⟨b3, 0, none⟩) 1 1]) tz rfl (fun _ => by kernel_rfl)) (rd' tz (og_alloc hO rfl tz_24 (fun b5 w6 hO => ?_)))
 have hO : Own _ M ([(b5, .cells #[.slice none 0 0] 24)] ++ ([(b3, .cells #[.int .i64 0, .int .i64 1, .slice (some ⟨b1, 0, none⟩) 2 2] 44)] ++ ([(b1, .cells #[.int .i64 0, .int .i64 1, .int .i64 16, .int .i64 0] 41)] ++ bs))) := hO
 refine rd' tz (og_storeS (vs := [.slice (some ⟨b3, 0, none⟩) 1 1]) hO tn_24 rfl rfl rfl (nb rfl) rfl rfl (fun w7 hO => ?_))
 have hO : Own _ M ([(b5, .cells #[.slice (some ⟨b3, 0, none⟩) 1 1] 24)] ++ ([(b3, .cells #[.int .i64 0, .int .i64 1, .slice (some ⟨b1, 0, none⟩) 2 2] 44)] ++ ([(b1, .cells #[.int .i64 0, .int .i64 1, .int .i64 16, .int .i64 0] 41)] ++ bs))) := hO
 refine rj (et (cq (cr (ry hO rfl (y_build [.int .i64 1, .int .i64 1, .int .i64 3, .int .i64 1] (.agg #[.int .i64 1, .int .i64 1, .int .i64 0, .int .i64 0, .int .i64 3, .slice none 0 0, .int .i64 1, .int .i64 0, .int .i64 0]) tz rfl (fun _ => by kernel_rfl)) (ry hO rfl (y_build [.int .i64 2, .int .i64 2, .int .i64 1, .int .i64 1] (.agg #[.int .i64 2, .int .i64 2, .int .i64 1, .int .i64 0, .int .i64 0, .slice none 0 0, .int .i64 1, .int .i64 0, .int .i64 0]) tz rfl (fun _ => by kernel_rfl)) (ry hO rfl (y_build [.int .i64 3, .int .i64 3, .int .i64 0, .int .i64 0, .int .i64 6, .int .i64 1] (.agg #[.int .i64 3, .int .i64 3, .int .i64 0, .int .i64 0, .int .i64 6, .slice none 0 0, .int .i64 1, .int .i64 0, .int .i64 0]) tz rfl (fun _ => by kernel_rfl)) (ry hO rfl (y_build [.int .i64 8, .int .i64 0, .int .i64 1] (.agg #[.int .i64 8, .int .i64 0, .int .i64 0, .int .i64 0, .int .i64 0, .slice none 0 0, .int .i64 1, .int .i64 0, .int .i64 0]) tz rfl (fun _ => by kernel_rfl)) (rd' tz (og (vs := [.agg #[.int .i64 1, .int .i64 1, .int .i64 0, .int .i64 0, .int .i64 3, .slice none 0 0, .int .i64 1, .int .i64 0, .int .i64 0], .agg #[.int .i64 2, .int .i64 2, .int .i64 1, .int .i64 0, .int .i64 0, .slice none 0 0, .int .i64 1, .int .i64 0, .int .i64 0], .agg #[.int .i64 3, .int .i64 3, .int .i64 0, .int .i64 0, .int .i64 6, .slice none 0 0, .int .i64 1, .int .i64 0, .int .i64 0], .agg #[.int .i64 8, .int .i64 0, .int .i64 0, .int .i64 0, .int .i64 0, .slice none 0 0, .int .i64 1, .int .i64 0, .int .i64 0]]) (cs := [.int .i64 1, .int .i64 1, .int .i64 0, .int .i64 0, .int .i64 3, .slice none 0 0, .int .i64 1, .int .i64 0, .int .i64 0, .int .i64 2, .int .i64 2, .int .i64 1, .int .i64 0, .int .i64 0, .slice none 0 0, .int .i64 1, .int .i64 0, .int .i64 0, .int .i64 3, .int .i64 3, .int .i64 0, .int .i64 0, .int .i64 6, .slice none 0 0, .int .i64 1, .int .i64 0, .int .i64 0, .int .i64 8, .int .i64 0, .int .i64 0, .int .i64 0, .int .i64 0, .slice none 0 0, .int .i64 1, .int .i64 0, .int .i64 0]) (e := 38) hO rfl rfl (fun _ => by kernel_rfl) (fun b8 w9 hO => ?_))))))))))
 have hO : Own _ M ([(b8, .cells #[.int .i64 1, .int .i64 1, .int .i64 0, .int .i64 0, .int .i64 3, .slice none 0 0, .int .i64 1, .int .i64 0, .int .i64 0, .int .i64 2, .int .i64 2, .int .i64 1, .int .i64 0, .int .i64 0, .slice none 0 0, .int .i64 1, .int .i64 0, .int .i64 0, .int .i64 3, .int .i64 3, .int .i64 0, .int .i64 0, .int .i64 6, .slice none 0 0, .int .i64 1, .int .i64 0, .int .i64 0, .int .i64 8, .int .i64 0, .int .i64 0, .int .i64 0, .int .i64 0, .slice none 0 0, .int .i64 1, .int .i64 0, .int .i64 0] 38)] ++ ([(b5, .cells #[.slice (some ⟨b3, 0, none⟩) 1 1] 24)] ++ ([(b3, .cells #[.int .i64 0, .int .i64 1, .slice (some ⟨b1, 0, none⟩) 2 2] 44)] ++ ([(b1, .cells #[.int .i64 0, .int .i64 1, .int .i64 16, .int .i64 0] 41)] ++ bs)))) := hO
 refine ry hO rfl (y_build [.int .i64 4, .slice (some ⟨b8, 0, none⟩) 4 4] (.agg #[.int .i64 0, .int .i64 4, .slice (some ⟨b8, 0, none⟩) 4 4, .slice none 0 0]) tz rfl (fun _ => by kernel_rfl)) (rd' tz (og_alloc hO rfl tz_28 (fun b10 w11 hO => ?_)))
 have hO : Own _ M ([(b10, .cells #[.int .i64 0, .int .i64 0, .slice none 0 0, .slice none 0 0] 28)] ++ ([(b8, .cells #[.int .i64 1, .int .i64 1, .int .i64 0, .int .i64 0, .int .i64 3, .slice none 0 0, .int .i64 1, .int .i64 0, .int .i64 0, .int .i64 2, .int .i64 2, .int .i64 1, .int .i64 0, .int .i64 0, .slice none 0 0, .int .i64 1, .int .i64 0, .int .i64 0, .int .i64 3, .int .i64 3, .int .i64 0, .int .i64 0, .int .i64 6, .slice none 0 0, .int .i64 1, .int .i64 0, .int .i64 0, .int .i64 8, .int .i64 0, .int .i64 0, .int .i64 0, .int .i64 0, .slice none 0 0, .int .i64 1, .int .i64 0, .int .i64 0] 38)] ++ ([(b5, .cells #[.slice (some ⟨b3, 0, none⟩) 1 1] 24)] ++ ([(b3, .cells #[.int .i64 0, .int .i64 1, .slice (some ⟨b1, 0, none⟩) 2 2] 44)] ++ ([(b1, .cells #[.int .i64 0, .int .i64 1, .int .i64 16, .int .i64 0] 41)] ++ bs))))) := hO
 refine rd' tz (og_storeS (vs := [.int .i64 0, .int .i64 4, .slice (some ⟨b8, 0, none⟩) 4 4, .slice none 0 0]) hO tn_28 rfl rfl rfl (nb rfl) rfl rfl (fun w12 hO => ?_))
 have hO : Own _ M ([(b10, .cells #[.int .i64 0, .int .i64 4, .slice (some ⟨b8, 0, none⟩) 4 4, .slice none 0 0] 28)] ++ ([(b8, .cells #[.int .i64 1, .int .i64 1, .int .i64 0, .int .i64 0, .int .i64 3, .slice none 0 0, .int .i64 1, .int .i64 0, .int .i64 0, .int .i64 2, .int .i64 2, .int .i64 1, .int .i64 0, .int .i64 0, .slice none 0 0, .int .i64 1, .int .i64 0, .int .i64 0, .int .i64 3, .int .i64 3, .int .i64 0, .int .i64 0, .int .i64 6, .slice none 0 0, .int .i64 1, .int .i64 0, .int .i64 0, .int .i64 8, .int .i64 0, .int .i64 0, .int .i64 0, .int .i64 0, .slice none 0 0, .int .i64 1, .int .i64 0, .int .i64 0] 38)] ++ ([(b5, .cells #[.slice (some ⟨b3, 0, none⟩) 1 1] 24)] ++ ([(b3, .cells #[.int .i64 0, .int .i64 1, .slice (some ⟨b1, 0, none⟩) 2 2] 44)] ++ ([(b1, .cells #[.int .i64 0, .int .i64 1, .int .i64 16, .int .i64 0] 41)] ++ bs))))) := hO
 refine rj (ez (E' := [(0, .bool false), (1, .pointer (some ⟨b5, 0, none⟩)), (2, .pointer (some ⟨b10, 0, none⟩))]) ⟨rfl, rfl, rfl, tz⟩ (et (cq (cr (ry hO rfl (yq [.slice (some ⟨b3, 0, none⟩) 1 1] ta_24 rfl tz rfl (fun _ h => Own.cellsB (h.front2) 0 0 rfl (by intro j v e; exact rowCells (vs := [.slice (some ⟨b3, 0, none⟩) 1 1]) rfl e))) (ry hO rfl (yq [.int .i64 0, .int .i64 4, .slice (some ⟨b8, 0, none⟩) 4 4, .slice none 0 0] ta_28 rfl tz rfl (fun _ h => Own.cellsB h 0 0 rfl (by intro j v e; exact rowCells (vs := [.int .i64 0, .int .i64 4, .slice (some ⟨b8, 0, none⟩) 4 4, .slice none 0 0]) rfl e))) ?_))))))
 have hO := hO.front4
 obtain ⟨M13, le14, hO, hk15, hn16, hd17⟩ := Own.keeps (rs := [(b1, .cells #[.int .i64 0, .int .i64 1, .int .i64 16, .int .i64 0] 41)]) hO
 have hle18 := le14
 have at19 := Has.at (vs := [.int .i64 0, .int .i64 1, .int .i64 16, .int .i64 0]) hk15 rfl
 have hO := hO.front3
 obtain ⟨M20, le21, hO, hk22, hn23, hd24⟩ := Own.keeps (rs := [(b3, .cells #[.int .i64 0, .int .i64 1, .slice (some ⟨b1, 0, none⟩) 2 2] 44)]) hO
 have hk25 := hk15.mono le21
 have at26 := at19.mono le21
 have hle27 := m_ hle18 le21
 have kl28 := m_ le14 le21
 have at29 := Has.at (vs := [.int .i64 0, .int .i64 1, .slice (some ⟨b1, 0, none⟩) 2 2]) hk22 rfl
 have hO := hO.front1
 obtain ⟨M30, le31, hO, hk32, hn33, hd34⟩ := Own.keeps (rs := [(b8, .cells #[.int .i64 1, .int .i64 1, .int .i64 0, .int .i64 0, .int .i64 3, .slice none 0 0, .int .i64 1, .int .i64 0, .int .i64 0, .int .i64 2, .int .i64 2, .int .i64 1, .int .i64 0, .int .i64 0, .slice none 0 0, .int .i64 1, .int .i64 0, .int .i64 0, .int .i64 3, .int .i64 3, .int .i64 0, .int .i64 0, .int .i64 6, .slice none 0 0, .int .i64 1, .int .i64 0, .int .i64 0, .int .i64 8, .int .i64 0, .int .i64 0, .int .i64 0, .int .i64 0, .slice none 0 0, .int .i64 1, .int .i64 0, .int .i64 0] 38)]) hO
 have hk35 := hk25.mono le31
 have at36 := at26.mono le31
 have hk37 := hk22.mono le31
 have at38 := at29.mono le31
 have hle39 := m_ hle27 le31
 have kl40 := m_ kl28 le31
 have kl41 := m_ le21 le31
 have at42 := Has.at (vs := [.int .i64 1, .int .i64 1, .int .i64 0, .int .i64 0, .int .i64 3, .slice none 0 0, .int .i64 1, .int .i64 0, .int .i64 0, .int .i64 2, .int .i64 2, .int .i64 1, .int .i64 0, .int .i64 0, .slice none 0 0, .int .i64 1, .int .i64 0, .int .i64 0, .int .i64 3, .int .i64 3, .int .i64 0, .int .i64 0, .int .i64 6, .slice none 0 0, .int .i64 1, .int .i64 0, .int .i64 0, .int .i64 8, .int .i64 0, .int .i64 0, .int .i64 0, .int .i64 0, .slice none 0 0, .int .i64 1, .int .i64 0, .int .i64 0]) hk32 rfl
 obtain ⟨v43, hv44, hs⟩ := bind_s hs
 refine rd' tz (oc (vs := [.agg #[.slice (some ⟨b3, 0, none⟩) 1 1], .agg #[.int .i64 0, .int .i64 4, .slice (some ⟨b8, 0, none⟩) 4 4, .slice none 0 0]]) tcall_7 rfl rfl (c_Dead (vs_p := [.slice (some ⟨b3, 0, none⟩) 1 1]) (⟨([(⟨0, 1, ([(⟨0, 1⟩ : Ins), (⟨16, 0⟩ : Ins)] : List Ins)⟩ : FuncD)] : List FuncD)⟩ : Prog) (vs_c := [.int .i64 0, .int .i64 4, .slice (some ⟨b8, 0, none⟩) 4 4, .slice none 0 0]) (⟨0, 4, ([(⟨1, 1, 0, 0, 3, ([] : List Int), 1, 0, 0⟩ : Ir), (⟨2, 2, 1, 0, 0, ([] : List Int), 1, 0, 0⟩ : Ir), (⟨3, 3, 0, 0, 6, ([] : List Int), 1, 0, 0⟩ : Ir), (⟨8, 0, 0, 0, 0, ([] : List Int), 1, 0, 0⟩ : Ir)] : List Ir), ([] : List Meta)⟩ : CodeD) ⟨some ⟨b3, 0, none⟩, 1, rfl, ((Rw.lit (M := M30) (b := b3) (e := 44) (l := ([(⟨0, 1, ([(⟨0, 1⟩ : Ins), (⟨16, 0⟩ : Ins)] : List Ins)⟩ : FuncD)] : List FuncD)) (cs := [.int .i64 0, .int .i64 1, .slice (some ⟨b1, 0, none⟩) 2 2]) (RdL.cons (α := FuncD) (us := [.int .i64 0, .int .i64 1, .slice (some ⟨b1, 0, none⟩) 2 2]) (x := (⟨0, 1, ([(⟨0, 1⟩ : Ins), (⟨16, 0⟩ : Ins)] : List Ins)⟩ : FuncD)) ⟨some ⟨b1, 0, none⟩, 2, rfl, ((Rw.lit (M := M30) (b := b1) (e := 41) (l := ([(⟨0, 1⟩ : Ins), (⟨16, 0⟩ : Ins)] : List Ins)) (cs := [.int .i64 0, .int .i64 1, .int .i64 16, .int .i64 0]) (RdL.cons (α := Ins) (us := [.int .i64 0, .int .i64 1]) (x := (⟨0, 1⟩ : Ins)) rfl (RdL.cons (α := Ins) (us := [.int .i64 16, .int .i64 0]) (x := (⟨16, 0⟩ : Ins)) rfl (RdL.nil _))) (by simp [Rep.sz])).kept hk35 (mr _) : RdS M30 (some ⟨b1, 0, none⟩) 2 ([(⟨0, 1⟩ : Ins), (⟨16, 0⟩ : Ins)] : List Ins))⟩ (RdL.nil _)) (by simp [Rep.sz])).kept hk37 (mr _) : RdS M30 (some ⟨b3, 0, none⟩) 1 ([(⟨0, 1, ([(⟨0, 1⟩ : Ins), (⟨16, 0⟩ : Ins)] : List Ins)⟩ : FuncD)] : List FuncD))⟩ ⟨some ⟨b8, 0, none⟩, 4, none, 0, rfl, ((Rw.lit (M := M30) (b := b8) (e := 38) (l := ([(⟨1, 1, 0, 0, 3, ([] : List Int), 1, 0, 0⟩ : Ir), (⟨2, 2, 1, 0, 0, ([] : List Int), 1, 0, 0⟩ : Ir), (⟨3, 3, 0, 0, 6, ([] : List Int), 1, 0, 0⟩ : Ir), (⟨8, 0, 0, 0, 0, ([] : List Int), 1, 0, 0⟩ : Ir)] : List Ir)) (cs := [.int .i64 1, .int .i64 1, .int .i64 0, .int .i64 0, .int .i64 3, .slice none 0 0, .int .i64 1, .int .i64 0, .int .i64 0, .int .i64 2, .int .i64 2, .int .i64 1, .int .i64 0, .int .i64 0, .slice none 0 0, .int .i64 1, .int .i64 0, .int .i64 0, .int .i64 3, .int .i64 3, .int .i64 0, .int .i64 0, .int .i64 6, .slice none 0 0, .int .i64 1, .int .i64 0, .int .i64 0, .int .i64 8, .int .i64 0, .int .i64 0, .int .i64 0, .int .i64 0, .slice none 0 0, .int .i64 1, .int .i64 0, .int .i64 0]) (RdL.cons (α := Ir) (us := [.int .i64 1, .int .i64 1, .int .i64 0, .int .i64 0, .int .i64 3, .slice none 0 0, .int .i64 1, .int .i64 0, .int .i64 0]) (x := (⟨1, 1, 0, 0, 3, ([] : List Int), 1, 0, 0⟩ : Ir)) ⟨none, 0, rfl, (RdS.nil _ _ _)⟩ (RdL.cons (α := Ir) (us := [.int .i64 2, .int .i64 2, .int .i64 1, .int .i64 0, .int .i64 0, .slice none 0 0, .int .i64 1, .int .i64 0, .int .i64 0]) (x := (⟨2, 2, 1, 0, 0, ([] : List Int), 1, 0, 0⟩ : Ir)) ⟨none, 0, rfl, (RdS.nil _ _ _)⟩ (RdL.cons (α := Ir) (us := [.int .i64 3, .int .i64 3, .int .i64 0, .int .i64 0, .int .i64 6, .slice none 0 0, .int .i64 1, .int .i64 0, .int .i64 0]) (x := (⟨3, 3, 0, 0, 6, ([] : List Int), 1, 0, 0⟩ : Ir)) ⟨none, 0, rfl, (RdS.nil _ _ _)⟩ (RdL.cons (α := Ir) (us := [.int .i64 8, .int .i64 0, .int .i64 0, .int .i64 0, .int .i64 0, .slice none 0 0, .int .i64 1, .int .i64 0, .int .i64 0]) (x := (⟨8, 0, 0, 0, 0, ([] : List Int), 1, 0, 0⟩ : Ir)) ⟨none, 0, rfl, (RdS.nil _ _ _)⟩ (RdL.nil _))))) (by simp [Rep.sz])).kept hk32 (mr _) : RdS M30 (some ⟨b8, 0, none⟩) 4 ([(⟨1, 1, 0, 0, 3, ([] : List Int), 1, 0, 0⟩ : Ir), (⟨2, 2, 1, 0, 0, ([] : List Int), 1, 0, 0⟩ : Ir), (⟨3, 3, 0, 0, 6, ([] : List Int), 1, 0, 0⟩ : Ir), (⟨8, 0, 0, 0, 0, ([] : List Int), 1, 0, 0⟩ : Ir)] : List Ir)), (RdS.nil _ _ _)⟩ (hG.mono hle39) hv44 hO) ?_)
 rintro _ w45 ⟨M46, b48, c49, rs50, b52, c53, le47, hO, rfl, r51, s54⟩
 refine ⟨_, rfl, ?_⟩
 have hk55 := hk35.mono le47
 have at56 := at36.mono le47
 have hk57 := hk37.mono le47
 have at58 := at38.mono le47
 have hk59 := hk32.mono le47
 have at60 := at42.mono le47
 have hle61 := m_ hle39 le47
 have kl62 := m_ kl40 le47
 have kl63 := m_ kl41 le47
 have kl64 := m_ le31 le47
 have hO : Own _ M46 (rs50 ++ ([(b10, .cells #[.int .i64 0, .int .i64 4, .slice (some ⟨b8, 0, none⟩) 4 4, .slice none 0 0] 28)] ++ ([(b5, .cells #[.slice (some ⟨b3, 0, none⟩) 1 1] 24)] ++ bs))) := hO
 refine mv hO rfl rfl (ry hO rfl (yx [.agg #[.int .i64 v43.1.fn, .int .i64 v43.1.regs, .slice b48 v43.1.code.length c49, .slice b52 v43.1.metas.length c53], .int .i64 v43.2] rfl tz rfl) (ry hO rfl (yx [.agg #[.int .i64 v43.1.fn, .int .i64 v43.1.regs, .slice b48 v43.1.code.length c49, .slice b52 v43.1.metas.length c53], .int .i64 v43.2] rfl tz rfl) (rd' tz (og_alloc hO rfl tz_28 (fun b65 w66 hO => ?_)))))
 have hO : Own _ M46 ([(b65, .cells #[.int .i64 0, .int .i64 0, .slice none 0 0, .slice none 0 0] 28)] ++ (rs50 ++ ([(b10, .cells #[.int .i64 0, .int .i64 4, .slice (some ⟨b8, 0, none⟩) 4 4, .slice none 0 0] 28)] ++ ([(b5, .cells #[.slice (some ⟨b3, 0, none⟩) 1 1] 24)] ++ bs)))) := hO
 refine rd' tz (og_storeS (vs := [.int .i64 v43.1.fn, .int .i64 v43.1.regs, .slice b48 v43.1.code.length c49, .slice b52 v43.1.metas.length c53]) hO tn_28 rfl rfl rfl (nb rfl) rfl rfl (fun w67 hO => ?_))
 have hO : Own _ M46 ([(b65, .cells #[.int .i64 v43.1.fn, .int .i64 v43.1.regs, .slice b48 v43.1.code.length c49, .slice b52 v43.1.metas.length c53] 28)] ++ (rs50 ++ ([(b10, .cells #[.int .i64 0, .int .i64 4, .slice (some ⟨b8, 0, none⟩) 4 4, .slice none 0 0] 28)] ++ ([(b5, .cells #[.slice (some ⟨b3, 0, none⟩) 1 1] 24)] ++ bs)))) := hO
 refine as_ hO rfl rfl (rj (et (cq (cr (ry hO rfl (yq [.slice (some ⟨b3, 0, none⟩) 1 1] ta_24 rfl tz rfl (fun _ h => Own.cellsB (h.front3) 0 0 rfl (by intro j v e; exact rowCells (vs := [.slice (some ⟨b3, 0, none⟩) 1 1]) rfl e))) (ry hO rfl (yq [.int .i64 0, .int .i64 4, .slice (some ⟨b8, 0, none⟩) 4 4, .slice none 0 0] ta_28 rfl tz rfl (fun _ h => Own.cellsB (h.front2) 0 0 rfl (by intro j v e; exact rowCells (vs := [.int .i64 0, .int .i64 4, .slice (some ⟨b8, 0, none⟩) 4 4, .slice none 0 0]) rfl e))) ?_))))))
 obtain ⟨v68, hv69, hs⟩ := bind_s hs
 refine rd' tz (oc (vs := [.agg #[.slice (some ⟨b3, 0, none⟩) 1 1], .agg #[.int .i64 0, .int .i64 4, .slice (some ⟨b8, 0, none⟩) 4 4, .slice none 0 0]]) tcall_12 rfl rfl (c_Live (vs_p := [.slice (some ⟨b3, 0, none⟩) 1 1]) (⟨([(⟨0, 1, ([(⟨0, 1⟩ : Ins), (⟨16, 0⟩ : Ins)] : List Ins)⟩ : FuncD)] : List FuncD)⟩ : Prog) (vs_c := [.int .i64 0, .int .i64 4, .slice (some ⟨b8, 0, none⟩) 4 4, .slice none 0 0]) (⟨0, 4, ([(⟨1, 1, 0, 0, 3, ([] : List Int), 1, 0, 0⟩ : Ir), (⟨2, 2, 1, 0, 0, ([] : List Int), 1, 0, 0⟩ : Ir), (⟨3, 3, 0, 0, 6, ([] : List Int), 1, 0, 0⟩ : Ir), (⟨8, 0, 0, 0, 0, ([] : List Int), 1, 0, 0⟩ : Ir)] : List Ir), ([] : List Meta)⟩ : CodeD) ⟨some ⟨b3, 0, none⟩, 1, rfl, ((Rw.lit (M := M46) (b := b3) (e := 44) (l := ([(⟨0, 1, ([(⟨0, 1⟩ : Ins), (⟨16, 0⟩ : Ins)] : List Ins)⟩ : FuncD)] : List FuncD)) (cs := [.int .i64 0, .int .i64 1, .slice (some ⟨b1, 0, none⟩) 2 2]) (RdL.cons (α := FuncD) (us := [.int .i64 0, .int .i64 1, .slice (some ⟨b1, 0, none⟩) 2 2]) (x := (⟨0, 1, ([(⟨0, 1⟩ : Ins), (⟨16, 0⟩ : Ins)] : List Ins)⟩ : FuncD)) ⟨some ⟨b1, 0, none⟩, 2, rfl, ((Rw.lit (M := M46) (b := b1) (e := 41) (l := ([(⟨0, 1⟩ : Ins), (⟨16, 0⟩ : Ins)] : List Ins)) (cs := [.int .i64 0, .int .i64 1, .int .i64 16, .int .i64 0]) (RdL.cons (α := Ins) (us := [.int .i64 0, .int .i64 1]) (x := (⟨0, 1⟩ : Ins)) rfl (RdL.cons (α := Ins) (us := [.int .i64 16, .int .i64 0]) (x := (⟨16, 0⟩ : Ins)) rfl (RdL.nil _))) (by simp [Rep.sz])).kept hk55 (mr _) : RdS M46 (some ⟨b1, 0, none⟩) 2 ([(⟨0, 1⟩ : Ins), (⟨16, 0⟩ : Ins)] : List Ins))⟩ (RdL.nil _)) (by simp [Rep.sz])).kept hk57 (mr _) : RdS M46 (some ⟨b3, 0, none⟩) 1 ([(⟨0, 1, ([(⟨0, 1⟩ : Ins), (⟨16, 0⟩ : Ins)] : List Ins)⟩ : FuncD)] : List FuncD))⟩ ⟨some ⟨b8, 0, none⟩, 4, none, 0, rfl, ((Rw.lit (M := M46) (b := b8) (e := 38) (l := ([(⟨1, 1, 0, 0, 3, ([] : List Int), 1, 0, 0⟩ : Ir), (⟨2, 2, 1, 0, 0, ([] : List Int), 1, 0, 0⟩ : Ir), (⟨3, 3, 0, 0, 6, ([] : List Int), 1, 0, 0⟩ : Ir), (⟨8, 0, 0, 0, 0, ([] : List Int), 1, 0, 0⟩ : Ir)] : List Ir)) (cs := [.int .i64 1, .int .i64 1, .int .i64 0, .int .i64 0, .int .i64 3, .slice none 0 0, .int .i64 1, .int .i64 0, .int .i64 0, .int .i64 2, .int .i64 2, .int .i64 1, .int .i64 0, .int .i64 0, .slice none 0 0, .int .i64 1, .int .i64 0, .int .i64 0, .int .i64 3, .int .i64 3, .int .i64 0, .int .i64 0, .int .i64 6, .slice none 0 0, .int .i64 1, .int .i64 0, .int .i64 0, .int .i64 8, .int .i64 0, .int .i64 0, .int .i64 0, .int .i64 0, .slice none 0 0, .int .i64 1, .int .i64 0, .int .i64 0]) (RdL.cons (α := Ir) (us := [.int .i64 1, .int .i64 1, .int .i64 0, .int .i64 0, .int .i64 3, .slice none 0 0, .int .i64 1, .int .i64 0, .int .i64 0]) (x := (⟨1, 1, 0, 0, 3, ([] : List Int), 1, 0, 0⟩ : Ir)) ⟨none, 0, rfl, (RdS.nil _ _ _)⟩ (RdL.cons (α := Ir) (us := [.int .i64 2, .int .i64 2, .int .i64 1, .int .i64 0, .int .i64 0, .slice none 0 0, .int .i64 1, .int .i64 0, .int .i64 0]) (x := (⟨2, 2, 1, 0, 0, ([] : List Int), 1, 0, 0⟩ : Ir)) ⟨none, 0, rfl, (RdS.nil _ _ _)⟩ (RdL.cons (α := Ir) (us := [.int .i64 3, .int .i64 3, .int .i64 0, .int .i64 0, .int .i64 6, .slice none 0 0, .int .i64 1, .int .i64 0, .int .i64 0]) (x := (⟨3, 3, 0, 0, 6, ([] : List Int), 1, 0, 0⟩ : Ir)) ⟨none, 0, rfl, (RdS.nil _ _ _)⟩ (RdL.cons (α := Ir) (us := [.int .i64 8, .int .i64 0, .int .i64 0, .int .i64 0, .int .i64 0, .slice none 0 0, .int .i64 1, .int .i64 0, .int .i64 0]) (x := (⟨8, 0, 0, 0, 0, ([] : List Int), 1, 0, 0⟩ : Ir)) ⟨none, 0, rfl, (RdS.nil _ _ _)⟩ (RdL.nil _))))) (by simp [Rep.sz])).kept hk59 (mr _) : RdS M46 (some ⟨b8, 0, none⟩) 4 ([(⟨1, 1, 0, 0, 3, ([] : List Int), 1, 0, 0⟩ : Ir), (⟨2, 2, 1, 0, 0, ([] : List Int), 1, 0, 0⟩ : Ir), (⟨3, 3, 0, 0, 6, ([] : List Int), 1, 0, 0⟩ : Ir), (⟨8, 0, 0, 0, 0, ([] : List Int), 1, 0, 0⟩ : Ir)] : List Ir)), (RdS.nil _ _ _)⟩ (hG.mono hle61) hv69 hO) ?_)
 rintro _ w70 ⟨M71, b73, c74, rs75, le72, hO, rfl, r76⟩
 refine ⟨_, rfl, ?_⟩
 have r77 := r51.mono le72
 have s78 := s54.mono le72
 have hk79 := hk55.mono le72
 have at80 := at56.mono le72
 have hk81 := hk57.mono le72
 have at82 := at58.mono le72
 have hk83 := hk59.mono le72
 have at84 := at60.mono le72
 have hle85 := m_ hle61 le72
 have kl86 := m_ kl62 le72
 have kl87 := m_ kl63 le72
 have kl88 := m_ kl64 le72
 have hO : Own _ M71 (rs75 ++ ([(b65, .cells #[.int .i64 v43.1.fn, .int .i64 v43.1.regs, .slice b48 v43.1.code.length c49, .slice b52 v43.1.metas.length c53] 28)] ++ (rs50 ++ ([(b10, .cells #[.int .i64 0, .int .i64 4, .slice (some ⟨b8, 0, none⟩) 4 4, .slice none 0 0] 28)] ++ ([(b5, .cells #[.slice (some ⟨b3, 0, none⟩) 1 1] 24)] ++ bs))))) := hO
 refine mv hO rfl rfl (ry hO rfl (yx [.slice b73 v68.1.length c74, .int .i64 v68.2] rfl tz rfl) (ry hO rfl (yx [.slice b73 v68.1.length c74, .int .i64 v68.2] rfl tz rfl) (as_ hO rfl rfl (as_ hO rfl rfl (rj (ez (E' := [(0, .bool false), (1, .pointer (some ⟨b5, 0, none⟩)), (3, .pointer (some ⟨b65, 0, none⟩)), (4, .int .i64 v43.2), (5, .slice b73 v68.1.length c74), (6, .int .i64 v68.2)]) ⟨rfl, rfl, rfl, rfl, rfl, rfl, tz⟩ (et (cq (cr ?_)))))))))
 refine ry hO rfl (yq [.slice (some ⟨b3, 0, none⟩) 1 1] ta_24 rfl tz rfl (fun _ h => Own.cellsB (h.front4) 0 0 rfl (by intro j v e; exact rowCells (vs := [.slice (some ⟨b3, 0, none⟩) 1 1]) rfl e))) (ry hO rfl (y_build [] (.agg #[.int .i64 0, .int .i64 0, .slice none 0 0, .slice none 0 0]) tz rfl (fun _ => by kernel_rfl)) ?_)
 obtain ⟨v89, hv90, hs⟩ := bind_s hs
 refine rd' tz (oc (vs := [.agg #[.slice (some ⟨b3, 0, none⟩) 1 1], .agg #[.int .i64 0, .int .i64 0, .slice none 0 0, .slice none 0 0]]) tcall_7 rfl rfl (c_Dead (vs_p := [.slice (some ⟨b3, 0, none⟩) 1 1]) (⟨([(⟨0, 1, ([(⟨0, 1⟩ : Ins), (⟨16, 0⟩ : Ins)] : List Ins)⟩ : FuncD)] : List FuncD)⟩ : Prog) (vs_c := [.int .i64 0, .int .i64 0, .slice none 0 0, .slice none 0 0]) (⟨0, 0, ([] : List Ir), ([] : List Meta)⟩ : CodeD) ⟨some ⟨b3, 0, none⟩, 1, rfl, ((Rw.lit (M := M71) (b := b3) (e := 44) (l := ([(⟨0, 1, ([(⟨0, 1⟩ : Ins), (⟨16, 0⟩ : Ins)] : List Ins)⟩ : FuncD)] : List FuncD)) (cs := [.int .i64 0, .int .i64 1, .slice (some ⟨b1, 0, none⟩) 2 2]) (RdL.cons (α := FuncD) (us := [.int .i64 0, .int .i64 1, .slice (some ⟨b1, 0, none⟩) 2 2]) (x := (⟨0, 1, ([(⟨0, 1⟩ : Ins), (⟨16, 0⟩ : Ins)] : List Ins)⟩ : FuncD)) ⟨some ⟨b1, 0, none⟩, 2, rfl, ((Rw.lit (M := M71) (b := b1) (e := 41) (l := ([(⟨0, 1⟩ : Ins), (⟨16, 0⟩ : Ins)] : List Ins)) (cs := [.int .i64 0, .int .i64 1, .int .i64 16, .int .i64 0]) (RdL.cons (α := Ins) (us := [.int .i64 0, .int .i64 1]) (x := (⟨0, 1⟩ : Ins)) rfl (RdL.cons (α := Ins) (us := [.int .i64 16, .int .i64 0]) (x := (⟨16, 0⟩ : Ins)) rfl (RdL.nil _))) (by simp [Rep.sz])).kept hk79 (mr _) : RdS M71 (some ⟨b1, 0, none⟩) 2 ([(⟨0, 1⟩ : Ins), (⟨16, 0⟩ : Ins)] : List Ins))⟩ (RdL.nil _)) (by simp [Rep.sz])).kept hk81 (mr _) : RdS M71 (some ⟨b3, 0, none⟩) 1 ([(⟨0, 1, ([(⟨0, 1⟩ : Ins), (⟨16, 0⟩ : Ins)] : List Ins)⟩ : FuncD)] : List FuncD))⟩ ⟨none, 0, none, 0, rfl, (RdS.nil _ _ _), (RdS.nil _ _ _)⟩ (hG.mono hle85) hv90 hO) ?_)
 rintro _ w91 ⟨M92, b94, c95, rs96, b98, c99, le93, hO, rfl, r97, s100⟩
 refine ⟨_, rfl, ?_⟩
 have r101 := r76.mono le93
 have r102 := r77.mono le93
 have s103 := s78.mono le93
 have hk104 := hk79.mono le93
 have at105 := at80.mono le93
 have hk106 := hk81.mono le93
 have at107 := at82.mono le93
 have hk108 := hk83.mono le93
 have at109 := at84.mono le93
 have hle110 := m_ hle85 le93
 have kl111 := m_ kl86 le93
 have kl112 := m_ kl87 le93
 have kl113 := m_ kl88 le93
 have hO : Own _ M92 (rs96 ++ (rs75 ++ ([(b65, .cells #[.int .i64 v43.1.fn, .int .i64 v43.1.regs, .slice b48 v43.1.code.length c49, .slice b52 v43.1.metas.length c53] 28)] ++ (rs50 ++ ([(b10, .cells #[.int .i64 0, .int .i64 4, .slice (some ⟨b8, 0, none⟩) 4 4, .slice none 0 0] 28)] ++ ([(b5, .cells #[.slice (some ⟨b3, 0, none⟩) 1 1] 24)] ++ bs)))))) := hO
 refine mv hO rfl rfl (ry hO rfl (yx [.agg #[.int .i64 v89.1.fn, .int .i64 v89.1.regs, .slice b94 v89.1.code.length c95, .slice b98 v89.1.metas.length c99], .int .i64 v89.2] rfl tz rfl) (ry hO rfl (yx [.agg #[.int .i64 v89.1.fn, .int .i64 v89.1.regs, .slice b94 v89.1.code.length c95, .slice b98 v89.1.metas.length c99], .int .i64 v89.2] rfl tz rfl) (rd' tz (og_alloc hO rfl tz_28 (fun b114 w115 hO => ?_)))))
 have hO : Own _ M92 ([(b114, .cells #[.int .i64 0, .int .i64 0, .slice none 0 0, .slice none 0 0] 28)] ++ (rs96 ++ (rs75 ++ ([(b65, .cells #[.int .i64 v43.1.fn, .int .i64 v43.1.regs, .slice b48 v43.1.code.length c49, .slice b52 v43.1.metas.length c53] 28)] ++ (rs50 ++ ([(b10, .cells #[.int .i64 0, .int .i64 4, .slice (some ⟨b8, 0, none⟩) 4 4, .slice none 0 0] 28)] ++ ([(b5, .cells #[.slice (some ⟨b3, 0, none⟩) 1 1] 24)] ++ bs))))))) := hO
 refine rd' tz (og_storeS (vs := [.int .i64 v89.1.fn, .int .i64 v89.1.regs, .slice b94 v89.1.code.length c95, .slice b98 v89.1.metas.length c99]) hO tn_28 rfl rfl rfl (nb rfl) rfl rfl (fun w116 hO => ?_))
 have hO : Own _ M92 ([(b114, .cells #[.int .i64 v89.1.fn, .int .i64 v89.1.regs, .slice b94 v89.1.code.length c95, .slice b98 v89.1.metas.length c99] 28)] ++ (rs96 ++ (rs75 ++ ([(b65, .cells #[.int .i64 v43.1.fn, .int .i64 v43.1.regs, .slice b48 v43.1.code.length c49, .slice b52 v43.1.metas.length c53] 28)] ++ (rs50 ++ ([(b10, .cells #[.int .i64 0, .int .i64 4, .slice (some ⟨b8, 0, none⟩) 4 4, .slice none 0 0] 28)] ++ ([(b5, .cells #[.slice (some ⟨b3, 0, none⟩) 1 1] 24)] ++ bs))))))) := hO
 refine as_ hO rfl rfl (rj (ez (E' := [(0, .bool false), (3, .pointer (some ⟨b65, 0, none⟩)), (4, .int .i64 v43.2), (5, .slice b73 v68.1.length c74), (6, .int .i64 v68.2), (8, .int .i64 v89.2)]) ⟨rfl, rfl, rfl, rfl, rfl, rfl, tz⟩ (et (cq (cq (cr (fb 2 tf_28_2 rfl hO rfl rfl (ry hO rfl (yl tl_25 tz rfl (fun _ h => ob (h.front3) 0 2 rfl rfl)) (ln ts_25 hO rfl rfl ?_)))))))))
 refine ry hO rfl (y_ne tz rfl rfl) (mv hO rfl rfl ?_)
 rcases bt (!decide ((v43.1.code.length : Int) = 4)) with h117 | h117
 ·
  replace hs := cond_t h117 hs
  have h118 : (decide ((v43.1.code.length : Int) = 4)) = false := not_t h117
  refine ry hO rfl (ek (by rw [h117]; rfl)) (ry hO rfl (ek (by rw [h117]; rfl)) (ry hO rfl (ek (by rw [h117]; rfl)) (ry hO rfl (pt tz (by rw [h117]; rfl) rfl) (rj (ez (E' := [(0, .bool false), (3, .pointer (some ⟨b65, 0, none⟩)), (4, .int .i64 v43.2), (5, .slice b73 v68.1.length c74), (6, .int .i64 v68.2), (8, .int .i64 v89.2), (47, .bool true)]) ⟨rfl, rfl, rfl, rfl, rfl, rfl, rfl, tz⟩ (et (cv rfl (cq (cr ?_)))))))))
  refine as_ hO rfl rfl (rj (et (ct (ew' (er (.inl rfl) rfl rfl ?_)))))
  have hO := hO.forget
  have hO := hO.forget
  have hO := hO.forget
  have hO := hO.forget
  have hO := hO.forget
  have hO := hO.forget
  have hO := hO.forget
  obtain rfl := o_ hs
  exact ⟨M92, hle110, hO, rfl⟩
 replace hs := cond_f h117 hs
 have h119 : (decide ((v43.1.code.length : Int) = 4)) = true := not_f h117
 refine ry hO rfl (ym (by rw [h117]; rfl) rfl) (ry hO rfl (y_len ts_46 (by rw [h117]; rfl) rfl) (ry hO rfl (y_ne (by rw [h117]; rfl) rfl rfl) (ry hO rfl (pf tz (by rw [h117]; rfl) rfl) (rj (ez (E' := [(0, .bool false), (3, .pointer (some ⟨b65, 0, none⟩)), (4, .int .i64 v43.2), (5, .slice b73 v68.1.length c74), (6, .int .i64 v68.2), (8, .int .i64 v89.2), (47, .bool (!decide ((v68.1.length : Int) = 4)))]) ⟨rfl, rfl, rfl, rfl, rfl, rfl, rfl, tz⟩ (et (cd rfl (fun h120 => ?_) (fun h120 => ?_))))))))
 ·
  replace hs := cond_t h120 hs
  have h121 : (decide ((v68.1.length : Int) = 4)) = false := not_t h120
  refine cq (cr (as_ hO rfl rfl (rj (et (ct (ew' (er (.inl rfl) rfl rfl ?_)))))))
  have hO := hO.forget
  have hO := hO.forget
  have hO := hO.forget
  have hO := hO.forget
  have hO := hO.forget
  have hO := hO.forget
  have hO := hO.forget
  obtain rfl := o_ hs
  exact ⟨M92, hle110, hO, rfl⟩
 replace hs := cond_f h120 hs
 have h122 : (decide ((v68.1.length : Int) = 4)) = true := not_f h120
 refine cp (et (cq (cr (mv hO rfl rfl ?_))))
 obtain ⟨v123, hv124, hs⟩ := bind_s hs
 refine rd' tz (oc (vs := [.int .i64 v43.2]) tcall_8 rfl rfl (c_Num v43.2  hv124 hO) ?_)
 rintro _ w125 ⟨M126, le127, hO, rfl⟩
 refine ⟨_, rfl, ?_⟩
 have r128 := r101.mono le127
 have r129 := r97.mono le127
 have s130 := s100.mono le127
 have r131 := r102.mono le127
 have s132 := s103.mono le127
 have hk133 := hk104.mono le127
 have at134 := at105.mono le127
 have hk135 := hk106.mono le127
 have at136 := at107.mono le127
 have hk137 := hk108.mono le127
 have at138 := at109.mono le127
 have hle139 := m_ hle110 le127
 have kl140 := m_ kl111 le127
 have kl141 := m_ kl112 le127
 have kl142 := m_ kl113 le127
 have hO : Own _ M126 ([(b114, .cells #[.int .i64 v89.1.fn, .int .i64 v89.1.regs, .slice b94 v89.1.code.length c95, .slice b98 v89.1.metas.length c99] 28)] ++ (rs96 ++ (rs75 ++ ([(b65, .cells #[.int .i64 v43.1.fn, .int .i64 v43.1.regs, .slice b48 v43.1.code.length c49, .slice b52 v43.1.metas.length c53] 28)] ++ (rs50 ++ ([(b10, .cells #[.int .i64 0, .int .i64 4, .slice (some ⟨b8, 0, none⟩) 4 4, .slice none 0 0] 28)] ++ ([(b5, .cells #[.slice (some ⟨b3, 0, none⟩) 1 1] 24)] ++ bs))))))) := hO
 refine ry hO rfl (ye tz rfl rfl) (mv hO rfl rfl ?_)
 rcases bt (decide (v123 = 0)) with h143 | h143
 ·
  replace hs := cond_t h143 hs
  refine ry hO rfl (ym (by rw [h143]; rfl) rfl) ?_
  obtain ⟨v144, hv145, hs⟩ := bind_s hs
  refine rd' (by rw [h143]; rfl) (oc (vs := [.int .i64 v68.2]) tcall_8 rfl rfl (c_Num v68.2  hv145 hO) ?_)
  rintro _ w146 ⟨M147, le148, hO, rfl⟩
  refine ⟨_, rfl, ?_⟩
  have r149 := r128.mono le148
  have r150 := r129.mono le148
  have s151 := s130.mono le148
  have r152 := r131.mono le148
  have s153 := s132.mono le148
  have hk154 := hk133.mono le148
  have at155 := at134.mono le148
  have hk156 := hk135.mono le148
  have at157 := at136.mono le148
  have hk158 := hk137.mono le148
  have at159 := at138.mono le148
  have hle160 := m_ hle139 le148
  have kl161 := m_ kl140 le148
  have kl162 := m_ kl141 le148
  have kl163 := m_ kl142 le148
  have hO : Own _ M147 ([(b114, .cells #[.int .i64 v89.1.fn, .int .i64 v89.1.regs, .slice b94 v89.1.code.length c95, .slice b98 v89.1.metas.length c99] 28)] ++ (rs96 ++ (rs75 ++ ([(b65, .cells #[.int .i64 v43.1.fn, .int .i64 v43.1.regs, .slice b48 v43.1.code.length c49, .slice b52 v43.1.metas.length c53] 28)] ++ (rs50 ++ ([(b10, .cells #[.int .i64 0, .int .i64 4, .slice (some ⟨b8, 0, none⟩) 4 4, .slice none 0 0] 28)] ++ ([(b5, .cells #[.slice (some ⟨b3, 0, none⟩) 1 1] 24)] ++ bs))))))) := hO
  refine ry hO rfl (ye (by rw [h143]; rfl) rfl rfl) (ry hO rfl (pt tz (by rw [h143]; rfl) rfl) (mv hO rfl rfl ?_))
  rcases bt (decide (v144 = 0)) with h164 | h164
  ·
   replace hs := cond_t h164 hs
   refine ry hO rfl (ym (by rw [h164]; rfl) rfl) ?_
   obtain ⟨v165, hv166, hs⟩ := bind_s hs
   refine rd' (by rw [h164]; rfl) (oc (vs := [.int .i64 v89.2]) tcall_8 rfl rfl (c_Num v89.2  hv166 hO) ?_)
   rintro _ w167 ⟨M168, le169, hO, rfl⟩
   refine ⟨_, rfl, ?_⟩
   have r170 := r149.mono le169
   have r171 := r150.mono le169
   have s172 := s151.mono le169
   have r173 := r152.mono le169
   have s174 := s153.mono le169
   have hk175 := hk154.mono le169
   have at176 := at155.mono le169
   have hk177 := hk156.mono le169
   have at178 := at157.mono le169
   have hk179 := hk158.mono le169
   have at180 := at159.mono le169
   have hle181 := m_ hle160 le169
   have kl182 := m_ kl161 le169
   have kl183 := m_ kl162 le169
   have kl184 := m_ kl163 le169
   have hO : Own _ M168 ([(b114, .cells #[.int .i64 v89.1.fn, .int .i64 v89.1.regs, .slice b94 v89.1.code.length c95, .slice b98 v89.1.metas.length c99] 28)] ++ (rs96 ++ (rs75 ++ ([(b65, .cells #[.int .i64 v43.1.fn, .int .i64 v43.1.regs, .slice b48 v43.1.code.length c49, .slice b52 v43.1.metas.length c53] 28)] ++ (rs50 ++ ([(b10, .cells #[.int .i64 0, .int .i64 4, .slice (some ⟨b8, 0, none⟩) 4 4, .slice none 0 0] 28)] ++ ([(b5, .cells #[.slice (some ⟨b3, 0, none⟩) 1 1] 24)] ++ bs))))))) := hO
   refine ry hO rfl (ye (by rw [h164]; rfl) rfl rfl) (ry hO rfl (pt tz (by rw [h164]; rfl) rfl) (mv hO rfl rfl ?_))
   rcases bt (decide (v165 = 1700)) with h185 | h185
   ·
    replace hs := cond_t h185 hs
    refine ry hO rfl (yf 2 tf_28_2 rfl (by rw [h185]; rfl) rfl) (ry hO rfl (yl tl_25 (by rw [h185]; rfl) rfl (fun _ h => ob (h.front3) 0 2 rfl rfl)) ?_)
    obtain ⟨hg186, hs⟩ := grd hs
    obtain ⟨b187, o188, rfl⟩ := Rw.ofs r173 (i := 0) (by exact ib hg186)
    have hO : Own w167 M168 ([(b114, .cells #[.int .i64 v89.1.fn, .int .i64 v89.1.regs, .slice b94 v89.1.code.length c95, .slice b98 v89.1.metas.length c99] 28)] ++ (rs96 ++ (rs75 ++ ([(b65, .cells #[.int .i64 v43.1.fn, .int .i64 v43.1.regs, .slice (some ⟨b187, o188, none⟩) v43.1.code.length c49, .slice b52 v43.1.metas.length c53] 28)] ++ (rs50 ++ ([(b10, .cells #[.int .i64 0, .int .i64 4, .slice (some ⟨b8, 0, none⟩) 4 4, .slice none 0 0] 28)] ++ ([(b5, .cells #[.slice (some ⟨b3, 0, none⟩) 1 1] 24)] ++ bs))))))) := by assumption
    refine ry hO rfl (yi ts_25 (by rw [h185]; rfl) rfl rfl (by exact inb_0 hg186) (by exact inb_lt hg186)) (ry hO rfl (ya tf_38_0 (by rw [h185]; rfl) rfl) ?_)
    obtain ⟨vs189, hr190, hc191⟩ := Rw.cells (t := [(b114, .cells #[.int .i64 v89.1.fn, .int .i64 v89.1.regs, .slice b94 v89.1.code.length c95, .slice b98 v89.1.metas.length c99] 28)] ++ (rs96 ++ (rs75 ++ ([(b65, .cells #[.int .i64 v43.1.fn, .int .i64 v43.1.regs, .slice (some ⟨b187, o188, none⟩) v43.1.code.length c49, .slice b52 v43.1.metas.length c53] 28)] ++ ([(b10, .cells #[.int .i64 0, .int .i64 4, .slice (some ⟨b8, 0, none⟩) 4 4, .slice none 0 0] 28)] ++ ([(b5, .cells #[.slice (some ⟨b3, 0, none⟩) 1 1] 24)] ++ bs)))))) r173 0 (by exact ib hg186)
    obtain ⟨b192, c193, rfl, s194⟩ := hr190
    refine ry hO rfl (yl tl_3 (by rw [h185]; rfl) rfl (fun w h => hc191 w (h.front4) 0 _ rfl)) (ry hO rfl (ye (by rw [h185]; rfl) rfl rfl) (ry hO rfl (pt tz (by rw [h185]; rfl) rfl) (mv hO rfl rfl ?_)))
    rcases bt (decide ((nth v43.1.code 0).kind = 0)) with h195 | h195
    ·
     replace hs := cond_t h195 hs
     refine ry hO rfl (yf 2 tf_28_2 rfl (by rw [h195]; rfl) rfl) (ry hO rfl (yl tl_25 (by rw [h195]; rfl) rfl (fun _ h => ob (h.front3) 0 2 rfl rfl)) ?_)
     obtain ⟨hg196, hs⟩ := grd hs
     refine ry hO rfl (yi ts_25 (by rw [h195]; rfl) rfl rfl (by exact inb_0 hg196) (by exact inb_lt hg196)) (ry hO rfl (ya tf_38_0 (by rw [h195]; rfl) rfl) ?_)
     obtain ⟨vs197, hr198, hc199⟩ := Rw.cells (t := [(b114, .cells #[.int .i64 v89.1.fn, .int .i64 v89.1.regs, .slice b94 v89.1.code.length c95, .slice b98 v89.1.metas.length c99] 28)] ++ (rs96 ++ (rs75 ++ ([(b65, .cells #[.int .i64 v43.1.fn, .int .i64 v43.1.regs, .slice (some ⟨b187, o188, none⟩) v43.1.code.length c49, .slice b52 v43.1.metas.length c53] 28)] ++ ([(b10, .cells #[.int .i64 0, .int .i64 4, .slice (some ⟨b8, 0, none⟩) 4 4, .slice none 0 0] 28)] ++ ([(b5, .cells #[.slice (some ⟨b3, 0, none⟩) 1 1] 24)] ++ bs)))))) r173 1 (by exact ib hg196)
     obtain ⟨b200, c201, rfl, s202⟩ := hr198
     refine ry hO rfl (yl tl_3 (by rw [h195]; rfl) rfl (fun w h => hc199 w (h.front4) 0 _ rfl)) (ry hO rfl (ye (by rw [h195]; rfl) rfl rfl) (ry hO rfl (pt tz (by rw [h195]; rfl) rfl) (mv hO rfl rfl ?_)))
     rcases bt (decide ((nth v43.1.code 1).kind = 0)) with h203 | h203
     ·
      replace hs := cond_t h203 hs
      refine ry hO rfl (yf 2 tf_28_2 rfl (by rw [h203]; rfl) rfl) (ry hO rfl (yl tl_25 (by rw [h203]; rfl) rfl (fun _ h => ob (h.front3) 0 2 rfl rfl)) ?_)
      obtain ⟨hg204, hs⟩ := grd hs
      refine ry hO rfl (yi ts_25 (by rw [h203]; rfl) rfl rfl (by exact inb_0 hg204) (by exact inb_lt hg204)) (ry hO rfl (ya tf_38_0 (by rw [h203]; rfl) rfl) ?_)
      obtain ⟨vs205, hr206, hc207⟩ := Rw.cells (t := [(b114, .cells #[.int .i64 v89.1.fn, .int .i64 v89.1.regs, .slice b94 v89.1.code.length c95, .slice b98 v89.1.metas.length c99] 28)] ++ (rs96 ++ (rs75 ++ ([(b65, .cells #[.int .i64 v43.1.fn, .int .i64 v43.1.regs, .slice (some ⟨b187, o188, none⟩) v43.1.code.length c49, .slice b52 v43.1.metas.length c53] 28)] ++ ([(b10, .cells #[.int .i64 0, .int .i64 4, .slice (some ⟨b8, 0, none⟩) 4 4, .slice none 0 0] 28)] ++ ([(b5, .cells #[.slice (some ⟨b3, 0, none⟩) 1 1] 24)] ++ bs)))))) r173 2 (by exact ib hg204)
      obtain ⟨b208, c209, rfl, s210⟩ := hr206
      refine ry hO rfl (yl tl_3 (by rw [h203]; rfl) rfl (fun w h => hc207 w (h.front4) 0 _ rfl)) (ry hO rfl (ye (by rw [h203]; rfl) rfl rfl) (ry hO rfl (pt tz (by rw [h203]; rfl) rfl) (mv hO rfl rfl ?_)))
      rcases bt (decide ((nth v43.1.code 2).kind = 3)) with h211 | h211
      ·
       replace hs := cond_t h211 hs
       refine ry hO rfl (ym (by rw [h211]; rfl) rfl) ?_
       obtain ⟨hg212, hs⟩ := grd hs
       obtain ⟨b213, o214, rfl⟩ := Rw.ofs r170 (i := 1) (by exact ib hg212)
       have hO : Own w167 M168 ([(b114, .cells #[.int .i64 v89.1.fn, .int .i64 v89.1.regs, .slice b94 v89.1.code.length c95, .slice b98 v89.1.metas.length c99] 28)] ++ (rs96 ++ (rs75 ++ ([(b65, .cells #[.int .i64 v43.1.fn, .int .i64 v43.1.regs, .slice (some ⟨b187, o188, none⟩) v43.1.code.length c49, .slice b52 v43.1.metas.length c53] 28)] ++ (rs50 ++ ([(b10, .cells #[.int .i64 0, .int .i64 4, .slice (some ⟨b8, 0, none⟩) 4 4, .slice none 0 0] 28)] ++ ([(b5, .cells #[.slice (some ⟨b3, 0, none⟩) 1 1] 24)] ++ bs))))))) := by assumption
       refine ry hO rfl (yi ts_46 (by rw [h211]; rfl) rfl rfl (by exact inb_0 hg212) (by exact inb_lt hg212)) ?_
       obtain ⟨vs215, hr216, hc217⟩ := Rw.cells (t := [(b114, .cells #[.int .i64 v89.1.fn, .int .i64 v89.1.regs, .slice b94 v89.1.code.length c95, .slice b98 v89.1.metas.length c99] 28)] ++ (rs96 ++ ([(b65, .cells #[.int .i64 v43.1.fn, .int .i64 v43.1.regs, .slice (some ⟨b187, o188, none⟩) v43.1.code.length c49, .slice b52 v43.1.metas.length c53] 28)] ++ (rs50 ++ ([(b10, .cells #[.int .i64 0, .int .i64 4, .slice (some ⟨b8, 0, none⟩) 4 4, .slice none 0 0] 28)] ++ ([(b5, .cells #[.slice (some ⟨b3, 0, none⟩) 1 1] 24)] ++ bs)))))) r170 1 (by exact ib hg212)
       obtain ⟨b218, c219, rfl, s220⟩ := hr216
       refine ry hO rfl (yl tl_50 (by rw [h211]; rfl) rfl (fun w h => hc217 w (h.front2) 0 _ rfl)) (rd' (by rw [h211]; rfl) (og (vs := [.bool true, .bool true, .bool false, .bool false]) (cs := [.bool true, .bool true, .bool false, .bool false]) (e := 4) hO rfl rfl (fun _ => by kernel_rfl) (fun b221 w222 hO => ?_)))
       have hO : Own _ M168 ([(b221, .cells #[.bool true, .bool true, .bool false, .bool false] 4)] ++ ([(b114, .cells #[.int .i64 v89.1.fn, .int .i64 v89.1.regs, .slice b94 v89.1.code.length c95, .slice b98 v89.1.metas.length c99] 28)] ++ (rs96 ++ (rs75 ++ ([(b65, .cells #[.int .i64 v43.1.fn, .int .i64 v43.1.regs, .slice (some ⟨b187, o188, none⟩) v43.1.code.length c49, .slice b52 v43.1.metas.length c53] 28)] ++ (rs50 ++ ([(b10, .cells #[.int .i64 0, .int .i64 4, .slice (some ⟨b8, 0, none⟩) 4 4, .slice none 0 0] 28)] ++ ([(b5, .cells #[.slice (some ⟨b3, 0, none⟩) 1 1] 24)] ++ bs)))))))) := hO
       obtain ⟨M223, le224, hO, hk225, hn226, hd227⟩ := Own.keeps (rs := [(b221, .cells #[.bool true, .bool true, .bool false, .bool false] 4)]) hO
       have r228 := r170.mono le224
       have r229 := r173.mono le224
       have s230 := s220.mono le224
       have r231 := r171.mono le224
       have s232 := s172.mono le224
       have s233 := s174.mono le224
       have hk234 := hk175.mono le224
       have at235 := at176.mono le224
       have hk236 := hk177.mono le224
       have at237 := at178.mono le224
       have hk238 := hk179.mono le224
       have at239 := at180.mono le224
       have hle240 := m_ hle181 le224
       have kl241 := m_ kl182 le224
       have kl242 := m_ kl183 le224
       have kl243 := m_ kl184 le224
       have at244 := Has.at (vs := [.bool true, .bool true, .bool false, .bool false]) hk225 rfl
       have s245 : RdS M223 (some ⟨b221, 0, none⟩) 4 ([true, true, false, false] : List Bool) := (Rw.lit (M := M223) (b := b221) (e := 4) (cs := [.bool true, .bool true, .bool false, .bool false]) (RdL.cons (α := Bool) (us := [.bool true]) (x := true) rfl (RdL.cons (α := Bool) (us := [.bool true]) (x := true) rfl (RdL.cons (α := Bool) (us := [.bool false]) (x := false) rfl (RdL.cons (α := Bool) (us := [.bool false]) (x := false) rfl (RdL.nil _))))) (by simp [Rep.sz])).kept hk225 (mr _)
       obtain ⟨v246, hv247, hs⟩ := bind_s hs
       refine rd' (by rw [h211]; rfl) (oc (vs := [.slice b218 (((nth v68.1 1)).length) c219, .slice (some ⟨b221, 0, none⟩) 4 4]) tcall_13 rfl rfl (c_SameBools (nth v68.1 1) ([true, true, false, false] : List Bool) s230 s245 hv247 hO) ?_)
       rintro _ w248 ⟨M249, le250, hO, rfl⟩
       refine ⟨_, rfl, ?_⟩
       have r251 := r228.mono le250
       have r252 := r229.mono le250
       have s253 := s230.mono le250
       have r254 := r231.mono le250
       have s255 := s232.mono le250
       have s256 := s233.mono le250
       have hk257 := hk234.mono le250
       have at258 := at235.mono le250
       have hk259 := hk236.mono le250
       have at260 := at237.mono le250
       have hk261 := hk238.mono le250
       have at262 := at239.mono le250
       have hk263 := hk225.mono le250
       have at264 := at244.mono le250
       have hle265 := m_ hle240 le250
       have kl266 := m_ kl241 le250
       have kl267 := m_ kl242 le250
       have kl268 := m_ kl243 le250
       have kl269 := m_ le224 le250
       have hO : Own _ M249 ([(b114, .cells #[.int .i64 v89.1.fn, .int .i64 v89.1.regs, .slice b94 v89.1.code.length c95, .slice b98 v89.1.metas.length c99] 28)] ++ (rs96 ++ (rs75 ++ ([(b65, .cells #[.int .i64 v43.1.fn, .int .i64 v43.1.regs, .slice (some ⟨b187, o188, none⟩) v43.1.code.length c49, .slice b52 v43.1.metas.length c53] 28)] ++ (rs50 ++ ([(b10, .cells #[.int .i64 0, .int .i64 4, .slice (some ⟨b8, 0, none⟩) 4 4, .slice none 0 0] 28)] ++ ([(b5, .cells #[.slice (some ⟨b3, 0, none⟩) 1 1] 24)] ++ bs))))))) := hO
       refine ry hO rfl (pt tz (by rw [h211]; rfl) rfl) (as_ hO rfl rfl (rj (ez (E' := [(0, .bool v246)]) ⟨rfl, tz⟩ (et (ct (er (.inl rfl) rfl rfl ?_))))))
       have hO := hO.forget
       have hO := hO.forget
       have hO := hO.forget
       have hO := hO.forget
       have hO := hO.forget
       have hO := hO.forget
       have hO := hO.forget
       obtain rfl := o_ hs
       exact ⟨M249, hle265, hO, rfl⟩
      replace hs := cond_f h211 hs
      refine ry hO rfl (ek (by rw [h211]; rfl)) (ry hO rfl (ek (by rw [h211]; rfl)) (ry hO rfl (ek (by rw [h211]; rfl)) (ry hO rfl (ek (by rw [h211]; rfl)) (ry hO rfl (ek (by rw [h211]; rfl)) (ry hO rfl (pf tz (by rw [h211]; rfl) rfl) (as_ hO rfl rfl (rj (ez (E' := [(0, .bool false)]) ⟨rfl, tz⟩ (et ?_)))))))))
      refine ct (er (.inl rfl) rfl rfl ?_)
      have hO := hO.forget
      have hO := hO.forget
      have hO := hO.forget
      have hO := hO.forget
      have hO := hO.forget
      have hO := hO.forget
      have hO := hO.forget
      obtain rfl := o_ hs
      exact ⟨M168, hle181, hO, rfl⟩
     replace hs := cond_f h203 hs
     refine ry hO rfl (ek (by rw [h203]; rfl)) (ry hO rfl (ek (by rw [h203]; rfl)) (ry hO rfl (ek (by rw [h203]; rfl)) (ry hO rfl (ek (by rw [h203]; rfl)) (ry hO rfl (ek (by rw [h203]; rfl)) (ry hO rfl (ek (by rw [h203]; rfl)) (ry hO rfl (pf tz (by rw [h203]; rfl) rfl) (mv hO rfl rfl (ry hO rfl (ek rfl) (ry hO rfl (ek rfl) ?_)))))))))
     refine ry hO rfl (ek rfl) (ry hO rfl (ek rfl) (ry hO rfl (ek rfl) (ry hO rfl (pf tz rfl rfl) (as_ hO rfl rfl (rj (ez (E' := [(0, .bool false)]) ⟨rfl, tz⟩ (et (ct (er (.inl rfl) rfl rfl ?_)))))))))
     have hO := hO.forget
     have hO := hO.forget
     have hO := hO.forget
     have hO := hO.forget
     have hO := hO.forget
     have hO := hO.forget
     have hO := hO.forget
     obtain rfl := o_ hs
     exact ⟨M168, hle181, hO, rfl⟩
    replace hs := cond_f h195 hs
    refine ry hO rfl (ek (by rw [h195]; rfl)) (ry hO rfl (ek (by rw [h195]; rfl)) (ry hO rfl (ek (by rw [h195]; rfl)) (ry hO rfl (ek (by rw [h195]; rfl)) (ry hO rfl (ek (by rw [h195]; rfl)) (ry hO rfl (ek (by rw [h195]; rfl)) (ry hO rfl (pf tz (by rw [h195]; rfl) rfl) (mv hO rfl rfl (ry hO rfl (ek rfl) (ry hO rfl (ek rfl) ?_)))))))))
    refine ry hO rfl (ek rfl) (ry hO rfl (ek rfl) (ry hO rfl (ek rfl) (ry hO rfl (ek rfl) (ry hO rfl (pf tz rfl rfl) (mv hO rfl rfl (ry hO rfl (ek rfl) (ry hO rfl (ek rfl) (ry hO rfl (ek rfl) (ry hO rfl (ek rfl) ?_)))))))))
    refine ry hO rfl (ek rfl) (ry hO rfl (pf tz rfl rfl) (as_ hO rfl rfl (rj (ez (E' := [(0, .bool false)]) ⟨rfl, tz⟩ (et (ct (er (.inl rfl) rfl rfl ?_)))))))
    have hO := hO.forget
    have hO := hO.forget
    have hO := hO.forget
    have hO := hO.forget
    have hO := hO.forget
    have hO := hO.forget
    have hO := hO.forget
    obtain rfl := o_ hs
    exact ⟨M168, hle181, hO, rfl⟩
   replace hs := cond_f h185 hs
   refine ry hO rfl (ek (by rw [h185]; rfl)) (ry hO rfl (ek (by rw [h185]; rfl)) (ry hO rfl (ek (by rw [h185]; rfl)) (ry hO rfl (ek (by rw [h185]; rfl)) (ry hO rfl (ek (by rw [h185]; rfl)) (ry hO rfl (ek (by rw [h185]; rfl)) (ry hO rfl (pf tz (by rw [h185]; rfl) rfl) (mv hO rfl rfl (ry hO rfl (ek rfl) (ry hO rfl (ek rfl) ?_)))))))))
   refine ry hO rfl (ek rfl) (ry hO rfl (ek rfl) (ry hO rfl (ek rfl) (ry hO rfl (ek rfl) (ry hO rfl (pf tz rfl rfl) (mv hO rfl rfl (ry hO rfl (ek rfl) (ry hO rfl (ek rfl) (ry hO rfl (ek rfl) (ry hO rfl (ek rfl) ?_)))))))))
   refine ry hO rfl (ek rfl) (ry hO rfl (ek rfl) (ry hO rfl (pf tz rfl rfl) (mv hO rfl rfl (ry hO rfl (ek rfl) (ry hO rfl (ek rfl) (ry hO rfl (ek rfl) (ry hO rfl (ek rfl) (ry hO rfl (ek rfl) (ry hO rfl (pf tz rfl rfl) ?_)))))))))
   refine as_ hO rfl rfl (rj (ez (E' := [(0, .bool false)]) ⟨rfl, tz⟩ (et (ct (er (.inl rfl) rfl rfl ?_)))))
   have hO := hO.forget
   have hO := hO.forget
   have hO := hO.forget
   have hO := hO.forget
   have hO := hO.forget
   have hO := hO.forget
   have hO := hO.forget
   obtain rfl := o_ hs
   exact ⟨M168, hle181, hO, rfl⟩
  replace hs := cond_f h164 hs
  refine ry hO rfl (ek (by rw [h164]; rfl)) (ry hO rfl (ek (by rw [h164]; rfl)) (ry hO rfl (ek (by rw [h164]; rfl)) (ry hO rfl (pf tz (by rw [h164]; rfl) rfl) (mv hO rfl rfl (ry hO rfl (ek rfl) (ry hO rfl (ek rfl) (ry hO rfl (ek rfl) (ry hO rfl (ek rfl) (ry hO rfl (ek rfl) ?_)))))))))
  refine ry hO rfl (ek rfl) (ry hO rfl (pf tz rfl rfl) (mv hO rfl rfl (ry hO rfl (ek rfl) (ry hO rfl (ek rfl) (ry hO rfl (ek rfl) (ry hO rfl (ek rfl) (ry hO rfl (ek rfl) (ry hO rfl (ek rfl) (ry hO rfl (pf tz rfl rfl) ?_)))))))))
  refine mv hO rfl rfl (ry hO rfl (ek rfl) (ry hO rfl (ek rfl) (ry hO rfl (ek rfl) (ry hO rfl (ek rfl) (ry hO rfl (ek rfl) (ry hO rfl (ek rfl) (ry hO rfl (pf tz rfl rfl) (mv hO rfl rfl (ry hO rfl (ek rfl) ?_)))))))))
  refine ry hO rfl (ek rfl) (ry hO rfl (ek rfl) (ry hO rfl (ek rfl) (ry hO rfl (ek rfl) (ry hO rfl (pf tz rfl rfl) (as_ hO rfl rfl (rj (ez (E' := [(0, .bool false)]) ⟨rfl, tz⟩ (et (ct ?_)))))))))
  refine er (.inl rfl) rfl rfl ?_
  have hO := hO.forget
  have hO := hO.forget
  have hO := hO.forget
  have hO := hO.forget
  have hO := hO.forget
  have hO := hO.forget
  have hO := hO.forget
  obtain rfl := o_ hs
  exact ⟨M147, hle160, hO, rfl⟩
 replace hs := cond_f h143 hs
 refine ry hO rfl (ek (by rw [h143]; rfl)) (ry hO rfl (ek (by rw [h143]; rfl)) (ry hO rfl (ek (by rw [h143]; rfl)) (ry hO rfl (pf tz (by rw [h143]; rfl) rfl) (mv hO rfl rfl (ry hO rfl (ek rfl) (ry hO rfl (ek rfl) (ry hO rfl (ek rfl) (ry hO rfl (pf tz rfl rfl) (mv hO rfl rfl ?_)))))))))
 refine ry hO rfl (ek rfl) (ry hO rfl (ek rfl) (ry hO rfl (ek rfl) (ry hO rfl (ek rfl) (ry hO rfl (ek rfl) (ry hO rfl (ek rfl) (ry hO rfl (pf tz rfl rfl) (mv hO rfl rfl (ry hO rfl (ek rfl) (ry hO rfl (ek rfl) ?_)))))))))
 refine ry hO rfl (ek rfl) (ry hO rfl (ek rfl) (ry hO rfl (ek rfl) (ry hO rfl (ek rfl) (ry hO rfl (pf tz rfl rfl) (mv hO rfl rfl (ry hO rfl (ek rfl) (ry hO rfl (ek rfl) (ry hO rfl (ek rfl) (ry hO rfl (ek rfl) ?_)))))))))
 refine ry hO rfl (ek rfl) (ry hO rfl (ek rfl) (ry hO rfl (pf tz rfl rfl) (mv hO rfl rfl (ry hO rfl (ek rfl) (ry hO rfl (ek rfl) (ry hO rfl (ek rfl) (ry hO rfl (ek rfl) (ry hO rfl (ek rfl) (ry hO rfl (pf tz rfl rfl) ?_)))))))))
 refine as_ hO rfl rfl (rj (ez (E' := [(0, .bool false)]) ⟨rfl, tz⟩ (et (ct (er (.inl rfl) rfl rfl ?_)))))
 have hO := hO.forget
 have hO := hO.forget
 have hO := hO.forget
 have hO := hO.forget
 have hO := hO.forget
 have hO := hO.forget
 have hO := hO.forget
 obtain rfl := o_ hs
 exact ⟨M126, hle139, hO, rfl⟩

end Go.Proofs.YtdniefnjgkhkeaaDoor
