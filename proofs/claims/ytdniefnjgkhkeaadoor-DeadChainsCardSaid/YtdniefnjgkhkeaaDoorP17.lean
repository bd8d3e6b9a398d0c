/-
  What the laws of chapter 17 answer, by computation on plain data: awake, DeadChains, LiveLoop answer true.
  Conditions: none.
-/
import Derived.Test.YtdniefnjgkhkeaaDoorA4
import Derived.KernelRfl
namespace Go.Proofs.YtdniefnjgkhkeaaDoor
set_option linter.unusedVariables false
set_option linter.unusedSimpArgs false
open Go
theorem awake_ok : s_awake 64 = some true := by kernel_rfl
theorem mask_lt (x : Int) (m : Nat) : (BitVec.ofInt 64 x &&& BitVec.ofInt 64 m).toNat ≤ m % 2 ^ 64 := by
  rw [BitVec.toNat_and]
  refine Nat.le_trans Nat.and_le_right ?_
  simp
theorem wrap_mask (x : Int) (m : Nat) (hm : m < 1000) : ∃ j : Nat, j ≤ m ∧ IntKind.i64.wrap ((BitVec.ofInt 64 x &&& BitVec.ofInt 64 m).toNat : Int) = j := by
  have h := mask_lt x m
  rw [Nat.mod_eq_of_lt (by omega)] at h
  exact ⟨_, h, wd (by omega) (by omega)⟩
theorem ch_t0 : s_DeadChains_L0 64 true ((0 : Nat) : Int) 64 ([] : List Ir) 0 = some true := by kernel_rfl
theorem ch_t1 : s_DeadChains_L0 64 true ((1 : Nat) : Int) 64 ([] : List Ir) 0 = some true := by kernel_rfl
theorem ch_t2 : s_DeadChains_L0 64 true ((2 : Nat) : Int) 64 ([] : List Ir) 0 = some true := by kernel_rfl
theorem ch_t3 : s_DeadChains_L0 64 true ((3 : Nat) : Int) 64 ([] : List Ir) 0 = some true := by kernel_rfl
theorem ch_t4 : s_DeadChains_L0 64 true ((4 : Nat) : Int) 64 ([] : List Ir) 0 = some true := by kernel_rfl
theorem ch_t5 : s_DeadChains_L0 64 true ((5 : Nat) : Int) 64 ([] : List Ir) 0 = some true := by kernel_rfl
theorem ch_t6 : s_DeadChains_L0 64 true ((6 : Nat) : Int) 64 ([] : List Ir) 0 = some true := by kernel_rfl
theorem ch_t7 : s_DeadChains_L0 64 true ((7 : Nat) : Int) 64 ([] : List Ir) 0 = some true := by kernel_rfl
theorem ch_f0 : s_DeadChains_L0 64 false ((0 : Nat) : Int) 64 ([] : List Ir) 0 = some true := by kernel_rfl
theorem ch_f1 : s_DeadChains_L0 64 false ((1 : Nat) : Int) 64 ([] : List Ir) 0 = some true := by kernel_rfl
theorem ch_f2 : s_DeadChains_L0 64 false ((2 : Nat) : Int) 64 ([] : List Ir) 0 = some true := by kernel_rfl
theorem ch_f3 : s_DeadChains_L0 64 false ((3 : Nat) : Int) 64 ([] : List Ir) 0 = some true := by kernel_rfl
theorem ch_f4 : s_DeadChains_L0 64 false ((4 : Nat) : Int) 64 ([] : List Ir) 0 = some true := by kernel_rfl
theorem ch_f5 : s_DeadChains_L0 64 false ((5 : Nat) : Int) 64 ([] : List Ir) 0 = some true := by kernel_rfl
theorem ch_f6 : s_DeadChains_L0 64 false ((6 : Nat) : Int) 64 ([] : List Ir) 0 = some true := by kernel_rfl
theorem ch_f7 : s_DeadChains_L0 64 false ((7 : Nat) : Int) 64 ([] : List Ir) 0 = some true := by kernel_rfl
theorem chains_run : ∀ (read : Bool) (j : Nat), j ≤ 7 → s_DeadChains_L0 64 read (j : Int) 64 ([] : List Ir) 0 = some true := by
  intro read j hj
  have : j = 0 ∨ j = 1 ∨ j = 2 ∨ j = 3 ∨ j = 4 ∨ j = 5 ∨ j = 6 ∨ j = 7 := by omega
  rcases this with rfl | rfl | rfl | rfl | rfl | rfl | rfl | rfl <;> cases read
  · exact ch_f0
  · exact ch_t0
  · exact ch_f1
  · exact ch_t1
  · exact ch_f2
  · exact ch_t2
  · exact ch_f3
  · exact ch_t3
  · exact ch_f4
  · exact ch_t4
  · exact ch_f5
  · exact ch_t5
  · exact ch_f6
  · exact ch_t6
  · exact ch_f7
  · exact ch_t7
theorem chains_ok (many : Int) (read : Bool) : s_DeadChains 64 many read = some true := by
  obtain ⟨j, hj, e⟩ := wrap_mask many 7 (by omega)
  unfold s_DeadChains
  rw [awake_ok, show (BitVec.ofInt 64 7) = BitVec.ofInt 64 ((7 : Nat) : Int) from rfl, e]
  exact chains_run read j hj
theorem lo_0 : s_LiveLoop_L0 64 ((0 : Nat) : Int) 64 ([(⟨7, 0, 1, 0, 0, ([] : List Int), 1, 0, 0⟩ : Ir)] : List Ir) 0 = some true := by kernel_rfl
theorem lo_1 : s_LiveLoop_L0 64 ((1 : Nat) : Int) 64 ([(⟨7, 0, 1, 0, 0, ([] : List Int), 1, 0, 0⟩ : Ir)] : List Ir) 0 = some true := by kernel_rfl
theorem lo_2 : s_LiveLoop_L0 64 ((2 : Nat) : Int) 64 ([(⟨7, 0, 1, 0, 0, ([] : List Int), 1, 0, 0⟩ : Ir)] : List Ir) 0 = some true := by kernel_rfl
theorem lo_3 : s_LiveLoop_L0 64 ((3 : Nat) : Int) 64 ([(⟨7, 0, 1, 0, 0, ([] : List Int), 1, 0, 0⟩ : Ir)] : List Ir) 0 = some true := by kernel_rfl
theorem lo_4 : s_LiveLoop_L0 64 ((4 : Nat) : Int) 64 ([(⟨7, 0, 1, 0, 0, ([] : List Int), 1, 0, 0⟩ : Ir)] : List Ir) 0 = some true := by kernel_rfl
theorem lo_5 : s_LiveLoop_L0 64 ((5 : Nat) : Int) 64 ([(⟨7, 0, 1, 0, 0, ([] : List Int), 1, 0, 0⟩ : Ir)] : List Ir) 0 = some true := by kernel_rfl
theorem lo_6 : s_LiveLoop_L0 64 ((6 : Nat) : Int) 64 ([(⟨7, 0, 1, 0, 0, ([] : List Int), 1, 0, 0⟩ : Ir)] : List Ir) 0 = some true := by kernel_rfl
theorem lo_7 : s_LiveLoop_L0 64 ((7 : Nat) : Int) 64 ([(⟨7, 0, 1, 0, 0, ([] : List Int), 1, 0, 0⟩ : Ir)] : List Ir) 0 = some true := by kernel_rfl
theorem lo_8 : s_LiveLoop_L0 64 ((8 : Nat) : Int) 64 ([(⟨7, 0, 1, 0, 0, ([] : List Int), 1, 0, 0⟩ : Ir)] : List Ir) 0 = some true := by kernel_rfl
theorem lo_9 : s_LiveLoop_L0 64 ((9 : Nat) : Int) 64 ([(⟨7, 0, 1, 0, 0, ([] : List Int), 1, 0, 0⟩ : Ir)] : List Ir) 0 = some true := by kernel_rfl
theorem lo_10 : s_LiveLoop_L0 64 ((10 : Nat) : Int) 64 ([(⟨7, 0, 1, 0, 0, ([] : List Int), 1, 0, 0⟩ : Ir)] : List Ir) 0 = some true := by kernel_rfl
theorem lo_11 : s_LiveLoop_L0 64 ((11 : Nat) : Int) 64 ([(⟨7, 0, 1, 0, 0, ([] : List Int), 1, 0, 0⟩ : Ir)] : List Ir) 0 = some true := by kernel_rfl
theorem lo_12 : s_LiveLoop_L0 64 ((12 : Nat) : Int) 64 ([(⟨7, 0, 1, 0, 0, ([] : List Int), 1, 0, 0⟩ : Ir)] : List Ir) 0 = some true := by kernel_rfl
theorem lo_13 : s_LiveLoop_L0 64 ((13 : Nat) : Int) 64 ([(⟨7, 0, 1, 0, 0, ([] : List Int), 1, 0, 0⟩ : Ir)] : List Ir) 0 = some true := by kernel_rfl
theorem lo_14 : s_LiveLoop_L0 64 ((14 : Nat) : Int) 64 ([(⟨7, 0, 1, 0, 0, ([] : List Int), 1, 0, 0⟩ : Ir)] : List Ir) 0 = some true := by kernel_rfl
theorem lo_15 : s_LiveLoop_L0 64 ((15 : Nat) : Int) 64 ([(⟨7, 0, 1, 0, 0, ([] : List Int), 1, 0, 0⟩ : Ir)] : List Ir) 0 = some true := by kernel_rfl
theorem loops_run : ∀ (j : Nat), j ≤ 15 → s_LiveLoop_L0 64 (j : Int) 64 ([(⟨7, 0, 1, 0, 0, ([] : List Int), 1, 0, 0⟩ : Ir)] : List Ir) 0 = some true := by
  intro j hj
  have : j = 0 ∨ j = 1 ∨ j = 2 ∨ j = 3 ∨ j = 4 ∨ j = 5 ∨ j = 6 ∨ j = 7 ∨ j = 8 ∨ j = 9 ∨ j = 10 ∨ j = 11 ∨ j = 12 ∨ j = 13 ∨ j = 14 ∨ j = 15 := by omega
  rcases this with rfl | rfl | rfl | rfl | rfl | rfl | rfl | rfl | rfl | rfl | rfl | rfl | rfl | rfl | rfl | rfl
  · exact lo_0
  · exact lo_1
  · exact lo_2
  · exact lo_3
  · exact lo_4
  · exact lo_5
  · exact lo_6
  · exact lo_7
  · exact lo_8
  · exact lo_9
  · exact lo_10
  · exact lo_11
  · exact lo_12
  · exact lo_13
  · exact lo_14
  · exact lo_15
theorem loop_ok (pad : Int) : s_LiveLoop 64 pad = some true := by
  obtain ⟨j, hj, e⟩ := wrap_mask pad 15 (by omega)
  unfold s_LiveLoop
  rw [awake_ok, show (BitVec.ofInt 64 15) = BitVec.ofInt 64 ((15 : Nat) : Int) from rfl, e]
  exact loops_run j hj
end Go.Proofs.YtdniefnjgkhkeaaDoor
