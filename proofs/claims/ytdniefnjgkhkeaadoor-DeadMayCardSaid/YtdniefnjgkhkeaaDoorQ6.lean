/-
  The law DeadMay answers true, whatever the program and the code.
  Conditions: none.
-/
import Derived.Test.YtdniefnjgkhkeaaDoorQ5
import Derived.KernelRfl
namespace Go.Proofs.YtdniefnjgkhkeaaDoor
set_option linter.unusedVariables false
set_option linter.unusedSimpArgs false
open Go
theorem awake_big : s_awake 20000 = some true := by kernel_rfl
theorem may_L0 {n : Nat} {c : CodeD} {l : List Ir} {z : Int} (hn : 20000 ≤ n) (hw : Wf c) (hd : Drop c.code l) : ∀ (fu k : Nat), k ≤ l.length → l.length < fu + k → s_DeadMay_L0 n c (⟨c.fn, c.regs, l, c.metas⟩, z) fu (k : Int) = some true
  | 0, k, h1, h2 => by omega
  | fu + 1, k, h1, h2 => by
    have hl1 := hw.l1
    have hlen := hd.len
    rw [s_DeadMay_L0]
    show cond (decide ((k : Int) < (l.length : Int))) _ _ = _
    by_cases hk : k < l.length
    · have hk' : k < c.code.length := by omega
      have ih := may_L0 (z := z) hn hw hd fu (k + 1) (by omega) (by omega)
      have ha := hw.an k hk'
      rw [decT (by omega), cond_true]
      show cond (inb (k : Int) l.length) _ _ = _
      rw [inbN hk, cond_true, inbN hk', cond_true]
      simp only [Int.toNat_natCast]
      rw [wI_succ (by omega)]
      rw [ih]
      have hcost : (nth l k).cost = (nth c.code k).cost := by
        rcases hd.el k hk' with e | ⟨_, e⟩ <;> rw [e]; rfl
      have hargs : (nth l k).args.length < 900 := by
        rcases hd.el k hk' with e | ⟨_, e⟩
        · rw [e]; omega
        · rw [e]; simp [nopOf]
      obtain ⟨q, hq1, hq2⟩ := sameIr_some (n := n) (a := nth l k) (b := nth c.code k) (by omega) hargs
      rw [decT hcost, hq1]
      rcases hd.el k hk' with e | ⟨e1, e2⟩
      · rw [hq2 e]
        cases decide ((nth c.code k).kind = 1) <;> cases decide ((nth c.code k).kind = 2) <;> cases decide ((nth c.code k).kind = 3) <;> cases decide ((nth c.code k).k = 6) <;> rfl
      · have hk0 : (nth l k).kind = 0 := by rw [e2]; rfl
        rw [decT hk0]
        unfold dropsB at e1
        by_cases h3 : (nth c.code k).kind = 3
        · rw [if_pos h3] at e1
          simp only [ne_eq, decide_not, Bool.and_eq_true, Bool.not_eq_true', decide_eq_false_iff_not] at e1
          rw [decF (p := (nth c.code k).kind = 1) (by omega), decF (p := (nth c.code k).kind = 2) (by omega), decT h3, decF e1.1, decF e1.2]
          cases q <;> rfl
        · rw [if_neg h3] at e1
          simp only [Bool.or_eq_true, decide_eq_true_eq] at e1
          rcases e1 with h | h
          · rw [decT h]; cases q <;> rfl
          · rw [decF (p := (nth c.code k).kind = 1) (by omega), decT h]; cases q <;> rfl
    · rw [decF (by omega)]; rfl
theorem deadMay_n {n : Nat} (hn : 20000 ≤ n) (ha : s_awake n = some true) (p : Prog) (c : CodeD) : s_DeadMay n p c = some true := by
  unfold s_DeadMay
  rw [ha]
  simp only [Option.bind_some, Bool.not_true, cond_false]
  by_cases hm : irMay p c = true
  · have hw := wf_of hm
    obtain ⟨l, h1, h2, h3⟩ := dead_some (n := n) hn hm hw
    have hw' := hw.drop h2
    have hm' := may_drop hm h2
    have h4 := dead_again (n := n) hn hm' hw' h3
    have hc := sameCode_self (n := n) (by omega) hw'
    rw [h1]
    simp only [Option.bind_some, s_Num, decide_true, Bool.not_true, cond_false]
    rw [h4]
    simp only [Option.bind_some, decide_true, Bool.not_true, cond_false]
    rw [hm', hc]
    simp only [Option.bind_some, Bool.not_true, cond_false, h2.len, decide_true]
    exact may_L0 hn hw h2 n 0 (Nat.zero_le _) (by have := hw.l1; have := h2.len; omega)
  · have hm' : irMay p c = false := by simpa using hm
    unfold s_Dead
    rw [hm']
    rfl
theorem deadMay_ok (p : Prog) (c : CodeD) : s_DeadMay 20000 p c = some true := deadMay_n (Nat.le_refl _) awake_big p c
end Go.Proofs.YtdniefnjgkhkeaaDoor
