/-
  What package dead's functions compute on code that may be, in plain Lean: once and Dead; what is left may be; the law DeadMay answers true.
  Conditions: as each statement says.
-/
import Derived.Test.YtdniefnjgkhkeaaDoorQ3
namespace Go.Proofs.YtdniefnjgkhkeaaDoor
set_option linter.unusedVariables false
set_option linter.unusedSimpArgs false
open Go
/-- An instruction dropped. -/
def nopOf (x : Ir) : Ir := ⟨0, 0, 0, 0, 0, [], x.cost, 0, x.pc⟩
/-- Some instructions were dropped. -/
structure Drop (l l' : List Ir) : Prop where
  len : l'.length = l.length
  el : ∀ i, i < l.length → nth l' i = nth l i ∨ (dropsB (nth l i) = true ∧ nth l' i = nopOf (nth l i))
theorem Drop.refl (l : List Ir) : Drop l l := ⟨rfl, fun _ _ => .inl rfl⟩
theorem nop_drops (x : Ir) : dropsB (nopOf x) = false := rfl
theorem Drop.trans {a b d : List Ir} (h : Drop a b) (h' : Drop b d) : Drop a d := ⟨h'.len.trans h.len, fun i hi => by
  rcases h.el i hi with e | ⟨e1, e2⟩
  · rcases h'.el i (by rw [h.len]; exact hi) with e' | ⟨e3, e4⟩
    · exact .inl (e'.trans e)
    · rw [e] at e3 e4; exact .inr ⟨e3, e4⟩
  · rcases h'.el i (by rw [h.len]; exact hi) with e' | ⟨e3, e4⟩
    · exact .inr ⟨e1, e'.trans e2⟩
    · rw [e2, nop_drops] at e3; cases e3⟩
theorem Drop.set {l0 l : List Ir} (h : Drop l0 l) {k : Nat} (hk : k < l0.length) (hd : dropsB (nth l0 k) = true) : Drop l0 (l.set k (nopOf (nth l k))) := ⟨by rw [List.length_set]; exact h.len, fun i hi => by
  by_cases e : i = k
  · subst e
    rw [nth_set_self (by rw [h.len]; exact hk)]
    rcases h.el i hi with e1 | ⟨_, e2⟩
    · rw [e1]; exact .inr ⟨hd, rfl⟩
    · rw [e2]; exact .inr ⟨hd, rfl⟩
  · rw [nth_set_ne (fun q => e q.symm)]; exact h.el i hi⟩
/-- How many may still be dropped. -/
def pure_ (l : List Ir) : Nat := l.countP dropsB
theorem pure_set {l : List Ir} {k : Nat} (hk : k < l.length) : pure_ (l.set k (nopOf (nth l k))) ≤ pure_ l ∧ (dropsB (nth l k) = true → pure_ (l.set k (nopOf (nth l k))) < pure_ l) := by
  induction l generalizing k with
  | nil => simp at hk
  | cons a l ih => cases k with
    | zero =>
      simp only [List.set_cons_zero, pure_, List.countP_cons, nth, List.getD_cons_zero, nop_drops]
      cases dropsB a <;> simp
    | succ k =>
      have := ih (k := k) (by simpa using hk)
      simp only [pure_, List.set_cons_succ, List.countP_cons, nth, List.getD_cons_succ] at this ⊢
      exact ⟨by omega, fun h => by have := this.2 h; omega⟩
theorem once_L1 {n : Nat} {c : CodeD} {ds : List Int} (hd : ∀ t ∈ ds, 0 ≤ t ∧ t < c.code.length ∧ dropsB (nth c.code t.toNat) = true) (hl : ds.length < 1000) : ∀ (fu k : Nat) (l : List Ir) (y : Bool), Drop c.code l → k ≤ ds.length → ds.length < fu + k → pure_ l ≤ pure_ c.code →
    ((k = 0 ∧ l = c.code ∧ y = false) ∨ (y = true ∧ pure_ l < pure_ c.code)) →
    ∃ l' y', s_once_L1 n c ds fu l y (k : Int) = some (y', ⟨c.fn, c.regs, l', c.metas⟩) ∧ Drop c.code l' ∧ ((y' = false ∧ l' = c.code) ∨ (y' = true ∧ pure_ l' < pure_ c.code))
  | 0, k, l, y, _, h1, h2, _, _ => by omega
  | fu + 1, k, l, y, hD, h1, h2, hp, hy => by
    rw [s_once_L1]
    by_cases hk : k < ds.length
    · have ht := hd _ (nth_mem hk)
      have hkl : (nth ds k).toNat < l.length := by rw [hD.len]; omega
      rw [decT (by omega), cond_true, inbN hk, cond_true, Int.toNat_natCast, inb_of ht.1 (by omega), cond_true, wI_succ (by omega)]
      have hs := pure_set hkl
      refine once_L1 hd hl fu (k + 1) (l.set (nth ds k).toNat (nopOf (nth l (nth ds k).toNat))) true (hD.set (by omega) ht.2.2) (by omega) (by omega) (by omega) (.inr ⟨rfl, ?_⟩)
      rcases hy with ⟨_, rfl, _⟩ | ⟨_, h3⟩
      · exact hs.2 ht.2.2
      · omega
    · rw [decF (by omega), cond_false]
      refine ⟨l, y, rfl, hD, ?_⟩
      rcases hy with ⟨_, h3, h4⟩ | h3
      · exact .inl ⟨h4, h3⟩
      · exact .inr h3
theorem once_L0 {n : Nat} {c : CodeD} {lv : List (List Bool)} (hw : Wf c) (hn : 20000 ≤ n) (hr : Rows' c lv) : ∀ (fu k : Nat) (ds : List Int), ds.length ≤ k → (∀ t ∈ ds, 0 ≤ t ∧ t < c.code.length ∧ dropsB (nth c.code t.toNat) = true) → k ≤ c.code.length → c.code.length < fu + k →
    ∃ l' y', s_once_L0 n c lv fu ds (k : Int) = some (y', ⟨c.fn, c.regs, l', c.metas⟩) ∧ Drop c.code l' ∧ ((y' = false ∧ l' = c.code) ∨ (y' = true ∧ pure_ l' < pure_ c.code))
  | 0, k, ds, _, _, h1, h2 => by omega
  | fu + 1, k, ds, hdl, hd, h1, h2 => by
    have hl1 := hw.l1
    have hr0 := hw.r0
    rw [s_once_L0]
    by_cases hk : k < c.code.length
    · rw [decT (by omega), cond_true, inbN hk, cond_true, Int.toNat_natCast, wI_succ (by omega)]
      cases hdr : dropsB (nth c.code k) with
      | false =>
        rw [cond_false]
        show ∃ l' y', s_once_L0 n c lv fu ds _ = _ ∧ _
        exact once_L0 hw hn hr fu (k + 1) ds (by omega) hd (by omega) (by omega)
      | true =>
        have hst : setsB (nth c.code k).kind = true := by
          unfold dropsB at hdr; unfold setsB
          split at hdr
          · rename_i h; simp [h]
          · simp at hdr; rcases hdr with h | h <;> simp [h]
        have hb := hw.st k hk hst
        rw [cond_true, after_some hw (by omega) hr hk]
        simp only [Option.bind_some]
        rw [inb_of hb.1 (by simp [afterF]; omega), cond_true]
        cases nth (afterF c lv k) (nth c.code k).r.toNat with
        | true =>
          show ∃ l' y', s_once_L0 n c lv fu ds _ = _ ∧ _
          exact once_L0 hw hn hr fu (k + 1) ds (by omega) hd (by omega) (by omega)
        | false =>
          rw [Bool.not_false, cond_true, bigOk (by omega), cond_true]
          show ∃ l' y', s_once_L0 n c lv fu (ds ++ [(k : Int)]) _ = _ ∧ _
          refine once_L0 hw hn hr fu (k + 1) (ds ++ [(k : Int)]) (by simp; omega) (fun t ht => ?_) (by omega) (by omega)
          rcases List.mem_append.1 ht with h | h
          · exact hd t h
          · rw [List.mem_singleton.1 h, Int.toNat_natCast]; exact ⟨by omega, by omega, hdr⟩
    · rw [decF (by omega), cond_false]
      exact once_L1 hd (by omega) n 0 c.code false (Drop.refl _) (Nat.zero_le _) (by omega) (Nat.le_refl _) (.inl ⟨rfl, rfl, rfl⟩)
theorem once_some {n : Nat} {c : CodeD} (hw : Wf c) (hn : 20000 ≤ n) : ∃ l' y', s_once n c = some (y', ⟨c.fn, c.regs, l', c.metas⟩) ∧ Drop c.code l' ∧ ((y' = false ∧ l' = c.code) ∨ (y' = true ∧ pure_ l' < pure_ c.code)) := by
  obtain ⟨lv, h1, h2⟩ := live_some hw hn
  unfold s_once
  rw [h1]
  exact once_L0 hw hn h2 n 0 [] (by simp) (by simp) (Nat.zero_le _) (by have := hw.l1; omega)
/-- Code of which some instructions were dropped looks as it should. -/
theorem Wf.drop {c : CodeD} (hw : Wf c) {l : List Ir} (h : Drop c.code l) : Wf ⟨c.fn, c.regs, l, c.metas⟩ := by
  have hl := h.len
  refine ⟨hw.r0, hw.r1, by rw [hl]; exact hw.l0, by rw [hl]; exact hw.l1, fun i hi => ?_, fun i hi => ?_, fun i hi => ?_, fun i hi => ?_, fun i hi => ?_, fun i hi => ?_, hw.ml, hw.ps, fun i hi => ?_⟩
  all_goals
    have hi' : i < c.code.length := by rw [← hl]; exact hi
    rcases h.el i hi' with e | ⟨e1, e2⟩
  · rw [e]; exact hw.rd i hi'
  · rw [e2]; intro r hr; simp [nopOf, readsL] at hr
  · rw [e]; exact hw.rn i hi'
  · rw [e2]; simp [nopOf, readsL]
  · rw [e]; exact hw.st i hi'
  · rw [e2]; intro q; cases q
  · rw [e, hl]; exact hw.go i hi'
  · rw [e2]; intro q; cases q
  · rw [e, hl]; exact hw.nx i hi'
  · intro _ _
    rw [hl]
    refine hw.nx i hi' (fun q => ?_) (fun q => ?_) <;> simp [dropsB, q] at e1
  · rw [e]; exact hw.mt i hi'
  · rw [e2]; intro q; cases q
  · rw [e]; exact hw.an i hi'
  · rw [e2]; simp [nopOf]
theorem dead_L0 {n : Nat} (hn : 20000 ≤ n) : ∀ (fu : Nat) (c : CodeD), Wf c → pure_ c.code < fu → ∃ l', s_Dead_L0 n fu c.code c.fn c.regs c.metas = some (⟨c.fn, c.regs, l', c.metas⟩, 0) ∧ Drop c.code l' ∧ s_once n ⟨c.fn, c.regs, l', c.metas⟩ = some (false, ⟨c.fn, c.regs, l', c.metas⟩)
  | 0, c, _, h => by omega
  | fu + 1, c, hw, hf => by
    obtain ⟨l', y', h1, h2, h3⟩ := once_some hw hn
    rw [s_Dead_L0]
    rw [show s_once n (⟨c.fn, c.regs, c.code, c.metas⟩ : CodeD) = _ from h1]
    simp only [Option.bind_some]
    rcases h3 with ⟨rfl, rfl⟩ | ⟨rfl, h4⟩
    · exact ⟨_, rfl, h2, h1⟩
    · rw [cond_true]
      obtain ⟨l2, h5, h6, h7⟩ := dead_L0 hn fu ⟨c.fn, c.regs, l', c.metas⟩ (hw.drop h2) (by show pure_ l' < fu; omega)
      exact ⟨l2, h5, h2.trans h6, h7⟩
theorem dead_some {n : Nat} {p : Prog} {c : CodeD} (hn : 20000 ≤ n) (hm : irMay p c = true) (hw : Wf c) : ∃ l', s_Dead n p c = some (⟨c.fn, c.regs, l', c.metas⟩, 0) ∧ Drop c.code l' ∧ s_once n ⟨c.fn, c.regs, l', c.metas⟩ = some (false, ⟨c.fn, c.regs, l', c.metas⟩) := by
  unfold s_Dead
  rw [hm, Bool.not_true, cond_false, copy_same (by omega) hw]
  simp only [Option.bind_some]
  have hp : pure_ c.code ≤ c.code.length := List.countP_le_length
  exact dead_L0 hn n c hw (by have := hw.l1; omega)
theorem dead_again {n : Nat} {p : Prog} {c : CodeD} (hn : 20000 ≤ n) (hm : irMay p c = true) (hw : Wf c) (ho : s_once n c = some (false, c)) : s_Dead n p c = some (c, 0) := by
  obtain ⟨q, rfl⟩ : ∃ q, n = q + 1 := ⟨n - 1, by omega⟩
  unfold s_Dead
  rw [hm, Bool.not_true, cond_false, copy_same (by omega) hw]
  simp only [Option.bind_some]
  rw [s_Dead_L0, show s_once (q + 1) (⟨c.fn, c.regs, c.code, c.metas⟩ : CodeD) = _ from ho]
  rfl
end Go.Proofs.YtdniefnjgkhkeaaDoor
