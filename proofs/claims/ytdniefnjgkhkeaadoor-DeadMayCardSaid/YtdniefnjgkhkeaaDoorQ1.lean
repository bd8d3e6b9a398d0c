/-
  What package dead's functions compute on code that may be, in plain Lean: they come to an end.
  Conditions: as each statement says.
-/
import Derived.Test.YtdniefnjgkhkeaaDoorA5
namespace Go.Proofs.YtdniefnjgkhkeaaDoor
set_option linter.unusedVariables false
set_option linter.unusedSimpArgs false
open Go
theorem inb_of {z : Int} {n : Nat} (h0 : 0 ≤ z) (h1 : z < n) : inb z n = true := by simp [inb, h0, h1]
theorem inbN {k n : Nat} (h : k < n) : inb (k : Int) n = true := inb_of (by omega) (by omega)
theorem wI_succ {k : Nat} (h : k < 1000000000000000000) : wI ((k : Int) + 1) = ((k + 1 : Nat) : Int) := by rw [wI, wd (by omega) (by omega)]; rfl
theorem wI_pred {k : Nat} (h : k < 1000000000000000000) : wI (((k + 1 : Nat) : Int) - 1) = (k : Int) := by rw [wI, wd (by omega) (by omega)]; omega
theorem decT {p : Prop} [Decidable p] (h : p) : decide p = true := decide_eq_true h
theorem decF {p : Prop} [Decidable p] (h : ¬ p) : decide p = false := decide_eq_false h
theorem bigOk {n sz : Nat} (h : n * sz ≤ 140737488351232) : room n sz = true := by simpa [room] using h
/-! SameInts and its like: of equal rows they say yes, of others something. -/
theorem sameInts_L {n : Nat} {a b : List Int} (hb : a.length = b.length) (hl : a.length < 1000000) : ∀ (fu k : Nat), k ≤ a.length → a.length < fu + k → ∃ q, s_SameInts_L0 n a b fu (k : Int) = some q ∧ (a = b → q = true)
  | 0, k, h1, h2 => by omega
  | fu + 1, k, h1, h2 => by
    rw [s_SameInts_L0]
    by_cases hk : k < a.length
    · rw [decT (by omega), cond_true, inbN hk, cond_true, inbN (hb ▸ hk), cond_true, Int.toNat_natCast, wI_succ (by omega)]
      by_cases he : nth a k = nth b k
      · rw [decT he]; exact sameInts_L hb hl fu (k + 1) (by omega) (by omega)
      · rw [decF he]; exact ⟨false, rfl, fun e => absurd (by rw [e]) he⟩
    · rw [decF (by omega)]; exact ⟨true, rfl, fun _ => rfl⟩
theorem sameInts_some {n : Nat} {a b : List Int} (hn : 1000 ≤ n) (hl : a.length < 900) : ∃ q, s_SameInts n a b = some q ∧ (a = b → q = true) := by
  unfold s_SameInts
  by_cases h : a.length = b.length
  · rw [decT (by omega)]; exact sameInts_L h (by omega) n 0 (Nat.zero_le _) (by omega)
  · rw [decF (by omega)]; exact ⟨false, rfl, fun e => absurd (by rw [e]) h⟩
theorem sameSrcs_L {n : Nat} {a : List Src} (hl : a.length < 1000000) : ∀ (fu k : Nat), k ≤ a.length → a.length < fu + k → s_SameSrcs_L0 n a a fu (k : Int) = some true
  | 0, k, h1, h2 => by omega
  | fu + 1, k, h1, h2 => by
    rw [s_SameSrcs_L0]
    by_cases hk : k < a.length
    · rw [decT (by omega), cond_true, inbN hk, cond_true, cond_true, Int.toNat_natCast, wI_succ (by omega)]
      simp only [beq_self_eq_true, decide_true, Bool.and_self, Bool.not_true, cond_false]
      exact sameSrcs_L hl fu (k + 1) (by omega) (by omega)
    · rw [decF (by omega)]; rfl
theorem sameSrcs_self {n : Nat} {a : List Src} (hn : 1000 ≤ n) (hl : a.length < 900) : s_SameSrcs n a a = some true := by
  unfold s_SameSrcs; rw [decT rfl]; exact sameSrcs_L (by omega) n 0 (Nat.zero_le _) (by omega)
theorem sameParts_L {n : Nat} {a : List Part} (hn : 1000 ≤ n) (hl : a.length < 900) (hp : ∀ x ∈ a, x.locals.length < 900 ∧ x.stack.length < 900) : ∀ (fu k : Nat), k ≤ a.length → a.length < fu + k → s_sameParts_L0 n a a fu (k : Int) = some true
  | 0, k, h1, h2 => by omega
  | fu + 1, k, h1, h2 => by
    rw [s_sameParts_L0]
    by_cases hk : k < a.length
    · have h3 := hp _ (nth_mem hk)
      rw [decT (by omega), cond_true, inbN hk, Int.toNat_natCast, wI_succ (by omega), sameSrcs_self hn h3.1, sameSrcs_self hn h3.2]
      simp only [decide_true, Bool.not_true, cond_false, cond_true, Option.bind_some]
      exact sameParts_L hn hl hp fu (k + 1) (by omega) (by omega)
    · rw [decF (by omega)]; rfl
theorem sameParts_self {n : Nat} {a : List Part} (hn : 1000 ≤ n) (hl : a.length < 900) (hp : ∀ x ∈ a, x.locals.length < 900 ∧ x.stack.length < 900) : s_sameParts n a a = some true := by
  unfold s_sameParts; rw [decT rfl]; exact sameParts_L hn hl hp n 0 (Nat.zero_le _) (by omega)
theorem sameIr_some {n : Nat} {a b : Ir} (hn : 1000 ≤ n) (hl : a.args.length < 900) : ∃ q, s_SameIr n a b = some q ∧ (a = b → q = true) := by
  obtain ⟨q, h1, h2⟩ := sameInts_some (n := n) (a := a.args) (b := b.args) hn hl
  unfold s_SameIr
  rw [h1]
  by_cases e : a = b
  · subst e; refine ⟨q, by simp, fun _ => h2 rfl⟩
  · refine Classical.byContradiction fun hc => ?_
    apply hc
    cases decide (a.kind = b.kind) <;> cases decide (a.r = b.r) <;> cases decide (a.a = b.a) <;> cases decide (a.b = b.b) <;> cases decide (a.k = b.k) <;> cases decide (a.cost = b.cost) <;> cases decide (a.mt = b.mt) <;> cases decide (a.pc = b.pc) <;> exact ⟨_, rfl, fun h => absurd h e⟩
/-- What code that may be looks like, as far as package dead asks. -/
structure Wf (c : CodeD) : Prop where
  r0 : 1 ≤ c.regs
  r1 : c.regs ≤ 64
  l0 : 1 ≤ c.code.length
  l1 : c.code.length ≤ 256
  rd : ∀ i, i < c.code.length → ∀ r ∈ readsL (nth c.code i), 0 ≤ r ∧ r < c.regs
  rn : ∀ i, i < c.code.length → (readsL (nth c.code i)).length ≤ 4
  st : ∀ i, i < c.code.length → setsB (nth c.code i).kind = true → 0 ≤ (nth c.code i).r ∧ (nth c.code i).r < c.regs
  go : ∀ i, i < c.code.length → goesB (nth c.code i).kind = true → 0 ≤ (nth c.code i).k ∧ (nth c.code i).k < c.code.length
  nx : ∀ i, i < c.code.length → (nth c.code i).kind ≠ 4 → (nth c.code i).kind ≠ 8 → i + 1 < c.code.length
  mt : ∀ i, i < c.code.length → leavesB (nth c.code i).kind = true → 0 ≤ (nth c.code i).mt ∧ (nth c.code i).mt < c.metas.length
  ml : c.metas.length ≤ 64
  ps : ∀ m ∈ c.metas, m.parts.length ≤ 2 ∧ ∀ x ∈ m.parts, x.locals.length ≤ 8 ∧ x.stack.length ≤ 8 ∧ (∀ s ∈ x.locals, s.cst = false → 0 ≤ s.v ∧ s.v < c.regs) ∧ (∀ s ∈ x.stack, s.cst = false → 0 ≤ s.v ∧ s.v < c.regs)
  an : ∀ i, i < c.code.length → (nth c.code i).args.length ≤ 4
theorem metas_L {n : Nat} {a b : CodeD} (hn : 1000 ≤ n) (hm : a.metas = b.metas) (hl : a.metas.length < 900) (hp : ∀ m ∈ a.metas, m.parts.length < 900 ∧ ∀ x ∈ m.parts, x.locals.length < 900 ∧ x.stack.length < 900) : ∀ (fu k : Nat), k ≤ a.metas.length → a.metas.length < fu + k → s_SameCode_L1 n a b fu (k : Int) = some true
  | 0, k, h1, h2 => by omega
  | fu + 1, k, h1, h2 => by
    rw [s_SameCode_L1]
    by_cases hk : k < a.metas.length
    · have h3 := hp _ (nth_mem hk)
      rw [decT (by omega), cond_true, inbN hk, cond_true, inbN (hm ▸ hk), cond_true, Int.toNat_natCast, ← hm, sameParts_self hn h3.1 h3.2, wI_succ (by omega)]
      simp only [Option.bind_some, Bool.not_true, cond_false]
      exact metas_L hn hm hl hp fu (k + 1) (by omega) (by omega)
    · rw [decF (by omega)]; rfl
theorem codes_L {n : Nat} {a : CodeD} (hn : 1000 ≤ n) (hw : Wf a) : ∀ (fu k : Nat), k ≤ a.code.length → a.code.length < fu + k → s_SameCode_L0 n a a fu (k : Int) = some true
  | 0, k, h1, h2 => by omega
  | fu + 1, k, h1, h2 => by
    have := hw.l1
    rw [s_SameCode_L0]
    by_cases hk : k < a.code.length
    · obtain ⟨q, h3, h4⟩ := sameIr_some (n := n) (a := nth a.code k) (b := nth a.code k) hn (by have := hw.an k hk; omega)
      rw [decT (by omega), cond_true, inbN hk, cond_true, cond_true, Int.toNat_natCast, h3, h4 rfl, wI_succ (by omega)]
      simp only [Option.bind_some, Bool.not_true, cond_false]
      exact codes_L hn hw fu (k + 1) (by omega) (by omega)
    · rw [decF (by omega)]
      exact metas_L hn rfl (by have := hw.ml; omega) (fun m hm => ⟨by have := (hw.ps m hm).1; omega, fun x hx => by have := (hw.ps m hm).2 x hx; omega⟩) n 0 (Nat.zero_le _) (by have := hw.ml; omega)
theorem sameCode_self {n : Nat} {a : CodeD} (hn : 1000 ≤ n) (hw : Wf a) : s_SameCode n a a = some true := by
  have := hw.l1
  unfold s_SameCode
  simp only [decide_true, Bool.not_true, cond_false]
  exact codes_L hn hw n 0 (Nat.zero_le _) (by omega)
/-! Copy gives the same. -/
theorem copy_L1 {n : Nat} {c : CodeD} {l : List Ir} (hl : c.metas.length < 1000000) : ∀ (fu k : Nat), k ≤ c.metas.length → c.metas.length < fu + k → s_Copy_L1 n c l fu c.metas (k : Int) = some ⟨c.fn, c.regs, l, c.metas⟩
  | 0, k, h1, h2 => by omega
  | fu + 1, k, h1, h2 => by
    rw [s_Copy_L1]
    by_cases hk : k < c.metas.length
    · rw [decT (by omega), cond_true, inbN hk, cond_true, Int.toNat_natCast, wI_succ (by omega), set_nth_same]
      exact copy_L1 hl fu (k + 1) (by omega) (by omega)
    · rw [decF (by omega)]; rfl
theorem copy_L0 {n : Nat} {c : CodeD} (hn : c.metas.length < n) (hl : c.code.length < 1000000) (hm : c.metas.length < 1000000) : ∀ (fu k : Nat), k ≤ c.code.length → c.code.length < fu + k → s_Copy_L0 n c fu c.code (k : Int) = some c
  | 0, k, h1, h2 => by omega
  | fu + 1, k, h1, h2 => by
    rw [s_Copy_L0]
    by_cases hk : k < c.code.length
    · rw [decT (by omega), cond_true, inbN hk, cond_true, Int.toNat_natCast, wI_succ (by omega)]
      rw [show (⟨(nth c.code k).kind, (nth c.code k).r, (nth c.code k).a, (nth c.code k).b, (nth c.code k).k, (nth c.code k).args, (nth c.code k).cost, (nth c.code k).mt, (nth c.code k).pc⟩ : Ir) = nth c.code k from rfl, set_nth_same]
      exact copy_L0 hn hl hm fu (k + 1) (by omega) (by omega)
    · rw [decF (by omega), cond_false]; exact copy_L1 hm n 0 (Nat.zero_le _) (by omega)
theorem copy_same {n : Nat} {c : CodeD} (hn : 1000 ≤ n) (hw : Wf c) : s_Copy n c = some c := by
  have := hw.l1; have := hw.ml
  exact copy_L0 (by omega) (by omega) (by omega) n 0 (Nat.zero_le _) (by omega)
end Go.Proofs.YtdniefnjgkhkeaaDoor
