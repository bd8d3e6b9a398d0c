/-
  The greater of two numbers; what verify.All's heights look like where there is no error; what ir.May knows.
  Conditions: none.
-/
import Derived.Test.YtdniefnjgkhkeaaDoorV3
import Derived.Laws.Small
namespace Go.Proofs.YtdniefnjgkhkeaaDoor
set_option linter.unusedVariables false
set_option linter.unusedSimpArgs false
open Go
section
variable {P : Program} {ops : Array Oper} {S : World → Prop} {n : Nat} {E : Env} {d : Option Nat} {ty : TypeId} {ps : String} {af : Array Edge} {g : Option (Nat × Bool)}
theorem y_max {x y : Operand} {t u : TypeId} {k : IntKind} {a b : Int} (hg : Met ops E g) (e1 : ev E x = some (.int k a)) (e2 : ev E y = some (.int k b)) :
    Y P ops S n E ⟨d, .call { callee := .builtin .max, args := #[x, y], argTypes := #[t, u] }, ty, ps, af, g⟩ (.int k (max a b)) := y_of hg fun z f w _ => by
  simp [execOp, resolve, invoke, builtin, f.eval e1, f.eval e2, run_max_int2]
  rw [Int.max_def]; split <;> split <;> omega
end
theorem nth_set_bd {o : List Int} {i : Nat} {h : Int} (hb : ∀ k, -1 ≤ nth o k ∧ nth o k ≤ 8) (h0 : -1 ≤ h) (h8 : h ≤ 8) (k : Nat) : -1 ≤ nth (o.set i h) k ∧ nth (o.set i h) k ≤ 8 := by
  by_cases e : i = k
  · subst e
    by_cases hl : i < o.length
    · rw [nth_set_self hl]; exact ⟨h0, h8⟩
    · rw [List.set_eq_of_length_le (by omega)]; exact hb i
  · rw [nth_set_ne e]; exact hb k
theorem hto_shape {h : Int} (h0 : 0 ≤ h) (h8 : h ≤ 8) : ∀ (L : List Int) (o r : List Int) (q : List Int × List Int), (∀ k, -1 ≤ nth o k ∧ nth o k ≤ 8) → L.foldl (hto h) (some (o, r)) = some q → q.1.length = o.length ∧ ∀ k, -1 ≤ nth q.1 k ∧ nth q.1 k ≤ 8
  | [], o, r, q, hb, e => by cases e; exact ⟨rfl, hb⟩
  | a :: L, o, r, q, hb, e => by
    rw [List.foldl_cons, show hto h (some (o, r)) a = if nth o a.toNat = -1 then some (o.set a.toNat h, r ++ [a]) else if nth o a.toNat = h then some (o, r) else none from rfl] at e
    split at e
    · have := hto_shape h0 h8 L _ _ q (nth_set_bd hb (by omega) h8) e
      rw [List.length_set] at this; exact this
    · split at e
      · exact hto_shape h0 h8 L o r q hb e
      · rw [hto_none] at e; cases e
theorem hRun_shape (p : Prog) (f : FuncD) : ∀ (n : Nat) (o r : List Int), (∀ k, -1 ≤ nth o k ∧ nth o k ≤ 8) → (hRun p f n o r).2 = none → (hRun p f n o r).1.length = o.length ∧ ∀ k, -1 ≤ nth (hRun p f n o r).1 k ∧ nth (hRun p f n o r).1 k ≤ 8
  | 0, o, r, hb, _ => by cases r <;> exact ⟨rfl, hb⟩
  | n + 1, o, [], hb, _ => ⟨rfl, hb⟩
  | n + 1, o, pc :: r, hb, e => by
    unfold hRun at e ⊢
    split at e
    · cases e
    · rename_i hn
      rw [if_neg hn]
      have hbd := effectT_bd (nth f.code pc.toNat) (argsOf p (nth f.code pc.toNat))
      have h0 : 0 ≤ hAt p f o pc := by
        have : ¬ nth o pc.toNat < (ft (nth f.code pc.toNat) (argsOf p (nth f.code pc.toNat))).1 := fun q => hn (.inl q)
        show 0 ≤ _ - (ft _ _).1 + (ft _ _).2.1; omega
      have h8 : hAt p f o pc ≤ 8 := by have : ¬ 8 < hAt p f o pc := fun q => hn (.inr q); omega
      cases hq : (nextL f pc).foldl (hto (hAt p f o pc)) (some (o, pc :: r)) with
      | none => rw [hq] at e; cases e
      | some q =>
        rw [hq] at e
        have h1 := hto_shape h0 h8 _ _ _ _ hb hq
        have h2 := hRun_shape p f n q.1 q.2.tail h1.2 e
        exact ⟨h2.1.trans h1.1, h2.2⟩
theorem hRun_err (p : Prog) (f : FuncD) : ∀ (n : Nat) (o r : List Int), (hRun p f n o r).2 = none ∨ ∃ pc, (hRun p f n o r).2 = some (pc, 502)
  | 0, o, r => by cases r <;> exact .inl rfl
  | n + 1, o, [] => .inl rfl
  | n + 1, o, pc :: r => by
    unfold hRun
    split
    · exact .inr ⟨pc, rfl⟩
    · split
      · exact .inr ⟨pc, rfl⟩
      · exact hRun_err p f n _ _
theorem plainE_err (p : Prog) (f : FuncD) (rs : List Bool) : plainE p f rs = none ∨ ∃ pc c, plainE p f rs = some (pc, c) ∧ c ≠ 0 := by
  unfold plainE
  split
  · exact .inr ⟨_, _, rfl, by decide⟩
  · split
    · exact .inr ⟨_, _, rfl, by decide⟩
    · exact .inl rfl
theorem heightsT_ok {p : Prog} {k : Nat} (hm : packMay p = true) (hk : k < p.funcs.length) (h : (ht' p k).2.2 = 0) : (ht' p k).1.length = (nth p.funcs k).code.length ∧ ∀ j, -1 ≤ nth (ht' p k).1 j ∧ nth (ht' p k).1 j ≤ 8 := by
  have hin : packMay p = true ∧ 0 ≤ (k : Int) ∧ (k : Int) < p.funcs.length := ⟨hm, by omega, by omega⟩
  have hcm := funcMay_code (packMay_func hm hk)
  have hl := codeMay_len hcm
  unfold ht' at h ⊢
  rw [if_pos hin] at h ⊢
  rw [Int.toNat_natCast] at h ⊢
  rcases plainE_err p (nth p.funcs k) (reachedL (nth p.funcs k)) with hp | ⟨pc, c, hp, hc⟩
  · rw [hp] at h ⊢
    rw [if_pos (show (none : Option (Int × Int)).isNone = true from rfl)] at h ⊢
    rcases hRun_err p (nth p.funcs k) (nth p.funcs k).code.length ((List.replicate (nth p.funcs k).code.length (-1)).set 0 0) [0] with he | ⟨pc, he⟩
    · have := hRun_shape p (nth p.funcs k) _ _ _ (HInv.init hcm).bd he
      refine ⟨this.1.trans (by simp), this.2⟩
    · exfalso
      rw [show (heightsE p (nth p.funcs k)).2 = some (pc, 502) from he] at h
      cases h
  · exfalso; rw [hp] at h; exact hc h
theorem allT_ok {p : Prog} (h : (allT p).2 = 0) : packMay p = true ∧ HOk p (allT p).1 := by
  by_cases hm : packMay p = true
  · refine ⟨hm, ?_⟩
    unfold allT at h ⊢
    rw [if_pos hm] at h ⊢
    cases hf : (List.range p.funcs.length).find? (fun k : Nat => !decide ((ht' p k).2.2 = 0)) with
    | some k => rw [hf] at h; have := List.find?_some hf; simp at this; exact absurd h this
    | none =>
      have h0 : ∀ k, k < p.funcs.length → (ht' p k).2.2 = 0 := fun k hk => by have := List.find?_eq_none.1 hf k (List.mem_range.2 hk); simpa using this
      have hn : ∀ k, k < p.funcs.length → nth ((List.range p.funcs.length).map fun k : Nat => (ht' p k).1) k = (ht' p k).1 := fun k hk => by simp [nth, hk]
      refine ⟨by simp, fun k hk => ?_, fun k j => ?_, fun k hk => (codeMay_len (funcMay_code (packMay_func hm hk))).2⟩
      · show (nth ((List.range p.funcs.length).map fun k : Nat => (ht' p k).1) k).length = _
        rw [hn k hk]; exact (heightsT_ok hm hk (h0 k hk)).1
      · show -1 ≤ nth (nth ((List.range p.funcs.length).map fun k : Nat => (ht' p k).1) k) j ∧ nth (nth ((List.range p.funcs.length).map fun k : Nat => (ht' p k).1) k) j ≤ 8
        by_cases hk : k < p.funcs.length
        · rw [hn k hk]; exact (heightsT_ok hm hk (h0 k hk)).2 j
        · have : nth ((List.range p.funcs.length).map fun k : Nat => (ht' p k).1) k = [] := by simp [nth, hk]; rfl
          rw [this]; show (-1 : Int) ≤ 0 ∧ (0 : Int) ≤ 8; omega
  · unfold allT at h; rw [if_neg hm] at h; cases h
theorem codeB_next {s : Sheet} {k : Nat} (h : ∀ j : Nat, j < k → insB s j (nth s.code.val.code j) = true) (hk : insB s k (nth s.code.val.code k) = true) : ∀ j : Nat, j < k + 1 → insB s j (nth s.code.val.code j) = true := fun j hj => by
  rcases Nat.lt_succ_iff_lt_or_eq.1 hj with h1 | rfl
  · exact h j h1
  · exact hk
theorem codeB_done {s : Sheet} {k : Nat} (h : ∀ j : Nat, j < k → insB s j (nth s.code.val.code j) = true) (hk : s.code.val.code.length ≤ k) : codeB s = true := by
  unfold codeB; rw [List.all_eq_true]; intro j hj; exact h j (by have := List.mem_range.1 hj; omega)
theorem codeB_bad {s : Sheet} {k : Nat} (hk : k < s.code.val.code.length) (h : insB s k (nth s.code.val.code k) = false) : codeB s = false := by
  unfold codeB; rw [List.all_eq_false]; exact ⟨k, List.mem_range.2 hk, by simp [h]⟩
def mayA (p : Prog) (c : CodeD) : Bool :=
  decide ((allT p).2 = 0) && decide (0 ≤ c.fn) && decide (c.fn < p.funcs.length) && decide (max 1 (nth p.funcs c.fn.toNat).locals ≤ c.regs) && decide (c.regs ≤ 64) && decide (1 ≤ c.code.length) && decide (c.code.length ≤ 256) && decide (c.metas.length ≤ 64)
def sheetOf (p : Prog) (c : CodeD) : Sheet := ⟨⟨c⟩, ⟨p⟩, (allT p).1⟩
def lastB (c : CodeD) : Bool := decide ((nth c.code (c.code.length - 1)).kind = 4) || decide ((nth c.code (c.code.length - 1)).kind = 8)
theorem irMay_eq (p : Prog) (c : CodeD) : irMay p c = (mayA p c && codeB (sheetOf p c) && lastB c && !(c.metas.any (metaNotB (sheetOf p c)))) := rfl
structure MayA (p : Prog) (c : CodeD) : Prop where
  err : (allT p).2 = 0
  fn0 : 0 ≤ c.fn
  fn1 : c.fn < p.funcs.length
  regs : max 1 (nth p.funcs c.fn.toNat).locals ≤ c.regs
  regs1 : c.regs ≤ 64
  n0 : 1 ≤ c.code.length
  n1 : c.code.length ≤ 256
  mt : c.metas.length ≤ 64
theorem mayA_of {p : Prog} {c : CodeD} (h : mayA p c = true) : MayA p c := by
  simp only [mayA, Bool.and_eq_true, decide_eq_true_eq] at h
  obtain ⟨⟨⟨⟨⟨⟨⟨h1, h2⟩, h3⟩, h4⟩, h5⟩, h6⟩, h7⟩, h8⟩ := h
  exact ⟨h1, h2, h3, h4, h5, h6, h7, h8⟩
end Go.Proofs.YtdniefnjgkhkeaaDoor
