/-
  What code that may be looks like; what is left of it when some instructions are dropped may be.
  Conditions: as each statement says.
-/
import Derived.Test.YtdniefnjgkhkeaaDoorQ4
namespace Go.Proofs.YtdniefnjgkhkeaaDoor
set_option linter.unusedVariables false
set_option linter.unusedSimpArgs false
open Go
theorem codeB_ins {s : Sheet} (h : codeB s = true) {k : Nat} (hk : k < s.code.val.code.length) : insB s k (nth s.code.val.code k) = true := by
  unfold codeB at h; exact List.all_eq_true.1 h k (List.mem_range.2 hk)
structure InsOk (s : Sheet) (at_ : Int) (x : Ir) : Prop where
  kb : kB s x = true
  dear : dearB at_ x = true
  pc0 : 0 ≤ x.pc
  pc1 : x.pc < 64
  mt : leavesB x.kind = true → 0 ≤ x.mt ∧ x.mt < s.code.val.metas.length
  ar : x.kind ≠ 6 → x.args = []
  rd : ∀ r ∈ readsL x, 0 ≤ r ∧ r < s.code.val.regs
  st : setsB x.kind = true → 0 ≤ x.r ∧ x.r < s.code.val.regs
theorem insB_ok {s : Sheet} {at_ : Int} {x : Ir} (h : insB s at_ x = true) : InsOk s at_ x := by
  simp only [insB, insA, Bool.and_eq_true, decide_eq_true_eq, Bool.not_eq_true', List.all_eq_true, Bool.or_eq_true, Bool.and_eq_false_iff, Bool.or_eq_false_iff, decide_eq_false_iff_not, regB] at h
  obtain ⟨⟨⟨⟨⟨⟨⟨⟨⟨h1, h2⟩, h3⟩, h4⟩, h5⟩, h6⟩, h7⟩, h8⟩, h9⟩, h10⟩ := h.1
  refine ⟨h3, h4, h5, h6, fun hl => ?_, fun hk => ?_, fun r hr => ⟨(h9 r hr).1, (h9 r hr).2⟩, fun hs => ?_⟩
  · rcases h7 with h | h
    · rw [h] at hl; cases hl
    · omega
  · rcases h8 with h | h
    · simp at h; exact absurd h hk
    · apply List.eq_nil_of_length_eq_zero; omega
  · rcases h10 with h | h
    · rw [hs] at h; cases h
    · exact h
theorem part_ok {s : Sheet} {x : Part} {less : Int} (hO : HOk s.p.val s.heights) (hP : packMay s.p.val = true) (h0 : 0 ≤ less) (h : partB s x less = true) :
    x.locals.length ≤ 8 ∧ x.stack.length ≤ 8 ∧ (∀ q ∈ x.locals, q.cst = false → 0 ≤ q.v ∧ q.v < s.code.val.regs) ∧ (∀ q ∈ x.stack, q.cst = false → 0 ≤ q.v ∧ q.v < s.code.val.regs) := by
  simp only [partB, Bool.and_eq_true, decide_eq_true_eq, Bool.not_eq_true', List.any_eq_false, decide_eq_false_iff_not] at h
  obtain ⟨⟨⟨⟨h1, h2⟩, h3⟩, h4⟩, ⟨⟨⟨⟨h5, h6⟩, h7⟩, h8⟩, h9⟩⟩ := h
  have hbd := hO.bd x.fn.toNat x.pc.toNat
  have hf := packMay_func hP (k := x.fn.toNat) (by omega)
  have hloc : (nth s.p.val.funcs x.fn.toNat).locals ≤ 8 := by
    simp only [funcMay, Bool.and_eq_true, decide_eq_true_eq] at hf; exact hf.1.2
  have hsrc : ∀ q : Src, ¬ srcNotB s q = true → q.cst = false → 0 ≤ q.v ∧ q.v < s.code.val.regs := fun q hq hc => by
    unfold srcNotB at hq
    rw [if_neg (by rw [hc]; exact Bool.false_ne_true)] at hq
    simpa [regB] using hq
  exact ⟨by omega, by omega, fun q hq => hsrc q (h8 q hq), fun q hq => hsrc q (h9 q hq)⟩
theorem meta_ok {s : Sheet} {m : Meta} (hO : HOk s.p.val s.heights) (hP : packMay s.p.val = true) (h : metaNotB s m = false) :
    m.parts.length ≤ 2 ∧ ∀ x ∈ m.parts, x.locals.length ≤ 8 ∧ x.stack.length ≤ 8 ∧ (∀ q ∈ x.locals, q.cst = false → 0 ≤ q.v ∧ q.v < s.code.val.regs) ∧ (∀ q ∈ x.stack, q.cst = false → 0 ≤ q.v ∧ q.v < s.code.val.regs) := by
  unfold metaNotB at h
  split at h
  · rename_i h1
    simp only [Bool.or_eq_false_iff, Bool.not_eq_false'] at h
    match hm : m.parts, h1 with
    | [a], _ =>
      rw [hm] at h
      refine ⟨by simp, fun x hx => ?_⟩
      rw [List.mem_singleton.1 hx]
      exact part_ok hO hP (Int.le_refl _) h.2
  · split at h
    · rename_i h1
      simp only [Bool.or_eq_false_iff, Bool.not_eq_false'] at h
      match hm : m.parts, h1 with
      | [a, b], _ =>
        rw [hm] at h
        refine ⟨by simp, fun x hx => ?_⟩
        rcases List.mem_cons.1 hx with rfl | hx
        · exact part_ok hO hP (by omega) h.1.1.2
        · rw [List.mem_singleton.1 hx]; exact part_ok hO hP (Int.le_refl _) h.1.2
    · cases h
theorem wf_of {p : Prog} {c : CodeD} (h : irMay p c = true) : Wf c := by
  rw [irMay_eq] at h
  simp only [Bool.and_eq_true, Bool.not_eq_true', List.any_eq_false] at h
  obtain ⟨⟨⟨hA, hC⟩, hL⟩, hm⟩ := h
  have hM := mayA_of hA
  obtain ⟨hP, hO⟩ := allT_ok hM.err
  have hi : ∀ k, k < c.code.length → InsOk (sheetOf p c) k (nth c.code k) := fun k hk => insB_ok (codeB_ins hC hk)
  have hreg := hM.regs
  have ha4 : ∀ k, k < c.code.length → (nth c.code k).args.length ≤ 4 := fun k hk => by
    by_cases h6 : (nth c.code k).kind = 6
    · have hk6 := (hi k hk).kb
      unfold kB at hk6
      rw [if_neg (by omega), if_neg (by omega), if_neg (by omega), if_neg (by omega), if_pos h6] at hk6
      simp only [Bool.and_eq_true, decide_eq_true_eq] at hk6
      have hf := packMay_func hP (k := (nth c.code k).k.toNat) (by have h1 : (nth c.code k).k < (p.funcs.length : Int) := hk6.1.2; omega)
      simp only [funcMay, Bool.and_eq_true, decide_eq_true_eq] at hf
      have h2 : ((nth c.code k).args.length : Int) = (nth p.funcs (nth c.code k).k.toNat).args := hk6.2
      omega
    · rw [(hi k hk).ar h6]; simp
  refine ⟨by omega, hM.regs1, by have := hM.n0; omega, by have := hM.n1; omega, fun i h => (hi i h).rd, fun i h => ?_, fun i h => (hi i h).st, fun i h hg => ?_, fun i h h4 h8 => ?_, fun i h => (hi i h).mt, by have := hM.mt; omega, fun m hmm => ?_, ha4⟩
  · have := ha4 i h
    unfold readsL; split <;> (try split) <;> (try split) <;> simp <;> omega
  · have hk := (hi i h).kb
    unfold kB at hk
    simp only [goesB, Bool.or_eq_true, decide_eq_true_eq] at hg
    rw [if_neg (by omega), if_neg (by omega), if_neg (by omega), if_pos hg] at hk
    simp only [Bool.and_eq_true, decide_eq_true_eq] at hk
    exact ⟨hk.1, hk.2⟩
  · refine Classical.byContradiction fun hc => ?_
    have e : i = c.code.length - 1 := by omega
    simp only [lastB, Bool.or_eq_true, decide_eq_true_eq] at hL
    rw [← e] at hL; omega
  · have h1 := hm m hmm
    exact meta_ok (s := sheetOf p c) hO hP (by simpa using h1)
theorem dear_cost {at_ : Int} {x : Ir} (h : dearB at_ x = true) : dearB at_ (nopOf x) = true := by
  simp only [dearB, Bool.and_eq_true, Bool.or_eq_true, decide_eq_true_eq] at h
  obtain ⟨h1, h2⟩ := h
  show (decide (x.cost ≤ 256) && (decide (0 < x.cost) || (decide (x.cost = 0) && true))) = true
  simp only [Bool.and_eq_true, Bool.or_eq_true, decide_eq_true_eq]
  rcases h2 with h | ⟨h, _⟩
  · exact ⟨h1, .inl h⟩
  · exact ⟨h1, .inr ⟨h, trivial⟩⟩
theorem may_drop {p : Prog} {c : CodeD} (h : irMay p c = true) {l : List Ir} (hd : Drop c.code l) : irMay p ⟨c.fn, c.regs, l, c.metas⟩ = true := by
  have hw := wf_of h
  rw [irMay_eq] at h ⊢
  simp only [Bool.and_eq_true] at h ⊢
  obtain ⟨⟨⟨hA, hC⟩, hL⟩, hm⟩ := h
  refine ⟨⟨⟨?_, ?_⟩, ?_⟩, hm⟩
  · have e : mayA p ⟨c.fn, c.regs, l, c.metas⟩ = mayA p c := by simp only [mayA, hd.len]
    rw [e]; exact hA
  · unfold codeB; rw [List.all_eq_true]
    intro k hk
    have hk' : k < c.code.length := by have h1 : k < l.length := List.mem_range.1 hk; rw [hd.len] at h1; exact h1
    have h1 := codeB_ins hC hk'
    have hb : ∀ x, kB (sheetOf p ⟨c.fn, c.regs, l, c.metas⟩) x = kB (sheetOf p c) x := fun x => by
      have hlen : (sheetOf p ⟨c.fn, c.regs, l, c.metas⟩).code.val.code.length = (sheetOf p c).code.val.code.length := hd.len
      unfold kB; rw [hlen]; rfl
    have he : ∀ x, insB (sheetOf p ⟨c.fn, c.regs, l, c.metas⟩) k x = insB (sheetOf p c) k x := fun x => by
      simp only [insB, insA, hb]; rfl
    show insB (sheetOf p ⟨c.fn, c.regs, l, c.metas⟩) k (nth l k) = true
    rw [he]
    rcases hd.el k hk' with e | ⟨_, e⟩
    · rw [e]; exact h1
    · rw [e]
      have ho : InsOk (sheetOf p c) k (nth c.code k) := insB_ok h1
      have hq : insA (sheetOf p c) k (nopOf (nth c.code k)) = true := by
        show (decide ((0 : Int) ≤ 0) && decide ((0 : Int) ≤ 11) && kB (sheetOf p c) (nopOf (nth c.code k)) && dearB k (nopOf (nth c.code k)) && decide (0 ≤ (nth c.code k).pc) && decide ((nth c.code k).pc < 64) && true && true) = true
        rw [dear_cost ho.dear, show kB (sheetOf p c) (nopOf (nth c.code k)) = true from rfl, decT ho.pc0, decT ho.pc1]; rfl
      show (insA (sheetOf p c) k (nopOf (nth c.code k)) && true && true && true) = true
      rw [hq]; rfl
  · have hlast : nth l (l.length - 1) = nth c.code (c.code.length - 1) := by
      have h0 := hw.l0
      rw [hd.len]
      rcases hd.el (c.code.length - 1) (by omega) with e | ⟨e1, _⟩
      · exact e
      · exfalso
        simp only [lastB, Bool.or_eq_true, decide_eq_true_eq] at hL
        rcases hL with h | h <;> simp [dropsB, h] at e1
    show (decide ((nth l (l.length - 1)).kind = 4) || decide ((nth l (l.length - 1)).kind = 8)) = true
    rw [hlast]; exact hL
end Go.Proofs.YtdniefnjgkhkeaaDoor
