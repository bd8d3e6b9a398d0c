/-
  What package dead's functions compute on code that may be, in plain Lean: here and live.
  Conditions: as each statement says.
-/
import Derived.Test.YtdniefnjgkhkeaaDoorQ2
namespace Go.Proofs.YtdniefnjgkhkeaaDoor
set_option linter.unusedVariables false
set_option linter.unusedSimpArgs false
open Go
theorem readsP_len (x : Ir) : (rp x).length = (readsL x).length := by simp [rp]
theorem readsP_nth {x : Ir} {k : Nat} (h : k < (readsL x).length) : (nth (rp x) k).val = nth (readsL x) k := by simp [nth, rp, h]
theorem drop_nth {α : Type} [Inhabited α] {l : List α} {k : Nat} (h : k < l.length) : l.drop k = nth l k :: l.drop (k + 1) := by rw [List.drop_eq_getElem_cons h]; simp [nth, h]
/-- The sources of a meta are marked. -/
theorem here_L1 {n : Nat} {S : List Src} {m : Nat} (hS : ∀ s ∈ S, s.cst = false → 0 ≤ s.v ∧ s.v < m) (hl : S.length < 1000) : ∀ (fu k : Nat) (o : List Bool), o.length = m → k ≤ S.length → S.length < fu + k →
    ∃ o', s_here_L1 n (S.map Ptr.mk) fu o (k : Int) = some (.inl o') ∧ o'.length = m ∧ ∀ r, r < m → nth o' r = (nth o r || (S.drop k).any fun s => !s.cst && s.v.toNat == r)
  | 0, k, o, _, h1, h2 => by omega
  | fu + 1, k, o, ho, h1, h2 => by
    rw [s_here_L1, List.length_map]
    by_cases hk : k < S.length
    · have hv : (nth (S.map Ptr.mk) k).val = nth S k := by simp [nth, hk]
      rw [decT (by omega), cond_true, inbN hk, cond_true, Int.toNat_natCast, hv, wI_succ (by omega), drop_nth hk]
      cases hc : (nth S k).cst with
      | true =>
        obtain ⟨o', h3, h4, h5⟩ := here_L1 hS hl fu (k + 1) o ho (by omega) (by omega)
        exact ⟨o', h3, h4, fun r hr => by rw [h5 r hr]; simp [hc]⟩
      | false =>
        have hb := hS _ (nth_mem hk) hc
        rw [inb_of hb.1 (by omega)]
        obtain ⟨o', h3, h4, h5⟩ := here_L1 hS hl fu (k + 1) (o.set (nth S k).v.toNat true) (by simpa using ho) (by omega) (by omega)
        refine ⟨o', h3, h4, fun r hr => ?_⟩
        rw [h5 r hr]
        by_cases e : (nth S k).v.toNat = r
        · rw [e, nth_set_self (by omega)]; simp [hc, e]
        · have h6 : ((nth S k).v.toNat == r) = false := beq_eq_false_iff_ne.2 e
          rw [nth_set_ne e]; simp [hc, h6]
    · rw [decF (by omega), List.drop_eq_nil_of_le (by omega)]
      exact ⟨o, rfl, ho, fun r _ => by simp⟩
/-- Which registers may be read at a place, and behind it. -/
def hereF (c : CodeD) (lv : List (List Bool)) (k : Nat) : List Bool :=
  (List.range c.regs.toNat).map fun r => (nth (afterF c lv k) r && !(setsB (nth c.code k).kind && (nth c.code k).r.toNat == r)) || (readsL (nth c.code k)).any (fun q => q.toNat == r) ||
    (leavesB (nth c.code k).kind && (srcsL (nth c.metas (nth c.code k).mt.toNat)).any fun s => !s.cst && s.v.toNat == r)
theorem srcsL_len {m : Meta} (hp : m.parts.length ≤ 2) (h8 : ∀ x ∈ m.parts, x.locals.length ≤ 8 ∧ x.stack.length ≤ 8) : (srcsL m).length ≤ 32 := by
  unfold srcsL
  match h : m.parts, hp with
  | [], _ => simp
  | [a], _ => have := h8 a (by simp [h]); simp; omega
  | [a, b], _ => have := h8 a (by simp [h]); have := h8 b (by simp [h]); simp; omega
theorem here_L0 {n : Nat} {c : CodeD} (hw : Wf c) (hn : 1000 ≤ n) {a : Nat} (ha : a < c.code.length) : ∀ (fu k : Nat) (o : List Bool), o.length = c.regs.toNat → k ≤ (readsL (nth c.code a)).length → (readsL (nth c.code a)).length < fu + k →
    ∃ o', s_here_L0 n c (a : Int) fu o (k : Int) = some o' ∧ o'.length = c.regs.toNat ∧ ∀ r, r < c.regs.toNat → nth o' r = (nth o r || ((readsL (nth c.code a)).drop k).any (fun q => q.toNat == r) ||
      (leavesB (nth c.code a).kind && (srcsL (nth c.metas (nth c.code a).mt.toNat)).any fun s => !s.cst && s.v.toNat == r))
  | 0, k, o, _, h1, h2 => by omega
  | fu + 1, k, o, ho, h1, h2 => by
    have hr4 := hw.rn a ha
    rw [s_here_L0]
    simp only [Int.toNat_natCast, readsP_len]
    by_cases hk : k < (readsL (nth c.code a)).length
    · have hb := hw.rd a ha _ (nth_mem hk)
      rw [decT (by omega), cond_true, inbN hk, cond_true, readsP_nth hk, inb_of hb.1 (by omega), cond_true, wI_succ (by omega)]
      obtain ⟨o', h3, h4, h5⟩ := here_L0 hw hn ha fu (k + 1) (o.set (nth (readsL (nth c.code a)) k).toNat true) (by simpa using ho) (by omega) (by omega)
      refine ⟨o', h3, h4, fun r hr => ?_⟩
      rw [h5 r hr, drop_nth hk]
      by_cases e : (nth (readsL (nth c.code a)) k).toNat = r
      · rw [e, nth_set_self (by omega)]; simp [e]
      · have h6 : ((nth (readsL (nth c.code a)) k).toNat == r) = false := beq_eq_false_iff_ne.2 e
        rw [nth_set_ne e]; simp [h6]
    · rw [decF (by omega), cond_false, List.drop_eq_nil_of_le (by omega)]
      cases hv : leavesB (nth c.code a).kind with
      | false => exact ⟨o, rfl, ho, fun r _ => by simp⟩
      | true =>
        have hm := hw.mt a ha hv
        have hp := hw.ps _ (nth_mem (show (nth c.code a).mt.toNat < c.metas.length by omega))
        rw [inb_of hm.1 hm.2, cond_true, cond_true, srcs_some hn hp.1 (fun x hx => ⟨(hp.2 x hx).1, (hp.2 x hx).2.1⟩)]
        have hS : ∀ s ∈ srcsL (nth c.metas (nth c.code a).mt.toNat), s.cst = false → 0 ≤ s.v ∧ s.v < (c.regs.toNat : Nat) := by
          intro s hs hc
          obtain ⟨x, hx, hsx⟩ := List.mem_flatMap.1 hs
          have := hp.2 x hx
          have h0 := hw.r0
          rcases List.mem_append.1 hsx with h | h
          · have := this.2.2.1 s h hc; omega
          · have := this.2.2.2 s h hc; omega
        have hsl := srcsL_len hp.1 (fun x hx => ⟨(hp.2 x hx).1, (hp.2 x hx).2.1⟩)
        obtain ⟨o', h3, h4, h5⟩ := here_L1 (n := n) (m := c.regs.toNat) hS (by omega) n 0 o ho (Nat.zero_le _) (by omega)
        simp only [Option.bind_some]
        rw [show s_here_L1 n (List.map Ptr.mk (srcsL (nth c.metas (nth c.code a).mt.toNat))) n o 0 = _ from h3]
        exact ⟨o', rfl, h4, fun r hr => by rw [h5 r hr]; simp⟩
theorem here_some {n : Nat} {c : CodeD} {lv : List (List Bool)} (hw : Wf c) (hn : 1000 ≤ n) (hl : Rows' c lv) {k : Nat} (hk : k < c.code.length) : s_here n c lv (k : Int) = some (hereF c lv k) := by
  have h0 := hw.r0
  unfold s_here
  rw [inbN hk, cond_true, after_some hw hn hl hk, Int.toNat_natCast]
  have hal : (afterF c lv k).length = c.regs.toNat := by simp [afterF]
  simp only [Option.bind_some]
  have key : ∀ o : List Bool, o.length = c.regs.toNat → (∀ r, r < c.regs.toNat → nth o r = (nth (afterF c lv k) r && !(setsB (nth c.code k).kind && (nth c.code k).r.toNat == r))) → s_here_L0 n c (k : Int) n o 0 = some (hereF c lv k) := by
    intro o ho hoo
    obtain ⟨o', h1, h2, h3⟩ := here_L0 (n := n) hw hn hk n 0 o ho (Nat.zero_le _) (by have := hw.rn k hk; omega)
    rw [show s_here_L0 n c (k : Int) n o 0 = _ from h1]
    congr 1
    refine ext_nth (by simp [hereF, h2]) fun r hr => ?_
    rw [h2] at hr
    rw [h3 r hr, hoo r hr, hereF, nth_map_range _ hr]; simp
  cases hs : setsB (nth c.code k).kind with
  | false => exact key _ hal fun r _ => by simp [hs]
  | true =>
    have hb := hw.st k hk hs
    rw [cond_true, inb_of hb.1 (by omega), cond_true]
    refine key _ (by simpa using hal) fun r hr => ?_
    by_cases e : (nth c.code k).r.toNat = r
    · rw [e, nth_set_self (by omega)]; simp [hs]
    · rw [nth_set_ne e]; simp [hs, e]
/-- What grows. -/
def Le (c : CodeD) (l l' : List (List Bool)) : Prop := ∀ i, i < c.code.length → ∀ r, r < c.regs.toNat → nth (nth l i) r = true → nth (nth l' i) r = true
theorem Le.refl (c : CodeD) (l : List (List Bool)) : Le c l l := fun _ _ _ _ h => h
theorem Le.trans {c : CodeD} {a b d : List (List Bool)} (h : Le c a b) (h' : Le c b d) : Le c a d := fun i hi r hr e => h' i hi r hr (h i hi r hr e)
theorem hereF_mono {c : CodeD} (hw : Wf c) {l l' : List (List Bool)} (h : Le c l l') {k : Nat} (hk : k < c.code.length) {r : Nat} (hr : r < c.regs.toNat) (e : nth (hereF c l k) r = true) : nth (hereF c l' k) r = true := by
  rw [hereF, nth_map_range _ hr] at e ⊢
  simp only [Bool.or_eq_true, Bool.and_eq_true] at e ⊢
  rcases e with (⟨e1, e2⟩ | e) | e
  · refine .inl (.inl ⟨?_, e2⟩)
    rw [afterF, nth_map_range _ hr, List.any_eq_true] at e1 ⊢
    obtain ⟨t, ht, h1⟩ := e1
    have := behind_in hw hk t ht
    exact ⟨t, ht, h _ (by omega) r hr h1⟩
  · exact .inl (.inr e)
  · exact .inr e
def hereLe (c : CodeD) (l : List (List Bool)) : Prop := ∀ i, i < c.code.length → ∀ r, r < c.regs.toNat → nth (nth l i) r = true → nth (hereF c l i) r = true
/-- How many bits are not set. -/
def holes (l : List (List Bool)) : Nat := (l.map fun x => x.count false).sum
theorem count_le {a b : List Bool} (h : a.length = b.length) (e : ∀ r, r < a.length → nth a r = true → nth b r = true) : b.count false ≤ a.count false := by
  induction a generalizing b with
  | nil => cases b with
    | nil => simp
    | cons _ _ => simp at h
  | cons x a ih => cases b with
    | nil => simp at h
    | cons y b =>
      have h1 := ih (by simpa using h) (fun r hr => by have := e (r + 1) (by simp; omega); simpa [nth] using this)
      have h2 := e 0 (by simp)
      cases x <;> cases y <;> simp [nth] at h2 ⊢ <;> omega
theorem count_lt {a b : List Bool} (h : a.length = b.length) (e : ∀ r, r < a.length → nth a r = true → nth b r = true) (hne : b ≠ a) : b.count false < a.count false := by
  induction a generalizing b with
  | nil => cases b with
    | nil => exact absurd rfl hne
    | cons _ _ => simp at h
  | cons x a ih => cases b with
    | nil => simp at h
    | cons y b =>
      have e' : ∀ r, r < a.length → nth a r = true → nth b r = true := fun r hr => by have := e (r + 1) (by simp; omega); simpa [nth] using this
      have h1 := count_le (by simpa using h) e'
      have h2 := e 0 (by simp)
      by_cases hb : b = a
      · subst hb
        have hxy : y ≠ x := fun q => hne (by rw [q])
        cases x <;> cases y <;> simp [nth] at h2 hxy ⊢
      · have h3 := ih (by simpa using h) e' hb
        cases x <;> cases y <;> simp [nth] at h2 ⊢ <;> omega
theorem holes_set {l : List (List Bool)} {k : Nat} {x : List Bool} (hk : k < l.length) (h : x.count false < (nth l k).count false) : holes (l.set k x) < holes l := by
  induction l generalizing k with
  | nil => simp at hk
  | cons a l ih => cases k with
    | zero => simp [holes, nth] at h ⊢; exact h
    | succ k =>
      have := ih (k := k) (by simpa using hk) (by simpa [nth] using h)
      simp [holes] at this ⊢; exact this
theorem eqBool_L {n : Nat} {a b : List Bool} (hb : a.length = b.length) (hl : a.length < 1000000) : ∀ (fu k : Nat), k ≤ a.length → a.length < fu + k → (∀ r, r < k → nth a r = nth b r) → s_EqualBool_L0 n a b fu (k : Int) = some (decide (a = b))
  | 0, k, h1, h2, _ => by omega
  | fu + 1, k, h1, h2, h3 => by
    rw [s_EqualBool_L0]
    by_cases hk : k < a.length
    · rw [decT (by omega), cond_true, inbN hk, cond_true, inbN (hb ▸ hk), cond_true, Int.toNat_natCast, wI_succ (by omega)]
      by_cases he : nth a k = nth b k
      · rw [he, bne_self_eq_false, cond_false]
        exact eqBool_L hb hl fu (k + 1) (by omega) (by omega) (fun r hr => by
          by_cases e : r = k
          · subst e; exact he
          · exact h3 r (by omega))
      · rw [bne_iff_ne.2 he, cond_true, decF (fun e => he (by rw [e]))]
    · rw [decF (by omega), cond_false, decT (ext_nth hb fun r hr => h3 r (by omega))]
theorem eqBool_some {n : Nat} {a b : List Bool} (hn : 1000 ≤ n) (hb : a.length = b.length) (hl : a.length < 900) : s_EqualBool n a b = some (decide (a = b)) := by
  unfold s_EqualBool; rw [decT (by omega)]; exact eqBool_L hb (by omega) n 0 (Nat.zero_le _) (by omega) (fun r hr => by omega)
/-- One sweep, from place k - 1 down. -/
theorem sweep {n : Nat} {c : CodeD} (hw : Wf c) (hn : 1000 ≤ n) : ∀ (k fu : Nat) (l : List (List Bool)) (y : Bool), k ≤ c.code.length → k < fu → Rows' c l → hereLe c l →
    ∃ l' y', s_live_L2 n c fu l y ((k : Int) - 1) = some (.inl (l', y')) ∧ Rows' c l' ∧ hereLe c l' ∧ holes l' ≤ holes l ∧ ((y' = y ∧ l' = l) ∨ (y' = true ∧ holes l' < holes l))
  | 0, fu, l, y, hk, hf, hr, hh => by
    obtain ⟨fu, rfl⟩ : ∃ q, fu = q + 1 := ⟨fu - 1, by omega⟩
    rw [s_live_L2, show decide ((0 : Int) ≤ ((0 : Nat) : Int) - 1) = false from rfl]
    exact ⟨l, y, rfl, hr, hh, Nat.le_refl _, .inl ⟨rfl, rfl⟩⟩
  | k + 1, fu, l, y, hk, hf, hr, hh => by
    obtain ⟨fu, rfl⟩ : ∃ q, fu = q + 1 := ⟨fu - 1, by omega⟩
    have hl1 := hw.l1
    have hr1 := hw.r1
    have hlen : (hereF c l k).length = c.regs.toNat := by simp [hereF]
    have hrow := hr.2 k (by omega)
    rw [show ((k + 1 : Nat) : Int) - 1 = (k : Int) by omega, s_live_L2, decT (by omega), cond_true, here_some hw hn hr (by omega)]
    simp only [Option.bind_some]
    rw [inbN (by rw [hr.1]; omega), cond_true, Int.toNat_natCast, eqBool_some hn (by rw [hlen, hrow]) (by omega), show wI ((k : Int) - 1) = (k : Int) - 1 from wd (by omega) (by omega)]
    simp only [Option.bind_some]
    by_cases e : hereF c l k = nth l k
    · rw [decT e, Bool.not_true, cond_false]
      exact sweep hw hn k fu l y (by omega) (by omega) hr hh
    · rw [decF e, Bool.not_false, cond_true]
      have hset : ∀ i, nth (l.set k (hereF c l k)) i = if i = k then hereF c l k else nth l i := fun i => by
        by_cases h : i = k
        · subst h; rw [if_pos rfl, nth_set_self (by rw [hr.1]; omega)]
        · rw [if_neg h, nth_set_ne (fun q => h q.symm)]
      have hr' : Rows' c (l.set k (hereF c l k)) := ⟨by rw [List.length_set]; exact hr.1, fun i hi => by
        rw [hset]; split
        · exact hlen
        · exact hr.2 i hi⟩
      have hle : Le c l (l.set k (hereF c l k)) := fun i hi r hrr h => by
        rw [hset]; split
        · rename_i q; subst q; exact hh i hi r hrr h
        · exact h
      have hh' : hereLe c (l.set k (hereF c l k)) := fun i hi r hrr h => by
        rw [hset] at h
        split at h
        · rename_i q; subst q; exact hereF_mono hw hle hi hrr h
        · exact hereF_mono hw hle hi hrr (hh i hi r hrr h)
      have hlt : holes (l.set k (hereF c l k)) < holes l := holes_set (by rw [hr.1]; omega) (count_lt (by rw [hlen, hrow]) (fun r hrr h => hh k (by omega) r (by omega) h) e)
      obtain ⟨l', y', h1, h2, h3, h4, h5⟩ := sweep hw hn k fu _ true (by omega) (by omega) hr' hh'
      refine ⟨l', y', h1, h2, h3, by omega, .inr ⟨?_, by omega⟩⟩
      rcases h5 with ⟨h6, _⟩ | ⟨h6, _⟩ <;> exact h6
theorem live_L1 {n : Nat} {c : CodeD} (hw : Wf c) (hn : 1000 ≤ n) : ∀ (fu : Nat) (l : List (List Bool)) (y : Bool), Rows' c l → hereLe c l → holes l + 2 ≤ fu → ∃ l', s_live_L1 n c fu l y = some l' ∧ Rows' c l'
  | 0, l, y, _, _, h => by omega
  | fu + 1, l, y, hr, hh, hf => by
    have hl0 := hw.l0
    have hl1 := hw.l1
    rw [s_live_L1]
    cases y with
    | false => exact ⟨l, rfl, hr⟩
    | true =>
      rw [cond_true, show wI ((l.length : Int) - 1) = ((c.code.length : Nat) : Int) - 1 from by rw [hr.1]; exact wd (by omega) (by omega)]
      obtain ⟨l', y', h1, h2, h3, h4, h5⟩ := sweep (n := n) hw hn c.code.length n l false (Nat.le_refl _) (by omega) hr hh
      rw [h1]
      show ∃ q, s_live_L1 n c fu l' y' = some q ∧ _
      rcases h5 with ⟨rfl, rfl⟩ | ⟨rfl, h6⟩
      · obtain ⟨fu, rfl⟩ : ∃ q, fu = q + 1 := ⟨fu - 1, by omega⟩
        rw [s_live_L1]; exact ⟨_, rfl, h2⟩
      · exact live_L1 hw hn fu l' true h2 h3 (by omega)
theorem holes_le {c : CodeD} (hw : Wf c) {l : List (List Bool)} (hr : Rows' c l) : holes l ≤ 16384 := by
  have hl1 := hw.l1
  have hr1 := hw.r1
  have key : ∀ (l : List (List Bool)), (∀ x ∈ l, x.length ≤ 64) → holes l ≤ 64 * l.length := by
    intro l hx
    induction l with
    | nil => simp [holes]
    | cons a l ih =>
      have h1 := ih (fun x h => hx x (List.mem_cons_of_mem _ h))
      have h2 := hx a (List.mem_cons_self ..)
      have h3 : a.count false ≤ a.length := List.count_le_length
      simp [holes] at h1 ⊢; omega
  have := key l (fun x hx => by
    obtain ⟨i, hi, rfl⟩ := List.mem_iff_getElem.1 hx
    have := hr.2 i (by rw [← hr.1]; exact hi)
    simp [nth, hi] at this; omega)
  have := hr.1; omega
theorem live_L0 {n : Nat} {c : CodeD} (hw : Wf c) (hn : 20000 ≤ n) : ∀ (fu k : Nat) (l : List (List Bool)), l.length = c.code.length → (∀ i, i < k → nth l i = List.replicate c.regs.toNat false) → k ≤ c.code.length → c.code.length < fu + k → ∃ l', s_live_L0 n c fu l (k : Int) = some l' ∧ Rows' c l'
  | 0, k, l, _, _, h1, h2 => by omega
  | fu + 1, k, l, hl, hi, h1, h2 => by
    have hl1 := hw.l1; have hr1 := hw.r1; have hr0 := hw.r0
    rw [s_live_L0]
    simp only [List.length_replicate, Int.toNat_natCast]
    by_cases hk : k < c.code.length
    · rw [decT (by omega), cond_true, mkb_of (by omega) (by omega), cond_true, inbN (by omega), cond_true, wI_succ (by omega)]
      refine live_L0 hw hn fu (k + 1) _ (by simpa using hl) (fun i hik => ?_) (by omega) (by omega)
      by_cases e : i = k
      · subst e; rw [nth_set_self (by omega)]
      · rw [nth_set_ne (fun q => e q.symm)]; exact hi i (by omega)
    · rw [decF (by omega), cond_false]
      have hr : Rows' c l := ⟨hl, fun i h => by rw [hi i (by omega)]; simp⟩
      exact live_L1 hw (by omega) n l true hr (fun i h r hr' e => by rw [hi i (by omega), nth_replicate, if_pos hr'] at e; cases e) (by have := holes_le hw hr; omega)
theorem live_some {n : Nat} {c : CodeD} (hw : Wf c) (hn : 20000 ≤ n) : ∃ l, s_live n c = some l ∧ Rows' c l := by
  have hl1 := hw.l1
  unfold s_live
  rw [mkb_of (by omega) (by omega), cond_true]
  exact live_L0 hw hn n 0 _ (by simp) (fun i hi => by omega) (Nat.zero_le _) (by omega)
end Go.Proofs.YtdniefnjgkhkeaaDoor
