/-
  What package dead's functions compute on code that may be, in plain Lean: after, here, live, once, Dead come to an end.
  Conditions: as each statement says.
-/
import Derived.Test.YtdniefnjgkhkeaaDoorQ1
namespace Go.Proofs.YtdniefnjgkhkeaaDoor
set_option linter.unusedVariables false
set_option linter.unusedSimpArgs false
open Go
theorem nth_map_range {α : Type} [Inhabited α] (f : Nat → α) {n i : Nat} (h : i < n) : nth ((List.range n).map f) i = f i := by simp [nth, h]
theorem ext_nth {α : Type} [Inhabited α] {a b : List α} (h : a.length = b.length) (e : ∀ i, i < a.length → nth a i = nth b i) : a = b := by
  apply List.ext_getElem h
  intro i h1 h2
  have := e i h1
  simpa [nth, h1, h2] using this
/-- Rows of so many bits. -/
def Rows' (c : CodeD) (l : List (List Bool)) : Prop := l.length = c.code.length ∧ ∀ i, i < c.code.length → (nth l i).length = c.regs.toNat
theorem behind_some {n : Nat} {x : Ir} {k : Nat} (hk : k < 1000) : s_behind n x (k : Int) = some (behindL x k) := by
  unfold s_behind behindL
  by_cases h4 : x.kind = 4
  · simp [h4]
  · by_cases h5 : x.kind = 5
    · simp [h5, wI_succ (show k < 1000000000000000000 by omega)]
    · by_cases h8 : x.kind = 8
      · simp [h8]
      · simp [h4, h5, h8, wI_succ (show k < 1000000000000000000 by omega)]
theorem behind_in {c : CodeD} (hw : Wf c) {k : Nat} (hk : k < c.code.length) : ∀ t ∈ behindL (nth c.code k) k, 0 ≤ t ∧ t < c.code.length := by
  intro t ht
  unfold behindL at ht
  split at ht
  · rename_i h; simp at ht; subst ht; exact hw.go k hk (by simp [goesB, h])
  · split at ht
    · rename_i h4 h; simp at ht
      rcases ht with rfl | rfl
      · have := hw.nx k hk h4 (by omega); omega
      · exact hw.go k hk (by simp [goesB, h])
    · split at ht
      · simp at ht
      · rename_i h4 h5 h8; simp at ht; subst ht; have := hw.nx k hk h4 h8; omega
/-- One row into another. -/
theorem after_L1 {n : Nat} {lv : List (List Bool)} {v : List Int} {x : Int} {m : Nat} (hm : m < 1000) (hr : (nth lv (nth v x.toNat).toNat).length = m) : ∀ (fu k : Nat) (o : List Bool), o.length = m → k ≤ m → m < fu + k →
    ∃ o', s_after_L1 n lv v x fu o (k : Int) = some (.inl o') ∧ o'.length = m ∧ ∀ r, r < m → nth o' r = (nth o r || (decide (k ≤ r) && nth (nth lv (nth v x.toNat).toNat) r))
  | 0, k, o, _, h1, h2 => by omega
  | fu + 1, k, o, ho, h1, h2 => by
    rw [s_after_L1]
    by_cases hk : k < m
    · rw [decT (by omega), cond_true, inbN (by omega), cond_true, inbN (by omega), cond_true, Int.toNat_natCast, wI_succ (by omega)]
      cases hb : nth o k with
      | true =>
        obtain ⟨o', h3, h4, h5⟩ := after_L1 hm hr fu (k + 1) (o.set k true) (by simpa using ho) (by omega) (by omega)
        refine ⟨o', h3, h4, fun r hr' => ?_⟩
        rw [h5 r hr']
        by_cases hrk : k = r
        · subst hrk; rw [nth_set_self (by omega), hb]; simp
        · rw [nth_set_ne hrk]
          rw [show decide (k + 1 ≤ r) = decide (k ≤ r) from by rw [decide_eq_decide]; omega]
      | false =>
        obtain ⟨o', h3, h4, h5⟩ := after_L1 hm hr fu (k + 1) (o.set k (nth (nth lv (nth v x.toNat).toNat) k)) (by simpa using ho) (by omega) (by omega)
        refine ⟨o', h3, h4, fun r hr' => ?_⟩
        rw [h5 r hr']
        by_cases hrk : k = r
        · subst hrk; rw [nth_set_self (by omega), hb]; simp
        · rw [nth_set_ne hrk]
          rw [show decide (k + 1 ≤ r) = decide (k ≤ r) from by rw [decide_eq_decide]; omega]
    · rw [decF (by omega)]
      refine ⟨o, rfl, ho, fun r hr' => ?_⟩
      rw [decF (by omega)]; simp
theorem after_L0 {n : Nat} {c : CodeD} {lv : List (List Bool)} {v : List Int} (hw : Wf c) (hn : 1000 ≤ n) (hl : Rows' c lv) (hv : ∀ t ∈ v, 0 ≤ t ∧ t < c.code.length) (hvl : v.length < 1000) : ∀ (fu k : Nat) (o : List Bool), o.length = c.regs.toNat → k ≤ v.length → v.length < fu + k →
    ∃ o', s_after_L0 n lv v fu o (k : Int) = some o' ∧ o'.length = c.regs.toNat ∧ ∀ r, r < c.regs.toNat → nth o' r = (nth o r || (v.drop k).any fun t => nth (nth lv t.toNat) r)
  | 0, k, o, _, h1, h2 => by omega
  | fu + 1, k, o, ho, h1, h2 => by
    have := hw.r1
    rw [s_after_L0]
    by_cases hk : k < v.length
    · have ht := hv _ (nth_mem hk)
      rw [decT (by omega), cond_true, inbN hk, cond_true, Int.toNat_natCast, inb_of ht.1 (by rw [hl.1]; exact ht.2), cond_true, wI_succ (by omega)]
      obtain ⟨o1, h3, h4, h5⟩ := after_L1 (n := n) (lv := lv) (v := v) (x := (k : Int)) (m := c.regs.toNat) (by omega) (by rw [Int.toNat_natCast]; exact hl.2 _ (by omega)) n 0 o ho (Nat.zero_le _) (by omega)
      have h3' : s_after_L1 n lv v (k : Int) n o 0 = some (.inl o1) := h3
      rw [h3']
      obtain ⟨o', h6, h7, h8⟩ := after_L0 hw hn hl hv hvl fu (k + 1) o1 h4 (by omega) (by omega)
      refine ⟨o', h6, h7, fun r hr => ?_⟩
      rw [h8 r hr, h5 r hr, Int.toNat_natCast]
      rw [show v.drop k = nth v k :: v.drop (k + 1) from by rw [List.drop_eq_getElem_cons hk]; simp [nth, hk]]
      simp [Bool.or_assoc]
    · rw [decF (by omega)]
      refine ⟨o, rfl, ho, fun r _ => ?_⟩
      rw [List.drop_eq_nil_of_le (by omega)]; simp
/-- Which registers may be read behind a place. -/
def afterF (c : CodeD) (lv : List (List Bool)) (k : Nat) : List Bool := (List.range c.regs.toNat).map fun r => (behindL (nth c.code k) k).any fun t => nth (nth lv t.toNat) r
theorem mkb_of {z : Int} {sz : Nat} (h0 : 0 ≤ z) (h1 : z.toNat * sz ≤ 140737488351232) : mkb z sz = true := by simp [mkb, h0, room, h1]
theorem after_some {n : Nat} {c : CodeD} {lv : List (List Bool)} (hw : Wf c) (hn : 1000 ≤ n) (hl : Rows' c lv) {k : Nat} (hk : k < c.code.length) : s_after n c lv (k : Int) = some (afterF c lv k) := by
  have := hw.r1; have := hw.l1; have := hw.r0
  unfold s_after
  rw [mkb_of (by omega) (by omega), cond_true, inbN hk, cond_true, Int.toNat_natCast, behind_some (by omega)]
  have hb : (behindL (nth c.code k) k).length ≤ 2 := by unfold behindL; split <;> (try split) <;> (try split) <;> simp
  obtain ⟨o', h1, h2, h3⟩ := after_L0 (n := n) (v := behindL (nth c.code k) k) hw hn hl (behind_in hw hk) (by omega) n 0 (List.replicate c.regs.toNat false) (by simp) (Nat.zero_le _) (by omega)
  simp only [Option.bind_some]
  rw [show s_after_L0 n lv (behindL (nth c.code k) k) n (List.replicate c.regs.toNat false) 0 = some o' from h1]
  congr 1
  refine ext_nth (by simp [afterF, h2]) fun r hr => ?_
  rw [h2] at hr
  rw [h3 r hr, afterF, nth_map_range _ hr, nth_replicate, if_pos hr]; simp
/-- The sources of a meta. -/
def srcsL (m : Meta) : List Src := m.parts.flatMap fun x => x.locals ++ x.stack
theorem srcs_L2 {n : Nat} {m : Meta} {x y : Int} {S : List Src} (hS : nth ([(nth m.parts x.toNat).locals, (nth m.parts x.toNat).stack] : List (List Src)) y.toNat = S) (hl : S.length < 1000) : ∀ (fu k : Nat) (o : List (Ptr Src)), o.length + S.length < 10000 + k → k ≤ S.length → S.length < fu + k →
    s_Srcs_L2 n m x y fu o (k : Int) = some (.inl (o ++ (S.drop k).map Ptr.mk))
  | 0, k, o, _, h1, h2 => by omega
  | fu + 1, k, o, ho, h1, h2 => by
    rw [s_Srcs_L2, hS]
    by_cases hk : k < S.length
    · rw [decT (by omega), cond_true, inbN hk, cond_true, bigOk (by omega), cond_true, Int.toNat_natCast, wI_succ (by omega)]
      rw [srcs_L2 hS hl fu (k + 1) _ (by simp; omega) (by omega) (by omega)]
      rw [show S.drop k = nth S k :: S.drop (k + 1) from by rw [List.drop_eq_getElem_cons hk]; simp [nth, hk]]
      simp
    · rw [decF (by omega), List.drop_eq_nil_of_le (by omega)]; simp
theorem srcs_L1 {n : Nat} {m : Meta} {x : Int} (hn : 1000 ≤ n) (h8 : (nth m.parts x.toNat).locals.length ≤ 8 ∧ (nth m.parts x.toNat).stack.length ≤ 8) {o : List (Ptr Src)} (ho : o.length < 5000) :
    s_Srcs_L1 n m x n o 0 = some (.inl (o ++ ((nth m.parts x.toNat).locals ++ (nth m.parts x.toNat).stack).map Ptr.mk)) := by
  obtain ⟨q, rfl⟩ : ∃ q, n = q + 3 := ⟨n - 3, by omega⟩
  rw [s_Srcs_L1]
  have e0 := srcs_L2 (n := q + 3) (m := m) (x := x) (y := 0) (S := (nth m.parts x.toNat).locals) rfl (by omega) (q + 3) 0 o (by omega) (Nat.zero_le _) (by omega)
  rw [show s_Srcs_L2 (q + 3) m x 0 (q + 3) o 0 = _ from e0]
  simp only [List.drop_zero]
  rw [show decide ((0 : Int) < 2) = true from rfl, cond_true, show inb 0 2 = true from rfl, cond_true]
  show s_Srcs_L1 (q + 3) m x (q + 2) (o ++ List.map Ptr.mk (nth m.parts x.toNat).locals) (wI (0 + 1)) = _
  rw [show wI (0 + 1) = 1 from rfl, s_Srcs_L1]
  have e1 := srcs_L2 (n := q + 3) (m := m) (x := x) (y := 1) (S := (nth m.parts x.toNat).stack) rfl (by omega) (q + 3) 0 (o ++ List.map Ptr.mk (nth m.parts x.toNat).locals) (by simp; omega) (Nat.zero_le _) (by omega)
  rw [show s_Srcs_L2 (q + 3) m x 1 (q + 3) (o ++ List.map Ptr.mk (nth m.parts x.toNat).locals) 0 = _ from e1]
  simp only [List.drop_zero]
  rw [show decide ((1 : Int) < 2) = true from rfl, cond_true, show inb 1 2 = true from rfl, cond_true]
  show s_Srcs_L1 (q + 3) m x (q + 1) _ (wI (1 + 1)) = _
  rw [show wI (1 + 1) = 2 from rfl, s_Srcs_L1, show decide ((2 : Int) < 2) = false from rfl, cond_false]
  simp
theorem srcs_L0 {n : Nat} {m : Meta} (hn : 1000 ≤ n) (hp : m.parts.length ≤ 2) (h8 : ∀ x ∈ m.parts, x.locals.length ≤ 8 ∧ x.stack.length ≤ 8) : ∀ (fu k : Nat) (o : List (Ptr Src)), o.length ≤ 16 * k → k ≤ m.parts.length → m.parts.length < fu + k →
    s_Srcs_L0 n m fu o (k : Int) = some (o ++ ((m.parts.drop k).flatMap fun x => x.locals ++ x.stack).map Ptr.mk)
  | 0, k, o, _, h1, h2 => by omega
  | fu + 1, k, o, ho, h1, h2 => by
    rw [s_Srcs_L0]
    by_cases hk : k < m.parts.length
    · have h9 := h8 _ (nth_mem hk)
      rw [decT (by omega), cond_true, inbN hk, cond_true, wI_succ (by omega), srcs_L1 hn (by rw [Int.toNat_natCast]; exact h9) (by omega), Int.toNat_natCast]
      show s_Srcs_L0 n m fu _ _ = _
      rw [srcs_L0 hn hp h8 fu (k + 1) _ (by simp; omega) (by omega) (by omega)]
      rw [show m.parts.drop k = nth m.parts k :: m.parts.drop (k + 1) from by rw [List.drop_eq_getElem_cons hk]; simp [nth, hk]]
      simp
    · rw [decF (by omega), List.drop_eq_nil_of_le (by omega)]; simp
theorem srcs_some {n : Nat} {m : Meta} (hn : 1000 ≤ n) (hp : m.parts.length ≤ 2) (h8 : ∀ x ∈ m.parts, x.locals.length ≤ 8 ∧ x.stack.length ≤ 8) : s_Srcs n m = some ((srcsL m).map Ptr.mk) := by
  have := srcs_L0 hn hp h8 n 0 [] (by simp) (Nat.zero_le _) (by omega)
  simpa [s_Srcs, srcsL] using this
end Go.Proofs.YtdniefnjgkhkeaaDoor
