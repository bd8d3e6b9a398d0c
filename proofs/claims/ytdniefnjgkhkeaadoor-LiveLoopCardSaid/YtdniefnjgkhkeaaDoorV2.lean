/-
  What package verify's functions compute, in plain Lean, and what holds of it: where a place is reached, the places behind it are.
  Conditions: none.
-/
import Derived.Test.YtdniefnjgkhkeaaDoorVf
namespace Go.Proofs.YtdniefnjgkhkeaaDoor
set_option linter.unusedVariables false
set_option linter.unusedSimpArgs false
open Go
theorem nth_set_self {α : Type} [Inhabited α] {o : List α} {i : Nat} {v : α} (h : i < o.length) : nth (o.set i v) i = v := by simp [nth, List.getElem?_set_self h]
theorem nth_set_ne {α : Type} [Inhabited α] {o : List α} {i j : Nat} {v : α} (h : i ≠ j) : nth (o.set i v) j = nth o j := by simp [nth, List.getElem?_set_ne h]
theorem nth_set_true {o : List Bool} {i j : Nat} (hi : i < o.length) (h : nth o j = true) : nth (o.set i true) j = true := by
  rcases Nat.decEq i j with h1 | h1
  · rw [nth_set_ne h1]; exact h
  · subst h1; exact nth_set_self hi
theorem nth_mem {α : Type} [Inhabited α] {l : List α} {k : Nat} (h : k < l.length) : nth l k ∈ l := List.mem_of_getElem? (nth_eq h)
theorem nth_replicate {α : Type} [Inhabited α] (n k : Nat) (v : α) : nth (List.replicate n v) k = if k < n then v else default := by
  unfold nth; rw [List.getD_eq_getElem?_getD, List.getElem?_replicate]; split <;> rfl
/-- Reached places: what is not in the row has its next ones flagged. -/
def rInv (f : FuncD) (o : List Bool) (r : List Int) : Prop :=
  o.length = f.code.length ∧ rowOk f r ∧ (∀ x ∈ r, nth o x.toNat = true) ∧ ∀ k : Nat, k < f.code.length → nth o k = true → (k : Int) ∉ r → ∀ y ∈ nextL f k, nth o y.toNat = true
theorem rfold (f : FuncD) : ∀ (L : List Int) (o : List Bool) (r : List Int), rowOk f L → o.length = f.code.length → rowOk f r → (∀ x ∈ r, nth o x.toNat = true) →
    let q := L.foldl rstep (o, r)
    q.1.length = f.code.length ∧ rowOk f q.2 ∧ (∀ x ∈ q.2, nth q.1 x.toNat = true) ∧ (∀ y ∈ L, nth q.1 y.toNat = true) ∧ (∀ k, nth o k = true → nth q.1 k = true) ∧ (∃ t, q.2 = r ++ t) ∧ (∀ k : Nat, nth q.1 k = true → nth o k = true ∨ (k : Int) ∈ q.2) ∧ cf q.1 + q.2.length ≤ cf o + r.length
  | [], o, r, _, ho, hr, hf => ⟨ho, hr, hf, by simp, fun _ h => h, ⟨[], by simp⟩, fun _ h => .inl h, Nat.le_refl _⟩
  | a :: L, o, r, hL, ho, hr, hf => by
    have ha := hL a (List.mem_cons_self ..)
    have hL' : rowOk f L := fun x hx => hL x (List.mem_cons_of_mem _ hx)
    have hlt : a.toNat < o.length := by omega
    by_cases hn : nth o a.toNat = true
    · have hq := rfold f L o r hL' ho hr hf
      simp only [List.foldl_cons, show rstep (o, r) a = (o, r) from if_pos hn]
      obtain ⟨h1, h2, h3, h4, h5, h6, h7, h8⟩ := hq
      refine ⟨h1, h2, h3, fun y hy => ?_, h5, h6, h7, h8⟩
      rcases List.mem_cons.1 hy with rfl | hy
      · exact h5 _ hn
      · exact h4 y hy
    · have hs : rstep (o, r) a = (o.set a.toNat true, r ++ [a]) := if_neg hn
      have hq := rfold f L (o.set a.toNat true) (r ++ [a]) hL' (by rw [List.length_set]; exact ho) (fun x hx => by
        rcases List.mem_append.1 hx with hx | hx
        · exact hr x hx
        · rw [List.mem_singleton.1 hx]; exact ha) (fun x hx => by
        rcases List.mem_append.1 hx with hx | hx
        · exact nth_set_true hlt (hf x hx)
        · rw [List.mem_singleton.1 hx]; exact nth_set_self hlt)
      simp only [List.foldl_cons, hs]
      obtain ⟨h1, h2, h3, h4, h5, ⟨t, h6⟩, h7, h8⟩ := hq
      have hcf := cf_set hlt (by simpa using hn)
      refine ⟨h1, h2, h3, fun y hy => ?_, fun k hk => h5 k (nth_set_true hlt hk), ⟨a :: t, by rw [h6]; simp⟩, fun k hk => ?_, by simp only [List.length_append, List.length_cons, List.length_nil] at h8; omega⟩
      · rcases List.mem_cons.1 hy with rfl | hy
        · exact h5 _ (nth_set_self hlt)
        · exact h4 y hy
      · rcases h7 k hk with h | h
        · rcases Nat.decEq a.toNat k with h1 | h1
          · rw [nth_set_ne h1] at h; exact .inl h
          · right; rw [h6]; simp; right; left; omega
        · exact .inr h
theorem reach_run (f : FuncD) (hc : codeMay f.code = true) : ∀ (n : Nat) (o : List Bool) (r : List Int), rInv f o r → cf o + r.length ≤ n →
    (∀ k, nth o k = true → nth (reachRun f n o r) k = true) ∧ ∀ k : Nat, k < f.code.length → nth (reachRun f n o r) k = true → ∀ y ∈ nextL f k, nth (reachRun f n o r) y.toNat = true
  | n, o, [], h, _ => by
    have e : reachRun f n o [] = o := by cases n <;> rfl
    rw [e]; exact ⟨fun _ h => h, fun k hk h1 => h.2.2.2 k hk h1 (by simp)⟩
  | 0, o, x :: r, _, hn => by simp at hn
  | n + 1, o, pc :: r, ⟨h1, h2, h3, h4⟩, hn => by
    have hpc := h2 pc (List.mem_cons_self ..)
    obtain ⟨g1, g2, g3, g4, g5, ⟨t, g6⟩, g7, g8⟩ := rfold f (nextL f pc) o (pc :: r) (nextL_ok hc hpc.1 hpc.2) h1 h2 h3
    rw [show reachRun f (n + 1) o (pc :: r) = reachRun f n ((nextL f pc).foldl rstep (o, pc :: r)).1 ((nextL f pc).foldl rstep (o, pc :: r)).2.tail from rfl]
    generalize (nextL f pc).foldl rstep (o, pc :: r) = q at *
    obtain ⟨qo, qr⟩ := q
    simp only at g1 g2 g3 g4 g5 g6 g7 g8 ⊢
    subst g6
    have ih := reach_run f hc n qo ((pc :: r ++ t).tail) ⟨g1, fun x hx => g2 x (List.mem_of_mem_tail hx), fun x hx => g3 x (List.mem_of_mem_tail hx), fun k hk hk1 hk2 y hy => ?_⟩ (by simp only [List.cons_append, List.tail_cons, List.length_append, List.length_cons] at *; omega)
    · exact ⟨fun k hk => ih.1 k (g5 k hk), ih.2⟩
    · by_cases e : (k : Int) = pc
      · rw [e] at hy; exact g4 y hy
      · rcases g7 k hk1 with h | h
        · exact g5 _ (h4 k hk h (fun hm => hk2 (by
            rcases List.mem_cons.1 hm with hm | hm
            · exact absurd hm e
            · simp; exact .inl hm)) y hy)
        · exact absurd (show (k : Int) ∈ (pc :: r ++ t).tail by
            rcases List.mem_cons.1 (show (k : Int) ∈ pc :: (r ++ t) from h) with hm | hm
            · exact absurd hm e
            · exact hm) hk2
theorem reached_init (f : FuncD) (hc : codeMay f.code = true) : rInv f ((List.replicate f.code.length false).set 0 true) [0] := by
  have hl := codeMay_len hc
  refine ⟨by simp, fun x hx => by simp at hx; subst hx; omega, fun x hx => by simp at hx; subst hx; exact nth_set_self (by simp; omega), fun k hk h1 h2 => ?_⟩
  exfalso
  by_cases e : 0 = k
  · subst e; simp at h2
  · rw [nth_set_ne e] at h1; rw [nth_replicate, if_pos hk] at h1; cases h1
theorem reached_zero {f : FuncD} (hc : codeMay f.code = true) : nth (reachedL f) 0 = true := by
  have hl := codeMay_len hc
  exact (reach_run f hc _ _ _ (reached_init f hc) (by have := cf_init f.code.length hl.1; simpa using this)).1 0 (nth_set_self (by simp; omega))
theorem reached_next {f : FuncD} (hc : codeMay f.code = true) {x : Int} (h0 : 0 ≤ x) (h1 : x < f.code.length) (h : nth (reachedL f) x.toNat = true) : ∀ y ∈ nextL f x, nth (reachedL f) y.toNat = true := by
  have hl := codeMay_len hc
  have := (reach_run f hc _ _ _ (reached_init f hc) (by have := cf_init f.code.length hl.1; simpa using this)).2 x.toNat (by omega) h
  rwa [Int.toNat_of_nonneg h0] at this
theorem reachRun_len (f : FuncD) : ∀ (n : Nat) (o : List Bool) (r : List Int), (reachRun f n o r).length = o.length
  | 0, _, _ => rfl
  | _ + 1, _, [] => rfl
  | n + 1, o, pc :: r => by
    have key : ∀ (L : List Int) (q : List Bool × List Int), (L.foldl rstep q).1.length = q.1.length := by
      intro L; induction L with
      | nil => intro q; rfl
      | cons a L ih => intro q; rw [List.foldl_cons, ih]; unfold rstep; split <;> simp
    rw [show reachRun f (n + 1) o (pc :: r) = reachRun f n ((nextL f pc).foldl rstep (o, pc :: r)).1 ((nextL f pc).foldl rstep (o, pc :: r)).2.tail from rfl, reachRun_len, key]
theorem reachedL_len (f : FuncD) : (reachedL f).length = f.code.length := by simp [reachedL, reachRun_len]

/-! ### verify.plain -/
def badAt (p : Prog) (f : FuncD) (reached : List Bool) (k : Nat) : Bool := nth reached k && outsideB p f (nth f.code k)
def plainE (p : Prog) (f : FuncD) (reached : List Bool) : Option (Int × Int) :=
  match (List.range f.code.length).find? (badAt p f reached) with
  | some k => some ((k : Int), 501)
  | none => if nth reached (f.code.length - 1) = true ∧ (nth f.code (f.code.length - 1)).kind ≠ 12 ∧ (nth f.code (f.code.length - 1)).kind ≠ 16 then some ((f.code.length : Int) - 1, 503) else none
def noneBad (p : Prog) (f : FuncD) (reached : List Bool) (k : Nat) : Prop := ∀ j, j < k → badAt p f reached j = false
theorem noneBad_next {p : Prog} {f : FuncD} {reached : List Bool} {k : Nat} (h : noneBad p f reached k) (hk : badAt p f reached k = false) : noneBad p f reached (k + 1) := fun j hj => by
  rcases Nat.lt_succ_iff_lt_or_eq.1 hj with h1 | rfl
  · exact h j h1
  · exact hk
theorem plain_hit {p : Prog} {f : FuncD} {reached : List Bool} {k : Nat} (hk : k < f.code.length) (h : noneBad p f reached k) (hb : badAt p f reached k = true) : some ((k : Int), (501 : Int)) = plainE p f reached := by
  unfold plainE
  rw [(List.find?_range_eq_some).2 ⟨hb, List.mem_range.2 hk, fun j hj => by simp [h j hj]⟩]
theorem plain_none {p : Prog} {f : FuncD} {reached : List Bool} {k : Nat} (hk : f.code.length ≤ k) (h : noneBad p f reached k) :
    plainE p f reached = if nth reached (f.code.length - 1) = true ∧ (nth f.code (f.code.length - 1)).kind ≠ 12 ∧ (nth f.code (f.code.length - 1)).kind ≠ 16 then some ((f.code.length : Int) - 1, 503) else none := by
  unfold plainE
  rw [List.find?_eq_none.2 fun j hj => by rw [h j (by have := List.mem_range.1 hj; omega)]; simp]
theorem plain_inside {p : Prog} {f : FuncD} (h : plainE p f (reachedL f) = none) {x : Int} (h0 : 0 ≤ x) (h1 : x < f.code.length) (hr : nth (reachedL f) x.toNat = true) : outsideB p f (nth f.code x.toNat) = false := by
  unfold plainE at h
  split at h
  · cases h
  · rename_i hn
    have := List.find?_eq_none.1 hn x.toNat (List.mem_range.2 (by omega))
    simpa [badAt, hr] using this

/-! ### verify.heights -/
def hto (h : Int) : Option (List Int × List Int) → Int → Option (List Int × List Int)
  | none, _ => none
  | some (o, r), to => if nth o to.toNat = -1 then some (o.set to.toNat h, r ++ [to]) else if nth o to.toNat = h then some (o, r) else none
def effAt (p : Prog) (f : FuncD) (pc : Int) : Int × Int × Int := ft (nth f.code pc.toNat) (argsOf p (nth f.code pc.toNat))
def hAt (p : Prog) (f : FuncD) (o : List Int) (pc : Int) : Int := nth o pc.toNat - (effAt p f pc).1 + (effAt p f pc).2.1
def hRun (p : Prog) (f : FuncD) : Nat → List Int → List Int → List Int × Option (Int × Int)
  | 0, o, _ => (o, none)
  | _ + 1, o, [] => (o, none)
  | n + 1, o, pc :: r =>
    if nth o pc.toNat < (effAt p f pc).1 ∨ 8 < hAt p f o pc then ([], some (pc, 502))
    else match (nextL f pc).foldl (hto (hAt p f o pc)) (some (o, pc :: r)) with
      | none => ([], some (pc, 502))
      | some q => hRun p f n q.1 q.2.tail
def heightsE (p : Prog) (f : FuncD) : List Int × Option (Int × Int) := hRun p f f.code.length ((List.replicate f.code.length (-1)).set 0 0) [0]
def cN (o : List Int) : Nat := o.count (-1)
/-- What the run of verify.heights keeps. -/
structure HInv (f : FuncD) (fu : Nat) (o r : List Int) : Prop where
  len : o.length = f.code.length
  cnt : cN o + r.length ≤ fu
  row : rowOk f r
  got : ∀ x ∈ r, nth (reachedL f) x.toNat = true
  bd : ∀ k, -1 ≤ nth o k ∧ nth o k ≤ 8
theorem effectT_bd (i : Ins) (n : Int) : 0 ≤ (ft i n).1 ∧ (ft i n).1 ≤ 4 ∧ 0 ≤ (ft i n).2.1 ∧ (ft i n).2.1 ≤ 2 := by
  unfold ft; (repeat' split) <;> simp <;> omega
theorem cN_set {o : List Int} {i : Nat} {h : Int} (hi : i < o.length) (hn : nth o i = -1) (h0 : 0 ≤ h) : cN (o.set i h) + 1 = cN o := by
  have h1 : o[i] = -1 := by have := nth_eq hi; rw [List.getElem?_eq_getElem hi] at this; rw [Option.some.inj this]; exact hn
  have hp : 0 < o.count (-1) := List.count_pos_iff.2 (h1 ▸ List.getElem_mem hi)
  have hh : (h == -1) = false := by simp; omega
  unfold cN; rw [List.count_set hi, h1, hh]; simp; omega
theorem HInv.init {f : FuncD} (hc : codeMay f.code = true) : HInv f f.code.length ((List.replicate f.code.length (-1)).set 0 0) [0] := by
  have hl := codeMay_len hc
  have h0 : nth (List.replicate f.code.length (-1 : Int)) 0 = -1 := by rw [nth_replicate, if_pos (by omega)]
  have hcn := cN_set (o := List.replicate f.code.length (-1)) (i := 0) (h := 0) (by simp; omega) h0 (by omega)
  refine ⟨by simp, ?_, fun x hx => by simp at hx; subst hx; omega, fun x hx => by simp at hx; subst hx; exact reached_zero hc, fun k => ?_⟩
  · have : cN (List.replicate f.code.length (-1)) = f.code.length := by simp [cN]
    simp; omega
  · by_cases e : 0 = k
    · subst e; rw [nth_set_self (by simp; omega)]; omega
    · rw [nth_set_ne e]; rw [nth_replicate]; split
      · omega
      · show (-1 : Int) ≤ 0 ∧ (0 : Int) ≤ 8; omega
theorem HInv.put {f : FuncD} {fu : Nat} {o r : List Int} {to h : Int} (v : HInv f fu o r) (h0 : 0 ≤ to) (h1 : to < f.code.length) (hg : nth (reachedL f) to.toNat = true) (hn : nth o to.toNat = -1) (hh : 0 ≤ h) (h8 : h ≤ 8) :
    HInv f fu (o.set to.toNat h) (r ++ [to]) := by
  have hlt : to.toNat < o.length := by have := v.len; omega
  have := cN_set hlt hn hh
  refine ⟨by rw [List.length_set]; exact v.len, by have := v.cnt; simp; omega, fun x hx => ?_, fun x hx => ?_, fun k => ?_⟩
  · rcases List.mem_append.1 hx with hx | hx
    · exact v.row x hx
    · rw [List.mem_singleton.1 hx]; exact ⟨h0, h1⟩
  · rcases List.mem_append.1 hx with hx | hx
    · exact v.got x hx
    · rw [List.mem_singleton.1 hx]; exact hg
  · by_cases e : to.toNat = k
    · subst e; rw [nth_set_self hlt]; omega
    · rw [nth_set_ne e]; exact v.bd k
theorem HInv.next {f : FuncD} {fu : Nat} {o r : List Int} (v : HInv f fu o r) (h : 1 ≤ r.length) : HInv f (fu - 1) o (r.drop 1) :=
  ⟨v.len, by have := v.cnt; rw [List.length_drop]; omega, fun x hx => v.row x (List.mem_of_mem_drop hx), fun x hx => v.got x (List.mem_of_mem_drop hx), v.bd⟩
/-- Calls that are reached name a function. -/
def callsIn (p : Prog) (f : FuncD) : Prop := ∀ x : Int, 0 ≤ x → x < f.code.length → nth (reachedL f) x.toNat = true → (nth f.code x.toNat).kind = 14 → 0 ≤ (nth f.code x.toNat).a ∧ (nth f.code x.toNat).a < p.funcs.length
theorem callsIn_of {p : Prog} {f : FuncD} (hc : codeMay f.code = true) (h : plainE p f (reachedL f) = none) : callsIn p f := fun x h0 h1 hr hk => by
  have h2 := plain_inside h h0 h1 hr
  have h3 := codeMay_ins hc (k := x.toNat) (by omega)
  unfold outsideB at h2
  unfold insMay at h3
  rw [hk] at h2 h3
  simp at h2 h3
  omega
theorem hto_hit {o o0 r r0 L : List Int} {k : Nat} {h : Int} (hk : k < L.length) (e : some (o, r) = (L.take k).foldl (hto h) (some (o0, r0))) (hn : nth o (nth L k).toNat = -1) : some (o.set (nth L k).toNat h, r ++ [nth L k]) = (L.take (k + 1)).foldl (hto h) (some (o0, r0)) := by
  rw [nth_take hk, List.foldl_append, ← e]; simp [hto, hn]
theorem hto_same {o o0 r r0 L : List Int} {k : Nat} {h : Int} (hk : k < L.length) (e : some (o, r) = (L.take k).foldl (hto h) (some (o0, r0))) (hn : ¬ nth o (nth L k).toNat = -1) (hs : nth o (nth L k).toNat = h) : some (o, r) = (L.take (k + 1)).foldl (hto h) (some (o0, r0)) := by
  rw [nth_take hk, List.foldl_append, ← e]; simp only [List.foldl_cons, List.foldl_nil, hto, if_neg hn, if_pos hs]
theorem hto_none (h : Int) : ∀ L : List Int, L.foldl (hto h) none = none
  | [] => rfl
  | _ :: L => hto_none h L
theorem hto_bad {o o0 r r0 L : List Int} {k : Nat} {h : Int} (hk : k < L.length) (e : some (o, r) = (L.take k).foldl (hto h) (some (o0, r0))) (hn : ¬ nth o (nth L k).toNat = -1) (hs : ¬ nth o (nth L k).toNat = h) : L.foldl (hto h) (some (o0, r0)) = none := by
  have : L = L.take (k + 1) ++ L.drop (k + 1) := (List.take_append_drop _ _).symm
  rw [this, List.foldl_append, nth_take hk, List.foldl_append, ← e]
  simp only [List.foldl_cons, List.foldl_nil, hto, hn, hs, if_false]; exact hto_none h _
theorem hRun_low {p : Prog} {f : FuncD} {fu : Nat} {o r : List Int} (hr : 0 < r.length) (hf : 1 ≤ fu) (h : nth o (nth r 0).toNat < (effAt p f (nth r 0)).1 ∨ 8 < hAt p f o (nth r 0)) : hRun p f fu o r = ([], some (nth r 0, 502)) := by
  obtain ⟨n, rfl⟩ : ∃ n, fu = n + 1 := ⟨fu - 1, by omega⟩
  match r, hr with
  | pc :: r', _ => exact if_pos h
theorem hRun_bad {p : Prog} {f : FuncD} {fu : Nat} {o r : List Int} (hr : 0 < r.length) (hf : 1 ≤ fu) (h : ¬ (nth o (nth r 0).toNat < (effAt p f (nth r 0)).1 ∨ 8 < hAt p f o (nth r 0))) (e : (nextL f (nth r 0)).foldl (hto (hAt p f o (nth r 0))) (some (o, r)) = none) : hRun p f fu o r = ([], some (nth r 0, 502)) := by
  obtain ⟨n, rfl⟩ : ∃ n, fu = n + 1 := ⟨fu - 1, by omega⟩
  match r, hr with
  | pc :: r', _ =>
    have e' : (nextL f pc).foldl (hto (hAt p f o pc)) (some (o, pc :: r')) = none := e
    show (if _ then _ else _) = _
    have h' : ¬ (nth o pc.toNat < (effAt p f pc).1 ∨ 8 < hAt p f o pc) := h
    rw [if_neg h', e']; rfl
theorem hRun_next {p : Prog} {f : FuncD} {fu : Nat} {o r o2 r2 : List Int} (hr : 0 < r.length) (hf : 1 ≤ fu) (h : ¬ (nth o (nth r 0).toNat < (effAt p f (nth r 0)).1 ∨ 8 < hAt p f o (nth r 0))) (e : some (o2, r2) = (nextL f (nth r 0)).foldl (hto (hAt p f o (nth r 0))) (some (o, r))) : hRun p f fu o r = hRun p f (fu - 1) o2 (r2.drop 1) := by
  obtain ⟨n, rfl⟩ : ∃ n, fu = n + 1 := ⟨fu - 1, by omega⟩
  match r, hr with
  | pc :: r', _ =>
    have e' : (nextL f pc).foldl (hto (hAt p f o pc)) (some (o, pc :: r')) = some (o2, r2) := e.symm
    show (if _ then _ else _) = _
    have h' : ¬ (nth o pc.toNat < (effAt p f pc).1 ∨ 8 < hAt p f o pc) := h
    rw [if_neg h', e']; simp
theorem hRun_done {p : Prog} {f : FuncD} {fu : Nat} {o r : List Int} (hr : ¬ 0 < (r.length : Int)) : hRun p f fu o r = (o, none) := by
  have : r = [] := List.eq_nil_of_length_eq_zero (by omega)
  subst this; cases fu <;> rfl
def ht' (p : Prog) (fn : Int) : List Int × Int × Int :=
  if packMay p = true ∧ 0 ≤ fn ∧ fn < p.funcs.length then
    if (plainE p (nth p.funcs fn.toNat) (reachedL (nth p.funcs fn.toNat))).isNone = true then ((heightsE p (nth p.funcs fn.toNat)).1, (toldT (heightsE p (nth p.funcs fn.toNat)).2).1, (toldT (heightsE p (nth p.funcs fn.toNat)).2).2)
    else ([], (toldT (plainE p (nth p.funcs fn.toNat) (reachedL (nth p.funcs fn.toNat)))).1, (toldT (plainE p (nth p.funcs fn.toNat) (reachedL (nth p.funcs fn.toNat)))).2)
  else ([], 0, 500)
theorem packMay_func {p : Prog} (h : packMay p = true) {k : Nat} (hk : k < p.funcs.length) : funcMay (nth p.funcs k) = true := by
  simp only [packMay, Bool.and_eq_true, Bool.not_eq_true', List.any_eq_false] at h
  have := h.2 (nth p.funcs k) (List.mem_of_getElem? (nth_eq hk)); simpa using this
theorem packMay_len {p : Prog} (h : packMay p = true) : 1 ≤ p.funcs.length ∧ p.funcs.length ≤ 8 := by
  simp only [packMay, Bool.and_eq_true, decide_eq_true_eq] at h; exact h.1
theorem funcMay_code {f : FuncD} (h : funcMay f = true) : codeMay f.code = true := by
  simp only [funcMay, Bool.and_eq_true] at h; exact h.2
def allT (p : Prog) : List (List Int) × Int :=
  if packMay p = true then
    match (List.range p.funcs.length).find? (fun k : Nat => !decide ((ht' p k).2.2 = 0)) with
    | some k => ([], (ht' p k).2.2)
    | none => ((List.range p.funcs.length).map fun k : Nat => (ht' p k).1, 0)
  else ([], 500)
def noneErr (p : Prog) (k : Nat) : Prop := ∀ j : Nat, j < k → (ht' p j).2.2 = 0
theorem all_hit {p : Prog} {k : Nat} (hm : packMay p = true) (hk : k < p.funcs.length) (h : noneErr p k) (hb : ¬ (ht' p k).2.2 = 0) : allT p = ([], (ht' p k).2.2) := by
  unfold allT
  rw [if_pos hm, (List.find?_range_eq_some).2 ⟨by simpa using hb, List.mem_range.2 hk, fun j hj => by simp [h j hj]⟩]
theorem all_none {p : Prog} {k : Nat} (hm : packMay p = true) (hk : p.funcs.length ≤ k) (h : noneErr p k) : allT p = ((List.range p.funcs.length).map fun k : Nat => (ht' p k).1, 0) := by
  unfold allT
  rw [if_pos hm, List.find?_eq_none.2 fun j hj => by rw [h j (by have := List.mem_range.1 hj; omega)]; simp]
theorem noneErr_next {p : Prog} {k : Nat} (h : noneErr p k) (hk : (ht' p k).2.2 = 0) : noneErr p (k + 1) := fun j hj => by
  rcases Nat.lt_succ_iff_lt_or_eq.1 hj with h1 | rfl
  · exact h j h1
  · exact hk
end Go.Proofs.YtdniefnjgkhkeaaDoor
