/-
  What the program's functions compute, in plain Lean: no program and no memory in sight.
  Conditions: none.
-/
import Derived.Test.YtdniefnjgkhkeaaDoorRx
namespace Go.Proofs.YtdniefnjgkhkeaaDoor
set_option linter.unusedVariables false
set_option linter.unusedSimpArgs false
open Go
structure Sheet where (code : Ptr CodeD) (p : Ptr Prog) (heights : List (List Int))
instance : Inhabited Sheet := ⟨⟨⟨default⟩, ⟨default⟩, []⟩⟩
def setsB (kind : Int) : Bool := decide (kind = 1) || decide (kind = 2) || decide (kind = 3) || decide (kind = 6)
def goesB (kind : Int) : Bool := decide (kind = 4) || decide (kind = 5)
def leavesB (kind : Int) : Bool := decide (kind = 9) || decide (kind = 10)
def belowI (kind : Int) : Int := if kind = 1 ∨ kind = 2 then 8 else if kind = 12 ∨ kind = 13 then 64 else if kind = 14 then 8 else 1
def isW (x : Int) : Bool := decide (IntKind.i64.wrap (IntKind.i32.wrap x) = x)
def dropsB (x : Ir) : Bool := if x.kind = 3 then decide (x.k ≠ 6) && decide (x.k ≠ 7) else decide (x.kind = 1) || decide (x.kind = 2)
def behindL (x : Ir) (at_ : Int) : List Int := if x.kind = 4 then [x.k] else if x.kind = 5 then [at_ + 1, x.k] else if x.kind = 8 then [] else [at_ + 1]
def idxI {α : Type} (s : List α) (p : α → Bool) : Int := match s.findIdx? p with | some i => i | none => -1
theorem idxI_none {α : Type} {s : List α} {p : α → Bool} : idxI s p = -1 ↔ s.findIdx? p = none := by
  unfold idxI
  cases h : s.findIdx? p with
  | none => simp
  | some i => simp
theorem nth_take {α : Type} [Inhabited α] {s : List α} {k : Nat} (h : k < s.length) : s.take (k + 1) = s.take k ++ [nth s k] := by
  rw [List.take_add_one, nth_eq h]; rfl
theorem idx_miss {α : Type} [Inhabited α] {s : List α} {p : α → Bool} {k : Nat} (hk : k < s.length) (h : idxI (s.take k) p = -1) (hp : p (nth s k) = false) : idxI (s.take (k + 1)) p = -1 := by
  rw [idxI_none] at h ⊢
  rw [nth_take hk, List.findIdx?_append, h]
  simp [List.findIdx?_cons, hp]
theorem idx_hit {α : Type} [Inhabited α] {s : List α} {p : α → Bool} {k : Nat} (hk : k < s.length) (h : idxI (s.take k) p = -1) (hp : p (nth s k) = true) : (k : Int) = idxI s p := by
  rw [idxI_none] at h
  have h1 : s = s.take k ++ nth s k :: s.drop (k + 1) := by
    have := List.take_append_drop (k + 1) s; rw [nth_take hk] at this; simpa using this.symm
  have h2 : s.findIdx? p = some k := by
    rw [h1, List.findIdx?_append, h]
    simp [List.findIdx?_cons, hp, Nat.min_eq_left (Nat.le_of_lt hk)]
  simp [idxI, h2]
theorem idx_any {α : Type} (s : List α) (p : α → Bool) : decide (0 ≤ idxI s p) = s.any p := by
  unfold idxI
  cases h : s.findIdx? p with
  | none =>
    rw [List.findIdx?_eq_none_iff] at h
    have : s.any p = false := by rw [List.any_eq_false]; intro x hx; simp [h x hx]
    rw [this]; rfl
  | some i =>
    have : s.any p = true := by
      rw [List.findIdx?_eq_some_iff_getElem] at h
      obtain ⟨hi, hp, _⟩ := h
      exact List.any_eq_true.2 ⟨_, List.getElem_mem hi, hp⟩
    rw [this]; simp
def insMay (i : Ins) : Bool := if i.kind < 0 ∨ 16 < i.kind then false else if i.kind = 0 then isW i.a else decide (0 ≤ i.a) && decide (i.a < belowI i.kind)
def codeMay (c : List Ins) : Bool := decide (1 ≤ c.length) && decide (c.length ≤ 64) && !(c.any fun i => !insMay i)
def funcMay (f : FuncD) : Bool := decide (0 ≤ f.args) && decide (f.args ≤ 4) && decide (f.args ≤ f.locals) && decide (f.locals ≤ 8) && codeMay f.code
def packMay (p : Prog) : Bool := decide (1 ≤ p.funcs.length) && decide (p.funcs.length ≤ 8) && !(p.funcs.any fun f => !(funcMay f))
theorem idx_some {α : Type} {s : List α} {p : α → Bool} (h : ¬ idxI s p = -1) : ∃ i : Nat, idxI s p = i ∧ i < s.length := by
  unfold idxI at *
  cases e : s.findIdx? p with
  | none => rw [e] at h; exact absurd rfl h
  | some i =>
    refine ⟨i, rfl, ?_⟩
    rw [List.findIdx?_eq_some_iff_getElem] at e
    exact e.1
theorem del_init {s : List Int} {p : Int → Bool} {i : Nat} (h : idxI s p = i) : i < i + 1 ∧ i + 1 ≤ s.length ∧ s.length = s.length ∧ s.take i = (s.take (i + 1)).filter (fun x => !p x) ∧ s.drop (i + 1) = s.drop (i + 1) := by
  have e : s.findIdx? p = some i := by
    unfold idxI at h
    cases e : s.findIdx? p with
    | none => rw [e] at h; simp at h
    | some j => rw [e] at h; simp only at h; congr 1; omega
  rw [List.findIdx?_eq_some_iff_getElem] at e
  obtain ⟨hi, hp, hn⟩ := e
  refine ⟨by omega, hi, rfl, ?_, rfl⟩
  rw [List.take_add_one, List.getElem?_eq_getElem hi]
  simp only [Option.toList_some, List.filter_append, List.filter_cons, hp, Bool.not_true, Bool.false_eq_true, if_false, List.filter_nil, List.append_nil]
  symm; rw [List.filter_eq_self]
  intro x hx
  obtain ⟨q, hq, rfl⟩ := List.mem_iff_getElem.1 hx
  have hqi : q < i := by rw [List.length_take] at hq; omega
  rw [List.getElem_take]; simpa using hn q hqi
theorem nth_of_drop {α : Type} [Inhabited α] {l s : List α} {j : Nat} (h : l.drop j = s.drop j) (hj : j < s.length) : nth l j = nth s j := by
  have := congrArg (·[0]?) h; simp [List.getElem?_drop] at this; simp [nth, this]
theorem del_keep {s l1 : List Int} {p : Int → Bool} {i j : Nat} (hij : i < j) (hj : j < s.length) (hl : l1.length = s.length) (ht : l1.take i = (s.take j).filter (fun x => !p x)) (hd : l1.drop j = s.drop j) (hp : p (nth l1 j) = false) :
    i + 1 < j + 1 ∧ j + 1 ≤ s.length ∧ (l1.set i (nth l1 j)).length = s.length ∧ (l1.set i (nth l1 j)).take (i + 1) = (s.take (j + 1)).filter (fun x => !p x) ∧ (l1.set i (nth l1 j)).drop (j + 1) = s.drop (j + 1) := by
  have hn := nth_of_drop hd hj
  refine ⟨by omega, by omega, by rw [List.length_set]; exact hl, ?_, ?_⟩
  · rw [nth_take hj, List.filter_append, ← ht, List.take_add_one, List.getElem?_set_self (by omega), List.take_set_of_le (Nat.le_refl _)]
    rw [hn] at hp ⊢; simp [hp]
  · rw [List.drop_set_of_lt (by omega)]
    have := congrArg (List.drop 1) hd; simpa [List.drop_drop, Nat.add_comm] using this
theorem del_drop {s l1 : List Int} {p : Int → Bool} {i j : Nat} (hij : i < j) (hj : j < s.length) (hl : l1.length = s.length) (ht : l1.take i = (s.take j).filter (fun x => !p x)) (hd : l1.drop j = s.drop j) (hp : p (nth l1 j) = true) :
    i < j + 1 ∧ j + 1 ≤ s.length ∧ l1.length = s.length ∧ l1.take i = (s.take (j + 1)).filter (fun x => !p x) ∧ l1.drop (j + 1) = s.drop (j + 1) := by
  have hn := nth_of_drop hd hj
  refine ⟨by omega, by omega, hl, ?_, ?_⟩
  · rw [nth_take hj, List.filter_append, ← ht]; rw [hn] at hp; simp [hp]
  · have := congrArg (List.drop 1) hd; simpa [List.drop_drop, Nat.add_comm] using this
theorem del_all {s : List Int} {p : Int → Bool} (h : idxI s p = -1) : s = s.filter (fun x => !p x) := by
  rw [idxI_none, List.findIdx?_eq_none_iff] at h
  symm; rw [List.filter_eq_self]; intro x hx; simpa using h x hx
theorem del_done {s l1 : List Int} {p : Int → Bool} {i j : Nat} (hij : i ≤ s.length) (hj : s.length ≤ j) (hl : l1.length = s.length) (ht : l1.take i = (s.take j).filter (fun x => !p x)) :
    (l1.take i ++ List.replicate (s.length - i) (0 : Int)).take i = s.filter (fun x => !p x) := by
  rw [List.take_append_of_le_length (by rw [List.length_take]; omega), List.take_take, Nat.min_self, ht, List.take_of_length_le hj]
def compactI : List Int → List Int
  | [] => []
  | [a] => [a]
  | a :: b :: r => if a = b then compactI (b :: r) else a :: compactI (b :: r)
theorem compact_short {s : List Int} (h : s.length < 2) : s = compactI s := by
  match s, h with
  | [], _ => rfl
  | [_], _ => rfl
theorem compact_ne {s : List Int} {i : Nat} (h1 : 1 ≤ i) (h2 : i < s.length ∧ s.length ≤ 2) (h : ¬ nth s i = nth s ((i : Int) - 1).toNat) : nth s 0 ≠ nth s 1 := by
  obtain rfl : i = 1 := by omega
  exact fun e => h e.symm
theorem compact_eq {s : List Int} {i : Nat} (h1 : 1 ≤ i) (h2 : i < s.length) (hs : s.length ≤ 2) (h : nth s i = nth s ((i : Int) - 1).toNat) : (s.take i ++ List.replicate (s.length - i) (0 : Int)).take i = compactI s := by
  obtain rfl : i = 1 := by omega
  match s, hs, h2 with
  | [a, b], _, _ =>
    have : b = a := h
    subst this
    simp [compactI]
theorem compact_end {s : List Int} {i : Nat} (hi : s.length ≤ i) (hs : s.length ≤ 2) (hne : 1 < i → nth s 0 ≠ nth s 1) (h2 : 2 ≤ s.length) : s = compactI s := by
  match s, hs, h2 with
  | [a, b], _, _ =>
    have : a ≠ b := hne (by simp at hi; omega)
    simp [compactI, this]
def nextAll (i : Ins) (pc : Int) : List Int := if i.kind = 16 then [] else if i.kind = 12 then [i.a] else if i.kind = 13 then [pc + 1, i.a] else [pc + 1]
def nextL (f : FuncD) (pc : Int) : List Int := compactI ((nextAll (nth f.code pc.toNat) pc).filter fun x => !decide ((f.code.length : Int) ≤ x))
theorem mask_small {y : Int} (h0 : 0 ≤ y) (h : y ≤ 64) : IntKind.u64.wrap ((BitVec.ofInt 64 y &&& BitVec.ofInt 64 4294967295).toNat : Int) = y := by
  obtain ⟨n, rfl⟩ : ∃ n : Nat, y = n := ⟨y.toNat, by omega⟩
  have : ∀ n : Nat, n < 65 → IntKind.u64.wrap ((BitVec.ofInt 64 (n : Int) &&& BitVec.ofInt 64 4294967295).toNat : Int) = n := by decide
  exact this n (by omega)
theorem shr_small {y : Int} (h0 : 0 ≤ y) (h : y ≤ 64) : Int.fdiv y (2 ^ (min (Int.toNat 32) IntKind.u64.bits)) = 0 := by
  obtain ⟨n, rfl⟩ : ∃ n : Nat, y = n := ⟨y.toNat, by omega⟩
  have : ∀ n : Nat, n < 65 → Int.fdiv (n : Int) (2 ^ (min (Int.toNat 32) IntKind.u64.bits)) = 0 := by decide
  exact this n (by omega)
theorem wrap_u64 {x : Int} (h0 : 0 ≤ x) (h1 : x ≤ 18446744073709551615) : IntKind.u64.wrap x = x := by
  simp only [IntKind.wrap, IntKind.bits, IntKind.signed]; simp; omega
def flowNext (f : FuncD) (pc : Int) : List Int × Int := if codeMay f.code = true ∧ 0 ≤ pc ∧ pc < f.code.length then (nextL f pc, 0) else ([], 400)
theorem codeMay_len {c : List Ins} (h : codeMay c = true) : 1 ≤ c.length ∧ c.length ≤ 64 := by
  simp only [codeMay, Bool.and_eq_true, decide_eq_true_eq] at h; exact h.1
theorem codeMay_ins {c : List Ins} (h : codeMay c = true) {k : Nat} (hk : k < c.length) : insMay (nth c k) = true := by
  simp only [codeMay, Bool.and_eq_true, Bool.not_eq_true', List.any_eq_false] at h
  have := h.2 (nth c k) (List.mem_of_getElem? (nth_eq hk)); simpa using this
def rstep (o : List Bool × List Int) (t : Int) : List Bool × List Int := if nth o.1 t.toNat = true then o else (o.1.set t.toNat true, o.2 ++ [t])
def reachRun (f : FuncD) : Nat → List Bool → List Int → List Bool
  | 0, o, _ => o
  | _ + 1, o, [] => o
  | n + 1, o, pc :: r => let q := (nextL f pc).foldl rstep (o, pc :: r); reachRun f n q.1 q.2.tail
def reachedL (f : FuncD) : List Bool := reachRun f f.code.length ((List.replicate f.code.length false).set 0 true) [0]
def flowReached (f : FuncD) : List Bool × Int := if codeMay f.code = true then (reachedL f, 0) else ([], 400)
def cf (o : List Bool) : Nat := o.count false
def rowOk (f : FuncD) (r : List Int) : Prop := ∀ x ∈ r, 0 ≤ x ∧ x < f.code.length
theorem rw' {f : FuncD} {r : List Int} (h : rowOk f r) {k : Nat} (hk : k < r.length) : 0 ≤ nth r k ∧ nth r k < f.code.length := h _ (List.mem_of_getElem? (nth_eq hk))
theorem compactI_sub : ∀ (s : List Int) (x : Int), x ∈ compactI s → x ∈ s
  | [], x, h => h
  | [a], x, h => h
  | a :: b :: r, x, h => by
    unfold compactI at h
    split at h
    · exact List.mem_cons_of_mem _ (compactI_sub (b :: r) x h)
    · rcases List.mem_cons.1 h with rfl | h
      · exact List.mem_cons_self ..
      · exact List.mem_cons_of_mem _ (compactI_sub (b :: r) x h)
theorem nextL_ok {f : FuncD} {pc : Int} (hc : codeMay f.code = true) (h0 : 0 ≤ pc) (h1 : pc < f.code.length) : rowOk f (nextL f pc) := by
  intro x hx
  have h2 := compactI_sub _ x hx
  rw [List.mem_filter] at h2
  obtain ⟨h3, h4⟩ := h2
  have hi := codeMay_ins hc (k := pc.toNat) (by omega)
  have h5 : 0 ≤ x := by
    unfold nextAll at h3
    have ha : (nth f.code pc.toNat).kind = 12 ∨ (nth f.code pc.toNat).kind = 13 → 0 ≤ (nth f.code pc.toNat).a := fun hk => by
      unfold insMay at hi
      split at hi
      · cases hi
      · rw [if_neg (by omega)] at hi; simp at hi; exact hi.1
    split at h3
    · simp at h3
    · split at h3
      · simp at h3; have := ha (.inl ‹_›); omega
      · split at h3
        · simp at h3; have := ha (.inr ‹_›); omega
        · simp at h3; omega
  exact ⟨h5, by simpa using h4⟩
theorem cf_set {o : List Bool} {i : Nat} (hi : i < o.length) (h : nth o i = false) : cf (o.set i true) + 1 = cf o := by
  have h1 : o[i] = false := by have := nth_eq hi; rw [List.getElem?_eq_getElem hi] at this; rw [Option.some.inj this]; exact h
  have hp : 0 < o.count false := List.count_pos_iff.2 (h1 ▸ List.getElem_mem hi)
  unfold cf; rw [List.count_set hi, h1]; simp; omega
theorem cf_init (n : Nat) (h : 1 ≤ n) : cf ((List.replicate n false).set 0 true) + 1 ≤ n := by
  have := cf_set (o := List.replicate n false) (i := 0) (by rw [List.length_replicate]; omega) (by cases n <;> simp [nth] at *)
  have h2 : cf (List.replicate n false) = n := by simp [cf]
  omega
/-- One place that comes next. -/
theorem rstep_hit {f : FuncD} {L : List Int} {o o0 : List Bool} {r r0 : List Int} {k fu : Nat} (hk : k < L.length) (hL : rowOk f L) (e : (o, r) = (L.take k).foldl rstep (o0, r0)) (ho : o.length = f.code.length) (hc : cf o + r.length ≤ fu) (hr : rowOk f r) (h1 : 1 ≤ r.length) (hn : nth o (nth L k).toNat = false) :
    k + 1 ≤ L.length ∧ (o.set (nth L k).toNat true, r ++ [nth L k]) = (L.take (k + 1)).foldl rstep (o0, r0) ∧ (o.set (nth L k).toNat true).length = f.code.length ∧ cf (o.set (nth L k).toNat true) + (r ++ [nth L k]).length ≤ fu ∧ rowOk f (r ++ [nth L k]) ∧ 1 ≤ (r ++ [nth L k]).length := by
  have hb := rw' hL hk
  have := cf_set (o := o) (i := (nth L k).toNat) (by omega) hn
  refine ⟨by omega, ?_, by rw [List.length_set]; exact ho, by rw [List.length_append]; simp; omega, fun x hx => ?_, by rw [List.length_append]; omega⟩
  · rw [nth_take hk, List.foldl_append, ← e]; simp [rstep, hn]
  · rcases List.mem_append.1 hx with hx | hx
    · exact hr x hx
    · rw [List.mem_singleton.1 hx]; exact hb
theorem rstep_miss {L : List Int} {o o0 : List Bool} {r r0 : List Int} {k : Nat} (hk : k < L.length) (e : (o, r) = (L.take k).foldl rstep (o0, r0)) (hn : nth o (nth L k).toNat = true) : (o, r) = (L.take (k + 1)).foldl rstep (o0, r0) := by
  rw [nth_take hk, List.foldl_append, ← e]; simp [rstep, hn]
theorem reach_step {f : FuncD} {o o2 : List Bool} {r r2 : List Int} {fu k : Nat} (h : reachedL f = reachRun f fu o r) (hc : cf o2 + r2.length ≤ fu) (h1 : 1 ≤ r2.length) (hr : 0 < r.length) (hr2 : rowOk f r2) (hk : (nextL f (nth r 0)).length ≤ k) (e : (o2, r2) = ((nextL f (nth r 0)).take k).foldl rstep (o, r)) :
    fu - 1 < fu ∧ reachedL f = reachRun f (fu - 1) o2 (r2.drop 1) ∧ cf o2 + (r2.drop 1).length ≤ fu - 1 ∧ rowOk f (r2.drop 1) := by
  rw [List.take_of_length_le hk] at e
  obtain ⟨n, rfl⟩ : ∃ n, fu = n + 1 := ⟨fu - 1, by omega⟩
  match r, hr with
  | pc :: r', _ =>
    refine ⟨by omega, ?_, by rw [List.length_drop]; omega, fun x hx => hr2 x (List.mem_of_mem_drop hx)⟩
    rw [h]; show reachRun f (n + 1) o (pc :: r') = _
    simp only [reachRun]
    have : nth (pc :: r') 0 = pc := rfl
    rw [this] at e; rw [← e]; simp
theorem reach_done {f : FuncD} {o : List Bool} {r : List Int} {fu : Nat} (h : reachedL f = reachRun f fu o r) (hr : ¬ 0 < (r.length : Int)) : o = reachedL f := by
  have : r = [] := List.eq_nil_of_length_eq_zero (by omega)
  subst this; rw [h]; cases fu <;> rfl
def ft (i : Ins) (n : Int) : Int × Int × Int :=
  if insMay i = false ∨ n < 0 ∨ 4 < n then (0, 0, 200)
  else if i.kind = 0 ∨ i.kind = 1 then (0, 1, 0)
  else if i.kind = 3 ∨ i.kind = 4 ∨ i.kind = 5 ∨ i.kind = 6 ∨ i.kind = 7 ∨ i.kind = 8 ∨ i.kind = 9 then (2, 1, 0)
  else if i.kind = 2 ∨ i.kind = 11 ∨ i.kind = 13 ∨ i.kind = 15 ∨ i.kind = 16 then (1, 0, 0)
  else if i.kind = 10 then (1, 2, 0) else if i.kind = 14 then (n, 1, 0) else (0, 0, 0)
def argsOf (p : Prog) (i : Ins) : Int := if i.kind = 14 then (nth p.funcs i.a.toNat).args else 0
def outsideB (p : Prog) (f : FuncD) (i : Ins) : Bool :=
  if i.kind = 1 ∨ i.kind = 2 then decide (f.locals ≤ i.a) else if i.kind = 12 ∨ i.kind = 13 then decide ((f.code.length : Int) ≤ i.a) else if i.kind = 14 then decide ((p.funcs.length : Int) ≤ i.a) else false
theorem take_rep {v : Int} {l : List Int} {k n : Nat} (hl : l.length = n) (h : l.take k = List.replicate k v) (hk : k ≤ n) (h2 : 1 ≤ k) :
    (l.take k ++ l.take (min k (n - k)) ++ l.drop (k + min k (n - k))).take (k + min k (n - k)) = List.replicate (k + min k (n - k)) v := by
  have e : l.take (min k (n - k)) = List.replicate (min k (n - k)) v := by
    have := congrArg (List.take (min k (n - k))) h
    rw [List.take_take, List.take_replicate] at this
    rw [show min (min k (n - k)) k = min k (n - k) by omega] at this; exact this
  rw [List.take_append_of_le_length (by simp only [List.length_append, List.length_take]; omega), List.take_of_length_le (by simp only [List.length_append, List.length_take]; omega), h, e, List.replicate_append_replicate]
theorem rep_init {s : List Int} {c : Nat} (hs : s.length = 1) (hc : 1 ≤ c) : ((List.replicate c (0 : Int)).take 0 ++ s ++ (List.replicate c (0 : Int)).drop (0 + s.length)).take 1 = List.replicate 1 (nth s 0) := by
  match s, hs with
  | [v], _ => simp [nth]
end Go.Proofs.YtdniefnjgkhkeaaDoor
