/-
  Operations on rows of the call's own: make, append, store, slicing, copy, clear.
  Conditions: none.
-/
import Derived.Test.YtdniefnjgkhkeaaDoorRp
import Derived.KernelRfl
import Derived.Laws.AppendOwn
import Derived.Laws.MakeOwn
namespace Go.Proofs.YtdniefnjgkhkeaaDoor
set_option linter.unusedVariables false
set_option linter.unusedSimpArgs false
open Go

/-- What a slice type's elements are: type, cells, bytes, zero value. -/
def slInfo (P : Program) (t : Nat) : Option (Nat × Nat × Nat × Value) :=
  match P.underlying t with
  | some (.slice e) => (P.info? e).bind fun i => i.zero.map fun z => (e, i.size, i.bytes, z)
  | _ => none
theorem slInfo_spec {P : Program} {t e m y : Nat} {z : Value} (h : slInfo P t = some (e, m, y, z)) : P.underlying t = some (.slice e) ∧ ∃ i, P.info? e = some i ∧ i.zero = some z ∧ i.size = m ∧ i.bytes = y := by
  unfold slInfo at h
  split at h
  · rename_i e' hu
    cases hi : P.info? e' with
    | none => rw [hi] at h; cases h
    | some i =>
      rw [hi] at h
      simp only [Option.bind_some, Option.map_eq_some_iff] at h
      obtain ⟨z', hz, he⟩ := h
      cases he
      exact ⟨hu, i, hi, hz, rfl, rfl⟩
  · cases h

/-- The cells vs, in a row, read as l. -/
structure RdL {α : Type} [Rep α] (M : Mem) (vs : List Value) (l : List α) : Prop where
  len : vs.length = l.length * Rep.n α
  el : ∀ i x, l[i]? = some x → ∃ us, (∀ j v, us[j]? = some v → vs[i * Rep.n α + j]? = some v) ∧ Rep.rd M us x
section
variable {α : Type} [Rep α] {M M' : Mem} {rs bs t : List (Nat × Obj)} {base : Option Addr} {cap : Nat} {l xs : List α} {vs : List Value} {w : World} {P : Program}
theorem RdL.one (h : RdL M vs l) : vs.all oneCell = true := by
  rw [List.all_eq_true]
  intro v hv
  obtain ⟨q, hq, rfl⟩ := List.mem_iff_getElem.1 hv
  have hl := h.len
  have hn : 0 < Rep.n α := by
    rcases Nat.eq_zero_or_pos (Rep.n α) with h0 | h0
    · rw [h0] at hl; omega
    · exact h0
  have hi : q / Rep.n α < l.length := by rw [Nat.div_lt_iff_lt_mul hn]; omega
  obtain ⟨us, hu, hr⟩ := h.el (q / Rep.n α) l[q / Rep.n α] (List.getElem?_eq_getElem hi)
  have hj : q % Rep.n α < us.length := by rw [Rep.len hr]; exact Nat.mod_lt _ hn
  have h1 := hu (q % Rep.n α) _ (List.getElem?_eq_getElem hj)
  have h2 : q / Rep.n α * Rep.n α + q % Rep.n α = q := Nat.div_add_mod' q _
  rw [h2, List.getElem?_eq_getElem hq] at h1
  rw [Option.some.inj h1]
  exact List.all_eq_true.1 (Rep.one hr) _ (List.getElem_mem hj)
theorem RdL.nil (M : Mem) : RdL M [] ([] : List α) := ⟨by simp, fun i x e => by simp at e⟩
theorem RdL.single {x : α} (h : Rep.rd M vs x) : RdL M vs [x] := ⟨by simp [Rep.len h], fun i y e => by
  cases i with
  | zero => simp at e; subst e; exact ⟨vs, fun j v hj => by simpa using hj, h⟩
  | succ i => simp at e⟩
/-- All cells of a slice that reads as l. -/
theorem RdS.src (h : RdS M base cap l) (hO : Own w M bs) : ∃ vs, RdL M vs l ∧ ∀ w', w'.heap = w.heap → (Builtin.firstCells (Rep.n α) l.length (.slice base l.length cap)).run P w' = .ok vs.toArray w' := by
  cases l with
  | nil =>
    refine ⟨[], RdL.nil M, fun w' _ => ?_⟩
    cases base <;> simp [Builtin.firstCells, loadCells, loadCellsFrom]
  | cons x0 r =>
    obtain ⟨p, rfl, _⟩ := h.el 0 x0 rfl
    -- gather the cells
    have key : ∀ k, k ≤ (x0 :: r).length → ∃ vs, RdL M vs ((x0 :: r).take k) ∧ ∀ j v, vs[j]? = some v → w.cell? (p.add j) = some v := by
      intro k
      induction k with
      | zero => exact fun _ => ⟨[], by simpa using RdL.nil M, fun j v e => by simp at e⟩
      | succ k ih =>
        intro hk
        obtain ⟨vs, hv, hc⟩ := ih (by omega)
        have hkl : k < (x0 :: r).length := hk
        obtain ⟨q, hq, us, hat, hr⟩ := h.el k (x0 :: r)[k] (List.getElem?_eq_getElem hkl)
        cases hq
        have hlen : vs.length = k * Rep.n α := by rw [hv.len, List.length_take, Nat.min_eq_left (by omega)]
        refine ⟨vs ++ us, ⟨?_, fun i x e => ?_⟩, fun j v e => ?_⟩
        · rw [List.length_append, hlen, Rep.len hr, List.length_take, Nat.min_eq_left hk, Nat.add_mul, Nat.one_mul]
        · rcases Nat.lt_or_ge i k with hi | hi
          · have e' : ((x0 :: r).take k)[i]? = some x := by rw [List.getElem?_take] at e ⊢; rw [if_pos (by omega)] at e; rw [if_pos hi]; exact e
            obtain ⟨us', h1, h2⟩ := hv.el i x e'
            refine ⟨us', fun j v hj => ?_, h2⟩
            have := h1 j v hj
            have hlt := (List.getElem?_eq_some_iff.1 this).1
            rw [List.getElem?_append_left hlt]; exact this
          · rw [List.getElem?_take] at e
            split at e
            · have hik : i = k := by omega
              subst hik
              rw [List.getElem?_eq_getElem hkl] at e; cases e
              refine ⟨us, fun j v hj => ?_, hr⟩
              rw [List.getElem?_append_right (by omega), hlen, Nat.add_sub_cancel_left]; exact hj
            · cases e
        · rcases Nat.lt_or_ge j vs.length with hj | hj
          · rw [List.getElem?_append_left hj] at e; exact hc j v e
          · rw [List.getElem?_append_right hj] at e
            have := hat.cell hO _ e
            have hp : p.spot = none ∨ k * Rep.n α ≠ 0 := by
              rcases Nat.eq_zero_or_pos (k * Rep.n α) with h0 | h0
              · left; have := hat.1; rw [h0] at this; simpa [Addr.add] using this
              · right; omega
            have hadd : (p.add (k * Rep.n α)).add (j - vs.length) = p.add j := by
              rw [← hlen] at hp ⊢
              rcases hp with hp | hp
              · rw [Addr.add_eq p _ hp, Addr.add_eq _ _ rfl, Addr.add_eq p _ hp]; simp; omega
              · unfold Addr.add
                rw [if_neg hp]
                by_cases h0 : j - vs.length = 0
                · rw [if_pos h0, if_neg (by omega)]; simp; omega
                · rw [if_neg h0, if_neg (by omega)]; simp; omega
            rw [hadd] at this; exact this
    obtain ⟨vs, hv, hc⟩ := key _ (Nat.le_refl _)
    rw [List.take_length] at hv
    refine ⟨vs, hv, fun w' hw => ?_⟩
    have hcell : ∀ a, w'.cell? a = w.cell? a := fun a => by unfold World.cell?; rw [hw]
    simp only [Builtin.firstCells, loadCells]
    rw [← hv.len]
    have := run_loadCells P w' p vs 0 #[] (fun j v e => by rw [Nat.zero_add, hcell]; exact hc j v e)
    simpa using this

/-! ### append -/
theorem RdL.append {us : List Value} (h : RdL M us l) (h' : RdL M vs xs) : RdL M (us ++ vs) (l ++ xs) := by
  refine ⟨by rw [List.length_append, List.length_append, h.len, h'.len, Nat.add_mul], fun i x e => ?_⟩
  rcases Nat.lt_or_ge i l.length with hi | hi
  · rw [List.getElem?_append_left hi] at e
    obtain ⟨us', h1, h2⟩ := h.el i x e
    refine ⟨us', fun j v hj => ?_, h2⟩
    have := h1 j v hj
    rw [List.getElem?_append_left (List.getElem?_eq_some_iff.1 this).1]; exact this
  · rw [List.getElem?_append_right hi] at e
    obtain ⟨us', h1, h2⟩ := h'.el _ x e
    refine ⟨us', fun j v hj => ?_, h2⟩
    have h3 := h1 j v hj
    have hle : us.length ≤ i * Rep.n α + j := by rw [h.len]; have := Nat.mul_le_mul_right (Rep.n α) hi; omega
    rw [List.getElem?_append_right hle, h.len, ← h3]
    congr 1
    rw [Nat.sub_mul]; have := Nat.mul_le_mul_right (Rep.n α) hi; omega
theorem RdL.cons {us : List Value} {x : α} (h : Rep.rd M us x) (h' : RdL M vs xs) : RdL M (us ++ vs) (x :: xs) := RdL.append (RdL.single h) h'
theorem RdL.mono (h : RdL M vs l) (le : Mem.le M M') : RdL M' vs l := ⟨h.len, fun i x e => let ⟨us, a, r⟩ := h.el i x e; ⟨us, a, Rep.mono r le⟩⟩
/-- A new block whose first cells read as l. -/
theorem RdL.row {b T : Nat} {ys : List Value} (h : RdL M vs l) (hc : l.length ≤ cap) (hb : l.length * Rep.sz α ≤ 140737488351232) (hs : cap * Rep.n α ≤ (vs ++ ys).length) : Rw M [(b, .cells (vs ++ ys).toArray T)] (some ⟨b, 0, none⟩) cap l :=
  ⟨hc, hb, .inr ⟨b, _, T, 0, rfl, rfl, by simpa using hs, fun i x e => by
    obtain ⟨us, h1, h2⟩ := h.el i x e
    refine ⟨us, fun j v hj => ?_, h2⟩
    have h3 := h1 j v hj
    have hlt := (List.getElem?_eq_some_iff.1 h3).1
    rw [Nat.zero_add]; simp only [List.getElem?_toArray]; rw [List.getElem?_append_left hlt]; exact h3⟩⟩
/-- The cells that a row holds. -/
theorem Rw.held (h : Rw M rs base cap l) (hO : Own w M (rs ++ t)) : ∃ vs, RdL M vs l ∧ ∀ w', w'.heap = w.heap → (Builtin.firstCells (Rep.n α) l.length (.slice base l.length cap)).run P w' = .ok vs.toArray w' := by
  obtain ⟨M', le, o', has, _, _⟩ := hO.keeps
  obtain ⟨vs, hv, hr⟩ := (h.kept has le).src (P := P) o'
  rcases h.it with ⟨_, _, hc⟩ | ⟨b, c, T, off, rfl, rfl, hs, he⟩
  · have := h.le; have hl : l = [] := List.eq_nil_of_length_eq_zero (by omega); subst hl
    refine ⟨[], RdL.nil M, fun w' hw => ?_⟩
    have := hr w' hw
    have hv0 : vs = [] := List.eq_nil_of_length_eq_zero (by simpa using hv.len)
    subst hv0; exact this
  · refine ⟨vs, ⟨hv.len, fun i x e => ?_⟩, hr⟩
    -- the cells of element i, as the block holds them
    obtain ⟨us, hu, hrd⟩ := he i x e
    refine ⟨us, fun j v hj => ?_, hrd⟩
    have hi : i < l.length := (List.getElem?_eq_some_iff.1 e).1
    have hjn : j < Rep.n α := by rw [← Rep.len hrd]; exact (List.getElem?_eq_some_iff.1 hj).1
    have hlt : i * Rep.n α + j < vs.length := by
      rw [hv.len]; have := Nat.mul_le_mul_right (Rep.n α) (show i + 1 ≤ l.length from hi); rw [Nat.add_mul] at this; omega
    -- what the run loads at that place
    have hcell := hr w rfl
    have hcl : ∀ q, q < l.length * Rep.n α → w.cell? ((⟨b, off, none⟩ : Addr).add q) = c[off + q]? := fun q hq => by
      rw [Addr.add_eq _ _ rfl]
      have hb := hO.get 0 (rfl : ([(b, Obj.cells c T)] ++ t)[0]? = _)
      simp [World.cell?, hb]
    have hall : ∀ q v, (List.ofFn fun q : Fin (l.length * Rep.n α) => (c[off + q.1]?).getD undef)[q]? = some v → w.cell? ((⟨b, off, none⟩ : Addr).add (0 + q)) = some v := fun q v hq => by
      rw [List.getElem?_ofFn] at hq
      split at hq
      · rename_i hql
        rw [Nat.zero_add, hcl q hql]
        have hsz : off + q < c.size := by have := Nat.mul_le_mul_right (Rep.n α) h.le; omega
        rw [Array.getElem?_eq_getElem hsz] at hq ⊢; simpa using hq
      · cases hq
    have h2 := run_loadCells P w ⟨b, off, none⟩ _ 0 #[] hall
    simp only [List.length_ofFn] at h2
    simp only [Builtin.firstCells, loadCells] at hcell
    rw [h2] at hcell
    have h3 : (List.ofFn fun q : Fin (l.length * Rep.n α) => (c[off + q.1]?).getD undef) = vs := by
      have h' := congrArg Array.toList (Result.ok.inj hcell).1
      rw [Array.toList_append] at h'
      exact h'
    rw [← h3, List.getElem?_ofFn, dif_pos (by rw [h3] at *; rw [← hv.len]; exact hlt)]
    have := hu j v hj
    rw [Nat.add_assoc] at this
    simp [this]
end

theorem firstCells_q (m n q q' c : Nat) (b : Option Addr) : Builtin.firstCells m n (.slice b q c) = Builtin.firstCells m n (.slice b q' c) := by cases b <;> rfl
theorem Rw.heldq {α : Type} [Rep α] {M : Mem} {rs t : List (Nat × Obj)} {base : Option Addr} {cap : Nat} {l : List α} {w : World} {P : Program} (h : Rw M rs base cap l) (hO : Own w M (rs ++ t)) (q : Nat) : ∃ vs, RdL M vs l ∧ ∀ w', w'.heap = w.heap → (Builtin.firstCells (Rep.n α) l.length (.slice base q cap)).run P w' = .ok vs.toArray w' := by
  obtain ⟨vs, hv, hx⟩ := h.held (P := P) hO
  exact ⟨vs, hv, fun w' hw => by rw [firstCells_q _ _ q l.length]; exact hx w' hw⟩

section ogs
variable {P : Program} {Q : Exit → Act → World → Prop} {n : Nat} {E : Env} {w : World} {M : Mem} {t bs : List (Nat × Obj)} {d : Nat} {ty : TypeId} {ps : String} {af : Array Edge} {g : Option (Nat × Bool)} {K : Act → World → Prop}
  {α : Type} [Rep α] {rs : List (Nat × Obj)} {base : Option Addr} {cap : Nat} {l xs : List α}
theorem run_append_both {T e m y n2 : Nat} {z : Value} {olds news : List Value} {x : Value} (hT : slInfo P T = some (e, m, y, z)) (hn : Builtin.lenOf x = pure n2)
    (hx : ∀ w', w'.heap = w.heap → (Builtin.firstCells m n2 x).run P w' = .ok news.toArray w') {k : Nat} (ho : ∀ w', w'.heap = w.heap → (Builtin.firstCells m k (.slice base k cap)).run P w' = .ok olds.toArray w')
    (hb2 : (k + n2) * y ≤ 140737488351232) (hk : k + n2 ≤ 9223372036854775807) (tt : TypeId) :
    (Builtin.append_ #[T, T] tt #[.slice base k cap, x]).run P w =
      if k + n2 ≤ cap then (match base with | some a => ((storeCells (a.add (k * m)) news).run P w).andThen fun _ w' => .ok (.slice base (k + n2) cap) w' | none => .ok (.slice base (k + n2) cap) w)
      else .ok (.slice (some ⟨w.heap.size, 0, none⟩) (k + n2) (grownCap w (k + n2) cap e)) (w.drew.alloc (.cells (olds.toArray ++ news.toArray ++ Builtin.zeroCells z.cells (grownCap w (k + n2) cap e - (k + n2))) e)) := by
  obtain ⟨hu, i, hi, hiz, him, hiy⟩ := slInfo_spec hT
  subst him hiy
  have hx0 := hx w rfl
  have hxd := hx w.drew rfl
  have hod := ho w.drew rfl
  by_cases hc : k + n2 ≤ cap
  · rw [if_pos hc]
    cases base with
    | none => simp [Builtin.append_, underlying, hu, sizeOf, typeInfo, hi, hn, hc, hx0]
    | some a => simp [Builtin.append_, underlying, hu, sizeOf, typeInfo, hi, hn, hc, hx0]
  · rw [if_neg hc]
    have h63' : ¬ (9223372036854775807 < ((k : Int) + (n2 : Int))) := by omega
    have h48 := growslice_fits (need := k + n2) (old := cap) (bytes := i.bytes) (by omega) (by omega)
    have h48' : ¬ (281474976710656 < Builtin.nextslicecap (k + n2) cap * i.bytes) := by omega
    simp [Builtin.append_, underlying, hu, sizeOf, typeInfo, zeroValue, hi, hiz, hn, hc, h63', h48', Question.forced, hxd, hod, newRow, grownCap]
    congr 2
    apply Array.ext'
    simp [List.append_assoc]
theorem grownCap_le' (w : World) (need old e : Nat) (_ : need < 9223372036854775808) : need ≤ grownCap w need old e := by
  have := grownCap_ge w need old e; omega
theorem run_append {T e m y n2 : Nat} {z : Value} {vs : List Value} {x : Value} (hT : slInfo P T = some (e, m, y, z)) (hm : m = Rep.n α) (hz : z.cells.size = m) (hO : Own w M (rs ++ t)) (hR : Rw M rs base cap l)
    (hn : Builtin.lenOf x = pure n2) (hn2 : n2 = xs.length) (hx : ∀ w', w'.heap = w.heap → (Builtin.firstCells (Rep.n α) n2 x).run P w' = .ok vs.toArray w') (hv : RdL M vs xs) (hb : (l.length + xs.length) * Rep.sz α ≤ 140737488351232)
    (hb2 : (l.length + xs.length) * y ≤ 140737488351232) (hk : l.length + xs.length ≤ 9223372036854775807) (tt : TypeId) :
    ∃ rs' base' cap' w', (Builtin.append_ #[T, T] tt #[.slice base l.length cap, x]).run P w = .ok (.slice base' (l ++ xs).length cap') w' ∧ Own w' M (rs' ++ t) ∧ Rw M rs' base' cap' (l ++ xs) := by
  subst hn2 hm
  obtain ⟨us, hus, hur⟩ := hR.held (P := P) hO
  rw [run_append_both hT hn hx hur hb2 hk tt, List.length_append]
  by_cases hc : l.length + xs.length ≤ cap
  · rw [if_pos hc]
    rcases hR.it with ⟨rfl, rfl, rfl⟩ | ⟨b, c, T', off, rfl, rfl, hs, he⟩
    · have h1 : l = [] := List.eq_nil_of_length_eq_zero (by omega)
      have h2 : xs = [] := List.eq_nil_of_length_eq_zero (by omega)
      subst h1 h2
      exact ⟨[], none, 0, w, rfl, hO, hR⟩
    · have hlen := hv.len
      have hsz : off + l.length * Rep.n α + vs.length ≤ c.size := by
        have := Nat.mul_le_mul_right (Rep.n α) hc; rw [Nat.add_mul] at this; omega
      have hone : ∀ v ∈ vs, oneCell v = true := fun v hv' => List.all_eq_true.1 hv.one v hv'
      have hst := run_storeCells P vs w (off + l.length * Rep.n α) 0 c (hO.get 0 rfl) (by omega) hone
      refine ⟨[(b, .cells (putCells c (off + l.length * Rep.n α) vs) T')], some ⟨b, off, none⟩, cap, _, ?_, hO.puts vs w (off + l.length * Rep.n α) _ c (k := 0) rfl, ?_⟩
      · simp only [Addr.add_eq ⟨b, off, none⟩ _ rfl]
        rw [hst]; rfl
      · refine ⟨by rw [List.length_append]; exact hc, by rw [List.length_append]; exact hb, .inr ⟨b, _, T', off, rfl, rfl, by rw [putCells_size]; exact hs, fun i y e => ?_⟩⟩
        rcases Nat.lt_or_ge i l.length with hi | hi
        · rw [List.getElem?_append_left hi] at e
          obtain ⟨ws, h1, h2⟩ := he i y e
          refine ⟨ws, fun j v hj => ?_, h2⟩
          have hj' : j < Rep.n α := by rw [← Rep.len h2]; exact (List.getElem?_eq_some_iff.1 hj).1
          have := Nat.mul_le_mul_right (Rep.n α) (show i + 1 ≤ l.length from hi)
          rw [Nat.add_mul] at this
          rw [putCells_lt _ _ _ _ (by omega)]; exact h1 j v hj
        · rw [List.getElem?_append_right hi] at e
          obtain ⟨ws, h1, h2⟩ := hv.el _ y e
          refine ⟨ws, fun j v hj => ?_, h2⟩
          have h3 := putCells_in vs c (off + l.length * Rep.n α) _ v hsz (h1 j v hj)
          have h4 : off + l.length * Rep.n α + ((i - l.length) * Rep.n α + j) = off + i * Rep.n α + j := by
            rw [Nat.sub_mul]; have := Nat.mul_le_mul_right (Rep.n α) hi; omega
          rw [h4] at h3; exact h3
  · rw [if_neg hc]
    have hg := grownCap_le' w (l.length + xs.length) cap e (by omega)
    have hO' : Own (w.drew.alloc (.cells (us.toArray ++ vs.toArray ++ Builtin.zeroCells z.cells (grownCap w (l.length + xs.length) cap e - (l.length + xs.length))) e)) M ((w.heap.size, .cells (us.toArray ++ vs.toArray ++ Builtin.zeroCells z.cells (grownCap w (l.length + xs.length) cap e - (l.length + xs.length))) e) :: t) :=
      Own.new (w := w.drew) (hO.forget.of_heap rfl rfl) _
    have hzl : ∀ k, (Builtin.zeroCells z.cells k).toList.length = k * Rep.n α := fun k => by rw [Array.length_toList, size_zeroCells, hz]
    refine ⟨[(w.heap.size, _)], _, _, _, rfl, hO', ?_⟩
    have hrow := RdL.row (b := w.heap.size) (T := e) (ys := (Builtin.zeroCells z.cells (grownCap w (l.length + xs.length) cap e - (l.length + xs.length))).toList) (cap := grownCap w (l.length + xs.length) cap e) (hus.append hv) (by rw [List.length_append]; exact hg) (by rw [List.length_append]; exact hb) (by
      rw [List.length_append, (hus.append hv).len, List.length_append, hzl, ← Nat.add_mul]
      exact Nat.mul_le_mul_right _ (by omega))
    have : (us ++ vs ++ (Builtin.zeroCells z.cells (grownCap w (l.length + xs.length) cap e - (l.length + xs.length))).toList).toArray = us.toArray ++ vs.toArray ++ Builtin.zeroCells z.cells (grownCap w (l.length + xs.length) cap e - (l.length + xs.length)) := by
      apply Array.ext'; simp [List.append_assoc]
    rw [this] at hrow; exact hrow
theorem og_append {T e m y n2 : Nat} {z : Value} {vs : List Value} {x : Value} {X1 X2 : Operand} (hT : slInfo P T = some (e, m, y, z)) (hm : m = Rep.n α) (hz : z.cells.size = m) (hO : Own w M (rs ++ t)) (hR : Rw M rs base cap l) (hd : Nat.ble (d + 1) n = true)
    (e1 : ev E X1 = some (.slice base l.length cap)) (e2 : ev E X2 = some x)
    (hn : Builtin.lenOf x = pure n2) (hn2 : n2 = xs.length) (hx : ∀ w', w'.heap = w.heap → (Builtin.firstCells (Rep.n α) n2 x).run P w' = .ok vs.toArray w') (hv : RdL M vs xs) (hb : (l.length + xs.length) * Rep.sz α ≤ 140737488351232)
    (hb2 : y ≤ Rep.sz α) (hk : l.length + xs.length ≤ 9223372036854775807)
    (k : ∀ rs' base' cap' w', Own w' M (rs' ++ t) → Rw M rs' base' cap' (l ++ xs) → KG K n ((d, .slice base' (l ++ xs).length cap') :: E) w') :
    OG P Q ⟨some d, .call { callee := .builtin .append, args := #[X1, X2], argTypes := #[T, T] }, ty, ps, af, g⟩ n E w K := fun a f => by
  obtain ⟨rs', base', cap', w', hr, hO', hR'⟩ := run_append (P := P) hT hm hz hO hR hn hn2 hx hv hb (Nat.le_trans (Nat.mul_le_mul_left _ hb2) hb) hk ty
  have hd' : d < n := Nat.le_of_ble_eq_true hd
  have hrun : (execOp a.eval ⟨some d, .call { callee := .builtin .append, args := #[X1, X2], argTypes := #[T, T] }, ty, ps, af, g⟩).run P w = .ok (.value (.slice base' (l ++ xs).length cap')) w' := by
    simp [execOp, resolve, invoke, builtin, f.eval e1, f.eval e2]
    rw [hr]; simp
  simp only [Oper.wp, hrun, Oper.upon]
  exact k _ _ _ _ hO' hR' _ (f.put hd' _)
/-- append of what a slice reads as. -/
theorem og_appendS {T e m y c2 : Nat} {z : Value} {b2 : Option Addr} {X1 X2 : Operand} (hT : slInfo P T = some (e, m, y, z)) (hm : m = Rep.n α) (hz : z.cells.size = m) (hO : Own w M (rs ++ t)) (hR : Rw M rs base cap l) (hS : RdS M b2 c2 xs) (hd : Nat.ble (d + 1) n = true)
    (e1 : ev E X1 = some (.slice base l.length cap)) (e2 : ev E X2 = some (.slice b2 xs.length c2))
    (hb : (l.length + xs.length) * Rep.sz α ≤ 140737488351232) (hb2 : y ≤ Rep.sz α) (hk : l.length + xs.length ≤ 9223372036854775807)
    (k : ∀ rs' base' cap' w', Own w' M (rs' ++ t) → Rw M rs' base' cap' (l ++ xs) → KG K n ((d, .slice base' (l ++ xs).length cap') :: E) w') :
    OG P Q ⟨some d, .call { callee := .builtin .append, args := #[X1, X2], argTypes := #[T, T] }, ty, ps, af, g⟩ n E w K := by
  obtain ⟨vs, hv, hx⟩ := hS.src (P := P) hO
  exact og_append hT hm hz hO hR hd e1 e2 rfl rfl hx hv hb hb2 hk k
/-- append of the one element of a slice just built. -/
theorem og_append1 {T e m y b2 T2 : Nat} {z : Value} {us : List Value} {x : α} {X1 X2 : Operand} (hT : slInfo P T = some (e, m, y, z)) (hm : m = Rep.n α) (hz : z.cells.size = m) (hO : Own w M ([(b2, .cells us.toArray T2)] ++ (rs ++ t))) (hR : Rw M rs base cap l) (hd : Nat.ble (d + 1) n = true)
    (e1 : ev E X1 = some (.slice base l.length cap)) (e2 : ev E X2 = some (.slice (some ⟨b2, 0, none⟩) 1 1)) (hrd : Rep.rd M us x)
    (hb : (l.length + 1) * Rep.sz α ≤ 140737488351232) (hb2 : y ≤ Rep.sz α) (hk : l.length + 1 ≤ 9223372036854775807)
    (k : ∀ rs' base' cap' w', Own w' M (rs' ++ t) → Rw M rs' base' cap' (l ++ [x]) → KG K n ((d, .slice base' (l ++ [x]).length cap') :: E) w') :
    OG P Q ⟨some d, .call { callee := .builtin .append, args := #[X1, X2], argTypes := #[T, T] }, ty, ps, af, g⟩ n E w K := by
  refine og_append (vs := us) (xs := [x]) hT hm hz hO.forget hR hd e1 e2 rfl rfl (fun w' hw => ?_) (RdL.single hrd) hb hb2 hk k
  have hblk := hO.get 0 (rfl : ([(b2, Obj.cells us.toArray T2)] ++ (rs ++ t))[0]? = _)
  have h2 := run_loadCells P w' ⟨b2, 0, none⟩ us 0 #[] (fun j v hj => by
    rw [Addr.add_eq _ _ rfl]; unfold World.cell?; rw [hw, hblk]; simpa using hj)
  simp only [Builtin.firstCells, loadCells, Nat.one_mul]
  rw [← Rep.len hrd, h2]; simp

/-! ### make, a slice just built, stores, slicing -/
theorem og {T k : Nat} {parts : Array (Nat × Operand)} {vs cs : List Value} {e : TypeId} (hO : Own w M bs) (hd : Nat.ble (d + 1) n = true) (ev' : evs E (parts.toList.map (·.2)) = some vs)
    (h : ∀ w, (Instr.buildSlice T k (List.zip (parts.toList.map (·.1)) vs).toArray).run P w = .ok (.slice (some ⟨w.heap.size, 0, none⟩) k k) (w.alloc (.cells cs.toArray e)))
    (kk : ∀ b w', Own w' M ([(b, .cells cs.toArray e)] ++ bs) → KG K n ((d, .slice (some ⟨b, 0, none⟩) k k) :: E) w') : OG P Q ⟨some d, .buildSlice T k parts, ty, ps, af, g⟩ n E w K := fun a f => by
  have hp : (parts.map fun (i, x) => (i, a.eval x)) = (List.zip (parts.toList.map (·.1)) vs).toArray := by
    have := f.evals ev'
    rw [← this]
    apply Array.ext'
    simp only [Array.toList_map, List.map_map, List.zip_eq_zipWith]
    simp [Function.comp_def, List.zipWith_self]
  have hrun : (execOp a.eval ⟨some d, .buildSlice T k parts, ty, ps, af, g⟩).run P w = .ok (.value (.slice (some ⟨w.heap.size, 0, none⟩) k k)) (w.alloc (.cells cs.toArray e)) := by
    simp only [execOp, Sem.run_bind]; rw [hp, h w]; simp
  simp only [Oper.wp, hrun, Oper.upon]
  exact kk _ _ (hO.new _) _ (f.put (Nat.le_of_ble_eq_true hd) _)
/-- A row that holds one element, or none. -/
theorem Rw.lit {b e : Nat} {cs : List Value} (h : RdL M cs l) (hb : l.length * Rep.sz α ≤ 140737488351232) : Rw M [(b, .cells cs.toArray e)] (some ⟨b, 0, none⟩) l.length l := by
  have := RdL.row (b := b) (T := e) (ys := []) (cap := l.length) h (Nat.le_refl _) hb (by simp [h.len])
  simpa using this
theorem zeros_rdl {cs : List Value} {x : α} (h : Rep.rd M cs x) (hn : 0 < Rep.n α) (k : Nat) : RdL M ((Array.range (k * Rep.n α)).map (cs.toArray[· % cs.toArray.size]!)).toList (List.replicate k x) := by
  have hlen := Rep.len h
  refine ⟨by simp, fun i y e => ⟨cs, fun j v hj => ?_, ?_⟩⟩
  · rw [List.getElem?_replicate] at e
    split at e
    · rename_i hi
      have hj' : j < Rep.n α := by rw [← hlen]; exact (List.getElem?_eq_some_iff.1 hj).1
      have hlt : i * Rep.n α + j < k * Rep.n α := by have := Nat.mul_le_mul_right (Rep.n α) (show i + 1 ≤ k from hi); rw [Nat.add_mul] at this; omega
      have hmod : (i * Rep.n α + j) % Rep.n α = j := by rw [Nat.add_comm, Nat.add_mul_mod_self_right]; exact Nat.mod_eq_of_lt hj'
      obtain ⟨hjl, hjv⟩ := List.getElem?_eq_some_iff.1 hj
      simp [hlt, hlen, hmod]
      rw [List.getElem?_eq_getElem hjl]; simpa using hjv
    · cases e
  · rw [List.getElem?_replicate] at e
    split at e
    · cases e; exact h
    · cases e
theorem og_make {T e m y : Nat} {z : Value} {zc : Int} {X1 : Operand} {x0 : α} (hT : slInfo P T = some (e, m, y, z)) (hm : m = Rep.n α) (hrd : Rep.rd M z.cells.toList x0) (hn0 : 0 < Rep.n α) (hO : Own w M bs) (hd : Nat.ble (d + 1) n = true)
    (e1 : ev E X1 = some (.int .i64 zc)) (h0 : 0 ≤ zc) (hb : zc.toNat * Rep.sz α ≤ 140737488351232) (hb2 : y ≤ Rep.sz α) (hk : zc ≤ 9223372036854775807)
    (k : ∀ rs' base' cap' w', Own w' M (rs' ++ bs) → Rw M rs' base' cap' (List.replicate zc.toNat x0) → KG K n ((d, .slice base' (List.replicate zc.toNat x0).length cap') :: E) w') :
    OG P Q ⟨some d, .makeSlice T X1 X1, ty, ps, af, g⟩ n E w K := fun a f => by
  obtain ⟨hu, i, hi, hiz, him, hiy⟩ := slInfo_spec hT
  subst hiy
  have hm' : i.size = Rep.n α := by rw [him, hm]
  have hby : zc.toNat * i.bytes ≤ 140737488351232 := Nat.le_trans (Nat.mul_le_mul_left _ hb2) hb
  have hbz : (i.bytes : Int) * zc ≤ 281474976710656 := by
    obtain ⟨q, rfl⟩ : ∃ q : Nat, zc = q := ⟨zc.toNat, by omega⟩
    have h2 : i.bytes * q ≤ 140737488351232 := by rw [Nat.mul_comm]; simpa using hby
    have h3 : (i.bytes : Int) * (q : Int) = ((i.bytes * q : Nat) : Int) := by simp
    rw [h3]; omega
  have hr := run_make (P := P) w T e i z hu hi hiz .i64 .i64 zc zc h0 (Int.le_refl _) hbz hk
  have hrun : (execOp a.eval ⟨some d, .makeSlice T X1 X1, ty, ps, af, g⟩).run P w = .ok (.value (.slice (some ⟨w.heap.size, 0, none⟩) zc.toNat zc.toNat)) (w.alloc (.cells (madeCells z.cells (zc.toNat * i.size)) e)) := by
    simp only [execOp, f.eval e1, Sem.run_bind, hr]; rfl
  simp only [Oper.wp, hrun, Oper.upon]
  have hz := zeros_rdl hrd hn0 zc.toNat
  have hlit := Rw.lit (b := w.heap.size) (e := e) hz (by rw [List.length_replicate]; exact hb)
  have hcells : ((Array.range (zc.toNat * Rep.n α)).map (z.cells.toList.toArray[· % z.cells.toList.toArray.size]!)).toList.toArray = madeCells z.cells (zc.toNat * i.size) := by
    rw [hm']; apply Array.ext'; simp [madeCells]
  rw [hcells] at hlit
  have hO' : Own (w.alloc (.cells (madeCells z.cells (zc.toNat * i.size)) e)) M ([(w.heap.size, .cells (madeCells z.cells (zc.toNat * i.size)) e)] ++ bs) := hO.new _
  have := k _ _ _ _ hO' hlit (a.put (some d) (.slice (some ⟨w.heap.size, 0, none⟩) zc.toNat zc.toNat)) (by
    have := f.put (Nat.le_of_ble_eq_true hd) (.slice (some ⟨w.heap.size, 0, none⟩) zc.toNat zc.toNat)
    simpa using this)
  exact this
/-- An element of a row is stored. -/
theorem og_storeR {T m i : Nat} {p : Addr} {X1 X2 : Operand} {v : Value} {vs : List Value} {x : α} (hO : Own w M (rs ++ t)) (hR : Rw M rs (some p) cap l) (hi : i < l.length) (ht : (P.info? T).map (·.size) = some m) (hm : m = Rep.n α) (hc : v.cells = vs.toArray) (hrd : Rep.rd M vs x)
    (e1 : ev E X1 = some (.pointer (some (p.add (i * m))))) (e2 : ev E X2 = some v)
    (k : ∀ rs' w', Own w' M (rs' ++ t) → Rw M rs' (some p) cap (l.set i x) → KG K n E w') : OG P Q ⟨none, .store T X1 X2, ty, ps, af, g⟩ n E w K := by
  obtain ⟨b, c, T', off, rfl, e, hs, he⟩ := hR.ex hi
  cases e
  subst hm
  have hle : off + l.length * Rep.n α ≤ c.size := by have := Nat.mul_le_mul_right (Rep.n α) hR.le; omega
  have hin : off + i * Rep.n α + vs.length ≤ c.size := by
    have := Nat.mul_le_mul_right (Rep.n α) (show i + 1 ≤ l.length from hi); rw [Nat.add_mul] at this; rw [Rep.len hrd]; omega
  rw [Addr.add_eq ⟨b, off, none⟩ _ rfl] at e1
  refine oo (bs := t) hO ht hc (Rep.len hrd) (Rep.one hrd) hin e1 e2 fun w' hO' => k [(b, _)] w' hO' ?_
  exact ⟨by rw [List.length_set]; exact hR.le, by rw [List.length_set]; exact hR.bd, .inr ⟨b, _, T', off, rfl, rfl, by rw [putCells_size]; exact hs, he.put hi hle hrd⟩⟩
/-- One cell of an element of a row is stored. -/
theorem og_storeRF {T i j : Nat} {p : Addr} {X1 X2 : Operand} {v : Value} {vs : List Value} {x y : α} (hO : Own w M (rs ++ t)) (hR : Rw M rs (some p) cap l) (hi : l[i]? = some y) (hvs : ∀ w, Own w M (rs ++ t) → ∀ j v, vs[j]? = some v → w.cell? ((p.add (i * Rep.n α)).add j) = some v) (hl : vs.length = Rep.n α) (hj : j < vs.length)
    (ht : (P.info? T).map (·.size) = some 1) (hv : oneCell v = true) (hrd : Rep.rd M (vs.set j v) x)
    (e1 : ev E X1 = some (.pointer (some ((p.add (i * Rep.n α)).add j)))) (e2 : ev E X2 = some v)
    (k : ∀ rs' w', Own w' M (rs' ++ t) → Rw M rs' (some p) cap (l.set i x) → KG K n E w') : OG P Q ⟨none, .store T X1 X2, ty, ps, af, g⟩ n E w K := by
  have hil : i < l.length := (List.getElem?_eq_some_iff.1 hi).1
  obtain ⟨b, c, T', off, rfl, e, hs, he⟩ := hR.ex hil
  cases e
  have hle : off + l.length * Rep.n α ≤ c.size := by have := Nat.mul_le_mul_right (Rep.n α) hR.le; omega
  have hin : off + i * Rep.n α + Rep.n α ≤ c.size := by
    have := Nat.mul_le_mul_right (Rep.n α) (show i + 1 ≤ l.length from hil); rw [Nat.add_mul] at this; omega
  rw [Addr.add_eq ⟨b, off, none⟩ _ rfl, Addr.add_eq _ _ rfl] at e1
  have hcell : ∀ q u, vs[q]? = some u → c[off + i * Rep.n α + q]? = some u := fun q u hq => by
    have h1 := hvs w hO q u hq
    rw [Addr.add_eq ⟨b, off, none⟩ _ rfl, Addr.add_eq _ _ rfl] at h1
    have hb := hO.get 0 (rfl : ([(b, Obj.cells c T')] ++ t)[0]? = _)
    simpa [World.cell?, hb] using h1
  refine oo (bs := t) (vs := [v]) hO ht (cells_one hv).1 rfl (by simp [hv]) (by simp; omega) e1 e2 fun w' hO' => k [(b, _)] w' hO' ?_
  have hput : putCells c (off + i * Rep.n α + j) [v] = putCells c (off + i * Rep.n α) (vs.set j v) := by
    apply Array.ext_getElem?
    intro q
    have hlen : (vs.set j v).length = vs.length := List.length_set
    by_cases hq : q = off + i * Rep.n α + j
    · subst hq
      have h1 := putCells_in [v] c (off + i * Rep.n α + j) 0 v (by simp; omega) rfl
      have h2 := putCells_in (vs.set j v) c (off + i * Rep.n α) j v (by rw [hlen]; omega) (by rw [List.getElem?_set_self hj])
      rw [Nat.add_zero] at h1; rw [h1, h2]
    · have h1 : (putCells c (off + i * Rep.n α + j) [v])[q]? = c[q]? := by
        rcases Nat.lt_or_ge q (off + i * Rep.n α + j) with h | h
        · exact putCells_lt _ _ _ _ h
        · exact putCells_ge _ _ _ _ (by simp; omega)
      rw [h1]
      rcases Nat.lt_or_ge q (off + i * Rep.n α) with h | h
      · rw [putCells_lt _ _ _ _ h]
      · rcases Nat.lt_or_ge q (off + i * Rep.n α + vs.length) with h' | h'
        · obtain ⟨r, rfl⟩ : ∃ r, q = off + i * Rep.n α + r := ⟨q - (off + i * Rep.n α), by omega⟩
          have hr : r < vs.length := by omega
          have h3 : (vs.set j v)[r]? = some vs[r] := by rw [List.getElem?_set_ne (by omega)]; exact List.getElem?_eq_getElem hr
          rw [putCells_in (vs.set j v) c (off + i * Rep.n α) r _ (by rw [hlen]; omega) h3]
          exact hcell r _ (List.getElem?_eq_getElem hr)
        · rw [putCells_ge _ _ _ _ (by rw [hlen]; exact h')]
  rw [hput]
  exact ⟨by rw [List.length_set]; exact hR.le, by rw [List.length_set]; exact hR.bd, .inr ⟨b, _, T', off, rfl, rfl, by rw [putCells_size]; exact hs, he.put hil hle hrd⟩⟩

/-! ### Slicing -/
def slBase (base : Option Addr) (cap i m : Nat) : Option Addr := if cap = i then base else base.map (·.add (i * m))
theorem y_sliceFrom {ops : Array Oper} {S : World → Prop} {T m l c : Nat} {X I : Operand} {b : Option Addr} {z : Int} {d : Option Tmp} (ht : slEl P T = some m) (hg : Met ops E g) (e1 : ev E X = some (.slice b l c)) (e2 : ev E I = some (.int .i64 z)) (h0 : 0 ≤ z) (h1 : z ≤ l) :
    Y P ops S n E ⟨d, .slice T X (some I) none none, ty, ps, af, g⟩ (.slice (slBase b c z.toNat m) (l - z.toNat) (c - z.toNat)) := y_of hg fun a f w _ => by
  unfold slEl at ht
  split at ht
  · rename_i el hu
    cases hi : P.info? el with
    | none => rw [hi] at ht; cases ht
    | some inf =>
      rw [hi] at ht; cases ht
      simp [execOp, f.eval e1, f.eval e2, Instr.sliceAt, Instr.slice, Instr.sliceBounds, Instr.sliceBound, asIntOf, underlying, hu, sizeOf, typeInfo, hi, h0, h1, slBase]
  · cases ht
theorem y_sliceTo {ops : Array Oper} {S : World → Prop} {T m l c : Nat} {X I : Operand} {b : Option Addr} {z : Int} {d : Option Tmp} (ht : slEl P T = some m) (hg : Met ops E g) (e1 : ev E X = some (.slice b l c)) (e2 : ev E I = some (.int .i64 z)) (h0 : 0 ≤ z) (h1 : z ≤ c) :
    Y P ops S n E ⟨d, .slice T X none (some I) none, ty, ps, af, g⟩ (.slice b z.toNat c) := y_of hg fun a f w _ => by
  unfold slEl at ht
  split at ht
  · rename_i el hu
    cases hi : P.info? el with
    | none => rw [hi] at ht; cases ht
    | some inf =>
      rw [hi] at ht; cases ht
      have hb : (if c = 0 then b else b.map (·.add (0 * inf.size))) = b := by
        split
        · rfl
        · cases b <;> simp [Addr.add]
      simp only [Nat.zero_mul] at hb
      simp [execOp, f.eval e1, f.eval e2, Instr.sliceAt, Instr.slice, Instr.sliceBounds, Instr.sliceBound, asIntOf, underlying, hu, sizeOf, typeInfo, hi, h0, h1, hb]
  · cases ht
theorem y_sliceFrom' {ops : Array Oper} {S : World → Prop} {T m l c : Nat} {X I : Operand} {b : Option Addr} {z : Int} {d : Option Tmp} (b' : Option Addr) (l' c' : Nat) (ht : slEl P T = some m) (hg : Met ops E g) (e1 : ev E X = some (.slice b l c)) (e2 : ev E I = some (.int .i64 z)) (h0 : 0 ≤ z) (h1 : z ≤ l)
    (hb : slBase b c z.toNat m = b') (hl : l - z.toNat = l') (hc : c - z.toNat = c') :
    Y P ops S n E ⟨d, .slice T X (some I) none none, ty, ps, af, g⟩ (.slice b' l' c') := by
  subst hb hl hc; exact y_sliceFrom ht hg e1 e2 h0 h1
theorem y_sliceTo' {ops : Array Oper} {S : World → Prop} {T m l c : Nat} {X I : Operand} {b : Option Addr} {z : Int} {d : Option Tmp} (l' : Nat) (ht : slEl P T = some m) (hg : Met ops E g) (e1 : ev E X = some (.slice b l c)) (e2 : ev E I = some (.int .i64 z)) (h0 : 0 ≤ z) (h1 : z ≤ c) (hl : z.toNat = l') :
    Y P ops S n E ⟨d, .slice T X none (some I) none, ty, ps, af, g⟩ (.slice b l' c) := by
  subst hl; exact y_sliceTo ht hg e1 e2 h0 h1
theorem slBase_zero (b : Option Addr) (c m : Nat) : slBase b c 0 m = b := by
  unfold slBase; split
  · rfl
  · cases b <;> simp [Addr.add]
theorem RdS.drop (h : RdS M base cap l) (i : Nat) (hi : i ≤ l.length) : RdS M (slBase base cap i (Rep.n α)) (cap - i) (l.drop i) := by
  refine ⟨by rw [List.length_drop]; have := h.le; omega, by rw [List.length_drop]; exact Nat.le_trans (Nat.mul_le_mul_right _ (Nat.sub_le _ _)) h.bd, fun j x e => ?_⟩
  rw [List.getElem?_drop] at e
  obtain ⟨p, rfl, hp⟩ := h.el _ x e
  have hlt := (List.getElem?_eq_some_iff.1 e).1
  have hne : ¬ cap = i := by have := h.le; omega
  refine ⟨p.add (i * Rep.n α), by simp [slBase, hne], ?_⟩
  have : (p.add (i * Rep.n α)).add (j * Rep.n α) = p.add ((i + j) * Rep.n α) := by
    obtain ⟨vs, hat, _⟩ := hp
    rw [Nat.add_mul]
    by_cases h1 : i * Rep.n α = 0
    · rw [h1, Nat.zero_add]; simp [Addr.add]
    · unfold Addr.add; rw [if_neg h1]
      by_cases h2 : j * Rep.n α = 0
      · rw [if_pos h2, h2]; simp [h1]
      · rw [if_neg h2, if_neg (by omega)]; simp [Nat.add_assoc]
  rw [this]; exact hp
theorem Rw.drop (h : Rw M rs base cap l) (i : Nat) (hi : i ≤ l.length) : Rw M rs (slBase base cap i (Rep.n α)) (cap - i) (l.drop i) := by
  refine ⟨by rw [List.length_drop]; have := h.le; omega, by rw [List.length_drop]; exact Nat.le_trans (Nat.mul_le_mul_right _ (Nat.sub_le _ _)) h.bd, ?_⟩
  rcases h.it with ⟨rfl, rfl, rfl⟩ | ⟨b, c, T, off, rfl, rfl, hs, he⟩
  · left; refine ⟨rfl, ?_, by omega⟩; unfold slBase; split <;> rfl
  · right
    by_cases hc : cap = i
    · refine ⟨b, c, T, off, rfl, by simp [slBase, hc], by rw [hc, Nat.sub_self, Nat.zero_mul]; have := Nat.zero_le (cap * Rep.n α); omega, fun j x e => ?_⟩
      rw [List.getElem?_drop] at e
      have := (List.getElem?_eq_some_iff.1 e).1; have := h.le; omega
    · refine ⟨b, c, T, off + i * Rep.n α, rfl, by simp [slBase, hc, Addr.add_eq], ?_, fun j x e => ?_⟩
      · have hle := h.le
        rw [Nat.sub_mul]; have := Nat.mul_le_mul_right (Rep.n α) (show i ≤ cap by omega); omega
      · rw [List.getElem?_drop] at e
        obtain ⟨vs, h1, h2⟩ := he _ x e
        refine ⟨vs, fun q v hq => ?_, h2⟩
        rw [← h1 q v hq, Nat.add_mul]; congr 1; omega
theorem Rw.take (h : Rw M rs base cap l) (i : Nat) : Rw M rs base cap (l.take i) := by
  refine ⟨Nat.le_trans (by rw [List.length_take]; exact Nat.min_le_right _ _) h.le, Nat.le_trans (Nat.mul_le_mul_right _ (by rw [List.length_take]; exact Nat.min_le_right _ _)) h.bd, h.it.imp id fun ⟨b, c, T, off, e1, e2, hs, he⟩ => ⟨b, c, T, off, e1, e2, hs, fun j x e => he j x ?_⟩⟩
  rw [List.getElem?_take] at e; split at e
  · exact e
  · cases e
theorem RdS.take (h : RdS M base cap l) (i : Nat) : RdS M base cap (l.take i) := by
  refine ⟨Nat.le_trans (by rw [List.length_take]; exact Nat.min_le_right _ _) h.le, Nat.le_trans (Nat.mul_le_mul_right _ (by rw [List.length_take]; exact Nat.min_le_right _ _)) h.bd, fun j x e => h.el j x ?_⟩
  rw [List.getElem?_take] at e; split at e
  · exact e
  · cases e
/-! ### copy, clear -/
/-- Cells that read as xs are stored into a row from element i on. -/
theorem Rw.over {vs : List Value} {i : Nat} (hO : Own w M (rs ++ t)) (hR : Rw M rs base cap l) (hv : RdL M vs xs) (hi : i + xs.length ≤ l.length) (p : Option Addr) (hp : p = slBase base cap i (Rep.n α)) :
    ∃ rs' w', (match p with | some a => storeCells a vs | none => pure ()).run P w = .ok () w' ∧ Own w' M (rs' ++ t) ∧ Rw M rs' base cap (l.take i ++ xs ++ l.drop (i + xs.length)) := by
  have hlen : (l.take i ++ xs ++ l.drop (i + xs.length)).length = l.length := by simp only [List.length_append, List.length_take, List.length_drop]; omega
  have hel : ∀ (q : Nat) (y : α), (l.take i ++ xs ++ l.drop (i + xs.length))[q]? = some y → (i ≤ q ∧ q < i + xs.length ∧ xs[q - i]? = some y) ∨ ((q < i ∨ i + xs.length ≤ q) ∧ l[q]? = some y) := fun q y e => by
    have hti : (l.take i).length = i := by rw [List.length_take]; omega
    rcases Nat.lt_or_ge q i with h | h
    · right; refine ⟨.inl h, ?_⟩
      rw [List.append_assoc, List.getElem?_append_left (by omega), List.getElem?_take, if_pos h] at e; exact e
    · rcases Nat.lt_or_ge q (i + xs.length) with h' | h'
      · left; refine ⟨h, h', ?_⟩
        rw [List.append_assoc, List.getElem?_append_right (by omega), hti, List.getElem?_append_left (by omega)] at e; exact e
      · right; refine ⟨.inr h', ?_⟩
        rw [List.getElem?_append_right (by rw [List.length_append]; omega), List.getElem?_drop, List.length_append, hti] at e
        rw [← e]; congr 1; omega
  rcases hR.it with ⟨rfl, rfl, rfl⟩ | ⟨b, c, T, off, rfl, rfl, hs, he⟩
  · have hl := hR.le
    have h1 : l = [] := List.eq_nil_of_length_eq_zero (by omega)
    subst h1
    have h2 : xs = [] := List.eq_nil_of_length_eq_zero (by simp only [List.length_nil] at hi; omega)
    subst h2
    have h3 : p = none := by subst hp; unfold slBase; split <;> rfl
    subst h3
    exact ⟨[], w, rfl, hO, by simpa using hR⟩
  · have hle := hR.le
    have hvl := hv.len
    have hsz : off + i * Rep.n α + vs.length ≤ c.size := by
      have := Nat.mul_le_mul_right (Rep.n α) (show i + xs.length ≤ cap by omega); rw [Nat.add_mul] at this; omega
    have hone : ∀ v ∈ vs, oneCell v = true := fun v hv' => List.all_eq_true.1 hv.one v hv'
    -- where the stores begin
    have hps : vs = [] ∨ p = some ⟨b, off + i * Rep.n α, none⟩ := by
      subst hp; unfold slBase
      by_cases hc : cap = i
      · left; apply List.eq_nil_of_length_eq_zero; rw [hvl, show xs.length = 0 by omega, Nat.zero_mul]
      · right; rw [if_neg hc]; simp [Addr.add_eq]
    refine ⟨[(b, .cells (putCells c (off + i * Rep.n α) vs) T)], _, ?_, hO.puts vs w (off + i * Rep.n α) _ c (k := 0) rfl, ?_⟩
    · rcases hps with h0 | h0
      · subst h0; cases p <;> simp [storeCells]
      · rw [h0]; simpa using run_storeCells P vs w (off + i * Rep.n α) 0 c (hO.get 0 rfl) (by omega) hone
    · refine ⟨by rw [hlen]; exact hle, by rw [hlen]; exact hR.bd, .inr ⟨b, _, T, off, rfl, rfl, by rw [putCells_size]; exact hs, fun q y e => ?_⟩⟩
      rcases hel q y e with ⟨h1, h2, h3⟩ | ⟨h1, h2⟩
      · obtain ⟨us, hu, hr⟩ := hv.el _ y h3
        refine ⟨us, fun j v hj => ?_, hr⟩
        have := putCells_in vs c (off + i * Rep.n α) _ v hsz (hu j v hj)
        rw [show off + i * Rep.n α + ((q - i) * Rep.n α + j) = off + q * Rep.n α + j by rw [Nat.sub_mul]; have := Nat.mul_le_mul_right (Rep.n α) h1; omega] at this
        exact this
      · obtain ⟨us, hu, hr⟩ := he q y h2
        refine ⟨us, fun j v hj => ?_, hr⟩
        have hj' : j < Rep.n α := by rw [← Rep.len hr]; exact (List.getElem?_eq_some_iff.1 hj).1
        rw [← hu j v hj]
        rcases h1 with h1 | h1
        · have := Nat.mul_le_mul_right (Rep.n α) (show q + 1 ≤ i from h1); rw [Nat.add_mul] at this
          exact putCells_lt _ _ _ _ (by omega)
        · have := Nat.mul_le_mul_right (Rep.n α) h1; rw [Nat.add_mul] at this
          exact putCells_ge _ _ _ _ (by omega)
/-- copy(row[i:], ..). -/
theorem og_copy {T T2 e m y n2 len' cap' i : Nat} {z : Value} {vs : List Value} {x : Value} {X1 X2 : Operand} {p : Option Addr} (hT : slInfo P T = some (e, m, y, z)) (hm : m = Rep.n α) (hO : Own w M (rs ++ t)) (hR : Rw M rs base cap l) (hd : Nat.ble (d + 1) n = true)
    (e1 : ev E X1 = some (.slice p len' cap')) (hp : p = slBase base cap i (Rep.n α)) (e2 : ev E X2 = some x) (hn : Builtin.lenOf x = pure n2) (hmin : Nat.min n2 len' = xs.length) (hx : ∀ w', w'.heap = w.heap → (Builtin.firstCells (Rep.n α) xs.length x).run P w' = .ok vs.toArray w') (hv : RdL M vs xs)
    (hi : i + xs.length ≤ l.length)
    (k : ∀ rs' w', Own w' M (rs' ++ t) → Rw M rs' base cap (l.take i ++ xs ++ l.drop (i + xs.length)) → KG K n ((d, .int .i64 xs.length) :: E) w') :
    OG P Q ⟨some d, .call { callee := .builtin .copy, args := #[X1, X2], argTypes := #[T, T2] }, ty, ps, af, g⟩ n E w K := fun a f => by
  obtain ⟨hu, i', hi', _, him, _⟩ := slInfo_spec hT
  obtain ⟨rs', w', hst, hO', hR'⟩ := Rw.over (P := P) hO hR hv hi p hp
  have hrun : (execOp a.eval ⟨some d, .call { callee := .builtin .copy, args := #[X1, X2], argTypes := #[T, T2] }, ty, ps, af, g⟩).run P w = .ok (.value (.int .i64 xs.length)) w' := by
    simp only [execOp, resolve, invoke, builtin]
    simp only [List.map_toArray, List.map_cons, List.map_nil, f.eval e1, f.eval e2]
    have h0 := hx w rfl
    rw [← hm, ← him] at h0
    cases p with
    | none =>
      simp only [Sem.run_pure] at hst
      simp [Builtin.copy_, underlying, hu, hn, sizeOf, typeInfo, hi', hmin, h0, goInt]
      cases hst; rfl
    | some q =>
      simp only at hst
      simp [Builtin.copy_, underlying, hu, hn, sizeOf, typeInfo, hi', hmin, h0, goInt, hst]
  simp only [Oper.wp, hrun, Oper.upon]
  exact k _ _ hO' hR' _ (f.put (Nat.le_of_ble_eq_true hd) _)
/-- clear(row[i:]). -/
theorem og_clear {T e m y len' cap' i : Nat} {z : Value} {x0 : α} {X1 : Operand} {p : Option Addr} (hT : slInfo P T = some (e, m, y, z)) (hm : m = Rep.n α) (hrd : Rep.rd M z.cells.toList x0) (hn0 : 0 < Rep.n α) (hO : Own w M (rs ++ t)) (hR : Rw M rs base cap l)
    (e1 : ev E X1 = some (.slice p len' cap')) (hp : p = slBase base cap i (Rep.n α)) (hlen : i + len' = l.length)
    (k : ∀ rs' w', Own w' M (rs' ++ t) → Rw M rs' base cap (l.take i ++ List.replicate len' x0 ++ l.drop (i + len')) → KG K n E w') :
    OG P Q ⟨none, .call { callee := .builtin .clear, args := #[X1], argTypes := #[T] }, ty, ps, af, g⟩ n E w K := fun a f => by
  obtain ⟨hu, i', hi', hiz, him, _⟩ := slInfo_spec hT
  have hz := zeros_rdl hrd hn0 len'
  obtain ⟨rs', w', hst, hO', hR'⟩ := Rw.over (P := P) hO hR hz (by rw [List.length_replicate]; omega) p hp
  rw [List.length_replicate] at hR'
  have hzc : Builtin.zeroCells z.cells len' = ((Array.range (len' * Rep.n α)).map (z.cells.toList.toArray[· % z.cells.toList.toArray.size]!)) := by
    have : z.cells.size = Rep.n α := by have := Rep.len hrd; simpa using this
    simp [Builtin.zeroCells, this]
  have hrun : (execOp a.eval ⟨none, .call { callee := .builtin .clear, args := #[X1], argTypes := #[T] }, ty, ps, af, g⟩).run P w = .ok (.value (.tuple #[])) w' := by
    simp only [execOp, resolve, invoke, builtin]
    simp only [List.map_toArray, List.map_cons, List.map_nil, f.eval e1]
    cases p with
    | none =>
      simp only [Sem.run_pure] at hst
      simp [Builtin.clear_, underlying, hu]
      cases hst; rfl
    | some q =>
      simp only at hst
      cases len' with
      | zero =>
        have : w' = w := by simp [storeCells] at hst; exact hst.symm
        subst this
        simp [Builtin.clear_, underlying, hu]
      | succ len' =>
        rw [← hzc] at hst
        simp [Builtin.clear_, underlying, hu, zeroValue, typeInfo, hi', hiz, hst]
  simp only [Oper.wp, hrun, Oper.upon]
  exact k _ _ hO' hR' _ f
/-- A row of plain numbers reads the same in every memory. -/
theorem Rw.intM {M' : Mem} {l : List Int} (h : Rw M rs base cap l) : Rw M' rs base cap l := ⟨h.le, h.bd, h.it.imp id fun ⟨b, c, T, off, e1, e2, hs, he⟩ => ⟨b, c, T, off, e1, e2, hs, he⟩⟩
theorem Rw.boolM {M' : Mem} {l : List Bool} (h : Rw M rs base cap l) : Rw M' rs base cap l := ⟨h.le, h.bd, h.it.imp id fun ⟨b, c, T, off, e1, e2, hs, he⟩ => ⟨b, c, T, off, e1, e2, hs, he⟩⟩
end ogs
end Go.Proofs.YtdniefnjgkhkeaaDoor
