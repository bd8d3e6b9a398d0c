/-
  How arguments that can be read as data read as the plain data of the contracts.
  Conditions: none.
-/
import Derived.Test.YtdniefnjgkhkeaaDoorRw17
import Derived.Test.YtdniefnjgkhkeaaDoorV5
import Derived.SizedLaws
namespace Go.Proofs.YtdniefnjgkhkeaaDoor
set_option linter.unusedVariables false
set_option linter.unusedSimpArgs false
open Go Go.ChangeShapes Go.WideShapes Go.RowKit
set_option maxRecDepth 100000
/-- Every value of type t that can be read as data reads as an α. -/
def Opens (P : Program) (α : Type) [Rep α] (t : TypeId) : Prop :=
  ∀ {H : Type} {enc : TypeId × Value → H} {w : World} {fuel : Nat} {cs : List Value} {x : DataW H × List MemPlace}, DataW.trod enc P w 0 (fun _ => true) true fuel t cs = some x → (x.1.weights P t).all (· ≤ reachBytes) = true → ∃ y : α, Rep.rd (memOf w) cs y
section
variable {P : Program} {t e : TypeId}
theorem opens_int (ht : P.underlying t = some (.int .i64)) : Opens P Int t := fun h _ => by
  obtain ⟨n, rfl, _, _⟩ := DataW.trod_int ht h
  exact ⟨n, rfl⟩
theorem opens_bool (ht : P.underlying t = some .bool) : Opens P Bool t := fun h _ => by
  obtain ⟨b, rfl, _⟩ := DataW.trod_bool ht h
  exact ⟨b, rfl⟩
theorem choose_list {α : Type} {n : Nat} {R : Nat → α → Prop} (h : ∀ i, i < n → ∃ y, R i y) : ∃ l : List α, l.length = n ∧ ∀ (i : Nat) (y : α), l[i]? = some y → R i y := by
  induction n with
  | zero => exact ⟨[], rfl, fun i y e => by simp at e⟩
  | succ n ih =>
    obtain ⟨l, h1, h2⟩ := ih (fun i hi => h i (by omega))
    obtain ⟨y, hy⟩ := h n (by omega)
    refine ⟨l ++ [y], by simp [h1], fun i z e => ?_⟩
    rcases Nat.lt_or_ge i l.length with hi | hi
    · rw [List.getElem?_append_left hi] at e; exact h2 i z e
    · rw [List.getElem?_append_right hi] at e
      have hil : i - l.length = 0 := by
        have := (List.getElem?_eq_some_iff.1 e).1
        simp at this; omega
      rw [hil] at e; simp at e; subst e
      obtain rfl : i = n := by omega
      exact hy
theorem mapM_get {α β : Type} {f : α → Option β} : ∀ {l : List α} {r : List β}, l.mapM f = some r → r.length = l.length ∧ ∀ (i : Nat) (a : α), l[i]? = some a → f a = r[i]?
  | [], r, h => by
    simp at h; subst h; simp
  | a :: l, r, h => by
    rw [List.mapM_cons] at h
    cases hf : f a with
    | none => simp [hf] at h
    | some b =>
      cases hl : l.mapM f with
      | none => simp [hf, hl] at h
      | some s =>
        simp [hf, hl] at h; subst h
        obtain ⟨h1, h2⟩ := mapM_get hl
        refine ⟨by simp [h1], fun i c e => ?_⟩
        cases i with
        | zero => simp at e; subst e; simp [hf]
        | succ i => simp at e ⊢; exact h2 i c e
theorem at_of_cells {w : World} {p : Addr} {n : Nat} {cs : List Value} (hn : 0 < n) (h : w.cells? 0 p n = some cs) : At (memOf w) p cs ∧ cs.length = n := by
  unfold World.cells? at h
  rw [if_pos (Nat.zero_le _)] at h
  obtain ⟨h1, h2⟩ := mapM_get h
  simp only [List.length_range] at h1
  have hc : ∀ j v, cs[j]? = some v → w.cell? (p.add j) = some v := fun j v e => by
    have hj : j < n := by have := (List.getElem?_eq_some_iff.1 e).1; omega
    have := h2 j j (by simp [hj]); rw [this]; exact e
  obtain ⟨v0, e0⟩ : ∃ v, cs[0]? = some v := ⟨cs[0], by simp [h1, hn]⟩
  have h0 := hc 0 v0 e0
  have hs : p.spot = none := by
    simp only [Addr.add, if_true, World.cell?] at h0
    cases hsp : p.spot with
    | none => rfl
    | some s =>
      rw [hsp] at h0
      cases hb : w.heap[p.block]? with
      | none => simp [hb] at h0
      | some o => cases o <;> simp [hb] at h0
  refine ⟨⟨hs, ?_⟩, h1⟩
  rw [show p.add 0 = p from by simp [Addr.add]] at h0
  unfold World.cell? at h0
  cases hb : w.heap[p.block]? with
  | none => simp [hb] at h0
  | some o =>
    cases o with
    | cells c T f =>
      refine ⟨c, T, f, hb, fun j v e => ?_⟩
      have := hc j v e
      rw [Addr.add_eq p j hs] at this
      simpa [World.cell?, hb] using this
    | _ => simp [hb] at h0
theorem opens_slice {α : Type} [Rep α] (ht : P.underlying t = some (.slice e)) (he : Opens P α e) (hn : P.cellsOf e = Rep.n α) (hn0 : 0 < Rep.n α) (hb : P.bytesOf e = Rep.sz α) : Opens P (List α) t := fun {H enc w fuel cs x} h hz => by
  rcases DataW.trod_slice ht h with ⟨rfl, rfl⟩ | ⟨a, len, cap, elems, rest, n, _, rfl, rfl, _, hl, hm, hlen, hel, _, _⟩
  · exact ⟨[], none, 0, rfl, RdS.nil _ _ _⟩
  · have hw : ((elems.map (·.1)).length + (rest.map (·.1)).length) * P.bytesOf e ≤ reachBytes ∧ ∀ d ∈ elems.map (·.1), (d.weights P e).all (· ≤ reachBytes) = true := by
      simp only [DataW.weights, ht, List.all_cons, Bool.and_eq_true, decide_eq_true_eq, List.all_append] at hz
      refine ⟨hz.1, ?_⟩
      have key : ∀ ds : List (DataW H), (DataW.weightsAll P e ds).all (· ≤ reachBytes) = true → ∀ d ∈ ds, (d.weights P e).all (· ≤ reachBytes) = true := by
        intro ds
        induction ds with
        | nil => intro _ d hd; cases hd
        | cons d0 ds ih =>
          intro hh d hd
          simp only [DataW.weightsAll, List.all_append, Bool.and_eq_true] at hh
          rcases List.mem_cons.1 hd with rfl | hd
          · exact hh.1
          · exact ih hh.2 d hd
      exact key _ hz.2.1
    obtain ⟨l, hll, hlr⟩ := choose_list (α := α) (n := len) (R := fun i y => PAt (memOf w) (a.add (i * Rep.n α)) y) (fun i hi => by
      have h1 := hel i hi
      obtain ⟨xi, hxi⟩ : ∃ xi, elems[i]? = some xi := ⟨elems[i], by simp [hlen, hi]⟩
      rw [hxi] at h1
      obtain ⟨cs', hc, htr⟩ := Option.bind_eq_some_iff.1 h1
      rw [hn] at hc
      have hat := at_of_cells hn0 hc
      obtain ⟨y, hy⟩ := he htr (hw.2 xi.1 (List.mem_map.2 ⟨xi, List.mem_of_getElem? hxi, rfl⟩))
      exact ⟨y, cs', hat.1, hy⟩)
    refine ⟨l, some a, cap, by rw [hll], by rw [hll]; exact hl, ?_, fun i y hy => ⟨a, rfl, hlr i y hy⟩⟩
    have h2 := hw.1
    rw [List.length_map, List.length_map, hlen, hb] at h2
    have h3 : l.length * Rep.sz α ≤ (len + rest.length) * Rep.sz α := by rw [hll]; exact Nat.mul_le_mul_right _ (Nat.le_add_right _ _)
    exact Nat.le_trans h3 h2
/-- The fields of a struct, of one cell each. -/
theorem opens_fields {H : Type} {enc : TypeId × Value → H} {w : World} {fuel : Nat} {cs : List Value} {x : DataW H × List MemPlace} {fs : Array Field} (ht : P.underlying t = some (.struct fs)) (hc : P.cellsOf t = fs.size) (ho : fs.toList.zipIdx.all (fun q => q.1.offset == q.2 && P.cellsOf q.1.type == 1) = true)
    (h : DataW.trod enc P w 0 (fun _ => true) true fuel t cs = some x) (hz : (x.1.weights P t).all (· ≤ reachBytes) = true) : cs.length = fs.size ∧
      ∀ (i : Nat) (f : Field), fs[i]? = some f → ∃ c n xi, cs[i]? = some c ∧ DataW.trod enc P w 0 (fun _ => true) true n f.type [c] = some xi ∧ (xi.1.weights P f.type).all (· ≤ reachBytes) = true := by
  obtain ⟨xs, n, _, rfl, hl, hlen, hf⟩ := DataW.trod_struct ht h
  rw [hc] at hl
  refine ⟨hl, fun i f hi => ?_⟩
  have hil : i < fs.size := (Array.getElem?_eq_some_iff.1 hi).1
  have hoi := List.all_eq_true.1 ho (f, i) (by
    rw [List.mem_zipIdx_iff_getElem?]; simpa using hi)
  simp only [Bool.and_eq_true, beq_iff_eq] at hoi
  have h1 := hf i f hi
  rw [hoi.1, hoi.2] at h1
  obtain ⟨xi, hxi⟩ : ∃ xi, xs[i]? = some xi := ⟨xs[i], by simp [hlen, hil]⟩
  have hic : i < cs.length := by omega
  have hcs : (cs.drop i).take 1 = [cs[i]] := by rw [List.drop_eq_getElem_cons hic, List.take_succ_cons, List.take_zero]
  rw [hxi, hcs] at h1
  refine ⟨cs[i], n, xi, by simp [hic], h1, ?_⟩
  rw [List.all_eq_true] at hz ⊢
  intro m hm
  refine hz m ?_
  simp only [DataW.weights, ht]
  exact DataW.weights_mem_each (j := i) (t := f.type) (by simpa using ⟨f, hi, rfl⟩) (by simp [hxi]) m hm
end
end Go.Proofs.YtdniefnjgkhkeaaDoor
