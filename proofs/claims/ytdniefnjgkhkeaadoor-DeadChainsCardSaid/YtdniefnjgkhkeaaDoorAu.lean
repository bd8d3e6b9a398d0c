/-
  Rules for contracts whose specification is the Go text itself, read as a partial function on plain data: guards, joins, loops.
  Conditions: none.
-/
import Derived.Test.YtdniefnjgkhkeaaDoorV5
namespace Go.Proofs.YtdniefnjgkhkeaaDoor
set_option linter.unusedVariables false
set_option linter.unusedSimpArgs false
open Go
abbrev wI (x : Int) : Int := IntKind.i64.wrap x
def inb (z : Int) (n : Nat) : Bool := decide (0 ≤ z) && decide (z < n)
def inl (z : Int) (n : Nat) : Bool := decide (0 ≤ z) && decide (z ≤ n)
def room (n sz : Nat) : Bool := decide (n * sz ≤ 140737488351232)
theorem inb_0 {z : Int} {n : Nat} (h : inb z n = true) : 0 ≤ z := by simp [inb] at h; exact h.1
theorem inb_lt {z : Int} {n : Nat} (h : inb z n = true) : z < n := by simp [inb] at h; exact h.2
theorem ib {z : Int} {n : Nat} (h : inb z n = true) : z.toNat < n := by simp [inb] at h; omega
theorem inl_0 {z : Int} {n : Nat} (h : inl z n = true) : 0 ≤ z := by simp [inl] at h; exact h.1
theorem inl_le {z : Int} {n : Nat} (h : inl z n = true) : z ≤ n := by simp [inl] at h; exact h.2
theorem inl_nat {z : Int} {n : Nat} (h : inl z n = true) : z.toNat ≤ n := by simp [inl] at h; omega
theorem room_le {n sz : Nat} (h : room n sz = true) : n * sz ≤ 140737488351232 := by simpa [room] using h
theorem room_k {n sz : Nat} (h : room n sz = true) (h1 : 1 ≤ sz) : n ≤ 9223372036854775807 := by
  have := room_le h
  have h2 := Nat.le_mul_of_pos_right n h1
  omega
def mkb (z : Int) (sz : Nat) : Bool := decide (0 ≤ z) && room z.toNat sz
theorem mkb_0 {z : Int} {sz : Nat} (h : mkb z sz = true) : 0 ≤ z := by simp [mkb] at h; exact h.1
theorem mkb_r {z : Int} {sz : Nat} (h : mkb z sz = true) : z.toNat * sz ≤ 140737488351232 := by simp [mkb] at h; exact room_le h.2
theorem mkb_k {z : Int} {sz : Nat} (h : mkb z sz = true) (h1 : 1 ≤ sz) : z ≤ 9223372036854775807 := by
  have h2 : room z.toNat sz = true := by simp [mkb] at h; exact h.2
  have := room_k h2 h1; have := mkb_0 h; omega
section
variable {α β A : Type}
theorem cond_t {c : Bool} {X Y : Option α} {r : α} (h : c = true) (e : cond c X Y = some r) : X = some r := by subst h; exact e
theorem cond_f {c : Bool} {X Y : Option α} {r : α} (h : c = false) (e : cond c X Y = some r) : Y = some r := by subst h; exact e
theorem grd {c : Bool} {X : Option α} {r : α} (e : cond c X none = some r) : c = true ∧ X = some r := by
  cases c with
  | true => exact ⟨rfl, e⟩
  | false => cases e
theorem bind_s {x : Option α} {k : α → Option β} {r : β} (e : x.bind k = some r) : ∃ v, x = some v ∧ k v = some r := Option.bind_eq_some_iff.1 e
def andj (x : Option (α ⊕ A)) (k : α → Option A) : Option A := match x with | some (.inl v) => k v | some (.inr a) => some a | none => none
def Aft (k : α → Option A) (r : A) : α ⊕ A → Prop
  | .inl v => k v = some r
  | .inr a => a = r
theorem andj_s {x : Option (α ⊕ A)} {k : α → Option A} {r : A} (e : andj x k = some r) : ∃ o, x = some o ∧ Aft k r o := by
  match x, e with
  | some (.inl v), e => exact ⟨_, rfl, e⟩
  | some (.inr a), e => exact ⟨_, rfl, Option.some.inj e⟩
theorem Aft.l {k : α → Option A} {r : A} {o : α ⊕ A} {v : α} (h : Aft k r o) (e : o = .inl v) : k v = some r := by subst e; exact h
def esc (x : Option A) : Option (α ⊕ A) := x.map .inr
theorem esc_s {x : Option A} {k : α → Option A} {r : A} {o : α ⊕ A} (e : esc x = some o) (h : Aft k r o) : x = some r := by
  cases x with
  | none => cases e
  | some a => have := Option.some.inj e; subst this; exact congrArg some h
theorem inl_s {v : α} {o : α ⊕ A} (e : (some (.inl v) : Option (α ⊕ A)) = some o) : o = .inl v := (Option.some.inj e).symm
end
section
variable {P : Program} {Q : Exit → Act → World → Prop} {n : Nat} {E : Env} {w : World} {x : Code}
def LoopPost (I : Nat → Env → World → Prop) (m n : Nat) (a' : Act) (w' : World) : Prop := ∃ s' : Nat × Env, Fits n s'.2 a' ∧ I s'.1 s'.2 w' ∧ s'.1 < m
def JoinPost (I : Env → World → Prop) (n : Nat) (a' : Act) (w' : World) : Prop := ∃ E', Fits n E' a' ∧ I E' w'
theorem ci (I : Nat → Env → World → Prop) {m0 : Nat} {E0 : Env} (h0 : I m0 E0 w) (hs : Sub E0 E)
    (round : ∀ m E w, I m E w → CG P x (Exit.then (LoopPost I m n) Q) n E w) : CG P (.loop x) Q n E w :=
  cg_loop (σ := Nat × Env) (fun s => s.2) (fun s w => I s.1 s.2 w) (fun s => s.1) (m0, E0) hs h0 (fun s w h => round s.1 s.2 w h)
theorem eo {I : Nat → Env → World → Prop} {m m' : Nat} {E' : Env} (hI : I m' E' w) (hs : Sub E' E) (hlt : m' < m) :
    Ends (Exit.then (LoopPost I m n) Q) .normal n E w := fun _ f => ⟨(m', E'), f.sub hs, hI, hlt⟩
theorem cg_join (I : Env → World → Prop) (h : CG P x (Exit.then (JoinPost I n) Q) n E w) (k : ∀ E' w', I E' w' → Ends Q .normal n E' w') : CG P x Q n E w := fun a f b kk cs => by
  obtain ⟨e, a', w', q, r⟩ := h a f b kk cs
  refine ⟨e, a', w', ?_, r⟩
  cases e with
  | normal => obtain ⟨E', f', hI⟩ := q; exact k E' w' hI a' f'
  | exit _ => exact q
  | goto _ => exact q
  | ret => exact q
  | panic _ => exact q
  | outgrown => exact q
theorem ej' {I : Env → World → Prop} {E' : Env} (hI : I E' w) (hs : Sub E' E) : Ends (Exit.then (JoinPost I n) Q) .normal n E w := fun _ f => ⟨E', f.sub hs, hI⟩
end
theorem not_t {b : Bool} (h : (!b) = true) : b = false := by simpa using h
theorem not_f {b : Bool} (h : (!b) = false) : b = true := by simpa using h
theorem take_len {α : Type} {l : List α} {i : Nat} (h : i ≤ l.length) : i = (l.take i).length := by rw [List.length_take]; omega
theorem drop_len {α : Type} {l : List α} {i : Nat} : l.length - i = (l.drop i).length := by rw [List.length_drop]
theorem retcell {P : Program} {w : World} {M : Mem} {bs : List (Nat × Obj)} {ty b T : Nat} {vs : List Value} (hO : Own w M ((b, .cells vs.toArray T) :: bs)) (ha : aggN P ty = some vs.length) : (loadVar ty ⟨b, 0, none⟩).run P w = .ok (.agg vs.toArray) w := by
  have hg := hO.get 0 rfl
  unfold aggN at ha
  cases hu : P.underlying ty with
  | none => simp [hu] at ha
  | some d =>
    rw [hu] at ha
    cases d <;> simp at ha <;> exact run_loadVar_row w b T ty vs.toArray _ _ hg hu rfl (by simpa using ha)
theorem ends_retCT {P : Program} {fn : Func} {R : Ending → World → Prop} {n t ty b T u : Nat} {E : Env} {w : World} {M : Mem} {bs : List (Nat × Obj)} {x : Exit} {vs : List Value} {v2 : Value} (hO : Own w M ((b, .cells vs.toArray T) :: bs)) (ha : aggN P ty = some vs.length) (hx : x = .ret ∨ x = .normal) (hr : fn.results = #[.cell t ty, .tmp u])
    (e : look E t = some (.pointer (some ⟨b, 0, none⟩))) (e2 : look E u = some v2) (h : R (.returned (.tuple #[.agg vs.toArray, v2])) w) : Ends (bodyPost P fn R) x n E w := fun a f => by
  have h1 := f.l _ _ e
  have h2 := f.l _ _ e2
  have hq : (results fn a.tmps).run P w = .ok (.tuple #[.agg vs.toArray, v2]) w := by
    simp [results, hr, h1, h2, asAddr, retcell hO ha]
  have : bodyPost P fn R .ret a w := bodyPost_ret hq f.d h
  rcases hx with rfl | rfl <;> exact this
theorem ends_retCTT {P : Program} {fn : Func} {R : Ending → World → Prop} {n t ty b T u q : Nat} {E : Env} {w : World} {M : Mem} {bs : List (Nat × Obj)} {x : Exit} {vs : List Value} {v2 v3 : Value} (hO : Own w M ((b, .cells vs.toArray T) :: bs)) (ha : aggN P ty = some vs.length) (hx : x = .ret ∨ x = .normal) (hr : fn.results = #[.cell t ty, .tmp u, .tmp q])
    (e : look E t = some (.pointer (some ⟨b, 0, none⟩))) (e2 : look E u = some v2) (e3 : look E q = some v3) (h : R (.returned (.tuple #[.agg vs.toArray, v2, v3])) w) : Ends (bodyPost P fn R) x n E w := fun a f => by
  have h1 := f.l _ _ e
  have h2 := f.l _ _ e2
  have h3 := f.l _ _ e3
  have hq : (results fn a.tmps).run P w = .ok (.tuple #[.agg vs.toArray, v2, v3]) w := by
    simp [results, hr, h1, h2, h3, asAddr, retcell hO ha]
  have : bodyPost P fn R .ret a w := bodyPost_ret hq f.d h
  rcases hx with rfl | rfl <;> exact this
section
variable {P : Program} {ops : Array Oper} {Q : Exit → Act → World → Prop} {n : Nat} {E : Env} {w : World} {S : World → Prop} {d : Nat} {op : Op} {ty : TypeId} {ps : String} {af : Array Edge} {g : Option (Nat × Bool)}
theorem hg_oneU0 {i : Nat} {r : Ord} (hi : ops[i]? = some ⟨none, op, ty, ps, af, g⟩) (hg : Unmet ops E g) (hS : S w) (k : HG P ops Q S r n E w) : HG P ops Q S (.one i r) n E w := fun a f => by
  show wpOp P ops Q i _ a w
  unfold wpOp; simp only [hi]
  rw [if_neg (by rw [Unmet.wanted (o := ⟨none, op, ty, ps, af, g⟩) hg f]; exact Bool.false_ne_true)]
  exact ⟨hS, k a f⟩
theorem hg_oneY {S' : World → Prop} {i : Nat} {r : Ord} {v : Value} (hi : ops[i]? = some ⟨some d, op, ty, ps, af, g⟩) (hd : Nat.ble (d + 1) n = true) (h : Y P ops S' n E ⟨some d, op, ty, ps, af, g⟩ v) (hg : Met ops E g) (hS : S' w)
    (k : KG (fun a' w' => S w' ∧ wpOrd P ops Q S r a' w') n ((d, v) :: E) w) : HG P ops Q S (.one i r) n E w := hn' hi hg (og_y h hg hd hS k)
theorem hg_oneU1 {i : Nat} {r : Ord} (hi : ops[i]? = some ⟨some d, op, ty, ps, af, g⟩) (hd : Nat.ble (d + 1) n = true) (hg : Unmet ops E g) (hS : S w) (k : HG P ops Q S r n ((d, undef) :: E) w) : HG P ops Q S (.one i r) n E w := fun a f => by
  show wpOp P ops Q i _ a w
  unfold wpOp; simp only [hi]
  rw [if_neg (by rw [Unmet.wanted (o := ⟨some d, op, ty, ps, af, g⟩) hg f]; exact Bool.false_ne_true)]
  exact ⟨hS, k _ (f.put (Nat.le_of_ble_eq_true hd) _)⟩
end
def putS : List Value → Nat → List Value → List Value
  | l, _, [] => l
  | l, i, v :: r => putS (l.set i v) (i + 1) r
theorem putCells_toArray : ∀ (vs ls : List Value) (i : Nat), putCells ls.toArray i vs = (putS ls i vs).toArray
  | [], ls, i => rfl
  | v :: r, ls, i => by
    show putCells (ls.toArray.setIfInBounds i v) (i + 1) r = (putS (ls.set i v) (i + 1) r).toArray
    rw [show ls.toArray.setIfInBounds i v = (ls.set i v).toArray by simp]; exact putCells_toArray r _ _
theorem og_storeS {P : Program} {Q : Exit → Act → World → Prop} {n : Nat} {E : Env} {w : World} {M : Mem} {bs : List (Nat × Obj)} {K : Act → World → Prop} {ty : TypeId} {ps : String} {af : Array Edge} {g : Option (Nat × Bool)} {t b i m : Nat} {x y : Operand} {v : Value} {vs ls : List Value} {T : TypeId} (hO : Own w M ((b, .cells ls.toArray T) :: bs)) (ht : (P.info? t).map (·.size) = some m) (hc : v.cells = vs.toArray) (hm : vs.length = m) (hv : vs.all oneCell = true) (hi : i + vs.length ≤ ls.length)
    (e : ev E x = some (.pointer (some ⟨b, i, none⟩))) (e2 : ev E y = some v)
    (k : ∀ w', Own w' M ((b, .cells (putS ls i vs).toArray T) :: bs) → KG K n E w') : OG P Q ⟨none, .store t x y, ty, ps, af, g⟩ n E w K :=
  oo hO ht hc hm hv (by simpa using hi) e e2 fun w' h => k w' (by rw [← putCells_toArray]; exact h)
/-! Structs held against each other -/
section
variable {P : Program} {ops : Array Oper} {S : World → Prop} {n : Nat} {E : Env} {d : Option Nat} {ty : TypeId} {ps : String} {af : Array Edge} {g : Option (Nat × Bool)}
theorem y_neS {x y : Operand} {t u : TypeId} {vs us : List Value} {r : Bool} (hm : P.eqGuardType P.depth t = false) (h : ∀ w, (Op.equal t (.agg vs.toArray) (.agg us.toArray)).run P w = .ok r w) (hg : Met ops E g) (e1 : ev E x = some (.agg vs.toArray)) (e2 : ev E y = some (.agg us.toArray)) :
    Y P ops S n E ⟨d, .binOp .neq t x y u, ty, ps, af, g⟩ (.bool (!r)) := y_of hg fun z f w _ => by
  simp only [execOp, f.eval e1, f.eval e2, Sem.run_bind]
  have := run_binNe (P := P) (x := .agg vs.toArray) (y := .agg us.toArray) w (fun X Y => run_eqGuard_agg w .neq t X Y _ _ hm) rfl (h w) x y
  rw [Sem.run_bind] at this; rw [this]; rfl
end
theorem run_equalIn_bool {P : Program} (w : World) (k : Nat) (t : TypeId) (a b : Bool) (ht : P.underlying t = some .bool) : (Op.equalIn (k + 1) t (.bool a) (.bool b)).run P w = .ok (a == b) w := by
  unfold Op.equalIn
  simp [underlying, ht]
end Go.Proofs.YtdniefnjgkhkeaaDoor
