/-
  The logic that the proofs of this claim use: a world holds persistent memory and some blocks of the call's own; frames as lists of slots; one rule for each operation and each form of code.
  Conditions: none; every rule is proved from the model's own step rules.
-/
import Derived.Tactics
import Derived.OrdersHeld
import Derived.Laws.World
import Derived.Laws.Sem
import Derived.LoopN
namespace Go.Proofs.YtdniefnjgkhkeaaDoor
set_option linter.unusedVariables false
set_option linter.unusedSimpArgs false
open Go

/-! ### Memory -/
structure Mem where
  f : Nat → Option Obj
  u : Os × (Nat → Question → Nat) × Array (Nat × ByteArray)
instance : CoeFun Mem (fun _ => Nat → Option Obj) := ⟨Mem.f⟩
structure Mem.le (m m' : Mem) : Prop where
  f : ∀ b o, m b = some o → m' b = some o
  u : m.u = m'.u
instance {m m' : Mem} : CoeFun (Mem.le m m') (fun _ => ∀ b o, m b = some o → m' b = some o) := ⟨Mem.le.f⟩
theorem Mem.le_refl (m : Mem) : Mem.le m m := ⟨fun _ _ h => h, rfl⟩
theorem Mem.le_trans {a b c : Mem} (h : Mem.le a b) (h' : Mem.le b c) : Mem.le a c := ⟨fun x o e => h'.f x o (h.f x o e), h.u.trans h'.u⟩
def Mem.add (m : Mem) (b : Nat) (o : Obj) : Mem := ⟨fun x => if x = b then some o else m.f x, m.u⟩
theorem Mem.add_f {m : Mem} {b : Nat} {o : Obj} {x : Nat} : (m.add b o).f x = if x = b then some o else m.f x := rfl
theorem Mem.le_add {m : Mem} {b : Nat} {o : Obj} (h : m b = none) : Mem.le m (m.add b o) := ⟨fun x o' e => by
  show (m.add b o).f x = _
  rw [Mem.add_f]; by_cases hx : x = b
  · subst hx; rw [h] at e; cases e
  · rw [if_neg hx]; exact e, rfl⟩
theorem Mem.add_self {m : Mem} {b : Nat} {o : Obj} : m.add b o b = some o := by show (m.add b o).f b = _; rw [Mem.add_f, if_pos rfl]

structure Own (w : World) (M : Mem) (bs : List (Nat × Obj)) : Prop where
  sub : ∀ b o, M b = some o → w.heap[b]? = some o
  blk : ∀ p ∈ bs, w.heap[p.1]? = some p.2
  off : ∀ p ∈ bs, M p.1 = none
  nd : (bs.map (·.1)).Nodup
  u : (w.os, w.tape, w.output) = M.u

theorem Own.drawn {w : World} {M : Mem} {bs : List (Nat × Obj)} (h : Own w M bs) (n : Nat) : Own { w with drawn := n } M bs := ⟨h.sub, h.blk, h.off, h.nd, h.u⟩
theorem Own.of_heap {w w' : World} {M : Mem} {bs : List (Nat × Obj)} (h : Own w M bs) (e : w'.heap = w.heap) (eu : (w'.os, w'.tape, w'.output) = (w.os, w.tape, w.output)) : Own w' M bs :=
  ⟨fun b o x => e ▸ h.sub b o x, fun p x => e ▸ h.blk p x, h.off, h.nd, eu.trans h.u⟩
theorem Own.lt {w : World} {M : Mem} {bs : List (Nat × Obj)} (h : Own w M bs) {b : Nat} {o : Obj} (e : M b = some o) : b < w.heap.size :=
  (Array.getElem?_eq_some_iff.1 (h.sub b o e)).1
theorem Own.new {w : World} {M : Mem} {bs : List (Nat × Obj)} (h : Own w M bs) (o : Obj) : Own (w.alloc o) M ((w.heap.size, o) :: bs) := by
  have hn : M w.heap.size = none := by
    cases e : M w.heap.size with
    | none => rfl
    | some o' => exact absurd (h.lt e) (Nat.lt_irrefl _)
  have hlt : ∀ p ∈ bs, p.1 < w.heap.size := fun p hp => (Array.getElem?_eq_some_iff.1 (h.blk p hp)).1
  refine ⟨fun b o' e => ?_, fun p hp => ?_, fun p hp => ?_, ?_, h.u⟩
  · have := h.lt e
    show (w.heap.push o)[b]? = some o'; rw [Array.getElem?_push, if_neg (Nat.ne_of_lt this)]; exact h.sub b o' e
  · rcases List.mem_cons.1 hp with rfl | hp
    · show (w.heap.push o)[w.heap.size]? = some o; simp
    · show (w.heap.push o)[p.1]? = some p.2; rw [Array.getElem?_push, if_neg (Nat.ne_of_lt (hlt p hp))]; exact h.blk p hp
  · rcases List.mem_cons.1 hp with rfl | hp
    · exact hn
    · exact h.off p hp
  · rw [List.map_cons, List.nodup_cons]
    refine ⟨fun hm => ?_, h.nd⟩
    obtain ⟨p, hp, e⟩ := List.mem_map.1 hm
    have h1 := hlt p hp; simp only at e; omega
theorem Own.perm {w : World} {M : Mem} {bs bs' : List (Nat × Obj)} (h : Own w M bs) (p : bs.Perm bs') : Own w M bs' :=
  ⟨h.sub, fun x hx => h.blk x (p.mem_iff.2 hx), fun x hx => h.off x (p.mem_iff.2 hx), ((p.map _).nodup_iff).1 h.nd, h.u⟩
theorem Own.tail {w : World} {M : Mem} {x : Nat × Obj} {bs : List (Nat × Obj)} (h : Own w M (x :: bs)) : Own w M bs :=
  ⟨h.sub, fun p hp => h.blk p (List.mem_cons_of_mem _ hp), fun p hp => h.off p (List.mem_cons_of_mem _ hp), by have := h.nd; rw [List.map_cons, List.nodup_cons] at this; exact this.2, h.u⟩
theorem Own.sublist {w : World} {M : Mem} {bs bs' : List (Nat × Obj)} (h : Own w M bs) (s : List.Sublist bs' bs) : Own w M bs' :=
  ⟨h.sub, fun p hp => h.blk p (s.subset hp), fun p hp => h.off p (s.subset hp), h.nd.sublist (s.map _), h.u⟩
theorem Own.less {w : World} {M M' : Mem} {bs : List (Nat × Obj)} (h : Own w M' bs) (le : Mem.le M M') : Own w M bs :=
  ⟨fun b o e => h.sub b o (le b o e), h.blk, (fun p hp => by
    cases e : M p.1 with
    | none => rfl
    | some o => have := le _ _ e; rw [h.off p hp] at this; cases this), h.nd, h.u.trans le.u.symm⟩
/-- A block of the call's own is kept from now on. -/
theorem Own.keep {w : World} {M : Mem} {b : Nat} {o : Obj} {bs : List (Nat × Obj)} (h : Own w M ((b, o) :: bs)) : Own w (M.add b o) bs := by
  have hnd : b ∉ bs.map (·.1) := by have := h.nd; rw [List.map_cons, List.nodup_cons] at this; exact this.1
  refine ⟨fun x o' e => ?_, h.tail.blk, fun p hp => ?_, h.tail.nd, h.u⟩
  · rw [Mem.add_f] at e
    by_cases hx : x = b
    · subst hx; rw [if_pos rfl] at e; cases e; exact h.blk _ (List.mem_cons_self ..)
    · rw [if_neg hx] at e; exact h.sub x o' e
  · rw [Mem.add_f]
    rw [if_neg (fun e => hnd (List.mem_map.2 ⟨p, hp, e⟩))]; exact h.tail.off p hp
theorem Own.le_keep {w : World} {M : Mem} {b : Nat} {o : Obj} {bs : List (Nat × Obj)} (h : Own w M ((b, o) :: bs)) : Mem.le M (M.add b o) := Mem.le_add (h.off _ (List.mem_cons_self ..))

theorem Own.get {w : World} {M : Mem} {bs : List (Nat × Obj)} (h : Own w M bs) (k : Nat) {b : Nat} {o : Obj} (e : bs[k]? = some (b, o)) : w.heap[b]? = some o :=
  h.blk _ (List.mem_of_getElem? e)
theorem Own.put {w : World} {M : Mem} {bs : List (Nat × Obj)} (h : Own w M bs) (k : Nat) {b i : Nat} {c : Array Value} {T : TypeId} (e : bs[k]? = some (b, .cells c T)) (v : Value) :
    Own (w.setCell ⟨b, i, none⟩ v) M (bs.set k (b, .cells (c.setIfInBounds i v) T)) := by
  have hk : k < bs.length := (List.getElem?_eq_some_iff.1 e).1
  have hbk : bs[k] = (b, .cells c T) := (List.getElem?_eq_some_iff.1 e).2
  have hset : (w.setCell ⟨b, i, none⟩ v).heap[b]? = some (.cells (c.setIfInBounds i v) T) := by
    have := h.get k e
    simp [World.setCell, Array.getElem?_modify, this]
  have hother : ∀ x, x ≠ b → (w.setCell ⟨b, i, none⟩ v).heap[x]? = w.heap[x]? := fun x hx => by
    simp only [World.setCell, Array.getElem?_modify]; rw [if_neg (Ne.symm hx)]
  have hmap : (bs.set k (b, Obj.cells (c.setIfInBounds i v) T)).map (·.1) = bs.map (·.1) := by
    rw [List.map_set]
    apply List.ext_getElem?
    intro j
    by_cases hj : k = j
    · subst hj; simp [hk, hbk]
    · simp [List.getElem?_set_ne hj]
  have hoff := h.off _ (List.mem_of_getElem? e)
  have hmem : ∀ p ∈ bs.set k (b, Obj.cells (c.setIfInBounds i v) T), p = (b, Obj.cells (c.setIfInBounds i v) T) ∨ (p ∈ bs ∧ p.1 ≠ b) := by
    intro p hp
    obtain ⟨j, hj, hjp⟩ := List.mem_iff_getElem.1 hp
    by_cases hjk : k = j
    · subst hjk; left; simpa using hjp.symm
    · right
      have hj' : j < bs.length := by simpa using hj
      have hp' : bs[j] = p := by simpa [List.getElem_set_ne hjk] using hjp
      refine ⟨hp' ▸ List.getElem_mem hj', fun eb => hjk ?_⟩
      have h1 : (bs.map (·.1))[k]'(by simpa using hk) = (bs.map (·.1))[j]'(by simpa using hj') := by simp [hbk, hp', eb]
      exact (List.getElem_inj h.nd).1 h1
  refine ⟨fun x o hx => ?_, fun p hp => ?_, fun p hp => ?_, by rw [hmap]; exact h.nd, h.u⟩
  · rw [hother x (fun e' => by subst e'; rw [hoff] at hx; cases hx)]; exact h.sub x o hx
  · rcases hmem p hp with rfl | ⟨hp', hne⟩
    · exact hset
    · rw [hother _ hne]; exact h.blk p hp'
  · rcases hmem p hp with rfl | ⟨hp', _⟩
    · exact hoff
    · exact h.off p hp'

/-! ### Cells -/
/-- From address p on the cells vs stand in memory M. -/
def At (M : Mem) (p : Addr) (vs : List Value) : Prop :=
  p.spot = none ∧ ∃ c T f, M p.block = some (.cells c T f) ∧ ∀ j v, vs[j]? = some v → c[p.off + j]? = some v
theorem At.mono {M M' : Mem} {p : Addr} {vs : List Value} (h : At M p vs) (le : Mem.le M M') : At M' p vs :=
  ⟨h.1, let ⟨c, T, f, e, r⟩ := h.2; ⟨c, T, f, le _ _ e, r⟩⟩
theorem Addr.add_eq (p : Addr) (k : Nat) (h : p.spot = none) : p.add k = ⟨p.block, p.off + k, none⟩ := by
  unfold Addr.add; cases p; simp at h; subst h; split <;> simp_all
theorem At.cell {M : Mem} {p : Addr} {vs : List Value} {w : World} {bs : List (Nat × Obj)} (h : At M p vs) (o : Own w M bs) (j : Nat) {v : Value} (e : vs[j]? = some v) : w.cell? (p.add j) = some v := by
  obtain ⟨hs, c, T, f, hM, hc⟩ := h
  rw [Addr.add_eq p j hs]
  simp [World.cell?, o.sub _ _ hM, hc j v e]
theorem At.drop {M : Mem} {p : Addr} {vs : List Value} (h : At M p vs) (k : Nat) : At M (p.add k) (vs.drop k) := by
  obtain ⟨hs, c, T, f, hM, hc⟩ := h
  rw [Addr.add_eq p k hs]
  exact ⟨rfl, c, T, f, hM, fun j v e => by rw [List.getElem?_drop] at e; have := hc _ _ e; rwa [← Nat.add_assoc] at this⟩
theorem At.take {M : Mem} {p : Addr} {vs : List Value} (h : At M p vs) (k : Nat) : At M p (vs.take k) := by
  obtain ⟨hs, c, T, f, hM, hc⟩ := h
  refine ⟨hs, c, T, f, hM, fun j v e => hc j v ?_⟩
  rw [List.getElem?_take] at e; split at e
  · exact e
  · cases e

theorem At.cell0 {M : Mem} {p : Addr} {vs : List Value} {w : World} {bs : List (Nat × Obj)} (h : At M p vs) (o : Own w M bs) {v : Value} (e : vs[0]? = some v) : w.cell? p = some v := by
  have := h.cell o 0 e; rwa [show p.add 0 = p from by simp [Addr.add]] at this
theorem Own.cellB {w : World} {M : Mem} {bs : List (Nat × Obj)} (h : Own w M bs) (k i : Nat) {b : Nat} {c : Array Value} {T : TypeId} {v : Value} (e : bs[k]? = some (b, .cells c T)) (ec : c[i]? = some v) : w.cell? ⟨b, i, none⟩ = some v := by
  simp [World.cell?, h.get k e, ec]
theorem Own.cellsB {w : World} {M : Mem} {bs : List (Nat × Obj)} (h : Own w M bs) (k i : Nat) {b : Nat} {c : Array Value} {T : TypeId} {vs : List Value} (e : bs[k]? = some (b, .cells c T)) (ec : ∀ j v, vs[j]? = some v → c[i + j]? = some v) :
    ∀ j v, vs[j]? = some v → w.cell? ((⟨b, i, none⟩ : Addr).add j) = some v := fun j v x => by
  rw [Addr.add_eq _ _ rfl]; exact h.cellB k (i + j) e (ec j v x)
theorem rowCells {c : Array Value} {i j : Nat} {vs : List Value} {v : Value} (h : (c.toList.drop i).take vs.length = vs) (e : vs[j]? = some v) : c[i + j]? = some v := by
  rw [← h, List.getElem?_take] at e
  split at e
  · rw [List.getElem?_drop] at e; simpa using e
  · cases e
theorem Own.drop {w : World} {M : Mem} {bs : List (Nat × Obj)} (h : Own w M bs) (k : Nat) : Own w M (bs.drop k) := h.sublist (List.drop_sublist ..)

/-! ### Frames -/
abbrev Env := List (Nat × Value)
def look : Env → Nat → Option Value
  | [], _ => none
  | (k, v) :: r, t => match Nat.beq k t with | true => some v | false => look r t
def ev (E : Env) : Operand → Option Value
  | .tmp t => look E t
  | .const v => some v
  | .global g => some (.pointer (some ⟨g, 0, none⟩))
  | .func f => some (.func (.func f) #[] #[])
def evs (E : Env) : List Operand → Option (List Value)
  | [] => some []
  | x :: r => match ev E x, evs E r with | some v, some vs => some (v :: vs) | _, _ => none
structure Fits (n : Nat) (E : Env) (a : Act) : Prop where
  d : a.defers = []
  s : a.tmps.size = n
  l : ∀ t v, look E t = some v → a.tmps[t]? = some v
theorem look_cons_self (k : Nat) (v : Value) (r : Env) : look ((k, v) :: r) k = some v := by
  show (match Nat.beq k k with | true => some v | false => look r k) = some v
  rw [show Nat.beq k k = true from Nat.beq_refl k]
theorem look_cons_ne {k t : Nat} (v : Value) (r : Env) (h : k ≠ t) : look ((k, v) :: r) t = look r t := by
  have : Nat.beq k t = false := by
    cases e : Nat.beq k t with
    | false => rfl
    | true => exact absurd (Nat.eq_of_beq_eq_true e) h
  show (match Nat.beq k t with | true => some v | false => look r t) = look r t
  rw [this]
theorem Fits.eval {n : Nat} {E : Env} {a : Act} (h : Fits n E a) {x : Operand} {v : Value} (e : ev E x = some v) : a.eval x = v := by
  cases x with
  | tmp t => have := h.l t v e; simp [Act.eval, this]
  | const u => simpa [ev, Act.eval] using e
  | global g => simpa [ev, Act.eval] using e
  | func f => simpa [ev, Act.eval] using e
theorem Fits.evals {n : Nat} {E : Env} {a : Act} (h : Fits n E a) : ∀ {xs : List Operand} {vs : List Value}, evs E xs = some vs → xs.map a.eval = vs
  | [], _, e => by simpa [evs] using e
  | x :: r, vs, e => by
    unfold evs at e
    split at e
    · rename_i v us h1 h2; simp at e; subst e; simp [h.eval h1, Fits.evals h h2]
    · cases e
theorem Fits.put {n : Nat} {E : Env} {a : Act} (h : Fits n E a) {d : Nat} (hd : d < n) (v : Value) : Fits n ((d, v) :: E) (a.put (some d) v) := by
  refine ⟨h.d, by simp [Act.put, h.s], fun t u e => ?_⟩
  by_cases ht : d = t
  · subst ht
    rw [look_cons_self] at e; cases e
    simp [Act.put, h.s, hd]
  · rw [look_cons_ne v E ht] at e
    simp only [Act.put]
    rw [Array.getElem?_setIfInBounds_ne ht]; exact h.l t u e
/-- The slots of E' hold in E what E' says. -/
def Sub : Env → Env → Prop
  | [], _ => True
  | (t, v) :: r, E => look E t = some v ∧ Sub r E
theorem Sub.look {E' E : Env} (h : Sub E' E) : ∀ {t : Nat} {v : Value}, Go.Proofs.YtdniefnjgkhkeaaDoor.look E' t = some v → Go.Proofs.YtdniefnjgkhkeaaDoor.look E t = some v := by
  induction E' with
  | nil => intro t v e; cases e
  | cons x r ih =>
    obtain ⟨k, u⟩ := x
    intro t v e
    by_cases ht : k = t
    · subst ht; rw [look_cons_self] at e; cases e; exact h.1
    · rw [look_cons_ne u r ht] at e; exact ih h.2 e
theorem Fits.sub {n : Nat} {E E' : Env} {a : Act} (h : Fits n E a) (s : Sub E' E) : Fits n E' a := ⟨h.d, h.s, fun _ _ e => h.l _ _ (s.look e)⟩

/-! ### Operations that leave the world alone -/
/-- In every frame that fits E and every world that meets S, operation o yields v and does nothing else. -/
def Y (P : Program) (ops : Array Oper) (S : World → Prop) (n : Nat) (E : Env) (o : Oper) (v : Value) : Prop := ∀ a, Fits n E a → YieldsIf P ops S o v a
/-- The guard of an operation is met. -/
def Met (ops : Array Oper) (E : Env) : Option (Nat × Bool) → Prop
  | none => True
  | some (j, b) => match (ops[j]?).bind (·.dst) with | some t => look E t = some (.bool b) | none => False
/-- It is not. -/
def Unmet (ops : Array Oper) (E : Env) : Option (Nat × Bool) → Prop
  | none => False
  | some (j, b) => match (ops[j]?).bind (·.dst) with | some t => look E t = some (.bool !b) | none => False
theorem Met.wanted {ops : Array Oper} {n : Nat} {E : Env} {a : Act} {o : Oper} (h : Met ops E o.guard) (f : Fits n E a) : Region.wanted o (yielded ops a.tmps) = true := by
  unfold Region.wanted
  split
  · rfl
  · rename_i j b hg
    rw [hg] at h
    simp only [Met] at h
    unfold yielded
    cases ht : (ops[j]?).bind (·.dst) with
    | none => rw [ht] at h; exact h.elim
    | some t => rw [ht] at h; have := f.l _ _ h; simp [this]
theorem Unmet.wanted {ops : Array Oper} {n : Nat} {E : Env} {a : Act} {o : Oper} (h : Unmet ops E o.guard) (f : Fits n E a) : Region.wanted o (yielded ops a.tmps) = false := by
  unfold Region.wanted
  split
  · rename_i hg; rw [hg] at h; exact h.elim
  · rename_i j b hg
    rw [hg] at h
    simp only [Unmet] at h
    unfold yielded
    cases ht : (ops[j]?).bind (·.dst) with
    | none => rw [ht] at h; exact h.elim
    | some t => rw [ht] at h; have := f.l _ _ h; simp [this]
section ys
variable {P : Program} {ops : Array Oper} {S : World → Prop} {n : Nat} {E : Env} {d : Option Tmp} {ty : TypeId} {ps : String} {af : Array Edge} {g : Option (Nat × Bool)}
theorem y_of {op : Op} {v : Value} (hg : Met ops E g) (h : ∀ a, Fits n E a → ∀ w, S w → (execOp a.eval ⟨d, op, ty, ps, af, g⟩).run P w = .ok (.value v) w) :
    Y P ops S n E ⟨d, op, ty, ps, af, g⟩ v := fun a f => .inl ⟨Met.wanted (o := ⟨d, op, ty, ps, af, g⟩) hg f, h a f⟩
theorem ek {op : Op} (hg : Unmet ops E g) : Y P ops S n E ⟨d, op, ty, ps, af, g⟩ undef := fun _ f => .inr ⟨Unmet.wanted (o := ⟨d, op, ty, ps, af, g⟩) hg f, rfl⟩
theorem ym {x : Operand} {v : Value} (hg : Met ops E g) (e : ev E x = some v) : Y P ops S n E ⟨d, .move x, ty, ps, af, g⟩ v :=
  y_of hg fun a f w _ => by simp [execOp, f.eval e]
theorem y_assign {x : Operand} {v : Value} (hg : Met ops E g) (e : ev E x = some v) : Y P ops S n E ⟨d, .assign x, ty, ps, af, g⟩ v :=
  y_of hg fun a f w _ => by simp [execOp, f.eval e]
theorem pt {c x y : Operand} {v : Value} (hg : Met ops E g) (hc : ev E c = some (.bool true)) (e : ev E x = some v) : Y P ops S n E ⟨d, .pick c x y, ty, ps, af, g⟩ v :=
  y_of hg fun a f w _ => by simp [execOp, f.eval e, f.eval hc, asBool]
theorem pf {c x y : Operand} {v : Value} (hg : Met ops E g) (hc : ev E c = some (.bool false)) (e : ev E y = some v) : Y P ops S n E ⟨d, .pick c x y, ty, ps, af, g⟩ v :=
  y_of hg fun a f w _ => by simp [execOp, f.eval e, f.eval hc, asBool]
theorem yn {x : Operand} {p : Addr} (hg : Met ops E g) (e : ev E x = some (.pointer (some p))) : Y P ops S n E ⟨d, .nilCheck x, ty, ps, af, g⟩ (.pointer (some p)) :=
  y_of hg fun a f w _ => by simp [execOp, f.eval e]
theorem yt {x : Operand} {t : TypeId} {b : Bool} (hg : Met ops E g) (e : ev E x = some (.bool b)) : Y P ops S n E ⟨d, .unOp .not t x, ty, ps, af, g⟩ (.bool (!b)) :=
  y_of hg fun a f w _ => by simp [execOp, f.eval e, Op.unary]

/-! Facts on types, each a closed equation -/
def fOff (P : Program) (t j : Nat) : Option Nat :=
  match P.underlying t with
  | some (.struct fs) => match fs[j]? with | some f => (match P.info? f.type with | some i => if i.size = 0 then none else some f.offset | none => none) | none => none
  | _ => none
def lone1 (P : Program) (t : Nat) : Bool := match P.underlying t with | some (.struct _) | some (.array _ _) | none => false | some _ => true
def aggN (P : Program) (t : Nat) : Option Nat := match P.underlying t with | some (.struct _) | some (.array _ _) => (P.info? t).map (·.size) | _ => none
def slEl (P : Program) (t : Nat) : Option Nat := match P.underlying t with | some (.slice e) => (P.info? e).map (·.size) | _ => none
def zeroOf (P : Program) (t : Nat) : Option Value := (P.info? t).bind (·.zero)
theorem run_isAgg_lone {t : Nat} (h : lone1 P t = true) (w : World) : (isAgg t).run P w = .ok false w := by
  unfold lone1 at h
  simp only [isAgg, underlying, Sem.run_bind, run_program, Result.andThen_ok]
  cases hu : P.underlying t with
  | none => rw [hu] at h; cases h
  | some x => rw [hu] at h; cases x <;> simp_all
theorem run_isAgg_agg {t k : Nat} (h : aggN P t = some k) (w : World) : (isAgg t).run P w = .ok true w ∧ (sizeOf t).run P w = .ok k w := by
  unfold aggN at h
  simp only [isAgg, underlying, sizeOf, typeInfo, Sem.run_bind, run_program, Result.andThen_ok]
  cases hu : P.underlying t with
  | none => rw [hu] at h; cases h
  | some x =>
    rw [hu] at h
    cases x <;> simp at h
    all_goals
      obtain ⟨i, hi, rfl⟩ := h
      simp [hi]
theorem ya {t j k : Nat} {x : Operand} {p : Addr} (hf : fOff P t j = some k) (hg : Met ops E g) (e : ev E x = some (.pointer (some p))) :
    Y P ops S n E ⟨d, .fieldAddr t x j, ty, ps, af, g⟩ (.pointer (some (p.add k))) := y_of hg fun a f w _ => by
  unfold fOff at hf
  split at hf
  · rename_i fs hu
    cases hj : fs[j]? with
    | none => rw [hj] at hf; cases hf
    | some fl =>
      rw [hj] at hf
      simp only at hf
      cases hi : P.info? fl.type with
      | none => rw [hi] at hf; cases hf
      | some i =>
        rw [hi] at hf
        simp only at hf
        split at hf
        · cases hf
        · rename_i hs
          cases hf
          simp [execOp, f.eval e, Instr.fieldAt, underlying, hu, hj, Instr.sureAddr, fieldPlace, sizeOf, typeInfo, hi, hs]
  · cases hf
theorem yf {t j k b i : Nat} {x : Operand} (i' : Nat) (hf : fOff P t j = some k) (hi : i + k = i') (hg : Met ops E g) (e : ev E x = some (.pointer (some ⟨b, i, none⟩))) :
    Y P ops S n E ⟨d, .fieldAddr t x j, ty, ps, af, g⟩ (.pointer (some ⟨b, i', none⟩)) := by
  have := ya (P := P) (ops := ops) (S := S) (n := n) (d := d) (ty := ty) (ps := ps) (af := af) hf hg e
  rw [Addr.add_eq _ _ rfl] at this
  subst hi; exact this
theorem yl {t : Nat} {x : Operand} {q : Addr} {v : Value} (ht : lone1 P t = true) (hg : Met ops E g) (e : ev E x = some (.pointer (some q))) (h : ∀ w, S w → w.cell? q = some v) :
    Y P ops S n E ⟨d, .load t x, ty, ps, af, g⟩ v := y_of hg fun a f w hS => by
  simp [execOp, f.eval e, Instr.loadAt, Instr.sureAddr, loadVar, run_isAgg_lone ht, h w hS]
theorem run_loadCells (P : Program) (w : World) (p : Addr) : ∀ (vs : List Value) (i : Nat) (acc : Array Value),
    (∀ j v, vs[j]? = some v → w.cell? (p.add (i + j)) = some v) → (loadCellsFrom p i vs.length acc).run P w = .ok (acc ++ vs.toArray) w
  | [], i, acc, _ => by simp [loadCellsFrom]
  | v :: r, i, acc, h => by
    have h0 := h 0 v rfl
    have ih := run_loadCells P w p r (i + 1) (acc.push v) (fun j u e => by have := h (j + 1) u (by simpa using e); rwa [show i + (j + 1) = i + 1 + j by omega] at this)
    simp only [List.length_cons, loadCellsFrom, Sem.run_bind, run_load]
    rw [show i + 0 = i from rfl] at h0
    rw [h0]; simp only [Result.andThen_ok]; rw [ih]; simp
theorem yq {t k : Nat} {x : Operand} {q : Addr} (vs : List Value) (ht : aggN P t = some k) (hk : vs.length = k) (hg : Met ops E g) (e : ev E x = some (.pointer (some q)))
    (h : ∀ w, S w → ∀ j v, vs[j]? = some v → w.cell? (q.add j) = some v) : Y P ops S n E ⟨d, .load t x, ty, ps, af, g⟩ (.agg vs.toArray) := y_of hg fun a f w hS => by
  have h1 := run_isAgg_agg ht w
  have h2 := run_loadCells P w q vs 0 #[] (fun j v e => by rw [Nat.zero_add]; exact h w hS j v e)
  subst hk
  simp [execOp, f.eval e, Instr.loadAt, Instr.sureAddr, loadVar, h1.1, h1.2, loadCells, h2]
section ints
variable {k : IntKind} {x y : Operand} {t u : TypeId} {a b : Int} (hg : Met ops E g) (e1 : ev E x = some (.int k a)) (e2 : ev E y = some (.int k b))
include hg e1 e2
theorem ye : Y P ops S n E ⟨d, .binOp .eql t x y u, ty, ps, af, g⟩ (.bool (decide (a = b))) := y_of hg fun c f w _ => by
  simp [execOp, f.eval e1, f.eval e2, eqGuard, binOp, Op.intCmp]; rfl
theorem y_ne : Y P ops S n E ⟨d, .binOp .neq t x y u, ty, ps, af, g⟩ (.bool (!decide (a = b))) := y_of hg fun c f w _ => by
  simp [execOp, f.eval e1, f.eval e2, eqGuard, binOp, Op.intCmp]; rfl
theorem yv : Y P ops S n E ⟨d, .binOp .lss t x y u, ty, ps, af, g⟩ (.bool (decide (a < b))) := y_of hg fun c f w _ => by
  simp [execOp, f.eval e1, f.eval e2, eqGuard, binOp, Op.intCmp]
theorem y_le : Y P ops S n E ⟨d, .binOp .leq t x y u, ty, ps, af, g⟩ (.bool (decide (a ≤ b))) := y_of hg fun c f w _ => by
  simp [execOp, f.eval e1, f.eval e2, eqGuard, binOp, Op.intCmp]
theorem y_gt : Y P ops S n E ⟨d, .binOp .gtr t x y u, ty, ps, af, g⟩ (.bool (decide (b < a))) := y_of hg fun c f w _ => by
  simp [execOp, f.eval e1, f.eval e2, eqGuard, binOp, Op.intCmp]
theorem y_ge : Y P ops S n E ⟨d, .binOp .geq t x y u, ty, ps, af, g⟩ (.bool (decide (b ≤ a))) := y_of hg fun c f w _ => by
  simp [execOp, f.eval e1, f.eval e2, eqGuard, binOp, Op.intCmp]
theorem y_add0 {z : Int} (hz : k.wrap (a + b) = z) : Y P ops S n E ⟨d, .binOp .add t x y u, ty, ps, af, g⟩ (.int k z) := y_of hg fun c f w _ => by
  simp [execOp, f.eval e1, f.eval e2, eqGuard, binOp, Op.intArith, hz]
theorem y_sub0 {z : Int} (hz : k.wrap (a - b) = z) : Y P ops S n E ⟨d, .binOp .sub t x y u, ty, ps, af, g⟩ (.int k z) := y_of hg fun c f w _ => by
  simp [execOp, f.eval e1, f.eval e2, eqGuard, binOp, Op.intArith, hz]
theorem y_mul0 {z : Int} (hz : k.wrap (a * b) = z) : Y P ops S n E ⟨d, .binOp .mul t x y u, ty, ps, af, g⟩ (.int k z) := y_of hg fun c f w _ => by
  simp [execOp, f.eval e1, f.eval e2, eqGuard, binOp, Op.intArith, hz]
end ints
theorem y_add {k : IntKind} {x y : Operand} {t u : TypeId} {a b : Int} (z : Int) (hg : Met ops E g) (e1 : ev E x = some (.int k a)) (e2 : ev E y = some (.int k b)) (hz : k.wrap (a + b) = z) : Y P ops S n E ⟨d, .binOp .add t x y u, ty, ps, af, g⟩ (.int k z) := y_add0 hg e1 e2 hz
theorem y_sub {k : IntKind} {x y : Operand} {t u : TypeId} {a b : Int} (z : Int) (hg : Met ops E g) (e1 : ev E x = some (.int k a)) (e2 : ev E y = some (.int k b)) (hz : k.wrap (a - b) = z) : Y P ops S n E ⟨d, .binOp .sub t x y u, ty, ps, af, g⟩ (.int k z) := y_sub0 hg e1 e2 hz
theorem y_mul {k : IntKind} {x y : Operand} {t u : TypeId} {a b : Int} (z : Int) (hg : Met ops E g) (e1 : ev E x = some (.int k a)) (e2 : ev E y = some (.int k b)) (hz : k.wrap (a * b) = z) : Y P ops S n E ⟨d, .binOp .mul t x y u, ty, ps, af, g⟩ (.int k z) := y_mul0 hg e1 e2 hz
theorem y_and {k : IntKind} {x y : Operand} {t u : TypeId} {a b : Int} (z : Int) (hg : Met ops E g) (e1 : ev E x = some (.int k a)) (e2 : ev E y = some (.int k b)) (hz : k.wrap ((BitVec.ofInt k.bits a &&& BitVec.ofInt k.bits b).toNat : Int) = z) :
    Y P ops S n E ⟨d, .binOp .and t x y u, ty, ps, af, g⟩ (.int k z) := y_of hg fun c f w _ => by
  have hb : (Op.intBits .and k a b).run P w = .ok (.int k z) w := by rw [← hz]; rfl
  simp only [execOp, f.eval e1, f.eval e2, Sem.run_bind]
  have : (eqGuard .and t x y (.int k a) (.int k b)).run P w = .ok () w := rfl
  rw [this]
  have h2 : binOp .and t (.int k a) (.int k b) = Op.intBits .and k a b := by unfold binOp; simp
  rw [h2]; simp only [Result.andThen_ok, hb]; rfl
theorem y_shr {k k' : IntKind} {x y : Operand} {t u : TypeId} {a b : Int} (z : Int) (hg : Met ops E g) (e1 : ev E x = some (.int k a)) (e2 : ev E y = some (.int k' b)) (h0 : 0 ≤ b) (hz : a.fdiv (2 ^ (min b.toNat k.bits)) = z) :
    Y P ops S n E ⟨d, .binOp .shr t x y u, ty, ps, af, g⟩ (.int k z) := y_of hg fun c f w _ => by
  have : ¬ b < 0 := by omega
  simp [execOp, f.eval e1, f.eval e2, eqGuard, binOp, Op.shift, this, hz]
theorem wd {x : Int} (h0 : -9223372036854775808 ≤ x) (h1 : x ≤ 9223372036854775807) : IntKind.i64.wrap x = x := by
  simp only [IntKind.wrap, IntKind.bits, IntKind.signed]
  simp only [Bool.true_and]
  split
  · rename_i h; simp at h; omega
  · rename_i h; simp at h; omega
theorem y_len {x : Operand} {t m l c : Nat} {p : Option Addr} (ht : slEl P t = some m) (hg : Met ops E g) (e : ev E x = some (.slice p l c)) :
    Y P ops S n E ⟨d, .call { callee := .builtin .len, args := #[x], argTypes := #[t] }, ty, ps, af, g⟩ (.int .i64 l) := y_of hg fun a f w _ => by
  unfold slEl at ht
  split at ht
  · rename_i hu
    simp [execOp, resolve, invoke, builtin, Builtin.len_, f.eval e, underlying, hu, goInt]
  · cases ht
theorem yx {x : Operand} {v : Value} {j : Nat} (vs : List Value) (hv : vs[j]? = some v) (hg : Met ops E g) (e : ev E x = some (.tuple vs.toArray)) :
    Y P ops S n E ⟨d, .extract x j, ty, ps, af, g⟩ v := y_of hg fun a f w _ => by
  simp [execOp, f.eval e, Instr.extract, hv]
theorem yi {x i : Operand} {t m l c : Nat} {p : Addr} {z : Int} (ht : slEl P t = some m) (hg : Met ops E g) (e : ev E x = some (.slice (some p) l c)) (ei : ev E i = some (.int .i64 z))
    (h0 : 0 ≤ z) (h1 : z < l) : Y P ops S n E ⟨d, .indexAddr t x i, ty, ps, af, g⟩ (.pointer (some (p.add (z.toNat * m)))) := y_of hg fun a f w _ => by
  unfold slEl at ht
  split at ht
  · rename_i el hu
    cases hi : P.info? el with
    | none => rw [hi] at ht; cases ht
    | some inf =>
      rw [hi] at ht; cases ht
      simp [execOp, f.eval e, f.eval ei, Instr.indexAt, asIntOf, underlying, hu, sizeOf, typeInfo, hi, h0, h1]
  · cases ht
theorem y_convInt {x : Operand} {s t : Nat} {k k' : IntKind} {a : Int} (z : Int) (ht : P.underlying t = some (.int k)) (hs : P.underlying s = some (.int k')) (hz : k.wrap a = z) (hg : Met ops E g) (e : ev E x = some (.int k' a)) :
    Y P ops S n E ⟨d, .convert s t x, ty, ps, af, g⟩ (.int k z) := y_of hg fun c f w _ => by
  simp [execOp, f.eval e, convert, underlying, ht, hs, Conv.intToInt, hz]
/-- An operation of which one shows by hand what its entry does. -/
theorem y_build {t : Nat} {parts : Array (Nat × Operand)} (vs : List Value) (v : Value) (hg : Met ops E g) (e : evs E (parts.toList.map (·.2)) = some vs)
    (h : ∀ w, (Instr.build t (List.zip (parts.toList.map (·.1)) vs).toArray).run P w = .ok v w) : Y P ops S n E ⟨d, .build t parts, ty, ps, af, g⟩ v := y_of hg fun a f w _ => by
  have hp : (parts.map fun (i, x) => (i, a.eval x)) = (List.zip (parts.toList.map (·.1)) vs).toArray := by
    have := f.evals e
    rw [← this]
    apply Array.ext'
    simp only [Array.toList_map, List.map_map, List.zip_eq_zipWith]
    simp [Function.comp_def, List.zipWith_self]
  simp only [execOp, Sem.run_bind]
  rw [hp, h w]; simp
theorem y_not' {x : Operand} {t : TypeId} {b c : Bool} (hg : Met ops E g) (e : ev E x = some (.bool b)) (hc : (!b) = c) : Y P ops S n E ⟨d, .unOp .not t x, ty, ps, af, g⟩ (.bool c) := by
  subst hc; exact yt hg e
theorem y_indexN {x i : Operand} {t m l c : Nat} {p : Addr} (k : Nat) (ht : slEl P t = some m) (hg : Met ops E g) (e : ev E x = some (.slice (some p) l c)) (ei : ev E i = some (.int .i64 (k : Int)))
    (h1 : k < l) : Y P ops S n E ⟨d, .indexAddr t x i, ty, ps, af, g⟩ (.pointer (some (p.add (k * m)))) := by
  have := yi (P := P) (ops := ops) (S := S) (n := n) (d := d) (ty := ty) (ps := ps) (af := af) ht hg e ei (Int.natCast_nonneg k) (by omega)
  simpa using this
theorem run_binEq {t : TypeId} {x y : Value} {r : Bool} (w : World) (h1 : ∀ X Y : Operand, (eqGuard .eql t X Y x y).run P w = .ok () w) (h2 : binOp .eql t x y = (do pure (.bool (← Op.equal t x y)))) (h : (Op.equal t x y).run P w = .ok r w) (X Y : Operand) :
    ((do eqGuard .eql t X Y x y; binOp .eql t x y) : Sem Value).run P w = .ok (.bool r) w := by
  rw [Sem.run_bind, h1 X Y, h2]
  simp only [Result.andThen_ok, Sem.run_bind, h, Sem.run_pure]
theorem run_binNe {t : TypeId} {x y : Value} {r : Bool} (w : World) (h1 : ∀ X Y : Operand, (eqGuard .neq t X Y x y).run P w = .ok () w) (h2 : binOp .neq t x y = (do pure (.bool (!(← Op.equal t x y))))) (h : (Op.equal t x y).run P w = .ok r w) (X Y : Operand) :
    ((do eqGuard .neq t X Y x y; binOp .neq t x y) : Sem Value).run P w = .ok (.bool (!r)) w := by
  rw [Sem.run_bind, h1 X Y, h2]
  simp only [Result.andThen_ok, Sem.run_bind, h, Sem.run_pure]
theorem run_equal_bool {t : TypeId} {a b : Bool} (ht : P.underlying t = some .bool) (w : World) : (Op.equal t (.bool a) (.bool b)).run P w = .ok (a == b) w := by
  show (Op.equalIn (9999 + 1) t (.bool a) (.bool b)).run P w = _
  unfold Op.equalIn
  simp [underlying, ht]
theorem run_equal_nil {t m l c l' c' : Nat} {a : Option Addr} (ht : slEl P t = some m) (w : World) : (Op.equal t (.slice a l c) (.slice none l' c')).run P w = .ok a.isNone w := by
  unfold slEl at ht
  split at ht
  · rename_i hu
    show (Op.equalIn (9999 + 1) t (.slice a l c) (.slice none l' c')).run P w = _
    unfold Op.equalIn
    cases a <;> simp [underlying, hu]
  · cases ht
theorem y_beql {x y : Operand} {t u : TypeId} {a b : Bool} (ht : P.underlying t = some .bool) (hg : Met ops E g) (e1 : ev E x = some (.bool a)) (e2 : ev E y = some (.bool b)) :
    Y P ops S n E ⟨d, .binOp .eql t x y u, ty, ps, af, g⟩ (.bool (a == b)) := y_of hg fun c f w _ => by
  simp only [execOp, f.eval e1, f.eval e2, Sem.run_bind]
  have := run_binEq (P := P) (x := .bool a) (y := .bool b) w (fun _ _ => rfl) rfl (run_equal_bool ht w) x y
  rw [Sem.run_bind] at this; rw [this]; rfl
theorem y_bneq {x y : Operand} {t u : TypeId} {a b : Bool} (ht : P.underlying t = some .bool) (hg : Met ops E g) (e1 : ev E x = some (.bool a)) (e2 : ev E y = some (.bool b)) :
    Y P ops S n E ⟨d, .binOp .neq t x y u, ty, ps, af, g⟩ (.bool (a != b)) := y_of hg fun c f w _ => by
  simp only [execOp, f.eval e1, f.eval e2, Sem.run_bind]
  have := run_binNe (P := P) (x := .bool a) (y := .bool b) w (fun _ _ => rfl) rfl (run_equal_bool ht w) x y
  rw [Sem.run_bind] at this; rw [this]; rfl
theorem y_seql {x y : Operand} {t u m l c l' c' : Nat} {a : Option Addr} (ht : slEl P t = some m) (hg : Met ops E g) (e1 : ev E x = some (.slice a l c)) (e2 : ev E y = some (.slice none l' c')) :
    Y P ops S n E ⟨d, .binOp .eql t x y u, ty, ps, af, g⟩ (.bool a.isNone) := y_of hg fun z f w _ => by
  simp only [execOp, f.eval e1, f.eval e2, Sem.run_bind]
  have := run_binEq (P := P) (x := .slice a l c) (y := .slice none l' c') w (fun _ _ => rfl) rfl (run_equal_nil ht w) x y
  rw [Sem.run_bind] at this; rw [this]; rfl
def isIface (P : Program) (t : Nat) : Bool := match P.underlying t with | some (.interface _) => true | _ => false
theorem run_equal_inil {t : TypeId} {x : Value} (ht : isIface P t = true) (hx : x = .nilIface ∨ ∃ u v, x = .iface u v) (w : World) : (Op.equal t x .nilIface).run P w = .ok (match x with | .nilIface => true | _ => false) w := by
  unfold isIface at ht
  split at ht
  · rename_i hu
    show (Op.equalIn (9999 + 1) t x .nilIface).run P w = _
    unfold Op.equalIn
    rcases hx with rfl | ⟨u, v, rfl⟩ <;> simp [underlying, hu]
  · cases ht
theorem y_inil {x : Operand} {t u : TypeId} (ht : isIface P t = true) (hg : Met ops E g) (e1 : ev E x = some .nilIface) : Y P ops S n E ⟨d, .binOp .eql t x (.const .nilIface) u, ty, ps, af, g⟩ (.bool true) := y_of hg fun c f w _ => by
  have h1 : (eqGuard .eql t x (.const .nilIface) .nilIface .nilIface).run P w = .ok () w := by cases x <;> rfl
  have h2 := run_equal_inil (P := P) ht (x := .nilIface) (.inl rfl) w
  have h3 : binOp .eql t .nilIface .nilIface = (do pure (.bool (← Op.equal t .nilIface .nilIface))) := rfl
  simp only [execOp, f.eval e1, Sem.run_bind]
  rw [show c.eval (.const .nilIface) = .nilIface from rfl, h1, h3]
  simp only [Result.andThen_ok, Sem.run_bind, h2, Sem.run_pure]
theorem y_isome {x : Operand} {t u tv : TypeId} {v : Value} (ht : isIface P t = true) (hg : Met ops E g) (e1 : ev E x = some (.iface tv v)) : Y P ops S n E ⟨d, .binOp .eql t x (.const .nilIface) u, ty, ps, af, g⟩ (.bool false) := y_of hg fun c f w _ => by
  simp only [execOp, f.eval e1, Sem.run_bind]
  have := run_binEq (P := P) (x := .iface tv v) (y := .nilIface) (r := false) w (t := t) (fun X Y => rfl) rfl (run_equal_inil ht (.inr ⟨_, _, rfl⟩) w) x (.const .nilIface)
  rw [Sem.run_bind] at this
  have e2 : c.eval (.const .nilIface) = .nilIface := rfl
  rw [e2, this]; rfl
theorem y_makeI {t : Nat} {x : Operand} {v : Value} (ht : lone1 P t = true ∨ (aggN P t).isSome = true) (hn : (match P.underlying t with | some (.interface _) => false | _ => true) = true) (hg : Met ops E g) (e : ev E x = some v) :
    Y P ops S n E ⟨d, .makeInterface t x, ty, ps, af, g⟩ (.iface t v) := y_of hg fun a f w _ => by
  cases hu : P.underlying t with
  | none => rcases ht with h | h <;> simp [lone1, aggN, hu] at h
  | some D => rw [hu] at hn; cases D <;> simp_all [execOp, f.eval e, Instr.makeInterface, underlying]
theorem y_tassert {x : Operand} {xT aT : TypeId} {ok : Bool} {v r : Value} (h : ∀ w, (Instr.typeAssert v xT aT ok).run P w = .ok r w) (hg : Met ops E g) (e : ev E x = some v) :
    Y P ops S n E ⟨d, .typeAssert x xT aT ok, ty, ps, af, g⟩ r := y_of hg fun a f w _ => by
  simp only [execOp, f.eval e, Sem.run_bind, h w, Result.andThen_ok, Sem.run_pure]
theorem y_makeF {fn : Fn} {first cap : Array Operand} (vs us : List Value) (hg : Met ops E g) (e1 : evs E first.toList = some vs) (e2 : evs E cap.toList = some us) :
    Y P ops S n E ⟨d, .makeFunc fn first cap, ty, ps, af, g⟩ (.func fn vs.toArray us.toArray) := y_of hg fun a f w _ => by
  have h1 := f.evals e1
  have h2 := f.evals e2
  have h1' : first.map a.eval = vs.toArray := Array.ext' (by simpa using h1)
  have h2' : cap.map a.eval = us.toArray := Array.ext' (by simpa using h2)
  simp [execOp, Instr.makeFunc, h1', h2']
end ys

/-! ### Regions -/
/-- What K owes from a frame that fits E on. -/
def KG (K : Act → World → Prop) (n : Nat) (E : Env) (w : World) : Prop := ∀ a, Fits n E a → K a w
abbrev RG (P : Program) (ops : Array Oper) (Q : Exit → Act → World → Prop) (l : List Oper) (n : Nat) (E : Env) (w : World) : Prop := KG (wpList P ops Q l) n E w
/-- What code owes from a frame that fits E on. -/
def CG (P : Program) (c : Code) (Q : Exit → Act → World → Prop) (n : Nat) (E : Env) (w : World) : Prop := ∀ a, Fits n E a → c.wp P Q a w
def Ends (Q : Exit → Act → World → Prop) (x : Exit) (n : Nat) (E : Env) (w : World) : Prop := ∀ a, Fits n E a → Q x a w
/-- An operation that does something. -/
def OG (P : Program) (Q : Exit → Act → World → Prop) (o : Oper) (n : Nat) (E : Env) (w : World) (K : Act → World → Prop) : Prop := ∀ a, Fits n E a → Oper.wp P o a w K Q
section rg
variable {P : Program} {ops : Array Oper} {Q : Exit → Act → World → Prop} {n : Nat} {E : Env} {w : World} {rest : List Oper} {M : Mem} {bs : List (Nat × Obj)}
  {d : Nat} {op : Op} {ty : TypeId} {ps : String} {af : Array Edge} {g : Option (Nat × Bool)} {K : Act → World → Prop}
theorem rj (h : Ends Q .normal n E w) : RG P ops Q [] n E w := h
theorem ry (hO : Own w M bs) (hd : Nat.ble (d + 1) n = true) {v : Value} (h : Y P ops (fun w => Own w M bs) n E ⟨some d, op, ty, ps, af, g⟩ v) (k : RG P ops Q rest n ((d, v) :: E) w) :
    RG P ops Q (⟨some d, op, ty, ps, af, g⟩ :: rest) n E w := fun a f => by
  have hd' : d < n := Nat.le_of_ble_eq_true hd
  unfold wpList
  rcases h a f with ⟨hw, hv⟩ | ⟨hw, rfl⟩
  · rw [if_pos hw]; left
    simp only [Oper.wp, hv w hO, Oper.upon]
    exact k _ (f.put hd' v)
  · rw [if_neg (by rw [hw]; exact Bool.false_ne_true)]
    exact k _ (f.put hd' undef)
theorem rg_skip0 {op : Op} (hg : Unmet ops E g) (k : RG P ops Q rest n E w) : RG P ops Q (⟨none, op, ty, ps, af, g⟩ :: rest) n E w := fun a f => by
  unfold wpList
  rw [if_neg (by rw [Unmet.wanted (o := ⟨none, op, ty, ps, af, g⟩) hg f]; exact Bool.false_ne_true)]
  exact k a f
/-- An operation that does something, in its turn. -/
theorem rd' {d : Option Nat} (hg : Met ops E g) (h : OG P Q ⟨d, op, ty, ps, af, g⟩ n E w (wpList P ops Q rest)) : RG P ops Q (⟨d, op, ty, ps, af, g⟩ :: rest) n E w := fun a f => by
  unfold wpList
  rw [if_pos (Met.wanted (o := ⟨d, op, ty, ps, af, g⟩) hg f)]
  exact .inl (h a f)
theorem og_run {d : Option Nat} {v : Value} {w' : World} (hd : ∀ x, d = some x → x < n) (h : ∀ a, Fits n E a → (execOp a.eval ⟨d, op, ty, ps, af, g⟩).run P w = .ok (.value v) w')
    (k : KG K n (match d with | some x => (x, v) :: E | none => E) w') : OG P Q ⟨d, op, ty, ps, af, g⟩ n E w K := fun a f => by
  simp only [Oper.wp, h a f, Oper.upon]
  cases d with
  | none => exact k a f
  | some x => exact k _ (f.put (hd x rfl) v)
theorem og_skip {w' : World} (h : ∀ a, Fits n E a → (execOp a.eval ⟨none, op, ty, ps, af, g⟩).run P w = .ok .skip w') (k : KG K n E w') : OG P Q ⟨none, op, ty, ps, af, g⟩ n E w K := fun a f => by
  simp only [Oper.wp, h a f, Oper.upon]; exact k a f
theorem ltd (hd : Nat.ble (d + 1) n = true) : ∀ x, some d = some x → x < n := fun x e => by cases e; exact Nat.le_of_ble_eq_true hd
theorem og_alloc {t : Nat} {z : Value} (hO : Own w M bs) (hd : Nat.ble (d + 1) n = true) (hz : zeroOf P t = some z)
    (k : ∀ b w', Own w' M ((b, .cells z.cells t) :: bs) → KG K n ((d, .pointer (some ⟨b, 0, none⟩)) :: E) w') : OG P Q ⟨some d, .alloc t, ty, ps, af, g⟩ n E w K :=
  og_run (v := .pointer (some ⟨w.heap.size, 0, none⟩)) (w' := w.alloc (.cells z.cells t)) (ltd hd) (fun a f => by
    unfold zeroOf at hz
    cases hi : P.info? t with
    | none => rw [hi] at hz; cases hz
    | some i =>
      rw [hi] at hz
      have hz' : i.zero = some z := hz
      simp [execOp, Instr.alloc, zeroValue, typeInfo, hi, hz', newVar, newRow]) (k _ _ (hO.new _))
theorem og_box {t : Nat} {x : Operand} {v : Value} (hO : Own w M bs) (hd : Nat.ble (d + 1) n = true) (e : ev E x = some v)
    (k : ∀ b w', Own w' M ((b, .cells v.cells t) :: bs) → KG K n ((d, .pointer (some ⟨b, 0, none⟩)) :: E) w') : OG P Q ⟨some d, .box t x, ty, ps, af, g⟩ n E w K :=
  og_run (v := .pointer (some ⟨w.heap.size, 0, none⟩)) (w' := w.alloc (.cells v.cells t)) (ltd hd) (fun a f => by
    simp [execOp, Instr.box, f.eval e, newVar, newRow]) (k _ _ (hO.new _))
def oneCell : Value → Bool
  | .agg _ | .tuple _ => false
  | _ => true
theorem cells_one {v : Value} (h : oneCell v = true) : v.cells = #[v] ∧ v.oneCell' = true := by cases v <;> simp_all [oneCell, Value.cells, Value.oneCell']
theorem run_store1 (P : Program) {w : World} {b i : Nat} {c : Array Value} {T : TypeId} {v : Value} (hb : w.heap[b]? = some (.cells c T)) (hi : i < c.size) (hv : oneCell v = true) :
    (store ⟨b, i, none⟩ v).run P w = .ok () (w.setCell ⟨b, i, none⟩ v) := by
  rw [run_store P w _ v _ (cells_one hv).2]
  have : w.cell? ⟨b, i, none⟩ = some c[i] := by simp [World.cell?, hb, hi]
  rw [this]
  have hf : w.frozen? ⟨b, i, none⟩ = false := by simp [World.frozen?, hb]
  simp [hf]
theorem run_storeCells (P : Program) {b : Nat} {T : TypeId} : ∀ (vs : List Value) (w : World) (i j : Nat) (c : Array Value), w.heap[b]? = some (.cells c T) → i + j + vs.length ≤ c.size → (∀ v ∈ vs, oneCell v = true) →
    (storeCells ⟨b, i, none⟩ vs j).run P w = .ok () ((vs.zipIdx (i + j)).foldl (fun w (v, q) => w.setCell ⟨b, q, none⟩ v) w)
  | [], w, i, j, c, _, _, _ => by simp [storeCells]
  | v :: r, w, i, j, c, hb, hl, hv => by
    have h1 := run_store1 P (w := w) (i := i + j) hb (by simp at hl; omega) (hv v (List.mem_cons_self ..))
    have hb' : (w.setCell ⟨b, i + j, none⟩ v).heap[b]? = some (.cells (c.setIfInBounds (i + j) v) T) := by simp [World.setCell, Array.getElem?_modify, hb]
    have ih := run_storeCells P r _ i (j + 1) _ hb' (by simp at hl ⊢; omega) (fun u hu => hv u (List.mem_cons_of_mem _ hu))
    simp only [storeCells, Sem.run_bind]
    rw [Addr.add_eq _ _ rfl, h1]
    simp only [Result.andThen_ok]
    rw [ih]
    simp [List.zipIdx_cons, Nat.add_assoc]
def putCells (c : Array Value) : Nat → List Value → Array Value
  | _, [] => c
  | i, v :: r => putCells (c.setIfInBounds i v) (i + 1) r
theorem Own.puts {M : Mem} {b k : Nat} {T : TypeId} : ∀ (vs : List Value) (w : World) (i : Nat) (bs : List (Nat × Obj)) (c : Array Value), Own w M bs → bs[k]? = some (b, .cells c T) →
    Own ((vs.zipIdx i).foldl (fun w (v, q) => w.setCell ⟨b, q, none⟩ v) w) M (bs.set k (b, .cells (putCells c i vs) T))
  | [], w, i, bs, c, h, e => by
    have : bs.set k (b, .cells (putCells c i []) T) = bs := by
      apply List.ext_getElem?; intro j
      by_cases hj : k = j
      · subst hj; obtain ⟨hk, hb⟩ := List.getElem?_eq_some_iff.1 e; simp [putCells, hk, hb]
      · simp [List.getElem?_set_ne hj]
    rw [this]; exact h
  | v :: r, w, i, bs, c, h, e => by
    have h1 := h.put k (i := i) e v
    have hk : k < bs.length := (List.getElem?_eq_some_iff.1 e).1
    have h2 := Own.puts r _ (i + 1) _ _ h1 (by rw [List.getElem?_set_self hk])
    rw [List.set_set] at h2
    exact h2
/-- Some cells of the first block are stored. -/
theorem oo {t b i m : Nat} {x y : Operand} {v : Value} {vs : List Value} {c : Array Value} {T : TypeId} (hO : Own w M ((b, .cells c T) :: bs)) (ht : (P.info? t).map (·.size) = some m) (hc : v.cells = vs.toArray) (hm : vs.length = m) (hv : vs.all oneCell = true) (hi : i + vs.length ≤ c.size)
    (e : ev E x = some (.pointer (some ⟨b, i, none⟩))) (e2 : ev E y = some v)
    (k : ∀ w', Own w' M ((b, .cells (putCells c i vs) T) :: bs) → KG K n E w') : OG P Q ⟨none, .store t x y, ty, ps, af, g⟩ n E w K :=
  og_skip (fun a f => by
    have hs := run_storeCells P vs w i 0 c (hO.get 0 rfl) (by omega) (fun v hv' => List.all_eq_true.1 hv v hv')
    cases hi' : P.info? t with
    | none => rw [hi'] at ht; cases ht
    | some inf =>
      rw [hi'] at ht; simp at ht
      simp only [execOp, Instr.storeAt, f.eval e, f.eval e2, Instr.sureAddr, storeVar, sizeOf, typeInfo, hc, Sem.run_bind, run_program, Result.andThen_ok, hi', Sem.run_pure, Sem.run_ite]
      rw [if_neg (by simp [ht, hm]), hs]; rfl) (k _ (hO.puts vs w i _ c (k := 0) rfl))
/-- A call of a Go function, by its contract. -/
def cl (P : Program) (f : FuncId) : Prop := ∃ fn, P.funcs[f]? = some fn ∧ (fn.name == "runtime.NumGoroutine") = false ∧ fn.body.isNone = false
theorem run_callGo {f : FuncId} (hf : cl P f) (vs : Array Value) (w : World) : (callFunc f vs).run P w = .ok (.enter f vs) w := by
  obtain ⟨fn, h1, h2, h3⟩ := hf
  simp only [callFunc, Sem.run_bind, run_program, Result.andThen_ok]
  rw [h1]
  simp only
  rw [h2, h3]
  rfl
theorem og_callv {f : FuncId} {fo : Operand} {fs cs : Array Value} {xs : Array Operand} {ats : Array TypeId} {vs : List Value} {R : Ending → World → Prop} (hf : cl P f) (hd : Nat.ble (d + 1) n = true) (ef : ev E fo = some (.func (.func f) fs cs)) (e : evs E xs.toList = some vs)
    (hc : Calls P f (fs ++ vs.toArray ++ cs) w R) (k : ∀ en w', R en w' → ∃ v, en = .returned v ∧ KG K n ((d, v) :: E) w') :
    OG P Q ⟨some d, .call { callee := .value fo, args := xs, argTypes := ats }, ty, ps, af, g⟩ n E w K := fun a fi => by
  have hd' : d < n := Nat.le_of_ble_eq_true hd
  have hx : xs.map a.eval = vs.toArray := Array.ext' (by simpa using fi.evals e)
  have hr : (execOp a.eval ⟨some d, .call { callee := .value fo, args := xs, argTypes := ats }, ty, ps, af, g⟩).run P w = .ok (.enter f (fs ++ vs.toArray ++ cs)) w := by
    simp [execOp, resolve, Deferred.ofValue, fi.eval ef, invoke, hx]; first | exact run_callGo hf _ w | (rw [Array.append_assoc]; exact run_callGo hf _ w) | (rw [← Array.append_assoc]; exact run_callGo hf _ w)
  simp only [Oper.wp, hr, Oper.upon]
  refine hc.mono fun en w' hR => ?_
  obtain ⟨v, rfl, hk⟩ := k en w' hR
  exact hk _ (fi.put hd' v)
theorem oc {f : FuncId} {xs : Array Operand} {ats : Array TypeId} {vs : List Value} {R : Ending → World → Prop} (hf : cl P f) (hd : Nat.ble (d + 1) n = true) (e : evs E xs.toList = some vs)
    (hc : Calls P f vs.toArray w R) (k : ∀ en w', R en w' → ∃ v, en = .returned v ∧ KG K n ((d, v) :: E) w') :
    OG P Q ⟨some d, .call { callee := .value (.func f), args := xs, argTypes := ats }, ty, ps, af, g⟩ n E w K :=
  og_callv (fs := #[]) (cs := #[]) hf hd rfl e (by simpa using hc) k

theorem og_ext {f : FuncId} {xs : Array Operand} {ats : Array TypeId} {vs : List Value} {v : Value} (hd : Nat.ble (d + 1) n = true) (e : evs E xs.toList = some vs) (h : (callFunc f vs.toArray).run P w = .ok (.value v) w) (k : KG K n ((d, v) :: E) w) :
    OG P Q ⟨some d, .call { callee := .value (.func f), args := xs, argTypes := ats }, ty, ps, af, g⟩ n E w K :=
  og_run (v := v) (w' := w) (ltd hd) (fun a fi => by
    have hx : xs.map a.eval = vs.toArray := Array.ext' (by simpa using fi.evals e)
    simp [execOp, resolve, Deferred.ofValue, Act.eval, invoke, hx]; exact h) k
theorem og_extNew {f : FuncId} {xs : Array Operand} {ats : Array TypeId} {vs : List Value} {v : Nat → Value} {o : Obj} (hO : Own w M bs) (hd : Nat.ble (d + 1) n = true) (e : evs E xs.toList = some vs) (h : (callFunc f vs.toArray).run P w = .ok (.value (v w.heap.size)) (w.alloc o))
    (k : ∀ b w', Own w' M ((b, o) :: bs) → KG K n ((d, v b) :: E) w') : OG P Q ⟨some d, .call { callee := .value (.func f), args := xs, argTypes := ats }, ty, ps, af, g⟩ n E w K :=
  og_run (v := v w.heap.size) (w' := w.alloc o) (ltd hd) (fun a fi => by
    have hx : xs.map a.eval = vs.toArray := Array.ext' (by simpa using fi.evals e)
    simp [execOp, resolve, Deferred.ofValue, Act.eval, invoke, hx]; exact h) (k _ _ (hO.new _))
theorem og_extSet {f b : Nat} {xs : Array Operand} {ats : Array TypeId} {vs : List Value} {v x old : Value} {T : TypeId} (hO : Own w M ((b, .cells #[old] T) :: bs)) (hd : Nat.ble (d + 1) n = true) (e : evs E xs.toList = some vs) (h : (callFunc f vs.toArray).run P w = .ok (.value v) (w.setCell ⟨b, 0, none⟩ x))
    (k : ∀ w', Own w' M ((b, .cells #[x] T) :: bs) → KG K n ((d, v) :: E) w') : OG P Q ⟨some d, .call { callee := .value (.func f), args := xs, argTypes := ats }, ty, ps, af, g⟩ n E w K :=
  og_run (v := v) (w' := w.setCell ⟨b, 0, none⟩ x) (ltd hd) (fun a fi => by
    have hx : xs.map a.eval = vs.toArray := Array.ext' (by simpa using fi.evals e)
    simp [execOp, resolve, Deferred.ofValue, Act.eval, invoke, hx]; exact h) (k _ (hO.put 0 (i := 0) rfl x))
theorem og_inv {m : String} {ro : Operand} {xs : Array Operand} {ats : Array TypeId} {r : Value} {vs : List Value} {v : Value} (hd : Nat.ble (d + 1) n = true) (e0 : ev E ro = some r) (e : evs E xs.toList = some vs) (h : (callMethod r m vs.toArray).run P w = .ok (.value v) w) (k : KG K n ((d, v) :: E) w) :
    OG P Q ⟨some d, .call { callee := .invoke ro m, args := xs, argTypes := ats }, ty, ps, af, g⟩ n E w K :=
  og_run (v := v) (w' := w) (ltd hd) (fun a fi => by
    have hx : xs.map a.eval = vs.toArray := Array.ext' (by simpa using fi.evals e)
    have hr : ((fun x => a.eval x) ro) = r := fi.eval e0
    have h2 : (invoke (.fn (.method m) #[]) (#[r] ++ vs.toArray)).run P w = (callMethod r m vs.toArray).run P w := by
      simp [invoke]
    simp only [execOp, resolve, Sem.run_bind, Sem.run_pure, Result.andThen_ok]
    rw [hx, fi.eval e0, h2, h]) k
theorem og_invCall {m : String} {f : FuncId} {ro : Operand} {xs : Array Operand} {ats : Array TypeId} {r : Value} {vs us : List Value} {R : Ending → World → Prop} (hd : Nat.ble (d + 1) n = true) (e0 : ev E ro = some r) (e : evs E xs.toList = some vs) (h : (callMethod r m vs.toArray).run P w = .ok (.enter f us.toArray) w)
    (hc : Calls P f us.toArray w R) (k : ∀ en w', R en w' → ∃ v, en = .returned v ∧ KG K n ((d, v) :: E) w') :
    OG P Q ⟨some d, .call { callee := .invoke ro m, args := xs, argTypes := ats }, ty, ps, af, g⟩ n E w K := fun a fi => by
  have hd' : d < n := Nat.le_of_ble_eq_true hd
  have hx : xs.map a.eval = vs.toArray := Array.ext' (by simpa using fi.evals e)
  have h2 : (invoke (.fn (.method m) #[]) (#[r] ++ vs.toArray)).run P w = (callMethod r m vs.toArray).run P w := by
    simp [invoke]
  have hr : (execOp a.eval ⟨some d, .call { callee := .invoke ro m, args := xs, argTypes := ats }, ty, ps, af, g⟩).run P w = .ok (.enter f us.toArray) w := by
    simp only [execOp, resolve, Sem.run_bind, Sem.run_pure, Result.andThen_ok]
    rw [hx, fi.eval e0, h2, h]
  simp only [Oper.wp, hr, Oper.upon]
  refine hc.mono fun en w' hR => ?_
  obtain ⟨v, rfl, hk⟩ := k en w' hR
  exact hk _ (fi.put hd' v)

/-! ### Regions that draw their order -/
/-- Operation z waits for all others. -/
def waitsAll (ops : Array Oper) (z : Nat) : Bool := (List.range ops.size).all fun j => j == z || match ops[z]? with | some o => o.after.any fun e => Region.binds .any e && e.on == j | none => true
/-- Whatever order comes up: S holds behind every operation but z. -/
def wpAnyZ (P : Program) (ops : Array Oper) (Q : Exit → Act → World → Prop) (S : World → Prop) (z : Nat) : Nat → Array Bool → Act → World → Prop
  | 0, l, a, w => Region.ready .any ops l = [] ∧ Q .normal a w
  | m + 1, l, a, w => (Region.ready .any ops l = [] → Q .normal a w) ∧ ∀ i ∈ Region.ready .any ops l, wpOp P ops Q i (fun a' w' => (i = z ∨ S w') ∧ wpAnyZ P ops Q S z m (l.setIfInBounds i true) a' w') a w
theorem wpAny_of_Z {S : World → Prop} {z : Nat} : ∀ (m : Nat) (l : Array Bool) (a : Act) (w : World), wpAnyZ P ops Q S z m l a w → wpAny P .any ops Q m l a w
  | 0, _, _, _, h => h
  | m + 1, _, _, _, h => ⟨h.1, fun i hi => wpOp_mono (fun a' w' h' => wpAny_of_Z m _ a' w' h'.2) (h.2 i hi)⟩
theorem not_ready_z {z i : Nat} (hz : waitsAll ops z = true) (l : Array Bool) (hi : i < ops.size) (hiz : i ≠ z) (hul : l.getD i true = false) : z ∉ Region.ready .any ops l := fun hr => by
  obtain ⟨_, o, ho, hall⟩ := mem_ready.1 hr
  have h1 := List.all_eq_true.1 hz i (List.mem_range.2 hi)
  simp only [ho, Bool.or_eq_true, beq_iff_eq, hiz, false_or] at h1
  obtain ⟨e, he, hb⟩ := Array.any_eq_true'.1 h1
  simp only [Bool.and_eq_true, beq_iff_eq] at hb
  have h2 := hall e he hb.1
  rw [hb.2] at h2
  rcases Nat.lt_or_ge i l.size with h | h
  · simp [h] at hul h2; rw [hul] at h2; cases h2
  · simp [Array.getElem?_eq_none h] at hul
theorem wpAnyZ_first {S : World → Prop} {z i : Nat} {oi : Oper} {v : Value} (hz : waitsAll ops z = true ∨ ops.size ≤ z) (hiz : i ≠ z) (hi : ops[i]? = some oi) (hsel : ∀ (j : Nat) (o : Oper) cs b, ops[j]? = some o → o.op ≠ .select cs b)
    (hQ : ∀ c a w, Q (.panic c) (a.put oi.dst v) w → Q (.panic c) a w) :
    ∀ (m : Nat) (l : Array Bool) (a : Act) (w : World),
      (∀ j oj, ops[j]? = some oj → j ≠ i → l.getD j true = false → (∀ e ∈ oj.after, Region.binds .any e = true → e.on ≠ i) → oi.apart ops oj = true) →
      i ∈ Region.ready .any ops l → YieldsIf P ops S oi v a → S w →
      wpAnyZ P ops Q S z m (l.setIfInBounds i true) (a.put oi.dst v) w → wpAnyZ P ops Q S z (m + 1) l a w := by
  have hlt : i < ops.size := (Array.getElem?_eq_some_iff.1 hi).1
  have hjz : ∀ (l : Array Bool) (j : Nat), i ∈ Region.ready .any ops l → j ∈ Region.ready .any ops l → j ≠ z := fun l j hr hj e => by
    subst e
    rcases hz with hz | hz
    · exact not_ready_z hz l hlt hiz (mem_ready.1 hr).1 hj
    · obtain ⟨_, o, ho, _⟩ := mem_ready.1 hj
      have := (Array.getElem?_eq_some_iff.1 ho).1; omega
  intro m
  induction m with
  | zero =>
    intro l a w _ hr hy hS H
    refine ⟨fun h => (by rw [h] at hr; cases hr), fun j hj => ?_⟩
    by_cases hji : j = i
    · subst hji; exact hy.wpOp hi hS ⟨.inr hS, H⟩
    · have := ready_mono hj hji
      rw [H.1] at this; cases this
  | succ m ih =>
    intro l a w hfree hr hy hS H
    refine ⟨fun h => (by rw [h] at hr; cases hr), fun j hj => ?_⟩
    by_cases hji : j = i
    · subst hji; exact hy.wpOp hi hS ⟨.inr hS, H⟩
    · have h1 := H.2 j (ready_mono hj hji)
      obtain ⟨hjun, oj, hoj, hall⟩ := mem_ready.1 hj
      have hnot : ∀ e ∈ oj.after, Region.binds .any e = true → e.on ≠ i := fun e he hb heq => by
        have h1 := hall e he hb
        have h0 := (mem_ready.1 hr).1
        rw [heq] at h1
        rcases Nat.lt_or_ge i l.size with h' | h'
        · simp [h'] at h0 h1; rw [h0] at h1; cases h1
        · simp [Array.getElem?_eq_none h'] at h1
      have h2 := wpOp_putIf hoj (hfree j oj hoj hji hjun hnot) (fun cs b => hsel i oi cs b hi) (fun cs b => hsel j oj cs b hoj) hQ hy h1
      refine wpOp_mono (fun a' w' h3 => ?_) h2
      obtain ⟨hy', hS', hk⟩ := h3
      have hS'' : S w' := hS'.resolve_left (hjz l j hr hj)
      refine ⟨.inr hS'', ih (l.setIfInBounds j true) a' w' (fun k ok hk' hki hun hno => hfree k ok hk' hki ?_ hno) (ready_mono hr (Ne.symm hji)) hy' hS'' ?_⟩
      · by_cases hjk : j = k
        · subst hjk; exact hjun
        · rw [getD_set_ne true hjk] at hun; exact hun
      · rw [Array.setIfInBounds_comm _ _ hji]; exact hk
inductive Ord where
  | done
  | take (i : Nat) (r : Ord)
  | one (i : Nat) (r : Ord)
  | two (i j : Nat) (r s : Ord)
  | last (i : Nat)
def sched (ops : Array Oper) (z : Nat) : Ord → Array Bool → Bool
  | .done, l => (Region.ready .any ops l).isEmpty
  | .take i r, l => i != z && (Region.ready .any ops l).contains i && Region.free .any ops l i && sched ops z r (l.setIfInBounds i true)
  | .one i r, l => (Region.ready .any ops l == [i]) && sched ops z r (l.setIfInBounds i true)
  | .two i j r s, l => (Region.ready .any ops l == [i, j]) && sched ops z r (l.setIfInBounds i true) && sched ops z s (l.setIfInBounds j true)
  | .last i, l => i == z && (Region.ready .any ops l == [i]) && (Region.ready .any ops (l.setIfInBounds i true)).isEmpty
def Ord.len : Ord → Nat
  | .done => 0
  | .take _ r | .one _ r => r.len + 1
  | .two _ _ r s => max r.len s.len + 1
  | .last _ => 1
def wpOrd (P : Program) (ops : Array Oper) (Q : Exit → Act → World → Prop) (S : World → Prop) : Ord → Act → World → Prop
  | .done, a, w => Q .normal a w
  | .take i r, a, w => ∃ o v, ops[i]? = some o ∧ YieldsIf P ops S o v a ∧ (∀ c a w, Q (.panic c) (a.put o.dst v) w → Q (.panic c) a w) ∧ wpOrd P ops Q S r (a.put o.dst v) w
  | .one i r, a, w => wpOp P ops Q i (fun a' w' => S w' ∧ wpOrd P ops Q S r a' w') a w
  | .two i j r s, a, w => wpOp P ops Q i (fun a' w' => S w' ∧ wpOrd P ops Q S r a' w') a w ∧ wpOp P ops Q j (fun a' w' => S w' ∧ wpOrd P ops Q S s a' w') a w
  | .last i, a, w => wpOp P ops Q i (fun a' w' => Q .normal a' w') a w
theorem anyZ_all {S : World → Prop} {z : Nat} {rs : List Nat} {m : Nat} {l : Array Bool} {a : Act} {w : World} (hr : Region.ready .any ops l = rs) (hne : rs ≠ [])
    (h : ∀ i ∈ rs, wpOp P ops Q i (fun a' w' => (i = z ∨ S w') ∧ wpAnyZ P ops Q S z m (l.setIfInBounds i true) a' w') a w) : wpAnyZ P ops Q S z (m + 1) l a w :=
  ⟨fun h0 => absurd (hr ▸ h0) hne, hr ▸ h⟩
theorem anyZ_done {S : World → Prop} {z : Nat} {l : Array Bool} {a : Act} {w : World} (hr : Region.ready .any ops l = []) (h : Q .normal a w) : ∀ m, wpAnyZ P ops Q S z m l a w
  | 0 => ⟨hr, h⟩
  | _ + 1 => ⟨fun _ => h, by rw [hr]; simp⟩
theorem ord_sound {S : World → Prop} {z : Nat} (hz : waitsAll ops z = true ∨ ops.size ≤ z) (hs : Region.noSelect ops = true) : ∀ (r : Ord) (l : Array Bool) (m : Nat) (a : Act) (w : World), sched ops z r l = true → r.len ≤ m → S w → wpOrd P ops Q S r a w → wpAnyZ P ops Q S z m l a w
  | .done, l, m, a, w, h, _, _, hq => anyZ_done (by simpa [sched] using h) hq m
  | .take i r, l, m, a, w, h, hm, hS, hq => by
    obtain ⟨o, v, ho, hy, hp, hk⟩ := hq
    simp only [sched, Bool.and_eq_true, bne_iff_ne] at h
    cases m with
    | zero => simp [Ord.len] at hm
    | succ m => exact wpAnyZ_first hz h.1.1.1 ho (Region.noSelect_spec hs) hp m l a w (Region.free_spec ho h.1.2) (by simpa using h.1.1.2) hy hS (ord_sound hz hs r _ m _ _ h.2 (by simp [Ord.len] at hm; exact hm) hS hk)
  | .one i r, l, m, a, w, h, hm, hS, hq => by
    simp only [sched, Bool.and_eq_true, beq_iff_eq] at h
    cases m with
    | zero => simp [Ord.len] at hm
    | succ m =>
      refine anyZ_all h.1 (by simp) fun j hj => ?_
      simp at hj; subst hj
      exact wpOp_mono (fun a' w' hk => ⟨.inr hk.1, ord_sound hz hs r _ m _ _ h.2 (by simp [Ord.len] at hm; exact hm) hk.1 hk.2⟩) hq
  | .two i j r s, l, m, a, w, h, hm, hS, hq => by
    simp only [sched, Bool.and_eq_true, beq_iff_eq] at h
    cases m with
    | zero => simp [Ord.len] at hm
    | succ m =>
      have hm' : max r.len s.len ≤ m := by simpa [Ord.len] using hm
      refine anyZ_all h.1.1 (by simp) fun k hk => ?_
      simp at hk
      rcases hk with rfl | rfl
      · exact wpOp_mono (fun a' w' hk => ⟨.inr hk.1, ord_sound hz hs r _ m _ _ h.1.2 (by omega) hk.1 hk.2⟩) hq.1
      · exact wpOp_mono (fun a' w' hk => ⟨.inr hk.1, ord_sound hz hs s _ m _ _ h.2 (by omega) hk.1 hk.2⟩) hq.2
  | .last i, l, m, a, w, h, hm, _, hq => by
    simp only [sched, Bool.and_eq_true, beq_iff_eq] at h
    cases m with
    | zero => simp [Ord.len] at hm
    | succ m =>
      refine anyZ_all h.1.2 (by simp) fun j hj => ?_
      simp at hj; subst hj
      exact wpOp_mono (fun a' w' hk => ⟨.inl h.1.1, anyZ_done (by simpa using h.2) hk m⟩) hq
abbrev HG (P : Program) (ops : Array Oper) (Q : Exit → Act → World → Prop) (S : World → Prop) (r : Ord) (n : Nat) (E : Env) (w : World) : Prop := KG (wpOrd P ops Q S r) n E w
theorem cg_drawn {id : Nat} {S : World → Prop} (r : Ord) (z : Nat) (hm : P.follows .mixedOrders = true) (hs : (Region.noSelect ops && Nat.ble r.len ops.size && sched ops z r (Array.replicate ops.size false) && (waitsAll ops z || Nat.ble ops.size z)) = true) (hS : S { w with drawn := w.drawn + 1 })
    (h : HG P ops Q S r n E { w with drawn := w.drawn + 1 }) : CG P (.region id ops true) Q n E w := fun a f => by
  simp only [Bool.and_eq_true, Bool.or_eq_true] at hs
  exact wp_region_any hm (wpAny_of_Z _ _ _ _ (ord_sound (S := S) (hs.2.imp (fun h => h) Nat.le_of_ble_eq_true) hs.1.1.1 r _ _ _ _ hs.1.2 (Nat.le_of_ble_eq_true hs.1.1.2) hS (h a f)))
theorem hop {i : Nat} {d : Option Nat} {K : Act → World → Prop} (hi : ops[i]? = some ⟨d, op, ty, ps, af, g⟩) (hg : Met ops E g) (h : OG P Q ⟨d, op, ty, ps, af, g⟩ n E w K) (a : Act) (f : Fits n E a) : wpOp P ops Q i K a w := by
  unfold wpOp; simp only [hi]
  rw [if_pos (Met.wanted (o := ⟨d, op, ty, ps, af, g⟩) hg f)]; exact .inl (h a f)
theorem hg_last {S : World → Prop} {i : Nat} {d : Option Nat} (hi : ops[i]? = some ⟨d, op, ty, ps, af, g⟩) (hg : Met ops E g) (h : OG P Q ⟨d, op, ty, ps, af, g⟩ n E w (fun a' w' => Q .normal a' w')) : HG P ops Q S (.last i) n E w := fun a f => hop hi hg h a f
theorem gd {S : World → Prop} (h : Ends Q .normal n E w) : HG P ops Q S .done n E w := h
theorem gy {S : World → Prop} {i : Nat} {r : Ord} {v : Value} (hi : ops[i]? = some ⟨some d, op, ty, ps, af, g⟩) (hd : Nat.ble (d + 1) n = true) (hQ : ∀ c a w, Q (.panic c) (a.put (some d) v) w → Q (.panic c) a w)
    (h : Y P ops S n E ⟨some d, op, ty, ps, af, g⟩ v) (k : HG P ops Q S r n ((d, v) :: E) w) : HG P ops Q S (.take i r) n E w := fun a f =>
  ⟨_, v, hi, h a f, hQ, k _ (f.put (Nat.le_of_ble_eq_true hd) v)⟩
theorem hg_skip0 {S : World → Prop} {i : Nat} {r : Ord} (hi : ops[i]? = some ⟨none, op, ty, ps, af, g⟩) (hg : Unmet ops E g) (k : HG P ops Q S r n E w) : HG P ops Q S (.take i r) n E w := fun a f =>
  ⟨_, undef, hi, .inr ⟨Unmet.wanted (o := ⟨none, op, ty, ps, af, g⟩) hg f, rfl⟩, fun _ _ _ h => h, k a f⟩
theorem hn' {S : World → Prop} {i : Nat} {r : Ord} {d : Option Nat} (hi : ops[i]? = some ⟨d, op, ty, ps, af, g⟩) (hg : Met ops E g) (h : OG P Q ⟨d, op, ty, ps, af, g⟩ n E w (fun a' w' => S w' ∧ wpOrd P ops Q S r a' w')) :
    HG P ops Q S (.one i r) n E w := fun a f => hop hi hg h a f
theorem hg_two {S : World → Prop} {i j : Nat} {r s : Ord} (h1 : HG P ops Q S (.one i r) n E w) (h2 : HG P ops Q S (.one j s) n E w) : HG P ops Q S (.two i j r s) n E w := fun a f => ⟨h1 a f, h2 a f⟩
theorem kg_s {S : World → Prop} {r : Ord} (hS : S w) (k : HG P ops Q S r n E w) : KG (fun a' w' => S w' ∧ wpOrd P ops Q S r a' w') n E w := fun a f => ⟨hS, k a f⟩
end rg

/-! ### Code -/
section cg
variable {P : Program} {Q : Exit → Act → World → Prop} {n : Nat} {E E' : Env} {w : World} {x y : Code}
theorem cr {id : Nat} {ops : Array Oper} (h : RG P ops Q ops.toList n E w) : CG P (.region id ops false) Q n E w := fun a f => wp_region_list (h a f)
theorem cq (h : CG P x (Exit.then (fun a w => y.wp P Q a w) Q) n E w) : CG P (.seq x y) Q n E w := fun a f => wp_seq (h a f)
theorem et (h : CG P y Q n E w) : Ends (Exit.then (fun a w => y.wp P Q a w) Q) .normal n E w := h
theorem ez {e : Exit} (s : Sub E' E) (h : Ends Q e n E' w) : Ends Q e n E w := fun a f => h a (f.sub s)
theorem cg_sub (s : Sub E' E) (h : CG P x Q n E' w) : CG P x Q n E w := fun a f => h a (f.sub s)
theorem cp (h : Ends Q .normal n E w) : CG P .skip Q n E w := fun a f => wp_skip (h a f)
theorem ct (h : Ends Q .ret n E w) : CG P .ret Q n E w := fun a f => wp_ret (h a f)
theorem cx {id : Nat} (h : Ends Q (.exit id) n E w) : CG P (.exit id) Q n E w := fun a f => wp_exit (h a f)
theorem cb {id : Nat} (h : CG P x (Exit.inBlock id Q) n E w) : CG P (.block id x) Q n E w := fun a f => wp_block (h a f)
theorem ek' {id : Nat} (h : Ends Q .normal n E w) : Ends (Exit.inBlock id Q) .normal n E w := h
theorem ej {id : Nat} (h : Ends Q .normal n E w) : Ends (Exit.inBlock id Q) (.exit id) n E w := fun a f => by simpa [Exit.inBlock] using h a f
theorem ep {id j : Nat} (hj : j ≠ id) (h : Ends Q (.exit j) n E w) : Ends (Exit.inBlock id Q) (.exit j) n E w := fun a f => by simpa [Exit.inBlock, hj] using h a f
theorem eh {K : Act → World → Prop} {j : Nat} (h : Ends Q (.exit j) n E w) : Ends (Exit.then K Q) (.exit j) n E w := h
theorem ew' {K : Act → World → Prop} (h : Ends Q .ret n E w) : Ends (Exit.then K Q) .ret n E w := h
theorem eg {id : Nat} (h : Ends Q .ret n E w) : Ends (Exit.inBlock id Q) .ret n E w := h
theorem cd {c : Operand} {b : Bool} (e : ev E c = some (.bool b)) (ht : b = true → CG P x Q n E w) (hf : b = false → CG P y Q n E w) : CG P (.cond c x y) Q n E w :=
  fun a f => wp_cond_split (f.eval e) (fun h => ht h a f) (fun h => hf h a f)
theorem cv {c : Operand} (e : ev E c = some (.bool true)) (h : CG P x Q n E w) : CG P (.cond c x y) Q n E w := fun a f => wp_cond_true (f.eval e) (h a f)
theorem cj {c : Operand} (e : ev E c = some (.bool false)) (h : CG P y Q n E w) : CG P (.cond c x y) Q n E w := fun a f => wp_cond_false (f.eval e) (h a f)
/-- A loop: states s : σ, each with its frame and what holds of the world. -/
theorem cg_loop {σ : Type} (F : σ → Env) (W : σ → World → Prop) (μ : σ → Nat) (s0 : σ) (hs : Sub (F s0) E) (h0 : W s0 w)
    (round : ∀ s w, W s w → CG P x (Exit.then (fun a' w' => ∃ s', Fits n (F s') a' ∧ W s' w' ∧ μ s' < μ s) Q) n (F s) w) : CG P (.loop x) Q n E w := fun a f => by
  intro b k cs
  have key : ∀ m a w s, μ s = m → Fits n (F s) a → W s w →
      ∃ e a' w', Q e a' w' ∧ Arrives P (lone (b.at a (.code x :: .inLoop x :: k)) cs w) b k cs e a' w' := by
    intro m
    induction m using Nat.strongRecOn with
    | _ m ih =>
      intro a w s hm hf hw
      obtain ⟨e, a₁, w₁, hq, harr⟩ := round s w hw a hf b (.inLoop x :: k) cs
      cases e with
      | normal =>
        obtain ⟨s', hf', hw', hlt⟩ := hq
        obtain ⟨e₂, a₂, w₂, hq₂, harr₂⟩ := ih (μ s') (hm ▸ hlt) a₁ w₁ s' rfl hf' hw'
        exact ⟨e₂, a₂, w₂, hq₂, .of_steps (Steps.trans harr (.one step_inLoop)) harr₂⟩
      | exit id => exact ⟨_, a₁, w₁, hq, .pass (x := .inLoop x) rfl (fun _ _ => .inl (by simp)) harr⟩
      | goto l => exact ⟨_, a₁, w₁, hq, .pass (x := .inLoop x) rfl (fun _ _ => .inl (by simp)) harr⟩
      | ret => exact ⟨_, a₁, w₁, hq, .pass (x := .inLoop x) rfl (fun _ _ => .inl (by simp)) harr⟩
      | panic ch => exact ⟨_, a₁, w₁, hq, .pass (x := .inLoop x) rfl (fun _ _ => .inl (by simp)) harr⟩
      | outgrown => exact ⟨_, a₁, w₁, hq, .pass (x := .inLoop x) rfl (fun _ _ => .inl (by simp)) harr⟩
  obtain ⟨e, a', w', hq, harr⟩ := key _ a w s0 rfl (f.sub hs) h0
  exact ⟨e, a', w', hq, .of_steps (.one step_loop) harr⟩
/-- A loop of so many rounds at most. -/
theorem cg_rounds (m : Nat) (h : CG P x (Exit.then (Code.rounds P x Q m) Q) n E w) : CG P (.loop x) Q n E w := fun a f => wp_loop_rounds (m + 1) (h a f)
theorem ends_rounds {m : Nat} (h : CG P x (Exit.then (Code.rounds P x Q m) Q) n E w) : Ends (Exit.then (Code.rounds P x Q (m + 1)) Q) .normal n E w := h
/-- The round's end. -/
theorem ends_round {σ : Type} {F : σ → Env} {W : σ → World → Prop} {μ : σ → Nat} {m : Nat} (s' : σ) (hs : Sub (F s') E) (hw : W s' w) (hm : μ s' < m) :
    Ends (Exit.then (fun a' w' => ∃ s', Fits n (F s') a' ∧ W s' w' ∧ μ s' < m) Q) .normal n E w := fun _ f => ⟨s', f.sub hs, hw, hm⟩
end cg
theorem cw {P : Program} {Q : Exit → Act → World → Prop} {ops : Array Oper} {n id : Nat} {E : Env} {w w1 : World} {S : World → Prop} (r : Ord) (z : Nat) (hm : P.follows .mixedOrders = true) (hs : (Region.noSelect ops && Nat.ble r.len ops.size && sched ops z r (Array.replicate ops.size false) && (waitsAll ops z || Nat.ble ops.size z)) = true)
    (e : { w with drawn := w.drawn + 1 } = w1) (hS : S w1) (h : HG P ops Q S r n E w1) : CG P (.region id ops true) Q n E w := by subst e; exact cg_drawn r z hm hs hS h

theorem og_y {P : Program} {Q : Exit → Act → World → Prop} {ops : Array Oper} {n d : Nat} {E : Env} {w : World} {S : World → Prop} {op : Op} {ty : TypeId} {ps : String} {af : Array Edge} {g : Option (Nat × Bool)} {v : Value} {K : Act → World → Prop}
    (h : Y P ops S n E ⟨some d, op, ty, ps, af, g⟩ v) (hg : Met ops E g) (hd : Nat.ble (d + 1) n = true) (hS : S w) (k : KG K n ((d, v) :: E) w) : OG P Q ⟨some d, op, ty, ps, af, g⟩ n E w K :=
  og_run (v := v) (w' := w) (ltd hd) (fun a f => by
    rcases h a f with ⟨_, hr⟩ | ⟨hw, _⟩
    · exact hr w hS
    · rw [Met.wanted (o := ⟨some d, op, ty, ps, af, g⟩) hg f] at hw; cases hw) k
/-! Short names of the commonest steps -/
section short
variable {P : Program} {ops : Array Oper} {Q : Exit → Act → World → Prop} {n : Nat} {E : Env} {w : World} {rest : List Oper} {M : Mem} {bs : List (Nat × Obj)} {d : Nat} {ty : TypeId} {ps : String} {af : Array Edge} {v : Value} {x : Operand} {S : World → Prop} {i : Nat} {r : Ord}
theorem mv (hO : Own w M bs) (hd : Nat.ble (d + 1) n = true) (e : ev E x = some v) (k : RG P ops Q rest n ((d, v) :: E) w) : RG P ops Q (⟨some d, .move x, ty, ps, af, none⟩ :: rest) n E w := ry hO hd (ym trivial e) k
theorem as_ (hO : Own w M bs) (hd : Nat.ble (d + 1) n = true) (e : ev E x = some v) (k : RG P ops Q rest n ((d, v) :: E) w) : RG P ops Q (⟨some d, .assign x, ty, ps, af, none⟩ :: rest) n E w := ry hO hd (y_assign trivial e) k
theorem nc {p : Addr} (hO : Own w M bs) (hd : Nat.ble (d + 1) n = true) (e : ev E x = some (.pointer (some p))) (k : RG P ops Q rest n ((d, .pointer (some p)) :: E) w) : RG P ops Q (⟨some d, .nilCheck x, ty, ps, af, none⟩ :: rest) n E w := ry hO hd (yn trivial e) k
theorem fa {p : Addr} {t j k' : Nat} (hf : fOff P t j = some k') (hO : Own w M bs) (hd : Nat.ble (d + 1) n = true) (e : ev E x = some (.pointer (some p))) (k : RG P ops Q rest n ((d, .pointer (some (p.add k'))) :: E) w) : RG P ops Q (⟨some d, .fieldAddr t x j, ty, ps, af, none⟩ :: rest) n E w := ry hO hd (ya hf trivial e) k
theorem fb {t j k' b q : Nat} (q' : Nat) (hf : fOff P t j = some k') (hi : q + k' = q') (hO : Own w M bs) (hd : Nat.ble (d + 1) n = true) (e : ev E x = some (.pointer (some ⟨b, q, none⟩))) (k : RG P ops Q rest n ((d, .pointer (some ⟨b, q', none⟩)) :: E) w) : RG P ops Q (⟨some d, .fieldAddr t x j, ty, ps, af, none⟩ :: rest) n E w := ry hO hd (yf q' hf hi trivial e) k
theorem ln {t m l c : Nat} {p : Option Addr} (ht : slEl P t = some m) (hO : Own w M bs) (hd : Nat.ble (d + 1) n = true) (e : ev E x = some (.slice p l c)) (k : RG P ops Q rest n ((d, .int .i64 l) :: E) w) : RG P ops Q (⟨some d, .call { callee := .builtin .len, args := #[x], argTypes := #[t] }, ty, ps, af, none⟩ :: rest) n E w := ry hO hd (y_len ht trivial e) k
theorem hm (hi : ops[i]? = some ⟨some d, .move x, ty, ps, af, none⟩) (hd : Nat.ble (d + 1) n = true) (hQ : ∀ c a w, Q (.panic c) (a.put (some d) v) w → Q (.panic c) a w) (e : ev E x = some v) (k : HG P ops Q S r n ((d, v) :: E) w) : HG P ops Q S (.take i r) n E w := gy hi hd hQ (ym trivial e) k
theorem ha (hi : ops[i]? = some ⟨some d, .assign x, ty, ps, af, none⟩) (hd : Nat.ble (d + 1) n = true) (hQ : ∀ c a w, Q (.panic c) (a.put (some d) v) w → Q (.panic c) a w) (e : ev E x = some v) (k : HG P ops Q S r n ((d, v) :: E) w) : HG P ops Q S (.take i r) n E w := gy hi hd hQ (y_assign trivial e) k
theorem hn {p : Addr} (hi : ops[i]? = some ⟨some d, .nilCheck x, ty, ps, af, none⟩) (hd : Nat.ble (d + 1) n = true) (hQ : ∀ c a w, Q (.panic c) (a.put (some d) (.pointer (some p))) w → Q (.panic c) a w) (e : ev E x = some (.pointer (some p))) (k : HG P ops Q S r n ((d, .pointer (some p)) :: E) w) : HG P ops Q S (.take i r) n E w := gy hi hd hQ (yn trivial e) k
theorem hfa {p : Addr} {t j k' : Nat} (hf : fOff P t j = some k') (hi : ops[i]? = some ⟨some d, .fieldAddr t x j, ty, ps, af, none⟩) (hd : Nat.ble (d + 1) n = true) (hQ : ∀ c a w, Q (.panic c) (a.put (some d) (.pointer (some (p.add k')))) w → Q (.panic c) a w) (e : ev E x = some (.pointer (some p))) (k : HG P ops Q S r n ((d, .pointer (some (p.add k'))) :: E) w) : HG P ops Q S (.take i r) n E w := gy hi hd hQ (ya hf trivial e) k
theorem hfb {t j k' b q : Nat} (q' : Nat) (hf : fOff P t j = some k') (hq : q + k' = q') (hi : ops[i]? = some ⟨some d, .fieldAddr t x j, ty, ps, af, none⟩) (hd : Nat.ble (d + 1) n = true) (hQ : ∀ c a w, Q (.panic c) (a.put (some d) (.pointer (some ⟨b, q', none⟩))) w → Q (.panic c) a w) (e : ev E x = some (.pointer (some ⟨b, q, none⟩))) (k : HG P ops Q S r n ((d, .pointer (some ⟨b, q', none⟩)) :: E) w) : HG P ops Q S (.take i r) n E w := gy hi hd hQ (yf q' hf hq trivial e) k
theorem lc {t : Nat} {p : Addr} {vs : List Value} (ht : lone1 P t = true) (hat : At M p vs) (j : Nat) (hj : vs[j]? = some v) (hO : Own w M bs) (hd : Nat.ble (d + 1) n = true) (e : ev E x = some (.pointer (some (p.add j)))) (k : RG P ops Q rest n ((d, v) :: E) w) : RG P ops Q (⟨some d, .load t x, ty, ps, af, none⟩ :: rest) n E w := ry hO hd (yl ht trivial e (fun _ h => hat.cell h j hj)) k
theorem hlc {t : Nat} {p : Addr} {vs : List Value} (ht : lone1 P t = true) (hat : At M p vs) (j : Nat) (hj : vs[j]? = some v) (hi : ops[i]? = some ⟨some d, .load t x, ty, ps, af, none⟩) (hd : Nat.ble (d + 1) n = true) (hQ : ∀ c a w, Q (.panic c) (a.put (some d) v) w → Q (.panic c) a w) (e : ev E x = some (.pointer (some (p.add j))))
    (k : HG P ops Q (fun w => Own w M bs) r n ((d, v) :: E) w) : HG P ops Q (fun w => Own w M bs) (.take i r) n E w := gy hi hd hQ (yl ht trivial e (fun _ h => hat.cell h j hj)) k
end short
/-! ### Calls: the frame at the beginning, the results at the end -/
def argEnv : Nat → List Value → Env
  | _, [] => []
  | i, v :: r => (i, v) :: argEnv (i + 1) r
theorem look_argEnv : ∀ (vs : List Value) (i t : Nat) (v : Value), look (argEnv i vs) t = some v → i ≤ t ∧ vs[t - i]? = some v
  | [], _, _, _, e => by cases e
  | u :: r, i, t, v, e => by
    simp only [argEnv] at e
    by_cases h : i = t
    · subst h; rw [look_cons_self] at e; cases e; simp
    · rw [look_cons_ne _ _ h] at e
      obtain ⟨h1, h2⟩ := look_argEnv r (i + 1) t v e
      refine ⟨by omega, ?_⟩
      rw [show t - i = (t - (i + 1)) + 1 by omega]; simpa using h2
section calls
variable {P : Program} {n : Nat} {E : Env} {w : World} {R : Ending → World → Prop} {fn : Func}
theorem ce {f : FuncId} {c : Code} {vs : List Value} (hf : P.funcs[f]? = some fn) (hb : fn.body = some c) (hn : fn.ntmps = n) (hl : Nat.ble vs.length n = true) (h : CG P c (bodyPost P fn R) n (argEnv 0 vs) w) :
    Calls P f vs.toArray w R := by
  refine calls_of_wp hf hb (h _ ⟨rfl, ?_, fun t v e => ?_⟩)
  · have := Nat.le_of_ble_eq_true hl
    simp [hn]; omega
  · obtain ⟨_, h2⟩ := look_argEnv vs 0 t v e
    have hlt : t < vs.length := (List.getElem?_eq_some_iff.1 h2).1
    rw [Array.getElem?_append_left (by simpa using hlt)]
    simpa using h2
theorem ends_ret0 {x : Exit} (hx : x = .ret ∨ x = .normal) (hr : fn.results = #[]) (h : R (.returned (.tuple #[])) w) : Ends (bodyPost P fn R) x n E w := fun a f => by
  have : bodyPost P fn R .ret a w := bodyPost_ret (results_none hr _ P w) f.d h
  rcases hx with rfl | rfl <;> exact this
theorem er {x : Exit} {t : Nat} {v : Value} (hx : x = .ret ∨ x = .normal) (hr : fn.results = #[.tmp t]) (e : look E t = some v) (h : R (.returned v) w) : Ends (bodyPost P fn R) x n E w := fun a f => by
  have h1 := f.l _ _ e
  have : bodyPost P fn R .ret a w := bodyPost_ret (v := v) (by rw [results_tmp hr]; simp [h1]) f.d h
  rcases hx with rfl | rfl <;> exact this
theorem ends_ret2 {x : Exit} {t u : Nat} {v1 v2 : Value} (hx : x = .ret ∨ x = .normal) (hr : fn.results = #[.tmp t, .tmp u]) (e1 : look E t = some v1) (e2 : look E u = some v2) (h : R (.returned (.tuple #[v1, v2])) w) : Ends (bodyPost P fn R) x n E w := fun a f => by
  have h1 := f.l _ _ e1
  have h2 := f.l _ _ e2
  have : bodyPost P fn R .ret a w := bodyPost_ret (v := .tuple #[v1, v2]) (by rw [results_tmp2 hr]; simp [h1, h2]) f.d h
  rcases hx with rfl | rfl <;> exact this
theorem ends_ret3 {x : Exit} {t u s : Nat} {v1 v2 v3 : Value} (hx : x = .ret ∨ x = .normal) (hr : fn.results = #[.tmp t, .tmp u, .tmp s]) (e1 : look E t = some v1) (e2 : look E u = some v2) (e3 : look E s = some v3) (h : R (.returned (.tuple #[v1, v2, v3])) w) :
    Ends (bodyPost P fn R) x n E w := fun a f => by
  have h1 := f.l _ _ e1
  have h2 := f.l _ _ e2
  have h3 := f.l _ _ e3
  have : bodyPost P fn R .ret a w := bodyPost_ret (v := .tuple #[v1, v2, v3]) (by simp [results, hr, h1, h2, h3]) f.d h
  rcases hx with rfl | rfl <;> exact this
end calls
/- Short names. -/
theorem tz : True := .intro
theorem ot {p : Prop} [Decidable p] (h : decide p = true) : p := of_decide_eq_true h
theorem oq {p : Prop} [Decidable p] (h : decide p = false) : ¬ p := of_decide_eq_false h
theorem nb {n m : Nat} (h : Nat.ble n m = true) : n ≤ m := Nat.le_of_ble_eq_true h
theorem bt (b : Bool) : b = true ∨ b = false := Bool.eq_false_or_eq_true b
theorem o_ {α : Type} {a b : α} (h : some a = some b) : a = b := Option.some.inj h
theorem mr (m : Mem) : Mem.le m m := Mem.le_refl m
theorem m_ {a b c : Mem} (h : Mem.le a b) (h' : Mem.le b c) : Mem.le a c := Mem.le_trans h h'
theorem ob {w : World} {M : Mem} {bs : List (Nat × Obj)} (h : Own w M bs) (k i : Nat) {b : Nat} {c : Array Value} {T : TypeId} {v : Value} (e : bs[k]? = some (b, .cells c T)) (ec : c[i]? = some v) : w.cell? ⟨b, i, none⟩ = some v := h.cellB k i e ec
end Go.Proofs.YtdniefnjgkhkeaaDoor
