/-
  How Go's data read: a value's cells, in a memory, as a plain datum; slices; pointers.
  Conditions: none.
-/
import Derived.Test.YtdniefnjgkhkeaaDoorLg
namespace Go.Proofs.YtdniefnjgkhkeaaDoor
set_option linter.unusedVariables false
set_option linter.unusedSimpArgs false
open Go

class Rep (α : Type) where
  n : Nat
  sz : Nat
  rd : Mem → List Value → α → Prop
  len : ∀ {M : Mem} {vs : List Value} {x : α}, rd M vs x → vs.length = n
  mono : ∀ {M M' : Mem} {vs : List Value} {x : α}, rd M vs x → Mem.le M M' → rd M' vs x
  one : ∀ {M : Mem} {vs : List Value} {x : α}, rd M vs x → vs.all oneCell = true

/-- A datum x lies from address p on. -/
def PAt {α : Type} [Rep α] (M : Mem) (p : Addr) (x : α) : Prop := ∃ vs, At M p vs ∧ Rep.rd M vs x
theorem PAt.mono {α : Type} [Rep α] {M M' : Mem} {p : Addr} {x : α} (h : PAt M p x) (le : Mem.le M M') : PAt M' p x :=
  let ⟨vs, a, r⟩ := h; ⟨vs, a.mono le, Rep.mono r le⟩
/-- A slice from base on, of that capacity, reads as the list l. -/
structure RdS {α : Type} [Rep α] (M : Mem) (base : Option Addr) (cap : Nat) (l : List α) : Prop where
  le : l.length ≤ cap
  bd : l.length * Rep.sz α ≤ 140737488351232
  el : ∀ i x, l[i]? = some x → ∃ p, base = some p ∧ PAt M (p.add (i * Rep.n α)) x
theorem RdS.mono {α : Type} [Rep α] {M M' : Mem} {base : Option Addr} {cap : Nat} {l : List α} (h : RdS M base cap l) (le : Mem.le M M') : RdS M' base cap l :=
  ⟨h.le, h.bd, fun i x e => let ⟨p, hp, r⟩ := h.el i x e; ⟨p, hp, r.mono le⟩⟩
def nth {α : Type} [Inhabited α] (l : List α) (i : Nat) : α := l.getD i default
theorem nth_eq {α : Type} [Inhabited α] {l : List α} {i : Nat} (h : i < l.length) : l[i]? = some (nth l i) := by simp [nth, h]
theorem RdS.get {α : Type} [Rep α] [Inhabited α] {M : Mem} {base : Option Addr} {cap : Nat} {l : List α} (h : RdS M base cap l) (i : Nat) (hi : i < l.length) : ∃ p, base = some p ∧ PAt M (p.add (i * Rep.n α)) (nth l i) :=
  h.el i _ (nth_eq hi)
theorem RdS.at {α : Type} [Rep α] [Inhabited α] {M : Mem} {p : Addr} {cap : Nat} {l : List α} (h : RdS M (some p) cap l) (i : Nat) (hi : i < l.length) : PAt M (p.add (i * Rep.n α)) (nth l i) := by
  obtain ⟨q, e, r⟩ := h.get i hi; cases e; exact r
theorem RdS.nil {α : Type} [Rep α] (M : Mem) (base : Option Addr) (cap : Nat) : RdS M base cap ([] : List α) := ⟨Nat.zero_le _, by simp, fun i x e => by simp at e⟩
instance : Rep Int := ⟨1, 8, fun _ vs x => vs = [.int .i64 x], fun h => by subst h; rfl, fun h _ => h, fun h => by subst h; rfl⟩
instance : Rep Bool := ⟨1, 1, fun _ vs x => vs = [.bool x], fun h => by subst h; rfl, fun h _ => h, fun h => by subst h; rfl⟩
instance {α : Type} [Rep α] : Rep (List α) := ⟨1, 24, fun M vs l => ∃ b c, vs = [.slice b l.length c] ∧ RdS M b c l, fun ⟨_, _, h, _⟩ => by subst h; rfl, fun ⟨b, c, h, r⟩ le => ⟨b, c, h, r.mono le⟩, fun ⟨_, _, h, _⟩ => by subst h; rfl⟩

/-! ### The program's own data -/
structure Ins where (kind a : Int) deriving DecidableEq, Inhabited
structure FuncD where (args locals : Int) (code : List Ins) deriving DecidableEq, Inhabited
structure Prog where (funcs : List FuncD) deriving DecidableEq, Inhabited
structure Src where (cst : Bool) (v : Int) deriving DecidableEq, Inhabited
structure Part where (fn pc : Int) (locals stack : List Src) deriving DecidableEq, Inhabited
structure Meta where (parts : List Part) deriving DecidableEq, Inhabited
structure Ir where (kind r a b k : Int) (args : List Int) (cost mt pc : Int) deriving DecidableEq, Inhabited
structure CodeD where (fn regs : Int) (code : List Ir) (metas : List Meta) deriving DecidableEq, Inhabited

instance : Rep Ins := ⟨2, 16, fun _ vs x => vs = [.int .i64 x.kind, .int .i64 x.a], fun h => by subst h; rfl, fun h _ => h, fun h => by subst h; rfl⟩
instance : Rep FuncD := ⟨3, 40, fun M vs x => ∃ b c, vs = [.int .i64 x.args, .int .i64 x.locals, .slice b x.code.length c] ∧ RdS M b c x.code, fun ⟨_, _, h, _⟩ => by subst h; rfl, fun ⟨b, c, h, r⟩ le => ⟨b, c, h, r.mono le⟩, fun ⟨_, _, h, _⟩ => by subst h; rfl⟩
instance : Rep Prog := ⟨1, 24, fun M vs x => ∃ b c, vs = [.slice b x.funcs.length c] ∧ RdS M b c x.funcs, fun ⟨_, _, h, _⟩ => by subst h; rfl, fun ⟨b, c, h, r⟩ le => ⟨b, c, h, r.mono le⟩, fun ⟨_, _, h, _⟩ => by subst h; rfl⟩
instance : Rep Src := ⟨2, 16, fun _ vs x => vs = [.bool x.cst, .int .i64 x.v], fun h => by subst h; rfl, fun h _ => h, fun h => by subst h; rfl⟩
instance : Rep Part := ⟨4, 64, fun M vs x => ∃ b c b' c', vs = [.int .i64 x.fn, .int .i64 x.pc, .slice b x.locals.length c, .slice b' x.stack.length c'] ∧ RdS M b c x.locals ∧ RdS M b' c' x.stack,
  fun ⟨_, _, _, _, h, _⟩ => by subst h; rfl, fun ⟨b, c, b', c', h, r, r'⟩ le => ⟨b, c, b', c', h, r.mono le, r'.mono le⟩, fun ⟨_, _, _, _, h, _⟩ => by subst h; rfl⟩
instance : Rep Meta := ⟨1, 24, fun M vs x => ∃ b c, vs = [.slice b x.parts.length c] ∧ RdS M b c x.parts, fun ⟨_, _, h, _⟩ => by subst h; rfl, fun ⟨b, c, h, r⟩ le => ⟨b, c, h, r.mono le⟩, fun ⟨_, _, h, _⟩ => by subst h; rfl⟩
instance : Rep Ir := ⟨9, 88, fun M vs x => ∃ b c, vs = [.int .i64 x.kind, .int .i64 x.r, .int .i64 x.a, .int .i64 x.b, .int .i64 x.k, .slice b x.args.length c, .int .i64 x.cost, .int .i64 x.mt, .int .i64 x.pc] ∧ RdS M b c x.args,
  fun ⟨_, _, h, _⟩ => by subst h; rfl, fun ⟨b, c, h, r⟩ le => ⟨b, c, h, r.mono le⟩, fun ⟨_, _, h, _⟩ => by subst h; rfl⟩
instance : Rep CodeD := ⟨4, 64, fun M vs x => ∃ b c b' c', vs = [.int .i64 x.fn, .int .i64 x.regs, .slice b x.code.length c, .slice b' x.metas.length c'] ∧ RdS M b c x.code ∧ RdS M b' c' x.metas,
  fun ⟨_, _, _, _, h, _⟩ => by subst h; rfl, fun ⟨b, c, b', c', h, r, r'⟩ le => ⟨b, c, b', c', h, r.mono le, r'.mono le⟩, fun ⟨_, _, _, _, h, _⟩ => by subst h; rfl⟩

/-- A pointer to a datum. -/
structure Ptr (α : Type) where (val : α)
instance {α : Type} [Rep α] : Rep (Ptr α) := ⟨1, 8, fun M vs x => ∃ p, vs = [.pointer (some p)] ∧ PAt M p x.val, fun ⟨_, h, _⟩ => by subst h; rfl, fun ⟨p, h, r⟩ le => ⟨p, h, r.mono le⟩, fun ⟨_, h, _⟩ => by subst h; rfl⟩

/-! ### What calls answer -/
/-- The call returns v, with R of it; it leaves all that is known as it was. -/
def Ret (M : Mem) (bs : List (Nat × Obj)) (R : Mem → Value → Prop) (e : Ending) (w' : World) : Prop :=
  ∃ M' v, Mem.le M M' ∧ Own w' M' bs ∧ e = .returned v ∧ R M' v
theorem Ret.mk {M M' : Mem} {bs : List (Nat × Obj)} {R : Mem → Value → Prop} {w' : World} {v : Value} (le : Mem.le M M') (o : Own w' M' bs) (r : R M' v) : Ret M bs R (.returned v) w' := ⟨M', v, le, o, rfl, r⟩

/-- The call returns a slice of new memory that is the caller's own from then on. -/
def RetR (M : Mem) (bs : List (Nat × Obj)) (R : Mem → List (Nat × Obj) → Value → Prop) (e : Ending) (w' : World) : Prop :=
  ∃ M' rs v, Mem.le M M' ∧ Own w' M' (rs ++ bs) ∧ e = .returned v ∧ R M' rs v
theorem RetR.mk {M M' : Mem} {bs rs : List (Nat × Obj)} {R : Mem → List (Nat × Obj) → Value → Prop} {w' : World} {v : Value} (le : Mem.le M M') (o : Own w' M' (rs ++ bs)) (r : R M' rs v) : RetR M bs R (.returned v) w' := ⟨M', rs, v, le, o, rfl, r⟩

/-! ### A block of the call's own as persistent memory, for a while -/
/-- These blocks stand in memory. -/
def Has (M : Mem) (rs : List (Nat × Obj)) : Prop := ∀ p ∈ rs, M p.1 = some p.2
theorem Has.mono {M M' : Mem} {rs : List (Nat × Obj)} (h : Has M rs) (le : Mem.le M M') : Has M' rs := fun p hp => le _ _ (h p hp)
/-- These blocks are not in memory. -/
def Hasnt (M : Mem) (rs : List (Nat × Obj)) : Prop := ∀ p ∈ rs, M p.1 = none
theorem Own.keeps {w : World} {M : Mem} : ∀ {rs : List (Nat × Obj)} {bs : List (Nat × Obj)}, Own w M (rs ++ bs) → ∃ M', Mem.le M M' ∧ Own w M' bs ∧ Has M' rs ∧ Hasnt M rs ∧ (rs.map (·.1)).Nodup
  | [], bs, h => ⟨M, Mem.le_refl _, h, (fun _ hp => by cases hp), (fun _ hp => by cases hp), by simp⟩
  | (b, o) :: r, bs, h => by
    have h1 : Own w (M.add b o) (r ++ bs) := Own.keep h
    obtain ⟨M', le, o', has, _, nd⟩ := Own.keeps h1
    have hnd : ((b, o) :: r ++ bs).map (·.1) |>.Nodup := h.nd
    refine ⟨M', Mem.le_trans (Own.le_keep h) le, o', fun p hp => ?_, fun p hp => h.off p (List.mem_append_left _ hp), ?_⟩
    · rcases List.mem_cons.1 hp with rfl | hp
      · exact le _ _ Mem.add_self
      · exact has p hp
    · have := hnd.sublist (List.Sublist.map (·.1) (List.sublist_append_left ((b, o) :: r) bs)); simpa using this
def Mem.del (M : Mem) (rs : List (Nat × Obj)) : Mem := ⟨fun x => if x ∈ rs.map (·.1) then none else M.f x, M.u⟩
theorem Mem.del_f {M : Mem} {rs : List (Nat × Obj)} {x : Nat} : (M.del rs).f x = if x ∈ rs.map (·.1) then none else M.f x := rfl
theorem Own.unkeeps {w : World} {M M2 : Mem} {rs bs : List (Nat × Obj)} (h : Own w M2 bs) (has : Has M2 rs) (hn : Hasnt M rs) (nd : (rs.map (·.1)).Nodup) (le : Mem.le M M2) : ∃ M3, Mem.le M M3 ∧ Own w M3 (rs ++ bs) := by
  refine ⟨M2.del rs, ⟨fun b o e => ?_, le.u⟩, fun b o e => ?_, fun p hp => ?_, fun p hp => ?_, ?_, h.u⟩
  · show (M2.del rs).f b = _
    rw [Mem.del_f]
    rw [if_neg (fun hm => by obtain ⟨p, hp, rfl⟩ := List.mem_map.1 hm; rw [hn p hp] at e; cases e)]; exact le _ _ e
  · rw [Mem.del_f] at e; split at e
    · cases e
    · exact h.sub b o e
  · rcases List.mem_append.1 hp with hp | hp
    · exact h.sub _ _ (has p hp)
    · exact h.blk p hp
  · rcases List.mem_append.1 hp with hp | hp
    · rw [Mem.del_f]; rw [if_pos (List.mem_map_of_mem hp)]
    · rw [Mem.del_f]; split
      · rfl
      · exact h.off p hp
  · rw [List.map_append, List.nodup_append]
    refine ⟨nd, h.nd, fun a ha b hb hab => ?_⟩
    obtain ⟨p, hp, rfl⟩ := List.mem_map.1 ha
    obtain ⟨q, hq, rfl⟩ := List.mem_map.1 hb
    have h1 := h.off q hq
    have h2 := has p hp
    rw [hab, h1] at h2; cases h2
theorem Own.front1 {w : World} {M : Mem} {a b t : List (Nat × Obj)} (h : Own w M (a ++ (b ++ t))) : Own w M (b ++ (a ++ t)) :=
  h.perm (by rw [← List.append_assoc, ← List.append_assoc]; exact List.perm_append_comm.append_right t)
theorem Own.front2 {w : World} {M : Mem} {a b c t : List (Nat × Obj)} (h : Own w M (a ++ (b ++ (c ++ t)))) : Own w M (c ++ (a ++ (b ++ t))) := by
  have : Own w M ((a ++ b) ++ (c ++ t)) := by rw [List.append_assoc]; exact h
  have := this.front1; rwa [List.append_assoc] at this
theorem Own.front3 {w : World} {M : Mem} {a b c d t : List (Nat × Obj)} (h : Own w M (a ++ (b ++ (c ++ (d ++ t))))) : Own w M (d ++ (a ++ (b ++ (c ++ t)))) := by
  have : Own w M ((a ++ (b ++ c)) ++ (d ++ t)) := by simpa [List.append_assoc] using h
  have := this.front1; simpa [List.append_assoc] using this
theorem Own.front4 {w : World} {M : Mem} {a b c d e t : List (Nat × Obj)} (h : Own w M (a ++ (b ++ (c ++ (d ++ (e ++ t)))))) : Own w M (e ++ (a ++ (b ++ (c ++ (d ++ t))))) := by
  have : Own w M ((a ++ (b ++ (c ++ d))) ++ (e ++ t)) := by simpa [List.append_assoc] using h
  have := this.front1; simpa [List.append_assoc] using this
theorem Own.forget {w : World} {M : Mem} {a t : List (Nat × Obj)} (h : Own w M (a ++ t)) : Own w M t := h.sublist (List.sublist_append_right ..)
theorem Own.mid1 {w : World} {M : Mem} {a b t : List (Nat × Obj)} (h : Own w M (a ++ (b ++ t))) : Own w M (a ++ t) := h.front1.forget
theorem Own.mid2 {w : World} {M : Mem} {a b c t : List (Nat × Obj)} (h : Own w M (a ++ (b ++ (c ++ t)))) : Own w M (a ++ t) := h.front1.forget.mid1
theorem Own.mid3 {w : World} {M : Mem} {a b c d t : List (Nat × Obj)} (h : Own w M (a ++ (b ++ (c ++ (d ++ t))))) : Own w M (a ++ t) := h.front1.forget.mid2
theorem Own.mid4 {w : World} {M : Mem} {a b c d e t : List (Nat × Obj)} (h : Own w M (a ++ (b ++ (c ++ (d ++ (e ++ t)))))) : Own w M (a ++ t) := h.front1.forget.mid3
/-- What lies in a block of the call's own, once it is kept. -/
theorem Has.at {M : Mem} {b : Nat} {c : Array Value} {T : TypeId} {vs : List Value} (h : Has M [(b, .cells c T)]) (e : c = vs.toArray) : At M ⟨b, 0, none⟩ vs :=
  ⟨rfl, c, T, (0, 0), h _ (List.mem_singleton.2 rfl), fun j v x => by subst e; simpa using x⟩

/-! ### Rows of the call's own -/
def Elems {α : Type} [Rep α] (M : Mem) (c : Array Value) (off : Nat) (l : List α) : Prop :=
  ∀ i x, l[i]? = some x → ∃ vs, (∀ j v, vs[j]? = some v → c[off + i * Rep.n α + j]? = some v) ∧ Rep.rd M vs x
theorem Elems.mono {α : Type} [Rep α] {M M' : Mem} {c : Array Value} {off : Nat} {l : List α} (h : Elems M c off l) (le : Mem.le M M') : Elems M' c off l :=
  fun i x e => let ⟨vs, a, r⟩ := h i x e; ⟨vs, a, Rep.mono r le⟩
/-- The slice from base on, of that capacity, holds l; its blocks rs are the call's own. -/
structure Rw {α : Type} [Rep α] (M : Mem) (rs : List (Nat × Obj)) (base : Option Addr) (cap : Nat) (l : List α) : Prop where
  le : l.length ≤ cap
  bd : l.length * Rep.sz α ≤ 140737488351232
  it : (rs = [] ∧ base = none ∧ cap = 0) ∨ ∃ b c T off, rs = [(b, .cells c T)] ∧ base = some ⟨b, off, none⟩ ∧ off + cap * Rep.n α ≤ c.size ∧ Elems M c off l
section rws
variable {α : Type} [Rep α] {M M' : Mem} {rs : List (Nat × Obj)} {base : Option Addr} {cap : Nat} {l : List α}
theorem Rw.mono (h : Rw M rs base cap l) (le : Mem.le M M') : Rw M' rs base cap l :=
  ⟨h.le, h.bd, h.it.imp id fun ⟨b, c, T, off, e, e2, hs, he⟩ => ⟨b, c, T, off, e, e2, hs, he.mono le⟩⟩
theorem Rw.nil (M : Mem) : Rw M [] none 0 ([] : List α) := ⟨Nat.le_refl _, by simp, .inl ⟨rfl, rfl, rfl⟩⟩
/-- Kept, it reads as a slice. -/
theorem Rw.kept (h : Rw M rs base cap l) (has : Has M' rs) (le : Mem.le M M') : RdS M' base cap l := by
  refine ⟨h.le, h.bd, fun i x e => ?_⟩
  rcases h.it with ⟨_, _, hc⟩ | ⟨b, c, T, off, rfl, rfl, hs, he⟩
  · have := h.le; rw [hc] at this; have hl : l = [] := List.eq_nil_of_length_eq_zero (by omega); subst hl; simp at e
  · obtain ⟨vs, hv, hr⟩ := he i x e
    refine ⟨_, rfl, vs, ⟨by rw [Addr.add_eq _ _ rfl], c, T, (0, 0), ?_, fun j v hj => ?_⟩, Rep.mono hr le⟩
    · rw [Addr.add_eq _ _ rfl]; exact has _ (List.mem_singleton.2 rfl)
    · rw [Addr.add_eq _ _ rfl]; exact hv j v hj
theorem Rw.ex (h : Rw M rs base cap l) {i : Nat} (hi : i < l.length) : ∃ b c T off, rs = [(b, .cells c T)] ∧ base = some ⟨b, off, none⟩ ∧ off + cap * Rep.n α ≤ c.size ∧ Elems M c off l := by
  rcases h.it with ⟨_, _, hc⟩ | h'
  · have := h.le; omega
  · exact h'
theorem Rw.ofs (h : Rw M rs base cap l) {i : Nat} (hi : i < l.length) : ∃ b off, base = some ⟨b, off, none⟩ := let ⟨b, _, _, off, _, e, _⟩ := h.ex hi; ⟨b, off, e⟩
/-- The cells of element i. -/
theorem Rw.cells [Inhabited α] {p : Addr} {t : List (Nat × Obj)} (h : Rw M rs (some p) cap l) (i : Nat) (hi : i < l.length) : ∃ vs, Rep.rd M vs (nth l i) ∧ ∀ w, Own w M (rs ++ t) → ∀ j v, vs[j]? = some v → w.cell? ((p.add (i * Rep.n α)).add j) = some v := by
  obtain ⟨b, c, T, off, rfl, e, hs, he⟩ := h.ex hi
  cases e
  obtain ⟨vs, hv, hr⟩ := he i _ (nth_eq hi)
  refine ⟨vs, hr, fun w hO j v hj => ?_⟩
  rw [Addr.add_eq ⟨b, off, none⟩ _ rfl, Addr.add_eq _ _ rfl]
  exact hO.cellB 0 _ rfl (hv j v hj)
theorem putCells_size : ∀ (vs : List Value) (c : Array Value) (i : Nat), (putCells c i vs).size = c.size
  | [], c, i => rfl
  | v :: r, c, i => by simp [putCells, putCells_size r]
theorem putCells_lt : ∀ (vs : List Value) (c : Array Value) (i q : Nat), q < i → (putCells c i vs)[q]? = c[q]?
  | [], c, i, q, _ => rfl
  | v :: r, c, i, q, h => by
    simp only [putCells]; rw [putCells_lt r _ (i + 1) q (by omega), Array.getElem?_setIfInBounds_ne (by omega)]
theorem putCells_ge : ∀ (vs : List Value) (c : Array Value) (i q : Nat), i + vs.length ≤ q → (putCells c i vs)[q]? = c[q]?
  | [], c, i, q, _ => rfl
  | v :: r, c, i, q, h => by
    simp only [List.length_cons] at h
    simp only [putCells]; rw [putCells_ge r _ (i + 1) q (by omega), Array.getElem?_setIfInBounds_ne (by omega)]
theorem putCells_in : ∀ (vs : List Value) (c : Array Value) (i j : Nat) (v : Value), i + vs.length ≤ c.size → vs[j]? = some v → (putCells c i vs)[i + j]? = some v
  | [], c, i, j, v, _, e => by simp at e
  | u :: r, c, i, 0, v, h, e => by
    simp at e; subst e
    simp only [putCells, Nat.add_zero]; rw [putCells_lt r _ (i + 1) i (by omega)]
    have : i < c.size := by simp only [List.length_cons] at h; omega
    simp [this]
  | u :: r, c, i, j + 1, v, h, e => by
    simp only [putCells]
    have := putCells_in r (c.setIfInBounds i u) (i + 1) j v (by simp only [Array.size_setIfInBounds]; simp only [List.length_cons] at h; omega) (by simpa using e)
    rwa [show i + 1 + j = i + (j + 1) by omega] at this
theorem Elems.put {c : Array Value} {off i : Nat} {x : α} {vs : List Value} (h : Elems M c off l) (hi : i < l.length) (hs : off + l.length * Rep.n α ≤ c.size) (r : Rep.rd M vs x) : Elems M (putCells c (off + i * Rep.n α) vs) off (l.set i x) := by
  have hn : vs.length = Rep.n α := Rep.len r
  have hsz : off + i * Rep.n α + Rep.n α ≤ c.size := by
    have : (i + 1) * Rep.n α ≤ l.length * Rep.n α := Nat.mul_le_mul_right _ hi
    rw [Nat.add_mul] at this; omega
  intro k y e
  by_cases hk : i = k
  · subst hk
    rw [List.getElem?_set_self hi] at e; cases e
    exact ⟨vs, fun j v hj => putCells_in vs c _ j v (by omega) hj, r⟩
  · rw [List.getElem?_set_ne hk] at e
    obtain ⟨us, hu, hr⟩ := h k y e
    refine ⟨us, fun j v hj => ?_, hr⟩
    have hj' : j < Rep.n α := by rw [← Rep.len hr]; exact (List.getElem?_eq_some_iff.1 hj).1
    rw [← hu j v hj]
    rcases Nat.lt_or_ge k i with hlt | hge
    · have : (k + 1) * Rep.n α ≤ i * Rep.n α := Nat.mul_le_mul_right _ hlt
      rw [Nat.add_mul] at this
      exact putCells_lt _ _ _ _ (by omega)
    · have : (i + 1) * Rep.n α ≤ k * Rep.n α := Nat.mul_le_mul_right _ (by omega)
      rw [Nat.add_mul] at this
      exact putCells_ge _ _ _ _ (by omega)
end rws
end Go.Proofs.YtdniefnjgkhkeaaDoor
