/-
  What package ir's and package frame's functions compute, in plain Lean; the comparison of two instructions of the stack machine.
  Conditions: none.
-/
import Derived.Test.YtdniefnjgkhkeaaDoorV2
import Derived.Laws.StructEq
namespace Go.Proofs.YtdniefnjgkhkeaaDoor
set_option linter.unusedVariables false
set_option linter.unusedSimpArgs false
open Go
instance {α : Type} [Inhabited α] : Inhabited (Ptr α) := ⟨⟨default⟩⟩
instance : Rep Sheet := ⟨3, 40, fun M vs x => ∃ p q b c, vs = [.pointer (some p), .pointer (some q), .slice b x.heights.length c] ∧ PAt M p x.code.val ∧ PAt M q x.p.val ∧ RdS M b c x.heights,
  fun ⟨_, _, _, _, h, _⟩ => by subst h; rfl, fun ⟨p, q, b, c, h, r1, r2, r3⟩ le => ⟨p, q, b, c, h, r1.mono le, r2.mono le, r3.mono le⟩, fun ⟨_, _, _, _, h, _⟩ => by subst h; rfl⟩
section
variable {P : Program} {ops : Array Oper} {S : World → Prop} {n : Nat} {E : Env} {d : Option Nat} {ty : TypeId} {ps : String} {af : Array Edge} {g : Option (Nat × Bool)}
/-- What comes behind x is shown once. -/
theorem cg_cut {P : Program} {Q : Exit → Act → World → Prop} {n : Nat} {E E' : Env} {w : World} {x z : Code} (C : World → Prop) (h1 : ∀ w', C w' → CG P z Q n E' w') (h2 : (∀ w', C w' → CG P z Q n E' w') → CG P (.seq x z) Q n E w) : CG P (.seq x z) Q n E w := h2 h1
/-- What the guard asks of was not reckoned. -/
def UnmetU (ops : Array Oper) (E : Env) : Option (Nat × Bool) → Prop
  | none => False
  | some (j, _) => match (ops[j]?).bind (·.dst) with | some t => look E t = some undef | none => False
theorem UnmetU.wanted {E : Env} {a : Act} {o : Oper} (h : UnmetU ops E o.guard) (f : Fits n E a) : Region.wanted o (yielded ops a.tmps) = false := by
  unfold Region.wanted
  split
  · rename_i hg; rw [hg] at h; exact h.elim
  · rename_i j b hg
    rw [hg] at h
    simp only [UnmetU] at h
    unfold yielded
    cases ht : (ops[j]?).bind (·.dst) with
    | none => rw [ht] at h; exact h.elim
    | some t => rw [ht] at h; have := f.l _ _ h; simp [this, undef]
theorem yu {op : Op} (hg : UnmetU ops E g) : Y P ops S n E ⟨d, op, ty, ps, af, g⟩ undef := fun _ f => .inr ⟨UnmetU.wanted (o := ⟨d, op, ty, ps, af, g⟩) hg f, rfl⟩
theorem y_eqS {x y : Operand} {t u : TypeId} {vs us : List Value} {r : Bool} (hm : P.eqGuardType P.depth t = false) (h : ∀ w, (Op.equal t (.agg vs.toArray) (.agg us.toArray)).run P w = .ok r w) (hg : Met ops E g) (e1 : ev E x = some (.agg vs.toArray)) (e2 : ev E y = some (.agg us.toArray)) :
    Y P ops S n E ⟨d, .binOp .eql t x y u, ty, ps, af, g⟩ (.bool r) := y_of hg fun z f w _ => by
  simp only [execOp, f.eval e1, f.eval e2, Sem.run_bind]
  have := run_binEq (P := P) (x := .agg vs.toArray) (y := .agg us.toArray) w (fun X Y => run_eqGuard_agg w .eql t X Y _ _ hm) rfl (h w) x y
  rw [Sem.run_bind] at this; rw [this]; rfl
end
theorem hmIns : Tryd.prog.eqGuardType Tryd.prog.depth 41 = false := by kernel_rfl
theorem eqIns (a b c d : Int) (w : World) : (Op.equal 41 (.agg #[.int .i64 a, .int .i64 b]) (.agg #[.int .i64 c, .int .i64 d])).run Tryd.prog w = .ok (decide (a = c) && decide (b = d)) w := by
  show (Op.equalIn (9999 + 1) _ _ _).run _ w = _
  rw [run_equalIn_struct w 9999 41 _ _ (by kernel_rfl) (by kernel_rfl), show Tryd.prog.fieldsOf 41 = _ from by unfold Program.fieldsOf; rw [Tryd.underlying41]]
  have p0 : ∀ (x y : Int) (w : World), (part 3 #[.int .i64 x, .int .i64 y] 0).run Tryd.prog w = .ok (.int .i64 x) w := fun x y w => by kernel_rfl
  have p1 : ∀ (x y : Int) (w : World), (part 3 #[.int .i64 x, .int .i64 y] 1).run Tryd.prog w = .ok (.int .i64 y) w := fun x y w => by kernel_rfl
  have h1 : ∀ (x y : Int) (w : World), (Op.equalIn 9999 3 (.int .i64 x) (.int .i64 y)).run Tryd.prog w = .ok (x == y) w := fun x y w => run_equalIn_int w 9998 3 .i64 .i64 x y (by kernel_rfl)
  simp only [Op.eqFields, Sem.run_bind, p0, p1, h1, Result.andThen_ok]
  by_cases e1 : a = c <;> by_cases e2 : b = d <;> simp [e1, e2, p0, p1, h1, Result.andThen]
/-- Heights as verify.All gives them: as many rows as functions, each as long as the code, none above the stack. -/
structure HOk (p : Prog) (hs : List (List Int)) : Prop where
  len : hs.length = p.funcs.length
  row : ∀ k, k < p.funcs.length → (nth hs k).length = (nth p.funcs k).code.length
  bd : ∀ k j, -1 ≤ nth (nth hs k) j ∧ nth (nth hs k) j ≤ 8
  cod : ∀ k, k < p.funcs.length → (nth p.funcs k).code.length ≤ 64
def afterB (p : Prog) (hs : List (List Int)) (fn pc called : Int) : Bool :=
  decide (0 < pc) && decide (pc ≤ (nth p.funcs fn.toNat).code.length) && !decide (nth (nth hs fn.toNat) (pc - 1).toNat = -1) && (decide ((nth (nth p.funcs fn.toNat).code (pc - 1).toNat).kind = 14) && decide ((nth (nth p.funcs fn.toNat).code (pc - 1).toNat).a = called))
def regB (s : Sheet) (r : Int) : Bool := decide (0 ≤ r) && decide (r < s.code.val.regs)
def kB (s : Sheet) (x : Ir) : Bool :=
  if x.kind = 1 then isW x.k else if x.kind = 9 then isW x.k && (decide (x.b = 0) || decide (x.b = 1)) else if x.kind = 3 then decide (3 ≤ x.k) && decide (x.k ≤ 9)
  else if x.kind = 4 ∨ x.kind = 5 then decide (0 ≤ x.k) && decide (x.k < s.code.val.code.length)
  else if x.kind = 6 then decide (0 ≤ x.k) && decide (x.k < s.p.val.funcs.length) && decide ((x.args.length : Int) = (nth s.p.val.funcs x.k.toNat).args) else decide (x.k = 0)
def dearB (at_ : Int) (x : Ir) : Bool :=
  decide (x.cost ≤ 256) && (decide (0 < x.cost) || (decide (x.cost = 0) && !(decide (x.kind = 6) || decide (x.kind = 7) || (goesB x.kind && decide (x.k ≤ at_)))))
def srcNotB (s : Sheet) (x : Src) : Bool := if x.cst = true then !isW x.v else !regB s x.v
def partB (s : Sheet) (x : Part) (less : Int) : Bool :=
  decide (0 ≤ x.fn) && decide (x.fn < s.p.val.funcs.length) && decide (0 ≤ x.pc) && decide (x.pc < (nth s.p.val.funcs x.fn.toNat).code.length) &&
    (!decide (nth (nth s.heights x.fn.toNat) x.pc.toNat = -1) && decide ((x.locals.length : Int) = (nth s.p.val.funcs x.fn.toNat).locals) && decide ((x.stack.length : Int) = nth (nth s.heights x.fn.toNat) x.pc.toNat - less) && !(x.locals.any (srcNotB s)) && !(x.stack.any (srcNotB s)))
def metaNotB (s : Sheet) (m : Meta) : Bool :=
  if m.parts.length = 1 then !decide ((nth m.parts 0).fn = s.code.val.fn) || !partB s (nth m.parts 0) 0
  else if m.parts.length = 2 then !decide ((nth m.parts 0).fn = s.code.val.fn) || !partB s (nth m.parts 0) 1 || !partB s (nth m.parts 1) 0 || !afterB s.p.val s.heights (nth m.parts 0).fn (nth m.parts 0).pc (nth m.parts 1).fn
  else true
/-- The registers that an instruction reads. -/
def readsL (x : Ir) : List Int :=
  if x.kind = 3 then [x.b, x.a] else if x.kind = 2 ∨ x.kind = 5 ∨ x.kind = 7 ∨ x.kind = 8 ∨ x.kind = 9 then [x.a] else if x.kind = 6 then x.args else []
def rp (x : Ir) : List (Ptr Int) := (readsL x).map Ptr.mk
def insA (s : Sheet) (at_ : Int) (x : Ir) : Bool :=
  decide (0 ≤ x.kind) && decide (x.kind ≤ 11) && kB s x && dearB at_ x && decide (0 ≤ x.pc) && decide (x.pc < 64) && !(leavesB x.kind && (decide (x.mt < 0) || decide ((s.code.val.metas.length : Int) ≤ x.mt))) && !(!decide (x.kind = 6) && decide (0 < (x.args.length : Int)))
/-- What stands in the fields that an instruction does not use is nothing. -/
def insZ (x : Ir) : Bool :=
  (setsB x.kind || decide (x.r = 0)) && (decide (x.kind = 3) || decide (x.kind = 9) || decide (x.kind = 2) || decide (x.kind = 5) || decide (x.kind = 7) || decide (x.kind = 8) || decide (x.a = 0)) && (decide (x.kind = 3) || decide (x.kind = 9) || decide (x.b = 0)) && (leavesB x.kind || decide (x.mt = 0))
def insB (s : Sheet) (at_ : Int) (x : Ir) : Bool := insA s at_ x && (readsL x).all (regB s) && (!setsB x.kind || regB s x.r) && insZ x
theorem all_next {s : Sheet} {l : List (Ptr Int)} {k : Nat} (h : ∀ j : Nat, j < k → regB s (nth l j).val = true) (hk : regB s (nth l k).val = true) : ∀ j : Nat, j < k + 1 → regB s (nth l j).val = true := fun j hj => by
  rcases Nat.lt_succ_iff_lt_or_eq.1 hj with h1 | rfl
  · exact h j h1
  · exact hk
theorem all_done {s : Sheet} {x : Ir} {k : Nat} (h : ∀ j : Nat, j < k → regB s (nth (rp x) j).val = true) (hk : (rp x).length ≤ k) : (readsL x).all (regB s) = true := by
  rw [List.all_eq_true]; intro r hr
  obtain ⟨j, hj, rfl⟩ := List.mem_iff_getElem.1 hr
  have := h j (by have : (rp x).length = (readsL x).length := by simp [rp]
                  omega)
  simpa [nth, rp, hj] using this
theorem all_bad {s : Sheet} {x : Ir} {k : Nat} (hk : k < (rp x).length) (h : regB s (nth (rp x) k).val = false) : (readsL x).all (regB s) = false := by
  rw [List.all_eq_false]
  have hj : k < (readsL x).length := by simpa [rp] using hk
  exact ⟨(readsL x)[k], List.getElem_mem hj, by simpa [nth, rp, hj] using h⟩
def codeB (s : Sheet) : Bool := (List.range s.code.val.code.length).all fun k => insB s (k : Int) (nth s.code.val.code k)
def irMay (p : Prog) (c : CodeD) : Bool :=
  decide ((allT p).2 = 0) && decide (0 ≤ c.fn) && decide (c.fn < p.funcs.length) && decide (max 1 (nth p.funcs c.fn.toNat).locals ≤ c.regs) && decide (c.regs ≤ 64) && decide (1 ≤ c.code.length) && decide (c.code.length ≤ 256) && decide (c.metas.length ≤ 64) &&
    codeB ⟨⟨c⟩, ⟨p⟩, (allT p).1⟩ && (decide ((nth c.code (c.code.length - 1)).kind = 4) || decide ((nth c.code (c.code.length - 1)).kind = 8)) && !(c.metas.any (metaNotB ⟨⟨c⟩, ⟨p⟩, (allT p).1⟩))
end Go.Proofs.YtdniefnjgkhkeaaDoor
