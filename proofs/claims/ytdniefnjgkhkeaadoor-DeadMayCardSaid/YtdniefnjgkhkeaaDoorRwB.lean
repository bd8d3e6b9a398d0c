/-
  The row of DeadMay, and its tied card: for every input the law returns true.
  Conditions: as the given row says.
-/
import Derived.Test.YtdniefnjgkhkeaaDoorRw17
import Derived.Test.YtdniefnjgkhkeaaDoorQ6
import Derived.Test.YtdniefnjgkhkeaaDoorOq
import Derived.Test.YtdniefnjgkhkeaaDoorCards
namespace Go.Proofs.YtdniefnjgkhkeaaDoor
set_option linter.unusedVariables false
set_option linter.unusedSimpArgs false
open Go Go.ChangeShapes Go.WideShapes Go.RowKit
set_option maxRecDepth 100000
theorem may_call (p : Prog) (c : CodeD) {W : World} (hL : laidMetH Tryd.prog [("errors.errorType", Rows.laid_errors_errorType)] W) {x y : List Value} (hp : Rep.rd (memOf W) x p) (hc : Rep.rd (memOf W) y c) :
    Calls Tryd.prog 3 #[.agg x.toArray, .agg y.toArray] W (fun e w' => e = .returned (.bool true) ∧ Below W.heap.size W w') :=
  (c_DeadMay p c hp hc (glob_of hL) (deadMay_ok p c) (own_mem W)).mono fun e w' ⟨M', le, hO, he⟩ => ⟨he, below_of le hO⟩
theorem open_as {α : Type} [Rep α] {t : TypeId} {fs : Array Field} {H : Type} {enc : TypeId × Value → H} {W : World} {v : Value} {d : DataW H} {ps : List MemPlace} {base : Nat} (ht : Tryd.prog.underlying t = some (.struct fs)) (ho : Opens Tryd.prog α t)
    (hv : Value.okWide Tryd.prog W .any base t v) (h : DataW.Trod enc Tryd.prog W 0 (fun _ => true) true t v d ps) (hz : ∀ n ∈ d.weights Tryd.prog t, n ≤ reachBytes) : ∃ (x : List Value) (y : α), v = .agg x.toArray ∧ Rep.rd (memOf W) x y := by
  obtain ⟨cs, rfl, _⟩ := okWide_struct ht hv
  obtain ⟨n, hn⟩ := h
  obtain ⟨y, hy⟩ := ho hn (List.all_eq_true.2 fun m hm => decide_eq_true (hz m hm))
  exact ⟨_, y, rfl, hy⟩
theorem lt_of_trod {H : Type} {enc : TypeId × Value → H} {P : Program} {W : World} {t : TypeId} {v : Value} {d : DataW H} {ps : List MemPlace} (h : DataW.Trod enc P W 0 (fun _ => true) true t v d ps) : ∀ x ∈ ps, x.block < W.heap.size := by
  obtain ⟨n, hn⟩ := h
  exact DataW.trod_lt _ _ _ _ hn
theorem pLaid : laidOutB Tryd.prog = true := by kernel_rfl
theorem may_lifted (os : Os) (started : os.Started) (H : Type) (enc : TypeId × Value → H) :
    ReturnsInHanded {} Tryd.checked os 3 .any (fun w args => (Rows.deadMaySpec.pre enc Tryd.prog Tryd.f3 [] false w args ∧ laidMetH Tryd.prog Rows.deadMayRow.laid w) ∧ sizedMet enc Tryd.prog Tryd.f3 (OpenSpec.ofChange Rows.deadMaySpec) false w args)
      (Rows.deadMaySpec.post enc Tryd.prog Tryd.f3 false true false false) := by
  refine returnsInHanded_of_change_and (C := Tryd.checked) (X := fun w _ => laidMetH Tryd.prog Rows.deadMayRow.laid w) (fun _ _ _ hh h => h.of_heap hh) pOwn started (by kernel_rfl) Tryd.func3
    (ChangeSpec.witness_at (enc := enc) (C := Tryd.checked) (os := os) (X := fun w _ => laidMetH Tryd.prog Rows.deadMayRow.laid w) false (laidWorld os) #[.agg #[.slice none 0 0], .agg #[.int .i64 0, .int .i64 0, .slice none 0 0, .slice none 0 0]] 8 rfl (by kernel_rfl) (by kernel_rfl) (by kernel_rfl) (by kernel_rfl) (by kernel_rfl) (laidWorld_met os _)) ?_
  intro W base args ds gs before hval0 hW _ hsz hL _
  have hval : ∀ (j : Nat) t v, Tryd.f3.params[j]? = some t → args[j]? = some v → Value.okWide Tryd.prog W .any base t v := hval0
  have hW' := hW
  obtain ⟨p, q, hA0, hV0, rfl, hfz, hnd⟩ := hW
  have hA : DataW.TrodAll enc Tryd.prog W 0 (fun _ => true) true Tryd.f3.params.toList args.toList ds p := hA0
  have hV : DataW.TrodVars enc Tryd.prog W (fun _ => true) [] gs q := hV0
  have hz : ∀ n ∈ DataW.weightsEach Tryd.prog (Tryd.f3.params.toList ++ []) (ds ++ gs), n ≤ reachBytes := fun n hn => of_decide_eq_true (List.all_eq_true.1 hsz n hn)
  rw [Tryd.params3] at hA hval hz
  obtain ⟨v0, v1, d0, d1, p0, p1, rfl, rfl, rfl, h0, h1⟩ := trodAll_two hA
  obtain ⟨rfl, rfl⟩ : gs = [] ∧ q = [] := by
    cases gs with
    | nil => exact ⟨rfl, hV⟩
    | cons g r => exact absurd hV (by intro h; cases h)
  obtain ⟨x, pp, rfl, hp⟩ := open_as Tryd.underlying24 oT24 (hval 0 24 v0 rfl rfl) h0 (fun n hn => hz n (DataW.weights_mem_each (j := 0) rfl rfl n hn))
  obtain ⟨y, cc, rfl, hc⟩ := open_as Tryd.underlying28 oT28 (hval 1 28 v1 rfl rfl) h1 (fun n hn => hz n (DataW.weights_mem_each (j := 1) rfl rfl n hn))
  refine (may_call pp cc hL hp hc).mono fun e W' ⟨he, hw⟩ => ?_
  subst he
  have e1 : Rows.deadMaySpec.fn H ([d0, d1] ++ []) = { results := [.lit (.bool true)], args := [d0, d1] } := by simp [Rows.deadMaySpec]
  refine ⟨_, rfl, _, _, _, [], p0 ++ p1, [], hW', ?_, ?_, ?_, hw.frame _, fun h => by cases h⟩
  · rw [e1]; exact trodAll_mk1 (shut_bool Tryd.underlying4 true)
  · rw [e1]; exact trodAll_mk2 (Below.trod pLaid (by kernel_rfl) (of_decide_eq_true (by kernel_rfl)) h0 hw (lt_of_trod h0)) (Below.trod pLaid (by kernel_rfl) (of_decide_eq_true (by kernel_rfl)) h1 hw (lt_of_trod h1))
  · rw [e1]; rfl
theorem may_holds : Rows.DeadMaySaid :=
  OpenClaim.holds_of_wide 3 Tryd.f3 rfl rfl rfl rfl rfl rfl rfl ⟨rfl, rfl, rfl, rfl, rfl⟩ rfl rfl rfl rfl rfl (by kernel_rfl) Tryd.func3 (by kernel_rfl)
    (of_decide_eq_true (by kernel_rfl)) (by unfold Func.isWrapper; rw [if_neg (of_decide_eq_false (by kernel_rfl))]; exact ⟨rfl, rfl⟩)
    (fun os started H enc _ => may_lifted os started H enc)
theorem deadMay_card : Rows.DeadMayCardSaid :=
  Claim7.holds_tied_plain_at .later [] [.handle] true (true, "cc9efaee115d93666470820f4cd4f0474aa08c67d6aaaa09c34c4679e302bb2e") true
    may_holds (fun _ h => by cases h) (by kernel_rfl) (fun _ h => by cases h) deadMay_row_tie rfl ⟨rfl, rfl⟩ (by kernel_rfl) rfl
    (fun f fn hf hfn => by
      obtain rfl : f = 3 := Option.some.inj ((show Tryd.prog.funcNamed "swage/swagelaw17.DeadMay" = some 3 by kernel_rfl).symm.trans hf) |>.symm
      obtain rfl : fn = Tryd.f3 := (Option.some.inj (Tryd.func3.symm.trans hfn)).symm
      exact ⟨by kernel_rfl, fun j t ht => by
        rw [Tryd.params3] at ht
        rcases j with _ | _ | j
        · obtain rfl : t = 24 := by simpa using ht.symm
          exact (show Tryd.prog.wantsStandIn 24 = false by kernel_rfl)
        · obtain rfl : t = 28 := by simpa using ht.symm
          exact (show Tryd.prog.wantsStandIn 28 = false by kernel_rfl)
        · simp at ht⟩)
    (by kernel_rfl)
#print axioms deadMay_card
end Go.Proofs.YtdniefnjgkhkeaaDoor
