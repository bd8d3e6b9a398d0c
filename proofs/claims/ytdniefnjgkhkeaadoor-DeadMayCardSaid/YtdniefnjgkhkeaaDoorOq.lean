/-
  What can be read as data of the program's types reads as the plain data of the contracts.
  Conditions: none.
-/
import Derived.Test.YtdniefnjgkhkeaaDoorOp
namespace Go.Proofs.YtdniefnjgkhkeaaDoor
open Go
set_option maxRecDepth 100000
set_option linter.unusedVariables false
theorem oT3 : Opens Tryd.prog Int 3 := opens_int Tryd.underlying3
theorem oT41 : Opens Tryd.prog Ins 41 := fun {H enc w fuel cs x} h hz => by
  obtain ⟨hl, hf⟩ := opens_fields Tryd.underlying41 (by kernel_rfl) (by kernel_rfl) h hz
  obtain ⟨c0, c1, rfl⟩ : ∃ c0 c1, cs = [c0, c1] := by
    match cs, hl with
    | [c0, c1], _ => exact ⟨_, _, rfl⟩
  obtain ⟨d0, n0, x0, e0, h0, z0⟩ := hf 0 _ rfl
  obtain rfl := Option.some.inj e0
  obtain ⟨y0, r0⟩ := oT3 h0 z0
  obtain rfl := (List.cons.inj r0).1
  obtain ⟨d1, n1, x1, e1, h1, z1⟩ := hf 1 _ rfl
  obtain rfl := Option.some.inj e1
  obtain ⟨y1, r1⟩ := oT3 h1 z1
  obtain rfl := (List.cons.inj r1).1
  exact ⟨⟨y0, y1⟩, rfl⟩
theorem oT42 : Opens Tryd.prog (List Ins) 42 := opens_slice (α := Ins) Tryd.underlying42 oT41 (by kernel_rfl) (by decide) (by kernel_rfl)
theorem oT44 : Opens Tryd.prog FuncD 44 := fun {H enc w fuel cs x} h hz => by
  obtain ⟨hl, hf⟩ := opens_fields Tryd.underlying44 (by kernel_rfl) (by kernel_rfl) h hz
  obtain ⟨c0, c1, c2, rfl⟩ : ∃ c0 c1 c2, cs = [c0, c1, c2] := by
    match cs, hl with
    | [c0, c1, c2], _ => exact ⟨_, _, _, rfl⟩
  obtain ⟨d0, n0, x0, e0, h0, z0⟩ := hf 0 _ rfl
  obtain rfl := Option.some.inj e0
  obtain ⟨y0, r0⟩ := oT3 h0 z0
  obtain rfl := (List.cons.inj r0).1
  obtain ⟨d1, n1, x1, e1, h1, z1⟩ := hf 1 _ rfl
  obtain rfl := Option.some.inj e1
  obtain ⟨y1, r1⟩ := oT3 h1 z1
  obtain rfl := (List.cons.inj r1).1
  obtain ⟨d2, n2, x2, e2, h2, z2⟩ := hf 2 _ rfl
  obtain rfl := Option.some.inj e2
  obtain ⟨y2, r2⟩ := oT42 h2 z2
  obtain ⟨b2, q2, g2, s2⟩ := r2
  obtain rfl := (List.cons.inj g2).1
  exact ⟨⟨y0, y1, y2⟩, ⟨b2, q2, rfl, s2⟩⟩
theorem oT22 : Opens Tryd.prog (List FuncD) 22 := opens_slice (α := FuncD) Tryd.underlying22 oT44 (by kernel_rfl) (by decide) (by kernel_rfl)
theorem oT24 : Opens Tryd.prog Prog 24 := fun {H enc w fuel cs x} h hz => by
  obtain ⟨hl, hf⟩ := opens_fields Tryd.underlying24 (by kernel_rfl) (by kernel_rfl) h hz
  obtain ⟨c0, rfl⟩ : ∃ c0, cs = [c0] := by
    match cs, hl with
    | [c0], _ => exact ⟨_, rfl⟩
  obtain ⟨d0, n0, x0, e0, h0, z0⟩ := hf 0 _ rfl
  obtain rfl := Option.some.inj e0
  obtain ⟨y0, r0⟩ := oT22 h0 z0
  obtain ⟨b0, q0, g0, s0⟩ := r0
  obtain rfl := (List.cons.inj g0).1
  exact ⟨⟨y0⟩, ⟨b0, q0, rfl, s0⟩⟩
theorem oT36 : Opens Tryd.prog (List Int) 36 := opens_slice (α := Int) Tryd.underlying36 oT3 (by kernel_rfl) (by decide) (by kernel_rfl)
theorem oT38 : Opens Tryd.prog Ir 38 := fun {H enc w fuel cs x} h hz => by
  obtain ⟨hl, hf⟩ := opens_fields Tryd.underlying38 (by kernel_rfl) (by kernel_rfl) h hz
  obtain ⟨c0, c1, c2, c3, c4, c5, c6, c7, c8, rfl⟩ : ∃ c0 c1 c2 c3 c4 c5 c6 c7 c8, cs = [c0, c1, c2, c3, c4, c5, c6, c7, c8] := by
    match cs, hl with
    | [c0, c1, c2, c3, c4, c5, c6, c7, c8], _ => exact ⟨_, _, _, _, _, _, _, _, _, rfl⟩
  obtain ⟨d0, n0, x0, e0, h0, z0⟩ := hf 0 _ rfl
  obtain rfl := Option.some.inj e0
  obtain ⟨y0, r0⟩ := oT3 h0 z0
  obtain rfl := (List.cons.inj r0).1
  obtain ⟨d1, n1, x1, e1, h1, z1⟩ := hf 1 _ rfl
  obtain rfl := Option.some.inj e1
  obtain ⟨y1, r1⟩ := oT3 h1 z1
  obtain rfl := (List.cons.inj r1).1
  obtain ⟨d2, n2, x2, e2, h2, z2⟩ := hf 2 _ rfl
  obtain rfl := Option.some.inj e2
  obtain ⟨y2, r2⟩ := oT3 h2 z2
  obtain rfl := (List.cons.inj r2).1
  obtain ⟨d3, n3, x3, e3, h3, z3⟩ := hf 3 _ rfl
  obtain rfl := Option.some.inj e3
  obtain ⟨y3, r3⟩ := oT3 h3 z3
  obtain rfl := (List.cons.inj r3).1
  obtain ⟨d4, n4, x4, e4, h4, z4⟩ := hf 4 _ rfl
  obtain rfl := Option.some.inj e4
  obtain ⟨y4, r4⟩ := oT3 h4 z4
  obtain rfl := (List.cons.inj r4).1
  obtain ⟨d5, n5, x5, e5, h5, z5⟩ := hf 5 _ rfl
  obtain rfl := Option.some.inj e5
  obtain ⟨y5, r5⟩ := oT36 h5 z5
  obtain ⟨b5, q5, g5, s5⟩ := r5
  obtain rfl := (List.cons.inj g5).1
  obtain ⟨d6, n6, x6, e6, h6, z6⟩ := hf 6 _ rfl
  obtain rfl := Option.some.inj e6
  obtain ⟨y6, r6⟩ := oT3 h6 z6
  obtain rfl := (List.cons.inj r6).1
  obtain ⟨d7, n7, x7, e7, h7, z7⟩ := hf 7 _ rfl
  obtain rfl := Option.some.inj e7
  obtain ⟨y7, r7⟩ := oT3 h7 z7
  obtain rfl := (List.cons.inj r7).1
  obtain ⟨d8, n8, x8, e8, h8, z8⟩ := hf 8 _ rfl
  obtain rfl := Option.some.inj e8
  obtain ⟨y8, r8⟩ := oT3 h8 z8
  obtain rfl := (List.cons.inj r8).1
  exact ⟨⟨y0, y1, y2, y3, y4, y5, y6, y7, y8⟩, ⟨b5, q5, rfl, s5⟩⟩
theorem oT25 : Opens Tryd.prog (List Ir) 25 := opens_slice (α := Ir) Tryd.underlying25 oT38 (by kernel_rfl) (by decide) (by kernel_rfl)
theorem oT4 : Opens Tryd.prog Bool 4 := opens_bool Tryd.underlying4
theorem oT95 : Opens Tryd.prog Src 95 := fun {H enc w fuel cs x} h hz => by
  obtain ⟨hl, hf⟩ := opens_fields Tryd.underlying95 (by kernel_rfl) (by kernel_rfl) h hz
  obtain ⟨c0, c1, rfl⟩ : ∃ c0 c1, cs = [c0, c1] := by
    match cs, hl with
    | [c0, c1], _ => exact ⟨_, _, rfl⟩
  obtain ⟨d0, n0, x0, e0, h0, z0⟩ := hf 0 _ rfl
  obtain rfl := Option.some.inj e0
  obtain ⟨y0, r0⟩ := oT4 h0 z0
  obtain rfl := (List.cons.inj r0).1
  obtain ⟨d1, n1, x1, e1, h1, z1⟩ := hf 1 _ rfl
  obtain rfl := Option.some.inj e1
  obtain ⟨y1, r1⟩ := oT3 h1 z1
  obtain rfl := (List.cons.inj r1).1
  exact ⟨⟨y0, y1⟩, rfl⟩
theorem oT85 : Opens Tryd.prog (List Src) 85 := opens_slice (α := Src) Tryd.underlying85 oT95 (by kernel_rfl) (by decide) (by kernel_rfl)
theorem oT87 : Opens Tryd.prog Part 87 := fun {H enc w fuel cs x} h hz => by
  obtain ⟨hl, hf⟩ := opens_fields Tryd.underlying87 (by kernel_rfl) (by kernel_rfl) h hz
  obtain ⟨c0, c1, c2, c3, rfl⟩ : ∃ c0 c1 c2 c3, cs = [c0, c1, c2, c3] := by
    match cs, hl with
    | [c0, c1, c2, c3], _ => exact ⟨_, _, _, _, rfl⟩
  obtain ⟨d0, n0, x0, e0, h0, z0⟩ := hf 0 _ rfl
  obtain rfl := Option.some.inj e0
  obtain ⟨y0, r0⟩ := oT3 h0 z0
  obtain rfl := (List.cons.inj r0).1
  obtain ⟨d1, n1, x1, e1, h1, z1⟩ := hf 1 _ rfl
  obtain rfl := Option.some.inj e1
  obtain ⟨y1, r1⟩ := oT3 h1 z1
  obtain rfl := (List.cons.inj r1).1
  obtain ⟨d2, n2, x2, e2, h2, z2⟩ := hf 2 _ rfl
  obtain rfl := Option.some.inj e2
  obtain ⟨y2, r2⟩ := oT85 h2 z2
  obtain ⟨b2, q2, g2, s2⟩ := r2
  obtain rfl := (List.cons.inj g2).1
  obtain ⟨d3, n3, x3, e3, h3, z3⟩ := hf 3 _ rfl
  obtain rfl := Option.some.inj e3
  obtain ⟨y3, r3⟩ := oT85 h3 z3
  obtain ⟨b3, q3, g3, s3⟩ := r3
  obtain rfl := (List.cons.inj g3).1
  exact ⟨⟨y0, y1, y2, y3⟩, ⟨b2, q2, b3, q3, rfl, s2, s3⟩⟩
theorem oT63 : Opens Tryd.prog (List Part) 63 := opens_slice (α := Part) Tryd.underlying63 oT87 (by kernel_rfl) (by decide) (by kernel_rfl)
theorem oT65 : Opens Tryd.prog Meta 65 := fun {H enc w fuel cs x} h hz => by
  obtain ⟨hl, hf⟩ := opens_fields Tryd.underlying65 (by kernel_rfl) (by kernel_rfl) h hz
  obtain ⟨c0, rfl⟩ : ∃ c0, cs = [c0] := by
    match cs, hl with
    | [c0], _ => exact ⟨_, rfl⟩
  obtain ⟨d0, n0, x0, e0, h0, z0⟩ := hf 0 _ rfl
  obtain rfl := Option.some.inj e0
  obtain ⟨y0, r0⟩ := oT63 h0 z0
  obtain ⟨b0, q0, g0, s0⟩ := r0
  obtain rfl := (List.cons.inj g0).1
  exact ⟨⟨y0⟩, ⟨b0, q0, rfl, s0⟩⟩
theorem oT26 : Opens Tryd.prog (List Meta) 26 := opens_slice (α := Meta) Tryd.underlying26 oT65 (by kernel_rfl) (by decide) (by kernel_rfl)
theorem oT28 : Opens Tryd.prog CodeD 28 := fun {H enc w fuel cs x} h hz => by
  obtain ⟨hl, hf⟩ := opens_fields Tryd.underlying28 (by kernel_rfl) (by kernel_rfl) h hz
  obtain ⟨c0, c1, c2, c3, rfl⟩ : ∃ c0 c1 c2 c3, cs = [c0, c1, c2, c3] := by
    match cs, hl with
    | [c0, c1, c2, c3], _ => exact ⟨_, _, _, _, rfl⟩
  obtain ⟨d0, n0, x0, e0, h0, z0⟩ := hf 0 _ rfl
  obtain rfl := Option.some.inj e0
  obtain ⟨y0, r0⟩ := oT3 h0 z0
  obtain rfl := (List.cons.inj r0).1
  obtain ⟨d1, n1, x1, e1, h1, z1⟩ := hf 1 _ rfl
  obtain rfl := Option.some.inj e1
  obtain ⟨y1, r1⟩ := oT3 h1 z1
  obtain rfl := (List.cons.inj r1).1
  obtain ⟨d2, n2, x2, e2, h2, z2⟩ := hf 2 _ rfl
  obtain rfl := Option.some.inj e2
  obtain ⟨y2, r2⟩ := oT25 h2 z2
  obtain ⟨b2, q2, g2, s2⟩ := r2
  obtain rfl := (List.cons.inj g2).1
  obtain ⟨d3, n3, x3, e3, h3, z3⟩ := hf 3 _ rfl
  obtain rfl := Option.some.inj e3
  obtain ⟨y3, r3⟩ := oT26 h3 z3
  obtain ⟨b3, q3, g3, s3⟩ := r3
  obtain rfl := (List.cons.inj g3).1
  exact ⟨⟨y0, y1, y2, y3⟩, ⟨b2, q2, b3, q3, rfl, s2, s3⟩⟩
end Go.Proofs.YtdniefnjgkhkeaaDoor
