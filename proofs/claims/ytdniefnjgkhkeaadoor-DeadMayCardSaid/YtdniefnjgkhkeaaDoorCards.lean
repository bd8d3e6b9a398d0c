/-
  DERIVED. GIVEN WITH THE SEED: THE CARDS: each row of YtdniefnjgkhkeaaDoorRows.lean that lists a variable, with what it lists TIED to the program's text (the seventh form; the later family's looks); each row that meets fmt, with fmt's text TOLD by the authors' own Lean function (tested against real Go, not proved from fmt's source: count such statements apart). THE CARD IS WHAT COUNTS. Prove the row's statement (the work); the ties are given (YtdniefnjgkhkeaaDoorTie.lean); close each card by the builder's one call (the guide's Derived/Test/ToyasCard.lean, 'card_holds'). Laid BY PROGRAM, IN A SANDBOX (cutbox-door.mjs). By AI agents, Wed Nov 11 2026. No macro, syntax, notation, axiom, sorry.
-/
import Derived.Test.YtdniefnjgkhkeaaDoorRows
import GoSem.ClaimSeven
namespace Go.Proofs.YtdniefnjgkhkeaaDoor
namespace Rows

/-- THE TIED CARD OF 'swagelaw17.DeadMay'. -/
def deadMayCard : Claim7 := { stood := { row := deadMayRow, standIns := [], harness := (true, "cc9efaee115d93666470820f4cd4f0474aa08c67d6aaaa09c34c4679e302bb2e"), looks := true }, kinds := [], alts := [], laidByText := true, laidKinds := [.handle], laidTests := true, laidLooks := .later }
def DeadMayCardSaid : Prop := Claim7.holds Tryd.pinned (.plain (OpenSpec.ofChange deadMaySpec)) deadMayCard

/-- THE TIED CARD OF 'swagelaw17.DeadChains'. -/
def deadChainsCard : Claim7 := { stood := { row := deadChainsRow, standIns := [], harness := (true, "cc9efaee115d93666470820f4cd4f0474aa08c67d6aaaa09c34c4679e302bb2e"), looks := true }, kinds := [], alts := [], laidByText := true, laidKinds := [.handle], laidTests := true, laidLooks := .later }
def DeadChainsCardSaid : Prop := Claim7.holds Tryd.pinned (.plain (OpenSpec.ofChange deadChainsSpec)) deadChainsCard

/-- THE TIED CARD OF 'swagelaw17.LiveLoop'. -/
def liveLoopCard : Claim7 := { stood := { row := liveLoopRow, standIns := [], harness := (true, "cc9efaee115d93666470820f4cd4f0474aa08c67d6aaaa09c34c4679e302bb2e"), looks := true }, kinds := [], alts := [], laidByText := true, laidKinds := [.handle], laidTests := true, laidLooks := .later }
def LiveLoopCardSaid : Prop := Claim7.holds Tryd.pinned (.plain (OpenSpec.ofChange liveLoopSpec)) liveLoopCard

/-- THE SECOND FORM's CARD OF 'swagelaw17.DeadMay'. -/
def deadMayUptoCard : Claim7 := { stood := { row := deadMayUptoRow, standIns := [], harness := (true, "cc9efaee115d93666470820f4cd4f0474aa08c67d6aaaa09c34c4679e302bb2e"), looks := true }, kinds := [], alts := [], laidByText := true, laidKinds := [.handle], laidTests := true, laidLooks := .later }
def DeadMayUptoCardSaid : Prop := Claim7.holds Tryd.pinned (.plain (OpenSpec.upto deadMaySpec)) deadMayUptoCard

/-- THE SECOND FORM's CARD OF 'swagelaw17.DeadChains'. -/
def deadChainsUptoCard : Claim7 := { stood := { row := deadChainsUptoRow, standIns := [], harness := (true, "cc9efaee115d93666470820f4cd4f0474aa08c67d6aaaa09c34c4679e302bb2e"), looks := true }, kinds := [], alts := [], laidByText := true, laidKinds := [.handle], laidTests := true, laidLooks := .later }
def DeadChainsUptoCardSaid : Prop := Claim7.holds Tryd.pinned (.plain (OpenSpec.upto deadChainsSpec)) deadChainsUptoCard

/-- THE SECOND FORM's CARD OF 'swagelaw17.LiveLoop'. -/
def liveLoopUptoCard : Claim7 := { stood := { row := liveLoopUptoRow, standIns := [], harness := (true, "cc9efaee115d93666470820f4cd4f0474aa08c67d6aaaa09c34c4679e302bb2e"), looks := true }, kinds := [], alts := [], laidByText := true, laidKinds := [.handle], laidTests := true, laidLooks := .later }
def LiveLoopUptoCardSaid : Prop := Claim7.holds Tryd.pinned (.plain (OpenSpec.upto liveLoopSpec)) liveLoopUptoCard
end Rows
end Go.Proofs.YtdniefnjgkhkeaaDoor
