/-
  DERIVED. GIVEN WITH THE SEED: THE CARDS: each row of YtdchcggllcgokaaDoorRows.lean that lists a variable, with what it lists TIED to the program's text (the seventh form; the later family's looks); each row that meets fmt, with fmt's text TOLD by the authors' own Lean function (tested against real Go, not proved from fmt's source: count such statements apart). THE CARD IS WHAT COUNTS. Prove the row's statement (the work); the ties are given (YtdchcggllcgokaaDoorTie.lean); close each card by the builder's one call (the guide's Derived/Test/ToyasCard.lean, 'card_holds'). Laid BY PROGRAM, IN A SANDBOX (cutbox-door.mjs). By AI agents, Wed Nov 11 2026. No macro, syntax, notation, axiom, sorry.
-/
import Derived.Test.YtdchcggllcgokaaDoorRows
import GoSem.ClaimSeven
namespace Go.Proofs.YtdchcggllcgokaaDoor
namespace Rows

/-- THE TIED CARD OF 'ashlarlaw09.MarkPuts'. -/
def markPutsCard : Claim7 := { stood := { row := markPutsRow, standIns := [], harness := (true, "1fe631e0fe3f62af0f69ce28b7aa75ea7fb9823dfcb1a8385b8999c3e069d5d7"), looks := false }, kinds := [], alts := [], laidByText := true, laidKinds := [.data], laidTests := true, laidLooks := .later }
def MarkPutsCardSaid : Prop := Claim7.holds Tryd.pinned (.plain (OpenSpec.ofChange markPutsSpec)) markPutsCard

/-- THE TIED CARD OF 'ashlarlaw09.MarkGets'. -/
def markGetsCard : Claim7 := { stood := { row := markGetsRow, standIns := [], harness := (true, "1fe631e0fe3f62af0f69ce28b7aa75ea7fb9823dfcb1a8385b8999c3e069d5d7"), looks := false }, kinds := [], alts := [], laidByText := true, laidKinds := [.data], laidTests := true, laidLooks := .later }
def MarkGetsCardSaid : Prop := Claim7.holds Tryd.pinned (.plain (OpenSpec.ofChange markGetsSpec)) markGetsCard

/-- THE TIED CARD OF 'ashlarlaw09.MarkBack'. -/
def markBackCard : Claim7 := { stood := { row := markBackRow, standIns := [], harness := (true, "1fe631e0fe3f62af0f69ce28b7aa75ea7fb9823dfcb1a8385b8999c3e069d5d7"), looks := false }, kinds := [], alts := [], laidByText := true, laidKinds := [.data], laidTests := true, laidLooks := .later }
def MarkBackCardSaid : Prop := Claim7.holds Tryd.pinned (.plain (OpenSpec.ofChange markBackSpec)) markBackCard

/-- THE TIED CARD OF 'ashlarlaw09.MarkNewest'. -/
def markNewestCard : Claim7 := { stood := { row := markNewestRow, standIns := [], harness := (true, "1fe631e0fe3f62af0f69ce28b7aa75ea7fb9823dfcb1a8385b8999c3e069d5d7"), looks := false }, kinds := [], alts := [], laidByText := true, laidKinds := [.data], laidTests := true, laidLooks := .later }
def MarkNewestCardSaid : Prop := Claim7.holds Tryd.pinned (.plain (OpenSpec.ofChange markNewestSpec)) markNewestCard

/-- THE SECOND FORM's CARD OF 'ashlarlaw09.MarkPuts'. -/
def markPutsUptoCard : Claim7 := { stood := { row := markPutsUptoRow, standIns := [], harness := (true, "1fe631e0fe3f62af0f69ce28b7aa75ea7fb9823dfcb1a8385b8999c3e069d5d7"), looks := false }, kinds := [], alts := [], laidByText := true, laidKinds := [.data], laidTests := true, laidLooks := .later }
def MarkPutsUptoCardSaid : Prop := Claim7.holds Tryd.pinned (.plain (OpenSpec.upto markPutsSpec)) markPutsUptoCard

/-- THE SECOND FORM's CARD OF 'ashlarlaw09.MarkGets'. -/
def markGetsUptoCard : Claim7 := { stood := { row := markGetsUptoRow, standIns := [], harness := (true, "1fe631e0fe3f62af0f69ce28b7aa75ea7fb9823dfcb1a8385b8999c3e069d5d7"), looks := false }, kinds := [], alts := [], laidByText := true, laidKinds := [.data], laidTests := true, laidLooks := .later }
def MarkGetsUptoCardSaid : Prop := Claim7.holds Tryd.pinned (.plain (OpenSpec.upto markGetsSpec)) markGetsUptoCard

/-- THE SECOND FORM's CARD OF 'ashlarlaw09.MarkBack'. -/
def markBackUptoCard : Claim7 := { stood := { row := markBackUptoRow, standIns := [], harness := (true, "1fe631e0fe3f62af0f69ce28b7aa75ea7fb9823dfcb1a8385b8999c3e069d5d7"), looks := false }, kinds := [], alts := [], laidByText := true, laidKinds := [.data], laidTests := true, laidLooks := .later }
def MarkBackUptoCardSaid : Prop := Claim7.holds Tryd.pinned (.plain (OpenSpec.upto markBackSpec)) markBackUptoCard

/-- THE SECOND FORM's CARD OF 'ashlarlaw09.MarkNewest'. -/
def markNewestUptoCard : Claim7 := { stood := { row := markNewestUptoRow, standIns := [], harness := (true, "1fe631e0fe3f62af0f69ce28b7aa75ea7fb9823dfcb1a8385b8999c3e069d5d7"), looks := false }, kinds := [], alts := [], laidByText := true, laidKinds := [.data], laidTests := true, laidLooks := .later }
def MarkNewestUptoCardSaid : Prop := Claim7.holds Tryd.pinned (.plain (OpenSpec.upto markNewestSpec)) markNewestUptoCard
end Rows
end Go.Proofs.YtdchcggllcgokaaDoor
