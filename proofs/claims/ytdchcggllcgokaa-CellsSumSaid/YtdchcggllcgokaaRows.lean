/-
  No cell of these rows narrows 'for every input' (looked for: loops, veiled, ifaces, maps, wideKeys, modest, calm, conditions, laid).
  DERIVED. THE GIVEN ROWS OF THIS SEAT. 29 by the template 'for every input the law returns true; each argument reads behind the call as it read before'; 0 by the template 'total and deterministic' (their statements: YtdchcggllcgokaaTotals.lean).
  GIVEN WITH THE SEED: the statements are not yours to turn. If you find one false, say at which input.
  Laid BY PROGRAM, IN A SANDBOX (cutbox-rows.mjs): the forced cells as the released guide's own fill.sh prints them over the translation 4fb8f628c2f9168f… (all of the seat's roots in one cut). By AI agents, Wed Nov 11 2026. No macro, syntax, notation, axiom, sorry.
-/
import Derived.Test.YtdchcggllcgokaaChecked
import GoSem.Claim
import GoSem.ClaimJoined
import GoSem.ClaimMapViews
import Derived.JoinedTies
import Derived.KernelRfl
namespace Go.Proofs.Ytdchcggllcgokaa
/- THE CELL 'sum', in the pinned program and in every row, IS THE sha256 OF THE DUMP (.gsa) THAT YtdchcggllcgokaaProg.lean LOADS. Nothing in Lean hashes anything: it is a label: what it is worth is what the hold of that sum in a sandbox is worth. -/
noncomputable def Try.pinned : Pinned := { name := "ytdchcggllcgokaa", sum := "4fb8f628c2f9168fc942c5b09a32606b080c5e622d18be6ae0e6a8d5f5e84359", checked := Try.checked }
namespace Rows
def none {H : Type} : Left H := { results := [], args := [] }

/-- 'ashlarlaw01.NumBits': WHATEVER THE INPUT: true; the input reads as it did. -/
def numBitsSpec : ChangeSpec := { name := "numBits", fn := fun _ => fun
  | [d1, d2, d3, d4] => { results := [.lit (.bool true)], args := [d1, d2, d3, d4] }
  | _ => none }
def numBitsRow : OpenClaim := { program := "ytdchcggllcgokaa", sum := "4fb8f628c2f9168fc942c5b09a32606b080c5e622d18be6ae0e6a8d5f5e84359", func := "ashlar/ashlarlaw01.NumBits", spec := "numBits", apart := false }
def NumBitsSaid : Prop := numBitsRow.holds Try.pinned (OpenSpec.ofChange numBitsSpec)

/-- ITS FALSE NEIGHBOUR: 'it returns false'. Refute it at one input. -/
def numBitsWrong : ChangeSpec := { name := "numBits", fn := fun _ => fun
  | [d1, d2, d3, d4] => { results := [.lit (.bool false)], args := [d1, d2, d3, d4] }
  | _ => none }
def NumBitsWrongFalsely : Prop := numBitsRow.holds Try.pinned (OpenSpec.ofChange numBitsWrong)

/-- 'ashlarlaw01.NumRow': WHATEVER THE INPUT: true; the input reads as it did. -/
def numRowSpec : ChangeSpec := { name := "numRow", fn := fun _ => fun
  | [d1, d2, d3] => { results := [.lit (.bool true)], args := [d1, d2, d3] }
  | _ => none }
def numRowRow : OpenClaim := { program := "ytdchcggllcgokaa", sum := "4fb8f628c2f9168fc942c5b09a32606b080c5e622d18be6ae0e6a8d5f5e84359", func := "ashlar/ashlarlaw01.NumRow", spec := "numRow", apart := false }
def NumRowSaid : Prop := numRowRow.holds Try.pinned (OpenSpec.ofChange numRowSpec)

/-- ITS FALSE NEIGHBOUR: 'it returns false'. Refute it at one input. -/
def numRowWrong : ChangeSpec := { name := "numRow", fn := fun _ => fun
  | [d1, d2, d3] => { results := [.lit (.bool false)], args := [d1, d2, d3] }
  | _ => none }
def NumRowWrongFalsely : Prop := numRowRow.holds Try.pinned (OpenSpec.ofChange numRowWrong)

/-- 'ashlarlaw01.NumOne': WHATEVER THE INPUT: true; the input reads as it did. -/
def numOneSpec : ChangeSpec := { name := "numOne", fn := fun _ => fun
  | [d1, d2, d3] => { results := [.lit (.bool true)], args := [d1, d2, d3] }
  | _ => none }
def numOneRow : OpenClaim := { program := "ytdchcggllcgokaa", sum := "4fb8f628c2f9168fc942c5b09a32606b080c5e622d18be6ae0e6a8d5f5e84359", func := "ashlar/ashlarlaw01.NumOne", spec := "numOne", apart := false }
def NumOneSaid : Prop := numOneRow.holds Try.pinned (OpenSpec.ofChange numOneSpec)

/-- ITS FALSE NEIGHBOUR: 'it returns false'. Refute it at one input. -/
def numOneWrong : ChangeSpec := { name := "numOne", fn := fun _ => fun
  | [d1, d2, d3] => { results := [.lit (.bool false)], args := [d1, d2, d3] }
  | _ => none }
def NumOneWrongFalsely : Prop := numOneRow.holds Try.pinned (OpenSpec.ofChange numOneWrong)

/-- 'ashlarlaw01.NumNumbers': WHATEVER THE INPUT: true; the input reads as it did. -/
def numNumbersSpec : ChangeSpec := { name := "numNumbers", fn := fun _ => fun
  | [d1, d2, d3, d4] => { results := [.lit (.bool true)], args := [d1, d2, d3, d4] }
  | _ => none }
def numNumbersRow : OpenClaim := { program := "ytdchcggllcgokaa", sum := "4fb8f628c2f9168fc942c5b09a32606b080c5e622d18be6ae0e6a8d5f5e84359", func := "ashlar/ashlarlaw01.NumNumbers", spec := "numNumbers", apart := false }
def NumNumbersSaid : Prop := numNumbersRow.holds Try.pinned (OpenSpec.ofChange numNumbersSpec)

/-- ITS FALSE NEIGHBOUR: 'it returns false'. Refute it at one input. -/
def numNumbersWrong : ChangeSpec := { name := "numNumbers", fn := fun _ => fun
  | [d1, d2, d3, d4] => { results := [.lit (.bool false)], args := [d1, d2, d3, d4] }
  | _ => none }
def NumNumbersWrongFalsely : Prop := numNumbersRow.holds Try.pinned (OpenSpec.ofChange numNumbersWrong)

/-- 'ashlarlaw01.NumBack': WHATEVER THE INPUT: true; the input reads as it did. -/
def numBackSpec : ChangeSpec := { name := "numBack", fn := fun _ => fun
  | [d1, d2, d3, d4] => { results := [.lit (.bool true)], args := [d1, d2, d3, d4] }
  | _ => none }
def numBackRow : OpenClaim := { program := "ytdchcggllcgokaa", sum := "4fb8f628c2f9168fc942c5b09a32606b080c5e622d18be6ae0e6a8d5f5e84359", func := "ashlar/ashlarlaw01.NumBack", spec := "numBack", apart := false }
def NumBackSaid : Prop := numBackRow.holds Try.pinned (OpenSpec.ofChange numBackSpec)

/-- ITS FALSE NEIGHBOUR: 'it returns false'. Refute it at one input. -/
def numBackWrong : ChangeSpec := { name := "numBack", fn := fun _ => fun
  | [d1, d2, d3, d4] => { results := [.lit (.bool false)], args := [d1, d2, d3, d4] }
  | _ => none }
def NumBackWrongFalsely : Prop := numBackRow.holds Try.pinned (OpenSpec.ofChange numBackWrong)

/-- 'ashlarlaw11.CellsPuts': WHATEVER THE INPUT: true; the input reads as it did. -/
def cellsPutsSpec : ChangeSpec := { name := "cellsPuts", fn := fun _ => fun
  | [d1, d2] => { results := [.lit (.bool true)], args := [d1, d2] }
  | _ => none }
def cellsPutsRow : OpenClaim := { program := "ytdchcggllcgokaa", sum := "4fb8f628c2f9168fc942c5b09a32606b080c5e622d18be6ae0e6a8d5f5e84359", func := "ashlar/ashlarlaw11.CellsPuts", spec := "cellsPuts", apart := false }
def CellsPutsSaid : Prop := cellsPutsRow.holds Try.pinned (OpenSpec.ofChange cellsPutsSpec)

/-- ITS FALSE NEIGHBOUR: 'it returns false'. Refute it at one input. -/
def cellsPutsWrong : ChangeSpec := { name := "cellsPuts", fn := fun _ => fun
  | [d1, d2] => { results := [.lit (.bool false)], args := [d1, d2] }
  | _ => none }
def CellsPutsWrongFalsely : Prop := cellsPutsRow.holds Try.pinned (OpenSpec.ofChange cellsPutsWrong)

/-- 'ashlarlaw11.CellsBack': WHATEVER THE INPUT: true; the input reads as it did. -/
def cellsBackSpec : ChangeSpec := { name := "cellsBack", fn := fun _ => fun
  | [d1, d2] => { results := [.lit (.bool true)], args := [d1, d2] }
  | _ => none }
def cellsBackRow : OpenClaim := { program := "ytdchcggllcgokaa", sum := "4fb8f628c2f9168fc942c5b09a32606b080c5e622d18be6ae0e6a8d5f5e84359", func := "ashlar/ashlarlaw11.CellsBack", spec := "cellsBack", apart := false }
def CellsBackSaid : Prop := cellsBackRow.holds Try.pinned (OpenSpec.ofChange cellsBackSpec)

/-- ITS FALSE NEIGHBOUR: 'it returns false'. Refute it at one input. -/
def cellsBackWrong : ChangeSpec := { name := "cellsBack", fn := fun _ => fun
  | [d1, d2] => { results := [.lit (.bool false)], args := [d1, d2] }
  | _ => none }
def CellsBackWrongFalsely : Prop := cellsBackRow.holds Try.pinned (OpenSpec.ofChange cellsBackWrong)

/-- 'ashlarlaw07.SealPuts': WHATEVER THE INPUT: true; the input reads as it did. -/
def sealPutsSpec : ChangeSpec := { name := "sealPuts", fn := fun _ => fun
  | [d1, d2] => { results := [.lit (.bool true)], args := [d1, d2] }
  | _ => none }
def sealPutsRow : OpenClaim := { program := "ytdchcggllcgokaa", sum := "4fb8f628c2f9168fc942c5b09a32606b080c5e622d18be6ae0e6a8d5f5e84359", func := "ashlar/ashlarlaw07.SealPuts", spec := "sealPuts", apart := false }
def SealPutsSaid : Prop := sealPutsRow.holds Try.pinned (OpenSpec.ofChange sealPutsSpec)

/-- ITS FALSE NEIGHBOUR: 'it returns false'. Refute it at one input. -/
def sealPutsWrong : ChangeSpec := { name := "sealPuts", fn := fun _ => fun
  | [d1, d2] => { results := [.lit (.bool false)], args := [d1, d2] }
  | _ => none }
def SealPutsWrongFalsely : Prop := sealPutsRow.holds Try.pinned (OpenSpec.ofChange sealPutsWrong)

/-- 'ashlarlaw07.SealGets': WHATEVER THE INPUT: true; the input reads as it did. -/
def sealGetsSpec : ChangeSpec := { name := "sealGets", fn := fun _ => fun
  | [d1, d2] => { results := [.lit (.bool true)], args := [d1, d2] }
  | _ => none }
def sealGetsRow : OpenClaim := { program := "ytdchcggllcgokaa", sum := "4fb8f628c2f9168fc942c5b09a32606b080c5e622d18be6ae0e6a8d5f5e84359", func := "ashlar/ashlarlaw07.SealGets", spec := "sealGets", apart := false }
def SealGetsSaid : Prop := sealGetsRow.holds Try.pinned (OpenSpec.ofChange sealGetsSpec)

/-- ITS FALSE NEIGHBOUR: 'it returns false'. Refute it at one input. -/
def sealGetsWrong : ChangeSpec := { name := "sealGets", fn := fun _ => fun
  | [d1, d2] => { results := [.lit (.bool false)], args := [d1, d2] }
  | _ => none }
def SealGetsWrongFalsely : Prop := sealGetsRow.holds Try.pinned (OpenSpec.ofChange sealGetsWrong)

/-- 'ashlarlaw07.SealBack': WHATEVER THE INPUT: true; the input reads as it did. -/
def sealBackSpec : ChangeSpec := { name := "sealBack", fn := fun _ => fun
  | [d1, d2] => { results := [.lit (.bool true)], args := [d1, d2] }
  | _ => none }
def sealBackRow : OpenClaim := { program := "ytdchcggllcgokaa", sum := "4fb8f628c2f9168fc942c5b09a32606b080c5e622d18be6ae0e6a8d5f5e84359", func := "ashlar/ashlarlaw07.SealBack", spec := "sealBack", apart := false }
def SealBackSaid : Prop := sealBackRow.holds Try.pinned (OpenSpec.ofChange sealBackSpec)

/-- ITS FALSE NEIGHBOUR: 'it returns false'. Refute it at one input. -/
def sealBackWrong : ChangeSpec := { name := "sealBack", fn := fun _ => fun
  | [d1, d2] => { results := [.lit (.bool false)], args := [d1, d2] }
  | _ => none }
def SealBackWrongFalsely : Prop := sealBackRow.holds Try.pinned (OpenSpec.ofChange sealBackWrong)

/-- 'ashlarlaw07.SealTorn': WHATEVER THE INPUT: true; the input reads as it did. -/
def sealTornSpec : ChangeSpec := { name := "sealTorn", fn := fun _ => fun
  | [d1, d2, d3, d4, d5] => { results := [.lit (.bool true)], args := [d1, d2, d3, d4, d5] }
  | _ => none }
def sealTornRow : OpenClaim := { program := "ytdchcggllcgokaa", sum := "4fb8f628c2f9168fc942c5b09a32606b080c5e622d18be6ae0e6a8d5f5e84359", func := "ashlar/ashlarlaw07.SealTorn", spec := "sealTorn", apart := false }
def SealTornSaid : Prop := sealTornRow.holds Try.pinned (OpenSpec.ofChange sealTornSpec)

/-- ITS FALSE NEIGHBOUR: 'it returns false'. Refute it at one input. -/
def sealTornWrong : ChangeSpec := { name := "sealTorn", fn := fun _ => fun
  | [d1, d2, d3, d4, d5] => { results := [.lit (.bool false)], args := [d1, d2, d3, d4, d5] }
  | _ => none }
def SealTornWrongFalsely : Prop := sealTornRow.holds Try.pinned (OpenSpec.ofChange sealTornWrong)

/-- 'ashlarlaw07.SealByte': WHATEVER THE INPUT: true; the input reads as it did. -/
def sealByteSpec : ChangeSpec := { name := "sealByte", fn := fun _ => fun
  | [d1, d2, d3, d4] => { results := [.lit (.bool true)], args := [d1, d2, d3, d4] }
  | _ => none }
def sealByteRow : OpenClaim := { program := "ytdchcggllcgokaa", sum := "4fb8f628c2f9168fc942c5b09a32606b080c5e622d18be6ae0e6a8d5f5e84359", func := "ashlar/ashlarlaw07.SealByte", spec := "sealByte", apart := false }
def SealByteSaid : Prop := sealByteRow.holds Try.pinned (OpenSpec.ofChange sealByteSpec)

/-- ITS FALSE NEIGHBOUR: 'it returns false'. Refute it at one input. -/
def sealByteWrong : ChangeSpec := { name := "sealByte", fn := fun _ => fun
  | [d1, d2, d3, d4] => { results := [.lit (.bool false)], args := [d1, d2, d3, d4] }
  | _ => none }
def SealByteWrongFalsely : Prop := sealByteRow.holds Try.pinned (OpenSpec.ofChange sealByteWrong)

/-- 'ashlarlaw07.SealNewest': WHATEVER THE INPUT: true; the input reads as it did. -/
def sealNewestSpec : ChangeSpec := { name := "sealNewest", fn := fun _ => fun
  | [d1, d2, d3, d4, d5] => { results := [.lit (.bool true)], args := [d1, d2, d3, d4, d5] }
  | _ => none }
def sealNewestRow : OpenClaim := { program := "ytdchcggllcgokaa", sum := "4fb8f628c2f9168fc942c5b09a32606b080c5e622d18be6ae0e6a8d5f5e84359", func := "ashlar/ashlarlaw07.SealNewest", spec := "sealNewest", apart := false }
def SealNewestSaid : Prop := sealNewestRow.holds Try.pinned (OpenSpec.ofChange sealNewestSpec)

/-- ITS FALSE NEIGHBOUR: 'it returns false'. Refute it at one input. -/
def sealNewestWrong : ChangeSpec := { name := "sealNewest", fn := fun _ => fun
  | [d1, d2, d3, d4, d5] => { results := [.lit (.bool false)], args := [d1, d2, d3, d4, d5] }
  | _ => none }
def SealNewestWrongFalsely : Prop := sealNewestRow.holds Try.pinned (OpenSpec.ofChange sealNewestWrong)

/-- 'ashlarlaw10.RosterRound': WHATEVER THE INPUT: true; the input reads as it did. -/
def rosterRoundSpec : ChangeSpec := { name := "rosterRound", fn := fun _ => fun
  | [d1, d2, d3] => { results := [.lit (.bool true)], args := [d1, d2, d3] }
  | _ => none }
def rosterRoundRow : OpenClaim := { program := "ytdchcggllcgokaa", sum := "4fb8f628c2f9168fc942c5b09a32606b080c5e622d18be6ae0e6a8d5f5e84359", func := "ashlar/ashlarlaw10.RosterRound", spec := "rosterRound", apart := false }
def RosterRoundSaid : Prop := rosterRoundRow.holds Try.pinned (OpenSpec.ofChange rosterRoundSpec)

/-- ITS FALSE NEIGHBOUR: 'it returns false'. Refute it at one input. -/
def rosterRoundWrong : ChangeSpec := { name := "rosterRound", fn := fun _ => fun
  | [d1, d2, d3] => { results := [.lit (.bool false)], args := [d1, d2, d3] }
  | _ => none }
def RosterRoundWrongFalsely : Prop := rosterRoundRow.holds Try.pinned (OpenSpec.ofChange rosterRoundWrong)

/-- 'ashlarlaw11.CellsGets': WHATEVER THE INPUT: true; the input reads as it did. -/
def cellsGetsSpec : ChangeSpec := { name := "cellsGets", fn := fun _ => fun
  | [d1, d2] => { results := [.lit (.bool true)], args := [d1, d2] }
  | _ => none }
def cellsGetsRow : OpenClaim := { program := "ytdchcggllcgokaa", sum := "4fb8f628c2f9168fc942c5b09a32606b080c5e622d18be6ae0e6a8d5f5e84359", func := "ashlar/ashlarlaw11.CellsGets", spec := "cellsGets", apart := false }
def CellsGetsSaid : Prop := cellsGetsRow.holds Try.pinned (OpenSpec.ofChange cellsGetsSpec)

/-- ITS FALSE NEIGHBOUR: 'it returns false'. Refute it at one input. -/
def cellsGetsWrong : ChangeSpec := { name := "cellsGets", fn := fun _ => fun
  | [d1, d2] => { results := [.lit (.bool false)], args := [d1, d2] }
  | _ => none }
def CellsGetsWrongFalsely : Prop := cellsGetsRow.holds Try.pinned (OpenSpec.ofChange cellsGetsWrong)

/-- 'ashlarlaw11.CellsSame': WHATEVER THE INPUT: true; the input reads as it did. -/
def cellsSameSpec : ChangeSpec := { name := "cellsSame", fn := fun _ => fun
  | [d1, d2] => { results := [.lit (.bool true)], args := [d1, d2] }
  | _ => none }
def cellsSameRow : OpenClaim := { program := "ytdchcggllcgokaa", sum := "4fb8f628c2f9168fc942c5b09a32606b080c5e622d18be6ae0e6a8d5f5e84359", func := "ashlar/ashlarlaw11.CellsSame", spec := "cellsSame", apart := false }
def CellsSameSaid : Prop := cellsSameRow.holds Try.pinned (OpenSpec.ofChange cellsSameSpec)

/-- ITS FALSE NEIGHBOUR: 'it returns false'. Refute it at one input. -/
def cellsSameWrong : ChangeSpec := { name := "cellsSame", fn := fun _ => fun
  | [d1, d2] => { results := [.lit (.bool false)], args := [d1, d2] }
  | _ => none }
def CellsSameWrongFalsely : Prop := cellsSameRow.holds Try.pinned (OpenSpec.ofChange cellsSameWrong)

/-- 'ashlarlaw11.CellsSum': WHATEVER THE INPUT: true; the input reads as it did. -/
def cellsSumSpec : ChangeSpec := { name := "cellsSum", fn := fun _ => fun
  | [d1, d2, d3, d4] => { results := [.lit (.bool true)], args := [d1, d2, d3, d4] }
  | _ => none }
def cellsSumRow : OpenClaim := { program := "ytdchcggllcgokaa", sum := "4fb8f628c2f9168fc942c5b09a32606b080c5e622d18be6ae0e6a8d5f5e84359", func := "ashlar/ashlarlaw11.CellsSum", spec := "cellsSum", apart := false }
def CellsSumSaid : Prop := cellsSumRow.holds Try.pinned (OpenSpec.ofChange cellsSumSpec)

/-- ITS FALSE NEIGHBOUR: 'it returns false'. Refute it at one input. -/
def cellsSumWrong : ChangeSpec := { name := "cellsSum", fn := fun _ => fun
  | [d1, d2, d3, d4] => { results := [.lit (.bool false)], args := [d1, d2, d3, d4] }
  | _ => none }
def CellsSumWrongFalsely : Prop := cellsSumRow.holds Try.pinned (OpenSpec.ofChange cellsSumWrong)

/-- 'ashlarlaw13.NotePuts': WHATEVER THE INPUT: true; the input reads as it did. -/
def notePutsSpec : ChangeSpec := { name := "notePuts", fn := fun _ => fun
  | [d1, d2] => { results := [.lit (.bool true)], args := [d1, d2] }
  | _ => none }
def notePutsRow : OpenClaim := { program := "ytdchcggllcgokaa", sum := "4fb8f628c2f9168fc942c5b09a32606b080c5e622d18be6ae0e6a8d5f5e84359", func := "ashlar/ashlarlaw13.NotePuts", spec := "notePuts", apart := false }
def NotePutsSaid : Prop := notePutsRow.holds Try.pinned (OpenSpec.ofChange notePutsSpec)

/-- ITS FALSE NEIGHBOUR: 'it returns false'. Refute it at one input. -/
def notePutsWrong : ChangeSpec := { name := "notePuts", fn := fun _ => fun
  | [d1, d2] => { results := [.lit (.bool false)], args := [d1, d2] }
  | _ => none }
def NotePutsWrongFalsely : Prop := notePutsRow.holds Try.pinned (OpenSpec.ofChange notePutsWrong)

/-- 'ashlarlaw13.NoteGets': WHATEVER THE INPUT: true; the input reads as it did. -/
def noteGetsSpec : ChangeSpec := { name := "noteGets", fn := fun _ => fun
  | [d1, d2, d3] => { results := [.lit (.bool true)], args := [d1, d2, d3] }
  | _ => none }
def noteGetsRow : OpenClaim := { program := "ytdchcggllcgokaa", sum := "4fb8f628c2f9168fc942c5b09a32606b080c5e622d18be6ae0e6a8d5f5e84359", func := "ashlar/ashlarlaw13.NoteGets", spec := "noteGets", apart := false }
def NoteGetsSaid : Prop := noteGetsRow.holds Try.pinned (OpenSpec.ofChange noteGetsSpec)

/-- ITS FALSE NEIGHBOUR: 'it returns false'. Refute it at one input. -/
def noteGetsWrong : ChangeSpec := { name := "noteGets", fn := fun _ => fun
  | [d1, d2, d3] => { results := [.lit (.bool false)], args := [d1, d2, d3] }
  | _ => none }
def NoteGetsWrongFalsely : Prop := noteGetsRow.holds Try.pinned (OpenSpec.ofChange noteGetsWrong)

/-- 'ashlarlaw13.NoteBack': WHATEVER THE INPUT: true; the input reads as it did. -/
def noteBackSpec : ChangeSpec := { name := "noteBack", fn := fun _ => fun
  | [d1, d2] => { results := [.lit (.bool true)], args := [d1, d2] }
  | _ => none }
def noteBackRow : OpenClaim := { program := "ytdchcggllcgokaa", sum := "4fb8f628c2f9168fc942c5b09a32606b080c5e622d18be6ae0e6a8d5f5e84359", func := "ashlar/ashlarlaw13.NoteBack", spec := "noteBack", apart := false }
def NoteBackSaid : Prop := noteBackRow.holds Try.pinned (OpenSpec.ofChange noteBackSpec)

/-- ITS FALSE NEIGHBOUR: 'it returns false'. Refute it at one input. -/
def noteBackWrong : ChangeSpec := { name := "noteBack", fn := fun _ => fun
  | [d1, d2] => { results := [.lit (.bool false)], args := [d1, d2] }
  | _ => none }
def NoteBackWrongFalsely : Prop := noteBackRow.holds Try.pinned (OpenSpec.ofChange noteBackWrong)

/-- 'ashlarlaw13.NoteFollows': WHATEVER THE INPUT: true; the input reads as it did. -/
def noteFollowsSpec : ChangeSpec := { name := "noteFollows", fn := fun _ => fun
  | [d1, d2, d3, d4, d5] => { results := [.lit (.bool true)], args := [d1, d2, d3, d4, d5] }
  | _ => none }
def noteFollowsRow : OpenClaim := { program := "ytdchcggllcgokaa", sum := "4fb8f628c2f9168fc942c5b09a32606b080c5e622d18be6ae0e6a8d5f5e84359", func := "ashlar/ashlarlaw13.NoteFollows", spec := "noteFollows", apart := false }
def NoteFollowsSaid : Prop := noteFollowsRow.holds Try.pinned (OpenSpec.ofChange noteFollowsSpec)

/-- ITS FALSE NEIGHBOUR: 'it returns false'. Refute it at one input. -/
def noteFollowsWrong : ChangeSpec := { name := "noteFollows", fn := fun _ => fun
  | [d1, d2, d3, d4, d5] => { results := [.lit (.bool false)], args := [d1, d2, d3, d4, d5] }
  | _ => none }
def NoteFollowsWrongFalsely : Prop := noteFollowsRow.holds Try.pinned (OpenSpec.ofChange noteFollowsWrong)

/-- 'ashlarlaw10.RosterTells': WHATEVER THE INPUT: true; the input reads as it did. -/
def rosterTellsSpec : ChangeSpec := { name := "rosterTells", fn := fun _ => fun
  | [d1, d2, d3, d4] => { results := [.lit (.bool true)], args := [d1, d2, d3, d4] }
  | _ => none }
def rosterTellsRow : OpenClaim := { program := "ytdchcggllcgokaa", sum := "4fb8f628c2f9168fc942c5b09a32606b080c5e622d18be6ae0e6a8d5f5e84359", func := "ashlar/ashlarlaw10.RosterTells", spec := "rosterTells", apart := false }
def RosterTellsSaid : Prop := rosterTellsRow.holds Try.pinned (OpenSpec.ofChange rosterTellsSpec)

/-- ITS FALSE NEIGHBOUR: 'it returns false'. Refute it at one input. -/
def rosterTellsWrong : ChangeSpec := { name := "rosterTells", fn := fun _ => fun
  | [d1, d2, d3, d4] => { results := [.lit (.bool false)], args := [d1, d2, d3, d4] }
  | _ => none }
def RosterTellsWrongFalsely : Prop := rosterTellsRow.holds Try.pinned (OpenSpec.ofChange rosterTellsWrong)

/-- 'ashlarlaw10.RosterPlays': WHATEVER THE INPUT: true; the input reads as it did. -/
def rosterPlaysSpec : ChangeSpec := { name := "rosterPlays", fn := fun _ => fun
  | [d1, d2, d3] => { results := [.lit (.bool true)], args := [d1, d2, d3] }
  | _ => none }
def rosterPlaysRow : OpenClaim := { program := "ytdchcggllcgokaa", sum := "4fb8f628c2f9168fc942c5b09a32606b080c5e622d18be6ae0e6a8d5f5e84359", func := "ashlar/ashlarlaw10.RosterPlays", spec := "rosterPlays", apart := false }
def RosterPlaysSaid : Prop := rosterPlaysRow.holds Try.pinned (OpenSpec.ofChange rosterPlaysSpec)

/-- ITS FALSE NEIGHBOUR: 'it returns false'. Refute it at one input. -/
def rosterPlaysWrong : ChangeSpec := { name := "rosterPlays", fn := fun _ => fun
  | [d1, d2, d3] => { results := [.lit (.bool false)], args := [d1, d2, d3] }
  | _ => none }
def RosterPlaysWrongFalsely : Prop := rosterPlaysRow.holds Try.pinned (OpenSpec.ofChange rosterPlaysWrong)

/-- 'ashlarlaw10.RosterRefuses': WHATEVER THE INPUT: true; the input reads as it did. -/
def rosterRefusesSpec : ChangeSpec := { name := "rosterRefuses", fn := fun _ => fun
  | [d1, d2, d3, d4] => { results := [.lit (.bool true)], args := [d1, d2, d3, d4] }
  | _ => none }
def rosterRefusesRow : OpenClaim := { program := "ytdchcggllcgokaa", sum := "4fb8f628c2f9168fc942c5b09a32606b080c5e622d18be6ae0e6a8d5f5e84359", func := "ashlar/ashlarlaw10.RosterRefuses", spec := "rosterRefuses", apart := false }
def RosterRefusesSaid : Prop := rosterRefusesRow.holds Try.pinned (OpenSpec.ofChange rosterRefusesSpec)

/-- ITS FALSE NEIGHBOUR: 'it returns false'. Refute it at one input. -/
def rosterRefusesWrong : ChangeSpec := { name := "rosterRefuses", fn := fun _ => fun
  | [d1, d2, d3, d4] => { results := [.lit (.bool false)], args := [d1, d2, d3, d4] }
  | _ => none }
def RosterRefusesWrongFalsely : Prop := rosterRefusesRow.holds Try.pinned (OpenSpec.ofChange rosterRefusesWrong)

/-- 'ashlarlaw08.SuperGets': WHATEVER THE INPUT: true; the input reads as it did. -/
def superGetsSpec : ChangeSpec := { name := "superGets", fn := fun _ => fun
  | [d1, d2, d3] => { results := [.lit (.bool true)], args := [d1, d2, d3] }
  | _ => none }
def superGetsRow : OpenClaim := { program := "ytdchcggllcgokaa", sum := "4fb8f628c2f9168fc942c5b09a32606b080c5e622d18be6ae0e6a8d5f5e84359", func := "ashlar/ashlarlaw08.SuperGets", spec := "superGets", unfollowed := true, recurses := true, apart := false }
def SuperGetsSaid : Prop := superGetsRow.holds Try.pinned (OpenSpec.ofChange superGetsSpec)

/-- ITS FALSE NEIGHBOUR: 'it returns false'. Refute it at one input. -/
def superGetsWrong : ChangeSpec := { name := "superGets", fn := fun _ => fun
  | [d1, d2, d3] => { results := [.lit (.bool false)], args := [d1, d2, d3] }
  | _ => none }
def SuperGetsWrongFalsely : Prop := superGetsRow.holds Try.pinned (OpenSpec.ofChange superGetsWrong)

/-- 'ashlarlaw08.SuperBack': WHATEVER THE INPUT: true; the input reads as it did. -/
def superBackSpec : ChangeSpec := { name := "superBack", fn := fun _ => fun
  | [d1, d2, d3] => { results := [.lit (.bool true)], args := [d1, d2, d3] }
  | _ => none }
def superBackRow : OpenClaim := { program := "ytdchcggllcgokaa", sum := "4fb8f628c2f9168fc942c5b09a32606b080c5e622d18be6ae0e6a8d5f5e84359", func := "ashlar/ashlarlaw08.SuperBack", spec := "superBack", unfollowed := true, recurses := true, apart := false }
def SuperBackSaid : Prop := superBackRow.holds Try.pinned (OpenSpec.ofChange superBackSpec)

/-- ITS FALSE NEIGHBOUR: 'it returns false'. Refute it at one input. -/
def superBackWrong : ChangeSpec := { name := "superBack", fn := fun _ => fun
  | [d1, d2, d3] => { results := [.lit (.bool false)], args := [d1, d2, d3] }
  | _ => none }
def SuperBackWrongFalsely : Prop := superBackRow.holds Try.pinned (OpenSpec.ofChange superBackWrong)

/-- 'ashlarlaw08.SuperPuts': WHATEVER THE INPUT: true; the input reads as it did. -/
def superPutsSpec : ChangeSpec := { name := "superPuts", fn := fun _ => fun
  | [d1, d2, d3] => { results := [.lit (.bool true)], args := [d1, d2, d3] }
  | _ => none }
def superPutsRow : OpenClaim := { program := "ytdchcggllcgokaa", sum := "4fb8f628c2f9168fc942c5b09a32606b080c5e622d18be6ae0e6a8d5f5e84359", func := "ashlar/ashlarlaw08.SuperPuts", spec := "superPuts", unfollowed := true, recurses := true, apart := false }
def SuperPutsSaid : Prop := superPutsRow.holds Try.pinned (OpenSpec.ofChange superPutsSpec)

/-- ITS FALSE NEIGHBOUR: 'it returns false'. Refute it at one input. -/
def superPutsWrong : ChangeSpec := { name := "superPuts", fn := fun _ => fun
  | [d1, d2, d3] => { results := [.lit (.bool false)], args := [d1, d2, d3] }
  | _ => none }
def SuperPutsWrongFalsely : Prop := superPutsRow.holds Try.pinned (OpenSpec.ofChange superPutsWrong)

/-- 'ashlarlaw08.SuperNewest': WHATEVER THE INPUT: true; the input reads as it did. -/
def superNewestSpec : ChangeSpec := { name := "superNewest", fn := fun _ => fun
  | [d1, d2, d3, d4, d5, d6] => { results := [.lit (.bool true)], args := [d1, d2, d3, d4, d5, d6] }
  | _ => none }
def superNewestRow : OpenClaim := { program := "ytdchcggllcgokaa", sum := "4fb8f628c2f9168fc942c5b09a32606b080c5e622d18be6ae0e6a8d5f5e84359", func := "ashlar/ashlarlaw08.SuperNewest", spec := "superNewest", unfollowed := true, recurses := true, apart := false }
def SuperNewestSaid : Prop := superNewestRow.holds Try.pinned (OpenSpec.ofChange superNewestSpec)

/-- ITS FALSE NEIGHBOUR: 'it returns false'. Refute it at one input. -/
def superNewestWrong : ChangeSpec := { name := "superNewest", fn := fun _ => fun
  | [d1, d2, d3, d4, d5, d6] => { results := [.lit (.bool false)], args := [d1, d2, d3, d4, d5, d6] }
  | _ => none }
def SuperNewestWrongFalsely : Prop := superNewestRow.holds Try.pinned (OpenSpec.ofChange superNewestWrong)

/-- 'ashlarlaw08.SuperTorn': WHATEVER THE INPUT: true; the input reads as it did. -/
def superTornSpec : ChangeSpec := { name := "superTorn", fn := fun _ => fun
  | [d1, d2, d3, d4, d5, d6, d7] => { results := [.lit (.bool true)], args := [d1, d2, d3, d4, d5, d6, d7] }
  | _ => none }
def superTornRow : OpenClaim := { program := "ytdchcggllcgokaa", sum := "4fb8f628c2f9168fc942c5b09a32606b080c5e622d18be6ae0e6a8d5f5e84359", func := "ashlar/ashlarlaw08.SuperTorn", spec := "superTorn", unfollowed := true, recurses := true, apart := false }
def SuperTornSaid : Prop := superTornRow.holds Try.pinned (OpenSpec.ofChange superTornSpec)

/-- ITS FALSE NEIGHBOUR: 'it returns false'. Refute it at one input. -/
def superTornWrong : ChangeSpec := { name := "superTorn", fn := fun _ => fun
  | [d1, d2, d3, d4, d5, d6, d7] => { results := [.lit (.bool false)], args := [d1, d2, d3, d4, d5, d6, d7] }
  | _ => none }
def SuperTornWrongFalsely : Prop := superTornRow.holds Try.pinned (OpenSpec.ofChange superTornWrong)

/- THE SECOND FORM. 'bulk': how many values and letters a reading holds, each counted each time it is reached (what is shared counts as often as it is met; a slice's spare places count too). A statement '..UptoSaid' is the law's where the arguments, and the package variables that the reading takes, are together of bulk at most 1048576: NARROWER than '..Said'. Prove '..Said' where nothing that the law and all that it calls make is longer than what came in: it says more and counts as full. Else prove '..UptoSaid'. A law counts once. -/
mutual
def uptoBulk {H : Type} : DataW H → Nat
  | .lit (.string bytes) => bytes.length + 1
  | .lit _ => 1
  | .nil => 1
  | .ptr d => uptoBulk d + 1
  | .slice elems spare => uptoBulkAll elems + uptoBulkAll spare + 1
  | .agg parts => uptoBulkAll parts + 1
  | .iface _ d => uptoBulk d + 1
  | .map entries => uptoBulkEntries entries + 1
  | .held _ => 1
def uptoBulkAll {H : Type} : List (DataW H) → Nat
  | [] => 0
  | d :: r => uptoBulk d + uptoBulkAll r
def uptoBulkEntries {H : Type} : List (Lit × DataW H) → Nat
  | [] => 0
  | x :: r => uptoBulkEntry x + uptoBulkEntries r
def uptoBulkEntry {H : Type} : Lit × DataW H → Nat
  | (.string bytes, d) => bytes.length + uptoBulk d + 1
  | (_, d) => uptoBulk d + 1
 end
def uptoSmall : (H : Type) → List (DataW H) → Bool := fun _ ds => decide (uptoBulkAll ds ≤ 1048576)
def OpenSpec.upto (s : _root_.Go.ChangeSpec) : _root_.Go.OpenSpec := { _root_.Go.OpenSpec.ofChange s with cond := some uptoSmall }

/-- 'ashlarlaw01.NumBits', WHERE WHAT IT READS IS OF BULK AT MOST 1048576: true; the input reads as it did. -/
def numBitsUptoRow : OpenClaim := { program := "ytdchcggllcgokaa", sum := "4fb8f628c2f9168fc942c5b09a32606b080c5e622d18be6ae0e6a8d5f5e84359", func := "ashlar/ashlarlaw01.NumBits", spec := "numBits", apart := false, narrowed := true }
def NumBitsUptoSaid : Prop := numBitsUptoRow.holds Try.pinned (OpenSpec.upto numBitsSpec)

/-- 'ashlarlaw01.NumRow', WHERE WHAT IT READS IS OF BULK AT MOST 1048576: true; the input reads as it did. -/
def numRowUptoRow : OpenClaim := { program := "ytdchcggllcgokaa", sum := "4fb8f628c2f9168fc942c5b09a32606b080c5e622d18be6ae0e6a8d5f5e84359", func := "ashlar/ashlarlaw01.NumRow", spec := "numRow", apart := false, narrowed := true }
def NumRowUptoSaid : Prop := numRowUptoRow.holds Try.pinned (OpenSpec.upto numRowSpec)

/-- 'ashlarlaw01.NumOne', WHERE WHAT IT READS IS OF BULK AT MOST 1048576: true; the input reads as it did. -/
def numOneUptoRow : OpenClaim := { program := "ytdchcggllcgokaa", sum := "4fb8f628c2f9168fc942c5b09a32606b080c5e622d18be6ae0e6a8d5f5e84359", func := "ashlar/ashlarlaw01.NumOne", spec := "numOne", apart := false, narrowed := true }
def NumOneUptoSaid : Prop := numOneUptoRow.holds Try.pinned (OpenSpec.upto numOneSpec)

/-- 'ashlarlaw01.NumNumbers', WHERE WHAT IT READS IS OF BULK AT MOST 1048576: true; the input reads as it did. -/
def numNumbersUptoRow : OpenClaim := { program := "ytdchcggllcgokaa", sum := "4fb8f628c2f9168fc942c5b09a32606b080c5e622d18be6ae0e6a8d5f5e84359", func := "ashlar/ashlarlaw01.NumNumbers", spec := "numNumbers", apart := false, narrowed := true }
def NumNumbersUptoSaid : Prop := numNumbersUptoRow.holds Try.pinned (OpenSpec.upto numNumbersSpec)

/-- 'ashlarlaw01.NumBack', WHERE WHAT IT READS IS OF BULK AT MOST 1048576: true; the input reads as it did. -/
def numBackUptoRow : OpenClaim := { program := "ytdchcggllcgokaa", sum := "4fb8f628c2f9168fc942c5b09a32606b080c5e622d18be6ae0e6a8d5f5e84359", func := "ashlar/ashlarlaw01.NumBack", spec := "numBack", apart := false, narrowed := true }
def NumBackUptoSaid : Prop := numBackUptoRow.holds Try.pinned (OpenSpec.upto numBackSpec)

/-- 'ashlarlaw11.CellsPuts', WHERE WHAT IT READS IS OF BULK AT MOST 1048576: true; the input reads as it did. -/
def cellsPutsUptoRow : OpenClaim := { program := "ytdchcggllcgokaa", sum := "4fb8f628c2f9168fc942c5b09a32606b080c5e622d18be6ae0e6a8d5f5e84359", func := "ashlar/ashlarlaw11.CellsPuts", spec := "cellsPuts", apart := false, narrowed := true }
def CellsPutsUptoSaid : Prop := cellsPutsUptoRow.holds Try.pinned (OpenSpec.upto cellsPutsSpec)

/-- 'ashlarlaw11.CellsBack', WHERE WHAT IT READS IS OF BULK AT MOST 1048576: true; the input reads as it did. -/
def cellsBackUptoRow : OpenClaim := { program := "ytdchcggllcgokaa", sum := "4fb8f628c2f9168fc942c5b09a32606b080c5e622d18be6ae0e6a8d5f5e84359", func := "ashlar/ashlarlaw11.CellsBack", spec := "cellsBack", apart := false, narrowed := true }
def CellsBackUptoSaid : Prop := cellsBackUptoRow.holds Try.pinned (OpenSpec.upto cellsBackSpec)

/-- 'ashlarlaw07.SealPuts', WHERE WHAT IT READS IS OF BULK AT MOST 1048576: true; the input reads as it did. -/
def sealPutsUptoRow : OpenClaim := { program := "ytdchcggllcgokaa", sum := "4fb8f628c2f9168fc942c5b09a32606b080c5e622d18be6ae0e6a8d5f5e84359", func := "ashlar/ashlarlaw07.SealPuts", spec := "sealPuts", apart := false, narrowed := true }
def SealPutsUptoSaid : Prop := sealPutsUptoRow.holds Try.pinned (OpenSpec.upto sealPutsSpec)

/-- 'ashlarlaw07.SealGets', WHERE WHAT IT READS IS OF BULK AT MOST 1048576: true; the input reads as it did. -/
def sealGetsUptoRow : OpenClaim := { program := "ytdchcggllcgokaa", sum := "4fb8f628c2f9168fc942c5b09a32606b080c5e622d18be6ae0e6a8d5f5e84359", func := "ashlar/ashlarlaw07.SealGets", spec := "sealGets", apart := false, narrowed := true }
def SealGetsUptoSaid : Prop := sealGetsUptoRow.holds Try.pinned (OpenSpec.upto sealGetsSpec)

/-- 'ashlarlaw07.SealBack', WHERE WHAT IT READS IS OF BULK AT MOST 1048576: true; the input reads as it did. -/
def sealBackUptoRow : OpenClaim := { program := "ytdchcggllcgokaa", sum := "4fb8f628c2f9168fc942c5b09a32606b080c5e622d18be6ae0e6a8d5f5e84359", func := "ashlar/ashlarlaw07.SealBack", spec := "sealBack", apart := false, narrowed := true }
def SealBackUptoSaid : Prop := sealBackUptoRow.holds Try.pinned (OpenSpec.upto sealBackSpec)

/-- 'ashlarlaw07.SealTorn', WHERE WHAT IT READS IS OF BULK AT MOST 1048576: true; the input reads as it did. -/
def sealTornUptoRow : OpenClaim := { program := "ytdchcggllcgokaa", sum := "4fb8f628c2f9168fc942c5b09a32606b080c5e622d18be6ae0e6a8d5f5e84359", func := "ashlar/ashlarlaw07.SealTorn", spec := "sealTorn", apart := false, narrowed := true }
def SealTornUptoSaid : Prop := sealTornUptoRow.holds Try.pinned (OpenSpec.upto sealTornSpec)

/-- 'ashlarlaw07.SealByte', WHERE WHAT IT READS IS OF BULK AT MOST 1048576: true; the input reads as it did. -/
def sealByteUptoRow : OpenClaim := { program := "ytdchcggllcgokaa", sum := "4fb8f628c2f9168fc942c5b09a32606b080c5e622d18be6ae0e6a8d5f5e84359", func := "ashlar/ashlarlaw07.SealByte", spec := "sealByte", apart := false, narrowed := true }
def SealByteUptoSaid : Prop := sealByteUptoRow.holds Try.pinned (OpenSpec.upto sealByteSpec)

/-- 'ashlarlaw07.SealNewest', WHERE WHAT IT READS IS OF BULK AT MOST 1048576: true; the input reads as it did. -/
def sealNewestUptoRow : OpenClaim := { program := "ytdchcggllcgokaa", sum := "4fb8f628c2f9168fc942c5b09a32606b080c5e622d18be6ae0e6a8d5f5e84359", func := "ashlar/ashlarlaw07.SealNewest", spec := "sealNewest", apart := false, narrowed := true }
def SealNewestUptoSaid : Prop := sealNewestUptoRow.holds Try.pinned (OpenSpec.upto sealNewestSpec)

/-- 'ashlarlaw10.RosterRound', WHERE WHAT IT READS IS OF BULK AT MOST 1048576: true; the input reads as it did. -/
def rosterRoundUptoRow : OpenClaim := { program := "ytdchcggllcgokaa", sum := "4fb8f628c2f9168fc942c5b09a32606b080c5e622d18be6ae0e6a8d5f5e84359", func := "ashlar/ashlarlaw10.RosterRound", spec := "rosterRound", apart := false, narrowed := true }
def RosterRoundUptoSaid : Prop := rosterRoundUptoRow.holds Try.pinned (OpenSpec.upto rosterRoundSpec)

/-- 'ashlarlaw11.CellsGets', WHERE WHAT IT READS IS OF BULK AT MOST 1048576: true; the input reads as it did. -/
def cellsGetsUptoRow : OpenClaim := { program := "ytdchcggllcgokaa", sum := "4fb8f628c2f9168fc942c5b09a32606b080c5e622d18be6ae0e6a8d5f5e84359", func := "ashlar/ashlarlaw11.CellsGets", spec := "cellsGets", apart := false, narrowed := true }
def CellsGetsUptoSaid : Prop := cellsGetsUptoRow.holds Try.pinned (OpenSpec.upto cellsGetsSpec)

/-- 'ashlarlaw11.CellsSame', WHERE WHAT IT READS IS OF BULK AT MOST 1048576: true; the input reads as it did. -/
def cellsSameUptoRow : OpenClaim := { program := "ytdchcggllcgokaa", sum := "4fb8f628c2f9168fc942c5b09a32606b080c5e622d18be6ae0e6a8d5f5e84359", func := "ashlar/ashlarlaw11.CellsSame", spec := "cellsSame", apart := false, narrowed := true }
def CellsSameUptoSaid : Prop := cellsSameUptoRow.holds Try.pinned (OpenSpec.upto cellsSameSpec)

/-- 'ashlarlaw11.CellsSum', WHERE WHAT IT READS IS OF BULK AT MOST 1048576: true; the input reads as it did. -/
def cellsSumUptoRow : OpenClaim := { program := "ytdchcggllcgokaa", sum := "4fb8f628c2f9168fc942c5b09a32606b080c5e622d18be6ae0e6a8d5f5e84359", func := "ashlar/ashlarlaw11.CellsSum", spec := "cellsSum", apart := false, narrowed := true }
def CellsSumUptoSaid : Prop := cellsSumUptoRow.holds Try.pinned (OpenSpec.upto cellsSumSpec)

/-- 'ashlarlaw13.NotePuts', WHERE WHAT IT READS IS OF BULK AT MOST 1048576: true; the input reads as it did. -/
def notePutsUptoRow : OpenClaim := { program := "ytdchcggllcgokaa", sum := "4fb8f628c2f9168fc942c5b09a32606b080c5e622d18be6ae0e6a8d5f5e84359", func := "ashlar/ashlarlaw13.NotePuts", spec := "notePuts", apart := false, narrowed := true }
def NotePutsUptoSaid : Prop := notePutsUptoRow.holds Try.pinned (OpenSpec.upto notePutsSpec)

/-- 'ashlarlaw13.NoteGets', WHERE WHAT IT READS IS OF BULK AT MOST 1048576: true; the input reads as it did. -/
def noteGetsUptoRow : OpenClaim := { program := "ytdchcggllcgokaa", sum := "4fb8f628c2f9168fc942c5b09a32606b080c5e622d18be6ae0e6a8d5f5e84359", func := "ashlar/ashlarlaw13.NoteGets", spec := "noteGets", apart := false, narrowed := true }
def NoteGetsUptoSaid : Prop := noteGetsUptoRow.holds Try.pinned (OpenSpec.upto noteGetsSpec)

/-- 'ashlarlaw13.NoteBack', WHERE WHAT IT READS IS OF BULK AT MOST 1048576: true; the input reads as it did. -/
def noteBackUptoRow : OpenClaim := { program := "ytdchcggllcgokaa", sum := "4fb8f628c2f9168fc942c5b09a32606b080c5e622d18be6ae0e6a8d5f5e84359", func := "ashlar/ashlarlaw13.NoteBack", spec := "noteBack", apart := false, narrowed := true }
def NoteBackUptoSaid : Prop := noteBackUptoRow.holds Try.pinned (OpenSpec.upto noteBackSpec)

/-- 'ashlarlaw13.NoteFollows', WHERE WHAT IT READS IS OF BULK AT MOST 1048576: true; the input reads as it did. -/
def noteFollowsUptoRow : OpenClaim := { program := "ytdchcggllcgokaa", sum := "4fb8f628c2f9168fc942c5b09a32606b080c5e622d18be6ae0e6a8d5f5e84359", func := "ashlar/ashlarlaw13.NoteFollows", spec := "noteFollows", apart := false, narrowed := true }
def NoteFollowsUptoSaid : Prop := noteFollowsUptoRow.holds Try.pinned (OpenSpec.upto noteFollowsSpec)

/-- 'ashlarlaw10.RosterTells', WHERE WHAT IT READS IS OF BULK AT MOST 1048576: true; the input reads as it did. -/
def rosterTellsUptoRow : OpenClaim := { program := "ytdchcggllcgokaa", sum := "4fb8f628c2f9168fc942c5b09a32606b080c5e622d18be6ae0e6a8d5f5e84359", func := "ashlar/ashlarlaw10.RosterTells", spec := "rosterTells", apart := false, narrowed := true }
def RosterTellsUptoSaid : Prop := rosterTellsUptoRow.holds Try.pinned (OpenSpec.upto rosterTellsSpec)

/-- 'ashlarlaw10.RosterPlays', WHERE WHAT IT READS IS OF BULK AT MOST 1048576: true; the input reads as it did. -/
def rosterPlaysUptoRow : OpenClaim := { program := "ytdchcggllcgokaa", sum := "4fb8f628c2f9168fc942c5b09a32606b080c5e622d18be6ae0e6a8d5f5e84359", func := "ashlar/ashlarlaw10.RosterPlays", spec := "rosterPlays", apart := false, narrowed := true }
def RosterPlaysUptoSaid : Prop := rosterPlaysUptoRow.holds Try.pinned (OpenSpec.upto rosterPlaysSpec)

/-- 'ashlarlaw10.RosterRefuses', WHERE WHAT IT READS IS OF BULK AT MOST 1048576: true; the input reads as it did. -/
def rosterRefusesUptoRow : OpenClaim := { program := "ytdchcggllcgokaa", sum := "4fb8f628c2f9168fc942c5b09a32606b080c5e622d18be6ae0e6a8d5f5e84359", func := "ashlar/ashlarlaw10.RosterRefuses", spec := "rosterRefuses", apart := false, narrowed := true }
def RosterRefusesUptoSaid : Prop := rosterRefusesUptoRow.holds Try.pinned (OpenSpec.upto rosterRefusesSpec)

/-- 'ashlarlaw08.SuperGets', WHERE WHAT IT READS IS OF BULK AT MOST 1048576: true; the input reads as it did. -/
def superGetsUptoRow : OpenClaim := { program := "ytdchcggllcgokaa", sum := "4fb8f628c2f9168fc942c5b09a32606b080c5e622d18be6ae0e6a8d5f5e84359", func := "ashlar/ashlarlaw08.SuperGets", spec := "superGets", unfollowed := true, recurses := true, apart := false, narrowed := true }
def SuperGetsUptoSaid : Prop := superGetsUptoRow.holds Try.pinned (OpenSpec.upto superGetsSpec)

/-- 'ashlarlaw08.SuperBack', WHERE WHAT IT READS IS OF BULK AT MOST 1048576: true; the input reads as it did. -/
def superBackUptoRow : OpenClaim := { program := "ytdchcggllcgokaa", sum := "4fb8f628c2f9168fc942c5b09a32606b080c5e622d18be6ae0e6a8d5f5e84359", func := "ashlar/ashlarlaw08.SuperBack", spec := "superBack", unfollowed := true, recurses := true, apart := false, narrowed := true }
def SuperBackUptoSaid : Prop := superBackUptoRow.holds Try.pinned (OpenSpec.upto superBackSpec)

/-- 'ashlarlaw08.SuperPuts', WHERE WHAT IT READS IS OF BULK AT MOST 1048576: true; the input reads as it did. -/
def superPutsUptoRow : OpenClaim := { program := "ytdchcggllcgokaa", sum := "4fb8f628c2f9168fc942c5b09a32606b080c5e622d18be6ae0e6a8d5f5e84359", func := "ashlar/ashlarlaw08.SuperPuts", spec := "superPuts", unfollowed := true, recurses := true, apart := false, narrowed := true }
def SuperPutsUptoSaid : Prop := superPutsUptoRow.holds Try.pinned (OpenSpec.upto superPutsSpec)

/-- 'ashlarlaw08.SuperNewest', WHERE WHAT IT READS IS OF BULK AT MOST 1048576: true; the input reads as it did. -/
def superNewestUptoRow : OpenClaim := { program := "ytdchcggllcgokaa", sum := "4fb8f628c2f9168fc942c5b09a32606b080c5e622d18be6ae0e6a8d5f5e84359", func := "ashlar/ashlarlaw08.SuperNewest", spec := "superNewest", unfollowed := true, recurses := true, apart := false, narrowed := true }
def SuperNewestUptoSaid : Prop := superNewestUptoRow.holds Try.pinned (OpenSpec.upto superNewestSpec)

/-- 'ashlarlaw08.SuperTorn', WHERE WHAT IT READS IS OF BULK AT MOST 1048576: true; the input reads as it did. -/
def superTornUptoRow : OpenClaim := { program := "ytdchcggllcgokaa", sum := "4fb8f628c2f9168fc942c5b09a32606b080c5e622d18be6ae0e6a8d5f5e84359", func := "ashlar/ashlarlaw08.SuperTorn", spec := "superTorn", unfollowed := true, recurses := true, apart := false, narrowed := true }
def SuperTornUptoSaid : Prop := superTornUptoRow.holds Try.pinned (OpenSpec.upto superTornSpec)

end Rows
end Go.Proofs.Ytdchcggllcgokaa
