/-
  NARROWER THAN 'FOR EVERY INPUT', by the rows' own cells (each row's printed sentence says how): MarkPuts: laid · MarkGets: laid · MarkBack: laid · MarkNewest: laid.
  DERIVED. THE GIVEN ROWS OF THIS SEAT. 4 by the template 'for every input the law returns true; each argument reads behind the call as it read before'; 0 by the template 'total and deterministic' (their statements: YtdchcggllcgokaaDoorTotals.lean).
  GIVEN WITH THE SEED: the statements are not yours to turn. If you find one false, say at which input.
  Laid BY PROGRAM, IN A SANDBOX (cutbox-rows.mjs): the forced cells as the released guide's own fill.sh prints them over the translation e771ae93e72795f9… (all of the seat's roots in one cut). By AI agents, Wed Nov 11 2026. No macro, syntax, notation, axiom, sorry.
-/
import Derived.Test.YtdchcggllcgokaaDoorChecked
import GoSem.Claim
import GoSem.ClaimJoined
import GoSem.ClaimMapViews
import Derived.JoinedTies
import Derived.KernelRfl
namespace Go.Proofs.YtdchcggllcgokaaDoor
/- THE CELL 'sum', in the pinned program and in every row, IS THE sha256 OF THE DUMP (.gsa) THAT YtdchcggllcgokaaDoorProg.lean LOADS. Nothing in Lean hashes anything: it is a label: what it is worth is what the hold of that sum in a sandbox is worth. -/
noncomputable def Tryd.pinned : Pinned := { name := "ytdchcggllcgokaadoor", sum := "e771ae93e72795f992c4822eb9710be24c853a86a20fae18c92e3074d3c27f78", checked := Tryd.checked }
namespace Rows
def none {H : Type} : Left H := { results := [], args := [] }

/- WHAT THE LISTED PACKAGE-LEVEL VARIABLES READ AS WHEN THE CALL BEGINS. Each datum BY PROGRAM (the guide's laid-datum.mjs) off the statement by which the dump's own 'gosem.cut.vars' lays the variable. In a bare row this is a premise. The card (YtdchcggllcgokaaDoorCards.lean) ties it to the program's text. -/
def laid_ashlar_mark_sizes {H : Type} : DataW H := .agg [.lit (.int .i64 8), .lit (.int .i64 2), .lit (.int .i64 8), .lit (.int .i64 8)]

/-- 'ashlarlaw09.MarkPuts': WHATEVER THE INPUT: true; the input reads as it did. -/
def markPutsSpec : ChangeSpec := { name := "markPuts", fn := fun _ => fun
  | [d1, d2] => { results := [.lit (.bool true)], args := [d1, d2] }
  | _ => none }
def markPutsRow : OpenClaim := { program := "ytdchcggllcgokaadoor", sum := "e771ae93e72795f992c4822eb9710be24c853a86a20fae18c92e3074d3c27f78", func := "ashlar/ashlarlaw09.MarkPuts", spec := "markPuts", unfollowed := true, recurses := true, named := ["ashlar/mark.sizes"], apart := false, laid := [("ashlar/mark.sizes", laid_ashlar_mark_sizes)] }
def MarkPutsSaid : Prop := markPutsRow.holds Tryd.pinned (OpenSpec.ofChange markPutsSpec)

/-- ITS FALSE NEIGHBOUR: 'it returns false'. Refute it at one input. -/
def markPutsWrong : ChangeSpec := { name := "markPuts", fn := fun _ => fun
  | [d1, d2] => { results := [.lit (.bool false)], args := [d1, d2] }
  | _ => none }
def MarkPutsWrongFalsely : Prop := markPutsRow.holds Tryd.pinned (OpenSpec.ofChange markPutsWrong)

/-- 'ashlarlaw09.MarkGets': WHATEVER THE INPUT: true; the input reads as it did. -/
def markGetsSpec : ChangeSpec := { name := "markGets", fn := fun _ => fun
  | [d1, d2, d3] => { results := [.lit (.bool true)], args := [d1, d2, d3] }
  | _ => none }
def markGetsRow : OpenClaim := { program := "ytdchcggllcgokaadoor", sum := "e771ae93e72795f992c4822eb9710be24c853a86a20fae18c92e3074d3c27f78", func := "ashlar/ashlarlaw09.MarkGets", spec := "markGets", unfollowed := true, recurses := true, named := ["ashlar/mark.sizes"], apart := false, laid := [("ashlar/mark.sizes", laid_ashlar_mark_sizes)] }
def MarkGetsSaid : Prop := markGetsRow.holds Tryd.pinned (OpenSpec.ofChange markGetsSpec)

/-- ITS FALSE NEIGHBOUR: 'it returns false'. Refute it at one input. -/
def markGetsWrong : ChangeSpec := { name := "markGets", fn := fun _ => fun
  | [d1, d2, d3] => { results := [.lit (.bool false)], args := [d1, d2, d3] }
  | _ => none }
def MarkGetsWrongFalsely : Prop := markGetsRow.holds Tryd.pinned (OpenSpec.ofChange markGetsWrong)

/-- 'ashlarlaw09.MarkBack': WHATEVER THE INPUT: true; the input reads as it did. -/
def markBackSpec : ChangeSpec := { name := "markBack", fn := fun _ => fun
  | [d1, d2, d3] => { results := [.lit (.bool true)], args := [d1, d2, d3] }
  | _ => none }
def markBackRow : OpenClaim := { program := "ytdchcggllcgokaadoor", sum := "e771ae93e72795f992c4822eb9710be24c853a86a20fae18c92e3074d3c27f78", func := "ashlar/ashlarlaw09.MarkBack", spec := "markBack", unfollowed := true, recurses := true, named := ["ashlar/mark.sizes"], apart := false, laid := [("ashlar/mark.sizes", laid_ashlar_mark_sizes)] }
def MarkBackSaid : Prop := markBackRow.holds Tryd.pinned (OpenSpec.ofChange markBackSpec)

/-- ITS FALSE NEIGHBOUR: 'it returns false'. Refute it at one input. -/
def markBackWrong : ChangeSpec := { name := "markBack", fn := fun _ => fun
  | [d1, d2, d3] => { results := [.lit (.bool false)], args := [d1, d2, d3] }
  | _ => none }
def MarkBackWrongFalsely : Prop := markBackRow.holds Tryd.pinned (OpenSpec.ofChange markBackWrong)

/-- 'ashlarlaw09.MarkNewest': WHATEVER THE INPUT: true; the input reads as it did. -/
def markNewestSpec : ChangeSpec := { name := "markNewest", fn := fun _ => fun
  | [d1, d2, d3, d4, d5, d6] => { results := [.lit (.bool true)], args := [d1, d2, d3, d4, d5, d6] }
  | _ => none }
def markNewestRow : OpenClaim := { program := "ytdchcggllcgokaadoor", sum := "e771ae93e72795f992c4822eb9710be24c853a86a20fae18c92e3074d3c27f78", func := "ashlar/ashlarlaw09.MarkNewest", spec := "markNewest", unfollowed := true, recurses := true, named := ["ashlar/mark.sizes"], apart := false, laid := [("ashlar/mark.sizes", laid_ashlar_mark_sizes)] }
def MarkNewestSaid : Prop := markNewestRow.holds Tryd.pinned (OpenSpec.ofChange markNewestSpec)

/-- ITS FALSE NEIGHBOUR: 'it returns false'. Refute it at one input. -/
def markNewestWrong : ChangeSpec := { name := "markNewest", fn := fun _ => fun
  | [d1, d2, d3, d4, d5, d6] => { results := [.lit (.bool false)], args := [d1, d2, d3, d4, d5, d6] }
  | _ => none }
def MarkNewestWrongFalsely : Prop := markNewestRow.holds Tryd.pinned (OpenSpec.ofChange markNewestWrong)

/- THE SECOND FORM. 'bulk': how many values and letters a reading holds, each counted each time it is reached (what is shared counts as often as it is met; a slice's spare places count too). A statement '..UptoSaid' is the law's where the arguments, and the package variables that the reading takes, are together of bulk at most 1048576: NARROWER than '..Said'. Prove '..Said' where nothing that the law and all that it calls make is longer than what came in: it says more and counts as full. Else prove '..UptoSaid'. A law counts once. -/
mutual
def uptoBulk {H : Type} : DataW H → Nat
  | .lit (.string bytes) => bytes.length + 1
  | .lit _ => 1
  | .nil => 1
  | .ptr d => uptoBulk d + 1
  | .slice elems spare => uptoBulkAll elems + uptoBulkAll spare + 1
  | .agg parts => uptoBulkAll parts + 1
  | .iface _ d => uptoBulk d + 1
  | .map entries => uptoBulkEntries entries + 1
  | .held _ => 1
def uptoBulkAll {H : Type} : List (DataW H) → Nat
  | [] => 0
  | d :: r => uptoBulk d + uptoBulkAll r
def uptoBulkEntries {H : Type} : List (Lit × DataW H) → Nat
  | [] => 0
  | x :: r => uptoBulkEntry x + uptoBulkEntries r
def uptoBulkEntry {H : Type} : Lit × DataW H → Nat
  | (.string bytes, d) => bytes.length + uptoBulk d + 1
  | (_, d) => uptoBulk d + 1
 end
def uptoSmall : (H : Type) → List (DataW H) → Bool := fun _ ds => decide (uptoBulkAll ds ≤ 1048576)
def OpenSpec.upto (s : _root_.Go.ChangeSpec) : _root_.Go.OpenSpec := { _root_.Go.OpenSpec.ofChange s with cond := some uptoSmall }

/-- 'ashlarlaw09.MarkPuts', WHERE WHAT IT READS IS OF BULK AT MOST 1048576: true; the input reads as it did. -/
def markPutsUptoRow : OpenClaim := { program := "ytdchcggllcgokaadoor", sum := "e771ae93e72795f992c4822eb9710be24c853a86a20fae18c92e3074d3c27f78", func := "ashlar/ashlarlaw09.MarkPuts", spec := "markPuts", unfollowed := true, recurses := true, named := ["ashlar/mark.sizes"], apart := false, laid := [("ashlar/mark.sizes", laid_ashlar_mark_sizes)], narrowed := true }
def MarkPutsUptoSaid : Prop := markPutsUptoRow.holds Tryd.pinned (OpenSpec.upto markPutsSpec)

/-- 'ashlarlaw09.MarkGets', WHERE WHAT IT READS IS OF BULK AT MOST 1048576: true; the input reads as it did. -/
def markGetsUptoRow : OpenClaim := { program := "ytdchcggllcgokaadoor", sum := "e771ae93e72795f992c4822eb9710be24c853a86a20fae18c92e3074d3c27f78", func := "ashlar/ashlarlaw09.MarkGets", spec := "markGets", unfollowed := true, recurses := true, named := ["ashlar/mark.sizes"], apart := false, laid := [("ashlar/mark.sizes", laid_ashlar_mark_sizes)], narrowed := true }
def MarkGetsUptoSaid : Prop := markGetsUptoRow.holds Tryd.pinned (OpenSpec.upto markGetsSpec)

/-- 'ashlarlaw09.MarkBack', WHERE WHAT IT READS IS OF BULK AT MOST 1048576: true; the input reads as it did. -/
def markBackUptoRow : OpenClaim := { program := "ytdchcggllcgokaadoor", sum := "e771ae93e72795f992c4822eb9710be24c853a86a20fae18c92e3074d3c27f78", func := "ashlar/ashlarlaw09.MarkBack", spec := "markBack", unfollowed := true, recurses := true, named := ["ashlar/mark.sizes"], apart := false, laid := [("ashlar/mark.sizes", laid_ashlar_mark_sizes)], narrowed := true }
def MarkBackUptoSaid : Prop := markBackUptoRow.holds Tryd.pinned (OpenSpec.upto markBackSpec)

/-- 'ashlarlaw09.MarkNewest', WHERE WHAT IT READS IS OF BULK AT MOST 1048576: true; the input reads as it did. -/
def markNewestUptoRow : OpenClaim := { program := "ytdchcggllcgokaadoor", sum := "e771ae93e72795f992c4822eb9710be24c853a86a20fae18c92e3074d3c27f78", func := "ashlar/ashlarlaw09.MarkNewest", spec := "markNewest", unfollowed := true, recurses := true, named := ["ashlar/mark.sizes"], apart := false, laid := [("ashlar/mark.sizes", laid_ashlar_mark_sizes)], narrowed := true }
def MarkNewestUptoSaid : Prop := markNewestUptoRow.holds Tryd.pinned (OpenSpec.upto markNewestSpec)

end Rows
end Go.Proofs.YtdchcggllcgokaaDoor
