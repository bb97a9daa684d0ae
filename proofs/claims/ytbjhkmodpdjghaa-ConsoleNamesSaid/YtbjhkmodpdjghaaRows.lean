/-
  No cell of these rows narrows 'for every input' (looked for: loops, veiled, ifaces, maps, wideKeys, modest, calm, conditions, laid).
  DERIVED. THE GIVEN ROWS OF THIS SEAT. 5 by the template 'for every input the law returns true; each argument reads behind the call as it read before'; 0 by the template 'total and deterministic' (their statements: YtbjhkmodpdjghaaTotals.lean).
  GIVEN WITH THE SEED: the statements are not yours to turn. If you find one false, say at which input.
  Laid BY PROGRAM, IN A SANDBOX (cutbox-rows.mjs): the forced cells as the released guide's own fill.sh prints them over the translation 75c39c95473a1431… (all of the seat's roots in one cut). By AI agents, Wed Nov 11 2026. No macro, syntax, notation, axiom, sorry.
-/
import Derived.Test.YtbjhkmodpdjghaaChecked
import GoSem.Claim
import GoSem.ClaimJoined
import GoSem.ClaimMapViews
import Derived.JoinedTies
import Derived.KernelRfl
namespace Go.Proofs.Ytbjhkmodpdjghaa
/- THE CELL 'sum', in the pinned program and in every row, IS THE sha256 OF THE DUMP (.gsa) THAT YtbjhkmodpdjghaaProg.lean LOADS. Nothing in Lean hashes anything: it is a label: what it is worth is what the hold of that sum in a sandbox is worth. -/
noncomputable def Try.pinned : Pinned := { name := "ytbjhkmodpdjghaa", sum := "75c39c95473a1431c7529822c3815e098ee84c75ac822f628cb9696bd197f79c", checked := Try.checked }
namespace Rows
def none {H : Type} : Left H := { results := [], args := [] }

/-- 'tappetlaw22.KernelNames': WHATEVER THE INPUT: true; the input reads as it did. -/
def kernelNamesSpec : ChangeSpec := { name := "kernelNames", fn := fun _ => fun
  | [] => { results := [.lit (.bool true)], args := [] }
  | _ => none }
def kernelNamesRow : OpenClaim := { program := "ytbjhkmodpdjghaa", sum := "75c39c95473a1431c7529822c3815e098ee84c75ac822f628cb9696bd197f79c", func := "tappet/tappetlaw22.KernelNames", spec := "kernelNames", apart := false }
def KernelNamesSaid : Prop := kernelNamesRow.holds Try.pinned (OpenSpec.ofChange kernelNamesSpec)

/-- ITS FALSE NEIGHBOUR: 'it returns false'. Refute it at one input. -/
def kernelNamesWrong : ChangeSpec := { name := "kernelNames", fn := fun _ => fun
  | [] => { results := [.lit (.bool false)], args := [] }
  | _ => none }
def KernelNamesWrongFalsely : Prop := kernelNamesRow.holds Try.pinned (OpenSpec.ofChange kernelNamesWrong)

/-- 'tappetlaw26.AuditNames': WHATEVER THE INPUT: true; the input reads as it did. -/
def auditNamesSpec : ChangeSpec := { name := "auditNames", fn := fun _ => fun
  | [] => { results := [.lit (.bool true)], args := [] }
  | _ => none }
def auditNamesRow : OpenClaim := { program := "ytbjhkmodpdjghaa", sum := "75c39c95473a1431c7529822c3815e098ee84c75ac822f628cb9696bd197f79c", func := "tappet/tappetlaw26.AuditNames", spec := "auditNames", apart := false }
def AuditNamesSaid : Prop := auditNamesRow.holds Try.pinned (OpenSpec.ofChange auditNamesSpec)

/-- ITS FALSE NEIGHBOUR: 'it returns false'. Refute it at one input. -/
def auditNamesWrong : ChangeSpec := { name := "auditNames", fn := fun _ => fun
  | [] => { results := [.lit (.bool false)], args := [] }
  | _ => none }
def AuditNamesWrongFalsely : Prop := auditNamesRow.holds Try.pinned (OpenSpec.ofChange auditNamesWrong)

/-- 'tappetlaw24.ComNames': WHATEVER THE INPUT: true; the input reads as it did. -/
def comNamesSpec : ChangeSpec := { name := "comNames", fn := fun _ => fun
  | [] => { results := [.lit (.bool true)], args := [] }
  | _ => none }
def comNamesRow : OpenClaim := { program := "ytbjhkmodpdjghaa", sum := "75c39c95473a1431c7529822c3815e098ee84c75ac822f628cb9696bd197f79c", func := "tappet/tappetlaw24.ComNames", spec := "comNames", apart := false }
def ComNamesSaid : Prop := comNamesRow.holds Try.pinned (OpenSpec.ofChange comNamesSpec)

/-- ITS FALSE NEIGHBOUR: 'it returns false'. Refute it at one input. -/
def comNamesWrong : ChangeSpec := { name := "comNames", fn := fun _ => fun
  | [] => { results := [.lit (.bool false)], args := [] }
  | _ => none }
def ComNamesWrongFalsely : Prop := comNamesRow.holds Try.pinned (OpenSpec.ofChange comNamesWrong)

/-- 'tappetlaw28.ExploreNames': WHATEVER THE INPUT: true; the input reads as it did. -/
def exploreNamesSpec : ChangeSpec := { name := "exploreNames", fn := fun _ => fun
  | [] => { results := [.lit (.bool true)], args := [] }
  | _ => none }
def exploreNamesRow : OpenClaim := { program := "ytbjhkmodpdjghaa", sum := "75c39c95473a1431c7529822c3815e098ee84c75ac822f628cb9696bd197f79c", func := "tappet/tappetlaw28.ExploreNames", spec := "exploreNames", apart := false }
def ExploreNamesSaid : Prop := exploreNamesRow.holds Try.pinned (OpenSpec.ofChange exploreNamesSpec)

/-- ITS FALSE NEIGHBOUR: 'it returns false'. Refute it at one input. -/
def exploreNamesWrong : ChangeSpec := { name := "exploreNames", fn := fun _ => fun
  | [] => { results := [.lit (.bool false)], args := [] }
  | _ => none }
def ExploreNamesWrongFalsely : Prop := exploreNamesRow.holds Try.pinned (OpenSpec.ofChange exploreNamesWrong)

/-- 'tappetlaw30.ConsoleNames': WHATEVER THE INPUT: true; the input reads as it did. -/
def consoleNamesSpec : ChangeSpec := { name := "consoleNames", fn := fun _ => fun
  | [] => { results := [.lit (.bool true)], args := [] }
  | _ => none }
def consoleNamesRow : OpenClaim := { program := "ytbjhkmodpdjghaa", sum := "75c39c95473a1431c7529822c3815e098ee84c75ac822f628cb9696bd197f79c", func := "tappet/tappetlaw30.ConsoleNames", spec := "consoleNames", apart := false }
def ConsoleNamesSaid : Prop := consoleNamesRow.holds Try.pinned (OpenSpec.ofChange consoleNamesSpec)

/-- ITS FALSE NEIGHBOUR: 'it returns false'. Refute it at one input. -/
def consoleNamesWrong : ChangeSpec := { name := "consoleNames", fn := fun _ => fun
  | [] => { results := [.lit (.bool false)], args := [] }
  | _ => none }
def ConsoleNamesWrongFalsely : Prop := consoleNamesRow.holds Try.pinned (OpenSpec.ofChange consoleNamesWrong)

/- THE SECOND FORM. 'bulk': how many values and letters a reading holds, each counted each time it is reached (what is shared counts as often as it is met; a slice's spare places count too). A statement '..UptoSaid' is the law's where the arguments, and the package variables that the reading takes, are together of bulk at most 1048576: NARROWER than '..Said'. Prove '..Said' where nothing that the law and all that it calls make is longer than what came in: it says more and counts as full. Else prove '..UptoSaid'. A law counts once. -/
mutual
def uptoBulk {H : Type} : DataW H → Nat
  | .lit (.string bytes) => bytes.length + 1
  | .lit _ => 1
  | .nil => 1
  | .ptr d => uptoBulk d + 1
  | .slice elems spare => uptoBulkAll elems + uptoBulkAll spare + 1
  | .agg parts => uptoBulkAll parts + 1
  | .iface _ d => uptoBulk d + 1
  | .map entries => uptoBulkEntries entries + 1
  | .held _ => 1
def uptoBulkAll {H : Type} : List (DataW H) → Nat
  | [] => 0
  | d :: r => uptoBulk d + uptoBulkAll r
def uptoBulkEntries {H : Type} : List (Lit × DataW H) → Nat
  | [] => 0
  | x :: r => uptoBulkEntry x + uptoBulkEntries r
def uptoBulkEntry {H : Type} : Lit × DataW H → Nat
  | (.string bytes, d) => bytes.length + uptoBulk d + 1
  | (_, d) => uptoBulk d + 1
 end
def uptoSmall : (H : Type) → List (DataW H) → Bool := fun _ ds => decide (uptoBulkAll ds ≤ 1048576)
def OpenSpec.upto (s : _root_.Go.ChangeSpec) : _root_.Go.OpenSpec := { _root_.Go.OpenSpec.ofChange s with cond := some uptoSmall }

/-- 'tappetlaw22.KernelNames', WHERE WHAT IT READS IS OF BULK AT MOST 1048576: true; the input reads as it did. -/
def kernelNamesUptoRow : OpenClaim := { program := "ytbjhkmodpdjghaa", sum := "75c39c95473a1431c7529822c3815e098ee84c75ac822f628cb9696bd197f79c", func := "tappet/tappetlaw22.KernelNames", spec := "kernelNames", apart := false, narrowed := true }
def KernelNamesUptoSaid : Prop := kernelNamesUptoRow.holds Try.pinned (OpenSpec.upto kernelNamesSpec)

/-- 'tappetlaw26.AuditNames', WHERE WHAT IT READS IS OF BULK AT MOST 1048576: true; the input reads as it did. -/
def auditNamesUptoRow : OpenClaim := { program := "ytbjhkmodpdjghaa", sum := "75c39c95473a1431c7529822c3815e098ee84c75ac822f628cb9696bd197f79c", func := "tappet/tappetlaw26.AuditNames", spec := "auditNames", apart := false, narrowed := true }
def AuditNamesUptoSaid : Prop := auditNamesUptoRow.holds Try.pinned (OpenSpec.upto auditNamesSpec)

/-- 'tappetlaw24.ComNames', WHERE WHAT IT READS IS OF BULK AT MOST 1048576: true; the input reads as it did. -/
def comNamesUptoRow : OpenClaim := { program := "ytbjhkmodpdjghaa", sum := "75c39c95473a1431c7529822c3815e098ee84c75ac822f628cb9696bd197f79c", func := "tappet/tappetlaw24.ComNames", spec := "comNames", apart := false, narrowed := true }
def ComNamesUptoSaid : Prop := comNamesUptoRow.holds Try.pinned (OpenSpec.upto comNamesSpec)

/-- 'tappetlaw28.ExploreNames', WHERE WHAT IT READS IS OF BULK AT MOST 1048576: true; the input reads as it did. -/
def exploreNamesUptoRow : OpenClaim := { program := "ytbjhkmodpdjghaa", sum := "75c39c95473a1431c7529822c3815e098ee84c75ac822f628cb9696bd197f79c", func := "tappet/tappetlaw28.ExploreNames", spec := "exploreNames", apart := false, narrowed := true }
def ExploreNamesUptoSaid : Prop := exploreNamesUptoRow.holds Try.pinned (OpenSpec.upto exploreNamesSpec)

/-- 'tappetlaw30.ConsoleNames', WHERE WHAT IT READS IS OF BULK AT MOST 1048576: true; the input reads as it did. -/
def consoleNamesUptoRow : OpenClaim := { program := "ytbjhkmodpdjghaa", sum := "75c39c95473a1431c7529822c3815e098ee84c75ac822f628cb9696bd197f79c", func := "tappet/tappetlaw30.ConsoleNames", spec := "consoleNames", apart := false, narrowed := true }
def ConsoleNamesUptoSaid : Prop := consoleNamesUptoRow.holds Try.pinned (OpenSpec.upto consoleNamesSpec)

end Rows
end Go.Proofs.Ytbjhkmodpdjghaa
