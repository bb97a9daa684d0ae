/-
  No cell of these rows narrows 'for every input' (looked for: loops, veiled, ifaces, maps, wideKeys, modest, calm, conditions, laid).
  DERIVED. THE GIVEN ROWS OF THIS SEAT. 5 by the template 'for every input the law returns true; each argument reads behind the call as it read before'; 0 by the template 'total and deterministic' (their statements: YtajgpcnlehinbaaGreatTotals.lean).
  GIVEN WITH THE SEED: the statements are not yours to turn. If you find one false, say at which input.
  Laid BY PROGRAM, IN A SANDBOX (cutbox-rows.mjs): the forced cells as the released guide's own fill.sh prints them over the translation 1c1b654ebc0f9f00… (all of the seat's roots in one cut). By AI agents, Wed Nov 11 2026. No macro, syntax, notation, axiom, sorry.
-/
import Derived.Test.YtajgpcnlehinbaaGreatChecked
import GoSem.Claim
import GoSem.ClaimJoined
import GoSem.ClaimMapViews
import Derived.JoinedTies
import Derived.KernelRfl
namespace Go.Proofs.YtajgpcnlehinbaaGreat
/- THE CELL 'sum', in the pinned program and in every row, IS THE sha256 OF THE DUMP (.gsa) THAT YtajgpcnlehinbaaGreatProg.lean LOADS. Nothing in Lean hashes anything: it is a label: what it is worth is what the hold of that sum in a sandbox is worth. -/
noncomputable def Tryz.pinned : Pinned := { name := "ytajgpcnlehinbaagreat", sum := "1c1b654ebc0f9f00ea7924c9d45acaf1d28c9953330cd7decf9b4291360ff934", checked := Tryz.checked }
namespace Rows
def none {H : Type} : Left H := { results := [], args := [] }

/-- 'tappetlaw22.KernelFills': WHATEVER THE INPUT: true; the input reads as it did. -/
def kernelFillsSpec : ChangeSpec := { name := "kernelFills", fn := fun _ => fun
  | [d1, d2, d3] => { results := [.lit (.bool true)], args := [d1, d2, d3] }
  | _ => none }
def kernelFillsRow : OpenClaim := { program := "ytajgpcnlehinbaagreat", sum := "1c1b654ebc0f9f00ea7924c9d45acaf1d28c9953330cd7decf9b4291360ff934", func := "tappet/tappetlaw22.KernelFills", spec := "kernelFills", unfollowed := true, recurses := true, plainKeys := false, apart := false }
def KernelFillsSaid : Prop := kernelFillsRow.holds Tryz.pinned (OpenSpec.ofChange kernelFillsSpec)

/-- ITS FALSE NEIGHBOUR: 'it returns false'. Refute it at one input. -/
def kernelFillsWrong : ChangeSpec := { name := "kernelFills", fn := fun _ => fun
  | [d1, d2, d3] => { results := [.lit (.bool false)], args := [d1, d2, d3] }
  | _ => none }
def KernelFillsWrongFalsely : Prop := kernelFillsRow.holds Tryz.pinned (OpenSpec.ofChange kernelFillsWrong)

/-- 'tappetlaw22.KernelRooms': WHATEVER THE INPUT: true; the input reads as it did. -/
def kernelRoomsSpec : ChangeSpec := { name := "kernelRooms", fn := fun _ => fun
  | [d1, d2] => { results := [.lit (.bool true)], args := [d1, d2] }
  | _ => none }
def kernelRoomsRow : OpenClaim := { program := "ytajgpcnlehinbaagreat", sum := "1c1b654ebc0f9f00ea7924c9d45acaf1d28c9953330cd7decf9b4291360ff934", func := "tappet/tappetlaw22.KernelRooms", spec := "kernelRooms", unfollowed := true, recurses := true, plainKeys := false, apart := false }
def KernelRoomsSaid : Prop := kernelRoomsRow.holds Tryz.pinned (OpenSpec.ofChange kernelRoomsSpec)

/-- ITS FALSE NEIGHBOUR: 'it returns false'. Refute it at one input. -/
def kernelRoomsWrong : ChangeSpec := { name := "kernelRooms", fn := fun _ => fun
  | [d1, d2] => { results := [.lit (.bool false)], args := [d1, d2] }
  | _ => none }
def KernelRoomsWrongFalsely : Prop := kernelRoomsRow.holds Tryz.pinned (OpenSpec.ofChange kernelRoomsWrong)

/-- 'tappetlaw22.KernelRefuses': WHATEVER THE INPUT: true; the input reads as it did. -/
def kernelRefusesSpec : ChangeSpec := { name := "kernelRefuses", fn := fun _ => fun
  | [d1, d2] => { results := [.lit (.bool true)], args := [d1, d2] }
  | _ => none }
def kernelRefusesRow : OpenClaim := { program := "ytajgpcnlehinbaagreat", sum := "1c1b654ebc0f9f00ea7924c9d45acaf1d28c9953330cd7decf9b4291360ff934", func := "tappet/tappetlaw22.KernelRefuses", spec := "kernelRefuses", unfollowed := true, recurses := true, plainKeys := false, apart := false }
def KernelRefusesSaid : Prop := kernelRefusesRow.holds Tryz.pinned (OpenSpec.ofChange kernelRefusesSpec)

/-- ITS FALSE NEIGHBOUR: 'it returns false'. Refute it at one input. -/
def kernelRefusesWrong : ChangeSpec := { name := "kernelRefuses", fn := fun _ => fun
  | [d1, d2] => { results := [.lit (.bool false)], args := [d1, d2] }
  | _ => none }
def KernelRefusesWrongFalsely : Prop := kernelRefusesRow.holds Tryz.pinned (OpenSpec.ofChange kernelRefusesWrong)

/-- 'tappetlaw22.KernelApart': WHATEVER THE INPUT: true; the input reads as it did. -/
def kernelApartSpec : ChangeSpec := { name := "kernelApart", fn := fun _ => fun
  | [d1, d2, d3, d4] => { results := [.lit (.bool true)], args := [d1, d2, d3, d4] }
  | _ => none }
def kernelApartRow : OpenClaim := { program := "ytajgpcnlehinbaagreat", sum := "1c1b654ebc0f9f00ea7924c9d45acaf1d28c9953330cd7decf9b4291360ff934", func := "tappet/tappetlaw22.KernelApart", spec := "kernelApart", unfollowed := true, recurses := true, plainKeys := false, apart := false }
def KernelApartSaid : Prop := kernelApartRow.holds Tryz.pinned (OpenSpec.ofChange kernelApartSpec)

/-- ITS FALSE NEIGHBOUR: 'it returns false'. Refute it at one input. -/
def kernelApartWrong : ChangeSpec := { name := "kernelApart", fn := fun _ => fun
  | [d1, d2, d3, d4] => { results := [.lit (.bool false)], args := [d1, d2, d3, d4] }
  | _ => none }
def KernelApartWrongFalsely : Prop := kernelApartRow.holds Tryz.pinned (OpenSpec.ofChange kernelApartWrong)

/-- 'tappetlaw22.KernelRuns': WHATEVER THE INPUT: true; the input reads as it did. -/
def kernelRunsSpec : ChangeSpec := { name := "kernelRuns", fn := fun _ => fun
  | [d1, d2, d3] => { results := [.lit (.bool true)], args := [d1, d2, d3] }
  | _ => none }
def kernelRunsRow : OpenClaim := { program := "ytajgpcnlehinbaagreat", sum := "1c1b654ebc0f9f00ea7924c9d45acaf1d28c9953330cd7decf9b4291360ff934", func := "tappet/tappetlaw22.KernelRuns", spec := "kernelRuns", unfollowed := true, recurses := true, plainKeys := false, apart := false }
def KernelRunsSaid : Prop := kernelRunsRow.holds Tryz.pinned (OpenSpec.ofChange kernelRunsSpec)

/-- ITS FALSE NEIGHBOUR: 'it returns false'. Refute it at one input. -/
def kernelRunsWrong : ChangeSpec := { name := "kernelRuns", fn := fun _ => fun
  | [d1, d2, d3] => { results := [.lit (.bool false)], args := [d1, d2, d3] }
  | _ => none }
def KernelRunsWrongFalsely : Prop := kernelRunsRow.holds Tryz.pinned (OpenSpec.ofChange kernelRunsWrong)

/- THE SECOND FORM. 'bulk': how many values and letters a reading holds, each counted each time it is reached (what is shared counts as often as it is met; a slice's spare places count too). A statement '..UptoSaid' is the law's where the arguments, and the package variables that the reading takes, are together of bulk at most 1048576: NARROWER than '..Said'. Prove '..Said' where nothing that the law and all that it calls make is longer than what came in: it says more and counts as full. Else prove '..UptoSaid'. A law counts once. -/
mutual
def uptoBulk {H : Type} : DataW H → Nat
  | .lit (.string bytes) => bytes.length + 1
  | .lit _ => 1
  | .nil => 1
  | .ptr d => uptoBulk d + 1
  | .slice elems spare => uptoBulkAll elems + uptoBulkAll spare + 1
  | .agg parts => uptoBulkAll parts + 1
  | .iface _ d => uptoBulk d + 1
  | .map entries => uptoBulkEntries entries + 1
  | .held _ => 1
def uptoBulkAll {H : Type} : List (DataW H) → Nat
  | [] => 0
  | d :: r => uptoBulk d + uptoBulkAll r
def uptoBulkEntries {H : Type} : List (Lit × DataW H) → Nat
  | [] => 0
  | x :: r => uptoBulkEntry x + uptoBulkEntries r
def uptoBulkEntry {H : Type} : Lit × DataW H → Nat
  | (.string bytes, d) => bytes.length + uptoBulk d + 1
  | (_, d) => uptoBulk d + 1
 end
def uptoSmall : (H : Type) → List (DataW H) → Bool := fun _ ds => decide (uptoBulkAll ds ≤ 1048576)
def OpenSpec.upto (s : _root_.Go.ChangeSpec) : _root_.Go.OpenSpec := { _root_.Go.OpenSpec.ofChange s with cond := some uptoSmall }

/-- 'tappetlaw22.KernelFills', WHERE WHAT IT READS IS OF BULK AT MOST 1048576: true; the input reads as it did. -/
def kernelFillsUptoRow : OpenClaim := { program := "ytajgpcnlehinbaagreat", sum := "1c1b654ebc0f9f00ea7924c9d45acaf1d28c9953330cd7decf9b4291360ff934", func := "tappet/tappetlaw22.KernelFills", spec := "kernelFills", unfollowed := true, recurses := true, plainKeys := false, apart := false, narrowed := true }
def KernelFillsUptoSaid : Prop := kernelFillsUptoRow.holds Tryz.pinned (OpenSpec.upto kernelFillsSpec)

/-- 'tappetlaw22.KernelRooms', WHERE WHAT IT READS IS OF BULK AT MOST 1048576: true; the input reads as it did. -/
def kernelRoomsUptoRow : OpenClaim := { program := "ytajgpcnlehinbaagreat", sum := "1c1b654ebc0f9f00ea7924c9d45acaf1d28c9953330cd7decf9b4291360ff934", func := "tappet/tappetlaw22.KernelRooms", spec := "kernelRooms", unfollowed := true, recurses := true, plainKeys := false, apart := false, narrowed := true }
def KernelRoomsUptoSaid : Prop := kernelRoomsUptoRow.holds Tryz.pinned (OpenSpec.upto kernelRoomsSpec)

/-- 'tappetlaw22.KernelRefuses', WHERE WHAT IT READS IS OF BULK AT MOST 1048576: true; the input reads as it did. -/
def kernelRefusesUptoRow : OpenClaim := { program := "ytajgpcnlehinbaagreat", sum := "1c1b654ebc0f9f00ea7924c9d45acaf1d28c9953330cd7decf9b4291360ff934", func := "tappet/tappetlaw22.KernelRefuses", spec := "kernelRefuses", unfollowed := true, recurses := true, plainKeys := false, apart := false, narrowed := true }
def KernelRefusesUptoSaid : Prop := kernelRefusesUptoRow.holds Tryz.pinned (OpenSpec.upto kernelRefusesSpec)

/-- 'tappetlaw22.KernelApart', WHERE WHAT IT READS IS OF BULK AT MOST 1048576: true; the input reads as it did. -/
def kernelApartUptoRow : OpenClaim := { program := "ytajgpcnlehinbaagreat", sum := "1c1b654ebc0f9f00ea7924c9d45acaf1d28c9953330cd7decf9b4291360ff934", func := "tappet/tappetlaw22.KernelApart", spec := "kernelApart", unfollowed := true, recurses := true, plainKeys := false, apart := false, narrowed := true }
def KernelApartUptoSaid : Prop := kernelApartUptoRow.holds Tryz.pinned (OpenSpec.upto kernelApartSpec)

/-- 'tappetlaw22.KernelRuns', WHERE WHAT IT READS IS OF BULK AT MOST 1048576: true; the input reads as it did. -/
def kernelRunsUptoRow : OpenClaim := { program := "ytajgpcnlehinbaagreat", sum := "1c1b654ebc0f9f00ea7924c9d45acaf1d28c9953330cd7decf9b4291360ff934", func := "tappet/tappetlaw22.KernelRuns", spec := "kernelRuns", unfollowed := true, recurses := true, plainKeys := false, apart := false, narrowed := true }
def KernelRunsUptoSaid : Prop := kernelRunsUptoRow.holds Tryz.pinned (OpenSpec.upto kernelRunsSpec)

end Rows
end Go.Proofs.YtajgpcnlehinbaaGreat
