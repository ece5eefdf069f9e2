/-
  No cell of these rows narrows 'for every input' (looked for: loops, veiled, ifaces, maps, wideKeys, modest, calm, conditions, laid).
  DERIVED. THE GIVEN ROWS OF THIS SEAT. 3 by the template 'for every input the law returns true; each argument reads behind the call as it read before'; 0 by the template 'total and deterministic' (their statements: YtffgecomdlnngaaTotals.lean).
  GIVEN WITH THE SEED: the statements are not yours to turn. If you find one false, say at which input.
  Laid BY PROGRAM, IN A SANDBOX (cutbox-rows.mjs): the forced cells as the released guide's own fill.sh prints them over the translation cb567a321848ee64… (all of the seat's roots in one cut). By AI agents, Wed Nov 11 2026. No macro, syntax, notation, axiom, sorry.
-/
import Derived.Test.YtffgecomdlnngaaChecked
import GoSem.Claim
import GoSem.ClaimJoined
import GoSem.ClaimMapViews
import Derived.JoinedTies
import Derived.KernelRfl
namespace Go.Proofs.Ytffgecomdlnngaa
/- THE CELL 'sum', in the pinned program and in every row, IS THE sha256 OF THE DUMP (.gsa) THAT YtffgecomdlnngaaProg.lean LOADS. Nothing in Lean hashes anything: it is a label: what it is worth is what the hold of that sum in a sandbox is worth. -/
noncomputable def Try.pinned : Pinned := { name := "ytffgecomdlnngaa", sum := "cb567a321848ee643da18382a624e6578215af086b706cbcf0ed2cc4ac183cfa", checked := Try.checked }
namespace Rows
def none {H : Type} : Left H := { results := [], args := [] }

/-- 'conduitlaw25.ProducerOnce': WHATEVER THE INPUT: true; the input reads as it did. -/
def producerOnceSpec : ChangeSpec := { name := "producerOnce", fn := fun _ => fun
  | [d] => { results := [.lit (.bool true)], args := [d] }
  | _ => none }
def producerOnceRow : OpenClaim := { program := "ytffgecomdlnngaa", sum := "cb567a321848ee643da18382a624e6578215af086b706cbcf0ed2cc4ac183cfa", func := "conduit/conduitlaw25.ProducerOnce", spec := "producerOnce", inPlace := ["slices.overlaps[conduit/api.Producer]"], unfollowed := true, recurses := true, plainKeys := false, apart := false }
def ProducerOnceSaid : Prop := producerOnceRow.holds Try.pinned (OpenSpec.ofChange producerOnceSpec)

/-- ITS FALSE NEIGHBOUR: 'it returns false'. Refute it at one input. -/
def producerOnceWrong : ChangeSpec := { name := "producerOnce", fn := fun _ => fun
  | [d] => { results := [.lit (.bool false)], args := [d] }
  | _ => none }
def ProducerOnceWrongFalsely : Prop := producerOnceRow.holds Try.pinned (OpenSpec.ofChange producerOnceWrong)

/-- 'conduitlaw25.ProducerRecent': WHATEVER THE INPUT: true; the input reads as it did. -/
def producerRecentSpec : ChangeSpec := { name := "producerRecent", fn := fun _ => fun
  | [d1, d2] => { results := [.lit (.bool true)], args := [d1, d2] }
  | _ => none }
def producerRecentRow : OpenClaim := { program := "ytffgecomdlnngaa", sum := "cb567a321848ee643da18382a624e6578215af086b706cbcf0ed2cc4ac183cfa", func := "conduit/conduitlaw25.ProducerRecent", spec := "producerRecent", inPlace := ["slices.overlaps[conduit/api.Producer]"], unfollowed := true, recurses := true, plainKeys := false, apart := false }
def ProducerRecentSaid : Prop := producerRecentRow.holds Try.pinned (OpenSpec.ofChange producerRecentSpec)

/-- ITS FALSE NEIGHBOUR: 'it returns false'. Refute it at one input. -/
def producerRecentWrong : ChangeSpec := { name := "producerRecent", fn := fun _ => fun
  | [d1, d2] => { results := [.lit (.bool false)], args := [d1, d2] }
  | _ => none }
def ProducerRecentWrongFalsely : Prop := producerRecentRow.holds Try.pinned (OpenSpec.ofChange producerRecentWrong)

/-- 'conduitlaw25.ProducerOthers': WHATEVER THE INPUT: true; the input reads as it did. -/
def producerOthersSpec : ChangeSpec := { name := "producerOthers", fn := fun _ => fun
  | [d1, d2, d3] => { results := [.lit (.bool true)], args := [d1, d2, d3] }
  | _ => none }
def producerOthersRow : OpenClaim := { program := "ytffgecomdlnngaa", sum := "cb567a321848ee643da18382a624e6578215af086b706cbcf0ed2cc4ac183cfa", func := "conduit/conduitlaw25.ProducerOthers", spec := "producerOthers", inPlace := ["slices.overlaps[conduit/api.Producer]"], unfollowed := true, recurses := true, plainKeys := false, apart := false }
def ProducerOthersSaid : Prop := producerOthersRow.holds Try.pinned (OpenSpec.ofChange producerOthersSpec)

/-- ITS FALSE NEIGHBOUR: 'it returns false'. Refute it at one input. -/
def producerOthersWrong : ChangeSpec := { name := "producerOthers", fn := fun _ => fun
  | [d1, d2, d3] => { results := [.lit (.bool false)], args := [d1, d2, d3] }
  | _ => none }
def ProducerOthersWrongFalsely : Prop := producerOthersRow.holds Try.pinned (OpenSpec.ofChange producerOthersWrong)

/- THE SECOND FORM. 'bulk': how many values and letters a reading holds, each counted each time it is reached (what is shared counts as often as it is met; a slice's spare places count too). A statement '..UptoSaid' is the law's where the arguments, and the package variables that the reading takes, are together of bulk at most 1048576: NARROWER than '..Said'. Prove '..Said' where nothing that the law and all that it calls make is longer than what came in: it says more and counts as full. Else prove '..UptoSaid'. A law counts once. -/
mutual
def uptoBulk {H : Type} : DataW H → Nat
  | .lit (.string bytes) => bytes.length + 1
  | .lit _ => 1
  | .nil => 1
  | .ptr d => uptoBulk d + 1
  | .slice elems spare => uptoBulkAll elems + uptoBulkAll spare + 1
  | .agg parts => uptoBulkAll parts + 1
  | .iface _ d => uptoBulk d + 1
  | .map entries => uptoBulkEntries entries + 1
  | .held _ => 1
def uptoBulkAll {H : Type} : List (DataW H) → Nat
  | [] => 0
  | d :: r => uptoBulk d + uptoBulkAll r
def uptoBulkEntries {H : Type} : List (Lit × DataW H) → Nat
  | [] => 0
  | x :: r => uptoBulkEntry x + uptoBulkEntries r
def uptoBulkEntry {H : Type} : Lit × DataW H → Nat
  | (.string bytes, d) => bytes.length + uptoBulk d + 1
  | (_, d) => uptoBulk d + 1
 end
def uptoSmall : (H : Type) → List (DataW H) → Bool := fun _ ds => decide (uptoBulkAll ds ≤ 1048576)
def OpenSpec.upto (s : _root_.Go.ChangeSpec) : _root_.Go.OpenSpec := { _root_.Go.OpenSpec.ofChange s with cond := some uptoSmall }

/-- 'conduitlaw25.ProducerOnce', WHERE WHAT IT READS IS OF BULK AT MOST 1048576: true; the input reads as it did. -/
def producerOnceUptoRow : OpenClaim := { program := "ytffgecomdlnngaa", sum := "cb567a321848ee643da18382a624e6578215af086b706cbcf0ed2cc4ac183cfa", func := "conduit/conduitlaw25.ProducerOnce", spec := "producerOnce", inPlace := ["slices.overlaps[conduit/api.Producer]"], unfollowed := true, recurses := true, plainKeys := false, apart := false, narrowed := true }
def ProducerOnceUptoSaid : Prop := producerOnceUptoRow.holds Try.pinned (OpenSpec.upto producerOnceSpec)

/-- 'conduitlaw25.ProducerRecent', WHERE WHAT IT READS IS OF BULK AT MOST 1048576: true; the input reads as it did. -/
def producerRecentUptoRow : OpenClaim := { program := "ytffgecomdlnngaa", sum := "cb567a321848ee643da18382a624e6578215af086b706cbcf0ed2cc4ac183cfa", func := "conduit/conduitlaw25.ProducerRecent", spec := "producerRecent", inPlace := ["slices.overlaps[conduit/api.Producer]"], unfollowed := true, recurses := true, plainKeys := false, apart := false, narrowed := true }
def ProducerRecentUptoSaid : Prop := producerRecentUptoRow.holds Try.pinned (OpenSpec.upto producerRecentSpec)

/-- 'conduitlaw25.ProducerOthers', WHERE WHAT IT READS IS OF BULK AT MOST 1048576: true; the input reads as it did. -/
def producerOthersUptoRow : OpenClaim := { program := "ytffgecomdlnngaa", sum := "cb567a321848ee643da18382a624e6578215af086b706cbcf0ed2cc4ac183cfa", func := "conduit/conduitlaw25.ProducerOthers", spec := "producerOthers", inPlace := ["slices.overlaps[conduit/api.Producer]"], unfollowed := true, recurses := true, plainKeys := false, apart := false, narrowed := true }
def ProducerOthersUptoSaid : Prop := producerOthersUptoRow.holds Try.pinned (OpenSpec.upto producerOthersSpec)

end Rows
end Go.Proofs.Ytffgecomdlnngaa
