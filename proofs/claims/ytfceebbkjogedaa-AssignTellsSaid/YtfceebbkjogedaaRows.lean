/-
  No cell of these rows narrows 'for every input' (looked for: loops, veiled, ifaces, maps, wideKeys, modest, calm, conditions, laid).
  DERIVED. THE GIVEN ROWS OF THIS SEAT. 10 by the template 'for every input the law returns true; each argument reads behind the call as it read before'; 0 by the template 'total and deterministic' (their statements: YtfceebbkjogedaaTotals.lean).
  GIVEN WITH THE SEED: the statements are not yours to turn. If you find one false, say at which input.
  Laid BY PROGRAM, IN A SANDBOX (cutbox-rows.mjs): the forced cells as the released guide's own fill.sh prints them over the translation 4f838f5629edbecf… (all of the seat's roots in one cut). By AI agents, Wed Nov 11 2026. No macro, syntax, notation, axiom, sorry.
-/
import Derived.Test.YtfceebbkjogedaaChecked
import GoSem.Claim
import GoSem.ClaimJoined
import GoSem.ClaimMapViews
import Derived.JoinedTies
import Derived.KernelRfl
namespace Go.Proofs.Ytfceebbkjogedaa
/- THE CELL 'sum', in the pinned program and in every row, IS THE sha256 OF THE DUMP (.gsa) THAT YtfceebbkjogedaaProg.lean LOADS. Nothing in Lean hashes anything: it is a label: what it is worth is what the hold of that sum in a sandbox is worth. -/
noncomputable def Try.pinned : Pinned := { name := "ytfceebbkjogedaa", sum := "4f838f5629edbecfcb550c1a900f109b960382af79f28c0b71ba5672bf3c6ba0", checked := Try.checked }
namespace Rows
def none {H : Type} : Left H := { results := [], args := [] }

/-- 'conduitlaw09.IndexNumbers': WHATEVER THE INPUT: true; the input reads as it did. -/
def indexNumbersSpec : ChangeSpec := { name := "indexNumbers", fn := fun _ => fun
  | [] => { results := [.lit (.bool true)], args := [] }
  | _ => none }
def indexNumbersRow : OpenClaim := { program := "ytfceebbkjogedaa", sum := "4f838f5629edbecfcb550c1a900f109b960382af79f28c0b71ba5672bf3c6ba0", func := "conduit/conduitlaw09.IndexNumbers", spec := "indexNumbers", unfollowed := true, recurses := true, plainKeys := false, apart := false }
def IndexNumbersSaid : Prop := indexNumbersRow.holds Try.pinned (OpenSpec.ofChange indexNumbersSpec)

/-- ITS FALSE NEIGHBOUR: 'it returns false'. Refute it at one input. -/
def indexNumbersWrong : ChangeSpec := { name := "indexNumbers", fn := fun _ => fun
  | [] => { results := [.lit (.bool false)], args := [] }
  | _ => none }
def IndexNumbersWrongFalsely : Prop := indexNumbersRow.holds Try.pinned (OpenSpec.ofChange indexNumbersWrong)

/-- 'conduitlaw09.IndexTells': WHATEVER THE INPUT: true; the input reads as it did. -/
def indexTellsSpec : ChangeSpec := { name := "indexTells", fn := fun _ => fun
  | [d1, d2, d3, d4] => { results := [.lit (.bool true)], args := [d1, d2, d3, d4] }
  | _ => none }
def indexTellsRow : OpenClaim := { program := "ytfceebbkjogedaa", sum := "4f838f5629edbecfcb550c1a900f109b960382af79f28c0b71ba5672bf3c6ba0", func := "conduit/conduitlaw09.IndexTells", spec := "indexTells", unfollowed := true, recurses := true, plainKeys := false, apart := false }
def IndexTellsSaid : Prop := indexTellsRow.holds Try.pinned (OpenSpec.ofChange indexTellsSpec)

/-- ITS FALSE NEIGHBOUR: 'it returns false'. Refute it at one input. -/
def indexTellsWrong : ChangeSpec := { name := "indexTells", fn := fun _ => fun
  | [d1, d2, d3, d4] => { results := [.lit (.bool false)], args := [d1, d2, d3, d4] }
  | _ => none }
def IndexTellsWrongFalsely : Prop := indexTellsRow.holds Try.pinned (OpenSpec.ofChange indexTellsWrong)

/-- 'conduitlaw09.IndexFinds': WHATEVER THE INPUT: true; the input reads as it did. -/
def indexFindsSpec : ChangeSpec := { name := "indexFinds", fn := fun _ => fun
  | [d1, d2, d3] => { results := [.lit (.bool true)], args := [d1, d2, d3] }
  | _ => none }
def indexFindsRow : OpenClaim := { program := "ytfceebbkjogedaa", sum := "4f838f5629edbecfcb550c1a900f109b960382af79f28c0b71ba5672bf3c6ba0", func := "conduit/conduitlaw09.IndexFinds", spec := "indexFinds", unfollowed := true, recurses := true, plainKeys := false, apart := false }
def IndexFindsSaid : Prop := indexFindsRow.holds Try.pinned (OpenSpec.ofChange indexFindsSpec)

/-- ITS FALSE NEIGHBOUR: 'it returns false'. Refute it at one input. -/
def indexFindsWrong : ChangeSpec := { name := "indexFinds", fn := fun _ => fun
  | [d1, d2, d3] => { results := [.lit (.bool false)], args := [d1, d2, d3] }
  | _ => none }
def IndexFindsWrongFalsely : Prop := indexFindsRow.holds Try.pinned (OpenSpec.ofChange indexFindsWrong)

/-- 'conduitlaw13.QueueTells': WHATEVER THE INPUT: true; the input reads as it did. -/
def queueTellsSpec : ChangeSpec := { name := "queueTells", fn := fun _ => fun
  | [d1, d2] => { results := [.lit (.bool true)], args := [d1, d2] }
  | _ => none }
def queueTellsRow : OpenClaim := { program := "ytfceebbkjogedaa", sum := "4f838f5629edbecfcb550c1a900f109b960382af79f28c0b71ba5672bf3c6ba0", func := "conduit/conduitlaw13.QueueTells", spec := "queueTells", unfollowed := true, recurses := true, plainKeys := false, apart := false }
def QueueTellsSaid : Prop := queueTellsRow.holds Try.pinned (OpenSpec.ofChange queueTellsSpec)

/-- ITS FALSE NEIGHBOUR: 'it returns false'. Refute it at one input. -/
def queueTellsWrong : ChangeSpec := { name := "queueTells", fn := fun _ => fun
  | [d1, d2] => { results := [.lit (.bool false)], args := [d1, d2] }
  | _ => none }
def QueueTellsWrongFalsely : Prop := queueTellsRow.holds Try.pinned (OpenSpec.ofChange queueTellsWrong)

/-- 'conduitlaw13.QueueNone': WHATEVER THE INPUT: true; the input reads as it did. -/
def queueNoneSpec : ChangeSpec := { name := "queueNone", fn := fun _ => fun
  | [d] => { results := [.lit (.bool true)], args := [d] }
  | _ => none }
def queueNoneRow : OpenClaim := { program := "ytfceebbkjogedaa", sum := "4f838f5629edbecfcb550c1a900f109b960382af79f28c0b71ba5672bf3c6ba0", func := "conduit/conduitlaw13.QueueNone", spec := "queueNone", unfollowed := true, recurses := true, plainKeys := false, apart := false }
def QueueNoneSaid : Prop := queueNoneRow.holds Try.pinned (OpenSpec.ofChange queueNoneSpec)

/-- ITS FALSE NEIGHBOUR: 'it returns false'. Refute it at one input. -/
def queueNoneWrong : ChangeSpec := { name := "queueNone", fn := fun _ => fun
  | [d] => { results := [.lit (.bool false)], args := [d] }
  | _ => none }
def QueueNoneWrongFalsely : Prop := queueNoneRow.holds Try.pinned (OpenSpec.ofChange queueNoneWrong)

/-- 'conduitlaw13.QueueFirst': WHATEVER THE INPUT: true; the input reads as it did. -/
def queueFirstSpec : ChangeSpec := { name := "queueFirst", fn := fun _ => fun
  | [d1, d2] => { results := [.lit (.bool true)], args := [d1, d2] }
  | _ => none }
def queueFirstRow : OpenClaim := { program := "ytfceebbkjogedaa", sum := "4f838f5629edbecfcb550c1a900f109b960382af79f28c0b71ba5672bf3c6ba0", func := "conduit/conduitlaw13.QueueFirst", spec := "queueFirst", unfollowed := true, recurses := true, plainKeys := false, apart := false }
def QueueFirstSaid : Prop := queueFirstRow.holds Try.pinned (OpenSpec.ofChange queueFirstSpec)

/-- ITS FALSE NEIGHBOUR: 'it returns false'. Refute it at one input. -/
def queueFirstWrong : ChangeSpec := { name := "queueFirst", fn := fun _ => fun
  | [d1, d2] => { results := [.lit (.bool false)], args := [d1, d2] }
  | _ => none }
def QueueFirstWrongFalsely : Prop := queueFirstRow.holds Try.pinned (OpenSpec.ofChange queueFirstWrong)

/-- 'conduitlaw27.AssignTells': WHATEVER THE INPUT: true; the input reads as it did. -/
def assignTellsSpec : ChangeSpec := { name := "assignTells", fn := fun _ => fun
  | [d1, d2, d3] => { results := [.lit (.bool true)], args := [d1, d2, d3] }
  | _ => none }
def assignTellsRow : OpenClaim := { program := "ytfceebbkjogedaa", sum := "4f838f5629edbecfcb550c1a900f109b960382af79f28c0b71ba5672bf3c6ba0", func := "conduit/conduitlaw27.AssignTells", spec := "assignTells", unfollowed := true, recurses := true, plainKeys := false, apart := false }
def AssignTellsSaid : Prop := assignTellsRow.holds Try.pinned (OpenSpec.ofChange assignTellsSpec)

/-- ITS FALSE NEIGHBOUR: 'it returns false'. Refute it at one input. -/
def assignTellsWrong : ChangeSpec := { name := "assignTells", fn := fun _ => fun
  | [d1, d2, d3] => { results := [.lit (.bool false)], args := [d1, d2, d3] }
  | _ => none }
def AssignTellsWrongFalsely : Prop := assignTellsRow.holds Try.pinned (OpenSpec.ofChange assignTellsWrong)

/-- 'conduitlaw27.AssignCovers': WHATEVER THE INPUT: true; the input reads as it did. -/
def assignCoversSpec : ChangeSpec := { name := "assignCovers", fn := fun _ => fun
  | [d1, d2] => { results := [.lit (.bool true)], args := [d1, d2] }
  | _ => none }
def assignCoversRow : OpenClaim := { program := "ytfceebbkjogedaa", sum := "4f838f5629edbecfcb550c1a900f109b960382af79f28c0b71ba5672bf3c6ba0", func := "conduit/conduitlaw27.AssignCovers", spec := "assignCovers", unfollowed := true, recurses := true, plainKeys := false, apart := false }
def AssignCoversSaid : Prop := assignCoversRow.holds Try.pinned (OpenSpec.ofChange assignCoversSpec)

/-- ITS FALSE NEIGHBOUR: 'it returns false'. Refute it at one input. -/
def assignCoversWrong : ChangeSpec := { name := "assignCovers", fn := fun _ => fun
  | [d1, d2] => { results := [.lit (.bool false)], args := [d1, d2] }
  | _ => none }
def AssignCoversWrongFalsely : Prop := assignCoversRow.holds Try.pinned (OpenSpec.ofChange assignCoversWrong)

/-- 'conduitlaw27.AssignFair': WHATEVER THE INPUT: true; the input reads as it did. -/
def assignFairSpec : ChangeSpec := { name := "assignFair", fn := fun _ => fun
  | [d1, d2] => { results := [.lit (.bool true)], args := [d1, d2] }
  | _ => none }
def assignFairRow : OpenClaim := { program := "ytfceebbkjogedaa", sum := "4f838f5629edbecfcb550c1a900f109b960382af79f28c0b71ba5672bf3c6ba0", func := "conduit/conduitlaw27.AssignFair", spec := "assignFair", unfollowed := true, recurses := true, plainKeys := false, apart := false }
def AssignFairSaid : Prop := assignFairRow.holds Try.pinned (OpenSpec.ofChange assignFairSpec)

/-- ITS FALSE NEIGHBOUR: 'it returns false'. Refute it at one input. -/
def assignFairWrong : ChangeSpec := { name := "assignFair", fn := fun _ => fun
  | [d1, d2] => { results := [.lit (.bool false)], args := [d1, d2] }
  | _ => none }
def AssignFairWrongFalsely : Prop := assignFairRow.holds Try.pinned (OpenSpec.ofChange assignFairWrong)

/-- 'conduitlaw27.AssignMore': WHATEVER THE INPUT: true; the input reads as it did. -/
def assignMoreSpec : ChangeSpec := { name := "assignMore", fn := fun _ => fun
  | [d1, d2, d3] => { results := [.lit (.bool true)], args := [d1, d2, d3] }
  | _ => none }
def assignMoreRow : OpenClaim := { program := "ytfceebbkjogedaa", sum := "4f838f5629edbecfcb550c1a900f109b960382af79f28c0b71ba5672bf3c6ba0", func := "conduit/conduitlaw27.AssignMore", spec := "assignMore", unfollowed := true, recurses := true, plainKeys := false, apart := false }
def AssignMoreSaid : Prop := assignMoreRow.holds Try.pinned (OpenSpec.ofChange assignMoreSpec)

/-- ITS FALSE NEIGHBOUR: 'it returns false'. Refute it at one input. -/
def assignMoreWrong : ChangeSpec := { name := "assignMore", fn := fun _ => fun
  | [d1, d2, d3] => { results := [.lit (.bool false)], args := [d1, d2, d3] }
  | _ => none }
def AssignMoreWrongFalsely : Prop := assignMoreRow.holds Try.pinned (OpenSpec.ofChange assignMoreWrong)

/- THE SECOND FORM. 'bulk': how many values and letters a reading holds, each counted each time it is reached (what is shared counts as often as it is met; a slice's spare places count too). A statement '..UptoSaid' is the law's where the arguments, and the package variables that the reading takes, are together of bulk at most 1048576: NARROWER than '..Said'. Prove '..Said' where nothing that the law and all that it calls make is longer than what came in: it says more and counts as full. Else prove '..UptoSaid'. A law counts once. -/
mutual
def uptoBulk {H : Type} : DataW H → Nat
  | .lit (.string bytes) => bytes.length + 1
  | .lit _ => 1
  | .nil => 1
  | .ptr d => uptoBulk d + 1
  | .slice elems spare => uptoBulkAll elems + uptoBulkAll spare + 1
  | .agg parts => uptoBulkAll parts + 1
  | .iface _ d => uptoBulk d + 1
  | .map entries => uptoBulkEntries entries + 1
  | .held _ => 1
def uptoBulkAll {H : Type} : List (DataW H) → Nat
  | [] => 0
  | d :: r => uptoBulk d + uptoBulkAll r
def uptoBulkEntries {H : Type} : List (Lit × DataW H) → Nat
  | [] => 0
  | x :: r => uptoBulkEntry x + uptoBulkEntries r
def uptoBulkEntry {H : Type} : Lit × DataW H → Nat
  | (.string bytes, d) => bytes.length + uptoBulk d + 1
  | (_, d) => uptoBulk d + 1
 end
def uptoSmall : (H : Type) → List (DataW H) → Bool := fun _ ds => decide (uptoBulkAll ds ≤ 1048576)
def OpenSpec.upto (s : _root_.Go.ChangeSpec) : _root_.Go.OpenSpec := { _root_.Go.OpenSpec.ofChange s with cond := some uptoSmall }

/-- 'conduitlaw09.IndexNumbers', WHERE WHAT IT READS IS OF BULK AT MOST 1048576: true; the input reads as it did. -/
def indexNumbersUptoRow : OpenClaim := { program := "ytfceebbkjogedaa", sum := "4f838f5629edbecfcb550c1a900f109b960382af79f28c0b71ba5672bf3c6ba0", func := "conduit/conduitlaw09.IndexNumbers", spec := "indexNumbers", unfollowed := true, recurses := true, plainKeys := false, apart := false, narrowed := true }
def IndexNumbersUptoSaid : Prop := indexNumbersUptoRow.holds Try.pinned (OpenSpec.upto indexNumbersSpec)

/-- 'conduitlaw09.IndexTells', WHERE WHAT IT READS IS OF BULK AT MOST 1048576: true; the input reads as it did. -/
def indexTellsUptoRow : OpenClaim := { program := "ytfceebbkjogedaa", sum := "4f838f5629edbecfcb550c1a900f109b960382af79f28c0b71ba5672bf3c6ba0", func := "conduit/conduitlaw09.IndexTells", spec := "indexTells", unfollowed := true, recurses := true, plainKeys := false, apart := false, narrowed := true }
def IndexTellsUptoSaid : Prop := indexTellsUptoRow.holds Try.pinned (OpenSpec.upto indexTellsSpec)

/-- 'conduitlaw09.IndexFinds', WHERE WHAT IT READS IS OF BULK AT MOST 1048576: true; the input reads as it did. -/
def indexFindsUptoRow : OpenClaim := { program := "ytfceebbkjogedaa", sum := "4f838f5629edbecfcb550c1a900f109b960382af79f28c0b71ba5672bf3c6ba0", func := "conduit/conduitlaw09.IndexFinds", spec := "indexFinds", unfollowed := true, recurses := true, plainKeys := false, apart := false, narrowed := true }
def IndexFindsUptoSaid : Prop := indexFindsUptoRow.holds Try.pinned (OpenSpec.upto indexFindsSpec)

/-- 'conduitlaw13.QueueTells', WHERE WHAT IT READS IS OF BULK AT MOST 1048576: true; the input reads as it did. -/
def queueTellsUptoRow : OpenClaim := { program := "ytfceebbkjogedaa", sum := "4f838f5629edbecfcb550c1a900f109b960382af79f28c0b71ba5672bf3c6ba0", func := "conduit/conduitlaw13.QueueTells", spec := "queueTells", unfollowed := true, recurses := true, plainKeys := false, apart := false, narrowed := true }
def QueueTellsUptoSaid : Prop := queueTellsUptoRow.holds Try.pinned (OpenSpec.upto queueTellsSpec)

/-- 'conduitlaw13.QueueNone', WHERE WHAT IT READS IS OF BULK AT MOST 1048576: true; the input reads as it did. -/
def queueNoneUptoRow : OpenClaim := { program := "ytfceebbkjogedaa", sum := "4f838f5629edbecfcb550c1a900f109b960382af79f28c0b71ba5672bf3c6ba0", func := "conduit/conduitlaw13.QueueNone", spec := "queueNone", unfollowed := true, recurses := true, plainKeys := false, apart := false, narrowed := true }
def QueueNoneUptoSaid : Prop := queueNoneUptoRow.holds Try.pinned (OpenSpec.upto queueNoneSpec)

/-- 'conduitlaw13.QueueFirst', WHERE WHAT IT READS IS OF BULK AT MOST 1048576: true; the input reads as it did. -/
def queueFirstUptoRow : OpenClaim := { program := "ytfceebbkjogedaa", sum := "4f838f5629edbecfcb550c1a900f109b960382af79f28c0b71ba5672bf3c6ba0", func := "conduit/conduitlaw13.QueueFirst", spec := "queueFirst", unfollowed := true, recurses := true, plainKeys := false, apart := false, narrowed := true }
def QueueFirstUptoSaid : Prop := queueFirstUptoRow.holds Try.pinned (OpenSpec.upto queueFirstSpec)

/-- 'conduitlaw27.AssignTells', WHERE WHAT IT READS IS OF BULK AT MOST 1048576: true; the input reads as it did. -/
def assignTellsUptoRow : OpenClaim := { program := "ytfceebbkjogedaa", sum := "4f838f5629edbecfcb550c1a900f109b960382af79f28c0b71ba5672bf3c6ba0", func := "conduit/conduitlaw27.AssignTells", spec := "assignTells", unfollowed := true, recurses := true, plainKeys := false, apart := false, narrowed := true }
def AssignTellsUptoSaid : Prop := assignTellsUptoRow.holds Try.pinned (OpenSpec.upto assignTellsSpec)

/-- 'conduitlaw27.AssignCovers', WHERE WHAT IT READS IS OF BULK AT MOST 1048576: true; the input reads as it did. -/
def assignCoversUptoRow : OpenClaim := { program := "ytfceebbkjogedaa", sum := "4f838f5629edbecfcb550c1a900f109b960382af79f28c0b71ba5672bf3c6ba0", func := "conduit/conduitlaw27.AssignCovers", spec := "assignCovers", unfollowed := true, recurses := true, plainKeys := false, apart := false, narrowed := true }
def AssignCoversUptoSaid : Prop := assignCoversUptoRow.holds Try.pinned (OpenSpec.upto assignCoversSpec)

/-- 'conduitlaw27.AssignFair', WHERE WHAT IT READS IS OF BULK AT MOST 1048576: true; the input reads as it did. -/
def assignFairUptoRow : OpenClaim := { program := "ytfceebbkjogedaa", sum := "4f838f5629edbecfcb550c1a900f109b960382af79f28c0b71ba5672bf3c6ba0", func := "conduit/conduitlaw27.AssignFair", spec := "assignFair", unfollowed := true, recurses := true, plainKeys := false, apart := false, narrowed := true }
def AssignFairUptoSaid : Prop := assignFairUptoRow.holds Try.pinned (OpenSpec.upto assignFairSpec)

/-- 'conduitlaw27.AssignMore', WHERE WHAT IT READS IS OF BULK AT MOST 1048576: true; the input reads as it did. -/
def assignMoreUptoRow : OpenClaim := { program := "ytfceebbkjogedaa", sum := "4f838f5629edbecfcb550c1a900f109b960382af79f28c0b71ba5672bf3c6ba0", func := "conduit/conduitlaw27.AssignMore", spec := "assignMore", unfollowed := true, recurses := true, plainKeys := false, apart := false, narrowed := true }
def AssignMoreUptoSaid : Prop := assignMoreUptoRow.holds Try.pinned (OpenSpec.upto assignMoreSpec)

end Rows
end Go.Proofs.Ytfceebbkjogedaa
