/-
  No cell of these rows narrows 'for every input' (looked for: loops, veiled, ifaces, maps, wideKeys, modest, calm, conditions, laid).
  DERIVED. THE GIVEN ROWS OF THIS SEAT. 7 by the template 'for every input the law returns true; each argument reads behind the call as it read before'; 0 by the template 'total and deterministic' (their statements: YtaeckjhipmcddaaTotals.lean).
  GIVEN WITH THE SEED: the statements are not yours to turn. If you find one false, say at which input.
  Laid BY PROGRAM, IN A SANDBOX (cutbox-rows.mjs): the forced cells as the released guide's own fill.sh prints them over the translation 6b9ea32016552e3d… (all of the seat's roots in one cut). By AI agents, Wed Nov 11 2026. No macro, syntax, notation, axiom, sorry.
-/
import Derived.Test.YtaeckjhipmcddaaChecked
import GoSem.Claim
import GoSem.ClaimJoined
import GoSem.ClaimMapViews
import Derived.JoinedTies
import Derived.KernelRfl
namespace Go.Proofs.Ytaeckjhipmcddaa
/- THE CELL 'sum', in the pinned program and in every row, IS THE sha256 OF THE DUMP (.gsa) THAT YtaeckjhipmcddaaProg.lean LOADS. Nothing in Lean hashes anything: it is a label: what it is worth is what the hold of that sum in a sandbox is worth. -/
noncomputable def Try.pinned : Pinned := { name := "ytaeckjhipmcddaa", sum := "6b9ea32016552e3d9f3238396ac3a5d30c56c484897792b00e7e6c4b828d735d", checked := Try.checked }
namespace Rows
def none {H : Type} : Left H := { results := [], args := [] }

/-- 'conduitlaw14.SchedTells': WHATEVER THE INPUT: true; the input reads as it did. -/
def schedTellsSpec : ChangeSpec := { name := "schedTells", fn := fun _ => fun
  | [d] => { results := [.lit (.bool true)], args := [d] }
  | _ => none }
def schedTellsRow : OpenClaim := { program := "ytaeckjhipmcddaa", sum := "6b9ea32016552e3d9f3238396ac3a5d30c56c484897792b00e7e6c4b828d735d", func := "conduit/conduitlaw14.SchedTells", spec := "schedTells", unfollowed := true, recurses := true, apart := false }
def SchedTellsSaid : Prop := schedTellsRow.holds Try.pinned (OpenSpec.ofChange schedTellsSpec)

/-- ITS FALSE NEIGHBOUR: 'it returns false'. Refute it at one input. -/
def schedTellsWrong : ChangeSpec := { name := "schedTells", fn := fun _ => fun
  | [d] => { results := [.lit (.bool false)], args := [d] }
  | _ => none }
def SchedTellsWrongFalsely : Prop := schedTellsRow.holds Try.pinned (OpenSpec.ofChange schedTellsWrong)

/-- 'conduitlaw14.SchedFair': WHATEVER THE INPUT: true; the input reads as it did. -/
def schedFairSpec : ChangeSpec := { name := "schedFair", fn := fun _ => fun
  | [d1, d2, d3] => { results := [.lit (.bool true)], args := [d1, d2, d3] }
  | _ => none }
def schedFairRow : OpenClaim := { program := "ytaeckjhipmcddaa", sum := "6b9ea32016552e3d9f3238396ac3a5d30c56c484897792b00e7e6c4b828d735d", func := "conduit/conduitlaw14.SchedFair", spec := "schedFair", unfollowed := true, recurses := true, apart := false }
def SchedFairSaid : Prop := schedFairRow.holds Try.pinned (OpenSpec.ofChange schedFairSpec)

/-- ITS FALSE NEIGHBOUR: 'it returns false'. Refute it at one input. -/
def schedFairWrong : ChangeSpec := { name := "schedFair", fn := fun _ => fun
  | [d1, d2, d3] => { results := [.lit (.bool false)], args := [d1, d2, d3] }
  | _ => none }
def SchedFairWrongFalsely : Prop := schedFairRow.holds Try.pinned (OpenSpec.ofChange schedFairWrong)

/-- 'conduitlaw14.SchedGone': WHATEVER THE INPUT: true; the input reads as it did. -/
def schedGoneSpec : ChangeSpec := { name := "schedGone", fn := fun _ => fun
  | [d1, d2, d3] => { results := [.lit (.bool true)], args := [d1, d2, d3] }
  | _ => none }
def schedGoneRow : OpenClaim := { program := "ytaeckjhipmcddaa", sum := "6b9ea32016552e3d9f3238396ac3a5d30c56c484897792b00e7e6c4b828d735d", func := "conduit/conduitlaw14.SchedGone", spec := "schedGone", unfollowed := true, recurses := true, apart := false }
def SchedGoneSaid : Prop := schedGoneRow.holds Try.pinned (OpenSpec.ofChange schedGoneSpec)

/-- ITS FALSE NEIGHBOUR: 'it returns false'. Refute it at one input. -/
def schedGoneWrong : ChangeSpec := { name := "schedGone", fn := fun _ => fun
  | [d1, d2, d3] => { results := [.lit (.bool false)], args := [d1, d2, d3] }
  | _ => none }
def SchedGoneWrongFalsely : Prop := schedGoneRow.holds Try.pinned (OpenSpec.ofChange schedGoneWrong)

/-- 'conduitlaw15.CspTurns': WHATEVER THE INPUT: true; the input reads as it did. -/
def cspTurnsSpec : ChangeSpec := { name := "cspTurns", fn := fun _ => fun
  | [d1, d2] => { results := [.lit (.bool true)], args := [d1, d2] }
  | _ => none }
def cspTurnsRow : OpenClaim := { program := "ytaeckjhipmcddaa", sum := "6b9ea32016552e3d9f3238396ac3a5d30c56c484897792b00e7e6c4b828d735d", func := "conduit/conduitlaw15.CspTurns", spec := "cspTurns", unfollowed := true, recurses := true, apart := false }
def CspTurnsSaid : Prop := cspTurnsRow.holds Try.pinned (OpenSpec.ofChange cspTurnsSpec)

/-- ITS FALSE NEIGHBOUR: 'it returns false'. Refute it at one input. -/
def cspTurnsWrong : ChangeSpec := { name := "cspTurns", fn := fun _ => fun
  | [d1, d2] => { results := [.lit (.bool false)], args := [d1, d2] }
  | _ => none }
def CspTurnsWrongFalsely : Prop := cspTurnsRow.holds Try.pinned (OpenSpec.ofChange cspTurnsWrong)

/-- 'conduitlaw15.CspRuns': WHATEVER THE INPUT: true; the input reads as it did. -/
def cspRunsSpec : ChangeSpec := { name := "cspRuns", fn := fun _ => fun
  | [d1, d2] => { results := [.lit (.bool true)], args := [d1, d2] }
  | _ => none }
def cspRunsRow : OpenClaim := { program := "ytaeckjhipmcddaa", sum := "6b9ea32016552e3d9f3238396ac3a5d30c56c484897792b00e7e6c4b828d735d", func := "conduit/conduitlaw15.CspRuns", spec := "cspRuns", unfollowed := true, recurses := true, apart := false }
def CspRunsSaid : Prop := cspRunsRow.holds Try.pinned (OpenSpec.ofChange cspRunsSpec)

/-- ITS FALSE NEIGHBOUR: 'it returns false'. Refute it at one input. -/
def cspRunsWrong : ChangeSpec := { name := "cspRuns", fn := fun _ => fun
  | [d1, d2] => { results := [.lit (.bool false)], args := [d1, d2] }
  | _ => none }
def CspRunsWrongFalsely : Prop := cspRunsRow.holds Try.pinned (OpenSpec.ofChange cspRunsWrong)

/-- 'conduitlaw15.CspRun': WHATEVER THE INPUT: true; the input reads as it did. -/
def cspRunSpec : ChangeSpec := { name := "cspRun", fn := fun _ => fun
  | [d1, d2, d3] => { results := [.lit (.bool true)], args := [d1, d2, d3] }
  | _ => none }
def cspRunRow : OpenClaim := { program := "ytaeckjhipmcddaa", sum := "6b9ea32016552e3d9f3238396ac3a5d30c56c484897792b00e7e6c4b828d735d", func := "conduit/conduitlaw15.CspRun", spec := "cspRun", unfollowed := true, recurses := true, apart := false }
def CspRunSaid : Prop := cspRunRow.holds Try.pinned (OpenSpec.ofChange cspRunSpec)

/-- ITS FALSE NEIGHBOUR: 'it returns false'. Refute it at one input. -/
def cspRunWrong : ChangeSpec := { name := "cspRun", fn := fun _ => fun
  | [d1, d2, d3] => { results := [.lit (.bool false)], args := [d1, d2, d3] }
  | _ => none }
def CspRunWrongFalsely : Prop := cspRunRow.holds Try.pinned (OpenSpec.ofChange cspRunWrong)

/-- 'conduitlaw15.CspNone': WHATEVER THE INPUT: true; the input reads as it did. -/
def cspNoneSpec : ChangeSpec := { name := "cspNone", fn := fun _ => fun
  | [d] => { results := [.lit (.bool true)], args := [d] }
  | _ => none }
def cspNoneRow : OpenClaim := { program := "ytaeckjhipmcddaa", sum := "6b9ea32016552e3d9f3238396ac3a5d30c56c484897792b00e7e6c4b828d735d", func := "conduit/conduitlaw15.CspNone", spec := "cspNone", unfollowed := true, recurses := true, apart := false }
def CspNoneSaid : Prop := cspNoneRow.holds Try.pinned (OpenSpec.ofChange cspNoneSpec)

/-- ITS FALSE NEIGHBOUR: 'it returns false'. Refute it at one input. -/
def cspNoneWrong : ChangeSpec := { name := "cspNone", fn := fun _ => fun
  | [d] => { results := [.lit (.bool false)], args := [d] }
  | _ => none }
def CspNoneWrongFalsely : Prop := cspNoneRow.holds Try.pinned (OpenSpec.ofChange cspNoneWrong)

/- THE SECOND FORM. 'bulk': how many values and letters a reading holds, each counted each time it is reached (what is shared counts as often as it is met; a slice's spare places count too). A statement '..UptoSaid' is the law's where the arguments, and the package variables that the reading takes, are together of bulk at most 1048576: NARROWER than '..Said'. Prove '..Said' where nothing that the law and all that it calls make is longer than what came in: it says more and counts as full. Else prove '..UptoSaid'. A law counts once. -/
mutual
def uptoBulk {H : Type} : DataW H → Nat
  | .lit (.string bytes) => bytes.length + 1
  | .lit _ => 1
  | .nil => 1
  | .ptr d => uptoBulk d + 1
  | .slice elems spare => uptoBulkAll elems + uptoBulkAll spare + 1
  | .agg parts => uptoBulkAll parts + 1
  | .iface _ d => uptoBulk d + 1
  | .map entries => uptoBulkEntries entries + 1
  | .held _ => 1
def uptoBulkAll {H : Type} : List (DataW H) → Nat
  | [] => 0
  | d :: r => uptoBulk d + uptoBulkAll r
def uptoBulkEntries {H : Type} : List (Lit × DataW H) → Nat
  | [] => 0
  | x :: r => uptoBulkEntry x + uptoBulkEntries r
def uptoBulkEntry {H : Type} : Lit × DataW H → Nat
  | (.string bytes, d) => bytes.length + uptoBulk d + 1
  | (_, d) => uptoBulk d + 1
 end
def uptoSmall : (H : Type) → List (DataW H) → Bool := fun _ ds => decide (uptoBulkAll ds ≤ 1048576)
def OpenSpec.upto (s : _root_.Go.ChangeSpec) : _root_.Go.OpenSpec := { _root_.Go.OpenSpec.ofChange s with cond := some uptoSmall }

/-- 'conduitlaw14.SchedTells', WHERE WHAT IT READS IS OF BULK AT MOST 1048576: true; the input reads as it did. -/
def schedTellsUptoRow : OpenClaim := { program := "ytaeckjhipmcddaa", sum := "6b9ea32016552e3d9f3238396ac3a5d30c56c484897792b00e7e6c4b828d735d", func := "conduit/conduitlaw14.SchedTells", spec := "schedTells", unfollowed := true, recurses := true, apart := false, narrowed := true }
def SchedTellsUptoSaid : Prop := schedTellsUptoRow.holds Try.pinned (OpenSpec.upto schedTellsSpec)

/-- 'conduitlaw14.SchedFair', WHERE WHAT IT READS IS OF BULK AT MOST 1048576: true; the input reads as it did. -/
def schedFairUptoRow : OpenClaim := { program := "ytaeckjhipmcddaa", sum := "6b9ea32016552e3d9f3238396ac3a5d30c56c484897792b00e7e6c4b828d735d", func := "conduit/conduitlaw14.SchedFair", spec := "schedFair", unfollowed := true, recurses := true, apart := false, narrowed := true }
def SchedFairUptoSaid : Prop := schedFairUptoRow.holds Try.pinned (OpenSpec.upto schedFairSpec)

/-- 'conduitlaw14.SchedGone', WHERE WHAT IT READS IS OF BULK AT MOST 1048576: true; the input reads as it did. -/
def schedGoneUptoRow : OpenClaim := { program := "ytaeckjhipmcddaa", sum := "6b9ea32016552e3d9f3238396ac3a5d30c56c484897792b00e7e6c4b828d735d", func := "conduit/conduitlaw14.SchedGone", spec := "schedGone", unfollowed := true, recurses := true, apart := false, narrowed := true }
def SchedGoneUptoSaid : Prop := schedGoneUptoRow.holds Try.pinned (OpenSpec.upto schedGoneSpec)

/-- 'conduitlaw15.CspTurns', WHERE WHAT IT READS IS OF BULK AT MOST 1048576: true; the input reads as it did. -/
def cspTurnsUptoRow : OpenClaim := { program := "ytaeckjhipmcddaa", sum := "6b9ea32016552e3d9f3238396ac3a5d30c56c484897792b00e7e6c4b828d735d", func := "conduit/conduitlaw15.CspTurns", spec := "cspTurns", unfollowed := true, recurses := true, apart := false, narrowed := true }
def CspTurnsUptoSaid : Prop := cspTurnsUptoRow.holds Try.pinned (OpenSpec.upto cspTurnsSpec)

/-- 'conduitlaw15.CspRuns', WHERE WHAT IT READS IS OF BULK AT MOST 1048576: true; the input reads as it did. -/
def cspRunsUptoRow : OpenClaim := { program := "ytaeckjhipmcddaa", sum := "6b9ea32016552e3d9f3238396ac3a5d30c56c484897792b00e7e6c4b828d735d", func := "conduit/conduitlaw15.CspRuns", spec := "cspRuns", unfollowed := true, recurses := true, apart := false, narrowed := true }
def CspRunsUptoSaid : Prop := cspRunsUptoRow.holds Try.pinned (OpenSpec.upto cspRunsSpec)

/-- 'conduitlaw15.CspRun', WHERE WHAT IT READS IS OF BULK AT MOST 1048576: true; the input reads as it did. -/
def cspRunUptoRow : OpenClaim := { program := "ytaeckjhipmcddaa", sum := "6b9ea32016552e3d9f3238396ac3a5d30c56c484897792b00e7e6c4b828d735d", func := "conduit/conduitlaw15.CspRun", spec := "cspRun", unfollowed := true, recurses := true, apart := false, narrowed := true }
def CspRunUptoSaid : Prop := cspRunUptoRow.holds Try.pinned (OpenSpec.upto cspRunSpec)

/-- 'conduitlaw15.CspNone', WHERE WHAT IT READS IS OF BULK AT MOST 1048576: true; the input reads as it did. -/
def cspNoneUptoRow : OpenClaim := { program := "ytaeckjhipmcddaa", sum := "6b9ea32016552e3d9f3238396ac3a5d30c56c484897792b00e7e6c4b828d735d", func := "conduit/conduitlaw15.CspNone", spec := "cspNone", unfollowed := true, recurses := true, apart := false, narrowed := true }
def CspNoneUptoSaid : Prop := cspNoneUptoRow.holds Try.pinned (OpenSpec.upto cspNoneSpec)

end Rows
end Go.Proofs.Ytaeckjhipmcddaa
