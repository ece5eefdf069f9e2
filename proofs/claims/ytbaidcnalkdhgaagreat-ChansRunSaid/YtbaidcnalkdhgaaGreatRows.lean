/-
  No cell of these rows narrows 'for every input' (looked for: loops, veiled, ifaces, maps, wideKeys, modest, calm, conditions, laid).
  DERIVED. THE GIVEN ROWS OF THIS SEAT. 10 by the template 'for every input the law returns true; each argument reads behind the call as it read before'; 0 by the template 'total and deterministic' (their statements: YtbaidcnalkdhgaaGreatTotals.lean).
  GIVEN WITH THE SEED: the statements are not yours to turn. If you find one false, say at which input.
  Laid BY PROGRAM, IN A SANDBOX (cutbox-rows.mjs): the forced cells as the released guide's own fill.sh prints them over the translation da2ce118fa85ac6a… (all of the seat's roots in one cut). By AI agents, Wed Nov 11 2026. No macro, syntax, notation, axiom, sorry.
-/
import Derived.Test.YtbaidcnalkdhgaaGreatChecked
import GoSem.Claim
import GoSem.ClaimJoined
import GoSem.ClaimMapViews
import Derived.JoinedTies
import Derived.KernelRfl
namespace Go.Proofs.YtbaidcnalkdhgaaGreat
/- THE CELL 'sum', in the pinned program and in every row, IS THE sha256 OF THE DUMP (.gsa) THAT YtbaidcnalkdhgaaGreatProg.lean LOADS. Nothing in Lean hashes anything: it is a label: what it is worth is what the hold of that sum in a sandbox is worth. -/
noncomputable def Tryz.pinned : Pinned := { name := "ytbaidcnalkdhgaagreat", sum := "da2ce118fa85ac6ac6dc78add784951a4d9febcaa47ac89f94de86d3ddcd7017", checked := Tryz.checked }
namespace Rows
def none {H : Type} : Left H := { results := [], args := [] }

/-- 'conduitlaw16.ChansOrder': WHATEVER THE INPUT: true; the input reads as it did. -/
def chansOrderSpec : ChangeSpec := { name := "chansOrder", fn := fun _ => fun
  | [d1, d2] => { results := [.lit (.bool true)], args := [d1, d2] }
  | _ => none }
def chansOrderRow : OpenClaim := { program := "ytbaidcnalkdhgaagreat", sum := "da2ce118fa85ac6ac6dc78add784951a4d9febcaa47ac89f94de86d3ddcd7017", func := "conduit/conduitlaw16.ChansOrder", spec := "chansOrder", unfollowed := true, recurses := true, apart := false }
def ChansOrderSaid : Prop := chansOrderRow.holds Tryz.pinned (OpenSpec.ofChange chansOrderSpec)

/-- ITS FALSE NEIGHBOUR: 'it returns false'. Refute it at one input. -/
def chansOrderWrong : ChangeSpec := { name := "chansOrder", fn := fun _ => fun
  | [d1, d2] => { results := [.lit (.bool false)], args := [d1, d2] }
  | _ => none }
def ChansOrderWrongFalsely : Prop := chansOrderRow.holds Tryz.pinned (OpenSpec.ofChange chansOrderWrong)

/-- 'conduitlaw16.ChansClosed': WHATEVER THE INPUT: true; the input reads as it did. -/
def chansClosedSpec : ChangeSpec := { name := "chansClosed", fn := fun _ => fun
  | [d1, d2, d3] => { results := [.lit (.bool true)], args := [d1, d2, d3] }
  | _ => none }
def chansClosedRow : OpenClaim := { program := "ytbaidcnalkdhgaagreat", sum := "da2ce118fa85ac6ac6dc78add784951a4d9febcaa47ac89f94de86d3ddcd7017", func := "conduit/conduitlaw16.ChansClosed", spec := "chansClosed", unfollowed := true, recurses := true, apart := false }
def ChansClosedSaid : Prop := chansClosedRow.holds Tryz.pinned (OpenSpec.ofChange chansClosedSpec)

/-- ITS FALSE NEIGHBOUR: 'it returns false'. Refute it at one input. -/
def chansClosedWrong : ChangeSpec := { name := "chansClosed", fn := fun _ => fun
  | [d1, d2, d3] => { results := [.lit (.bool false)], args := [d1, d2, d3] }
  | _ => none }
def ChansClosedWrongFalsely : Prop := chansClosedRow.holds Tryz.pinned (OpenSpec.ofChange chansClosedWrong)

/-- 'conduitlaw16.ChansTickets': WHATEVER THE INPUT: true; the input reads as it did. -/
def chansTicketsSpec : ChangeSpec := { name := "chansTickets", fn := fun _ => fun
  | [d] => { results := [.lit (.bool true)], args := [d] }
  | _ => none }
def chansTicketsRow : OpenClaim := { program := "ytbaidcnalkdhgaagreat", sum := "da2ce118fa85ac6ac6dc78add784951a4d9febcaa47ac89f94de86d3ddcd7017", func := "conduit/conduitlaw16.ChansTickets", spec := "chansTickets", unfollowed := true, recurses := true, apart := false }
def ChansTicketsSaid : Prop := chansTicketsRow.holds Tryz.pinned (OpenSpec.ofChange chansTicketsSpec)

/-- ITS FALSE NEIGHBOUR: 'it returns false'. Refute it at one input. -/
def chansTicketsWrong : ChangeSpec := { name := "chansTickets", fn := fun _ => fun
  | [d] => { results := [.lit (.bool false)], args := [d] }
  | _ => none }
def ChansTicketsWrongFalsely : Prop := chansTicketsRow.holds Tryz.pinned (OpenSpec.ofChange chansTicketsWrong)

/-- 'conduitlaw16.ChansForget': WHATEVER THE INPUT: true; the input reads as it did. -/
def chansForgetSpec : ChangeSpec := { name := "chansForget", fn := fun _ => fun
  | [d1, d2, d3] => { results := [.lit (.bool true)], args := [d1, d2, d3] }
  | _ => none }
def chansForgetRow : OpenClaim := { program := "ytbaidcnalkdhgaagreat", sum := "da2ce118fa85ac6ac6dc78add784951a4d9febcaa47ac89f94de86d3ddcd7017", func := "conduit/conduitlaw16.ChansForget", spec := "chansForget", unfollowed := true, recurses := true, apart := false }
def ChansForgetSaid : Prop := chansForgetRow.holds Tryz.pinned (OpenSpec.ofChange chansForgetSpec)

/-- ITS FALSE NEIGHBOUR: 'it returns false'. Refute it at one input. -/
def chansForgetWrong : ChangeSpec := { name := "chansForget", fn := fun _ => fun
  | [d1, d2, d3] => { results := [.lit (.bool false)], args := [d1, d2, d3] }
  | _ => none }
def ChansForgetWrongFalsely : Prop := chansForgetRow.holds Tryz.pinned (OpenSpec.ofChange chansForgetWrong)

/-- 'conduitlaw18.TimerSleeps': WHATEVER THE INPUT: true; the input reads as it did. -/
def timerSleepsSpec : ChangeSpec := { name := "timerSleeps", fn := fun _ => fun
  | [d1, d2] => { results := [.lit (.bool true)], args := [d1, d2] }
  | _ => none }
def timerSleepsRow : OpenClaim := { program := "ytbaidcnalkdhgaagreat", sum := "da2ce118fa85ac6ac6dc78add784951a4d9febcaa47ac89f94de86d3ddcd7017", func := "conduit/conduitlaw18.TimerSleeps", spec := "timerSleeps", unfollowed := true, recurses := true, apart := false }
def TimerSleepsSaid : Prop := timerSleepsRow.holds Tryz.pinned (OpenSpec.ofChange timerSleepsSpec)

/-- ITS FALSE NEIGHBOUR: 'it returns false'. Refute it at one input. -/
def timerSleepsWrong : ChangeSpec := { name := "timerSleeps", fn := fun _ => fun
  | [d1, d2] => { results := [.lit (.bool false)], args := [d1, d2] }
  | _ => none }
def TimerSleepsWrongFalsely : Prop := timerSleepsRow.holds Tryz.pinned (OpenSpec.ofChange timerSleepsWrong)

/-- 'conduitlaw18.TimerNone': WHATEVER THE INPUT: true; the input reads as it did. -/
def timerNoneSpec : ChangeSpec := { name := "timerNone", fn := fun _ => fun
  | [d] => { results := [.lit (.bool true)], args := [d] }
  | _ => none }
def timerNoneRow : OpenClaim := { program := "ytbaidcnalkdhgaagreat", sum := "da2ce118fa85ac6ac6dc78add784951a4d9febcaa47ac89f94de86d3ddcd7017", func := "conduit/conduitlaw18.TimerNone", spec := "timerNone", unfollowed := true, recurses := true, apart := false }
def TimerNoneSaid : Prop := timerNoneRow.holds Tryz.pinned (OpenSpec.ofChange timerNoneSpec)

/-- ITS FALSE NEIGHBOUR: 'it returns false'. Refute it at one input. -/
def timerNoneWrong : ChangeSpec := { name := "timerNone", fn := fun _ => fun
  | [d] => { results := [.lit (.bool false)], args := [d] }
  | _ => none }
def TimerNoneWrongFalsely : Prop := timerNoneRow.holds Tryz.pinned (OpenSpec.ofChange timerNoneWrong)

/-- 'conduitlaw18.TimerDue': WHATEVER THE INPUT: true; the input reads as it did. -/
def timerDueSpec : ChangeSpec := { name := "timerDue", fn := fun _ => fun
  | [d1, d2] => { results := [.lit (.bool true)], args := [d1, d2] }
  | _ => none }
def timerDueRow : OpenClaim := { program := "ytbaidcnalkdhgaagreat", sum := "da2ce118fa85ac6ac6dc78add784951a4d9febcaa47ac89f94de86d3ddcd7017", func := "conduit/conduitlaw18.TimerDue", spec := "timerDue", unfollowed := true, recurses := true, apart := false }
def TimerDueSaid : Prop := timerDueRow.holds Tryz.pinned (OpenSpec.ofChange timerDueSpec)

/-- ITS FALSE NEIGHBOUR: 'it returns false'. Refute it at one input. -/
def timerDueWrong : ChangeSpec := { name := "timerDue", fn := fun _ => fun
  | [d1, d2] => { results := [.lit (.bool false)], args := [d1, d2] }
  | _ => none }
def TimerDueWrongFalsely : Prop := timerDueRow.holds Tryz.pinned (OpenSpec.ofChange timerDueWrong)

/-- 'conduitlaw16.ChansRun': WHATEVER THE INPUT: true; the input reads as it did. -/
def chansRunSpec : ChangeSpec := { name := "chansRun", fn := fun _ => fun
  | [d1, d2, d3] => { results := [.lit (.bool true)], args := [d1, d2, d3] }
  | _ => none }
def chansRunRow : OpenClaim := { program := "ytbaidcnalkdhgaagreat", sum := "da2ce118fa85ac6ac6dc78add784951a4d9febcaa47ac89f94de86d3ddcd7017", func := "conduit/conduitlaw16.ChansRun", spec := "chansRun", unfollowed := true, recurses := true, apart := false }
def ChansRunSaid : Prop := chansRunRow.holds Tryz.pinned (OpenSpec.ofChange chansRunSpec)

/-- ITS FALSE NEIGHBOUR: 'it returns false'. Refute it at one input. -/
def chansRunWrong : ChangeSpec := { name := "chansRun", fn := fun _ => fun
  | [d1, d2, d3] => { results := [.lit (.bool false)], args := [d1, d2, d3] }
  | _ => none }
def ChansRunWrongFalsely : Prop := chansRunRow.holds Tryz.pinned (OpenSpec.ofChange chansRunWrong)

/-- 'conduitlaw18.TimerChannels': WHATEVER THE INPUT: true; the input reads as it did. -/
def timerChannelsSpec : ChangeSpec := { name := "timerChannels", fn := fun _ => fun
  | [d] => { results := [.lit (.bool true)], args := [d] }
  | _ => none }
def timerChannelsRow : OpenClaim := { program := "ytbaidcnalkdhgaagreat", sum := "da2ce118fa85ac6ac6dc78add784951a4d9febcaa47ac89f94de86d3ddcd7017", func := "conduit/conduitlaw18.TimerChannels", spec := "timerChannels", unfollowed := true, recurses := true, apart := false }
def TimerChannelsSaid : Prop := timerChannelsRow.holds Tryz.pinned (OpenSpec.ofChange timerChannelsSpec)

/-- ITS FALSE NEIGHBOUR: 'it returns false'. Refute it at one input. -/
def timerChannelsWrong : ChangeSpec := { name := "timerChannels", fn := fun _ => fun
  | [d] => { results := [.lit (.bool false)], args := [d] }
  | _ => none }
def TimerChannelsWrongFalsely : Prop := timerChannelsRow.holds Tryz.pinned (OpenSpec.ofChange timerChannelsWrong)

/-- 'conduitlaw16.ChansNone': WHATEVER THE INPUT: true; the input reads as it did. -/
def chansNoneSpec : ChangeSpec := { name := "chansNone", fn := fun _ => fun
  | [d] => { results := [.lit (.bool true)], args := [d] }
  | _ => none }
def chansNoneRow : OpenClaim := { program := "ytbaidcnalkdhgaagreat", sum := "da2ce118fa85ac6ac6dc78add784951a4d9febcaa47ac89f94de86d3ddcd7017", func := "conduit/conduitlaw16.ChansNone", spec := "chansNone", unfollowed := true, recurses := true, apart := false }
def ChansNoneSaid : Prop := chansNoneRow.holds Tryz.pinned (OpenSpec.ofChange chansNoneSpec)

/-- ITS FALSE NEIGHBOUR: 'it returns false'. Refute it at one input. -/
def chansNoneWrong : ChangeSpec := { name := "chansNone", fn := fun _ => fun
  | [d] => { results := [.lit (.bool false)], args := [d] }
  | _ => none }
def ChansNoneWrongFalsely : Prop := chansNoneRow.holds Tryz.pinned (OpenSpec.ofChange chansNoneWrong)

/- THE SECOND FORM. 'bulk': how many values and letters a reading holds, each counted each time it is reached (what is shared counts as often as it is met; a slice's spare places count too). A statement '..UptoSaid' is the law's where the arguments, and the package variables that the reading takes, are together of bulk at most 1048576: NARROWER than '..Said'. Prove '..Said' where nothing that the law and all that it calls make is longer than what came in: it says more and counts as full. Else prove '..UptoSaid'. A law counts once. -/
mutual
def uptoBulk {H : Type} : DataW H → Nat
  | .lit (.string bytes) => bytes.length + 1
  | .lit _ => 1
  | .nil => 1
  | .ptr d => uptoBulk d + 1
  | .slice elems spare => uptoBulkAll elems + uptoBulkAll spare + 1
  | .agg parts => uptoBulkAll parts + 1
  | .iface _ d => uptoBulk d + 1
  | .map entries => uptoBulkEntries entries + 1
  | .held _ => 1
def uptoBulkAll {H : Type} : List (DataW H) → Nat
  | [] => 0
  | d :: r => uptoBulk d + uptoBulkAll r
def uptoBulkEntries {H : Type} : List (Lit × DataW H) → Nat
  | [] => 0
  | x :: r => uptoBulkEntry x + uptoBulkEntries r
def uptoBulkEntry {H : Type} : Lit × DataW H → Nat
  | (.string bytes, d) => bytes.length + uptoBulk d + 1
  | (_, d) => uptoBulk d + 1
 end
def uptoSmall : (H : Type) → List (DataW H) → Bool := fun _ ds => decide (uptoBulkAll ds ≤ 1048576)
def OpenSpec.upto (s : _root_.Go.ChangeSpec) : _root_.Go.OpenSpec := { _root_.Go.OpenSpec.ofChange s with cond := some uptoSmall }

/-- 'conduitlaw16.ChansOrder', WHERE WHAT IT READS IS OF BULK AT MOST 1048576: true; the input reads as it did. -/
def chansOrderUptoRow : OpenClaim := { program := "ytbaidcnalkdhgaagreat", sum := "da2ce118fa85ac6ac6dc78add784951a4d9febcaa47ac89f94de86d3ddcd7017", func := "conduit/conduitlaw16.ChansOrder", spec := "chansOrder", unfollowed := true, recurses := true, apart := false, narrowed := true }
def ChansOrderUptoSaid : Prop := chansOrderUptoRow.holds Tryz.pinned (OpenSpec.upto chansOrderSpec)

/-- 'conduitlaw16.ChansClosed', WHERE WHAT IT READS IS OF BULK AT MOST 1048576: true; the input reads as it did. -/
def chansClosedUptoRow : OpenClaim := { program := "ytbaidcnalkdhgaagreat", sum := "da2ce118fa85ac6ac6dc78add784951a4d9febcaa47ac89f94de86d3ddcd7017", func := "conduit/conduitlaw16.ChansClosed", spec := "chansClosed", unfollowed := true, recurses := true, apart := false, narrowed := true }
def ChansClosedUptoSaid : Prop := chansClosedUptoRow.holds Tryz.pinned (OpenSpec.upto chansClosedSpec)

/-- 'conduitlaw16.ChansTickets', WHERE WHAT IT READS IS OF BULK AT MOST 1048576: true; the input reads as it did. -/
def chansTicketsUptoRow : OpenClaim := { program := "ytbaidcnalkdhgaagreat", sum := "da2ce118fa85ac6ac6dc78add784951a4d9febcaa47ac89f94de86d3ddcd7017", func := "conduit/conduitlaw16.ChansTickets", spec := "chansTickets", unfollowed := true, recurses := true, apart := false, narrowed := true }
def ChansTicketsUptoSaid : Prop := chansTicketsUptoRow.holds Tryz.pinned (OpenSpec.upto chansTicketsSpec)

/-- 'conduitlaw16.ChansForget', WHERE WHAT IT READS IS OF BULK AT MOST 1048576: true; the input reads as it did. -/
def chansForgetUptoRow : OpenClaim := { program := "ytbaidcnalkdhgaagreat", sum := "da2ce118fa85ac6ac6dc78add784951a4d9febcaa47ac89f94de86d3ddcd7017", func := "conduit/conduitlaw16.ChansForget", spec := "chansForget", unfollowed := true, recurses := true, apart := false, narrowed := true }
def ChansForgetUptoSaid : Prop := chansForgetUptoRow.holds Tryz.pinned (OpenSpec.upto chansForgetSpec)

/-- 'conduitlaw18.TimerSleeps', WHERE WHAT IT READS IS OF BULK AT MOST 1048576: true; the input reads as it did. -/
def timerSleepsUptoRow : OpenClaim := { program := "ytbaidcnalkdhgaagreat", sum := "da2ce118fa85ac6ac6dc78add784951a4d9febcaa47ac89f94de86d3ddcd7017", func := "conduit/conduitlaw18.TimerSleeps", spec := "timerSleeps", unfollowed := true, recurses := true, apart := false, narrowed := true }
def TimerSleepsUptoSaid : Prop := timerSleepsUptoRow.holds Tryz.pinned (OpenSpec.upto timerSleepsSpec)

/-- 'conduitlaw18.TimerNone', WHERE WHAT IT READS IS OF BULK AT MOST 1048576: true; the input reads as it did. -/
def timerNoneUptoRow : OpenClaim := { program := "ytbaidcnalkdhgaagreat", sum := "da2ce118fa85ac6ac6dc78add784951a4d9febcaa47ac89f94de86d3ddcd7017", func := "conduit/conduitlaw18.TimerNone", spec := "timerNone", unfollowed := true, recurses := true, apart := false, narrowed := true }
def TimerNoneUptoSaid : Prop := timerNoneUptoRow.holds Tryz.pinned (OpenSpec.upto timerNoneSpec)

/-- 'conduitlaw18.TimerDue', WHERE WHAT IT READS IS OF BULK AT MOST 1048576: true; the input reads as it did. -/
def timerDueUptoRow : OpenClaim := { program := "ytbaidcnalkdhgaagreat", sum := "da2ce118fa85ac6ac6dc78add784951a4d9febcaa47ac89f94de86d3ddcd7017", func := "conduit/conduitlaw18.TimerDue", spec := "timerDue", unfollowed := true, recurses := true, apart := false, narrowed := true }
def TimerDueUptoSaid : Prop := timerDueUptoRow.holds Tryz.pinned (OpenSpec.upto timerDueSpec)

/-- 'conduitlaw16.ChansRun', WHERE WHAT IT READS IS OF BULK AT MOST 1048576: true; the input reads as it did. -/
def chansRunUptoRow : OpenClaim := { program := "ytbaidcnalkdhgaagreat", sum := "da2ce118fa85ac6ac6dc78add784951a4d9febcaa47ac89f94de86d3ddcd7017", func := "conduit/conduitlaw16.ChansRun", spec := "chansRun", unfollowed := true, recurses := true, apart := false, narrowed := true }
def ChansRunUptoSaid : Prop := chansRunUptoRow.holds Tryz.pinned (OpenSpec.upto chansRunSpec)

/-- 'conduitlaw18.TimerChannels', WHERE WHAT IT READS IS OF BULK AT MOST 1048576: true; the input reads as it did. -/
def timerChannelsUptoRow : OpenClaim := { program := "ytbaidcnalkdhgaagreat", sum := "da2ce118fa85ac6ac6dc78add784951a4d9febcaa47ac89f94de86d3ddcd7017", func := "conduit/conduitlaw18.TimerChannels", spec := "timerChannels", unfollowed := true, recurses := true, apart := false, narrowed := true }
def TimerChannelsUptoSaid : Prop := timerChannelsUptoRow.holds Tryz.pinned (OpenSpec.upto timerChannelsSpec)

/-- 'conduitlaw16.ChansNone', WHERE WHAT IT READS IS OF BULK AT MOST 1048576: true; the input reads as it did. -/
def chansNoneUptoRow : OpenClaim := { program := "ytbaidcnalkdhgaagreat", sum := "da2ce118fa85ac6ac6dc78add784951a4d9febcaa47ac89f94de86d3ddcd7017", func := "conduit/conduitlaw16.ChansNone", spec := "chansNone", unfollowed := true, recurses := true, apart := false, narrowed := true }
def ChansNoneUptoSaid : Prop := chansNoneUptoRow.holds Tryz.pinned (OpenSpec.upto chansNoneSpec)

end Rows
end Go.Proofs.YtbaidcnalkdhgaaGreat
