/- Layer 15: the document's machine, as plain functions. -/
import Derived.Test.YtaeckjhipmcddaaCg
set_option maxRecDepth 100000
namespace Go.Proofs.Ytaeckjhipmcddaa
open Go Go.Eng
/-- a task: its program, the place of its next turn, why it is woken, its state (0 over, 1 ready, 2 running, 3 parked) -/
structure AT where
  prog : Nat
  pos : Nat
  why : Int
  st : Nat
structure AS where
  tasks : List AT
  line : List Int
  ev : List (Int × Int × Int)
def openA (l : List AT) : Nat := (l.filter fun t => decide (t.st ≠ 0)).length
def AS.note (S : AS) (i : Nat) (what n : Int) : AS := { S with ev := S.ev ++ [((i : Int), what, n)] }
def AS.setT (S : AS) (i : Nat) (t : AT) : AS := { S with tasks := S.tasks.set i t }
def AS.ready (S : AS) (i : Nat) : AS := match S.tasks[i]? with
  | some t => { S with tasks := S.tasks.set i { t with st := 1 }, line := S.line ++ [(i : Int)] }
  | none => S
def AS.spawn (S : AS) (prog : Nat) : AS × Int := if openA S.tasks = 256 then (S, 5) else ({ S with tasks := S.tasks ++ [⟨prog, 0, 0, 1⟩], line := S.line ++ [(S.tasks.length : Int)] }, 0)
def AS.wake (S : AS) (id why : Int) : AS × Int := if 0 ≤ id then match S.tasks[id.toNat]? with
    | some t => if t.st = 3 then ({ S with tasks := S.tasks.set id.toNat { t with st := 1, why := why }, line := S.line ++ [id] }, 0) else (S, 152)
    | none => (S, 152)
  else (S, 152)
def pickN (x : Int) (n : Nat) : Nat := (x % (n : Int)).toNat
def doAt (P : List (List (Int × Int × Int))) (prog pos : Nat) : Int × Int × Int := match P[prog]? with
  | some l => (l[pos]?).getD (0, 0, 0)
  | none => (0, 0, 0)
/-- a turn: task i, which runs (its state is 2, its place is the next one) -/
def AS.act (P : List (List (Int × Int × Int))) (S : AS) (i : Nat) (rest : Int) (d : Int × Int × Int) : AS :=
  if d.1 = 1 then S.ready i
  else if d.1 = 2 then match S.tasks[i]? with
    | some t => S.setT i { t with st := 3 }
    | none => S
  else if d.1 = 3 then let r := S.wake d.2.1 d.2.2; (r.1.note i (-2) r.2).ready i
  else if d.1 = 4 then let r := S.spawn (pickN d.2.1 P.length); (r.1.note i (-3) r.2).ready i
  else if d.1 = 5 then (S.ready i).note i (-1) 151
  else if d.1 = 6 then (S.note i (-4) (if 0 < d.2.1 then rest % d.2.1 else 0)).ready i
  else if d.1 = 7 then (S.note i (-5) 152).ready i
  else match S.tasks[i]? with
    | some t => S.setT i { t with st := 0 }
    | none => S
def AS.step (P : List (List (Int × Int × Int))) (S : AS) (p : Int) : Option AS := match S.line[(p % (S.line.length : Int)).toNat]? with
  | none => none
  | some id => match S.tasks[id.toNat]? with
    | none => none
    | some t => some (AS.act P (({ S with line := without S.line (p % (S.line.length : Int)) } : AS).note id.toNat t.pos t.why |>.setT id.toNat ⟨t.prog, t.pos + 1, 0, 2⟩) id.toNat (p / (S.line.length : Int)) (doAt P t.prog t.pos))
/-- what is always so between turns: the line holds the ready ones, each once -/
structure AOk (S : AS) : Prop where
  nd : S.line.Nodup
  rdy : ∀ (i : Nat), ((i : Int) ∈ S.line ↔ ∃ t, S.tasks[i]? = some t ∧ t.st = 1)
  nn : ∀ x ∈ S.line, 0 ≤ x
  few : openA S.tasks ≤ 256
  sts : ∀ t ∈ S.tasks, t.st ≤ 3
end Go.Proofs.Ytaeckjhipmcddaa
