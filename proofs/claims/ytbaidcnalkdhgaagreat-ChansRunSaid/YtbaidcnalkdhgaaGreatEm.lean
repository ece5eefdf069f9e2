/-
  The engine, further: maps with keys that compare by their own: what they hold as a list of pairs.
-/
import Derived.Test.YtbaidcnalkdhgaaGreatEv
import Derived.MapKept
import Derived.Carry
namespace Go.Eng
open Go

section
variable {κ ν : Type} {P : Program} {w : World} {kE : κ → Value} {vE : ν → Value} {M : List (κ × ν)} {r : Nat}
theorem map_eraseIdx' {α β : Type} (f : α → β) : ∀ (l : List α) (i : Nat), (l.eraseIdx i).map f = (l.map f).eraseIdx i
  | [], i => by simp
  | x :: l, 0 => by simp
  | x :: l, i + 1 => by simp [map_eraseIdx' f l i]
variable {n : Nat} {e : Env} {Q : Post} {ops rest : List Oper} {d : Option Nat} {ty : TypeId} {p : String} {af : Array Edge} 
variable [DecidableEq κ] in
variable [DecidableEq κ]
end

/-! ### keys that are numbers or texts -/
end Go.Eng
