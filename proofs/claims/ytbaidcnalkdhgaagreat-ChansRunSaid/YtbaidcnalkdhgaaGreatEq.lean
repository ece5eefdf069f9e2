/-
  The engine: an operation that reads no memory, in one step (for shorter texts).
-/
import Derived.Test.YtbaidcnalkdhgaaGreatEi
namespace Go.Eng
open Go
section
variable {P : Program} {n : Nat} {e : Env} {w : World} {Q : Post} {ops rest : List Oper} {d : Option Nat} {op : Op} {ty : TypeId} {p : String} {af : Array Edge} {S : World → Prop} {fuel : Nat} {listed : Array Bool}
theorem vE {v : Value} (h : opE op e = some v) (k : vL P n ops rest (updO e d v) w Q) : vL P n ops (⟨d, op, ty, p, af, none⟩ :: rest) e w Q := vL_val (opv_E h) k
theorem tkE {v : Value} (i : Nat) (hi : ops[i]? = some ⟨d, op, ty, p, af, none⟩) (hf : freeB ops listed i = true) (hS : S w) (hy : opE op e = some v) (h : vA P n ops S fuel (listed.setIfInBounds i true) (updO e d v) w Q) : vA P n ops S (fuel + 1) listed e w Q :=
  tk i hi hf hS (fun _ _ => opv_E hy) h
theorem tkwE {v : Value} {j : Nat} {want : Bool} (i : Nat) (hi : ops[i]? = some ⟨d, op, ty, p, af, some (j, want)⟩) (hg : yE ops e j = some want) (hf : freeB ops listed i = true) (hS : S w) (hy : opE op e = some v) (h : vA P n ops S fuel (listed.setIfInBounds i true) (updO e d v) w Q) : vA P n ops S (fuel + 1) listed e w Q :=
  tkw i hi hg hf hS (fun _ _ => opv_E hy) h
end
end Go.Eng
