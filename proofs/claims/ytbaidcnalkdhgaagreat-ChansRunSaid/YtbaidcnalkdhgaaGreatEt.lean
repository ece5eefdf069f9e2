/-
  The engine, further: in a region that draws its order, the operations that may come up next, guarded or not, each in its turn.
-/
import Derived.Test.YtbaidcnalkdhgaaGreatEs
namespace Go.Eng
open Go
section
variable {P : Program} {n : Nat} {e : Env} {w : World} {Q : Post} {ops : List Oper} {S : World → Prop} {listed : Array Bool} {fuel : Nat}
theorem vC_meet0 {x : Code} (mm : Nat) (R : World → Prop) (h : vC P n x e w (fun r e' w' => r = .normal ∧ Same mm e e' ∧ R w')) (k : ∀ junk w', R w' → Q .normal (mask mm junk e) w') : vC P n x e w Q :=
  vC_mono h fun r e' w' hx => by
    obtain ⟨rfl, hs, hR⟩ := hx
    have := k e' w' hR
    rwa [mask_same mm e e' hs] at this
/-- ways that meet, one slot's value kept -/
theorem vC_meet1 {x : Code} (mm s : Nat) (v : Value) (R : World → Prop) (h : vC P n x e w (fun r e' w' => r = .normal ∧ Same mm e e' ∧ e' s = v ∧ R w')) (k : ∀ junk w', R w' → Q .normal (upd (mask mm junk e) s v) w') : vC P n x e w Q :=
  vC_mono h fun r e' w' hx => by
    obtain ⟨rfl, hs, hv, hR⟩ := hx
    have := k e' w' hR
    rw [mask_same mm e e' hs] at this
    rwa [upd_self _ _ _ hv] at this
end
end Go.Eng
