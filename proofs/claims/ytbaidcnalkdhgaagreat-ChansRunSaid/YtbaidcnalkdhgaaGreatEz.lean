/-
  The engine: ways that meet, where slots' values are known by what holds of them.
-/
import Derived.Test.YtbaidcnalkdhgaaGreatEt
import Derived.Test.YtbaidcnalkdhgaaGreatEy
namespace Go.Eng
open Go
section
variable {P : Program} {n : Nat} {e : Env} {w : World} {Q : Post}
theorem vC_meetV {x : Code} (mm s : Nat) (R : Value → World → Prop) (h : vC P n x e w (fun r e' w' => r = .normal ∧ Same mm e e' ∧ R (e' s) w')) (k : ∀ junk v w', R v w' → Q .normal (upd (mask mm junk e) s v) w') : vC P n x e w Q :=
  vC_mono h fun r e' w' hx => by
    obtain ⟨rfl, hs, hR⟩ := hx
    have := k e' _ w' hR
    rw [mask_same mm e e' hs] at this
    rwa [upd_self _ _ _ rfl] at this
theorem vC_meetV2 {x : Code} (mm s t : Nat) (R : Value → Value → World → Prop) (h : vC P n x e w (fun r e' w' => r = .normal ∧ Same mm e e' ∧ R (e' s) (e' t) w')) (k : ∀ junk v u w', R v u w' → Q .normal (upd (upd (mask mm junk e) s v) t u) w') : vC P n x e w Q :=
  vC_mono h fun r e' w' hx => by
    obtain ⟨rfl, hs, hR⟩ := hx
    have := k e' _ _ w' hR
    rw [mask_same mm e e' hs] at this
    rw [upd_self _ s _ rfl] at this
    rwa [upd_self _ _ _ rfl] at this
end
end Go.Eng
