/-
  The engine, further: worlds forgotten on the way; regions that draw their order and leave what was there as it was.
-/
import Derived.Test.YtaeckjhipmcddaaEp
namespace Go.Eng
open Go
section
variable {P : Program} {n : Nat} {e : Env} {w : World} {Q : Post} {c : Code} {ops l : List Oper}
theorem vC_gen (A : World → Prop) (h : A w) (k : ∀ w', A w' → vC P n c e w' Q) : vC P n c e w Q := k w h
theorem vL_gen (A : World → Prop) (h : A w) (k : ∀ w', A w' → vL P n ops l e w' Q) : vL P n ops l e w Q := k w h
end
theorem Fr.no_any {F : Nat → Prop} {a b : World} (h : Fr No a b) : Fr F a b := h.mono (fun _ _ x => x.elim)
theorem ret4 {P : Program} {e : Env} {w : World} {R : Value → World → Prop} {t u s r : Nat} {v v' v'' v3 : Value} (h1 : e t = v) (h2 : e u = v') (h3 : e s = v'') (h4 : e r = v3) (h : R (.tuple #[v, v', v'', v3]) w) : retP P [.tmp t, .tmp u, .tmp s, .tmp r] R .ret e w := ⟨[v, v', v'', v3], ⟨h1, h2, h3, h4, trivial⟩, h⟩
theorem bitB_test (m i : Nat) : bitB m i = m.testBit i := by
  unfold bitB
  rw [Nat.testBit_eq_decide_div_mod_eq]
  have h : Nat.land (Nat.shiftRight m i) 1 = m / 2 ^ i % 2 := by
    show (m >>> i) &&& 1 = _
    rw [Nat.and_one_is_mod, Nat.shiftRight_eq_div_pow]
  rw [h]
  by_cases h2 : m / 2 ^ i % 2 = 1
  · rw [h2]; rfl
  · rw [decide_eq_false h2]
    cases hb : Nat.beq (m / 2 ^ i % 2) 1 with
    | false => rfl
    | true => exact absurd (Nat.eq_of_beq_eq_true hb) h2
/-- an inner loop's forgotten slots are among the outer one's -/
theorem same_maskIn {ws m : Nat} {e e0 junk : Env} (h : Same ws e0 e) (hs : Nat.beq (Nat.land m ws) m = true) : Same ws e0 (mask m junk e) := by
  intro i hi
  have hm : bitB m i = false := by
    rw [bitB_test] at hi ⊢
    have h1 : m &&& ws = m := Nat.eq_of_beq_eq_true hs
    rw [← h1, Nat.testBit_and, hi, Bool.and_false]
  simp only [mask, hm, cond_false]
  exact h i hi
end Go.Eng
