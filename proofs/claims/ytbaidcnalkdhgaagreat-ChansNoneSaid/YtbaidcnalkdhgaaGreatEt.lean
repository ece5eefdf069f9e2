/-
  The engine, further: in a region that draws its order, the operations that may come up next, guarded or not, each in its turn.
-/
import Derived.Test.YtbaidcnalkdhgaaGreatEs
namespace Go.Eng
open Go
def readyB (ops : List Oper) (listed : Array Bool) (l : List Nat) : Bool := decide (Region.ready .any ops.toArray listed = l)
section
variable {P : Program} {n : Nat} {e : Env} {w : World} {Q : Post} {ops : List Oper} {S : World → Prop} {listed : Array Bool} {fuel : Nat}
theorem vA_stepG {o : Oper} {j : Nat} (hi : ops[j]? = some o) (hok : okL n ops = true) {a : Act} (ha : Rep n a e)
    (h : ∀ K : Env → World → Prop, (∀ e w, vA P n ops S fuel (listed.setIfInBounds j true) e w Q → K e w) → vL P n ops [o] e w (fun x e w => x = .normal ∧ K e w)) :
    wpOp P ops.toArray (lift n Q) j (fun a' w' => S w' ∧ wpAnyH P .any ops.toArray (lift n Q) S fuel (listed.setIfInBounds j true) a' w') a w := by
  have hd := okL_get hok hi
  have h1 := h (fun e w => vA P n ops S fuel (listed.setIfInBounds j true) e w Q) (fun _ _ h => h) (by simp [okL, hd]) a ha
  unfold wpOp
  have hi' : ops.toArray[j]? = some o := by simpa using hi
  simp only [hi']
  unfold wpList at h1
  have fin : ∀ a' w', lift n (fun x e w => x = .normal ∧ vA P n ops S fuel (listed.setIfInBounds j true) e w Q) .normal a' w' → S w' ∧ wpAnyH P .any ops.toArray (lift n Q) S fuel (listed.setIfInBounds j true) a' w' := by
    intro a' w' ⟨e', he', _, hv⟩
    exact ⟨hv.1, hv.2 hok a' he'⟩
  by_cases hw : Region.wanted o (yielded ops.toArray a.tmps) = true
  · rw [if_pos hw] at h1 ⊢
    rcases h1 with h1 | ⟨_, a', w', h2⟩
    · left
      unfold Oper.wp at h1 ⊢
      generalize (execOp a.eval o).run P w = r at h1 ⊢
      cases r with
      | ok x w' =>
        cases x <;> simp only [Oper.upon, wpList] at h1 ⊢
        case value v => exact fin _ _ h1
        case skip => exact fin _ _ h1
        case defer dd => exact fin _ _ h1
        case enter f args =>
          refine Calls.mono h1 ?_
          intro x w'' hx
          cases x with
          | returned v => exact fin _ _ hx
          | panicked c => exact hx.elim
          | outgrown => obtain ⟨_, _, hx⟩ := hx; exact hx.elim
        case row r args => exact Rows.mono h1 (fun _ _ h => fin _ _ h)
      | halt x w' =>
        cases x <;> simp only [Oper.upon] at h1 ⊢
        case panic v => exact h1.elim
    · exact h2.elim
  · rw [if_neg hw] at h1 ⊢
    exact fin _ _ h1
theorem vA_one {o : Oper} (i : Nat) (hf : readyB ops listed [i] = true) (hS : S w) (hi : ops[i]? = some o)
    (h1 : ∀ K : Env → World → Prop, (∀ e w, vA P n ops S fuel (listed.setIfInBounds i true) e w Q → K e w) → vL P n ops [o] e w (fun x e w => x = .normal ∧ K e w)) : vA P n ops S (fuel + 1) listed e w Q := by
  refine ⟨hS, fun hok a ha => ?_⟩
  simp only [readyB, decide_eq_true_eq] at hf
  refine wpAnyH_all hf (by simp) ?_
  intro k hk
  obtain rfl : k = i := by simpa using hk
  exact vA_stepG hi hok ha h1
theorem vA_both {o o' : Oper} (i j : Nat) (hf : readyB ops listed [i, j] = true) (hS : S w) (hi : ops[i]? = some o) (hj : ops[j]? = some o')
    (h1 : ∀ K : Env → World → Prop, (∀ e w, vA P n ops S fuel (listed.setIfInBounds i true) e w Q → K e w) → vL P n ops [o] e w (fun x e w => x = .normal ∧ K e w))
    (h2 : ∀ K : Env → World → Prop, (∀ e w, vA P n ops S fuel (listed.setIfInBounds j true) e w Q → K e w) → vL P n ops [o'] e w (fun x e w => x = .normal ∧ K e w)) : vA P n ops S (fuel + 1) listed e w Q := by
  refine ⟨hS, fun hok a ha => ?_⟩
  simp only [readyB, decide_eq_true_eq] at hf
  refine wpAnyH_all hf (by simp) ?_
  intro k hk
  rcases List.mem_cons.1 hk with rfl | hk
  · exact vA_stepG hi hok ha h1
  · obtain rfl : k = j := by simpa using hk
    exact vA_stepG hj hok ha h2
theorem vA_three {o o' o'' : Oper} (i j l : Nat) (hf : readyB ops listed [i, j, l] = true) (hS : S w) (hi : ops[i]? = some o) (hj : ops[j]? = some o') (hl : ops[l]? = some o'')
    (h1 : ∀ K : Env → World → Prop, (∀ e w, vA P n ops S fuel (listed.setIfInBounds i true) e w Q → K e w) → vL P n ops [o] e w (fun x e w => x = .normal ∧ K e w))
    (h2 : ∀ K : Env → World → Prop, (∀ e w, vA P n ops S fuel (listed.setIfInBounds j true) e w Q → K e w) → vL P n ops [o'] e w (fun x e w => x = .normal ∧ K e w))
    (h3 : ∀ K : Env → World → Prop, (∀ e w, vA P n ops S fuel (listed.setIfInBounds l true) e w Q → K e w) → vL P n ops [o''] e w (fun x e w => x = .normal ∧ K e w)) : vA P n ops S (fuel + 1) listed e w Q := by
  refine ⟨hS, fun hok a ha => ?_⟩
  simp only [readyB, decide_eq_true_eq] at hf
  refine wpAnyH_all hf (by simp) ?_
  intro k hk
  rcases List.mem_cons.1 hk with rfl | hk
  · exact vA_stepG hi hok ha h1
  rcases List.mem_cons.1 hk with rfl | hk
  · exact vA_stepG hj hok ha h2
  · obtain rfl : k = l := by simpa using hk
    exact vA_stepG hl hok ha h3
theorem vC_meet0 {x : Code} (mm : Nat) (R : World → Prop) (h : vC P n x e w (fun r e' w' => r = .normal ∧ Same mm e e' ∧ R w')) (k : ∀ junk w', R w' → Q .normal (mask mm junk e) w') : vC P n x e w Q :=
  vC_mono h fun r e' w' hx => by
    obtain ⟨rfl, hs, hR⟩ := hx
    have := k e' w' hR
    rwa [mask_same mm e e' hs] at this
/-- ways that meet, one slot's value kept -/
theorem vC_meet1 {x : Code} (mm s : Nat) (v : Value) (R : World → Prop) (h : vC P n x e w (fun r e' w' => r = .normal ∧ Same mm e e' ∧ e' s = v ∧ R w')) (k : ∀ junk w', R w' → Q .normal (upd (mask mm junk e) s v) w') : vC P n x e w Q :=
  vC_mono h fun r e' w' hx => by
    obtain ⟨rfl, hs, hv, hR⟩ := hx
    have := k e' w' hR
    rw [mask_same mm e e' hs] at this
    rwa [upd_self _ _ _ hv] at this
/-- nothing is asked of the world (S: always): the next operations, whatever they are -/
theorem vA_truth {q : Prop} [Decidable q] (dj : Nat) (b : Bool) (hy : e dj = .bool (decide q)) (hq : decide q = b) (h : vA P n ops S fuel listed (upd e dj (.bool b)) w Q) : vA P n ops S fuel listed e w Q := by
  rwa [upd_self _ _ _ (by rw [hy, hq])] at h
theorem vA_isB (dj : Nat) (t b : Bool) (hy : e dj = .bool t) (ht : t = b) (h : vA P n ops S fuel listed (upd e dj (.bool b)) w Q) : vA P n ops S fuel listed e w Q := by
  rwa [upd_self _ _ _ (by rw [hy, ht])] at h
end
end Go.Eng
