/-
  The engine, eighth text: the loop's rule, said of the slots that matter (one to eight of them); the other slots that the body writes are forgotten, those that it does not write stay.
-/
import Derived.Test.YtbaidcnalkdhgaaGreatEg
namespace Go.Eng
open Go
section
variable {P : Program} {n : Nat} {e : Env} {w : World} {Q : Post} {c : Code}
theorem same_mask (ws : Nat) (junk e : Env) : Same ws e (mask ws junk e) := by
  intro i hi
  show (bif bitB ws i then junk i else e i) = e i
  rw [hi]; rfl
theorem same_upd {ws : Nat} {e e0 : Env} {d : Nat} {v : Value} (h : Same ws e0 e) (ho : bitB ws d = true) : Same ws e0 (upd e d v) :=
  updO_same (o := some d) h (fun _ hd => by cases hd; exact ho)
theorem same_updO {ws : Nat} {e e0 : Env} {d : Nat} {v : Value} (h : Same ws e0 e) (ho : bitB ws d = true) : Same ws e0 (updO e (some d) v) := same_upd h ho
theorem same_updN {ws : Nat} {e e0 : Env} {v : Value} (h : Same ws e0 e) : Same ws e0 (updO e none v) := h

/-- a round's end -/
def End1 (ws : Nat) (s1 : Nat) (R : Value → World → Prop) (μ : Value → World → Nat) (e0 : Env) (m : Nat) : Env → World → Prop := fun e' w' => Same ws e0 e' ∧ R (e' s1) w' ∧ μ (e' s1) w' < m
theorem end1 {ws : Nat} {s1 : Nat} {R : Value → World → Prop} {μ : Value → World → Nat} {e0 : Env} {m : Nat} {u1 : Value} (hs : Same ws e0 e) (h1 : e s1 = u1) (hR : R u1 w) (hm : μ u1 w < m) : End1 ws s1 R μ e0 m e w := by
  subst h1
  exact ⟨hs, hR, hm⟩
theorem vC_loop1 (mm : Nat) (s1 : Nat) (R : Value → World → Prop) (μ : Value → World → Nat) {u1 : Value} (h1 : e s1 = u1) (h0 : R u1 w)
    (round : ∀ (junk : Env) (v1 : Value) (w : World), R v1 w → vC P n c (upd (mask mm junk e) s1 v1) w (loopP (End1 mm s1 R μ e (μ v1 w)) Q)) : vC P n (.loop c) e w Q := by
  subst h1
  refine vC_loop (fun e1 w => Same mm e e1 ∧ R (e1 s1) w) (fun e1 w => μ (e1 s1) w) ⟨fun _ _ => rfl, h0⟩ ?_
  intro e1 w1 ⟨hs, hR⟩
  have h := round e1 (e1 s1) w1 hR
  rw [mask_same mm e e1 hs] at h
  rw [upd_self _ _ _ rfl] at h
  refine vC_mono h ?_
  intro x e2 w2 hx
  cases x with
  | normal => exact ⟨⟨hx.1, hx.2.1⟩, hx.2.2⟩
  | exit id => exact hx
  | goto l => exact hx
  | ret => exact hx
  | panic ch => exact hx
  | outgrown => exact hx
/-- a round's end -/
def End2 (ws : Nat) (s1 s2 : Nat) (R : Value → Value → World → Prop) (μ : Value → Value → World → Nat) (e0 : Env) (m : Nat) : Env → World → Prop := fun e' w' => Same ws e0 e' ∧ R (e' s1) (e' s2) w' ∧ μ (e' s1) (e' s2) w' < m
theorem end2 {ws : Nat} {s1 s2 : Nat} {R : Value → Value → World → Prop} {μ : Value → Value → World → Nat} {e0 : Env} {m : Nat} {u1 u2 : Value} (hs : Same ws e0 e) (h1 : e s1 = u1) (h2 : e s2 = u2) (hR : R u1 u2 w) (hm : μ u1 u2 w < m) : End2 ws s1 s2 R μ e0 m e w := by
  subst h1; subst h2
  exact ⟨hs, hR, hm⟩
theorem vC_loop2 (mm : Nat) (s1 s2 : Nat) (R : Value → Value → World → Prop) (μ : Value → Value → World → Nat) {u1 u2 : Value} (h1 : e s1 = u1) (h2 : e s2 = u2) (h0 : R u1 u2 w)
    (round : ∀ (junk : Env) (v1 v2 : Value) (w : World), R v1 v2 w → vC P n c (upd (upd (mask mm junk e) s1 v1) s2 v2) w (loopP (End2 mm s1 s2 R μ e (μ v1 v2 w)) Q)) : vC P n (.loop c) e w Q := by
  subst h1; subst h2
  refine vC_loop (fun e1 w => Same mm e e1 ∧ R (e1 s1) (e1 s2) w) (fun e1 w => μ (e1 s1) (e1 s2) w) ⟨fun _ _ => rfl, h0⟩ ?_
  intro e1 w1 ⟨hs, hR⟩
  have h := round e1 (e1 s1) (e1 s2) w1 hR
  rw [mask_same mm e e1 hs] at h
  rw [upd_self _ _ _ rfl] at h; rw [upd_self _ _ _ rfl] at h
  refine vC_mono h ?_
  intro x e2 w2 hx
  cases x with
  | normal => exact ⟨⟨hx.1, hx.2.1⟩, hx.2.2⟩
  | exit id => exact hx
  | goto l => exact hx
  | ret => exact hx
  | panic ch => exact hx
  | outgrown => exact hx
/-- a round's end -/
def End3 (ws : Nat) (s1 s2 s3 : Nat) (R : Value → Value → Value → World → Prop) (μ : Value → Value → Value → World → Nat) (e0 : Env) (m : Nat) : Env → World → Prop := fun e' w' => Same ws e0 e' ∧ R (e' s1) (e' s2) (e' s3) w' ∧ μ (e' s1) (e' s2) (e' s3) w' < m
theorem end3 {ws : Nat} {s1 s2 s3 : Nat} {R : Value → Value → Value → World → Prop} {μ : Value → Value → Value → World → Nat} {e0 : Env} {m : Nat} {u1 u2 u3 : Value} (hs : Same ws e0 e) (h1 : e s1 = u1) (h2 : e s2 = u2) (h3 : e s3 = u3) (hR : R u1 u2 u3 w) (hm : μ u1 u2 u3 w < m) : End3 ws s1 s2 s3 R μ e0 m e w := by
  subst h1; subst h2; subst h3
  exact ⟨hs, hR, hm⟩
theorem vC_loop3 (mm : Nat) (s1 s2 s3 : Nat) (R : Value → Value → Value → World → Prop) (μ : Value → Value → Value → World → Nat) {u1 u2 u3 : Value} (h1 : e s1 = u1) (h2 : e s2 = u2) (h3 : e s3 = u3) (h0 : R u1 u2 u3 w)
    (round : ∀ (junk : Env) (v1 v2 v3 : Value) (w : World), R v1 v2 v3 w → vC P n c (upd (upd (upd (mask mm junk e) s1 v1) s2 v2) s3 v3) w (loopP (End3 mm s1 s2 s3 R μ e (μ v1 v2 v3 w)) Q)) : vC P n (.loop c) e w Q := by
  subst h1; subst h2; subst h3
  refine vC_loop (fun e1 w => Same mm e e1 ∧ R (e1 s1) (e1 s2) (e1 s3) w) (fun e1 w => μ (e1 s1) (e1 s2) (e1 s3) w) ⟨fun _ _ => rfl, h0⟩ ?_
  intro e1 w1 ⟨hs, hR⟩
  have h := round e1 (e1 s1) (e1 s2) (e1 s3) w1 hR
  rw [mask_same mm e e1 hs] at h
  rw [upd_self _ _ _ rfl] at h; rw [upd_self _ _ _ rfl] at h; rw [upd_self _ _ _ rfl] at h
  refine vC_mono h ?_
  intro x e2 w2 hx
  cases x with
  | normal => exact ⟨⟨hx.1, hx.2.1⟩, hx.2.2⟩
  | exit id => exact hx
  | goto l => exact hx
  | ret => exact hx
  | panic ch => exact hx
  | outgrown => exact hx
end
section
variable {P : Program} {n : Nat} {e : Env} {w : World} {Q : Post} {ops : List Oper} {S : World → Prop} {listed : Array Bool} {fuel : Nat}
/-- in a region that draws its order: a truth value that is not decided, both ways; its slot then holds the plain truth -/
theorem vA_split {q : Prop} [Decidable q] (dj : Nat) (hy : e dj = .bool (decide q)) (h1 : q → vA P n ops S fuel listed (upd e dj (.bool true)) w Q) (h2 : ¬ q → vA P n ops S fuel listed (upd e dj (.bool false)) w Q) : vA P n ops S fuel listed e w Q := by
  by_cases hq : q
  · have := h1 hq; rwa [upd_self _ _ _ (by rw [hy]; simp [hq])] at this
  · have := h2 hq; rwa [upd_self _ _ _ (by rw [hy]; simp [hq])] at this
variable {d : Option Nat} {op : Op} {ty : TypeId} {p : String} {af : Array Edge}
theorem tk {v : Value} (i : Nat) (hi : ops[i]? = some ⟨d, op, ty, p, af, none⟩) (hf : freeB ops listed i = true) (hS : S w) (hy : ∀ w, S w → OpV P ⟨d, op, ty, p, af, none⟩ e w v w) (h : vA P n ops S fuel (listed.setIfInBounds i true) (updO e d v) w Q) : vA P n ops S (fuel + 1) listed e w Q :=
  vA_take i hi hf hy (fun _ => h) hS
theorem tkw {v : Value} {j : Nat} {want : Bool} (i : Nat) (hi : ops[i]? = some ⟨d, op, ty, p, af, some (j, want)⟩) (hg : yE ops e j = some want) (hf : freeB ops listed i = true) (hS : S w) (hy : ∀ w, S w → OpV P ⟨d, op, ty, p, af, none⟩ e w v w) (h : vA P n ops S fuel (listed.setIfInBounds i true) (updO e d v) w Q) : vA P n ops S (fuel + 1) listed e w Q :=
  vA_take_wanted i hi hg hf hy (fun _ => h) hS
theorem tku {j : Nat} {want t : Bool} (i : Nat) (hi : ops[i]? = some ⟨d, op, ty, p, af, some (j, want)⟩) (hg : yE ops e j = some t) (hne : (t == want) = false) (hf : freeB ops listed i = true) (hS : S w) (h : vA P n ops S fuel (listed.setIfInBounds i true) (updO e d undef) w Q) : vA P n ops S (fuel + 1) listed e w Q :=
  vA_take_unwanted i hi (by rw [hg]; intro h; cases h; simp at hne) hf (fun _ => h) hS
/-- a call, the only operation that may come up -/
theorem tkc {fx : Operand} {xs : Array Operand} {tys : Array TypeId} {f : FuncId} {first cap args : List Value} {R : Value → World → Prop} [FnOk P f] (i : Nat) (hi : ops[i]? = some ⟨d, .call ⟨.value fx, xs, tys⟩, ty, p, af, none⟩) (hf : onlyB ops listed i = true) (hS : S w)
    (hfn : ev e fx = .func (.func f) first.toArray cap.toArray) (hc : Rets P f args.toArray w R) (ha : first ++ xs.toList.map (ev e) ++ cap = args)
    (k : ∀ v w', R v w' → vA P n ops S fuel (listed.setIfInBounds i true) (updO e d v) w' Q) : vA P n ops S (fuel + 1) listed e w Q :=
  vA_only i hi hf hS fun _ hK => vL_callF hfn hc ha fun v w' hR => vL_nil ⟨rfl, hK _ _ (k v w' hR)⟩
theorem vC_draw' [Mixed P] {id : Nat} (S : World → Prop) (_ : S w.drew) (h : vA P n ops S ops.length (Array.replicate ops.length false) e w.drew Q) : vC P n (.region id ops.toArray true) e w Q :=
  vC_draw S h
/-- a guarded call that is wanted, the only operation that may come up -/
theorem vA_only_wanted {j : Nat} {want : Bool} (i : Nat) (hi : ops[i]? = some ⟨d, op, ty, p, af, some (j, want)⟩) (hg : yE ops e j = some want) (hf : onlyB ops listed i = true) (hS : S w)
    (h : ∀ K : Env → World → Prop, (∀ e w, vA P n ops S fuel (listed.setIfInBounds i true) e w Q → K e w) → vL P n ops [⟨d, op, ty, p, af, none⟩] e w (fun x e w => x = .normal ∧ K e w)) : vA P n ops S (fuel + 1) listed e w Q := by
  refine ⟨hS, fun hok a ha => ?_⟩
  simp only [onlyB, decide_eq_true_eq] at hf
  refine wpAnyH_all hf (by simp) ?_
  intro j' hj
  have hji : j' = i := by simpa using hj
  subst hji
  have hd := okL_get hok hi
  have h1 := vL_wanted (j := j) (want := want) hg (h (fun e w => vA P n ops S fuel (listed.setIfInBounds j' true) e w Q) (fun _ _ h => h)) (by simpa [okL] using hd) a ha
  unfold wpOp
  have hi' : ops.toArray[j']? = some ⟨d, op, ty, p, af, some (j, want)⟩ := by simpa using hi
  simp only [hi']
  unfold wpList at h1
  have hwant : Region.wanted ⟨d, op, ty, p, af, some (j, want)⟩ (yielded ops.toArray a.tmps) = true := by simp [Region.wanted, yielded_eq ha, hg]
  rw [if_pos hwant] at h1 ⊢
  rcases h1 with h1 | ⟨_, a', w', h2⟩
  · left
    unfold Oper.wp at h1 ⊢
    generalize (execOp a.eval ⟨d, op, ty, p, af, some (j, want)⟩).run P w = r at h1 ⊢
    have fin : ∀ a' w', lift n (fun x e w => x = .normal ∧ vA P n ops S fuel (listed.setIfInBounds j' true) e w Q) .normal a' w' → S w' ∧ wpAnyH P .any ops.toArray (lift n Q) S fuel (listed.setIfInBounds j' true) a' w' := by
      intro a' w' ⟨e', he', _, hv⟩
      exact ⟨hv.1, hv.2 hok a' he'⟩
    cases r with
    | ok x w' =>
      cases x <;> simp only [Oper.upon, wpList] at h1 ⊢
      case value v => exact fin _ _ h1
      case skip => exact fin _ _ h1
      case defer dd => exact fin _ _ h1
      case enter f args =>
        refine Calls.mono h1 ?_
        intro x w'' hx
        cases x with
        | returned v => exact fin _ _ hx
        | panicked c => exact hx.elim
        | outgrown => obtain ⟨_, _, hx⟩ := hx; exact hx.elim
      case row r args => exact Rows.mono h1 (fun _ _ h => fin _ _ h)
    | halt x w' =>
      cases x <;> simp only [Oper.upon] at h1 ⊢
      case panic v => exact h1.elim
  · exact h2.elim
theorem tkcw {fx : Operand} {xs : Array Operand} {tys : Array TypeId} {f : FuncId} {first cap args : List Value} {R : Value → World → Prop} {j : Nat} {want : Bool} [FnOk P f] (i : Nat) (hi : ops[i]? = some ⟨d, .call ⟨.value fx, xs, tys⟩, ty, p, af, some (j, want)⟩) (hg : yE ops e j = some want) (hf : onlyB ops listed i = true) (hS : S w)
    (hfn : ev e fx = .func (.func f) first.toArray cap.toArray) (hc : Rets P f args.toArray w R) (ha : first ++ xs.toList.map (ev e) ++ cap = args)
    (k : ∀ v w', R v w' → vA P n ops S fuel (listed.setIfInBounds i true) (updO e d v) w' Q) : vA P n ops S (fuel + 1) listed e w Q :=
  vA_only_wanted i hi hg hf hS fun _ hK => vL_callF hfn hc ha fun v w' hR => vL_nil ⟨rfl, hK _ _ (k v w' hR)⟩
end
end Go.Eng
