/-
  The engine: in a region that draws its order, a call that leaves the world as it is may be taken at once where it is free, though others are ready.
-/
import Derived.Test.YtbaidcnalkdhgaaGreatEs
namespace Go.Eng
open Go
section
variable {P : Program} {ops : Array Oper} {Q : Exit → Act → World → Prop} {S : World → Prop}
/-- what an operation leaves is the state it found, but for its own slot (and deferred calls) -/
theorem wpOp_shape {j : Nat} {oj : Oper} (hj : ops[j]? = some oj) {K : Act → World → Prop} {a : Act} {w : World} (h : wpOp P ops Q j K a w) :
    wpOp P ops Q j (fun a' w' => (∃ u ds, a' = ({ a with defers := ds } : Act).put oj.dst u) ∧ K a' w') a w := by
  unfold wpOp at h ⊢
  simp only [hj] at h ⊢
  by_cases hw : Region.wanted oj (yielded ops a.tmps) = true
  · rw [if_pos hw] at h ⊢
    refine h.imp (fun h => ?_) id
    unfold Oper.wp at h ⊢
    cases hr : (execOp a.eval oj).run P w with
    | halt x w' =>
      rw [hr] at h
      cases x <;> exact h
    | ok x w' =>
      rw [hr] at h
      cases x with
      | value v => exact ⟨⟨v, a.defers, rfl⟩, h⟩
      | skip => exact ⟨⟨undef, a.defers, rfl⟩, h⟩
      | defer d => exact ⟨⟨undef, d :: a.defers, rfl⟩, h⟩
      | enter f args =>
        refine Calls.mono (show Calls P f args w' _ from h) fun y w'' hy => ?_
        cases y with
        | returned v => exact ⟨⟨v, a.defers, rfl⟩, hy⟩
        | panicked c => exact hy
        | outgrown => exact hy
      | row r args => exact Rows.mono (show Rows _ _ _ _ _ from h) fun v w'' hy => ⟨⟨v, a.defers, rfl⟩, hy⟩
      | _ => exact h
  · rw [if_neg hw] at h ⊢
    exact ⟨⟨undef, a.defers, rfl⟩, h⟩
theorem wpAnyH_call {i : Nat} {oi : Oper} {v : Value} {x : _} (hi : ops[i]? = some oi) (hns : Region.noSelect ops = true) (hQ : ∀ c a w, Q (.panic c) (a.put oi.dst v) w → Q (.panic c) a w)
    (go : ∀ (a : Act) (w : World) (K : Act → World → Prop), execOp a.eval oi = x → Region.wanted oi (yielded ops a.tmps) = true → S w → K (a.put oi.dst v) w → wpOp P ops Q i K a w) :
    ∀ (fuel : Nat) (listed : Array Bool) (a : Act) (w : World),
      (∀ j oj, ops[j]? = some oj → j ≠ i → listed.getD j true = false → (∀ e ∈ oj.after, Region.binds .any e = true → e.on ≠ i) → oi.apart ops oj = true) →
      i ∈ Region.ready .any ops listed → execOp a.eval oi = x → Region.wanted oi (yielded ops a.tmps) = true → S w →
      wpAnyH P .any ops Q S fuel (listed.setIfInBounds i true) (a.put oi.dst v) w → wpAnyH P .any ops Q S (fuel + 1) listed a w := by
  have hsel := Region.noSelect_spec hns
  intro fuel
  induction fuel with
  | zero =>
    intro listed a w hfr hr hx hw hS H
    have only : ∀ j ∈ Region.ready .any ops listed, j = i := fun j hj => Classical.byContradiction fun hne => by
      have := ready_mono hj hne
      rw [H.1] at this
      cases this
    exact ⟨fun h => absurd (h ▸ hr) List.not_mem_nil, fun j hj => by rw [only j hj]; exact go a w _ hx hw hS ⟨hS, H⟩⟩
  | succ n ih =>
    intro listed a w hfr hr hx hw hS H
    refine ⟨fun h => absurd (h ▸ hr) List.not_mem_nil, fun j hj => ?_⟩
    rcases Classical.em (j = i) with rfl | hne
    · exact go a w _ hx hw hS ⟨hS, H⟩
    obtain ⟨hun, oj, hoj, haf⟩ := mem_ready.1 hj
    have hli := (mem_ready.1 hr).1
    have hno : ∀ e ∈ oj.after, Region.binds .any e = true → e.on ≠ i := fun e he hb he' => by
      have h1 := haf e he hb
      rw [he'] at h1
      rcases Nat.lt_or_ge i listed.size with h | h
      · simp [h] at h1 hli; rw [hli] at h1; cases h1
      · simp [Array.getElem?_eq_none h] at h1
    have hap := hfr j oj hoj hne hun hno
    obtain ⟨_, _, h3⟩ := Oper.apart_spec hap
    have h1 := wpOp_shape hoj (wpOp_putIf (S := fun _ => False) hoj hap (fun cs b => hsel i oi cs b hi) (fun cs b => hsel j oj cs b hoj) hQ (.inl ⟨hw, fun _ h => h.elim⟩) (H.2 j (ready_mono hj hne)))
    refine wpOp_mono (fun a' w' h => ?_) h1
    obtain ⟨⟨u, ds, ea⟩, _, hS', H'⟩ := h
    refine ⟨hS', ih _ a' w' (fun k ok hk hki hku hkn => hfr k ok hk hki ?_ hkn) (ready_mono hr (fun h => hne h.symm)) ?_ ?_ hS' (by rw [Array.setIfInBounds_comm _ _ hne]; exact H')⟩
    · rcases Classical.em (j = k) with rfl | hjk
      · exact hun
      · rwa [getD_set_ne true hjk] at hku
    · rw [ea, execOp_put oi (fun cs b => hsel i oi cs b hi) _ oj.dst u h3]; exact hx
    · rw [ea, wanted_put oi _ oj.dst u h3]; exact hw
end
section
variable {P : Program} {n : Nat} {e : Env} {w : World} {Q : Post} {ops : List Oper} {S : World → Prop} {listed : Array Bool} {fuel : Nat} {ty : TypeId} {p : String} {af : Array Edge} {d : Option Nat}
theorem vA_call {fx : Operand} {xs : Array Operand} {tys : Array TypeId} {f : FuncId} {first cap args : List Value} {v : Value} {g : Option (Nat × Bool)} [FnOk P f] (i : Nat) (hi : ops[i]? = some ⟨d, .call ⟨.value fx, xs, tys⟩, ty, p, af, g⟩)
    (hg : ∀ a, Rep n a e → Region.wanted ⟨d, .call ⟨.value fx, xs, tys⟩, ty, p, af, g⟩ (yielded ops.toArray a.tmps) = true) (hf : freeB ops listed i = true) (hS : S w)
    (hfn : ev e fx = .func (.func f) first.toArray cap.toArray) (hc : ∀ w, S w → Rets P f args.toArray w fun u w' => w = w' ∧ u = v) (ha : first ++ xs.toList.map (ev e) ++ cap = args)
    (k : vA P n ops S fuel (listed.setIfInBounds i true) (updO e d v) w Q) : vA P n ops S (fuel + 1) listed e w Q := by
  refine ⟨hS, fun hok a hA => ?_⟩
  simp only [freeB, Bool.and_eq_true] at hf
  have hi' : ops.toArray[i]? = some ⟨d, .call ⟨.value fx, xs, tys⟩, ty, p, af, g⟩ := by simpa using hi
  have hd := okL_get hok hi
  refine wpAnyH_call (x := execOp (ev e) ⟨d, .call ⟨.value fx, xs, tys⟩, ty, p, af, none⟩) (v := v) hi' hf.1.1 (fun _ _ _ h => h) (fun a' w' K hx hw hS' hK => ?_) fuel listed a w (Region.free_spec hi' hf.1.2) (by simpa using hf.2) (by rw [hA.eval]; rfl) (hg a hA) hS (k.2 hok _ (hA.put d v hd))
  unfold wpOp
  simp only [hi', hw, if_true]
  left
  unfold Oper.wp
  have hrun : (execOp a'.eval ⟨d, .call ⟨.value fx, xs, tys⟩, ty, p, af, g⟩).run P w' = .ok (.enter f args.toArray) w' := by
    rw [hx]; exact run_callFn hfn ha
  rw [hrun]
  refine Calls.mono (hc w' hS') ?_
  rintro y w'' ⟨u, rfl, rfl, rfl⟩
  exact hK
/-- a call that changes nothing -/
theorem tkp {fx : Operand} {xs : Array Operand} {tys : Array TypeId} {f : FuncId} {first cap args : List Value} {v : Value} [FnOk P f] (i : Nat) (hi : ops[i]? = some ⟨d, .call ⟨.value fx, xs, tys⟩, ty, p, af, none⟩) (hf : freeB ops listed i = true) (hS : S w)
    (hfn : ev e fx = .func (.func f) first.toArray cap.toArray) (hc : ∀ w, S w → Rets P f args.toArray w fun u w' => w = w' ∧ u = v) (ha : first ++ xs.toList.map (ev e) ++ cap = args)
    (k : vA P n ops S fuel (listed.setIfInBounds i true) (updO e d v) w Q) : vA P n ops S (fuel + 1) listed e w Q :=
  vA_call i hi (fun _ _ => rfl) hf hS hfn hc ha k
theorem tkpw {fx : Operand} {xs : Array Operand} {tys : Array TypeId} {f : FuncId} {first cap args : List Value} {v : Value} {j : Nat} {want : Bool} [FnOk P f] (i : Nat) (hi : ops[i]? = some ⟨d, .call ⟨.value fx, xs, tys⟩, ty, p, af, some (j, want)⟩) (hg : yE ops e j = some want) (hf : freeB ops listed i = true) (hS : S w)
    (hfn : ev e fx = .func (.func f) first.toArray cap.toArray) (hc : ∀ w, S w → Rets P f args.toArray w fun u w' => w = w' ∧ u = v) (ha : first ++ xs.toList.map (ev e) ++ cap = args)
    (k : vA P n ops S fuel (listed.setIfInBounds i true) (updO e d v) w Q) : vA P n ops S (fuel + 1) listed e w Q :=
  vA_call i hi (fun _ hA => by simp [Region.wanted, yielded_eq hA, hg]) hf hS hfn hc ha k
end
end Go.Eng
