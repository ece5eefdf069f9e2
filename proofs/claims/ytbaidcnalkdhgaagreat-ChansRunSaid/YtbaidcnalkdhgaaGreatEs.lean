/-
  The engine, further: worlds forgotten on the way; regions that draw their order and leave what was there as it was.
-/
import Derived.Test.YtbaidcnalkdhgaaGreatEp
namespace Go.Eng
open Go
section
variable {P : Program} {n : Nat} {e : Env} {w : World} {Q : Post} {c : Code} {ops l : List Oper}
theorem vC_gen (A : World → Prop) (h : A w) (k : ∀ w', A w' → vC P n c e w' Q) : vC P n c e w Q := k w h
theorem vL_gen (A : World → Prop) (h : A w) (k : ∀ w', A w' → vL P n ops l e w' Q) : vL P n ops l e w Q := k w h
end
section
variable {P : Program} {n : Nat} {e : Env} {w : World} {Q : Post} {ops rest : List Oper} {d : Option Nat} {op : Op} {ty : TypeId} {p : String} {af : Array Edge} {c : Operand} {x y : Code}
theorem vL_orF {j dj : Nat} {t : Bool} (hj : (ops[j]?).bind (·.dst) = some dj) (hy : e dj = .bool t) (ht : t = false) (h1 : vL P n ops (⟨d, op, ty, p, af, none⟩ :: rest) (upd e dj (.bool false)) w Q) : vL P n ops (⟨d, op, ty, p, af, some (j, false)⟩ :: rest) e w Q := vL_orb hj hy (fun _ => h1) (fun h => by rw [ht] at h; cases h)
theorem vC_condT {t : Bool} (hc : ev e c = .bool t) (ht : t = true) (h : vC P n x e w Q) : vC P n (.cond c x y) e w Q := vC_cond hc (fun _ => h) (fun h => by rw [ht] at h; cases h)
theorem vC_condF {t : Bool} (hc : ev e c = .bool t) (ht : t = false) (h : vC P n y e w Q) : vC P n (.cond c x y) e w Q := vC_cond hc (fun h => by rw [ht] at h; cases h) (fun _ => h)
end
theorem Fr.no_any {F : Nat → Prop} {a b : World} (h : Fr No a b) : Fr F a b := h.mono (fun _ _ x => x.elim)
theorem ret4 {P : Program} {e : Env} {w : World} {R : Value → World → Prop} {t u s r : Nat} {v v' v'' v3 : Value} (h1 : e t = v) (h2 : e u = v') (h3 : e s = v'') (h4 : e r = v3) (h : R (.tuple #[v, v', v'', v3]) w) : retP P [.tmp t, .tmp u, .tmp s, .tmp r] R .ret e w := ⟨[v, v', v'', v3], ⟨h1, h2, h3, h4, trivial⟩, h⟩
theorem bitB_test (m i : Nat) : bitB m i = m.testBit i := by
  unfold bitB
  rw [Nat.testBit_eq_decide_div_mod_eq]
  have h : Nat.land (Nat.shiftRight m i) 1 = m / 2 ^ i % 2 := by
    show (m >>> i) &&& 1 = _
    rw [Nat.and_one_is_mod, Nat.shiftRight_eq_div_pow]
  rw [h]
  by_cases h2 : m / 2 ^ i % 2 = 1
  · rw [h2]; rfl
  · rw [decide_eq_false h2]
    cases hb : Nat.beq (m / 2 ^ i % 2) 1 with
    | false => rfl
    | true => exact absurd (Nat.eq_of_beq_eq_true hb) h2
/-- an inner loop's forgotten slots are among the outer one's -/
theorem same_maskIn {ws m : Nat} {e e0 junk : Env} (h : Same ws e0 e) (hs : Nat.beq (Nat.land m ws) m = true) : Same ws e0 (mask m junk e) := by
  intro i hi
  have hm : bitB m i = false := by
    rw [bitB_test] at hi ⊢
    have h1 : m &&& ws = m := Nat.eq_of_beq_eq_true hs
    rw [← h1, Nat.testBit_and, hi, Bool.and_false]
  simp only [mask, hm, cond_false]
  exact h i hi
theorem Own.ne_own {α β : Type} {h : Array Obj} {T T' sz sz' : Nat} {enc : α → List Value} {enc' : β → List Value} {v v' : Value} {xs : List α} {ys : List β} (o : Own h T sz enc v xs) (o' : Own h T' sz' enc' v' ys) (hne : T ≠ T') : ∀ b, own v = some b → own v' ≠ some b := by
  intro b hv hv'
  rcases o'.shape with ⟨rfl, _⟩ | ⟨g, cap, cs, rfl, hg, _⟩
  · cases hv'
  · cases hv'; exact Own.ne_blk o hg hne hv
theorem flatMap_setF {α : Type} {enc : α → List Value} {sz j : Nat} {a x0 : α} {u : Value} (ha : enc a = (enc x0).set j u) (hj : j < sz) : ∀ (xs : List α) (i : Nat), (∀ x, x ∈ xs → (enc x).length = sz) → xs[i]? = some x0 → (xs.set i a).flatMap enc = (xs.flatMap enc).set (i * sz + j) u
  | [], i, _, h => by simp at h
  | x :: xs, 0, h, hx => by
    simp at hx
    subst hx
    have hl := h x (by simp)
    rw [List.set_cons_zero, List.flatMap_cons, List.flatMap_cons, ha, List.set_append_left _ _ (by omega)]
    simp
  | x :: xs, i + 1, h, hx => by
    have hl := h x (by simp)
    rw [List.set_cons_succ, List.flatMap_cons, List.flatMap_cons, List.set_append_right _ _ (by rw [hl, Nat.add_mul]; omega), flatMap_setF ha hj xs i (fun y hy => h y (by simp [hy])) (by simpa using hx)]
    congr 2
    rw [hl, Nat.add_mul]
    omega
section
variable {P : Program} {n : Nat} {e : Env} {w : World} {Q : Post} {ops rest : List Oper} {ty : TypeId} {p : String} {af : Array Edge}
/-- a store into a field of an element -/
theorem vL_storeElF {α : Type} {x y : Operand} {t T sz by' j : Nat} {z : List Value} {enc : α → List Value} {v u : Value} {xs : List α} {i : Int} {x0 : α} (a : α) [TInfo P t 1 by' z] [hz : EncOk enc sz] (hx : ev e x = .pointer (some (ea v sz i j))) (hy : ev e y = u) (hx0 : xs[i.toNat]? = some x0) (ha : enc a = (enc x0).set j u) (hone : u.oneCell' = true) (hj : j < sz) (ho : Own w.heap T sz enc v xs)
    (k : ∀ w', Own w'.heap T sz enc v (xs.set i.toNat a) → Fr (fun k => own v = some k) w w' → vL P n ops rest e w' Q) : vL P n ops (⟨none, .store t x y, ty, p, af, none⟩ :: rest) e w Q := by
  have hi := (List.getElem?_eq_some_iff.1 hx0).1
  rcases ho.shape with ⟨_, rfl⟩ | ⟨g, cap, cs, rfl, hb, hn, hm, hl, ht⟩
  · simp at hi
  have hin : i.toNat * sz + j < xs.length * sz := by
    have : i.toNat * sz + sz ≤ xs.length * sz := by rw [← Nat.succ_mul]; exact Nat.mul_le_mul_right _ hi
    omega
  have hcap : xs.length * sz ≤ cap * sz := Nat.mul_le_mul_right _ hn
  have hlt : i.toNat * sz + j < cs.length := by omega
  have hx' : ev e x = .pointer (some ⟨g, i.toNat * sz + j, none⟩) := by rw [hx]; simp [ea, adr]
  have hown : Own (w.setRow g (cs.set (i.toNat * sz + j) u).toArray).heap T sz enc (.slice (some ⟨g, 0, none⟩) xs.length cap) (xs.set i.toNat a) := by
    refine ⟨fun x _ => hz.len x, .inr ⟨g, cap, _, by simp, Blk.set hb, by simpa using hn, hm, by simpa using hl, ?_⟩⟩
    rw [flatMap_setF ha hj xs _ ho.size hx0, ← ht]
    simp [List.take_set]
  exact vL_skip (op := .store t x y) (d := none) (ops_store1 (P := P) (d := none) (t := t) (ty := ty) hx' hy hone hb (by omega)) (k _ hown ((Fr.refl (fun k => own (Value.slice (some ⟨g, 0, none⟩) xs.length cap) = some k) w).set g _ (.inl rfl)))
end
/-! ### two operations that may come up -/
def twoB (ops : List Oper) (listed : Array Bool) (i j : Nat) : Bool := decide (Region.ready .any ops.toArray listed = [i, j])
section
variable {P : Program} {n : Nat} {e : Env} {w : World} {Q : Post} {ops : List Oper} {S : World → Prop} {listed : Array Bool} {fuel : Nat}
theorem vA_step {op : Op} {d : Option Nat} {ty : TypeId} {p : String} {af : Array Edge} {j : Nat} (hi : ops[j]? = some ⟨d, op, ty, p, af, none⟩) (hok : okL n ops = true) {a : Act} (ha : Rep n a e)
    (h : ∀ K : Env → World → Prop, (∀ e w, vA P n ops S fuel (listed.setIfInBounds j true) e w Q → K e w) → vL P n ops [⟨d, op, ty, p, af, none⟩] e w (fun x e w => x = .normal ∧ K e w)) :
    wpOp P ops.toArray (lift n Q) j (fun a' w' => S w' ∧ wpAnyH P .any ops.toArray (lift n Q) S fuel (listed.setIfInBounds j true) a' w') a w := by
  have hd := okL_get hok hi
  have h1 := h (fun e w => vA P n ops S fuel (listed.setIfInBounds j true) e w Q) (fun _ _ h => h) (by simp [okL, hd]) a ha
  unfold wpOp
  have hi' : ops.toArray[j]? = some ⟨d, op, ty, p, af, none⟩ := by simpa using hi
  simp only [hi']
  unfold wpList at h1
  rw [if_pos (show Region.wanted _ _ = true from rfl)] at h1 ⊢
  rcases h1 with h1 | ⟨_, a', w', h2⟩
  · left
    unfold Oper.wp at h1 ⊢
    generalize (execOp a.eval ⟨d, op, ty, p, af, none⟩).run P w = r at h1 ⊢
    have fin : ∀ a' w', lift n (fun x e w => x = .normal ∧ vA P n ops S fuel (listed.setIfInBounds j true) e w Q) .normal a' w' → S w' ∧ wpAnyH P .any ops.toArray (lift n Q) S fuel (listed.setIfInBounds j true) a' w' := by
      intro a' w' ⟨e', he', _, hv⟩
      exact ⟨hv.1, hv.2 hok a' he'⟩
    cases r with
    | ok x w' =>
      cases x <;> simp only [Oper.upon, wpList] at h1 ⊢
      case value v => exact fin _ _ h1
      case skip => exact fin _ _ h1
      case defer dd => exact fin _ _ h1
      case enter f args =>
        refine Calls.mono h1 ?_
        intro x w'' hx
        cases x with
        | returned v => exact fin _ _ hx
        | panicked c => exact hx.elim
        | outgrown => obtain ⟨_, _, hx⟩ := hx; exact hx.elim
      case row r args => exact Rows.mono h1 (fun _ _ h => fin _ _ h)
    | halt x w' =>
      cases x <;> simp only [Oper.upon] at h1 ⊢
      case panic v => exact h1.elim
  · exact h2.elim
theorem vA_two {op op' : Op} {d d' : Option Nat} {ty ty' : TypeId} {p p' : String} {af af' : Array Edge} (i j : Nat) (hi : ops[i]? = some ⟨d, op, ty, p, af, none⟩) (hj : ops[j]? = some ⟨d', op', ty', p', af', none⟩) (hf : twoB ops listed i j = true) (hS : S w)
    (h1 : ∀ K : Env → World → Prop, (∀ e w, vA P n ops S fuel (listed.setIfInBounds i true) e w Q → K e w) → vL P n ops [⟨d, op, ty, p, af, none⟩] e w (fun x e w => x = .normal ∧ K e w))
    (h2 : ∀ K : Env → World → Prop, (∀ e w, vA P n ops S fuel (listed.setIfInBounds j true) e w Q → K e w) → vL P n ops [⟨d', op', ty', p', af', none⟩] e w (fun x e w => x = .normal ∧ K e w)) : vA P n ops S (fuel + 1) listed e w Q := by
  refine ⟨hS, fun hok a ha => ?_⟩
  simp only [twoB, decide_eq_true_eq] at hf
  refine wpAnyH_all hf (by simp) ?_
  intro k hk
  rcases List.mem_cons.1 hk with rfl | hk
  · exact vA_step hi hok ha h1
  · have : k = j := by simpa using hk
    subst this
    exact vA_step hj hok ha h2
end
section
variable {P : Program} {n : Nat} {e : Env} {w : World} {Q : Post} {ops : List Oper} {S : World → Prop} {listed : Array Bool} {fuel : Nat}
theorem vA_splitD {q : Prop} [Decidable q] (dj : Nat) (hy : e dj = .bool (decide q)) (h1 : q → vA P n ops S fuel listed (upd e dj (.bool true)) w Q) (h2 : ¬ q → vA P n ops S fuel listed (upd e dj (.bool false)) w Q) : vA P n ops S fuel listed e w Q := by
  by_cases hq : q
  · have := h1 hq; rwa [upd_self _ _ _ (by rw [hy]; simp [hq])] at this
  · have := h2 hq; rwa [upd_self _ _ _ (by rw [hy]; simp [hq])] at this
end
end Go.Eng
