/-
  The engine: assertions with footprints, joined by '*'; states that are reached from a first one ('At'). Generic in the program.
-/
import Derived.Test.YtbaidcnalkdhgaaGreatEm
import Derived.Test.YtbaidcnalkdhgaaGreatEp
set_option maxRecDepth 100000
namespace Go.Eng
open Go

/-- an assertion of a heap and of the blocks that it speaks of -/
def Asr : Type := Array Obj → (Nat → Prop) → Prop
theorem Asr.ext {A B : Asr} (h : ∀ x F, A x F ↔ B x F) : A = B := funext fun x => funext fun F => propext (h x F)
def Emp : Asr := fun _ F => F = No
instance instMulAsr : Mul Asr := ⟨fun A B h F => ∃ F1 F2 : Nat → Prop, A h F1 ∧ B h F2 ∧ (∀ k, F1 k → ¬ F2 k) ∧ F = fun k => F1 k ∨ F2 k⟩
theorem star_comm (A B : Asr) : A * B = B * A := Asr.ext fun h F => by
  constructor <;> (rintro ⟨F1, F2, a, b, d, rfl⟩; exact ⟨F2, F1, b, a, fun k h1 h2 => d k h2 h1, funext fun k => propext Or.comm⟩)
theorem star_assoc (A B C : Asr) : A * B * C = A * (B * C) := Asr.ext fun h F => by
  constructor
  · rintro ⟨_, F3, ⟨F1, F2, a, b, d, rfl⟩, c, d', rfl⟩
    exact ⟨F1, _, a, ⟨F2, F3, b, c, fun k h => d' k (.inr h), rfl⟩, fun k h1 h2 => h2.elim (d k h1) (d' k (.inl h1)), funext fun k => propext or_assoc⟩
  · rintro ⟨F1, _, a, ⟨F2, F3, b, c, d, rfl⟩, d', rfl⟩
    exact ⟨_, F3, ⟨F1, F2, a, b, fun k h1 h2 => d' k h1 (.inl h2), rfl⟩, c, fun k h h3 => h.elim (fun h1 => d' k h1 (.inr h3)) (fun h2 => d k h2 h3), funext fun k => propext or_assoc.symm⟩
theorem star_emp (A : Asr) : A * Emp = A := Asr.ext fun h F => by
  constructor
  · rintro ⟨F1, _, a, rfl, _, rfl⟩
    have : (fun k => F1 k ∨ No k) = F1 := funext fun k => propext ⟨fun h => h.elim id (fun h => h.elim), .inl⟩
    rw [this]; exact a
  · intro a
    exact ⟨F, No, a, rfl, fun _ _ h => h, funext fun k => propext ⟨.inl, fun h => h.elim id (fun h => h.elim)⟩⟩
theorem emp_star (A : Asr) : Emp * A = A := by rw [star_comm, star_emp]
instance instAssocAsr : Std.Associative (α := Asr) (· * ·) := ⟨star_assoc⟩
instance instCommAsr : Std.Commutative (α := Asr) (· * ·) := ⟨star_comm⟩
/-- p, and no block -/
def Pu (p : Prop) : Asr := fun _ F => p ∧ F = No
theorem pu_true {p : Prop} (h : p) : Pu p = Emp := Asr.ext fun _ _ => ⟨fun h => h.2, fun e => ⟨h, e⟩⟩
def Ex {α : Type} (f : α → Asr) : Asr := fun h F => ∃ x, f x h F
theorem ex_star {α : Type} (f : α → Asr) (B : Asr) : Ex f * B = Ex fun x => f x * B := Asr.ext fun h F => by
  constructor
  · rintro ⟨F1, F2, ⟨x, a⟩, b, d, e⟩
    exact ⟨x, F1, F2, a, b, d, e⟩
  · rintro ⟨x, F1, F2, a, b, d, e⟩
    exact ⟨F1, F2, ⟨x, a⟩, b, d, e⟩
/-- block b holds cs -/
def Pt (b : Nat) (cs : List Value) (T : TypeId) : Asr := fun h F => Blk h b cs T ∧ F = fun k => k = b
/-- the slice v, of its own block, holds xs -/
def Ow {α : Type} (T sz : Nat) (enc : α → List Value) (v : Value) (xs : List α) : Asr := fun h F => Own h T sz enc v xs ∧ v.oneCell' = true ∧ F = fun k => own v = some k
/-- an assertion speaks of its blocks alone -/
class Lcl (A : Asr) : Prop where
  lt : ∀ {h F}, A h F → ∀ k, F k → k < h.size
  st : ∀ {w w' : World} {F G : Nat → Prop}, A w.heap F → Fr G w w' → (∀ k, F k → ¬ G k) → A w'.heap F
instance instLclEmp : Lcl Emp := ⟨fun h k hk => by rw [h] at hk; exact hk.elim, fun h _ _ => h⟩
instance instLclPu (p : Prop) : Lcl (Pu p) := ⟨fun h k hk => by rw [h.2] at hk; exact hk.elim, fun h _ _ => h⟩
instance instLclStar (A B : Asr) [Lcl A] [Lcl B] : Lcl (A * B) := ⟨by
  rintro h F ⟨F1, F2, a, b, d, rfl⟩ k hk
  exact hk.elim (Lcl.lt a k) (Lcl.lt b k), by
  rintro w w' F G ⟨F1, F2, a, b, d, rfl⟩ hf hn
  exact ⟨F1, F2, Lcl.st a hf (fun k h => hn k (.inl h)), Lcl.st b hf (fun k h => hn k (.inr h)), d, rfl⟩⟩
instance instLclEx {α : Type} (f : α → Asr) [∀ x, Lcl (f x)] : Lcl (Ex f) := ⟨by
  rintro h F ⟨x, a⟩ k hk
  exact Lcl.lt a k hk, by
  rintro w w' F G ⟨x, a⟩ hf hn
  exact ⟨x, Lcl.st a hf hn⟩⟩
instance instLclPt (b : Nat) (cs : List Value) (T : TypeId) : Lcl (Pt b cs T) := ⟨by
  rintro h F ⟨a, rfl⟩ k rfl
  exact a.lt, by
  rintro w w' F G ⟨a, rfl⟩ hf hn
  exact ⟨a.fr hf (hn b rfl), rfl⟩⟩
instance instLclOw {α : Type} (T sz : Nat) (enc : α → List Value) (v : Value) (xs : List α) : Lcl (Ow T sz enc v xs) := ⟨by
  rintro h F ⟨a, _, rfl⟩ k hk
  exact a.lt k hk, by
  rintro w w' F G ⟨a, o, rfl⟩ hf hn
  exact ⟨a.fr hf (fun b hb => hn b hb), o, rfl⟩⟩
/-- A holds in w, which was reached from w0 by changes to the blocks F0 and to new ones alone -/
structure At (A : Asr) (w0 : World) (F0 : Nat → Prop) (w : World) : Prop where
  out : ∃ F, A w.heap F ∧ Fr F0 w0 w ∧ ∀ k, F k → F0 k ∨ w0.heap.size ≤ k
section
variable {A B C R : Asr} {w0 w w' : World} {F0 F : Nat → Prop}
theorem At.init (h : A w.heap F) : At A w F w := ⟨F, h, Fr.refl _ _, fun _ h => .inl h⟩
theorem At.fr (S : At A w0 F0 w) : Fr F0 w0 w := by obtain ⟨F, _, h, _⟩ := S.out; exact h
theorem At.ac (h : A = B) (S : At A w0 F0 w) : At B w0 F0 w := h ▸ S
theorem At.swap (S : At (A * B) w0 F0 w) : At (B * A) w0 F0 w := S.ac (star_comm A B)
theorem At.of_emp (hf : Fr F0 w0 w) : At Emp w0 F0 w := ⟨No, rfl, hf, fun _ h => h.elim⟩
theorem at_step {F1 F2 : Nat → Prop} [Lcl R] (r : R w.heap F2) (d : ∀ k, F1 k → ¬ F2 k) (hf : Fr F0 w0 w) (hn : ∀ k, F1 k ∨ F2 k → F0 k ∨ w0.heap.size ≤ k) (S : At B w F1 w') : At (B * R) w0 F0 w' := by
  obtain ⟨F', b, hf', hn'⟩ := S.out
  have hr : R w'.heap F2 := Lcl.st r hf' (fun k h2 h1 => d k h1 h2)
  refine ⟨_, ⟨F', F2, b, hr, fun k h1 h2 => ?_, rfl⟩, hf.trans' hf' (fun k hk => hn k (.inl hk)), fun k hk => ?_⟩
  · rcases hn' k h1 with h3 | h3
    · exact d k h3 h2
    · have := Lcl.lt r k h2; omega
  · rcases hk with h1 | h2
    · rcases hn' k h1 with h3 | h3
      · exact hn k (.inl h3)
      · exact .inr (Nat.le_trans hf.size h3)
    · exact hn k (.inr h2)
/-- a call with a contract of its own, in any surroundings -/
theorem At.call [Lcl R] (S : At (A * R) w0 F0 w) (h : ∀ F, A w.heap F → At B w F w') : At (B * R) w0 F0 w' := by
  obtain ⟨_, ⟨F1, F2, a, r, d, rfl⟩, hf, hn⟩ := S.out
  exact at_step r d hf hn (h F1 a)
theorem At.frN [Lcl A] (S : At A w0 F0 w) (h : Fr No w w') : At A w0 F0 w' := by
  obtain ⟨F, a, hf, hn⟩ := S.out
  exact ⟨F, Lcl.st a h (fun _ _ h => h), hf.trans' h (fun _ h => h.elim), hn⟩
theorem At.drew (S : At A w0 F0 w) : At A w0 F0 w.drew := by
  obtain ⟨F, a, hf, hn⟩ := S.out
  exact ⟨F, a, hf.drew, hn⟩
theorem At.weak (S : At A w0 F0 w) (h : ∀ x F, A x F → B x F) : At B w0 F0 w := by
  obtain ⟨F, a, hf, hn⟩ := S.out
  exact ⟨F, h _ _ a, hf, hn⟩
theorem At.pure {p : Prop} (S : At (Pu p * A) w0 F0 w) : p ∧ At A w0 F0 w := by
  obtain ⟨_, ⟨F1, F2, ⟨hp, rfl⟩, r, d, rfl⟩, hf, hn⟩ := S.out
  refine ⟨hp, F2, r, hf, fun k hk => hn k (.inr hk)⟩
theorem At.add {p : Prop} (S : At A w0 F0 w) (hp : p) : At (Pu p * A) w0 F0 w := by rw [pu_true hp, emp_star]; exact S
theorem At.ex {α : Type} {f : α → Asr} (S : At (Ex f * R) w0 F0 w) : ∃ x, At (f x * R) w0 F0 w := by
  rw [ex_star] at S
  obtain ⟨F, ⟨x, a⟩, hf, hn⟩ := S.out
  exact ⟨x, F, a, hf, hn⟩
theorem At.ex1 {α : Type} {f : α → Asr} (S : At (Ex f) w0 F0 w) : ∃ x, At (f x) w0 F0 w := by
  obtain ⟨F, ⟨x, a⟩, hf, hn⟩ := S.out
  exact ⟨x, F, a, hf, hn⟩
theorem At.intro {α : Type} {f : α → Asr} (x : α) (S : At (f x * R) w0 F0 w) : At (Ex f * R) w0 F0 w := by
  rw [ex_star]
  obtain ⟨F, a, hf, hn⟩ := S.out
  exact ⟨F, ⟨x, a⟩, hf, hn⟩
theorem At.drop [Lcl A] (S : At (A * R) w0 F0 w) : At R w0 F0 w := by
  obtain ⟨_, ⟨F1, F2, a, r, d, rfl⟩, hf, hn⟩ := S.out
  exact ⟨F2, r, hf, fun k hk => hn k (.inr hk)⟩
theorem At.get (S : At (A * R) w0 F0 w) : ∃ F, A w.heap F := by
  obtain ⟨_, ⟨F1, F2, a, r, d, rfl⟩, hf, hn⟩ := S.out
  exact ⟨F1, a⟩
theorem At.blk {b : Nat} {cs : List Value} {T : TypeId} (S : At (Pt b cs T * R) w0 F0 w) : Blk w.heap b cs T := by
  obtain ⟨_, ⟨F1, F2, ⟨a, rfl⟩, r, d, rfl⟩, hf, hn⟩ := S.out
  exact a
theorem At.own {α : Type} {T sz : Nat} {enc : α → List Value} {v : Value} {xs : List α} (S : At (Ow T sz enc v xs * R) w0 F0 w) : Own w.heap T sz enc v xs ∧ v.oneCell' = true := by
  obtain ⟨_, ⟨F1, F2, ⟨a, o, rfl⟩, r, d, rfl⟩, hf, hn⟩ := S.out
  exact ⟨a, o⟩
theorem At.set {b : Nat} {cs cs' : List Value} {T : TypeId} [Lcl R] (S : At (Pt b cs T * R) w0 F0 w) : At (Pt b cs' T * R) w0 F0 (w.setRow b cs'.toArray) :=
  S.call (fun F a => by
    obtain ⟨a, rfl⟩ := a
    exact ⟨_, ⟨Blk.set a, rfl⟩, (Fr.refl _ w).set _ _ (.inl rfl), fun k hk => .inl hk⟩)
theorem At.put {b : Nat} {cs cs' : List Value} {T : TypeId} [Lcl R] (S : At (Pt b cs T * R) w0 F0 w) (hf : Fr (fun k => k = b) w w') (hb : Blk w'.heap b cs' T) : At (Pt b cs' T * R) w0 F0 w' :=
  S.call (fun F a => by
    obtain ⟨a, rfl⟩ := a
    exact ⟨_, ⟨hb, rfl⟩, hf, fun k hk => .inl hk⟩)
theorem At.owTo {α β : Type} {T sz : Nat} {enc : α → List Value} {v v' : Value} {xs : List α} {T' sz' : Nat} {enc' : β → List Value} {ys : List β} [Lcl R] (S : At (Ow T sz enc v xs * R) w0 F0 w) (hf : Fr (fun k => Eng.own v = some k) w w') (ho : Own w'.heap T' sz' enc' v' ys) (h1 : v'.oneCell' = true) (hl : ∀ k, Eng.own v' = some k → Eng.own v = some k ∨ w.heap.size ≤ k) : At (Ow T' sz' enc' v' ys * R) w0 F0 w' :=
  S.call (fun F a => by
    obtain ⟨a, o, rfl⟩ := a
    exact ⟨_, ⟨ho, h1, rfl⟩, hf, fun k hk => hl k hk⟩)
/-- what is new is one's own -/
theorem At.gain [Lcl R] (S : At R w0 F0 w) (hf : Fr No w w') (h : ∃ F, A w'.heap F ∧ ∀ k, F k → w.heap.size ≤ k) : At (A * R) w0 F0 w' := by
  have S' : At (Emp * R) w0 F0 w := S.ac (emp_star R).symm
  refine S'.call (fun F a => ?_)
  obtain rfl : F = No := a
  obtain ⟨F', a', hn⟩ := h
  exact ⟨F', a', hf, fun k hk => .inr (hn k hk)⟩
theorem At.alloc {cs : List Value} {T : TypeId} [Lcl R] (S : At R w0 F0 w) : At (Pt w.heap.size cs T * R) w0 F0 (w.alloc (.cells cs.toArray T)) :=
  S.gain ((Fr.refl No w).alloc _) ⟨_, ⟨Blk.new, rfl⟩, fun k hk => by rw [hk]; exact Nat.le_refl _⟩
theorem At.new {b : Nat} {cs : List Value} {T : TypeId} [Lcl R] (S : At R w0 F0 w) (hf : Fr No w w') (hb : Blk w'.heap b cs T) (hl : w.heap.size ≤ b) : At (Pt b cs T * R) w0 F0 w' :=
  S.gain hf ⟨_, ⟨hb, rfl⟩, fun k hk => by rw [hk]; exact hl⟩
theorem At.nil {α : Type} (T sz : Nat) (enc : α → List Value) (S : At R w0 F0 w) : At (Ow T sz enc (.slice none 0 0) [] * R) w0 F0 w := by
  have : Ow T sz enc (.slice none 0 0) ([] : List α) = Emp := Asr.ext fun h F => ⟨fun x => x.2.2.trans (funext fun k => propext ⟨fun h => (by cases h), fun h => h.elim⟩), fun x => ⟨Own.nil _ _ _ _, rfl, Eq.trans (show F = No from x) (funext fun k => propext ⟨fun h => h.elim, fun h => (by cases h)⟩)⟩⟩
  rw [this, emp_star]; exact S
/-- two blocks of one state differ -/
theorem At.ne {b b' : Nat} {cs cs' : List Value} {T T' : TypeId} (S : At (Pt b cs T * (Pt b' cs' T' * R)) w0 F0 w) : b ≠ b' := by
  obtain ⟨_, ⟨F1, F2, ⟨a, rfl⟩, ⟨F3, F4, ⟨a', rfl⟩, r, d', rfl⟩, d, rfl⟩, hf, hn⟩ := S.out
  intro e
  exact d b rfl (.inl e)
end
/-- a list of assertions -/
def Big : List Asr → Asr
  | [] => Emp
  | a :: l => a * Big l
theorem Big.loc : ∀ {l : List Asr}, (∀ a ∈ l, Lcl a) → Lcl (Big l)
  | [], _ => instLclEmp
  | a :: l, h => by
    haveI := h a List.mem_cons_self
    haveI := Big.loc (l := l) (fun b hb => h b (List.mem_cons_of_mem _ hb))
    exact instLclStar a (Big l)
instance instLclBigMap {α : Type} (f : α → Asr) [h : ∀ x, Lcl (f x)] (l : List α) : Lcl (Big (l.map f)) := Big.loc (fun a ha => by
  obtain ⟨x, _, rfl⟩ := List.mem_map.1 ha
  exact h x)
theorem big_append : ∀ (l l' : List Asr), Big (l ++ l') = Big l * Big l'
  | [], l' => (emp_star _).symm
  | a :: l, l' => by show a * Big (l ++ l') = a * Big l * Big l'; rw [big_append l l', star_assoc]
theorem big_pick : ∀ {l : List Asr} {i : Nat} {a : Asr}, l[i]? = some a → Big l = a * Big (l.eraseIdx i)
  | [], _, _, h => by simp at h
  | b :: l, 0, a, h => by simp at h; subst h; rfl
  | b :: l, i + 1, a, h => by
    have h' : l[i]? = some a := by simpa using h
    show b * Big l = a * (b * Big (l.eraseIdx i))
    rw [big_pick h', ← star_assoc, star_comm b a, star_assoc]
theorem big_put {l : List Asr} {i : Nat} (a : Asr) (h : i < l.length) : Big (l.set i a) = a * Big (l.eraseIdx i) := by
  have h1 : (l.set i a)[i]? = some a := by simp [h]
  rw [big_pick h1, List.eraseIdx_set_eq]
theorem big_map_pick {α : Type} (f : α → Asr) {l : List α} {i : Nat} {x : α} (h : l[i]? = some x) : Big (l.map f) = f x * Big ((l.eraseIdx i).map f) := by
  have h1 : (l.map f)[i]? = some (f x) := by simp [h]
  rw [big_pick h1, ← map_eraseIdx']
theorem big_map_put {α : Type} (f : α → Asr) {l : List α} {i : Nat} (x : α) (h : i < l.length) : Big ((l.set i x).map f) = f x * Big ((l.eraseIdx i).map f) := by
  rw [List.map_set, big_put _ (by simpa using h), ← map_eraseIdx']
theorem big_map_snoc {α : Type} (f : α → Asr) (l : List α) (x : α) : Big ((l ++ [x]).map f) = f x * Big (l.map f) := by
  rw [List.map_append, big_append, star_comm]
  show f x * Emp * _ = _
  rw [star_emp]
/-- boxes: blocks with what they hold -/
def Bxl (l : List (Nat × List Value × TypeId)) : Asr := Big (l.map fun x => Pt x.1 x.2.1 x.2.2)
instance instLclBxl (l : List (Nat × List Value × TypeId)) : Lcl (Bxl l) := instLclBigMap _ l
theorem bxl_cons (b : Nat) (cs : List Value) (T : TypeId) (l : List (Nat × List Value × TypeId)) : Bxl ((b, cs, T) :: l) = Pt b cs T * Bxl l := rfl
theorem At.bx {R : Asr} {w0 w : World} {F0 : Nat → Prop} {l : List (Nat × List Value × TypeId)} {b : Nat} {cs : List Value} {T : TypeId} (S : At (Bxl l * R) w0 F0 w) (h : (b, cs, T) ∈ l) : Blk w.heap b cs T := by
  obtain ⟨i, hi, e⟩ := List.getElem_of_mem h
  have S' : At (Pt b cs T * (Big ((l.eraseIdx i).map fun x => Pt x.1 x.2.1 x.2.2) * R)) w0 F0 w := S.ac (by
    unfold Bxl
    rw [big_map_pick (fun x : Nat × List Value × TypeId => Pt x.1 x.2.1 x.2.2) (l := l) (i := i) (x := (b, cs, T)) (by rw [List.getElem?_eq_getElem hi, e]), star_assoc])
  exact S'.blk
/-- a contract: from A to B -/
def Sp (P : Program) (g : FuncId) (args : Array Value) (A : Asr) (B : Value → Asr) : Prop := ∀ w F, A w.heap F → Rets P g args w (fun u w' => At (B u) w F w')
theorem Sp.at {P : Program} {g : FuncId} {args : Array Value} {A R : Asr} {B : Value → Asr} {w0 w : World} {F0 : Nat → Prop} [Lcl R] (h : Sp P g args A B) (S : At (A * R) w0 F0 w) : Rets P g args w (fun u w' => At (B u * R) w0 F0 w') := by
  obtain ⟨_, ⟨F1, F2, a, r, d, rfl⟩, hf, hn⟩ := S.out
  exact (h w F1 a).mono fun u w' hB => at_step r d hf hn hB
theorem Sp.at1 {P : Program} {g : FuncId} {args : Array Value} {A : Asr} {B : Value → Asr} {w0 w : World} {F0 : Nat → Prop} (h : Sp P g args A B) (S : At A w0 F0 w) : Rets P g args w (fun u w' => At (B u) w0 F0 w') := by
  obtain ⟨F, a, hf, hn⟩ := S.out
  refine (h w F a).mono fun u w' hB => ?_
  obtain ⟨F', b, hf', hn'⟩ := hB.out
  refine ⟨F', b, hf.trans' hf' hn, fun k hk => ?_⟩
  rcases hn' k hk with h3 | h3
  · exact hn k h3
  · exact .inr (Nat.le_trans hf.size h3)
/-- the least number of a kind -/
theorem leastN_ex {p : Nat → Prop} (h : ∃ n, p n) : ∃ n, p n ∧ ∀ m, p m → n ≤ m := by
  obtain ⟨n, hn⟩ := h
  induction n using Nat.strongRecOn with
  | ind n ih =>
    by_cases hx : ∃ m, m < n ∧ p m
    · obtain ⟨m, hm, hp⟩ := hx
      exact ih m hm hp
    · exact ⟨n, hn, fun m hm => Nat.le_of_not_lt fun h => hx ⟨m, h, hm⟩⟩
noncomputable def leastN (p : Nat → Prop) : Nat := open Classical in if h : ∃ n, p n then Classical.choose (leastN_ex h) else 0
theorem leastN_spec {p : Nat → Prop} (h : ∃ n, p n) : p (leastN p) := by
  unfold leastN
  rw [dif_pos h]
  exact (Classical.choose_spec (leastN_ex h)).1
theorem leastN_le {p : Nat → Prop} {n : Nat} (h : p n) : leastN p ≤ n := by
  unfold leastN
  rw [dif_pos ⟨n, h⟩]
  exact (Classical.choose_spec (leastN_ex ⟨n, h⟩)).2 n h
end Go.Eng
