/-
  The engine, first text: frames as functions of slots; one lemma for each form of code; regions in the text's order. Generic in the program.
-/
import Derived.WalkKit
import Derived.OrdersHeld
import Derived.Scope
import Derived.Deep.Draws
namespace Go.Eng
open Go

abbrev Env := Nat → Value
def upd (e : Env) (d : Nat) (v : Value) : Env := fun i => bif Nat.beq i d then v else e i
def updO (e : Env) : Option Nat → Value → Env
  | none, _ => e
  | some d, v => upd e d v
def ev (e : Env) : Operand → Value
  | .tmp t => e t
  | .const v => v
  | .global g => .pointer (some ⟨g, 0, none⟩)
  | .func f => .func (.func f) #[] #[]

theorem upd_same (e : Env) (d : Nat) (v : Value) : upd e d v d = v := by simp [upd]
theorem upd_ne (e : Env) {d i : Nat} (v : Value) (h : i ≠ d) : upd e d v i = e i := by
  have : Nat.beq i d = false := by
    cases hb : Nat.beq i d with
    | false => rfl
    | true => exact absurd (Nat.eq_of_beq_eq_true hb) h
  simp [upd, this]
theorem upd_self (e : Env) (d : Nat) (v : Value) (h : e d = v) : upd e d v = e := by
  funext i
  by_cases hi : i = d
  · subst hi; rw [upd_same, h]
  · rw [upd_ne _ _ hi]

structure Rep (n : Nat) (a : Act) (e : Env) : Prop where
  size : a.tmps.size = n
  get : ∀ t, a.tmps.getD t undef = e t
  dfs : a.defers = []

theorem Rep.eval {n : Nat} {a : Act} {e : Env} (h : Rep n a e) : a.eval = ev e := by
  funext x
  cases x with
  | tmp t => exact h.get t
  | const v => rfl
  | global g => rfl
  | func f => rfl

def okD (n : Nat) : Option Nat → Bool
  | none => true
  | some d => Nat.blt d n
def okL (n : Nat) : List Oper → Bool
  | [] => true
  | o :: l => okD n o.dst && okL n l
def okC (n : Nat) : Code → Bool
  | .region _ ops _ => okL n ops.toList
  | .seq a b => okC n a && okC n b
  | .cond _ a b => okC n a && okC n b
  | .block _ c => okC n c
  | .loop c => okC n c
  | .scope c => okC n c
  | .rangeFunc .. => false
  | _ => true

theorem Rep.put {n : Nat} {a : Act} {e : Env} (h : Rep n a e) (o : Option Nat) (v : Value) (hd : okD n o = true) : Rep n (a.put o v) (updO e o v) := by
  cases o with
  | none => exact h
  | some d =>
    have hd' : d < n := by simpa [okD] using hd
    refine ⟨by simp [Act.put, h.size], fun t => ?_, h.dfs⟩
    show (a.tmps.setIfInBounds d v).getD t undef = upd e d v t
    by_cases ht : t = d
    · subst ht
      rw [upd_same]
      have : t < a.tmps.size := by rw [h.size]; exact hd'
      simp [this]
    · rw [upd_ne _ _ ht, ← h.get t]
      have hne : d ≠ t := fun h => ht h.symm
      simp [Array.getElem?_setIfInBounds_ne hne]

abbrev Post := Exit → Env → World → Prop
def lift (n : Nat) (Q : Post) : Exit → Act → World → Prop
  | .panic _, _, _ => False
  | .outgrown, _, _ => False
  | x, a, w => ∃ e, Rep n a e ∧ Q x e w

def vC (P : Program) (n : Nat) (c : Code) (e : Env) (w : World) (Q : Post) : Prop :=
  okC n c = true → ∀ a, Rep n a e → c.wp P (lift n Q) a w
def vL (P : Program) (n : Nat) (ops : List Oper) (l : List Oper) (e : Env) (w : World) (Q : Post) : Prop :=
  okL n l = true → ∀ a, Rep n a e → wpList P ops.toArray (lift n Q) l a w

/-- what a call of a function comes to: it returns, with a value and a world that meet R -/
def Rets (P : Program) (f : FuncId) (args : Array Value) (w : World) (R : Value → World → Prop) : Prop :=
  Calls P f args w fun x w' => ∃ v, x = .returned v ∧ R v w'
theorem Rets.mono {P : Program} {f : FuncId} {args : Array Value} {w : World} {R R' : Value → World → Prop} (h : Rets P f args w R) (hr : ∀ v w', R v w' → R' v w') : Rets P f args w R' :=
  Calls.mono h fun _ _ ⟨v, he, h⟩ => ⟨v, he, hr _ _ h⟩

section
variable {P : Program} {n : Nat} {e : Env} {w : World} {Q : Post}

theorem lift_mono {Q' : Post} (h : ∀ x e w, Q x e w → Q' x e w) : ∀ x a w, lift n Q x a w → lift n Q' x a w := by
  intro x a w hx
  cases x with
  | panic _ => exact hx
  | outgrown => exact hx
  | normal => obtain ⟨e, he, hq⟩ := hx; exact ⟨e, he, h _ _ _ hq⟩
  | exit id => obtain ⟨e, he, hq⟩ := hx; exact ⟨e, he, h _ _ _ hq⟩
  | goto l => obtain ⟨e, he, hq⟩ := hx; exact ⟨e, he, h _ _ _ hq⟩
  | ret => obtain ⟨e, he, hq⟩ := hx; exact ⟨e, he, h _ _ _ hq⟩

theorem vC_mono {c : Code} {Q' : Post} (h : vC P n c e w Q) (hq : ∀ x e w, Q x e w → Q' x e w) : vC P n c e w Q' :=
  fun hok a ha => wp_mono (h hok a ha) (lift_mono hq)

theorem vC_skip (h : Q .normal e w) : vC P n .skip e w Q := fun _ _ ha => wp_skip ⟨e, ha, h⟩
theorem vC_exit {id : Nat} (h : Q (.exit id) e w) : vC P n (.exit id) e w Q := fun _ _ ha => wp_exit ⟨e, ha, h⟩
theorem vC_ret (h : Q .ret e w) : vC P n .ret e w Q := fun _ _ ha => wp_ret ⟨e, ha, h⟩

/-- what follows a piece of code in a row -/
def seqP (next : Env → World → Prop) (Q : Post) : Post
  | .normal, e, w => next e w
  | x, e, w => Q x e w
theorem seqP_normal {next : Env → World → Prop} (h : next e w) : seqP next Q .normal e w := h
theorem seqP_exit {next : Env → World → Prop} {id : Nat} (h : Q (.exit id) e w) : seqP next Q (.exit id) e w := h
theorem seqP_ret {next : Env → World → Prop} (h : Q .ret e w) : seqP next Q .ret e w := h

theorem lift_seq {c : Code} {next : Env → World → Prop} (hok : okC n c = true) (hn : ∀ e w, next e w → vC P n c e w Q) :
    ∀ x a w, lift n (seqP next Q) x a w → Exit.then (c.wp P (lift n Q)) (lift n Q) x a w := by
  intro x a w h
  cases x with
  | panic _ => exact h
  | outgrown => exact h
  | normal => obtain ⟨e, he, hq⟩ := h; exact hn e w hq hok a he
  | exit id => exact h
  | goto l => exact h
  | ret => exact h

theorem vC_seq {x y : Code} (h : vC P n x e w (seqP (fun e w => vC P n y e w Q) Q)) : vC P n (.seq x y) e w Q := by
  intro hok a ha
  simp only [okC, Bool.and_eq_true] at hok
  exact wp_seq (wp_mono (h hok.1 a ha) (lift_seq hok.2 (fun _ _ h => h)))
theorem vC_cond {c : Operand} {x y : Code} {t : Bool} (hc : ev e c = .bool t) (h1 : t = true → vC P n x e w Q) (h2 : t = false → vC P n y e w Q) : vC P n (.cond c x y) e w Q := by
  intro hok a ha
  simp only [okC, Bool.and_eq_true] at hok
  exact wp_cond_split (t := t) (by rw [ha.eval]; exact hc) (fun ht => h1 ht hok.1 a ha) (fun ht => h2 ht hok.2 a ha)
theorem vC_cond_true {c : Operand} {x y : Code} (hc : ev e c = .bool true) (h : vC P n x e w Q) : vC P n (.cond c x y) e w Q :=
  vC_cond hc (fun _ => h) (fun h => by cases h)
theorem vC_cond_false {c : Operand} {x y : Code} (hc : ev e c = .bool false) (h : vC P n y e w Q) : vC P n (.cond c x y) e w Q :=
  vC_cond hc (fun h => by cases h) (fun _ => h)
theorem vC_cond_dec {p : Prop} [Decidable p] {c : Operand} {x y : Code} (hc : ev e c = .bool (decide p)) (h1 : p → vC P n x e w Q) (h2 : ¬ p → vC P n y e w Q) : vC P n (.cond c x y) e w Q :=
  vC_cond hc (fun h => h1 (of_decide_eq_true h)) (fun h => h2 (of_decide_eq_false h))
def blockP (id : Nat) (Q : Post) : Post
  | .exit id', e, w => if id' = id then Q .normal e w else Q (.exit id') e w
  | x, e, w => Q x e w
theorem blockP_normal {id : Nat} (h : Q .normal e w) : blockP id Q .normal e w := h
theorem blockP_ret {id : Nat} (h : Q .ret e w) : blockP id Q .ret e w := h
theorem blockP_exit {id : Nat} (h : Q .normal e w) : blockP id Q (.exit id) e w := by simpa [blockP] using h
theorem blockP_pass {id id' : Nat} (hne : Nat.beq id' id = false) (h : Q (.exit id') e w) : blockP id Q (.exit id') e w := by
  have : id' ≠ id := Nat.ne_of_beq_eq_false hne
  simpa [blockP, this] using h

theorem vC_block {id : Nat} {c : Code} (h : vC P n c e w (blockP id Q)) : vC P n (.block id c) e w Q := by
  intro hok a ha
  refine wp_block (wp_mono (h hok a ha) ?_)
  intro x a w hx
  cases x with
  | panic _ => exact hx
  | outgrown => exact hx
  | normal => exact hx
  | goto l => exact hx
  | ret => exact hx
  | exit id' =>
    obtain ⟨e, he, hq⟩ := hx
    by_cases hid : id' = id
    · simp only [blockP, hid, if_true] at hq
      simp only [Exit.inBlock, hid, if_true]
      exact ⟨e, he, hq⟩
    · simp only [blockP, hid, if_false] at hq
      simp only [Exit.inBlock, hid, if_false]
      exact ⟨e, he, hq⟩

/-! ### loops -/
def writesL : List Oper → List Nat
  | [] => []
  | o :: l => match o.dst with | some d => d :: writesL l | none => writesL l
def loopP (I : Env → World → Prop) (Q : Post) : Post
  | .normal, e, w => I e w
  | x, e, w => Q x e w
theorem loopP_normal {I : Env → World → Prop} (h : I e w) : loopP I Q .normal e w := h
theorem loopP_exit {I : Env → World → Prop} {id : Nat} (h : Q (.exit id) e w) : loopP I Q (.exit id) e w := h
theorem loopP_ret {I : Env → World → Prop} (h : Q .ret e w) : loopP I Q .ret e w := h

/-- the loop, with a condition on frame and world, and a measure -/
theorem vC_loop {c : Code} (I : Env → World → Prop) (μ : Env → World → Nat) (h0 : I e w)
    (round : ∀ e w, I e w → vC P n c e w (loopP (fun e' w' => I e' w' ∧ μ e' w' < μ e w) Q)) : vC P n (.loop c) e w Q := by
  intro hok a ha
  refine wp_loop (fun a w => ∃ e, Rep n a e ∧ I e w) (fun a w => μ (fun t => a.tmps.getD t undef) w) ⟨e, ha, h0⟩ ?_
  intro a w ⟨e, he, hI⟩
  refine wp_mono (round e w hI hok a he) ?_
  intro x a' w' hx
  have hfun : ∀ {a : Act} {e : Env}, Rep n a e → (fun t => a.tmps.getD t undef) = e := fun h => funext h.get
  cases x with
  | normal =>
    obtain ⟨e', he', hI', hlt⟩ := hx
    exact ⟨⟨e', he', hI'⟩, by rw [hfun he', hfun he]; exact hlt⟩
  | panic _ => exact hx
  | outgrown => exact hx
  | goto l => exact hx
  | ret => exact hx
  | exit id => exact hx
end

/-! ### entry and results -/
def env0 (args : List Value) : Env := fun i => args.getD i undef

/-- the results out of a frame: temporaries, or variables in memory -/
def ResE (P : Program) (rs : List ResultVar) (e : Env) (w : World) (vs : List Value) : Prop :=
  match rs, vs with
  | [], [] => True
  | .tmp t :: rs, v :: vs => e t = v ∧ ResE P rs e w vs
  | .cell a t :: rs, v :: vs => (∃ p, e a = .pointer (some p) ∧ (loadVar t p).run P w = .ok v w) ∧ ResE P rs e w vs
  | _, _ => False
def one (vs : List Value) : Value := match vs with | [v] => v | _ => .tuple vs.toArray

def retP (P : Program) (rs : List ResultVar) (R : Value → World → Prop) : Post
  | .normal, e, w | .ret, e, w => ∃ vs, ResE P rs e w vs ∧ R (one vs) w
  | _, _, _ => False

theorem mapM_res {P : Program} {n : Nat} {a : Act} {e : Env} {w : World} (ha : Rep n a e) : ∀ (rs : List ResultVar) (vs : List Value), ResE P rs e w vs →
    (rs.mapM (fun (r : ResultVar) => match r with
      | .tmp t => (pure (a.tmps.getD t undef) : Sem Value)
      | .cell b t => do loadVar t (← asAddr (a.tmps.getD b undef)))).run P w = .ok vs w := by
  intro rs
  induction rs with
  | nil =>
    intro vs h
    cases vs with
    | nil => simp
    | cons v vs => exact h.elim
  | cons r rs ih =>
    intro vs h
    cases vs with
    | nil => cases r <;> exact h.elim
    | cons v vs =>
      cases r with
      | tmp t =>
        obtain ⟨h1, h2⟩ := h
        have hi := ih vs h2
        simp only [List.mapM_cons, Sem.run_bind, Sem.run_pure, Result.andThen_ok, hi, ha.get t, h1]
      | cell b t =>
        obtain ⟨⟨p, hp, hl⟩, h2⟩ := h
        have hi := ih vs h2
        have hg : asAddr (a.tmps.getD b undef) = pure p := by rw [ha.get b, hp]; rfl
        simp only [List.mapM_cons, Sem.run_bind, Sem.run_pure, Result.andThen_ok, hi, hg, hl]

theorem results_of {P : Program} {n : Nat} {a : Act} {e : Env} {w : World} {fn : Func} {vs : List Value} (ha : Rep n a e) (h : ResE P fn.results.toList e w vs) :
    (results fn a.tmps).run P w = .ok (one vs) w := by
  have hm := mapM_res ha _ _ h
  unfold results
  have key : (fn.results.mapM (fun (r : ResultVar) => match r with
      | .tmp t => (pure (a.tmps.getD t undef) : Sem Value)
      | .cell b t => do loadVar t (← asAddr (a.tmps.getD b undef)))) = List.toArray <$> (fn.results.toList.mapM (fun (r : ResultVar) => match r with
      | .tmp t => (pure (a.tmps.getD t undef) : Sem Value)
      | .cell b t => do loadVar t (← asAddr (a.tmps.getD b undef)))) := Array.mapM_eq_mapM_toList ..
  simp only [Sem.run_bind]
  have e1 : Sem.run P (fn.results.mapM (fun (r : ResultVar) => match r with
      | .tmp t => (pure (a.tmps.getD t undef) : Sem Value)
      | .cell b t => do loadVar t (← asAddr (a.tmps.getD b undef)))) w = .ok vs.toArray w := by
    rw [key, Sem.run_map, hm]; rfl
  refine Eq.trans (congrArg (fun r => Result.andThen r _) e1) ?_
  simp only [Result.andThen_ok, Sem.run_pure]
  congr 1
  cases vs with
  | nil => rfl
  | cons v vs =>
    cases vs with
    | nil => rfl
    | cons u vs => simp [one]

theorem rep0 (args : Array Value) (k : Nat) : Rep (args.size + k) { tmps := args ++ Array.replicate k undef, defers := [] } (env0 args.toList) := by
  refine ⟨by simp, fun t => ?_, rfl⟩
  show (args ++ Array.replicate k undef).getD t undef = args.toList.getD t undef
  simp only [Array.getD_eq_getD_getElem?, List.getD_eq_getElem?_getD]
  rw [Array.getElem?_append]
  split
  · simp
  · rename_i h
    have : args.toList[t]? = none := by simp; omega
    rw [this]
    rw [Array.getElem?_replicate]
    split <;> rfl

theorem rets_of {P : Program} {f : FuncId} {fn : Func} {c : Code} {args : Array Value} {w : World} {R : Value → World → Prop} {n : Nat} {rs : List ResultVar}
    (hf : P.funcs[f]? = some fn) (hb : fn.body = some c) (hn : fn.ntmps = n) (hrs : fn.results.toList = rs) (hsz : Nat.ble args.size n = true) (hok : okC n c = true)
    (h : vC P n c (env0 args.toList) w (retP P rs R)) : Rets P f args w R := by
  have hsz' : args.size ≤ n := Nat.le_of_ble_eq_true hsz
  refine calls_of_wp hf hb ?_
  have hr := rep0 args (n - args.size)
  rw [Nat.add_sub_cancel' hsz'] at hr
  rw [hn]
  refine wp_mono (h hok _ hr) ?_
  intro x a w hx
  subst hrs
  cases x with
  | panic _ => exact hx.elim
  | outgrown => exact hx.elim
  | exit id => obtain ⟨e, _, hq⟩ := hx; exact hq.elim
  | goto l => obtain ⟨e, _, hq⟩ := hx; exact hq.elim
  | normal =>
    obtain ⟨e, he, vs, hv, hR⟩ := hx
    exact ⟨he.dfs, one vs, results_of he hv, one vs, rfl, hR⟩
  | ret =>
    obtain ⟨e, he, vs, hv, hR⟩ := hx
    exact ⟨he.dfs, one vs, results_of he hv, one vs, rfl, hR⟩

section
variable {P : Program} {e : Env} {w : World} {R : Value → World → Prop}
theorem ret0 (h : R (.tuple #[]) w) : retP P [] R .ret e w := ⟨[], trivial, h⟩
theorem ret0n (h : R (.tuple #[]) w) : retP P [] R .normal e w := ⟨[], trivial, h⟩
theorem ret1 {t : Nat} {v : Value} (h1 : e t = v) (h : R v w) : retP P [.tmp t] R .ret e w := ⟨[v], ⟨h1, trivial⟩, h⟩
theorem ret2 {t u : Nat} {v v' : Value} (h1 : e t = v) (h2 : e u = v') (h : R (.tuple #[v, v']) w) : retP P [.tmp t, .tmp u] R .ret e w := ⟨[v, v'], ⟨h1, h2, trivial⟩, h⟩
theorem ret3 {t u s : Nat} {v v' v'' : Value} (h1 : e t = v) (h2 : e u = v') (h3 : e s = v'') (h : R (.tuple #[v, v', v'']) w) : retP P [.tmp t, .tmp u, .tmp s] R .ret e w := ⟨[v, v', v''], ⟨h1, h2, h3, trivial⟩, h⟩
end

/-! ### regions in the text's order -/
def yE (ops : List Oper) (e : Env) (j : Nat) : Option Bool :=
  match (ops[j]?).bind (·.dst) with
  | some d => match e d with | .bool b => some b | _ => none
  | none => none

theorem yielded_eq {n : Nat} {a : Act} {e : Env} (ha : Rep n a e) (ops : List Oper) : yielded ops.toArray a.tmps = yE ops e := by
  funext j
  unfold yielded yE
  have : (ops.toArray)[j]? = ops[j]? := by simp
  rw [this]
  cases h : (ops[j]?).bind (·.dst) with
  | none => rfl
  | some d =>
    have hg := ha.get d
    simp only [Option.bind_some]
    cases h2 : a.tmps[d]? with
    | none =>
      have : e d = undef := by rw [← hg]; simp [h2]
      rw [this]; rfl
    | some v =>
      have : e d = v := by rw [← hg]; simp [h2]
      rw [this]
      cases v <;> rfl

/-- an operation comes to a value, in a world -/
def OpV (P : Program) (o : Oper) (e : Env) (w : World) (v : Value) (w' : World) : Prop := (execOp (ev e) o).run P w = .ok (.value v) w'
/-- an operation that leaves no value -/
def OpS (P : Program) (o : Oper) (e : Env) (w : World) (w' : World) : Prop := (execOp (ev e) o).run P w = .ok .skip w'

section
variable {P : Program} {n : Nat} {e : Env} {w w' : World} {Q : Post} {ops rest : List Oper} {d : Option Nat} {op : Op} {ty : TypeId} {p : String} {af : Array Edge}

theorem vC_region {id : Nat} {l : List Oper} (h : vL P n l l e w Q) : vC P n (.region id l.toArray false) e w Q :=
  fun hok a ha => wp_region_list (by simpa using h (by simpa [okC] using hok) a ha)

theorem vL_nil (h : Q .normal e w) : vL P n ops [] e w Q := fun _ _ ha => ⟨e, ha, h⟩

theorem vL_val {v : Value} (h : OpV P ⟨d, op, ty, p, af, none⟩ e w v w') (k : vL P n ops rest (updO e d v) w' Q) : vL P n ops (⟨d, op, ty, p, af, none⟩ :: rest) e w Q := by
  intro hok a ha
  simp only [okL, Bool.and_eq_true] at hok
  unfold wpList
  rw [if_pos (show Region.wanted _ _ = true from rfl)]
  left
  unfold Oper.wp
  rw [ha.eval, show _ = _ from h]
  exact k hok.2 _ (ha.put d v hok.1)

theorem vL_skip (h : OpS P ⟨d, op, ty, p, af, none⟩ e w w') (k : vL P n ops rest (updO e d undef) w' Q) : vL P n ops (⟨d, op, ty, p, af, none⟩ :: rest) e w Q := by
  intro hok a ha
  simp only [okL, Bool.and_eq_true] at hok
  unfold wpList
  rw [if_pos (show Region.wanted _ _ = true from rfl)]
  left
  unfold Oper.wp
  rw [ha.eval, show _ = _ from h]
  exact k hok.2 _ (ha.put d undef hok.1)

theorem vL_call {fx : Operand} {xs : Array Operand} {tys : Array TypeId} {f : FuncId} {args : Array Value} {R : Value → World → Prop}
    (hrun : (execOp (ev e) ⟨d, .call ⟨.value fx, xs, tys⟩, ty, p, af, none⟩).run P w = .ok (.enter f args) w)
    (hc : Rets P f args w R) (k : ∀ v w', R v w' → vL P n ops rest (updO e d v) w' Q) : vL P n ops (⟨d, .call ⟨.value fx, xs, tys⟩, ty, p, af, none⟩ :: rest) e w Q := by
  intro hok a ha
  simp only [okL, Bool.and_eq_true] at hok
  unfold wpList
  rw [if_pos (show Region.wanted _ _ = true from rfl)]
  left
  unfold Oper.wp
  rw [ha.eval, hrun]
  refine Calls.mono hc ?_
  rintro x w'' ⟨v, rfl, hR⟩
  exact k v w'' hR hok.2 _ (ha.put d v hok.1)

theorem vL_wanted {j : Nat} {want : Bool} (hy : yE ops e j = some want) (k : vL P n ops (⟨d, op, ty, p, af, none⟩ :: rest) e w Q) : vL P n ops (⟨d, op, ty, p, af, some (j, want)⟩ :: rest) e w Q := by
  intro hok a ha
  have h1 := k hok a ha
  unfold wpList at h1 ⊢
  rw [if_pos (show Region.wanted _ _ = true from rfl)] at h1
  rw [if_pos (by simp [Region.wanted, yielded_eq ha, hy])]
  exact h1
theorem vL_unwanted {j : Nat} {want : Bool} (hy : yE ops e j ≠ some want) (k : vL P n ops rest (updO e d undef) w Q) : vL P n ops (⟨d, op, ty, p, af, some (j, want)⟩ :: rest) e w Q := by
  intro hok a ha
  simp only [okL, Bool.and_eq_true] at hok
  unfold wpList
  rw [if_neg (by simp [Region.wanted, yielded_eq ha, hy])]
  exact k hok.2 _ (ha.put d undef hok.1)
theorem vL_unwanted' {j : Nat} {want t : Bool} (hy : yE ops e j = some t) (hne : (t == want) = false) (k : vL P n ops rest (updO e d undef) w Q) : vL P n ops (⟨d, op, ty, p, af, some (j, want)⟩ :: rest) e w Q :=
  vL_unwanted (by rw [hy]; intro h; cases h; simp at hne) k
theorem vL_unwanted_none {j : Nat} {want : Bool} (hy : yE ops e j = none) (k : vL P n ops rest (updO e d undef) w Q) : vL P n ops (⟨d, op, ty, p, af, some (j, want)⟩ :: rest) e w Q :=
  vL_unwanted (by rw [hy]; simp) k
/-- a guard that is not decided: both ways; the guard's slot then holds the plain truth -/
theorem vL_guard {j dj : Nat} {want t : Bool} (hj : (ops[j]?).bind (·.dst) = some dj) (hy : e dj = .bool t)
    (h1 : t = want → vL P n ops (⟨d, op, ty, p, af, none⟩ :: rest) (upd e dj (.bool want)) w Q)
    (h2 : t = (!want) → vL P n ops rest (updO (upd e dj (.bool (!want))) d undef) w Q) : vL P n ops (⟨d, op, ty, p, af, some (j, want)⟩ :: rest) e w Q := by
  have hyE : yE ops e j = some t := by unfold yE; rw [hj]; simp only [hy]
  by_cases ht : t = want
  · subst ht
    have := h1 rfl
    rw [upd_self _ _ _ hy] at this
    exact vL_wanted hyE this
  · have ht' : t = !want := by cases t <;> cases want <;> simp_all
    have := h2 ht'
    rw [← ht', upd_self _ _ _ hy] at this
    exact vL_unwanted (by rw [hyE]; intro h; exact ht (Option.some.inj h)) this
end
end Go.Eng
