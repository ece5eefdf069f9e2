/-
  The engine, seventh text: how the type facts are laid out of closed equations.
-/
import Derived.Test.YtbaidcnalkdhgaaGreatEf
namespace Go.Eng
open Go
theorem tinfo_mk {P : Program} {t sz by' : Nat} {zv : Value} {z : List Value} (h : (P.info? t).map (fun i => (i.zero, i.size, i.bytes)) = some (some zv, sz, by')) (hz : zv.cells = z.toArray) : TInfo P t sz by' z := by
  cases hi : P.info? t with
  | none => rw [hi] at h; cases h
  | some i =>
    rw [hi] at h
    simp only [Option.map_some, Option.some.injEq, Prod.mk.injEq] at h
    exact ⟨⟨i, zv, hi, h.2.1, h.2.2, h.1, hz⟩⟩
theorem tfield_mk {P : Program} {s f off : Nat} {fs : Array Field} {fd : Field} (hu : P.underlying s = some (.struct fs)) (hf : fs[f]? = some fd) (ho : fd.offset = off) (hi : (P.info? fd.type).map (fun i => i.size != 0) = some true) : TField P s f off := by
  cases hi' : P.info? fd.type with
  | none => rw [hi'] at hi; cases hi
  | some i =>
    rw [hi'] at hi
    exact ⟨⟨fs, fd, i, hu, hf, ho, hi', by simpa using hi⟩⟩
theorem places_run {P : Program} : ∀ (fs : List Field) (w : World), (fs.all (fun f => (P.info? f.type).isSome) = true) → (fs.mapM (fun (f : Field) => (do pure (f.offset, ← sizeOf f.type) : Sem (Nat × Nat)))).run P w = .ok (fs.map (fun f => (f.offset, P.cellsOf f.type))) w
  | [], w, _ => by simp
  | f :: fs, w, h => by
    simp only [List.all_cons, Bool.and_eq_true] at h
    obtain ⟨i, hi⟩ := Option.isSome_iff_exists.1 h.1
    have ih := places_run fs w h.2
    have hs : (sizeOf f.type).run P w = .ok i.size w := by simp [sizeOf, run_typeInfo' hi]
    have hc : P.cellsOf f.type = i.size := by simp [Program.cellsOf, hi]
    simp only [List.mapM_cons, Sem.run_bind, hs, Result.andThen_ok, Sem.run_pure, ih, List.map_cons, hc]
theorem tplaces_mk {P : Program} {t : Nat} {ps : List (Nat × Nat)} {fs : Array Field} (hu : P.underlying t = some (.struct fs)) (hall : fs.toList.all (fun f => (P.info? f.type).isSome) = true) (hps : fs.toList.map (fun f => (f.offset, P.cellsOf f.type)) = ps) : TPlaces P t ps := by
  refine ⟨⟨fs, hu, fun w => ?_⟩⟩
  have h := places_run fs.toList w hall
  rw [Array.mapM_eq_mapM_toList, Sem.run_map, h, hps]
  rfl

/-! ### the plain operations at one stroke: what they come to is reckoned -/
def norm : Value → Option Value
  | .int k n => some (.int k n)
  | .bool b => some (.bool b)
  | .pointer a => some (.pointer a)
  | .slice a n c => some (.slice a n c)
  | .func f a b => some (.func f a b)
  | .string s => some (.string s)
  | .agg cs => some (.agg cs)
  | .tuple vs => some (.tuple vs)
  | .nilFunc => some .nilFunc
  | _ => none
theorem norm_eq {v u : Value} (h : norm v = some u) : v = u := by cases v <;> simp [norm] at h <;> exact h
def cmpE (op : BinOp) (a b : Int) : Option Value :=
  match op with
  | .lss => some (.bool (decide (a < b)))
  | .leq => some (.bool (decide (a ≤ b)))
  | .gtr => some (.bool (decide (b < a)))
  | .geq => some (.bool (decide (b ≤ a)))
  | .eql => some (.bool (decide (a = b)))
  | .neq => some (.bool (decide (a ≠ b)))
  | _ => none
def opE (o : Op) (e : Env) : Option Value :=
  match o with
  | .move x => norm (ev e x)
  | .assign x => norm (ev e x)
  | .pick c a b => match ev e c with
    | .bool true => norm (ev e a)
    | .bool false => norm (ev e b)
    | _ => none
  | .binOp op _ x y _ => match ev e x with
    | .int k a => match ev e y with
      | .int k' b => match decide (k = k') with
        | true => cmpE op a b
        | false => none
      | _ => none
    | _ => none
  | .nilCheck x => match ev e x with
    | .pointer (some a) => some (.pointer (some a))
    | .func (.func f) fs cs => some (.func (.func f) fs cs)
    | _ => none
  | .extract x i => match ev e x with
    | .tuple vs => match vs.toList[i]? with
      | some v => norm v
      | none => none
    | _ => none
  | _ => none
theorem opv_E {P : Program} {e : Env} {w : World} {d : Option Nat} {op : Op} {ty : TypeId} {p : String} {af : Array Edge} {v : Value} (h : opE op e = some v) : OpV P ⟨d, op, ty, p, af, none⟩ e w v w := by
  unfold opE at h
  split at h
  · exact opv_move (norm_eq h)
  · exact opv_assign (norm_eq h)
  · split at h
    · rename_i hc; exact opv_pick_t hc (norm_eq h)
    · rename_i hc; exact opv_pick_f hc (norm_eq h)
    · cases h
  · split at h
    · rename_i hx
      split at h
      · rename_i hy
        split at h
        · rename_i hk
          have hk := of_decide_eq_true hk
          subst hk
          unfold cmpE at h
          split at h <;> cases h
          · exact opv_lss hx hy
          · exact opv_leq hx hy
          · exact opv_gtr hx hy
          · exact opv_geq hx hy
          · exact opv_eql hx hy
          · exact opv_neq hx hy
        · cases h
      · cases h
    · cases h
  · split at h
    · rename_i hx; cases h; exact opv_nilCheck_p hx
    · rename_i hx; cases h; exact opv_nilCheck_f hx
    · cases h
  · split at h
    · rename_i hx
      split at h
      · rename_i hv
        have := norm_eq h
        subst this
        exact opv_extract hx (by simpa using hv)
      · cases h
    · cases h
  · cases h

section
variable {P : Program} {n : Nat} {e : Env} {w w' : World} {Q : Post} {ops rest : List Oper} {d : Option Nat} {op : Op} {ty : TypeId} {p : String} {af : Array Edge}
/-- a guard of '&&' that is not decided -/
theorem vL_and {j dj : Nat} {q : Prop} [Decidable q] (hj : (ops[j]?).bind (·.dst) = some dj) (hy : e dj = .bool (decide q))
    (h1 : q → vL P n ops (⟨d, op, ty, p, af, none⟩ :: rest) (upd e dj (.bool true)) w Q)
    (h2 : ¬ q → vL P n ops rest (updO (upd e dj (.bool false)) d undef) w Q) : vL P n ops (⟨d, op, ty, p, af, some (j, true)⟩ :: rest) e w Q :=
  vL_guard hj hy (fun h => h1 (of_decide_eq_true h)) (fun h => h2 (of_decide_eq_false h))
/-- a guard of '||' that is not decided -/
theorem vL_or {j dj : Nat} {q : Prop} [Decidable q] (hj : (ops[j]?).bind (·.dst) = some dj) (hy : e dj = .bool (decide q))
    (h1 : ¬ q → vL P n ops (⟨d, op, ty, p, af, none⟩ :: rest) (upd e dj (.bool false)) w Q)
    (h2 : q → vL P n ops rest (updO (upd e dj (.bool true)) d undef) w Q) : vL P n ops (⟨d, op, ty, p, af, some (j, false)⟩ :: rest) e w Q :=
  vL_guard hj hy (fun h => h1 (of_decide_eq_false h)) (fun h => h2 (of_decide_eq_true h))
theorem vL_orb {j dj : Nat} {t : Bool} (hj : (ops[j]?).bind (·.dst) = some dj) (hy : e dj = .bool t)
    (h1 : t = false → vL P n ops (⟨d, op, ty, p, af, none⟩ :: rest) (upd e dj (.bool false)) w Q)
    (h2 : t = true → vL P n ops rest (updO (upd e dj (.bool true)) d undef) w Q) : vL P n ops (⟨d, op, ty, p, af, some (j, false)⟩ :: rest) e w Q :=
  vL_guard hj hy h1 h2
variable {R : Value → World → Prop}
/-- a call: the callee's contract, then on -/
theorem vL_callF {fx : Operand} {xs : Array Operand} {tys : Array TypeId} {f : FuncId} {first cap args : List Value} {R : Value → World → Prop} [FnOk P f]
    (hf : ev e fx = .func (.func f) first.toArray cap.toArray) (hc : Rets P f args.toArray w R) (ha : first ++ xs.toList.map (ev e) ++ cap = args)
    (k : ∀ v w', R v w' → vL P n ops rest (updO e d v) w' Q) : vL P n ops (⟨d, .call ⟨.value fx, xs, tys⟩, ty, p, af, none⟩ :: rest) e w Q :=
  vL_call (run_callFn hf ha) hc k

/-! ### loops over the frame's slots that matter: which slots are forgotten, as the bits of a number -/
def bitB (m i : Nat) : Bool := Nat.beq (Nat.land (Nat.shiftRight m i) 1) 1
def mask (m : Nat) (junk e : Env) : Env := fun i => bif bitB m i then junk i else e i
def Same (m : Nat) (e e' : Env) : Prop := ∀ i, bitB m i = false → e' i = e i
theorem mask_same (ws : Nat) (e e' : Env) (h : Same ws e e') : mask ws e' e = e' := by
  funext i
  unfold mask
  cases hi : bitB ws i with
  | true => rfl
  | false => exact (h i hi).symm
theorem updO_same {ws : Nat} {e e0 : Env} {o : Option Nat} {v : Value} (h : Same ws e0 e) (ho : ∀ d, o = some d → bitB ws d = true) : Same ws e0 (updO e o v) := by
  intro i hi
  cases o with
  | none => exact h i hi
  | some d =>
    have hd := ho d rfl
    by_cases hid : i = d
    · subst hid; rw [hd] at hi; cases hi
    · show upd e d v i = e0 i
      rw [upd_ne _ _ hid]; exact h i hi
end
end Go.Eng
