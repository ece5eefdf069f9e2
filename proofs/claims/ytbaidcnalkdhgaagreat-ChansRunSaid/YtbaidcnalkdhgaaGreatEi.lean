/-
  The engine, ninth text: equality of structs and arrays whose parts are single cells (numbers, truth values, strings); pointers against each other.
-/
import Derived.Test.YtbaidcnalkdhgaaGreatEh
import Derived.ChangeKeysEq
import Derived.Laws.StructEq
namespace Go.Eng
open Go

inductive Kd where
  | i (k : IntKind)
  | s
  | b
def Kd.fits : Kd → Value → Bool
  | .i k, .int k' _ => decide (k = k')
  | .s, .string _ => true
  | .b, .bool _ => true
  | _, _ => false
def Kd.desc : Kd → TypeDesc
  | .i k => .int k
  | .s => .string
  | .b => .bool
def Fits : List Kd → List Value → Prop
  | [], [] => True
  | k :: ks, v :: vs => k.fits v = true ∧ Fits ks vs
  | _, _ => False
def valEq : Value → Value → Bool
  | .int _ a, .int _ b => decide (a = b)
  | .string a, .string b => decide (a = b)
  | .bool a, .bool b => decide (a = b)
  | _, _ => false
def valsEq : List Value → List Value → Bool
  | [], [] => true
  | a :: as, b :: bs => valEq a b && valsEq as bs
  | _, _ => false
section
variable {P : Program} {w : World}
theorem equalIn_one {t : TypeId} {k : Kd} {x y : Value} (dp : Nat) (hu : P.underlying t = some k.desc) (hx : k.fits x = true) (hy : k.fits y = true) : (Op.equalIn (dp + 1) t x y).run P w = .ok (valEq x y) w := by
  cases k <;> cases x <;> simp [Kd.fits] at hx <;> cases y <;> simp [Kd.fits] at hy
  · subst hx; subst hy
    rw [run_equalIn_int _ _ _ _ _ _ _ hu]
    rfl
  · rw [run_equalIn_string _ _ _ _ _ hu]
    simp only [valEq, str_eq]
  · rw [run_equalIn_bool' _ _ _ _ _ hu]
    rename_i a b
    cases a <;> cases b <;> rfl

class TFlat (P : Program) (t : TypeId) (ks : outParam (List Kd)) : Prop where
  eq : ∀ (w : World) (xs ys : List Value) (dp : Nat), Fits ks xs → Fits ks ys → (Op.equalIn (dp + 2) t (.agg xs.toArray) (.agg ys.toArray)).run P w = .ok (valsEq xs ys) w
  guard : P.eqGuardType P.depth t = false

variable {e : Env} {d : Option Nat} {ty : TypeId} {p : String} {af : Array Edge}
theorem opv_neq_agg {x y : Operand} {t t' : TypeId} {ks : List Kd} {xs ys : List Value} [h : TFlat P t ks] (hx : ev e x = .agg xs.toArray) (hy : ev e y = .agg ys.toArray) (h1 : Fits ks xs) (h2 : Fits ks ys) : OpV P ⟨d, .binOp .neq t x y t', ty, p, af, none⟩ e w (.bool (!valsEq xs ys)) w := by
  have hg : (eqGuard .neq t x y (.agg xs.toArray) (.agg ys.toArray)).run P w = .ok () w := by simp [eqGuard, h.guard]
  have he : (Op.equal t (.agg xs.toArray) (.agg ys.toArray)).run P w = .ok (valsEq xs ys) w := h.eq w xs ys 9998 h1 h2
  simp only [OpV, execOp, hx, hy, show ∀ t a b, binOp .neq t (.agg a) (.agg b) = (do pure (.bool (!(← Op.equal t (.agg a) (.agg b))))) from fun _ _ _ => rfl, Sem.run_bind, hg, Result.andThen_ok, he, Sem.run_pure]

/-- an array of n cells of one kind -/
theorem Fits_get {ks : List Kd} : ∀ {xs : List Value} {i : Nat} {k : Kd}, Fits ks xs → ks[i]? = some k → ∃ v, xs[i]? = some v ∧ k.fits v = true := by
  induction ks with
  | nil => intro xs i k _ h; simp at h
  | cons k0 ks ih =>
    intro xs i k h hk
    cases xs with
    | nil => exact h.elim
    | cons x xs =>
      cases i with
      | zero => simp at hk; subst hk; exact ⟨x, by simp, h.1⟩
      | succ i => simp at hk; obtain ⟨v, h1, h2⟩ := ih h.2 hk; exact ⟨v, by simpa using h1, h2⟩
theorem Fits_len {ks : List Kd} : ∀ {xs : List Value}, Fits ks xs → xs.length = ks.length := by
  induction ks with
  | nil => intro xs h; cases xs with | nil => rfl | cons _ _ => exact h.elim
  | cons k ks ih => intro xs h; cases xs with | nil => exact h.elim | cons x xs => simp [ih h.2]
theorem isAgg_kd {t : TypeId} {k : Kd} (hu : P.underlying t = some k.desc) : (isAgg t).run P w = .ok false w := by
  simp only [isAgg, Sem.run_bind, run_underlying hu, Result.andThen_ok]
  cases k <;> rfl
theorem part_kd {t : TypeId} {k : Kd} {xs : List Value} {o : Nat} {v : Value} (hu : P.underlying t = some k.desc) (hv : xs[o]? = some v) : (part t xs.toArray o).run P w = .ok v w := by
  simp [part, isAgg_kd hu, hv]
theorem valsEq_drop {xs ys : List Value} {i : Nat} {x y : Value} (hx : xs[i]? = some x) (hy : ys[i]? = some y) : valsEq (xs.drop i) (ys.drop i) = (valEq x y && valsEq (xs.drop (i + 1)) (ys.drop (i + 1))) := by
  obtain ⟨h1, h2⟩ := List.getElem?_eq_some_iff.1 hx
  obtain ⟨h3, h4⟩ := List.getElem?_eq_some_iff.1 hy
  rw [List.drop_eq_getElem_cons h1, List.drop_eq_getElem_cons h3, h2, h4]
  rfl
def FlatFields (P : Program) : Nat → List Field → List Kd → Prop
  | _, [], [] => True
  | o, f :: fs, k :: ks => f.name ≠ "_" ∧ f.offset = o ∧ P.underlying f.type = some k.desc ∧ FlatFields P (o + 1) fs ks
  | _, _, _ => False
theorem run_eqFields {ks0 : List Kd} {xs ys : List Value} {dp : Nat} (h1 : Fits ks0 xs) (h2 : Fits ks0 ys) :
    ∀ (fs : List Field) (ks : List Kd) (o : Nat), FlatFields P o fs ks → ks0.drop o = ks → (Op.eqFields (dp + 1) xs.toArray ys.toArray fs).run P w = .ok (valsEq (xs.drop o) (ys.drop o)) w := by
  intro fs
  induction fs with
  | nil =>
    intro ks o hf hd
    cases ks with
    | cons _ _ => exact hf.elim
    | nil =>
      have hl : ks0.length ≤ o := by simpa using hd
      have e1 : xs.drop o = [] := List.drop_eq_nil_of_le (by rw [Fits_len h1]; omega)
      have e2 : ys.drop o = [] := List.drop_eq_nil_of_le (by rw [Fits_len h2]; omega)
      simp [Op.eqFields, e1, e2, valsEq]
  | cons f fs ih =>
    intro ks o hf hd
    cases ks with
    | nil => exact hf.elim
    | cons k ks =>
      obtain ⟨hn, ho, hu, hr⟩ := hf
      have hk : ks0[o]? = some k := by
        have := congrArg (fun l => l[0]?) hd
        simpa using this
      obtain ⟨x, hx, hfx⟩ := Fits_get h1 hk
      obtain ⟨y, hy, hfy⟩ := Fits_get h2 hk
      have p1 : (part f.type xs.toArray f.offset).run P w = .ok x w := part_kd hu (by rw [ho]; exact hx)
      have p2 : (part f.type ys.toArray f.offset).run P w = .ok y w := part_kd hu (by rw [ho]; exact hy)
      have p3 := equalIn_one (w := w) dp hu hfx hfy
      unfold Op.eqFields
      rw [if_pos hn]
      simp only [Sem.run_bind, p1, p2, p3, Result.andThen_ok]
      rw [valsEq_drop hx hy]
      have hd' : ks0.drop (o + 1) = ks := by
        have := congrArg List.tail hd
        simpa using this
      cases hv : valEq x y with
      | true => simpa using ih ks (o + 1) hr hd'
      | false => rfl
theorem tflat_struct {t : Nat} {fs : Array Field} {ks : List Kd} (hu : P.underlying t = some (.struct fs)) (hf : FlatFields P 0 fs.toList ks) (hp : P.stoodInHeld t = false) (hg : P.eqGuardType P.depth t = false) : TFlat P t ks := by
  refine ⟨fun w xs ys dp h1 h2 => ?_, hg⟩
  have hfo : P.fieldsOf t = fs := by simp [Program.fieldsOf, hu]
  rw [run_equalIn_struct w (dp + 1) t _ _ (by rw [hfo]; exact hu) hp, hfo]
  have := run_eqFields (w := w) (dp := dp) h1 h2 fs.toList ks 0 hf rfl
  simpa using this

/-! ### pointers against each other -/
/-- a block of cells without frozen ones, that is not empty -/
theorem sameAddr_run {w : World} {b b' : Nat} {c c' : List Value} {T T' : TypeId} {o o' : Nat} (hb : Blk w.heap b c T) (hb' : Blk w.heap b' c' T') : (sameAddr ⟨b, o, none⟩ ⟨b', o', none⟩).run P w = .ok (decide (b = b' ∧ o = o')) w := by
  have h1 : w.heap[b]? = some (.cells c.toArray T (0, 0)) := hb.get
  have h2 : w.heap[b']? = some (.cells c'.toArray T' (0, 0)) := hb'.get
  have f1 : ∀ o, w.frozen? ⟨b, o, none⟩ = false := by intro o; simp [World.frozen?, h1]
  have f2 : ∀ o, w.frozen? ⟨b', o, none⟩ = false := by intro o; simp [World.frozen?, h2]
  have s1 : w.shape? b = some (T, c.toArray.size) := by simp [World.shape?, h1]
  have s2 : w.shape? b' = some (T', c'.toArray.size) := by simp [World.shape?, h2]
  unfold sameAddr
  by_cases hbb : b = b'
  · subst hbb
    by_cases ho : o = o' <;> simp [ho]
  · simp [hbb, f1, f2, noView, viewAt, s1, s2, mayBeOne, stringish]
theorem equal_ptr {w : World} {t s sz by' : Nat} {z : List Value} {b b' o o' : Nat} {c c' : List Value} {T T' : TypeId} [TInfo P s sz by' z] (hu : P.underlying t = some (.pointer s)) (hsz : sz ≠ 0) (hb : Blk w.heap b c T) (hb' : Blk w.heap b' c' T') : (Op.equal t (.pointer (some ⟨b, o, none⟩)) (.pointer (some ⟨b', o', none⟩))).run P w = .ok (decide (b = b' ∧ o = o')) w := by
  have hs := sameAddr_run (P := P) (o := o) (o' := o') hb hb'
  have hsz' := run_sizeOf' (P := P) (t := s) w
  unfold Op.equal
  rw [show Op.maxDepth = 9999 + 1 from rfl]
  unfold Op.equalIn
  simp [run_underlying hu, hsz', hsz, hs]
theorem opv_neq_ptr {x y : Operand} {t s t' sz by' : Nat} {z : List Value} {b b' o o' : Nat} {c c' : List Value} {T T' : TypeId} [TUnd P t (.pointer s)] [TInfo P s sz by' z] (hx : ev e x = .pointer (some ⟨b, o, none⟩)) (hy : ev e y = .pointer (some ⟨b', o', none⟩)) (hsz : (sz == 0) = false) (hb : Blk w.heap b c T) (hb' : Blk w.heap b' c' T') : OpV P ⟨d, .binOp .neq t x y t', ty, p, af, none⟩ e w (.bool (decide (¬ (b = b' ∧ o = o')))) w := by
  have h := equal_ptr (P := P) (o := o) (o' := o') (TUnd.out (P := P) (t := t)) (by simpa using hsz) hb hb'
  simp only [OpV, execOp, hx, hy, show ∀ t a b, binOp .neq t (.pointer a) (.pointer b) = (do pure (.bool (!(← Op.equal t (.pointer a) (.pointer b))))) from fun _ _ _ => rfl, Sem.run_bind, guard_ptr, Result.andThen_ok, h, Sem.run_pure]
  simp
end

/-- a row of one element that has just been made -/
theorem Rd.new1 {α : Type} {w : World} {T : TypeId} {sz : Nat} (enc : α → List Value) [h : EncOk enc sz] (x : α) {cs : List Value} (hcs : enc x = cs) : Rd (w.alloc (.cells cs.toArray T)).heap sz enc (.slice (some ⟨w.heap.size, 0, none⟩) 1 1) [x] := by
  subst hcs
  have := Own.new (w := w) (T := T) (enc := enc) (xs := [x]) (cs := enc x) (fun y _ => h.len y) (by simp) (by simp [maxLen])
  exact this.rd
theorem Rd.newN {α : Type} {w : World} {T : TypeId} {sz : Nat} (enc : α → List Value) [h : EncOk enc sz] (xs : List α) {cs : List Value} {n : Nat} (hcs : xs.flatMap enc = cs) (hn : xs.length = n) (hm : n ≤ maxLen) : Rd (w.alloc (.cells cs.toArray T)).heap sz enc (.slice (some ⟨w.heap.size, 0, none⟩) n n) xs := by
  subst hcs; subst hn
  exact (Own.new (fun y _ => h.len y) rfl hm).rd
theorem Own.newN {α : Type} {w : World} {T : TypeId} {sz : Nat} (enc : α → List Value) [h : EncOk enc sz] (xs : List α) {cs : List Value} {n : Nat} (hcs : xs.flatMap enc = cs) (hn : xs.length = n) (hm : n ≤ maxLen) : Own (w.alloc (.cells cs.toArray T)).heap T sz enc (.slice (some ⟨w.heap.size, 0, none⟩) n n) xs := by
  subst hcs; subst hn
  exact (Own.new (fun y _ => h.len y) rfl hm)

def cellsE : Value → Option (List Value)
  | .agg cs => some cs.toList
  | .tuple _ => none
  | .int k n => some [.int k n]
  | .bool b => some [.bool b]
  | .pointer a => some [.pointer a]
  | .slice a n c => some [.slice a n c]
  | .func f a b => some [.func f a b]
  | .string s => some [.string s]
  | .nilFunc => some [.nilFunc]
  | _ => none
theorem cellsE_eq {v : Value} {cs : List Value} (h : cellsE v = some cs) : v.cells = cs.toArray := by
  cases v <;> simp [cellsE] at h <;> subst h <;> simp [Value.cells]
def partsE : List (Nat × Value) → Option (List (Nat × List Value))
  | [] => some []
  | (i, v) :: r => match cellsE v with
    | some cs => match partsE r with
      | some q => some ((i, cs) :: q)
      | none => none
    | none => none
theorem partsE_of : ∀ {ps : List (Nat × Value)} {qs : List (Nat × List Value)}, partsE ps = some qs → PartsOf ps qs
  | [], qs, h => by simp [partsE] at h; subst h; trivial
  | (i, v) :: r, qs, h => by
    unfold partsE at h
    split at h
    · rename_i cs hc
      split at h
      · rename_i q hq
        cases h
        exact ⟨rfl, cellsE_eq hc, partsE_of hq⟩
      · cases h
    · cases h
section
variable {P : Program} {e : Env} {w : World} {d : Option Nat} {ty : TypeId} {p : String} {af : Array Edge}
theorem opv_buildS {t sz by' : Nat} {z : List Value} {ps : List (Nat × Nat)} {parts : Array (Nat × Operand)} {qs : List (Nat × List Value)} {out : List Value} [TInfo P t sz by' z] [TPlaces P t ps]
    (hp : partsE (parts.toList.map fun q => (q.1, ev e q.2)) = some qs) (hf : fillL (fun (i : Nat) => ps[i]?) z qs = some out) : OpV P ⟨d, .build t parts, ty, p, af, none⟩ e w (.agg out.toArray) w := opv_build_s (partsE_of hp) hf
theorem opw_buildSl {t E sz by' n : Nat} {z : List Value} {parts : Array (Nat × Operand)} {qs : List (Nat × List Value)} {out : List Value} [TUnd P t (.slice E)] [TInfo P E sz by' z] (hz : z.length = sz) (hsm : Nat.ble (n * sz) 16777216 = true)
    (hp : partsE (parts.toList.map fun q => (q.1, ev e q.2)) = some qs) (hf : fillL (fun i => some (i * sz, sz)) ((List.replicate n z).flatten) qs = some out) :
    OpV P ⟨d, .buildSlice t n parts, ty, p, af, none⟩ e w (.slice (some ⟨w.heap.size, 0, none⟩) n n) (w.alloc (.cells out.toArray E)) := opw_buildSlice hz hsm (partsE_of hp) hf
end
end Go.Eng
