/-
  The engine, fifth text: values built of parts; append; slices of slices; make.
-/
import Derived.Test.YtbaidcnalkdhgaaGreatEd
namespace Go.Eng
open Go

/-- an element's cells: none of them is itself a row of cells, and there are sz of them -/
class EncOk {α : Type} (enc : α → List Value) (sz : outParam Nat) : Prop where
  one : ∀ x u, u ∈ enc x → u.oneCell' = true
  len : ∀ x, (enc x).length = sz

/-! ### parts -/
def splice (cells : List Value) (off : Nat) (cs : List Value) : List Value := cells.take off ++ cs ++ cells.drop (off + cs.length)
theorem fold_splice (off : Nat) : ∀ (cs : List Value) (k : Nat) (cells : List Value), off + k + cs.length ≤ cells.length →
    ((cs.zipIdx k).foldl (fun (a : Array Value) (q : Value × Nat) => a.setIfInBounds (off + q.2) q.1) cells.toArray) = (cells.take (off + k) ++ cs ++ cells.drop (off + k + cs.length)).toArray
  | [], k, cells, _ => by simp
  | c :: cs, k, cells, h => by
    simp only [List.length_cons] at h
    have ih := fold_splice off cs (k + 1) (cells.set (off + k) c) (by simp; omega)
    simp only [List.zipIdx_cons, List.foldl_cons, List.setIfInBounds_toArray]
    rw [ih]
    congr 1
    have e1 : (cells.set (off + k) c).take (off + (k + 1)) = cells.take (off + k) ++ [c] := by
      rw [show off + (k + 1) = (off + k) + 1 by omega, List.take_succ_eq_append_getElem (by simp; omega)]
      simp [List.take_set]
      rw [List.set_eq_of_length_le (by simp; omega)]
    have e2 : (cells.set (off + k) c).drop (off + (k + 1) + cs.length) = cells.drop (off + k + (cs.length + 1)) := by
      rw [List.drop_set, if_pos (by omega)]
      congr 1
      omega
    rw [e1, e2]
    simp

def fillL (place : Nat → Option (Nat × Nat)) (cells : List Value) : List (Nat × List Value) → Option (List Value)
  | [] => some cells
  | (i, cs) :: rest =>
    match place i with
    | none => none
    | some (off, size) => if cs.length = size ∧ off + cs.length ≤ cells.length then fillL place (splice cells off cs) rest else none
def PartsOf : List (Nat × Value) → List (Nat × List Value) → Prop
  | [], [] => True
  | (i, v) :: r, (j, cs) :: r' => i = j ∧ v.cells = cs.toArray ∧ PartsOf r r'
  | _, _ => False
theorem fill_eq (place : Nat → Option (Nat × Nat)) : ∀ (ps : List (Nat × Value)) (qs : List (Nat × List Value)) (cells out : List Value), PartsOf ps qs → fillL place cells qs = some out → Instr.fill place cells.toArray ps = some out.toArray
  | [], [], cells, out, _, h => by simp [fillL] at h; simp [Instr.fill, h]
  | [], _ :: _, _, _, h, _ => h.elim
  | _ :: _, [], _, _, h, _ => h.elim
  | (i, v) :: r, (j, cs) :: r', cells, out, h, hf => by
    obtain ⟨rfl, hv, hr⟩ := h
    unfold fillL at hf
    unfold Instr.fill
    cases hp : place i with
    | none => rw [hp] at hf; cases hf
    | some q =>
      obtain ⟨off, size⟩ := q
      rw [hp] at hf
      simp only at hf ⊢
      split at hf
      · rename_i hc
        rw [hv]
        have hc' : ¬ ((cs.toArray.size ≠ size) || (off + cs.toArray.size > cells.toArray.size)) = true := by simp; omega
        simp only [List.size_toArray] at hc' ⊢
        rw [if_neg (by simpa using hc')]
        have hfold : (cs.toArray.zipIdx.foldl (fun (a : Array Value) (q : Value × Nat) => a.setIfInBounds (off + q.2) q.1) cells.toArray) = (splice cells off cs).toArray := by
          have h1 := fold_splice off cs 0 cells (by simpa using hc.2)
          rw [show (splice cells off cs) = (List.take (off + 0) cells ++ cs ++ List.drop (off + 0 + cs.length) cells) from rfl, ← h1, ← Array.foldl_toList]
          congr 1
          simp
        have := fill_eq place r r' (splice cells off cs) out hr hf
        rw [← this, ← hfold]
      · cases hf

section
variable {P : Program} {e : Env} {w : World} {d : Option Nat} {ty : TypeId} {p : String} {af : Array Edge}

class TPlaces (P : Program) (t : TypeId) (ps : outParam (List (Nat × Nat))) : Prop where
  out : ∃ fs, P.underlying t = some (.struct fs) ∧ ∀ w, (fs.mapM (fun (f : Field) => do pure (f.offset, ← sizeOf f.type))).run P w = .ok ps.toArray w

theorem run_zeroCells {t sz by' : Nat} {z : List Value} [h : TInfo P t sz by' z] (w : World) : ∃ zv, (zeroValue t).run P w = .ok zv w ∧ zv.cells = z.toArray := by
  obtain ⟨i, zv, h1, h2, h3, h4, h5⟩ := h.out
  exact ⟨zv, by simp [zeroValue, run_typeInfo' h1, h4], h5⟩
theorem opv_build_s {t sz by' : Nat} {z : List Value} {ps : List (Nat × Nat)} {parts : Array (Nat × Operand)} {qs : List (Nat × List Value)} {out : List Value} [TInfo P t sz by' z] [h : TPlaces P t ps]
    (hp : PartsOf (parts.toList.map fun q => (q.1, ev e q.2)) qs) (hf : fillL (fun (i : Nat) => ps[i]?) z qs = some out) : OpV P ⟨d, .build t parts, ty, p, af, none⟩ e w (.agg out.toArray) w := by
  obtain ⟨fs, h1, h2⟩ := h.out
  obtain ⟨zv, h3, h4⟩ := run_zeroCells (P := P) (t := t) w
  have hm : (parts.map fun q => (q.1, ev e q.2)).toList = parts.toList.map fun q => (q.1, ev e q.2) := by simp
  have hfill := fill_eq (fun (i : Nat) => ps[i]?) _ qs z out hp hf
  have e1 : (fun (x : Nat) => ps.toArray[x]?) = (fun (x : Nat) => ps[x]?) := by funext x; simp
  simp only [OpV, execOp, Instr.build, Sem.run_bind, h3, Result.andThen_ok, h4, run_underlying h1, h2, hm, e1, hfill, Sem.run_pure]
theorem zero_rep {z : List Value} {sz : Nat} (hz : z.length = sz) (n : Nat) : (Array.range (n * sz)).map (fun j => z.toArray[j % sz]!) = ((List.replicate n z).flatten).toArray := by
  apply Array.ext
  · simp [hz]
  · intro i h1 h2
    simp only [Array.size_map, Array.size_range] at h1
    have hsz : 0 < sz := by
      rcases Nat.eq_zero_or_pos sz with h | h
      · subst h; simp at h1
      · exact h
    have hlt : i % sz < z.length := by rw [hz]; exact Nat.mod_lt _ hsz
    simp only [Array.getElem_map, Array.getElem_range, List.getElem_toArray]
    have key : ∀ (n i : Nat) (hi : i < n * sz), ((List.replicate n z).flatten)[i]? = z[i % sz]? := by
      intro n
      induction n with
      | zero => intro i hi; simp at hi
      | succ n ih =>
        intro i hi
        rw [List.replicate_succ, List.flatten_cons]
        by_cases h : i < sz
        · rw [List.getElem?_append_left (by omega), Nat.mod_eq_of_lt h]
        · rw [List.getElem?_append_right (by omega), hz, ih (i - sz) (by rw [Nat.add_mul] at hi; omega)]
          rw [← Nat.mod_eq_sub_mod (by omega)]
    have hk := key n i h1
    have hx : ((List.replicate n z).flatten)[i]? = some ((List.replicate n z).flatten)[i] := by simp
    rw [hx, List.getElem?_eq_getElem hlt] at hk
    have := Option.some.inj hk
    rw [this]
    simp [hlt]

theorem opw_buildSlice {t E sz by' n : Nat} {z : List Value} {parts : Array (Nat × Operand)} {qs : List (Nat × List Value)} {out : List Value} [hu : TUnd P t (.slice E)] [TInfo P E sz by' z] (hz : z.length = sz) (hsm : Nat.ble (n * sz) 16777216 = true)
    (hp : PartsOf (parts.toList.map fun q => (q.1, ev e q.2)) qs) (hf : fillL (fun i => some (i * sz, sz)) ((List.replicate n z).flatten) qs = some out) :
    OpV P ⟨d, .buildSlice t n parts, ty, p, af, none⟩ e w (.slice (some ⟨w.heap.size, 0, none⟩) n n) (w.alloc (.cells out.toArray E)) := by
  obtain ⟨zv, h3, h4⟩ := run_zeroCells (P := P) (t := E) w
  have hm : (parts.map fun q => (q.1, ev e q.2)).toList = parts.toList.map fun q => (q.1, ev e q.2) := by simp
  have hfill := fill_eq (fun i => some (i * sz, sz)) _ qs _ out hp hf
  have hle : ¬ (n * sz > 2 ^ 24) := by have := Nat.le_of_ble_eq_true hsm; omega
  simp only [OpV, execOp, Instr.buildSlice, Sem.run_bind, run_underlying hu.out, Result.andThen_ok, run_sizeOf' (P := P) (t := E), if_neg hle, Sem.run_pure]
  by_cases h0 : n * sz = 0
  · have e0 : ((List.replicate n z).flatten) = [] := by
      apply List.eq_nil_of_length_eq_zero
      simp [hz, h0]
    rw [e0] at hfill
    simp only [h0, if_true, Sem.run_bind, Sem.run_pure, Result.andThen_ok, hm]
    have e9 : (Array.map (fun x => (#[] : Array Value)[x % (#[] : Array Value).size]!) (Array.range 0)) = #[] := by simp
    rw [e9, hfill]
    rfl
  · simp only [h0, if_false, Sem.run_bind, h3, Result.andThen_ok, Sem.run_pure, h4, hm, List.size_toArray, hz, zero_rep hz n, hfill]
    rfl
end
end Go.Eng
