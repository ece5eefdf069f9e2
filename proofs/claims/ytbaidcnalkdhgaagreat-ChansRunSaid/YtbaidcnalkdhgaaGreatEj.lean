/-
  The engine, tenth text: a region that draws its order and only reads, in the text's order; calls in it are quiet.
-/
import Derived.Test.YtbaidcnalkdhgaaGreatEi
namespace Go.Eng
open Go
def lst (m i : Nat) : Array Bool := (List.replicate i true ++ List.replicate (m - i) false).toArray
theorem lst_succ {m i : Nat} (h : i < m) : (lst m i).setIfInBounds i true = lst m (i + 1) := by
  unfold lst
  rw [List.setIfInBounds_toArray]
  congr 1
  obtain ⟨k, hk⟩ : ∃ k, m - i = k + 1 := ⟨m - i - 1, by omega⟩
  rw [hk, show m - (i + 1) = k by omega]
  apply List.ext_getElem?
  intro j
  rw [List.getElem?_set]
  simp only [List.length_append, List.length_replicate]
  grind
/-- the worlds that a quiet region goes through -/
def Dr (w0 w : World) : Prop := ∃ k, w = w0.drewN k
theorem Dr.refl (w : World) : Dr w w := ⟨0, rfl⟩
def vQ (P : Program) (n : Nat) (ops : List Oper) (w0 : World) (i : Nat) (e : Env) (w : World) (Q : Post) : Prop :=
  i ≤ ops.length ∧ vA P n ops (Dr w0) (ops.length - i) (lst ops.length i) e w Q

section
variable {P : Program} {n : Nat} {e : Env} {w w0 : World} {Q : Post} {ops : List Oper} {i : Nat} {d : Option Nat} {op : Op} {ty : TypeId} {p : String} {af : Array Edge}
theorem vC_drawQ [Mixed P] {id : Nat} (h : vQ P n ops w.drew 0 e w.drew Q) : vC P n (.region id ops.toArray true) e w Q := by
  refine vC_draw (Dr w.drew) ?_
  have h := h.2
  simp only [Nat.sub_zero] at h
  have e1 : lst ops.length 0 = Array.replicate ops.length false := by simp [lst]
  rwa [e1] at h
theorem vQ_op {v : Value} (hi : ops[i]? = some ⟨d, op, ty, p, af, none⟩) (hf : freeB ops (lst ops.length i) i = true) (hS : Dr w0 w) (hy : ∀ j, OpV P ⟨d, op, ty, p, af, none⟩ e (w0.drewN j) v (w0.drewN j)) (h : vQ P n ops w0 (i + 1) (updO e d v) w Q) : vQ P n ops w0 i e w Q := by
  have hlt : i < ops.length := (List.getElem?_eq_some_iff.1 hi).1
  refine ⟨Nat.le_of_lt hlt, ?_⟩
  rw [show ops.length - i = (ops.length - (i + 1)) + 1 by omega]
  refine tk i hi hf hS (fun w hw => by obtain ⟨j, rfl⟩ := hw; exact hy j) ?_
  rw [lst_succ hlt]
  exact h.2
theorem vQ_wanted {v : Value} {j : Nat} {want : Bool} (hi : ops[i]? = some ⟨d, op, ty, p, af, some (j, want)⟩) (hg : yE ops e j = some want) (hf : freeB ops (lst ops.length i) i = true) (hS : Dr w0 w) (hy : ∀ j, OpV P ⟨d, op, ty, p, af, none⟩ e (w0.drewN j) v (w0.drewN j)) (h : vQ P n ops w0 (i + 1) (updO e d v) w Q) : vQ P n ops w0 i e w Q := by
  have hlt : i < ops.length := (List.getElem?_eq_some_iff.1 hi).1
  refine ⟨Nat.le_of_lt hlt, ?_⟩
  rw [show ops.length - i = (ops.length - (i + 1)) + 1 by omega]
  refine tkw i hi hg hf hS (fun w hw => by obtain ⟨j, rfl⟩ := hw; exact hy j) ?_
  rw [lst_succ hlt]
  exact h.2
theorem vQ_unwanted {j : Nat} {want t : Bool} (hi : ops[i]? = some ⟨d, op, ty, p, af, some (j, want)⟩) (hg : yE ops e j = some t) (hne : (t == want) = false) (hf : freeB ops (lst ops.length i) i = true) (hS : Dr w0 w) (h : vQ P n ops w0 (i + 1) (updO e d undef) w Q) : vQ P n ops w0 i e w Q := by
  have hlt : i < ops.length := (List.getElem?_eq_some_iff.1 hi).1
  refine ⟨Nat.le_of_lt hlt, ?_⟩
  rw [show ops.length - i = (ops.length - (i + 1)) + 1 by omega]
  refine tku i hi hg hne hf hS ?_
  rw [lst_succ hlt]
  exact h.2
theorem vQ_end (hi : Nat.beq i ops.length = true) (hf : doneB ops (lst ops.length i) = true) (hS : Dr w0 w) (h : Q .normal e w) : vQ P n ops w0 i e w Q :=
  ⟨Nat.le_of_eq (Nat.eq_of_beq_eq_true hi), vA_done hf hS h⟩
end
section
variable {P : Program} {e : Env} {w : World} {R : Value → World → Prop}
/-- two results: a struct or an array in memory, and a temporary -/
theorem retC2 {a u t b o sz by' : Nat} {z c cs : List Value} {T : TypeId} {D : TypeDesc} {v' : Value} [TUnd P t D] [TInfo P t sz by' z] (ha : e a = .pointer (some ⟨b, o, none⟩)) (hD : aggD D = true) (hb : Blk w.heap b c T) (hcs : (c.drop o).take sz = cs) (hl : cs.length = sz) (hu : e u = v') (h : R (.tuple #[.agg cs.toArray, v']) w) : retP P [.cell a t, .tmp u] R .ret e w := by
  subst hcs
  have h1 := run_loadCells_of (P := P) (blk_cells hb (o := o) (sz := sz))
  rw [hl] at h1
  refine ⟨[.agg ((c.drop o).take sz).toArray, v'], ⟨⟨_, ha, ?_⟩, hu, trivial⟩, h⟩
  simp [loadVar, run_isAgg, hD, run_sizeOf' (P := P) (t := t), h1]
end
end Go.Eng
