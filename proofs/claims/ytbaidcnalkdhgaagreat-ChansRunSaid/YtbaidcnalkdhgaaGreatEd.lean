/-
  The engine, fourth text: operations that touch memory; calls; append.
-/
import Derived.Test.YtbaidcnalkdhgaaGreatEc
namespace Go.Eng
open Go

section
variable {P : Program} {e : Env} {w : World} {d : Option Nat} {ty : TypeId} {p : String} {af : Array Edge}

theorem add_off (b o n : Nat) : (⟨b, o, none⟩ : Addr).add n = ⟨b, o + n, none⟩ := by unfold Addr.add; split <;> simp_all

theorem run_typeInfo' {t : TypeId} {i : TypeInfo} (h : P.info? t = some i) (w : World) : (typeInfo t).run P w = .ok i w := by simp [typeInfo, h]
theorem run_sizeOf' {t sz by' : Nat} {z : List Value} [h : TInfo P t sz by' z] (w : World) : (sizeOf t).run P w = .ok sz w := by
  obtain ⟨i, zv, h1, h2, _⟩ := h.out
  simp [sizeOf, run_typeInfo' h1, h2]
theorem run_isAgg {t : TypeId} {D : TypeDesc} [h : TUnd P t D] (w : World) : (isAgg t).run P w = .ok (aggD D) w := by
  simp only [isAgg, Sem.run_bind, run_underlying h.out, Result.andThen_ok]
  cases D <;> rfl

/-! ### loads -/
theorem opv_load1 {t : TypeId} {x : Operand} {D : TypeDesc} {b o : Nat} {v : Value} [TUnd P t D] (hx : ev e x = .pointer (some ⟨b, o, none⟩)) (hD : aggD D = false) (hc : Cell w.heap b o v) : OpV P ⟨d, .load t x, ty, p, af, none⟩ e w v w := by
  simp [OpV, execOp, Instr.loadAt, Instr.sureAddr, hx, loadVar, run_isAgg, hD, hc.get]
theorem run_loadCells_of {b o : Nat} {cs : List Value} (h : ∀ j u, cs[j]? = some u → Cell w.heap b (o + j) u) : (loadCells ⟨b, o, none⟩ cs.length).run P w = .ok cs.toArray w :=
  run_loadCells_list w _ cs (fun j u hj => by rw [add_off]; exact (h j u hj).get)
theorem opv_loadn {t : TypeId} {x : Operand} {D : TypeDesc} {b o sz by' : Nat} {z cs : List Value} [TUnd P t D] [TInfo P t sz by' z] (hx : ev e x = .pointer (some ⟨b, o, none⟩)) (hD : aggD D = true) (hc : ∀ j u, cs[j]? = some u → Cell w.heap b (o + j) u) (hl : cs.length = sz) : OpV P ⟨d, .load t x, ty, p, af, none⟩ e w (.agg cs.toArray) w := by
  subst hl
  have := run_loadCells_of (P := P) hc
  simp [OpV, execOp, Instr.loadAt, Instr.sureAddr, hx, loadVar, run_isAgg, hD, run_sizeOf' (P := P) (t := t), this]
theorem blk_cells {h : Array Obj} {b o sz : Nat} {c : List Value} {T : TypeId} (hb : Blk h b c T) : ∀ j u, ((c.drop o).take sz)[j]? = some u → Cell h b (o + j) u := by
  intro j u hj
  rw [List.getElem?_take] at hj
  split at hj
  · exact hb.cell (by simpa [List.getElem?_drop] using hj)
  · cases hj
theorem opv_loadb {t : TypeId} {x : Operand} {D : TypeDesc} {b o sz by' : Nat} {z c : List Value} {T : TypeId} [TUnd P t D] [TInfo P t sz by' z] (hx : ev e x = .pointer (some ⟨b, o, none⟩)) (hD : aggD D = true) (hb : Blk w.heap b c T) (hl : ((c.drop o).take sz).length = sz) : OpV P ⟨d, .load t x, ty, p, af, none⟩ e w (.agg ((c.drop o).take sz).toArray) w :=
  opv_loadn hx hD (blk_cells hb) hl
theorem opv_loadb1 {t : TypeId} {x : Operand} {D : TypeDesc} {b o : Nat} {v : Value} {c : List Value} {T : TypeId} [TUnd P t D] (hx : ev e x = .pointer (some ⟨b, o, none⟩)) (hD : aggD D = false) (hb : Blk w.heap b c T) (hc : c[o]? = some v) : OpV P ⟨d, .load t x, ty, p, af, none⟩ e w v w :=
  opv_load1 hx hD (hb.cell hc)

/-! ### elements of slices -/
/-- the address of cell j of element i -/
def ea (v : Value) (sz : Nat) (i : Int) (j : Nat) : Addr := ⟨(adr v).block, (adr v).off + i.toNat * sz + j, none⟩
theorem opv_len {α : Type} {x : Operand} {t E sz : Nat} {enc : α → List Value} {v : Value} {xs : List α} [TUnd P t (.slice E)] (hx : ev e x = v) (r : Rd w.heap sz enc v xs) : OpV P ⟨d, .call ⟨.builtin .len, #[x], #[t]⟩, ty, p, af, none⟩ e w (.int .i64 xs.length) w := by
  have hu := run_underlying (TUnd.out (P := P) (t := t)) w
  obtain ⟨a, c, rfl⟩ := r.len
  simp [OpV, execOp, resolve, invoke, builtin, Builtin.len_, hx, hu, goInt]
theorem opv_lenc {x : Operand} {t E n c : Nat} {a : Option Addr} [TUnd P t (.slice E)] (hx : ev e x = .slice a n c) : OpV P ⟨d, .call ⟨.builtin .len, #[x], #[t]⟩, ty, p, af, none⟩ e w (.int .i64 n) w := by
  have hu := run_underlying (TUnd.out (P := P) (t := t)) w
  simp [OpV, execOp, resolve, invoke, builtin, Builtin.len_, hx, hu, goInt]
theorem opv_indexAddr {α : Type} {x ix : Operand} {t E sz by' : Nat} {z : List Value} {k : IntKind} {i : Int} {enc : α → List Value} {v : Value} {xs : List α} [TUnd P t (.slice E)] [TInfo P E sz by' z] (hx : ev e x = v) (hi : ev e ix = .int k i) (r : Rd w.heap sz enc v xs) (h0 : 0 ≤ i) (h1 : i < xs.length) :
    OpV P ⟨d, .indexAddr t x ix, ty, p, af, none⟩ e w (.pointer (some (ea v sz i 0))) w := by
  have hu := run_underlying (TUnd.out (P := P) (t := t)) w
  obtain ⟨c, hv⟩ := r.ptr (by omega)
  simp only [OpV, execOp, Instr.indexAt, hx, hi]
  rw [hv]
  simp [asIntOf, hu, h0, h1, run_sizeOf' (P := P) (t := E), add_off, ea, adr]
theorem opv_ld_el {α : Type} {t : TypeId} {x : Operand} {D : TypeDesc} {sz j : Nat} {i : Int} {enc : α → List Value} {v u : Value} {xs : List α} {x0 : α} [TUnd P t D] (hx : ev e x = .pointer (some (ea v sz i j))) (hD : aggD D = false) (r : Rd w.heap sz enc v xs) (hi : xs[i.toNat]? = some x0) (hu : (enc x0)[j]? = some u) : OpV P ⟨d, .load t x, ty, p, af, none⟩ e w u w :=
  opv_load1 hx hD (r.cells _ _ hi _ _ hu)
theorem opv_ld_eln {α : Type} {t : TypeId} {x : Operand} {D : TypeDesc} {sz by' : Nat} {z : List Value} {i : Int} {enc : α → List Value} {v : Value} {xs : List α} {x0 : α} [TUnd P t D] [TInfo P t sz by' z] (hx : ev e x = .pointer (some (ea v sz i 0))) (hD : aggD D = true) (r : Rd w.heap sz enc v xs) (hi : xs[i.toNat]? = some x0) : OpV P ⟨d, .load t x, ty, p, af, none⟩ e w (.agg (enc x0).toArray) w :=
  opv_loadn hx hD (fun j u hj => by simpa using r.cells _ _ hi _ _ hj) (r.size _ (List.mem_of_getElem? hi))

/-! ### fields -/
class TField (P : Program) (s f : Nat) (off : outParam Nat) : Prop where
  out : ∃ fs fd i, P.underlying s = some (.struct fs) ∧ fs[f]? = some fd ∧ fd.offset = off ∧ P.info? fd.type = some i ∧ i.size ≠ 0
theorem opv_fieldAddr {s f off b o : Nat} {x : Operand} [h : TField P s f off] (hx : ev e x = .pointer (some ⟨b, o, none⟩)) : OpV P ⟨d, .fieldAddr s x f, ty, p, af, none⟩ e w (.pointer (some ⟨b, o + off, none⟩)) w := by
  obtain ⟨fs, fd, i, h1, h2, h3, h4, h5⟩ := h.out
  subst h3
  simp [OpV, execOp, Instr.fieldAt, Instr.sureAddr, hx, run_underlying h1, h2, fieldPlace, sizeOf, run_typeInfo' h4, h5, add_off]
/-! ### results of calls, functions as values -/
theorem opv_extract {x : Operand} {i : Nat} {vs : Array Value} {v : Value} (hx : ev e x = .tuple vs) (hv : vs[i]? = some v) : OpV P ⟨d, .extract x i, ty, p, af, none⟩ e w v w := by
  simp [OpV, execOp, Instr.extract, hx, hv]
theorem opv_makeFunc {fn : Fn} {xs : Array Operand} {cs : List Value} (hc : xs.toList.map (ev e) = cs) : OpV P ⟨d, .makeFunc fn #[] xs, ty, p, af, none⟩ e w (.func fn #[] cs.toArray) w := by
  have : xs.map (ev e) = cs.toArray := by rw [← hc]; exact Array.ext' (by simp)
  simp [OpV, execOp, Instr.makeFunc, this]

theorem run_callFn {fx : Operand} {xs : Array Operand} {tys : Array TypeId} {f : FuncId} {first cap args : List Value} [h : FnOk P f] (hf : ev e fx = .func (.func f) first.toArray cap.toArray) (ha : first ++ xs.toList.map (ev e) ++ cap = args) :
    (execOp (ev e) ⟨d, .call ⟨.value fx, xs, tys⟩, ty, p, af, none⟩).run P w = .ok (.enter f args.toArray) w := by
  obtain ⟨fn, h1, h2, h3⟩ := h.out
  have hm : xs.map (ev e) = (xs.toList.map (ev e)).toArray := Array.ext' (by simp)
  simp only [execOp, resolve, hf, Deferred.ofValue, Sem.run_bind, Sem.run_pure, Result.andThen_ok, invoke, callFunc, run_program, h1, h3, h2, hm]
  simp [← ha]

/-! ### new memory -/
theorem cells_one {u : Value} (h : u.oneCell' = true) : u.cells = #[u] := by cases u <;> first | rfl | cases h
theorem opw_box1 {t : TypeId} {x : Operand} {u : Value} (hx : ev e x = u) (hu : u.oneCell' = true) : OpV P ⟨d, .box t x, ty, p, af, none⟩ e w (.pointer (some ⟨w.heap.size, 0, none⟩)) (w.alloc (.cells [u].toArray t)) := by
  simp only [OpV, execOp, Instr.box, hx, newVar, newRow, cells_one hu]
  rfl
theorem opw_boxn {t : TypeId} {x : Operand} {cs : List Value} (hx : ev e x = .agg cs.toArray) : OpV P ⟨d, .box t x, ty, p, af, none⟩ e w (.pointer (some ⟨w.heap.size, 0, none⟩)) (w.alloc (.cells cs.toArray t)) := by
  simp only [OpV, execOp, Instr.box, hx, newVar, newRow, Value.cells]
  rfl
theorem opw_alloc {t sz by' : Nat} {z : List Value} [h : TInfo P t sz by' z] : OpV P ⟨d, .alloc t, ty, p, af, none⟩ e w (.pointer (some ⟨w.heap.size, 0, none⟩)) (w.alloc (.cells z.toArray t)) := by
  obtain ⟨i, zv, h1, h2, h3, h4, h5⟩ := h.out
  have hz : (zeroValue t).run P w = .ok zv w := by simp [zeroValue, run_typeInfo' h1, h4]
  simp only [OpV, execOp, Instr.alloc, Sem.run_bind, hz, Result.andThen_ok, newVar, newRow, h5]
  rfl

/-! ### stores -/
theorem ops_store1 {t by' : Nat} {z : List Value} {x y : Operand} {b o : Nat} {u : Value} {c : List Value} {T : TypeId} [TInfo P t 1 by' z] (hx : ev e x = .pointer (some ⟨b, o, none⟩)) (hy : ev e y = u) (hu : u.oneCell' = true) (hb : Blk w.heap b c T) (ho : o < c.length) :
    OpS P ⟨d, .store t x y, ty, p, af, none⟩ e w (w.setRow b (c.set o u).toArray) := by
  have h1 : w.cell? ⟨b, o, none⟩ = some c[o] := (hb.cell (by simp [ho])).get
  have h2 : w.frozen? ⟨b, o, none⟩ = false := by
    have : w.heap[b]? = some (.cells c.toArray T (0, 0)) := hb.get
    simp [World.frozen?, this]
  have h3 : w.setCell ⟨b, o, none⟩ u = w.setRow b (c.set o u).toArray := by
    rw [setCell_eq_setRow w b o c.toArray T (0, 0) u hb.get]
    simp
  simp [OpS, execOp, Instr.storeAt, Instr.sureAddr, hx, hy, storeVar, cells_one hu, run_sizeOf' (P := P) (t := t), storeCells, run_store, hu, add_off, h1, h2, h3]
theorem ops_storen {t sz by' : Nat} {z : List Value} {x y : Operand} {b o : Nat} {us : List Value} {c : List Value} {T : TypeId} [TInfo P t sz by' z] (hx : ev e x = .pointer (some ⟨b, o, none⟩)) (hy : ev e y = .agg us.toArray) (hl : us.length = sz) (hu : ∀ u ∈ us, u.oneCell' = true) (hb : Blk w.heap b c T) (ho : o + us.length ≤ c.length) :
    OpS P ⟨d, .store t x y, ty, p, af, none⟩ e w (w.setRow b (c.take o ++ us ++ c.drop (o + us.length)).toArray) := by
  have h1 := run_storeCells_at (P := P) b o T us 0 c.toArray w hb.get (by simpa using ho) hu
  simp only [Nat.add_zero] at h1
  simp [OpS, execOp, Instr.storeAt, Instr.sureAddr, hx, hy, storeVar, Value.cells, run_sizeOf' (P := P) (t := t), hl] at h1 ⊢
  rw [h1]
  rfl
end
end Go.Eng
