/-
  The engine, third text: what each plain operation comes to.
-/
import Derived.Test.YtbaidcnalkdhgaaGreatEb
namespace Go.Eng
open Go

section
variable {P : Program} {e : Env} {w : World} {d : Option Nat} {ty : TypeId} {p : String} {af : Array Edge}

theorem opv_move {x : Operand} {v : Value} (hx : ev e x = v) : OpV P ⟨d, .move x, ty, p, af, none⟩ e w v w := by simp [OpV, execOp, hx]
theorem opv_assign {x : Operand} {v : Value} (hx : ev e x = v) : OpV P ⟨d, .assign x, ty, p, af, none⟩ e w v w := by simp [OpV, execOp, hx]
theorem opv_pick_t {c a b : Operand} {v : Value} (hc : ev e c = .bool true) (hv : ev e a = v) : OpV P ⟨d, .pick c a b, ty, p, af, none⟩ e w v w := by simp [OpV, execOp, hc, hv, asBool]
theorem opv_pick_f {c a b : Operand} {v : Value} (hc : ev e c = .bool false) (hv : ev e b = v) : OpV P ⟨d, .pick c a b, ty, p, af, none⟩ e w v w := by simp [OpV, execOp, hc, hv, asBool]

/-! ### numbers -/
theorem run_guardInt {op : BinOp} {t : TypeId} {x y : Operand} {k k' : IntKind} {a b : Int} : (eqGuard op t x y (.int k a) (.int k' b)).run P w = .ok () w := by
  unfold eqGuard
  split <;> rfl

theorem opv_add_w {x y : Operand} {t t' : TypeId} {k : IntKind} {a b : Int} (hx : ev e x = .int k a) (hy : ev e y = .int k b) : OpV P ⟨d, .binOp .add t x y t', ty, p, af, none⟩ e w (.int k (k.wrap (a + b))) w := by
  simp [OpV, execOp, hx, hy, binOp, run_guardInt, Op.intArith]
theorem opv_sub_w {x y : Operand} {t t' : TypeId} {k : IntKind} {a b : Int} (hx : ev e x = .int k a) (hy : ev e y = .int k b) : OpV P ⟨d, .binOp .sub t x y t', ty, p, af, none⟩ e w (.int k (k.wrap (a - b))) w := by
  simp [OpV, execOp, hx, hy, binOp, run_guardInt, Op.intArith]
theorem wrap_in {n : Int} (h : -9223372036854775808 ≤ n ∧ n ≤ 9223372036854775807) : IntKind.i64.wrap n = n := by rw [IntKind.wrap_i64]; omega
theorem wrap_inu {n : Int} (h : 0 ≤ n ∧ n ≤ 18446744073709551615) : IntKind.u64.wrap n = n := by rw [IntKind.wrap_u64]; omega
theorem opv_add {x y : Operand} {t t' : TypeId} {a b : Int} (hx : ev e x = .int .i64 a) (hy : ev e y = .int .i64 b) (h : -9223372036854775808 ≤ a + b ∧ a + b ≤ 9223372036854775807) : OpV P ⟨d, .binOp .add t x y t', ty, p, af, none⟩ e w (.int .i64 (a + b)) w := by
  have := opv_add_w (P := P) (w := w) (d := d) (ty := ty) (p := p) (af := af) (t := t) (t' := t') hx hy
  rwa [wrap_in h] at this
theorem opv_sub {x y : Operand} {t t' : TypeId} {a b : Int} (hx : ev e x = .int .i64 a) (hy : ev e y = .int .i64 b) (h : -9223372036854775808 ≤ a - b ∧ a - b ≤ 9223372036854775807) : OpV P ⟨d, .binOp .sub t x y t', ty, p, af, none⟩ e w (.int .i64 (a - b)) w := by
  have := opv_sub_w (P := P) (w := w) (d := d) (ty := ty) (p := p) (af := af) (t := t) (t' := t') hx hy
  rwa [wrap_in h] at this
theorem opv_quo_w {x y : Operand} {t t' : TypeId} {k : IntKind} {a b : Int} (hx : ev e x = .int k a) (hy : ev e y = .int k b) (hb : b ≠ 0) : OpV P ⟨d, .binOp .quo t x y t', ty, p, af, none⟩ e w (.int k (k.wrap (a.tdiv b))) w := by
  simp [OpV, execOp, hx, hy, binOp, run_guardInt, Op.intDiv, hb]
theorem opv_rem_t {x y : Operand} {t t' : TypeId} {k : IntKind} {a b : Int} (hx : ev e x = .int k a) (hy : ev e y = .int k b) (hb : b ≠ 0) : OpV P ⟨d, .binOp .rem t x y t', ty, p, af, none⟩ e w (.int k (a.tmod b)) w := by
  simp [OpV, execOp, hx, hy, binOp, run_guardInt, Op.intDiv, hb]
theorem opv_quo {x y : Operand} {t t' : TypeId} {a b : Int} (hx : ev e x = .int .i64 a) (hy : ev e y = .int .i64 b) (hb : 0 < b) (ha : 0 ≤ a ∧ a ≤ 9223372036854775807) : OpV P ⟨d, .binOp .quo t x y t', ty, p, af, none⟩ e w (.int .i64 (a / b)) w := by
  have := opv_quo_w (P := P) (w := w) (d := d) (ty := ty) (p := p) (af := af) (t := t) (t' := t') hx hy (by omega)
  rw [Int.tdiv_eq_ediv_of_nonneg ha.1] at this
  have h1 : 0 ≤ a / b := Int.ediv_nonneg ha.1 (by omega)
  have h2 : a / b ≤ a := Int.ediv_le_self b ha.1
  rwa [wrap_in (by omega)] at this
theorem opv_quou {x y : Operand} {t t' : TypeId} {a b : Int} (hx : ev e x = .int .u64 a) (hy : ev e y = .int .u64 b) (hb : 0 < b) (ha : 0 ≤ a ∧ a ≤ 18446744073709551615) : OpV P ⟨d, .binOp .quo t x y t', ty, p, af, none⟩ e w (.int .u64 (a / b)) w := by
  have := opv_quo_w (P := P) (w := w) (d := d) (ty := ty) (p := p) (af := af) (t := t) (t' := t') hx hy (by omega)
  rw [Int.tdiv_eq_ediv_of_nonneg ha.1] at this
  have h1 : 0 ≤ a / b := Int.ediv_nonneg ha.1 (by omega)
  have h2 : a / b ≤ a := Int.ediv_le_self b ha.1
  rwa [wrap_inu (by omega)] at this
theorem opv_rem {x y : Operand} {t t' : TypeId} {k : IntKind} {a b : Int} (hx : ev e x = .int k a) (hy : ev e y = .int k b) (hb : 0 < b) (ha : 0 ≤ a) : OpV P ⟨d, .binOp .rem t x y t', ty, p, af, none⟩ e w (.int k (a % b)) w := by
  have := opv_rem_t (P := P) (w := w) (d := d) (ty := ty) (p := p) (af := af) (t := t) (t' := t') hx hy (by omega)
  rwa [Int.tmod_eq_emod_of_nonneg ha] at this

theorem opv_lss {x y : Operand} {t t' : TypeId} {k : IntKind} {a b : Int} (hx : ev e x = .int k a) (hy : ev e y = .int k b) : OpV P ⟨d, .binOp .lss t x y t', ty, p, af, none⟩ e w (.bool (decide (a < b))) w := by
  simp [OpV, execOp, hx, hy, binOp, run_guardInt, Op.intCmp]
theorem opv_leq {x y : Operand} {t t' : TypeId} {k : IntKind} {a b : Int} (hx : ev e x = .int k a) (hy : ev e y = .int k b) : OpV P ⟨d, .binOp .leq t x y t', ty, p, af, none⟩ e w (.bool (decide (a ≤ b))) w := by
  simp [OpV, execOp, hx, hy, binOp, run_guardInt, Op.intCmp]
theorem opv_gtr {x y : Operand} {t t' : TypeId} {k : IntKind} {a b : Int} (hx : ev e x = .int k a) (hy : ev e y = .int k b) : OpV P ⟨d, .binOp .gtr t x y t', ty, p, af, none⟩ e w (.bool (decide (b < a))) w := by
  simp [OpV, execOp, hx, hy, binOp, run_guardInt, Op.intCmp]
theorem opv_geq {x y : Operand} {t t' : TypeId} {k : IntKind} {a b : Int} (hx : ev e x = .int k a) (hy : ev e y = .int k b) : OpV P ⟨d, .binOp .geq t x y t', ty, p, af, none⟩ e w (.bool (decide (b ≤ a))) w := by
  simp [OpV, execOp, hx, hy, binOp, run_guardInt, Op.intCmp]
theorem opv_eql {x y : Operand} {t t' : TypeId} {k : IntKind} {a b : Int} (hx : ev e x = .int k a) (hy : ev e y = .int k b) : OpV P ⟨d, .binOp .eql t x y t', ty, p, af, none⟩ e w (.bool (decide (a = b))) w := by
  simp [OpV, execOp, hx, hy, binOp, run_guardInt, Op.intCmp]
  rfl
theorem opv_neq {x y : Operand} {t t' : TypeId} {k : IntKind} {a b : Int} (hx : ev e x = .int k a) (hy : ev e y = .int k b) : OpV P ⟨d, .binOp .neq t x y t', ty, p, af, none⟩ e w (.bool (decide (a ≠ b))) w := by
  simp [OpV, execOp, hx, hy, binOp, run_guardInt, Op.intCmp]
  by_cases h : a = b <;> simp [h]

/-! ### truth values -/
theorem opv_not {x : Operand} {t : TypeId} {b : Bool} (hx : ev e x = .bool b) : OpV P ⟨d, .unOp .not t x, ty, p, af, none⟩ e w (.bool (!b)) w := by
  simp [OpV, execOp, hx, Op.unary]
theorem equal_bool {t : TypeId} {a b : Bool} (hu : P.underlying t = some .bool) : (Op.equal t (.bool a) (.bool b)).run P w = .ok (a == b) w := by
  unfold Op.equal
  rw [show Op.maxDepth = 9999 + 1 from rfl]
  unfold Op.equalIn
  simp [run_underlying hu]
theorem guard_bool {t : TypeId} {op : BinOp} {x y : Operand} {a b : Bool} : (eqGuard op t x y (.bool a) (.bool b)).run P w = .ok () w := by
  unfold eqGuard
  split <;> rfl
theorem opv_eql_bool {x y : Operand} {t t' : TypeId} {a b : Bool} [TUnd P t .bool] (hx : ev e x = .bool a) (hy : ev e y = .bool b) : OpV P ⟨d, .binOp .eql t x y t', ty, p, af, none⟩ e w (.bool (decide (a = b))) w := by
  have h := equal_bool (w := w) (a := a) (b := b) (TUnd.out (P := P) (t := t))
  simp only [OpV, execOp, hx, hy, show ∀ t a b, binOp .eql t (.bool a) (.bool b) = (do pure (.bool (← Op.equal t (.bool a) (.bool b)))) from fun _ _ _ => rfl, Sem.run_bind, guard_bool, Result.andThen_ok, h, Sem.run_pure]
  cases a <;> cases b <;> rfl
theorem opv_neq_bool {x y : Operand} {t t' : TypeId} {a b : Bool} [TUnd P t .bool] (hx : ev e x = .bool a) (hy : ev e y = .bool b) : OpV P ⟨d, .binOp .neq t x y t', ty, p, af, none⟩ e w (.bool (decide (a ≠ b))) w := by
  have h := equal_bool (w := w) (a := a) (b := b) (TUnd.out (P := P) (t := t))
  simp only [OpV, execOp, hx, hy, show ∀ t a b, binOp .neq t (.bool a) (.bool b) = (do pure (.bool (!(← Op.equal t (.bool a) (.bool b))))) from fun _ _ _ => rfl, Sem.run_bind, guard_bool, Result.andThen_ok, h, Sem.run_pure]
  cases a <;> cases b <;> rfl

/-! ### strings -/
theorem toList_inj {s u : ByteArray} (h : s.toList = u.toList) : s = u := by
  rw [ByteArray.toList_eq, ByteArray.toList_eq] at h
  cases s; cases u
  simp at h
  rw [h]
theorem str_eq (s u : ByteArray) : (s.toList == u.toList) = decide (s = u) := by
  by_cases h : s = u
  · subst h; simp
  · have : ¬ s.toList = u.toList := fun h' => h (toList_inj h')
    simp [h, this]
/-! ### pointers and places -/
theorem opv_nilCheck_p {x : Operand} {a : Addr} (hx : ev e x = .pointer (some a)) : OpV P ⟨d, .nilCheck x, ty, p, af, none⟩ e w (.pointer (some a)) w := by
  simp [OpV, execOp, hx]
theorem opv_nilCheck_f {x : Operand} {f : FuncId} {cs fs : Array Value} (hx : ev e x = .func (.func f) fs cs) : OpV P ⟨d, .nilCheck x, ty, p, af, none⟩ e w (.func (.func f) fs cs) w := by
  simp [OpV, execOp, hx]
theorem equal_pnil {t s : TypeId} {a b : Option Addr} (hu : P.underlying t = some (.pointer s)) (hn : a = none ∨ b = none) : (Op.equal t (.pointer a) (.pointer b)).run P w = .ok (decide (a = b)) w := by
  unfold Op.equal
  rw [show Op.maxDepth = 9999 + 1 from rfl]
  unfold Op.equalIn
  cases a <;> cases b <;> simp [run_underlying hu] at hn ⊢
theorem guard_ptr {t : TypeId} {op : BinOp} {x y : Operand} {a b : Option Addr} : (eqGuard op t x y (.pointer a) (.pointer b)).run P w = .ok () w := by
  unfold eqGuard
  split <;> rfl
theorem opv_eql_pnil {x y : Operand} {t s t' : TypeId} {a b : Option Addr} [TUnd P t (.pointer s)] (hx : ev e x = .pointer a) (hy : ev e y = .pointer b) (hn : a = none ∨ b = none) : OpV P ⟨d, .binOp .eql t x y t', ty, p, af, none⟩ e w (.bool (decide (a = b))) w := by
  have h := equal_pnil (w := w) (TUnd.out (P := P) (t := t)) hn
  simp only [OpV, execOp, hx, hy, show ∀ t a b, binOp .eql t (.pointer a) (.pointer b) = (do pure (.bool (← Op.equal t (.pointer a) (.pointer b)))) from fun _ _ _ => rfl, Sem.run_bind, guard_ptr, Result.andThen_ok, h, Sem.run_pure]
theorem opv_neq_pnil {x y : Operand} {t s t' : TypeId} {a b : Option Addr} [TUnd P t (.pointer s)] (hx : ev e x = .pointer a) (hy : ev e y = .pointer b) (hn : a = none ∨ b = none) : OpV P ⟨d, .binOp .neq t x y t', ty, p, af, none⟩ e w (.bool (decide (a ≠ b))) w := by
  have h := equal_pnil (w := w) (TUnd.out (P := P) (t := t)) hn
  simp only [OpV, execOp, hx, hy, show ∀ t a b, binOp .neq t (.pointer a) (.pointer b) = (do pure (.bool (!(← Op.equal t (.pointer a) (.pointer b))))) from fun _ _ _ => rfl, Sem.run_bind, guard_ptr, Result.andThen_ok, h, Sem.run_pure]
  simp
end
end Go.Eng
