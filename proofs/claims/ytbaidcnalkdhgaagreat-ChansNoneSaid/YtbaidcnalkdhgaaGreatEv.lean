/-
  The engine, further: how lists of numbers, texts, truth values lie in memory; conversions of numbers; plain lemmas on lists.
-/
import Derived.Test.YtbaidcnalkdhgaaGreatEs
namespace Go.Eng
open Go
def iE (n : Int) : List Value := [.int .i64 n]
def uE (n : Int) : List Value := [.int .u64 n]
def pE (q : Int × Int) : List Value := [.int .i64 q.1, .int .i64 q.2]
def sE (s : ByteArray) : List Value := [.string s]
def bE (b : Bool) : List Value := [.bool b]
instance encI : EncOk iE 1 := ⟨by intro x u h; simp [iE] at h; rw [h]; rfl, fun _ => rfl⟩
instance encU : EncOk uE 1 := ⟨by intro x u h; simp [uE] at h; rw [h]; rfl, fun _ => rfl⟩
instance encP : EncOk pE 2 := ⟨by intro x u h; simp [pE] at h; rcases h with rfl | rfl <;> rfl, fun _ => rfl⟩
instance encS : EncOk sE 1 := ⟨by intro x u h; simp [sE] at h; rw [h]; rfl, fun _ => rfl⟩
instance encB : EncOk bE 1 := ⟨by intro x u h; simp [bE] at h; rw [h]; rfl, fun _ => rfl⟩

/-- a value of one cell -/
abbrev OV := {v : Value // v.oneCell' = true}
def tE (x : ByteArray × Int) : List Value := [.string x.1, .int .i64 x.2]
def nE {β : Type} (x : ByteArray × OV × β) : List Value := [.string x.1, x.2.1.1]
def oE {β : Type} (x : OV × β) : List Value := [x.1.1]
instance encT : EncOk tE 2 := ⟨by intro x u h; simp [tE] at h; rcases h with rfl | rfl <;> rfl, fun _ => rfl⟩
instance encN {β : Type} : EncOk (nE (β := β)) 2 := ⟨by intro x u h; simp [nE] at h; rcases h with rfl | rfl; rfl; exact x.2.1.2, fun _ => rfl⟩
instance encOV {β : Type} : EncOk (oE (β := β)) 1 := ⟨by intro x u h; simp [oE] at h; subst h; exact x.1.2, fun _ => rfl⟩
instance memB (y : ByteArray) (xs : List ByteArray) : Decidable (y ∈ xs) := decidable_of_iff (xs.any (fun x => decide (x = y)) = true) (by simp)
instance memT (y : ByteArray × Int) (xs : List (ByteArray × Int)) : Decidable (y ∈ xs) := decidable_of_iff (xs.any (fun x => decide (x = y)) = true) (by simp)
theorem valsEq_tE (a b : ByteArray × Int) : valsEq (tE a) (tE b) = decide (a = b) := by
  obtain ⟨a1, a2⟩ := a
  obtain ⟨b1, b2⟩ := b
  simp only [tE, valsEq, valEq, Bool.and_true, Prod.mk.injEq]
  by_cases h1 : a1 = b1
  · by_cases h2 : a2 = b2
    · simp [h1, h2]
    · simp [h1, h2]
  · simp [h1]
theorem ext_get {α : Type} {xs ys : List α} (hl : xs.length = ys.length) (h : ∀ j : Nat, j < xs.length → ∀ x y : α, xs[j]? = some x → ys[j]? = some y → x = y) : xs = ys := by
  apply List.ext_getElem hl
  intro i h1 h2
  exact h i h1 _ _ (List.getElem?_eq_getElem h1) (List.getElem?_eq_getElem h2)
theorem ne_get {α : Type} {xs ys : List α} {k : Nat} {x y : α} (hx : xs[k]? = some x) (hy : ys[k]? = some y) (h : x ≠ y) : xs ≠ ys := fun e => by
  subst e; rw [hx] at hy; exact h (Option.some.inj hy)
theorem take_next {α : Type} {xs : List α} {k : Nat} {x : α} (hx : xs[k]? = some x) : xs.take (k + 1) = xs.take k ++ [x] := by
  have hk := (List.getElem?_eq_some_iff.1 hx).1
  rw [List.take_succ_eq_append_getElem hk, (List.getElem?_eq_some_iff.1 hx).2]

section
variable {P : Program} {e : Env} {w : World} {d : Option Nat} {ty : TypeId} {p : String} {af : Array Edge}
def lessB (a b : ByteArray) : Bool := Op.bytesLess a.toList b.toList
theorem opv_geqS {x y : Operand} {t t' : TypeId} {a b : ByteArray} (hx : ev e x = .string a) (hy : ev e y = .string b) : OpV P ⟨d, .binOp .geq t x y t', ty, p, af, none⟩ e w (.bool (!lessB a b)) w := opv_geq_str hx hy
theorem opv_lssS {x y : Operand} {t t' : TypeId} {a b : ByteArray} (hx : ev e x = .string a) (hy : ev e y = .string b) : OpV P ⟨d, .binOp .lss t x y t', ty, p, af, none⟩ e w (.bool (lessB a b)) w := opv_lss_str hx hy
theorem opv_leqS {x y : Operand} {t t' : TypeId} {a b : ByteArray} (hx : ev e x = .string a) (hy : ev e y = .string b) : OpV P ⟨d, .binOp .leq t x y t', ty, p, af, none⟩ e w (.bool (lessB a b || decide (a = b))) w := by
  simp [OpV, execOp, hx, hy, binOp, eqGuard, Op.stringOp, str_eq, lessB]
theorem opv_min {x y : Operand} {t t' : TypeId} {a b : Int} (hx : ev e x = .int .i64 a) (hy : ev e y = .int .i64 b) : OpV P ⟨d, .call ⟨.builtin .min, #[x, y], #[t, t']⟩, ty, p, af, none⟩ e w (.int .i64 (if b < a then b else a)) w := by
  simp [OpV, execOp, resolve, invoke, builtin, hx, hy, Builtin.min_, Builtin.min2]
theorem opv_max {x y : Operand} {t t' : TypeId} {a b : Int} (hx : ev e x = .int .i64 a) (hy : ev e y = .int .i64 b) : OpV P ⟨d, .call ⟨.builtin .max, #[x, y], #[t, t']⟩, ty, p, af, none⟩ e w (.int .i64 (if a < b then b else a)) w := by
  simp [OpV, execOp, resolve, invoke, builtin, hx, hy, Builtin.max_, Builtin.max2]
theorem opv_conv_u {t s : TypeId} {D : TypeDesc} {x : Operand} {k : IntKind} {a : Int} [hs : TUnd P s D] [ht : TUnd P t (.int .u64)] (hx : ev e x = .int k a) (h : 0 ≤ a ∧ a ≤ 18446744073709551615) : OpV P ⟨d, .convert s t x, ty, p, af, none⟩ e w (.int .u64 a) w := by
  simp [OpV, execOp, hx, convert, run_underlying hs.out, run_underlying ht.out, Conv.intToInt, wrap_inu h]
theorem opv_conv_i {t s : TypeId} {D : TypeDesc} {x : Operand} {k : IntKind} {a : Int} [hs : TUnd P s D] [ht : TUnd P t (.int .i64)] (hx : ev e x = .int k a) (h : -9223372036854775808 ≤ a ∧ a ≤ 9223372036854775807) : OpV P ⟨d, .convert s t x, ty, p, af, none⟩ e w (.int .i64 a) w := by
  simp [OpV, execOp, hx, convert, run_underlying hs.out, run_underlying ht.out, Conv.intToInt, wrap_in h]
end
end Go.Eng
