/-
  The engine, further: how lists of numbers, texts, truth values lie in memory; conversions of numbers; plain lemmas on lists.
-/
import Derived.Test.YtbaidcnalkdhgaaGreatEs
namespace Go.Eng
open Go
def iE (n : Int) : List Value := [.int .i64 n]
def uE (n : Int) : List Value := [.int .u64 n]
def bE (b : Bool) : List Value := [.bool b]
instance encI : EncOk iE 1 := ⟨by intro x u h; simp [iE] at h; rw [h]; rfl, fun _ => rfl⟩
instance encU : EncOk uE 1 := ⟨by intro x u h; simp [uE] at h; rw [h]; rfl, fun _ => rfl⟩
instance encB : EncOk bE 1 := ⟨by intro x u h; simp [bE] at h; rw [h]; rfl, fun _ => rfl⟩

/-- a value of one cell -/
abbrev OV := {v : Value // v.oneCell' = true}
def oE {β : Type} (x : OV × β) : List Value := [x.1.1]
instance encOV {β : Type} : EncOk (oE (β := β)) 1 := ⟨by intro x u h; simp [oE] at h; subst h; exact x.1.2, fun _ => rfl⟩
theorem ext_get {α : Type} {xs ys : List α} (hl : xs.length = ys.length) (h : ∀ j : Nat, j < xs.length → ∀ x y : α, xs[j]? = some x → ys[j]? = some y → x = y) : xs = ys := by
  apply List.ext_getElem hl
  intro i h1 h2
  exact h i h1 _ _ (List.getElem?_eq_getElem h1) (List.getElem?_eq_getElem h2)
theorem ne_get {α : Type} {xs ys : List α} {k : Nat} {x y : α} (hx : xs[k]? = some x) (hy : ys[k]? = some y) (h : x ≠ y) : xs ≠ ys := fun e => by
  subst e; rw [hx] at hy; exact h (Option.some.inj hy)
theorem take_next {α : Type} {xs : List α} {k : Nat} {x : α} (hx : xs[k]? = some x) : xs.take (k + 1) = xs.take k ++ [x] := by
  have hk := (List.getElem?_eq_some_iff.1 hx).1
  rw [List.take_succ_eq_append_getElem hk, (List.getElem?_eq_some_iff.1 hx).2]

section
variable {P : Program} {e : Env} {w : World} {d : Option Nat} {ty : TypeId} {p : String} {af : Array Edge}
theorem opv_conv_u {t s : TypeId} {D : TypeDesc} {x : Operand} {k : IntKind} {a : Int} [hs : TUnd P s D] [ht : TUnd P t (.int .u64)] (hx : ev e x = .int k a) (h : 0 ≤ a ∧ a ≤ 18446744073709551615) : OpV P ⟨d, .convert s t x, ty, p, af, none⟩ e w (.int .u64 a) w := by
  simp [OpV, execOp, hx, convert, run_underlying hs.out, run_underlying ht.out, Conv.intToInt, wrap_inu h]
theorem opv_conv_i {t s : TypeId} {D : TypeDesc} {x : Operand} {k : IntKind} {a : Int} [hs : TUnd P s D] [ht : TUnd P t (.int .i64)] (hx : ev e x = .int k a) (h : -9223372036854775808 ≤ a ∧ a ≤ 9223372036854775807) : OpV P ⟨d, .convert s t x, ty, p, af, none⟩ e w (.int .i64 a) w := by
  simp [OpV, execOp, hx, convert, run_underlying hs.out, run_underlying ht.out, Conv.intToInt, wrap_in h]
end
end Go.Eng
