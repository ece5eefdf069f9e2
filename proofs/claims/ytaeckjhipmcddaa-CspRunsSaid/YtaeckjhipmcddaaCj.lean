/- Layer 15: what a task goes on with. -/
import Derived.Test.YtaeckjhipmcddaaCi
set_option maxRecDepth 100000
namespace Go.Proofs.Ytaeckjhipmcddaa
open Go Go.Eng
abbrev pt (b : Nat) : Value := .pointer (some ⟨b, 0, none⟩)
/-- the boxes of a turn: its world, its task, its program -/
structure Bxs (h : Array Obj) (K : Nat → Prop) (wb tb prog wx tx px : Nat) : Prop where
  kw : K wx
  kt : K tx
  kp : K px
  bw : Blk h wx [pt wb] 54
  bt : Blk h tx [pt tb] 64
  bp : Blk h px [.int .i64 prog] 3
/-- a box of a number -/
structure Bxi (h : Array Obj) (K : Nat → Prop) (b : Nat) (n : Int) : Prop where
  k : K b
  b : Blk h b [.int .i64 n] 3
def RepW (h : Array Obj) (K : Nat → Prop) (wb tb : Nat) (v : Value) (prog pos : Nat) : Prop := ∃ wx tx px ax c : Nat, v = .func (.func 85) #[] #[pt wx, pt tx, pt px, pt ax] ∧ Bxs h K wb tb prog wx tx px ∧ Bxi h K ax c ∧ pos = c + 1
def RepN (h : Array Obj) (K : Nat → Prop) (wb tb : Nat) (v : Value) (prog pos : Nat) (why : Int) : Prop :=
  (∃ fb ty wx px : Nat, v = .func (.func 71) #[] #[pt fb, pt ty] ∧ K fb ∧ K ty ∧ K wx ∧ K px ∧ Blk h fb [.func (.func 63) #[] #[pt wx, pt px]] 78 ∧ Blk h ty [pt tb] 64 ∧ Blk h wx [pt wb] 54 ∧ Blk h px [.int .i64 prog] 3 ∧ pos = 0 ∧ why = 0) ∨
  (∃ wx tx px ax c : Nat, v = .func (.func 84) #[] #[pt wx, pt tx, pt px, pt ax] ∧ Bxs h K wb tb prog wx tx px ∧ Bxi h K ax c ∧ pos = c + 1 ∧ why = 0) ∨
  (∃ (fb yx : Nat) (u : Value), v = .func (.func 74) #[] #[pt fb, pt yx] ∧ K fb ∧ Blk h fb [u] 73 ∧ RepW h K wb tb u prog pos ∧ Bxi h K yx why)
structure TkOk (h : Array Obj) (K : Nat → Prop) (wb : Nat) (x : Nat × TK) (a : AT) : Prop where
  over : x.2.over = decide (a.st = 0)
  parked : x.2.parked = decide (a.st = 3)
  nx : a.st = 1 → RepN h K wb x.1 x.2.next.1 a.prog a.pos a.why
  wk : a.st = 3 → RepW h K wb x.1 x.2.wake.1 a.prog a.pos
section
variable {K K' : Nat → Prop} {F : Nat → Prop} {w w' : World} {wb tb : Nat}
theorem Bxs.fr {prog wx tx px : Nat} (s : Bxs w.heap K wb tb prog wx tx px) (hf : Fr F w w') (hF : ∀ k, K k → ¬ F k) (hK : ∀ k, K k → K' k) : Bxs w'.heap K' wb tb prog wx tx px :=
  ⟨hK _ s.kw, hK _ s.kt, hK _ s.kp, s.bw.fr hf (hF _ s.kw), s.bt.fr hf (hF _ s.kt), s.bp.fr hf (hF _ s.kp)⟩
theorem Bxi.fr {b : Nat} {n : Int} (s : Bxi w.heap K b n) (hf : Fr F w w') (hF : ∀ k, K k → ¬ F k) (hK : ∀ k, K k → K' k) : Bxi w'.heap K' b n := ⟨hK _ s.k, s.b.fr hf (hF _ s.k)⟩
theorem RepW.fr {v : Value} {prog pos : Nat} (s : RepW w.heap K wb tb v prog pos) (hf : Fr F w w') (hF : ∀ k, K k → ¬ F k) (hK : ∀ k, K k → K' k) : RepW w'.heap K' wb tb v prog pos := by
  obtain ⟨wx, tx, px, ax, c, h1, h2, h3, h4⟩ := s
  exact ⟨wx, tx, px, ax, c, h1, h2.fr hf hF hK, h3.fr hf hF hK, h4⟩
theorem RepN.fr {v : Value} {prog pos : Nat} {why : Int} (s : RepN w.heap K wb tb v prog pos why) (hf : Fr F w w') (hF : ∀ k, K k → ¬ F k) (hK : ∀ k, K k → K' k) : RepN w'.heap K' wb tb v prog pos why := by
  rcases s with ⟨fb, ty, wx, px, h1, k1, k2, k3, k4, b1, b2, b3, b4, h2⟩ | ⟨wx, tx, px, ax, c, h1, h2, h3, h4⟩ | ⟨fb, yx, u, h1, k1, b1, h2, h3⟩
  · exact .inl ⟨fb, ty, wx, px, h1, hK _ k1, hK _ k2, hK _ k3, hK _ k4, b1.fr hf (hF _ k1), b2.fr hf (hF _ k2), b3.fr hf (hF _ k3), b4.fr hf (hF _ k4), h2⟩
  · exact .inr (.inl ⟨wx, tx, px, ax, c, h1, h2.fr hf hF hK, h3.fr hf hF hK, h4⟩)
  · exact .inr (.inr ⟨fb, yx, u, h1, hK _ k1, b1.fr hf (hF _ k1), h2.fr hf hF hK, h3.fr hf hF hK⟩)
theorem TkOk.fr {x : Nat × TK} {a : AT} (s : TkOk w.heap K wb x a) (hf : Fr F w w') (hF : ∀ k, K k → ¬ F k) (hK : ∀ k, K k → K' k) : TkOk w'.heap K' wb x a :=
  ⟨s.over, s.parked, fun h => (s.nx h).fr hf hF hK, fun h => (s.wk h).fr hf hF hK⟩
end
/-- all tasks but the running one -/
def TsOk (h : Array Obj) (K : Nat → Prop) (wb : Nat) (run : Option Nat) (ts : List (Nat × TK)) (al : List AT) : Prop := ts.length = al.length ∧ ∀ (i : Nat) x a, some i ≠ run → ts[i]? = some x → al[i]? = some a → TkOk h K wb x a
theorem TsOk.fr {K K' F : Nat → Prop} {w w' : World} {wb : Nat} {run : Option Nat} {ts : List (Nat × TK)} {al : List AT} (s : TsOk w.heap K wb run ts al) (hf : Fr F w w') (hF : ∀ k, K k → ¬ F k) (hK : ∀ k, K k → K' k) : TsOk w'.heap K' wb run ts al :=
  ⟨s.1, fun i x a hr hx ha => (s.2 i x a hr hx ha).fr hf hF hK⟩
end Go.Proofs.Ytaeckjhipmcddaa
