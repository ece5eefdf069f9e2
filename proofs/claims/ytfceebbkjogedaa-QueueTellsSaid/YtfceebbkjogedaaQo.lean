/- Opening a list of a law's calls (structs of two numbers). -/
import Derived.Test.YtfceebbkjogedaaQs
import Derived.Test.YtfceebbkjogedaaQm
import Derived.ChangeSame
set_option maxRecDepth 100000
namespace Go.Proofs.Ytfceebbkjogedaa
open Go Go.Eng Go.ChangeShapes Go.WideShapes Go.ChangeAt Go.RowKit

theorem cells_op : Try.prog.cellsOf 42 = 2 := by kernel_rfl
section
variable {H : Type} {enc : TypeId × Value → H} {W : World}
theorem open_list_op {base : Nat} {v : Value} {d : DataW H} {ps : List MemPlace} (hval : Value.okWide Try.prog W .any base 38 v) (h : DataW.Trod enc Try.prog W 0 (fun _ => true) true 38 v d ps) :
    ∃ xs : List (Int × Int), Rd W.heap 2 pE v xs ∧ (∀ x ∈ xs, wfI x.1 ∧ wfI x.2) ∧ ((d = .nil ∧ xs = []) ∨ ∃ es spr, d = .slice es spr ∧ es.length = xs.length) :=
  rd_open Try.underlying38 cells_op (fun _ => rfl) (fun n cs y hy => by
    obtain ⟨y0, y1, m, _, hl, g0, g1⟩ := trod_struct2 Try.underlying42 hy
    rw [cells_op] at hl
    match cs, hl with
    | [c0, c1], _ =>
      rw [cells_int] at g0 g1
      obtain ⟨a, h0, _, w0⟩ := DataW.trod_int Try.underlying3 g0
      obtain ⟨b, h1, _, w1⟩ := DataW.trod_int Try.underlying3 g1
      simp at h0 h1
      subst h0; subst h1
      exact ⟨(a, b), rfl, wf_i64 w0, wf_i64 w1⟩) hval h
end
end Go.Proofs.Ytfceebbkjogedaa
