/- Opening the arguments of the rows of layer 15. -/
import Derived.Test.YtaeckjhipmcddaaX2
import Derived.Test.YtaeckjhipmcddaaEo
import Derived.Test.YtaeckjhipmcddaaRows
import Derived.OpenShut
import Derived.ChangeSame
import Derived.Deep.Strs
set_option maxRecDepth 100000
namespace Go.Proofs.Ytaeckjhipmcddaa
open Go Go.Eng Go.ChangeShapes Go.WideShapes Go.ChangeAt Go.RowKit
theorem own_knob : ownKnob Try.prog.godebug = none := by kernel_rfl
theorem laid_out : laidOutB Try.prog = true := by kernel_rfl
theorem cells_int : Try.prog.cellsOf 3 = 1 := by kernel_rfl
theorem cells_u64 : Try.prog.cellsOf 26 = 1 := by kernel_rfl
theorem cells_do : Try.prog.cellsOf 90 = 3 := by kernel_rfl
theorem cells_dos : Try.prog.cellsOf 91 = 1 := by kernel_rfl
section
variable {H : Type} {enc : TypeId × Value → H} {W : World}
theorem open_u64s {base : Nat} {v : Value} {d : DataW H} {ps : List MemPlace} (hval : Value.okWide Try.prog W .any base 48 v) (h : DataW.Trod enc Try.prog W 0 (fun _ => true) true 48 v d ps) :
    ∃ xs : List Int, Rd W.heap 1 uE v xs ∧ (∀ x ∈ xs, 0 ≤ x ∧ x ≤ 18446744073709551615) ∧ ((d = .nil ∧ xs = []) ∨ ∃ es spr, d = .slice es spr ∧ es.length = xs.length) :=
  rd_open Try.underlying48 cells_u64 (fun _ => rfl) (fun n cs y hy => by
    obtain ⟨a, rfl, _, hw⟩ := DataW.trod_int Try.underlying26 hy
    exact ⟨a, rfl, Go.Eng.wf_u64 hw⟩) hval h
theorem open_progs {base : Nat} {v : Value} {d : DataW H} {ps : List MemPlace} (hval : Value.okWide Try.prog W .any base 53 v) (h : DataW.Trod enc Try.prog W 0 (fun _ => true) true 53 v d ps) :
    ∃ P : List (OV × List (Int × Int × Int)), Rd W.heap 1 oE v P ∧ (∀ y ∈ P, Rd W.heap 3 eE y.1.1 y.2) ∧ ∀ y ∈ P, ∀ q ∈ y.2, q.2.1 ≤ 9223372036854775807 := by
  obtain ⟨a0, len0, cap0, rfl⟩ := okWide_slice Try.underlying53 hval
  obtain ⟨fuel, hf⟩ := h
  obtain ⟨v, P, h1, h2, h3⟩ := Go.Eng.rd_openW (enc' := oE) (wf := fun (y : OV × List (Int × Int × Int)) => Rd W.heap 3 eE y.1.1 y.2 ∧ ∀ q ∈ y.2, q.2.1 ≤ 9223372036854775807) Try.underlying53 cells_dos (by decide) (fun _ => rfl) (fun n cs y hy => by
    obtain ⟨u, xs, h1, h2, h3⟩ := Go.Eng.rd_openW (enc' := eE) (wf := fun (q : Int × Int × Int) => q.2.1 ≤ 9223372036854775807) Try.underlying91 cells_do (by decide) (fun _ => rfl) (fun n cs y hy => by
      obtain ⟨y0, y1, y2, m, _, hl, g0, g1, g2⟩ := Deep.trod_struct3 Try.underlying90 hy
      rw [cells_do] at hl
      match cs, hl with
      | [c0, c1, c2], _ =>
        rw [cells_int] at g0 g1 g2
        obtain ⟨a, h0, _, w0⟩ := DataW.trod_int Try.underlying3 g0
        obtain ⟨b, h1, _, w1⟩ := DataW.trod_int Try.underlying3 g1
        obtain ⟨c, h2, _, w2⟩ := DataW.trod_int Try.underlying3 g2
        simp at h0 h1 h2
        subst h0; subst h1; subst h2
        exact ⟨(a, b, c), rfl, (wf_i64 w1).2⟩) hy
    exact ⟨(u, xs), h1, h2, h3⟩) hf
  simp [Value.cells] at h1
  rw [h1]
  exact ⟨P, h2, fun y hy => (h3 y hy).1, fun y hy => (h3 y hy).2⟩
end
end Go.Proofs.Ytaeckjhipmcddaa
