/- The row of ProducerOnce: the walk joined to the given statement. -/
import Derived.Test.YtffgecomdlnngaaX4
import Derived.Test.YtffgecomdlnngaaEo
import Derived.Test.YtffgecomdlnngaaEr
import Derived.Test.YtffgecomdlnngaaRows
import Derived.OpenShut
import Derived.ChangeSame
import Derived.Deep.Strs
import Derived.Lib.SmallJoins
set_option maxRecDepth 100000
namespace Go.Proofs.Ytffgecomdlnngaa
open Go Go.Eng Go.ChangeShapes Go.WideShapes Go.ChangeAt Go.RowKit

theorem own_knob : ownKnob Try.prog.godebug = none := by kernel_rfl
theorem laid_out : laidOutB Try.prog = true := by kernel_rfl
theorem cells_intO : Try.prog.cellsOf 3 = 1 := by kernel_rfl
theorem cells_cm : Try.prog.cellsOf 29 = 4 := by kernel_rfl
section
variable {H : Type} {enc : TypeId × Value → H} {W : World}
theorem open_comes {base : Nat} {v : Value} {d : DataW H} {ps : List MemPlace} (hval : Value.okWide Try.prog W .any base 22 v) (h : DataW.Trod enc Try.prog W 0 (fun _ => true) true 22 v d ps) :
    ∃ l : List (Int × Int × Int × Int), Rd W.heap 4 cmE v l := by
  obtain ⟨a0, len0, cap0, rfl⟩ := okWide_slice Try.underlying22 hval
  obtain ⟨fuel, hf⟩ := h
  obtain ⟨v, l, h1, h2, _⟩ := Go.Eng.rd_openW (enc' := cmE) (wf := fun _ => True) Try.underlying22 cells_cm (by decide) (fun _ => rfl) (fun n cs y hy => by
    obtain ⟨y0, y1, y2, y3, m, _, hl, g0, g1, g2, g3⟩ := Go.Joins.trod_struct4 Try.underlying29 hy
    rw [cells_cm] at hl
    match cs, hl with
    | [c0, c1, c2, c3], _ =>
      rw [cells_intO] at g0 g1 g2 g3
      obtain ⟨a, h0, _, w0⟩ := DataW.trod_int Try.underlying3 g0
      obtain ⟨b, h1, _, w1⟩ := DataW.trod_int Try.underlying3 g1
      obtain ⟨c, h2, _, w2⟩ := DataW.trod_int Try.underlying3 g2
      obtain ⟨d, h3, _, w3⟩ := DataW.trod_int Try.underlying3 g3
      simp at h0 h1 h2 h3
      subst h0; subst h1; subst h2; subst h3
      exact ⟨(a, b, c, d), rfl, trivial⟩) hf
  simp [Value.cells] at h1
  rw [h1]
  exact ⟨l, h2⟩
end
theorem producer_once_lifted (os : Os) (started : os.Started) (H : Type) (enc : TypeId × Value → H) :
    ReturnsInHanded {} Try.checked os 3 .any (Rows.producerOnceSpec.pre6 enc Try.prog Try.f3 [] false) (Rows.producerOnceSpec.post enc Try.prog Try.f3 false true false false) := by
  refine lift_law (C := Try.checked) (tb := 4) started own_knob (by kernel_rfl) Try.func3 laid_out (by kernel_rfl) rfl Try.underlying4 ⟨rfl, fun H ds h => ?_⟩
    (ChangeSpec.witness6 (enc := enc) (C := Try.checked) false ⟨#[], #[.slice none 0 0], []⟩ 8 (by kernel_rfl) (by kernel_rfl) (by kernel_rfl) (by kernel_rfl)) ?_
  · match ds, h with
    | [_], _ => rfl
  intro W base args ds ps hval hA0 hsz
  have hA : DataW.TrodAll enc Try.prog W 0 (fun _ => true) true Try.f3.params.toList args.toList ds ps := hA0
  have hsz' : (DataW.weightsEach Try.prog Try.f3.params.toList ds).all (· ≤ reachBytes) = true := hsz
  rw [Try.params3] at hA hval hsz'
  obtain ⟨v0, d0, rfl, rfl, h0⟩ := trodAll_one hA
  obtain ⟨l, hl⟩ := open_comes (hval 0 _ v0 rfl rfl) h0
  exact once25 v0 l W hl

theorem producer_once_holds : Rows.ProducerOnceSaid :=
  OpenClaim.holds_of_wide 3 Try.f3 rfl rfl rfl rfl rfl rfl rfl ⟨rfl, rfl, rfl, rfl, rfl⟩ rfl rfl rfl rfl rfl (by kernel_rfl) Try.func3 (by kernel_rfl)
    (of_decide_eq_true (by kernel_rfl)) (by unfold Func.isWrapper; first | (rw [if_pos (by decide +kernel)]; kernel_rfl) | (rw [if_neg (by decide +kernel)]; exact ⟨rfl, rfl⟩))
    (fun os started H enc _ => producer_once_lifted os started H enc)

end Go.Proofs.Ytffgecomdlnngaa
