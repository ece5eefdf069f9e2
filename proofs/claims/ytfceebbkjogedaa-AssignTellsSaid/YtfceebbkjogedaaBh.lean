/- The row of AssignTells: the walk joined to the given statement. -/
import Derived.Test.YtfceebbkjogedaaBf
import Derived.Test.YtfceebbkjogedaaBg
set_option maxRecDepth 100000
namespace Go.Proofs.Ytfceebbkjogedaa
open Go Go.Eng Go.ChangeShapes Go.WideShapes Go.ChangeAt Go.RowKit
section
variable {H : Type} {enc : TypeId × Value → H} {W : World}
theorem cells_plc : Try.prog.cellsOf 70 = 2 := by kernel_rfl
theorem open_place {base : Nat} {v : Value} {d : DataW H} {ps : List MemPlace} (hval : Value.okWide Try.prog W .any base 70 v) (h : DataW.Trod enc Try.prog W 0 (fun _ => true) true 70 v d ps) :
    ∃ x : ByteArray × Int, v = .agg (tE x).toArray ∧ x.1.size ≤ 9223372036854775807 := by
  obtain ⟨cs, rfl, _⟩ := okWide_struct Try.underlying70 hval
  obtain ⟨fuel, hf⟩ := h
  obtain ⟨y0, y1, m, _, hl, g0, g1⟩ := trod_struct2 Try.underlying70 hf
  rw [cells_plc] at hl
  have e : (Value.agg cs).cells = cs := rfl
  rw [e] at hl g0 g1
  obtain ⟨c0, c1, hc⟩ : ∃ c0 c1, cs.toList = [c0, c1] := by
    match cs.toList, hl with
    | [c0, c1], _ => exact ⟨c0, c1, rfl⟩
  rw [hc, cells_str] at g0
  rw [hc, cells_int] at g1
  obtain ⟨a, h0, _, w0⟩ := DataW.trod_string Try.underlying9 g0
  obtain ⟨b, h1, _, w1⟩ := DataW.trod_int Try.underlying3 g1
  simp at h0 h1
  subst h0; subst h1
  refine ⟨(a, b), ?_, by unfold maxLen at w0; exact w0⟩
  rw [← Array.toArray_toList (xs := cs), hc]
  rfl
end
theorem assign_tells_lifted (os : Os) (started : os.Started) (H : Type) (enc : TypeId × Value → H) :
    ReturnsInHanded {} Try.checked os 9 .any (Rows.assignTellsSpec.pre6 enc Try.prog Try.f9 [] false) (Rows.assignTellsSpec.post enc Try.prog Try.f9 false true false false) := by
  refine lift_law (C := Try.checked) (tb := 4) started own_knob (by kernel_rfl) Try.func9 laid_out (by kernel_rfl) rfl Try.underlying4 ⟨rfl, fun H ds h => ?_⟩
    (ChangeSpec.witness6 (enc := enc) (C := Try.checked) false ⟨#[], #[.slice none 0 0, .slice none 0 0, .agg #[.string ⟨#[]⟩, .int .i64 0]], []⟩ 8 (by kernel_rfl) (by kernel_rfl) (by kernel_rfl) (by kernel_rfl)) ?_
  · match ds, h with
    | [_, _, _], _ => rfl
  intro W base args ds ps hval hA0 hsz
  have hA : DataW.TrodAll enc Try.prog W 0 (fun _ => true) true Try.f9.params.toList args.toList ds ps := hA0
  have hsz' : (DataW.weightsEach Try.prog Try.f9.params.toList ds).all (· ≤ reachBytes) = true := hsz
  rw [Try.params9] at hA hval hsz'
  obtain ⟨v0, v1, v2, d0, d1, d2, p0, p1, p2, rfl, rfl, rfl, h0, h1, h2⟩ := trodAll_three hA
  obtain ⟨xs, hx, wx, ex⟩ := open_topics (hval 0 _ v0 rfl rfl) h0
  obtain ⟨ys, hy, ey⟩ := open_subsD (hval 1 _ v1 rfl rfl) h1 (fun k hk => by
    have := List.all_eq_true.1 hsz' k (DataW.weights_mem_each (j := 1) rfl rfl k hk)
    simpa using this)
  obtain ⟨z, rfl, hz⟩ := open_place (hval 2 _ v2 rfl rfl) h2
  exact tells27 v0 v1 z xs ys W hx hy (fun t ht => (wx t ht).1) ey hz

theorem assign_tells_holds : Rows.AssignTellsSaid :=
  OpenClaim.holds_of_wide 9 Try.f9 rfl rfl rfl rfl rfl rfl rfl ⟨rfl, rfl, rfl, rfl, rfl⟩ rfl rfl rfl rfl rfl (by kernel_rfl) Try.func9 (by kernel_rfl)
    (of_decide_eq_true (by kernel_rfl)) (by unfold Func.isWrapper; first | (rw [if_pos (by decide +kernel)]; kernel_rfl) | (rw [if_neg (by decide +kernel)]; exact ⟨rfl, rfl⟩))
    (fun os started H enc _ => assign_tells_lifted os started H enc)

end Go.Proofs.Ytfceebbkjogedaa
