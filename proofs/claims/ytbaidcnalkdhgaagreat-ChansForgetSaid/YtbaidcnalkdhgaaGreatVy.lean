/- The row of ChansForget: the walk joined to the given statement. -/
import Derived.Test.YtbaidcnalkdhgaaGreatVr
import Derived.Test.YtbaidcnalkdhgaaGreatVt
set_option maxRecDepth 100000
namespace Go.Proofs.YtbaidcnalkdhgaaGreat
open Go Go.Eng Go.ChangeShapes Go.WideShapes Go.ChangeAt Go.RowKit

theorem chans_forget_lifted (os : Os) (started : os.Started) (H : Type) (enc : TypeId × Value → H) :
    ReturnsInHanded {} Tryz.checked os 6 .any (Rows.chansForgetSpec.pre6 enc Tryz.prog Tryz.f6 [] false) (Rows.chansForgetSpec.post enc Tryz.prog Tryz.f6 false true false false) := by
  refine lift_law (C := Tryz.checked) (tb := 4) started own_knob (by kernel_rfl) Tryz.func6 laid_out (by kernel_rfl) rfl Tryz.underlying4 ⟨rfl, fun H ds h => ?_⟩
    (ChangeSpec.witness6 (enc := enc) (C := Tryz.checked) false ⟨#[], #[.int .i64 0, .slice none 0 0, .int .i64 0], []⟩ 8 (by kernel_rfl) (by kernel_rfl) (by kernel_rfl) (by kernel_rfl)) ?_
  · match ds, h with
    | [_, _, _], _ => rfl
  intro W base args ds ps hval hA0 hsz
  have hA : DataW.TrodAll enc Tryz.prog W 0 (fun _ => true) true Tryz.f6.params.toList args.toList ds ps := hA0
  have hsz' : (DataW.weightsEach Tryz.prog Tryz.f6.params.toList ds).all (· ≤ reachBytes) = true := hsz
  rw [Tryz.params6] at hA hval hsz'
  obtain ⟨v0, v1, v2, d0, d1, d2, p0, p1, p2, rfl, rfl, rfl, h0, h1, h2⟩ := trodAll_three hA
  obtain ⟨a, rfl, rfl, rfl, wa⟩ := open_int Tryz.underlying3 (hval 0 3 v0 rfl rfl) h0
  obtain ⟨ys, hy, wy, ey⟩ := open_ints (hval 1 _ v1 rfl rfl) h1
  obtain ⟨b, rfl, rfl, rfl, wb⟩ := open_int Tryz.underlying3 (hval 2 3 v2 rfl rfl) h2
  exact forget16 W a b v1 ys hy (by obtain ⟨a, n, c, e⟩ := okWide_slice Tryz.underlying32 (hval 1 _ v1 rfl rfl); rw [e]; rfl)

theorem chans_forget_holds : Rows.ChansForgetSaid :=
  OpenClaim.holds_of_wide 6 Tryz.f6 rfl rfl rfl rfl rfl rfl rfl ⟨rfl, rfl, rfl, rfl, rfl⟩ rfl rfl rfl rfl rfl (by kernel_rfl) Tryz.func6 (by kernel_rfl)
    (of_decide_eq_true (by kernel_rfl)) (by unfold Func.isWrapper; first | (rw [if_pos (by decide +kernel)]; kernel_rfl) | (rw [if_neg (by decide +kernel)]; exact ⟨rfl, rfl⟩))
    (fun os started H enc _ => chans_forget_lifted os started H enc)

end Go.Proofs.YtbaidcnalkdhgaaGreat
