/- The row of ChansOrder: the walk joined to the given statement. -/
import Derived.Test.YtbaidcnalkdhgaaGreatUp
set_option maxRecDepth 100000
namespace Go.Proofs.YtbaidcnalkdhgaaGreat
open Go Go.Eng Go.ChangeShapes Go.WideShapes Go.ChangeAt Go.RowKit

theorem chans_order_lifted (os : Os) (started : os.Started) (H : Type) (enc : TypeId × Value → H) :
    ReturnsInHanded {} Tryz.checked os 3 .any (Rows.chansOrderSpec.pre6 enc Tryz.prog Tryz.f3 [] false) (Rows.chansOrderSpec.post enc Tryz.prog Tryz.f3 false true false false) := by
  refine lift_law (C := Tryz.checked) (tb := 4) started own_knob (by kernel_rfl) Tryz.func3 laid_out (by kernel_rfl) rfl Tryz.underlying4 ⟨rfl, fun H ds h => ?_⟩
    (ChangeSpec.witness6 (enc := enc) (C := Tryz.checked) false ⟨#[], #[.agg #[.int .i64 0, .int .i64 0, .int .i64 0], .slice none 0 0], []⟩ 8 (by kernel_rfl) (by kernel_rfl) (by kernel_rfl) (by kernel_rfl)) ?_
  · match ds, h with
    | [_, _], _ => rfl
  intro W base args ds ps hval hA0 hsz
  have hA : DataW.TrodAll enc Tryz.prog W 0 (fun _ => true) true Tryz.f3.params.toList args.toList ds ps := hA0
  have hsz' : (DataW.weightsEach Tryz.prog Tryz.f3.params.toList ds).all (· ≤ reachBytes) = true := hsz
  rw [Tryz.params3] at hA hval hsz'
  obtain ⟨v0, v1, d0, d1, p0, p1, rfl, rfl, rfl, h0, h1⟩ := trodAll_two hA
  obtain ⟨a, b, c, rfl⟩ := open_crowd (hval 0 _ v0 rfl rfl) h0
  obtain ⟨ys, hy, wy, ey⟩ := open_u64s (hval 1 _ v1 rfl rfl) h1
  exact order16 W v1 a b c ys hy wy (by obtain ⟨a, n, c, e⟩ := okWide_slice Tryz.underlying24 (hval 1 _ v1 rfl rfl); rw [e]; rfl)

theorem chans_order_holds : Rows.ChansOrderSaid :=
  OpenClaim.holds_of_wide 3 Tryz.f3 rfl rfl rfl rfl rfl rfl rfl ⟨rfl, rfl, rfl, rfl, rfl⟩ rfl rfl rfl rfl rfl (by kernel_rfl) Tryz.func3 (by kernel_rfl)
    (of_decide_eq_true (by kernel_rfl)) (by unfold Func.isWrapper; first | (rw [if_pos (by decide +kernel)]; kernel_rfl) | (rw [if_neg (by decide +kernel)]; exact ⟨rfl, rfl⟩))
    (fun os started H enc _ => chans_order_lifted os started H enc)

end Go.Proofs.YtbaidcnalkdhgaaGreat
