/- The row of ChansRun: the walk joined to the given statement. -/
import Derived.Test.YtbaidcnalkdhgaaGreatVt
set_option maxRecDepth 100000
namespace Go.Proofs.YtbaidcnalkdhgaaGreat
open Go Go.Eng Go.ChangeShapes Go.WideShapes Go.ChangeAt Go.RowKit

theorem chans_run_lifted (os : Os) (started : os.Started) (H : Type) (enc : TypeId × Value → H) :
    ReturnsInHanded {} Tryz.checked os 10 .any (Rows.chansRunSpec.pre6 enc Tryz.prog Tryz.f10 [] false) (Rows.chansRunSpec.post enc Tryz.prog Tryz.f10 false true false false) := by
  refine lift_law (C := Tryz.checked) (tb := 4) started own_knob (by kernel_rfl) Tryz.func10 laid_out (by kernel_rfl) rfl Tryz.underlying4 ⟨rfl, fun H ds h => ?_⟩
    (ChangeSpec.witness6 (enc := enc) (C := Tryz.checked) false ⟨#[], #[.slice none 0 0, .slice none 0 0, .slice none 0 0], []⟩ 8 (by kernel_rfl) (by kernel_rfl) (by kernel_rfl) (by kernel_rfl)) ?_
  · match ds, h with
    | [_, _, _], _ => rfl
  intro W base args ds ps hval hA0 hsz
  have hA : DataW.TrodAll enc Tryz.prog W 0 (fun _ => true) true Tryz.f10.params.toList args.toList ds ps := hA0
  have hsz' : (DataW.weightsEach Tryz.prog Tryz.f10.params.toList ds).all (· ≤ reachBytes) = true := hsz
  rw [Tryz.params10] at hA hval hsz'
  obtain ⟨v0, v1, v2, d0, d1, d2, p0, p1, p2, rfl, rfl, rfl, h0, h1, h2⟩ := trodAll_three hA
  obtain ⟨P, hP⟩ := open_progs (hval 0 _ v0 rfl rfl) h0
  obtain ⟨xs, hx, wx, ex⟩ := open_ints (hval 1 _ v1 rfl rfl) h1
  obtain ⟨ys, hy, wy, ey⟩ := open_u64s (hval 2 _ v2 rfl rfl) h2
  exact run16 W v0 v1 v2 P xs ys hP hx (by obtain ⟨a, n, c, e⟩ := okWide_slice Tryz.underlying32 (hval 1 _ v1 rfl rfl); rw [e]; rfl) hy wy (by obtain ⟨a, n, c, e⟩ := okWide_slice Tryz.underlying24 (hval 2 _ v2 rfl rfl); rw [e]; rfl)


theorem chans_run_holds : Rows.ChansRunSaid :=
  OpenClaim.holds_of_wide 10 Tryz.f10 rfl rfl rfl rfl rfl rfl rfl ⟨rfl, rfl, rfl, rfl, rfl⟩ rfl rfl rfl rfl rfl (by kernel_rfl) Tryz.func10 (by kernel_rfl)
    (of_decide_eq_true (by kernel_rfl)) (by unfold Func.isWrapper; first | (rw [if_pos (by decide +kernel)]; kernel_rfl) | (rw [if_neg (by decide +kernel)]; exact ⟨rfl, rfl⟩))
    (fun os started H enc _ => chans_run_lifted os started H enc)

end Go.Proofs.YtbaidcnalkdhgaaGreat
