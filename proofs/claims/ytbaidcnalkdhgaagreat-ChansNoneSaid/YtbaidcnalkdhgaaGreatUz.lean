/- The row of ChansNone: the walk joined to the given statement. -/
import Derived.Test.YtbaidcnalkdhgaaGreatUw
import Derived.Test.YtbaidcnalkdhgaaGreatEo
import Derived.Test.YtbaidcnalkdhgaaGreatRows
import Derived.OpenShut
import Derived.ChangeSame
import Derived.Deep.Strs
set_option maxRecDepth 100000
namespace Go.Proofs.YtbaidcnalkdhgaaGreat
open Go Go.Eng Go.ChangeShapes Go.WideShapes Go.ChangeAt Go.RowKit
theorem own_knob : ownKnob Tryz.prog.godebug = none := by kernel_rfl
theorem laid_out : laidOutB Tryz.prog = true := by kernel_rfl

theorem chans_none_lifted (os : Os) (started : os.Started) (H : Type) (enc : TypeId × Value → H) :
    ReturnsInHanded {} Tryz.checked os 12 .any (Rows.chansNoneSpec.pre6 enc Tryz.prog Tryz.f12 [] false) (Rows.chansNoneSpec.post enc Tryz.prog Tryz.f12 false true false false) := by
  refine lift_law (C := Tryz.checked) (tb := 4) started own_knob (by kernel_rfl) Tryz.func12 laid_out (by kernel_rfl) rfl Tryz.underlying4 ⟨rfl, fun H ds h => ?_⟩
    (ChangeSpec.witness6 (enc := enc) (C := Tryz.checked) false ⟨#[], #[.int .i64 0], []⟩ 8 (by kernel_rfl) (by kernel_rfl) (by kernel_rfl) (by kernel_rfl)) ?_
  · match ds, h with
    | [_], _ => rfl
  intro W base args ds ps hval hA0 hsz
  have hA : DataW.TrodAll enc Tryz.prog W 0 (fun _ => true) true Tryz.f12.params.toList args.toList ds ps := hA0
  have hsz' : (DataW.weightsEach Tryz.prog Tryz.f12.params.toList ds).all (· ≤ reachBytes) = true := hsz
  rw [Tryz.params12] at hA hval hsz'
  obtain ⟨v0, d0, rfl, rfl, h0⟩ := trodAll_one hA
  obtain ⟨b, rfl, rfl, rfl, wb⟩ := open_int Tryz.underlying3 (hval 0 3 v0 rfl rfl) h0
  exact none16 b


theorem chans_none_holds : Rows.ChansNoneSaid :=
  OpenClaim.holds_of_wide 12 Tryz.f12 rfl rfl rfl rfl rfl rfl rfl ⟨rfl, rfl, rfl, rfl, rfl⟩ rfl rfl rfl rfl rfl (by kernel_rfl) Tryz.func12 (by kernel_rfl)
    (of_decide_eq_true (by kernel_rfl)) (by unfold Func.isWrapper; first | (rw [if_pos (by decide +kernel)]; kernel_rfl) | (rw [if_neg (by decide +kernel)]; exact ⟨rfl, rfl⟩))
    (fun os started H enc _ => chans_none_lifted os started H enc)

end Go.Proofs.YtbaidcnalkdhgaaGreat
