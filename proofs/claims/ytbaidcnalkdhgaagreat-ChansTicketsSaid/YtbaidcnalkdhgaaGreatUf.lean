/- The row of ChansTickets: the walk joined to the given statement. -/
import Derived.Test.YtbaidcnalkdhgaaGreatUe
set_option maxRecDepth 100000
namespace Go.Proofs.YtbaidcnalkdhgaaGreat
open Go Go.Eng Go.ChangeShapes Go.WideShapes Go.ChangeAt Go.RowKit

theorem chans_tickets_lifted (os : Os) (started : os.Started) (H : Type) (enc : TypeId × Value → H) :
    ReturnsInHanded {} Tryz.checked os 5 .any (Rows.chansTicketsSpec.pre6 enc Tryz.prog Tryz.f5 [] false) (Rows.chansTicketsSpec.post enc Tryz.prog Tryz.f5 false true false false) := by
  refine lift_law (C := Tryz.checked) (tb := 4) started own_knob (by kernel_rfl) Tryz.func5 laid_out (by kernel_rfl) rfl Tryz.underlying4 ⟨rfl, fun H ds h => ?_⟩
    (ChangeSpec.witness6 (enc := enc) (C := Tryz.checked) false ⟨#[], #[.slice none 0 0], []⟩ 8 (by kernel_rfl) (by kernel_rfl) (by kernel_rfl) (by kernel_rfl)) ?_
  · match ds, h with
    | [_], _ => rfl
  intro W base args ds ps hval hA0 hsz
  have hA : DataW.TrodAll enc Tryz.prog W 0 (fun _ => true) true Tryz.f5.params.toList args.toList ds ps := hA0
  have hsz' : (DataW.weightsEach Tryz.prog Tryz.f5.params.toList ds).all (· ≤ reachBytes) = true := hsz
  rw [Tryz.params5] at hA hval hsz'
  obtain ⟨v0, d0, rfl, rfl, h0⟩ := trodAll_one hA
  obtain ⟨ys, hy⟩ := open_a3s (hval 0 _ v0 rfl rfl) h0
  exact tickets16 W v0 ys hy (by obtain ⟨a, n, c, e⟩ := okWide_slice Tryz.underlying68 (hval 0 _ v0 rfl rfl); rw [e]; rfl)

theorem chans_tickets_holds : Rows.ChansTicketsSaid :=
  OpenClaim.holds_of_wide 5 Tryz.f5 rfl rfl rfl rfl rfl rfl rfl ⟨rfl, rfl, rfl, rfl, rfl⟩ rfl rfl rfl rfl rfl (by kernel_rfl) Tryz.func5 (by kernel_rfl)
    (of_decide_eq_true (by kernel_rfl)) (by unfold Func.isWrapper; first | (rw [if_pos (by decide +kernel)]; kernel_rfl) | (rw [if_neg (by decide +kernel)]; exact ⟨rfl, rfl⟩))
    (fun os started H enc _ => chans_tickets_lifted os started H enc)

end Go.Proofs.YtbaidcnalkdhgaaGreat
