/- The row of ClientGivesUp: the walk joined to the given statement. -/
import Derived.Test.YtchfaeaagpemlaaX4
import Derived.Test.YtchfaeaagpemlaaX7
set_option maxRecDepth 100000
namespace Go.Proofs.Ytchfaeaagpemlaa
open Go Go.Eng Go.ChangeShapes Go.WideShapes Go.ChangeAt Go.RowKit

theorem client_gives_lifted (os : Os) (started : os.Started) (H : Type) (enc : TypeId × Value → H) :
    ReturnsInHanded {} Try.checked os 3 .any (Rows.clientGivesUpSpec.pre6 enc Try.prog Try.f3 [] false) (Rows.clientGivesUpSpec.post enc Try.prog Try.f3 false true false false) := by
  refine lift_law (C := Try.checked) (tb := 4) started own_knob (by kernel_rfl) Try.func3 laid_out (by kernel_rfl) rfl Try.underlying4 ⟨rfl, fun H ds h => ?_⟩
    (ChangeSpec.witness6 (enc := enc) (C := Try.checked) false ⟨#[], #[.agg #[.int .i64 0, .int .i64 0, .int .i64 0, .int .i64 0, .int .i64 0, .slice none 0 0, .int .i64 0, .int .i64 0, .bool false, .slice none 0 0]], []⟩ 8 (by kernel_rfl) (by kernel_rfl) (by kernel_rfl) (by kernel_rfl)) ?_
  · match ds, h with
    | [_], _ => rfl
  intro W base args ds ps hval hA0 hsz
  have hA : DataW.TrodAll enc Try.prog W 0 (fun _ => true) true Try.f3.params.toList args.toList ds ps := hA0
  have hsz' : (DataW.weightsEach Try.prog Try.f3.params.toList ds).all (· ≤ reachBytes) = true := hsz
  rw [Try.params3] at hA hval hsz'
  obtain ⟨v0, d0, rfl, rfl, h0⟩ := trodAll_one hA
  obtain ⟨c, rfl, hc, hs, hz⟩ := open_cl (hval 0 _ v0 rfl rfl) h0 (fun k hk => by
    have := List.all_eq_true.1 hsz' k (DataW.weights_mem_each (j := 0) rfl rfl k hk)
    simpa using this)
  exact gives31 c W hc (fun x hx => ⟨(hs x hx).1, Nat.le_trans (hs x hx).2 (by decide)⟩) (fun s h => Nat.le_trans (hz s h) (by decide))

theorem client_gives_holds : Rows.ClientGivesUpSaid :=
  OpenClaim.holds_of_wide 3 Try.f3 rfl rfl rfl rfl rfl rfl rfl ⟨rfl, rfl, rfl, rfl, rfl⟩ rfl rfl rfl rfl rfl (by kernel_rfl) Try.func3 (by kernel_rfl)
    (of_decide_eq_true (by kernel_rfl)) (by unfold Func.isWrapper; first | (rw [if_pos (by decide +kernel)]; kernel_rfl) | (rw [if_neg (by decide +kernel)]; exact ⟨rfl, rfl⟩))
    (fun os started H enc _ => client_gives_lifted os started H enc)

end Go.Proofs.Ytchfaeaagpemlaa
