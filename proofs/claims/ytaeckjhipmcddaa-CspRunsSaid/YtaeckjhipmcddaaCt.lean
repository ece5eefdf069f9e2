/- Layer 15: what a task goes on with comes to a turn. -/
import Derived.Test.YtaeckjhipmcddaaCs
set_option maxRecDepth 100000
namespace Go.Proofs.Ytaeckjhipmcddaa
open Go Go.Eng
section
variable {K : Nat → Prop} {w : World} {wb tb prog pos : Nat} {v : Value}
theorem wake_calls (W : RepW w.heap K wb tb v prog pos) (hpos : pos ≤ 1000000) : ∃ (g : FuncId) (cap : List Value), v = .func (.func g) #[] cap.toArray ∧ FnOk Try.prog g ∧ ∀ (why : Int) (R : Value → World → Prop), (Rets Try.prog 64 #[pt wb, pt tb, .int .i64 prog, .int .i64 pos, .int .i64 why] w fun u w' => R (.tuple #[]) w') → Rets Try.prog g (.int .i64 why :: cap).toArray w R := by
  obtain ⟨wx, tx, px, ax, c, rfl, B, I, rfl⟩ := W
  refine ⟨85, [pt wx, pt tx, pt px, pt ax], rfl, inferInstance, fun why R h => ?_⟩
  have bw := B.bw
  have bt := B.bt
  have bp := B.bp
  have ba := I.b
  refine rets_of Try.func85 rfl Try.ntmps85 rfl rfl (by kernel_rfl) ?_
  (apply vC_region; (iterate 4 (((apply vL_val); (case h => ((apply opv_loadb1); exact rfl; exact rfl; (first | assumption | infer_instance); exact rfl))))); ((apply vL_val); (case h => ((apply opv_add); exact rfl; exact rfl; (first | omega | (simp only [List.length_map]; omega))))); ((apply vL_val); (case h => ((apply opv_E); exact rfl))))
  refine vL_callF rfl (h) rfl ?_
  intro u w' hR
  (apply vL_nil)
  (first | apply ret0 | apply ret0n)
  exact hR
theorem next_calls {why : Int} (N : RepN w.heap K wb tb v prog pos why) (hpos : pos ≤ 1000000) : ∃ (g : FuncId) (cap : List Value), v = .func (.func g) #[] cap.toArray ∧ FnOk Try.prog g ∧ ∀ R : Value → World → Prop, (Rets Try.prog 64 #[pt wb, pt tb, .int .i64 prog, .int .i64 pos, .int .i64 why] w fun u w' => R (.tuple #[]) w') → Rets Try.prog g cap.toArray w R := by
  rcases N with ⟨fb, ty, wx, px, rfl, k1, k2, k3, k4, b1, b2, b3, b4, rfl, rfl⟩ | ⟨wx, tx, px, ax, c, rfl, B, I, rfl, rfl⟩ | ⟨fb, yx, u, rfl, k1, b1, W, I⟩
  · refine ⟨71, [pt fb, pt ty], rfl, inferInstance, fun R h => ?_⟩
    have h2 : Rets Try.prog 63 #[pt tb, pt wx, pt px] w (fun _ w' => R (.tuple #[]) w') := by
      refine rets_of Try.func63 rfl Try.ntmps63 rfl rfl (by kernel_rfl) ?_
      (apply vC_region; ((apply vL_val); (case h => ((apply opv_loadb1); exact rfl; exact rfl; (first | assumption | infer_instance); exact rfl))); ((apply vL_val); (case h => ((apply opv_E); exact rfl))); ((apply vL_val); (case h => ((apply opv_loadb1); exact rfl; exact rfl; (first | assumption | infer_instance); exact rfl))))
      refine vL_callF rfl (h) rfl ?_
      intro u w' hR
      (apply vL_nil)
      (first | apply ret0 | apply ret0n)
      exact hR
    refine rets_of Try.func71 rfl Try.ntmps71 rfl rfl (by kernel_rfl) ?_
    (apply vC_region; (iterate 2 (((apply vL_val); (case h => ((apply opv_loadb1); exact rfl; exact rfl; (first | assumption | infer_instance); exact rfl))))))
    refine vL_callF rfl (h2) rfl ?_
    intro u w' hR
    (apply vL_nil)
    (first | apply ret0 | apply ret0n)
    exact hR
  · refine ⟨84, [pt wx, pt tx, pt px, pt ax], rfl, inferInstance, fun R h => ?_⟩
    have bw := B.bw
    have bt := B.bt
    have bp := B.bp
    have ba := I.b
    refine rets_of Try.func84 rfl Try.ntmps84 rfl rfl (by kernel_rfl) ?_
    (apply vC_region; (iterate 4 (((apply vL_val); (case h => ((apply opv_loadb1); exact rfl; exact rfl; (first | assumption | infer_instance); exact rfl))))); ((apply vL_val); (case h => ((apply opv_add); exact rfl; exact rfl; (first | omega | (simp only [List.length_map]; omega))))))
    refine vL_callF rfl (h) rfl ?_
    intro u w' hR
    (apply vL_nil)
    (first | apply ret0 | apply ret0n)
    exact hR
  · obtain ⟨g, cap, rfl, hg, hW⟩ := wake_calls W hpos
    refine ⟨74, [pt fb, pt yx], rfl, inferInstance, fun R h => ?_⟩
    have hb := I.b
    have h2 := hW why (fun _ w' => R (.tuple #[]) w') h
    refine rets_of Try.func74 rfl Try.ntmps74 rfl rfl (by kernel_rfl) ?_
    (apply vC_region; (iterate 2 (((apply vL_val); (case h => ((apply opv_loadb1); exact rfl; exact rfl; (first | assumption | infer_instance); exact rfl))))))
    refine vL_callF rfl (h2) rfl ?_
    intro u w' hR
    (apply vL_nil)
    (first | apply ret0 | apply ret0n)
    exact hR
end
end Go.Proofs.Ytaeckjhipmcddaa
