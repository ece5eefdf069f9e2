/- Layer 31: Right, of any clients.
Layer 31: what a tick does, in plain lists; that it keeps a client right.
Layer 31: Tick, of any right client. -/
import Derived.Test.YtchfaeaagpemlaaX4
import Derived.Test.YtchfaeaagpemlaaX3
import Derived.Test.YtchfaeaagpemlaaEm
import Derived.Test.YtchfaeaagpemlaaX2
set_option maxRecDepth 100000
namespace Go.Proofs.Ytchfaeaagpemlaa
open Go Go.Eng
theorem newG (i b : Int) (w : World) : Rets Try.prog 10 #[.int .i64 i, .int .i64 b] w fun u w' => (((1 ≤ i ∧ i ≤ 1048576) ∧ (1 ≤ b ∧ b ≤ 7)) ∧ u = .tuple #[.agg #[.int .i64 i, .int .i64 b, .int .i64 1, .int .i64 0, .int .i64 1, .slice none 0 0, .int .i64 0, .int .i64 0, .bool false, .slice none 0 0], .int .i64 0] ∨ ¬ ((1 ≤ i ∧ i ≤ 1048576) ∧ (1 ≤ b ∧ b ≤ 7)) ∧ ∃ e, u = .tuple #[.agg clZ.toArray, .int .i64 e] ∧ e ≠ 0) ∧ Fr No w w' := by
  refine rets_of Try.func10 rfl Try.ntmps10 rfl rfl (by kernel_rfl) ?_
  rcases (by omega : i < 1 ∨ (1 ≤ i ∧ 1048576 < i) ∨ (1 ≤ i ∧ i ≤ 1048576 ∧ b < 1) ∨ (1 ≤ i ∧ i ≤ 1048576 ∧ 1 ≤ b ∧ 7 < b) ∨ (1 ≤ i ∧ i ≤ 1048576 ∧ 1 ≤ b ∧ b ≤ 7)) with h | h | h | h | h
  · (apply vC_seq; apply vC_region; ((apply vL_val); (case h => (apply opw_alloc))); ((apply vL_val); (case h => ((apply opv_E); exact rfl))); apply vL_nil; apply seqP_normal; (iterate 2 (apply vC_seq)); apply vC_region; (iterate 3 (((apply vL_val); (case h => ((apply opv_E); exact rfl))))); (refine vL_or rfl rfl (fun h => by omega) (fun _ => ?_)); ((apply vL_unwanted'); exact rfl; exact rfl); (iterate 2 (((apply vL_val); (case h => ((apply opv_E); exact rfl))))); (iterate 2 (((apply vL_unwanted'); exact rfl; exact rfl))); (iterate 2 (((apply vL_val); (case h => ((apply opv_E); exact rfl))))); (iterate 2 (((apply vL_unwanted'); exact rfl; exact rfl))); ((apply vL_val); (case h => ((apply opv_E); exact rfl))); apply vL_nil; apply seqP_normal; ((apply vC_cond_true); exact rfl); apply vC_seq; apply vC_region; ((apply vL_val); (case h => ((apply opv_buildS); exact rfl; exact (rfl : _ = some [_, _, _, _, _, _, _, _, _, _])))); ((apply vL_skip); (case h => ((apply ops_storen); exact norm_eq rfl; exact norm_eq rfl; exact rfl; (intro u hu; simp only [List.mem_cons, List.not_mem_nil, or_false] at hu; rcases hu with rfl | rfl | rfl | rfl | rfl | rfl | rfl | rfl | rfl | rfl <;> (first | rfl | assumption)); infer_instance; (first | decide | exact of_decide_eq_true rfl | (simp; done))))); ((apply vL_val); (case h => ((apply opv_E); exact rfl))); apply vL_nil; apply seqP_normal; apply vC_ret; apply seqP_ret)
    (apply retC2; (case ha => exact rfl); (case hD => exact rfl); (case hb => (infer_instance)); (case hcs => (exact (rfl : _ = [_, _, _, _, _, _, _, _, _, _]))); (case hl => exact rfl); (case hu => (exact norm_eq rfl)))
    exact ⟨.inr ⟨by omega, _, rfl, by decide⟩, by (apply Fr.allocSet; exact Fr.refl _ _)⟩
  · (apply vC_seq; apply vC_region; ((apply vL_val); (case h => (apply opw_alloc))); ((apply vL_val); (case h => ((apply opv_E); exact rfl))); apply vL_nil; apply seqP_normal; (iterate 2 (apply vC_seq)); apply vC_region; (iterate 3 (((apply vL_val); (case h => ((apply opv_E); exact rfl))))); (refine vL_or rfl rfl (fun _ => ?_) (fun h => by omega)); ((apply vL_val); (case h => ((apply opv_E); exact rfl))); ((apply vL_wanted); exact rfl); (iterate 3 (((apply vL_val); (case h => ((apply opv_E); exact rfl))))); (refine vL_or rfl rfl (fun h => by omega) (fun _ => ?_)); ((apply vL_unwanted'); exact rfl; exact rfl); (iterate 2 (((apply vL_val); (case h => ((apply opv_E); exact rfl))))); (iterate 2 (((apply vL_unwanted'); exact rfl; exact rfl))); ((apply vL_val); (case h => ((apply opv_E); exact rfl))); apply vL_nil; apply seqP_normal; ((apply vC_cond_true); exact rfl); apply vC_seq; apply vC_region; ((apply vL_val); (case h => ((apply opv_buildS); exact rfl; exact (rfl : _ = some [_, _, _, _, _, _, _, _, _, _])))); ((apply vL_skip); (case h => ((apply ops_storen); exact norm_eq rfl; exact norm_eq rfl; exact rfl; (intro u hu; simp only [List.mem_cons, List.not_mem_nil, or_false] at hu; rcases hu with rfl | rfl | rfl | rfl | rfl | rfl | rfl | rfl | rfl | rfl <;> (first | rfl | assumption)); infer_instance; (first | decide | exact of_decide_eq_true rfl | (simp; done))))); ((apply vL_val); (case h => ((apply opv_E); exact rfl))); apply vL_nil; apply seqP_normal; apply vC_ret; apply seqP_ret)
    (apply retC2; (case ha => exact rfl); (case hD => exact rfl); (case hb => (infer_instance)); (case hcs => (exact (rfl : _ = [_, _, _, _, _, _, _, _, _, _]))); (case hl => exact rfl); (case hu => (exact norm_eq rfl)))
    exact ⟨.inr ⟨by omega, _, rfl, by decide⟩, by (apply Fr.allocSet; exact Fr.refl _ _)⟩
  · (apply vC_seq; apply vC_region; ((apply vL_val); (case h => (apply opw_alloc))); ((apply vL_val); (case h => ((apply opv_E); exact rfl))); apply vL_nil; apply seqP_normal; (iterate 2 (apply vC_seq)); apply vC_region; (iterate 3 (((apply vL_val); (case h => ((apply opv_E); exact rfl))))); (refine vL_or rfl rfl (fun _ => ?_) (fun h => by omega)); ((apply vL_val); (case h => ((apply opv_E); exact rfl))); ((apply vL_wanted); exact rfl); (iterate 3 (((apply vL_val); (case h => ((apply opv_E); exact rfl))))); (refine vL_or rfl rfl (fun _ => ?_) (fun h => by omega)); ((apply vL_val); (case h => ((apply opv_E); exact rfl))); ((apply vL_wanted); exact rfl); (iterate 3 (((apply vL_val); (case h => ((apply opv_E); exact rfl))))); (refine vL_or rfl rfl (fun h => by omega) (fun _ => ?_)); ((apply vL_unwanted'); exact rfl; exact rfl); ((apply vL_val); (case h => ((apply opv_E); exact rfl))); apply vL_nil; apply seqP_normal; ((apply vC_cond_true); exact rfl); apply vC_seq; apply vC_region; ((apply vL_val); (case h => ((apply opv_buildS); exact rfl; exact (rfl : _ = some [_, _, _, _, _, _, _, _, _, _])))); ((apply vL_skip); (case h => ((apply ops_storen); exact norm_eq rfl; exact norm_eq rfl; exact rfl; (intro u hu; simp only [List.mem_cons, List.not_mem_nil, or_false] at hu; rcases hu with rfl | rfl | rfl | rfl | rfl | rfl | rfl | rfl | rfl | rfl <;> (first | rfl | assumption)); infer_instance; (first | decide | exact of_decide_eq_true rfl | (simp; done))))); ((apply vL_val); (case h => ((apply opv_E); exact rfl))); apply vL_nil; apply seqP_normal; apply vC_ret; apply seqP_ret)
    (apply retC2; (case ha => exact rfl); (case hD => exact rfl); (case hb => (infer_instance)); (case hcs => (exact (rfl : _ = [_, _, _, _, _, _, _, _, _, _]))); (case hl => exact rfl); (case hu => (exact norm_eq rfl)))
    exact ⟨.inr ⟨by omega, _, rfl, by decide⟩, by (apply Fr.allocSet; exact Fr.refl _ _)⟩
  · (apply vC_seq; apply vC_region; ((apply vL_val); (case h => (apply opw_alloc))); ((apply vL_val); (case h => ((apply opv_E); exact rfl))); apply vL_nil; apply seqP_normal; (iterate 2 (apply vC_seq)); apply vC_region; (iterate 3 (((apply vL_val); (case h => ((apply opv_E); exact rfl))))); (refine vL_or rfl rfl (fun _ => ?_) (fun h => by omega)); ((apply vL_val); (case h => ((apply opv_E); exact rfl))); ((apply vL_wanted); exact rfl); (iterate 3 (((apply vL_val); (case h => ((apply opv_E); exact rfl))))); (refine vL_or rfl rfl (fun _ => ?_) (fun h => by omega)); ((apply vL_val); (case h => ((apply opv_E); exact rfl))); ((apply vL_wanted); exact rfl); (iterate 3 (((apply vL_val); (case h => ((apply opv_E); exact rfl))))); (refine vL_or rfl rfl (fun _ => ?_) (fun h => by omega)); ((apply vL_val); (case h => ((apply opv_E); exact rfl))); ((apply vL_wanted); exact rfl); (iterate 2 (((apply vL_val); (case h => ((apply opv_E); exact rfl))))); apply vL_nil; apply seqP_normal; (refine vC_cond_dec rfl (fun _ => ?_) (fun h => by omega)); apply vC_seq; apply vC_region; ((apply vL_val); (case h => ((apply opv_buildS); exact rfl; exact (rfl : _ = some [_, _, _, _, _, _, _, _, _, _])))); ((apply vL_skip); (case h => ((apply ops_storen); exact norm_eq rfl; exact norm_eq rfl; exact rfl; (intro u hu; simp only [List.mem_cons, List.not_mem_nil, or_false] at hu; rcases hu with rfl | rfl | rfl | rfl | rfl | rfl | rfl | rfl | rfl | rfl <;> (first | rfl | assumption)); infer_instance; (first | decide | exact of_decide_eq_true rfl | (simp; done))))); ((apply vL_val); (case h => ((apply opv_E); exact rfl))); apply vL_nil; apply seqP_normal; apply vC_ret; apply seqP_ret)
    (apply retC2; (case ha => exact rfl); (case hD => exact rfl); (case hb => (infer_instance)); (case hcs => (exact (rfl : _ = [_, _, _, _, _, _, _, _, _, _]))); (case hl => exact rfl); (case hu => (exact norm_eq rfl)))
    exact ⟨.inr ⟨by omega, _, rfl, by decide⟩, by (apply Fr.allocSet; exact Fr.refl _ _)⟩
  · (apply vC_seq; apply vC_region; ((apply vL_val); (case h => (apply opw_alloc))); ((apply vL_val); (case h => ((apply opv_E); exact rfl))); apply vL_nil; apply seqP_normal; (iterate 2 (apply vC_seq)); apply vC_region; (iterate 3 (((apply vL_val); (case h => ((apply opv_E); exact rfl))))); (refine vL_or rfl rfl (fun _ => ?_) (fun h => by omega)); ((apply vL_val); (case h => ((apply opv_E); exact rfl))); ((apply vL_wanted); exact rfl); (iterate 3 (((apply vL_val); (case h => ((apply opv_E); exact rfl))))); (refine vL_or rfl rfl (fun _ => ?_) (fun h => by omega)); ((apply vL_val); (case h => ((apply opv_E); exact rfl))); ((apply vL_wanted); exact rfl); (iterate 3 (((apply vL_val); (case h => ((apply opv_E); exact rfl))))); (refine vL_or rfl rfl (fun _ => ?_) (fun h => by omega)); ((apply vL_val); (case h => ((apply opv_E); exact rfl))); ((apply vL_wanted); exact rfl); (iterate 2 (((apply vL_val); (case h => ((apply opv_E); exact rfl))))); apply vL_nil; apply seqP_normal; (refine vC_cond_dec rfl (fun h => by omega) (fun _ => ?_)); apply vC_skip; apply seqP_normal; apply vC_seq; apply vC_region; (iterate 2 (((apply vL_val); (case h => ((apply opv_E); exact rfl))))); ((apply vL_val); (case h => ((apply opv_buildS); exact rfl; exact (rfl : _ = some [_, _, _, _, _, _, _, _, _, _])))); ((apply vL_skip); (case h => ((apply ops_storen); exact norm_eq rfl; exact norm_eq rfl; exact rfl; (intro u hu; simp only [List.mem_cons, List.not_mem_nil, or_false] at hu; rcases hu with rfl | rfl | rfl | rfl | rfl | rfl | rfl | rfl | rfl | rfl <;> (first | rfl | assumption)); infer_instance; (first | decide | exact of_decide_eq_true rfl | (simp; done))))); ((apply vL_val); (case h => ((apply opv_E); exact rfl))); apply vL_nil; apply seqP_normal; apply vC_ret)
    (apply retC2; (case ha => exact rfl); (case hD => exact rfl); (case hb => (infer_instance)); (case hcs => (exact (rfl : _ = [_, _, _, _, _, _, _, _, _, _]))); (case hl => exact rfl); (case hu => (exact norm_eq rfl)))
    exact ⟨.inl ⟨by omega, rfl⟩, by (apply Fr.allocSet; exact Fr.refl _ _)⟩
def SqOk (ss : List SQ) (i : Nat) (s : SQ) : Prop := mayPB s.topic s.part = true ∧ (1 ≤ s.nx ∧ s.nx ≤ 4611686018427387904) ∧ ∀ p, 0 < i → ss[i - 1]? = some p → cmpP p.topic p.part s.topic s.part < 0
def HdG (c : CL) : Prop := ((1 ≤ c.id ∧ c.id ≤ 1048576) ∧ (1 ≤ c.brokers ∧ c.brokers ≤ 7)) ∧ 1 ≤ c.next ∧ c.next ≤ 1099511627776 ∧ 0 ≤ c.now ∧ c.now ≤ 1099511627776 ∧ 1 ≤ c.broker ∧ c.broker ≤ c.brokers
def PdG (c : CL) : Prop := 0 ≤ c.pid ∧ c.pid ≤ 4611686018427387904 ∧ 0 ≤ c.ep ∧ c.ep ≤ 1073741824 ∧ c.ss.length ≤ 128 ∧ (c.pid = 0 → c.ep ≤ 0 ∧ c.ss.length ≤ 0)
def SsG (ss : List SQ) : Prop := ∀ (i : Nat) s, ss[i]? = some s → SqOk ss i s
def RG (c : CL) : Prop := HdG c ∧ PdG c ∧ SsG c.ss ∧ WsG c.id c.next c.brokers c.ws
noncomputable def rgB (c : CL) : Bool := @decide (RG c) (Classical.propDecidable _)
theorem rgB_true {c : CL} (h : RG c) : rgB c = true := @decide_eq_true _ (Classical.propDecidable _) h
theorem rgB_false {c : CL} (h : ¬ RG c) : rgB c = false := @decide_eq_false _ (Classical.propDecidable _) h
theorem of_rgB {c : CL} (h : rgB c = true) : RG c := @of_decide_eq_true _ (Classical.propDecidable _) h
theorem may_pos {t : ByteArray} {p : Int} (h : mayPB t p = true) : 0 ≤ p ∧ p ≤ 1000 := by
  unfold mayPB at h
  rw [Bool.and_eq_true] at h
  have := of_decide_eq_true h.2
  omega
set_option maxHeartbeats 4000000 in
theorem rightG (c : CL) (w : World) (hr : ClRd w.heap c) (hz : ∀ x ∈ c.ws, x.rq.topic.size ≤ 9223372036854775807) (hzs : ∀ s ∈ c.ss, s.topic.size ≤ 9223372036854775807) : Rets Try.prog 5 #[.agg (clE c).toArray] w fun u w' => u = .bool (rgB c) ∧ Fr No w w' := by
  have hw0 := c.wv.2
  have hs0 := c.sv.2
  have hsm := hr.2.2.small
  refine rets_of Try.func5 rfl Try.ntmps5 rfl rfl (by kernel_rfl) ?_
  ((apply vC_seq; apply vC_region)); ((((apply vL_val); (case h => ((apply opw_boxn); exact rfl))); ((apply vL_val); (case h => ((apply opv_E); exact rfl))); apply vL_nil)); with_reducible apply seqP_normal
  (((iterate 2 (apply vC_seq)); apply vC_region))
  refine vL_gen (fun w' => Fr No w w' ∧ Blk w'.heap w.heap.size (clE c) 25) ⟨by (apply Fr.alloc; exact Fr.refl _ _), inferInstance⟩ ?_
  rintro w1 ⟨hf1, hb1⟩
  generalize w.heap.size = b1 at hb1 ⊢
  (((apply vL_val); (case h => ((apply opv_fieldAddr); exact rfl))); ((apply vL_val); (case h => ((apply opv_loadb1); exact rfl; exact rfl; assumption; exact rfl))); ((apply vL_val); (case h => ((apply opv_fieldAddr); exact rfl))); ((apply vL_val); (case h => ((apply opv_loadb1); exact rfl; exact rfl; assumption; exact rfl))))
  refine vL_callF rfl (newG c.id c.brokers w1) rfl ?_
  rintro u w2 ⟨⟨hnew, rfl⟩ | ⟨hnew, e, rfl, he⟩, hf2⟩
  rotate_left
  · have hb2 := hb1.frN hf2
    ((iterate 3 (((apply vL_val); (case h => ((apply opv_E); exact rfl))))); ((apply vL_val); (case h => (apply opw_alloc))); ((apply vL_skip); (case h => ((apply ops_storen); exact norm_eq rfl; exact norm_eq rfl; exact rfl; (intro u hu; simp only [List.mem_cons, List.not_mem_nil, or_false] at hu; rcases hu with rfl | rfl | rfl | rfl | rfl | rfl | rfl | rfl | rfl | rfl <;> (first | rfl | assumption)); infer_instance; (first | decide | exact of_decide_eq_true rfl | (simp; done))))); ((apply vL_val); (case h => ((apply opv_E); exact rfl))); apply vL_nil; apply seqP_normal; apply vC_seq; apply vC_region; (iterate 3 (((apply vL_val); (case h => ((apply opv_E); exact rfl))))); (refine vL_or rfl rfl (fun h => by omega) (fun _ => ?_)); (iterate 2 (((apply vL_unwanted'); exact rfl; exact rfl))); (iterate 2 (((apply vL_val); (case h => ((apply opv_E); exact rfl))))); (iterate 3 (((apply vL_unwanted'); exact rfl; exact rfl))); (iterate 2 (((apply vL_val); (case h => ((apply opv_E); exact rfl))))); (iterate 3 (((apply vL_unwanted'); exact rfl; exact rfl))); (iterate 2 (((apply vL_val); (case h => ((apply opv_E); exact rfl))))); (iterate 3 (((apply vL_unwanted'); exact rfl; exact rfl))); (iterate 2 (((apply vL_val); (case h => ((apply opv_E); exact rfl))))); (iterate 3 (((apply vL_unwanted'); exact rfl; exact rfl))); (iterate 2 (((apply vL_val); (case h => ((apply opv_E); exact rfl))))); (iterate 5 (((apply vL_unwanted'); exact rfl; exact rfl))); ((apply vL_val); (case h => ((apply opv_E); exact rfl))); apply vL_nil; apply seqP_normal; ((apply vC_cond_true); exact rfl); apply vC_seq; apply vC_region; ((apply vL_val); (case h => ((apply opv_E); exact rfl))); apply vL_nil; apply seqP_normal; apply vC_ret; apply seqP_ret)
    (apply ret1; (case h1 => (exact norm_eq rfl)))
    exact ⟨by rw [rgB_false (fun H => hnew H.1.1)], Fr.trans (hf1.trans hf2) (by (apply Fr.allocSet; exact Fr.refl _ _))⟩
  have hb2 := hb1.frN hf2
  have hf12 := hf1.trans hf2
  (((iterate 3 (((apply vL_val); (case h => ((apply opv_E); exact rfl))))); ((apply vL_val); (case h => (apply opw_alloc))); ((apply vL_skip); (case h => ((apply ops_storen); exact norm_eq rfl; exact norm_eq rfl; exact rfl; (intro u hu; simp only [List.mem_cons, List.not_mem_nil, or_false] at hu; rcases hu with rfl | rfl | rfl | rfl | rfl | rfl | rfl | rfl | rfl | rfl <;> (first | rfl | assumption)); infer_instance; (first | decide | exact of_decide_eq_true rfl | (simp; done))))); ((apply vL_val); (case h => ((apply opv_E); exact rfl))); apply vL_nil)); with_reducible apply seqP_normal
  ((apply vC_seq; apply vC_region))
  refine vL_gen (fun w' => Fr No w2 w') (by (apply Fr.allocSet; exact Fr.refl _ _)) ?_
  intro w3 hf3
  have hb3 := hb2.frN hf3
  have hf13 := hf12.trans hf3
  have hrs3 := hr.2.2.frN hf13
  clear hb1 hb2 hf1 hf2 hf3 hf12
  rcases (by omega : c.next < 1 ∨ (1 ≤ c.next ∧ 1099511627776 < c.next) ∨ (1 ≤ c.next ∧ c.next ≤ 1099511627776 ∧ c.now < 0) ∨ (1 ≤ c.next ∧ c.next ≤ 1099511627776 ∧ 0 ≤ c.now ∧ 1099511627776 < c.now) ∨ (1 ≤ c.next ∧ c.next ≤ 1099511627776 ∧ 0 ≤ c.now ∧ c.now ≤ 1099511627776 ∧ c.broker < 1) ∨ (1 ≤ c.next ∧ c.next ≤ 1099511627776 ∧ 0 ≤ c.now ∧ c.now ≤ 1099511627776 ∧ 1 ≤ c.broker ∧ c.brokers < c.broker) ∨ (1 ≤ c.next ∧ c.next ≤ 1099511627776 ∧ 0 ≤ c.now ∧ c.now ≤ 1099511627776 ∧ 1 ≤ c.broker ∧ c.broker ≤ c.brokers)) with h | h | h | h | h | h | h1
  · ((iterate 3 (((apply vL_val); (case h => ((apply opv_E); exact rfl))))); ((apply vL_wanted); exact rfl); ((apply vL_val); (case h => ((apply opv_fieldAddr); exact rfl))); ((apply vL_wanted); exact rfl); ((apply vL_val); (case h => ((apply opv_loadb1); exact rfl; exact rfl; assumption; exact rfl))); ((apply vL_wanted); exact rfl); (iterate 3 (((apply vL_val); (case h => ((apply opv_E); exact rfl))))); (refine vL_or rfl rfl (fun h => by omega) (fun _ => ?_)); (iterate 2 (((apply vL_unwanted'); exact rfl; exact rfl))); (iterate 2 (((apply vL_val); (case h => ((apply opv_E); exact rfl))))); (iterate 3 (((apply vL_unwanted'); exact rfl; exact rfl))); (iterate 2 (((apply vL_val); (case h => ((apply opv_E); exact rfl))))); (iterate 3 (((apply vL_unwanted'); exact rfl; exact rfl))); (iterate 2 (((apply vL_val); (case h => ((apply opv_E); exact rfl))))); (iterate 3 (((apply vL_unwanted'); exact rfl; exact rfl))); (iterate 2 (((apply vL_val); (case h => ((apply opv_E); exact rfl))))); (iterate 5 (((apply vL_unwanted'); exact rfl; exact rfl))); ((apply vL_val); (case h => ((apply opv_E); exact rfl))); apply vL_nil; apply seqP_normal; ((apply vC_cond_true); exact rfl); apply vC_seq; apply vC_region; ((apply vL_val); (case h => ((apply opv_E); exact rfl))); apply vL_nil; apply seqP_normal; apply vC_ret; apply seqP_ret)
    (apply ret1; (case h1 => (exact norm_eq rfl)))
    exact ⟨by rw [rgB_false (fun H => by have := H.1.2; omega)], hf13⟩
  · ((iterate 3 (((apply vL_val); (case h => ((apply opv_E); exact rfl))))); ((apply vL_wanted); exact rfl); ((apply vL_val); (case h => ((apply opv_fieldAddr); exact rfl))); ((apply vL_wanted); exact rfl); ((apply vL_val); (case h => ((apply opv_loadb1); exact rfl; exact rfl; assumption; exact rfl))); ((apply vL_wanted); exact rfl); (iterate 3 (((apply vL_val); (case h => ((apply opv_E); exact rfl))))); (refine vL_or rfl rfl (fun _ => ?_) (fun h => by omega)); ((apply vL_val); (case h => ((apply opv_fieldAddr); exact rfl))); ((apply vL_wanted); exact rfl); ((apply vL_val); (case h => ((apply opv_loadb1); exact rfl; exact rfl; assumption; exact rfl))); ((apply vL_wanted); exact rfl); (iterate 3 (((apply vL_val); (case h => ((apply opv_E); exact rfl))))); (refine vL_or rfl rfl (fun h => by omega) (fun _ => ?_)); (iterate 2 (((apply vL_unwanted'); exact rfl; exact rfl))); (iterate 2 (((apply vL_val); (case h => ((apply opv_E); exact rfl))))); (iterate 3 (((apply vL_unwanted'); exact rfl; exact rfl))); (iterate 2 (((apply vL_val); (case h => ((apply opv_E); exact rfl))))); (iterate 3 (((apply vL_unwanted'); exact rfl; exact rfl))); (iterate 2 (((apply vL_val); (case h => ((apply opv_E); exact rfl))))); (iterate 5 (((apply vL_unwanted'); exact rfl; exact rfl))); ((apply vL_val); (case h => ((apply opv_E); exact rfl))); apply vL_nil; apply seqP_normal; ((apply vC_cond_true); exact rfl); apply vC_seq; apply vC_region; ((apply vL_val); (case h => ((apply opv_E); exact rfl))); apply vL_nil; apply seqP_normal; apply vC_ret; apply seqP_ret)
    (apply ret1; (case h1 => (exact norm_eq rfl)))
    exact ⟨by rw [rgB_false (fun H => by have := H.1.2; omega)], hf13⟩
  · ((iterate 3 (((apply vL_val); (case h => ((apply opv_E); exact rfl))))); ((apply vL_wanted); exact rfl); ((apply vL_val); (case h => ((apply opv_fieldAddr); exact rfl))); ((apply vL_wanted); exact rfl); ((apply vL_val); (case h => ((apply opv_loadb1); exact rfl; exact rfl; assumption; exact rfl))); ((apply vL_wanted); exact rfl); (iterate 3 (((apply vL_val); (case h => ((apply opv_E); exact rfl))))); (refine vL_or rfl rfl (fun _ => ?_) (fun h => by omega)); ((apply vL_val); (case h => ((apply opv_fieldAddr); exact rfl))); ((apply vL_wanted); exact rfl); ((apply vL_val); (case h => ((apply opv_loadb1); exact rfl; exact rfl; assumption; exact rfl))); ((apply vL_wanted); exact rfl); (iterate 3 (((apply vL_val); (case h => ((apply opv_E); exact rfl))))); (refine vL_or rfl rfl (fun _ => ?_) (fun h => by omega)); ((apply vL_val); (case h => ((apply opv_fieldAddr); exact rfl))); ((apply vL_wanted); exact rfl); ((apply vL_val); (case h => ((apply opv_loadb1); exact rfl; exact rfl; assumption; exact rfl))); ((apply vL_wanted); exact rfl); (iterate 3 (((apply vL_val); (case h => ((apply opv_E); exact rfl))))); (refine vL_or rfl rfl (fun h => by omega) (fun _ => ?_)); (iterate 2 (((apply vL_unwanted'); exact rfl; exact rfl))); (iterate 2 (((apply vL_val); (case h => ((apply opv_E); exact rfl))))); (iterate 3 (((apply vL_unwanted'); exact rfl; exact rfl))); (iterate 2 (((apply vL_val); (case h => ((apply opv_E); exact rfl))))); (iterate 5 (((apply vL_unwanted'); exact rfl; exact rfl))); ((apply vL_val); (case h => ((apply opv_E); exact rfl))); apply vL_nil; apply seqP_normal; ((apply vC_cond_true); exact rfl); apply vC_seq; apply vC_region; ((apply vL_val); (case h => ((apply opv_E); exact rfl))); apply vL_nil; apply seqP_normal; apply vC_ret; apply seqP_ret)
    (apply ret1; (case h1 => (exact norm_eq rfl)))
    exact ⟨by rw [rgB_false (fun H => by have := H.1.2; omega)], hf13⟩
  · ((iterate 3 (((apply vL_val); (case h => ((apply opv_E); exact rfl))))); ((apply vL_wanted); exact rfl); ((apply vL_val); (case h => ((apply opv_fieldAddr); exact rfl))); ((apply vL_wanted); exact rfl); ((apply vL_val); (case h => ((apply opv_loadb1); exact rfl; exact rfl; assumption; exact rfl))); ((apply vL_wanted); exact rfl); (iterate 3 (((apply vL_val); (case h => ((apply opv_E); exact rfl))))); (refine vL_or rfl rfl (fun _ => ?_) (fun h => by omega)); ((apply vL_val); (case h => ((apply opv_fieldAddr); exact rfl))); ((apply vL_wanted); exact rfl); ((apply vL_val); (case h => ((apply opv_loadb1); exact rfl; exact rfl; assumption; exact rfl))); ((apply vL_wanted); exact rfl); (iterate 3 (((apply vL_val); (case h => ((apply opv_E); exact rfl))))); (refine vL_or rfl rfl (fun _ => ?_) (fun h => by omega)); ((apply vL_val); (case h => ((apply opv_fieldAddr); exact rfl))); ((apply vL_wanted); exact rfl); ((apply vL_val); (case h => ((apply opv_loadb1); exact rfl; exact rfl; assumption; exact rfl))); ((apply vL_wanted); exact rfl); (iterate 3 (((apply vL_val); (case h => ((apply opv_E); exact rfl))))); (refine vL_or rfl rfl (fun _ => ?_) (fun h => by omega)); ((apply vL_val); (case h => ((apply opv_fieldAddr); exact rfl))); ((apply vL_wanted); exact rfl); ((apply vL_val); (case h => ((apply opv_loadb1); exact rfl; exact rfl; assumption; exact rfl))); ((apply vL_wanted); exact rfl); (iterate 3 (((apply vL_val); (case h => ((apply opv_E); exact rfl))))); (refine vL_or rfl rfl (fun h => by omega) (fun _ => ?_)); (iterate 2 (((apply vL_unwanted'); exact rfl; exact rfl))); (iterate 2 (((apply vL_val); (case h => ((apply opv_E); exact rfl))))); (iterate 5 (((apply vL_unwanted'); exact rfl; exact rfl))); ((apply vL_val); (case h => ((apply opv_E); exact rfl))); apply vL_nil; apply seqP_normal; ((apply vC_cond_true); exact rfl); apply vC_seq; apply vC_region; ((apply vL_val); (case h => ((apply opv_E); exact rfl))); apply vL_nil; apply seqP_normal; apply vC_ret; apply seqP_ret)
    (apply ret1; (case h1 => (exact norm_eq rfl)))
    exact ⟨by rw [rgB_false (fun H => by have := H.1.2; omega)], hf13⟩
  · ((iterate 3 (((apply vL_val); (case h => ((apply opv_E); exact rfl))))); ((apply vL_wanted); exact rfl); ((apply vL_val); (case h => ((apply opv_fieldAddr); exact rfl))); ((apply vL_wanted); exact rfl); ((apply vL_val); (case h => ((apply opv_loadb1); exact rfl; exact rfl; assumption; exact rfl))); ((apply vL_wanted); exact rfl); (iterate 3 (((apply vL_val); (case h => ((apply opv_E); exact rfl))))); (refine vL_or rfl rfl (fun _ => ?_) (fun h => by omega)); ((apply vL_val); (case h => ((apply opv_fieldAddr); exact rfl))); ((apply vL_wanted); exact rfl); ((apply vL_val); (case h => ((apply opv_loadb1); exact rfl; exact rfl; assumption; exact rfl))); ((apply vL_wanted); exact rfl); (iterate 3 (((apply vL_val); (case h => ((apply opv_E); exact rfl))))); (refine vL_or rfl rfl (fun _ => ?_) (fun h => by omega)); ((apply vL_val); (case h => ((apply opv_fieldAddr); exact rfl))); ((apply vL_wanted); exact rfl); ((apply vL_val); (case h => ((apply opv_loadb1); exact rfl; exact rfl; assumption; exact rfl))); ((apply vL_wanted); exact rfl); (iterate 3 (((apply vL_val); (case h => ((apply opv_E); exact rfl))))); (refine vL_or rfl rfl (fun _ => ?_) (fun h => by omega)); ((apply vL_val); (case h => ((apply opv_fieldAddr); exact rfl))); ((apply vL_wanted); exact rfl); ((apply vL_val); (case h => ((apply opv_loadb1); exact rfl; exact rfl; assumption; exact rfl))); ((apply vL_wanted); exact rfl); (iterate 3 (((apply vL_val); (case h => ((apply opv_E); exact rfl))))); (refine vL_or rfl rfl (fun _ => ?_) (fun h => by omega)); ((apply vL_val); (case h => ((apply opv_fieldAddr); exact rfl))); ((apply vL_wanted); exact rfl); ((apply vL_val); (case h => ((apply opv_loadb1); exact rfl; exact rfl; assumption; exact rfl))); ((apply vL_wanted); exact rfl); (iterate 3 (((apply vL_val); (case h => ((apply opv_E); exact rfl))))); (refine vL_or rfl rfl (fun h => by omega) (fun _ => ?_)); (iterate 4 (((apply vL_unwanted'); exact rfl; exact rfl))); ((apply vL_val); (case h => ((apply opv_E); exact rfl))); apply vL_nil; apply seqP_normal; ((apply vC_cond_true); exact rfl); apply vC_seq; apply vC_region; ((apply vL_val); (case h => ((apply opv_E); exact rfl))); apply vL_nil; apply seqP_normal; apply vC_ret; apply seqP_ret)
    (apply ret1; (case h1 => (exact norm_eq rfl)))
    exact ⟨by rw [rgB_false (fun H => by have := H.1.2; omega)], hf13⟩
  · ((iterate 3 (((apply vL_val); (case h => ((apply opv_E); exact rfl))))); ((apply vL_wanted); exact rfl); ((apply vL_val); (case h => ((apply opv_fieldAddr); exact rfl))); ((apply vL_wanted); exact rfl); ((apply vL_val); (case h => ((apply opv_loadb1); exact rfl; exact rfl; assumption; exact rfl))); ((apply vL_wanted); exact rfl); (iterate 3 (((apply vL_val); (case h => ((apply opv_E); exact rfl))))); (refine vL_or rfl rfl (fun _ => ?_) (fun h => by omega)); ((apply vL_val); (case h => ((apply opv_fieldAddr); exact rfl))); ((apply vL_wanted); exact rfl); ((apply vL_val); (case h => ((apply opv_loadb1); exact rfl; exact rfl; assumption; exact rfl))); ((apply vL_wanted); exact rfl); (iterate 3 (((apply vL_val); (case h => ((apply opv_E); exact rfl))))); (refine vL_or rfl rfl (fun _ => ?_) (fun h => by omega)); ((apply vL_val); (case h => ((apply opv_fieldAddr); exact rfl))); ((apply vL_wanted); exact rfl); ((apply vL_val); (case h => ((apply opv_loadb1); exact rfl; exact rfl; assumption; exact rfl))); ((apply vL_wanted); exact rfl); (iterate 3 (((apply vL_val); (case h => ((apply opv_E); exact rfl))))); (refine vL_or rfl rfl (fun _ => ?_) (fun h => by omega)); ((apply vL_val); (case h => ((apply opv_fieldAddr); exact rfl))); ((apply vL_wanted); exact rfl); ((apply vL_val); (case h => ((apply opv_loadb1); exact rfl; exact rfl; assumption; exact rfl))); ((apply vL_wanted); exact rfl); (iterate 3 (((apply vL_val); (case h => ((apply opv_E); exact rfl))))); (refine vL_or rfl rfl (fun _ => ?_) (fun h => by omega)); ((apply vL_val); (case h => ((apply opv_fieldAddr); exact rfl))); ((apply vL_wanted); exact rfl); ((apply vL_val); (case h => ((apply opv_loadb1); exact rfl; exact rfl; assumption; exact rfl))); ((apply vL_wanted); exact rfl); (iterate 3 (((apply vL_val); (case h => ((apply opv_E); exact rfl))))); (refine vL_or rfl rfl (fun _ => ?_) (fun h => by omega)); ((apply vL_val); (case h => ((apply opv_fieldAddr); exact rfl))); ((apply vL_wanted); exact rfl); ((apply vL_val); (case h => ((apply opv_loadb1); exact rfl; exact rfl; assumption; exact rfl))); ((apply vL_wanted); exact rfl); ((apply vL_val); (case h => ((apply opv_fieldAddr); exact rfl))); ((apply vL_wanted); exact rfl); ((apply vL_val); (case h => ((apply opv_loadb1); exact rfl; exact rfl; assumption; exact rfl))); ((apply vL_wanted); exact rfl); (iterate 2 (((apply vL_val); (case h => ((apply opv_E); exact rfl))))); apply vL_nil; apply seqP_normal; (refine vC_cond_dec rfl (fun _ => ?_) (fun h => by omega)); apply vC_seq; apply vC_region; ((apply vL_val); (case h => ((apply opv_E); exact rfl))); apply vL_nil; apply seqP_normal; apply vC_ret; apply seqP_ret)
    (apply ret1; (case h1 => (exact norm_eq rfl)))
    exact ⟨by rw [rgB_false (fun H => by have := H.1.2; omega)], hf13⟩
  rcases (by omega : c.pid < 0 ∨ (0 ≤ c.pid ∧ 4611686018427387904 < c.pid) ∨ (0 ≤ c.pid ∧ c.pid ≤ 4611686018427387904 ∧ c.ep < 0) ∨ (0 ≤ c.pid ∧ c.pid ≤ 4611686018427387904 ∧ 0 ≤ c.ep ∧ 1073741824 < c.ep) ∨ (0 ≤ c.pid ∧ c.pid ≤ 4611686018427387904 ∧ 0 ≤ c.ep ∧ c.ep ≤ 1073741824 ∧ 128 < c.ss.length) ∨ (0 ≤ c.pid ∧ c.pid ≤ 4611686018427387904 ∧ 0 ≤ c.ep ∧ c.ep ≤ 1073741824 ∧ c.ss.length ≤ 128 ∧ c.pid = 0 ∧ 0 < c.ep) ∨ (0 ≤ c.pid ∧ c.pid ≤ 4611686018427387904 ∧ 0 ≤ c.ep ∧ c.ep ≤ 1073741824 ∧ c.ss.length ≤ 128 ∧ c.pid = 0 ∧ c.ep ≤ 0 ∧ 0 < c.ss.length) ∨ (0 ≤ c.pid ∧ c.pid ≤ 4611686018427387904 ∧ 0 ≤ c.ep ∧ c.ep ≤ 1073741824 ∧ c.ss.length ≤ 128 ∧ c.pid = 0 ∧ c.ep ≤ 0 ∧ c.ss.length ≤ 0) ∨ (0 ≤ c.pid ∧ c.pid ≤ 4611686018427387904 ∧ 0 ≤ c.ep ∧ c.ep ≤ 1073741824 ∧ c.ss.length ≤ 128 ∧ c.pid ≠ 0)) with h | h | h | h | h | h | h | h2 | h2
  · ((iterate 3 (((apply vL_val); (case h => ((apply opv_E); exact rfl))))); ((apply vL_wanted); exact rfl); ((apply vL_val); (case h => ((apply opv_fieldAddr); exact rfl))); ((apply vL_wanted); exact rfl); ((apply vL_val); (case h => ((apply opv_loadb1); exact rfl; exact rfl; assumption; exact rfl))); ((apply vL_wanted); exact rfl); (iterate 3 (((apply vL_val); (case h => ((apply opv_E); exact rfl))))); (refine vL_or rfl rfl (fun _ => ?_) (fun h => by omega)); ((apply vL_val); (case h => ((apply opv_fieldAddr); exact rfl))); ((apply vL_wanted); exact rfl); ((apply vL_val); (case h => ((apply opv_loadb1); exact rfl; exact rfl; assumption; exact rfl))); ((apply vL_wanted); exact rfl); (iterate 3 (((apply vL_val); (case h => ((apply opv_E); exact rfl))))); (refine vL_or rfl rfl (fun _ => ?_) (fun h => by omega)); ((apply vL_val); (case h => ((apply opv_fieldAddr); exact rfl))); ((apply vL_wanted); exact rfl); ((apply vL_val); (case h => ((apply opv_loadb1); exact rfl; exact rfl; assumption; exact rfl))); ((apply vL_wanted); exact rfl); (iterate 3 (((apply vL_val); (case h => ((apply opv_E); exact rfl))))); (refine vL_or rfl rfl (fun _ => ?_) (fun h => by omega)); ((apply vL_val); (case h => ((apply opv_fieldAddr); exact rfl))); ((apply vL_wanted); exact rfl); ((apply vL_val); (case h => ((apply opv_loadb1); exact rfl; exact rfl; assumption; exact rfl))); ((apply vL_wanted); exact rfl); (iterate 3 (((apply vL_val); (case h => ((apply opv_E); exact rfl))))); (refine vL_or rfl rfl (fun _ => ?_) (fun h => by omega)); ((apply vL_val); (case h => ((apply opv_fieldAddr); exact rfl))); ((apply vL_wanted); exact rfl); ((apply vL_val); (case h => ((apply opv_loadb1); exact rfl; exact rfl; assumption; exact rfl))); ((apply vL_wanted); exact rfl); (iterate 3 (((apply vL_val); (case h => ((apply opv_E); exact rfl))))); (refine vL_or rfl rfl (fun _ => ?_) (fun h => by omega)); ((apply vL_val); (case h => ((apply opv_fieldAddr); exact rfl))); ((apply vL_wanted); exact rfl); ((apply vL_val); (case h => ((apply opv_loadb1); exact rfl; exact rfl; assumption; exact rfl))); ((apply vL_wanted); exact rfl); ((apply vL_val); (case h => ((apply opv_fieldAddr); exact rfl))); ((apply vL_wanted); exact rfl); ((apply vL_val); (case h => ((apply opv_loadb1); exact rfl; exact rfl; assumption; exact rfl))); ((apply vL_wanted); exact rfl); (iterate 2 (((apply vL_val); (case h => ((apply opv_E); exact rfl))))); apply vL_nil; apply seqP_normal; (refine vC_cond_dec rfl (fun h => by omega) (fun _ => ?_)); apply vC_skip; apply seqP_normal; (iterate 2 (apply vC_seq)); apply vC_region; ((apply vL_val); (case h => ((apply opv_fieldAddr); exact rfl))); ((apply vL_val); (case h => ((apply opv_loadb1); exact rfl; exact rfl; assumption; exact rfl))); (iterate 2 (((apply vL_val); (case h => ((apply opv_E); exact rfl))))); (refine vL_or rfl rfl (fun h => by omega) (fun _ => ?_)); (iterate 2 (((apply vL_unwanted'); exact rfl; exact rfl))); (iterate 2 (((apply vL_val); (case h => ((apply opv_E); exact rfl))))); (iterate 3 (((apply vL_unwanted'); exact rfl; exact rfl))); (iterate 2 (((apply vL_val); (case h => ((apply opv_E); exact rfl))))); (iterate 3 (((apply vL_unwanted'); exact rfl; exact rfl))); (iterate 2 (((apply vL_val); (case h => ((apply opv_E); exact rfl))))); (iterate 4 (((apply vL_unwanted'); exact rfl; exact rfl))); (iterate 2 (((apply vL_val); (case h => ((apply opv_E); exact rfl))))); (iterate 4 (((apply vL_unwanted'); exact rfl; exact rfl))); (iterate 9 (((apply vL_unwanted_none); exact rfl))); ((apply vL_unwanted'); exact rfl; exact rfl); ((apply vL_val); (case h => ((apply opv_E); exact rfl))); apply vL_nil; apply seqP_normal; ((apply vC_cond_true); exact rfl); apply vC_seq; apply vC_region; ((apply vL_val); (case h => ((apply opv_E); exact rfl))); apply vL_nil; apply seqP_normal; apply vC_ret; apply seqP_ret)
    (apply ret1; (case h1 => (exact norm_eq rfl)))
    exact ⟨by rw [rgB_false (fun H => by have := H.2.1.2.2.2.2.2; have := H.2.1; unfold PdG at this; omega)], hf13⟩
  · ((iterate 3 (((apply vL_val); (case h => ((apply opv_E); exact rfl))))); ((apply vL_wanted); exact rfl); ((apply vL_val); (case h => ((apply opv_fieldAddr); exact rfl))); ((apply vL_wanted); exact rfl); ((apply vL_val); (case h => ((apply opv_loadb1); exact rfl; exact rfl; assumption; exact rfl))); ((apply vL_wanted); exact rfl); (iterate 3 (((apply vL_val); (case h => ((apply opv_E); exact rfl))))); (refine vL_or rfl rfl (fun _ => ?_) (fun h => by omega)); ((apply vL_val); (case h => ((apply opv_fieldAddr); exact rfl))); ((apply vL_wanted); exact rfl); ((apply vL_val); (case h => ((apply opv_loadb1); exact rfl; exact rfl; assumption; exact rfl))); ((apply vL_wanted); exact rfl); (iterate 3 (((apply vL_val); (case h => ((apply opv_E); exact rfl))))); (refine vL_or rfl rfl (fun _ => ?_) (fun h => by omega)); ((apply vL_val); (case h => ((apply opv_fieldAddr); exact rfl))); ((apply vL_wanted); exact rfl); ((apply vL_val); (case h => ((apply opv_loadb1); exact rfl; exact rfl; assumption; exact rfl))); ((apply vL_wanted); exact rfl); (iterate 3 (((apply vL_val); (case h => ((apply opv_E); exact rfl))))); (refine vL_or rfl rfl (fun _ => ?_) (fun h => by omega)); ((apply vL_val); (case h => ((apply opv_fieldAddr); exact rfl))); ((apply vL_wanted); exact rfl); ((apply vL_val); (case h => ((apply opv_loadb1); exact rfl; exact rfl; assumption; exact rfl))); ((apply vL_wanted); exact rfl); (iterate 3 (((apply vL_val); (case h => ((apply opv_E); exact rfl))))); (refine vL_or rfl rfl (fun _ => ?_) (fun h => by omega)); ((apply vL_val); (case h => ((apply opv_fieldAddr); exact rfl))); ((apply vL_wanted); exact rfl); ((apply vL_val); (case h => ((apply opv_loadb1); exact rfl; exact rfl; assumption; exact rfl))); ((apply vL_wanted); exact rfl); (iterate 3 (((apply vL_val); (case h => ((apply opv_E); exact rfl))))); (refine vL_or rfl rfl (fun _ => ?_) (fun h => by omega)); ((apply vL_val); (case h => ((apply opv_fieldAddr); exact rfl))); ((apply vL_wanted); exact rfl); ((apply vL_val); (case h => ((apply opv_loadb1); exact rfl; exact rfl; assumption; exact rfl))); ((apply vL_wanted); exact rfl); ((apply vL_val); (case h => ((apply opv_fieldAddr); exact rfl))); ((apply vL_wanted); exact rfl); ((apply vL_val); (case h => ((apply opv_loadb1); exact rfl; exact rfl; assumption; exact rfl))); ((apply vL_wanted); exact rfl); (iterate 2 (((apply vL_val); (case h => ((apply opv_E); exact rfl))))); apply vL_nil; apply seqP_normal; (refine vC_cond_dec rfl (fun h => by omega) (fun _ => ?_)); apply vC_skip; apply seqP_normal; (iterate 2 (apply vC_seq)); apply vC_region; ((apply vL_val); (case h => ((apply opv_fieldAddr); exact rfl))); ((apply vL_val); (case h => ((apply opv_loadb1); exact rfl; exact rfl; assumption; exact rfl))); (iterate 2 (((apply vL_val); (case h => ((apply opv_E); exact rfl))))); (refine vL_or rfl rfl (fun _ => ?_) (fun h => by omega)); ((apply vL_val); (case h => ((apply opv_fieldAddr); exact rfl))); ((apply vL_wanted); exact rfl); ((apply vL_val); (case h => ((apply opv_loadb1); exact rfl; exact rfl; assumption; exact rfl))); ((apply vL_wanted); exact rfl); (iterate 3 (((apply vL_val); (case h => ((apply opv_E); exact rfl))))); (refine vL_or rfl rfl (fun h => by omega) (fun _ => ?_)); (iterate 2 (((apply vL_unwanted'); exact rfl; exact rfl))); (iterate 2 (((apply vL_val); (case h => ((apply opv_E); exact rfl))))); (iterate 3 (((apply vL_unwanted'); exact rfl; exact rfl))); (iterate 2 (((apply vL_val); (case h => ((apply opv_E); exact rfl))))); (iterate 4 (((apply vL_unwanted'); exact rfl; exact rfl))); (iterate 2 (((apply vL_val); (case h => ((apply opv_E); exact rfl))))); (iterate 4 (((apply vL_unwanted'); exact rfl; exact rfl))); (iterate 9 (((apply vL_unwanted_none); exact rfl))); ((apply vL_unwanted'); exact rfl; exact rfl); ((apply vL_val); (case h => ((apply opv_E); exact rfl))); apply vL_nil; apply seqP_normal; ((apply vC_cond_true); exact rfl); apply vC_seq; apply vC_region; ((apply vL_val); (case h => ((apply opv_E); exact rfl))); apply vL_nil; apply seqP_normal; apply vC_ret; apply seqP_ret)
    (apply ret1; (case h1 => (exact norm_eq rfl)))
    exact ⟨by rw [rgB_false (fun H => by have := H.2.1.2.2.2.2.2; have := H.2.1; unfold PdG at this; omega)], hf13⟩
  · ((iterate 3 (((apply vL_val); (case h => ((apply opv_E); exact rfl))))); ((apply vL_wanted); exact rfl); ((apply vL_val); (case h => ((apply opv_fieldAddr); exact rfl))); ((apply vL_wanted); exact rfl); ((apply vL_val); (case h => ((apply opv_loadb1); exact rfl; exact rfl; assumption; exact rfl))); ((apply vL_wanted); exact rfl); (iterate 3 (((apply vL_val); (case h => ((apply opv_E); exact rfl))))); (refine vL_or rfl rfl (fun _ => ?_) (fun h => by omega)); ((apply vL_val); (case h => ((apply opv_fieldAddr); exact rfl))); ((apply vL_wanted); exact rfl); ((apply vL_val); (case h => ((apply opv_loadb1); exact rfl; exact rfl; assumption; exact rfl))); ((apply vL_wanted); exact rfl); (iterate 3 (((apply vL_val); (case h => ((apply opv_E); exact rfl))))); (refine vL_or rfl rfl (fun _ => ?_) (fun h => by omega)); ((apply vL_val); (case h => ((apply opv_fieldAddr); exact rfl))); ((apply vL_wanted); exact rfl); ((apply vL_val); (case h => ((apply opv_loadb1); exact rfl; exact rfl; assumption; exact rfl))); ((apply vL_wanted); exact rfl); (iterate 3 (((apply vL_val); (case h => ((apply opv_E); exact rfl))))); (refine vL_or rfl rfl (fun _ => ?_) (fun h => by omega)); ((apply vL_val); (case h => ((apply opv_fieldAddr); exact rfl))); ((apply vL_wanted); exact rfl); ((apply vL_val); (case h => ((apply opv_loadb1); exact rfl; exact rfl; assumption; exact rfl))); ((apply vL_wanted); exact rfl); (iterate 3 (((apply vL_val); (case h => ((apply opv_E); exact rfl))))); (refine vL_or rfl rfl (fun _ => ?_) (fun h => by omega)); ((apply vL_val); (case h => ((apply opv_fieldAddr); exact rfl))); ((apply vL_wanted); exact rfl); ((apply vL_val); (case h => ((apply opv_loadb1); exact rfl; exact rfl; assumption; exact rfl))); ((apply vL_wanted); exact rfl); (iterate 3 (((apply vL_val); (case h => ((apply opv_E); exact rfl))))); (refine vL_or rfl rfl (fun _ => ?_) (fun h => by omega)); ((apply vL_val); (case h => ((apply opv_fieldAddr); exact rfl))); ((apply vL_wanted); exact rfl); ((apply vL_val); (case h => ((apply opv_loadb1); exact rfl; exact rfl; assumption; exact rfl))); ((apply vL_wanted); exact rfl); ((apply vL_val); (case h => ((apply opv_fieldAddr); exact rfl))); ((apply vL_wanted); exact rfl); ((apply vL_val); (case h => ((apply opv_loadb1); exact rfl; exact rfl; assumption; exact rfl))); ((apply vL_wanted); exact rfl); (iterate 2 (((apply vL_val); (case h => ((apply opv_E); exact rfl))))); apply vL_nil; apply seqP_normal; (refine vC_cond_dec rfl (fun h => by omega) (fun _ => ?_)); apply vC_skip; apply seqP_normal; (iterate 2 (apply vC_seq)); apply vC_region; ((apply vL_val); (case h => ((apply opv_fieldAddr); exact rfl))); ((apply vL_val); (case h => ((apply opv_loadb1); exact rfl; exact rfl; assumption; exact rfl))); (iterate 2 (((apply vL_val); (case h => ((apply opv_E); exact rfl))))); (refine vL_or rfl rfl (fun _ => ?_) (fun h => by omega)); ((apply vL_val); (case h => ((apply opv_fieldAddr); exact rfl))); ((apply vL_wanted); exact rfl); ((apply vL_val); (case h => ((apply opv_loadb1); exact rfl; exact rfl; assumption; exact rfl))); ((apply vL_wanted); exact rfl); (iterate 3 (((apply vL_val); (case h => ((apply opv_E); exact rfl))))); (refine vL_or rfl rfl (fun _ => ?_) (fun h => by omega)); ((apply vL_val); (case h => ((apply opv_fieldAddr); exact rfl))); ((apply vL_wanted); exact rfl); ((apply vL_val); (case h => ((apply opv_loadb1); exact rfl; exact rfl; assumption; exact rfl))); ((apply vL_wanted); exact rfl); (iterate 3 (((apply vL_val); (case h => ((apply opv_E); exact rfl))))); (refine vL_or rfl rfl (fun h => by omega) (fun _ => ?_)); (iterate 2 (((apply vL_unwanted'); exact rfl; exact rfl))); (iterate 2 (((apply vL_val); (case h => ((apply opv_E); exact rfl))))); (iterate 4 (((apply vL_unwanted'); exact rfl; exact rfl))); (iterate 2 (((apply vL_val); (case h => ((apply opv_E); exact rfl))))); (iterate 4 (((apply vL_unwanted'); exact rfl; exact rfl))); (iterate 9 (((apply vL_unwanted_none); exact rfl))); ((apply vL_unwanted'); exact rfl; exact rfl); ((apply vL_val); (case h => ((apply opv_E); exact rfl))); apply vL_nil; apply seqP_normal; ((apply vC_cond_true); exact rfl); apply vC_seq; apply vC_region; ((apply vL_val); (case h => ((apply opv_E); exact rfl))); apply vL_nil; apply seqP_normal; apply vC_ret; apply seqP_ret)
    (apply ret1; (case h1 => (exact norm_eq rfl)))
    exact ⟨by rw [rgB_false (fun H => by have := H.2.1.2.2.2.2.2; have := H.2.1; unfold PdG at this; omega)], hf13⟩
  · ((iterate 3 (((apply vL_val); (case h => ((apply opv_E); exact rfl))))); ((apply vL_wanted); exact rfl); ((apply vL_val); (case h => ((apply opv_fieldAddr); exact rfl))); ((apply vL_wanted); exact rfl); ((apply vL_val); (case h => ((apply opv_loadb1); exact rfl; exact rfl; assumption; exact rfl))); ((apply vL_wanted); exact rfl); (iterate 3 (((apply vL_val); (case h => ((apply opv_E); exact rfl))))); (refine vL_or rfl rfl (fun _ => ?_) (fun h => by omega)); ((apply vL_val); (case h => ((apply opv_fieldAddr); exact rfl))); ((apply vL_wanted); exact rfl); ((apply vL_val); (case h => ((apply opv_loadb1); exact rfl; exact rfl; assumption; exact rfl))); ((apply vL_wanted); exact rfl); (iterate 3 (((apply vL_val); (case h => ((apply opv_E); exact rfl))))); (refine vL_or rfl rfl (fun _ => ?_) (fun h => by omega)); ((apply vL_val); (case h => ((apply opv_fieldAddr); exact rfl))); ((apply vL_wanted); exact rfl); ((apply vL_val); (case h => ((apply opv_loadb1); exact rfl; exact rfl; assumption; exact rfl))); ((apply vL_wanted); exact rfl); (iterate 3 (((apply vL_val); (case h => ((apply opv_E); exact rfl))))); (refine vL_or rfl rfl (fun _ => ?_) (fun h => by omega)); ((apply vL_val); (case h => ((apply opv_fieldAddr); exact rfl))); ((apply vL_wanted); exact rfl); ((apply vL_val); (case h => ((apply opv_loadb1); exact rfl; exact rfl; assumption; exact rfl))); ((apply vL_wanted); exact rfl); (iterate 3 (((apply vL_val); (case h => ((apply opv_E); exact rfl))))); (refine vL_or rfl rfl (fun _ => ?_) (fun h => by omega)); ((apply vL_val); (case h => ((apply opv_fieldAddr); exact rfl))); ((apply vL_wanted); exact rfl); ((apply vL_val); (case h => ((apply opv_loadb1); exact rfl; exact rfl; assumption; exact rfl))); ((apply vL_wanted); exact rfl); (iterate 3 (((apply vL_val); (case h => ((apply opv_E); exact rfl))))); (refine vL_or rfl rfl (fun _ => ?_) (fun h => by omega)); ((apply vL_val); (case h => ((apply opv_fieldAddr); exact rfl))); ((apply vL_wanted); exact rfl); ((apply vL_val); (case h => ((apply opv_loadb1); exact rfl; exact rfl; assumption; exact rfl))); ((apply vL_wanted); exact rfl); ((apply vL_val); (case h => ((apply opv_fieldAddr); exact rfl))); ((apply vL_wanted); exact rfl); ((apply vL_val); (case h => ((apply opv_loadb1); exact rfl; exact rfl; assumption; exact rfl))); ((apply vL_wanted); exact rfl); (iterate 2 (((apply vL_val); (case h => ((apply opv_E); exact rfl))))); apply vL_nil; apply seqP_normal; (refine vC_cond_dec rfl (fun h => by omega) (fun _ => ?_)); apply vC_skip; apply seqP_normal; (iterate 2 (apply vC_seq)); apply vC_region; ((apply vL_val); (case h => ((apply opv_fieldAddr); exact rfl))); ((apply vL_val); (case h => ((apply opv_loadb1); exact rfl; exact rfl; assumption; exact rfl))); (iterate 2 (((apply vL_val); (case h => ((apply opv_E); exact rfl))))); (refine vL_or rfl rfl (fun _ => ?_) (fun h => by omega)); ((apply vL_val); (case h => ((apply opv_fieldAddr); exact rfl))); ((apply vL_wanted); exact rfl); ((apply vL_val); (case h => ((apply opv_loadb1); exact rfl; exact rfl; assumption; exact rfl))); ((apply vL_wanted); exact rfl); (iterate 3 (((apply vL_val); (case h => ((apply opv_E); exact rfl))))); (refine vL_or rfl rfl (fun _ => ?_) (fun h => by omega)); ((apply vL_val); (case h => ((apply opv_fieldAddr); exact rfl))); ((apply vL_wanted); exact rfl); ((apply vL_val); (case h => ((apply opv_loadb1); exact rfl; exact rfl; assumption; exact rfl))); ((apply vL_wanted); exact rfl); (iterate 3 (((apply vL_val); (case h => ((apply opv_E); exact rfl))))); (refine vL_or rfl rfl (fun _ => ?_) (fun h => by omega)); ((apply vL_val); (case h => ((apply opv_fieldAddr); exact rfl))); ((apply vL_wanted); exact rfl); ((apply vL_val); (case h => ((apply opv_loadb1); exact rfl; exact rfl; assumption; exact rfl))); ((apply vL_wanted); exact rfl); (iterate 3 (((apply vL_val); (case h => ((apply opv_E); exact rfl))))); (refine vL_or rfl rfl (fun h => by omega) (fun _ => ?_)); (iterate 3 (((apply vL_unwanted'); exact rfl; exact rfl))); (iterate 2 (((apply vL_val); (case h => ((apply opv_E); exact rfl))))); (iterate 4 (((apply vL_unwanted'); exact rfl; exact rfl))); (iterate 9 (((apply vL_unwanted_none); exact rfl))); ((apply vL_unwanted'); exact rfl; exact rfl); ((apply vL_val); (case h => ((apply opv_E); exact rfl))); apply vL_nil; apply seqP_normal; ((apply vC_cond_true); exact rfl); apply vC_seq; apply vC_region; ((apply vL_val); (case h => ((apply opv_E); exact rfl))); apply vL_nil; apply seqP_normal; apply vC_ret; apply seqP_ret)
    (apply ret1; (case h1 => (exact norm_eq rfl)))
    exact ⟨by rw [rgB_false (fun H => by have := H.2.1.2.2.2.2.2; have := H.2.1; unfold PdG at this; omega)], hf13⟩
  · ((iterate 3 (((apply vL_val); (case h => ((apply opv_E); exact rfl))))); ((apply vL_wanted); exact rfl); ((apply vL_val); (case h => ((apply opv_fieldAddr); exact rfl))); ((apply vL_wanted); exact rfl); ((apply vL_val); (case h => ((apply opv_loadb1); exact rfl; exact rfl; assumption; exact rfl))); ((apply vL_wanted); exact rfl); (iterate 3 (((apply vL_val); (case h => ((apply opv_E); exact rfl))))); (refine vL_or rfl rfl (fun _ => ?_) (fun h => by omega)); ((apply vL_val); (case h => ((apply opv_fieldAddr); exact rfl))); ((apply vL_wanted); exact rfl); ((apply vL_val); (case h => ((apply opv_loadb1); exact rfl; exact rfl; assumption; exact rfl))); ((apply vL_wanted); exact rfl); (iterate 3 (((apply vL_val); (case h => ((apply opv_E); exact rfl))))); (refine vL_or rfl rfl (fun _ => ?_) (fun h => by omega)); ((apply vL_val); (case h => ((apply opv_fieldAddr); exact rfl))); ((apply vL_wanted); exact rfl); ((apply vL_val); (case h => ((apply opv_loadb1); exact rfl; exact rfl; assumption; exact rfl))); ((apply vL_wanted); exact rfl); (iterate 3 (((apply vL_val); (case h => ((apply opv_E); exact rfl))))); (refine vL_or rfl rfl (fun _ => ?_) (fun h => by omega)); ((apply vL_val); (case h => ((apply opv_fieldAddr); exact rfl))); ((apply vL_wanted); exact rfl); ((apply vL_val); (case h => ((apply opv_loadb1); exact rfl; exact rfl; assumption; exact rfl))); ((apply vL_wanted); exact rfl); (iterate 3 (((apply vL_val); (case h => ((apply opv_E); exact rfl))))); (refine vL_or rfl rfl (fun _ => ?_) (fun h => by omega)); ((apply vL_val); (case h => ((apply opv_fieldAddr); exact rfl))); ((apply vL_wanted); exact rfl); ((apply vL_val); (case h => ((apply opv_loadb1); exact rfl; exact rfl; assumption; exact rfl))); ((apply vL_wanted); exact rfl); (iterate 3 (((apply vL_val); (case h => ((apply opv_E); exact rfl))))); (refine vL_or rfl rfl (fun _ => ?_) (fun h => by omega)); ((apply vL_val); (case h => ((apply opv_fieldAddr); exact rfl))); ((apply vL_wanted); exact rfl); ((apply vL_val); (case h => ((apply opv_loadb1); exact rfl; exact rfl; assumption; exact rfl))); ((apply vL_wanted); exact rfl); ((apply vL_val); (case h => ((apply opv_fieldAddr); exact rfl))); ((apply vL_wanted); exact rfl); ((apply vL_val); (case h => ((apply opv_loadb1); exact rfl; exact rfl; assumption; exact rfl))); ((apply vL_wanted); exact rfl); (iterate 2 (((apply vL_val); (case h => ((apply opv_E); exact rfl))))); apply vL_nil; apply seqP_normal; (refine vC_cond_dec rfl (fun h => by omega) (fun _ => ?_)); apply vC_skip; apply seqP_normal; (iterate 2 (apply vC_seq)); apply vC_region; ((apply vL_val); (case h => ((apply opv_fieldAddr); exact rfl))); ((apply vL_val); (case h => ((apply opv_loadb1); exact rfl; exact rfl; assumption; exact rfl))); (iterate 2 (((apply vL_val); (case h => ((apply opv_E); exact rfl))))); (refine vL_or rfl rfl (fun _ => ?_) (fun h => by omega)); ((apply vL_val); (case h => ((apply opv_fieldAddr); exact rfl))); ((apply vL_wanted); exact rfl); ((apply vL_val); (case h => ((apply opv_loadb1); exact rfl; exact rfl; assumption; exact rfl))); ((apply vL_wanted); exact rfl); (iterate 3 (((apply vL_val); (case h => ((apply opv_E); exact rfl))))); (refine vL_or rfl rfl (fun _ => ?_) (fun h => by omega)); ((apply vL_val); (case h => ((apply opv_fieldAddr); exact rfl))); ((apply vL_wanted); exact rfl); ((apply vL_val); (case h => ((apply opv_loadb1); exact rfl; exact rfl; assumption; exact rfl))); ((apply vL_wanted); exact rfl); (iterate 3 (((apply vL_val); (case h => ((apply opv_E); exact rfl))))); (refine vL_or rfl rfl (fun _ => ?_) (fun h => by omega)); ((apply vL_val); (case h => ((apply opv_fieldAddr); exact rfl))); ((apply vL_wanted); exact rfl); ((apply vL_val); (case h => ((apply opv_loadb1); exact rfl; exact rfl; assumption; exact rfl))); ((apply vL_wanted); exact rfl); (iterate 3 (((apply vL_val); (case h => ((apply opv_E); exact rfl))))); (refine vL_or rfl rfl (fun _ => ?_) (fun h => by omega)); ((apply vL_val); (case h => ((apply opv_fieldAddr); exact rfl))); ((apply vL_wanted); exact rfl); ((apply vL_val); (case h => ((apply opv_loadb1); exact rfl; exact rfl; assumption; exact rfl))); ((apply vL_wanted); exact rfl); ((apply vL_val); (case h => ((apply opv_len); ((conv => lhs; whnf) <;> exact rfl); assumption))); ((apply vL_wanted); exact rfl); (iterate 3 (((apply vL_val); (case h => ((apply opv_E); exact rfl))))); (refine vL_or rfl rfl (fun h => by omega) (fun _ => ?_)); (iterate 3 (((apply vL_unwanted'); exact rfl; exact rfl))); (iterate 9 (((apply vL_unwanted_none); exact rfl))); ((apply vL_unwanted'); exact rfl; exact rfl); ((apply vL_val); (case h => ((apply opv_E); exact rfl))); apply vL_nil; apply seqP_normal; ((apply vC_cond_true); exact rfl); apply vC_seq; apply vC_region; ((apply vL_val); (case h => ((apply opv_E); exact rfl))); apply vL_nil; apply seqP_normal; apply vC_ret; apply seqP_ret)
    (apply ret1; (case h1 => (exact norm_eq rfl)))
    exact ⟨by rw [rgB_false (fun H => by have := H.2.1.2.2.2.2.2; have := H.2.1; unfold PdG at this; omega)], hf13⟩
  · ((iterate 3 (((apply vL_val); (case h => ((apply opv_E); exact rfl))))); ((apply vL_wanted); exact rfl); ((apply vL_val); (case h => ((apply opv_fieldAddr); exact rfl))); ((apply vL_wanted); exact rfl); ((apply vL_val); (case h => ((apply opv_loadb1); exact rfl; exact rfl; assumption; exact rfl))); ((apply vL_wanted); exact rfl); (iterate 3 (((apply vL_val); (case h => ((apply opv_E); exact rfl))))); (refine vL_or rfl rfl (fun _ => ?_) (fun h => by omega)); ((apply vL_val); (case h => ((apply opv_fieldAddr); exact rfl))); ((apply vL_wanted); exact rfl); ((apply vL_val); (case h => ((apply opv_loadb1); exact rfl; exact rfl; assumption; exact rfl))); ((apply vL_wanted); exact rfl); (iterate 3 (((apply vL_val); (case h => ((apply opv_E); exact rfl))))); (refine vL_or rfl rfl (fun _ => ?_) (fun h => by omega)); ((apply vL_val); (case h => ((apply opv_fieldAddr); exact rfl))); ((apply vL_wanted); exact rfl); ((apply vL_val); (case h => ((apply opv_loadb1); exact rfl; exact rfl; assumption; exact rfl))); ((apply vL_wanted); exact rfl); (iterate 3 (((apply vL_val); (case h => ((apply opv_E); exact rfl))))); (refine vL_or rfl rfl (fun _ => ?_) (fun h => by omega)); ((apply vL_val); (case h => ((apply opv_fieldAddr); exact rfl))); ((apply vL_wanted); exact rfl); ((apply vL_val); (case h => ((apply opv_loadb1); exact rfl; exact rfl; assumption; exact rfl))); ((apply vL_wanted); exact rfl); (iterate 3 (((apply vL_val); (case h => ((apply opv_E); exact rfl))))); (refine vL_or rfl rfl (fun _ => ?_) (fun h => by omega)); ((apply vL_val); (case h => ((apply opv_fieldAddr); exact rfl))); ((apply vL_wanted); exact rfl); ((apply vL_val); (case h => ((apply opv_loadb1); exact rfl; exact rfl; assumption; exact rfl))); ((apply vL_wanted); exact rfl); (iterate 3 (((apply vL_val); (case h => ((apply opv_E); exact rfl))))); (refine vL_or rfl rfl (fun _ => ?_) (fun h => by omega)); ((apply vL_val); (case h => ((apply opv_fieldAddr); exact rfl))); ((apply vL_wanted); exact rfl); ((apply vL_val); (case h => ((apply opv_loadb1); exact rfl; exact rfl; assumption; exact rfl))); ((apply vL_wanted); exact rfl); ((apply vL_val); (case h => ((apply opv_fieldAddr); exact rfl))); ((apply vL_wanted); exact rfl); ((apply vL_val); (case h => ((apply opv_loadb1); exact rfl; exact rfl; assumption; exact rfl))); ((apply vL_wanted); exact rfl); (iterate 2 (((apply vL_val); (case h => ((apply opv_E); exact rfl))))); apply vL_nil; apply seqP_normal; (refine vC_cond_dec rfl (fun h => by omega) (fun _ => ?_)); apply vC_skip; apply seqP_normal; (iterate 2 (apply vC_seq)); apply vC_region; ((apply vL_val); (case h => ((apply opv_fieldAddr); exact rfl))); ((apply vL_val); (case h => ((apply opv_loadb1); exact rfl; exact rfl; assumption; exact rfl))); (iterate 2 (((apply vL_val); (case h => ((apply opv_E); exact rfl))))); (refine vL_or rfl rfl (fun _ => ?_) (fun h => by omega)); ((apply vL_val); (case h => ((apply opv_fieldAddr); exact rfl))); ((apply vL_wanted); exact rfl); ((apply vL_val); (case h => ((apply opv_loadb1); exact rfl; exact rfl; assumption; exact rfl))); ((apply vL_wanted); exact rfl); (iterate 3 (((apply vL_val); (case h => ((apply opv_E); exact rfl))))); (refine vL_or rfl rfl (fun _ => ?_) (fun h => by omega)); ((apply vL_val); (case h => ((apply opv_fieldAddr); exact rfl))); ((apply vL_wanted); exact rfl); ((apply vL_val); (case h => ((apply opv_loadb1); exact rfl; exact rfl; assumption; exact rfl))); ((apply vL_wanted); exact rfl); (iterate 3 (((apply vL_val); (case h => ((apply opv_E); exact rfl))))); (refine vL_or rfl rfl (fun _ => ?_) (fun h => by omega)); ((apply vL_val); (case h => ((apply opv_fieldAddr); exact rfl))); ((apply vL_wanted); exact rfl); ((apply vL_val); (case h => ((apply opv_loadb1); exact rfl; exact rfl; assumption; exact rfl))); ((apply vL_wanted); exact rfl); (iterate 3 (((apply vL_val); (case h => ((apply opv_E); exact rfl))))); (refine vL_or rfl rfl (fun _ => ?_) (fun h => by omega)); ((apply vL_val); (case h => ((apply opv_fieldAddr); exact rfl))); ((apply vL_wanted); exact rfl); ((apply vL_val); (case h => ((apply opv_loadb1); exact rfl; exact rfl; assumption; exact rfl))); ((apply vL_wanted); exact rfl); ((apply vL_val); (case h => ((apply opv_len); ((conv => lhs; whnf) <;> exact rfl); assumption))); ((apply vL_wanted); exact rfl); (iterate 3 (((apply vL_val); (case h => ((apply opv_E); exact rfl))))); (refine vL_or rfl rfl (fun _ => ?_) (fun h => by omega)); ((apply vL_val); (case h => ((apply opv_fieldAddr); exact rfl))); ((apply vL_wanted); exact rfl); ((apply vL_val); (case h => ((apply opv_loadb1); exact rfl; exact rfl; assumption; exact rfl))); ((apply vL_wanted); exact rfl); ((apply vL_val); (case h => ((apply opv_E); exact rfl))); ((apply vL_wanted); exact rfl); ((apply vL_val); (case h => ((apply opv_E); exact rfl))); (refine vL_and rfl rfl (fun _ => ?_) (fun h => by omega)); ((apply vL_val); (case h => ((apply opv_fieldAddr); exact rfl))); ((apply vL_wanted); exact rfl); ((apply vL_val); (case h => ((apply opv_loadb1); exact rfl; exact rfl; assumption; exact rfl))); ((apply vL_wanted); exact rfl); ((apply vL_val); (case h => ((apply opv_E); exact rfl))); ((apply vL_wanted); exact rfl); ((apply vL_val); (case h => ((apply opv_E); exact rfl))); (refine vL_or rfl rfl (fun h => by omega) (fun _ => ?_)); (iterate 3 (((apply vL_unwanted'); exact rfl; exact rfl))); ((apply vL_wanted); exact rfl); ((apply vL_val); (case h => ((apply opv_E); exact rfl))); ((apply vL_wanted); exact rfl); (iterate 2 (((apply vL_val); (case h => ((apply opv_E); exact rfl))))); apply vL_nil; apply seqP_normal; ((apply vC_cond_true); exact rfl); apply vC_seq; apply vC_region; ((apply vL_val); (case h => ((apply opv_E); exact rfl))); apply vL_nil; apply seqP_normal; apply vC_ret; apply seqP_ret)
    (apply ret1; (case h1 => (exact norm_eq rfl)))
    exact ⟨by rw [rgB_false (fun H => by have := H.2.1.2.2.2.2.2; have := H.2.1; unfold PdG at this; omega)], hf13⟩
  · ((iterate 3 (((apply vL_val); (case h => ((apply opv_E); exact rfl))))); ((apply vL_wanted); exact rfl); ((apply vL_val); (case h => ((apply opv_fieldAddr); exact rfl))); ((apply vL_wanted); exact rfl); ((apply vL_val); (case h => ((apply opv_loadb1); exact rfl; exact rfl; assumption; exact rfl))); ((apply vL_wanted); exact rfl); (iterate 3 (((apply vL_val); (case h => ((apply opv_E); exact rfl))))); (refine vL_or rfl rfl (fun _ => ?_) (fun h => by omega)); ((apply vL_val); (case h => ((apply opv_fieldAddr); exact rfl))); ((apply vL_wanted); exact rfl); ((apply vL_val); (case h => ((apply opv_loadb1); exact rfl; exact rfl; assumption; exact rfl))); ((apply vL_wanted); exact rfl); (iterate 3 (((apply vL_val); (case h => ((apply opv_E); exact rfl))))); (refine vL_or rfl rfl (fun _ => ?_) (fun h => by omega)); ((apply vL_val); (case h => ((apply opv_fieldAddr); exact rfl))); ((apply vL_wanted); exact rfl); ((apply vL_val); (case h => ((apply opv_loadb1); exact rfl; exact rfl; assumption; exact rfl))); ((apply vL_wanted); exact rfl); (iterate 3 (((apply vL_val); (case h => ((apply opv_E); exact rfl))))); (refine vL_or rfl rfl (fun _ => ?_) (fun h => by omega)); ((apply vL_val); (case h => ((apply opv_fieldAddr); exact rfl))); ((apply vL_wanted); exact rfl); ((apply vL_val); (case h => ((apply opv_loadb1); exact rfl; exact rfl; assumption; exact rfl))); ((apply vL_wanted); exact rfl); (iterate 3 (((apply vL_val); (case h => ((apply opv_E); exact rfl))))); (refine vL_or rfl rfl (fun _ => ?_) (fun h => by omega)); ((apply vL_val); (case h => ((apply opv_fieldAddr); exact rfl))); ((apply vL_wanted); exact rfl); ((apply vL_val); (case h => ((apply opv_loadb1); exact rfl; exact rfl; assumption; exact rfl))); ((apply vL_wanted); exact rfl); (iterate 3 (((apply vL_val); (case h => ((apply opv_E); exact rfl))))); (refine vL_or rfl rfl (fun _ => ?_) (fun h => by omega)); ((apply vL_val); (case h => ((apply opv_fieldAddr); exact rfl))); ((apply vL_wanted); exact rfl); ((apply vL_val); (case h => ((apply opv_loadb1); exact rfl; exact rfl; assumption; exact rfl))); ((apply vL_wanted); exact rfl); ((apply vL_val); (case h => ((apply opv_fieldAddr); exact rfl))); ((apply vL_wanted); exact rfl); ((apply vL_val); (case h => ((apply opv_loadb1); exact rfl; exact rfl; assumption; exact rfl))); ((apply vL_wanted); exact rfl); (iterate 2 (((apply vL_val); (case h => ((apply opv_E); exact rfl))))); apply vL_nil; apply seqP_normal; (refine vC_cond_dec rfl (fun h => by omega) (fun _ => ?_)); apply vC_skip; apply seqP_normal; (iterate 2 (apply vC_seq)); apply vC_region; ((apply vL_val); (case h => ((apply opv_fieldAddr); exact rfl))); ((apply vL_val); (case h => ((apply opv_loadb1); exact rfl; exact rfl; assumption; exact rfl))); (iterate 2 (((apply vL_val); (case h => ((apply opv_E); exact rfl))))); (refine vL_or rfl rfl (fun _ => ?_) (fun h => by omega)); ((apply vL_val); (case h => ((apply opv_fieldAddr); exact rfl))); ((apply vL_wanted); exact rfl); ((apply vL_val); (case h => ((apply opv_loadb1); exact rfl; exact rfl; assumption; exact rfl))); ((apply vL_wanted); exact rfl); (iterate 3 (((apply vL_val); (case h => ((apply opv_E); exact rfl))))); (refine vL_or rfl rfl (fun _ => ?_) (fun h => by omega)); ((apply vL_val); (case h => ((apply opv_fieldAddr); exact rfl))); ((apply vL_wanted); exact rfl); ((apply vL_val); (case h => ((apply opv_loadb1); exact rfl; exact rfl; assumption; exact rfl))); ((apply vL_wanted); exact rfl); (iterate 3 (((apply vL_val); (case h => ((apply opv_E); exact rfl))))); (refine vL_or rfl rfl (fun _ => ?_) (fun h => by omega)); ((apply vL_val); (case h => ((apply opv_fieldAddr); exact rfl))); ((apply vL_wanted); exact rfl); ((apply vL_val); (case h => ((apply opv_loadb1); exact rfl; exact rfl; assumption; exact rfl))); ((apply vL_wanted); exact rfl); (iterate 3 (((apply vL_val); (case h => ((apply opv_E); exact rfl))))); (refine vL_or rfl rfl (fun _ => ?_) (fun h => by omega)); ((apply vL_val); (case h => ((apply opv_fieldAddr); exact rfl))); ((apply vL_wanted); exact rfl); ((apply vL_val); (case h => ((apply opv_loadb1); exact rfl; exact rfl; assumption; exact rfl))); ((apply vL_wanted); exact rfl); ((apply vL_val); (case h => ((apply opv_len); ((conv => lhs; whnf) <;> exact rfl); assumption))); ((apply vL_wanted); exact rfl); (iterate 3 (((apply vL_val); (case h => ((apply opv_E); exact rfl))))); (refine vL_or rfl rfl (fun _ => ?_) (fun h => by omega)); ((apply vL_val); (case h => ((apply opv_fieldAddr); exact rfl))); ((apply vL_wanted); exact rfl); ((apply vL_val); (case h => ((apply opv_loadb1); exact rfl; exact rfl; assumption; exact rfl))); ((apply vL_wanted); exact rfl); ((apply vL_val); (case h => ((apply opv_E); exact rfl))); ((apply vL_wanted); exact rfl); ((apply vL_val); (case h => ((apply opv_E); exact rfl))); (refine vL_and rfl rfl (fun _ => ?_) (fun h => by omega)); ((apply vL_val); (case h => ((apply opv_fieldAddr); exact rfl))); ((apply vL_wanted); exact rfl); ((apply vL_val); (case h => ((apply opv_loadb1); exact rfl; exact rfl; assumption; exact rfl))); ((apply vL_wanted); exact rfl); ((apply vL_val); (case h => ((apply opv_E); exact rfl))); ((apply vL_wanted); exact rfl); ((apply vL_val); (case h => ((apply opv_E); exact rfl))); (refine vL_or rfl rfl (fun _ => ?_) (fun h => by omega)); ((apply vL_val); (case h => ((apply opv_fieldAddr); exact rfl))); ((apply vL_wanted); exact rfl); ((apply vL_val); (case h => ((apply opv_loadb1); exact rfl; exact rfl; assumption; exact rfl))); ((apply vL_wanted); exact rfl); ((apply vL_val); (case h => ((apply opv_len); ((conv => lhs; whnf) <;> exact rfl); assumption))); ((apply vL_wanted); exact rfl); ((apply vL_val); (case h => ((apply opv_E); exact rfl))); ((apply vL_wanted); exact rfl); ((apply vL_val); (case h => ((apply opv_E); exact rfl))); ((apply vL_wanted); exact rfl); (iterate 2 (((apply vL_val); (case h => ((apply opv_E); exact rfl))))); apply vL_nil; apply seqP_normal; (refine vC_cond_dec rfl (fun _ => ?_) (fun h => by omega)); apply vC_seq; apply vC_region; ((apply vL_val); (case h => ((apply opv_E); exact rfl))); apply vL_nil; apply seqP_normal; apply vC_ret; apply seqP_ret)
    (apply ret1; (case h1 => (exact norm_eq rfl)))
    exact ⟨by rw [rgB_false (fun H => by have := H.2.1.2.2.2.2.2; have := H.2.1; unfold PdG at this; omega)], hf13⟩
  · have hPd : PdG c := ⟨by omega, by omega, by omega, by omega, by omega, fun _ => by omega⟩
    ((iterate 3 (((apply vL_val); (case h => ((apply opv_E); exact rfl))))); ((apply vL_wanted); exact rfl); ((apply vL_val); (case h => ((apply opv_fieldAddr); exact rfl))); ((apply vL_wanted); exact rfl); ((apply vL_val); (case h => ((apply opv_loadb1); exact rfl; exact rfl; assumption; exact rfl))); ((apply vL_wanted); exact rfl); (iterate 3 (((apply vL_val); (case h => ((apply opv_E); exact rfl))))); (refine vL_or rfl rfl (fun _ => ?_) (fun h => by omega)); ((apply vL_val); (case h => ((apply opv_fieldAddr); exact rfl))); ((apply vL_wanted); exact rfl); ((apply vL_val); (case h => ((apply opv_loadb1); exact rfl; exact rfl; assumption; exact rfl))); ((apply vL_wanted); exact rfl); (iterate 3 (((apply vL_val); (case h => ((apply opv_E); exact rfl))))); (refine vL_or rfl rfl (fun _ => ?_) (fun h => by omega)); ((apply vL_val); (case h => ((apply opv_fieldAddr); exact rfl))); ((apply vL_wanted); exact rfl); ((apply vL_val); (case h => ((apply opv_loadb1); exact rfl; exact rfl; assumption; exact rfl))); ((apply vL_wanted); exact rfl); (iterate 3 (((apply vL_val); (case h => ((apply opv_E); exact rfl))))); (refine vL_or rfl rfl (fun _ => ?_) (fun h => by omega)); ((apply vL_val); (case h => ((apply opv_fieldAddr); exact rfl))); ((apply vL_wanted); exact rfl); ((apply vL_val); (case h => ((apply opv_loadb1); exact rfl; exact rfl; assumption; exact rfl))); ((apply vL_wanted); exact rfl); (iterate 3 (((apply vL_val); (case h => ((apply opv_E); exact rfl))))); (refine vL_or rfl rfl (fun _ => ?_) (fun h => by omega)); ((apply vL_val); (case h => ((apply opv_fieldAddr); exact rfl))); ((apply vL_wanted); exact rfl); ((apply vL_val); (case h => ((apply opv_loadb1); exact rfl; exact rfl; assumption; exact rfl))); ((apply vL_wanted); exact rfl); (iterate 3 (((apply vL_val); (case h => ((apply opv_E); exact rfl))))); (refine vL_or rfl rfl (fun _ => ?_) (fun h => by omega)); ((apply vL_val); (case h => ((apply opv_fieldAddr); exact rfl))); ((apply vL_wanted); exact rfl); ((apply vL_val); (case h => ((apply opv_loadb1); exact rfl; exact rfl; assumption; exact rfl))); ((apply vL_wanted); exact rfl); ((apply vL_val); (case h => ((apply opv_fieldAddr); exact rfl))); ((apply vL_wanted); exact rfl); ((apply vL_val); (case h => ((apply opv_loadb1); exact rfl; exact rfl; assumption; exact rfl))); ((apply vL_wanted); exact rfl); (iterate 2 (((apply vL_val); (case h => ((apply opv_E); exact rfl))))); apply vL_nil; apply seqP_normal; (refine vC_cond_dec rfl (fun h => by omega) (fun _ => ?_)); apply vC_skip; apply seqP_normal; (iterate 2 (apply vC_seq)); apply vC_region; ((apply vL_val); (case h => ((apply opv_fieldAddr); exact rfl))); ((apply vL_val); (case h => ((apply opv_loadb1); exact rfl; exact rfl; assumption; exact rfl))); (iterate 2 (((apply vL_val); (case h => ((apply opv_E); exact rfl))))); (refine vL_or rfl rfl (fun _ => ?_) (fun h => by omega)); ((apply vL_val); (case h => ((apply opv_fieldAddr); exact rfl))); ((apply vL_wanted); exact rfl); ((apply vL_val); (case h => ((apply opv_loadb1); exact rfl; exact rfl; assumption; exact rfl))); ((apply vL_wanted); exact rfl); (iterate 3 (((apply vL_val); (case h => ((apply opv_E); exact rfl))))); (refine vL_or rfl rfl (fun _ => ?_) (fun h => by omega)); ((apply vL_val); (case h => ((apply opv_fieldAddr); exact rfl))); ((apply vL_wanted); exact rfl); ((apply vL_val); (case h => ((apply opv_loadb1); exact rfl; exact rfl; assumption; exact rfl))); ((apply vL_wanted); exact rfl); (iterate 3 (((apply vL_val); (case h => ((apply opv_E); exact rfl))))); (refine vL_or rfl rfl (fun _ => ?_) (fun h => by omega)); ((apply vL_val); (case h => ((apply opv_fieldAddr); exact rfl))); ((apply vL_wanted); exact rfl); ((apply vL_val); (case h => ((apply opv_loadb1); exact rfl; exact rfl; assumption; exact rfl))); ((apply vL_wanted); exact rfl); (iterate 3 (((apply vL_val); (case h => ((apply opv_E); exact rfl))))); (refine vL_or rfl rfl (fun _ => ?_) (fun h => by omega)); ((apply vL_val); (case h => ((apply opv_fieldAddr); exact rfl))); ((apply vL_wanted); exact rfl); ((apply vL_val); (case h => ((apply opv_loadb1); exact rfl; exact rfl; assumption; exact rfl))); ((apply vL_wanted); exact rfl); ((apply vL_val); (case h => ((apply opv_len); ((conv => lhs; whnf) <;> exact rfl); assumption))); ((apply vL_wanted); exact rfl); (iterate 3 (((apply vL_val); (case h => ((apply opv_E); exact rfl))))); (refine vL_or rfl rfl (fun _ => ?_) (fun h => by omega)); ((apply vL_val); (case h => ((apply opv_fieldAddr); exact rfl))); ((apply vL_wanted); exact rfl); ((apply vL_val); (case h => ((apply opv_loadb1); exact rfl; exact rfl; assumption; exact rfl))); ((apply vL_wanted); exact rfl); ((apply vL_val); (case h => ((apply opv_E); exact rfl))); ((apply vL_wanted); exact rfl); ((apply vL_val); (case h => ((apply opv_E); exact rfl))); (refine vL_and rfl rfl (fun _ => ?_) (fun h => by omega)); ((apply vL_val); (case h => ((apply opv_fieldAddr); exact rfl))); ((apply vL_wanted); exact rfl); ((apply vL_val); (case h => ((apply opv_loadb1); exact rfl; exact rfl; assumption; exact rfl))); ((apply vL_wanted); exact rfl); ((apply vL_val); (case h => ((apply opv_E); exact rfl))); ((apply vL_wanted); exact rfl); ((apply vL_val); (case h => ((apply opv_E); exact rfl))); (refine vL_or rfl rfl (fun _ => ?_) (fun h => by omega)); ((apply vL_val); (case h => ((apply opv_fieldAddr); exact rfl))); ((apply vL_wanted); exact rfl); ((apply vL_val); (case h => ((apply opv_loadb1); exact rfl; exact rfl; assumption; exact rfl))); ((apply vL_wanted); exact rfl); ((apply vL_val); (case h => ((apply opv_len); ((conv => lhs; whnf) <;> exact rfl); assumption))); ((apply vL_wanted); exact rfl); ((apply vL_val); (case h => ((apply opv_E); exact rfl))); ((apply vL_wanted); exact rfl); ((apply vL_val); (case h => ((apply opv_E); exact rfl))); ((apply vL_wanted); exact rfl); (iterate 2 (((apply vL_val); (case h => ((apply opv_E); exact rfl))))); apply vL_nil; apply seqP_normal; (refine vC_cond_dec rfl (fun h => by omega) (fun _ => ?_)); apply vC_skip; apply seqP_normal; (iterate 2 (apply vC_seq)); apply vC_region; ((apply vL_val); (case h => ((apply opv_fieldAddr); exact rfl))); ((apply vL_val); (case h => ((apply opv_loadb1); exact rfl; exact rfl; assumption; exact rfl))); ((apply vL_val); (case h => ((apply opv_len); ((conv => lhs; whnf) <;> exact rfl); assumption))); ((apply vL_val); (case h => ((apply opv_E); exact rfl))); apply vL_nil; apply seqP_normal; apply vC_block)
    (apply vC_loop1 680564733836925166769607693763939926116 92 (fun u w' => ∃ i : Nat, u = .int .i64 i ∧ i ≤ c.ss.length ∧ Fr No w w' ∧ Blk w'.heap b1 (clE c) 25 ∧ ∀ (j : Nat) s, j < i → c.ss[j]? = some s → SqOk c.ss j s) (fun u _ => c.ss.length - (RowKit.intOf u).toNat)); (case h1 => (exact norm_eq rfl))
    case h0 => exact ⟨0, rfl, Nat.zero_le _, hf13, hb3, fun j s hj => absurd hj (Nat.not_lt_zero _)⟩
    case round =>
    rintro junk _ w4 ⟨i, rfl, hi, hf4, hb4, hok⟩
    have hrs4 := hr.2.2.frN hf4
    have hrd4 := hr.frN hf4
    by_cases hil : i < c.ss.length
    rotate_left
    · have hli : c.ss.length = i := by omega
      have hall : SsG c.ss := fun j s hj => hok j s (by have := (List.getElem?_eq_some_iff.1 hj).1; omega) hj
      (apply vC_seq; apply vC_region; ((apply vL_val); (case h => ((apply opv_E); exact rfl))); apply vL_nil; apply seqP_normal; apply vC_seq; (refine vC_cond_dec rfl (fun h => by omega) (fun _ => ?_)); apply vC_exit; apply seqP_exit; apply loopP_exit; apply blockP_exit; apply seqP_normal; apply vC_seq; apply vC_region; ((apply vL_val); (case h => ((apply opv_loadbC); exact rfl; exact rfl; assumption; exact (rfl : _ = [_, _, _, _, _, _, _, _, _, _]); exact rfl))))
      refine vL_callF rfl (waitsG c w4 hrd4 hz) rfl ?_
      rintro _ w5 ⟨rfl, hf5⟩
      (((apply vL_val); (case h => ((apply opv_E); exact rfl))); apply vL_nil; apply seqP_normal; apply vC_ret)
      (apply ret1; (case h1 => (exact norm_eq rfl)))
      refine ⟨congrArg Value.bool ?_, hf4.trans hf5⟩
      cases hws : wsB c.id c.next c.brokers c.ws with
      | true => exact (rgB_true ⟨⟨hnew, h1⟩, hPd, hall, of_wsB hws⟩).symm
      | false => exact (rgB_false (fun H => by rw [wsB_true H.2.2.2] at hws; cases hws)).symm
    exact absurd hil (by omega)
  · have hPd : PdG c := ⟨by omega, by omega, by omega, by omega, by omega, fun h => absurd h h2.2.2.2.2.2⟩
    ((iterate 3 (((apply vL_val); (case h => ((apply opv_E); exact rfl))))); ((apply vL_wanted); exact rfl); ((apply vL_val); (case h => ((apply opv_fieldAddr); exact rfl))); ((apply vL_wanted); exact rfl); ((apply vL_val); (case h => ((apply opv_loadb1); exact rfl; exact rfl; assumption; exact rfl))); ((apply vL_wanted); exact rfl); (iterate 3 (((apply vL_val); (case h => ((apply opv_E); exact rfl))))); (refine vL_or rfl rfl (fun _ => ?_) (fun h => by omega)); ((apply vL_val); (case h => ((apply opv_fieldAddr); exact rfl))); ((apply vL_wanted); exact rfl); ((apply vL_val); (case h => ((apply opv_loadb1); exact rfl; exact rfl; assumption; exact rfl))); ((apply vL_wanted); exact rfl); (iterate 3 (((apply vL_val); (case h => ((apply opv_E); exact rfl))))); (refine vL_or rfl rfl (fun _ => ?_) (fun h => by omega)); ((apply vL_val); (case h => ((apply opv_fieldAddr); exact rfl))); ((apply vL_wanted); exact rfl); ((apply vL_val); (case h => ((apply opv_loadb1); exact rfl; exact rfl; assumption; exact rfl))); ((apply vL_wanted); exact rfl); (iterate 3 (((apply vL_val); (case h => ((apply opv_E); exact rfl))))); (refine vL_or rfl rfl (fun _ => ?_) (fun h => by omega)); ((apply vL_val); (case h => ((apply opv_fieldAddr); exact rfl))); ((apply vL_wanted); exact rfl); ((apply vL_val); (case h => ((apply opv_loadb1); exact rfl; exact rfl; assumption; exact rfl))); ((apply vL_wanted); exact rfl); (iterate 3 (((apply vL_val); (case h => ((apply opv_E); exact rfl))))); (refine vL_or rfl rfl (fun _ => ?_) (fun h => by omega)); ((apply vL_val); (case h => ((apply opv_fieldAddr); exact rfl))); ((apply vL_wanted); exact rfl); ((apply vL_val); (case h => ((apply opv_loadb1); exact rfl; exact rfl; assumption; exact rfl))); ((apply vL_wanted); exact rfl); (iterate 3 (((apply vL_val); (case h => ((apply opv_E); exact rfl))))); (refine vL_or rfl rfl (fun _ => ?_) (fun h => by omega)); ((apply vL_val); (case h => ((apply opv_fieldAddr); exact rfl))); ((apply vL_wanted); exact rfl); ((apply vL_val); (case h => ((apply opv_loadb1); exact rfl; exact rfl; assumption; exact rfl))); ((apply vL_wanted); exact rfl); ((apply vL_val); (case h => ((apply opv_fieldAddr); exact rfl))); ((apply vL_wanted); exact rfl); ((apply vL_val); (case h => ((apply opv_loadb1); exact rfl; exact rfl; assumption; exact rfl))); ((apply vL_wanted); exact rfl); (iterate 2 (((apply vL_val); (case h => ((apply opv_E); exact rfl))))); apply vL_nil; apply seqP_normal; (refine vC_cond_dec rfl (fun h => by omega) (fun _ => ?_)); apply vC_skip; apply seqP_normal; (iterate 2 (apply vC_seq)); apply vC_region; ((apply vL_val); (case h => ((apply opv_fieldAddr); exact rfl))); ((apply vL_val); (case h => ((apply opv_loadb1); exact rfl; exact rfl; assumption; exact rfl))); (iterate 2 (((apply vL_val); (case h => ((apply opv_E); exact rfl))))); (refine vL_or rfl rfl (fun _ => ?_) (fun h => by omega)); ((apply vL_val); (case h => ((apply opv_fieldAddr); exact rfl))); ((apply vL_wanted); exact rfl); ((apply vL_val); (case h => ((apply opv_loadb1); exact rfl; exact rfl; assumption; exact rfl))); ((apply vL_wanted); exact rfl); (iterate 3 (((apply vL_val); (case h => ((apply opv_E); exact rfl))))); (refine vL_or rfl rfl (fun _ => ?_) (fun h => by omega)); ((apply vL_val); (case h => ((apply opv_fieldAddr); exact rfl))); ((apply vL_wanted); exact rfl); ((apply vL_val); (case h => ((apply opv_loadb1); exact rfl; exact rfl; assumption; exact rfl))); ((apply vL_wanted); exact rfl); (iterate 3 (((apply vL_val); (case h => ((apply opv_E); exact rfl))))); (refine vL_or rfl rfl (fun _ => ?_) (fun h => by omega)); ((apply vL_val); (case h => ((apply opv_fieldAddr); exact rfl))); ((apply vL_wanted); exact rfl); ((apply vL_val); (case h => ((apply opv_loadb1); exact rfl; exact rfl; assumption; exact rfl))); ((apply vL_wanted); exact rfl); (iterate 3 (((apply vL_val); (case h => ((apply opv_E); exact rfl))))); (refine vL_or rfl rfl (fun _ => ?_) (fun h => by omega)); ((apply vL_val); (case h => ((apply opv_fieldAddr); exact rfl))); ((apply vL_wanted); exact rfl); ((apply vL_val); (case h => ((apply opv_loadb1); exact rfl; exact rfl; assumption; exact rfl))); ((apply vL_wanted); exact rfl); ((apply vL_val); (case h => ((apply opv_len); ((conv => lhs; whnf) <;> exact rfl); assumption))); ((apply vL_wanted); exact rfl); (iterate 3 (((apply vL_val); (case h => ((apply opv_E); exact rfl))))); (refine vL_or rfl rfl (fun _ => ?_) (fun h => by omega)); ((apply vL_val); (case h => ((apply opv_fieldAddr); exact rfl))); ((apply vL_wanted); exact rfl); ((apply vL_val); (case h => ((apply opv_loadb1); exact rfl; exact rfl; assumption; exact rfl))); ((apply vL_wanted); exact rfl); ((apply vL_val); (case h => ((apply opv_E); exact rfl))); ((apply vL_wanted); exact rfl); ((apply vL_val); (case h => ((apply opv_E); exact rfl))); (refine vL_and rfl rfl (fun h => by omega) (fun _ => ?_)); (iterate 3 (((apply vL_unwanted'); exact rfl; exact rfl))); (iterate 4 (((apply vL_unwanted_none); exact rfl))); ((apply vL_unwanted'); exact rfl; exact rfl); ((apply vL_wanted); exact rfl); (iterate 2 (((apply vL_val); (case h => ((apply opv_E); exact rfl))))); apply vL_nil; apply seqP_normal; ((apply vC_cond_false); exact rfl); apply vC_skip; apply seqP_normal; (iterate 2 (apply vC_seq)); apply vC_region; ((apply vL_val); (case h => ((apply opv_fieldAddr); exact rfl))); ((apply vL_val); (case h => ((apply opv_loadb1); exact rfl; exact rfl; assumption; exact rfl))); ((apply vL_val); (case h => ((apply opv_len); ((conv => lhs; whnf) <;> exact rfl); assumption))); ((apply vL_val); (case h => ((apply opv_E); exact rfl))); apply vL_nil; apply seqP_normal; apply vC_block)
    (apply vC_loop1 680564733836925166769607693763939926116 92 (fun u w' => ∃ i : Nat, u = .int .i64 i ∧ i ≤ c.ss.length ∧ Fr No w w' ∧ Blk w'.heap b1 (clE c) 25 ∧ ∀ (j : Nat) s, j < i → c.ss[j]? = some s → SqOk c.ss j s) (fun u _ => c.ss.length - (RowKit.intOf u).toNat)); (case h1 => (exact norm_eq rfl))
    case h0 => exact ⟨0, rfl, Nat.zero_le _, hf13, hb3, fun j s hj => absurd hj (Nat.not_lt_zero _)⟩
    case round =>
    rintro junk _ w4 ⟨i, rfl, hi, hf4, hb4, hok⟩
    have hrs4 := hr.2.2.frN hf4
    have hrd4 := hr.frN hf4
    by_cases hil : i < c.ss.length
    rotate_left
    · have hli : c.ss.length = i := by omega
      have hall : SsG c.ss := fun j s hj => hok j s (by have := (List.getElem?_eq_some_iff.1 hj).1; omega) hj
      (apply vC_seq; apply vC_region; ((apply vL_val); (case h => ((apply opv_E); exact rfl))); apply vL_nil; apply seqP_normal; apply vC_seq; (refine vC_cond_dec rfl (fun h => by omega) (fun _ => ?_)); apply vC_exit; apply seqP_exit; apply loopP_exit; apply blockP_exit; apply seqP_normal; apply vC_seq; apply vC_region; ((apply vL_val); (case h => ((apply opv_loadbC); exact rfl; exact rfl; assumption; exact (rfl : _ = [_, _, _, _, _, _, _, _, _, _]); exact rfl))))
      refine vL_callF rfl (waitsG c w4 hrd4 hz) rfl ?_
      rintro _ w5 ⟨rfl, hf5⟩
      (((apply vL_val); (case h => ((apply opv_E); exact rfl))); apply vL_nil; apply seqP_normal; apply vC_ret)
      (apply ret1; (case h1 => (exact norm_eq rfl)))
      refine ⟨congrArg Value.bool ?_, hf4.trans hf5⟩
      cases hws : wsB c.id c.next c.brokers c.ws with
      | true => exact (rgB_true ⟨⟨hnew, h1⟩, hPd, hall, of_wsB hws⟩).symm
      | false => exact (rgB_false (fun H => by rw [wsB_true H.2.2.2] at hws; cases hws)).symm
    obtain ⟨s, hsi⟩ : ∃ s, c.ss[i]? = some s := ⟨c.ss[i], List.getElem?_eq_getElem hil⟩
    have hsi' : c.ss[((i : Nat) : Int).toNat]? = some s := hsi
    have hsz := hzs s (List.mem_of_getElem? hsi)
    have nope : ¬ SqOk c.ss i s → rgB c = false := fun h => rgB_false (fun H => h (H.2.2.1 i s hsi))
    (apply vC_seq; apply vC_region; ((apply vL_val); (case h => ((apply opv_E); exact rfl))); apply vL_nil; apply seqP_normal; apply vC_seq; (refine vC_cond_dec rfl (fun _ => ?_) (fun h => by omega)); apply vC_skip; apply seqP_normal; apply vC_seq; apply vC_block; apply vC_seq; apply vC_region; ((apply vL_val); (case h => ((apply opv_E); exact rfl))); ((apply vL_val); (case h => ((apply opv_indexAddr); ((conv => lhs; whnf) <;> exact rfl); exact rfl; assumption; (first | omega | (simp only [List.length_map]; omega)); (first | omega | (simp only [List.length_map]; omega))))); ((apply vL_val); (case h => ((apply opv_ld_eln); exact rfl; exact rfl; assumption; assumption))); ((apply vL_val); (case h => (apply opw_alloc))); ((apply vL_val); (case h => ((apply opv_E); exact rfl))); ((apply vL_skip); (case h => ((apply ops_storen); exact norm_eq rfl; exact norm_eq rfl; exact rfl; exact (fun u hu => EncOk.one _ u hu); infer_instance; (first | decide | exact of_decide_eq_true rfl | (simp; done))))); apply vL_nil; apply seqP_normal; apply vC_seq)
    refine vC_gen (fun w' => Fr No w4 w' ∧ Blk w'.heap w4.heap.size (sqE s) 65) ⟨by (apply Fr.allocSet; exact Fr.refl _ _), Blk.as inferInstance rfl⟩ ?_
    rintro w5 ⟨hf5, h5⟩
    have hb5 := hb4.frN hf5
    have hf15 := hf4.trans hf5
    have hrs5 := hrs4.frN hf5
    generalize w4.heap.size = b5 at h5 ⊢
    refine vC_draw' (fun wf => Fr No w5 wf) ((Fr.refl No w5).drew) ?_
    ((apply (tk 0)); (case hi => exact rfl); (case hf => kernel_rfl); (case hS => (apply Fr.drew; exact Fr.refl _ _)); (case hy => (intro wf hwf; haveI := From.mk hwf; (((apply opv_fieldAddr); exact rfl)))))
    ((apply (tk 1)); (case hi => exact rfl); (case hf => kernel_rfl); (case hS => (apply Fr.drew; exact Fr.refl _ _)); (case hy => (intro wf hwf; haveI := From.mk hwf; (((apply opv_loadbC); exact rfl; exact rfl; infer_instance; exact (rfl : _ = [_, _]); exact rfl)))))
    (refine tkc 2 rfl (by kernel_rfl) (by (apply Fr.drew; exact Fr.refl _ _)) rfl (mayp31 s.topic s.part _ hsz) rfl ?_)
    rintro _ w6 ⟨rfl, hf6⟩
    have hf56 : Fr No w5 w6 := (Fr.refl No w5).drew.trans hf6
    cases k1 : mayPB s.topic s.part with
    | false =>
      ((apply (tk 3)); (case hi => exact rfl); (case hf => kernel_rfl); (case hS => (assumption)); (case hy => (intro wf hwf; haveI := From.mk hwf; (((apply opv_not); exact rfl)))))
      ((apply (tk 4)); (case hi => exact rfl); (case hf => kernel_rfl); (case hS => (assumption)); (case hy => (intro wf hwf; haveI := From.mk hwf; (((apply opv_E); exact rfl)))))
      refine tku 5 rfl rfl rfl (by kernel_rfl) (by (assumption)) ?_
      refine tku 6 rfl rfl rfl (by kernel_rfl) (by (assumption)) ?_
      refine tku 7 rfl rfl rfl (by kernel_rfl) (by (assumption)) ?_
      ((apply (tk 8)); (case hi => exact rfl); (case hf => kernel_rfl); (case hS => (assumption)); (case hy => (intro wf hwf; haveI := From.mk hwf; (((apply opv_E); exact rfl)))))
      ((apply (tk 9)); (case hi => exact rfl); (case hf => kernel_rfl); (case hS => (assumption)); (case hy => (intro wf hwf; haveI := From.mk hwf; (((apply opv_E); exact rfl)))))
      refine tku 10 rfl rfl rfl (by kernel_rfl) (by (assumption)) ?_
      refine tku 11 rfl rfl rfl (by kernel_rfl) (by (assumption)) ?_
      refine tku 12 rfl rfl rfl (by kernel_rfl) (by (assumption)) ?_
      ((apply (tk 13)); (case hi => exact rfl); (case hf => kernel_rfl); (case hS => (assumption)); (case hy => (intro wf hwf; haveI := From.mk hwf; (((apply opv_E); exact rfl)))))
      ((apply (tk 14)); (case hi => exact rfl); (case hf => kernel_rfl); (case hS => (assumption)); (case hy => (intro wf hwf; haveI := From.mk hwf; (((apply opv_E); exact rfl)))))
      refine tku 15 rfl rfl rfl (by kernel_rfl) (by (assumption)) ?_
      refine tku 16 rfl rfl rfl (by kernel_rfl) (by (assumption)) ?_
      refine tku 17 rfl rfl rfl (by kernel_rfl) (by (assumption)) ?_
      refine tkn 18 rfl rfl (by kernel_rfl) (by (assumption)) ?_
      refine tkn 19 rfl rfl (by kernel_rfl) (by (assumption)) ?_
      refine tkn 20 rfl rfl (by kernel_rfl) (by (assumption)) ?_
      refine tkn 21 rfl rfl (by kernel_rfl) (by (assumption)) ?_
      refine tkn 22 rfl rfl (by kernel_rfl) (by (assumption)) ?_
      refine tkn 23 rfl rfl (by kernel_rfl) (by (assumption)) ?_
      refine tkn 24 rfl rfl (by kernel_rfl) (by (assumption)) ?_
      refine tkn 25 rfl rfl (by kernel_rfl) (by (assumption)) ?_
      refine tkn 26 rfl rfl (by kernel_rfl) (by (assumption)) ?_
      refine tkn 27 rfl rfl (by kernel_rfl) (by (assumption)) ?_
      refine tkn 28 rfl rfl (by kernel_rfl) (by (assumption)) ?_
      refine tku 29 rfl rfl rfl (by kernel_rfl) (by (assumption)) ?_
      ((apply (tk 30)); (case hi => exact rfl); (case hf => kernel_rfl); (case hS => (assumption)); (case hy => (intro wf hwf; haveI := From.mk hwf; (((apply opv_E); exact rfl)))))
      refine vA_done (by kernel_rfl) (by (first | exact trivial | ((assumption); done))) ?_
      (apply seqP_normal; ((apply vC_cond_true); exact rfl); apply vC_seq; apply vC_region; ((apply vL_val); (case h => ((apply opv_E); exact rfl))); apply vL_nil; apply seqP_normal; apply vC_ret; apply blockP_ret; apply seqP_ret; apply loopP_ret; apply blockP_ret; apply seqP_ret)
      (apply ret1; (case h1 => (exact norm_eq rfl)))
      exact ⟨by rw [nope (fun H => by have := H.1; rw [k1] at this; cases this)], hf15.trans hf56⟩
    | true =>
    ((apply (tk 3)); (case hi => exact rfl); (case hf => kernel_rfl); (case hS => (assumption)); (case hy => (intro wf hwf; haveI := From.mk hwf; (((apply opv_not); exact rfl)))))
    ((apply (tk 4)); (case hi => exact rfl); (case hf => kernel_rfl); (case hS => (assumption)); (case hy => (intro wf hwf; haveI := From.mk hwf; (((apply opv_E); exact rfl)))))
    ((apply (tkw 5)); (case hi => exact rfl); (case hg => exact rfl); (case hf => kernel_rfl); (case hS => (assumption)); (case hy => (intro wf hwf; haveI := From.mk hwf; (((apply opv_fieldAddr); exact rfl)))))
    ((apply (tkw 6)); (case hi => exact rfl); (case hg => exact rfl); (case hf => kernel_rfl); (case hS => (assumption)); (case hy => (intro wf hwf; haveI := From.mk hwf; (((apply opv_loadb1); exact rfl; exact rfl; infer_instance; exact rfl)))))
    ((apply (tkw 7)); (case hi => exact rfl); (case hg => exact rfl); (case hf => kernel_rfl); (case hS => (assumption)); (case hy => (intro wf hwf; haveI := From.mk hwf; (((apply opv_E); exact rfl)))))
    ((apply (tk 8)); (case hi => exact rfl); (case hf => kernel_rfl); (case hS => (assumption)); (case hy => (intro wf hwf; haveI := From.mk hwf; (((apply opv_E); exact rfl)))))
    ((apply (tk 9)); (case hi => exact rfl); (case hf => kernel_rfl); (case hS => (assumption)); (case hy => (intro wf hwf; haveI := From.mk hwf; (((apply opv_E); exact rfl)))))
    by_cases k2 : s.nx < 1
    · refine vA_split 106 rfl (fun _ => ?_) (fun h => absurd k2 h)
      refine tku 10 rfl rfl rfl (by kernel_rfl) (by (assumption)) ?_
      refine tku 11 rfl rfl rfl (by kernel_rfl) (by (assumption)) ?_
      refine tku 12 rfl rfl rfl (by kernel_rfl) (by (assumption)) ?_
      ((apply (tk 13)); (case hi => exact rfl); (case hf => kernel_rfl); (case hS => (assumption)); (case hy => (intro wf hwf; haveI := From.mk hwf; (((apply opv_E); exact rfl)))))
      ((apply (tk 14)); (case hi => exact rfl); (case hf => kernel_rfl); (case hS => (assumption)); (case hy => (intro wf hwf; haveI := From.mk hwf; (((apply opv_E); exact rfl)))))
      refine tku 15 rfl rfl rfl (by kernel_rfl) (by (assumption)) ?_
      refine tku 16 rfl rfl rfl (by kernel_rfl) (by (assumption)) ?_
      refine tku 17 rfl rfl rfl (by kernel_rfl) (by (assumption)) ?_
      refine tkn 18 rfl rfl (by kernel_rfl) (by (assumption)) ?_
      refine tkn 19 rfl rfl (by kernel_rfl) (by (assumption)) ?_
      refine tkn 20 rfl rfl (by kernel_rfl) (by (assumption)) ?_
      refine tkn 21 rfl rfl (by kernel_rfl) (by (assumption)) ?_
      refine tkn 22 rfl rfl (by kernel_rfl) (by (assumption)) ?_
      refine tkn 23 rfl rfl (by kernel_rfl) (by (assumption)) ?_
      refine tkn 24 rfl rfl (by kernel_rfl) (by (assumption)) ?_
      refine tkn 25 rfl rfl (by kernel_rfl) (by (assumption)) ?_
      refine tkn 26 rfl rfl (by kernel_rfl) (by (assumption)) ?_
      refine tkn 27 rfl rfl (by kernel_rfl) (by (assumption)) ?_
      refine tkn 28 rfl rfl (by kernel_rfl) (by (assumption)) ?_
      refine tku 29 rfl rfl rfl (by kernel_rfl) (by (assumption)) ?_
      ((apply (tk 30)); (case hi => exact rfl); (case hf => kernel_rfl); (case hS => (assumption)); (case hy => (intro wf hwf; haveI := From.mk hwf; (((apply opv_E); exact rfl)))))
      refine vA_done (by kernel_rfl) (by (first | exact trivial | ((assumption); done))) ?_
      (apply seqP_normal; ((apply vC_cond_true); exact rfl); apply vC_seq; apply vC_region; ((apply vL_val); (case h => ((apply opv_E); exact rfl))); apply vL_nil; apply seqP_normal; apply vC_ret; apply blockP_ret; apply seqP_ret; apply loopP_ret; apply blockP_ret; apply seqP_ret)
      (apply ret1; (case h1 => (exact norm_eq rfl)))
      exact ⟨by rw [nope (fun H => by have := H.2.1; omega)], hf15.trans hf56⟩
    refine vA_split 106 rfl (fun h => absurd h k2) (fun _ => ?_)
    ((apply (tkw 10)); (case hi => exact rfl); (case hg => exact rfl); (case hf => kernel_rfl); (case hS => (assumption)); (case hy => (intro wf hwf; haveI := From.mk hwf; (((apply opv_fieldAddr); exact rfl)))))
    ((apply (tkw 11)); (case hi => exact rfl); (case hg => exact rfl); (case hf => kernel_rfl); (case hS => (assumption)); (case hy => (intro wf hwf; haveI := From.mk hwf; (((apply opv_loadb1); exact rfl; exact rfl; infer_instance; exact rfl)))))
    ((apply (tkw 12)); (case hi => exact rfl); (case hg => exact rfl); (case hf => kernel_rfl); (case hS => (assumption)); (case hy => (intro wf hwf; haveI := From.mk hwf; (((apply opv_E); exact rfl)))))
    ((apply (tk 13)); (case hi => exact rfl); (case hf => kernel_rfl); (case hS => (assumption)); (case hy => (intro wf hwf; haveI := From.mk hwf; (((apply opv_E); exact rfl)))))
    ((apply (tk 14)); (case hi => exact rfl); (case hf => kernel_rfl); (case hS => (assumption)); (case hy => (intro wf hwf; haveI := From.mk hwf; (((apply opv_E); exact rfl)))))
    by_cases k3 : 4611686018427387904 < s.nx
    · refine vA_split 111 rfl (fun _ => ?_) (fun h => absurd k3 h)
      refine tku 15 rfl rfl rfl (by kernel_rfl) (by (assumption)) ?_
      refine tku 16 rfl rfl rfl (by kernel_rfl) (by (assumption)) ?_
      refine tku 17 rfl rfl rfl (by kernel_rfl) (by (assumption)) ?_
      refine tkn 18 rfl rfl (by kernel_rfl) (by (assumption)) ?_
      refine tkn 19 rfl rfl (by kernel_rfl) (by (assumption)) ?_
      refine tkn 20 rfl rfl (by kernel_rfl) (by (assumption)) ?_
      refine tkn 21 rfl rfl (by kernel_rfl) (by (assumption)) ?_
      refine tkn 22 rfl rfl (by kernel_rfl) (by (assumption)) ?_
      refine tkn 23 rfl rfl (by kernel_rfl) (by (assumption)) ?_
      refine tkn 24 rfl rfl (by kernel_rfl) (by (assumption)) ?_
      refine tkn 25 rfl rfl (by kernel_rfl) (by (assumption)) ?_
      refine tkn 26 rfl rfl (by kernel_rfl) (by (assumption)) ?_
      refine tkn 27 rfl rfl (by kernel_rfl) (by (assumption)) ?_
      refine tkn 28 rfl rfl (by kernel_rfl) (by (assumption)) ?_
      refine tku 29 rfl rfl rfl (by kernel_rfl) (by (assumption)) ?_
      ((apply (tk 30)); (case hi => exact rfl); (case hf => kernel_rfl); (case hS => (assumption)); (case hy => (intro wf hwf; haveI := From.mk hwf; (((apply opv_E); exact rfl)))))
      refine vA_done (by kernel_rfl) (by (first | exact trivial | ((assumption); done))) ?_
      (apply seqP_normal; ((apply vC_cond_true); exact rfl); apply vC_seq; apply vC_region; ((apply vL_val); (case h => ((apply opv_E); exact rfl))); apply vL_nil; apply seqP_normal; apply vC_ret; apply blockP_ret; apply seqP_ret; apply loopP_ret; apply blockP_ret; apply seqP_ret)
      (apply ret1; (case h1 => (exact norm_eq rfl)))
      exact ⟨by rw [nope (fun H => by have := H.2.1; omega)], hf15.trans hf56⟩
    refine vA_split 111 rfl (fun h => absurd h k3) (fun _ => ?_)
    ((apply (tkw 15)); (case hi => exact rfl); (case hg => exact rfl); (case hf => kernel_rfl); (case hS => (assumption)); (case hy => (intro wf hwf; haveI := From.mk hwf; (((apply opv_E); exact rfl)))))
    ((apply (tkw 16)); (case hi => exact rfl); (case hg => exact rfl); (case hf => kernel_rfl); (case hS => (assumption)); (case hy => (intro wf hwf; haveI := From.mk hwf; (((apply opv_E); exact rfl)))))
    ((apply (tkw 17)); (case hi => exact rfl); (case hg => exact rfl); (case hf => kernel_rfl); (case hS => (assumption)); (case hy => (intro wf hwf; haveI := From.mk hwf; (((apply opv_E); exact rfl)))))
    by_cases k4 : 0 < i
    rotate_left
    · refine vA_split 114 rfl (fun h => by omega) (fun _ => ?_)
      refine tku 18 rfl rfl rfl (by kernel_rfl) (by (assumption)) ?_
      refine tku 19 rfl rfl rfl (by kernel_rfl) (by (assumption)) ?_
      refine tku 20 rfl rfl rfl (by kernel_rfl) (by (assumption)) ?_
      refine tku 21 rfl rfl rfl (by kernel_rfl) (by (assumption)) ?_
      refine tku 22 rfl rfl rfl (by kernel_rfl) (by (assumption)) ?_
      refine tku 23 rfl rfl rfl (by kernel_rfl) (by (assumption)) ?_
      refine tku 24 rfl rfl rfl (by kernel_rfl) (by (assumption)) ?_
      refine tku 25 rfl rfl rfl (by kernel_rfl) (by (assumption)) ?_
      refine tku 26 rfl rfl rfl (by kernel_rfl) (by (assumption)) ?_
      refine tku 27 rfl rfl rfl (by kernel_rfl) (by (assumption)) ?_
      refine tku 28 rfl rfl rfl (by kernel_rfl) (by (assumption)) ?_
      ((apply (tkw 29)); (case hi => exact rfl); (case hg => exact rfl); (case hf => kernel_rfl); (case hS => (assumption)); (case hy => (intro wf hwf; haveI := From.mk hwf; (((apply opv_E); exact rfl)))))
      ((apply (tk 30)); (case hi => exact rfl); (case hf => kernel_rfl); (case hS => (assumption)); (case hy => (intro wf hwf; haveI := From.mk hwf; (((apply opv_E); exact rfl)))))
      refine vA_done (by kernel_rfl) (by (first | exact trivial | ((assumption); done))) ?_
      (apply seqP_normal; ((apply vC_cond_false); exact rfl); apply vC_skip; apply blockP_normal; apply seqP_normal; apply vC_region; ((apply vL_val); (case h => ((apply opv_add); exact rfl; exact rfl; (first | omega | (simp only [List.length_map]; omega))))); ((apply vL_val); (case h => ((apply opv_E); exact rfl))); apply vL_nil; apply loopP_normal)
      (with_reducible apply end1); (case hs => ((iterate 15 (((refine same_updO ?_ ?_); rotate_left; exact rfl))); ((refine same_upd ?_ ?_); rotate_left; exact rfl); (iterate 3 (((refine same_updO ?_ ?_); rotate_left; exact rfl))); ((refine same_upd ?_ ?_); rotate_left; exact rfl); (iterate 5 (((refine same_updO ?_ ?_); rotate_left; exact rfl))); ((refine same_upd ?_ ?_); rotate_left; exact rfl); (iterate 10 (((refine same_updO ?_ ?_); rotate_left; exact rfl))); apply same_updN; (iterate 6 (((refine same_updO ?_ ?_); rotate_left; exact rfl))); ((refine same_upd ?_ ?_); rotate_left; exact rfl); (exact same_mask _ _ _))); (case h1 => (exact norm_eq rfl))
      · refine ⟨i + 1, rfl, by omega, hf15.trans hf56, hb5.frN hf56, fun j y hj hy => ?_⟩
        by_cases e : j = i
        · subst e; rw [hsi] at hy; cases hy; exact ⟨k1, by omega, fun p hp => absurd hp k4⟩
        · exact hok j y (by omega) hy
      · simp [RowKit.intOf]; omega
    refine vA_split 114 rfl (fun _ => ?_) (fun h => by omega)
    obtain ⟨p, hpi⟩ : ∃ p, c.ss[i - 1]? = some p := ⟨c.ss[i - 1], List.getElem?_eq_getElem (by omega)⟩
    have hpi' : c.ss[((i : Nat) - 1 : Int).toNat]? = some p := by rw [show ((i : Nat) - 1 : Int).toNat = i - 1 by omega]; exact hpi
    have hpp := may_pos (hok (i - 1) p (by omega) hpi).1
    have hps := may_pos k1
    ((apply (tkw 18)); (case hi => exact rfl); (case hg => exact rfl); (case hf => kernel_rfl); (case hS => (assumption)); (case hy => (intro wf hwf; haveI := From.mk hwf; (((apply opv_fieldAddr); exact rfl)))))
    ((apply (tkw 19)); (case hi => exact rfl); (case hg => exact rfl); (case hf => kernel_rfl); (case hS => (assumption)); (case hy => (intro wf hwf; haveI := From.mk hwf; (((apply opv_loadb1); exact rfl; exact rfl; infer_instance; exact rfl)))))
    ((apply (tkw 20)); (case hi => exact rfl); (case hg => exact rfl); (case hf => kernel_rfl); (case hS => (assumption)); (case hy => (intro wf hwf; haveI := From.mk hwf; (((apply opv_E); exact rfl)))))
    ((apply (tkw 21)); (case hi => exact rfl); (case hg => exact rfl); (case hf => kernel_rfl); (case hS => (assumption)); (case hy => (intro wf hwf; haveI := From.mk hwf; (((apply opv_sub); exact rfl; exact rfl; (first | omega | (simp only [List.length_map]; omega)))))))
    ((apply (tkw 22)); (case hi => exact rfl); (case hg => exact rfl); (case hf => kernel_rfl); (case hS => (assumption)); (case hy => (intro wf hwf; haveI := From.mk hwf; (((apply opv_indexAddr); ((conv => lhs; whnf) <;> exact rfl); exact rfl; infer_instance; (first | omega | (simp only [List.length_map]; omega)); (first | omega | (simp only [List.length_map]; omega)))))))
    ((apply (tkw 23)); (case hi => exact rfl); (case hg => exact rfl); (case hf => kernel_rfl); (case hS => (assumption)); (case hy => (intro wf hwf; haveI := From.mk hwf; (((apply opv_fieldAddr); exact rfl)))))
    ((apply (tkw 24)); (case hi => exact rfl); (case hg => exact rfl); (case hf => kernel_rfl); (case hS => (assumption)); (case hy => (intro wf hwf; exact opv_ld_elS (enc := sqE) (x0 := p) (cs := [.string p.topic, .int .i64 p.part]) rfl rfl (hrs5.frN hwf) hpi' rfl rfl)))
    ((apply (tkw 25)); (case hi => exact rfl); (case hg => exact rfl); (case hf => kernel_rfl); (case hS => (assumption)); (case hy => (intro wf hwf; haveI := From.mk hwf; (((apply opv_fieldAddr); exact rfl)))))
    ((apply (tkw 26)); (case hi => exact rfl); (case hg => exact rfl); (case hf => kernel_rfl); (case hS => (assumption)); (case hy => (intro wf hwf; haveI := From.mk hwf; (((apply opv_loadbC); exact rfl; exact rfl; infer_instance; exact (rfl : _ = [_, _]); exact rfl)))))
    (refine tkcw 27 rfl rfl (by kernel_rfl) (by (assumption)) rfl (compareG p.topic p.part s.topic s.part w6 hpp hps) rfl ?_)
    rintro _ w7 ⟨rfl, hf7⟩
    have hf57 := hf56.trans hf7
    ((apply (tkw 28)); (case hi => exact rfl); (case hg => exact rfl); (case hf => kernel_rfl); (case hS => (assumption)); (case hy => (intro wf hwf; haveI := From.mk hwf; (((apply opv_E); exact rfl)))))
    ((apply (tkw 29)); (case hi => exact rfl); (case hg => exact rfl); (case hf => kernel_rfl); (case hS => (assumption)); (case hy => (intro wf hwf; haveI := From.mk hwf; (((apply opv_E); exact rfl)))))
    ((apply (tk 30)); (case hi => exact rfl); (case hf => kernel_rfl); (case hS => (assumption)); (case hy => (intro wf hwf; haveI := From.mk hwf; (((apply opv_E); exact rfl)))))
    refine vA_done (by kernel_rfl) (by (first | exact trivial | ((assumption); done))) ?_
    by_cases k5 : 0 ≤ cmpP p.topic p.part s.topic s.part
    · (apply seqP_normal; (refine vC_cond_dec rfl (fun _ => ?_) (fun h => by omega)); apply vC_seq; apply vC_region; ((apply vL_val); (case h => ((apply opv_E); exact rfl))); apply vL_nil; apply seqP_normal; apply vC_ret; apply blockP_ret; apply seqP_ret; apply loopP_ret; apply blockP_ret; apply seqP_ret)
      (apply ret1; (case h1 => (exact norm_eq rfl)))
      exact ⟨by rw [nope (fun H => by have := H.2.2 p k4 hpi; omega)], hf15.trans hf57⟩
    · (apply seqP_normal; (refine vC_cond_dec rfl (fun h => by omega) (fun _ => ?_)); apply vC_skip; apply blockP_normal; apply seqP_normal; apply vC_region; ((apply vL_val); (case h => ((apply opv_add); exact rfl; exact rfl; (first | omega | (simp only [List.length_map]; omega))))); ((apply vL_val); (case h => ((apply opv_E); exact rfl))); apply vL_nil; apply loopP_normal)
      (with_reducible apply end1); (case hs => ((iterate 15 (((refine same_updO ?_ ?_); rotate_left; exact rfl))); ((refine same_upd ?_ ?_); rotate_left; exact rfl); (iterate 3 (((refine same_updO ?_ ?_); rotate_left; exact rfl))); ((refine same_upd ?_ ?_); rotate_left; exact rfl); (iterate 5 (((refine same_updO ?_ ?_); rotate_left; exact rfl))); ((refine same_upd ?_ ?_); rotate_left; exact rfl); (iterate 10 (((refine same_updO ?_ ?_); rotate_left; exact rfl))); apply same_updN; (iterate 6 (((refine same_updO ?_ ?_); rotate_left; exact rfl))); ((refine same_upd ?_ ?_); rotate_left; exact rfl); (exact same_mask _ _ _))); (case h1 => (exact norm_eq rfl))
      · refine ⟨i + 1, rfl, by omega, hf15.trans hf57, hb5.frN hf57, fun j y hj hy => ?_⟩
        by_cases e : j = i
        · subst e; rw [hsi] at hy; cases hy
          exact ⟨k1, by omega, fun q _ hq => by rw [hpi] at hq; cases hq; omega⟩
        · exact hok j y (by omega) hy
      · simp [RowKit.intOf]; omega
end Go.Proofs.Ytchfaeaagpemlaa

set_option maxRecDepth 100000
namespace Go.Proofs.Ytchfaeaagpemlaa
open Go Go.Eng
def nextW (now br : Int) (x : WT) : WT := ⟨x.rq, now + 8, x.tries + 1, x.broker % br + 1⟩
def stepW (now br : Int) (x : WT) : Option WT := if now < x.due then some x else if x.tries = 10 then none else some (nextW now br x)
def sendQ (now : Int) (x : WT) : Bool := decide (x.due ≤ now ∧ x.tries ≠ 10)
def doneQ (now : Int) (x : WT) : Bool := decide (x.due ≤ now ∧ x.tries = 10)
def ownP (c : CL) (r : RQ) : Bool := decide (r.k = 1 ∧ r.pid = c.pid ∧ r.ep = c.ep)
def staleC (c : CL) (ws : List WT) : Bool := c.stale || ws.any (fun x => doneQ (c.now + 1) x && ownP c x.rq)
def tickC (c : CL) : CL := { c with now := c.now + 1, stale := staleC c c.ws, ws := c.ws.filterMap (stepW (c.now + 1) c.brokers) }
def Ok0 (id next br : Int) (x : WT) : Prop := (0 < x.rq.call ∧ x.rq.call < next ∧ x.rq.cl = id ∧ 1 ≤ x.rq.k ∧ x.rq.k ≤ 6 ∧ 0 ≤ x.due ∧ x.due ≤ 1099511627784) ∧ (1 ≤ x.tries ∧ x.tries ≤ 10 ∧ 1 ≤ x.broker ∧ x.broker ≤ br) ∧ (x.rq.k = 1 → mayPB x.rq.topic x.rq.part = true ∧ 1 ≤ x.rq.pid ∧ mayB x.rq.pid x.rq.ep x.rq.fi (x.rq.brs.map (fun y => y.2.length)) = true)
def Bef (y x : WT) : Prop := y.rq.call < x.rq.call ∧ (x.rq.k = 1 → atP x.rq.topic x.rq.part y = false)
theorem wsG_iff {id next br : Int} {ws : List WT} : WsG id next br ws ↔ (∀ x ∈ ws, Ok0 id next br x) ∧ ws.Pairwise Bef ∧ ws.length ≤ 8 := by
  constructor
  · rintro ⟨h, hl⟩
    have hc : ∀ (j i : Nat), i < j → ∀ x y, ws[j]? = some x → ws[i]? = some y → y.rq.call < x.rq.call := by
      intro j
      induction j with
      | zero => intro i hi; exact absurd hi (Nat.not_lt_zero _)
      | succ j ih =>
        intro i hij x y hx hy
        have hj := (List.getElem?_eq_some_iff.1 hx).1
        obtain ⟨z, hz⟩ : ∃ z, ws[j]? = some z := ⟨ws[j], List.getElem?_eq_getElem (by omega)⟩
        have h1 := (h (j + 1) x hx).1.1
        have e : laOf ws (j + 1) = z.rq.call := by show (match ws[j]? with | some y => y.rq.call | none => 0) = _; rw [hz]
        rcases Nat.lt_or_ge i j with hij' | hij'
        · have := ih i hij' z y hz hy; omega
        · have e2 : i = j := by omega
          subst e2
          rw [hz] at hy; cases hy; omega
    have h0 : ∀ (j : Nat) x, ws[j]? = some x → 0 < x.rq.call := fun j x hx => by
      cases j with
      | zero => exact (h 0 x hx).1.1
      | succ j =>
        have hj := (List.getElem?_eq_some_iff.1 hx).1
        obtain ⟨z, hz⟩ : ∃ z, ws[0]? = some z := ⟨ws[0], List.getElem?_eq_getElem (by omega)⟩
        have h1 := (h 0 z hz).1.1
        have h1' : 0 < z.rq.call := h1
        have := hc (j + 1) 0 (by omega) x z hx hz
        omega
    refine ⟨fun x hx => ?_, List.pairwise_iff_getElem.2 (fun i j hi hj hij => ?_), hl⟩
    · obtain ⟨j, hj, e⟩ := List.getElem_of_mem hx
      have hx' : ws[j]? = some x := by rw [List.getElem?_eq_getElem hj, e]
      obtain ⟨⟨a1, a2⟩, b, c⟩ := h j x hx'
      exact ⟨⟨h0 j x hx', a2⟩, b, fun k => ⟨(c k).1, (c k).2.1, (c k).2.2.1⟩⟩
    · refine ⟨hc j i hij _ _ (List.getElem?_eq_getElem hj) (List.getElem?_eq_getElem hi), fun k => ?_⟩
      have h1 := ((h j _ (List.getElem?_eq_getElem hj)).2.2 k).2.2.2
      rw [List.any_eq_false] at h1
      have h2 := h1 ws[i] (List.mem_take_iff_getElem.2 ⟨i, by omega, rfl⟩)
      simpa using h2
  · rintro ⟨h, hp, hl⟩
    have hp' := List.pairwise_iff_getElem.1 hp
    refine ⟨fun i x hx => ?_, hl⟩
    obtain ⟨hi, e⟩ := List.getElem?_eq_some_iff.1 hx
    obtain ⟨⟨a1, a2⟩, b, c⟩ := h x (List.mem_of_getElem? hx)
    refine ⟨⟨?_, a2⟩, b, fun k => ⟨(c k).1, (c k).2.1, (c k).2.2, ?_⟩⟩
    · cases i with
      | zero => exact a1
      | succ i =>
        have e1 : laOf ws (i + 1) = (ws[i]'(by omega)).rq.call := by show (match ws[i]? with | some y => y.rq.call | none => 0) = _; rw [List.getElem?_eq_getElem (by omega)]
        rw [e1, ← e]
        exact (hp' i (i + 1) (by omega) hi (by omega)).1
    · rw [List.any_eq_false]
      intro y hy
      obtain ⟨j, hm, rfl⟩ := List.mem_take_iff_getElem.1 hy
      have h1 := (hp' j i (by omega) hi (by omega)).2 (by rw [e]; exact k)
      rw [e] at h1
      simp [h1]
theorem ok0_nf {id nx br : Int} {x y : WT} (h : x.nf = y.nf) (H : Ok0 id nx br y) : Ok0 id nx br x := by
  have e1 : x.rq.call = y.rq.call := by have := congrArg (fun z : WT => z.rq.call) h; exact this
  have e2 : x.rq.cl = y.rq.cl := by have := congrArg (fun z : WT => z.rq.cl) h; exact this
  have e3 : x.rq.k = y.rq.k := by have := congrArg (fun z : WT => z.rq.k) h; exact this
  have e4 : x.due = y.due := by have := congrArg WT.due h; exact this
  have e5 : x.tries = y.tries := by have := congrArg WT.tries h; exact this
  have e6 : x.broker = y.broker := by have := congrArg WT.broker h; exact this
  have e7 : x.rq.topic = y.rq.topic := by have := congrArg (fun z : WT => z.rq.topic) h; exact this
  have e8 : x.rq.part = y.rq.part := by have := congrArg (fun z : WT => z.rq.part) h; exact this
  have e9 : x.rq.pid = y.rq.pid := by have := congrArg (fun z : WT => z.rq.pid) h; exact this
  have e10 : x.rq.ep = y.rq.ep := by have := congrArg (fun z : WT => z.rq.ep) h; exact this
  have e11 : x.rq.fi = y.rq.fi := by have := congrArg (fun z : WT => z.rq.fi) h; exact this
  have e12 : x.rq.brs.map (fun y => (nilO, y.2)) = y.rq.brs.map (fun y => (nilO, y.2)) := by have := congrArg (fun z : WT => z.rq.brs) h; exact this
  have e13 : x.rq.brs.map (fun y => y.2.length) = y.rq.brs.map (fun y => y.2.length) := by
    have := congrArg (List.map (fun z : OV × List Int => z.2.length)) e12
    rw [List.map_map, List.map_map] at this
    exact this
  unfold Ok0 at H ⊢
  rw [e1, e2, e3, e4, e5, e6, e7, e8, e9, e10, e11, e13]
  exact H
theorem bef_nf {l l' : List WT} (h : l.map WT.nf = l'.map WT.nf) (p : l'.Pairwise Bef) : l.Pairwise Bef := by
  have h1 : (l'.map WT.nf).Pairwise Bef := (List.pairwise_map (f := WT.nf) (R := Bef)).2 p
  rw [← h] at h1
  exact (List.pairwise_map (f := WT.nf) (R := Bef)).1 h1
theorem wsG_nf {id nx br : Int} {l l' : List WT} (h : l.map WT.nf = l'.map WT.nf) (H : WsG id nx br l') : WsG id nx br l := by
  obtain ⟨a, b, c⟩ := wsG_iff.1 H
  refine wsG_iff.2 ⟨fun x hx => ?_, bef_nf h b, by have := congrArg List.length h; simp only [List.length_map] at this; omega⟩
  have h1 : x.nf ∈ l.map WT.nf := List.mem_map.2 ⟨x, hx, rfl⟩
  rw [h] at h1
  obtain ⟨y, hy, e⟩ := List.mem_map.1 h1
  exact ok0_nf e.symm (a y hy)
theorem RG.nf {c d : CL} (h : d.nf = c.nf) (R : RG c) : RG d := by
  have e1 : d.id = c.id := by have := congrArg CL.id h; exact this
  have e2 : d.brokers = c.brokers := by have := congrArg CL.brokers h; exact this
  have e3 : d.next = c.next := by have := congrArg CL.next h; exact this
  have e4 : d.now = c.now := by have := congrArg CL.now h; exact this
  have e5 : d.broker = c.broker := by have := congrArg CL.broker h; exact this
  have e6 : d.pid = c.pid := by have := congrArg CL.pid h; exact this
  have e7 : d.ep = c.ep := by have := congrArg CL.ep h; exact this
  have e8 : d.ss = c.ss := by have := congrArg CL.ss h; exact this
  have e9 : d.ws.map WT.nf = c.ws.map WT.nf := by have := congrArg CL.ws h; exact this
  obtain ⟨r1, r2, r3, r4⟩ := R
  refine ⟨?_, ?_, ?_, ?_⟩
  · unfold HdG at r1 ⊢; rw [e1, e2, e3, e4, e5]; exact r1
  · unfold PdG at r2 ⊢; rw [e6, e7, e8]; exact r2
  · rw [e8]; exact r3
  · rw [e1, e3, e2]; exact wsG_nf e9 r4
theorem stepW_rq {now br : Int} {x y : WT} (h : stepW now br x = some y) : y.rq = x.rq := by
  unfold stepW at h
  split at h
  · cases h; rfl
  · split at h
    · cases h
    · cases h; rfl
theorem tick_right {c : CL} (R : RG c) (hn : c.now < 1099511627776) : RG (tickC c) := by
  obtain ⟨r1, r2, r3, r4⟩ := R
  obtain ⟨a, b, l⟩ := wsG_iff.1 r4
  refine ⟨?_, r2, r3, wsG_iff.2 ⟨fun y hy => ?_, ?_, Nat.le_trans (List.length_filterMap_le _ _) l⟩⟩
  · unfold HdG at r1 ⊢
    show ((1 ≤ c.id ∧ c.id ≤ 1048576) ∧ (1 ≤ c.brokers ∧ c.brokers ≤ 7)) ∧ 1 ≤ c.next ∧ c.next ≤ 1099511627776 ∧ 0 ≤ c.now + 1 ∧ c.now + 1 ≤ 1099511627776 ∧ 1 ≤ c.broker ∧ c.broker ≤ c.brokers
    omega
  · obtain ⟨x, hx, e⟩ := List.mem_filterMap.1 hy
    obtain ⟨o1, o2, o3⟩ := a x hx
    unfold stepW at e
    split at e
    · cases e; exact ⟨o1, o2, o3⟩
    · split at e
      · cases e
      · cases e
        unfold HdG at r1
        have hb0 := Int.emod_nonneg x.broker (show c.brokers ≠ 0 by omega)
        have hb1 := Int.emod_lt_of_pos x.broker (show 0 < c.brokers by omega)
        refine ⟨⟨o1.1, o1.2.1, o1.2.2.1, o1.2.2.2.1, o1.2.2.2.2.1, ?_, ?_⟩, ⟨?_, ?_, ?_, ?_⟩, o3⟩
        · show 0 ≤ c.now + 1 + 8; omega
        · show c.now + 1 + 8 ≤ 1099511627784; omega
        · show 1 ≤ x.tries + 1; omega
        · show x.tries + 1 ≤ 10; omega
        · show 1 ≤ x.broker % c.brokers + 1; omega
        · show x.broker % c.brokers + 1 ≤ c.brokers; omega
  · refine List.Pairwise.filterMap _ (fun u v h u' hu v' hv => ?_) b
    have e1 := stepW_rq hu
    have e2 := stepW_rq hv
    unfold Bef at h ⊢
    rw [e1, e2]
    refine ⟨h.1, fun k => ?_⟩
    have := h.2 k
    unfold atP at this ⊢
    rw [e1]; exact this
theorem filt_nf {β : Type} {l l' : List WT} (p : WT → Bool) (g : WT → β) (hp : ∀ x, p x.nf = p x) (hg : ∀ x, g x.nf = g x) (h : l.map WT.nf = l'.map WT.nf) : (l.filter p).map g = (l'.filter p).map g := by
  have key : ∀ l : List WT, (l.filter p).map g = ((l.map WT.nf).filter p).map g := fun l => by
    rw [List.filter_map, List.map_map]
    have e1 : p ∘ WT.nf = p := funext hp
    have e2 : g ∘ WT.nf = g := funext hg
    rw [e1, e2]
  rw [key l, key l', h]
theorem stepW_nf (now br : Int) (x : WT) : stepW now br x.nf = (stepW now br x).map WT.nf := by
  unfold stepW
  show (if now < x.due then some x.nf else if x.tries = 10 then none else some (nextW now br x).nf) = _
  split
  · rfl
  · split <;> rfl
theorem tickC_nf' (c : CL) : (tickC c).nf = tickC c.nf := by
  have e1 : (c.ws.filterMap (stepW (c.now + 1) c.brokers)).map WT.nf = (c.ws.map WT.nf).filterMap (stepW (c.now + 1) c.brokers) := by
    rw [List.map_filterMap, List.filterMap_map]
    congr 1
    funext x
    exact (stepW_nf _ _ x).symm
  have e2 : staleC c c.ws = staleC c.nf (c.ws.map WT.nf) := by
    unfold staleC
    rw [List.any_map]
    rfl
  show ({ c with now := c.now + 1, stale := staleC c c.ws, wv := nilO, sv := nilO, ws := (c.ws.filterMap (stepW (c.now + 1) c.brokers)).map WT.nf } : CL) = { c with now := c.now + 1, stale := staleC c.nf (c.ws.map WT.nf), wv := nilO, sv := nilO, ws := (c.ws.map WT.nf).filterMap (stepW (c.now + 1) c.brokers) }
  rw [e1, e2]
theorem tickC_nf {c d : CL} (h : d.nf = c.nf) : (tickC d).nf = (tickC c).nf := by rw [tickC_nf', tickC_nf', h]
theorem step_len (now br : Int) : ∀ l : List WT, (l.filterMap (stepW now br)).length + (l.filter (doneQ now)).length = l.length
  | [] => rfl
  | x :: l => by
    have ih := step_len now br l
    rw [List.filterMap_cons, List.filter_cons]
    by_cases h1 : now < x.due
    · have e1 : stepW now br x = some x := by unfold stepW; rw [if_pos h1]
      have e2 : doneQ now x = false := decide_eq_false (by omega)
      rw [e1, e2]
      simp only [List.length_cons, Bool.false_eq_true, if_false]
      omega
    · by_cases h2 : x.tries = 10
      · have e1 : stepW now br x = none := by unfold stepW; rw [if_neg h1, if_pos h2]
        have e2 : doneQ now x = true := decide_eq_true ⟨by omega, h2⟩
        rw [e1, e2]
        simp only [List.length_cons, if_true]
        omega
      · have e1 : stepW now br x = some (nextW now br x) := by unfold stepW; rw [if_neg h1, if_neg h2]
        have e2 : doneQ now x = false := decide_eq_false (fun h => h2 h.2)
        rw [e1, e2]
        simp only [List.length_cons, Bool.false_eq_true, if_false]
        omega
end Go.Proofs.Ytchfaeaagpemlaa

set_option maxRecDepth 100000
namespace Go.Proofs.Ytchfaeaagpemlaa
open Go Go.Eng
def dnE (c : Int) : List Value := [.int .i64 c, .int .i64 310, .int .u8 0, .int .i64 0, .int .i64 0, .int .i64 0, .int .i64 0, .int .i64 0, .int .i64 0, .int .i64 0, .bool false, .slice none 0 0, .int .i64 0, .int .i64 0, .int .i64 0, .int .i64 0, .int .u8 0, .slice none 0 0]
instance encDn : EncOk dnE 18 := ⟨by
  intro x u h
  simp only [dnE, List.mem_cons, List.not_mem_nil, or_false] at h
  rcases h with rfl | rfl | rfl | rfl | rfl | rfl | rfl | rfl | rfl | rfl | rfl | rfl | rfl | rfl | rfl | rfl | rfl | rfl <;> rfl, fun _ => rfl⟩
theorem ClOwn.frOwn {w w' : World} {c : CL} {T sz : Nat} {α : Type} {enc : α → List Value} {u : Value} {xs : List α} (o : ClOwn w.heap c) (hu : Own w.heap T sz enc u xs) (h1 : T ≠ 71 ∧ T ≠ 5 ∧ T ≠ 9) (h2 : T ≠ 42 ∧ T ≠ 65) (h : Fr (fun b => own u = some b) w w') : ClOwn w'.heap c :=
  ⟨o.1.fr h (fun b hb e => Own.ne_own o.1 hu (Ne.symm h2.1) b hb e), fun x hx => (o.2.1 x hx).frOwn hu h1.1 h1.2.1 h1.2.2 h, o.2.2.fr h (fun b hb e => Own.ne_own o.2.2 hu (Ne.symm h2.2) b hb e)⟩
structure TG (w : World) (L b1 b2 : Nat) (c1 : CL) (st : Bool) (lf : List WT) (dn : List Int) (sds : List SD) (u5 u6 u7 : Value) (w' : World) : Prop where
  fr : Fr No w w'
  h1 : Blk w'.heap b1 (clE { c1 with now := c1.now + 1, stale := st }) 25
  h2 : Blk w'.heap b2 clZ 25
  hc : ClOwn w'.heap c1
  lw : w.heap.size ≤ L
  lz : L ≤ w'.heap.size
  l1 : b1 < L ∧ w.heap.size ≤ b1
  l2 : b2 < L ∧ w.heap.size ≤ b2
  lc : ∀ b, own c1.wv.1 = some b → b < L
  o5 : Own w'.heap 42 26 wtE u5 lf
  f5 : ∀ b, own u5 = some b → L ≤ b
  n5 : u5.oneCell' = true
  o6 : Own w'.heap 58 18 dnE u6 dn
  f6 : ∀ b, own u6 = some b → L ≤ b
  n6 : u6.oneCell' = true
  o7 : Own w'.heap 48 24 sdE u7 sds
  f7 : ∀ b, own u7 = some b → L ≤ b
  n7 : u7.oneCell' = true
section
variable {w w' w'' : World} {L b1 b2 : Nat} {c1 : CL} {st : Bool} {lf : List WT} {dn : List Int} {sds : List SD} {u5 u6 u7 : Value}
theorem TG.frN (S : TG w L b1 b2 c1 st lf dn sds u5 u6 u7 w') (h : Fr No w' w'') : TG w L b1 b2 c1 st lf dn sds u5 u6 u7 w'' :=
  ⟨S.fr.trans h, S.h1.frN h, S.h2.frN h, S.hc.frN h, S.lw, Nat.le_trans S.lz h.size, S.l1, S.l2, S.lc, S.o5.frN h, S.f5, S.n5, S.o6.frN h, S.f6, S.n6, S.o7.frN h, S.f7, S.n7⟩
theorem TG.blk {b9 : Nat} {cs : List Value} (S : TG w L b1 b2 c1 st lf dn sds u5 u6 u7 w') (hB : Blk w'.heap b9 cs 42) (hL : L ≤ b9) (h5 : ∀ b, own u5 = some b → b ≠ b9) (h : Fr (fun k => k = b9) w' w'') : TG w L b1 b2 c1 st lf dn sds u5 u6 u7 w'' :=
  ⟨S.fr.trans' h (fun k hk => .inr (by rw [hk]; exact Nat.le_trans S.lw hL)), S.h1.fr h (fun e => by have := S.l1.1; omega), S.h2.fr h (fun e => by have := S.l2.1; omega),
    ⟨S.hc.1.fr h (fun b hb e => by have := S.lc b hb; omega), fun y hy => (S.hc.2.1 y hy).frBlk hB (by decide) (by decide) (by decide) h, S.hc.2.2.fr h (fun b hb e => Own.ne_blk S.hc.2.2 hB (by decide) (by rw [hb, e]))⟩,
    S.lw, Nat.le_trans S.lz h.size, S.l1, S.l2, S.lc, S.o5.fr h (fun b hb e => h5 b hb e), S.f5, S.n5, S.o6.fr h (fun b hb e => Own.ne_blk S.o6 hB (by decide) (by rw [hb, e])), S.f6, S.n6, S.o7.fr h (fun b hb e => Own.ne_blk S.o7 hB (by decide) (by rw [hb, e])), S.f7, S.n7⟩
theorem TG.left {lf' : List WT} {v : Value} (S : TG w L b1 b2 c1 st lf dn sds u5 u6 u7 w') (h : Fr (fun k => own u5 = some k) w' w'') (ho : Own w''.heap 42 26 wtE v lf') (hf : ∀ b, own v = some b → own u5 = some b ∨ w'.heap.size ≤ b) (hn : v.oneCell' = true) : TG w L b1 b2 c1 st lf' dn sds v u6 u7 w'' :=
  ⟨S.fr.trans' h (fun k hk => .inr (Nat.le_trans S.lw (S.f5 k hk))), S.h1.fr h (fun e => Own.ne_blk S.o5 S.h1 (by decide) e), S.h2.fr h (fun e => Own.ne_blk S.o5 S.h2 (by decide) e),
    ⟨S.hc.1.fr h (fun b hb e => by have := S.lc b hb; have := S.f5 b e; omega), fun y hy => (S.hc.2.1 y hy).frOwn S.o5 (by decide) (by decide) (by decide) h, S.hc.2.2.fr h (fun b hb e => Own.ne_own S.hc.2.2 S.o5 (by decide) b hb e)⟩,
    S.lw, Nat.le_trans S.lz h.size, S.l1, S.l2, S.lc, ho, fun b hb => (hf b hb).elim (S.f5 b) (fun e => Nat.le_trans S.lz e), hn, S.o6.fr h (fun b hb e => Own.ne_own S.o6 S.o5 (by decide) b hb e), S.f6, S.n6, S.o7.fr h (fun b hb e => Own.ne_own S.o7 S.o5 (by decide) b hb e), S.f7, S.n7⟩
theorem TG.done {dn' : List Int} {v : Value} (S : TG w L b1 b2 c1 st lf dn sds u5 u6 u7 w') (h : Fr (fun k => own u6 = some k) w' w'') (ho : Own w''.heap 58 18 dnE v dn') (hf : ∀ b, own v = some b → own u6 = some b ∨ w'.heap.size ≤ b) (hn : v.oneCell' = true) : TG w L b1 b2 c1 st lf dn' sds u5 v u7 w'' :=
  ⟨S.fr.trans' h (fun k hk => .inr (Nat.le_trans S.lw (S.f6 k hk))), S.h1.fr h (fun e => Own.ne_blk S.o6 S.h1 (by decide) e), S.h2.fr h (fun e => Own.ne_blk S.o6 S.h2 (by decide) e), S.hc.frOwn S.o6 ⟨by decide, by decide, by decide⟩ ⟨by decide, by decide⟩ h,
    S.lw, Nat.le_trans S.lz h.size, S.l1, S.l2, S.lc, S.o5.fr h (fun b hb e => Own.ne_own S.o5 S.o6 (by decide) b hb e), S.f5, S.n5, ho, fun b hb => (hf b hb).elim (S.f6 b) (fun e => Nat.le_trans S.lz e), hn, S.o7.fr h (fun b hb e => Own.ne_own S.o7 S.o6 (by decide) b hb e), S.f7, S.n7⟩
theorem TG.sent {sds' : List SD} {v : Value} (S : TG w L b1 b2 c1 st lf dn sds u5 u6 u7 w') (h : Fr (fun k => own u7 = some k) w' w'') (ho : Own w''.heap 48 24 sdE v sds') (hf : ∀ b, own v = some b → own u7 = some b ∨ w'.heap.size ≤ b) (hn : v.oneCell' = true) : TG w L b1 b2 c1 st lf dn sds' u5 u6 v w'' :=
  ⟨S.fr.trans' h (fun k hk => .inr (Nat.le_trans S.lw (S.f7 k hk))), S.h1.fr h (fun e => Own.ne_blk S.o7 S.h1 (by decide) e), S.h2.fr h (fun e => Own.ne_blk S.o7 S.h2 (by decide) e), S.hc.frOwn S.o7 ⟨by decide, by decide, by decide⟩ ⟨by decide, by decide⟩ h,
    S.lw, Nat.le_trans S.lz h.size, S.l1, S.l2, S.lc, S.o5.fr h (fun b hb e => Own.ne_own S.o5 S.o7 (by decide) b hb e), S.f5, S.n5, S.o6.fr h (fun b hb e => Own.ne_own S.o6 S.o7 (by decide) b hb e), S.f6, S.n6, ho, fun b hb => (hf b hb).elim (S.f7 b) (fun e => Nat.le_trans S.lz e), hn⟩
theorem TG.stale {st' : Bool} (S : TG w L b1 b2 c1 st lf dn sds u5 u6 u7 w') (h : Fr (fun k => k = b1) w' w'') (hB : Blk w''.heap b1 (clE { c1 with now := c1.now + 1, stale := st' }) 25) (hne : b1 ≠ b2) : TG w L b1 b2 c1 st' lf dn sds u5 u6 u7 w'' :=
  ⟨S.fr.trans' h (fun k hk => .inr (by rw [hk]; exact S.l1.2)), hB, S.h2.fr h (fun e => hne e.symm), S.hc.frBlk S.h1 ⟨by decide, by decide, by decide⟩ ⟨by decide, by decide⟩ h,
    S.lw, Nat.le_trans S.lz h.size, S.l1, S.l2, S.lc, S.o5.fr h (fun b hb e => Own.ne_blk S.o5 S.h1 (by decide) (by rw [hb, e])), S.f5, S.n5, S.o6.fr h (fun b hb e => Own.ne_blk S.o6 S.h1 (by decide) (by rw [hb, e])), S.f6, S.n6, S.o7.fr h (fun b hb e => Own.ne_blk S.o7 S.h1 (by decide) (by rw [hb, e])), S.f7, S.n7⟩
end
/-- what the first i waits leave, tell and send -/
structure TP (c1 : CL) (i : Nat) (st : Bool) (lf : List WT) (dn : List Int) (sds : List SD) : Prop where
  st : st = staleC c1 (c1.ws.take i)
  lf : lf = (c1.ws.take i).filterMap (stepW (c1.now + 1) c1.brokers)
  dn : dn = ((c1.ws.take i).filter (doneQ (c1.now + 1))).map (·.rq.call)
  sd : sds.map (fun s => (s.to, s.rq.call)) = ((c1.ws.take i).filter (sendQ (c1.now + 1))).map (fun x => (x.broker, x.rq.call))
section
variable {c1 : CL} {i : Nat} {st : Bool} {lf : List WT} {dn : List Int} {sds : List SD} {x : WT}
theorem TP.keep (S : TP c1 i st lf dn sds) (hx : c1.ws[i]? = some x) (h : c1.now + 1 < x.due) : TP c1 (i + 1) st (lf ++ [x]) dn sds := by
  have e1 : stepW (c1.now + 1) c1.brokers x = some x := by unfold stepW; rw [if_pos h]
  have e2 : doneQ (c1.now + 1) x = false := decide_eq_false (by omega)
  have e3 : sendQ (c1.now + 1) x = false := decide_eq_false (by omega)
  refine ⟨?_, ?_, ?_, ?_⟩
  · rw [S.st]; unfold staleC; rw [take_next hx, List.any_append]; simp [e2]
  · rw [S.lf, take_next hx, List.filterMap_append]; simp [e1]
  · rw [S.dn, take_next hx, List.filter_append]; simp [e2]
  · rw [S.sd, take_next hx, List.filter_append]; simp [e3]
theorem TP.gone (S : TP c1 i st lf dn sds) (hx : c1.ws[i]? = some x) (h : x.due ≤ c1.now + 1) (ht : x.tries = 10) : TP c1 (i + 1) (st || ownP c1 x.rq) lf (dn ++ [x.rq.call]) sds := by
  have e1 : stepW (c1.now + 1) c1.brokers x = none := by unfold stepW; rw [if_neg (by omega), if_pos ht]
  have e2 : doneQ (c1.now + 1) x = true := decide_eq_true ⟨h, ht⟩
  have e3 : sendQ (c1.now + 1) x = false := decide_eq_false (fun h' => h'.2 ht)
  refine ⟨?_, ?_, ?_, ?_⟩
  · rw [S.st]; unfold staleC; rw [take_next hx, List.any_append]; simp [e2, Bool.or_assoc]
  · rw [S.lf, take_next hx, List.filterMap_append]; simp [e1]
  · rw [S.dn, take_next hx, List.filter_append]; simp [e2]
  · rw [S.sd, take_next hx, List.filter_append]; simp [e3]
theorem TP.sent {s : SD} (S : TP c1 i st lf dn sds) (hx : c1.ws[i]? = some x) (h : x.due ≤ c1.now + 1) (ht : x.tries ≠ 10) (hs : s.to = x.broker ∧ s.rq.call = x.rq.call) : TP c1 (i + 1) st (lf ++ [nextW (c1.now + 1) c1.brokers x]) dn (sds ++ [s]) := by
  have e1 : stepW (c1.now + 1) c1.brokers x = some (nextW (c1.now + 1) c1.brokers x) := by unfold stepW; rw [if_neg (by omega), if_neg ht]
  have e2 : doneQ (c1.now + 1) x = false := decide_eq_false (fun h' => ht h'.2)
  have e3 : sendQ (c1.now + 1) x = true := decide_eq_true ⟨h, ht⟩
  refine ⟨?_, ?_, ?_, ?_⟩
  · rw [S.st]; unfold staleC; rw [take_next hx, List.any_append]; simp [e2]
  · rw [S.lf, take_next hx, List.filterMap_append]; simp [e1]
  · rw [S.dn, take_next hx, List.filter_append]; simp [e2]
  · rw [List.map_append, S.sd, take_next hx, List.filter_append]; simp [e3, hs.1, hs.2]
theorem TP.len (S : TP c1 i st lf dn sds) : lf.length ≤ c1.ws.length ∧ dn.length ≤ c1.ws.length ∧ sds.length ≤ c1.ws.length := by
  have ht : (c1.ws.take i).length ≤ c1.ws.length := by rw [List.length_take]; exact Nat.min_le_right _ _
  refine ⟨?_, ?_, ?_⟩
  · rw [S.lf]; exact Nat.le_trans (List.length_filterMap_le _ _) ht
  · rw [S.dn, List.length_map]; exact Nat.le_trans (List.length_filter_le _ _) ht
  · have := congrArg List.length S.sd
    simp only [List.length_map] at this
    rw [this]; exact Nat.le_trans (List.length_filter_le _ _) ht
end
theorem ownB_of (c : CL) (n : Int) (r : RQ) : ownB { c with now := n, stale := false } r = ownP c r := by
  unfold ownB ownP
  by_cases h1 : r.k = 1 <;> by_cases h2 : r.pid = c.pid <;> by_cases h3 : r.ep = c.ep <;> simp [h1, h2, h3]
end Go.Proofs.Ytchfaeaagpemlaa
