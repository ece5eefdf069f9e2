/- Layer 31: Produce, where one waits at the place.
Layer 31: Tick, where one waits and is due.
Layer 31: answers; Take, where nobody waits for it. -/
import Derived.Test.YtchfaeaagpemlaaX4
set_option maxRecDepth 100000
namespace Go.Proofs.Ytchfaeaagpemlaa
open Go Go.Eng
theorem produceB31 (c : CL) (x : WT) (t : ByteArray) (p : Int) (rv : OV) (brs : List (OV × List Int)) (w : World) (H : ProdH c t p brs) (hw : c.ws = [x]) (hx : x.rq.k = 1 ∧ x.rq.topic = t ∧ x.rq.part = p) (hc : ClRd w.heap c) (hr : Rd w.heap 1 brE rv.1 brs ∧ ∀ y ∈ brs, Rd w.heap 1 u8E y.1.1 y.2) :
    Rets Try.prog 15 #[.agg (clE c).toArray, .agg #[.string t, .int .i64 p], rv.1] w fun u w' => u = .tuple #[.agg clZ.toArray, .slice none 0 0, .int .i64 151] ∧ Fr No w w' := by
  have hw0 := c.wv.2
  have hs0 := c.sv.2
  obtain ⟨rvv, hrv⟩ := rv
  obtain ⟨ra, rc, er⟩ := hr.1.len
  simp only at er hr ⊢
  subst er
  have hmay := H.may
  have htz := H.tz
  have hpb := H.pb
  have hpid := H.pid
  have hst := H.st
  have hsl := H.R.s1
  have hys : ByOk (brs.map (fun y => (y.1, y.2.length))) := fun y hy => by
    obtain ⟨z, hz, rfl⟩ := List.mem_map.1 hy
    obtain ⟨a, cc, e⟩ := (hr.2 z hz).len
    exact ⟨a, cc, e, by have := (hr.2 z hz).small; simp only; omega⟩
  have hmb : mayB 0 0 0 ((brs.map (fun y => (y.1, y.2.length))).map (·.2)) = true := by rw [List.map_map]; exact H.mb
  refine rets_of Try.func15 rfl Try.ntmps15 rfl rfl (by kernel_rfl) ?_
  ((apply vC_seq; apply vC_region)); (((iterate 2 (((apply vL_val); (case h => ((apply opw_boxn); exact rfl))))); ((apply vL_val); (case h => (apply opw_alloc))); (iterate 2 (((apply vL_val); (case h => ((apply opv_E); exact rfl))))); apply vL_nil)); with_reducible apply seqP_normal
  (((iterate 2 (apply vC_seq)); apply vC_region))
  have e3 : (w.alloc (.cells (clE c).toArray 25)).heap.size = w.heap.size + 1 := by simp
  have e4 : ((w.alloc (.cells (clE c).toArray 25)).alloc (.cells #[.string t, .int .i64 p] 36)).heap.size = w.heap.size + 2 := by simp
  refine vL_gen (fun w' => Fr No w w' ∧ Blk w'.heap w.heap.size (clE c) 25 ∧ Blk w'.heap (w.alloc (.cells (clE c).toArray 25)).heap.size [.string t, .int .i64 p] 36 ∧ Blk w'.heap ((w.alloc (.cells (clE c).toArray 25)).alloc (.cells #[.string t, .int .i64 p] 36)).heap.size clZ 25) ⟨by (repeat (first | exact Fr.refl _ _ | assumption | with_reducible apply Fr.allocSet | with_reducible apply Fr.alloc | with_reducible apply Fr.drewN | with_reducible apply Fr.drew | ((with_reducible apply Fr.set); rotate_left; (right; ((try simp only [alloc_size]); omega))) | (refine Fr.trans ?_ (by assumption)))), inferInstance, inferInstance, inferInstance⟩ ?_
  rintro w1 ⟨hf1, h3, h4, h6⟩
  rw [e3] at h4
  rw [e4] at h6
  rw [e3, e4]
  obtain ⟨b3, eb3⟩ : ∃ b3, b3 = w.heap.size := ⟨_, rfl⟩
  obtain ⟨b4, eb4⟩ : ∃ b4, b4 = w.heap.size + 1 := ⟨_, rfl⟩
  obtain ⟨b6, eb6⟩ : ∃ b6, b6 = w.heap.size + 2 := ⟨_, rfl⟩
  rw [← eb6] at h6 ⊢
  rw [← eb4] at h4 ⊢
  rw [← eb3] at h3 ⊢
  have hsz1 := hf1.size
  have hl6 := h6.lt
  (((apply vL_val); (case h => ((apply opv_loadbC); exact rfl; exact rfl; (first | assumption | infer_instance); (first | exact (rfl : _ = [_]) | exact (rfl : _ = [_, _]) | exact (rfl : _ = [_, _, _]) | exact (rfl : _ = [_, _, _, _]) | exact (rfl : _ = [_, _, _, _, _]) | exact (rfl : _ = [_, _, _, _, _, _]) | exact (rfl : _ = [_, _, _, _, _, _, _]) | exact (rfl : _ = [_, _, _, _, _, _, _, _]) | exact (rfl : _ = [_, _, _, _, _, _, _, _, _]) | exact (rfl : _ = [_, _, _, _, _, _, _, _, _, _]) | exact (rfl : _ = [_, _, _, _, _, _, _, _, _, _, _]) | exact (rfl : _ = [_, _, _, _, _, _, _, _, _, _, _, _])); exact rfl))))
  refine vL_callF rfl (mayp31 t p w1 (by omega)) rfl ?_
  rintro _ w2 ⟨rfl, hf2⟩
  rw [hmay]
  have h32 := h3.frN hf2
  have h42 := h4.frN hf2
  have h62 := h6.frN hf2
  have hf12 := hf1.trans hf2
  clear h3 h4 h6 hf2
  (((apply vL_val); (case h => ((apply opv_not); exact rfl))); ((apply vL_val); (case h => ((apply opv_E); exact rfl))); ((apply vL_wanted); exact rfl); ((apply vL_val); (case h => ((apply opv_E); exact rfl))); ((apply vL_wanted); exact rfl); ((apply vL_val); (case h => ((apply opv_buildS); exact rfl; (first | exact (rfl : _ = some []) | exact (rfl : _ = some [_]) | exact (rfl : _ = some [_, _]) | exact (rfl : _ = some [_, _, _]) | exact (rfl : _ = some [_, _, _, _]) | exact (rfl : _ = some [_, _, _, _, _]) | exact (rfl : _ = some [_, _, _, _, _, _]) | exact (rfl : _ = some [_, _, _, _, _, _, _]) | exact (rfl : _ = some [_, _, _, _, _, _, _, _]) | exact (rfl : _ = some [_, _, _, _, _, _, _, _, _]) | exact (rfl : _ = some [_, _, _, _, _, _, _, _, _, _]) | exact (rfl : _ = some [_, _, _, _, _, _, _, _, _, _, _]) | exact (rfl : _ = some [_, _, _, _, _, _, _, _, _, _, _, _]) | exact (rfl : _ = some [_, _, _, _, _, _, _, _, _, _, _, _, _]) | exact (rfl : _ = some [_, _, _, _, _, _, _, _, _, _, _, _, _, _]) | exact (rfl : _ = some [_, _, _, _, _, _, _, _, _, _, _, _, _, _, _]) | exact (rfl : _ = some [_, _, _, _, _, _, _, _, _, _, _, _, _, _, _, _]) | exact (rfl : _ = some [_, _, _, _, _, _, _, _, _, _, _, _, _, _, _, _, _, _, _, _, _, _, _]) | exact (rfl : _ = some [_, _, _, _, _, _, _, _, _, _, _, _, _, _, _, _, _, _, _, _, _, _, _, _]) | exact (rfl : _ = some [_, _, _, _, _, _, _, _, _, _, _, _, _, _, _, _, _, _, _, _, _, _, _, _, _, _]) | exact (rfl : _ = some [_, _, _, _, _, _, _, _, _, _, _, _, _, _, _, _, _, _]))))); ((apply vL_wanted); exact rfl))
  refine vL_callF rfl (may25 0 0 0 ⟨.slice ra brs.length rc, hrv⟩ (brs.map (fun y => (y.1, y.2.length))) w2 ((Rd.by25 hr.1).frN hf12) hys) rfl ?_
  rintro _ w3 ⟨rfl, hf3⟩
  rw [hmb]
  have h33 := h32.frN hf3
  have h43 := h42.frN hf3
  have h63 := h62.frN hf3
  have hf13 := hf12.trans hf3
  clear h32 h42 h62 hf3 hf12
  (((apply vL_wanted); exact rfl); ((apply vL_val); (case h => ((apply opv_not); exact rfl))); (iterate 2 (((apply vL_val); (case h => ((apply opv_E); exact rfl))))); ((apply vL_wanted); exact rfl); ((apply vL_val); (case h => ((apply opv_loadbC); exact rfl; exact rfl; (first | assumption | infer_instance); (first | exact (rfl : _ = [_]) | exact (rfl : _ = [_, _]) | exact (rfl : _ = [_, _, _]) | exact (rfl : _ = [_, _, _, _]) | exact (rfl : _ = [_, _, _, _, _]) | exact (rfl : _ = [_, _, _, _, _, _]) | exact (rfl : _ = [_, _, _, _, _, _, _]) | exact (rfl : _ = [_, _, _, _, _, _, _, _]) | exact (rfl : _ = [_, _, _, _, _, _, _, _, _]) | exact (rfl : _ = [_, _, _, _, _, _, _, _, _, _]) | exact (rfl : _ = [_, _, _, _, _, _, _, _, _, _, _]) | exact (rfl : _ = [_, _, _, _, _, _, _, _, _, _, _, _])); exact rfl))); ((apply vL_wanted); exact rfl))
  refine vL_callF rfl (right31 c w3 (hc.frN hf13) H.R) rfl ?_
  rintro _ w4 ⟨rfl, hf4⟩
  have h34 := h33.frN hf4
  have h44 := h43.frN hf4
  have h64 := h63.frN hf4
  have hf14 := hf13.trans hf4
  clear h33 h43 h63 hf4 hf13
  (((apply vL_wanted); exact rfl); ((apply vL_val); (case h => ((apply opv_not); exact rfl))); ((apply vL_val); (case h => ((apply opv_E); exact rfl))); apply vL_nil; apply seqP_normal; ((apply vC_cond_false); exact rfl); apply vC_skip; apply seqP_normal; apply vC_seq; apply vC_region; (iterate 2 (((apply vL_val); (case h => ((apply opv_loadbC); exact rfl; exact rfl; (first | assumption | infer_instance); (first | exact (rfl : _ = [_]) | exact (rfl : _ = [_, _]) | exact (rfl : _ = [_, _, _]) | exact (rfl : _ = [_, _, _, _]) | exact (rfl : _ = [_, _, _, _, _]) | exact (rfl : _ = [_, _, _, _, _, _]) | exact (rfl : _ = [_, _, _, _, _, _, _]) | exact (rfl : _ = [_, _, _, _, _, _, _, _]) | exact (rfl : _ = [_, _, _, _, _, _, _, _, _]) | exact (rfl : _ = [_, _, _, _, _, _, _, _, _, _]) | exact (rfl : _ = [_, _, _, _, _, _, _, _, _, _, _]) | exact (rfl : _ = [_, _, _, _, _, _, _, _, _, _, _, _])); exact rfl))))))
  refine vL_callF rfl (find31 c t p w4 (hc.2.2.frN hf14) hsl (fun s hs => ⟨(H.sp s hs).1, (H.sp s hs).2, hpb⟩)) rfl ?_
  rintro _ w5 ⟨rfl, hf5⟩
  have h35 := h34.frN hf5
  have h45 := h44.frN hf5
  have h65 := h64.frN hf5
  have hf15 := hf14.trans hf5
  have hrs5 := hc.2.2.frN hf15
  have hrw5 := hc.1.frN hf15
  clear h34 h44 h64 hf5 hf14
  have hbz := H.bz
  by_cases hl1 : c.ss.length = 1
  · obtain ⟨s, hss⟩ : ∃ s, c.ss = [s] := by
      match hcs : c.ss, hl1 with
      | [s], _ => exact ⟨s, rfl⟩
    have hsi : c.ss[(0 : Int).toNat]? = some s := by rw [hss]; rfl
    have hl0 : (0 : Int) < c.ss.length := by omega
    rw [decide_eq_true hl1]
    ((iterate 5 (((apply vL_val); (case h => ((apply opv_E); exact rfl))))); apply vL_nil; apply seqP_normal; apply vC_seq; apply vC_region; ((apply vL_val); (case h => ((apply opv_E); exact rfl))); apply vL_nil; apply seqP_normal; (iterate 2 (apply vC_seq)); apply vC_region; ((apply vL_val); (case h => ((apply opv_E); exact rfl))); apply vL_nil; apply seqP_normal; ((apply vC_cond_true); exact rfl); apply vC_region; ((apply vL_val); (case h => ((apply opv_fieldAddr); exact rfl))); ((apply vL_val); (case h => ((apply opv_loadb1); exact rfl; exact rfl; (first | assumption | infer_instance); exact rfl))); ((apply vL_val); (case h => ((apply opv_E); exact rfl))); ((apply vL_val); (case h => ((apply opv_indexAddr); (first | exact norm_eq rfl | ((conv => lhs; whnf) <;> exact rfl)); exact rfl; (first | assumption | infer_instance); (first | omega | (simp only [List.length_map]; omega)); (first | omega | (simp only [List.length_map]; omega))))); ((apply vL_val); (case h => ((apply opv_fieldAddr); exact rfl))); ((apply vL_val); (case h => ((apply opv_ld_el); exact rfl; exact rfl; (first | assumption | infer_instance); assumption; exact rfl))); ((apply vL_val); (case h => ((apply opv_E); exact rfl))); apply vL_nil; apply seqP_normal; apply vC_seq; apply vC_block; apply vC_seq; apply vC_region; ((apply vL_val); (case h => ((apply opv_fieldAddr); exact rfl))); ((apply vL_val); (case h => ((apply opv_loadb1); exact rfl; exact rfl; (first | assumption | infer_instance); exact rfl))); (iterate 2 (((apply vL_val); (case h => ((apply opv_E); exact rfl))))); (refine vL_or rfl rfl (fun _ => ?_) (fun h => by omega)); ((apply vL_val); (case h => ((apply opv_fieldAddr); exact rfl))); ((apply vL_wanted); exact rfl); ((apply vL_val); (case h => ((apply opv_loadb1); exact rfl; exact rfl; (first | assumption | infer_instance); exact rfl))); (iterate 2 (((apply vL_val); (case h => ((apply opv_E); exact rfl))))); apply vL_nil; apply seqP_normal)
    refine vC_condF rfl hst ?_
    (apply vC_seq)
    refine vC_draw' (fun wf => Fr No w5 wf) ((Fr.refl No w5).drew) ?_
    ((apply (tk 0)); (case hi => exact rfl); (case hf => kernel_rfl); (case hS => (repeat (first | exact Fr.refl _ _ | assumption | with_reducible apply Fr.allocSet | with_reducible apply Fr.alloc | with_reducible apply Fr.drewN | with_reducible apply Fr.drew | ((with_reducible apply Fr.set); rotate_left; (right; ((try simp only [alloc_size]); omega))) | (refine Fr.trans ?_ (by assumption))))); (case hy => (intro wf hwf; haveI := From.mk hwf; (((apply opv_fieldAddr); exact rfl)))))
    ((apply (tk 1)); (case hi => exact rfl); (case hf => kernel_rfl); (case hS => (repeat (first | exact Fr.refl _ _ | assumption | with_reducible apply Fr.allocSet | with_reducible apply Fr.alloc | with_reducible apply Fr.drewN | with_reducible apply Fr.drew | ((with_reducible apply Fr.set); rotate_left; (right; ((try simp only [alloc_size]); omega))) | (refine Fr.trans ?_ (by assumption))))); (case hy => (intro wf hwf; haveI := From.mk hwf; (((apply opv_loadb1); exact rfl; exact rfl; (first | assumption | infer_instance); exact rfl)))))
    ((apply (tk 2)); (case hi => exact rfl); (case hf => kernel_rfl); (case hS => (repeat (first | exact Fr.refl _ _ | assumption | with_reducible apply Fr.allocSet | with_reducible apply Fr.alloc | with_reducible apply Fr.drewN | with_reducible apply Fr.drew | ((with_reducible apply Fr.set); rotate_left; (right; ((try simp only [alloc_size]); omega))) | (refine Fr.trans ?_ (by assumption))))); (case hy => (intro wf hwf; haveI := From.mk hwf; (((apply opv_loadbC); exact rfl; exact rfl; (first | assumption | infer_instance); (first | exact (rfl : _ = [_]) | exact (rfl : _ = [_, _]) | exact (rfl : _ = [_, _, _]) | exact (rfl : _ = [_, _, _, _]) | exact (rfl : _ = [_, _, _, _, _]) | exact (rfl : _ = [_, _, _, _, _, _]) | exact (rfl : _ = [_, _, _, _, _, _, _]) | exact (rfl : _ = [_, _, _, _, _, _, _, _]) | exact (rfl : _ = [_, _, _, _, _, _, _, _, _]) | exact (rfl : _ = [_, _, _, _, _, _, _, _, _, _]) | exact (rfl : _ = [_, _, _, _, _, _, _, _, _, _, _]) | exact (rfl : _ = [_, _, _, _, _, _, _, _, _, _, _, _])); exact rfl)))))
    (refine tkc 3 rfl (by kernel_rfl) (by (repeat (first | exact Fr.refl _ _ | assumption | with_reducible apply Fr.allocSet | with_reducible apply Fr.alloc | with_reducible apply Fr.drewN | with_reducible apply Fr.drew | ((with_reducible apply Fr.set); rotate_left; (right; ((try simp only [alloc_size]); omega))) | (refine Fr.trans ?_ (by assumption))))) rfl (produces31 t p _) rfl ?_)
    rintro _ w6 ⟨rfl, hf6, hpl6⟩
    have hf56 : Fr No w5 w6 := (Fr.refl No w5).drew.trans hf6
    have hrw6 : Rd w6.heap 26 wtE c.wv.1 [x] := by have := hrw5.frN hf56; rw [hw] at this; exact this
    have hc1 := contains1 c.wv.1 x _ t p w6 hrw6 hpl6 hx
    (refine tkc 4 rfl (by kernel_rfl) (by (repeat (first | exact Fr.refl _ _ | assumption | with_reducible apply Fr.allocSet | with_reducible apply Fr.alloc | with_reducible apply Fr.drewN | with_reducible apply Fr.drew | ((with_reducible apply Fr.set); rotate_left; (right; ((try simp only [alloc_size]); omega))) | (refine Fr.trans ?_ (by assumption))))) rfl (hc1) rfl ?_)
    rintro _ w7 ⟨rfl, hf7⟩
    have hf57 := hf56.trans hf7
    ((apply (tk 5)); (case hi => exact rfl); (case hf => kernel_rfl); (case hS => (repeat (first | exact Fr.refl _ _ | assumption | with_reducible apply Fr.allocSet | with_reducible apply Fr.alloc | with_reducible apply Fr.drewN | with_reducible apply Fr.drew | ((with_reducible apply Fr.set); rotate_left; (right; ((try simp only [alloc_size]); omega))) | (refine Fr.trans ?_ (by assumption))))); (case hy => (intro wf hwf; haveI := From.mk hwf; (((apply opv_E); exact rfl)))))
    refine vA_done (by kernel_rfl) (by (first | exact trivial | ((repeat (first | exact Fr.refl _ _ | assumption | with_reducible apply Fr.allocSet | with_reducible apply Fr.alloc | with_reducible apply Fr.drewN | with_reducible apply Fr.drew | ((with_reducible apply Fr.set); rotate_left; (right; ((try simp only [alloc_size]); omega))) | (refine Fr.trans ?_ (by assumption)))); done))) ?_
    have h67 := h65.frN hf57
    have hf17 := hf15.trans hf57
    (apply seqP_normal; ((apply vC_cond_true); exact rfl); apply vC_seq; apply vC_region; ((apply vL_val); (case h => ((apply opv_buildS); exact rfl; (first | exact (rfl : _ = some []) | exact (rfl : _ = some [_]) | exact (rfl : _ = some [_, _]) | exact (rfl : _ = some [_, _, _]) | exact (rfl : _ = some [_, _, _, _]) | exact (rfl : _ = some [_, _, _, _, _]) | exact (rfl : _ = some [_, _, _, _, _, _]) | exact (rfl : _ = some [_, _, _, _, _, _, _]) | exact (rfl : _ = some [_, _, _, _, _, _, _, _]) | exact (rfl : _ = some [_, _, _, _, _, _, _, _, _]) | exact (rfl : _ = some [_, _, _, _, _, _, _, _, _, _]) | exact (rfl : _ = some [_, _, _, _, _, _, _, _, _, _, _]) | exact (rfl : _ = some [_, _, _, _, _, _, _, _, _, _, _, _]) | exact (rfl : _ = some [_, _, _, _, _, _, _, _, _, _, _, _, _]) | exact (rfl : _ = some [_, _, _, _, _, _, _, _, _, _, _, _, _, _]) | exact (rfl : _ = some [_, _, _, _, _, _, _, _, _, _, _, _, _, _, _]) | exact (rfl : _ = some [_, _, _, _, _, _, _, _, _, _, _, _, _, _, _, _]) | exact (rfl : _ = some [_, _, _, _, _, _, _, _, _, _, _, _, _, _, _, _, _, _, _, _, _, _, _]) | exact (rfl : _ = some [_, _, _, _, _, _, _, _, _, _, _, _, _, _, _, _, _, _, _, _, _, _, _, _]) | exact (rfl : _ = some [_, _, _, _, _, _, _, _, _, _, _, _, _, _, _, _, _, _, _, _, _, _, _, _, _, _]) | exact (rfl : _ = some [_, _, _, _, _, _, _, _, _, _, _, _, _, _, _, _, _, _]))))); ((apply vL_skip); (case h => ((apply ops_storen); (first | exact norm_eq rfl | ((conv => lhs; whnf) <;> exact rfl)); (first | exact norm_eq rfl | ((conv => lhs; whnf) <;> exact rfl)); exact rfl; (first | exact (fun u hu => EncOk.one _ u hu) | (intro u hu; simp at hu; rcases hu with rfl | rfl <;> (first | rfl | assumption)) | (intro u hu; simp at hu; rcases hu with rfl | rfl | rfl <;> (first | rfl | assumption)) | (intro u hu; simp at hu; rcases hu with rfl | rfl | rfl | rfl <;> (first | rfl | assumption)) | exact (fun u hu => EncOk.one _ u (List.mem_of_mem_drop (List.mem_of_mem_take hu))) | (intro u hu; simp only [List.mem_cons, List.not_mem_nil, or_false] at hu; rcases hu with rfl | rfl | rfl | rfl | rfl | rfl | rfl | rfl | rfl | rfl <;> (first | rfl | assumption)) | (intro u hu; simp only [List.mem_cons, List.not_mem_nil, or_false] at hu; rcases hu with rfl | rfl | rfl | rfl | rfl | rfl | rfl | rfl | rfl | rfl | rfl | rfl | rfl | rfl | rfl | rfl | rfl | rfl | rfl | rfl | rfl | rfl | rfl <;> (first | rfl | assumption)) | (intro u hu; simp only [List.mem_cons, List.not_mem_nil, or_false] at hu; rcases hu with rfl | rfl | rfl | rfl | rfl | rfl | rfl | rfl | rfl | rfl | rfl | rfl | rfl | rfl | rfl | rfl | rfl | rfl | rfl | rfl | rfl | rfl | rfl | rfl <;> (first | rfl | assumption)) | (intro u hu; simp only [List.mem_cons, List.not_mem_nil, or_false] at hu; rcases hu with rfl | rfl | rfl | rfl | rfl | rfl | rfl | rfl | rfl | rfl | rfl | rfl | rfl | rfl | rfl | rfl | rfl | rfl | rfl | rfl | rfl | rfl | rfl | rfl | rfl | rfl <;> (first | rfl | assumption))); (first | assumption | infer_instance); (first | decide | exact of_decide_eq_true rfl | (simp; done))))); (iterate 2 (((apply vL_val); (case h => ((apply opv_E); exact rfl))))); apply vL_nil; apply seqP_normal; apply vC_ret; apply blockP_ret; apply seqP_ret)
    (apply retC3; (case ha => exact rfl); (case hD => exact rfl); (case hb => (first | assumption | infer_instance)); (case hcs => (first | exact (rfl : _ = [_]) | exact (rfl : _ = [_, _]) | exact (rfl : _ = [_, _, _]) | exact (rfl : _ = [_, _, _, _]) | exact (rfl : _ = [_, _, _, _, _]) | exact (rfl : _ = [_, _, _, _, _, _]) | exact (rfl : _ = [_, _, _, _, _, _, _]) | exact (rfl : _ = [_, _, _, _, _, _, _, _]) | exact (rfl : _ = [_, _, _, _, _, _, _, _, _]) | exact (rfl : _ = [_, _, _, _, _, _, _, _, _, _]) | exact (rfl : _ = [_, _, _, _, _, _, _, _, _, _, _]) | exact (rfl : _ = [_, _, _, _, _, _, _, _, _, _, _, _]))); (case hl => exact rfl); (case hu => (first | exact norm_eq rfl | ((conv => lhs; whnf) <;> exact rfl))); (case hu2 => (first | exact norm_eq rfl | ((conv => lhs; whnf) <;> exact rfl))))
    exact ⟨rfl, hf17.trans' ((Fr.refl (fun k => k = b6) w7).set _ _ (.inl rfl)) (fun k hk => .inr (by omega))⟩
  · rw [decide_eq_false hl1]
    ((iterate 5 (((apply vL_val); (case h => ((apply opv_E); exact rfl))))); apply vL_nil; apply seqP_normal; apply vC_seq; apply vC_region; ((apply vL_val); (case h => ((apply opv_E); exact rfl))); apply vL_nil; apply seqP_normal; (iterate 2 (apply vC_seq)); apply vC_region; ((apply vL_val); (case h => ((apply opv_E); exact rfl))); apply vL_nil; apply seqP_normal; ((apply vC_cond_false); exact rfl); apply vC_skip; apply seqP_normal; apply vC_seq; apply vC_block; apply vC_seq; apply vC_region; ((apply vL_val); (case h => ((apply opv_fieldAddr); exact rfl))); ((apply vL_val); (case h => ((apply opv_loadb1); exact rfl; exact rfl; (first | assumption | infer_instance); exact rfl))); (iterate 2 (((apply vL_val); (case h => ((apply opv_E); exact rfl))))); (refine vL_or rfl rfl (fun _ => ?_) (fun h => by omega)); ((apply vL_val); (case h => ((apply opv_fieldAddr); exact rfl))); ((apply vL_wanted); exact rfl); ((apply vL_val); (case h => ((apply opv_loadb1); exact rfl; exact rfl; (first | assumption | infer_instance); exact rfl))); (iterate 2 (((apply vL_val); (case h => ((apply opv_E); exact rfl))))); apply vL_nil; apply seqP_normal)
    refine vC_condF rfl hst ?_
    (apply vC_seq)
    refine vC_draw' (fun wf => Fr No w5 wf) ((Fr.refl No w5).drew) ?_
    ((apply (tk 0)); (case hi => exact rfl); (case hf => kernel_rfl); (case hS => (repeat (first | exact Fr.refl _ _ | assumption | with_reducible apply Fr.allocSet | with_reducible apply Fr.alloc | with_reducible apply Fr.drewN | with_reducible apply Fr.drew | ((with_reducible apply Fr.set); rotate_left; (right; ((try simp only [alloc_size]); omega))) | (refine Fr.trans ?_ (by assumption))))); (case hy => (intro wf hwf; haveI := From.mk hwf; (((apply opv_fieldAddr); exact rfl)))))
    ((apply (tk 1)); (case hi => exact rfl); (case hf => kernel_rfl); (case hS => (repeat (first | exact Fr.refl _ _ | assumption | with_reducible apply Fr.allocSet | with_reducible apply Fr.alloc | with_reducible apply Fr.drewN | with_reducible apply Fr.drew | ((with_reducible apply Fr.set); rotate_left; (right; ((try simp only [alloc_size]); omega))) | (refine Fr.trans ?_ (by assumption))))); (case hy => (intro wf hwf; haveI := From.mk hwf; (((apply opv_loadb1); exact rfl; exact rfl; (first | assumption | infer_instance); exact rfl)))))
    ((apply (tk 2)); (case hi => exact rfl); (case hf => kernel_rfl); (case hS => (repeat (first | exact Fr.refl _ _ | assumption | with_reducible apply Fr.allocSet | with_reducible apply Fr.alloc | with_reducible apply Fr.drewN | with_reducible apply Fr.drew | ((with_reducible apply Fr.set); rotate_left; (right; ((try simp only [alloc_size]); omega))) | (refine Fr.trans ?_ (by assumption))))); (case hy => (intro wf hwf; haveI := From.mk hwf; (((apply opv_loadbC); exact rfl; exact rfl; (first | assumption | infer_instance); (first | exact (rfl : _ = [_]) | exact (rfl : _ = [_, _]) | exact (rfl : _ = [_, _, _]) | exact (rfl : _ = [_, _, _, _]) | exact (rfl : _ = [_, _, _, _, _]) | exact (rfl : _ = [_, _, _, _, _, _]) | exact (rfl : _ = [_, _, _, _, _, _, _]) | exact (rfl : _ = [_, _, _, _, _, _, _, _]) | exact (rfl : _ = [_, _, _, _, _, _, _, _, _]) | exact (rfl : _ = [_, _, _, _, _, _, _, _, _, _]) | exact (rfl : _ = [_, _, _, _, _, _, _, _, _, _, _]) | exact (rfl : _ = [_, _, _, _, _, _, _, _, _, _, _, _])); exact rfl)))))
    (refine tkc 3 rfl (by kernel_rfl) (by (repeat (first | exact Fr.refl _ _ | assumption | with_reducible apply Fr.allocSet | with_reducible apply Fr.alloc | with_reducible apply Fr.drewN | with_reducible apply Fr.drew | ((with_reducible apply Fr.set); rotate_left; (right; ((try simp only [alloc_size]); omega))) | (refine Fr.trans ?_ (by assumption))))) rfl (produces31 t p _) rfl ?_)
    rintro _ w6 ⟨rfl, hf6, hpl6⟩
    have hf56 : Fr No w5 w6 := (Fr.refl No w5).drew.trans hf6
    have hrw6 : Rd w6.heap 26 wtE c.wv.1 [x] := by have := hrw5.frN hf56; rw [hw] at this; exact this
    have hc1 := contains1 c.wv.1 x _ t p w6 hrw6 hpl6 hx
    (refine tkc 4 rfl (by kernel_rfl) (by (repeat (first | exact Fr.refl _ _ | assumption | with_reducible apply Fr.allocSet | with_reducible apply Fr.alloc | with_reducible apply Fr.drewN | with_reducible apply Fr.drew | ((with_reducible apply Fr.set); rotate_left; (right; ((try simp only [alloc_size]); omega))) | (refine Fr.trans ?_ (by assumption))))) rfl (hc1) rfl ?_)
    rintro _ w7 ⟨rfl, hf7⟩
    have hf57 := hf56.trans hf7
    ((apply (tk 5)); (case hi => exact rfl); (case hf => kernel_rfl); (case hS => (repeat (first | exact Fr.refl _ _ | assumption | with_reducible apply Fr.allocSet | with_reducible apply Fr.alloc | with_reducible apply Fr.drewN | with_reducible apply Fr.drew | ((with_reducible apply Fr.set); rotate_left; (right; ((try simp only [alloc_size]); omega))) | (refine Fr.trans ?_ (by assumption))))); (case hy => (intro wf hwf; haveI := From.mk hwf; (((apply opv_E); exact rfl)))))
    refine vA_done (by kernel_rfl) (by (first | exact trivial | ((repeat (first | exact Fr.refl _ _ | assumption | with_reducible apply Fr.allocSet | with_reducible apply Fr.alloc | with_reducible apply Fr.drewN | with_reducible apply Fr.drew | ((with_reducible apply Fr.set); rotate_left; (right; ((try simp only [alloc_size]); omega))) | (refine Fr.trans ?_ (by assumption)))); done))) ?_
    have h67 := h65.frN hf57
    have hf17 := hf15.trans hf57
    (apply seqP_normal; ((apply vC_cond_true); exact rfl); apply vC_seq; apply vC_region; ((apply vL_val); (case h => ((apply opv_buildS); exact rfl; (first | exact (rfl : _ = some []) | exact (rfl : _ = some [_]) | exact (rfl : _ = some [_, _]) | exact (rfl : _ = some [_, _, _]) | exact (rfl : _ = some [_, _, _, _]) | exact (rfl : _ = some [_, _, _, _, _]) | exact (rfl : _ = some [_, _, _, _, _, _]) | exact (rfl : _ = some [_, _, _, _, _, _, _]) | exact (rfl : _ = some [_, _, _, _, _, _, _, _]) | exact (rfl : _ = some [_, _, _, _, _, _, _, _, _]) | exact (rfl : _ = some [_, _, _, _, _, _, _, _, _, _]) | exact (rfl : _ = some [_, _, _, _, _, _, _, _, _, _, _]) | exact (rfl : _ = some [_, _, _, _, _, _, _, _, _, _, _, _]) | exact (rfl : _ = some [_, _, _, _, _, _, _, _, _, _, _, _, _]) | exact (rfl : _ = some [_, _, _, _, _, _, _, _, _, _, _, _, _, _]) | exact (rfl : _ = some [_, _, _, _, _, _, _, _, _, _, _, _, _, _, _]) | exact (rfl : _ = some [_, _, _, _, _, _, _, _, _, _, _, _, _, _, _, _]) | exact (rfl : _ = some [_, _, _, _, _, _, _, _, _, _, _, _, _, _, _, _, _, _, _, _, _, _, _]) | exact (rfl : _ = some [_, _, _, _, _, _, _, _, _, _, _, _, _, _, _, _, _, _, _, _, _, _, _, _]) | exact (rfl : _ = some [_, _, _, _, _, _, _, _, _, _, _, _, _, _, _, _, _, _, _, _, _, _, _, _, _, _]) | exact (rfl : _ = some [_, _, _, _, _, _, _, _, _, _, _, _, _, _, _, _, _, _]))))); ((apply vL_skip); (case h => ((apply ops_storen); (first | exact norm_eq rfl | ((conv => lhs; whnf) <;> exact rfl)); (first | exact norm_eq rfl | ((conv => lhs; whnf) <;> exact rfl)); exact rfl; (first | exact (fun u hu => EncOk.one _ u hu) | (intro u hu; simp at hu; rcases hu with rfl | rfl <;> (first | rfl | assumption)) | (intro u hu; simp at hu; rcases hu with rfl | rfl | rfl <;> (first | rfl | assumption)) | (intro u hu; simp at hu; rcases hu with rfl | rfl | rfl | rfl <;> (first | rfl | assumption)) | exact (fun u hu => EncOk.one _ u (List.mem_of_mem_drop (List.mem_of_mem_take hu))) | (intro u hu; simp only [List.mem_cons, List.not_mem_nil, or_false] at hu; rcases hu with rfl | rfl | rfl | rfl | rfl | rfl | rfl | rfl | rfl | rfl <;> (first | rfl | assumption)) | (intro u hu; simp only [List.mem_cons, List.not_mem_nil, or_false] at hu; rcases hu with rfl | rfl | rfl | rfl | rfl | rfl | rfl | rfl | rfl | rfl | rfl | rfl | rfl | rfl | rfl | rfl | rfl | rfl | rfl | rfl | rfl | rfl | rfl <;> (first | rfl | assumption)) | (intro u hu; simp only [List.mem_cons, List.not_mem_nil, or_false] at hu; rcases hu with rfl | rfl | rfl | rfl | rfl | rfl | rfl | rfl | rfl | rfl | rfl | rfl | rfl | rfl | rfl | rfl | rfl | rfl | rfl | rfl | rfl | rfl | rfl | rfl <;> (first | rfl | assumption)) | (intro u hu; simp only [List.mem_cons, List.not_mem_nil, or_false] at hu; rcases hu with rfl | rfl | rfl | rfl | rfl | rfl | rfl | rfl | rfl | rfl | rfl | rfl | rfl | rfl | rfl | rfl | rfl | rfl | rfl | rfl | rfl | rfl | rfl | rfl | rfl | rfl <;> (first | rfl | assumption))); (first | assumption | infer_instance); (first | decide | exact of_decide_eq_true rfl | (simp; done))))); (iterate 2 (((apply vL_val); (case h => ((apply opv_E); exact rfl))))); apply vL_nil; apply seqP_normal; apply vC_ret; apply blockP_ret; apply seqP_ret)
    (apply retC3; (case ha => exact rfl); (case hD => exact rfl); (case hb => (first | assumption | infer_instance)); (case hcs => (first | exact (rfl : _ = [_]) | exact (rfl : _ = [_, _]) | exact (rfl : _ = [_, _, _]) | exact (rfl : _ = [_, _, _, _]) | exact (rfl : _ = [_, _, _, _, _]) | exact (rfl : _ = [_, _, _, _, _, _]) | exact (rfl : _ = [_, _, _, _, _, _, _]) | exact (rfl : _ = [_, _, _, _, _, _, _, _]) | exact (rfl : _ = [_, _, _, _, _, _, _, _, _]) | exact (rfl : _ = [_, _, _, _, _, _, _, _, _, _]) | exact (rfl : _ = [_, _, _, _, _, _, _, _, _, _, _]) | exact (rfl : _ = [_, _, _, _, _, _, _, _, _, _, _, _]))); (case hl => exact rfl); (case hu => (first | exact norm_eq rfl | ((conv => lhs; whnf) <;> exact rfl))); (case hu2 => (first | exact norm_eq rfl | ((conv => lhs; whnf) <;> exact rfl))))
    exact ⟨rfl, hf17.trans' ((Fr.refl (fun k => k = b6) w7).set _ _ (.inl rfl)) (fun k hk => .inr (by omega))⟩
end Go.Proofs.Ytchfaeaagpemlaa

set_option maxRecDepth 100000
namespace Go.Proofs.Ytchfaeaagpemlaa
open Go Go.Eng
theorem wok_nf {id nx br : Int} {x y : WT} (h : x.nf = y.nf) (H : WOk id nx br y) : WOk id nx br x := by
  have hr : x.rq.nf = y.rq.nf := by have := congrArg WT.rq h; exact this
  have e1 : x.rq.call = y.rq.call := by have := congrArg RQ.call hr; exact this
  have e2 : x.rq.cl = y.rq.cl := by have := congrArg RQ.cl hr; exact this
  have e3 : x.rq.k = y.rq.k := by have := congrArg RQ.k hr; exact this
  have e4 : x.due = y.due := by have := congrArg WT.due h; exact this
  have e5 : x.tries = y.tries := by have := congrArg WT.tries h; exact this
  have e6 : x.broker = y.broker := by have := congrArg WT.broker h; exact this
  have e7 : x.rq.topic = y.rq.topic := by have := congrArg RQ.topic hr; exact this
  have e8 : x.rq.part = y.rq.part := by have := congrArg RQ.part hr; exact this
  have e9 : x.rq.pid = y.rq.pid := by have := congrArg RQ.pid hr; exact this
  have e10 : x.rq.ep = y.rq.ep := by have := congrArg RQ.ep hr; exact this
  have e11 : x.rq.fi = y.rq.fi := by have := congrArg RQ.fi hr; exact this
  have e12 : x.rq.brs.map (fun y => (nilO, y.2)) = y.rq.brs.map (fun y => (nilO, y.2)) := by have := congrArg RQ.brs hr; exact this
  have e13 : x.rq.brs.map (fun y => y.2.length) = y.rq.brs.map (fun y => y.2.length) := by
    have := congrArg (List.map (fun z : OV × List Int => z.2.length)) e12
    rw [List.map_map, List.map_map] at this
    exact this
  unfold WOk at H ⊢
  rw [e1, e2, e3, e4, e5, e6, e7, e8, e9, e10, e11, e13]
  exact H
theorem R1.nf {c d : CL} (h : d.nf = c.nf) (R : R1 c) : R1 d := by
  have e1 : d.id = c.id := by have := congrArg CL.id h; exact this
  have e2 : d.brokers = c.brokers := by have := congrArg CL.brokers h; exact this
  have e3 : d.next = c.next := by have := congrArg CL.next h; exact this
  have e4 : d.now = c.now := by have := congrArg CL.now h; exact this
  have e5 : d.broker = c.broker := by have := congrArg CL.broker h; exact this
  have e6 : d.pid = c.pid := by have := congrArg CL.pid h; exact this
  have e7 : d.ep = c.ep := by have := congrArg CL.ep h; exact this
  have e8 : d.ss = c.ss := by have := congrArg CL.ss h; exact this
  have e9 : d.ws.map WT.nf = c.ws.map WT.nf := by have := congrArg CL.ws h; exact this
  have e10 : d.ws.length = c.ws.length := by simpa using congrArg List.length e9
  refine ⟨by rw [e1]; exact R.id, by rw [e2]; exact R.br, by rw [e3]; exact R.nx, by rw [e4]; exact R.now, by rw [e5, e2]; exact R.bro, by rw [e6]; exact R.pid, by rw [e7]; exact R.ep, by rw [e6, e7, e8]; exact R.none, by rw [e8]; exact R.s1, by rw [e8]; exact R.s, by rw [e10]; exact R.w1, fun x hx => ?_⟩
  have h1 : x.nf ∈ d.ws.map WT.nf := List.mem_map.2 ⟨x, hx, rfl⟩
  rw [e9] at h1
  obtain ⟨y, hy, e⟩ := List.mem_map.1 h1
  rw [e1, e2, e3]
  exact wok_nf e.symm (R.w y hy)
theorem rqsz_nf {r r1 : RQ} (h : r1.nf = r.nf) (hs : RqSz r) : RqSz r1 := by
  have e1 : r1.brs.map (fun y => (nilO, y.2)) = r.brs.map (fun y => (nilO, y.2)) := by have := congrArg RQ.brs h; exact this
  have e2 : r1.tps = r.tps := by have := congrArg RQ.tps h; exact this
  have e3 : r1.brs.map (·.2) = r.brs.map (·.2) := by
    have := congrArg (List.map (·.2)) e1
    rw [List.map_map, List.map_map] at this
    exact this
  refine ⟨?_, fun y hy => ?_, by rw [e2]; exact hs.2.2⟩
  · have := congrArg List.length e3
    simp only [List.length_map] at this
    rw [this]; exact hs.1
  · have hy2 : y.2 ∈ r1.brs.map (·.2) := List.mem_map.2 ⟨y, hy, rfl⟩
    rw [e3] at hy2
    obtain ⟨z, hz, ez⟩ := List.mem_map.1 hy2
    rw [← ez]; exact hs.2.1 z hz
def TickP (c : CL) (x : WT) (c' : CL) (sd : SD) : Prop := c'.id = c.id ∧ c'.brokers = c.brokers ∧ c'.next = c.next ∧ c'.now = c.now + 1 ∧ c'.broker = c.broker ∧ c'.pid = c.pid ∧ c'.ep = c.ep ∧ c'.stale = c.stale ∧ c'.ss = c.ss ∧ sd.to = x.broker ∧ sd.rq.nf = x.rq.nf ∧
  ∃ x' : WT, c'.ws = [x'] ∧ x'.rq.nf = x.rq.nf ∧ x'.due = c.now + 9 ∧ x'.tries = x.tries + 1 ∧ x'.broker = x.broker % c.brokers + 1
theorem tick31 (c : CL) (x : WT) (w : World) (R : R1 c) (hw : c.ws = [x]) (hnow : c.now < 1099511627776) (hd : x.due ≤ c.now + 1) (ht : x.tries < 10) (hc : ClRd w.heap c) (hs : RqSz x.rq) :
    Rets Try.prog 7 #[.agg (clE c).toArray] w fun u w' => ∃ c' lv sd, u = .tuple #[.agg (clE c').toArray, .slice none 0 0, lv] ∧ Own w'.heap 48 24 sdE lv [sd] ∧ lv.oneCell' = true ∧ ClOwn w'.heap c' ∧ (∀ b, own c'.wv.1 = some b → w.heap.size ≤ b) ∧ (∀ b, own c'.sv.1 = some b → w.heap.size ≤ b) ∧ Fr No w w' ∧ TickP c x c' sd := by
  have hw0 := c.wv.2
  have hs0 := c.sv.2
  refine rets_of Try.func7 rfl Try.ntmps7 rfl rfl (by kernel_rfl) ?_
  ((apply vC_seq; apply vC_region)); ((((apply vL_val); (case h => ((apply opw_boxn); exact rfl))); ((apply vL_val); (case h => (apply opw_alloc))); (iterate 2 (((apply vL_val); (case h => ((apply opv_E); exact rfl))))); apply vL_nil)); with_reducible apply seqP_normal
  ((apply vC_scope; apply vC_seq; apply vC_region))
  have e2 : (w.alloc (.cells (clE c).toArray 25)).heap.size = w.heap.size + 1 := by simp
  refine vL_gen (fun w' => Fr No w w' ∧ Blk w'.heap w.heap.size (clE c) 25 ∧ Blk w'.heap (w.alloc (.cells (clE c).toArray 25)).heap.size clZ 25) ⟨by (repeat (first | exact Fr.refl _ _ | assumption | with_reducible apply Fr.allocSet | with_reducible apply Fr.alloc | with_reducible apply Fr.drewN | with_reducible apply Fr.drew | ((with_reducible apply Fr.set); rotate_left; (right; ((try simp only [alloc_size]); omega))) | (refine Fr.trans ?_ (by assumption)))), inferInstance, inferInstance⟩ ?_
  rintro w1 ⟨hf1, h1, h2⟩
  rw [e2] at h2
  rw [e2]
  obtain ⟨b1, eb1⟩ : ∃ b1, b1 = w.heap.size := ⟨_, rfl⟩
  obtain ⟨b2, eb2⟩ : ∃ b2, b2 = w.heap.size + 1 := ⟨_, rfl⟩
  rw [← eb2] at h2 ⊢
  rw [← eb1] at h1 ⊢
  have hl2 := h2.lt
  (((apply vL_val); (case h => ((apply opv_loadbC); exact rfl; exact rfl; (first | assumption | infer_instance); (first | exact (rfl : _ = [_]) | exact (rfl : _ = [_, _]) | exact (rfl : _ = [_, _, _]) | exact (rfl : _ = [_, _, _, _]) | exact (rfl : _ = [_, _, _, _, _]) | exact (rfl : _ = [_, _, _, _, _, _]) | exact (rfl : _ = [_, _, _, _, _, _, _]) | exact (rfl : _ = [_, _, _, _, _, _, _, _]) | exact (rfl : _ = [_, _, _, _, _, _, _, _, _]) | exact (rfl : _ = [_, _, _, _, _, _, _, _, _, _]) | exact (rfl : _ = [_, _, _, _, _, _, _, _, _, _, _]) | exact (rfl : _ = [_, _, _, _, _, _, _, _, _, _, _, _])); exact rfl))))
  refine vL_callF rfl (clone31 c w1 (hc.frN hf1) ⟨by rw [hw]; exact (show 1 ≤ 1000 by decide), by have := R.s1; omega, fun y hy => by rw [hw] at hy; rw [List.mem_singleton.1 hy]; exact hs⟩) rfl ?_
  rintro _ w2 ⟨c1, rfl, hnf, hc2, hfw2, hfs2, hf2⟩
  have hw1 := c1.wv.2
  have hs1 := c1.sv.2
  have h12 := h1.frN hf2
  have h22 := h2.frN hf2
  ((((apply vL_skip); (case h => ((apply ops_storen); (first | exact norm_eq rfl | ((conv => lhs; whnf) <;> exact rfl)); (first | exact norm_eq rfl | ((conv => lhs; whnf) <;> exact rfl)); exact rfl; (first | exact (fun u hu => EncOk.one _ u hu) | (intro u hu; simp at hu; rcases hu with rfl | rfl <;> (first | rfl | assumption)) | (intro u hu; simp at hu; rcases hu with rfl | rfl | rfl <;> (first | rfl | assumption)) | (intro u hu; simp at hu; rcases hu with rfl | rfl | rfl | rfl <;> (first | rfl | assumption)) | exact (fun u hu => EncOk.one _ u (List.mem_of_mem_drop (List.mem_of_mem_take hu))) | (intro u hu; simp only [List.mem_cons, List.not_mem_nil, or_false] at hu; rcases hu with rfl | rfl | rfl | rfl | rfl | rfl | rfl | rfl | rfl | rfl <;> (first | rfl | assumption)) | (intro u hu; simp only [List.mem_cons, List.not_mem_nil, or_false] at hu; rcases hu with rfl | rfl | rfl | rfl | rfl | rfl | rfl | rfl | rfl | rfl | rfl | rfl | rfl | rfl | rfl | rfl | rfl | rfl | rfl | rfl | rfl | rfl | rfl <;> (first | rfl | assumption)) | (intro u hu; simp only [List.mem_cons, List.not_mem_nil, or_false] at hu; rcases hu with rfl | rfl | rfl | rfl | rfl | rfl | rfl | rfl | rfl | rfl | rfl | rfl | rfl | rfl | rfl | rfl | rfl | rfl | rfl | rfl | rfl | rfl | rfl | rfl <;> (first | rfl | assumption)) | (intro u hu; simp only [List.mem_cons, List.not_mem_nil, or_false] at hu; rcases hu with rfl | rfl | rfl | rfl | rfl | rfl | rfl | rfl | rfl | rfl | rfl | rfl | rfl | rfl | rfl | rfl | rfl | rfl | rfl | rfl | rfl | rfl | rfl | rfl | rfl | rfl <;> (first | rfl | assumption))); (first | assumption | infer_instance); (first | decide | exact of_decide_eq_true rfl | (simp; done))))); apply vL_nil)); with_reducible apply seqP_normal
  (((iterate 2 (apply vC_seq)); apply vC_region))
  refine vL_gen (fun w' => Fr No w w' ∧ Blk w'.heap b1 (clE c1) 25 ∧ Blk w'.heap b2 clZ 25 ∧ ClOwn w'.heap c1) ⟨(hf1.trans hf2).set _ _ (.inr (by omega)), Blk.as (Blk.set h12) rfl, h22.set_ne (by omega), hc2.frBlk h12 ⟨by decide, by decide, by decide⟩ ⟨by decide, by decide⟩ ((Fr.refl (fun k => k = b1) w2).set _ _ (.inl rfl))⟩ ?_
  rintro w3 ⟨hf3, h13, h23, hc3⟩
  have hfwz : ∀ b, own c1.wv.1 = some b → w.heap.size + 2 ≤ b := fun b hb => by have := hfw2 b hb; omega
  have hfsz : ∀ b, own c1.sv.1 = some b → w.heap.size + 2 ≤ b := fun b hb => by have := hfs2 b hb; omega
  clear h12 h22 hc2 hfw2 hfs2 hf2 h1 h2
  have R' := R1.nf hnf R
  have hnw : c1.now = c.now := by have := congrArg CL.now hnf; exact this
  have hbk : c1.brokers = c.brokers := by have := congrArg CL.brokers hnf; exact this
  obtain ⟨x1, hx1, hx1n⟩ : ∃ x1, c1.ws = [x1] ∧ x1.nf = x.nf := by
    have h1 : c1.ws.map WT.nf = c.ws.map WT.nf := by have := congrArg CL.ws hnf; exact this
    rw [hw] at h1
    obtain ⟨y, hy, e⟩ := List.map_eq_singleton_iff.1 h1
    exact ⟨y, hy, e⟩
  have hn0 := R.now
  (((apply vL_val); (case h => ((apply opv_fieldAddr); exact rfl))); ((apply vL_val); (case h => ((apply opv_loadb1); exact rfl; exact rfl; (first | assumption | infer_instance); exact rfl))); (iterate 2 (((apply vL_val); (case h => ((apply opv_E); exact rfl))))); (refine vL_or rfl rfl (fun _ => ?_) (fun h => by omega)); ((apply vL_val); (case h => ((apply opv_loadbC); exact rfl; exact rfl; (first | assumption | infer_instance); (first | exact (rfl : _ = [_]) | exact (rfl : _ = [_, _]) | exact (rfl : _ = [_, _, _]) | exact (rfl : _ = [_, _, _, _]) | exact (rfl : _ = [_, _, _, _, _]) | exact (rfl : _ = [_, _, _, _, _, _]) | exact (rfl : _ = [_, _, _, _, _, _, _]) | exact (rfl : _ = [_, _, _, _, _, _, _, _]) | exact (rfl : _ = [_, _, _, _, _, _, _, _, _]) | exact (rfl : _ = [_, _, _, _, _, _, _, _, _, _]) | exact (rfl : _ = [_, _, _, _, _, _, _, _, _, _, _]) | exact (rfl : _ = [_, _, _, _, _, _, _, _, _, _, _, _])); exact rfl))); ((apply vL_wanted); exact rfl))
  refine vL_callF rfl (right31 c1 w3 hc3.rd R') rfl ?_
  rintro _ w4 ⟨rfl, hf4⟩
  have h14 := h13.frN hf4
  have h24 := h23.frN hf4
  have hc4 := hc3.frN hf4
  have hfw4 := hf3.trans hf4
  clear h13 h23 hc3 hf3 hf4
  have hcw4 := hc4.1
  rw [hx1] at hcw4
  haveI hoff : OffB c1.wv.1 b1 := ⟨Own.ne_blk hcw4 h14 (by decide)⟩
  (((apply vL_wanted); exact rfl); ((apply vL_val); (case h => ((apply opv_not); exact rfl))); ((apply vL_val); (case h => ((apply opv_E); exact rfl))); apply vL_nil; apply seqP_normal; ((apply vC_cond_false); exact rfl); apply vC_skip; apply seqP_normal; apply vC_seq; apply vC_region; ((apply vL_val); (case h => ((apply opv_fieldAddr); exact rfl))); ((apply vL_val); (case h => ((apply opv_loadb1); exact rfl; exact rfl; (first | assumption | infer_instance); exact rfl))); ((apply vL_val); (case h => ((apply opv_add); exact rfl; exact rfl; (first | omega | (simp only [List.length_map]; omega))))); ((apply vL_val); (case h => ((apply opv_fieldAddr); exact rfl))); ((apply vL_skip); (case h => ((apply ops_store1); (first | exact norm_eq rfl | ((conv => lhs; whnf) <;> exact rfl)); (first | exact norm_eq rfl | ((conv => lhs; whnf) <;> exact rfl)); (first | rfl | assumption); (first | assumption | infer_instance); (first | decide | exact of_decide_eq_true rfl | (simp; done))))); apply vL_nil; apply seqP_normal; apply vC_seq; apply vC_region; ((apply vL_val); (case h => ((apply opv_E); exact rfl))); apply vL_nil; apply seqP_normal; apply vC_seq; apply vC_region; ((apply vL_val); (case h => ((apply opv_E); exact rfl))); apply vL_nil; apply seqP_normal; apply vC_seq; apply vC_region; ((apply vL_val); (case h => ((apply opv_E); exact rfl))); apply vL_nil; apply seqP_normal; apply vC_seq; apply vC_label; apply seqP_normal; (iterate 2 (apply vC_seq)); apply vC_region; ((apply vL_val); (case h => ((apply opv_fieldAddr); exact rfl))); ((apply vL_val); (case h => ((apply opv_loadb1); exact rfl; exact rfl; (first | assumption | infer_instance); exact rfl))); ((apply vL_val); (case h => ((apply opv_len); (first | exact norm_eq rfl | ((conv => lhs; whnf) <;> exact rfl)); (first | assumption | infer_instance)))); ((apply vL_val); (case h => ((apply opv_E); exact rfl))); apply vL_nil; apply seqP_normal; apply vC_block)
  refine vC_gen (fun w' => Fr No w w' ∧ Blk w'.heap b1 (clE { c1 with now := c1.now + 1 }) 25 ∧ Blk w'.heap b2 clZ 25 ∧ ClOwn w'.heap c1) ⟨hfw4.set _ _ (.inr (by omega)), Blk.as (Blk.set h14) rfl, h24.set_ne (by omega), hc4.frBlk h14 ⟨by decide, by decide, by decide⟩ ⟨by decide, by decide⟩ ((Fr.refl (fun k => k = b1) w4).set _ _ (.inl rfl))⟩ ?_
  rintro w5 ⟨hf5, h15, h25, hc5⟩
  clear h14 h24 hc4 hfw4 hoff hcw4
  (apply vC_loop4 75557863725914054984416 5 7 6 28 (fun u5 u7 u6 u28 w' => Fr No w w' ∧ Blk w'.heap b1 (clE { c1 with now := c1.now + 1 }) 25 ∧ Blk w'.heap b2 clZ 25 ∧ ClOwn w'.heap c1 ∧ u6 = .slice none 0 0 ∧ ((u28 = .int .i64 0 ∧ u5 = .slice none 0 0 ∧ u7 = .slice none 0 0) ∨ (u28 = .int .i64 1 ∧ u5.oneCell' = true ∧ u7.oneCell' = true ∧ ∃ (r3 : RQ), r3.nf = x.rq.nf ∧ RqOwn w'.heap r3 ∧ Own w'.heap 42 26 wtE u5 [⟨x1.rq, c1.now + 1 + 8, x1.tries + 1, x1.broker % c1.brokers + 1⟩] ∧ (∀ b, own u5 = some b → w.heap.size + 2 ≤ b) ∧ Own w'.heap 48 24 sdE u7 [⟨x1.broker, r3⟩]))) (fun _ _ _ u28 _ => 1 - (RowKit.intOf u28).toNat)); (case h1 => (first | exact norm_eq rfl | ((conv => lhs; whnf) <;> exact rfl))); (case h2 => (first | exact norm_eq rfl | ((conv => lhs; whnf) <;> exact rfl))); (case h3 => (first | exact norm_eq rfl | ((conv => lhs; whnf) <;> exact rfl))); (case h4 => (first | exact norm_eq rfl | ((conv => lhs; whnf) <;> exact rfl)))
  case h0 => exact ⟨hf5, h15, h25, hc5, rfl, .inl ⟨rfl, rfl, rfl⟩⟩
  case round =>
  clear h15 h25 hc5 hf5
  rintro junk u5 u7 u6 u28 w6 ⟨hf6, h16, h26, hc6, rfl, ⟨rfl, rfl, rfl⟩ | ⟨rfl, hu5, hu7, r3, hr3n, hr3, ho5, hfo5, ho7⟩⟩
  rotate_left
  · have hl1 : (([x1] : List WT).length : Int) = 1 := rfl
    have hl2 : c1.ws.length = 1 := by rw [hx1]; rfl
    have hl3 := h26.lt
    have h26' := h26.set_ne (cs := (clE { c1 with now := c1.now + 1, wv := ⟨u5, hu5⟩ }).toArray) (show b2 ≠ b1 by omega)
    (apply vC_seq; apply vC_region; ((apply vL_val); (case h => ((apply opv_E); exact rfl))); apply vL_nil; apply seqP_normal; apply vC_seq; ((apply vC_cond_false); exact rfl); apply vC_exit; apply seqP_exit; apply loopP_exit; apply blockP_exit; apply seqP_normal; apply vC_seq; apply vC_region; ((apply vL_val); (case h => ((apply opv_move); ((conv => lhs; whnf) <;> exact rfl)))); ((apply vL_val); (case h => ((apply opv_fieldAddr); exact rfl))); ((apply vL_skip); (case h => ((apply ops_store1); (first | exact norm_eq rfl | ((conv => lhs; whnf) <;> exact rfl)); (first | exact norm_eq rfl | ((conv => lhs; whnf) <;> exact rfl)); (first | rfl | assumption); (first | assumption | infer_instance); (first | decide | exact of_decide_eq_true rfl | (simp; done))))); apply vL_nil; apply seqP_normal; apply vC_seq; apply vC_region; ((apply vL_val); (case h => ((apply opv_loadbC); exact rfl; exact rfl; (first | assumption | infer_instance); (first | exact (rfl : _ = [_]) | exact (rfl : _ = [_, _]) | exact (rfl : _ = [_, _, _]) | exact (rfl : _ = [_, _, _, _]) | exact (rfl : _ = [_, _, _, _, _]) | exact (rfl : _ = [_, _, _, _, _, _]) | exact (rfl : _ = [_, _, _, _, _, _, _]) | exact (rfl : _ = [_, _, _, _, _, _, _, _]) | exact (rfl : _ = [_, _, _, _, _, _, _, _, _]) | exact (rfl : _ = [_, _, _, _, _, _, _, _, _, _]) | exact (rfl : _ = [_, _, _, _, _, _, _, _, _, _, _]) | exact (rfl : _ = [_, _, _, _, _, _, _, _, _, _, _, _])); exact rfl))); ((apply vL_val); (case h => ((apply opv_E); exact rfl))); ((apply vL_val); (case h => ((apply opv_move); ((conv => lhs; whnf) <;> exact rfl)))); ((apply vL_skip); (case h => ((apply ops_storen); (first | exact norm_eq rfl | ((conv => lhs; whnf) <;> exact rfl)); (first | exact norm_eq rfl | ((conv => lhs; whnf) <;> exact rfl)); exact rfl; (first | exact (fun u hu => EncOk.one _ u hu) | (intro u hu; simp at hu; rcases hu with rfl | rfl <;> (first | rfl | assumption)) | (intro u hu; simp at hu; rcases hu with rfl | rfl | rfl <;> (first | rfl | assumption)) | (intro u hu; simp at hu; rcases hu with rfl | rfl | rfl | rfl <;> (first | rfl | assumption)) | exact (fun u hu => EncOk.one _ u (List.mem_of_mem_drop (List.mem_of_mem_take hu))) | (intro u hu; simp only [List.mem_cons, List.not_mem_nil, or_false] at hu; rcases hu with rfl | rfl | rfl | rfl | rfl | rfl | rfl | rfl | rfl | rfl <;> (first | rfl | assumption)) | (intro u hu; simp only [List.mem_cons, List.not_mem_nil, or_false] at hu; rcases hu with rfl | rfl | rfl | rfl | rfl | rfl | rfl | rfl | rfl | rfl | rfl | rfl | rfl | rfl | rfl | rfl | rfl | rfl | rfl | rfl | rfl | rfl | rfl <;> (first | rfl | assumption)) | (intro u hu; simp only [List.mem_cons, List.not_mem_nil, or_false] at hu; rcases hu with rfl | rfl | rfl | rfl | rfl | rfl | rfl | rfl | rfl | rfl | rfl | rfl | rfl | rfl | rfl | rfl | rfl | rfl | rfl | rfl | rfl | rfl | rfl | rfl <;> (first | rfl | assumption)) | (intro u hu; simp only [List.mem_cons, List.not_mem_nil, or_false] at hu; rcases hu with rfl | rfl | rfl | rfl | rfl | rfl | rfl | rfl | rfl | rfl | rfl | rfl | rfl | rfl | rfl | rfl | rfl | rfl | rfl | rfl | rfl | rfl | rfl | rfl | rfl | rfl <;> (first | rfl | assumption))); (first | assumption | infer_instance); (first | decide | exact of_decide_eq_true rfl | (simp; done))))); ((apply vL_val); (case h => ((apply opv_E); exact rfl))); ((apply vL_val); (case h => ((apply opv_assign); ((conv => lhs; whnf) <;> exact rfl)))); apply vL_nil; apply seqP_normal; apply vC_ret; apply gotoP_ret)
    (apply retC3; (case ha => exact rfl); (case hD => exact rfl); (case hb => exact Blk.set (h26.set_ne (show b2 ≠ b1 by omega))); (case hcs => exact (rfl : _ = clE { c1 with now := c1.now + 1, wv := ⟨u5, hu5⟩, ws := [⟨x1.rq, c1.now + 1 + 8, x1.tries + 1, x1.broker % c1.brokers + 1⟩] })); (case hl => exact rfl); (case hu => (first | exact norm_eq rfl | ((conv => lhs; whnf) <;> exact rfl))); (case hu2 => (first | exact norm_eq rfl | ((conv => lhs; whnf) <;> exact rfl))))
    have hx1q : RqOwn w6.heap x1.rq := hc6.2.1 x1 (by rw [hx1]; exact List.mem_singleton_self _)
    have hcl : ClOwn w6.heap { c1 with now := c1.now + 1, wv := ⟨u5, hu5⟩, ws := [⟨x1.rq, c1.now + 1 + 8, x1.tries + 1, x1.broker % c1.brokers + 1⟩] } := ⟨ho5, fun y hy => by rw [List.mem_singleton.1 hy]; exact hx1q, hc6.2.2⟩
    have hA := hcl.frBlk h16 ⟨by decide, by decide, by decide⟩ ⟨by decide, by decide⟩ ((Fr.refl (fun k => k = b1) w6).set b1 (clE { c1 with now := c1.now + 1, wv := ⟨u5, hu5⟩ }).toArray (.inl rfl))
    have hB := hA.frBlk h26' ⟨by decide, by decide, by decide⟩ ⟨by decide, by decide⟩ ((Fr.refl (fun k => k = b2) _).set b2 (clE { c1 with now := c1.now + 1, wv := ⟨u5, hu5⟩ }).toArray (.inl rfl))
    have hxr : x1.rq.nf = x.rq.nf := by have := congrArg WT.rq hx1n; exact this
    have hxb : x1.broker = x.broker := by have := congrArg WT.broker hx1n; exact this
    have hxt : x1.tries = x.tries := by have := congrArg WT.tries hx1n; exact this
    refine ⟨_, _, ⟨x1.broker, r3⟩, rfl, (ho7.set (Own.ne_blk ho7 h16 (by decide))).set (Own.ne_blk (ho7.set (b := b1) (cs := (clE { c1 with now := c1.now + 1, wv := ⟨u5, hu5⟩ }).toArray) (Own.ne_blk ho7 h16 (by decide))) h26' (by decide)), hu7, hB, (fun b hb => by have := hfo5 b hb; omega), (fun b hb => by have := hfsz b hb; omega), (hf6.set _ _ (.inr (by omega))).set _ _ (.inr (by omega)), ?_⟩
    exact ⟨by have := congrArg CL.id hnf; exact this, hbk, by have := congrArg CL.next hnf; exact this, by show c1.now + 1 = _; rw [hnw], by have := congrArg CL.broker hnf; exact this, by have := congrArg CL.pid hnf; exact this, by have := congrArg CL.ep hnf; exact this, by have := congrArg CL.stale hnf; exact this, by have := congrArg CL.ss hnf; exact this, hxb, hr3n, _, rfl, hxr, by show c1.now + 1 + 8 = _; rw [hnw]; omega, by show x1.tries + 1 = _; rw [hxt], by show x1.broker % c1.brokers + 1 = _; rw [hxb, hbk]⟩
  have hcw6 := hc6.1
  rw [hx1] at hcw6
  have hxi : ([x1] : List WT)[(0 : Int).toNat]? = some x1 := rfl
  have hxl : (0 : Int) < (([x1] : List WT).length : Int) := Int.zero_lt_one
  have hl2 : c1.ws.length = 1 := by rw [hx1]; rfl
  have hxd : x1.due = x.due := by have := congrArg WT.due hx1n; exact this
  have hxt : x1.tries = x.tries := by have := congrArg WT.tries hx1n; exact this
  have hxW := R'.w x1 (by rw [hx1]; exact List.mem_singleton_self _)
  have hxb0 := hxW.2.2.2.2.2.2.2.2.2.1
  have hxb1 := hxW.2.2.2.2.2.2.2.2.2.2.1
  have hxt1 := hxW.2.2.2.2.2.2.2.1
  have hbv := x1.rq.brv.2
  have htv := x1.rq.trv.2
  have hbr7 := R'.br
  ((apply vC_seq; apply vC_region)); ((((apply vL_val); (case h => ((apply opv_E); exact rfl))); apply vL_nil)); with_reducible apply seqP_normal
  ((apply vC_seq; ((apply vC_cond_true); exact rfl); apply vC_skip; apply seqP_normal; apply vC_seq; apply vC_block; apply vC_seq; apply vC_region))
  ((((apply vL_val); (case h => ((apply opv_indexAddr); (first | exact norm_eq rfl | ((conv => lhs; whnf) <;> exact rfl)); exact rfl; (first | assumption | infer_instance); (first | omega | (simp only [List.length_map]; omega)); (first | omega | (simp only [List.length_map]; omega))))); ((apply vL_val); (case h => ((apply opv_ld_eln); exact rfl; exact rfl; (first | assumption | infer_instance); assumption))); ((apply vL_val); (case h => (apply opw_alloc))); ((apply vL_skip); (case h => ((apply ops_storen); (first | exact norm_eq rfl | ((conv => lhs; whnf) <;> exact rfl)); (first | exact norm_eq rfl | ((conv => lhs; whnf) <;> exact rfl)); exact rfl; (first | exact (fun u hu => EncOk.one _ u hu) | (intro u hu; simp at hu; rcases hu with rfl | rfl <;> (first | rfl | assumption)) | (intro u hu; simp at hu; rcases hu with rfl | rfl | rfl <;> (first | rfl | assumption)) | (intro u hu; simp at hu; rcases hu with rfl | rfl | rfl | rfl <;> (first | rfl | assumption)) | exact (fun u hu => EncOk.one _ u (List.mem_of_mem_drop (List.mem_of_mem_take hu))) | (intro u hu; simp only [List.mem_cons, List.not_mem_nil, or_false] at hu; rcases hu with rfl | rfl | rfl | rfl | rfl | rfl | rfl | rfl | rfl | rfl <;> (first | rfl | assumption)) | (intro u hu; simp only [List.mem_cons, List.not_mem_nil, or_false] at hu; rcases hu with rfl | rfl | rfl | rfl | rfl | rfl | rfl | rfl | rfl | rfl | rfl | rfl | rfl | rfl | rfl | rfl | rfl | rfl | rfl | rfl | rfl | rfl | rfl <;> (first | rfl | assumption)) | (intro u hu; simp only [List.mem_cons, List.not_mem_nil, or_false] at hu; rcases hu with rfl | rfl | rfl | rfl | rfl | rfl | rfl | rfl | rfl | rfl | rfl | rfl | rfl | rfl | rfl | rfl | rfl | rfl | rfl | rfl | rfl | rfl | rfl | rfl <;> (first | rfl | assumption)) | (intro u hu; simp only [List.mem_cons, List.not_mem_nil, or_false] at hu; rcases hu with rfl | rfl | rfl | rfl | rfl | rfl | rfl | rfl | rfl | rfl | rfl | rfl | rfl | rfl | rfl | rfl | rfl | rfl | rfl | rfl | rfl | rfl | rfl | rfl | rfl | rfl <;> (first | rfl | assumption))); (first | assumption | infer_instance); (first | decide | exact of_decide_eq_true rfl | (simp; done))))); apply vL_nil)); with_reducible apply seqP_normal
  ((apply vC_seq; apply vC_block; apply vC_seq; apply vC_region))
  refine vL_gen (fun w' => Fr No w6 w' ∧ w6.heap.size < w'.heap.size ∧ Blk w'.heap w6.heap.size (wtE x1) 42) ⟨by (repeat (first | exact Fr.refl _ _ | assumption | with_reducible apply Fr.allocSet | with_reducible apply Fr.alloc | with_reducible apply Fr.drewN | with_reducible apply Fr.drew | ((with_reducible apply Fr.set); rotate_left; (right; ((try simp only [alloc_size]); omega))) | (refine Fr.trans ?_ (by assumption)))), by simp, Blk.as inferInstance rfl⟩ ?_
  rintro w7 ⟨hf7, hz7, h97⟩
  have h17 := h16.frN hf7
  have h27 := h26.frN hf7
  have hc7 := hc6.frN hf7
  have hfw7 := hf6.trans hf7
  have hs6 := hf6.size
  have hcl6 : ∀ b, own c1.wv.1 = some b → b < w6.heap.size := hc6.1.lt
  have hb16 : b1 < w6.heap.size := h16.lt
  have hb26 : b2 < w6.heap.size := h26.lt
  generalize w6.heap.size = b9 at h97 hz7 hs6 hcl6 hb16 hb26 ⊢
  clear h16 h26 hc6 hf6 hf7 hcw6
  haveI n19 : NeB b1 b9 := ⟨by omega⟩
  haveI n29 : NeB b2 b9 := ⟨by omega⟩
  (((apply vL_val); (case h => ((apply opv_fieldAddr); exact rfl))); ((apply vL_val); (case h => ((apply opv_loadb1); exact rfl; exact rfl; (first | assumption | infer_instance); exact rfl))); ((apply vL_val); (case h => ((apply opv_fieldAddr); exact rfl))); ((apply vL_val); (case h => ((apply opv_loadb1); exact rfl; exact rfl; (first | assumption | infer_instance); exact rfl))); (iterate 2 (((apply vL_val); (case h => ((apply opv_E); exact rfl))))); apply vL_nil; apply seqP_normal; (refine vC_condF rfl (by ((simp only [Bool.not_eq_true', Bool.not_eq_false', Bool.not_not, decide_eq_true_eq, decide_eq_false_iff_not]); omega)) ?_); apply vC_seq; apply vC_region; ((apply vL_val); (case h => ((apply opv_fieldAddr); exact rfl))); ((apply vL_val); (case h => ((apply opv_loadb1); exact rfl; exact rfl; (first | assumption | infer_instance); exact rfl))); (iterate 2 (((apply vL_val); (case h => ((apply opv_E); exact rfl))))); apply vL_nil; apply seqP_normal; (refine vC_cond_dec rfl (fun h => by omega) (fun _ => ?_)); apply vC_seq; apply vC_region; ((apply vL_val); (case h => ((apply opv_fieldAddr); exact rfl))); ((apply vL_val); (case h => ((apply opv_loadb1); exact rfl; exact rfl; (first | assumption | infer_instance); exact rfl))); ((apply vL_val); (case h => ((apply opv_add); exact rfl; exact rfl; (first | omega | (simp only [List.length_map]; omega))))); ((apply vL_val); (case h => ((apply opv_fieldAddr); exact rfl))); ((apply vL_skip); (case h => ((apply ops_store1); (first | exact norm_eq rfl | ((conv => lhs; whnf) <;> exact rfl)); (first | exact norm_eq rfl | ((conv => lhs; whnf) <;> exact rfl)); (first | rfl | assumption); (first | assumption | infer_instance); (first | decide | exact of_decide_eq_true rfl | (simp; done))))); apply vL_nil; apply seqP_normal; apply vC_seq; apply vC_region; ((apply vL_val); (case h => ((apply opv_fieldAddr); exact rfl))); ((apply vL_val); (case h => ((apply opv_loadb1); exact rfl; exact rfl; (first | assumption | infer_instance); exact rfl))); ((apply vL_val); (case h => ((apply opv_add); exact rfl; exact rfl; (first | omega | (simp only [List.length_map]; omega))))); ((apply vL_val); (case h => ((apply opv_fieldAddr); exact rfl))); ((apply vL_skip); (case h => ((apply ops_store1); (first | exact norm_eq rfl | ((conv => lhs; whnf) <;> exact rfl)); (first | exact norm_eq rfl | ((conv => lhs; whnf) <;> exact rfl)); (first | rfl | assumption); (first | assumption | infer_instance); (first | decide | exact of_decide_eq_true rfl | (simp; done))))); apply vL_nil; apply seqP_normal; apply vC_region; ((apply vL_val); (case h => ((apply opv_E); exact rfl))); ((apply vL_val); (case h => ((apply opv_loadbC); exact rfl; exact rfl; (first | assumption | infer_instance); (first | exact (rfl : _ = [_]) | exact (rfl : _ = [_, _]) | exact (rfl : _ = [_, _, _]) | exact (rfl : _ = [_, _, _, _]) | exact (rfl : _ = [_, _, _, _, _]) | exact (rfl : _ = [_, _, _, _, _, _]) | exact (rfl : _ = [_, _, _, _, _, _, _]) | exact (rfl : _ = [_, _, _, _, _, _, _, _]) | exact (rfl : _ = [_, _, _, _, _, _, _, _, _]) | exact (rfl : _ = [_, _, _, _, _, _, _, _, _, _]) | exact (rfl : _ = [_, _, _, _, _, _, _, _, _, _, _]) | exact (rfl : _ = [_, _, _, _, _, _, _, _, _, _, _, _])); exact rfl))))
  have hq7 : RqOwn w7.heap x1.rq := hc7.2.1 x1 (by rw [hx1]; exact List.mem_singleton_self _)
  refine vL_gen (fun w' => Fr (fun k => k = b9) w7 w' ∧ Blk w'.heap b9 (wtE ⟨x1.rq, c1.now + 1 + 8, x1.tries + 1, x1.broker⟩) 42) ⟨((Fr.refl (fun k => k = b9) w7).set _ _ (.inl rfl)).set _ _ (.inl rfl), Blk.as (Blk.set (Blk.set h97)) rfl⟩ ?_
  rintro w8 ⟨hf8, h98⟩
  have h18 := h17.fr hf8 (fun h => by omega)
  have h28 := h27.fr hf8 (fun h => by omega)
  have hc8 : ClOwn w8.heap c1 := ⟨hc7.1.fr hf8 (fun b hb e => by have := hcl6 b hb; omega), fun y hy => (hc7.2.1 y hy).frBlk h97 (by decide) (by decide) (by decide) hf8, hc7.2.2.fr hf8 (fun b hb e => Own.ne_blk hc7.2.2 h97 (by decide) (by rw [hb, e]))⟩
  have hq8 : RqOwn w8.heap x1.rq := hc8.2.1 x1 (by rw [hx1]; exact List.mem_singleton_self _)
  have hfw8 : Fr No w w8 := hfw7.trans' hf8 (fun k hk => .inr (by omega))
  have hz8 := hf8.size
  have hsq : RqSz x1.rq := rqsz_nf (by have := congrArg WT.rq hx1n; exact this) hs
  clear h17 h27 hc7 hfw7 h97 hq7 hf8 n19 n29
  refine vL_callF rfl (send31 { c1 with now := c1.now + 1 } ⟨x1.rq, c1.now + 1 + 8, x1.tries + 1, x1.broker⟩ b9 w8 h98 hq8.rd hsq (by simp only; omega) (by simp only; omega)) rfl ?_
  rintro _ w10 ⟨r3, rfl, hnr3, hr10, hf10, h9x⟩
  have hrb3 := r3.brv.2
  have hrt3 := r3.trv.2
  have h110 := h18.fr hf10 (fun h => by omega)
  have h210 := h28.fr hf10 (fun h => by omega)
  have hc10 : ClOwn w10.heap c1 := ⟨hc8.1.fr hf10 (fun b hb e => by have := hcl6 b hb; omega), fun y hy => (hc8.2.1 y hy).frBlk h98 (by decide) (by decide) (by decide) hf10, hc8.2.2.fr hf10 (fun b hb e => Own.ne_blk hc8.2.2 h98 (by decide) (by rw [hb, e]))⟩
  have hfw10 : Fr No w w10 := hfw8.trans' hf10 (fun k hk => .inr (by omega))
  have hs10 := hfw10.size
  have hz10 := hf10.size
  clear h18 h28 hc8 hq8 hfw8 h98 hf10
  (((apply vL_val); (case h => ((apply opw_buildSl); exact rfl; exact rfl; exact rfl; (first | exact (rfl : _ = some []) | exact (rfl : _ = some [_]) | exact (rfl : _ = some [_, _]) | exact (rfl : _ = some [_, _, _]) | exact (rfl : _ = some [_, _, _, _]) | exact (rfl : _ = some [_, _, _, _, _]) | exact (rfl : _ = some [_, _, _, _, _, _]) | exact (rfl : _ = some [_, _, _, _, _, _, _]) | exact (rfl : _ = some [_, _, _, _, _, _, _, _]) | exact (rfl : _ = some [_, _, _, _, _, _, _, _, _]) | exact (rfl : _ = some [_, _, _, _, _, _, _, _, _, _]) | exact (rfl : _ = some [_, _, _, _, _, _, _, _, _, _, _]) | exact (rfl : _ = some [_, _, _, _, _, _, _, _, _, _, _, _]) | exact (rfl : _ = some [_, _, _, _, _, _, _, _, _, _, _, _, _]) | exact (rfl : _ = some [_, _, _, _, _, _, _, _, _, _, _, _, _, _]) | exact (rfl : _ = some [_, _, _, _, _, _, _, _, _, _, _, _, _, _, _]) | exact (rfl : _ = some [_, _, _, _, _, _, _, _, _, _, _, _, _, _, _, _]) | exact (rfl : _ = some [_, _, _, _, _, _, _, _, _, _, _, _, _, _, _, _, _, _, _, _, _, _, _]) | exact (rfl : _ = some [_, _, _, _, _, _, _, _, _, _, _, _, _, _, _, _, _, _, _, _, _, _, _, _]) | exact (rfl : _ = some [_, _, _, _, _, _, _, _, _, _, _, _, _, _, _, _, _, _, _, _, _, _, _, _, _, _]) | exact (rfl : _ = some [_, _, _, _, _, _, _, _, _, _, _, _, _, _, _, _, _, _]))))))
  refine vL_append (enc := sdE) (xs := []) (ys := [(⟨x1.broker, r3⟩ : SD)]) (by (first | exact norm_eq rfl | ((conv => lhs; whnf) <;> exact rfl))) (by (first | exact norm_eq rfl | ((conv => lhs; whnf) <;> exact rfl))) ((Own.nil _ _ _ _)) (Rd.new1 _ _ rfl) rfl (by decide) ?_ ?_ ?_
  · simp [maxLen]
  · simp
  intro lv w12 ho12 hf12 hfr12 honel _
  have hfa : Fr No w10 w12 := ((Fr.refl _ w10).alloc _).trans' hf12 (fun i hi => (by cases hi))
  have h112 := h110.frN hfa
  have h212 := h210.frN hfa
  have h912 := h9x.frN hfa
  have hc12 := hc10.frN hfa
  have hr12 := hr10.frN hfa
  have hfw12 := hfw10.trans hfa
  clear h110 h210 h9x hc10 hr10 hfw10 hf12 hfr12 hfa
  (((apply vL_val); (case h => ((apply opv_assign); ((conv => lhs; whnf) <;> exact rfl)))); apply vL_nil; apply blockP_normal; apply seqP_normal; apply vC_region; ((apply vL_val); (case h => ((apply opv_E); exact rfl))); ((apply vL_val); (case h => ((apply opv_loadb); exact rfl; exact rfl; (first | assumption | infer_instance); exact rfl))); ((apply vL_val); (case h => ((apply opw_buildSl); exact rfl; exact rfl; exact rfl; (first | exact (rfl : _ = some []) | exact (rfl : _ = some [_]) | exact (rfl : _ = some [_, _]) | exact (rfl : _ = some [_, _, _]) | exact (rfl : _ = some [_, _, _, _]) | exact (rfl : _ = some [_, _, _, _, _]) | exact (rfl : _ = some [_, _, _, _, _, _]) | exact (rfl : _ = some [_, _, _, _, _, _, _]) | exact (rfl : _ = some [_, _, _, _, _, _, _, _]) | exact (rfl : _ = some [_, _, _, _, _, _, _, _, _]) | exact (rfl : _ = some [_, _, _, _, _, _, _, _, _, _]) | exact (rfl : _ = some [_, _, _, _, _, _, _, _, _, _, _]) | exact (rfl : _ = some [_, _, _, _, _, _, _, _, _, _, _, _]) | exact (rfl : _ = some [_, _, _, _, _, _, _, _, _, _, _, _, _]) | exact (rfl : _ = some [_, _, _, _, _, _, _, _, _, _, _, _, _, _]) | exact (rfl : _ = some [_, _, _, _, _, _, _, _, _, _, _, _, _, _, _]) | exact (rfl : _ = some [_, _, _, _, _, _, _, _, _, _, _, _, _, _, _, _]) | exact (rfl : _ = some [_, _, _, _, _, _, _, _, _, _, _, _, _, _, _, _, _, _, _, _, _, _, _]) | exact (rfl : _ = some [_, _, _, _, _, _, _, _, _, _, _, _, _, _, _, _, _, _, _, _, _, _, _, _]) | exact (rfl : _ = some [_, _, _, _, _, _, _, _, _, _, _, _, _, _, _, _, _, _, _, _, _, _, _, _, _, _]) | exact (rfl : _ = some [_, _, _, _, _, _, _, _, _, _, _, _, _, _, _, _, _, _]))))))
  refine vL_append (enc := wtE) (xs := []) (ys := [(⟨x1.rq, c1.now + 1 + 8, x1.tries + 1, x1.broker % c1.brokers + 1⟩ : WT)]) (by (first | exact norm_eq rfl | ((conv => lhs; whnf) <;> exact rfl))) (by (first | exact norm_eq rfl | ((conv => lhs; whnf) <;> exact rfl))) ((Own.nil _ _ _ _)) (Rd.new1 _ _ rfl) rfl (by decide) ?_ ?_ ?_
  · simp [maxLen]
  · simp
  intro av w13 ho13 hf13 hfr13 honea _
  have hfb : Fr No w12 w13 := ((Fr.refl _ w12).alloc _).trans' hf13 (fun i hi => (by cases hi))
  have hs12 := hfw12.size
  (((apply vL_val); (case h => ((apply opv_assign); ((conv => lhs; whnf) <;> exact rfl)))); apply vL_nil; apply blockP_normal; apply seqP_normal; apply vC_region; ((apply vL_val); (case h => ((apply opv_add); exact rfl; exact rfl; (first | omega | (simp only [List.length_map]; omega))))); ((apply vL_val); (case h => ((apply opv_E); exact rfl))); apply vL_nil; apply loopP_normal)
  (with_reducible apply end4); (case hs => (repeat (first | (with_reducible exact same_mask _ _ _) | with_reducible apply same_updN | ((with_reducible refine same_updO ?_ ?_); rotate_left; exact rfl) | ((with_reducible refine same_upd ?_ ?_); rotate_left; exact rfl) | ((with_reducible refine same_maskIn ?_ ?_); rotate_left; exact rfl)))); (case h1 => (first | exact norm_eq rfl | ((conv => lhs; whnf) <;> exact rfl))); (case h2 => (first | exact norm_eq rfl | ((conv => lhs; whnf) <;> exact rfl))); (case h3 => (first | exact norm_eq rfl | ((conv => lhs; whnf) <;> exact rfl))); (case h4 => (first | exact norm_eq rfl | ((conv => lhs; whnf) <;> exact rfl)))
  · refine ⟨hfw12.trans hfb, h112.frN hfb, h212.frN hfb, hc12.frN hfb, rfl, .inr ⟨rfl, honea, honel, r3, ?_, hr12.frN hfb, ho13, fun b hb => ?_, ho12.frN hfb⟩⟩
    · rw [hnr3]
      have := congrArg WT.rq hx1n
      exact this
    · rcases hfr13 b hb with h | h
      · cases h
      · rw [alloc_size] at h; have := h212.lt; omega
  · simp [RowKit.intOf]
end Go.Proofs.Ytchfaeaagpemlaa

set_option maxRecDepth 100000
namespace Go.Proofs.Ytchfaeaagpemlaa
open Go Go.Eng
structure RP where
  k : Int
  cl : Int
  call : Int
  err : Int
  leader : Int
  off : Int
  start : Int
  fin : Int
  again : Bool
  rrv : OV
  merr : Int
  mpid : Int
  mep : Int
  mn : Int
  mph : Int
  mpl : OV
def rpE (a : RP) : List Value := [.int .u8 a.k, .int .i64 a.cl, .int .i64 a.call, .int .i64 a.err, .int .i64 a.leader, .int .i64 a.off, .int .i64 a.start, .int .i64 a.fin, .bool a.again, a.rrv.1, .int .i64 a.merr, .int .i64 a.mpid, .int .i64 a.mep, .int .i64 a.mn, .int .u8 a.mph, a.mpl.1]
def matchB (a : RP) (x : WT) : Bool := decide (x.rq.call = a.call ∧ x.rq.k = a.k ∧ x.rq.cl = a.cl)
theorem takec31 (x : WT) (a : RP) (b : Nat) (w : World) (hb : Blk w.heap b (rpE a) 56) : Rets Try.prog 20 #[.agg (wtE x).toArray, .pointer (some ⟨b, 0, none⟩)] w fun u w' => u = .bool (matchB a x) ∧ Fr No w w' := by
  have hbv := x.rq.brv.2
  have htv := x.rq.trv.2
  unfold matchB
  refine rets_of Try.func20 rfl Try.ntmps20 rfl rfl (by kernel_rfl) ?_
  rcases (by omega : x.rq.call ≠ a.call ∨ (x.rq.call = a.call ∧ x.rq.k ≠ a.k) ∨ (x.rq.call = a.call ∧ x.rq.k = a.k)) with h | h | h
  · (apply vC_seq; apply vC_region; ((apply vL_val); (case h => ((apply opw_boxn); exact rfl))); ((apply vL_val); (case h => ((apply opv_E); exact rfl))); apply vL_nil; apply seqP_normal; apply vC_seq; apply vC_region; (iterate 2 (((apply vL_val); (case h => ((apply opv_fieldAddr); exact rfl))))); ((apply vL_val); (case h => ((apply opv_loadb1); exact rfl; exact rfl; (first | assumption | infer_instance); exact rfl))); ((apply vL_val); (case h => ((apply opv_fieldAddr); exact rfl))); ((apply vL_val); (case h => ((apply opv_loadb1); exact rfl; exact rfl; (first | assumption | infer_instance); exact rfl))); (iterate 2 (((apply vL_val); (case h => ((apply opv_E); exact rfl))))); (refine vL_and rfl rfl (fun h => by omega) (fun _ => ?_)); (iterate 5 (((apply vL_unwanted'); exact rfl; exact rfl))); (iterate 2 (((apply vL_val); (case h => ((apply opv_E); exact rfl))))); (iterate 6 (((apply vL_unwanted'); exact rfl; exact rfl))); (iterate 2 (((apply vL_val); (case h => ((apply opv_E); exact rfl))))); apply vL_nil; apply seqP_normal; apply vC_ret)
    (apply ret1; (case h1 => (first | exact norm_eq rfl | ((conv => lhs; whnf) <;> exact rfl))))
    exact ⟨by rw [decide_eq_false (fun h' : x.rq.call = a.call ∧ x.rq.k = a.k ∧ x.rq.cl = a.cl => h h'.1)], by (repeat (first | exact Fr.refl _ _ | assumption | with_reducible apply Fr.allocSet | with_reducible apply Fr.alloc | with_reducible apply Fr.drewN | with_reducible apply Fr.drew | ((with_reducible apply Fr.set); rotate_left; (right; ((try simp only [alloc_size]); omega))) | (refine Fr.trans ?_ (by assumption))))⟩
  · obtain ⟨h, h'⟩ := h
    (apply vC_seq; apply vC_region; ((apply vL_val); (case h => ((apply opw_boxn); exact rfl))); ((apply vL_val); (case h => ((apply opv_E); exact rfl))); apply vL_nil; apply seqP_normal; apply vC_seq; apply vC_region; (iterate 2 (((apply vL_val); (case h => ((apply opv_fieldAddr); exact rfl))))); ((apply vL_val); (case h => ((apply opv_loadb1); exact rfl; exact rfl; (first | assumption | infer_instance); exact rfl))); ((apply vL_val); (case h => ((apply opv_fieldAddr); exact rfl))); ((apply vL_val); (case h => ((apply opv_loadb1); exact rfl; exact rfl; (first | assumption | infer_instance); exact rfl))); (iterate 2 (((apply vL_val); (case h => ((apply opv_E); exact rfl))))); (refine vL_and rfl rfl (fun _ => ?_) (fun h => by omega)); ((apply vL_val); (case h => ((apply opv_fieldAddr); exact rfl))); ((apply vL_wanted); exact rfl); ((apply vL_val); (case h => ((apply opv_fieldAddr); exact rfl))); ((apply vL_wanted); exact rfl); ((apply vL_val); (case h => ((apply opv_loadb1); exact rfl; exact rfl; (first | assumption | infer_instance); exact rfl))); ((apply vL_wanted); exact rfl); ((apply vL_val); (case h => ((apply opv_fieldAddr); exact rfl))); ((apply vL_wanted); exact rfl); ((apply vL_val); (case h => ((apply opv_loadb1); exact rfl; exact rfl; (first | assumption | infer_instance); exact rfl))); ((apply vL_wanted); exact rfl); (iterate 3 (((apply vL_val); (case h => ((apply opv_E); exact rfl))))); (refine vL_and rfl rfl (fun h => by omega) (fun _ => ?_)); (iterate 5 (((apply vL_unwanted'); exact rfl; exact rfl))); (iterate 2 (((apply vL_val); (case h => ((apply opv_E); exact rfl))))); apply vL_nil; apply seqP_normal; apply vC_ret)
    (apply ret1; (case h1 => (first | exact norm_eq rfl | ((conv => lhs; whnf) <;> exact rfl))))
    exact ⟨by rw [decide_eq_false (fun h2 : x.rq.call = a.call ∧ x.rq.k = a.k ∧ x.rq.cl = a.cl => h' h2.2.1)], by (repeat (first | exact Fr.refl _ _ | assumption | with_reducible apply Fr.allocSet | with_reducible apply Fr.alloc | with_reducible apply Fr.drewN | with_reducible apply Fr.drew | ((with_reducible apply Fr.set); rotate_left; (right; ((try simp only [alloc_size]); omega))) | (refine Fr.trans ?_ (by assumption))))⟩
  · obtain ⟨h, h'⟩ := h
    (apply vC_seq; apply vC_region; ((apply vL_val); (case h => ((apply opw_boxn); exact rfl))); ((apply vL_val); (case h => ((apply opv_E); exact rfl))); apply vL_nil; apply seqP_normal; apply vC_seq; apply vC_region; (iterate 2 (((apply vL_val); (case h => ((apply opv_fieldAddr); exact rfl))))); ((apply vL_val); (case h => ((apply opv_loadb1); exact rfl; exact rfl; (first | assumption | infer_instance); exact rfl))); ((apply vL_val); (case h => ((apply opv_fieldAddr); exact rfl))); ((apply vL_val); (case h => ((apply opv_loadb1); exact rfl; exact rfl; (first | assumption | infer_instance); exact rfl))); (iterate 2 (((apply vL_val); (case h => ((apply opv_E); exact rfl))))); (refine vL_and rfl rfl (fun _ => ?_) (fun h => by omega)); ((apply vL_val); (case h => ((apply opv_fieldAddr); exact rfl))); ((apply vL_wanted); exact rfl); ((apply vL_val); (case h => ((apply opv_fieldAddr); exact rfl))); ((apply vL_wanted); exact rfl); ((apply vL_val); (case h => ((apply opv_loadb1); exact rfl; exact rfl; (first | assumption | infer_instance); exact rfl))); ((apply vL_wanted); exact rfl); ((apply vL_val); (case h => ((apply opv_fieldAddr); exact rfl))); ((apply vL_wanted); exact rfl); ((apply vL_val); (case h => ((apply opv_loadb1); exact rfl; exact rfl; (first | assumption | infer_instance); exact rfl))); ((apply vL_wanted); exact rfl); (iterate 3 (((apply vL_val); (case h => ((apply opv_E); exact rfl))))); (refine vL_and rfl rfl (fun _ => ?_) (fun h => by omega)); ((apply vL_val); (case h => ((apply opv_fieldAddr); exact rfl))); ((apply vL_wanted); exact rfl); ((apply vL_val); (case h => ((apply opv_fieldAddr); exact rfl))); ((apply vL_wanted); exact rfl); ((apply vL_val); (case h => ((apply opv_loadb1); exact rfl; exact rfl; (first | assumption | infer_instance); exact rfl))); ((apply vL_wanted); exact rfl); ((apply vL_val); (case h => ((apply opv_fieldAddr); exact rfl))); ((apply vL_wanted); exact rfl); ((apply vL_val); (case h => ((apply opv_loadb1); exact rfl; exact rfl; (first | assumption | infer_instance); exact rfl))); ((apply vL_wanted); exact rfl); (iterate 3 (((apply vL_val); (case h => ((apply opv_E); exact rfl))))); apply vL_nil; apply seqP_normal; apply vC_ret)
    (apply ret1; (case h1 => (first | exact norm_eq rfl | ((conv => lhs; whnf) <;> exact rfl))))
    exact ⟨congrArg Value.bool (decide_eq_decide.2 ⟨fun h2 => ⟨h, h', h2⟩, fun h2 => h2.2.2⟩), by (repeat (first | exact Fr.refl _ _ | assumption | with_reducible apply Fr.allocSet | with_reducible apply Fr.alloc | with_reducible apply Fr.drewN | with_reducible apply Fr.drew | ((with_reducible apply Fr.set); rotate_left; (right; ((try simp only [alloc_size]); omega))) | (refine Fr.trans ?_ (by assumption))))⟩
theorem takeD31 (c : CL) (a : RP) (w : World) (hc : ClRd w.heap c) (hs : ClSz c) (hn : ∀ x ∈ c.ws, matchB a x = false) :
    Rets Try.prog 8 #[.agg (clE c).toArray, .agg (rpE a).toArray] w fun u w' => ∃ c', u = .tuple #[.agg (clE c').toArray, .slice none 0 0, .slice none 0 0] ∧ c'.nf = c.nf ∧ ClOwn w'.heap c' ∧ Fr No w w' := by
  have hw0 := c.wv.2
  have hs0 := c.sv.2
  have ha0 := a.rrv.2
  have ha1 := a.mpl.2
  refine rets_of Try.func8 rfl Try.ntmps8 rfl rfl (by kernel_rfl) ?_
  ((apply vC_seq; apply vC_region)); (((iterate 2 (((apply vL_val); (case h => ((apply opw_boxn); exact rfl))))); ((apply vL_val); (case h => (apply opw_alloc))); (iterate 2 (((apply vL_val); (case h => ((apply opv_E); exact rfl))))); apply vL_nil)); with_reducible apply seqP_normal
  ((apply vC_seq; apply vC_region))
  have e3 : (w.alloc (.cells (clE c).toArray 25)).heap.size = w.heap.size + 1 := by simp
  have e4 : ((w.alloc (.cells (clE c).toArray 25)).alloc (.cells (rpE a).toArray 56)).heap.size = w.heap.size + 2 := by simp
  refine vL_gen (fun w' => Fr No w w' ∧ Blk w'.heap w.heap.size (clE c) 25 ∧ Blk w'.heap (w.alloc (.cells (clE c).toArray 25)).heap.size (rpE a) 56 ∧ Blk w'.heap ((w.alloc (.cells (clE c).toArray 25)).alloc (.cells (rpE a).toArray 56)).heap.size clZ 25) ⟨by (repeat (first | exact Fr.refl _ _ | assumption | with_reducible apply Fr.allocSet | with_reducible apply Fr.alloc | with_reducible apply Fr.drewN | with_reducible apply Fr.drew | ((with_reducible apply Fr.set); rotate_left; (right; ((try simp only [alloc_size]); omega))) | (refine Fr.trans ?_ (by assumption)))), inferInstance, inferInstance, inferInstance⟩ ?_
  rintro w1 ⟨hf1, h2, h3, h4⟩
  rw [e3] at h3
  rw [e4] at h4
  rw [e3, e4]
  obtain ⟨b2, eb2⟩ : ∃ b2, b2 = w.heap.size := ⟨_, rfl⟩
  obtain ⟨b3, eb3⟩ : ∃ b3, b3 = w.heap.size + 1 := ⟨_, rfl⟩
  obtain ⟨b4, eb4⟩ : ∃ b4, b4 = w.heap.size + 2 := ⟨_, rfl⟩
  rw [← eb4] at h4 ⊢
  rw [← eb3] at h3 ⊢
  rw [← eb2] at h2 ⊢
  have hsz1 := hf1.size
  have hl4 := h4.lt
  (((apply vL_val); (case h => ((apply opv_fieldAddr); exact rfl))); ((apply vL_val); (case h => ((apply opv_loadb1); exact rfl; exact rfl; (first | assumption | infer_instance); exact rfl))); ((apply vL_val); (case h => ((apply opv_makeFunc); exact rfl))))
  refine vL_callF rfl (indexFunc_wt _ _ (matchB a) c.ws _ 20 [.pointer (some ⟨b3, 0, none⟩)] (hc.1.frN hf1) rfl (fun y w1 hy hf => takec31 y a b3 w1 (h3.frN hf))) rfl ?_
  rintro u5 w2 ⟨hf2, hres⟩
  have h22 := h2.frN hf2
  have h32 := h3.frN hf2
  have h42 := h4.frN hf2
  have hf12 := hf1.trans hf2
  rcases hres with ⟨rfl, _⟩ | ⟨k, rfl, hk, ⟨x, hx, hp⟩, _⟩
  rotate_left
  · rw [hn x (List.mem_of_getElem? hx)] at hp; cases hp
  (((apply vL_val); (case h => ((apply opv_E); exact rfl))); apply vL_nil; apply seqP_normal; apply vC_seq; apply vC_region; ((apply vL_val); (case h => ((apply opv_loadbC); exact rfl; exact rfl; (first | assumption | infer_instance); (first | exact (rfl : _ = [_]) | exact (rfl : _ = [_, _]) | exact (rfl : _ = [_, _, _]) | exact (rfl : _ = [_, _, _, _]) | exact (rfl : _ = [_, _, _, _, _]) | exact (rfl : _ = [_, _, _, _, _, _]) | exact (rfl : _ = [_, _, _, _, _, _, _]) | exact (rfl : _ = [_, _, _, _, _, _, _, _]) | exact (rfl : _ = [_, _, _, _, _, _, _, _, _]) | exact (rfl : _ = [_, _, _, _, _, _, _, _, _, _]) | exact (rfl : _ = [_, _, _, _, _, _, _, _, _, _, _]) | exact (rfl : _ = [_, _, _, _, _, _, _, _, _, _, _, _])); exact rfl))))
  refine vL_callF rfl (clone31 c w2 (hc.frN hf12) hs) rfl ?_
  rintro _ w3 ⟨c1, rfl, hnf, hc3, _, _, hf3⟩
  have hw1 := c1.wv.2
  have hs1 := c1.sv.2
  have h23 := h22.frN hf3
  have h43 := h42.frN hf3
  haveI n42 : NeB b4 b2 := ⟨by omega⟩
  haveI n24 : NeB b2 b4 := ⟨by omega⟩
  (((apply vL_skip); (case h => ((apply ops_storen); (first | exact norm_eq rfl | ((conv => lhs; whnf) <;> exact rfl)); (first | exact norm_eq rfl | ((conv => lhs; whnf) <;> exact rfl)); exact rfl; (first | exact (fun u hu => EncOk.one _ u hu) | (intro u hu; simp at hu; rcases hu with rfl | rfl <;> (first | rfl | assumption)) | (intro u hu; simp at hu; rcases hu with rfl | rfl | rfl <;> (first | rfl | assumption)) | (intro u hu; simp at hu; rcases hu with rfl | rfl | rfl | rfl <;> (first | rfl | assumption)) | exact (fun u hu => EncOk.one _ u (List.mem_of_mem_drop (List.mem_of_mem_take hu))) | (intro u hu; simp only [List.mem_cons, List.not_mem_nil, or_false] at hu; rcases hu with rfl | rfl | rfl | rfl | rfl | rfl | rfl | rfl | rfl | rfl <;> (first | rfl | assumption)) | (intro u hu; simp only [List.mem_cons, List.not_mem_nil, or_false] at hu; rcases hu with rfl | rfl | rfl | rfl | rfl | rfl | rfl | rfl | rfl | rfl | rfl | rfl | rfl | rfl | rfl | rfl | rfl | rfl | rfl | rfl | rfl | rfl | rfl <;> (first | rfl | assumption)) | (intro u hu; simp only [List.mem_cons, List.not_mem_nil, or_false] at hu; rcases hu with rfl | rfl | rfl | rfl | rfl | rfl | rfl | rfl | rfl | rfl | rfl | rfl | rfl | rfl | rfl | rfl | rfl | rfl | rfl | rfl | rfl | rfl | rfl | rfl <;> (first | rfl | assumption)) | (intro u hu; simp only [List.mem_cons, List.not_mem_nil, or_false] at hu; rcases hu with rfl | rfl | rfl | rfl | rfl | rfl | rfl | rfl | rfl | rfl | rfl | rfl | rfl | rfl | rfl | rfl | rfl | rfl | rfl | rfl | rfl | rfl | rfl | rfl | rfl | rfl <;> (first | rfl | assumption))); (first | assumption | infer_instance); (first | decide | exact of_decide_eq_true rfl | (simp; done))))); apply vL_nil; apply seqP_normal; (iterate 2 (apply vC_seq)); apply vC_region; (iterate 3 (((apply vL_val); (case h => ((apply opv_E); exact rfl))))); (iterate 3 (((apply vL_unwanted'); exact rfl; exact rfl))); ((apply vL_val); (case h => ((apply opv_E); exact rfl))); apply vL_nil; apply seqP_normal; ((apply vC_cond_true); exact rfl); apply vC_seq; apply vC_region; ((apply vL_val); (case h => ((apply opv_loadbC); exact rfl; exact rfl; (first | assumption | infer_instance); (first | exact (rfl : _ = [_]) | exact (rfl : _ = [_, _]) | exact (rfl : _ = [_, _, _]) | exact (rfl : _ = [_, _, _, _]) | exact (rfl : _ = [_, _, _, _, _]) | exact (rfl : _ = [_, _, _, _, _, _]) | exact (rfl : _ = [_, _, _, _, _, _, _]) | exact (rfl : _ = [_, _, _, _, _, _, _, _]) | exact (rfl : _ = [_, _, _, _, _, _, _, _, _]) | exact (rfl : _ = [_, _, _, _, _, _, _, _, _, _]) | exact (rfl : _ = [_, _, _, _, _, _, _, _, _, _, _]) | exact (rfl : _ = [_, _, _, _, _, _, _, _, _, _, _, _])); exact rfl))); ((apply vL_skip); (case h => ((apply ops_storen); (first | exact norm_eq rfl | ((conv => lhs; whnf) <;> exact rfl)); (first | exact norm_eq rfl | ((conv => lhs; whnf) <;> exact rfl)); exact rfl; (first | exact (fun u hu => EncOk.one _ u hu) | (intro u hu; simp at hu; rcases hu with rfl | rfl <;> (first | rfl | assumption)) | (intro u hu; simp at hu; rcases hu with rfl | rfl | rfl <;> (first | rfl | assumption)) | (intro u hu; simp at hu; rcases hu with rfl | rfl | rfl | rfl <;> (first | rfl | assumption)) | exact (fun u hu => EncOk.one _ u (List.mem_of_mem_drop (List.mem_of_mem_take hu))) | (intro u hu; simp only [List.mem_cons, List.not_mem_nil, or_false] at hu; rcases hu with rfl | rfl | rfl | rfl | rfl | rfl | rfl | rfl | rfl | rfl <;> (first | rfl | assumption)) | (intro u hu; simp only [List.mem_cons, List.not_mem_nil, or_false] at hu; rcases hu with rfl | rfl | rfl | rfl | rfl | rfl | rfl | rfl | rfl | rfl | rfl | rfl | rfl | rfl | rfl | rfl | rfl | rfl | rfl | rfl | rfl | rfl | rfl <;> (first | rfl | assumption)) | (intro u hu; simp only [List.mem_cons, List.not_mem_nil, or_false] at hu; rcases hu with rfl | rfl | rfl | rfl | rfl | rfl | rfl | rfl | rfl | rfl | rfl | rfl | rfl | rfl | rfl | rfl | rfl | rfl | rfl | rfl | rfl | rfl | rfl | rfl <;> (first | rfl | assumption)) | (intro u hu; simp only [List.mem_cons, List.not_mem_nil, or_false] at hu; rcases hu with rfl | rfl | rfl | rfl | rfl | rfl | rfl | rfl | rfl | rfl | rfl | rfl | rfl | rfl | rfl | rfl | rfl | rfl | rfl | rfl | rfl | rfl | rfl | rfl | rfl | rfl <;> (first | rfl | assumption))); (first | assumption | infer_instance); (first | decide | exact of_decide_eq_true rfl | (simp; done))))); (iterate 2 (((apply vL_val); (case h => ((apply opv_E); exact rfl))))); apply vL_nil; apply seqP_normal; apply vC_ret; apply seqP_ret)
  (apply retC3; (case ha => exact rfl); (case hD => exact rfl); (case hb => (first | assumption | infer_instance)); (case hcs => exact rfl); (case hl => exact rfl); (case hu => (first | exact norm_eq rfl | ((conv => lhs; whnf) <;> exact rfl))); (case hu2 => (first | exact norm_eq rfl | ((conv => lhs; whnf) <;> exact rfl))))
  refine ⟨c1, rfl, hnf, ?_, ((hf12.trans hf3).set _ _ (.inr (by omega))).set _ _ (.inr (by omega))⟩
  have hA := hc3.frBlk h23 ⟨by decide, by decide, by decide⟩ ⟨by decide, by decide⟩ ((Fr.refl (fun k => k = b2) w3).set b2 (clE c1).toArray (.inl rfl))
  exact hA.frBlk (h43.set_ne (show b4 ≠ b2 by omega)) ⟨by decide, by decide, by decide⟩ ⟨by decide, by decide⟩ ((Fr.refl (fun k => k = b4) _).set b4 (clE c1).toArray (.inl rfl))
end Go.Proofs.Ytchfaeaagpemlaa
