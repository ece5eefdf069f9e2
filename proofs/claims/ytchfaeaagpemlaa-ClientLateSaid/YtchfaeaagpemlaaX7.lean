/- Layer 31: Take, where the answer is good.
Layer 31: Take, where a batch of the client's own stands.
Layer 31: what clients hold, step by step. -/
import Derived.Test.YtchfaeaagpemlaaX6
import Derived.Test.YtchfaeaagpemlaaX5
set_option maxRecDepth 100000
namespace Go.Proofs.Ytchfaeaagpemlaa
open Go Go.Eng
theorem takeB31 (c : CL) (x : WT) (a : RP) (w : World) (R : R1 c) (hw : c.ws = [x]) (hm : matchB a x = true) (he : a.err = 0) (hld : 1 ≤ a.leader ∧ a.leader ≤ c.brokers) (hc : ClRd w.heap c) (hs : RqSz x.rq) (hkk : x.rq.k = 4) (hmk : x.rq.mkd = 2) (hpid : 1 ≤ a.mpid ∧ a.mpid ≤ 4611686018427387904) (hep : 0 ≤ a.mep ∧ a.mep ≤ 1073741824) (hrr : a.rrv = nilO) (hpl : a.mpl = nilO) :
    Rets Try.prog 8 #[.agg (clE c).toArray, .agg (rpE a).toArray] w fun u w' => ∃ c' b, u = .tuple #[.agg (clE c').toArray, .slice (some ⟨b, 0, none⟩) 1 1, .slice none 0 0] ∧ ClOwn w'.heap c' ∧ Fr No w w' ∧ c'.nf = ({ c with broker := a.leader, ws := [], pid := a.mpid, ep := a.mep, stale := false, ss := [] } : CL).nf := by
  have hw0 := c.wv.2
  have hs0 := c.sv.2
  have ha0 := a.rrv.2
  have ha1 := a.mpl.2
  refine rets_of Try.func8 rfl Try.ntmps8 rfl rfl (by kernel_rfl) ?_
  ((apply vC_seq; apply vC_region)); (((iterate 2 (((apply vL_val); (case h => ((apply opw_boxn); exact rfl))))); ((apply vL_val); (case h => (apply opw_alloc))); (iterate 2 (((apply vL_val); (case h => ((apply opv_E); exact rfl))))); apply vL_nil)); with_reducible apply seqP_normal
  ((apply vC_seq; apply vC_region))
  have e3 : (w.alloc (.cells (clE c).toArray 25)).heap.size = w.heap.size + 1 := by simp
  have e4 : ((w.alloc (.cells (clE c).toArray 25)).alloc (.cells (rpE a).toArray 56)).heap.size = w.heap.size + 2 := by simp
  refine vL_gen (fun w' => Fr No w w' ∧ Blk w'.heap w.heap.size (clE c) 25 ∧ Blk w'.heap (w.alloc (.cells (clE c).toArray 25)).heap.size (rpE a) 56 ∧ Blk w'.heap ((w.alloc (.cells (clE c).toArray 25)).alloc (.cells (rpE a).toArray 56)).heap.size clZ 25) ⟨by (repeat (first | exact Fr.refl _ _ | assumption | with_reducible apply Fr.allocSet | with_reducible apply Fr.alloc | with_reducible apply Fr.drewN | with_reducible apply Fr.drew | ((with_reducible apply Fr.set); rotate_left; (right; ((try simp only [alloc_size]); omega))) | (refine Fr.trans ?_ (by assumption)))), inferInstance, inferInstance, inferInstance⟩ ?_
  rintro w1 ⟨hf1, h2, h3, h4⟩
  rw [e3] at h3
  rw [e4] at h4
  rw [e3, e4]
  obtain ⟨b2, eb2⟩ : ∃ b2, b2 = w.heap.size := ⟨_, rfl⟩
  obtain ⟨b3, eb3⟩ : ∃ b3, b3 = w.heap.size + 1 := ⟨_, rfl⟩
  obtain ⟨b4, eb4⟩ : ∃ b4, b4 = w.heap.size + 2 := ⟨_, rfl⟩
  rw [← eb4] at h4 ⊢
  rw [← eb3] at h3 ⊢
  rw [← eb2] at h2 ⊢
  have hsz1 := hf1.size
  have hl4 := h4.lt
  (((apply vL_val); (case h => ((apply opv_fieldAddr); exact rfl))); ((apply vL_val); (case h => ((apply opv_loadb1); exact rfl; exact rfl; (first | assumption | infer_instance); exact rfl))); ((apply vL_val); (case h => ((apply opv_makeFunc); exact rfl))))
  refine vL_callF rfl (indexFunc_wt _ _ (matchB a) c.ws _ 20 [.pointer (some ⟨b3, 0, none⟩)] (hc.1.frN hf1) rfl (fun y w1 hy hf => takec31 y a b3 w1 (h3.frN hf))) rfl ?_
  rintro u5 w2 ⟨hf2, hres⟩
  have h22 := h2.frN hf2
  have h32 := h3.frN hf2
  have h42 := h4.frN hf2
  have hf12 := hf1.trans hf2
  rcases hres with ⟨rfl, hno⟩ | ⟨k, rfl, hk, ⟨y, hy, hp⟩, _⟩
  · have := hno x (by rw [hw]; exact List.mem_singleton_self _)
    rw [hm] at this; cases this
  have hk0 : k = 0 := by rw [hw] at hk; have : k < 1 := hk; omega
  subst hk0
  clear hy hp y
  (((apply vL_val); (case h => ((apply opv_E); exact rfl))); apply vL_nil; apply seqP_normal; apply vC_seq; apply vC_region; ((apply vL_val); (case h => ((apply opv_loadbC); exact rfl; exact rfl; (first | assumption | infer_instance); (first | exact (rfl : _ = [_]) | exact (rfl : _ = [_, _]) | exact (rfl : _ = [_, _, _]) | exact (rfl : _ = [_, _, _, _]) | exact (rfl : _ = [_, _, _, _, _]) | exact (rfl : _ = [_, _, _, _, _, _]) | exact (rfl : _ = [_, _, _, _, _, _, _]) | exact (rfl : _ = [_, _, _, _, _, _, _, _]) | exact (rfl : _ = [_, _, _, _, _, _, _, _, _]) | exact (rfl : _ = [_, _, _, _, _, _, _, _, _, _]) | exact (rfl : _ = [_, _, _, _, _, _, _, _, _, _, _]) | exact (rfl : _ = [_, _, _, _, _, _, _, _, _, _, _, _])); exact rfl))))
  refine vL_callF rfl (clone31 c w2 (hc.frN hf12) ⟨by rw [hw]; exact (show 1 ≤ 1000 by decide), by have := R.s1; omega, fun y hy => by rw [hw] at hy; rw [List.mem_singleton.1 hy]; exact hs⟩) rfl ?_
  rintro _ w3 ⟨c1, rfl, hnf, hc3, hfw3, hfs3, hf3⟩
  have hw1 := c1.wv.2
  have hs1 := c1.sv.2
  have h23 := h22.frN hf3
  have h33 := h32.frN hf3
  have h43 := h42.frN hf3
  have hf13 := hf12.trans hf3
  have hsz2 := hf12.size
  ((((apply vL_skip); (case h => ((apply ops_storen); (first | exact norm_eq rfl | ((conv => lhs; whnf) <;> exact rfl)); (first | exact norm_eq rfl | ((conv => lhs; whnf) <;> exact rfl)); exact rfl; (first | exact (fun u hu => EncOk.one _ u hu) | (intro u hu; simp at hu; rcases hu with rfl | rfl <;> (first | rfl | assumption)) | (intro u hu; simp at hu; rcases hu with rfl | rfl | rfl <;> (first | rfl | assumption)) | (intro u hu; simp at hu; rcases hu with rfl | rfl | rfl | rfl <;> (first | rfl | assumption)) | exact (fun u hu => EncOk.one _ u (List.mem_of_mem_drop (List.mem_of_mem_take hu))) | (intro u hu; simp only [List.mem_cons, List.not_mem_nil, or_false] at hu; rcases hu with rfl | rfl | rfl | rfl | rfl | rfl | rfl | rfl | rfl | rfl <;> (first | rfl | assumption)) | (intro u hu; simp only [List.mem_cons, List.not_mem_nil, or_false] at hu; rcases hu with rfl | rfl | rfl | rfl | rfl | rfl | rfl | rfl | rfl | rfl | rfl | rfl | rfl | rfl | rfl | rfl | rfl | rfl | rfl | rfl | rfl | rfl | rfl <;> (first | rfl | assumption)) | (intro u hu; simp only [List.mem_cons, List.not_mem_nil, or_false] at hu; rcases hu with rfl | rfl | rfl | rfl | rfl | rfl | rfl | rfl | rfl | rfl | rfl | rfl | rfl | rfl | rfl | rfl | rfl | rfl | rfl | rfl | rfl | rfl | rfl | rfl <;> (first | rfl | assumption)) | (intro u hu; simp only [List.mem_cons, List.not_mem_nil, or_false] at hu; rcases hu with rfl | rfl | rfl | rfl | rfl | rfl | rfl | rfl | rfl | rfl | rfl | rfl | rfl | rfl | rfl | rfl | rfl | rfl | rfl | rfl | rfl | rfl | rfl | rfl | rfl | rfl <;> (first | rfl | assumption))); (first | assumption | infer_instance); (first | decide | exact of_decide_eq_true rfl | (simp; done))))); apply vL_nil)); with_reducible apply seqP_normal
  (((iterate 2 (apply vC_seq)); apply vC_region))
  refine vL_gen (fun w' => Fr No w w' ∧ Blk w'.heap b2 (clE c1) 25 ∧ Blk w'.heap b3 (rpE a) 56 ∧ Blk w'.heap b4 clZ 25 ∧ ClOwn w'.heap c1) ⟨hf13.set _ _ (.inr (by omega)), Blk.as (Blk.set h23) rfl, h33.set_ne (by omega), h43.set_ne (by omega), hc3.frBlk h23 ⟨by decide, by decide, by decide⟩ ⟨by decide, by decide⟩ ((Fr.refl (fun k => k = b2) w3).set _ _ (.inl rfl))⟩ ?_
  rintro w4 ⟨hf4, h24, h34, h44, hc4⟩
  have hfwz : ∀ b, own c1.wv.1 = some b → w.heap.size + 3 ≤ b := fun b hb => by have := hfw3 b hb; have := hf2.size; omega
  have hfsz : ∀ b, own c1.sv.1 = some b → w.heap.size + 3 ≤ b := fun b hb => by have := hfs3 b hb; have := hf2.size; omega
  clear h22 h32 h42 h23 h33 h43 hc3 hfw3 hfs3 hf3 hf13 hf12 h2 h3 h4
  have R' := R1.nf hnf R
  have hnw : c1.now = c.now := by have := congrArg CL.now hnf; exact this
  have hbk : c1.brokers = c.brokers := by have := congrArg CL.brokers hnf; exact this
  obtain ⟨x1, hx1, hx1n⟩ : ∃ x1, c1.ws = [x1] ∧ x1.nf = x.nf := by
    have h1 : c1.ws.map WT.nf = c.ws.map WT.nf := by have := congrArg CL.ws hnf; exact this
    rw [hw] at h1
    obtain ⟨y, hy, e⟩ := List.map_eq_singleton_iff.1 h1
    exact ⟨y, hy, e⟩
  have hn0 := R.now
  ((iterate 3 (((apply vL_val); (case h => ((apply opv_E); exact rfl))))); ((apply vL_wanted); exact rfl); ((apply vL_val); (case h => ((apply opv_loadbC); exact rfl; exact rfl; (first | assumption | infer_instance); (first | exact (rfl : _ = [_]) | exact (rfl : _ = [_, _]) | exact (rfl : _ = [_, _, _]) | exact (rfl : _ = [_, _, _, _]) | exact (rfl : _ = [_, _, _, _, _]) | exact (rfl : _ = [_, _, _, _, _, _]) | exact (rfl : _ = [_, _, _, _, _, _, _]) | exact (rfl : _ = [_, _, _, _, _, _, _, _]) | exact (rfl : _ = [_, _, _, _, _, _, _, _, _]) | exact (rfl : _ = [_, _, _, _, _, _, _, _, _, _]) | exact (rfl : _ = [_, _, _, _, _, _, _, _, _, _, _]) | exact (rfl : _ = [_, _, _, _, _, _, _, _, _, _, _, _])); exact rfl))); ((apply vL_wanted); exact rfl))
  refine vL_callF rfl (right31 c1 w4 hc4.rd R') rfl ?_
  rintro _ w5 ⟨rfl, hf5⟩
  have h25 := h24.frN hf5
  have h35 := h34.frN hf5
  have h45 := h44.frN hf5
  have hc5 := hc4.frN hf5
  have hfw5 := hf4.trans hf5
  have hcw5 := hc5.1
  rw [hx1] at hcw5
  have hxi : ([x1] : List WT)[((0 : Nat) : Int).toNat]? = some x1 := rfl
  have hxl : (((0 : Nat) : Int)) < (([x1] : List WT).length : Int) := Int.zero_lt_one
  clear h24 h34 h44 hc4 hf4 hf5
  haveI n23 : NeB b2 b3 := ⟨by omega⟩
  haveI n24 : NeB b2 b4 := ⟨by omega⟩
  haveI n34 : NeB b3 b4 := ⟨by omega⟩
  haveI n42 : NeB b4 b2 := ⟨by omega⟩
  haveI n32 : NeB b3 b2 := ⟨by omega⟩
  haveI n43 : NeB b4 b3 := ⟨by omega⟩
  haveI hoff : OffB c1.wv.1 b2 := ⟨Own.ne_blk hcw5 h25 (by decide)⟩
  have hbv1 := x1.rq.brv.2
  have htv1 := x1.rq.trv.2
  (((apply vL_wanted); exact rfl); ((apply vL_val); (case h => ((apply opv_not); exact rfl))); ((apply vL_val); (case h => ((apply opv_E); exact rfl))); apply vL_nil; apply seqP_normal; ((apply vC_cond_false); exact rfl); apply vC_skip; apply seqP_normal; apply vC_seq; apply vC_region; ((apply vL_val); (case h => ((apply opv_fieldAddr); exact rfl))); ((apply vL_val); (case h => ((apply opv_loadb1); exact rfl; exact rfl; (first | assumption | infer_instance); exact rfl))); (iterate 2 (((apply vL_val); (case h => ((apply opv_E); exact rfl))))); (refine vL_and rfl rfl (fun _ => ?_) (fun h => by omega)); ((apply vL_val); (case h => ((apply opv_fieldAddr); exact rfl))); ((apply vL_wanted); exact rfl); ((apply vL_val); (case h => ((apply opv_loadb1); exact rfl; exact rfl; (first | assumption | infer_instance); exact rfl))); ((apply vL_wanted); exact rfl); ((apply vL_val); (case h => ((apply opv_fieldAddr); exact rfl))); ((apply vL_wanted); exact rfl); ((apply vL_val); (case h => ((apply opv_loadb1); exact rfl; exact rfl; (first | assumption | infer_instance); exact rfl))); ((apply vL_wanted); exact rfl); (iterate 3 (((apply vL_val); (case h => ((apply opv_E); exact rfl))))); apply vL_nil; apply seqP_normal; (iterate 2 (apply vC_seq)); apply vC_region; ((apply vL_val); (case h => ((apply opv_E); exact rfl))); apply vL_nil; apply seqP_normal; (refine vC_cond_dec rfl (fun _ => ?_) (fun h => by omega)); apply vC_region; ((apply vL_val); (case h => ((apply opv_fieldAddr); exact rfl))); ((apply vL_val); (case h => ((apply opv_loadb1); exact rfl; exact rfl; (first | assumption | infer_instance); exact rfl))); ((apply vL_val); (case h => ((apply opv_fieldAddr); exact rfl))); ((apply vL_skip); (case h => ((apply ops_store1); (first | exact norm_eq rfl | ((conv => lhs; whnf) <;> exact rfl)); (first | exact norm_eq rfl | ((conv => lhs; whnf) <;> exact rfl)); (first | rfl | assumption); (first | assumption | infer_instance); (first | decide | exact of_decide_eq_true rfl | (simp; done))))); apply vL_nil; apply seqP_normal; (iterate 2 (apply vC_seq)); apply vC_region; ((apply vL_val); (case h => ((apply opv_fieldAddr); exact rfl))); ((apply vL_val); (case h => ((apply opv_loadb1); exact rfl; exact rfl; (first | assumption | infer_instance); exact rfl))); ((apply vL_val); (case h => ((apply opv_E); exact rfl))); apply vL_nil; apply seqP_normal; (refine vC_cond_dec rfl (fun h => by omega) (fun _ => ?_)); apply vC_skip; apply seqP_normal; apply vC_seq; apply vC_region; ((apply vL_val); (case h => ((apply opv_fieldAddr); exact rfl))); ((apply vL_val); (case h => ((apply opv_loadb1); exact rfl; exact rfl; (first | assumption | infer_instance); exact rfl))); ((apply vL_val); (case h => ((apply opv_E); exact rfl))); ((apply vL_val); (case h => ((apply opv_indexAddr); (first | exact norm_eq rfl | ((conv => lhs; whnf) <;> exact rfl)); exact rfl; (first | assumption | infer_instance); (first | omega | (simp only [List.length_map]; omega)); (first | omega | (simp only [List.length_map]; omega))))); ((apply vL_val); (case h => ((apply opv_fieldAddr); exact rfl))))
  refine vL_gen (fun w' => Fr No w w' ∧ Blk w'.heap b2 (clE { c1 with broker := a.leader }) 25 ∧ Blk w'.heap b3 (rpE a) 56 ∧ Blk w'.heap b4 clZ 25 ∧ ClOwn w'.heap c1) ⟨hfw5.set _ _ (.inr (by omega)), Blk.as (Blk.set h25) rfl, h35.set_ne (by omega), h45.set_ne (by omega), hc5.frBlk h25 ⟨by decide, by decide, by decide⟩ ⟨by decide, by decide⟩ ((Fr.refl (fun k => k = b2) w5).set _ _ (.inl rfl))⟩ ?_
  rintro w6 ⟨hf6, h26, h36, h46, hc6⟩
  clear h25 h35 h45 hc5 hfw5 hcw5 hoff
  have ho6 := hc6.1
  rw [hx1] at ho6
  have hq6 : RqOwn w6.heap x1.rq := hc6.2.1 x1 (by rw [hx1]; exact List.mem_singleton_self _)
  have hs6 := hc6.2.2
  refine vL_val (opv_ld_elS (enc := wtE) (x0 := x1) (cs := rqE x1.rq) rfl rfl ho6.rd hxi rfl rfl) ?_
  ((((apply vL_val); (case h => (apply opw_alloc))); ((apply vL_skip); (case h => ((apply ops_storen); (first | exact norm_eq rfl | ((conv => lhs; whnf) <;> exact rfl)); (first | exact norm_eq rfl | ((conv => lhs; whnf) <;> exact rfl)); exact rfl; (first | exact (fun u hu => EncOk.one _ u hu) | (intro u hu; simp at hu; rcases hu with rfl | rfl <;> (first | rfl | assumption)) | (intro u hu; simp at hu; rcases hu with rfl | rfl | rfl <;> (first | rfl | assumption)) | (intro u hu; simp at hu; rcases hu with rfl | rfl | rfl | rfl <;> (first | rfl | assumption)) | exact (fun u hu => EncOk.one _ u (List.mem_of_mem_drop (List.mem_of_mem_take hu))) | (intro u hu; simp only [List.mem_cons, List.not_mem_nil, or_false] at hu; rcases hu with rfl | rfl | rfl | rfl | rfl | rfl | rfl | rfl | rfl | rfl <;> (first | rfl | assumption)) | (intro u hu; simp only [List.mem_cons, List.not_mem_nil, or_false] at hu; rcases hu with rfl | rfl | rfl | rfl | rfl | rfl | rfl | rfl | rfl | rfl | rfl | rfl | rfl | rfl | rfl | rfl | rfl | rfl | rfl | rfl | rfl | rfl | rfl <;> (first | rfl | assumption)) | (intro u hu; simp only [List.mem_cons, List.not_mem_nil, or_false] at hu; rcases hu with rfl | rfl | rfl | rfl | rfl | rfl | rfl | rfl | rfl | rfl | rfl | rfl | rfl | rfl | rfl | rfl | rfl | rfl | rfl | rfl | rfl | rfl | rfl | rfl <;> (first | rfl | assumption)) | (intro u hu; simp only [List.mem_cons, List.not_mem_nil, or_false] at hu; rcases hu with rfl | rfl | rfl | rfl | rfl | rfl | rfl | rfl | rfl | rfl | rfl | rfl | rfl | rfl | rfl | rfl | rfl | rfl | rfl | rfl | rfl | rfl | rfl | rfl | rfl | rfl <;> (first | rfl | assumption))); (first | assumption | infer_instance); (first | decide | exact of_decide_eq_true rfl | (simp; done))))); apply vL_nil)); with_reducible apply seqP_normal
  ((apply vC_seq; apply vC_region))
  refine vL_gen (fun w' => Fr No w6 w' ∧ w6.heap.size < w'.heap.size ∧ Blk w'.heap w6.heap.size (rqE x1.rq) 40) ⟨by (repeat (first | exact Fr.refl _ _ | assumption | with_reducible apply Fr.allocSet | with_reducible apply Fr.alloc | with_reducible apply Fr.drewN | with_reducible apply Fr.drew | ((with_reducible apply Fr.set); rotate_left; (right; ((try simp only [alloc_size]); omega))) | (refine Fr.trans ?_ (by assumption)))), by simp, Blk.as inferInstance rfl⟩ ?_
  rintro w7 ⟨hf7, hz7, h97⟩
  have h27 := h26.frN hf7
  have h37 := h36.frN hf7
  have h47 := h46.frN hf7
  have ho7 := ho6.frN hf7
  have hq7 := hq6.frN hf7
  have hs7 := hs6.frN hf7
  have hfw7 := hf6.trans hf7
  have hb69 : b4 < w6.heap.size := h46.lt
  obtain ⟨b9, eb9⟩ : ∃ b9, b9 = w6.heap.size := ⟨_, rfl⟩
  rw [← eb9] at h97 ⊢
  clear h26 h36 h46 hc6 hq6 hs6 hf6 ho6 hf7
  (((apply vL_val); (case h => ((apply opv_fieldAddr); exact rfl))); ((apply vL_val); (case h => ((apply opv_loadb1); exact rfl; exact rfl; (first | assumption | infer_instance); exact rfl))); (iterate 2 (((apply vL_val); (case h => ((apply opv_E); exact rfl))))); ((apply vL_val); (case h => ((apply opv_add); exact rfl; exact rfl; (first | omega | (simp only [List.length_map]; omega))))))
  refine vL_callF rfl (deleteN_wt c1.wv.1 [x1] 0 w7 (Nat.zero_lt_one : 0 < 1) ho7) rfl ?_
  rintro wv2 w8 ⟨hf8, ho8, hov8, hone8⟩
  have h28 := h27.fr hf8 (fun h => Own.ne_blk ho7 h27 (by decide) h)
  have h38 := h37.fr hf8 (fun h => Own.ne_blk ho7 h37 (by decide) h)
  have h48 := h47.fr hf8 (fun h => Own.ne_blk ho7 h47 (by decide) h)
  have h98 := h97.fr hf8 (fun h => Own.ne_blk ho7 h97 (by decide) h)
  have hq8 := hq7.frOwn ho7 (by decide) (by decide) (by decide) hf8
  have hs8 := hs7.fr hf8 (fun b hb h => Own.ne_own hs7 ho7 (by decide) b hb h)
  have hfw8 : Fr No w w8 := hfw7.trans' hf8 (fun k hk => .inr (by have := hfwz k hk; omega))
  replace ho8 : Own w8.heap 42 26 wtE wv2 [] := ho8
  clear h27 h37 h47 hq7 hs7 hfw7 ho7 hf8 h97
  haveI n29 : NeB b2 b9 := ⟨by omega⟩
  haveI n92 : NeB b9 b2 := ⟨by omega⟩
  haveI n39 : NeB b3 b9 := ⟨by omega⟩
  haveI n93 : NeB b9 b3 := ⟨by omega⟩
  haveI n49 : NeB b4 b9 := ⟨by omega⟩
  haveI n94 : NeB b9 b4 := ⟨by omega⟩
  ((((apply vL_val); (case h => ((apply opv_fieldAddr); exact rfl))); ((apply vL_skip); (case h => ((apply ops_store1); (first | exact norm_eq rfl | ((conv => lhs; whnf) <;> exact rfl)); (first | exact norm_eq rfl | ((conv => lhs; whnf) <;> exact rfl)); (first | rfl | assumption); (first | assumption | infer_instance); (first | decide | exact of_decide_eq_true rfl | (simp; done))))); apply vL_nil)); with_reducible apply seqP_normal
  ((apply vC_seq; apply vC_block; apply vC_seq; apply vC_region))
  obtain ⟨c2, ec2⟩ : ∃ c2 : CL, c2 = { c1 with broker := a.leader, wv := ⟨wv2, hone8⟩, ws := [] } := ⟨_, rfl⟩
  refine vL_gen (fun w' => Fr No w w' ∧ Blk w'.heap b2 (clE c2) 25 ∧ Blk w'.heap b3 (rpE a) 56 ∧ Blk w'.heap b4 clZ 25 ∧ Blk w'.heap b9 (rqE x1.rq) 40 ∧ ClOwn w'.heap c2 ∧ RqOwn w'.heap x1.rq) ⟨hfw8.set _ _ (.inr (by omega)), Blk.as (Blk.set h28) (by rw [ec2]; rfl), h38.set_ne (by omega), h48.set_ne (by omega), h98.set_ne (by have := h28.lt; omega), (by rw [ec2]; exact ⟨ho8.set (Own.ne_blk ho8 h28 (by decide)), fun y hy => (by cases hy), hs8.set (Own.ne_blk hs8 h28 (by decide))⟩), hq8.frBlk h28 (by decide) (by decide) (by decide) ((Fr.refl (fun k => k = b2) w8).set _ _ (.inl rfl))⟩ ?_
  rintro w9 ⟨hf9, h29, h39, h49, h99, hc9, hq9⟩
  clear h28 h38 h48 h98 hq8 hs8 hfw8 ho8
  have hk1 : x1.rq.nf = x.rq.nf := by have := congrArg WT.rq hx1n; exact this
  have hw2 := c2.wv.2
  have hs2 := c2.sv.2
  have hov2 : ∀ b, own c2.wv.1 = some b → w.heap.size + 3 ≤ b := by rw [ec2]; intro b hb; exact hfwz b (hov8 ▸ hb)
  have hos2 : ∀ b, own c2.sv.1 = some b → w.heap.size + 3 ≤ b := by rw [ec2]; exact hfsz
  have hkk1 : x1.rq.k = 4 := by rw [← hkk]; have := congrArg RQ.k hk1; exact this
  have hmk1 : x1.rq.mkd = 2 := by rw [← hmk]; have := congrArg RQ.mkd hk1; exact this
  have hown : ownB c2 x1.rq = false := by unfold ownB; rw [decide_eq_false (by omega)]; rfl
  (((apply vL_val); (case h => ((apply opv_loadbC); exact rfl; exact rfl; (first | assumption | infer_instance); (first | exact (rfl : _ = [_]) | exact (rfl : _ = [_, _]) | exact (rfl : _ = [_, _, _]) | exact (rfl : _ = [_, _, _, _]) | exact (rfl : _ = [_, _, _, _, _]) | exact (rfl : _ = [_, _, _, _, _, _]) | exact (rfl : _ = [_, _, _, _, _, _, _]) | exact (rfl : _ = [_, _, _, _, _, _, _, _]) | exact (rfl : _ = [_, _, _, _, _, _, _, _, _]) | exact (rfl : _ = [_, _, _, _, _, _, _, _, _, _]) | exact (rfl : _ = [_, _, _, _, _, _, _, _, _, _, _]) | exact (rfl : _ = [_, _, _, _, _, _, _, _, _, _, _, _])); exact rfl))); ((apply vL_val); (case h => ((apply opv_loadb); exact rfl; exact rfl; (first | assumption | infer_instance); exact rfl))))
  refine vL_callF rfl (own31 c2 x1.rq w9) rfl ?_
  rintro _ w10 ⟨rfl, hf10⟩
  rw [hown]
  have h2x := h29.frN hf10
  have h3x := h39.frN hf10
  have h9x := h99.frN hf10
  (((apply vL_val); (case h => ((apply opv_E); exact rfl))); (iterate 3 (((apply vL_unwanted'); exact rfl; exact rfl))); (iterate 2 (((apply vL_val); (case h => ((apply opv_E); exact rfl))))); apply vL_nil; apply seqP_normal; ((apply vC_cond_false); exact rfl); apply vC_seq; apply vC_region; ((apply vL_val); (case h => ((apply opv_loadbC); exact rfl; exact rfl; (first | assumption | infer_instance); (first | exact (rfl : _ = [_]) | exact (rfl : _ = [_, _]) | exact (rfl : _ = [_, _, _]) | exact (rfl : _ = [_, _, _, _]) | exact (rfl : _ = [_, _, _, _, _]) | exact (rfl : _ = [_, _, _, _, _, _]) | exact (rfl : _ = [_, _, _, _, _, _, _]) | exact (rfl : _ = [_, _, _, _, _, _, _, _]) | exact (rfl : _ = [_, _, _, _, _, _, _, _, _]) | exact (rfl : _ = [_, _, _, _, _, _, _, _, _, _]) | exact (rfl : _ = [_, _, _, _, _, _, _, _, _, _, _]) | exact (rfl : _ = [_, _, _, _, _, _, _, _, _, _, _, _])); exact rfl))); ((apply vL_val); (case h => ((apply opv_loadb); exact rfl; exact rfl; (first | assumption | infer_instance); exact rfl))))
  refine vL_callF rfl (own31 c2 x1.rq w10) rfl ?_
  rintro _ w11 ⟨rfl, hf11⟩
  rw [hown]
  have hf911 := hf10.trans hf11
  have h2b := h29.frN hf911
  have h3b := h39.frN hf911
  have h4b := h49.frN hf911
  have h9b := h99.frN hf911
  have hcb := hc9.frN hf911
  have hqb := hq9.frN hf911
  have hfwb := hf9.trans hf911
  clear h29 h39 h49 h99 hc9 hq9 hf9 h2x h3x h9x hf10 hf11 hf911
  (((apply vL_val); (case h => ((apply opv_E); exact rfl))); (iterate 3 (((apply vL_unwanted'); exact rfl; exact rfl))); (iterate 2 (((apply vL_val); (case h => ((apply opv_E); exact rfl))))); apply vL_nil; apply seqP_normal; ((apply vC_cond_false); exact rfl); apply vC_seq; apply vC_region; ((apply vL_val); (case h => ((apply opv_fieldAddr); exact rfl))); ((apply vL_val); (case h => ((apply opv_loadb1); exact rfl; exact rfl; (first | assumption | infer_instance); exact rfl))); (iterate 2 (((apply vL_val); (case h => ((apply opv_E); exact rfl))))); (refine vL_and rfl rfl (fun _ => ?_) (fun h => by omega)); ((apply vL_val); (case h => ((apply opv_fieldAddr); exact rfl))); ((apply vL_wanted); exact rfl); ((apply vL_val); (case h => ((apply opv_fieldAddr); exact rfl))); ((apply vL_wanted); exact rfl); ((apply vL_val); (case h => ((apply opv_loadb1); exact rfl; exact rfl; (first | assumption | infer_instance); exact rfl))); ((apply vL_wanted); exact rfl); (iterate 3 (((apply vL_val); (case h => ((apply opv_E); exact rfl))))); (refine vL_and rfl rfl (fun _ => ?_) (fun h => by omega)); ((apply vL_val); (case h => ((apply opv_fieldAddr); exact rfl))); ((apply vL_wanted); exact rfl); ((apply vL_val); (case h => ((apply opv_loadb1); exact rfl; exact rfl; (first | assumption | infer_instance); exact rfl))); ((apply vL_wanted); exact rfl); (iterate 3 (((apply vL_val); (case h => ((apply opv_E); exact rfl))))); apply vL_nil; apply seqP_normal; (refine vC_cond_dec rfl (fun _ => ?_) (fun h => by omega)); apply vC_seq; apply vC_region; (iterate 2 (((apply vL_val); (case h => ((apply opv_fieldAddr); exact rfl))))); ((apply vL_val); (case h => ((apply opv_loadb1); exact rfl; exact rfl; (first | assumption | infer_instance); exact rfl))); (iterate 2 (((apply vL_val); (case h => ((apply opv_E); exact rfl))))); (refine vL_and rfl rfl (fun _ => ?_) (fun h => by omega)); ((apply vL_val); (case h => ((apply opv_fieldAddr); exact rfl))); ((apply vL_wanted); exact rfl); ((apply vL_val); (case h => ((apply opv_fieldAddr); exact rfl))); ((apply vL_wanted); exact rfl); ((apply vL_val); (case h => ((apply opv_loadb1); exact rfl; exact rfl; (first | assumption | infer_instance); exact rfl))); ((apply vL_wanted); exact rfl); (iterate 3 (((apply vL_val); (case h => ((apply opv_E); exact rfl))))); (refine vL_and rfl rfl (fun _ => ?_) (fun h => by omega)); ((apply vL_val); (case h => ((apply opv_fieldAddr); exact rfl))); ((apply vL_wanted); exact rfl); ((apply vL_val); (case h => ((apply opv_fieldAddr); exact rfl))); ((apply vL_wanted); exact rfl); ((apply vL_val); (case h => ((apply opv_loadb1); exact rfl; exact rfl; (first | assumption | infer_instance); exact rfl))); ((apply vL_wanted); exact rfl); (iterate 3 (((apply vL_val); (case h => ((apply opv_E); exact rfl))))); (refine vL_and rfl rfl (fun _ => ?_) (fun h => by omega)); ((apply vL_val); (case h => ((apply opv_fieldAddr); exact rfl))); ((apply vL_wanted); exact rfl); ((apply vL_val); (case h => ((apply opv_fieldAddr); exact rfl))); ((apply vL_wanted); exact rfl); ((apply vL_val); (case h => ((apply opv_loadb1); exact rfl; exact rfl; (first | assumption | infer_instance); exact rfl))); ((apply vL_wanted); exact rfl); (iterate 2 (((apply vL_val); (case h => ((apply opv_E); exact rfl))))); apply vL_nil; apply seqP_normal; (refine vC_cond_dec rfl (fun _ => ?_) (fun h => by omega)))
  have h2bd := h2b.frN (Fr.refl No w11).drew
  have h3bd := h3b.frN (Fr.refl No w11).drew
  refine vC_draw' ((fun wf => Blk wf.heap b3 (rpE a) 56)) (by (first | exact trivial | assumption | infer_instance | ((repeat (first | exact Fr.refl _ _ | assumption | with_reducible apply Fr.allocSet | with_reducible apply Fr.alloc | with_reducible apply Fr.drewN | with_reducible apply Fr.drew | ((with_reducible apply Fr.set); rotate_left; (right; ((try simp only [alloc_size]); omega))) | (refine Fr.trans ?_ (by assumption)))); done))) ?_
  ((apply (tk 0)); (case hi => exact rfl); (case hf => kernel_rfl); (case hS => (first | exact trivial | assumption | infer_instance | ((repeat (first | exact Fr.refl _ _ | assumption | with_reducible apply Fr.allocSet | with_reducible apply Fr.alloc | with_reducible apply Fr.drewN | with_reducible apply Fr.drew | ((with_reducible apply Fr.set); rotate_left; (right; ((try simp only [alloc_size]); omega))) | (refine Fr.trans ?_ (by assumption)))); done))); (case hy => (intro wf hwf; (try dsimp only at hwf); (((apply opv_fieldAddr); exact rfl)))))
  ((apply (tk 1)); (case hi => exact rfl); (case hf => kernel_rfl); (case hS => (first | exact trivial | assumption | infer_instance | ((repeat (first | exact Fr.refl _ _ | assumption | with_reducible apply Fr.allocSet | with_reducible apply Fr.alloc | with_reducible apply Fr.drewN | with_reducible apply Fr.drew | ((with_reducible apply Fr.set); rotate_left; (right; ((try simp only [alloc_size]); omega))) | (refine Fr.trans ?_ (by assumption)))); done))); (case hy => (intro wf hwf; (try dsimp only at hwf); (((apply opv_fieldAddr); exact rfl)))))
  ((apply (tk 2)); (case hi => exact rfl); (case hf => kernel_rfl); (case hS => (first | exact trivial | assumption | infer_instance | ((repeat (first | exact Fr.refl _ _ | assumption | with_reducible apply Fr.allocSet | with_reducible apply Fr.alloc | with_reducible apply Fr.drewN | with_reducible apply Fr.drew | ((with_reducible apply Fr.set); rotate_left; (right; ((try simp only [alloc_size]); omega))) | (refine Fr.trans ?_ (by assumption)))); done))); (case hy => (intro wf hwf; (try dsimp only at hwf); (((apply opv_loadb1); exact rfl; exact rfl; (first | assumption | infer_instance); exact rfl)))))
  ((apply (tk 3)); (case hi => exact rfl); (case hf => kernel_rfl); (case hS => (first | exact trivial | assumption | infer_instance | ((repeat (first | exact Fr.refl _ _ | assumption | with_reducible apply Fr.allocSet | with_reducible apply Fr.alloc | with_reducible apply Fr.drewN | with_reducible apply Fr.drew | ((with_reducible apply Fr.set); rotate_left; (right; ((try simp only [alloc_size]); omega))) | (refine Fr.trans ?_ (by assumption)))); done))); (case hy => (intro wf hwf; (try dsimp only at hwf); (((apply opv_fieldAddr); exact rfl)))))
  ((apply (tk 4)); (case hi => exact rfl); (case hf => kernel_rfl); (case hS => (first | exact trivial | assumption | infer_instance | ((repeat (first | exact Fr.refl _ _ | assumption | with_reducible apply Fr.allocSet | with_reducible apply Fr.alloc | with_reducible apply Fr.drewN | with_reducible apply Fr.drew | ((with_reducible apply Fr.set); rotate_left; (right; ((try simp only [alloc_size]); omega))) | (refine Fr.trans ?_ (by assumption)))); done))); (case hy => (intro wf hwf; (try dsimp only at hwf); (((apply opv_fieldAddr); exact rfl)))))
  ((apply (tk 5)); (case hi => exact rfl); (case hf => kernel_rfl); (case hS => (first | exact trivial | assumption | infer_instance | ((repeat (first | exact Fr.refl _ _ | assumption | with_reducible apply Fr.allocSet | with_reducible apply Fr.alloc | with_reducible apply Fr.drewN | with_reducible apply Fr.drew | ((with_reducible apply Fr.set); rotate_left; (right; ((try simp only [alloc_size]); omega))) | (refine Fr.trans ?_ (by assumption)))); done))); (case hy => (intro wf hwf; (try dsimp only at hwf); (((apply opv_loadb1); exact rfl; exact rfl; (first | assumption | infer_instance); exact rfl)))))
  ((apply (tk 6)); (case hi => exact rfl); (case hf => kernel_rfl); (case hS => (first | exact trivial | assumption | infer_instance | ((repeat (first | exact Fr.refl _ _ | assumption | with_reducible apply Fr.allocSet | with_reducible apply Fr.alloc | with_reducible apply Fr.drewN | with_reducible apply Fr.drew | ((with_reducible apply Fr.set); rotate_left; (right; ((try simp only [alloc_size]); omega))) | (refine Fr.trans ?_ (by assumption)))); done))); (case hy => (intro wf hwf; (try dsimp only at hwf); (((apply opv_fieldAddr); exact rfl)))))
  refine vA_only 7 rfl (by kernel_rfl) (by (first | exact trivial | assumption | infer_instance | ((repeat (first | exact Fr.refl _ _ | assumption | with_reducible apply Fr.allocSet | with_reducible apply Fr.alloc | with_reducible apply Fr.drewN | with_reducible apply Fr.drew | ((with_reducible apply Fr.set); rotate_left; (right; ((try simp only [alloc_size]); omega))) | (refine Fr.trans ?_ (by assumption)))); done))) (fun K hK => ?_)
  (((apply vL_skip); (case h => ((apply ops_store1); (first | exact norm_eq rfl | ((conv => lhs; whnf) <;> exact rfl)); (first | exact norm_eq rfl | ((conv => lhs; whnf) <;> exact rfl)); (first | rfl | assumption); (first | assumption | infer_instance); (first | decide | exact of_decide_eq_true rfl | (simp; done))))); apply vL_nil)
  refine ⟨rfl, hK _ _ ?_⟩
  ((apply (tk 8)); (case hi => exact rfl); (case hf => kernel_rfl); (case hS => (first | exact trivial | assumption | infer_instance | ((repeat (first | exact Fr.refl _ _ | assumption | with_reducible apply Fr.allocSet | with_reducible apply Fr.alloc | with_reducible apply Fr.drewN | with_reducible apply Fr.drew | ((with_reducible apply Fr.set); rotate_left; (right; ((try simp only [alloc_size]); omega))) | (refine Fr.trans ?_ (by assumption)))); done))); (case hy => (intro wf hwf; (try dsimp only at hwf); (((apply opv_fieldAddr); exact rfl)))))
  refine vA_only 9 rfl (by kernel_rfl) (by (first | exact trivial | assumption | infer_instance | ((repeat (first | exact Fr.refl _ _ | assumption | with_reducible apply Fr.allocSet | with_reducible apply Fr.alloc | with_reducible apply Fr.drewN | with_reducible apply Fr.drew | ((with_reducible apply Fr.set); rotate_left; (right; ((try simp only [alloc_size]); omega))) | (refine Fr.trans ?_ (by assumption)))); done))) (fun K hK => ?_)
  (((apply vL_skip); (case h => ((apply ops_store1); (first | exact norm_eq rfl | ((conv => lhs; whnf) <;> exact rfl)); (first | exact norm_eq rfl | ((conv => lhs; whnf) <;> exact rfl)); (first | rfl | assumption); (first | assumption | infer_instance); (first | decide | exact of_decide_eq_true rfl | (simp; done))))); apply vL_nil)
  refine ⟨rfl, hK _ _ ?_⟩
  ((apply (tk 10)); (case hi => exact rfl); (case hf => kernel_rfl); (case hS => (first | exact trivial | assumption | infer_instance | ((repeat (first | exact Fr.refl _ _ | assumption | with_reducible apply Fr.allocSet | with_reducible apply Fr.alloc | with_reducible apply Fr.drewN | with_reducible apply Fr.drew | ((with_reducible apply Fr.set); rotate_left; (right; ((try simp only [alloc_size]); omega))) | (refine Fr.trans ?_ (by assumption)))); done))); (case hy => (intro wf hwf; (try dsimp only at hwf); (((apply opv_fieldAddr); exact rfl)))))
  refine vA_only 11 rfl (by kernel_rfl) (by (first | exact trivial | assumption | infer_instance | ((repeat (first | exact Fr.refl _ _ | assumption | with_reducible apply Fr.allocSet | with_reducible apply Fr.alloc | with_reducible apply Fr.drewN | with_reducible apply Fr.drew | ((with_reducible apply Fr.set); rotate_left; (right; ((try simp only [alloc_size]); omega))) | (refine Fr.trans ?_ (by assumption)))); done))) (fun K hK => ?_)
  (((apply vL_skip); (case h => ((apply ops_store1); (first | exact norm_eq rfl | ((conv => lhs; whnf) <;> exact rfl)); (first | exact norm_eq rfl | ((conv => lhs; whnf) <;> exact rfl)); (first | rfl | assumption); (first | assumption | infer_instance); (first | decide | exact of_decide_eq_true rfl | (simp; done))))); apply vL_nil)
  refine ⟨rfl, hK _ _ ?_⟩
  ((apply (tk 12)); (case hi => exact rfl); (case hf => kernel_rfl); (case hS => (first | exact trivial | assumption | infer_instance | ((repeat (first | exact Fr.refl _ _ | assumption | with_reducible apply Fr.allocSet | with_reducible apply Fr.alloc | with_reducible apply Fr.drewN | with_reducible apply Fr.drew | ((with_reducible apply Fr.set); rotate_left; (right; ((try simp only [alloc_size]); omega))) | (refine Fr.trans ?_ (by assumption)))); done))); (case hy => (intro wf hwf; (try dsimp only at hwf); (((apply opv_fieldAddr); exact rfl)))))
  refine vA_only 13 rfl (by kernel_rfl) (by (first | exact trivial | assumption | infer_instance | ((repeat (first | exact Fr.refl _ _ | assumption | with_reducible apply Fr.allocSet | with_reducible apply Fr.alloc | with_reducible apply Fr.drewN | with_reducible apply Fr.drew | ((with_reducible apply Fr.set); rotate_left; (right; ((try simp only [alloc_size]); omega))) | (refine Fr.trans ?_ (by assumption)))); done))) (fun K hK => ?_)
  (((apply vL_skip); (case h => ((apply ops_store1); (first | exact norm_eq rfl | ((conv => lhs; whnf) <;> exact rfl)); (first | exact norm_eq rfl | ((conv => lhs; whnf) <;> exact rfl)); (first | rfl | assumption); (first | assumption | infer_instance); (first | decide | exact of_decide_eq_true rfl | (simp; done))))); apply vL_nil)
  refine ⟨rfl, hK _ _ ?_⟩
  refine vA_done (by kernel_rfl) (by (first | exact trivial | assumption | infer_instance | ((repeat (first | exact Fr.refl _ _ | assumption | with_reducible apply Fr.allocSet | with_reducible apply Fr.alloc | with_reducible apply Fr.drewN | with_reducible apply Fr.drew | ((with_reducible apply Fr.set); rotate_left; (right; ((try simp only [alloc_size]); omega))) | (refine Fr.trans ?_ (by assumption)))); done))) ?_
  ((apply blockP_normal; apply seqP_normal; apply vC_seq; apply vC_region))
  obtain ⟨c3, ec3⟩ : ∃ c3 : CL, c3 = { c2 with pid := a.mpid, ep := a.mep, stale := false, sv := nilO, ss := [] } := ⟨_, rfl⟩
  have hcl3 : ∀ w', Fr (fun k => k = b2) w11 w' → ClOwn w'.heap c3 := fun w' h => by
    have hA := hcb.frBlk h2b ⟨by decide, by decide, by decide⟩ ⟨by decide, by decide⟩ h
    rw [ec3]
    exact ⟨hA.1, hA.2.1, Own.nil _ _ _ _⟩
  refine vL_gen (fun w' => Fr No w w' ∧ Blk w'.heap b2 (clE c3) 25 ∧ Blk w'.heap b3 (rpE a) 56 ∧ Blk w'.heap b4 clZ 25 ∧ ClOwn w'.heap c3) ⟨((((hfwb.drew).set _ _ (.inr (by omega))).set _ _ (.inr (by omega))).set _ _ (.inr (by omega))).set _ _ (.inr (by omega)), Blk.as (Blk.set (Blk.set (Blk.set (Blk.set h2bd)))) (by rw [ec3]; rfl), inferInstance, ((((h4b.frN (Fr.refl No w11).drew).set_ne (by omega)).set_ne (by omega)).set_ne (by omega)).set_ne (by omega), hcl3 _ (((((Fr.refl (fun k => k = b2) w11).drew.set _ _ (.inl rfl)).set _ _ (.inl rfl)).set _ _ (.inl rfl)).set _ _ (.inl rfl))⟩ ?_
  rintro w12 ⟨hfC, h2C, h3C, h4C, hcC⟩
  clear h2b h3b h4b h9b hcb hqb hfwb h2bd h3bd
  have hnfc : c3.nf = ({ c with broker := a.leader, ws := [], pid := a.mpid, ep := a.mep, stale := false, ss := [] } : CL).nf := by
    have e2 : c1.id = c.id := by have := congrArg CL.id hnf; exact this
    have e3 : c1.next = c.next := by have := congrArg CL.next hnf; exact this
    rw [ec3, ec2]
    show ({ c1 with broker := a.leader, wv := nilO, sv := nilO, ws := [], pid := a.mpid, ep := a.mep, stale := false, ss := [] } : CL) = { c with broker := a.leader, wv := nilO, sv := nilO, ws := [], pid := a.mpid, ep := a.mep, stale := false, ss := [] }
    rw [hnw, hbk, e2, e3]
  have hw3 := c3.wv.2
  have hs3 := c3.sv.2
  have har : Rd w12.heap 1 brE a.rrv.1 [] := by rw [hrr]; exact (Own.nil w12.heap 71 1 brE).rd
  (((apply vL_val); (case h => ((apply opv_fieldAddr); exact rfl))); ((apply vL_val); (case h => ((apply opv_loadb1); exact rfl; exact rfl; (first | assumption | infer_instance); exact rfl))))
  refine vL_callF rfl (clone_br a.rrv.1 [] w12 har (by simp)) rfl ?_
  rintro rv2 w13 ⟨hf13, hr13, hrf13, hone13⟩
  have h2d := h2C.frN hf13
  have h3d := h3C.frN hf13
  have h4d := h4C.frN hf13
  have hcd := hcC.frN hf13
  have hfwd := hfC.trans hf13
  ((((apply vL_val); (case h => ((apply opv_fieldAddr); exact rfl))); ((apply vL_skip); (case h => ((apply ops_store1); (first | exact norm_eq rfl | ((conv => lhs; whnf) <;> exact rfl)); (first | exact norm_eq rfl | ((conv => lhs; whnf) <;> exact rfl)); (first | rfl | assumption); (first | assumption | infer_instance); (first | decide | exact of_decide_eq_true rfl | (simp; done))))); apply vL_nil)); with_reducible apply seqP_normal
  (((iterate 2 (apply vC_seq)); apply vC_region))
  refine vL_gen (fun w' => Fr No w w' ∧ Blk w'.heap b2 (clE c3) 25 ∧ Blk w'.heap b3 (rpE { a with rrv := ⟨rv2, hone13⟩ }) 56 ∧ Blk w'.heap b4 clZ 25 ∧ ClOwn w'.heap c3 ∧ Rd w'.heap 1 brE rv2 []) ⟨hfwd.set _ _ (.inr (by omega)), h2d.set_ne (by omega), Blk.as (Blk.set h3d) rfl, h4d.set_ne (by omega), hcd.frBlk h3d ⟨by decide, by decide, by decide⟩ ⟨by decide, by decide⟩ ((Fr.refl (fun k => k = b3) w13).set _ _ (.inl rfl)), (hr13.set (Own.ne_blk hr13 h3d (by decide))).rd⟩ ?_
  rintro w14 ⟨hf14, h2e, h3e, h4e, hce, hre⟩
  clear h2C h3C h4C hcC hfC h2d h3d h4d hcd hfwd hf13 hr13 har
  have hl0 : (([] : List (OV × List Int)).length : Int) = 0 := rfl
  (((apply vL_val); (case h => ((apply opv_fieldAddr); exact rfl))); ((apply vL_val); (case h => ((apply opv_loadb1); exact rfl; exact rfl; (first | assumption | infer_instance); exact rfl))); ((apply vL_val); (case h => ((apply opv_len); (first | exact norm_eq rfl | ((conv => lhs; whnf) <;> exact rfl)); (first | assumption | infer_instance)))); ((apply vL_val); (case h => ((apply opv_E); exact rfl))); apply vL_nil; apply seqP_normal; apply vC_block)
  (apply vC_loop1 748243166387255703404092769199714522219473214112768 155 (fun u w' => u = .int .i64 0 ∧ Fr No w w' ∧ Blk w'.heap b2 (clE c3) 25 ∧ Blk w'.heap b3 (rpE { a with rrv := ⟨rv2, hone13⟩ }) 56 ∧ Blk w'.heap b4 clZ 25 ∧ ClOwn w'.heap c3) (fun _ _ => 0)); (case h1 => (first | exact norm_eq rfl | ((conv => lhs; whnf) <;> exact rfl)))
  case h0 => exact ⟨rfl, hf14, h2e, h3e, h4e, hce⟩
  case round =>
  clear h2e h3e h4e hce hre hf14
  rintro junk _ w15 ⟨rfl, hf15, h2f, h3f, h4f, hcf⟩
  have hap : Rd w15.heap 2 tE a.mpl.1 [] := by rw [hpl]; exact (Own.nil w15.heap 36 2 tE).rd
  (apply vC_seq; apply vC_region; ((apply vL_val); (case h => ((apply opv_E); exact rfl))); apply vL_nil; apply seqP_normal; apply vC_seq; ((apply vC_cond_false); exact rfl); apply vC_exit; apply seqP_exit; apply loopP_exit; apply blockP_exit; apply seqP_normal; apply vC_seq; apply vC_region; (iterate 2 (((apply vL_val); (case h => ((apply opv_fieldAddr); exact rfl))))); ((apply vL_val); (case h => ((apply opv_loadb1); exact rfl; exact rfl; (first | assumption | infer_instance); exact rfl))))
  refine vL_callF rfl (clone_pl a.mpl.1 [] w15 hap (by simp)) rfl ?_
  rintro pv2 w16 ⟨hf16, hr16, hrf16, hone16⟩
  have h2g := h2f.frN hf16
  have h3g := h3f.frN hf16
  have h4g := h4f.frN hf16
  have hcg := hcf.frN hf16
  have hfwg := hf15.trans hf16
  (((iterate 2 (((apply vL_val); (case h => ((apply opv_fieldAddr); exact rfl))))); ((apply vL_skip); (case h => ((apply ops_store1); (first | exact norm_eq rfl | ((conv => lhs; whnf) <;> exact rfl)); (first | exact norm_eq rfl | ((conv => lhs; whnf) <;> exact rfl)); (first | rfl | assumption); (first | assumption | infer_instance); (first | decide | exact of_decide_eq_true rfl | (simp; done))))); apply vL_nil)); with_reducible apply seqP_normal
  ((apply vC_seq))
  refine vC_gen (fun w' => Fr No w w' ∧ Blk w'.heap b2 (clE c3) 25 ∧ Blk w'.heap b3 (rpE { a with rrv := ⟨rv2, hone13⟩, mpl := ⟨pv2, hone16⟩ }) 56 ∧ Blk w'.heap b4 clZ 25 ∧ ClOwn w'.heap c3) ⟨hfwg.set _ _ (.inr (by omega)), h2g.set_ne (by omega), Blk.as (Blk.set h3g) rfl, h4g.set_ne (by omega), hcg.frBlk h3g ⟨by decide, by decide, by decide⟩ ⟨by decide, by decide⟩ ((Fr.refl (fun k => k = b3) w16).set _ _ (.inl rfl))⟩ ?_
  rintro w17 ⟨hf17, h2h, h3h, h4h, hch⟩
  clear h2f h3f h4f hcf h2g h3g h4g hcg hfwg hf16 hf15 hap hr16
  obtain ⟨a2, ea2⟩ : ∃ a2 : RP, a2 = { a with rrv := ⟨rv2, hone13⟩, mpl := ⟨pv2, hone16⟩ } := ⟨_, rfl⟩
  rw [← ea2] at h3h
  have ha21 := a2.rrv.2
  have ha22 := a2.mpl.2
  have h2hd := h2h.frN (Fr.refl No w17).drew
  have h3hd := h3h.frN (Fr.refl No w17).drew
  have h4hd := h4h.frN (Fr.refl No w17).drew
  refine vC_draw' ((fun wf => Blk wf.heap b2 (clE c3) 25 ∧ Blk wf.heap b3 (rpE a2) 56)) (by (first | exact trivial | assumption | infer_instance | (refine ⟨?_, ?_⟩ <;> (first | assumption | infer_instance)) | ((repeat (first | exact Fr.refl _ _ | assumption | with_reducible apply Fr.allocSet | with_reducible apply Fr.alloc | with_reducible apply Fr.drewN | with_reducible apply Fr.drew | ((with_reducible apply Fr.set); rotate_left; (right; ((try simp only [alloc_size]); omega))) | (refine Fr.trans ?_ (by assumption)))); done))) ?_
  ((apply (tk 0)); (case hi => exact rfl); (case hf => kernel_rfl); (case hS => (first | exact trivial | assumption | infer_instance | (refine ⟨?_, ?_⟩ <;> (first | assumption | infer_instance)) | ((repeat (first | exact Fr.refl _ _ | assumption | with_reducible apply Fr.allocSet | with_reducible apply Fr.alloc | with_reducible apply Fr.drewN | with_reducible apply Fr.drew | ((with_reducible apply Fr.set); rotate_left; (right; ((try simp only [alloc_size]); omega))) | (refine Fr.trans ?_ (by assumption)))); done))); (case hy => (rintro wf ⟨hwa, hwb⟩; (((apply opv_loadbC); exact rfl; exact rfl; (first | assumption | infer_instance); (first | exact (rfl : _ = [_]) | exact (rfl : _ = [_, _]) | exact (rfl : _ = [_, _, _]) | exact (rfl : _ = [_, _, _, _]) | exact (rfl : _ = [_, _, _, _, _]) | exact (rfl : _ = [_, _, _, _, _, _]) | exact (rfl : _ = [_, _, _, _, _, _, _]) | exact (rfl : _ = [_, _, _, _, _, _, _, _]) | exact (rfl : _ = [_, _, _, _, _, _, _, _, _]) | exact (rfl : _ = [_, _, _, _, _, _, _, _, _, _]) | exact (rfl : _ = [_, _, _, _, _, _, _, _, _, _, _]) | exact (rfl : _ = [_, _, _, _, _, _, _, _, _, _, _, _])); exact rfl)))))
  ((apply (tk 1)); (case hi => exact rfl); (case hf => kernel_rfl); (case hS => (first | exact trivial | assumption | infer_instance | (refine ⟨?_, ?_⟩ <;> (first | assumption | infer_instance)) | ((repeat (first | exact Fr.refl _ _ | assumption | with_reducible apply Fr.allocSet | with_reducible apply Fr.alloc | with_reducible apply Fr.drewN | with_reducible apply Fr.drew | ((with_reducible apply Fr.set); rotate_left; (right; ((try simp only [alloc_size]); omega))) | (refine Fr.trans ?_ (by assumption)))); done))); (case hy => (rintro wf ⟨hwa, hwb⟩; (((apply opv_fieldAddr); exact rfl)))))
  ((apply (tk 2)); (case hi => exact rfl); (case hf => kernel_rfl); (case hS => (first | exact trivial | assumption | infer_instance | (refine ⟨?_, ?_⟩ <;> (first | assumption | infer_instance)) | ((repeat (first | exact Fr.refl _ _ | assumption | with_reducible apply Fr.allocSet | with_reducible apply Fr.alloc | with_reducible apply Fr.drewN | with_reducible apply Fr.drew | ((with_reducible apply Fr.set); rotate_left; (right; ((try simp only [alloc_size]); omega))) | (refine Fr.trans ?_ (by assumption)))); done))); (case hy => (rintro wf ⟨hwa, hwb⟩; (((apply opv_loadb1); exact rfl; exact rfl; (first | assumption | infer_instance); exact rfl)))))
  ((apply (tk 3)); (case hi => exact rfl); (case hf => kernel_rfl); (case hS => (first | exact trivial | assumption | infer_instance | (refine ⟨?_, ?_⟩ <;> (first | assumption | infer_instance)) | ((repeat (first | exact Fr.refl _ _ | assumption | with_reducible apply Fr.allocSet | with_reducible apply Fr.alloc | with_reducible apply Fr.drewN | with_reducible apply Fr.drew | ((with_reducible apply Fr.set); rotate_left; (right; ((try simp only [alloc_size]); omega))) | (refine Fr.trans ?_ (by assumption)))); done))); (case hy => (rintro wf ⟨hwa, hwb⟩; (((apply opv_fieldAddr); exact rfl)))))
  ((apply (tk 4)); (case hi => exact rfl); (case hf => kernel_rfl); (case hS => (first | exact trivial | assumption | infer_instance | (refine ⟨?_, ?_⟩ <;> (first | assumption | infer_instance)) | ((repeat (first | exact Fr.refl _ _ | assumption | with_reducible apply Fr.allocSet | with_reducible apply Fr.alloc | with_reducible apply Fr.drewN | with_reducible apply Fr.drew | ((with_reducible apply Fr.set); rotate_left; (right; ((try simp only [alloc_size]); omega))) | (refine Fr.trans ?_ (by assumption)))); done))); (case hy => (rintro wf ⟨hwa, hwb⟩; (((apply opv_loadb1); exact rfl; exact rfl; (first | assumption | infer_instance); exact rfl)))))
  ((apply (tk 5)); (case hi => exact rfl); (case hf => kernel_rfl); (case hS => (first | exact trivial | assumption | infer_instance | (refine ⟨?_, ?_⟩ <;> (first | assumption | infer_instance)) | ((repeat (first | exact Fr.refl _ _ | assumption | with_reducible apply Fr.allocSet | with_reducible apply Fr.alloc | with_reducible apply Fr.drewN | with_reducible apply Fr.drew | ((with_reducible apply Fr.set); rotate_left; (right; ((try simp only [alloc_size]); omega))) | (refine Fr.trans ?_ (by assumption)))); done))); (case hy => (rintro wf ⟨hwa, hwb⟩; exact opv_loadbC (cs := rpE a2) rfl rfl hwb rfl rfl)))
  ((apply (tk 6)); (case hi => exact rfl); (case hf => kernel_rfl); (case hS => (first | exact trivial | assumption | infer_instance | (refine ⟨?_, ?_⟩ <;> (first | assumption | infer_instance)) | ((repeat (first | exact Fr.refl _ _ | assumption | with_reducible apply Fr.allocSet | with_reducible apply Fr.alloc | with_reducible apply Fr.drewN | with_reducible apply Fr.drew | ((with_reducible apply Fr.set); rotate_left; (right; ((try simp only [alloc_size]); omega))) | (refine Fr.trans ?_ (by assumption)))); done))); (case hy => (rintro wf ⟨hwa, hwb⟩; (((apply opv_buildS); exact rfl; (first | exact (rfl : _ = some []) | exact (rfl : _ = some [_]) | exact (rfl : _ = some [_, _]) | exact (rfl : _ = some [_, _, _]) | exact (rfl : _ = some [_, _, _, _]) | exact (rfl : _ = some [_, _, _, _, _]) | exact (rfl : _ = some [_, _, _, _, _, _]) | exact (rfl : _ = some [_, _, _, _, _, _, _]) | exact (rfl : _ = some [_, _, _, _, _, _, _, _]) | exact (rfl : _ = some [_, _, _, _, _, _, _, _, _]) | exact (rfl : _ = some [_, _, _, _, _, _, _, _, _, _]) | exact (rfl : _ = some [_, _, _, _, _, _, _, _, _, _, _]) | exact (rfl : _ = some [_, _, _, _, _, _, _, _, _, _, _, _]) | exact (rfl : _ = some [_, _, _, _, _, _, _, _, _, _, _, _, _]) | exact (rfl : _ = some [_, _, _, _, _, _, _, _, _, _, _, _, _, _]) | exact (rfl : _ = some [_, _, _, _, _, _, _, _, _, _, _, _, _, _, _]) | exact (rfl : _ = some [_, _, _, _, _, _, _, _, _, _, _, _, _, _, _, _]) | exact (rfl : _ = some [_, _, _, _, _, _, _, _, _, _, _, _, _, _, _, _, _, _, _, _, _, _, _]) | exact (rfl : _ = some [_, _, _, _, _, _, _, _, _, _, _, _, _, _, _, _, _, _, _, _, _, _, _, _]) | exact (rfl : _ = some [_, _, _, _, _, _, _, _, _, _, _, _, _, _, _, _, _, _, _, _, _, _, _, _, _, _]) | exact (rfl : _ = some [_, _, _, _, _, _, _, _, _, _, _, _, _, _, _, _, _, _])))))))
  refine vA_two 7 8 rfl rfl (by kernel_rfl) (by (first | exact trivial | assumption | infer_instance | (refine ⟨?_, ?_⟩ <;> (first | assumption | infer_instance)) | ((repeat (first | exact Fr.refl _ _ | assumption | with_reducible apply Fr.allocSet | with_reducible apply Fr.alloc | with_reducible apply Fr.drewN | with_reducible apply Fr.drew | ((with_reducible apply Fr.set); rotate_left; (right; ((try simp only [alloc_size]); omega))) | (refine Fr.trans ?_ (by assumption)))); done))) (fun K hK => ?_) (fun K hK => ?_)
  · (((apply vL_val); (case h => ((apply opw_buildSl); exact rfl; exact rfl; exact rfl; (first | exact (rfl : _ = some []) | exact (rfl : _ = some [_]) | exact (rfl : _ = some [_, _]) | exact (rfl : _ = some [_, _, _]) | exact (rfl : _ = some [_, _, _, _]) | exact (rfl : _ = some [_, _, _, _, _]) | exact (rfl : _ = some [_, _, _, _, _, _]) | exact (rfl : _ = some [_, _, _, _, _, _, _]) | exact (rfl : _ = some [_, _, _, _, _, _, _, _]) | exact (rfl : _ = some [_, _, _, _, _, _, _, _, _]) | exact (rfl : _ = some [_, _, _, _, _, _, _, _, _, _]) | exact (rfl : _ = some [_, _, _, _, _, _, _, _, _, _, _]) | exact (rfl : _ = some [_, _, _, _, _, _, _, _, _, _, _, _]) | exact (rfl : _ = some [_, _, _, _, _, _, _, _, _, _, _, _, _]) | exact (rfl : _ = some [_, _, _, _, _, _, _, _, _, _, _, _, _, _]) | exact (rfl : _ = some [_, _, _, _, _, _, _, _, _, _, _, _, _, _, _]) | exact (rfl : _ = some [_, _, _, _, _, _, _, _, _, _, _, _, _, _, _, _]) | exact (rfl : _ = some [_, _, _, _, _, _, _, _, _, _, _, _, _, _, _, _, _, _, _, _, _, _, _]) | exact (rfl : _ = some [_, _, _, _, _, _, _, _, _, _, _, _, _, _, _, _, _, _, _, _, _, _, _, _]) | exact (rfl : _ = some [_, _, _, _, _, _, _, _, _, _, _, _, _, _, _, _, _, _, _, _, _, _, _, _, _, _]) | exact (rfl : _ = some [_, _, _, _, _, _, _, _, _, _, _, _, _, _, _, _, _, _]))))); apply vL_nil)
    refine ⟨rfl, hK _ _ ?_⟩
    refine vA_only 8 rfl (by kernel_rfl) (by (first | exact trivial | assumption | infer_instance | (refine ⟨?_, ?_⟩ <;> (first | assumption | infer_instance)) | ((repeat (first | exact Fr.refl _ _ | assumption | with_reducible apply Fr.allocSet | with_reducible apply Fr.alloc | with_reducible apply Fr.drewN | with_reducible apply Fr.drew | ((with_reducible apply Fr.set); rotate_left; (right; ((try simp only [alloc_size]); omega))) | (refine Fr.trans ?_ (by assumption)))); done))) (fun K hK => ?_)
    (((apply vL_skip); (case h => ((apply ops_storen); (first | exact norm_eq rfl | ((conv => lhs; whnf) <;> exact rfl)); (first | exact norm_eq rfl | ((conv => lhs; whnf) <;> exact rfl)); exact rfl; (first | exact (fun u hu => EncOk.one _ u hu) | (intro u hu; simp at hu; rcases hu with rfl | rfl <;> (first | rfl | assumption)) | (intro u hu; simp at hu; rcases hu with rfl | rfl | rfl <;> (first | rfl | assumption)) | (intro u hu; simp at hu; rcases hu with rfl | rfl | rfl | rfl <;> (first | rfl | assumption)) | exact (fun u hu => EncOk.one _ u (List.mem_of_mem_drop (List.mem_of_mem_take hu))) | (intro u hu; simp only [List.mem_cons, List.not_mem_nil, or_false] at hu; rcases hu with rfl | rfl | rfl | rfl | rfl | rfl | rfl | rfl | rfl | rfl <;> (first | rfl | assumption)) | (intro u hu; simp only [List.mem_cons, List.not_mem_nil, or_false] at hu; rcases hu with rfl | rfl | rfl | rfl | rfl | rfl | rfl | rfl | rfl | rfl | rfl | rfl | rfl | rfl | rfl | rfl | rfl | rfl | rfl | rfl | rfl | rfl | rfl <;> (first | rfl | assumption)) | (intro u hu; simp only [List.mem_cons, List.not_mem_nil, or_false] at hu; rcases hu with rfl | rfl | rfl | rfl | rfl | rfl | rfl | rfl | rfl | rfl | rfl | rfl | rfl | rfl | rfl | rfl | rfl | rfl | rfl | rfl | rfl | rfl | rfl | rfl <;> (first | rfl | assumption)) | (intro u hu; simp only [List.mem_cons, List.not_mem_nil, or_false] at hu; rcases hu with rfl | rfl | rfl | rfl | rfl | rfl | rfl | rfl | rfl | rfl | rfl | rfl | rfl | rfl | rfl | rfl | rfl | rfl | rfl | rfl | rfl | rfl | rfl | rfl | rfl | rfl <;> (first | rfl | assumption))); (first | assumption | infer_instance); (first | decide | exact of_decide_eq_true rfl | (simp; done))))); apply vL_nil)
    refine ⟨rfl, hK _ _ ?_⟩
    ((apply (tk 9)); (case hi => exact rfl); (case hf => kernel_rfl); (case hS => (first | exact trivial | assumption | infer_instance | (refine ⟨?_, ?_⟩ <;> (first | assumption | infer_instance)) | ((repeat (first | exact Fr.refl _ _ | assumption | with_reducible apply Fr.allocSet | with_reducible apply Fr.alloc | with_reducible apply Fr.drewN | with_reducible apply Fr.drew | ((with_reducible apply Fr.set); rotate_left; (right; ((try simp only [alloc_size]); omega))) | (refine Fr.trans ?_ (by assumption)))); done))); (case hy => (rintro wf ⟨hwa, hwb⟩; (((apply opv_E); exact rfl)))))
    ((apply (tk 10)); (case hi => exact rfl); (case hf => kernel_rfl); (case hS => (first | exact trivial | assumption | infer_instance | (refine ⟨?_, ?_⟩ <;> (first | assumption | infer_instance)) | ((repeat (first | exact Fr.refl _ _ | assumption | with_reducible apply Fr.allocSet | with_reducible apply Fr.alloc | with_reducible apply Fr.drewN | with_reducible apply Fr.drew | ((with_reducible apply Fr.set); rotate_left; (right; ((try simp only [alloc_size]); omega))) | (refine Fr.trans ?_ (by assumption)))); done))); (case hy => (rintro wf ⟨hwa, hwb⟩; (((apply opv_E); exact rfl)))))
    refine vA_done (by kernel_rfl) (by (first | exact trivial | assumption | infer_instance | (refine ⟨?_, ?_⟩ <;> (first | assumption | infer_instance)) | ((repeat (first | exact Fr.refl _ _ | assumption | with_reducible apply Fr.allocSet | with_reducible apply Fr.alloc | with_reducible apply Fr.drewN | with_reducible apply Fr.drew | ((with_reducible apply Fr.set); rotate_left; (right; ((try simp only [alloc_size]); omega))) | (refine Fr.trans ?_ (by assumption)))); done))) ?_
    (apply seqP_normal; apply vC_ret)
    (apply retC3; (case ha => exact rfl); (case hD => exact rfl); (case hb => (first | assumption | infer_instance)); (case hcs => exact (rfl : _ = clE c3)); (case hl => exact rfl); (case hu => (first | exact norm_eq rfl | ((conv => lhs; whnf) <;> exact rfl))); (case hu2 => (first | exact norm_eq rfl | ((conv => lhs; whnf) <;> exact rfl))))
    exact ⟨c3, _, rfl, hch.frBlk h4h ⟨by decide, by decide, by decide⟩ ⟨by decide, by decide⟩ ((((Fr.refl (fun k => k = b4) w17).drew).alloc _).set _ _ (.inl rfl)), hf17.trans' ((((Fr.refl (fun k => k = b4) w17).drew).alloc _).set _ _ (.inl rfl)) (fun k hk => .inr (by omega)), hnfc⟩
  · (((apply vL_skip); (case h => ((apply ops_storen); (first | exact norm_eq rfl | ((conv => lhs; whnf) <;> exact rfl)); (first | exact norm_eq rfl | ((conv => lhs; whnf) <;> exact rfl)); exact rfl; (first | exact (fun u hu => EncOk.one _ u hu) | (intro u hu; simp at hu; rcases hu with rfl | rfl <;> (first | rfl | assumption)) | (intro u hu; simp at hu; rcases hu with rfl | rfl | rfl <;> (first | rfl | assumption)) | (intro u hu; simp at hu; rcases hu with rfl | rfl | rfl | rfl <;> (first | rfl | assumption)) | exact (fun u hu => EncOk.one _ u (List.mem_of_mem_drop (List.mem_of_mem_take hu))) | (intro u hu; simp only [List.mem_cons, List.not_mem_nil, or_false] at hu; rcases hu with rfl | rfl | rfl | rfl | rfl | rfl | rfl | rfl | rfl | rfl <;> (first | rfl | assumption)) | (intro u hu; simp only [List.mem_cons, List.not_mem_nil, or_false] at hu; rcases hu with rfl | rfl | rfl | rfl | rfl | rfl | rfl | rfl | rfl | rfl | rfl | rfl | rfl | rfl | rfl | rfl | rfl | rfl | rfl | rfl | rfl | rfl | rfl <;> (first | rfl | assumption)) | (intro u hu; simp only [List.mem_cons, List.not_mem_nil, or_false] at hu; rcases hu with rfl | rfl | rfl | rfl | rfl | rfl | rfl | rfl | rfl | rfl | rfl | rfl | rfl | rfl | rfl | rfl | rfl | rfl | rfl | rfl | rfl | rfl | rfl | rfl <;> (first | rfl | assumption)) | (intro u hu; simp only [List.mem_cons, List.not_mem_nil, or_false] at hu; rcases hu with rfl | rfl | rfl | rfl | rfl | rfl | rfl | rfl | rfl | rfl | rfl | rfl | rfl | rfl | rfl | rfl | rfl | rfl | rfl | rfl | rfl | rfl | rfl | rfl | rfl | rfl <;> (first | rfl | assumption))); (first | assumption | infer_instance); (first | decide | exact of_decide_eq_true rfl | (simp; done))))); apply vL_nil)
    refine ⟨rfl, hK _ _ ?_⟩
    refine vA_only 7 rfl (by kernel_rfl) (by (first | exact trivial | assumption | infer_instance | (refine ⟨?_, ?_⟩ <;> (first | assumption | infer_instance)) | ((repeat (first | exact Fr.refl _ _ | assumption | with_reducible apply Fr.allocSet | with_reducible apply Fr.alloc | with_reducible apply Fr.drewN | with_reducible apply Fr.drew | ((with_reducible apply Fr.set); rotate_left; (right; ((try simp only [alloc_size]); omega))) | (refine Fr.trans ?_ (by assumption)))); done))) (fun K hK => ?_)
    (((apply vL_val); (case h => ((apply opw_buildSl); exact rfl; exact rfl; exact rfl; (first | exact (rfl : _ = some []) | exact (rfl : _ = some [_]) | exact (rfl : _ = some [_, _]) | exact (rfl : _ = some [_, _, _]) | exact (rfl : _ = some [_, _, _, _]) | exact (rfl : _ = some [_, _, _, _, _]) | exact (rfl : _ = some [_, _, _, _, _, _]) | exact (rfl : _ = some [_, _, _, _, _, _, _]) | exact (rfl : _ = some [_, _, _, _, _, _, _, _]) | exact (rfl : _ = some [_, _, _, _, _, _, _, _, _]) | exact (rfl : _ = some [_, _, _, _, _, _, _, _, _, _]) | exact (rfl : _ = some [_, _, _, _, _, _, _, _, _, _, _]) | exact (rfl : _ = some [_, _, _, _, _, _, _, _, _, _, _, _]) | exact (rfl : _ = some [_, _, _, _, _, _, _, _, _, _, _, _, _]) | exact (rfl : _ = some [_, _, _, _, _, _, _, _, _, _, _, _, _, _]) | exact (rfl : _ = some [_, _, _, _, _, _, _, _, _, _, _, _, _, _, _]) | exact (rfl : _ = some [_, _, _, _, _, _, _, _, _, _, _, _, _, _, _, _]) | exact (rfl : _ = some [_, _, _, _, _, _, _, _, _, _, _, _, _, _, _, _, _, _, _, _, _, _, _]) | exact (rfl : _ = some [_, _, _, _, _, _, _, _, _, _, _, _, _, _, _, _, _, _, _, _, _, _, _, _]) | exact (rfl : _ = some [_, _, _, _, _, _, _, _, _, _, _, _, _, _, _, _, _, _, _, _, _, _, _, _, _, _]) | exact (rfl : _ = some [_, _, _, _, _, _, _, _, _, _, _, _, _, _, _, _, _, _]))))); apply vL_nil)
    refine ⟨rfl, hK _ _ ?_⟩
    ((apply (tk 9)); (case hi => exact rfl); (case hf => kernel_rfl); (case hS => (first | exact trivial | assumption | infer_instance | (refine ⟨?_, ?_⟩ <;> (first | assumption | infer_instance)) | ((repeat (first | exact Fr.refl _ _ | assumption | with_reducible apply Fr.allocSet | with_reducible apply Fr.alloc | with_reducible apply Fr.drewN | with_reducible apply Fr.drew | ((with_reducible apply Fr.set); rotate_left; (right; ((try simp only [alloc_size]); omega))) | (refine Fr.trans ?_ (by assumption)))); done))); (case hy => (rintro wf ⟨hwa, hwb⟩; (((apply opv_E); exact rfl)))))
    ((apply (tk 10)); (case hi => exact rfl); (case hf => kernel_rfl); (case hS => (first | exact trivial | assumption | infer_instance | (refine ⟨?_, ?_⟩ <;> (first | assumption | infer_instance)) | ((repeat (first | exact Fr.refl _ _ | assumption | with_reducible apply Fr.allocSet | with_reducible apply Fr.alloc | with_reducible apply Fr.drewN | with_reducible apply Fr.drew | ((with_reducible apply Fr.set); rotate_left; (right; ((try simp only [alloc_size]); omega))) | (refine Fr.trans ?_ (by assumption)))); done))); (case hy => (rintro wf ⟨hwa, hwb⟩; (((apply opv_E); exact rfl)))))
    refine vA_done (by kernel_rfl) (by (first | exact trivial | assumption | infer_instance | (refine ⟨?_, ?_⟩ <;> (first | assumption | infer_instance)) | ((repeat (first | exact Fr.refl _ _ | assumption | with_reducible apply Fr.allocSet | with_reducible apply Fr.alloc | with_reducible apply Fr.drewN | with_reducible apply Fr.drew | ((with_reducible apply Fr.set); rotate_left; (right; ((try simp only [alloc_size]); omega))) | (refine Fr.trans ?_ (by assumption)))); done))) ?_
    (apply seqP_normal; apply vC_ret)
    (apply retC3; (case ha => exact rfl); (case hD => exact rfl); (case hb => (first | assumption | infer_instance)); (case hcs => exact (rfl : _ = clE c3)); (case hl => exact rfl); (case hu => (first | exact norm_eq rfl | ((conv => lhs; whnf) <;> exact rfl))); (case hu2 => (first | exact norm_eq rfl | ((conv => lhs; whnf) <;> exact rfl))))
    exact ⟨c3, _, rfl, hch.frBlk h4h ⟨by decide, by decide, by decide⟩ ⟨by decide, by decide⟩ ((((Fr.refl (fun k => k = b4) w17).drew).set _ _ (.inl rfl)).alloc _), hf17.trans' ((((Fr.refl (fun k => k = b4) w17).drew).set _ _ (.inl rfl)).alloc _) (fun k hk => .inr (by omega)), hnfc⟩
end Go.Proofs.Ytchfaeaagpemlaa

set_option maxRecDepth 100000
namespace Go.Proofs.Ytchfaeaagpemlaa
open Go Go.Eng
theorem takeC31 (c : CL) (x : WT) (a : RP) (w : World) (R : R1 c) (hw : c.ws = [x]) (hm : matchB a x = true) (he : a.err = 0) (hld : 1 ≤ a.leader ∧ a.leader ≤ c.brokers) (hc : ClRd w.heap c) (hs : RqSz x.rq) (hkk : ownB c x.rq = true) (hss : c.ss = []) (hfi : 0 ≤ x.rq.fi ∧ x.rq.fi ≤ 1000000) (hbl : x.rq.brs.length ≤ 1000) (hrr : a.rrv = nilO) (hpl : a.mpl = nilO) :
    Rets Try.prog 8 #[.agg (clE c).toArray, .agg (rpE a).toArray] w fun u w' => ∃ c' b, u = .tuple #[.agg (clE c').toArray, .slice (some ⟨b, 0, none⟩) 1 1, .slice none 0 0] ∧ ClOwn w'.heap c' ∧ Fr No w w' ∧ c'.nf = ({ c with broker := a.leader, ws := [], ss := [⟨x.rq.topic, x.rq.part, x.rq.fi + x.rq.brs.length⟩] } : CL).nf := by
  have hw0 := c.wv.2
  have hs0 := c.sv.2
  have ha0 := a.rrv.2
  have ha1 := a.mpl.2
  refine rets_of Try.func8 rfl Try.ntmps8 rfl rfl (by kernel_rfl) ?_
  ((apply vC_seq; apply vC_region)); (((iterate 2 (((apply vL_val); (case h => ((apply opw_boxn); exact rfl))))); ((apply vL_val); (case h => (apply opw_alloc))); (iterate 2 (((apply vL_val); (case h => ((apply opv_E); exact rfl))))); apply vL_nil)); with_reducible apply seqP_normal
  ((apply vC_seq; apply vC_region))
  have e3 : (w.alloc (.cells (clE c).toArray 25)).heap.size = w.heap.size + 1 := by simp
  have e4 : ((w.alloc (.cells (clE c).toArray 25)).alloc (.cells (rpE a).toArray 56)).heap.size = w.heap.size + 2 := by simp
  refine vL_gen (fun w' => Fr No w w' ∧ Blk w'.heap w.heap.size (clE c) 25 ∧ Blk w'.heap (w.alloc (.cells (clE c).toArray 25)).heap.size (rpE a) 56 ∧ Blk w'.heap ((w.alloc (.cells (clE c).toArray 25)).alloc (.cells (rpE a).toArray 56)).heap.size clZ 25) ⟨by (repeat (first | exact Fr.refl _ _ | assumption | with_reducible apply Fr.allocSet | with_reducible apply Fr.alloc | with_reducible apply Fr.drewN | with_reducible apply Fr.drew | ((with_reducible apply Fr.set); rotate_left; (right; ((try simp only [alloc_size]); omega))) | (refine Fr.trans ?_ (by assumption)))), inferInstance, inferInstance, inferInstance⟩ ?_
  rintro w1 ⟨hf1, h2, h3, h4⟩
  rw [e3] at h3
  rw [e4] at h4
  rw [e3, e4]
  obtain ⟨b2, eb2⟩ : ∃ b2, b2 = w.heap.size := ⟨_, rfl⟩
  obtain ⟨b3, eb3⟩ : ∃ b3, b3 = w.heap.size + 1 := ⟨_, rfl⟩
  obtain ⟨b4, eb4⟩ : ∃ b4, b4 = w.heap.size + 2 := ⟨_, rfl⟩
  rw [← eb4] at h4 ⊢
  rw [← eb3] at h3 ⊢
  rw [← eb2] at h2 ⊢
  have hsz1 := hf1.size
  have hl4 := h4.lt
  (((apply vL_val); (case h => ((apply opv_fieldAddr); exact rfl))); ((apply vL_val); (case h => ((apply opv_loadb1); exact rfl; exact rfl; (first | assumption | infer_instance); exact rfl))); ((apply vL_val); (case h => ((apply opv_makeFunc); exact rfl))))
  refine vL_callF rfl (indexFunc_wt _ _ (matchB a) c.ws _ 20 [.pointer (some ⟨b3, 0, none⟩)] (hc.1.frN hf1) rfl (fun y w1 hy hf => takec31 y a b3 w1 (h3.frN hf))) rfl ?_
  rintro u5 w2 ⟨hf2, hres⟩
  have h22 := h2.frN hf2
  have h32 := h3.frN hf2
  have h42 := h4.frN hf2
  have hf12 := hf1.trans hf2
  rcases hres with ⟨rfl, hno⟩ | ⟨k, rfl, hk, ⟨y, hy, hp⟩, _⟩
  · have := hno x (by rw [hw]; exact List.mem_singleton_self _)
    rw [hm] at this; cases this
  have hk0 : k = 0 := by rw [hw] at hk; have : k < 1 := hk; omega
  subst hk0
  clear hy hp y
  (((apply vL_val); (case h => ((apply opv_E); exact rfl))); apply vL_nil; apply seqP_normal; apply vC_seq; apply vC_region; ((apply vL_val); (case h => ((apply opv_loadbC); exact rfl; exact rfl; (first | assumption | infer_instance); (first | exact (rfl : _ = [_]) | exact (rfl : _ = [_, _]) | exact (rfl : _ = [_, _, _]) | exact (rfl : _ = [_, _, _, _]) | exact (rfl : _ = [_, _, _, _, _]) | exact (rfl : _ = [_, _, _, _, _, _]) | exact (rfl : _ = [_, _, _, _, _, _, _]) | exact (rfl : _ = [_, _, _, _, _, _, _, _]) | exact (rfl : _ = [_, _, _, _, _, _, _, _, _]) | exact (rfl : _ = [_, _, _, _, _, _, _, _, _, _]) | exact (rfl : _ = [_, _, _, _, _, _, _, _, _, _, _]) | exact (rfl : _ = [_, _, _, _, _, _, _, _, _, _, _, _])); exact rfl))))
  refine vL_callF rfl (clone31 c w2 (hc.frN hf12) ⟨by rw [hw]; exact (show 1 ≤ 1000 by decide), by have := R.s1; omega, fun y hy => by rw [hw] at hy; rw [List.mem_singleton.1 hy]; exact hs⟩) rfl ?_
  rintro _ w3 ⟨c1, rfl, hnf, hc3, hfw3, hfs3, hf3⟩
  have hw1 := c1.wv.2
  have hs1 := c1.sv.2
  have h23 := h22.frN hf3
  have h33 := h32.frN hf3
  have h43 := h42.frN hf3
  have hf13 := hf12.trans hf3
  have hsz2 := hf12.size
  ((((apply vL_skip); (case h => ((apply ops_storen); (first | exact norm_eq rfl | ((conv => lhs; whnf) <;> exact rfl)); (first | exact norm_eq rfl | ((conv => lhs; whnf) <;> exact rfl)); exact rfl; (first | exact (fun u hu => EncOk.one _ u hu) | (intro u hu; simp at hu; rcases hu with rfl | rfl <;> (first | rfl | assumption)) | (intro u hu; simp at hu; rcases hu with rfl | rfl | rfl <;> (first | rfl | assumption)) | (intro u hu; simp at hu; rcases hu with rfl | rfl | rfl | rfl <;> (first | rfl | assumption)) | exact (fun u hu => EncOk.one _ u (List.mem_of_mem_drop (List.mem_of_mem_take hu))) | (intro u hu; simp only [List.mem_cons, List.not_mem_nil, or_false] at hu; rcases hu with rfl | rfl | rfl | rfl | rfl | rfl | rfl | rfl | rfl | rfl <;> (first | rfl | assumption)) | (intro u hu; simp only [List.mem_cons, List.not_mem_nil, or_false] at hu; rcases hu with rfl | rfl | rfl | rfl | rfl | rfl | rfl | rfl | rfl | rfl | rfl | rfl | rfl | rfl | rfl | rfl | rfl | rfl | rfl | rfl | rfl | rfl | rfl <;> (first | rfl | assumption)) | (intro u hu; simp only [List.mem_cons, List.not_mem_nil, or_false] at hu; rcases hu with rfl | rfl | rfl | rfl | rfl | rfl | rfl | rfl | rfl | rfl | rfl | rfl | rfl | rfl | rfl | rfl | rfl | rfl | rfl | rfl | rfl | rfl | rfl | rfl <;> (first | rfl | assumption)) | (intro u hu; simp only [List.mem_cons, List.not_mem_nil, or_false] at hu; rcases hu with rfl | rfl | rfl | rfl | rfl | rfl | rfl | rfl | rfl | rfl | rfl | rfl | rfl | rfl | rfl | rfl | rfl | rfl | rfl | rfl | rfl | rfl | rfl | rfl | rfl | rfl <;> (first | rfl | assumption))); (first | assumption | infer_instance); (first | decide | exact of_decide_eq_true rfl | (simp; done))))); apply vL_nil)); with_reducible apply seqP_normal
  (((iterate 2 (apply vC_seq)); apply vC_region))
  refine vL_gen (fun w' => Fr No w w' ∧ Blk w'.heap b2 (clE c1) 25 ∧ Blk w'.heap b3 (rpE a) 56 ∧ Blk w'.heap b4 clZ 25 ∧ ClOwn w'.heap c1) ⟨hf13.set _ _ (.inr (by omega)), Blk.as (Blk.set h23) rfl, h33.set_ne (by omega), h43.set_ne (by omega), hc3.frBlk h23 ⟨by decide, by decide, by decide⟩ ⟨by decide, by decide⟩ ((Fr.refl (fun k => k = b2) w3).set _ _ (.inl rfl))⟩ ?_
  rintro w4 ⟨hf4, h24, h34, h44, hc4⟩
  have hfwz : ∀ b, own c1.wv.1 = some b → w.heap.size + 3 ≤ b := fun b hb => by have := hfw3 b hb; have := hf2.size; omega
  have hfsz : ∀ b, own c1.sv.1 = some b → w.heap.size + 3 ≤ b := fun b hb => by have := hfs3 b hb; have := hf2.size; omega
  clear h22 h32 h42 h23 h33 h43 hc3 hfw3 hfs3 hf3 hf13 hf12 h2 h3 h4
  have R' := R1.nf hnf R
  have hnw : c1.now = c.now := by have := congrArg CL.now hnf; exact this
  have hbk : c1.brokers = c.brokers := by have := congrArg CL.brokers hnf; exact this
  obtain ⟨x1, hx1, hx1n⟩ : ∃ x1, c1.ws = [x1] ∧ x1.nf = x.nf := by
    have h1 : c1.ws.map WT.nf = c.ws.map WT.nf := by have := congrArg CL.ws hnf; exact this
    rw [hw] at h1
    obtain ⟨y, hy, e⟩ := List.map_eq_singleton_iff.1 h1
    exact ⟨y, hy, e⟩
  have hn0 := R.now
  ((iterate 3 (((apply vL_val); (case h => ((apply opv_E); exact rfl))))); ((apply vL_wanted); exact rfl); ((apply vL_val); (case h => ((apply opv_loadbC); exact rfl; exact rfl; (first | assumption | infer_instance); (first | exact (rfl : _ = [_]) | exact (rfl : _ = [_, _]) | exact (rfl : _ = [_, _, _]) | exact (rfl : _ = [_, _, _, _]) | exact (rfl : _ = [_, _, _, _, _]) | exact (rfl : _ = [_, _, _, _, _, _]) | exact (rfl : _ = [_, _, _, _, _, _, _]) | exact (rfl : _ = [_, _, _, _, _, _, _, _]) | exact (rfl : _ = [_, _, _, _, _, _, _, _, _]) | exact (rfl : _ = [_, _, _, _, _, _, _, _, _, _]) | exact (rfl : _ = [_, _, _, _, _, _, _, _, _, _, _]) | exact (rfl : _ = [_, _, _, _, _, _, _, _, _, _, _, _])); exact rfl))); ((apply vL_wanted); exact rfl))
  refine vL_callF rfl (right31 c1 w4 hc4.rd R') rfl ?_
  rintro _ w5 ⟨rfl, hf5⟩
  have h25 := h24.frN hf5
  have h35 := h34.frN hf5
  have h45 := h44.frN hf5
  have hc5 := hc4.frN hf5
  have hfw5 := hf4.trans hf5
  have hcw5 := hc5.1
  rw [hx1] at hcw5
  have hxi : ([x1] : List WT)[((0 : Nat) : Int).toNat]? = some x1 := rfl
  have hxl : (((0 : Nat) : Int)) < (([x1] : List WT).length : Int) := Int.zero_lt_one
  clear h24 h34 h44 hc4 hf4 hf5
  haveI n23 : NeB b2 b3 := ⟨by omega⟩
  haveI n24 : NeB b2 b4 := ⟨by omega⟩
  haveI n34 : NeB b3 b4 := ⟨by omega⟩
  haveI n42 : NeB b4 b2 := ⟨by omega⟩
  haveI n32 : NeB b3 b2 := ⟨by omega⟩
  haveI n43 : NeB b4 b3 := ⟨by omega⟩
  haveI hoff : OffB c1.wv.1 b2 := ⟨Own.ne_blk hcw5 h25 (by decide)⟩
  have hbv1 := x1.rq.brv.2
  have htv1 := x1.rq.trv.2
  (((apply vL_wanted); exact rfl); ((apply vL_val); (case h => ((apply opv_not); exact rfl))); ((apply vL_val); (case h => ((apply opv_E); exact rfl))); apply vL_nil; apply seqP_normal; ((apply vC_cond_false); exact rfl); apply vC_skip; apply seqP_normal; apply vC_seq; apply vC_region; ((apply vL_val); (case h => ((apply opv_fieldAddr); exact rfl))); ((apply vL_val); (case h => ((apply opv_loadb1); exact rfl; exact rfl; (first | assumption | infer_instance); exact rfl))); (iterate 2 (((apply vL_val); (case h => ((apply opv_E); exact rfl))))); (refine vL_and rfl rfl (fun _ => ?_) (fun h => by omega)); ((apply vL_val); (case h => ((apply opv_fieldAddr); exact rfl))); ((apply vL_wanted); exact rfl); ((apply vL_val); (case h => ((apply opv_loadb1); exact rfl; exact rfl; (first | assumption | infer_instance); exact rfl))); ((apply vL_wanted); exact rfl); ((apply vL_val); (case h => ((apply opv_fieldAddr); exact rfl))); ((apply vL_wanted); exact rfl); ((apply vL_val); (case h => ((apply opv_loadb1); exact rfl; exact rfl; (first | assumption | infer_instance); exact rfl))); ((apply vL_wanted); exact rfl); (iterate 3 (((apply vL_val); (case h => ((apply opv_E); exact rfl))))); apply vL_nil; apply seqP_normal; (iterate 2 (apply vC_seq)); apply vC_region; ((apply vL_val); (case h => ((apply opv_E); exact rfl))); apply vL_nil; apply seqP_normal; (refine vC_cond_dec rfl (fun _ => ?_) (fun h => by omega)); apply vC_region; ((apply vL_val); (case h => ((apply opv_fieldAddr); exact rfl))); ((apply vL_val); (case h => ((apply opv_loadb1); exact rfl; exact rfl; (first | assumption | infer_instance); exact rfl))); ((apply vL_val); (case h => ((apply opv_fieldAddr); exact rfl))); ((apply vL_skip); (case h => ((apply ops_store1); (first | exact norm_eq rfl | ((conv => lhs; whnf) <;> exact rfl)); (first | exact norm_eq rfl | ((conv => lhs; whnf) <;> exact rfl)); (first | rfl | assumption); (first | assumption | infer_instance); (first | decide | exact of_decide_eq_true rfl | (simp; done))))); apply vL_nil; apply seqP_normal; (iterate 2 (apply vC_seq)); apply vC_region; ((apply vL_val); (case h => ((apply opv_fieldAddr); exact rfl))); ((apply vL_val); (case h => ((apply opv_loadb1); exact rfl; exact rfl; (first | assumption | infer_instance); exact rfl))); ((apply vL_val); (case h => ((apply opv_E); exact rfl))); apply vL_nil; apply seqP_normal; (refine vC_cond_dec rfl (fun h => by omega) (fun _ => ?_)); apply vC_skip; apply seqP_normal; apply vC_seq; apply vC_region; ((apply vL_val); (case h => ((apply opv_fieldAddr); exact rfl))); ((apply vL_val); (case h => ((apply opv_loadb1); exact rfl; exact rfl; (first | assumption | infer_instance); exact rfl))); ((apply vL_val); (case h => ((apply opv_E); exact rfl))); ((apply vL_val); (case h => ((apply opv_indexAddr); (first | exact norm_eq rfl | ((conv => lhs; whnf) <;> exact rfl)); exact rfl; (first | assumption | infer_instance); (first | omega | (simp only [List.length_map]; omega)); (first | omega | (simp only [List.length_map]; omega))))); ((apply vL_val); (case h => ((apply opv_fieldAddr); exact rfl))))
  refine vL_gen (fun w' => Fr No w w' ∧ Blk w'.heap b2 (clE { c1 with broker := a.leader }) 25 ∧ Blk w'.heap b3 (rpE a) 56 ∧ Blk w'.heap b4 clZ 25 ∧ ClOwn w'.heap c1) ⟨hfw5.set _ _ (.inr (by omega)), Blk.as (Blk.set h25) rfl, h35.set_ne (by omega), h45.set_ne (by omega), hc5.frBlk h25 ⟨by decide, by decide, by decide⟩ ⟨by decide, by decide⟩ ((Fr.refl (fun k => k = b2) w5).set _ _ (.inl rfl))⟩ ?_
  rintro w6 ⟨hf6, h26, h36, h46, hc6⟩
  clear h25 h35 h45 hc5 hfw5 hcw5 hoff
  have ho6 := hc6.1
  rw [hx1] at ho6
  have hq6 : RqOwn w6.heap x1.rq := hc6.2.1 x1 (by rw [hx1]; exact List.mem_singleton_self _)
  have hs6 := hc6.2.2
  refine vL_val (opv_ld_elS (enc := wtE) (x0 := x1) (cs := rqE x1.rq) rfl rfl ho6.rd hxi rfl rfl) ?_
  ((((apply vL_val); (case h => (apply opw_alloc))); ((apply vL_skip); (case h => ((apply ops_storen); (first | exact norm_eq rfl | ((conv => lhs; whnf) <;> exact rfl)); (first | exact norm_eq rfl | ((conv => lhs; whnf) <;> exact rfl)); exact rfl; (first | exact (fun u hu => EncOk.one _ u hu) | (intro u hu; simp at hu; rcases hu with rfl | rfl <;> (first | rfl | assumption)) | (intro u hu; simp at hu; rcases hu with rfl | rfl | rfl <;> (first | rfl | assumption)) | (intro u hu; simp at hu; rcases hu with rfl | rfl | rfl | rfl <;> (first | rfl | assumption)) | exact (fun u hu => EncOk.one _ u (List.mem_of_mem_drop (List.mem_of_mem_take hu))) | (intro u hu; simp only [List.mem_cons, List.not_mem_nil, or_false] at hu; rcases hu with rfl | rfl | rfl | rfl | rfl | rfl | rfl | rfl | rfl | rfl <;> (first | rfl | assumption)) | (intro u hu; simp only [List.mem_cons, List.not_mem_nil, or_false] at hu; rcases hu with rfl | rfl | rfl | rfl | rfl | rfl | rfl | rfl | rfl | rfl | rfl | rfl | rfl | rfl | rfl | rfl | rfl | rfl | rfl | rfl | rfl | rfl | rfl <;> (first | rfl | assumption)) | (intro u hu; simp only [List.mem_cons, List.not_mem_nil, or_false] at hu; rcases hu with rfl | rfl | rfl | rfl | rfl | rfl | rfl | rfl | rfl | rfl | rfl | rfl | rfl | rfl | rfl | rfl | rfl | rfl | rfl | rfl | rfl | rfl | rfl | rfl <;> (first | rfl | assumption)) | (intro u hu; simp only [List.mem_cons, List.not_mem_nil, or_false] at hu; rcases hu with rfl | rfl | rfl | rfl | rfl | rfl | rfl | rfl | rfl | rfl | rfl | rfl | rfl | rfl | rfl | rfl | rfl | rfl | rfl | rfl | rfl | rfl | rfl | rfl | rfl | rfl <;> (first | rfl | assumption))); (first | assumption | infer_instance); (first | decide | exact of_decide_eq_true rfl | (simp; done))))); apply vL_nil)); with_reducible apply seqP_normal
  ((apply vC_seq; apply vC_region))
  refine vL_gen (fun w' => Fr No w6 w' ∧ w6.heap.size < w'.heap.size ∧ Blk w'.heap w6.heap.size (rqE x1.rq) 40) ⟨by (repeat (first | exact Fr.refl _ _ | assumption | with_reducible apply Fr.allocSet | with_reducible apply Fr.alloc | with_reducible apply Fr.drewN | with_reducible apply Fr.drew | ((with_reducible apply Fr.set); rotate_left; (right; ((try simp only [alloc_size]); omega))) | (refine Fr.trans ?_ (by assumption)))), by simp, Blk.as inferInstance rfl⟩ ?_
  rintro w7 ⟨hf7, hz7, h97⟩
  have h27 := h26.frN hf7
  have h37 := h36.frN hf7
  have h47 := h46.frN hf7
  have ho7 := ho6.frN hf7
  have hq7 := hq6.frN hf7
  have hs7 := hs6.frN hf7
  have hfw7 := hf6.trans hf7
  have hb69 : b4 < w6.heap.size := h46.lt
  obtain ⟨b9, eb9⟩ : ∃ b9, b9 = w6.heap.size := ⟨_, rfl⟩
  rw [← eb9] at h97 ⊢
  clear h26 h36 h46 hc6 hq6 hs6 hf6 ho6 hf7
  (((apply vL_val); (case h => ((apply opv_fieldAddr); exact rfl))); ((apply vL_val); (case h => ((apply opv_loadb1); exact rfl; exact rfl; (first | assumption | infer_instance); exact rfl))); (iterate 2 (((apply vL_val); (case h => ((apply opv_E); exact rfl))))); ((apply vL_val); (case h => ((apply opv_add); exact rfl; exact rfl; (first | omega | (simp only [List.length_map]; omega))))))
  refine vL_callF rfl (deleteN_wt c1.wv.1 [x1] 0 w7 (Nat.zero_lt_one : 0 < 1) ho7) rfl ?_
  rintro wv2 w8 ⟨hf8, ho8, hov8, hone8⟩
  have h28 := h27.fr hf8 (fun h => Own.ne_blk ho7 h27 (by decide) h)
  have h38 := h37.fr hf8 (fun h => Own.ne_blk ho7 h37 (by decide) h)
  have h48 := h47.fr hf8 (fun h => Own.ne_blk ho7 h47 (by decide) h)
  have h98 := h97.fr hf8 (fun h => Own.ne_blk ho7 h97 (by decide) h)
  have hq8 := hq7.frOwn ho7 (by decide) (by decide) (by decide) hf8
  have hs8 := hs7.fr hf8 (fun b hb h => Own.ne_own hs7 ho7 (by decide) b hb h)
  have hfw8 : Fr No w w8 := hfw7.trans' hf8 (fun k hk => .inr (by have := hfwz k hk; omega))
  replace ho8 : Own w8.heap 42 26 wtE wv2 [] := ho8
  clear h27 h37 h47 hq7 hs7 hfw7 ho7 hf8 h97
  haveI n29 : NeB b2 b9 := ⟨by omega⟩
  haveI n92 : NeB b9 b2 := ⟨by omega⟩
  haveI n39 : NeB b3 b9 := ⟨by omega⟩
  haveI n93 : NeB b9 b3 := ⟨by omega⟩
  haveI n49 : NeB b4 b9 := ⟨by omega⟩
  haveI n94 : NeB b9 b4 := ⟨by omega⟩
  ((((apply vL_val); (case h => ((apply opv_fieldAddr); exact rfl))); ((apply vL_skip); (case h => ((apply ops_store1); (first | exact norm_eq rfl | ((conv => lhs; whnf) <;> exact rfl)); (first | exact norm_eq rfl | ((conv => lhs; whnf) <;> exact rfl)); (first | rfl | assumption); (first | assumption | infer_instance); (first | decide | exact of_decide_eq_true rfl | (simp; done))))); apply vL_nil)); with_reducible apply seqP_normal
  ((apply vC_seq; apply vC_block; apply vC_seq; apply vC_region))
  obtain ⟨c2, ec2⟩ : ∃ c2 : CL, c2 = { c1 with broker := a.leader, wv := ⟨wv2, hone8⟩, ws := [] } := ⟨_, rfl⟩
  refine vL_gen (fun w' => Fr No w w' ∧ Blk w'.heap b2 (clE c2) 25 ∧ Blk w'.heap b3 (rpE a) 56 ∧ Blk w'.heap b4 clZ 25 ∧ Blk w'.heap b9 (rqE x1.rq) 40 ∧ ClOwn w'.heap c2 ∧ RqOwn w'.heap x1.rq) ⟨hfw8.set _ _ (.inr (by omega)), Blk.as (Blk.set h28) (by rw [ec2]; rfl), h38.set_ne (by omega), h48.set_ne (by omega), h98.set_ne (by have := h28.lt; omega), (by rw [ec2]; exact ⟨ho8.set (Own.ne_blk ho8 h28 (by decide)), fun y hy => (by cases hy), hs8.set (Own.ne_blk hs8 h28 (by decide))⟩), hq8.frBlk h28 (by decide) (by decide) (by decide) ((Fr.refl (fun k => k = b2) w8).set _ _ (.inl rfl))⟩ ?_
  rintro w9 ⟨hf9, h29, h39, h49, h99, hc9, hq9⟩
  clear h28 h38 h48 h98 hq8 hs8 hfw8 ho8
  have hk1 : x1.rq.nf = x.rq.nf := by have := congrArg WT.rq hx1n; exact this
  have hw2 := c2.wv.2
  have hs2 := c2.sv.2
  have hov2 : ∀ b, own c2.wv.1 = some b → w.heap.size + 3 ≤ b := by rw [ec2]; intro b hb; exact hfwz b (hov8 ▸ hb)
  have hos2 : ∀ b, own c2.sv.1 = some b → w.heap.size + 3 ≤ b := by rw [ec2]; exact hfsz
  have q1 : x1.rq.k = x.rq.k := by have := congrArg RQ.k hk1; exact this
  have q2 : x1.rq.pid = x.rq.pid := by have := congrArg RQ.pid hk1; exact this
  have q3 : x1.rq.ep = x.rq.ep := by have := congrArg RQ.ep hk1; exact this
  have q4 : x1.rq.topic = x.rq.topic := by have := congrArg RQ.topic hk1; exact this
  have q5 : x1.rq.part = x.rq.part := by have := congrArg RQ.part hk1; exact this
  have q6 : x1.rq.fi = x.rq.fi := by have := congrArg RQ.fi hk1; exact this
  have q7 : x1.rq.brs.length = x.rq.brs.length := by
    have h1 : x1.rq.brs.map (fun y => (nilO, y.2)) = x.rq.brs.map (fun y => (nilO, y.2)) := by have := congrArg RQ.brs hk1; exact this
    simpa using congrArg List.length h1
  have p1 : c1.pid = c.pid := by have := congrArg CL.pid hnf; exact this
  have p2 : c1.ep = c.ep := by have := congrArg CL.ep hnf; exact this
  have p3 : c1.stale = c.stale := by have := congrArg CL.stale hnf; exact this
  have p4 : c1.ss = c.ss := by have := congrArg CL.ss hnf; exact this
  have p5 : c1.id = c.id := by have := congrArg CL.id hnf; exact this
  have p6 : c1.next = c.next := by have := congrArg CL.next hnf; exact this
  have hown : ownB c2 x1.rq = true := by
    rw [← hkk, ec2]
    unfold ownB
    simp only [q1, q2, q3, p1, p2, p3]
  have hss2 : c2.ss = [] := by rw [ec2]; exact p4.trans hss
  have ho9 : Own w9.heap 65 3 sqE c2.sv.1 [] := by have := hc9.2.2; rw [hss2] at this; exact this
  have hov9 : Own w9.heap 42 26 wtE c2.wv.1 [] := by have := hc9.1; rw [ec2] at this ⊢; exact this
  (((apply vL_val); (case h => ((apply opv_loadbC); exact rfl; exact rfl; (first | assumption | infer_instance); (first | exact (rfl : _ = [_]) | exact (rfl : _ = [_, _]) | exact (rfl : _ = [_, _, _]) | exact (rfl : _ = [_, _, _, _]) | exact (rfl : _ = [_, _, _, _, _]) | exact (rfl : _ = [_, _, _, _, _, _]) | exact (rfl : _ = [_, _, _, _, _, _, _]) | exact (rfl : _ = [_, _, _, _, _, _, _, _]) | exact (rfl : _ = [_, _, _, _, _, _, _, _, _]) | exact (rfl : _ = [_, _, _, _, _, _, _, _, _, _]) | exact (rfl : _ = [_, _, _, _, _, _, _, _, _, _, _]) | exact (rfl : _ = [_, _, _, _, _, _, _, _, _, _, _, _])); exact rfl))); ((apply vL_val); (case h => ((apply opv_loadb); exact rfl; exact rfl; (first | assumption | infer_instance); exact rfl))))
  refine vL_callF rfl (own31 c2 x1.rq w9) rfl ?_
  rintro _ w10 ⟨rfl, hf10⟩
  rw [hown]
  have h2x := h29.frN hf10
  have h3x := h39.frN hf10
  have h9x := h99.frN hf10
  (((apply vL_val); (case h => ((apply opv_E); exact rfl))); ((apply vL_wanted); exact rfl); ((apply vL_val); (case h => ((apply opv_fieldAddr); exact rfl))); ((apply vL_wanted); exact rfl); ((apply vL_val); (case h => ((apply opv_loadb1); exact rfl; exact rfl; (first | assumption | infer_instance); exact rfl))); ((apply vL_wanted); exact rfl); (iterate 3 (((apply vL_val); (case h => ((apply opv_E); exact rfl))))); apply vL_nil; apply seqP_normal; (refine vC_cond_dec rfl (fun h => by omega) (fun _ => ?_)); apply vC_seq; apply vC_region; ((apply vL_val); (case h => ((apply opv_loadbC); exact rfl; exact rfl; (first | assumption | infer_instance); (first | exact (rfl : _ = [_]) | exact (rfl : _ = [_, _]) | exact (rfl : _ = [_, _, _]) | exact (rfl : _ = [_, _, _, _]) | exact (rfl : _ = [_, _, _, _, _]) | exact (rfl : _ = [_, _, _, _, _, _]) | exact (rfl : _ = [_, _, _, _, _, _, _]) | exact (rfl : _ = [_, _, _, _, _, _, _, _]) | exact (rfl : _ = [_, _, _, _, _, _, _, _, _]) | exact (rfl : _ = [_, _, _, _, _, _, _, _, _, _]) | exact (rfl : _ = [_, _, _, _, _, _, _, _, _, _, _]) | exact (rfl : _ = [_, _, _, _, _, _, _, _, _, _, _, _])); exact rfl))); ((apply vL_val); (case h => ((apply opv_loadb); exact rfl; exact rfl; (first | assumption | infer_instance); exact rfl))))
  refine vL_callF rfl (own31 c2 x1.rq w10) rfl ?_
  rintro _ w11 ⟨rfl, hf11⟩
  rw [hown]
  have hf911 := hf10.trans hf11
  have h2b := h29.frN hf911
  have h3b := h39.frN hf911
  have h4b := h49.frN hf911
  have h9b := h99.frN hf911
  have hqb := hq9.frN hf911
  have hob := ho9.frN hf911
  have hovb := hov9.frN hf911
  have hfwb := hf9.trans hf911
  clear h29 h39 h49 h99 hc9 hq9 hf9 h2x h3x h9x hf10 hf11 hf911 ho9 hov9
  (((apply vL_val); (case h => ((apply opv_E); exact rfl))); ((apply vL_wanted); exact rfl); ((apply vL_val); (case h => ((apply opv_fieldAddr); exact rfl))); ((apply vL_wanted); exact rfl); ((apply vL_val); (case h => ((apply opv_loadb1); exact rfl; exact rfl; (first | assumption | infer_instance); exact rfl))); ((apply vL_wanted); exact rfl); (iterate 3 (((apply vL_val); (case h => ((apply opv_E); exact rfl))))); apply vL_nil; apply seqP_normal; (refine vC_cond_dec rfl (fun _ => ?_) (fun h => by omega)); apply vC_region; ((apply vL_val); (case h => ((apply opv_loadb); exact rfl; exact rfl; (first | assumption | infer_instance); exact rfl))))
  refine vL_callF rfl (stands31 c2 x1.rq b2 w11 h2b hob hss2 hqb.rd (by rw [q6]; exact hfi) (by rw [q7]; exact hbl)) rfl ?_
  rintro _ w12 ⟨rfl, sv2, h2C, hsC, hf12', hfsC⟩
  obtain ⟨c3, ec3⟩ : ∃ c3 : CL, c3 = { c2 with sv := sv2, ss := [⟨x1.rq.topic, x1.rq.part, x1.rq.fi + x1.rq.brs.length⟩] } := ⟨_, rfl⟩
  rw [← ec3] at h2C
  have h3C := h3b.fr hf12' (fun h => by rcases h with h | h; exact absurd h (by omega); exact Own.ne_blk hob h3b (by decide) h)
  have h4C := h4b.fr hf12' (fun h => by rcases h with h | h; exact absurd h (by omega); exact Own.ne_blk hob h4b (by decide) h)
  have hovC := hovb.fr hf12' (fun b hb h => by rcases h with h | h; exact Own.ne_blk hovb h2b (by decide) (h ▸ hb); exact Own.ne_own hovb hob (by decide) b hb h)
  have hcC : ClOwn w12.heap c3 := by
    have ew : c2.ws = [] := by rw [ec2]
    rw [ec3]
    refine ⟨?_, ?_, hsC⟩
    · show Own w12.heap 42 26 wtE c2.wv.1 c2.ws
      rw [ew]; exact hovC
    · intro y hy
      have hy' : y ∈ c2.ws := hy
      rw [ew] at hy'; cases hy'
  have hfC : Fr No w w12 := hfwb.trans' hf12' (fun k hk => .inr (by rcases hk with hk | hk; omega; have := hos2 k hk; omega))
  clear h2b h3b h4b h9b hqb hob hovb hfwb hovC hsC hf12'
  have hnfc : c3.nf = ({ c with broker := a.leader, ws := [], ss := [⟨x.rq.topic, x.rq.part, x.rq.fi + x.rq.brs.length⟩] } : CL).nf := by
    rw [ec3, ec2, q4, q5, q6, q7]
    show ({ c1 with broker := a.leader, wv := nilO, sv := nilO, ws := [], ss := [⟨x.rq.topic, x.rq.part, x.rq.fi + x.rq.brs.length⟩] } : CL) = { c with broker := a.leader, wv := nilO, sv := nilO, ws := [], ss := [⟨x.rq.topic, x.rq.part, x.rq.fi + x.rq.brs.length⟩] }
    rw [hnw, hbk, p1, p2, p3, p5, p6]
  have hw3 := c3.wv.2
  have hs3 := c3.sv.2
  have har : Rd w12.heap 1 brE a.rrv.1 [] := by rw [hrr]; exact (Own.nil w12.heap 71 1 brE).rd
  (apply vL_nil; apply blockP_normal; apply seqP_normal; apply vC_seq; apply vC_region; ((apply vL_val); (case h => ((apply opv_fieldAddr); exact rfl))); ((apply vL_val); (case h => ((apply opv_loadb1); exact rfl; exact rfl; (first | assumption | infer_instance); exact rfl))))
  refine vL_callF rfl (clone_br a.rrv.1 [] w12 har (by simp)) rfl ?_
  rintro rv2 w13 ⟨hf13, hr13, hrf13, hone13⟩
  have h2d := h2C.frN hf13
  have h3d := h3C.frN hf13
  have h4d := h4C.frN hf13
  have hcd := hcC.frN hf13
  have hfwd := hfC.trans hf13
  ((((apply vL_val); (case h => ((apply opv_fieldAddr); exact rfl))); ((apply vL_skip); (case h => ((apply ops_store1); (first | exact norm_eq rfl | ((conv => lhs; whnf) <;> exact rfl)); (first | exact norm_eq rfl | ((conv => lhs; whnf) <;> exact rfl)); (first | rfl | assumption); (first | assumption | infer_instance); (first | decide | exact of_decide_eq_true rfl | (simp; done))))); apply vL_nil)); with_reducible apply seqP_normal
  (((iterate 2 (apply vC_seq)); apply vC_region))
  refine vL_gen (fun w' => Fr No w w' ∧ Blk w'.heap b2 (clE c3) 25 ∧ Blk w'.heap b3 (rpE { a with rrv := ⟨rv2, hone13⟩ }) 56 ∧ Blk w'.heap b4 clZ 25 ∧ ClOwn w'.heap c3 ∧ Rd w'.heap 1 brE rv2 []) ⟨hfwd.set _ _ (.inr (by omega)), h2d.set_ne (by omega), Blk.as (Blk.set h3d) rfl, h4d.set_ne (by omega), hcd.frBlk h3d ⟨by decide, by decide, by decide⟩ ⟨by decide, by decide⟩ ((Fr.refl (fun k => k = b3) w13).set _ _ (.inl rfl)), (hr13.set (Own.ne_blk hr13 h3d (by decide))).rd⟩ ?_
  rintro w14 ⟨hf14, h2e, h3e, h4e, hce, hre⟩
  clear h2C h3C h4C hcC hfC h2d h3d h4d hcd hfwd hf13 hr13 har
  have hl0 : (([] : List (OV × List Int)).length : Int) = 0 := rfl
  (((apply vL_val); (case h => ((apply opv_fieldAddr); exact rfl))); ((apply vL_val); (case h => ((apply opv_loadb1); exact rfl; exact rfl; (first | assumption | infer_instance); exact rfl))); ((apply vL_val); (case h => ((apply opv_len); (first | exact norm_eq rfl | ((conv => lhs; whnf) <;> exact rfl)); (first | assumption | infer_instance)))); ((apply vL_val); (case h => ((apply opv_E); exact rfl))); apply vL_nil; apply seqP_normal; apply vC_block)
  (apply vC_loop1 748243166387255703404092769199714522219473214112768 155 (fun u w' => u = .int .i64 0 ∧ Fr No w w' ∧ Blk w'.heap b2 (clE c3) 25 ∧ Blk w'.heap b3 (rpE { a with rrv := ⟨rv2, hone13⟩ }) 56 ∧ Blk w'.heap b4 clZ 25 ∧ ClOwn w'.heap c3) (fun _ _ => 0)); (case h1 => (first | exact norm_eq rfl | ((conv => lhs; whnf) <;> exact rfl)))
  case h0 => exact ⟨rfl, hf14, h2e, h3e, h4e, hce⟩
  case round =>
  clear h2e h3e h4e hce hre hf14
  rintro junk _ w15 ⟨rfl, hf15, h2f, h3f, h4f, hcf⟩
  have hap : Rd w15.heap 2 tE a.mpl.1 [] := by rw [hpl]; exact (Own.nil w15.heap 36 2 tE).rd
  (apply vC_seq; apply vC_region; ((apply vL_val); (case h => ((apply opv_E); exact rfl))); apply vL_nil; apply seqP_normal; apply vC_seq; ((apply vC_cond_false); exact rfl); apply vC_exit; apply seqP_exit; apply loopP_exit; apply blockP_exit; apply seqP_normal; apply vC_seq; apply vC_region; (iterate 2 (((apply vL_val); (case h => ((apply opv_fieldAddr); exact rfl))))); ((apply vL_val); (case h => ((apply opv_loadb1); exact rfl; exact rfl; (first | assumption | infer_instance); exact rfl))))
  refine vL_callF rfl (clone_pl a.mpl.1 [] w15 hap (by simp)) rfl ?_
  rintro pv2 w16 ⟨hf16, hr16, hrf16, hone16⟩
  have h2g := h2f.frN hf16
  have h3g := h3f.frN hf16
  have h4g := h4f.frN hf16
  have hcg := hcf.frN hf16
  have hfwg := hf15.trans hf16
  (((iterate 2 (((apply vL_val); (case h => ((apply opv_fieldAddr); exact rfl))))); ((apply vL_skip); (case h => ((apply ops_store1); (first | exact norm_eq rfl | ((conv => lhs; whnf) <;> exact rfl)); (first | exact norm_eq rfl | ((conv => lhs; whnf) <;> exact rfl)); (first | rfl | assumption); (first | assumption | infer_instance); (first | decide | exact of_decide_eq_true rfl | (simp; done))))); apply vL_nil)); with_reducible apply seqP_normal
  ((apply vC_seq))
  refine vC_gen (fun w' => Fr No w w' ∧ Blk w'.heap b2 (clE c3) 25 ∧ Blk w'.heap b3 (rpE { a with rrv := ⟨rv2, hone13⟩, mpl := ⟨pv2, hone16⟩ }) 56 ∧ Blk w'.heap b4 clZ 25 ∧ ClOwn w'.heap c3) ⟨hfwg.set _ _ (.inr (by omega)), h2g.set_ne (by omega), Blk.as (Blk.set h3g) rfl, h4g.set_ne (by omega), hcg.frBlk h3g ⟨by decide, by decide, by decide⟩ ⟨by decide, by decide⟩ ((Fr.refl (fun k => k = b3) w16).set _ _ (.inl rfl))⟩ ?_
  rintro w17 ⟨hf17, h2h, h3h, h4h, hch⟩
  clear h2f h3f h4f hcf h2g h3g h4g hcg hfwg hf16 hf15 hap hr16
  obtain ⟨a2, ea2⟩ : ∃ a2 : RP, a2 = { a with rrv := ⟨rv2, hone13⟩, mpl := ⟨pv2, hone16⟩ } := ⟨_, rfl⟩
  rw [← ea2] at h3h
  have ha21 := a2.rrv.2
  have ha22 := a2.mpl.2
  have h2hd := h2h.frN (Fr.refl No w17).drew
  have h3hd := h3h.frN (Fr.refl No w17).drew
  have h4hd := h4h.frN (Fr.refl No w17).drew
  refine vC_draw' ((fun wf => Blk wf.heap b2 (clE c3) 25 ∧ Blk wf.heap b3 (rpE a2) 56)) (by (first | exact trivial | assumption | infer_instance | (refine ⟨?_, ?_⟩ <;> (first | assumption | infer_instance)) | ((repeat (first | exact Fr.refl _ _ | assumption | with_reducible apply Fr.allocSet | with_reducible apply Fr.alloc | with_reducible apply Fr.drewN | with_reducible apply Fr.drew | ((with_reducible apply Fr.set); rotate_left; (right; ((try simp only [alloc_size]); omega))) | (refine Fr.trans ?_ (by assumption)))); done))) ?_
  ((apply (tk 0)); (case hi => exact rfl); (case hf => kernel_rfl); (case hS => (first | exact trivial | assumption | infer_instance | (refine ⟨?_, ?_⟩ <;> (first | assumption | infer_instance)) | ((repeat (first | exact Fr.refl _ _ | assumption | with_reducible apply Fr.allocSet | with_reducible apply Fr.alloc | with_reducible apply Fr.drewN | with_reducible apply Fr.drew | ((with_reducible apply Fr.set); rotate_left; (right; ((try simp only [alloc_size]); omega))) | (refine Fr.trans ?_ (by assumption)))); done))); (case hy => (rintro wf ⟨hwa, hwb⟩; (((apply opv_loadbC); exact rfl; exact rfl; (first | assumption | infer_instance); (first | exact (rfl : _ = [_]) | exact (rfl : _ = [_, _]) | exact (rfl : _ = [_, _, _]) | exact (rfl : _ = [_, _, _, _]) | exact (rfl : _ = [_, _, _, _, _]) | exact (rfl : _ = [_, _, _, _, _, _]) | exact (rfl : _ = [_, _, _, _, _, _, _]) | exact (rfl : _ = [_, _, _, _, _, _, _, _]) | exact (rfl : _ = [_, _, _, _, _, _, _, _, _]) | exact (rfl : _ = [_, _, _, _, _, _, _, _, _, _]) | exact (rfl : _ = [_, _, _, _, _, _, _, _, _, _, _]) | exact (rfl : _ = [_, _, _, _, _, _, _, _, _, _, _, _])); exact rfl)))))
  ((apply (tk 1)); (case hi => exact rfl); (case hf => kernel_rfl); (case hS => (first | exact trivial | assumption | infer_instance | (refine ⟨?_, ?_⟩ <;> (first | assumption | infer_instance)) | ((repeat (first | exact Fr.refl _ _ | assumption | with_reducible apply Fr.allocSet | with_reducible apply Fr.alloc | with_reducible apply Fr.drewN | with_reducible apply Fr.drew | ((with_reducible apply Fr.set); rotate_left; (right; ((try simp only [alloc_size]); omega))) | (refine Fr.trans ?_ (by assumption)))); done))); (case hy => (rintro wf ⟨hwa, hwb⟩; (((apply opv_fieldAddr); exact rfl)))))
  ((apply (tk 2)); (case hi => exact rfl); (case hf => kernel_rfl); (case hS => (first | exact trivial | assumption | infer_instance | (refine ⟨?_, ?_⟩ <;> (first | assumption | infer_instance)) | ((repeat (first | exact Fr.refl _ _ | assumption | with_reducible apply Fr.allocSet | with_reducible apply Fr.alloc | with_reducible apply Fr.drewN | with_reducible apply Fr.drew | ((with_reducible apply Fr.set); rotate_left; (right; ((try simp only [alloc_size]); omega))) | (refine Fr.trans ?_ (by assumption)))); done))); (case hy => (rintro wf ⟨hwa, hwb⟩; (((apply opv_loadb1); exact rfl; exact rfl; (first | assumption | infer_instance); exact rfl)))))
  ((apply (tk 3)); (case hi => exact rfl); (case hf => kernel_rfl); (case hS => (first | exact trivial | assumption | infer_instance | (refine ⟨?_, ?_⟩ <;> (first | assumption | infer_instance)) | ((repeat (first | exact Fr.refl _ _ | assumption | with_reducible apply Fr.allocSet | with_reducible apply Fr.alloc | with_reducible apply Fr.drewN | with_reducible apply Fr.drew | ((with_reducible apply Fr.set); rotate_left; (right; ((try simp only [alloc_size]); omega))) | (refine Fr.trans ?_ (by assumption)))); done))); (case hy => (rintro wf ⟨hwa, hwb⟩; (((apply opv_fieldAddr); exact rfl)))))
  ((apply (tk 4)); (case hi => exact rfl); (case hf => kernel_rfl); (case hS => (first | exact trivial | assumption | infer_instance | (refine ⟨?_, ?_⟩ <;> (first | assumption | infer_instance)) | ((repeat (first | exact Fr.refl _ _ | assumption | with_reducible apply Fr.allocSet | with_reducible apply Fr.alloc | with_reducible apply Fr.drewN | with_reducible apply Fr.drew | ((with_reducible apply Fr.set); rotate_left; (right; ((try simp only [alloc_size]); omega))) | (refine Fr.trans ?_ (by assumption)))); done))); (case hy => (rintro wf ⟨hwa, hwb⟩; (((apply opv_loadb1); exact rfl; exact rfl; (first | assumption | infer_instance); exact rfl)))))
  ((apply (tk 5)); (case hi => exact rfl); (case hf => kernel_rfl); (case hS => (first | exact trivial | assumption | infer_instance | (refine ⟨?_, ?_⟩ <;> (first | assumption | infer_instance)) | ((repeat (first | exact Fr.refl _ _ | assumption | with_reducible apply Fr.allocSet | with_reducible apply Fr.alloc | with_reducible apply Fr.drewN | with_reducible apply Fr.drew | ((with_reducible apply Fr.set); rotate_left; (right; ((try simp only [alloc_size]); omega))) | (refine Fr.trans ?_ (by assumption)))); done))); (case hy => (rintro wf ⟨hwa, hwb⟩; exact opv_loadbC (cs := rpE a2) rfl rfl hwb rfl rfl)))
  ((apply (tk 6)); (case hi => exact rfl); (case hf => kernel_rfl); (case hS => (first | exact trivial | assumption | infer_instance | (refine ⟨?_, ?_⟩ <;> (first | assumption | infer_instance)) | ((repeat (first | exact Fr.refl _ _ | assumption | with_reducible apply Fr.allocSet | with_reducible apply Fr.alloc | with_reducible apply Fr.drewN | with_reducible apply Fr.drew | ((with_reducible apply Fr.set); rotate_left; (right; ((try simp only [alloc_size]); omega))) | (refine Fr.trans ?_ (by assumption)))); done))); (case hy => (rintro wf ⟨hwa, hwb⟩; (((apply opv_buildS); exact rfl; (first | exact (rfl : _ = some []) | exact (rfl : _ = some [_]) | exact (rfl : _ = some [_, _]) | exact (rfl : _ = some [_, _, _]) | exact (rfl : _ = some [_, _, _, _]) | exact (rfl : _ = some [_, _, _, _, _]) | exact (rfl : _ = some [_, _, _, _, _, _]) | exact (rfl : _ = some [_, _, _, _, _, _, _]) | exact (rfl : _ = some [_, _, _, _, _, _, _, _]) | exact (rfl : _ = some [_, _, _, _, _, _, _, _, _]) | exact (rfl : _ = some [_, _, _, _, _, _, _, _, _, _]) | exact (rfl : _ = some [_, _, _, _, _, _, _, _, _, _, _]) | exact (rfl : _ = some [_, _, _, _, _, _, _, _, _, _, _, _]) | exact (rfl : _ = some [_, _, _, _, _, _, _, _, _, _, _, _, _]) | exact (rfl : _ = some [_, _, _, _, _, _, _, _, _, _, _, _, _, _]) | exact (rfl : _ = some [_, _, _, _, _, _, _, _, _, _, _, _, _, _, _]) | exact (rfl : _ = some [_, _, _, _, _, _, _, _, _, _, _, _, _, _, _, _]) | exact (rfl : _ = some [_, _, _, _, _, _, _, _, _, _, _, _, _, _, _, _, _, _, _, _, _, _, _]) | exact (rfl : _ = some [_, _, _, _, _, _, _, _, _, _, _, _, _, _, _, _, _, _, _, _, _, _, _, _]) | exact (rfl : _ = some [_, _, _, _, _, _, _, _, _, _, _, _, _, _, _, _, _, _, _, _, _, _, _, _, _, _]) | exact (rfl : _ = some [_, _, _, _, _, _, _, _, _, _, _, _, _, _, _, _, _, _])))))))
  refine vA_two 7 8 rfl rfl (by kernel_rfl) (by (first | exact trivial | assumption | infer_instance | (refine ⟨?_, ?_⟩ <;> (first | assumption | infer_instance)) | ((repeat (first | exact Fr.refl _ _ | assumption | with_reducible apply Fr.allocSet | with_reducible apply Fr.alloc | with_reducible apply Fr.drewN | with_reducible apply Fr.drew | ((with_reducible apply Fr.set); rotate_left; (right; ((try simp only [alloc_size]); omega))) | (refine Fr.trans ?_ (by assumption)))); done))) (fun K hK => ?_) (fun K hK => ?_)
  · (((apply vL_val); (case h => ((apply opw_buildSl); exact rfl; exact rfl; exact rfl; (first | exact (rfl : _ = some []) | exact (rfl : _ = some [_]) | exact (rfl : _ = some [_, _]) | exact (rfl : _ = some [_, _, _]) | exact (rfl : _ = some [_, _, _, _]) | exact (rfl : _ = some [_, _, _, _, _]) | exact (rfl : _ = some [_, _, _, _, _, _]) | exact (rfl : _ = some [_, _, _, _, _, _, _]) | exact (rfl : _ = some [_, _, _, _, _, _, _, _]) | exact (rfl : _ = some [_, _, _, _, _, _, _, _, _]) | exact (rfl : _ = some [_, _, _, _, _, _, _, _, _, _]) | exact (rfl : _ = some [_, _, _, _, _, _, _, _, _, _, _]) | exact (rfl : _ = some [_, _, _, _, _, _, _, _, _, _, _, _]) | exact (rfl : _ = some [_, _, _, _, _, _, _, _, _, _, _, _, _]) | exact (rfl : _ = some [_, _, _, _, _, _, _, _, _, _, _, _, _, _]) | exact (rfl : _ = some [_, _, _, _, _, _, _, _, _, _, _, _, _, _, _]) | exact (rfl : _ = some [_, _, _, _, _, _, _, _, _, _, _, _, _, _, _, _]) | exact (rfl : _ = some [_, _, _, _, _, _, _, _, _, _, _, _, _, _, _, _, _, _, _, _, _, _, _]) | exact (rfl : _ = some [_, _, _, _, _, _, _, _, _, _, _, _, _, _, _, _, _, _, _, _, _, _, _, _]) | exact (rfl : _ = some [_, _, _, _, _, _, _, _, _, _, _, _, _, _, _, _, _, _, _, _, _, _, _, _, _, _]) | exact (rfl : _ = some [_, _, _, _, _, _, _, _, _, _, _, _, _, _, _, _, _, _]))))); apply vL_nil)
    refine ⟨rfl, hK _ _ ?_⟩
    refine vA_only 8 rfl (by kernel_rfl) (by (first | exact trivial | assumption | infer_instance | (refine ⟨?_, ?_⟩ <;> (first | assumption | infer_instance)) | ((repeat (first | exact Fr.refl _ _ | assumption | with_reducible apply Fr.allocSet | with_reducible apply Fr.alloc | with_reducible apply Fr.drewN | with_reducible apply Fr.drew | ((with_reducible apply Fr.set); rotate_left; (right; ((try simp only [alloc_size]); omega))) | (refine Fr.trans ?_ (by assumption)))); done))) (fun K hK => ?_)
    (((apply vL_skip); (case h => ((apply ops_storen); (first | exact norm_eq rfl | ((conv => lhs; whnf) <;> exact rfl)); (first | exact norm_eq rfl | ((conv => lhs; whnf) <;> exact rfl)); exact rfl; (first | exact (fun u hu => EncOk.one _ u hu) | (intro u hu; simp at hu; rcases hu with rfl | rfl <;> (first | rfl | assumption)) | (intro u hu; simp at hu; rcases hu with rfl | rfl | rfl <;> (first | rfl | assumption)) | (intro u hu; simp at hu; rcases hu with rfl | rfl | rfl | rfl <;> (first | rfl | assumption)) | exact (fun u hu => EncOk.one _ u (List.mem_of_mem_drop (List.mem_of_mem_take hu))) | (intro u hu; simp only [List.mem_cons, List.not_mem_nil, or_false] at hu; rcases hu with rfl | rfl | rfl | rfl | rfl | rfl | rfl | rfl | rfl | rfl <;> (first | rfl | assumption)) | (intro u hu; simp only [List.mem_cons, List.not_mem_nil, or_false] at hu; rcases hu with rfl | rfl | rfl | rfl | rfl | rfl | rfl | rfl | rfl | rfl | rfl | rfl | rfl | rfl | rfl | rfl | rfl | rfl | rfl | rfl | rfl | rfl | rfl <;> (first | rfl | assumption)) | (intro u hu; simp only [List.mem_cons, List.not_mem_nil, or_false] at hu; rcases hu with rfl | rfl | rfl | rfl | rfl | rfl | rfl | rfl | rfl | rfl | rfl | rfl | rfl | rfl | rfl | rfl | rfl | rfl | rfl | rfl | rfl | rfl | rfl | rfl <;> (first | rfl | assumption)) | (intro u hu; simp only [List.mem_cons, List.not_mem_nil, or_false] at hu; rcases hu with rfl | rfl | rfl | rfl | rfl | rfl | rfl | rfl | rfl | rfl | rfl | rfl | rfl | rfl | rfl | rfl | rfl | rfl | rfl | rfl | rfl | rfl | rfl | rfl | rfl | rfl <;> (first | rfl | assumption))); (first | assumption | infer_instance); (first | decide | exact of_decide_eq_true rfl | (simp; done))))); apply vL_nil)
    refine ⟨rfl, hK _ _ ?_⟩
    ((apply (tk 9)); (case hi => exact rfl); (case hf => kernel_rfl); (case hS => (first | exact trivial | assumption | infer_instance | (refine ⟨?_, ?_⟩ <;> (first | assumption | infer_instance)) | ((repeat (first | exact Fr.refl _ _ | assumption | with_reducible apply Fr.allocSet | with_reducible apply Fr.alloc | with_reducible apply Fr.drewN | with_reducible apply Fr.drew | ((with_reducible apply Fr.set); rotate_left; (right; ((try simp only [alloc_size]); omega))) | (refine Fr.trans ?_ (by assumption)))); done))); (case hy => (rintro wf ⟨hwa, hwb⟩; (((apply opv_E); exact rfl)))))
    ((apply (tk 10)); (case hi => exact rfl); (case hf => kernel_rfl); (case hS => (first | exact trivial | assumption | infer_instance | (refine ⟨?_, ?_⟩ <;> (first | assumption | infer_instance)) | ((repeat (first | exact Fr.refl _ _ | assumption | with_reducible apply Fr.allocSet | with_reducible apply Fr.alloc | with_reducible apply Fr.drewN | with_reducible apply Fr.drew | ((with_reducible apply Fr.set); rotate_left; (right; ((try simp only [alloc_size]); omega))) | (refine Fr.trans ?_ (by assumption)))); done))); (case hy => (rintro wf ⟨hwa, hwb⟩; (((apply opv_E); exact rfl)))))
    refine vA_done (by kernel_rfl) (by (first | exact trivial | assumption | infer_instance | (refine ⟨?_, ?_⟩ <;> (first | assumption | infer_instance)) | ((repeat (first | exact Fr.refl _ _ | assumption | with_reducible apply Fr.allocSet | with_reducible apply Fr.alloc | with_reducible apply Fr.drewN | with_reducible apply Fr.drew | ((with_reducible apply Fr.set); rotate_left; (right; ((try simp only [alloc_size]); omega))) | (refine Fr.trans ?_ (by assumption)))); done))) ?_
    (apply seqP_normal; apply vC_ret)
    (apply retC3; (case ha => exact rfl); (case hD => exact rfl); (case hb => (first | assumption | infer_instance)); (case hcs => exact (rfl : _ = clE c3)); (case hl => exact rfl); (case hu => (first | exact norm_eq rfl | ((conv => lhs; whnf) <;> exact rfl))); (case hu2 => (first | exact norm_eq rfl | ((conv => lhs; whnf) <;> exact rfl))))
    exact ⟨c3, _, rfl, hch.frBlk h4h ⟨by decide, by decide, by decide⟩ ⟨by decide, by decide⟩ ((((Fr.refl (fun k => k = b4) w17).drew).alloc _).set _ _ (.inl rfl)), hf17.trans' ((((Fr.refl (fun k => k = b4) w17).drew).alloc _).set _ _ (.inl rfl)) (fun k hk => .inr (by omega)), hnfc⟩
  · (((apply vL_skip); (case h => ((apply ops_storen); (first | exact norm_eq rfl | ((conv => lhs; whnf) <;> exact rfl)); (first | exact norm_eq rfl | ((conv => lhs; whnf) <;> exact rfl)); exact rfl; (first | exact (fun u hu => EncOk.one _ u hu) | (intro u hu; simp at hu; rcases hu with rfl | rfl <;> (first | rfl | assumption)) | (intro u hu; simp at hu; rcases hu with rfl | rfl | rfl <;> (first | rfl | assumption)) | (intro u hu; simp at hu; rcases hu with rfl | rfl | rfl | rfl <;> (first | rfl | assumption)) | exact (fun u hu => EncOk.one _ u (List.mem_of_mem_drop (List.mem_of_mem_take hu))) | (intro u hu; simp only [List.mem_cons, List.not_mem_nil, or_false] at hu; rcases hu with rfl | rfl | rfl | rfl | rfl | rfl | rfl | rfl | rfl | rfl <;> (first | rfl | assumption)) | (intro u hu; simp only [List.mem_cons, List.not_mem_nil, or_false] at hu; rcases hu with rfl | rfl | rfl | rfl | rfl | rfl | rfl | rfl | rfl | rfl | rfl | rfl | rfl | rfl | rfl | rfl | rfl | rfl | rfl | rfl | rfl | rfl | rfl <;> (first | rfl | assumption)) | (intro u hu; simp only [List.mem_cons, List.not_mem_nil, or_false] at hu; rcases hu with rfl | rfl | rfl | rfl | rfl | rfl | rfl | rfl | rfl | rfl | rfl | rfl | rfl | rfl | rfl | rfl | rfl | rfl | rfl | rfl | rfl | rfl | rfl | rfl <;> (first | rfl | assumption)) | (intro u hu; simp only [List.mem_cons, List.not_mem_nil, or_false] at hu; rcases hu with rfl | rfl | rfl | rfl | rfl | rfl | rfl | rfl | rfl | rfl | rfl | rfl | rfl | rfl | rfl | rfl | rfl | rfl | rfl | rfl | rfl | rfl | rfl | rfl | rfl | rfl <;> (first | rfl | assumption))); (first | assumption | infer_instance); (first | decide | exact of_decide_eq_true rfl | (simp; done))))); apply vL_nil)
    refine ⟨rfl, hK _ _ ?_⟩
    refine vA_only 7 rfl (by kernel_rfl) (by (first | exact trivial | assumption | infer_instance | (refine ⟨?_, ?_⟩ <;> (first | assumption | infer_instance)) | ((repeat (first | exact Fr.refl _ _ | assumption | with_reducible apply Fr.allocSet | with_reducible apply Fr.alloc | with_reducible apply Fr.drewN | with_reducible apply Fr.drew | ((with_reducible apply Fr.set); rotate_left; (right; ((try simp only [alloc_size]); omega))) | (refine Fr.trans ?_ (by assumption)))); done))) (fun K hK => ?_)
    (((apply vL_val); (case h => ((apply opw_buildSl); exact rfl; exact rfl; exact rfl; (first | exact (rfl : _ = some []) | exact (rfl : _ = some [_]) | exact (rfl : _ = some [_, _]) | exact (rfl : _ = some [_, _, _]) | exact (rfl : _ = some [_, _, _, _]) | exact (rfl : _ = some [_, _, _, _, _]) | exact (rfl : _ = some [_, _, _, _, _, _]) | exact (rfl : _ = some [_, _, _, _, _, _, _]) | exact (rfl : _ = some [_, _, _, _, _, _, _, _]) | exact (rfl : _ = some [_, _, _, _, _, _, _, _, _]) | exact (rfl : _ = some [_, _, _, _, _, _, _, _, _, _]) | exact (rfl : _ = some [_, _, _, _, _, _, _, _, _, _, _]) | exact (rfl : _ = some [_, _, _, _, _, _, _, _, _, _, _, _]) | exact (rfl : _ = some [_, _, _, _, _, _, _, _, _, _, _, _, _]) | exact (rfl : _ = some [_, _, _, _, _, _, _, _, _, _, _, _, _, _]) | exact (rfl : _ = some [_, _, _, _, _, _, _, _, _, _, _, _, _, _, _]) | exact (rfl : _ = some [_, _, _, _, _, _, _, _, _, _, _, _, _, _, _, _]) | exact (rfl : _ = some [_, _, _, _, _, _, _, _, _, _, _, _, _, _, _, _, _, _, _, _, _, _, _]) | exact (rfl : _ = some [_, _, _, _, _, _, _, _, _, _, _, _, _, _, _, _, _, _, _, _, _, _, _, _]) | exact (rfl : _ = some [_, _, _, _, _, _, _, _, _, _, _, _, _, _, _, _, _, _, _, _, _, _, _, _, _, _]) | exact (rfl : _ = some [_, _, _, _, _, _, _, _, _, _, _, _, _, _, _, _, _, _]))))); apply vL_nil)
    refine ⟨rfl, hK _ _ ?_⟩
    ((apply (tk 9)); (case hi => exact rfl); (case hf => kernel_rfl); (case hS => (first | exact trivial | assumption | infer_instance | (refine ⟨?_, ?_⟩ <;> (first | assumption | infer_instance)) | ((repeat (first | exact Fr.refl _ _ | assumption | with_reducible apply Fr.allocSet | with_reducible apply Fr.alloc | with_reducible apply Fr.drewN | with_reducible apply Fr.drew | ((with_reducible apply Fr.set); rotate_left; (right; ((try simp only [alloc_size]); omega))) | (refine Fr.trans ?_ (by assumption)))); done))); (case hy => (rintro wf ⟨hwa, hwb⟩; (((apply opv_E); exact rfl)))))
    ((apply (tk 10)); (case hi => exact rfl); (case hf => kernel_rfl); (case hS => (first | exact trivial | assumption | infer_instance | (refine ⟨?_, ?_⟩ <;> (first | assumption | infer_instance)) | ((repeat (first | exact Fr.refl _ _ | assumption | with_reducible apply Fr.allocSet | with_reducible apply Fr.alloc | with_reducible apply Fr.drewN | with_reducible apply Fr.drew | ((with_reducible apply Fr.set); rotate_left; (right; ((try simp only [alloc_size]); omega))) | (refine Fr.trans ?_ (by assumption)))); done))); (case hy => (rintro wf ⟨hwa, hwb⟩; (((apply opv_E); exact rfl)))))
    refine vA_done (by kernel_rfl) (by (first | exact trivial | assumption | infer_instance | (refine ⟨?_, ?_⟩ <;> (first | assumption | infer_instance)) | ((repeat (first | exact Fr.refl _ _ | assumption | with_reducible apply Fr.allocSet | with_reducible apply Fr.alloc | with_reducible apply Fr.drewN | with_reducible apply Fr.drew | ((with_reducible apply Fr.set); rotate_left; (right; ((try simp only [alloc_size]); omega))) | (refine Fr.trans ?_ (by assumption)))); done))) ?_
    (apply seqP_normal; apply vC_ret)
    (apply retC3; (case ha => exact rfl); (case hD => exact rfl); (case hb => (first | assumption | infer_instance)); (case hcs => exact (rfl : _ = clE c3)); (case hl => exact rfl); (case hu => (first | exact norm_eq rfl | ((conv => lhs; whnf) <;> exact rfl))); (case hu2 => (first | exact norm_eq rfl | ((conv => lhs; whnf) <;> exact rfl))))
    exact ⟨c3, _, rfl, hch.frBlk h4h ⟨by decide, by decide, by decide⟩ ⟨by decide, by decide⟩ ((((Fr.refl (fun k => k = b4) w17).drew).set _ _ (.inl rfl)).alloc _), hf17.trans' ((((Fr.refl (fun k => k = b4) w17).drew).set _ _ (.inl rfl)).alloc _) (fun k hk => .inr (by omega)), hnfc⟩
end Go.Proofs.Ytchfaeaagpemlaa

set_option maxRecDepth 100000
namespace Go.Proofs.Ytchfaeaagpemlaa
open Go Go.Eng
theorem putp_nf {c c' : CL} {r : RQ} {sd : SD} (h : PutP c r c' sd) : c'.nf = { c with next := c.next + 1, wv := nilO, sv := nilO, ws := [⟨({ r with cl := c.id, call := c.next } : RQ).nf, c.now + 8, 1, c.broker % c.brokers + 1⟩] } := by
  obtain ⟨h1, h2, h3, h4, h5, h6, h7, h8, h9, _, _, x, hw, hx, hd, ht, hb⟩ := h
  unfold CL.nf
  rw [hw, h1, h2, h3, h4, h5, h6, h7, h8, h9, List.map_singleton]
  unfold WT.nf
  rw [hx, hd, ht, hb]
theorem tickp_nf {c c' : CL} {x : WT} {sd : SD} (h : TickP c x c' sd) : c'.nf = { c with now := c.now + 1, wv := nilO, sv := nilO, ws := [⟨x.rq.nf, c.now + 9, x.tries + 1, x.broker % c.brokers + 1⟩] } := by
  obtain ⟨h1, h2, h3, h4, h5, h6, h7, h8, h9, _, _, x', hw, hx, hd, ht, hb⟩ := h
  unfold CL.nf
  rw [hw, h1, h2, h3, h4, h5, h6, h7, h8, h9, List.map_singleton]
  unfold WT.nf
  rw [hx, hd, ht, hb]
/-- c holds what K says (K: without pointers) -/
structure Is (c K : CL) : Prop where
  id : c.id = K.id
  brokers : c.brokers = K.brokers
  next : c.next = K.next
  now : c.now = K.now
  broker : c.broker = K.broker
  pid : c.pid = K.pid
  ep : c.ep = K.ep
  stale : c.stale = K.stale
  ss : c.ss = K.ss
  ws : c.ws.map WT.nf = K.ws
theorem Is.of {c K : CL} (h : c.nf = K) : Is c K := by subst h; exact ⟨rfl, rfl, rfl, rfl, rfl, rfl, rfl, rfl, rfl, rfl⟩
theorem Is.nf {c K : CL} (h : Is c K) (hw : K.wv = nilO) (hs : K.sv = nilO) : c.nf = K := by
  obtain ⟨h1, h2, h3, h4, h5, h6, h7, h8, h9, h10⟩ := h
  obtain ⟨⟩ := K
  unfold CL.nf
  simp only at *
  rw [h1, h2, h3, h4, h5, h6, h7, h8, h9, h10, hw, hs]
theorem Is.nows {c K : CL} (h : Is c K) (hK : K.ws = []) : c.ws = [] := by have := h.ws; rw [hK] at this; simpa using this
theorem Is.one {c K : CL} {X : WT} (h : Is c K) (hK : K.ws = [X]) : ∃ x, c.ws = [x] ∧ x.nf = X := by
  have := h.ws
  rw [hK] at this
  obtain ⟨y, hy, e⟩ := List.map_eq_singleton_iff.1 this
  exact ⟨y, hy, e⟩
def tB : ByteArray := ⟨#[116]⟩
def rqM : RQ := { k := 4, cl := 5, call := 1, topic := ⟨#[]⟩, part := 0, pid := 0, ep := 0, fi := 0, brv := nilO, off := 0, most := 0, byt := 0, mkd := 2, grp := ⟨#[]⟩, nm := ⟨#[112]⟩, n := 0, trv := nilO, ptop := ⟨#[]⟩, ppart := 0, moff := 0, mnow := 0, mcl := 0, mcall := 0, brs := [], tps := [] }
def rqP (call fi : Int) (brs : List (OV × List Int)) : RQ := { k := 1, cl := 5, call := call, topic := tB, part := 0, pid := 7, ep := 0, fi := fi, brv := nilO, off := 0, most := 0, byt := 0, mkd := 0, grp := ⟨#[]⟩, nm := ⟨#[]⟩, n := 0, trv := nilO, ptop := ⟨#[]⟩, ppart := 0, moff := 0, mnow := 0, mcl := 0, mcall := 0, brs := brs, tps := [] }
def kA : CL := ⟨5, 3, 1, 0, 1, nilO, 0, 0, false, nilO, [], []⟩
def kB : CL := ⟨5, 3, 2, 0, 1, nilO, 0, 0, false, nilO, [⟨rqM, 8, 1, 2⟩], []⟩
def kC : CL := ⟨5, 3, 2, 0, 3, nilO, 0, 0, false, nilO, [⟨rqM, 1, 1, 3⟩], []⟩
def kD : CL := ⟨5, 3, 2, 1, 3, nilO, 0, 0, false, nilO, [⟨rqM, 9, 2, 1⟩], []⟩
def kE : CL := ⟨5, 3, 2, 1, 3, nilO, 7, 0, false, nilO, [], []⟩
def kF : CL := ⟨5, 3, 3, 1, 3, nilO, 7, 0, false, nilO, [⟨rqP 2 0 [(nilO, [97]), (nilO, [98])], 9, 1, 1⟩], []⟩
def kG : CL := ⟨5, 3, 3, 1, 3, nilO, 7, 0, false, nilO, [], [⟨tB, 0, 2⟩]⟩
def kH : CL := ⟨5, 3, 4, 1, 3, nilO, 7, 0, false, nilO, [⟨rqP 3 2 [(nilO, [])], 9, 1, 1⟩], [⟨tB, 0, 2⟩]⟩
theorem may_tB : mayPB tB 0 = true := by decide +kernel
theorem r1_of {K : CL} (h1 : 1 ≤ K.id ∧ K.id ≤ 1048576) (h2 : 1 ≤ K.brokers ∧ K.brokers ≤ 7) (h3 : 1 ≤ K.next ∧ K.next ≤ 1099511627776) (h4 : 0 ≤ K.now ∧ K.now ≤ 1099511627776) (h5 : 1 ≤ K.broker ∧ K.broker ≤ K.brokers) (h6 : 0 ≤ K.pid ∧ K.pid ≤ 4611686018427387904) (h7 : 0 ≤ K.ep ∧ K.ep ≤ 1073741824) (h8 : K.pid = 0 → K.ep = 0 ∧ K.ss.length = 0) (h9 : K.ss = [] ∨ K.ss = [⟨tB, 0, 2⟩]) (h10 : K.ws = [] ∨ ∃ x, K.ws = [x] ∧ WOk K.id K.next K.brokers x) : R1 K := by
  refine ⟨h1, h2, h3, h4, h5, h6, h7, h8, ?_, ?_, ?_, ?_⟩
  · rcases h9 with h | h <;> rw [h] <;> decide
  · rcases h9 with h | h <;> rw [h] <;> intro s hs
    · cases hs
    · rw [List.mem_singleton.1 hs]; exact ⟨may_tB, by decide, by decide, by decide +kernel⟩
  · rcases h10 with h | ⟨x, h, _⟩ <;> rw [h] <;> simp
  · rcases h10 with h | ⟨x, h, hx⟩ <;> rw [h] <;> intro s hs
    · cases hs
    · rw [List.mem_singleton.1 hs]; exact hx
theorem r1A : R1 kA := r1_of (by decide) (by decide) (by decide) (by decide) (by decide) (by decide) (by decide) (by decide) (.inl rfl) (.inl rfl)
theorem r1B : R1 kB := r1_of (by decide) (by decide) (by decide) (by decide) (by decide) (by decide) (by decide) (by decide) (.inl rfl) (.inr ⟨_, rfl, by unfold WOk; decide +kernel⟩)
theorem r1C : R1 kC := r1_of (by decide) (by decide) (by decide) (by decide) (by decide) (by decide) (by decide) (by decide) (.inl rfl) (.inr ⟨_, rfl, by unfold WOk; decide +kernel⟩)
theorem r1D : R1 kD := r1_of (by decide) (by decide) (by decide) (by decide) (by decide) (by decide) (by decide) (by decide) (.inl rfl) (.inr ⟨_, rfl, by unfold WOk; decide +kernel⟩)
theorem r1E : R1 kE := r1_of (by decide) (by decide) (by decide) (by decide) (by decide) (by decide) (by decide) (by decide) (.inl rfl) (.inl rfl)
theorem r1F : R1 kF := r1_of (by decide) (by decide) (by decide) (by decide) (by decide) (by decide) (by decide) (by decide) (.inl rfl) (.inr ⟨_, rfl, by unfold WOk; decide +kernel⟩)
theorem r1G : R1 kG := r1_of (by decide) (by decide) (by decide) (by decide) (by decide) (by decide) (by decide) (by decide) (.inr rfl) (.inl rfl)
theorem r1H : R1 kH := r1_of (by decide) (by decide) (by decide) (by decide) (by decide) (by decide) (by decide) (by decide) (.inr rfl) (.inr ⟨_, rfl, by unfold WOk; decide +kernel⟩)
theorem Is.r1 {c K : CL} (h : Is c K) (hw : K.wv = nilO) (hs : K.sv = nilO) (hK : K.nf = K) (R : R1 K) : R1 c := R1.nf (show c.nf = K.nf by rw [hK]; exact h.nf hw hs) R
theorem matchN {a : RP} {x X : WT} (h : x.nf = X) (hX : matchB a X = true) : matchB a x = true := (congrArg (matchB a) h).trans hX
def aA : RP := ⟨4, 5, 1, 220, 3, 0, 0, 0, false, nilO, 0, 0, 0, 0, 0, nilO⟩
def aB : RP := ⟨4, 5, 1, 0, 3, 0, 0, 0, false, nilO, 0, 7, 0, 0, 0, nilO⟩
def aC : RP := ⟨1, 5, 2, 0, 3, 0, 0, 0, false, nilO, 0, 0, 0, 0, 0, nilO⟩
def rqA : RQ := { rqM with cl := 0, call := 0 }
theorem isB {c' : CL} {sd : SD} (h : PutP kA rqA c' sd) : Is c' kB := Is.of (putp_nf h)
theorem isC {c c' : CL} {x : WT} (I : Is c kB) (hx : x.nf = ⟨rqM, 8, 1, 2⟩) (h : c'.nf = ({ c with broker := aA.leader, ws := [{ x with due := c.now + 1, broker := aA.leader }] } : CL).nf) : Is c' kC :=
  ⟨(congrArg CL.id h).trans I.id, (congrArg CL.brokers h).trans I.brokers, (congrArg CL.next h).trans I.next, (congrArg CL.now h).trans I.now, (congrArg CL.broker h).trans rfl, (congrArg CL.pid h).trans I.pid, (congrArg CL.ep h).trans I.ep, (congrArg CL.stale h).trans I.stale, (congrArg CL.ss h).trans I.ss, (congrArg CL.ws h).trans (by
    show [({ x.nf with due := c.now + 1, broker := 3 } : WT)] = _
    rw [hx, I.now]; rfl)⟩
theorem isD {c c' : CL} {x : WT} {sd : SD} (I : Is c kC) (hx : x.nf = ⟨rqM, 1, 1, 3⟩) (h : TickP c x c' sd) : Is c' kD ∧ sd.to = 3 := by
  have hb : x.broker = 3 := congrArg WT.broker hx
  have ht : x.tries = 1 := congrArg WT.tries hx
  have hr : x.rq.nf = rqM := congrArg WT.rq hx
  have h' := tickp_nf h
  rw [I.now, I.brokers, hb, ht, hr] at h'
  exact ⟨⟨(congrArg CL.id h').trans I.id, (congrArg CL.brokers h').trans rfl, (congrArg CL.next h').trans I.next, (congrArg CL.now h').trans rfl, (congrArg CL.broker h').trans I.broker, (congrArg CL.pid h').trans I.pid, (congrArg CL.ep h').trans I.ep, (congrArg CL.stale h').trans I.stale, (congrArg CL.ss h').trans I.ss, (congrArg CL.ws h').trans rfl⟩, h.2.2.2.2.2.2.2.2.2.1.trans hb⟩
theorem isE {c c' : CL} (I : Is c kD) (h : c'.nf = ({ c with broker := aB.leader, ws := [], pid := aB.mpid, ep := aB.mep, stale := false, ss := [] } : CL).nf) : Is c' kE :=
  ⟨(congrArg CL.id h).trans I.id, (congrArg CL.brokers h).trans I.brokers, (congrArg CL.next h).trans I.next, (congrArg CL.now h).trans I.now, (congrArg CL.broker h).trans rfl, (congrArg CL.pid h).trans rfl, (congrArg CL.ep h).trans rfl, (congrArg CL.stale h).trans rfl, (congrArg CL.ss h).trans rfl, (congrArg CL.ws h).trans rfl⟩
theorem isF {c c' : CL} {rv : OV} {brs : List (OV × List Int)} {sd : SD} (I : Is c kE) (hb : brs.map (fun y => (nilO, y.2)) = [(nilO, [97]), (nilO, [98])]) (h : PutP c (prodR c tB 0 (firstOf c) rv brs) c' sd) : Is c' kF ∧ sd.to = 3 ∧ sd.rq.pid = 7 := by
  have hfo : firstOf c = 0 := by unfold firstOf; rw [I.ss]; rfl
  have h' := putp_nf h
  have hr : ({ prodR c tB 0 (firstOf c) rv brs with cl := c.id, call := c.next } : RQ).nf = rqP 2 0 [(nilO, [97]), (nilO, [98])] := by
    unfold prodR RQ.nf
    simp only
    rw [hb, hfo, I.pid, I.ep, I.id, I.next]; rfl
  have hs := h.2.2.2.2.2.2.2.2.2.2.1
  rw [hr] at h' hs
  rw [I.now, I.broker, I.brokers, I.next] at h'
  exact ⟨⟨(congrArg CL.id h').trans I.id, (congrArg CL.brokers h').trans rfl, (congrArg CL.next h').trans rfl, (congrArg CL.now h').trans rfl, (congrArg CL.broker h').trans rfl, (congrArg CL.pid h').trans I.pid, (congrArg CL.ep h').trans I.ep, (congrArg CL.stale h').trans I.stale, (congrArg CL.ss h').trans I.ss, (congrArg CL.ws h').trans rfl⟩, h.2.2.2.2.2.2.2.2.2.1.trans I.broker, congrArg RQ.pid hs⟩
theorem isG {c c' : CL} {x : WT} (I : Is c kF) (hx : x.nf = ⟨rqP 2 0 [(nilO, [97]), (nilO, [98])], 9, 1, 1⟩) (h : c'.nf = ({ c with broker := aC.leader, ws := [], ss := [⟨x.rq.topic, x.rq.part, x.rq.fi + x.rq.brs.length⟩] } : CL).nf) : Is c' kG := by
  have e1 : x.rq.topic = tB := congrArg (fun y : WT => y.rq.topic) hx
  have e2 : x.rq.part = 0 := congrArg (fun y : WT => y.rq.part) hx
  have e3 : x.rq.fi = 0 := congrArg (fun y : WT => y.rq.fi) hx
  have e4 : x.rq.brs.length = 2 := by
    have h1 : x.rq.brs.map (fun y => (nilO, y.2)) = [(nilO, [97]), (nilO, [98])] := congrArg (fun y : WT => y.rq.brs) hx
    simpa using congrArg List.length h1
  rw [e1, e2, e3, e4] at h
  exact ⟨(congrArg CL.id h).trans I.id, (congrArg CL.brokers h).trans I.brokers, (congrArg CL.next h).trans I.next, (congrArg CL.now h).trans I.now, (congrArg CL.broker h).trans rfl, (congrArg CL.pid h).trans I.pid, (congrArg CL.ep h).trans I.ep, (congrArg CL.stale h).trans I.stale, (congrArg CL.ss h).trans rfl, (congrArg CL.ws h).trans rfl⟩
theorem isH {c c' : CL} {rv : OV} {brs : List (OV × List Int)} {sd : SD} (I : Is c kG) (hb : brs.map (fun y => (nilO, y.2)) = [(nilO, [])]) (h : PutP c (prodR c tB 0 (firstOf c) rv brs) c' sd) : Is c' kH ∧ sd.rq.fi = 2 := by
  have hfo : firstOf c = 2 := by unfold firstOf; rw [I.ss]; rfl
  have h' := putp_nf h
  have hr : ({ prodR c tB 0 (firstOf c) rv brs with cl := c.id, call := c.next } : RQ).nf = rqP 3 2 [(nilO, [])] := by
    unfold prodR RQ.nf
    simp only
    rw [hb, hfo, I.pid, I.ep, I.id, I.next]; rfl
  have hs := h.2.2.2.2.2.2.2.2.2.2.1
  rw [hr] at h' hs
  rw [I.now, I.broker, I.brokers, I.next] at h'
  exact ⟨⟨(congrArg CL.id h').trans I.id, (congrArg CL.brokers h').trans rfl, (congrArg CL.next h').trans rfl, (congrArg CL.now h').trans rfl, (congrArg CL.broker h').trans rfl, (congrArg CL.pid h').trans I.pid, (congrArg CL.ep h').trans I.ep, (congrArg CL.stale h').trans I.stale, (congrArg CL.ss h').trans I.ss, (congrArg CL.ws h').trans rfl⟩, congrArg RQ.fi hs⟩
theorem szM {x : WT} {d t b : Int} (hx : x.nf = ⟨rqM, d, t, b⟩) : RqSz x.rq := rqsz_nf (r := rqM) (congrArg WT.rq hx) ⟨by decide, (fun y hy => by cases hy), by decide⟩
theorem szP {x : WT} {d t b ca fi : Int} {l : List (OV × List Int)} (hl : l.length ≤ 10 ∧ ∀ y ∈ l, y.2.length ≤ 10) (hn : l.map (fun y => (nilO, y.2)) = l) (hx : x.nf = ⟨rqP ca fi l, d, t, b⟩) : RqSz x.rq :=
  rqsz_nf (r := rqP ca fi l) ((congrArg WT.rq hx).trans (by unfold RQ.nf rqP; simp only [hn])) ⟨by have := hl.1; show l.length * 24 ≤ _; omega, (fun y hy => by have := hl.2 y hy; omega), (by show ([] : List ByteArray).length * 16 ≤ _; decide)⟩
end Go.Proofs.Ytchfaeaagpemlaa
