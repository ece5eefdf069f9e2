/- Layer 31: Take, where a batch of the client's own stands.
Layer 31: what clients hold, step by step.
Layer 31: awake.
Layer 31: the walk of ClientGivesUp. -/
import Derived.Test.YtchfaeaagpemlaaX6
import Derived.Test.YtchfaeaagpemlaaX3
import Derived.Lib.SlBytesConst
set_option maxRecDepth 100000
namespace Go.Proofs.Ytchfaeaagpemlaa
open Go Go.Eng
theorem takeC31 (c : CL) (x : WT) (a : RP) (w : World) (R : R1 c) (hw : c.ws = [x]) (hm : matchB a x = true) (he : a.err = 0) (hld : 1 ≤ a.leader ∧ a.leader ≤ c.brokers) (hc : ClRd w.heap c) (hs : RqSz x.rq) (hkk : ownB c x.rq = true) (hss : c.ss = []) (hfi : 0 ≤ x.rq.fi ∧ x.rq.fi ≤ 1000000) (hbl : x.rq.brs.length ≤ 1000) (hrr : a.rrv = nilO) (hpl : a.mpl = nilO) :
    Rets Try.prog 8 #[.agg (clE c).toArray, .agg (rpE a).toArray] w fun u w' => ∃ c' b, u = .tuple #[.agg (clE c').toArray, .slice (some ⟨b, 0, none⟩) 1 1, .slice none 0 0] ∧ ClOwn w'.heap c' ∧ Fr No w w' ∧ c'.nf = ({ c with broker := a.leader, ws := [], ss := [⟨x.rq.topic, x.rq.part, x.rq.fi + x.rq.brs.length⟩] } : CL).nf := by
  have hw0 := c.wv.2
  have hs0 := c.sv.2
  have ha0 := a.rrv.2
  have ha1 := a.mpl.2
  refine rets_of Try.func8 rfl Try.ntmps8 rfl rfl (by kernel_rfl) ?_
  ((apply vC_seq; apply vC_region)); (((iterate 2 (((apply vL_val); (case h => ((apply opw_boxn); exact rfl))))); ((apply vL_val); (case h => (apply opw_alloc))); (iterate 2 (((apply vL_val); (case h => ((apply opv_E); exact rfl))))); apply vL_nil)); with_reducible apply seqP_normal
  ((apply vC_seq; apply vC_region))
  have e3 : (w.alloc (.cells (clE c).toArray 25)).heap.size = w.heap.size + 1 := by simp
  have e4 : ((w.alloc (.cells (clE c).toArray 25)).alloc (.cells (rpE a).toArray 56)).heap.size = w.heap.size + 2 := by simp
  refine vL_gen (fun w' => Fr No w w' ∧ Blk w'.heap w.heap.size (clE c) 25 ∧ Blk w'.heap (w.alloc (.cells (clE c).toArray 25)).heap.size (rpE a) 56 ∧ Blk w'.heap ((w.alloc (.cells (clE c).toArray 25)).alloc (.cells (rpE a).toArray 56)).heap.size clZ 25) ⟨by ((iterate 3 (apply Fr.alloc)); exact Fr.refl _ _), inferInstance, inferInstance, inferInstance⟩ ?_
  rintro w1 ⟨hf1, h2, h3, h4⟩
  rw [e3] at h3
  rw [e4] at h4
  rw [e3, e4]
  obtain ⟨b2, eb2⟩ : ∃ b2, b2 = w.heap.size := ⟨_, rfl⟩
  obtain ⟨b3, eb3⟩ : ∃ b3, b3 = w.heap.size + 1 := ⟨_, rfl⟩
  obtain ⟨b4, eb4⟩ : ∃ b4, b4 = w.heap.size + 2 := ⟨_, rfl⟩
  rw [← eb4] at h4 ⊢
  rw [← eb3] at h3 ⊢
  rw [← eb2] at h2 ⊢
  have hsz1 := hf1.size
  have hl4 := h4.lt
  (((apply vL_val); (case h => ((apply opv_fieldAddr); exact rfl))); ((apply vL_val); (case h => ((apply opv_loadb1); exact rfl; exact rfl; assumption; exact rfl))); ((apply vL_val); (case h => ((apply opv_makeFunc); exact rfl))))
  refine vL_callF rfl (indexFunc_wt _ _ (matchB a) c.ws _ 20 [.pointer (some ⟨b3, 0, none⟩)] (hc.1.frN hf1) rfl (fun y w1 hy hf => takec31 y a b3 w1 (h3.frN hf))) rfl ?_
  rintro u5 w2 ⟨hf2, hres⟩
  have h22 := h2.frN hf2
  have h32 := h3.frN hf2
  have h42 := h4.frN hf2
  have hf12 := hf1.trans hf2
  rcases hres with ⟨rfl, hno⟩ | ⟨k, rfl, hk, ⟨y, hy, hp⟩, _⟩
  · have := hno x (by rw [hw]; exact List.mem_singleton_self _)
    rw [hm] at this; cases this
  have hk0 : k = 0 := by rw [hw] at hk; have : k < 1 := hk; omega
  subst hk0
  clear hy hp y
  (((apply vL_val); (case h => ((apply opv_E); exact rfl))); apply vL_nil; apply seqP_normal; apply vC_seq; apply vC_region; ((apply vL_val); (case h => ((apply opv_loadbC); exact rfl; exact rfl; assumption; exact (rfl : _ = [_, _, _, _, _, _, _, _, _, _]); exact rfl))))
  refine vL_callF rfl (clone31 c w2 (hc.frN hf12) ⟨by rw [hw]; exact (show 1 ≤ 1000 by decide), by have := R.s1; omega, fun y hy => by rw [hw] at hy; rw [List.mem_singleton.1 hy]; exact hs⟩) rfl ?_
  rintro _ w3 ⟨c1, rfl, hnf, hc3, hfw3, hfs3, hf3⟩
  have hw1 := c1.wv.2
  have hs1 := c1.sv.2
  have h23 := h22.frN hf3
  have h33 := h32.frN hf3
  have h43 := h42.frN hf3
  have hf13 := hf12.trans hf3
  have hsz2 := hf12.size
  ((((apply vL_skip); (case h => ((apply ops_storen); exact norm_eq rfl; exact norm_eq rfl; exact rfl; exact (fun u hu => EncOk.one _ u hu); assumption; (first | decide | exact of_decide_eq_true rfl | (simp; done))))); apply vL_nil)); with_reducible apply seqP_normal
  (((iterate 2 (apply vC_seq)); apply vC_region))
  refine vL_gen (fun w' => Fr No w w' ∧ Blk w'.heap b2 (clE c1) 25 ∧ Blk w'.heap b3 (rpE a) 56 ∧ Blk w'.heap b4 clZ 25 ∧ ClOwn w'.heap c1) ⟨hf13.set _ _ (.inr (by omega)), Blk.as (Blk.set h23) rfl, h33.set_ne (by omega), h43.set_ne (by omega), hc3.frBlk h23 ⟨by decide, by decide, by decide⟩ ⟨by decide, by decide⟩ ((Fr.refl (fun k => k = b2) w3).set _ _ (.inl rfl))⟩ ?_
  rintro w4 ⟨hf4, h24, h34, h44, hc4⟩
  have hfwz : ∀ b, own c1.wv.1 = some b → w.heap.size + 3 ≤ b := fun b hb => by have := hfw3 b hb; have := hf2.size; omega
  have hfsz : ∀ b, own c1.sv.1 = some b → w.heap.size + 3 ≤ b := fun b hb => by have := hfs3 b hb; have := hf2.size; omega
  clear h22 h32 h42 h23 h33 h43 hc3 hfw3 hfs3 hf3 hf13 hf12 h2 h3 h4
  have R' := R1.nf hnf R
  have hnw : c1.now = c.now := by have := congrArg CL.now hnf; exact this
  have hbk : c1.brokers = c.brokers := by have := congrArg CL.brokers hnf; exact this
  obtain ⟨x1, hx1, hx1n⟩ : ∃ x1, c1.ws = [x1] ∧ x1.nf = x.nf := by
    have h1 : c1.ws.map WT.nf = c.ws.map WT.nf := by have := congrArg CL.ws hnf; exact this
    rw [hw] at h1
    obtain ⟨y, hy, e⟩ := List.map_eq_singleton_iff.1 h1
    exact ⟨y, hy, e⟩
  have hn0 := R.now
  ((iterate 3 (((apply vL_val); (case h => ((apply opv_E); exact rfl))))); ((apply vL_wanted); exact rfl); ((apply vL_val); (case h => ((apply opv_loadbC); exact rfl; exact rfl; assumption; exact (rfl : _ = [_, _, _, _, _, _, _, _, _, _]); exact rfl))); ((apply vL_wanted); exact rfl))
  refine vL_callF rfl (right31 c1 w4 hc4.rd R') rfl ?_
  rintro _ w5 ⟨rfl, hf5⟩
  have h25 := h24.frN hf5
  have h35 := h34.frN hf5
  have h45 := h44.frN hf5
  have hc5 := hc4.frN hf5
  have hfw5 := hf4.trans hf5
  have hcw5 := hc5.1
  rw [hx1] at hcw5
  have hxi : ([x1] : List WT)[((0 : Nat) : Int).toNat]? = some x1 := rfl
  have hxl : (((0 : Nat) : Int)) < (([x1] : List WT).length : Int) := Int.zero_lt_one
  clear h24 h34 h44 hc4 hf4 hf5
  haveI n23 : NeB b2 b3 := ⟨by omega⟩
  haveI n24 : NeB b2 b4 := ⟨by omega⟩
  haveI n34 : NeB b3 b4 := ⟨by omega⟩
  haveI n42 : NeB b4 b2 := ⟨by omega⟩
  haveI n32 : NeB b3 b2 := ⟨by omega⟩
  haveI n43 : NeB b4 b3 := ⟨by omega⟩
  haveI hoff : OffB c1.wv.1 b2 := ⟨Own.ne_blk hcw5 h25 (by decide)⟩
  have hbv1 := x1.rq.brv.2
  have htv1 := x1.rq.trv.2
  (((apply vL_wanted); exact rfl); ((apply vL_val); (case h => ((apply opv_not); exact rfl))); ((apply vL_val); (case h => ((apply opv_E); exact rfl))); apply vL_nil; apply seqP_normal; ((apply vC_cond_false); exact rfl); apply vC_skip; apply seqP_normal; apply vC_seq; apply vC_region; ((apply vL_val); (case h => ((apply opv_fieldAddr); exact rfl))); ((apply vL_val); (case h => ((apply opv_loadb1); exact rfl; exact rfl; assumption; exact rfl))); (iterate 2 (((apply vL_val); (case h => ((apply opv_E); exact rfl))))); (refine vL_and rfl rfl (fun _ => ?_) (fun h => by omega)); ((apply vL_val); (case h => ((apply opv_fieldAddr); exact rfl))); ((apply vL_wanted); exact rfl); ((apply vL_val); (case h => ((apply opv_loadb1); exact rfl; exact rfl; assumption; exact rfl))); ((apply vL_wanted); exact rfl); ((apply vL_val); (case h => ((apply opv_fieldAddr); exact rfl))); ((apply vL_wanted); exact rfl); ((apply vL_val); (case h => ((apply opv_loadb1); exact rfl; exact rfl; assumption; exact rfl))); ((apply vL_wanted); exact rfl); (iterate 3 (((apply vL_val); (case h => ((apply opv_E); exact rfl))))); apply vL_nil; apply seqP_normal; (iterate 2 (apply vC_seq)); apply vC_region; ((apply vL_val); (case h => ((apply opv_E); exact rfl))); apply vL_nil; apply seqP_normal; (refine vC_cond_dec rfl (fun _ => ?_) (fun h => by omega)); apply vC_region; ((apply vL_val); (case h => ((apply opv_fieldAddr); exact rfl))); ((apply vL_val); (case h => ((apply opv_loadb1); exact rfl; exact rfl; assumption; exact rfl))); ((apply vL_val); (case h => ((apply opv_fieldAddr); exact rfl))); ((apply vL_skip); (case h => ((apply ops_store1); exact norm_eq rfl; exact norm_eq rfl; (first | rfl | assumption); assumption; (first | decide | exact of_decide_eq_true rfl | (simp; done))))); apply vL_nil; apply seqP_normal; (iterate 2 (apply vC_seq)); apply vC_region; ((apply vL_val); (case h => ((apply opv_fieldAddr); exact rfl))); ((apply vL_val); (case h => ((apply opv_loadb1); exact rfl; exact rfl; infer_instance; exact rfl))); ((apply vL_val); (case h => ((apply opv_E); exact rfl))); apply vL_nil; apply seqP_normal; (refine vC_cond_dec rfl (fun h => by omega) (fun _ => ?_)); apply vC_skip; apply seqP_normal; apply vC_seq; apply vC_region; ((apply vL_val); (case h => ((apply opv_fieldAddr); exact rfl))); ((apply vL_val); (case h => ((apply opv_loadb1); exact rfl; exact rfl; infer_instance; exact rfl))); ((apply vL_val); (case h => ((apply opv_E); exact rfl))); ((apply vL_val); (case h => ((apply opv_indexAddr); ((conv => lhs; whnf) <;> exact rfl); exact rfl; infer_instance; (first | omega | (simp only [List.length_map]; omega)); (first | omega | (simp only [List.length_map]; omega))))); ((apply vL_val); (case h => ((apply opv_fieldAddr); exact rfl))))
  refine vL_gen (fun w' => Fr No w w' ∧ Blk w'.heap b2 (clE { c1 with broker := a.leader }) 25 ∧ Blk w'.heap b3 (rpE a) 56 ∧ Blk w'.heap b4 clZ 25 ∧ ClOwn w'.heap c1) ⟨hfw5.set _ _ (.inr (by omega)), Blk.as (Blk.set h25) rfl, h35.set_ne (by omega), h45.set_ne (by omega), hc5.frBlk h25 ⟨by decide, by decide, by decide⟩ ⟨by decide, by decide⟩ ((Fr.refl (fun k => k = b2) w5).set _ _ (.inl rfl))⟩ ?_
  rintro w6 ⟨hf6, h26, h36, h46, hc6⟩
  clear h25 h35 h45 hc5 hfw5 hcw5 hoff
  have ho6 := hc6.1
  rw [hx1] at ho6
  have hq6 : RqOwn w6.heap x1.rq := hc6.2.1 x1 (by rw [hx1]; exact List.mem_singleton_self _)
  have hs6 := hc6.2.2
  refine vL_val (opv_ld_elS (enc := wtE) (x0 := x1) (cs := rqE x1.rq) rfl rfl ho6.rd hxi rfl rfl) ?_
  ((((apply vL_val); (case h => (apply opw_alloc))); ((apply vL_skip); (case h => ((apply ops_storen); exact norm_eq rfl; exact norm_eq rfl; exact rfl; exact (fun u hu => EncOk.one _ u hu); infer_instance; (first | decide | exact of_decide_eq_true rfl | (simp; done))))); apply vL_nil)); with_reducible apply seqP_normal
  ((apply vC_seq; apply vC_region))
  refine vL_gen (fun w' => Fr No w6 w' ∧ w6.heap.size < w'.heap.size ∧ Blk w'.heap w6.heap.size (rqE x1.rq) 40) ⟨by (apply Fr.allocSet; exact Fr.refl _ _), by simp, Blk.as inferInstance rfl⟩ ?_
  rintro w7 ⟨hf7, hz7, h97⟩
  have h27 := h26.frN hf7
  have h37 := h36.frN hf7
  have h47 := h46.frN hf7
  have ho7 := ho6.frN hf7
  have hq7 := hq6.frN hf7
  have hs7 := hs6.frN hf7
  have hfw7 := hf6.trans hf7
  have hb69 : b4 < w6.heap.size := h46.lt
  obtain ⟨b9, eb9⟩ : ∃ b9, b9 = w6.heap.size := ⟨_, rfl⟩
  rw [← eb9] at h97 ⊢
  clear h26 h36 h46 hc6 hq6 hs6 hf6 ho6 hf7
  (((apply vL_val); (case h => ((apply opv_fieldAddr); exact rfl))); ((apply vL_val); (case h => ((apply opv_loadb1); exact rfl; exact rfl; assumption; exact rfl))); (iterate 2 (((apply vL_val); (case h => ((apply opv_E); exact rfl))))); ((apply vL_val); (case h => ((apply opv_add); exact rfl; exact rfl; (first | omega | (simp only [List.length_map]; omega))))))
  refine vL_callF rfl (deleteN_wt c1.wv.1 [x1] 0 w7 (Nat.zero_lt_one : 0 < 1) ho7) rfl ?_
  rintro wv2 w8 ⟨hf8, ho8, hov8, hone8⟩
  have h28 := h27.fr hf8 (fun h => Own.ne_blk ho7 h27 (by decide) h)
  have h38 := h37.fr hf8 (fun h => Own.ne_blk ho7 h37 (by decide) h)
  have h48 := h47.fr hf8 (fun h => Own.ne_blk ho7 h47 (by decide) h)
  have h98 := h97.fr hf8 (fun h => Own.ne_blk ho7 h97 (by decide) h)
  have hq8 := hq7.frOwn ho7 (by decide) (by decide) (by decide) hf8
  have hs8 := hs7.fr hf8 (fun b hb h => Own.ne_own hs7 ho7 (by decide) b hb h)
  have hfw8 : Fr No w w8 := hfw7.trans' hf8 (fun k hk => .inr (by have := hfwz k hk; omega))
  replace ho8 : Own w8.heap 42 26 wtE wv2 [] := ho8
  clear h27 h37 h47 hq7 hs7 hfw7 ho7 hf8 h97
  haveI n29 : NeB b2 b9 := ⟨by omega⟩
  haveI n92 : NeB b9 b2 := ⟨by omega⟩
  haveI n39 : NeB b3 b9 := ⟨by omega⟩
  haveI n93 : NeB b9 b3 := ⟨by omega⟩
  haveI n49 : NeB b4 b9 := ⟨by omega⟩
  haveI n94 : NeB b9 b4 := ⟨by omega⟩
  ((((apply vL_val); (case h => ((apply opv_fieldAddr); exact rfl))); ((apply vL_skip); (case h => ((apply ops_store1); exact norm_eq rfl; ((conv => lhs; whnf) <;> exact rfl); (first | rfl | assumption); assumption; (first | decide | exact of_decide_eq_true rfl | (simp; done))))); apply vL_nil)); with_reducible apply seqP_normal
  ((apply vC_seq; apply vC_block; apply vC_seq; apply vC_region))
  obtain ⟨c2, ec2⟩ : ∃ c2 : CL, c2 = { c1 with broker := a.leader, wv := ⟨wv2, hone8⟩, ws := [] } := ⟨_, rfl⟩
  refine vL_gen (fun w' => Fr No w w' ∧ Blk w'.heap b2 (clE c2) 25 ∧ Blk w'.heap b3 (rpE a) 56 ∧ Blk w'.heap b4 clZ 25 ∧ Blk w'.heap b9 (rqE x1.rq) 40 ∧ ClOwn w'.heap c2 ∧ RqOwn w'.heap x1.rq) ⟨hfw8.set _ _ (.inr (by omega)), Blk.as (Blk.set h28) (by rw [ec2]; rfl), h38.set_ne (by omega), h48.set_ne (by omega), h98.set_ne (by have := h28.lt; omega), (by rw [ec2]; exact ⟨ho8.set (Own.ne_blk ho8 h28 (by decide)), fun y hy => (by cases hy), hs8.set (Own.ne_blk hs8 h28 (by decide))⟩), hq8.frBlk h28 (by decide) (by decide) (by decide) ((Fr.refl (fun k => k = b2) w8).set _ _ (.inl rfl))⟩ ?_
  rintro w9 ⟨hf9, h29, h39, h49, h99, hc9, hq9⟩
  clear h28 h38 h48 h98 hq8 hs8 hfw8 ho8
  have hk1 : x1.rq.nf = x.rq.nf := by have := congrArg WT.rq hx1n; exact this
  have hw2 := c2.wv.2
  have hs2 := c2.sv.2
  have hov2 : ∀ b, own c2.wv.1 = some b → w.heap.size + 3 ≤ b := by rw [ec2]; intro b hb; exact hfwz b (hov8 ▸ hb)
  have hos2 : ∀ b, own c2.sv.1 = some b → w.heap.size + 3 ≤ b := by rw [ec2]; exact hfsz
  have q1 : x1.rq.k = x.rq.k := by have := congrArg RQ.k hk1; exact this
  have q2 : x1.rq.pid = x.rq.pid := by have := congrArg RQ.pid hk1; exact this
  have q3 : x1.rq.ep = x.rq.ep := by have := congrArg RQ.ep hk1; exact this
  have q4 : x1.rq.topic = x.rq.topic := by have := congrArg RQ.topic hk1; exact this
  have q5 : x1.rq.part = x.rq.part := by have := congrArg RQ.part hk1; exact this
  have q6 : x1.rq.fi = x.rq.fi := by have := congrArg RQ.fi hk1; exact this
  have q7 : x1.rq.brs.length = x.rq.brs.length := by
    have h1 : x1.rq.brs.map (fun y => (nilO, y.2)) = x.rq.brs.map (fun y => (nilO, y.2)) := by have := congrArg RQ.brs hk1; exact this
    simpa using congrArg List.length h1
  have p1 : c1.pid = c.pid := by have := congrArg CL.pid hnf; exact this
  have p2 : c1.ep = c.ep := by have := congrArg CL.ep hnf; exact this
  have p3 : c1.stale = c.stale := by have := congrArg CL.stale hnf; exact this
  have p4 : c1.ss = c.ss := by have := congrArg CL.ss hnf; exact this
  have p5 : c1.id = c.id := by have := congrArg CL.id hnf; exact this
  have p6 : c1.next = c.next := by have := congrArg CL.next hnf; exact this
  have hown : ownB c2 x1.rq = true := by
    rw [← hkk, ec2]
    unfold ownB
    simp only [q1, q2, q3, p1, p2, p3]
  have hss2 : c2.ss = [] := by rw [ec2]; exact p4.trans hss
  have ho9 : Own w9.heap 65 3 sqE c2.sv.1 [] := by have := hc9.2.2; rw [hss2] at this; exact this
  have hov9 : Own w9.heap 42 26 wtE c2.wv.1 [] := by have := hc9.1; rw [ec2] at this ⊢; exact this
  (((apply vL_val); (case h => ((apply opv_loadbC); exact rfl; exact rfl; assumption; exact (rfl : _ = [_, _, _, _, _, _, _, _, _, _]); exact rfl))); ((apply vL_val); (case h => ((apply opv_loadb); exact rfl; exact rfl; assumption; exact rfl))))
  refine vL_callF rfl (own31 c2 x1.rq w9) rfl ?_
  rintro _ w10 ⟨rfl, hf10⟩
  rw [hown]
  have h2x := h29.frN hf10
  have h3x := h39.frN hf10
  have h9x := h99.frN hf10
  (((apply vL_val); (case h => ((apply opv_E); exact rfl))); ((apply vL_wanted); exact rfl); ((apply vL_val); (case h => ((apply opv_fieldAddr); exact rfl))); ((apply vL_wanted); exact rfl); ((apply vL_val); (case h => ((apply opv_loadb1); exact rfl; exact rfl; assumption; exact rfl))); ((apply vL_wanted); exact rfl); (iterate 3 (((apply vL_val); (case h => ((apply opv_E); exact rfl))))); apply vL_nil; apply seqP_normal; (refine vC_cond_dec rfl (fun h => by omega) (fun _ => ?_)); apply vC_seq; apply vC_region; ((apply vL_val); (case h => ((apply opv_loadbC); exact rfl; exact rfl; assumption; exact (rfl : _ = [_, _, _, _, _, _, _, _, _, _]); exact rfl))); ((apply vL_val); (case h => ((apply opv_loadb); exact rfl; exact rfl; assumption; exact rfl))))
  refine vL_callF rfl (own31 c2 x1.rq w10) rfl ?_
  rintro _ w11 ⟨rfl, hf11⟩
  rw [hown]
  have hf911 := hf10.trans hf11
  have h2b := h29.frN hf911
  have h3b := h39.frN hf911
  have h4b := h49.frN hf911
  have h9b := h99.frN hf911
  have hqb := hq9.frN hf911
  have hob := ho9.frN hf911
  have hovb := hov9.frN hf911
  have hfwb := hf9.trans hf911
  clear h29 h39 h49 h99 hc9 hq9 hf9 h2x h3x h9x hf10 hf11 hf911 ho9 hov9
  (((apply vL_val); (case h => ((apply opv_E); exact rfl))); ((apply vL_wanted); exact rfl); ((apply vL_val); (case h => ((apply opv_fieldAddr); exact rfl))); ((apply vL_wanted); exact rfl); ((apply vL_val); (case h => ((apply opv_loadb1); exact rfl; exact rfl; assumption; exact rfl))); ((apply vL_wanted); exact rfl); (iterate 3 (((apply vL_val); (case h => ((apply opv_E); exact rfl))))); apply vL_nil; apply seqP_normal; (refine vC_cond_dec rfl (fun _ => ?_) (fun h => by omega)); apply vC_region; ((apply vL_val); (case h => ((apply opv_loadb); exact rfl; exact rfl; assumption; exact rfl))))
  refine vL_callF rfl (stands31 c2 x1.rq b2 w11 h2b hob hss2 hqb.rd (by rw [q6]; exact hfi) (by rw [q7]; exact hbl)) rfl ?_
  rintro _ w12 ⟨rfl, sv2, h2C, hsC, hf12', hfsC⟩
  obtain ⟨c3, ec3⟩ : ∃ c3 : CL, c3 = { c2 with sv := sv2, ss := [⟨x1.rq.topic, x1.rq.part, x1.rq.fi + x1.rq.brs.length⟩] } := ⟨_, rfl⟩
  rw [← ec3] at h2C
  have h3C := h3b.fr hf12' (fun h => by rcases h with h | h; exact absurd h (by omega); exact Own.ne_blk hob h3b (by decide) h)
  have h4C := h4b.fr hf12' (fun h => by rcases h with h | h; exact absurd h (by omega); exact Own.ne_blk hob h4b (by decide) h)
  have hovC := hovb.fr hf12' (fun b hb h => by rcases h with h | h; exact Own.ne_blk hovb h2b (by decide) (h ▸ hb); exact Own.ne_own hovb hob (by decide) b hb h)
  have hcC : ClOwn w12.heap c3 := by
    have ew : c2.ws = [] := by rw [ec2]
    rw [ec3]
    refine ⟨?_, ?_, hsC⟩
    · show Own w12.heap 42 26 wtE c2.wv.1 c2.ws
      rw [ew]; exact hovC
    · intro y hy
      have hy' : y ∈ c2.ws := hy
      rw [ew] at hy'; cases hy'
  have hfC : Fr No w w12 := hfwb.trans' hf12' (fun k hk => .inr (by rcases hk with hk | hk; omega; have := hos2 k hk; omega))
  clear h2b h3b h4b h9b hqb hob hovb hfwb hovC hsC hf12'
  have hnfc : c3.nf = ({ c with broker := a.leader, ws := [], ss := [⟨x.rq.topic, x.rq.part, x.rq.fi + x.rq.brs.length⟩] } : CL).nf := by
    rw [ec3, ec2, q4, q5, q6, q7]
    show ({ c1 with broker := a.leader, wv := nilO, sv := nilO, ws := [], ss := [⟨x.rq.topic, x.rq.part, x.rq.fi + x.rq.brs.length⟩] } : CL) = { c with broker := a.leader, wv := nilO, sv := nilO, ws := [], ss := [⟨x.rq.topic, x.rq.part, x.rq.fi + x.rq.brs.length⟩] }
    rw [hnw, hbk, p1, p2, p3, p5, p6]
  have hw3 := c3.wv.2
  have hs3 := c3.sv.2
  have har : Rd w12.heap 1 brE a.rrv.1 [] := by rw [hrr]; exact (Own.nil w12.heap 71 1 brE).rd
  (apply vL_nil; apply blockP_normal; apply seqP_normal; apply vC_seq; apply vC_region; ((apply vL_val); (case h => ((apply opv_fieldAddr); exact rfl))); ((apply vL_val); (case h => ((apply opv_loadb1); exact rfl; exact rfl; assumption; exact rfl))))
  refine vL_callF rfl (clone_br a.rrv.1 [] w12 har (by simp)) rfl ?_
  rintro rv2 w13 ⟨hf13, hr13, hrf13, hone13⟩
  have h2d := h2C.frN hf13
  have h3d := h3C.frN hf13
  have h4d := h4C.frN hf13
  have hcd := hcC.frN hf13
  have hfwd := hfC.trans hf13
  ((((apply vL_val); (case h => ((apply opv_fieldAddr); exact rfl))); ((apply vL_skip); (case h => ((apply ops_store1); exact norm_eq rfl; ((conv => lhs; whnf) <;> exact rfl); (first | rfl | assumption); assumption; (first | decide | exact of_decide_eq_true rfl | (simp; done))))); apply vL_nil)); with_reducible apply seqP_normal
  (((iterate 2 (apply vC_seq)); apply vC_region))
  refine vL_gen (fun w' => Fr No w w' ∧ Blk w'.heap b2 (clE c3) 25 ∧ Blk w'.heap b3 (rpE { a with rrv := ⟨rv2, hone13⟩ }) 56 ∧ Blk w'.heap b4 clZ 25 ∧ ClOwn w'.heap c3 ∧ Rd w'.heap 1 brE rv2 []) ⟨hfwd.set _ _ (.inr (by omega)), h2d.set_ne (by omega), Blk.as (Blk.set h3d) rfl, h4d.set_ne (by omega), hcd.frBlk h3d ⟨by decide, by decide, by decide⟩ ⟨by decide, by decide⟩ ((Fr.refl (fun k => k = b3) w13).set _ _ (.inl rfl)), (hr13.set (Own.ne_blk hr13 h3d (by decide))).rd⟩ ?_
  rintro w14 ⟨hf14, h2e, h3e, h4e, hce, hre⟩
  clear h2C h3C h4C hcC hfC h2d h3d h4d hcd hfwd hf13 hr13 har
  have hl0 : (([] : List (OV × List Int)).length : Int) = 0 := rfl
  (((apply vL_val); (case h => ((apply opv_fieldAddr); exact rfl))); ((apply vL_val); (case h => ((apply opv_loadb1); exact rfl; exact rfl; assumption; exact rfl))); ((apply vL_val); (case h => ((apply opv_len); ((conv => lhs; whnf) <;> exact rfl); assumption))); ((apply vL_val); (case h => ((apply opv_E); exact rfl))); apply vL_nil; apply seqP_normal; apply vC_block)
  (apply vC_loop1 748243166387255703404092769199714522219473214112768 155 (fun u w' => u = .int .i64 0 ∧ Fr No w w' ∧ Blk w'.heap b2 (clE c3) 25 ∧ Blk w'.heap b3 (rpE { a with rrv := ⟨rv2, hone13⟩ }) 56 ∧ Blk w'.heap b4 clZ 25 ∧ ClOwn w'.heap c3) (fun _ _ => 0)); (case h1 => (exact norm_eq rfl))
  case h0 => exact ⟨rfl, hf14, h2e, h3e, h4e, hce⟩
  case round =>
  clear h2e h3e h4e hce hre hf14
  rintro junk _ w15 ⟨rfl, hf15, h2f, h3f, h4f, hcf⟩
  have hap : Rd w15.heap 2 tE a.mpl.1 [] := by rw [hpl]; exact (Own.nil w15.heap 36 2 tE).rd
  (apply vC_seq; apply vC_region; ((apply vL_val); (case h => ((apply opv_E); exact rfl))); apply vL_nil; apply seqP_normal; apply vC_seq; ((apply vC_cond_false); exact rfl); apply vC_exit; apply seqP_exit; apply loopP_exit; apply blockP_exit; apply seqP_normal; apply vC_seq; apply vC_region; (iterate 2 (((apply vL_val); (case h => ((apply opv_fieldAddr); exact rfl))))); ((apply vL_val); (case h => ((apply opv_loadb1); exact rfl; exact rfl; assumption; exact rfl))))
  refine vL_callF rfl (clone_pl a.mpl.1 [] w15 hap (by simp)) rfl ?_
  rintro pv2 w16 ⟨hf16, hr16, hrf16, hone16⟩
  have h2g := h2f.frN hf16
  have h3g := h3f.frN hf16
  have h4g := h4f.frN hf16
  have hcg := hcf.frN hf16
  have hfwg := hf15.trans hf16
  (((iterate 2 (((apply vL_val); (case h => ((apply opv_fieldAddr); exact rfl))))); ((apply vL_skip); (case h => ((apply ops_store1); exact norm_eq rfl; ((conv => lhs; whnf) <;> exact rfl); (first | rfl | assumption); assumption; (first | decide | exact of_decide_eq_true rfl | (simp; done))))); apply vL_nil)); with_reducible apply seqP_normal
  ((apply vC_seq))
  refine vC_gen (fun w' => Fr No w w' ∧ Blk w'.heap b2 (clE c3) 25 ∧ Blk w'.heap b3 (rpE { a with rrv := ⟨rv2, hone13⟩, mpl := ⟨pv2, hone16⟩ }) 56 ∧ Blk w'.heap b4 clZ 25 ∧ ClOwn w'.heap c3) ⟨hfwg.set _ _ (.inr (by omega)), h2g.set_ne (by omega), Blk.as (Blk.set h3g) rfl, h4g.set_ne (by omega), hcg.frBlk h3g ⟨by decide, by decide, by decide⟩ ⟨by decide, by decide⟩ ((Fr.refl (fun k => k = b3) w16).set _ _ (.inl rfl))⟩ ?_
  rintro w17 ⟨hf17, h2h, h3h, h4h, hch⟩
  clear h2f h3f h4f hcf h2g h3g h4g hcg hfwg hf16 hf15 hap hr16
  obtain ⟨a2, ea2⟩ : ∃ a2 : RP, a2 = { a with rrv := ⟨rv2, hone13⟩, mpl := ⟨pv2, hone16⟩ } := ⟨_, rfl⟩
  rw [← ea2] at h3h
  have ha21 := a2.rrv.2
  have ha22 := a2.mpl.2
  have h2hd := h2h.frN (Fr.refl No w17).drew
  have h3hd := h3h.frN (Fr.refl No w17).drew
  have h4hd := h4h.frN (Fr.refl No w17).drew
  refine vC_draw' ((fun wf => Blk wf.heap b2 (clE c3) 25 ∧ Blk wf.heap b3 (rpE a2) 56)) (by (first | exact trivial | assumption | infer_instance | (refine ⟨?_, ?_⟩ <;> (first | assumption | infer_instance)) | (skip; done))) ?_
  ((apply (tk 0)); (case hi => exact rfl); (case hf => kernel_rfl); (case hS => (first | exact trivial | assumption | infer_instance | (refine ⟨?_, ?_⟩ <;> (first | assumption | infer_instance)) | (skip; done))); (case hy => (rintro wf ⟨hwa, hwb⟩; (((apply opv_loadbC); exact rfl; exact rfl; assumption; exact (rfl : _ = [_, _, _, _, _, _, _, _, _, _]); exact rfl)))))
  ((apply (tk 1)); (case hi => exact rfl); (case hf => kernel_rfl); (case hS => (first | exact trivial | assumption | infer_instance | (refine ⟨?_, ?_⟩ <;> (first | assumption | infer_instance)) | (skip; done))); (case hy => (rintro wf ⟨hwa, hwb⟩; (((apply opv_fieldAddr); exact rfl)))))
  ((apply (tk 2)); (case hi => exact rfl); (case hf => kernel_rfl); (case hS => (first | exact trivial | assumption | infer_instance | (refine ⟨?_, ?_⟩ <;> (first | assumption | infer_instance)) | (skip; done))); (case hy => (rintro wf ⟨hwa, hwb⟩; (((apply opv_loadb1); exact rfl; exact rfl; assumption; exact rfl)))))
  ((apply (tk 3)); (case hi => exact rfl); (case hf => kernel_rfl); (case hS => (first | exact trivial | assumption | infer_instance | (refine ⟨?_, ?_⟩ <;> (first | assumption | infer_instance)) | (skip; done))); (case hy => (rintro wf ⟨hwa, hwb⟩; (((apply opv_fieldAddr); exact rfl)))))
  ((apply (tk 4)); (case hi => exact rfl); (case hf => kernel_rfl); (case hS => (first | exact trivial | assumption | infer_instance | (refine ⟨?_, ?_⟩ <;> (first | assumption | infer_instance)) | (skip; done))); (case hy => (rintro wf ⟨hwa, hwb⟩; (((apply opv_loadb1); exact rfl; exact rfl; assumption; exact rfl)))))
  ((apply (tk 5)); (case hi => exact rfl); (case hf => kernel_rfl); (case hS => (first | exact trivial | assumption | infer_instance | (refine ⟨?_, ?_⟩ <;> (first | assumption | infer_instance)) | (skip; done))); (case hy => (rintro wf ⟨hwa, hwb⟩; exact opv_loadbC (cs := rpE a2) rfl rfl hwb rfl rfl)))
  ((apply (tk 6)); (case hi => exact rfl); (case hf => kernel_rfl); (case hS => (first | exact trivial | assumption | infer_instance | (refine ⟨?_, ?_⟩ <;> (first | assumption | infer_instance)) | (skip; done))); (case hy => (rintro wf ⟨hwa, hwb⟩; (((apply opv_buildS); exact rfl; exact (rfl : _ = some [_, _, _, _, _, _, _, _, _, _, _, _, _, _, _, _, _, _]))))))
  refine vA_two 7 8 rfl rfl (by kernel_rfl) (by (first | exact trivial | assumption | infer_instance | (refine ⟨?_, ?_⟩ <;> (first | assumption | infer_instance)) | (skip; done))) (fun K hK => ?_) (fun K hK => ?_)
  · (((apply vL_val); (case h => ((apply opw_buildSl); exact rfl; exact rfl; exact rfl; exact (rfl : _ = some [_, _, _, _, _, _, _, _, _, _, _, _, _, _, _, _, _, _])))); apply vL_nil)
    refine ⟨rfl, hK _ _ ?_⟩
    refine vA_only 8 rfl (by kernel_rfl) (by (first | exact trivial | assumption | infer_instance | (refine ⟨?_, ?_⟩ <;> (first | assumption | infer_instance)) | (skip; done))) (fun K hK => ?_)
    (((apply vL_skip); (case h => ((apply ops_storen); exact norm_eq rfl; exact norm_eq rfl; exact rfl; (intro u hu; simp only [List.mem_cons, List.not_mem_nil, or_false] at hu; rcases hu with rfl | rfl | rfl | rfl | rfl | rfl | rfl | rfl | rfl | rfl <;> (first | rfl | assumption)); infer_instance; (first | decide | exact of_decide_eq_true rfl | (simp; done))))); apply vL_nil)
    refine ⟨rfl, hK _ _ ?_⟩
    ((apply (tk 9)); (case hi => exact rfl); (case hf => kernel_rfl); (case hS => (first | exact trivial | assumption | infer_instance | (refine ⟨?_, ?_⟩ <;> (first | assumption | infer_instance)) | (skip; done))); (case hy => (rintro wf ⟨hwa, hwb⟩; (((apply opv_E); exact rfl)))))
    ((apply (tk 10)); (case hi => exact rfl); (case hf => kernel_rfl); (case hS => (first | exact trivial | assumption | infer_instance | (refine ⟨?_, ?_⟩ <;> (first | assumption | infer_instance)) | (skip; done))); (case hy => (rintro wf ⟨hwa, hwb⟩; (((apply opv_E); exact rfl)))))
    refine vA_done (by kernel_rfl) (by (first | exact trivial | assumption | infer_instance | (refine ⟨?_, ?_⟩ <;> (first | assumption | infer_instance)) | (skip; done))) ?_
    (apply seqP_normal; apply vC_ret)
    (apply retC3; (case ha => exact rfl); (case hD => exact rfl); (case hb => (infer_instance)); (case hcs => exact (rfl : _ = clE c3)); (case hl => exact rfl); (case hu => (exact norm_eq rfl)); (case hu2 => (exact norm_eq rfl)))
    exact ⟨c3, _, rfl, hch.frBlk h4h ⟨by decide, by decide, by decide⟩ ⟨by decide, by decide⟩ ((((Fr.refl (fun k => k = b4) w17).drew).alloc _).set _ _ (.inl rfl)), hf17.trans' ((((Fr.refl (fun k => k = b4) w17).drew).alloc _).set _ _ (.inl rfl)) (fun k hk => .inr (by omega)), hnfc⟩
  · (((apply vL_skip); (case h => ((apply ops_storen); exact norm_eq rfl; exact norm_eq rfl; exact rfl; (intro u hu; simp only [List.mem_cons, List.not_mem_nil, or_false] at hu; rcases hu with rfl | rfl | rfl | rfl | rfl | rfl | rfl | rfl | rfl | rfl <;> (first | rfl | assumption)); assumption; (first | decide | exact of_decide_eq_true rfl | (simp; done))))); apply vL_nil)
    refine ⟨rfl, hK _ _ ?_⟩
    refine vA_only 7 rfl (by kernel_rfl) (by (first | exact trivial | assumption | infer_instance | (refine ⟨?_, ?_⟩ <;> (first | assumption | infer_instance)) | (skip; done))) (fun K hK => ?_)
    (((apply vL_val); (case h => ((apply opw_buildSl); exact rfl; exact rfl; exact rfl; exact (rfl : _ = some [_, _, _, _, _, _, _, _, _, _, _, _, _, _, _, _, _, _])))); apply vL_nil)
    refine ⟨rfl, hK _ _ ?_⟩
    ((apply (tk 9)); (case hi => exact rfl); (case hf => kernel_rfl); (case hS => (first | exact trivial | assumption | infer_instance | (refine ⟨?_, ?_⟩ <;> (first | assumption | infer_instance)) | (skip; done))); (case hy => (rintro wf ⟨hwa, hwb⟩; (((apply opv_E); exact rfl)))))
    ((apply (tk 10)); (case hi => exact rfl); (case hf => kernel_rfl); (case hS => (first | exact trivial | assumption | infer_instance | (refine ⟨?_, ?_⟩ <;> (first | assumption | infer_instance)) | (skip; done))); (case hy => (rintro wf ⟨hwa, hwb⟩; (((apply opv_E); exact rfl)))))
    refine vA_done (by kernel_rfl) (by (first | exact trivial | assumption | infer_instance | (refine ⟨?_, ?_⟩ <;> (first | assumption | infer_instance)) | (skip; done))) ?_
    (apply seqP_normal; apply vC_ret)
    (apply retC3; (case ha => exact rfl); (case hD => exact rfl); (case hb => (infer_instance)); (case hcs => exact (rfl : _ = clE c3)); (case hl => exact rfl); (case hu => (exact norm_eq rfl)); (case hu2 => (exact norm_eq rfl)))
    exact ⟨c3, _, rfl, hch.frBlk h4h ⟨by decide, by decide, by decide⟩ ⟨by decide, by decide⟩ ((((Fr.refl (fun k => k = b4) w17).drew).set _ _ (.inl rfl)).alloc _), hf17.trans' ((((Fr.refl (fun k => k = b4) w17).drew).set _ _ (.inl rfl)).alloc _) (fun k hk => .inr (by omega)), hnfc⟩
end Go.Proofs.Ytchfaeaagpemlaa

set_option maxRecDepth 100000
namespace Go.Proofs.Ytchfaeaagpemlaa
open Go Go.Eng
theorem putp_nf {c c' : CL} {r : RQ} {sd : SD} (h : PutP c r c' sd) : c'.nf = { c with next := c.next + 1, wv := nilO, sv := nilO, ws := [⟨({ r with cl := c.id, call := c.next } : RQ).nf, c.now + 8, 1, c.broker % c.brokers + 1⟩] } := by
  obtain ⟨h1, h2, h3, h4, h5, h6, h7, h8, h9, _, _, x, hw, hx, hd, ht, hb⟩ := h
  unfold CL.nf
  rw [hw, h1, h2, h3, h4, h5, h6, h7, h8, h9, List.map_singleton]
  unfold WT.nf
  rw [hx, hd, ht, hb]
theorem tickp_nf {c c' : CL} {x : WT} {sd : SD} (h : TickP c x c' sd) : c'.nf = { c with now := c.now + 1, wv := nilO, sv := nilO, ws := [⟨x.rq.nf, c.now + 9, x.tries + 1, x.broker % c.brokers + 1⟩] } := by
  obtain ⟨h1, h2, h3, h4, h5, h6, h7, h8, h9, _, _, x', hw, hx, hd, ht, hb⟩ := h
  unfold CL.nf
  rw [hw, h1, h2, h3, h4, h5, h6, h7, h8, h9, List.map_singleton]
  unfold WT.nf
  rw [hx, hd, ht, hb]
/-- c holds what K says (K: without pointers) -/
structure Is (c K : CL) : Prop where
  id : c.id = K.id
  brokers : c.brokers = K.brokers
  next : c.next = K.next
  now : c.now = K.now
  broker : c.broker = K.broker
  pid : c.pid = K.pid
  ep : c.ep = K.ep
  stale : c.stale = K.stale
  ss : c.ss = K.ss
  ws : c.ws.map WT.nf = K.ws
theorem Is.of {c K : CL} (h : c.nf = K) : Is c K := by subst h; exact ⟨rfl, rfl, rfl, rfl, rfl, rfl, rfl, rfl, rfl, rfl⟩
theorem Is.nf {c K : CL} (h : Is c K) (hw : K.wv = nilO) (hs : K.sv = nilO) : c.nf = K := by
  obtain ⟨h1, h2, h3, h4, h5, h6, h7, h8, h9, h10⟩ := h
  obtain ⟨⟩ := K
  unfold CL.nf
  simp only at *
  rw [h1, h2, h3, h4, h5, h6, h7, h8, h9, h10, hw, hs]
theorem Is.nows {c K : CL} (h : Is c K) (hK : K.ws = []) : c.ws = [] := by have := h.ws; rw [hK] at this; simpa using this
theorem Is.one {c K : CL} {X : WT} (h : Is c K) (hK : K.ws = [X]) : ∃ x, c.ws = [x] ∧ x.nf = X := by
  have := h.ws
  rw [hK] at this
  obtain ⟨y, hy, e⟩ := List.map_eq_singleton_iff.1 this
  exact ⟨y, hy, e⟩
def tB : ByteArray := ⟨#[116]⟩
def rqM : RQ := { k := 4, cl := 5, call := 1, topic := ⟨#[]⟩, part := 0, pid := 0, ep := 0, fi := 0, brv := nilO, off := 0, most := 0, byt := 0, mkd := 2, grp := ⟨#[]⟩, nm := ⟨#[112]⟩, n := 0, trv := nilO, ptop := ⟨#[]⟩, ppart := 0, moff := 0, mnow := 0, mcl := 0, mcall := 0, brs := [], tps := [] }
def rqP (call fi : Int) (brs : List (OV × List Int)) : RQ := { k := 1, cl := 5, call := call, topic := tB, part := 0, pid := 7, ep := 0, fi := fi, brv := nilO, off := 0, most := 0, byt := 0, mkd := 0, grp := ⟨#[]⟩, nm := ⟨#[]⟩, n := 0, trv := nilO, ptop := ⟨#[]⟩, ppart := 0, moff := 0, mnow := 0, mcl := 0, mcall := 0, brs := brs, tps := [] }
def kA : CL := ⟨5, 3, 1, 0, 1, nilO, 0, 0, false, nilO, [], []⟩
def kB : CL := ⟨5, 3, 2, 0, 1, nilO, 0, 0, false, nilO, [⟨rqM, 8, 1, 2⟩], []⟩
def kC : CL := ⟨5, 3, 2, 0, 3, nilO, 0, 0, false, nilO, [⟨rqM, 1, 1, 3⟩], []⟩
def kD : CL := ⟨5, 3, 2, 1, 3, nilO, 0, 0, false, nilO, [⟨rqM, 9, 2, 1⟩], []⟩
def kE : CL := ⟨5, 3, 2, 1, 3, nilO, 7, 0, false, nilO, [], []⟩
def kF : CL := ⟨5, 3, 3, 1, 3, nilO, 7, 0, false, nilO, [⟨rqP 2 0 [(nilO, [97]), (nilO, [98])], 9, 1, 1⟩], []⟩
def kG : CL := ⟨5, 3, 3, 1, 3, nilO, 7, 0, false, nilO, [], [⟨tB, 0, 2⟩]⟩
def kH : CL := ⟨5, 3, 4, 1, 3, nilO, 7, 0, false, nilO, [⟨rqP 3 2 [(nilO, [])], 9, 1, 1⟩], [⟨tB, 0, 2⟩]⟩
theorem may_tB : mayPB tB 0 = true := by decide +kernel
theorem r1_of {K : CL} (h1 : 1 ≤ K.id ∧ K.id ≤ 1048576) (h2 : 1 ≤ K.brokers ∧ K.brokers ≤ 7) (h3 : 1 ≤ K.next ∧ K.next ≤ 1099511627776) (h4 : 0 ≤ K.now ∧ K.now ≤ 1099511627776) (h5 : 1 ≤ K.broker ∧ K.broker ≤ K.brokers) (h6 : 0 ≤ K.pid ∧ K.pid ≤ 4611686018427387904) (h7 : 0 ≤ K.ep ∧ K.ep ≤ 1073741824) (h8 : K.pid = 0 → K.ep = 0 ∧ K.ss.length = 0) (h9 : K.ss = [] ∨ K.ss = [⟨tB, 0, 2⟩]) (h10 : K.ws = [] ∨ ∃ x, K.ws = [x] ∧ WOk K.id K.next K.brokers x) : R1 K := by
  refine ⟨h1, h2, h3, h4, h5, h6, h7, h8, ?_, ?_, ?_, ?_⟩
  · rcases h9 with h | h <;> rw [h] <;> decide
  · rcases h9 with h | h <;> rw [h] <;> intro s hs
    · cases hs
    · rw [List.mem_singleton.1 hs]; exact ⟨may_tB, by decide, by decide, by decide +kernel⟩
  · rcases h10 with h | ⟨x, h, _⟩ <;> rw [h] <;> simp
  · rcases h10 with h | ⟨x, h, hx⟩ <;> rw [h] <;> intro s hs
    · cases hs
    · rw [List.mem_singleton.1 hs]; exact hx
theorem r1A : R1 kA := r1_of (by decide) (by decide) (by decide) (by decide) (by decide) (by decide) (by decide) (by decide) (.inl rfl) (.inl rfl)
theorem r1B : R1 kB := r1_of (by decide) (by decide) (by decide) (by decide) (by decide) (by decide) (by decide) (by decide) (.inl rfl) (.inr ⟨_, rfl, by unfold WOk; decide +kernel⟩)
theorem r1C : R1 kC := r1_of (by decide) (by decide) (by decide) (by decide) (by decide) (by decide) (by decide) (by decide) (.inl rfl) (.inr ⟨_, rfl, by unfold WOk; decide +kernel⟩)
theorem r1D : R1 kD := r1_of (by decide) (by decide) (by decide) (by decide) (by decide) (by decide) (by decide) (by decide) (.inl rfl) (.inr ⟨_, rfl, by unfold WOk; decide +kernel⟩)
theorem r1E : R1 kE := r1_of (by decide) (by decide) (by decide) (by decide) (by decide) (by decide) (by decide) (by decide) (.inl rfl) (.inl rfl)
theorem r1F : R1 kF := r1_of (by decide) (by decide) (by decide) (by decide) (by decide) (by decide) (by decide) (by decide) (.inl rfl) (.inr ⟨_, rfl, by unfold WOk; decide +kernel⟩)
theorem r1G : R1 kG := r1_of (by decide) (by decide) (by decide) (by decide) (by decide) (by decide) (by decide) (by decide) (.inr rfl) (.inl rfl)
theorem r1H : R1 kH := r1_of (by decide) (by decide) (by decide) (by decide) (by decide) (by decide) (by decide) (by decide) (.inr rfl) (.inr ⟨_, rfl, by unfold WOk; decide +kernel⟩)
theorem Is.r1 {c K : CL} (h : Is c K) (hw : K.wv = nilO) (hs : K.sv = nilO) (hK : K.nf = K) (R : R1 K) : R1 c := R1.nf (show c.nf = K.nf by rw [hK]; exact h.nf hw hs) R
theorem matchN {a : RP} {x X : WT} (h : x.nf = X) (hX : matchB a X = true) : matchB a x = true := (congrArg (matchB a) h).trans hX
def aA : RP := ⟨4, 5, 1, 220, 3, 0, 0, 0, false, nilO, 0, 0, 0, 0, 0, nilO⟩
def aB : RP := ⟨4, 5, 1, 0, 3, 0, 0, 0, false, nilO, 0, 7, 0, 0, 0, nilO⟩
def aC : RP := ⟨1, 5, 2, 0, 3, 0, 0, 0, false, nilO, 0, 0, 0, 0, 0, nilO⟩
def rqA : RQ := { rqM with cl := 0, call := 0 }
theorem isB {c' : CL} {sd : SD} (h : PutP kA rqA c' sd) : Is c' kB := Is.of (putp_nf h)
theorem isC {c c' : CL} {x : WT} (I : Is c kB) (hx : x.nf = ⟨rqM, 8, 1, 2⟩) (h : c'.nf = ({ c with broker := aA.leader, ws := [{ x with due := c.now + 1, broker := aA.leader }] } : CL).nf) : Is c' kC :=
  ⟨(congrArg CL.id h).trans I.id, (congrArg CL.brokers h).trans I.brokers, (congrArg CL.next h).trans I.next, (congrArg CL.now h).trans I.now, (congrArg CL.broker h).trans rfl, (congrArg CL.pid h).trans I.pid, (congrArg CL.ep h).trans I.ep, (congrArg CL.stale h).trans I.stale, (congrArg CL.ss h).trans I.ss, (congrArg CL.ws h).trans (by
    show [({ x.nf with due := c.now + 1, broker := 3 } : WT)] = _
    rw [hx, I.now]; rfl)⟩
theorem isD {c c' : CL} {x : WT} {sd : SD} (I : Is c kC) (hx : x.nf = ⟨rqM, 1, 1, 3⟩) (h : TickP c x c' sd) : Is c' kD ∧ sd.to = 3 := by
  have hb : x.broker = 3 := congrArg WT.broker hx
  have ht : x.tries = 1 := congrArg WT.tries hx
  have hr : x.rq.nf = rqM := congrArg WT.rq hx
  have h' := tickp_nf h
  rw [I.now, I.brokers, hb, ht, hr] at h'
  exact ⟨⟨(congrArg CL.id h').trans I.id, (congrArg CL.brokers h').trans rfl, (congrArg CL.next h').trans I.next, (congrArg CL.now h').trans rfl, (congrArg CL.broker h').trans I.broker, (congrArg CL.pid h').trans I.pid, (congrArg CL.ep h').trans I.ep, (congrArg CL.stale h').trans I.stale, (congrArg CL.ss h').trans I.ss, (congrArg CL.ws h').trans rfl⟩, h.2.2.2.2.2.2.2.2.2.1.trans hb⟩
theorem isE {c c' : CL} (I : Is c kD) (h : c'.nf = ({ c with broker := aB.leader, ws := [], pid := aB.mpid, ep := aB.mep, stale := false, ss := [] } : CL).nf) : Is c' kE :=
  ⟨(congrArg CL.id h).trans I.id, (congrArg CL.brokers h).trans I.brokers, (congrArg CL.next h).trans I.next, (congrArg CL.now h).trans I.now, (congrArg CL.broker h).trans rfl, (congrArg CL.pid h).trans rfl, (congrArg CL.ep h).trans rfl, (congrArg CL.stale h).trans rfl, (congrArg CL.ss h).trans rfl, (congrArg CL.ws h).trans rfl⟩
theorem isF {c c' : CL} {rv : OV} {brs : List (OV × List Int)} {sd : SD} (I : Is c kE) (hb : brs.map (fun y => (nilO, y.2)) = [(nilO, [97]), (nilO, [98])]) (h : PutP c (prodR c tB 0 (firstOf c) rv brs) c' sd) : Is c' kF ∧ sd.to = 3 ∧ sd.rq.pid = 7 := by
  have hfo : firstOf c = 0 := by unfold firstOf; rw [I.ss]; rfl
  have h' := putp_nf h
  have hr : ({ prodR c tB 0 (firstOf c) rv brs with cl := c.id, call := c.next } : RQ).nf = rqP 2 0 [(nilO, [97]), (nilO, [98])] := by
    unfold prodR RQ.nf
    simp only
    rw [hb, hfo, I.pid, I.ep, I.id, I.next]; rfl
  have hs := h.2.2.2.2.2.2.2.2.2.2.1
  rw [hr] at h' hs
  rw [I.now, I.broker, I.brokers, I.next] at h'
  exact ⟨⟨(congrArg CL.id h').trans I.id, (congrArg CL.brokers h').trans rfl, (congrArg CL.next h').trans rfl, (congrArg CL.now h').trans rfl, (congrArg CL.broker h').trans rfl, (congrArg CL.pid h').trans I.pid, (congrArg CL.ep h').trans I.ep, (congrArg CL.stale h').trans I.stale, (congrArg CL.ss h').trans I.ss, (congrArg CL.ws h').trans rfl⟩, h.2.2.2.2.2.2.2.2.2.1.trans I.broker, congrArg RQ.pid hs⟩
theorem isG {c c' : CL} {x : WT} (I : Is c kF) (hx : x.nf = ⟨rqP 2 0 [(nilO, [97]), (nilO, [98])], 9, 1, 1⟩) (h : c'.nf = ({ c with broker := aC.leader, ws := [], ss := [⟨x.rq.topic, x.rq.part, x.rq.fi + x.rq.brs.length⟩] } : CL).nf) : Is c' kG := by
  have e1 : x.rq.topic = tB := congrArg (fun y : WT => y.rq.topic) hx
  have e2 : x.rq.part = 0 := congrArg (fun y : WT => y.rq.part) hx
  have e3 : x.rq.fi = 0 := congrArg (fun y : WT => y.rq.fi) hx
  have e4 : x.rq.brs.length = 2 := by
    have h1 : x.rq.brs.map (fun y => (nilO, y.2)) = [(nilO, [97]), (nilO, [98])] := congrArg (fun y : WT => y.rq.brs) hx
    simpa using congrArg List.length h1
  rw [e1, e2, e3, e4] at h
  exact ⟨(congrArg CL.id h).trans I.id, (congrArg CL.brokers h).trans I.brokers, (congrArg CL.next h).trans I.next, (congrArg CL.now h).trans I.now, (congrArg CL.broker h).trans rfl, (congrArg CL.pid h).trans I.pid, (congrArg CL.ep h).trans I.ep, (congrArg CL.stale h).trans I.stale, (congrArg CL.ss h).trans rfl, (congrArg CL.ws h).trans rfl⟩
theorem isH {c c' : CL} {rv : OV} {brs : List (OV × List Int)} {sd : SD} (I : Is c kG) (hb : brs.map (fun y => (nilO, y.2)) = [(nilO, [])]) (h : PutP c (prodR c tB 0 (firstOf c) rv brs) c' sd) : Is c' kH ∧ sd.rq.fi = 2 := by
  have hfo : firstOf c = 2 := by unfold firstOf; rw [I.ss]; rfl
  have h' := putp_nf h
  have hr : ({ prodR c tB 0 (firstOf c) rv brs with cl := c.id, call := c.next } : RQ).nf = rqP 3 2 [(nilO, [])] := by
    unfold prodR RQ.nf
    simp only
    rw [hb, hfo, I.pid, I.ep, I.id, I.next]; rfl
  have hs := h.2.2.2.2.2.2.2.2.2.2.1
  rw [hr] at h' hs
  rw [I.now, I.broker, I.brokers, I.next] at h'
  exact ⟨⟨(congrArg CL.id h').trans I.id, (congrArg CL.brokers h').trans rfl, (congrArg CL.next h').trans rfl, (congrArg CL.now h').trans rfl, (congrArg CL.broker h').trans rfl, (congrArg CL.pid h').trans I.pid, (congrArg CL.ep h').trans I.ep, (congrArg CL.stale h').trans I.stale, (congrArg CL.ss h').trans I.ss, (congrArg CL.ws h').trans rfl⟩, congrArg RQ.fi hs⟩
theorem szM {x : WT} {d t b : Int} (hx : x.nf = ⟨rqM, d, t, b⟩) : RqSz x.rq := rqsz_nf (r := rqM) (congrArg WT.rq hx) ⟨by decide, (fun y hy => by cases hy), by decide⟩
theorem szP {x : WT} {d t b ca fi : Int} {l : List (OV × List Int)} (hl : l.length ≤ 10 ∧ ∀ y ∈ l, y.2.length ≤ 10) (hn : l.map (fun y => (nilO, y.2)) = l) (hx : x.nf = ⟨rqP ca fi l, d, t, b⟩) : RqSz x.rq :=
  rqsz_nf (r := rqP ca fi l) ((congrArg WT.rq hx).trans (by unfold RQ.nf rqP; simp only [hn])) ⟨by have := hl.1; show l.length * 24 ≤ _; omega, (fun y hy => by have := hl.2 y hy; omega), (by show ([] : List ByteArray).length * 16 ≤ _; decide)⟩
end Go.Proofs.Ytchfaeaagpemlaa

set_option maxRecDepth 100000
namespace Go.Proofs.Ytchfaeaagpemlaa
open Go Go.Eng
theorem nilRq (h : Array Obj) {r : RQ} (h1 : r.brv = nilO) (h2 : r.trv = nilO) (h3 : r.brs = []) (h4 : r.tps = []) : RqRd h r :=
  ⟨by rw [h1, h3]; exact (Own.nil h 71 1 brE).rd, by rw [h3]; exact fun y hy => (by cases hy), by rw [h2, h4]; exact (Own.nil h 9 1 sE).rd⟩
theorem opw_convMark {P : Program} {d : Option Nat} {ty t E : TypeId} {p : String} {af : Array Edge} {e : Env} {w : World} {x : Operand} {C : Array Value} {n c : Nat} [ht : TUnd P t (.slice E)] [hE : TUnd P E (.int .u8)] (hx : ev e x = .slice (some ⟨w.heap.size, 0, none⟩) n c) :
    OpV P ⟨d, .convert t t x, ty, p, af, none⟩ e (w.alloc (.cells C E)) (.slice (some ⟨w.heap.size, 0, none⟩) n c) (w.alloc (.cells C E (C.size, C.size + 1))) := by
  have h := Go.Lib.run_convert_bytes_const (P := P) w t E C n c ht.out hE.out
  simp only [OpV, execOp, hx, Sem.run_bind, h, Result.andThen_ok, Sem.run_pure]
theorem rd_mark (w : World) (a : Int) (T : TypeId) (f : Nat × Nat) : Rd (w.alloc (.cells #[.int .u8 a] T f)).heap 1 u8E (.slice (some ⟨w.heap.size, 0, none⟩) 1 1) [a] :=
  ⟨.inr ⟨_, _, _, rfl, Nat.le_refl _⟩, by simp, fun _ _ => rfl, fun i x hx j u hu => by
    cases i with
    | succ i => simp at hx
    | zero =>
      simp at hx; subst hx
      cases j with
      | succ j => simp [u8E] at hu
      | zero =>
        simp [u8E] at hu; subst hu
        exact ⟨#[.int .u8 a], T, f, (Array.getElem?_push_size : (w.heap.push (.cells #[.int .u8 a] T f))[w.heap.size]? = some _), rfl⟩⟩
theorem awake31 (w : World) : Rets Try.prog 6 #[] w fun u w' => u = .bool true ∧ Fr No w w' := by
  refine rets_of Try.func6 rfl Try.ntmps6 rfl rfl (by kernel_rfl) ?_
  (apply vC_seq; apply vC_region; ((apply vL_val); (case h => ((apply opv_E); exact rfl))); apply vL_nil; apply seqP_normal; apply vC_seq; apply vC_region)
  refine vL_callF rfl (new31 5 3 w (by decide) (by decide)) rfl ?_
  rintro _ w1 ⟨rfl, hf1⟩
  (((iterate 3 (((apply vL_val); (case h => ((apply opv_E); exact rfl))))); ((apply vL_val); (case h => (apply opw_alloc))); ((apply vL_skip); (case h => ((apply ops_storen); exact norm_eq rfl; exact norm_eq rfl; exact rfl; (intro u hu; simp only [List.mem_cons, List.not_mem_nil, or_false] at hu; rcases hu with rfl | rfl | rfl | rfl | rfl | rfl | rfl | rfl | rfl | rfl <;> (first | rfl | assumption)); infer_instance; (first | decide | exact of_decide_eq_true rfl | (simp; done))))); ((apply vL_val); (case h => ((apply opv_E); exact rfl))); apply vL_nil)); with_reducible apply seqP_normal
  ((apply vC_seq; apply vC_region))
  have hb1 := hf1.size
  refine vL_gen (fun w' => Fr No w w' ∧ Blk w'.heap w1.heap.size (clE kA) 25) ⟨by (apply Fr.allocSet; assumption), Blk.as inferInstance rfl⟩ ?_
  rintro w2 ⟨hf2, h2⟩
  generalize w1.heap.size = b1 at h2 hb1 ⊢
  have hc2 : ClOwn w2.heap kA := ⟨Own.nil _ _ _ _, (fun y hy => by cases hy), Own.nil _ _ _ _⟩
  (((apply vL_val); (case h => ((apply opv_loadbC); exact rfl; exact rfl; assumption; exact (rfl : _ = [_, _, _, _, _, _, _, _, _, _]); exact rfl))); ((apply vL_val); (case h => ((apply opv_buildS); exact rfl; exact (rfl : _ = some [_, _, _, _, _, _, _, _, _, _, _])))); ((apply vL_val); (case h => ((apply opv_buildS); exact rfl; exact (rfl : _ = some [_, _, _, _, _, _, _, _, _, _, _, _, _, _, _, _, _, _, _, _, _, _, _])))))
  refine vL_callF rfl (ask31 kA rqA w2 r1A rfl (by decide) hc2.rd (nilRq _ rfl rfl rfl rfl) ⟨by decide, (fun y hy => by cases hy), by decide⟩ (by decide)) rfl ?_
  rintro _ w3 ⟨cB, lB, sdB, rfl, hlB, hlB1, hc3, _, _, hf3, hP⟩
  have IB := isB hP
  have hto : sdB.to = 1 := hP.2.2.2.2.2.2.2.2.2.1
  have hrq := hP.2.2.2.2.2.2.2.2.2.2.1
  have hca : sdB.rq.call = 1 := congrArg RQ.call hrq
  have hcl : sdB.rq.cl = 5 := congrArg RQ.cl hrq
  have h3 := h2.frN hf3
  have hfw3 := hf2.trans hf3
  have hBw := cB.wv.2
  have hBs := cB.sv.2
  (((iterate 2 (((apply vL_val); (case h => ((apply opv_E); exact rfl))))); ((apply vL_val); (case h => ((apply opv_extract); exact norm_eq rfl; exact rfl))); ((apply vL_val); (case h => ((apply opv_E); exact rfl))); ((apply vL_skip); (case h => ((apply ops_storen); exact norm_eq rfl; exact norm_eq rfl; exact rfl; exact (fun u hu => EncOk.one _ u hu); assumption; (first | decide | exact of_decide_eq_true rfl | (simp; done))))); ((apply vL_val); (case h => ((apply opv_assign); ((conv => lhs; whnf) <;> exact rfl)))); ((apply vL_val); (case h => ((apply opv_E); exact rfl))); apply vL_nil)); with_reducible apply seqP_normal
  (((iterate 2 (apply vC_seq)); apply vC_region))
  refine vL_gen (fun w' => Fr No w w' ∧ w.heap.size ≤ b1 ∧ Blk w'.heap b1 (clE cB) 25 ∧ ClOwn w'.heap cB∧ Rd w'.heap 24 sdE lB [sdB]) ⟨hfw3.set _ _ (.inr hb1), hb1, Blk.as (Blk.set h3) rfl, hc3.frBlk h3 ⟨by decide, by decide, by decide⟩ ⟨by decide, by decide⟩ ((Fr.refl (fun k => k = b1) _).set _ _ (.inl rfl)), (hlB.set (Own.ne_blk hlB h3 (by decide))).rd⟩ ?_
  rintro w4 ⟨hf4, hb4, h4, hc4, hl4⟩
  clear h2 hc2 h3 hc3 hlB hf2 hf3 hfw3
  have hsi : ([sdB] : List SD)[(0 : Int).toNat]? = some sdB := rfl
  have hsl : (([sdB] : List SD).length : Int) = 1 := rfl
  ((iterate 3 (((apply vL_val); (case h => ((apply opv_E); exact rfl))))); ((apply vL_wanted); exact rfl); ((apply vL_val); (case h => ((apply opv_E); exact rfl))); ((apply vL_wanted); exact rfl); (iterate 3 (((apply vL_val); (case h => ((apply opv_E); exact rfl))))); ((apply vL_wanted); exact rfl); ((apply vL_val); (case h => ((apply opv_move); ((conv => lhs; whnf) <;> exact rfl)))); ((apply vL_wanted); exact rfl); ((apply vL_val); (case h => ((apply opv_len); ((conv => lhs; whnf) <;> exact rfl); assumption))); ((apply vL_wanted); exact rfl); (iterate 3 (((apply vL_val); (case h => ((apply opv_E); exact rfl))))); ((apply vL_wanted); exact rfl); ((apply vL_val); (case h => ((apply opv_move); ((conv => lhs; whnf) <;> exact rfl)))); ((apply vL_wanted); exact rfl); ((apply vL_val); (case h => ((apply opv_indexAddr); ((conv => lhs; whnf) <;> exact rfl); exact rfl; assumption; (first | omega | (simp only [List.length_map]; omega)); (first | omega | (simp only [List.length_map]; omega))))); ((apply vL_wanted); exact rfl); ((apply vL_val); (case h => ((apply opv_fieldAddr); exact rfl))); ((apply vL_wanted); exact rfl); ((apply vL_val); (case h => ((apply opv_ld_el); exact rfl; exact rfl; assumption; assumption; exact rfl))); ((apply vL_wanted); exact rfl); (iterate 3 (((apply vL_val); (case h => ((apply opv_E); exact rfl))))); (refine vL_or rfl rfl (fun _ => ?_) (fun h => by omega)); ((apply vL_val); (case h => ((apply opv_move); ((conv => lhs; whnf) <;> exact rfl)))); ((apply vL_wanted); exact rfl); ((apply vL_val); (case h => ((apply opv_indexAddr); ((conv => lhs; whnf) <;> exact rfl); exact rfl; assumption; (first | omega | (simp only [List.length_map]; omega)); (first | omega | (simp only [List.length_map]; omega))))); ((apply vL_wanted); exact rfl); ((apply vL_val); (case h => ((apply opv_fieldAddr); exact rfl))); ((apply vL_wanted); exact rfl); ((apply vL_val); (case h => ((apply opv_fieldAddr); exact rfl))); ((apply vL_wanted); exact rfl))
  refine vL_val (opv_ld_el (v := lB) (sz := 24) (i := 0) (j := 3) (enc := sdE) (x0 := sdB) (xs := [sdB]) rfl rfl hl4 hsi (rfl : _ = some (Value.int .i64 sdB.rq.call))) ?_
  (((apply vL_wanted); exact rfl); (iterate 3 (((apply vL_val); (case h => ((apply opv_E); exact rfl))))); (refine vL_or rfl rfl (fun _ => ?_) (fun h => by omega)); ((apply vL_val); (case h => ((apply opv_move); ((conv => lhs; whnf) <;> exact rfl)))); ((apply vL_wanted); exact rfl); ((apply vL_val); (case h => ((apply opv_indexAddr); ((conv => lhs; whnf) <;> exact rfl); exact rfl; assumption; (first | omega | (simp only [List.length_map]; omega)); (first | omega | (simp only [List.length_map]; omega))))); ((apply vL_wanted); exact rfl); ((apply vL_val); (case h => ((apply opv_fieldAddr); exact rfl))); ((apply vL_wanted); exact rfl); ((apply vL_val); (case h => ((apply opv_fieldAddr); exact rfl))); ((apply vL_wanted); exact rfl))
  refine vL_val (opv_ld_el (v := lB) (sz := 24) (i := 0) (j := 2) (enc := sdE) (x0 := sdB) (xs := [sdB]) rfl rfl hl4 hsi (rfl : _ = some (Value.int .i64 sdB.rq.cl))) ?_
  (((apply vL_wanted); exact rfl); (iterate 2 (((apply vL_val); (case h => ((apply opv_E); exact rfl))))); apply vL_nil; apply seqP_normal; (refine vC_cond_dec rfl (fun h => by omega) (fun _ => ?_)); apply vC_skip; apply seqP_normal; apply vC_seq; apply vC_region; ((apply vL_val); (case h => ((apply opv_loadbC); exact rfl; exact rfl; assumption; exact (rfl : _ = [_, _, _, _, _, _, _, _, _, _]); exact rfl))); ((apply vL_val); (case h => ((apply opv_buildS); exact rfl; exact (rfl : _ = some [_, _, _, _, _, _, _, _, _, _, _, _, _, _, _, _])))))
  obtain ⟨xB, hxB, hnB⟩ := IB.one rfl
  refine vL_callF rfl (takeA31 cB xB aA w4 (IB.r1 rfl rfl rfl r1B) hxB (matchN hnB (by decide)) rfl (by rw [IB.brokers]; decide) hc4.rd (szM hnB)) rfl ?_
  rintro _ w5 ⟨cC, xC, rfl, hc5, hf5, hnC, _⟩
  have IC := isC IB hnB hnC
  have h5 := h4.frN hf5
  have hfw5 := hf4.trans hf5
  have hCw := cC.wv.2
  have hCs := cC.sv.2
  (((iterate 4 (((apply vL_val); (case h => ((apply opv_E); exact rfl))))); ((apply vL_skip); (case h => ((apply ops_storen); exact norm_eq rfl; exact norm_eq rfl; exact rfl; exact (fun u hu => EncOk.one _ u hu); assumption; (first | decide | exact of_decide_eq_true rfl | (simp; done))))); apply vL_nil)); with_reducible apply seqP_normal
  ((apply vC_seq; apply vC_region))
  refine vL_gen (fun w' => Fr No w w' ∧ w.heap.size ≤ b1 ∧ Blk w'.heap b1 (clE cC) 25 ∧ ClOwn w'.heap cC) ⟨hfw5.set _ _ (.inr hb1), hb1, Blk.as (Blk.set h5) rfl, hc5.frBlk h5 ⟨by decide, by decide, by decide⟩ ⟨by decide, by decide⟩ ((Fr.refl (fun k => k = b1) _).set _ _ (.inl rfl))⟩ ?_
  rintro w6 ⟨hf6, hb6, h6, hc6⟩
  clear h4 hc4 h5 hc5 hl4 hf4 hf5 hfw5
  (((apply vL_val); (case h => ((apply opv_loadbC); exact rfl; exact rfl; assumption; exact (rfl : _ = [_, _, _, _, _, _, _, _, _, _]); exact rfl))))
  obtain ⟨xC, hxC, hnC'⟩ := IC.one rfl
  have hdC : xC.due = 1 := congrArg WT.due hnC'
  have htC : xC.tries = 1 := congrArg WT.tries hnC'
  refine vL_callF rfl (tick31 cC xC w6 (IC.r1 rfl rfl rfl r1C) hxC (by rw [IC.now]; decide) (by rw [IC.now, hdC]; decide) (by rw [htC]; decide) hc6.rd (szM hnC')) rfl ?_
  rintro _ w7 ⟨cD, lD, sdD, rfl, hlD, hlD1, hc7, _, _, hf7, hPD⟩
  obtain ⟨ID, htoD⟩ := isD IC hnC' hPD
  have h7 := h6.frN hf7
  have hfw7 := hf6.trans hf7
  have hDw := cD.wv.2
  have hDs := cD.sv.2
  (((iterate 3 (((apply vL_val); (case h => ((apply opv_E); exact rfl))))); ((apply vL_val); (case h => ((apply opv_extract); exact norm_eq rfl; exact rfl))); ((apply vL_skip); (case h => ((apply ops_storen); exact norm_eq rfl; exact norm_eq rfl; exact rfl; exact (fun u hu => EncOk.one _ u hu); assumption; (first | decide | exact of_decide_eq_true rfl | (simp; done))))); ((apply vL_val); (case h => ((apply opv_assign); ((conv => lhs; whnf) <;> exact rfl)))); apply vL_nil)); with_reducible apply seqP_normal
  (((iterate 2 (apply vC_seq)); apply vC_region))
  refine vL_gen (fun w' => Fr No w w' ∧ w.heap.size ≤ b1 ∧ Blk w'.heap b1 (clE cD) 25 ∧ ClOwn w'.heap cD∧ Rd w'.heap 24 sdE lD [sdD]) ⟨hfw7.set _ _ (.inr hb1), hb1, Blk.as (Blk.set h7) rfl, hc7.frBlk h7 ⟨by decide, by decide, by decide⟩ ⟨by decide, by decide⟩ ((Fr.refl (fun k => k = b1) _).set _ _ (.inl rfl)), (hlD.set (Own.ne_blk hlD h7 (by decide))).rd⟩ ?_
  rintro w8 ⟨hf8, hb8, h8, hc8, hl8⟩
  clear h6 hc6 h7 hc7 hlD hf6 hf7 hfw7
  have hdi : ([sdD] : List SD)[(0 : Int).toNat]? = some sdD := rfl
  have hdl : (([sdD] : List SD).length : Int) = 1 := rfl
  (((apply vL_val); (case h => ((apply opv_move); ((conv => lhs; whnf) <;> exact rfl)))); ((apply vL_val); (case h => ((apply opv_len); ((conv => lhs; whnf) <;> exact rfl); assumption))); (iterate 2 (((apply vL_val); (case h => ((apply opv_E); exact rfl))))); ((apply vL_wanted); exact rfl); ((apply vL_val); (case h => ((apply opv_move); ((conv => lhs; whnf) <;> exact rfl)))); ((apply vL_wanted); exact rfl); ((apply vL_val); (case h => ((apply opv_indexAddr); ((conv => lhs; whnf) <;> exact rfl); exact rfl; assumption; (first | omega | (simp only [List.length_map]; omega)); (first | omega | (simp only [List.length_map]; omega))))); ((apply vL_wanted); exact rfl); ((apply vL_val); (case h => ((apply opv_fieldAddr); exact rfl))); ((apply vL_wanted); exact rfl); ((apply vL_val); (case h => ((apply opv_ld_el); exact rfl; exact rfl; assumption; assumption; exact rfl))); ((apply vL_wanted); exact rfl); (iterate 2 (((apply vL_val); (case h => ((apply opv_E); exact rfl))))); apply vL_nil; apply seqP_normal; (refine vC_cond_dec rfl (fun h => by omega) (fun _ => ?_)); apply vC_skip; apply seqP_normal; apply vC_seq; apply vC_region; ((apply vL_val); (case h => ((apply opv_loadbC); exact rfl; exact rfl; assumption; exact (rfl : _ = [_, _, _, _, _, _, _, _, _, _]); exact rfl))); ((apply vL_val); (case h => ((apply opv_buildS); exact rfl; exact (rfl : _ = some [_, _, _, _, _, _])))); ((apply vL_val); (case h => ((apply opv_buildS); exact rfl; exact (rfl : _ = some [_, _, _, _, _, _, _, _, _, _, _, _, _, _, _, _])))))
  obtain ⟨xD, hxD, hnD⟩ := ID.one rfl
  have hkD : xD.rq.k = 4 := congrArg (fun y : WT => y.rq.k) hnD
  have hmD : xD.rq.mkd = 2 := congrArg (fun y : WT => y.rq.mkd) hnD
  refine vL_callF rfl (takeB31 cD xD aB w8 (ID.r1 rfl rfl rfl r1D) hxD (matchN hnD (by decide)) rfl (by rw [ID.brokers]; decide) hc8.rd (szM hnD) hkD hmD (by decide) (by decide) rfl rfl) rfl ?_
  rintro _ w9 ⟨cE, bd, rfl, hc9, hf9, hnE⟩
  have IE := isE ID hnE
  have h9 := h8.frN hf9
  have hfw9 := hf8.trans hf9
  have hEw := cE.wv.2
  have hEs := cE.sv.2
  (((iterate 4 (((apply vL_val); (case h => ((apply opv_E); exact rfl))))); ((apply vL_skip); (case h => ((apply ops_storen); exact norm_eq rfl; exact norm_eq rfl; exact rfl; exact (fun u hu => EncOk.one _ u hu); assumption; (first | decide | exact of_decide_eq_true rfl | (simp; done))))); (iterate 2 (((apply vL_val); (case h => ((apply opv_E); exact rfl))))); apply vL_nil)); with_reducible apply seqP_normal
  ((apply vC_seq; apply vC_region))
  refine vL_gen (fun w' => Fr No w w' ∧ w.heap.size ≤ b1 ∧ Blk w'.heap b1 (clE cE) 25 ∧ ClOwn w'.heap cE) ⟨hfw9.set _ _ (.inr hb1), hb1, Blk.as (Blk.set h9) rfl, hc9.frBlk h9 ⟨by decide, by decide, by decide⟩ ⟨by decide, by decide⟩ ((Fr.refl (fun k => k = b1) _).set _ _ (.inl rfl))⟩ ?_
  rintro w10 ⟨hf10, hb10, h10, hc10⟩
  clear h8 hc8 h9 hc9 hl8 hf8 hf9 hfw9
  ((((apply vL_val); (case h => ((apply opv_buildS); exact rfl; exact (rfl : _ = some [_, _])))); ((apply vL_val); (case h => (apply opw_alloc))); ((apply vL_skip); (case h => ((apply ops_storen); exact norm_eq rfl; exact norm_eq rfl; exact rfl; (intro u hu; simp at hu; rcases hu with rfl | rfl <;> (first | rfl | assumption)); infer_instance; (first | decide | exact of_decide_eq_true rfl | (simp; done))))); apply vL_nil)); with_reducible apply seqP_normal
  ((apply vC_seq; apply vC_region))
  refine vL_gen (fun w' => Fr No w10 w' ∧ w10.heap.size < w'.heap.size ∧ Blk w'.heap w10.heap.size [.string tB, .int .i64 0] 36) ⟨by (apply Fr.allocSet; exact Fr.refl _ _), by simp, Blk.as inferInstance rfl⟩ ?_
  rintro w11 ⟨hf11, hz11, h711⟩
  have hz10 := hf10.size
  have hlb7 := h10.lt
  have h11 := h10.frN hf11
  have hc11 := hc10.frN hf11
  have hfw11 := hf10.trans hf11
  generalize w10.heap.size = b7 at hz11 h711 hz10 hlb7 ⊢
  clear h10 hc10 hf10 hf11
  (((apply vL_val); (case h => ((apply opv_loadbC); exact rfl; exact rfl; assumption; exact (rfl : _ = [_, _, _, _, _, _, _, _, _, _]); exact rfl))); ((apply vL_val); (case h => ((apply opv_loadbC); exact rfl; exact rfl; assumption; exact (rfl : _ = [_, _]); exact rfl))); ((apply vL_val); (case h => ((apply opw_buildSl); exact rfl; exact rfl; exact rfl; exact (rfl : _ = some [_])))))
  refine vL_val (opw_convMark rfl) ?_
  refine vL_gen (fun w' => Fr No w11 w' ∧ Rd w'.heap 1 u8E (.slice (some ⟨w11.heap.size, 0, none⟩) 1 1) [97]) ⟨by (apply Fr.alloc; exact Fr.refl _ _), rd_mark _ _ _ _⟩ ?_
  rintro w12 ⟨hf12, hr12⟩
  generalize w11.heap.size = bx at hr12 ⊢
  (((apply vL_val); (case h => ((apply opw_buildSl); exact rfl; exact rfl; exact rfl; exact (rfl : _ = some [_])))))
  refine vL_val (opw_convMark rfl) ?_
  refine vL_gen (fun w' => Fr No w12 w' ∧ Rd w'.heap 1 u8E (.slice (some ⟨w12.heap.size, 0, none⟩) 1 1) [98]) ⟨by (apply Fr.alloc; exact Fr.refl _ _), rd_mark _ _ _ _⟩ ?_
  rintro w13 ⟨hf13, hr13⟩
  generalize w12.heap.size = bz at hr13 ⊢
  (((apply vL_val); (case h => ((apply opw_buildSl); exact rfl; exact rfl; exact rfl; exact (rfl : _ = some [_, _])))))
  obtain ⟨vx, evx⟩ : ∃ v : OV, v = ⟨.slice (some ⟨bx, 0, none⟩) 1 1, rfl⟩ := ⟨_, rfl⟩
  obtain ⟨vz, evz⟩ : ∃ v : OV, v = ⟨.slice (some ⟨bz, 0, none⟩) 1 1, rfl⟩ := ⟨_, rfl⟩
  refine vL_gen (fun w' => Fr No w13 w' ∧ Rd w'.heap 1 brE (.slice (some ⟨w13.heap.size, 0, none⟩) 2 2) [(vx, [97]), (vz, [98])]) ⟨by (apply Fr.alloc; exact Fr.refl _ _), (Own.newN (w := w13) (T := 71) brE [(vx, [97]), (vz, [98])] (by rw [evx, evz]; rfl) rfl (by simp [maxLen])).rd⟩ ?_
  rintro w14 ⟨hf14, hr14⟩
  generalize w13.heap.size = bs at hr14 ⊢
  have hf1214 := (hf12.trans hf13).trans hf14
  have h14 := h11.frN hf1214
  have h714 := h711.frN hf1214
  have hc14 := hc11.frN hf1214
  have hfw14 := hfw11.trans hf1214
  have hx14 : Rd w14.heap 1 u8E vx.1 [97] := by rw [evx]; exact hr12.frN (hf13.trans hf14)
  have hz14 : Rd w14.heap 1 u8E vz.1 [98] := by rw [evz]; exact hr13.frN hf14
  have hlb1 := h11.lt
  clear h11 h711 hc11 hfw11 hr12 hr13 hf12 hf13 hf14 hf1214 evx evz
  have HE : ProdH cE tB 0 [(vx, [97]), (vz, [98])] := ⟨IE.r1 rfl rfl rfl r1E, by rw [IE.next]; decide, by rw [IE.pid]; decide, IE.stale, may_tB, by decide, by decide +kernel, (fun s hs => by rw [IE.ss] at hs; cases hs), (by show mayB 0 0 0 [1, 1] = true; decide +kernel), ⟨(by show 2 ≤ 256; decide), (by unfold firstOf; rw [IE.ss]; show (0 : Int) + ((2 : Nat) : Int) ≤ _; decide), (by unfold firstOf; rw [IE.ss]; decide)⟩, (fun y hy => by
    rcases List.mem_cons.1 hy with rfl | hy
    · show 1 ≤ 140737488355328; decide
    · rw [List.mem_singleton.1 hy]; show 1 ≤ 140737488355328; decide)⟩
  refine vL_callF rfl (produce31 cE tB 0 ⟨.slice (some ⟨bs, 0, none⟩) 2 2, rfl⟩ [(vx, [97]), (vz, [98])] w14 HE (IE.nows rfl) hc14.rd ⟨hr14, fun y hy => by rcases List.mem_cons.1 hy with rfl | hy; exact hx14; rw [List.mem_singleton.1 hy]; exact hz14⟩) rfl ?_
  rintro _ w15 ⟨cF, lF, sdF, rfl, hlF, hlF1, hc15, _, _, hf15, hPF⟩
  obtain ⟨IF, htoF, hpiF⟩ := isF IE rfl hPF
  have h15 := h14.frN hf15
  have h715 := h714.frN hf15
  have hfw15 := hfw14.trans hf15
  have hFw := cF.wv.2
  have hFs := cF.sv.2
  haveI nb17 : NeB b1 b7 := ⟨by omega⟩
  haveI nb71 : NeB b7 b1 := ⟨by omega⟩
  (((iterate 2 (((apply vL_val); (case h => ((apply opv_E); exact rfl))))); ((apply vL_val); (case h => ((apply opv_extract); exact norm_eq rfl; exact rfl))); ((apply vL_val); (case h => ((apply opv_E); exact rfl))); ((apply vL_skip); (case h => ((apply ops_storen); exact norm_eq rfl; exact norm_eq rfl; exact rfl; exact (fun u hu => EncOk.one _ u hu); assumption; (first | decide | exact of_decide_eq_true rfl | (simp; done))))); ((apply vL_val); (case h => ((apply opv_assign); ((conv => lhs; whnf) <;> exact rfl)))); ((apply vL_val); (case h => ((apply opv_E); exact rfl))); apply vL_nil)); with_reducible apply seqP_normal
  ((apply vC_seq; apply vC_region))
  refine vL_gen (fun w' => Fr No w w' ∧ w.heap.size ≤ b1 ∧ Blk w'.heap b1 (clE cF) 25 ∧ ClOwn w'.heap cF∧ Blk w'.heap b7 [.string tB, .int .i64 0] 36 ∧ Rd w'.heap 24 sdE lF [sdF]) ⟨hfw15.set _ _ (.inr hb1), hb1, Blk.as (Blk.set h15) rfl, hc15.frBlk h15 ⟨by decide, by decide, by decide⟩ ⟨by decide, by decide⟩ ((Fr.refl (fun k => k = b1) _).set _ _ (.inl rfl)), h715.set_ne (Ne.symm nb17.ne), (hlF.set (Own.ne_blk hlF h15 (by decide))).rd⟩ ?_
  rintro w16 ⟨hf16, hb16, h16, hc16, h716, hl16⟩
  clear h14 h714 hc14 hfw14 hr14 hx14 hz14 h15 h715 hc15 hlF hf15 hfw15
  (((apply vL_val); (case h => ((apply opv_loadbC); exact rfl; exact rfl; assumption; exact (rfl : _ = [_, _, _, _, _, _, _, _, _, _]); exact rfl))); ((apply vL_val); (case h => ((apply opv_loadbC); exact rfl; exact rfl; assumption; exact (rfl : _ = [_, _]); exact rfl))); ((apply vL_val); (case h => ((apply opw_buildSl); exact rfl; exact rfl; exact rfl; exact (rfl : _ = some [_])))))
  refine vL_gen (fun w' => Fr No w16 w' ∧ Rd w'.heap 1 brE (.slice (some ⟨w16.heap.size, 0, none⟩) 1 1) [(nilO, [])]) ⟨by (apply Fr.alloc; exact Fr.refl _ _), (Own.newN (w := w16) (T := 71) brE [(nilO, [])] rfl rfl (by decide)).rd⟩ ?_
  rintro w17 ⟨hf17, hr17⟩
  generalize w16.heap.size = bt at hr17 ⊢
  obtain ⟨xF, hxF, hnF⟩ := IF.one rfl
  have hkF : xF.rq.k = 1 := congrArg (fun y : WT => y.rq.k) hnF
  have htF : xF.rq.topic = tB := congrArg (fun y : WT => y.rq.topic) hnF
  have hpF : xF.rq.part = 0 := congrArg (fun y : WT => y.rq.part) hnF
  have h17 := h16.frN hf17
  have h717 := h716.frN hf17
  have hc17 := hc16.frN hf17
  have hl17 := hl16.frN hf17
  have hfw17 := hf16.trans hf17
  clear h16 hc16 h716 hl16 hf16 hf17
  have hnil : ∀ (h : Array Obj), ∀ y ∈ [((nilO, []) : OV × List Int)], Rd h 1 u8E y.1.1 y.2 := fun h y hy => by rw [List.mem_singleton.1 hy]; exact (Own.nil h 5 1 u8E).rd
  have HF : ProdH cF tB 0 [(nilO, [])] := ⟨IF.r1 rfl rfl rfl r1F, by rw [IF.next]; decide, by rw [IF.pid]; decide, IF.stale, may_tB, by decide, by decide +kernel, (fun s hs => by rw [IF.ss] at hs; cases hs), by decide +kernel, ⟨by decide, (by unfold firstOf; rw [IF.ss]; decide), (by unfold firstOf; rw [IF.ss]; decide)⟩, (fun y hy => by rw [List.mem_singleton.1 hy]; decide)⟩
  refine vL_callF rfl (produceB31 cF xF tB 0 ⟨.slice (some ⟨bt, 0, none⟩) 1 1, rfl⟩ [(nilO, [])] w17 HF hxF ⟨hkF, htF, hpF⟩ hc17.rd ⟨hr17, hnil _⟩) rfl ?_
  rintro _ w18 ⟨rfl, hf18⟩
  (((iterate 4 (((apply vL_val); (case h => ((apply opv_E); exact rfl))))); ((apply vL_val); (case h => (apply opw_alloc))); ((apply vL_skip); (case h => ((apply ops_storen); exact norm_eq rfl; exact norm_eq rfl; exact rfl; (intro u hu; simp only [List.mem_cons, List.not_mem_nil, or_false] at hu; rcases hu with rfl | rfl | rfl | rfl | rfl | rfl | rfl | rfl | rfl | rfl <;> (first | rfl | assumption)); infer_instance; (first | decide | exact of_decide_eq_true rfl | (simp; done))))); (iterate 2 (((apply vL_val); (case h => ((apply opv_E); exact rfl))))); apply vL_nil)); with_reducible apply seqP_normal
  (((iterate 2 (apply vC_seq)); apply vC_region))
  refine vL_gen (fun w' => Fr No w17 w') (by (apply Fr.allocSet; assumption)) ?_
  intro w19 hf19
  have h19 := h17.frN hf19
  have h719 := h717.frN hf19
  have hc19 := hc17.frN hf19
  have hl19 := hl17.frN hf19
  have hfw19 := hfw17.trans hf19
  clear h17 h717 hc17 hl17 hfw17 hf18 hf19 hr17
  have hfi : ([sdF] : List SD)[(0 : Int).toNat]? = some sdF := rfl
  have hfl : (([sdF] : List SD).length : Int) = 1 := rfl
  (((apply vL_val); (case h => ((apply opv_E); exact rfl))); ((apply vL_val); (case h => ((apply opv_lenc); exact rfl))); (iterate 2 (((apply vL_val); (case h => ((apply opv_E); exact rfl))))); ((apply vL_wanted); exact rfl); ((apply vL_val); (case h => ((apply opv_E); exact rfl))); ((apply vL_wanted); exact rfl); (iterate 3 (((apply vL_val); (case h => ((apply opv_E); exact rfl))))); ((apply vL_wanted); exact rfl); ((apply vL_val); (case h => ((apply opv_move); ((conv => lhs; whnf) <;> exact rfl)))); ((apply vL_wanted); exact rfl); ((apply vL_val); (case h => ((apply opv_indexAddr); ((conv => lhs; whnf) <;> exact rfl); exact rfl; assumption; (first | omega | (simp only [List.length_map]; omega)); (first | omega | (simp only [List.length_map]; omega))))); ((apply vL_wanted); exact rfl); ((apply vL_val); (case h => ((apply opv_fieldAddr); exact rfl))); ((apply vL_wanted); exact rfl); ((apply vL_val); (case h => ((apply opv_ld_el); exact rfl; exact rfl; assumption; assumption; exact rfl))); ((apply vL_wanted); exact rfl); (iterate 3 (((apply vL_val); (case h => ((apply opv_E); exact rfl))))); (refine vL_or rfl rfl (fun _ => ?_) (fun h => by omega)); ((apply vL_val); (case h => ((apply opv_move); ((conv => lhs; whnf) <;> exact rfl)))); ((apply vL_wanted); exact rfl); ((apply vL_val); (case h => ((apply opv_indexAddr); ((conv => lhs; whnf) <;> exact rfl); exact rfl; assumption; (first | omega | (simp only [List.length_map]; omega)); (first | omega | (simp only [List.length_map]; omega))))); ((apply vL_wanted); exact rfl); ((apply vL_val); (case h => ((apply opv_fieldAddr); exact rfl))); ((apply vL_wanted); exact rfl); ((apply vL_val); (case h => ((apply opv_fieldAddr); exact rfl))); ((apply vL_wanted); exact rfl); ((apply vL_val); (case h => ((apply opv_fieldAddr); exact rfl))); ((apply vL_wanted); exact rfl))
  refine vL_val (opv_ld_el (v := lF) (sz := 24) (i := 0) (j := 6) (enc := sdE) (x0 := sdF) (xs := [sdF]) rfl rfl hl19 hfi (rfl : _ = some (Value.int .i64 sdF.rq.pid))) ?_
  (((apply vL_wanted); exact rfl); (iterate 3 (((apply vL_val); (case h => ((apply opv_E); exact rfl))))); (refine vL_or rfl rfl (fun _ => ?_) (fun h => by omega)); ((apply vL_val); (case h => ((apply opv_E); exact rfl))); ((apply vL_wanted); exact rfl); (iterate 2 (((apply vL_val); (case h => ((apply opv_E); exact rfl))))); apply vL_nil; apply seqP_normal; ((apply vC_cond_false); exact rfl); apply vC_skip; apply seqP_normal; apply vC_seq; apply vC_region; ((apply vL_val); (case h => ((apply opv_loadbC); exact rfl; exact rfl; assumption; exact (rfl : _ = [_, _, _, _, _, _, _, _, _, _]); exact rfl))); ((apply vL_val); (case h => ((apply opv_buildS); exact rfl; exact (rfl : _ = some [_, _, _, _, _, _, _, _, _, _, _, _, _, _, _, _])))))
  have hoF : ownB cF xF.rq = true := by
    have e1 : xF.rq.pid = 7 := congrArg (fun y : WT => y.rq.pid) hnF
    have e2 : xF.rq.ep = 0 := congrArg (fun y : WT => y.rq.ep) hnF
    unfold ownB
    rw [hkF, e1, e2, IF.stale, IF.pid, IF.ep]; rfl
  have hfiF : xF.rq.fi = 0 := congrArg (fun y : WT => y.rq.fi) hnF
  have hszF : RqSz xF.rq := szP (l := [(nilO, [97]), (nilO, [98])]) (by decide) rfl hnF
  have hblF : xF.rq.brs.length ≤ 1000 := by
    have h1 : xF.rq.brs.map (fun y => (nilO, y.2)) = [(nilO, [97]), (nilO, [98])] := congrArg (fun y : WT => y.rq.brs) hnF
    have := congrArg List.length h1
    simp at this; omega
  refine vL_callF rfl (takeC31 cF xF aC w19 (IF.r1 rfl rfl rfl r1F) hxF (matchN hnF (by decide)) rfl (by rw [IF.brokers]; decide) hc19.rd hszF hoF IF.ss (by omega) hblF rfl rfl) rfl ?_
  rintro _ w20 ⟨cG, be, rfl, hc20, hf20, hnG⟩
  have IG := isG IF hnF hnG
  have h20 := h19.frN hf20
  have h720 := h719.frN hf20
  have hfw20 := hfw19.trans hf20
  have hGw := cG.wv.2
  have hGs := cG.sv.2
  (((iterate 4 (((apply vL_val); (case h => ((apply opv_E); exact rfl))))); ((apply vL_skip); (case h => ((apply ops_storen); exact norm_eq rfl; exact norm_eq rfl; exact rfl; exact (fun u hu => EncOk.one _ u hu); assumption; (first | decide | exact of_decide_eq_true rfl | (simp; done))))); apply vL_nil)); with_reducible apply seqP_normal
  ((apply vC_seq; apply vC_region))
  refine vL_gen (fun w' => Fr No w w' ∧ w.heap.size ≤ b1 ∧ Blk w'.heap b1 (clE cG) 25 ∧ ClOwn w'.heap cG∧ Blk w'.heap b7 [.string tB, .int .i64 0] 36) ⟨hfw20.set _ _ (.inr hb1), hb1, Blk.as (Blk.set h20) rfl, hc20.frBlk h20 ⟨by decide, by decide, by decide⟩ ⟨by decide, by decide⟩ ((Fr.refl (fun k => k = b1) _).set _ _ (.inl rfl)), h720.set_ne (Ne.symm nb17.ne)⟩ ?_
  rintro w21 ⟨hf21, hb21, h21, hc21, h721⟩
  clear h19 hc19 h719 hl19 hfw19 h20 hc20 h720 hf20 hfw20
  (((apply vL_val); (case h => ((apply opv_loadbC); exact rfl; exact rfl; assumption; exact (rfl : _ = [_, _, _, _, _, _, _, _, _, _]); exact rfl))); ((apply vL_val); (case h => ((apply opv_loadbC); exact rfl; exact rfl; assumption; exact (rfl : _ = [_, _]); exact rfl))); ((apply vL_val); (case h => ((apply opw_buildSl); exact rfl; exact rfl; exact rfl; exact (rfl : _ = some [_])))))
  refine vL_gen (fun w' => Fr No w21 w' ∧ Rd w'.heap 1 brE (.slice (some ⟨w21.heap.size, 0, none⟩) 1 1) [(nilO, [])]) ⟨by (apply Fr.alloc; exact Fr.refl _ _), (Own.newN (w := w21) (T := 71) brE [(nilO, [])] rfl rfl (by decide)).rd⟩ ?_
  rintro w22 ⟨hf22, hr22⟩
  generalize w21.heap.size = bu at hr22 ⊢
  have h22 := h21.frN hf22
  have hc22 := hc21.frN hf22
  have hfw22 := hf21.trans hf22
  clear h21 hc21 h721 hf21 hf22
  have HG : ProdH cG tB 0 [(nilO, [])] := ⟨IG.r1 rfl rfl rfl r1G, by rw [IG.next]; decide, by rw [IG.pid]; decide, IG.stale, may_tB, by decide, by decide +kernel, (fun s hs => by rw [IG.ss] at hs; rw [List.mem_singleton.1 hs]; exact ⟨rfl, rfl⟩), by decide +kernel, ⟨by decide, (by unfold firstOf; rw [IG.ss]; decide), (by unfold firstOf; rw [IG.ss]; decide)⟩, (fun y hy => by rw [List.mem_singleton.1 hy]; decide)⟩
  refine vL_callF rfl (produce31 cG tB 0 ⟨.slice (some ⟨bu, 0, none⟩) 1 1, rfl⟩ [(nilO, [])] w22 HG (IG.nows rfl) hc22.rd ⟨hr22, hnil _⟩) rfl ?_
  rintro _ w23 ⟨cH, lH, sdH, rfl, hlH, hlH1, hc23, _, _, hf23, hPH⟩
  obtain ⟨IH, hfiH⟩ := isH IG rfl hPH
  have h23 := h22.frN hf23
  have hfw23 := hfw22.trans hf23
  have hHw := cH.wv.2
  have hHs := cH.sv.2
  (((iterate 2 (((apply vL_val); (case h => ((apply opv_E); exact rfl))))); ((apply vL_val); (case h => ((apply opv_extract); exact norm_eq rfl; exact rfl))); ((apply vL_val); (case h => ((apply opv_E); exact rfl))); ((apply vL_skip); (case h => ((apply ops_storen); exact norm_eq rfl; exact norm_eq rfl; exact rfl; exact (fun u hu => EncOk.one _ u hu); assumption; (first | decide | exact of_decide_eq_true rfl | (simp; done))))); ((apply vL_val); (case h => ((apply opv_assign); ((conv => lhs; whnf) <;> exact rfl)))); ((apply vL_val); (case h => ((apply opv_E); exact rfl))); apply vL_nil)); with_reducible apply seqP_normal
  ((apply vC_seq; apply vC_region))
  refine vL_gen (fun w' => Fr No w w' ∧ w.heap.size ≤ b1 ∧ Blk w'.heap b1 (clE cH) 25 ∧ ClOwn w'.heap cH∧ Rd w'.heap 24 sdE lH [sdH]) ⟨hfw23.set _ _ (.inr hb1), hb1, Blk.as (Blk.set h23) rfl, hc23.frBlk h23 ⟨by decide, by decide, by decide⟩ ⟨by decide, by decide⟩ ((Fr.refl (fun k => k = b1) _).set _ _ (.inl rfl)), (hlH.set (Own.ne_blk hlH h23 (by decide))).rd⟩ ?_
  rintro w24 ⟨hf24, hb24, h24, hc24, hl24⟩
  clear h22 hc22 hfw22 h23 hc23 hlH hf23 hfw23 hr22
  have hhi : ([sdH] : List SD)[(0 : Int).toNat]? = some sdH := rfl
  have hhl : (([sdH] : List SD).length : Int) = 1 := rfl
  ((iterate 3 (((apply vL_val); (case h => ((apply opv_E); exact rfl))))); ((apply vL_wanted); exact rfl); ((apply vL_val); (case h => ((apply opv_move); ((conv => lhs; whnf) <;> exact rfl)))); ((apply vL_wanted); exact rfl); ((apply vL_val); (case h => ((apply opv_indexAddr); ((conv => lhs; whnf) <;> exact rfl); exact rfl; assumption; (first | omega | (simp only [List.length_map]; omega)); (first | omega | (simp only [List.length_map]; omega))))); ((apply vL_wanted); exact rfl); ((apply vL_val); (case h => ((apply opv_fieldAddr); exact rfl))); ((apply vL_wanted); exact rfl); ((apply vL_val); (case h => ((apply opv_fieldAddr); exact rfl))); ((apply vL_wanted); exact rfl); ((apply vL_val); (case h => ((apply opv_fieldAddr); exact rfl))); ((apply vL_wanted); exact rfl))
  refine vL_val (opv_ld_el (v := lH) (sz := 24) (i := 0) (j := 8) (enc := sdE) (x0 := sdH) (xs := [sdH]) rfl rfl hl24 hhi (rfl : _ = some (Value.int .i64 sdH.rq.fi))) ?_
  (((apply vL_wanted); exact rfl); (iterate 3 (((apply vL_val); (case h => ((apply opv_E); exact rfl))))); (refine vL_and rfl rfl (fun _ => ?_) (fun h => by omega)); ((apply vL_val); (case h => ((apply opv_loadbC); exact rfl; exact rfl; assumption; exact (rfl : _ = [_, _, _, _, _, _, _, _, _, _]); exact rfl))); ((apply vL_wanted); exact rfl))
  refine vL_callF rfl (right31 cH w24 hc24.rd (IH.r1 rfl rfl rfl r1H)) rfl ?_
  rintro _ w25 ⟨rfl, hf25⟩
  ((iterate 2 (((apply vL_val); (case h => ((apply opv_E); exact rfl))))); apply vL_nil; apply seqP_normal; apply vC_ret)
  (apply ret1; (case h1 => (exact norm_eq rfl)))
  exact ⟨rfl, hf24.trans hf25⟩
end Go.Proofs.Ytchfaeaagpemlaa

set_option maxRecDepth 100000
namespace Go.Proofs.Ytchfaeaagpemlaa
open Go Go.Eng
abbrev ivE (n : Int) : Value := .int .i64 n
section
variable {w w' : World} {r : Nat} {M M' : List (Int × Int)}
theorem Own.frMp {T sz : Nat} {α : Type} {enc : α → List Value} {u : Value} {xs : List α} (o : Own w.heap T sz enc u xs) (m : Mp w.heap r ikE ivE M) (h : Fr (fun b => b = r) w w') : Own w'.heap T sz enc u xs :=
  o.fr h (fun b hb e => m.ne_own o (by rw [hb, e]))
theorem ClOwn.frMp {c : CL} (o : ClOwn w.heap c) (m : Mp w.heap r ikE ivE M) (h : Fr (fun b => b = r) w w') : ClOwn w'.heap c :=
  ⟨Own.frMp o.1 m h, fun x hx => ⟨Own.frMp (o.2.1 x hx).1 m h, fun y hy => Own.frMp ((o.2.1 x hx).2.1 y hy) m h, Own.frMp (o.2.1 x hx).2.2 m h⟩, Own.frMp o.2.2 m h⟩
end
structure GB (w : World) (b1 b12 : Nat) (d d' : CL) (sv dv : Value) (sds : List SD) (dn : List Int) (w' : World) : Prop where
  fr : Fr No w w'
  h1 : Blk w'.heap b1 (clE d) 25
  h2 : Blk w'.heap b12 (clE d') 25
  hd : ClOwn w'.heap d'
  sd : Own w'.heap 48 24 sdE sv sds
  dn : Own w'.heap 58 18 dnE dv dn
section
variable {w w' w'' : World} {b1 b12 r : Nat} {d d' : CL} {sv dv : Value} {sds : List SD} {dn : List Int} {M : List (Int × Int)}
theorem GB.frN (S : GB w b1 b12 d d' sv dv sds dn w') (h : Fr No w' w'') : GB w b1 b12 d d' sv dv sds dn w'' := ⟨S.fr.trans h, S.h1.frN h, S.h2.frN h, S.hd.frN h, S.sd.frN h, S.dn.frN h⟩
theorem GB.frMp (S : GB w b1 b12 d d' sv dv sds dn w') (m : Mp w'.heap r ikE ivE M) (h : Fr (fun b => b = r) w' w'') (hr : w.heap.size ≤ r) : GB w b1 b12 d d' sv dv sds dn w'' :=
  ⟨S.fr.trans' h (fun k hk => .inr (by rw [hk]; exact hr)), S.h1.fr h (fun e => Mp.ne_blk m S.h1 e), S.h2.fr h (fun e => Mp.ne_blk m S.h2 e), S.hd.frMp m h, Own.frMp S.sd m h, Own.frMp S.dn m h⟩
end
theorem gives31 (c : CL) (w : World) (hc : ClRd w.heap c) (hs : ∀ x ∈ c.ws, RqSz x.rq ∧ x.rq.topic.size ≤ 9223372036854775807) (hss : ∀ s ∈ c.ss, s.topic.size ≤ 9223372036854775807) :
    Rets Try.prog 3 #[.agg (clE c).toArray] w fun u w' => u = .bool true ∧ Fr No w w' := by
  have hw0 := c.wv.2
  have hs0 := c.sv.2
  refine rets_of Try.func3 rfl Try.ntmps3 rfl rfl (by kernel_rfl) ?_
  ((apply vC_seq; apply vC_region)); ((((apply vL_val); (case h => ((apply opw_boxn); exact rfl))); ((apply vL_val); (case h => ((apply opv_E); exact rfl))); apply vL_nil)); with_reducible apply seqP_normal
  (((iterate 2 (apply vC_seq)); apply vC_region))
  refine vL_gen (fun w' => Fr No w w' ∧ Blk w'.heap w.heap.size (clE c) 25) ⟨by (apply Fr.alloc; exact Fr.refl _ _), inferInstance⟩ ?_
  rintro w1 ⟨hf1, h1⟩
  obtain ⟨b1, eb1⟩ : ∃ b1, b1 = w.heap.size := ⟨_, rfl⟩
  rw [← eb1] at h1 ⊢
  (((apply vL_val); (case h => ((apply opv_loadbC); exact rfl; exact rfl; assumption; exact (rfl : _ = [_, _, _, _, _, _, _, _, _, _]); exact rfl))))
  refine vL_callF rfl (rightG c w1 (hc.frN hf1) (fun x hx => (hs x hx).2) hss) rfl ?_
  rintro _ w2 ⟨rfl, hf2⟩
  have h12 := h1.frN hf2
  have hfw2 := hf1.trans hf2
  clear h1 hf1 hf2
  cases hR : rgB c with
  | false =>
    (((apply vL_val); (case h => ((apply opv_not); exact rfl))); ((apply vL_val); (case h => ((apply opv_E); exact rfl))); (iterate 3 (((apply vL_unwanted'); exact rfl; exact rfl))); ((apply vL_val); (case h => ((apply opv_E); exact rfl))); apply vL_nil; apply seqP_normal; ((apply vC_cond_true); exact rfl); apply vC_seq; apply vC_region)
    refine vL_callF rfl (awake31 w2) rfl ?_
    rintro _ w3 ⟨rfl, hf3⟩
    (((apply vL_val); (case h => ((apply opv_E); exact rfl))); apply vL_nil; apply seqP_normal; apply vC_ret; apply seqP_ret)
    (apply ret1; (case h1 => (exact norm_eq rfl)))
    exact ⟨rfl, hfw2.trans hf3⟩
  | true =>
  have R := of_rgB hR
  by_cases hN : 549755813888 < c.now
  · (((apply vL_val); (case h => ((apply opv_not); exact rfl))); ((apply vL_val); (case h => ((apply opv_E); exact rfl))); ((apply vL_wanted); exact rfl); ((apply vL_val); (case h => ((apply opv_fieldAddr); exact rfl))); ((apply vL_wanted); exact rfl); ((apply vL_val); (case h => ((apply opv_loadb1); exact rfl; exact rfl; assumption; exact rfl))); ((apply vL_wanted); exact rfl); (iterate 2 (((apply vL_val); (case h => ((apply opv_E); exact rfl))))); apply vL_nil; apply seqP_normal; (refine vC_cond_dec rfl (fun _ => ?_) (fun h => by omega)); apply vC_seq; apply vC_region)
    refine vL_callF rfl (awake31 w2) rfl ?_
    rintro _ w3 ⟨rfl, hf3⟩
    (((apply vL_val); (case h => ((apply opv_E); exact rfl))); apply vL_nil; apply seqP_normal; apply vC_ret; apply seqP_ret)
    (apply ret1; (case h1 => (exact norm_eq rfl)))
    exact ⟨rfl, hfw2.trans hf3⟩
  (((apply vL_val); (case h => ((apply opv_not); exact rfl))); ((apply vL_val); (case h => ((apply opv_E); exact rfl))); ((apply vL_wanted); exact rfl); ((apply vL_val); (case h => ((apply opv_fieldAddr); exact rfl))); ((apply vL_wanted); exact rfl); ((apply vL_val); (case h => ((apply opv_loadb1); exact rfl; exact rfl; assumption; exact rfl))); ((apply vL_wanted); exact rfl); (iterate 2 (((apply vL_val); (case h => ((apply opv_E); exact rfl))))); apply vL_nil; apply seqP_normal; (refine vC_cond_dec rfl (fun h => by omega) (fun _ => ?_)); apply vC_skip; apply seqP_normal; apply vC_seq; apply vC_region)
  refine vL_val opw_makeMap ?_
  (((apply vL_val); (case h => ((apply opv_assign); ((conv => lhs; whnf) <;> exact rfl)))); apply vL_nil; apply seqP_normal; apply vC_seq; apply vC_region)
  refine vL_val opw_makeMap ?_
  (((apply vL_val); (case h => ((apply opv_assign); ((conv => lhs; whnf) <;> exact rfl)))); apply vL_nil; apply seqP_normal; apply vC_seq; apply vC_region; ((apply vL_val); (case h => ((apply opv_E); exact rfl))); apply vL_nil; apply seqP_normal; (iterate 2 (apply vC_seq)); apply vC_region; ((apply vL_val); (case h => ((apply opv_fieldAddr); exact rfl))); ((apply vL_val); (case h => ((apply opv_loadb1); exact rfl; exact rfl; infer_instance; exact rfl))))
  have em : (w2.alloc (.map #[] 0)).heap.size = w2.heap.size + 1 := by simp
  rw [em]
  refine vL_gen (fun w' => Fr No w w' ∧ Blk w'.heap b1 (clE c) 25 ∧ Mp w'.heap w2.heap.size ikE ivE ([] : List (Int × Int)) ∧ Mp w'.heap (w2.heap.size + 1) ikE ivE ([] : List (Int × Int))) ⟨(hfw2.alloc _).alloc _, h12.frN (((Fr.refl No w2).alloc _).alloc _), (Mp.new ikE ivE).frN ((Fr.refl No _).alloc _), by have := Mp.new (w := w2.alloc (.map #[] 0)) ikE (ivE); rw [em] at this; exact this⟩ ?_
  rintro w3 ⟨hf3, h13, ht3, hl3⟩
  have hsz := hfw2.size
  have hb1lt := h12.lt
  obtain ⟨r1, er1⟩ : ∃ r1, r1 = w2.heap.size := ⟨_, rfl⟩
  rw [← er1] at ht3 hl3 hsz hb1lt ⊢
  obtain ⟨r2, er2⟩ : ∃ r2, r2 = r1 + 1 := ⟨_, rfl⟩
  rw [← er2] at hl3 ⊢
  have hne12 : r1 ≠ r2 := by omega
  clear h12 hfw2 er1
  have hcw3 := (hc.frN hf3).1
  have hl8 := R.2.2.2.2
  (((apply vL_val); (case h => ((apply opv_len); ((conv => lhs; whnf) <;> exact rfl); assumption))); ((apply vL_val); (case h => ((apply opv_E); exact rfl))); apply vL_nil; apply seqP_normal; apply vC_block)
  (apply vC_loop2 4722366482800925737120 5 36 (fun u5 u36 w' => ∃ i : Nat, u5 = .bool ((c.ws.take i).any (fun x => ownP c x.rq)) ∧ u36 = .int .i64 i ∧ i ≤ c.ws.length ∧ Fr No w w' ∧ Blk w'.heap b1 (clE c) 25 ∧ Mp w'.heap r1 ikE ivE (foldM (fun x => x.tries) [] (c.ws.take i)) ∧ Mp w'.heap r2 ikE ivE ([] : List (Int × Int))) (fun _ u36 _ => c.ws.length - (RowKit.intOf u36).toNat)); (case h1 => (exact norm_eq rfl)); (case h2 => (exact norm_eq rfl))
  case h0 => exact ⟨0, rfl, rfl, Nat.zero_le _, hf3, h13, ht3, hl3⟩
  case round =>
  clear hf3 h13 ht3 hl3 hcw3
  rintro junk _ _ w4 ⟨i, rfl, rfl, hi, hf4, h14, ht4, hl4⟩
  have hcw4 := (hc.frN hf4).1
  by_cases hil : i < c.ws.length
  · obtain ⟨x, hxi⟩ : ∃ x, c.ws[i]? = some x := ⟨c.ws[i], List.getElem?_eq_getElem hil⟩
    have hxi' : c.ws[((i : Nat) : Int).toNat]? = some x := hxi
    have hxm := List.mem_of_getElem? hxi
    have hbv := x.rq.brv.2
    have htv := x.rq.trv.2
    ((apply vC_seq; apply vC_region)); ((((apply vL_val); (case h => ((apply opv_E); exact rfl))); apply vL_nil)); with_reducible apply seqP_normal
    ((apply vC_seq))
    refine vC_condT rfl (decide_eq_true (by omega)) ?_
    ((apply vC_skip; apply seqP_normal; apply vC_seq; apply vC_block; apply vC_seq; apply vC_region))
    ((((apply vL_val); (case h => ((apply opv_indexAddr); ((conv => lhs; whnf) <;> exact rfl); exact rfl; assumption; (first | omega | (simp only [List.length_map]; omega)); (first | omega | (simp only [List.length_map]; omega))))); ((apply vL_val); (case h => ((apply opv_ld_eln); exact rfl; exact rfl; assumption; assumption))); ((apply vL_val); (case h => (apply opw_alloc))); ((apply vL_skip); (case h => ((apply ops_storen); exact norm_eq rfl; exact norm_eq rfl; exact rfl; exact (fun u hu => EncOk.one _ u hu); infer_instance; (first | decide | exact of_decide_eq_true rfl | (simp; done))))); apply vL_nil)); with_reducible apply seqP_normal
    ((apply vC_seq; apply vC_region))
    refine vL_gen (fun w' => Fr No w4 w' ∧ w4.heap.size < w'.heap.size ∧ Blk w'.heap w4.heap.size (wtE x) 42) ⟨by (apply Fr.allocSet; exact Fr.refl _ _), by simp, Blk.as inferInstance rfl⟩ ?_
    rintro w5 ⟨hf5, hz5, h75⟩
    have h15 := h14.frN hf5
    have ht5 := ht4.frN hf5
    have hl5 := hl4.frN hf5
    have hfw5 := hf4.trans hf5
    generalize w4.heap.size = b7 at hz5 h75 ⊢
    clear h14 ht4 hl4 hf4 hf5 hcw4
    (((apply vL_val); (case h => ((apply opv_move); ((conv => lhs; whnf) <;> exact rfl)))); (iterate 2 (((apply vL_val); (case h => ((apply opv_fieldAddr); exact rfl))))); ((apply vL_val); (case h => ((apply opv_loadb1); exact rfl; exact rfl; assumption; exact rfl))); ((apply vL_val); (case h => ((apply opv_fieldAddr); exact rfl))); ((apply vL_val); (case h => ((apply opv_loadb1); exact rfl; exact rfl; assumption; exact rfl))))
    refine vL_mapUpdate (kE := ikE) (vE := ivE) (key := x.rq.call) (val := x.tries) rfl rfl rfl ht5 ?_
    intro w6 ht6 hf6
    have h16 := h15.fr hf6 (fun e => Mp.ne_blk ht5 h15 e)
    have h76 := h75.fr hf6 (fun e => Mp.ne_blk ht5 h75 e)
    have hl6 := hl5.fr hf6 (Ne.symm hne12)
    have hfw6 : Fr No w w6 := hfw5.trans' hf6 (fun k hk => .inr (by rw [hk]; exact hsz))
    rw [← foldM_next (fun x => x.tries) [] hxi] at ht6
    clear h15 h75 ht5 hl5 hf6
    have hnx : (c.ws.take (i + 1)).any (fun x => ownP c x.rq) = ((c.ws.take i).any (fun x => ownP c x.rq) || ownP c x.rq) := by
      rw [take_next hxi, List.any_append]; simp
    have fin : ∀ v : Bool, v = ((c.ws.take i).any (fun x => ownP c x.rq) || ownP c x.rq) → ∃ i' : Nat, Value.bool v = .bool ((c.ws.take i').any (fun x => ownP c x.rq)) ∧ Value.int .i64 ((i : Int) + 1) = .int .i64 i' ∧ i' ≤ c.ws.length ∧ Fr No w w6 ∧ Blk w6.heap b1 (clE c) 25 ∧ Mp w6.heap r1 ikE ivE (foldM (fun x => x.tries) [] (c.ws.take i')) ∧ Mp w6.heap r2 ikE ivE ([] : List (Int × Int)) := fun v hv => ⟨i + 1, by rw [hnx, hv], rfl, by omega, hfw6, h16, ht6, hl6⟩
    generalize (c.ws.take i).any (fun x => ownP c x.rq) = o at fin ⊢
    cases o with
    | true =>
      (apply vL_nil; apply seqP_normal; apply vC_region; (iterate 2 (((apply vL_val); (case h => ((apply opv_E); exact rfl))))); (iterate 5 (((apply vL_unwanted'); exact rfl; exact rfl))); (iterate 7 (((apply vL_unwanted_none); exact rfl))); (iterate 2 (((apply vL_unwanted'); exact rfl; exact rfl))); (iterate 7 (((apply vL_unwanted_none); exact rfl))); ((apply vL_unwanted'); exact rfl; exact rfl); (iterate 2 (((apply vL_val); (case h => ((apply opv_E); exact rfl))))); apply vL_nil; apply blockP_normal; apply seqP_normal; apply vC_region; ((apply vL_val); (case h => ((apply opv_add); exact rfl; exact rfl; (first | omega | (simp only [List.length_map]; omega))))); ((apply vL_val); (case h => ((apply opv_E); exact rfl))); apply vL_nil; apply loopP_normal)
      (with_reducible apply end2); (case hs => ((iterate 28 (((refine same_updO ?_ ?_); rotate_left; exact rfl))); apply same_updN; (iterate 6 (((refine same_updO ?_ ?_); rotate_left; exact rfl))); apply same_updN; (iterate 4 (((refine same_updO ?_ ?_); rotate_left; exact rfl))); (iterate 2 (((refine same_upd ?_ ?_); rotate_left; exact rfl))); (exact same_mask _ _ _))); (case h1 => (exact norm_eq rfl)); (case h2 => (exact norm_eq rfl))
      · exact fin true rfl
      · simp [RowKit.intOf]; omega
    | false =>
      by_cases k1 : x.rq.k = 1
      rotate_left
      · (apply vL_nil; apply seqP_normal; apply vC_region; (iterate 2 (((apply vL_val); (case h => ((apply opv_E); exact rfl))))); ((apply vL_wanted); exact rfl); ((apply vL_val); (case h => ((apply opv_fieldAddr); exact rfl))); ((apply vL_wanted); exact rfl); ((apply vL_val); (case h => ((apply opv_fieldAddr); exact rfl))); ((apply vL_wanted); exact rfl); ((apply vL_val); (case h => ((apply opv_loadb1); exact rfl; exact rfl; assumption; exact rfl))); ((apply vL_wanted); exact rfl); ((apply vL_val); (case h => ((apply opv_E); exact rfl))); ((apply vL_wanted); exact rfl); ((apply vL_val); (case h => ((apply opv_E); exact rfl))); (refine vL_and rfl rfl (fun h => by omega) (fun _ => ?_)); (iterate 6 (((apply vL_unwanted'); exact rfl; exact rfl))); ((apply vL_wanted); exact rfl); ((apply vL_val); (case h => ((apply opv_E); exact rfl))); ((apply vL_wanted); exact rfl); ((apply vL_val); (case h => ((apply opv_E); exact rfl))); (iterate 7 (((apply vL_unwanted'); exact rfl; exact rfl))); ((apply vL_wanted); exact rfl); (iterate 3 (((apply vL_val); (case h => ((apply opv_E); exact rfl))))); apply vL_nil; apply blockP_normal; apply seqP_normal; apply vC_region; ((apply vL_val); (case h => ((apply opv_add); exact rfl; exact rfl; (first | omega | (simp only [List.length_map]; omega))))); ((apply vL_val); (case h => ((apply opv_E); exact rfl))); apply vL_nil; apply loopP_normal)
        (with_reducible apply end2); (case hs => ((iterate 21 (((refine same_updO ?_ ?_); rotate_left; exact rfl))); ((refine same_upd ?_ ?_); rotate_left; exact rfl); (iterate 7 (((refine same_updO ?_ ?_); rotate_left; exact rfl))); apply same_updN; (iterate 6 (((refine same_updO ?_ ?_); rotate_left; exact rfl))); apply same_updN; (iterate 4 (((refine same_updO ?_ ?_); rotate_left; exact rfl))); (iterate 2 (((refine same_upd ?_ ?_); rotate_left; exact rfl))); (exact same_mask _ _ _))); (case h1 => (exact norm_eq rfl)); (case h2 => (exact norm_eq rfl))
        · exact fin false (by unfold ownP; rw [decide_eq_false (fun h => k1 h.1)]; rfl)
        · simp [RowKit.intOf]; omega
      by_cases k2 : x.rq.pid = c.pid
      rotate_left
      · (apply vL_nil; apply seqP_normal; apply vC_region; (iterate 2 (((apply vL_val); (case h => ((apply opv_E); exact rfl))))); ((apply vL_wanted); exact rfl); ((apply vL_val); (case h => ((apply opv_fieldAddr); exact rfl))); ((apply vL_wanted); exact rfl); ((apply vL_val); (case h => ((apply opv_fieldAddr); exact rfl))); ((apply vL_wanted); exact rfl); ((apply vL_val); (case h => ((apply opv_loadb1); exact rfl; exact rfl; assumption; exact rfl))); ((apply vL_wanted); exact rfl); ((apply vL_val); (case h => ((apply opv_E); exact rfl))); ((apply vL_wanted); exact rfl); ((apply vL_val); (case h => ((apply opv_E); exact rfl))); (refine vL_and rfl rfl (fun _ => ?_) (fun h => by omega)); ((apply vL_val); (case h => ((apply opv_fieldAddr); exact rfl))); ((apply vL_wanted); exact rfl); ((apply vL_val); (case h => ((apply opv_fieldAddr); exact rfl))); ((apply vL_wanted); exact rfl); ((apply vL_val); (case h => ((apply opv_fieldAddr); exact rfl))); ((apply vL_wanted); exact rfl); ((apply vL_val); (case h => ((apply opv_loadb1); exact rfl; exact rfl; assumption; exact rfl))); ((apply vL_wanted); exact rfl); ((apply vL_val); (case h => ((apply opv_fieldAddr); exact rfl))); ((apply vL_wanted); exact rfl); ((apply vL_val); (case h => ((apply opv_loadb1); exact rfl; exact rfl; assumption; exact rfl))); ((apply vL_wanted); exact rfl); ((apply vL_val); (case h => ((apply opv_E); exact rfl))); ((apply vL_wanted); exact rfl); ((apply vL_val); (case h => ((apply opv_E); exact rfl))); ((apply vL_wanted); exact rfl); ((apply vL_val); (case h => ((apply opv_E); exact rfl))); (refine vL_and rfl rfl (fun h => by omega) (fun _ => ?_)); (iterate 6 (((apply vL_unwanted'); exact rfl; exact rfl))); ((apply vL_wanted); exact rfl); (iterate 3 (((apply vL_val); (case h => ((apply opv_E); exact rfl))))); apply vL_nil; apply blockP_normal; apply seqP_normal; apply vC_region; ((apply vL_val); (case h => ((apply opv_add); exact rfl; exact rfl; (first | omega | (simp only [List.length_map]; omega))))); ((apply vL_val); (case h => ((apply opv_E); exact rfl))); apply vL_nil; apply loopP_normal)
        (with_reducible apply end2); (case hs => ((iterate 12 (((refine same_updO ?_ ?_); rotate_left; exact rfl))); ((refine same_upd ?_ ?_); rotate_left; exact rfl); (iterate 9 (((refine same_updO ?_ ?_); rotate_left; exact rfl))); ((refine same_upd ?_ ?_); rotate_left; exact rfl); (iterate 7 (((refine same_updO ?_ ?_); rotate_left; exact rfl))); apply same_updN; (iterate 6 (((refine same_updO ?_ ?_); rotate_left; exact rfl))); apply same_updN; (iterate 4 (((refine same_updO ?_ ?_); rotate_left; exact rfl))); (iterate 2 (((refine same_upd ?_ ?_); rotate_left; exact rfl))); (exact same_mask _ _ _))); (case h1 => (exact norm_eq rfl)); (case h2 => (exact norm_eq rfl))
        · exact fin false (by unfold ownP; rw [decide_eq_false (fun h => k2 h.2.1)]; rfl)
        · simp [RowKit.intOf]; omega
      (apply vL_nil; apply seqP_normal; apply vC_region; (iterate 2 (((apply vL_val); (case h => ((apply opv_E); exact rfl))))); ((apply vL_wanted); exact rfl); ((apply vL_val); (case h => ((apply opv_fieldAddr); exact rfl))); ((apply vL_wanted); exact rfl); ((apply vL_val); (case h => ((apply opv_fieldAddr); exact rfl))); ((apply vL_wanted); exact rfl); ((apply vL_val); (case h => ((apply opv_loadb1); exact rfl; exact rfl; assumption; exact rfl))); ((apply vL_wanted); exact rfl); ((apply vL_val); (case h => ((apply opv_E); exact rfl))); ((apply vL_wanted); exact rfl); ((apply vL_val); (case h => ((apply opv_E); exact rfl))); (refine vL_and rfl rfl (fun _ => ?_) (fun h => by omega)); ((apply vL_val); (case h => ((apply opv_fieldAddr); exact rfl))); ((apply vL_wanted); exact rfl); ((apply vL_val); (case h => ((apply opv_fieldAddr); exact rfl))); ((apply vL_wanted); exact rfl); ((apply vL_val); (case h => ((apply opv_fieldAddr); exact rfl))); ((apply vL_wanted); exact rfl); ((apply vL_val); (case h => ((apply opv_loadb1); exact rfl; exact rfl; assumption; exact rfl))); ((apply vL_wanted); exact rfl); ((apply vL_val); (case h => ((apply opv_fieldAddr); exact rfl))); ((apply vL_wanted); exact rfl); ((apply vL_val); (case h => ((apply opv_loadb1); exact rfl; exact rfl; assumption; exact rfl))); ((apply vL_wanted); exact rfl); ((apply vL_val); (case h => ((apply opv_E); exact rfl))); ((apply vL_wanted); exact rfl); ((apply vL_val); (case h => ((apply opv_E); exact rfl))); ((apply vL_wanted); exact rfl); ((apply vL_val); (case h => ((apply opv_E); exact rfl))); (refine vL_and rfl rfl (fun _ => ?_) (fun h => by omega)); ((apply vL_val); (case h => ((apply opv_fieldAddr); exact rfl))); ((apply vL_wanted); exact rfl); ((apply vL_val); (case h => ((apply opv_fieldAddr); exact rfl))); ((apply vL_wanted); exact rfl); ((apply vL_val); (case h => ((apply opv_fieldAddr); exact rfl))); ((apply vL_wanted); exact rfl); ((apply vL_val); (case h => ((apply opv_loadb1); exact rfl; exact rfl; assumption; exact rfl))); ((apply vL_wanted); exact rfl); ((apply vL_val); (case h => ((apply opv_fieldAddr); exact rfl))); ((apply vL_wanted); exact rfl); ((apply vL_val); (case h => ((apply opv_loadb1); exact rfl; exact rfl; assumption; exact rfl))); ((apply vL_wanted); exact rfl); ((apply vL_val); (case h => ((apply opv_E); exact rfl))); ((apply vL_wanted); exact rfl); (iterate 3 (((apply vL_val); (case h => ((apply opv_E); exact rfl))))); apply vL_nil; apply blockP_normal; apply seqP_normal; apply vC_region; ((apply vL_val); (case h => ((apply opv_add); exact rfl; exact rfl; (first | omega | (simp only [List.length_map]; omega))))); ((apply vL_val); (case h => ((apply opv_E); exact rfl))); apply vL_nil; apply loopP_normal)
      (with_reducible apply end2); (case hs => ((iterate 12 (((refine same_updO ?_ ?_); rotate_left; exact rfl))); ((refine same_upd ?_ ?_); rotate_left; exact rfl); (iterate 9 (((refine same_updO ?_ ?_); rotate_left; exact rfl))); ((refine same_upd ?_ ?_); rotate_left; exact rfl); (iterate 7 (((refine same_updO ?_ ?_); rotate_left; exact rfl))); apply same_updN; (iterate 6 (((refine same_updO ?_ ?_); rotate_left; exact rfl))); apply same_updN; (iterate 4 (((refine same_updO ?_ ?_); rotate_left; exact rfl))); (iterate 2 (((refine same_upd ?_ ?_); rotate_left; exact rfl))); (exact same_mask _ _ _))); (case h1 => (exact norm_eq rfl)); (case h2 => (exact norm_eq rfl))
      · exact fin _ (by unfold ownP; by_cases k3 : x.rq.ep = c.ep <;> simp [k1, k2, k3])
      · simp [RowKit.intOf]; omega
  have hil' : c.ws.length = i := by omega
  have htk : c.ws.take i = c.ws := List.take_of_length_le (by omega)
  rw [htk] at ht4 ⊢
  (apply vC_seq; apply vC_region; ((apply vL_val); (case h => ((apply opv_E); exact rfl))); apply vL_nil; apply seqP_normal; apply vC_seq; (refine vC_cond_dec rfl (fun h => by omega) (fun _ => ?_)); apply vC_exit; apply seqP_exit; apply loopP_exit; apply blockP_exit; apply seqP_normal; (iterate 2 (apply vC_seq)); apply vC_region; ((apply vL_val); (case h => ((apply opv_fieldAddr); exact rfl))); ((apply vL_val); (case h => ((apply opv_loadb1); exact rfl; exact rfl; assumption; exact rfl))); ((apply vL_val); (case h => ((apply opv_len); ((conv => lhs; whnf) <;> exact rfl); assumption))); ((apply vL_val); (case h => ((apply opv_E); exact rfl))); apply vL_nil; apply seqP_normal; apply vC_block)
  (apply vC_loop1 154704725978809577200681476 75 (fun u75 w' => ∃ j : Nat, u75 = .int .i64 j ∧ j ≤ c.ws.length ∧ Fr No w w' ∧ Blk w'.heap b1 (clE c) 25 ∧ Mp w'.heap r1 ikE ivE (foldM (fun x => x.tries) [] c.ws) ∧ Mp w'.heap r2 ikE ivE ([] : List (Int × Int)) ∧ ∀ (k : Nat) x, k < j → c.ws[k]? = some x → x.due ≤ c.now + 8) (fun u75 _ => c.ws.length - (RowKit.intOf u75).toNat)); (case h1 => (exact norm_eq rfl))
  case h0 => exact ⟨0, rfl, Nat.zero_le _, hf4, h14, ht4, hl4, fun k x hk => absurd hk (Nat.not_lt_zero _)⟩
  case round =>
  clear hf4 h14 ht4 hl4 hcw4
  rintro junk2 _ w4 ⟨j, rfl, hj, hf4, h14, ht4, hl4, hdue⟩
  have hcw4 := (hc.frN hf4).1
  by_cases hjl : j < c.ws.length
  · obtain ⟨x, hxi⟩ : ∃ x, c.ws[j]? = some x := ⟨c.ws[j], List.getElem?_eq_getElem hjl⟩
    have hxi' : c.ws[((j : Nat) : Int).toNat]? = some x := hxi
    have hbv := x.rq.brv.2
    have htv := x.rq.trv.2
    have hnow := R.1.2.2.2.1
    ((apply vC_seq; apply vC_region)); ((((apply vL_val); (case h => ((apply opv_E); exact rfl))); apply vL_nil)); with_reducible apply seqP_normal
    ((apply vC_seq))
    refine vC_condT rfl (decide_eq_true (by omega)) ?_
    ((apply vC_skip; apply seqP_normal; apply vC_seq; apply vC_block; apply vC_seq; apply vC_region))
    ((((apply vL_val); (case h => ((apply opv_indexAddr); ((conv => lhs; whnf) <;> exact rfl); exact rfl; assumption; (first | omega | (simp only [List.length_map]; omega)); (first | omega | (simp only [List.length_map]; omega))))); ((apply vL_val); (case h => ((apply opv_ld_eln); exact rfl; exact rfl; assumption; assumption))); ((apply vL_val); (case h => (apply opw_alloc))); ((apply vL_skip); (case h => ((apply ops_storen); exact norm_eq rfl; exact norm_eq rfl; exact rfl; exact (fun u hu => EncOk.one _ u hu); infer_instance; (first | decide | exact of_decide_eq_true rfl | (simp; done))))); apply vL_nil)); with_reducible apply seqP_normal
    ((apply vC_seq; apply vC_region))
    refine vL_gen (fun w' => Fr No w4 w' ∧ w4.heap.size < w'.heap.size ∧ Blk w'.heap w4.heap.size (wtE x) 42) ⟨by (apply Fr.allocSet; exact Fr.refl _ _), by simp, Blk.as inferInstance rfl⟩ ?_
    rintro w5 ⟨hf5, hz5, h75⟩
    have h15 := h14.frN hf5
    have ht5 := ht4.frN hf5
    have hl5 := hl4.frN hf5
    have hfw5 := hf4.trans hf5
    generalize w4.heap.size = b9 at hz5 h75 ⊢
    clear h14 ht4 hl4 hf4 hf5 hcw4
    by_cases hd : c.now + 8 < x.due
    · (((apply vL_val); (case h => ((apply opv_fieldAddr); exact rfl))); ((apply vL_val); (case h => ((apply opv_loadb1); exact rfl; exact rfl; assumption; exact rfl))); ((apply vL_val); (case h => ((apply opv_fieldAddr); exact rfl))); ((apply vL_val); (case h => ((apply opv_loadb1); exact rfl; exact rfl; assumption; exact rfl))); ((apply vL_val); (case h => ((apply opv_add); exact rfl; exact rfl; (first | omega | (simp only [List.length_map]; omega))))); ((apply vL_val); (case h => ((apply opv_E); exact rfl))); apply vL_nil; apply seqP_normal; (refine vC_cond_dec rfl (fun _ => ?_) (fun h => by omega)); apply vC_seq; apply vC_region)
      refine vL_callF rfl (awake31 w5) rfl ?_
      rintro _ w6 ⟨rfl, hf6⟩
      (((apply vL_val); (case h => ((apply opv_E); exact rfl))); apply vL_nil; apply seqP_normal; apply vC_ret; apply blockP_ret; apply seqP_ret; apply loopP_ret; apply blockP_ret; apply seqP_ret)
      (apply ret1; (case h1 => (exact norm_eq rfl)))
      exact ⟨rfl, hfw5.trans hf6⟩
    · (((apply vL_val); (case h => ((apply opv_fieldAddr); exact rfl))); ((apply vL_val); (case h => ((apply opv_loadb1); exact rfl; exact rfl; assumption; exact rfl))); ((apply vL_val); (case h => ((apply opv_fieldAddr); exact rfl))); ((apply vL_val); (case h => ((apply opv_loadb1); exact rfl; exact rfl; assumption; exact rfl))); ((apply vL_val); (case h => ((apply opv_add); exact rfl; exact rfl; (first | omega | (simp only [List.length_map]; omega))))); ((apply vL_val); (case h => ((apply opv_E); exact rfl))); apply vL_nil; apply seqP_normal; (refine vC_cond_dec rfl (fun h => by omega) (fun _ => ?_)); apply vC_skip; apply blockP_normal; apply seqP_normal; apply vC_region; ((apply vL_val); (case h => ((apply opv_add); exact rfl; exact rfl; (first | omega | (simp only [List.length_map]; omega))))); ((apply vL_val); (case h => ((apply opv_E); exact rfl))); apply vL_nil; apply loopP_normal)
      (with_reducible apply end1); (case hs => ((iterate 8 (((refine same_updO ?_ ?_); rotate_left; exact rfl))); apply same_updN; (iterate 4 (((refine same_updO ?_ ?_); rotate_left; exact rfl))); ((refine same_upd ?_ ?_); rotate_left; exact rfl); (exact same_mask _ _ _))); (case h1 => (exact norm_eq rfl))
      · refine ⟨j + 1, rfl, by omega, hfw5, h15, ht5, hl5, fun k y hk hy => ?_⟩
        by_cases e : k = j
        · subst e; rw [hxi] at hy; cases hy; omega
        · exact hdue k y (by omega) hy
      · simp [RowKit.intOf]; omega
  have hdues : ∀ x ∈ c.ws, x.due ≤ c.now + 8 := fun x hx => by
    obtain ⟨k, hk, e⟩ := List.getElem_of_mem hx
    exact hdue k x (by omega) (by rw [List.getElem?_eq_getElem hk, e])
  have hjl' : c.ws.length = j := by omega
  have G0 := GI.begin R hdues
  obtain ⟨o, ho⟩ : ∃ o, o = c.ws.any (fun x => ownP c x.rq) := ⟨_, rfl⟩
  rw [← ho] at G0 ⊢
  have hrd4 := hc.frN hf4
  clear hcw4
  (apply vC_seq; apply vC_region; ((apply vL_val); (case h => ((apply opv_E); exact rfl))); apply vL_nil; apply seqP_normal; apply vC_seq; (refine vC_cond_dec rfl (fun h => by omega) (fun _ => ?_)); apply vC_exit; apply seqP_exit; apply loopP_exit; apply blockP_exit; apply seqP_normal; apply vC_seq; apply vC_region; ((apply vL_val); (case h => ((apply opv_E); exact rfl))); apply vL_nil; apply seqP_normal; (iterate 2 (apply vC_seq)); apply vC_region; ((apply vL_val); (case h => ((apply opv_E); exact rfl))); apply vL_nil; apply seqP_normal; apply vC_block)
  (apply vC_loop2 5708990770823839524078401372887308011171707908 10 11 (fun u10 u11 w' => ∃ (n gone : Nat) (d : CL) (T L : List (Int × Int)), u10 = .int .i64 gone ∧ u11 = .int .i64 n ∧ n ≤ 96 ∧ Fr No w w' ∧ Blk w'.heap b1 (clE d) 25 ∧ ClRd w'.heap d ∧ Mp w'.heap r1 ikE ivE T ∧ Mp w'.heap r2 ikE ivE L ∧ GI c n d T L gone o ∧ (∀ x ∈ d.ws, RqSz x.rq ∧ x.rq.topic.size ≤ 9223372036854775807) ∧ (∀ s ∈ d.ss, s.topic.size ≤ 9223372036854775807)) (fun _ u11 _ => 96 - (RowKit.intOf u11).toNat)); (case h1 => (exact norm_eq rfl)); (case h2 => (exact norm_eq rfl))
  case h0 => exact ⟨0, 0, c, _, _, rfl, rfl, by decide, hf4, h14, hrd4, ht4, hl4, G0, hs, hss⟩
  case round =>
  clear hf4 h14 ht4 hl4 hrd4 G0
  rintro junk3 _ _ w4 ⟨n, gone, d, T, L, rfl, rfl, hn, hf4, h14, hd4, ht4, hl4, G, hsd, hssd⟩
  have hdw := d.wv.2
  have hds := d.sv.2
  have hl8d := G.rg.2.2.2.2
  have hTl := G.cn
  have hTl8 := G.tl
  by_cases hn96 : n < 96
  rotate_left
  · have hws0 := G.over (by omega)
    have hws1 : d.ws.length = 0 := by rw [hws0]; rfl
    have hdr := hd4.1
    have how : o = true → d.stale = true := fun h => by
      rcases G.ow h with h | ⟨x, hx, _⟩
      · exact h
      · rw [hws0] at hx; cases hx
    have hgl : (gone : Int) = T.length := by omega
    cases o with
    | true =>
      have hst := how rfl
      rw [clE, hst] at h14
      ((iterate 2 (apply vC_seq)); apply vC_region; (iterate 2 (((apply vL_val); (case h => ((apply opv_E); exact rfl))))); apply vL_nil; apply seqP_normal; (refine vC_cond_dec rfl (fun h => by omega) (fun _ => ?_)); apply vC_exit; apply seqP_exit; apply loopP_exit; apply blockP_exit; apply seqP_normal; apply vC_seq; apply vC_region; ((apply vL_val); (case h => ((apply opv_fieldAddr); exact rfl))); ((apply vL_val); (case h => ((apply opv_loadb1); exact rfl; exact rfl; assumption; exact rfl))); ((apply vL_val); (case h => ((apply opv_len); ((conv => lhs; whnf) <;> exact rfl); assumption))); (iterate 2 (((apply vL_val); (case h => ((apply opv_E); exact rfl))))); (refine vL_and rfl rfl (fun _ => ?_) (fun h => by omega)); ((apply vL_val); (case h => ((apply opv_E); exact rfl))); ((apply vL_wanted); exact rfl); ((apply vL_val); (case h => ((apply opv_move); ((conv => lhs; whnf) <;> exact rfl)))); ((apply vL_wanted); exact rfl))
      refine vL_val (opv_lenMap' (kE := ikE) (vE := ivE) rfl ht4 rfl) ?_
      (((apply vL_wanted); exact rfl); (iterate 3 (((apply vL_val); (case h => ((apply opv_E); exact rfl))))); (refine vL_and rfl rfl (fun _ => ?_) (fun h => by omega)); ((apply vL_val); (case h => ((apply opv_E); exact rfl))); ((apply vL_wanted); exact rfl); ((apply vL_val); (case h => ((apply opv_not); exact rfl))); ((apply vL_wanted); exact rfl); ((apply vL_val); (case h => ((apply opv_E); exact rfl))); ((apply vL_wanted); exact rfl); ((apply vL_val); (case h => ((apply opv_fieldAddr); exact rfl))); ((apply vL_wanted); exact rfl); ((apply vL_val); (case h => ((apply opv_loadb1); exact rfl; exact rfl; assumption; exact rfl))); ((apply vL_wanted); exact rfl); (iterate 3 (((apply vL_val); (case h => ((apply opv_E); exact rfl))))); ((apply vL_wanted); exact rfl))
      refine vL_callF rfl (awake31 w4) rfl ?_
      rintro _ w5 ⟨rfl, hf5⟩
      ((iterate 2 (((apply vL_val); (case h => ((apply opv_E); exact rfl))))); apply vL_nil; apply seqP_normal; apply vC_ret)
      (apply ret1; (case h1 => (exact norm_eq rfl)))
      exact ⟨by simp, hf4.trans hf5⟩
    | false =>
      ((iterate 2 (apply vC_seq)); apply vC_region; (iterate 2 (((apply vL_val); (case h => ((apply opv_E); exact rfl))))); apply vL_nil; apply seqP_normal; (refine vC_cond_dec rfl (fun h => by omega) (fun _ => ?_)); apply vC_exit; apply seqP_exit; apply loopP_exit; apply blockP_exit; apply seqP_normal; apply vC_seq; apply vC_region; ((apply vL_val); (case h => ((apply opv_fieldAddr); exact rfl))); ((apply vL_val); (case h => ((apply opv_loadb1); exact rfl; exact rfl; assumption; exact rfl))); ((apply vL_val); (case h => ((apply opv_len); ((conv => lhs; whnf) <;> exact rfl); assumption))); (iterate 2 (((apply vL_val); (case h => ((apply opv_E); exact rfl))))); (refine vL_and rfl rfl (fun _ => ?_) (fun h => by omega)); ((apply vL_val); (case h => ((apply opv_E); exact rfl))); ((apply vL_wanted); exact rfl); ((apply vL_val); (case h => ((apply opv_move); ((conv => lhs; whnf) <;> exact rfl)))); ((apply vL_wanted); exact rfl))
      refine vL_val (opv_lenMap' (kE := ikE) (vE := ivE) rfl ht4 rfl) ?_
      (((apply vL_wanted); exact rfl); (iterate 3 (((apply vL_val); (case h => ((apply opv_E); exact rfl))))); (refine vL_and rfl rfl (fun _ => ?_) (fun h => by omega)); ((apply vL_val); (case h => ((apply opv_E); exact rfl))); ((apply vL_wanted); exact rfl); ((apply vL_val); (case h => ((apply opv_not); exact rfl))); ((apply vL_wanted); exact rfl); ((apply vL_val); (case h => ((apply opv_E); exact rfl))); (iterate 2 (((apply vL_unwanted'); exact rfl; exact rfl))); ((apply vL_wanted); exact rfl); (iterate 3 (((apply vL_val); (case h => ((apply opv_E); exact rfl))))); ((apply vL_wanted); exact rfl))
      refine vL_callF rfl (awake31 w4) rfl ?_
      rintro _ w5 ⟨rfl, hf5⟩
      ((iterate 2 (((apply vL_val); (case h => ((apply opv_E); exact rfl))))); apply vL_nil; apply seqP_normal; apply vC_ret)
      (apply ret1; (case h1 => (exact norm_eq rfl)))
      exact ⟨by simp, hf4.trans hf5⟩
  have hnow : d.now < 1099511627776 := by have := G.nw; omega
  (((iterate 2 (apply vC_seq)); apply vC_region)); (((iterate 2 (((apply vL_val); (case h => ((apply opv_E); exact rfl))))); apply vL_nil)); with_reducible apply seqP_normal
  (skip)
  refine vC_condT rfl (decide_eq_true (by omega)) ?_
  ((apply vC_skip; apply seqP_normal; apply vC_seq; apply vC_block; apply vC_seq; apply vC_region))
  (((apply vL_val); (case h => ((apply opv_loadbC); exact rfl; exact rfl; assumption; exact (rfl : _ = [_, _, _, _, _, _, _, _, _, _]); exact rfl))))
  refine vL_callF rfl (tickG d w4 G.rg hnow hd4 hsd hssd) rfl ?_
  rintro _ w5 ⟨d', dv, sv, sds, rfl, hdn5, hsd5, hsq, hdv, hsv, hd5, hf5, hnf5⟩
  have h15 := h14.frN hf5
  have ht5 := ht4.frN hf5
  have hl5 := hl4.frN hf5
  have hfw5 := hf4.trans hf5
  have hdw' := d'.wv.2
  have hds' := d'.sv.2
  have hsdl : sds.length ≤ 8 := by
    have := congrArg List.length hsq
    simp only [List.length_map] at this
    rw [this]; exact Nat.le_trans (List.length_filter_le _ _) hl8d
  have hG' := G.tick hnow hnf5
  have e3 : d'.ss = d.ss := by have := congrArg CL.ss hnf5; exact this
  have hsd' : ∀ x ∈ d'.ws, RqSz x.rq ∧ x.rq.topic.size ≤ 9223372036854775807 := fun x hx => by
    have h1 : x.nf ∈ d'.ws.map WT.nf := List.mem_map.2 ⟨x, hx, rfl⟩
    have h2 : d'.ws.map WT.nf = (tickC d).ws.map WT.nf := by have := congrArg CL.ws hnf5; exact this
    rw [h2] at h1
    obtain ⟨y, hy, e⟩ := List.mem_map.1 h1
    obtain ⟨z, hz, e'⟩ := List.mem_filterMap.1 hy
    have er : x.rq.nf = z.rq.nf := by
      have := congrArg WT.rq e.symm
      rw [← stepW_rq e']; exact this
    have et : x.rq.topic = z.rq.topic := by have := congrArg RQ.topic er; exact this
    exact ⟨rqsz_nf er (hsd z hz).1, by rw [et]; exact (hsd z hz).2⟩
  have hssd' : ∀ s ∈ d'.ss, s.topic.size ≤ 9223372036854775807 := fun s h => hssd s (by rw [← e3]; exact h)
  clear h14 ht4 hl4 hf4 hd4 hf5
  obtain ⟨S, hS⟩ : ∃ S, S = d.ws.filter (sendQ (d.now + 1)) := ⟨_, rfl⟩
  obtain ⟨D, hD⟩ : ∃ D, D = d.ws.filter (doneQ (d.now + 1)) := ⟨_, rfl⟩
  rw [← hS] at hG' hsq
  rw [← hD] at hG' hdn5
  have hSp := G.sends
  rw [← hS] at hSp
  (((iterate 2 (((apply vL_val); (case h => ((apply opv_E); exact rfl))))); (iterate 2 (((apply vL_val); (case h => ((apply opv_extract); exact norm_eq rfl; exact rfl))))); ((apply vL_val); (case h => (apply opw_alloc))); ((apply vL_skip); (case h => ((apply ops_storen); exact norm_eq rfl; exact norm_eq rfl; exact rfl; exact (fun u hu => EncOk.one _ u hu); infer_instance; (first | decide | exact of_decide_eq_true rfl | (simp; done))))); (iterate 2 (((apply vL_val); (case h => ((apply opv_assign); ((conv => lhs; whnf) <;> exact rfl)))))); apply vL_nil)); with_reducible apply seqP_normal
  (((iterate 2 (apply vC_seq)); apply vC_region))
  refine vL_gen (fun w' => Fr No w5 w' ∧ w5.heap.size < w'.heap.size ∧ Blk w'.heap w5.heap.size (clE d') 25) ⟨by (apply Fr.allocSet; exact Fr.refl _ _), by simp, Blk.as inferInstance rfl⟩ ?_
  rintro w6 ⟨hf6, hz6, h126⟩
  have ht6 := ht5.frN hf6
  have hl6 := hl5.frN hf6
  have hfw6 := hfw5.trans hf6
  have hsz6 := hfw5.size
  have hlt12 := h15.lt
  generalize w5.heap.size = b12 at hz6 h126 hsz6 hlt12 ⊢
  have B6 : GB w b1 b12 d d' sv dv sds (D.map (·.rq.call)) w6 := ⟨hfw6, h15.frN hf6, h126, hd5.frN hf6, hsd5.frN hf6, hdn5.frN hf6⟩
  clear h15 ht5 hl5 hd5 hsd5 hdn5 hfw5 hf6 hfw6 h126
  have hdl : D.length ≤ 8 := by rw [hD]; exact Nat.le_trans (List.length_filter_le _ _) hl8d
  have hsd6 := B6.sd.rd
  have hlen : S.length = sds.length := by have := congrArg List.length hsq; simp only [List.length_map] at this; exact this.symm
  (((apply vL_val); (case h => ((apply opv_move); ((conv => lhs; whnf) <;> exact rfl)))); ((apply vL_val); (case h => ((apply opv_len); ((conv => lhs; whnf) <;> exact rfl); assumption))); ((apply vL_val); (case h => ((apply opv_E); exact rfl))); apply vL_nil; apply seqP_normal; apply vC_block)
  (apply vC_loop1 5444517870101190115299879018159940763652 99 (fun u99 w' => ∃ j : Nat, u99 = .int .i64 j ∧ j ≤ sds.length ∧ GB w b1 b12 d d' sv dv sds (D.map (·.rq.call)) w' ∧ Mp w'.heap r1 ikE ivE (foldM (fun x => x.tries + 1) T (S.take j)) ∧ Mp w'.heap r2 ikE ivE (foldM (fun x => x.broker) L (S.take j))) (fun u99 _ => sds.length - (RowKit.intOf u99).toNat)); (case h1 => (exact norm_eq rfl))
  case h0 => exact ⟨0, rfl, Nat.zero_le _, B6, ht6, hl6⟩
  case round =>
  clear B6 ht6 hl6 hsd6
  rintro junk4 _ w7 ⟨j, rfl, hj, B7, ht7, hl7⟩
  have hsd7 := B7.sd.rd
  by_cases hjs : j < sds.length
  · obtain ⟨sd, hsdi⟩ : ∃ sd, sds[j]? = some sd := ⟨sds[j], List.getElem?_eq_getElem hjs⟩
    have hsdi' : sds[((j : Nat) : Int).toNat]? = some sd := hsdi
    obtain ⟨x, hxi⟩ : ∃ x, S[j]? = some x := ⟨S[j], List.getElem?_eq_getElem (by omega)⟩
    have hpair : sd.to = x.broker ∧ sd.rq.call = x.rq.call := by
      have h1 := congrArg (fun l => l[j]?) hsq
      simp only [List.getElem?_map, hsdi, hxi, Option.map_some, Option.some.injEq, Prod.mk.injEq] at h1
      exact h1
    have hxS := List.mem_of_getElem? hxi
    have hxw : x ∈ d.ws := by rw [hS] at hxS; exact (List.mem_filter.1 hxS).1
    have hnew : ∀ y ∈ S.take j, y.rq.call ≠ x.rq.call := fun y hy e => by
      obtain ⟨k, hk, rfl⟩ := List.mem_take_iff_getElem.1 hy
      have h1 := List.pairwise_iff_getElem.1 hSp k j (by omega) (by omega) (by omega)
      have e2 : S[j] = x := by have := List.getElem?_eq_getElem (l := S) (i := j) (by omega); rw [this] at hxi; exact Option.some.inj hxi
      rw [e2] at h1
      omega
    have hTg : mget (foldM (fun x => x.tries + 1) T (S.take j)) x.rq.call = some x.tries := by rw [foldM_none _ hnew]; exact G.tr x hxw
    have hLg : ∀ to, mget (foldM (fun x => x.broker) L (S.take j)) x.rq.call = some to → (1 ≤ to ∧ to ≤ 7) ∧ x.broker = to % d.brokers + 1 := fun to h => by rw [foldM_none _ hnew] at h; exact G.la x hxw to h
    have hxo := (wsG_iff.1 G.rg.2.2.2).1 x hxw
    have hxt := hxo.2.1
    have hbr7 := G.rg.1.1.2
    have hrb := sd.rq.brv.2
    have hrt := sd.rq.trv.2
    obtain ⟨hto, hcall⟩ := hpair
    rw [← hcall] at hTg hLg
    ((apply vC_seq; apply vC_region)); ((((apply vL_val); (case h => ((apply opv_E); exact rfl))); apply vL_nil)); with_reducible apply seqP_normal
    ((apply vC_seq))
    refine vC_condT rfl (decide_eq_true (by omega)) ?_
    ((apply vC_skip; apply seqP_normal; apply vC_seq; apply vC_block; apply vC_seq; apply vC_region))
    ((((apply vL_val); (case h => ((apply opv_indexAddr); ((conv => lhs; whnf) <;> exact rfl); exact rfl; assumption; (first | omega | (simp only [List.length_map]; omega)); (first | omega | (simp only [List.length_map]; omega))))); ((apply vL_val); (case h => ((apply opv_ld_eln); exact rfl; exact rfl; assumption; assumption))); ((apply vL_val); (case h => (apply opw_alloc))); ((apply vL_skip); (case h => ((apply ops_storen); exact norm_eq rfl; exact norm_eq rfl; exact rfl; exact (fun u hu => EncOk.one _ u hu); infer_instance; (first | decide | exact of_decide_eq_true rfl | (simp; done))))); apply vL_nil)); with_reducible apply seqP_normal
    ((apply vC_seq; apply vC_region))
    refine vL_gen (fun w' => Fr No w7 w' ∧ w7.heap.size < w'.heap.size ∧ Blk w'.heap w7.heap.size (sdE sd) 48) ⟨by (apply Fr.allocSet; exact Fr.refl _ _), by simp, Blk.as inferInstance rfl⟩ ?_
    rintro w8 ⟨hf8, hz8, h168⟩
    have B8 := B7.frN hf8
    have ht8 := ht7.frN hf8
    have hl8' := hl7.frN hf8
    generalize w7.heap.size = b16 at hz8 h168 ⊢
    clear B7 ht7 hl7 hf8 hsd7
    have h18 := B8.h1
    ((iterate 2 (((apply vL_val); (case h => ((apply opv_fieldAddr); exact rfl))))); ((apply vL_val); (case h => ((apply opv_loadb1); exact rfl; exact rfl; assumption; exact rfl))); ((apply vL_val); (case h => ((apply opv_E); exact rfl))); apply vL_nil; apply seqP_normal; (iterate 2 (apply vC_seq)); apply vC_region; ((apply vL_val); (case h => ((apply opv_move); ((conv => lhs; whnf) <;> exact rfl)))); ((apply vL_val); (case h => ((apply opv_E); exact rfl))))
    refine vL_val (opv_lookupOk (kE := ikE) (vE := ivE) (key := sd.rq.call) rfl rfl hl8') ?_
    cases hm : mget (foldM (fun x => x.broker) L (S.take j)) sd.rq.call with
    | none =>
      ((iterate 5 (((apply vL_val); (case h => ((apply opv_E); exact rfl))))); apply vL_nil; apply seqP_normal; apply vC_seq)
      (with_reducible apply vC_drawQ); ((iterate 2 (((apply vQ_op); (case hi => exact rfl); (case hf => kernel_rfl); (case hS => exact Dr.refl _); (case hy => (intro j; ((apply opv_E); exact rfl)))))); (iterate 8 (((apply vQ_unwanted); (case hi => exact rfl); (case hg => exact rfl); (case hne => exact rfl); (case hf => kernel_rfl); (case hS => exact Dr.refl _)))); ((apply vQ_op); (case hi => exact rfl); (case hf => kernel_rfl); (case hS => exact Dr.refl _); (case hy => (intro j; ((apply opv_E); exact rfl)))); ((apply vQ_end); (case hi => exact rfl); (case hf => kernel_rfl); (case hS => exact Dr.refl _)))
      refine vC_gen (fun w' => Fr No w8 w') ((Fr.refl No w8).drew) ?_
      intro w9 hf9
      have B9 := B8.frN hf9
      have ht9 := ht8.frN hf9
      have hl9 := hl8'.frN hf9
      have h169 := h168.frN hf9
      clear B8 ht8 hl8' h168 hf9 h18
      (((apply vC_cond_false); exact rfl); apply vC_skip; apply seqP_normal; apply vC_seq; apply vC_region; ((apply vL_val); (case h => ((apply opv_move); ((conv => lhs; whnf) <;> exact rfl)))); ((apply vL_val); (case h => ((apply opv_E); exact rfl))); ((apply vL_val); (case h => ((apply opv_fieldAddr); exact rfl))); ((apply vL_val); (case h => ((apply opv_loadb1); exact rfl; exact rfl; assumption; exact rfl))))
      refine vL_mapUpdate (kE := ikE) (vE := ivE) (key := sd.rq.call) (val := sd.to) rfl rfl rfl hl9 ?_
      intro w10 hl10 hf10
      have B10 := B9.frMp hl9 hf10 (by omega)
      have ht10 := ht9.fr hf10 hne12
      clear B9 ht9 hl9 hf10 h169
      (apply vL_nil; apply seqP_normal; apply vC_region; ((apply vL_val); (case h => ((apply opv_move); ((conv => lhs; whnf) <;> exact rfl)))); ((apply vL_val); (case h => ((apply opv_E); exact rfl))))
      refine vL_val (opv_lookup' (kE := ikE) (vE := ivE) (key := sd.rq.call) (u := .int .i64 x.tries) rfl rfl ht10 (by rw [hTg]; rfl)) ?_
      (((apply vL_val); (case h => ((apply opv_add); exact rfl; exact rfl; (first | omega | (simp only [List.length_map]; omega))))))
      refine vL_mapUpdate (kE := ikE) (vE := ivE) (key := sd.rq.call) (val := x.tries + 1) rfl rfl rfl ht10 ?_
      intro w11 ht11 hf11
      have B11 := B10.frMp ht10 hf11 (by omega)
      have hl11 := hl10.fr hf11 (Ne.symm hne12)
      (apply vL_nil; apply blockP_normal; apply seqP_normal; apply vC_region; ((apply vL_val); (case h => ((apply opv_add); exact rfl; exact rfl; (first | omega | (simp only [List.length_map]; omega))))); ((apply vL_val); (case h => ((apply opv_E); exact rfl))); apply vL_nil; apply loopP_normal)
      (with_reducible apply end1); (case hs => ((iterate 2 (((refine same_updO ?_ ?_); rotate_left; exact rfl))); apply same_updN; (iterate 4 (((refine same_updO ?_ ?_); rotate_left; exact rfl))); apply same_updN; (iterate 27 (((refine same_updO ?_ ?_); rotate_left; exact rfl))); apply same_updN; (iterate 4 (((refine same_updO ?_ ?_); rotate_left; exact rfl))); ((refine same_upd ?_ ?_); rotate_left; exact rfl); (exact same_mask _ _ _))); (case h1 => (exact norm_eq rfl))
      · refine ⟨j + 1, rfl, by omega, B11, ?_, ?_⟩
        · rw [foldM_next (fun x => x.tries + 1) T hxi, ← hcall]; exact ht11
        · rw [foldM_next (fun x => x.broker) L hxi, ← hcall, ← hto]; exact hl11
      · simp [RowKit.intOf]; omega
    | some to =>
      obtain ⟨hto1, hto2⟩ := hLg to hm
      have hto3 : sd.to = to % d.brokers + 1 := by rw [hto]; exact hto2
      ((iterate 5 (((apply vL_val); (case h => ((apply opv_E); exact rfl))))); apply vL_nil; apply seqP_normal; apply vC_seq)
      refine vC_draw' (fun wf => Fr No w8 wf) ((Fr.refl No w8).drew) ?_
      ((apply (tk 0)); (case hi => exact rfl); (case hf => kernel_rfl); (case hS => (apply Fr.drew; exact Fr.refl _ _)); (case hy => (intro wf hwf; haveI := From.mk hwf; (((apply opv_E); exact rfl)))))
      ((apply (tk 1)); (case hi => exact rfl); (case hf => kernel_rfl); (case hS => (apply Fr.drew; exact Fr.refl _ _)); (case hy => (intro wf hwf; haveI := From.mk hwf; (((apply opv_E); exact rfl)))))
      ((apply (tkw 2)); (case hi => exact rfl); (case hg => exact rfl); (case hf => kernel_rfl); (case hS => (apply Fr.drew; exact Fr.refl _ _)); (case hy => (intro wf hwf; haveI := From.mk hwf; (((apply opv_fieldAddr); exact rfl)))))
      ((apply (tkw 3)); (case hi => exact rfl); (case hg => exact rfl); (case hf => kernel_rfl); (case hS => (apply Fr.drew; exact Fr.refl _ _)); (case hy => (intro wf hwf; haveI := From.mk hwf; (((apply opv_loadb1); exact rfl; exact rfl; infer_instance; exact rfl)))))
      ((apply (tkw 4)); (case hi => exact rfl); (case hg => exact rfl); (case hf => kernel_rfl); (case hS => (apply Fr.drew; exact Fr.refl _ _)); (case hy => (intro wf hwf; haveI := From.mk hwf; (((apply opv_E); exact rfl)))))
      ((apply (tkw 5)); (case hi => exact rfl); (case hg => exact rfl); (case hf => kernel_rfl); (case hS => (apply Fr.drew; exact Fr.refl _ _)); (case hy => (intro wf hwf; haveI := From.mk hwf; (((apply opv_fieldAddr); exact rfl)))))
      ((apply (tkw 6)); (case hi => exact rfl); (case hg => exact rfl); (case hf => kernel_rfl); (case hS => (apply Fr.drew; exact Fr.refl _ _)); (case hy => (intro wf hwf; haveI := From.mk hwf; (((apply opv_loadb1); exact rfl; exact rfl; infer_instance; exact rfl)))))
      ((apply (tkw 7)); (case hi => exact rfl); (case hg => exact rfl); (case hf => kernel_rfl); (case hS => (apply Fr.drew; exact Fr.refl _ _)); (case hy => (intro wf hwf; haveI := From.mk hwf; (((apply opv_rem); exact rfl; exact rfl; (first | omega | (simp only [List.length_map]; omega)); (first | omega | (simp only [List.length_map]; omega)))))))
      ((apply (tkw 8)); (case hi => exact rfl); (case hg => exact rfl); (case hf => kernel_rfl); (case hS => (apply Fr.drew; exact Fr.refl _ _)); (case hy => (intro wf hwf; haveI := From.mk hwf; (((apply opv_add); exact rfl; exact rfl; (first | omega | (simp only [List.length_map]; omega)))))))
      ((apply (tkw 9)); (case hi => exact rfl); (case hg => exact rfl); (case hf => kernel_rfl); (case hS => (apply Fr.drew; exact Fr.refl _ _)); (case hy => (intro wf hwf; haveI := From.mk hwf; (((apply opv_E); exact rfl)))))
      ((apply (tk 10)); (case hi => exact rfl); (case hf => kernel_rfl); (case hS => (apply Fr.drew; exact Fr.refl _ _)); (case hy => (intro wf hwf; haveI := From.mk hwf; (((apply opv_E); exact rfl)))))
      refine vA_done (by kernel_rfl) (by (first | exact trivial | ((apply Fr.drew; exact Fr.refl _ _); done))) ?_
      refine vC_gen (fun w' => Fr No w8 w') ((Fr.refl No w8).drew) ?_
      intro w9 hf9
      have B9 := B8.frN hf9
      have ht9 := ht8.frN hf9
      have hl9 := hl8'.frN hf9
      have h169 := h168.frN hf9
      clear B8 ht8 hl8' h168 hf9 h18
      ((refine vC_cond_dec rfl (fun h => by omega) (fun _ => ?_)); apply vC_skip; apply seqP_normal; apply vC_seq; apply vC_region; ((apply vL_val); (case h => ((apply opv_move); ((conv => lhs; whnf) <;> exact rfl)))); ((apply vL_val); (case h => ((apply opv_E); exact rfl))); ((apply vL_val); (case h => ((apply opv_fieldAddr); exact rfl))); ((apply vL_val); (case h => ((apply opv_loadb1); exact rfl; exact rfl; assumption; exact rfl))))
      refine vL_mapUpdate (kE := ikE) (vE := ivE) (key := sd.rq.call) (val := sd.to) rfl rfl rfl hl9 ?_
      intro w10 hl10 hf10
      have B10 := B9.frMp hl9 hf10 (by omega)
      have ht10 := ht9.fr hf10 hne12
      clear B9 ht9 hl9 hf10 h169
      (apply vL_nil; apply seqP_normal; apply vC_region; ((apply vL_val); (case h => ((apply opv_move); ((conv => lhs; whnf) <;> exact rfl)))); ((apply vL_val); (case h => ((apply opv_E); exact rfl))))
      refine vL_val (opv_lookup' (kE := ikE) (vE := ivE) (key := sd.rq.call) (u := .int .i64 x.tries) rfl rfl ht10 (by rw [hTg]; rfl)) ?_
      (((apply vL_val); (case h => ((apply opv_add); exact rfl; exact rfl; (first | omega | (simp only [List.length_map]; omega))))))
      refine vL_mapUpdate (kE := ikE) (vE := ivE) (key := sd.rq.call) (val := x.tries + 1) rfl rfl rfl ht10 ?_
      intro w11 ht11 hf11
      have B11 := B10.frMp ht10 hf11 (by omega)
      have hl11 := hl10.fr hf11 (Ne.symm hne12)
      (apply vL_nil; apply blockP_normal; apply seqP_normal; apply vC_region; ((apply vL_val); (case h => ((apply opv_add); exact rfl; exact rfl; (first | omega | (simp only [List.length_map]; omega))))); ((apply vL_val); (case h => ((apply opv_E); exact rfl))); apply vL_nil; apply loopP_normal)
      (with_reducible apply end1); (case hs => ((iterate 2 (((refine same_updO ?_ ?_); rotate_left; exact rfl))); apply same_updN; (iterate 4 (((refine same_updO ?_ ?_); rotate_left; exact rfl))); apply same_updN; (iterate 27 (((refine same_updO ?_ ?_); rotate_left; exact rfl))); apply same_updN; (iterate 4 (((refine same_updO ?_ ?_); rotate_left; exact rfl))); ((refine same_upd ?_ ?_); rotate_left; exact rfl); (exact same_mask _ _ _))); (case h1 => (exact norm_eq rfl))
      · refine ⟨j + 1, rfl, by omega, B11, ?_, ?_⟩
        · rw [foldM_next (fun x => x.tries + 1) T hxi, ← hcall]; exact ht11
        · rw [foldM_next (fun x => x.broker) L hxi, ← hcall, ← hto]; exact hl11
      · simp [RowKit.intOf]; omega
  have hjs' : sds.length = j := by omega
  have htk2 : S.take j = S := List.take_of_length_le (by omega)
  rw [htk2] at ht7 hl7
  have hdn7 := B7.dn.rd
  have hdlm : (D.map (·.rq.call)).length = D.length := List.length_map _
  (apply vC_seq; apply vC_region; ((apply vL_val); (case h => ((apply opv_E); exact rfl))); apply vL_nil; apply seqP_normal; apply vC_seq; (refine vC_cond_dec rfl (fun h => by omega) (fun _ => ?_)); apply vC_exit; apply seqP_exit; apply loopP_exit; apply blockP_exit; apply seqP_normal; (iterate 2 (apply vC_seq)); apply vC_region; ((apply vL_val); (case h => ((apply opv_move); ((conv => lhs; whnf) <;> exact rfl)))); ((apply vL_val); (case h => ((apply opv_len); ((conv => lhs; whnf) <;> exact rfl); assumption))); ((apply vL_val); (case h => ((apply opv_E); exact rfl))); apply vL_nil; apply seqP_normal; apply vC_block)
  (apply vC_loop2 2854473607340436822054910282924114639602058244 10 134 (fun u10 u134 w' => ∃ k : Nat, u10 = .int .i64 ((gone + k : Nat) : Int) ∧ u134 = .int .i64 k ∧ k ≤ D.length ∧ GB w b1 b12 d d' sv dv sds (D.map (·.rq.call)) w' ∧ Mp w'.heap r1 ikE ivE (foldM (fun x => x.tries + 1) T S) ∧ Mp w'.heap r2 ikE ivE (foldM (fun x => x.broker) L S)) (fun _ u134 _ => D.length - (RowKit.intOf u134).toNat)); (case h1 => (exact norm_eq rfl)); (case h2 => (exact norm_eq rfl))
  case h0 => exact ⟨0, rfl, rfl, Nat.zero_le _, B7, ht7, hl7⟩
  case round =>
  clear B7 ht7 hl7 hsd7 hdn7
  rintro junk5 _ _ w7 ⟨k, rfl, rfl, hk, B7, ht7, hl7⟩
  have hdn7 := B7.dn.rd
  by_cases hkd : k < D.length
  · obtain ⟨x, hxi⟩ : ∃ x, D[k]? = some x := ⟨D[k], List.getElem?_eq_getElem hkd⟩
    have hxD := List.mem_of_getElem? hxi
    obtain ⟨hxw, hxd⟩ : x ∈ d.ws ∧ doneQ (d.now + 1) x = true := by rw [hD] at hxD; exact List.mem_filter.1 hxD
    have hxd' := of_decide_eq_true hxd
    have hns : sendQ (d.now + 1) x = false := decide_eq_false (fun h => h.2 hxd'.2)
    have hTg : mget (foldM (fun x => x.tries + 1) T S) x.rq.call = some 10 := by
      rw [foldM_none _ (by rw [hS]; exact G.notSent hxw hns), G.tr x hxw, hxd'.2]
    have hci : (D.map (·.rq.call))[((k : Nat) : Int).toNat]? = some x.rq.call := by
      rw [show ((k : Nat) : Int).toNat = k from rfl, List.getElem?_map, hxi]; rfl
    ((apply vC_seq; apply vC_region)); ((((apply vL_val); (case h => ((apply opv_E); exact rfl))); apply vL_nil)); with_reducible apply seqP_normal
    ((apply vC_seq))
    refine vC_condT rfl (decide_eq_true (by omega)) ?_
    ((apply vC_skip; apply seqP_normal; apply vC_seq; apply vC_block; apply vC_seq; apply vC_region))
    ((((apply vL_val); (case h => ((apply opv_indexAddr); ((conv => lhs; whnf) <;> exact rfl); exact rfl; assumption; (first | omega | (simp only [List.length_map]; omega)); (first | omega | (simp only [List.length_map]; omega))))); ((apply vL_val); (case h => ((apply opv_ld_eln); exact rfl; exact rfl; assumption; assumption))); ((apply vL_val); (case h => (apply opw_alloc))); ((apply vL_skip); (case h => ((apply ops_storen); exact norm_eq rfl; exact norm_eq rfl; exact rfl; exact (fun u hu => EncOk.one _ u hu); infer_instance; (first | decide | exact of_decide_eq_true rfl | (simp; done))))); apply vL_nil)); with_reducible apply seqP_normal
    (((iterate 2 (apply vC_seq)); apply vC_region))
    refine vL_gen (fun w' => Fr No w7 w' ∧ w7.heap.size < w'.heap.size ∧ Blk w'.heap w7.heap.size (dnE x.rq.call) 58) ⟨by (apply Fr.allocSet; exact Fr.refl _ _), by simp, Blk.as inferInstance rfl⟩ ?_
    rintro w8 ⟨hf8, hz8, h218⟩
    have B8 := B7.frN hf8
    have ht8 := ht7.frN hf8
    have hl8' := hl7.frN hf8
    generalize w7.heap.size = b21 at hz8 h218 ⊢
    clear B7 ht7 hl7 hf8 hdn7
    rw [dnE] at h218
    (((apply vL_val); (case h => ((apply opv_fieldAddr); exact rfl))); ((apply vL_val); (case h => ((apply opv_loadb1); exact rfl; exact rfl; assumption; exact rfl))); (iterate 2 (((apply vL_val); (case h => ((apply opv_E); exact rfl))))); ((apply vL_wanted); exact rfl); ((apply vL_val); (case h => ((apply opv_move); ((conv => lhs; whnf) <;> exact rfl)))); ((apply vL_wanted); exact rfl); ((apply vL_val); (case h => ((apply opv_fieldAddr); exact rfl))); ((apply vL_wanted); exact rfl); ((apply vL_val); (case h => ((apply opv_loadb1); exact rfl; exact rfl; assumption; exact rfl))); ((apply vL_wanted); exact rfl))
    refine vL_val (opv_lookup' (kE := ikE) (vE := ivE) (key := x.rq.call) (u := .int .i64 10) rfl rfl ht8 (by rw [hTg]; rfl)) ?_
    (((apply vL_wanted); exact rfl); (iterate 2 (((apply vL_val); (case h => ((apply opv_E); exact rfl))))); apply vL_nil; apply seqP_normal; ((apply vC_cond_false); exact rfl); apply vC_skip; apply seqP_normal; apply vC_region; ((apply vL_val); (case h => ((apply opv_E); exact rfl))); ((apply vL_val); (case h => ((apply opv_add); exact rfl; exact rfl; (first | omega | (simp only [List.length_map]; omega))))); ((apply vL_val); (case h => ((apply opv_E); exact rfl))); apply vL_nil; apply blockP_normal; apply seqP_normal; apply vC_region; ((apply vL_val); (case h => ((apply opv_add); exact rfl; exact rfl; (first | omega | (simp only [List.length_map]; omega))))); ((apply vL_val); (case h => ((apply opv_E); exact rfl))); apply vL_nil; apply loopP_normal)
    (with_reducible apply end2); (case hs => ((iterate 15 (((refine same_updO ?_ ?_); rotate_left; exact rfl))); apply same_updN; (iterate 4 (((refine same_updO ?_ ?_); rotate_left; exact rfl))); (iterate 2 (((refine same_upd ?_ ?_); rotate_left; exact rfl))); (exact same_mask _ _ _))); (case h1 => (exact norm_eq rfl)); (case h2 => (exact norm_eq rfl))
    · exact ⟨k + 1, rfl, rfl, by omega, B8, ht8, hl8'⟩
    · simp [RowKit.intOf]; omega
  have hkd' : D.length = k := by omega
  rw [hkd'] at hG'
  have h17 := B7.h1
  have h27 := B7.h2
  have hne : b1 ≠ b12 := by omega
  (apply vC_seq; apply vC_region; ((apply vL_val); (case h => ((apply opv_E); exact rfl))); apply vL_nil; apply seqP_normal; apply vC_seq; (refine vC_cond_dec rfl (fun h => by omega) (fun _ => ?_)); apply vC_exit; apply seqP_exit; apply loopP_exit; apply blockP_exit; apply seqP_normal; apply vC_region; ((apply vL_val); (case h => ((apply opv_loadbC); exact rfl; exact rfl; assumption; exact (rfl : _ = [_, _, _, _, _, _, _, _, _, _]); exact rfl))); ((apply vL_skip); (case h => ((apply ops_storen); exact norm_eq rfl; exact norm_eq rfl; exact rfl; (intro u hu; simp only [List.mem_cons, List.not_mem_nil, or_false] at hu; rcases hu with rfl | rfl | rfl | rfl | rfl | rfl | rfl | rfl | rfl | rfl <;> (first | rfl | assumption)); assumption; (first | decide | exact of_decide_eq_true rfl | (simp; done))))); apply vL_nil; apply blockP_normal; apply seqP_normal; apply vC_region; ((apply vL_val); (case h => ((apply opv_E); exact rfl))); ((apply vL_val); (case h => ((apply opv_add); exact rfl; exact rfl; (first | omega | (simp only [List.length_map]; omega))))); ((apply vL_val); (case h => ((apply opv_E); exact rfl))); apply vL_nil; apply loopP_normal)
  (with_reducible apply end2); (case hs => ((iterate 3 (((refine same_updO ?_ ?_); rotate_left; exact rfl))); apply same_updN; (iterate 2 (((refine same_updO ?_ ?_); rotate_left; exact rfl))); (iterate 2 (((refine same_upd ?_ ?_); rotate_left; exact rfl))); ((refine same_maskIn ?_ ?_); rotate_left; exact rfl); (iterate 4 (((refine same_updO ?_ ?_); rotate_left; exact rfl))); ((refine same_upd ?_ ?_); rotate_left; exact rfl); ((refine same_maskIn ?_ ?_); rotate_left; exact rfl); (iterate 5 (((refine same_updO ?_ ?_); rotate_left; exact rfl))); apply same_updN; (iterate 9 (((refine same_updO ?_ ?_); rotate_left; exact rfl))); (iterate 2 (((refine same_upd ?_ ?_); rotate_left; exact rfl))); (exact same_mask _ _ _))); (case h1 => (exact norm_eq rfl)); (case h2 => (exact norm_eq rfl))
  · exact ⟨n + 1, gone + k, d', _, _, rfl, rfl, by omega, B7.fr.set _ _ (.inr (by omega)), Blk.as (Blk.set h17) rfl, (B7.hd.frBlk h17 ⟨by decide, by decide, by decide⟩ ⟨by decide, by decide⟩ ((Fr.refl (fun k => k = b1) w7).set _ _ (.inl rfl))).rd, ht7.fr ((Fr.refl (fun k => k = b1) w7).set _ _ (.inl rfl)) (by omega), hl7.fr ((Fr.refl (fun k => k = b1) w7).set _ _ (.inl rfl)) (by omega), hG', hsd', hssd'⟩
  · simp [RowKit.intOf]; omega
end Go.Proofs.Ytchfaeaagpemlaa
