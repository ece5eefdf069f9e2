/- Layer 31: Tick, of any right client: the walk.
Layer 31: ticks without answers, in plain lists.
Layer 31: Take, where the broker is not the leader.
Layer 31: the places of sequences; a wait is taken out.
Layer 31: a sequence goes on behind a batch (where there was none).
Layer 31: Take, where the answer is good. -/
import Derived.Test.YtchfaeaagpemlaaX5
import Derived.Test.YtchfaeaagpemlaaX3
import Derived.Test.YtchfaeaagpemlaaEp
set_option maxRecDepth 100000
namespace Go.Proofs.Ytchfaeaagpemlaa
open Go Go.Eng
theorem tickG (c : CL) (w : World) (R : RG c) (hnow : c.now < 1099511627776) (hc : ClRd w.heap c) (hs : ∀ x ∈ c.ws, RqSz x.rq ∧ x.rq.topic.size ≤ 9223372036854775807) (hss : ∀ s ∈ c.ss, s.topic.size ≤ 9223372036854775807) :
    Rets Try.prog 7 #[.agg (clE c).toArray] w fun u w' => ∃ c' dv sv sds, u = .tuple #[.agg (clE c').toArray, dv, sv] ∧ Own w'.heap 58 18 dnE dv ((c.ws.filter (doneQ (c.now + 1))).map (·.rq.call)) ∧ Own w'.heap 48 24 sdE sv sds ∧ sds.map (fun s => (s.to, s.rq.call)) = (c.ws.filter (sendQ (c.now + 1))).map (fun x => (x.broker, x.rq.call)) ∧ dv.oneCell' = true ∧ sv.oneCell' = true ∧ ClOwn w'.heap c' ∧ Fr No w w' ∧ c'.nf = (tickC c).nf := by
  have hw0 := c.wv.2
  have hs0 := c.sv.2
  obtain ⟨R1, R2, R3, R4⟩ := id R
  have hl8 := R4.2
  have hl128 := R2.2.2.2.2.1
  refine rets_of Try.func7 rfl Try.ntmps7 rfl rfl (by kernel_rfl) ?_
  ((apply vC_seq; apply vC_region)); ((((apply vL_val); (case h => ((apply opw_boxn); exact rfl))); ((apply vL_val); (case h => (apply opw_alloc))); (iterate 2 (((apply vL_val); (case h => ((apply opv_E); exact rfl))))); apply vL_nil)); with_reducible apply seqP_normal
  ((apply vC_scope; apply vC_seq; apply vC_region))
  have e2 : (w.alloc (.cells (clE c).toArray 25)).heap.size = w.heap.size + 1 := by simp
  refine vL_gen (fun w' => Fr No w w' ∧ Blk w'.heap w.heap.size (clE c) 25 ∧ Blk w'.heap (w.alloc (.cells (clE c).toArray 25)).heap.size clZ 25) ⟨by ((iterate 2 (apply Fr.alloc)); exact Fr.refl _ _), inferInstance, inferInstance⟩ ?_
  rintro w1 ⟨hf1, h1, h2⟩
  rw [e2] at h2
  rw [e2]
  obtain ⟨b1, eb1⟩ : ∃ b1, b1 = w.heap.size := ⟨_, rfl⟩
  obtain ⟨b2, eb2⟩ : ∃ b2, b2 = w.heap.size + 1 := ⟨_, rfl⟩
  rw [← eb2] at h2 ⊢
  rw [← eb1] at h1 ⊢
  have hl2 := h2.lt
  (((apply vL_val); (case h => ((apply opv_loadbC); exact rfl; exact rfl; assumption; exact (rfl : _ = [_, _, _, _, _, _, _, _, _, _]); exact rfl))))
  refine vL_callF rfl (clone31 c w1 (hc.frN hf1) ⟨by omega, by omega, fun y hy => (hs y hy).1⟩) rfl ?_
  rintro _ w2 ⟨c1, rfl, hnf, hc2, hfw2, hfs2, hf2⟩
  have hw1 := c1.wv.2
  have hs1 := c1.sv.2
  have h12 := h1.frN hf2
  have h22 := h2.frN hf2
  ((((apply vL_skip); (case h => ((apply ops_storen); exact norm_eq rfl; exact norm_eq rfl; exact rfl; exact (fun u hu => EncOk.one _ u hu); assumption; (first | decide | exact of_decide_eq_true rfl | (simp; done))))); apply vL_nil)); with_reducible apply seqP_normal
  (((iterate 2 (apply vC_seq)); apply vC_region))
  refine vL_gen (fun w' => Fr No w w' ∧ Blk w'.heap b1 (clE c1) 25 ∧ Blk w'.heap b2 clZ 25 ∧ ClOwn w'.heap c1) ⟨(hf1.trans hf2).set _ _ (.inr (by omega)), Blk.as (Blk.set h12) rfl, h22.set_ne (by omega), hc2.frBlk h12 ⟨by decide, by decide, by decide⟩ ⟨by decide, by decide⟩ ((Fr.refl (fun k => k = b1) w2).set _ _ (.inl rfl))⟩ ?_
  rintro w3 ⟨hf3, h13, h23, hc3⟩
  clear h12 h22 hc2 hfw2 hfs2 hf2 h1 h2
  have R' := R.nf hnf
  have hnw : c1.now = c.now := by have := congrArg CL.now hnf; exact this
  have hbk : c1.brokers = c.brokers := by have := congrArg CL.brokers hnf; exact this
  have hss1 : c1.ss = c.ss := by have := congrArg CL.ss hnf; exact this
  have hws1 : c1.ws.map WT.nf = c.ws.map WT.nf := by have := congrArg CL.ws hnf; exact this
  have hsz1 : ∀ x ∈ c1.ws, RqSz x.rq ∧ x.rq.topic.size ≤ 9223372036854775807 := fun x hx => by
    have h1 : x.nf ∈ c1.ws.map WT.nf := List.mem_map.2 ⟨x, hx, rfl⟩
    rw [hws1] at h1
    obtain ⟨y, hy, e⟩ := List.mem_map.1 h1
    have er : x.rq.nf = y.rq.nf := by have := congrArg WT.rq e.symm; exact this
    have et : x.rq.topic = y.rq.topic := by have := congrArg RQ.topic er; exact this
    exact ⟨rqsz_nf er (hs y hy).1, by rw [et]; exact (hs y hy).2⟩
  have hn0 := R1.2.2.2.1
  have hl81 : c1.ws.length ≤ 8 := by have := congrArg List.length hws1; simp only [List.length_map] at this; omega
  (((apply vL_val); (case h => ((apply opv_fieldAddr); exact rfl))); ((apply vL_val); (case h => ((apply opv_loadb1); exact rfl; exact rfl; assumption; exact rfl))); (iterate 2 (((apply vL_val); (case h => ((apply opv_E); exact rfl))))); (refine vL_or rfl rfl (fun _ => ?_) (fun h => by omega)); ((apply vL_val); (case h => ((apply opv_loadbC); exact rfl; exact rfl; assumption; exact (rfl : _ = [_, _, _, _, _, _, _, _, _, _]); exact rfl))); ((apply vL_wanted); exact rfl))
  refine vL_callF rfl (rightG c1 w3 hc3.rd (fun x hx => (hsz1 x hx).2) (fun s h => hss s (by rw [← hss1]; exact h))) rfl ?_
  rintro _ w4 ⟨rfl, hf4⟩
  rw [rgB_true R']
  have h14 := h13.frN hf4
  have h24 := h23.frN hf4
  have hc4 := hc3.frN hf4
  have hfw4 := hf3.trans hf4
  clear h13 h23 hc3 hf3 hf4
  have hcw4 := hc4.1
  haveI hoff : OffB c1.wv.1 b1 := ⟨Own.ne_blk hcw4 h14 (by decide)⟩
  (((apply vL_wanted); exact rfl); ((apply vL_val); (case h => ((apply opv_not); exact rfl))); ((apply vL_val); (case h => ((apply opv_E); exact rfl))); apply vL_nil; apply seqP_normal; ((apply vC_cond_false); exact rfl); apply vC_skip; apply seqP_normal; apply vC_seq; apply vC_region; ((apply vL_val); (case h => ((apply opv_fieldAddr); exact rfl))); ((apply vL_val); (case h => ((apply opv_loadb1); exact rfl; exact rfl; assumption; exact rfl))); ((apply vL_val); (case h => ((apply opv_add); exact rfl; exact rfl; (first | omega | (simp only [List.length_map]; omega))))); ((apply vL_val); (case h => ((apply opv_fieldAddr); exact rfl))); ((apply vL_skip); (case h => ((apply ops_store1); exact norm_eq rfl; exact norm_eq rfl; (first | rfl | assumption); assumption; (first | decide | exact of_decide_eq_true rfl | (simp; done))))); apply vL_nil; apply seqP_normal; apply vC_seq; apply vC_region; ((apply vL_val); (case h => ((apply opv_E); exact rfl))); apply vL_nil; apply seqP_normal; apply vC_seq; apply vC_region; ((apply vL_val); (case h => ((apply opv_E); exact rfl))); apply vL_nil; apply seqP_normal; apply vC_seq; apply vC_region; ((apply vL_val); (case h => ((apply opv_E); exact rfl))); apply vL_nil; apply seqP_normal; apply vC_seq; apply vC_label; apply seqP_normal; (iterate 2 (apply vC_seq)); apply vC_region; ((apply vL_val); (case h => ((apply opv_fieldAddr); exact rfl))); ((apply vL_val); (case h => ((apply opv_loadb1); exact rfl; exact rfl; infer_instance; exact rfl))); ((apply vL_val); (case h => ((apply opv_len); ((conv => lhs; whnf) <;> exact rfl); infer_instance))); ((apply vL_val); (case h => ((apply opv_E); exact rfl))); apply vL_nil; apply seqP_normal; apply vC_block)
  refine vC_gen (fun w' => Fr No w w' ∧ Blk w'.heap b1 (clE { c1 with now := c1.now + 1 }) 25 ∧ Blk w'.heap b2 clZ 25 ∧ ClOwn w'.heap c1) ⟨hfw4.set _ _ (.inr (by omega)), Blk.as (Blk.set h14) rfl, h24.set_ne (by omega), hc4.frBlk h14 ⟨by decide, by decide, by decide⟩ ⟨by decide, by decide⟩ ((Fr.refl (fun k => k = b1) w4).set _ _ (.inl rfl))⟩ ?_
  rintro w5 ⟨hf5, h15, h25, hc5⟩
  clear h14 h24 hc4 hfw4 hoff hcw4
  have hb1L := h15.lt
  have hb2L := h25.lt
  have hcL := hc5.1.lt
  have hsz5 := hf5.size
  generalize hL : w5.heap.size = L at hb1L hb2L hcL hsz5
  have hne12 : b1 ≠ b2 := by omega
  (apply vC_loop4 75557863725914054984416 5 7 6 28 (fun u5 u7 u6 u28 w' => ∃ (i : Nat) (st : Bool) (lf : List WT) (dn : List Int) (sds : List SD), u28 = .int .i64 i ∧ i ≤ c1.ws.length ∧ TP c1 i st lf dn sds ∧ TG w L b1 b2 c1 st lf dn sds u5 u6 u7 w') (fun _ _ _ u28 _ => c1.ws.length - (RowKit.intOf u28).toNat)); (case h1 => (exact norm_eq rfl)); (case h2 => (exact norm_eq rfl)); (case h3 => (exact norm_eq rfl)); (case h4 => (exact norm_eq rfl))
  case h0 => exact ⟨0, c1.stale, [], [], [], rfl, Nat.zero_le _, ⟨by simp [staleC], rfl, rfl, rfl⟩, ⟨hf5, h15, h25, hc5, hsz5, by omega, ⟨hb1L, by omega⟩, ⟨hb2L, by omega⟩, hcL, Own.nil _ _ _ _, fun b hb => (by cases hb), rfl, Own.nil _ _ _ _, fun b hb => (by cases hb), rfl, Own.nil _ _ _ _, fun b hb => (by cases hb), rfl⟩⟩
  case round =>
  clear h15 h25 hc5 hf5 hL
  rintro junk u5 u7 u6 u28 w6 ⟨i, st, lf, dn, sds, rfl, hi, TP0, S6⟩
  have hu5 := S6.n5
  have hu6 := S6.n6
  have hu7 := S6.n7
  by_cases hil : i < c1.ws.length
  rotate_left
  · have hli : c1.ws.length = i := by omega
    have htk : c1.ws.take i = c1.ws := List.take_of_length_le (by omega)
    have h16 := S6.h1
    have h26 := S6.h2
    have h26' := h26.set_ne (cs := (clE { c1 with now := c1.now + 1, stale := st, wv := ⟨u5, hu5⟩ }).toArray) (show b2 ≠ b1 by omega)
    (apply vC_seq; apply vC_region; ((apply vL_val); (case h => ((apply opv_E); exact rfl))); apply vL_nil; apply seqP_normal; apply vC_seq; (refine vC_cond_dec rfl (fun h => by omega) (fun _ => ?_)); apply vC_exit; apply seqP_exit; apply loopP_exit; apply blockP_exit; apply seqP_normal; apply vC_seq; apply vC_region; ((apply vL_val); (case h => ((apply opv_move); ((conv => lhs; whnf) <;> exact rfl)))); ((apply vL_val); (case h => ((apply opv_fieldAddr); exact rfl))); ((apply vL_skip); (case h => ((apply ops_store1); exact norm_eq rfl; ((conv => lhs; whnf) <;> exact rfl); (first | rfl | assumption); assumption; (first | decide | exact of_decide_eq_true rfl | (simp; done))))); apply vL_nil; apply seqP_normal; apply vC_seq; apply vC_region; ((apply vL_val); (case h => ((apply opv_loadbC); exact rfl; exact rfl; infer_instance; exact (rfl : _ = [_, _, _, _, _, _, _, _, _, _]); exact rfl))); (iterate 2 (((apply vL_val); (case h => ((apply opv_move); ((conv => lhs; whnf) <;> exact rfl)))))); ((apply vL_skip); (case h => ((apply ops_storen); exact norm_eq rfl; exact norm_eq rfl; exact rfl; (intro u hu; simp only [List.mem_cons, List.not_mem_nil, or_false] at hu; rcases hu with rfl | rfl | rfl | rfl | rfl | rfl | rfl | rfl | rfl | rfl <;> (first | rfl | assumption)); assumption; (first | decide | exact of_decide_eq_true rfl | (simp; done))))); (iterate 2 (((apply vL_val); (case h => ((apply opv_assign); ((conv => lhs; whnf) <;> exact rfl)))))); apply vL_nil; apply seqP_normal; apply vC_ret; apply gotoP_ret)
    (apply retC3; (case ha => exact rfl); (case hD => exact rfl); (case hb => exact Blk.set (h26.set_ne (show b2 ≠ b1 by omega))); (case hcs => exact (rfl : _ = clE { c1 with now := c1.now + 1, stale := st, wv := ⟨u5, hu5⟩, ws := lf })); (case hl => exact rfl); (case hu => (((conv => lhs; whnf) <;> exact rfl))); (case hu2 => (((conv => lhs; whnf) <;> exact rfl))))
    have hcl : ClOwn w6.heap { c1 with now := c1.now + 1, stale := st, wv := ⟨u5, hu5⟩, ws := lf } := ⟨S6.o5, fun y hy => ?_, S6.hc.2.2⟩
    rotate_left
    · rw [TP0.lf, htk] at hy
      obtain ⟨x, hx, e⟩ := List.mem_filterMap.1 hy
      rw [stepW_rq e]
      exact S6.hc.2.1 x hx
    have hA := hcl.frBlk h16 ⟨by decide, by decide, by decide⟩ ⟨by decide, by decide⟩ ((Fr.refl (fun k => k = b1) w6).set b1 (clE { c1 with now := c1.now + 1, stale := st, wv := ⟨u5, hu5⟩ }).toArray (.inl rfl))
    have hB := hA.frBlk h26' ⟨by decide, by decide, by decide⟩ ⟨by decide, by decide⟩ ((Fr.refl (fun k => k = b2) _).set b2 (clE { c1 with now := c1.now + 1, stale := st, wv := ⟨u5, hu5⟩ }).toArray (.inl rfl))
    have hb1w := S6.l1.2
    have hb2w := S6.l2.2
    have ho6 := (S6.o6.set (b := b1) (cs := (clE { c1 with now := c1.now + 1, stale := st, wv := ⟨u5, hu5⟩ }).toArray) (Own.ne_blk S6.o6 h16 (by decide)))
    have ho7 := (S6.o7.set (b := b1) (cs := (clE { c1 with now := c1.now + 1, stale := st, wv := ⟨u5, hu5⟩ }).toArray) (Own.ne_blk S6.o7 h16 (by decide)))
    refine ⟨_, _, _, sds, rfl, ?_, ho7.set (Own.ne_blk ho7 h26' (by decide)), ?_, hu6, hu7, hB, (S6.fr.set _ _ (.inr hb1w)).set _ _ (.inr hb2w), ?_⟩
    · have hd := TP0.dn
      rw [htk, hnw, filt_nf _ (fun x : WT => x.rq.call) (fun _ => rfl) (fun _ => rfl) hws1] at hd
      rw [← hd]
      exact ho6.set (Own.ne_blk ho6 h26' (by decide))
    · rw [TP0.sd, htk, hnw]
      exact filt_nf _ _ (fun _ => rfl) (fun _ => rfl) hws1
    · rw [← tickC_nf hnf]
      have h1 := TP0.st
      have h2 := TP0.lf
      rw [htk] at h1 h2
      rw [h1, h2]
      rfl
  obtain ⟨x, hxi⟩ : ∃ x, c1.ws[i]? = some x := ⟨c1.ws[i], List.getElem?_eq_getElem hil⟩
  have hxi' : c1.ws[((i : Nat) : Int).toNat]? = some x := hxi
  have hxm := List.mem_of_getElem? hxi
  obtain ⟨hlf, hdn, hsd⟩ := TP0.len
  have hcw6 := S6.hc.1
  obtain ⟨hok1, _, _⟩ := wsG_iff.1 R'.2.2.2
  obtain ⟨⟨q1, q2, q3, q4, q5, q6, q7⟩, ⟨q8, q9, q10, q11⟩, _⟩ := hok1 x hxm
  have hbv := x.rq.brv.2
  have htv := x.rq.trv.2
  have hbr7 := R'.1.1.2
  ((apply vC_seq; apply vC_region)); ((((apply vL_val); (case h => ((apply opv_E); exact rfl))); apply vL_nil)); with_reducible apply seqP_normal
  ((apply vC_seq))
  refine vC_condT rfl (decide_eq_true (by omega)) ?_
  ((apply vC_skip; apply seqP_normal; apply vC_seq; apply vC_block; apply vC_seq; apply vC_region))
  ((((apply vL_val); (case h => ((apply opv_indexAddr); ((conv => lhs; whnf) <;> exact rfl); exact rfl; infer_instance; (first | omega | (simp only [List.length_map]; omega)); (first | omega | (simp only [List.length_map]; omega))))); ((apply vL_val); (case h => ((apply opv_ld_eln); exact rfl; exact rfl; infer_instance; assumption))); ((apply vL_val); (case h => (apply opw_alloc))); ((apply vL_skip); (case h => ((apply ops_storen); exact norm_eq rfl; exact norm_eq rfl; exact rfl; exact (fun u hu => EncOk.one _ u hu); infer_instance; (first | decide | exact of_decide_eq_true rfl | (simp; done))))); apply vL_nil)); with_reducible apply seqP_normal
  ((apply vC_seq; apply vC_block; apply vC_seq; apply vC_region))
  refine vL_gen (fun w' => Fr No w6 w' ∧ w6.heap.size < w'.heap.size ∧ Blk w'.heap w6.heap.size (wtE x) 42) ⟨by (apply Fr.allocSet; exact Fr.refl _ _), by simp, Blk.as inferInstance rfl⟩ ?_
  rintro w7 ⟨hf7, hz7, h97⟩
  have S7 := S6.frN hf7
  have h5lt := S6.o5.lt
  have hb9L := S6.lz
  generalize w6.heap.size = b9 at h97 hz7 h5lt hb9L ⊢
  have h5ne : ∀ b, own u5 = some b → b ≠ b9 := fun b hb => by have := h5lt b hb; omega
  clear S6 hf7 hcw6
  have hb19 : b1 < b9 := by have := S7.l1.1; omega
  have hb29 : b2 < b9 := by have := S7.l2.1; omega
  haveI n19 : NeB b1 b9 := ⟨by omega⟩
  haveI n29 : NeB b2 b9 := ⟨by omega⟩
  have h17 := S7.h1
  by_cases hdue : c1.now + 1 < x.due
  · (((apply vL_val); (case h => ((apply opv_fieldAddr); exact rfl))); ((apply vL_val); (case h => ((apply opv_loadb1); exact rfl; exact rfl; assumption; exact rfl))); ((apply vL_val); (case h => ((apply opv_fieldAddr); exact rfl))); ((apply vL_val); (case h => ((apply opv_loadb1); exact rfl; exact rfl; assumption; exact rfl))); (iterate 2 (((apply vL_val); (case h => ((apply opv_E); exact rfl))))); apply vL_nil; apply seqP_normal; (refine vC_condT rfl (by ((simp only [Bool.not_eq_true', Bool.not_eq_false', Bool.not_not, decide_eq_true_eq, decide_eq_false_iff_not]); omega)) ?_); apply vC_skip; apply blockP_normal; apply seqP_normal; apply vC_region; ((apply vL_val); (case h => ((apply opv_move); ((conv => lhs; whnf) <;> exact rfl)))); ((apply vL_val); (case h => ((apply opv_loadb); exact rfl; exact rfl; assumption; exact rfl))); ((apply vL_val); (case h => ((apply opw_buildSl); exact rfl; exact rfl; exact rfl; exact (rfl : _ = some [_, _, _, _, _, _, _, _, _, _, _, _, _, _, _, _, _, _, _, _, _, _, _, _, _, _])))))
    refine vL_append (enc := wtE) (xs := lf) (ys := [x]) (by (((conv => lhs; whnf) <;> exact rfl))) (by (exact norm_eq rfl)) (Own.alloc S7.o5) (Rd.new1 _ _ rfl) rfl (by decide) ?_ ?_ ?_
    · simp [maxLen]; omega
    · simp; omega
    intro av w8 ho8 hf8 hfr8 honea _
    have S8 := (S7.frN ((Fr.refl No w7).alloc _)).left hf8 ho8 hfr8 honea
    (((apply vL_val); (case h => ((apply opv_assign); ((conv => lhs; whnf) <;> exact rfl)))); apply vL_nil; apply blockP_normal; apply seqP_normal; apply vC_region; ((apply vL_val); (case h => ((apply opv_add); exact rfl; exact rfl; (first | omega | (simp only [List.length_map]; omega))))); ((apply vL_val); (case h => ((apply opv_E); exact rfl))); apply vL_nil; apply loopP_normal)
    (with_reducible apply end4); (case hs => ((iterate 13 (((refine same_updO ?_ ?_); rotate_left; exact rfl))); apply same_updN; (iterate 4 (((refine same_updO ?_ ?_); rotate_left; exact rfl))); (iterate 4 (((refine same_upd ?_ ?_); rotate_left; exact rfl))); (exact same_mask _ _ _))); (case h1 => (((conv => lhs; whnf) <;> exact rfl))); (case h2 => (((conv => lhs; whnf) <;> exact rfl))); (case h3 => (((conv => lhs; whnf) <;> exact rfl))); (case h4 => (exact norm_eq rfl))
    · exact ⟨i + 1, st, _, dn, sds, rfl, by omega, TP0.keep hxi hdue, S8⟩
    · simp [RowKit.intOf]; omega
  by_cases htr : x.tries = 10
  · have hq7 : RqOwn w7.heap x.rq := S7.hc.2.1 x hxm
    (((apply vL_val); (case h => ((apply opv_fieldAddr); exact rfl))); ((apply vL_val); (case h => ((apply opv_loadb1); exact rfl; exact rfl; assumption; exact rfl))); ((apply vL_val); (case h => ((apply opv_fieldAddr); exact rfl))); ((apply vL_val); (case h => ((apply opv_loadb1); exact rfl; exact rfl; assumption; exact rfl))); (iterate 2 (((apply vL_val); (case h => ((apply opv_E); exact rfl))))); apply vL_nil; apply seqP_normal; (refine vC_condF rfl (by ((simp only [Bool.not_eq_true', Bool.not_eq_false', Bool.not_not, decide_eq_true_eq, decide_eq_false_iff_not]); omega)) ?_); apply vC_seq; apply vC_region; ((apply vL_val); (case h => ((apply opv_fieldAddr); exact rfl))); ((apply vL_val); (case h => ((apply opv_loadb1); exact rfl; exact rfl; assumption; exact rfl))); (iterate 2 (((apply vL_val); (case h => ((apply opv_E); exact rfl))))); apply vL_nil; apply seqP_normal; (refine vC_cond_dec rfl (fun _ => ?_) (fun h => by omega)); apply vC_seq; apply vC_region; ((apply vL_val); (case h => ((apply opv_fieldAddr); exact rfl))); ((apply vL_val); (case h => ((apply opv_loadb1); exact rfl; exact rfl; assumption; exact rfl))); ((apply vL_val); (case h => ((apply opv_E); exact rfl))))
    cases st with
    | true =>
      ((iterate 4 (((apply vL_unwanted'); exact rfl; exact rfl))); ((apply vL_val); (case h => ((apply opv_E); exact rfl))); ((apply vL_val); (case h => ((apply opv_fieldAddr); exact rfl))); ((apply vL_skip); (case h => ((apply ops_store1); exact norm_eq rfl; exact norm_eq rfl; (first | rfl | assumption); assumption; (first | decide | exact of_decide_eq_true rfl | (simp; done))))); apply vL_nil; apply seqP_normal; apply vC_seq; apply vC_region; ((apply vL_val); (case h => ((apply opv_move); ((conv => lhs; whnf) <;> exact rfl)))); (iterate 2 (((apply vL_val); (case h => ((apply opv_fieldAddr); exact rfl))))))
      refine vL_gen (fun w' => TG w L b1 b2 c1 (true || ownP c1 x.rq) lf dn sds u5 u6 u7 w' ∧ Blk w'.heap b9 (wtE x) 42) ⟨S7.stale (st' := true) ((Fr.refl (fun k => k = b1) w7).set _ _ (.inl rfl)) (Blk.as (Blk.set h17) rfl) hne12, h97.set_ne (by omega)⟩ ?_
      rintro w8 ⟨S8, h98⟩
      skip
      (((apply vL_val); (case h => ((apply opv_loadb1); exact rfl; exact rfl; assumption; exact rfl))); ((apply vL_val); (case h => ((apply opv_buildS); exact rfl; exact (rfl : _ = some [_, _, _, _, _, _, _, _, _, _, _, _, _, _, _, _, _, _])))); ((apply vL_val); (case h => ((apply opw_buildSl); exact rfl; exact rfl; exact rfl; exact (rfl : _ = some [_, _, _, _, _, _, _, _, _, _, _, _, _, _, _, _, _, _])))))
      refine vL_append (enc := dnE) (xs := dn) (ys := [x.rq.call]) (by (((conv => lhs; whnf) <;> exact rfl))) (by (exact norm_eq rfl)) (Own.alloc S8.o6) (Rd.new1 _ _ rfl) rfl (by decide) ?_ ?_ ?_
      · simp [maxLen]; omega
      · simp; omega
      intro dv w9 ho9 hf9 hfr9 honed _
      have S9 := (S8.frN ((Fr.refl No w8).alloc _)).done hf9 ho9 hfr9 honed
      (((apply vL_val); (case h => ((apply opv_assign); ((conv => lhs; whnf) <;> exact rfl)))); apply vL_nil; apply seqP_normal; apply vC_exit; ((apply blockP_pass); exact rfl); apply seqP_exit; apply blockP_exit; apply seqP_normal; apply vC_region; ((apply vL_val); (case h => ((apply opv_add); exact rfl; exact rfl; (first | omega | (simp only [List.length_map]; omega))))); ((apply vL_val); (case h => ((apply opv_E); exact rfl))); apply vL_nil; apply loopP_normal)
      (with_reducible apply end4); (case hs => ((iterate 10 (((refine same_updO ?_ ?_); rotate_left; exact rfl))); apply same_updN; (iterate 19 (((refine same_updO ?_ ?_); rotate_left; exact rfl))); apply same_updN; (iterate 4 (((refine same_updO ?_ ?_); rotate_left; exact rfl))); (iterate 4 (((refine same_upd ?_ ?_); rotate_left; exact rfl))); (exact same_mask _ _ _))); (case h1 => (((conv => lhs; whnf) <;> exact rfl))); (case h2 => (((conv => lhs; whnf) <;> exact rfl))); (case h3 => (((conv => lhs; whnf) <;> exact rfl))); (case h4 => (exact norm_eq rfl))
      · exact ⟨i + 1, _, lf, _, sds, rfl, by omega, TP0.gone hxi (by omega) htr, S9⟩
      · simp [RowKit.intOf]; omega
    | false =>
      (((apply vL_wanted); exact rfl); ((apply vL_val); (case h => ((apply opv_loadbC); exact rfl; exact rfl; assumption; exact (rfl : _ = [_, _, _, _, _, _, _, _, _, _]); exact rfl))); ((apply vL_wanted); exact rfl); ((apply vL_val); (case h => ((apply opv_fieldAddr); exact rfl))); ((apply vL_wanted); exact rfl); ((apply vL_val); (case h => ((apply opv_loadb); exact rfl; exact rfl; assumption; exact rfl))); ((apply vL_wanted); exact rfl))
      refine vL_callF rfl (own31 { c1 with now := c1.now + 1, stale := false } x.rq w7) rfl ?_
      rintro _ w7a ⟨rfl, hf7a⟩
      rw [ownB_of c1 (c1.now + 1) x.rq]
      have S7a := S7.frN hf7a
      have h97a := h97.frN hf7a
      have h17a := S7a.h1
      clear S7 h97 h17
      (((apply vL_val); (case h => ((apply opv_E); exact rfl))); ((apply vL_val); (case h => ((apply opv_fieldAddr); exact rfl))); ((apply vL_skip); (case h => ((apply ops_store1); exact norm_eq rfl; exact norm_eq rfl; (first | rfl | assumption); assumption; (first | decide | exact of_decide_eq_true rfl | (simp; done))))); apply vL_nil; apply seqP_normal; apply vC_seq; apply vC_region; ((apply vL_val); (case h => ((apply opv_move); ((conv => lhs; whnf) <;> exact rfl)))); (iterate 2 (((apply vL_val); (case h => ((apply opv_fieldAddr); exact rfl))))))
      refine vL_gen (fun w' => TG w L b1 b2 c1 (false || ownP c1 x.rq) lf dn sds u5 u6 u7 w' ∧ Blk w'.heap b9 (wtE x) 42) ⟨S7a.stale (st' := ownP c1 x.rq) ((Fr.refl (fun k => k = b1) w7a).set _ _ (.inl rfl)) (Blk.as (Blk.set h17a) rfl) hne12, h97a.set_ne (by omega)⟩ ?_
      rintro w8 ⟨S8, h98⟩
      skip
      (((apply vL_val); (case h => ((apply opv_loadb1); exact rfl; exact rfl; assumption; exact rfl))); ((apply vL_val); (case h => ((apply opv_buildS); exact rfl; exact (rfl : _ = some [_, _, _, _, _, _, _, _, _, _, _, _, _, _, _, _, _, _])))); ((apply vL_val); (case h => ((apply opw_buildSl); exact rfl; exact rfl; exact rfl; exact (rfl : _ = some [_, _, _, _, _, _, _, _, _, _, _, _, _, _, _, _, _, _])))))
      refine vL_append (enc := dnE) (xs := dn) (ys := [x.rq.call]) (by (((conv => lhs; whnf) <;> exact rfl))) (by (exact norm_eq rfl)) (Own.alloc S8.o6) (Rd.new1 _ _ rfl) rfl (by decide) ?_ ?_ ?_
      · simp [maxLen]; omega
      · simp; omega
      intro dv w9 ho9 hf9 hfr9 honed _
      have S9 := (S8.frN ((Fr.refl No w8).alloc _)).done hf9 ho9 hfr9 honed
      (((apply vL_val); (case h => ((apply opv_assign); ((conv => lhs; whnf) <;> exact rfl)))); apply vL_nil; apply seqP_normal; apply vC_exit; ((apply blockP_pass); exact rfl); apply seqP_exit; apply blockP_exit; apply seqP_normal; apply vC_region; ((apply vL_val); (case h => ((apply opv_add); exact rfl; exact rfl; (first | omega | (simp only [List.length_map]; omega))))); ((apply vL_val); (case h => ((apply opv_E); exact rfl))); apply vL_nil; apply loopP_normal)
      (with_reducible apply end4); (case hs => ((iterate 10 (((refine same_updO ?_ ?_); rotate_left; exact rfl))); apply same_updN; (iterate 19 (((refine same_updO ?_ ?_); rotate_left; exact rfl))); apply same_updN; (iterate 4 (((refine same_updO ?_ ?_); rotate_left; exact rfl))); (iterate 4 (((refine same_upd ?_ ?_); rotate_left; exact rfl))); (exact same_mask _ _ _))); (case h1 => (((conv => lhs; whnf) <;> exact rfl))); (case h2 => (((conv => lhs; whnf) <;> exact rfl))); (case h3 => (((conv => lhs; whnf) <;> exact rfl))); (case h4 => (exact norm_eq rfl))
      · exact ⟨i + 1, _, lf, _, sds, rfl, by omega, TP0.gone hxi (by omega) htr, S9⟩
      · simp [RowKit.intOf]; omega
  have hq7 : RqOwn w7.heap x.rq := S7.hc.2.1 x hxm
  (((apply vL_val); (case h => ((apply opv_fieldAddr); exact rfl))); ((apply vL_val); (case h => ((apply opv_loadb1); exact rfl; exact rfl; assumption; exact rfl))); ((apply vL_val); (case h => ((apply opv_fieldAddr); exact rfl))); ((apply vL_val); (case h => ((apply opv_loadb1); exact rfl; exact rfl; assumption; exact rfl))); (iterate 2 (((apply vL_val); (case h => ((apply opv_E); exact rfl))))); apply vL_nil; apply seqP_normal; (refine vC_condF rfl (by ((simp only [Bool.not_eq_true', Bool.not_eq_false', Bool.not_not, decide_eq_true_eq, decide_eq_false_iff_not]); omega)) ?_); apply vC_seq; apply vC_region; ((apply vL_val); (case h => ((apply opv_fieldAddr); exact rfl))); ((apply vL_val); (case h => ((apply opv_loadb1); exact rfl; exact rfl; assumption; exact rfl))); (iterate 2 (((apply vL_val); (case h => ((apply opv_E); exact rfl))))); apply vL_nil; apply seqP_normal; (refine vC_cond_dec rfl (fun h => by omega) (fun _ => ?_)); apply vC_seq; apply vC_region; ((apply vL_val); (case h => ((apply opv_fieldAddr); exact rfl))); ((apply vL_val); (case h => ((apply opv_loadb1); exact rfl; exact rfl; assumption; exact rfl))); ((apply vL_val); (case h => ((apply opv_add); exact rfl; exact rfl; (first | omega | (simp only [List.length_map]; omega))))); ((apply vL_val); (case h => ((apply opv_fieldAddr); exact rfl))); ((apply vL_skip); (case h => ((apply ops_store1); exact norm_eq rfl; exact norm_eq rfl; (first | rfl | assumption); assumption; (first | decide | exact of_decide_eq_true rfl | (simp; done))))); apply vL_nil; apply seqP_normal; apply vC_seq; apply vC_region; ((apply vL_val); (case h => ((apply opv_fieldAddr); exact rfl))); ((apply vL_val); (case h => ((apply opv_loadb1); exact rfl; exact rfl; infer_instance; exact rfl))); ((apply vL_val); (case h => ((apply opv_add); exact rfl; exact rfl; (first | omega | (simp only [List.length_map]; omega))))); ((apply vL_val); (case h => ((apply opv_fieldAddr); exact rfl))); ((apply vL_skip); (case h => ((apply ops_store1); exact norm_eq rfl; exact norm_eq rfl; (first | rfl | assumption); infer_instance; (first | decide | exact of_decide_eq_true rfl | (simp; done))))); apply vL_nil; apply seqP_normal; apply vC_region; ((apply vL_val); (case h => ((apply opv_move); ((conv => lhs; whnf) <;> exact rfl)))); ((apply vL_val); (case h => ((apply opv_loadbC); exact rfl; exact rfl; infer_instance; exact (rfl : _ = [_, _, _, _, _, _, _, _, _, _]); exact rfl))))
  refine vL_gen (fun w' => Fr (fun k => k = b9) w7 w' ∧ Blk w'.heap b9 (wtE ⟨x.rq, c1.now + 1 + 8, x.tries + 1, x.broker⟩) 42) ⟨((Fr.refl (fun k => k = b9) w7).set _ _ (.inl rfl)).set _ _ (.inl rfl), Blk.as (Blk.set (Blk.set h97)) rfl⟩ ?_
  rintro w8 ⟨hf8, h98⟩
  have S8 := S7.blk h97 hb9L h5ne hf8
  have hq8 : RqOwn w8.heap x.rq := S8.hc.2.1 x hxm
  have h18 := S8.h1
  clear S7 h97 hq7 hf8 h17
  refine vL_callF rfl (send31 { c1 with now := c1.now + 1, stale := st } ⟨x.rq, c1.now + 1 + 8, x.tries + 1, x.broker⟩ b9 w8 h98 hq8.rd (hsz1 x hxm).1 (by simp only; omega) (by simp only; omega)) rfl ?_
  rintro _ w10 ⟨r3, rfl, hnr3, hr10, hf10, h9x⟩
  have S10 := S8.blk h98 hb9L h5ne hf10
  have hrb3 := r3.brv.2
  have hrt3 := r3.trv.2
  clear S8 h98 hq8 hf10 h18
  (((apply vL_val); (case h => ((apply opw_buildSl); exact rfl; exact rfl; exact rfl; exact (rfl : _ = some [_, _, _, _, _, _, _, _, _, _, _, _, _, _, _, _, _, _, _, _, _, _, _, _])))))
  refine vL_append (enc := sdE) (xs := sds) (ys := [(⟨x.broker, r3⟩ : SD)]) (by (((conv => lhs; whnf) <;> exact rfl))) (by (exact norm_eq rfl)) (Own.alloc S10.o7) (Rd.new1 _ _ rfl) rfl (by decide) ?_ ?_ ?_
  · simp [maxLen]; omega
  · simp; omega
  intro lv w12 ho12 hf12 hfr12 honel _
  have S12 := (S10.frN ((Fr.refl No w10).alloc _)).sent hf12 ho12 hfr12 honel
  have h912 := (h9x.frN ((Fr.refl No w10).alloc _)).fr hf12 (fun e => Own.ne_blk S10.o7 h9x (by decide) e)
  clear S10 hf12 hfr12 h9x
  (((apply vL_val); (case h => ((apply opv_assign); ((conv => lhs; whnf) <;> exact rfl)))); apply vL_nil; apply blockP_normal; apply seqP_normal; apply vC_region; ((apply vL_val); (case h => ((apply opv_move); ((conv => lhs; whnf) <;> exact rfl)))); ((apply vL_val); (case h => ((apply opv_loadb); exact rfl; exact rfl; assumption; exact rfl))); ((apply vL_val); (case h => ((apply opw_buildSl); exact rfl; exact rfl; exact rfl; exact (rfl : _ = some [_, _, _, _, _, _, _, _, _, _, _, _, _, _, _, _, _, _, _, _, _, _, _, _, _, _])))))
  refine vL_append (enc := wtE) (xs := lf) (ys := [(nextW (c1.now + 1) c1.brokers x)]) (by (((conv => lhs; whnf) <;> exact rfl))) (by (exact norm_eq rfl)) (Own.alloc S12.o5) (Rd.new1 _ _ rfl) rfl (by decide) ?_ ?_ ?_
  · simp [maxLen]; omega
  · simp; omega
  intro av w13 ho13 hf13 hfr13 honea _
  have S13 := (S12.frN ((Fr.refl No w12).alloc _)).left hf13 ho13 hfr13 honea
  (((apply vL_val); (case h => ((apply opv_assign); ((conv => lhs; whnf) <;> exact rfl)))); apply vL_nil; apply blockP_normal; apply seqP_normal; apply vC_region; ((apply vL_val); (case h => ((apply opv_add); exact rfl; exact rfl; (first | omega | (simp only [List.length_map]; omega))))); ((apply vL_val); (case h => ((apply opv_E); exact rfl))); apply vL_nil; apply loopP_normal)
  (with_reducible apply end4); (case hs => ((iterate 13 (((refine same_updO ?_ ?_); rotate_left; exact rfl))); apply same_updN; (iterate 4 (((refine same_updO ?_ ?_); rotate_left; exact rfl))); apply same_updN; (iterate 14 (((refine same_updO ?_ ?_); rotate_left; exact rfl))); apply same_updN; (iterate 4 (((refine same_updO ?_ ?_); rotate_left; exact rfl))); (iterate 4 (((refine same_upd ?_ ?_); rotate_left; exact rfl))); (exact same_mask _ _ _))); (case h1 => (((conv => lhs; whnf) <;> exact rfl))); (case h2 => (((conv => lhs; whnf) <;> exact rfl))); (case h3 => (((conv => lhs; whnf) <;> exact rfl))); (case h4 => (exact norm_eq rfl))
  · exact ⟨i + 1, st, _, dn, _, rfl, by omega, TP0.sent hxi (by omega) htr ⟨rfl, by have := congrArg RQ.call hnr3; exact this⟩, S13⟩
  · simp [RowKit.intOf]; omega
end Go.Proofs.Ytchfaeaagpemlaa

set_option maxRecDepth 100000
namespace Go.Proofs.Ytchfaeaagpemlaa
open Go Go.Eng
def foldM (f : WT → Int) (T : List (Int × Int)) (l : List WT) : List (Int × Int) := l.foldl (fun T x => mset T x.rq.call (f x)) T
theorem mset_len {T : List (Int × Int)} {k v : Int} : (mset T k v).length = if (mget T k).isSome then T.length else T.length + 1 := by
  have h := congrArg List.length (mset_keys T k v)
  rw [List.length_map] at h
  rw [h]
  by_cases hk : k ∈ T.map (·.1)
  · rw [if_pos hk, List.length_map]
    cases hm : mget T k with
    | none => exact absurd hk (mget_none.1 hm)
    | some _ => rfl
  · rw [if_neg hk, List.length_append, List.length_map, mget_none.2 hk]
    rfl
section
variable (f : WT → Int)
theorem foldM_none {k : Int} : ∀ {l : List WT} {T : List (Int × Int)}, (∀ x ∈ l, x.rq.call ≠ k) → mget (foldM f T l) k = mget T k
  | [], _, _ => rfl
  | x :: l, T, h => by
    show mget (foldM f (mset T x.rq.call (f x)) l) k = _
    rw [foldM_none (fun y hy => h y (List.mem_cons_of_mem _ hy)), mget_mset, if_neg (fun e => h x List.mem_cons_self e.symm)]
theorem foldM_some {x : WT} : ∀ {l : List WT} {T : List (Int × Int)}, x ∈ l → l.Pairwise (fun y z => y.rq.call < z.rq.call) → mget (foldM f T l) x.rq.call = some (f x)
  | [], _, h, _ => by cases h
  | y :: l, T, h, hp => by
    show mget (foldM f (mset T y.rq.call (f y)) l) x.rq.call = _
    rw [List.pairwise_cons] at hp
    rcases List.mem_cons.1 h with rfl | h
    · rw [foldM_none f (fun z hz e => by have := hp.1 z hz; omega), mget_mset, if_pos rfl]
    · exact foldM_some h hp.2
theorem foldM_len : ∀ {l : List WT} {T : List (Int × Int)}, (∀ x ∈ l, (mget T x.rq.call).isSome = true) → (foldM f T l).length = T.length
  | [], _, _ => rfl
  | x :: l, T, h => by
    show (foldM f (mset T x.rq.call (f x)) l).length = _
    rw [foldM_len (fun y hy => ?_), mset_len, if_pos (h x List.mem_cons_self)]
    rw [mget_mset]
    split
    · rfl
    · exact h y (List.mem_cons_of_mem _ hy)
theorem foldM_new : ∀ {l : List WT} {T : List (Int × Int)}, (∀ x ∈ l, mget T x.rq.call = none) → l.Pairwise (fun y z => y.rq.call < z.rq.call) → (foldM f T l).length = T.length + l.length
  | [], _, _, _ => rfl
  | x :: l, T, h, hp => by
    show (foldM f (mset T x.rq.call (f x)) l).length = _
    rw [List.pairwise_cons] at hp
    rw [foldM_new (fun y hy => ?_) hp.2, mset_len, h x List.mem_cons_self, List.length_cons]
    · simp only [Option.isSome_none, Bool.false_eq_true, if_false]; omega
    · rw [mget_mset, if_neg (fun e => by have := hp.1 y hy; omega)]
      exact h y (List.mem_cons_of_mem _ hy)
theorem foldM_next {l : List WT} {k : Nat} {x : WT} (T : List (Int × Int)) (hx : l[k]? = some x) : foldM f T (l.take (k + 1)) = mset (foldM f T (l.take k)) x.rq.call (f x) := by
  unfold foldM
  rw [take_next hx, List.foldl_append]
  rfl
end
structure GI (c0 : CL) (i : Nat) (c : CL) (T L : List (Int × Int)) (gone : Nat) (own : Bool) : Prop where
  rg : RG c
  nw : c.now = c0.now + i
  tr : ∀ x ∈ c.ws, mget T x.rq.call = some x.tries
  la : ∀ x ∈ c.ws, ∀ to, mget L x.rq.call = some to → (1 ≤ to ∧ to ≤ 7) ∧ x.broker = to % c.brokers + 1
  cn : gone + c.ws.length = T.length
  tl : T.length ≤ 8
  p1 : ∀ x ∈ c.ws, x.due - c.now + 8 * (10 - x.tries) + i ≤ 80
  p2 : ∀ x ∈ c.ws, 1 + 8 * (10 - x.tries) + i ≤ 80
  pe : c.pid = c0.pid ∧ c.ep = c0.ep
  ow : own = true → c.stale = true ∨ ∃ x ∈ c.ws, ownP c0 x.rq = true
section
variable {c0 c d : CL} {i gone : Nat} {T L : List (Int × Int)} {own : Bool}
theorem GI.nf (h : d.nf = c.nf) (G : GI c0 i c T L gone own) : GI c0 i d T L gone own := by
  have e1 : d.now = c.now := by have := congrArg CL.now h; exact this
  have e2 : d.brokers = c.brokers := by have := congrArg CL.brokers h; exact this
  have e3 : d.pid = c.pid := by have := congrArg CL.pid h; exact this
  have e4 : d.ep = c.ep := by have := congrArg CL.ep h; exact this
  have e5 : d.stale = c.stale := by have := congrArg CL.stale h; exact this
  have e6 : d.ws.map WT.nf = c.ws.map WT.nf := by have := congrArg CL.ws h; exact this
  have e7 : d.ws.length = c.ws.length := by have := congrArg List.length e6; simpa using this
  have key : ∀ x ∈ d.ws, ∃ y ∈ c.ws, y.nf = x.nf := fun x hx => by
    have h1 : x.nf ∈ d.ws.map WT.nf := List.mem_map.2 ⟨x, hx, rfl⟩
    rw [e6] at h1
    obtain ⟨y, hy, e⟩ := List.mem_map.1 h1
    exact ⟨y, hy, e⟩
  have key2 : ∀ x ∈ c.ws, ∃ y ∈ d.ws, y.nf = x.nf := fun x hx => by
    have h1 : x.nf ∈ c.ws.map WT.nf := List.mem_map.2 ⟨x, hx, rfl⟩
    rw [← e6] at h1
    obtain ⟨y, hy, e⟩ := List.mem_map.1 h1
    exact ⟨y, hy, e⟩
  refine ⟨G.rg.nf h, by rw [e1]; exact G.nw, fun x hx => ?_, fun x hx => ?_, by rw [e7]; exact G.cn, G.tl, fun x hx => ?_, fun x hx => ?_, by rw [e3, e4]; exact G.pe, fun ho => ?_⟩
  · obtain ⟨y, hy, e⟩ := key x hx
    have f1 : y.rq.call = x.rq.call := by have := congrArg (fun z : WT => z.rq.call) e; exact this
    have f2 : y.tries = x.tries := by have := congrArg WT.tries e; exact this
    rw [← f1, ← f2]; exact G.tr y hy
  · obtain ⟨y, hy, e⟩ := key x hx
    have f1 : y.rq.call = x.rq.call := by have := congrArg (fun z : WT => z.rq.call) e; exact this
    have f2 : y.broker = x.broker := by have := congrArg WT.broker e; exact this
    rw [← f1, ← f2, e2]; exact G.la y hy
  · obtain ⟨y, hy, e⟩ := key x hx
    have f1 : y.due = x.due := by have := congrArg WT.due e; exact this
    have f2 : y.tries = x.tries := by have := congrArg WT.tries e; exact this
    rw [← f1, ← f2, e1]; exact G.p1 y hy
  · obtain ⟨y, hy, e⟩ := key x hx
    have f2 : y.tries = x.tries := by have := congrArg WT.tries e; exact this
    rw [← f2]; exact G.p2 y hy
  · rcases G.ow ho with h1 | ⟨x, hx, h1⟩
    · exact .inl (by rw [e5]; exact h1)
    · obtain ⟨y, hy, e⟩ := key2 x hx
      refine .inr ⟨y, hy, ?_⟩
      have f : ownP c0 y.rq = ownP c0 x.rq := by have := congrArg (fun z : WT => ownP c0 z.rq) e; exact this
      rw [f]; exact h1
theorem GI.calls (G : GI c0 i c T L gone own) : c.ws.Pairwise (fun y z => y.rq.call < z.rq.call) :=
  (wsG_iff.1 G.rg.2.2.2).2.1.imp (fun h => h.1)
theorem GI.sends (G : GI c0 i c T L gone own) : (c.ws.filter (sendQ (c.now + 1))).Pairwise (fun y z => y.rq.call < z.rq.call) := G.calls.sublist List.filter_sublist
theorem calls_inj {l : List WT} (hp : l.Pairwise (fun y z => y.rq.call < z.rq.call)) : ∀ {x y : WT}, x ∈ l → y ∈ l → x.rq.call = y.rq.call → x = y := by
  induction l with
  | nil => intro x y hx; cases hx
  | cons z l ih =>
    intro x y hx hy e
    rw [List.pairwise_cons] at hp
    rcases List.mem_cons.1 hx with rfl | hx' <;> rcases List.mem_cons.1 hy with rfl | hy'
    · rfl
    · have := hp.1 y hy'; omega
    · have := hp.1 x hx'; omega
    · exact ih hp.2 hx' hy' e
theorem GI.notSent (G : GI c0 i c T L gone own) {x : WT} (hx : x ∈ c.ws) (h : sendQ (c.now + 1) x = false) : ∀ y ∈ c.ws.filter (sendQ (c.now + 1)), y.rq.call ≠ x.rq.call := fun y hy e => by
  obtain ⟨hy1, hy2⟩ := List.mem_filter.1 hy
  have := calls_inj G.calls hy1 hx e
  subst this
  rw [h] at hy2; cases hy2
theorem GI.tick (G : GI c0 i c T L gone own) (hn : c.now < 1099511627776) (h : d.nf = (tickC c).nf) : GI c0 (i + 1) d (foldM (fun x => x.tries + 1) T (c.ws.filter (sendQ (c.now + 1)))) (foldM (fun x => x.broker) L (c.ws.filter (sendQ (c.now + 1)))) (gone + (c.ws.filter (doneQ (c.now + 1))).length) own := by
  refine GI.nf h ?_
  have hpr : ∀ y ∈ (tickC c).ws, ∃ x ∈ c.ws, (c.now + 1 < x.due ∧ y = x ∧ sendQ (c.now + 1) x = false) ∨ (x.due ≤ c.now + 1 ∧ x.tries ≠ 10 ∧ y = nextW (c.now + 1) c.brokers x ∧ x ∈ c.ws.filter (sendQ (c.now + 1))) := fun y hy => by
    obtain ⟨x, hx, e⟩ := List.mem_filterMap.1 hy
    refine ⟨x, hx, ?_⟩
    unfold stepW at e
    split at e
    · rename_i h1
      cases e
      exact .inl ⟨h1, rfl, decide_eq_false (by omega)⟩
    · rename_i h1
      split at e
      · cases e
      · rename_i h2
        cases e
        exact .inr ⟨by omega, h2, rfl, List.mem_filter.2 ⟨hx, decide_eq_true ⟨by omega, h2⟩⟩⟩
  have hok := (wsG_iff.1 G.rg.2.2.2).1
  refine ⟨tick_right G.rg hn, ?_, fun y hy => ?_, fun y hy => ?_, ?_, by rw [foldM_len _ (fun x hx => by rw [G.tr x (List.mem_filter.1 hx).1]; rfl)]; exact G.tl, fun y hy => ?_, fun y hy => ?_, G.pe, fun ho => ?_⟩
  · show c.now + 1 = _
    rw [G.nw]; omega
  · obtain ⟨x, hx, ⟨h1, rfl, h2⟩ | ⟨h1, h2, rfl, h3⟩⟩ := hpr y hy
    · rw [foldM_none _ (G.notSent hx h2)]; exact G.tr y hx
    · exact foldM_some (fun x => x.tries + 1) h3 G.sends
  · intro to hto
    obtain ⟨x, hx, ⟨h1, rfl, h2⟩ | ⟨h1, h2, rfl, h3⟩⟩ := hpr y hy
    · rw [foldM_none _ (G.notSent hx h2)] at hto
      exact G.la y hx to hto
    · have e := foldM_some (fun x => x.broker) (T := L) h3 G.sends
      have hto' : mget (foldM (fun x => x.broker) L (c.ws.filter (sendQ (c.now + 1)))) x.rq.call = some to := hto
      rw [e] at hto'
      cases hto'
      have hb := (hok x hx).2.1
      have hr := G.rg.1.1.2
      exact ⟨by omega, rfl⟩
  · rw [foldM_len _ (fun x hx => by rw [G.tr x (List.mem_filter.1 hx).1]; rfl)]
    have h1 := step_len (c.now + 1) c.brokers c.ws
    have h2 := G.cn
    show gone + _ + (c.ws.filterMap (stepW (c.now + 1) c.brokers)).length = _
    omega
  · obtain ⟨x, hx, ⟨h1, rfl, h2⟩ | ⟨h1, h2, rfl, h3⟩⟩ := hpr y hy
    · have := G.p1 y hx
      show y.due - (c.now + 1) + 8 * (10 - y.tries) + ((i + 1 : Nat) : Int) ≤ 80
      omega
    · have := G.p2 x hx
      have := (hok x hx).2.1
      show c.now + 1 + 8 - (c.now + 1) + 8 * (10 - (x.tries + 1)) + ((i + 1 : Nat) : Int) ≤ 80
      omega
  · obtain ⟨x, hx, ⟨h1, rfl, h2⟩ | ⟨h1, h2, rfl, h3⟩⟩ := hpr y hy
    · have := G.p1 y hx
      show 1 + 8 * (10 - y.tries) + ((i + 1 : Nat) : Int) ≤ 80
      omega
    · have := G.p2 x hx
      show 1 + 8 * (10 - (x.tries + 1)) + ((i + 1 : Nat) : Int) ≤ 80
      omega
  · show staleC c c.ws = true ∨ _
    have hop : ∀ r, ownP c r = ownP c0 r := fun r => by unfold ownP; rw [G.pe.1, G.pe.2]
    unfold staleC
    rcases G.ow ho with h1 | ⟨x, hx, h1⟩
    · exact .inl (by rw [h1]; rfl)
    · cases hdq : doneQ (c.now + 1) x with
      | true =>
        left
        rw [Bool.or_eq_true]
        right
        exact List.any_eq_true.2 ⟨x, hx, by rw [hdq, hop, h1]; rfl⟩
      | false =>
        right
        have hdq' := of_decide_eq_false hdq
        by_cases h2 : c.now + 1 < x.due
        · exact ⟨x, List.mem_filterMap.2 ⟨x, hx, by unfold stepW; rw [if_pos h2]⟩, h1⟩
        · exact ⟨nextW (c.now + 1) c.brokers x, List.mem_filterMap.2 ⟨x, hx, by unfold stepW; rw [if_neg h2, if_neg (fun h => hdq' ⟨by omega, h⟩)]⟩, h1⟩
theorem GI.over (G : GI c0 i c T L gone own) (hi : 80 ≤ i) : c.ws = [] := by
  refine List.eq_nil_iff_forall_not_mem.2 (fun x hx => ?_)
  have h1 := G.p2 x hx
  have h2 := ((wsG_iff.1 G.rg.2.2.2).1 x hx).2.1
  omega
theorem GI.begin (R : RG c0) (hd : ∀ x ∈ c0.ws, x.due ≤ c0.now + 8) : GI c0 0 c0 (foldM (fun x => x.tries) [] c0.ws) [] 0 (c0.ws.any (fun x => ownP c0 x.rq)) := by
  have hp : c0.ws.Pairwise (fun y z => y.rq.call < z.rq.call) := (wsG_iff.1 R.2.2.2).2.1.imp (fun h => h.1)
  have hok := (wsG_iff.1 R.2.2.2).1
  refine ⟨R, by omega, fun x hx => foldM_some _ hx hp, fun x hx to h => (by cases h), ?_, by rw [foldM_new _ (fun x _ => rfl) hp]; simpa using R.2.2.2.2, fun x hx => ?_, fun x hx => ?_, ⟨rfl, rfl⟩, fun h => ?_⟩
  · rw [foldM_new _ (fun x _ => rfl) hp, List.length_nil]
  · have := hd x hx; have := (hok x hx).2.1; omega
  · have := (hok x hx).2.1; omega
  · obtain ⟨x, hx, h⟩ := List.any_eq_true.1 h
    exact .inr ⟨x, hx, h⟩
end
end Go.Proofs.Ytchfaeaagpemlaa

set_option maxRecDepth 100000
namespace Go.Proofs.Ytchfaeaagpemlaa
open Go Go.Eng
theorem takeA31 (c : CL) (x : WT) (a : RP) (w : World) (R : R1 c) (hw : c.ws = [x]) (hm : matchB a x = true) (he : a.err = 220) (hld : 1 ≤ a.leader ∧ a.leader ≤ c.brokers) (hc : ClRd w.heap c) (hs : RqSz x.rq) :
    Rets Try.prog 8 #[.agg (clE c).toArray, .agg (rpE a).toArray] w fun u w' => ∃ c' x', u = .tuple #[.agg (clE c').toArray, .slice none 0 0, .slice none 0 0] ∧ ClOwn w'.heap c' ∧ Fr No w w' ∧ c'.nf = ({ c with broker := a.leader, ws := [{ x with due := c.now + 1, broker := a.leader }] } : CL).nf ∧ c'.ws = [x'] := by
  have hw0 := c.wv.2
  have hs0 := c.sv.2
  have ha0 := a.rrv.2
  have ha1 := a.mpl.2
  refine rets_of Try.func8 rfl Try.ntmps8 rfl rfl (by kernel_rfl) ?_
  ((apply vC_seq; apply vC_region)); (((iterate 2 (((apply vL_val); (case h => ((apply opw_boxn); exact rfl))))); ((apply vL_val); (case h => (apply opw_alloc))); (iterate 2 (((apply vL_val); (case h => ((apply opv_E); exact rfl))))); apply vL_nil)); with_reducible apply seqP_normal
  ((apply vC_seq; apply vC_region))
  have e3 : (w.alloc (.cells (clE c).toArray 25)).heap.size = w.heap.size + 1 := by simp
  have e4 : ((w.alloc (.cells (clE c).toArray 25)).alloc (.cells (rpE a).toArray 56)).heap.size = w.heap.size + 2 := by simp
  refine vL_gen (fun w' => Fr No w w' ∧ Blk w'.heap w.heap.size (clE c) 25 ∧ Blk w'.heap (w.alloc (.cells (clE c).toArray 25)).heap.size (rpE a) 56 ∧ Blk w'.heap ((w.alloc (.cells (clE c).toArray 25)).alloc (.cells (rpE a).toArray 56)).heap.size clZ 25) ⟨by ((iterate 3 (apply Fr.alloc)); exact Fr.refl _ _), inferInstance, inferInstance, inferInstance⟩ ?_
  rintro w1 ⟨hf1, h2, h3, h4⟩
  rw [e3] at h3
  rw [e4] at h4
  rw [e3, e4]
  obtain ⟨b2, eb2⟩ : ∃ b2, b2 = w.heap.size := ⟨_, rfl⟩
  obtain ⟨b3, eb3⟩ : ∃ b3, b3 = w.heap.size + 1 := ⟨_, rfl⟩
  obtain ⟨b4, eb4⟩ : ∃ b4, b4 = w.heap.size + 2 := ⟨_, rfl⟩
  rw [← eb4] at h4 ⊢
  rw [← eb3] at h3 ⊢
  rw [← eb2] at h2 ⊢
  have hsz1 := hf1.size
  have hl4 := h4.lt
  (((apply vL_val); (case h => ((apply opv_fieldAddr); exact rfl))); ((apply vL_val); (case h => ((apply opv_loadb1); exact rfl; exact rfl; assumption; exact rfl))); ((apply vL_val); (case h => ((apply opv_makeFunc); exact rfl))))
  refine vL_callF rfl (indexFunc_wt _ _ (matchB a) c.ws _ 20 [.pointer (some ⟨b3, 0, none⟩)] (hc.1.frN hf1) rfl (fun y w1 hy hf => takec31 y a b3 w1 (h3.frN hf))) rfl ?_
  rintro u5 w2 ⟨hf2, hres⟩
  have h22 := h2.frN hf2
  have h32 := h3.frN hf2
  have h42 := h4.frN hf2
  have hf12 := hf1.trans hf2
  rcases hres with ⟨rfl, hno⟩ | ⟨k, rfl, hk, ⟨y, hy, hp⟩, _⟩
  · have := hno x (by rw [hw]; exact List.mem_singleton_self _)
    rw [hm] at this; cases this
  have hk0 : k = 0 := by rw [hw] at hk; have : k < 1 := hk; omega
  subst hk0
  clear hy hp y
  (((apply vL_val); (case h => ((apply opv_E); exact rfl))); apply vL_nil; apply seqP_normal; apply vC_seq; apply vC_region; ((apply vL_val); (case h => ((apply opv_loadbC); exact rfl; exact rfl; assumption; exact (rfl : _ = [_, _, _, _, _, _, _, _, _, _]); exact rfl))))
  refine vL_callF rfl (clone31 c w2 (hc.frN hf12) ⟨by rw [hw]; exact (show 1 ≤ 1000 by decide), by have := R.s1; omega, fun y hy => by rw [hw] at hy; rw [List.mem_singleton.1 hy]; exact hs⟩) rfl ?_
  rintro _ w3 ⟨c1, rfl, hnf, hc3, hfw3, hfs3, hf3⟩
  have hw1 := c1.wv.2
  have hs1 := c1.sv.2
  have h23 := h22.frN hf3
  have h33 := h32.frN hf3
  have h43 := h42.frN hf3
  have hf13 := hf12.trans hf3
  have hsz2 := hf12.size
  ((((apply vL_skip); (case h => ((apply ops_storen); exact norm_eq rfl; exact norm_eq rfl; exact rfl; exact (fun u hu => EncOk.one _ u hu); assumption; (first | decide | exact of_decide_eq_true rfl | (simp; done))))); apply vL_nil)); with_reducible apply seqP_normal
  (((iterate 2 (apply vC_seq)); apply vC_region))
  refine vL_gen (fun w' => Fr No w w' ∧ Blk w'.heap b2 (clE c1) 25 ∧ Blk w'.heap b3 (rpE a) 56 ∧ Blk w'.heap b4 clZ 25 ∧ ClOwn w'.heap c1) ⟨hf13.set _ _ (.inr (by omega)), Blk.as (Blk.set h23) rfl, h33.set_ne (by omega), h43.set_ne (by omega), hc3.frBlk h23 ⟨by decide, by decide, by decide⟩ ⟨by decide, by decide⟩ ((Fr.refl (fun k => k = b2) w3).set _ _ (.inl rfl))⟩ ?_
  rintro w4 ⟨hf4, h24, h34, h44, hc4⟩
  have hfwz : ∀ b, own c1.wv.1 = some b → w.heap.size + 3 ≤ b := fun b hb => by have := hfw3 b hb; have := hf2.size; omega
  have hfsz : ∀ b, own c1.sv.1 = some b → w.heap.size + 3 ≤ b := fun b hb => by have := hfs3 b hb; have := hf2.size; omega
  clear h22 h32 h42 h23 h33 h43 hc3 hfw3 hfs3 hf3 hf13 hf12 h2 h3 h4
  have R' := R1.nf hnf R
  have hnw : c1.now = c.now := by have := congrArg CL.now hnf; exact this
  have hbk : c1.brokers = c.brokers := by have := congrArg CL.brokers hnf; exact this
  obtain ⟨x1, hx1, hx1n⟩ : ∃ x1, c1.ws = [x1] ∧ x1.nf = x.nf := by
    have h1 : c1.ws.map WT.nf = c.ws.map WT.nf := by have := congrArg CL.ws hnf; exact this
    rw [hw] at h1
    obtain ⟨y, hy, e⟩ := List.map_eq_singleton_iff.1 h1
    exact ⟨y, hy, e⟩
  have hn0 := R.now
  ((iterate 3 (((apply vL_val); (case h => ((apply opv_E); exact rfl))))); ((apply vL_wanted); exact rfl); ((apply vL_val); (case h => ((apply opv_loadbC); exact rfl; exact rfl; assumption; exact (rfl : _ = [_, _, _, _, _, _, _, _, _, _]); exact rfl))); ((apply vL_wanted); exact rfl))
  refine vL_callF rfl (right31 c1 w4 hc4.rd R') rfl ?_
  rintro _ w5 ⟨rfl, hf5⟩
  have h25 := h24.frN hf5
  have h35 := h34.frN hf5
  have h45 := h44.frN hf5
  have hc5 := hc4.frN hf5
  have hfw5 := hf4.trans hf5
  have hcw5 := hc5.1
  rw [hx1] at hcw5
  have hxi : ([x1] : List WT)[((0 : Nat) : Int).toNat]? = some x1 := rfl
  have hxl : (((0 : Nat) : Int)) < (([x1] : List WT).length : Int) := Int.zero_lt_one
  clear h24 h34 h44 hc4 hf4 hf5
  haveI n23 : NeB b2 b3 := ⟨by omega⟩
  haveI n24 : NeB b2 b4 := ⟨by omega⟩
  haveI n34 : NeB b3 b4 := ⟨by omega⟩
  haveI n42 : NeB b4 b2 := ⟨by omega⟩
  haveI n32 : NeB b3 b2 := ⟨by omega⟩
  haveI n43 : NeB b4 b3 := ⟨by omega⟩
  haveI hoff : OffB c1.wv.1 b2 := ⟨Own.ne_blk hcw5 h25 (by decide)⟩
  (((apply vL_wanted); exact rfl); ((apply vL_val); (case h => ((apply opv_not); exact rfl))); ((apply vL_val); (case h => ((apply opv_E); exact rfl))); apply vL_nil; apply seqP_normal; ((apply vC_cond_false); exact rfl); apply vC_skip; apply seqP_normal; apply vC_seq; apply vC_region; ((apply vL_val); (case h => ((apply opv_fieldAddr); exact rfl))); ((apply vL_val); (case h => ((apply opv_loadb1); exact rfl; exact rfl; assumption; exact rfl))); (iterate 2 (((apply vL_val); (case h => ((apply opv_E); exact rfl))))); (refine vL_and rfl rfl (fun _ => ?_) (fun h => by omega)); ((apply vL_val); (case h => ((apply opv_fieldAddr); exact rfl))); ((apply vL_wanted); exact rfl); ((apply vL_val); (case h => ((apply opv_loadb1); exact rfl; exact rfl; assumption; exact rfl))); ((apply vL_wanted); exact rfl); ((apply vL_val); (case h => ((apply opv_fieldAddr); exact rfl))); ((apply vL_wanted); exact rfl); ((apply vL_val); (case h => ((apply opv_loadb1); exact rfl; exact rfl; assumption; exact rfl))); ((apply vL_wanted); exact rfl); (iterate 3 (((apply vL_val); (case h => ((apply opv_E); exact rfl))))); apply vL_nil; apply seqP_normal; (iterate 2 (apply vC_seq)); apply vC_region; ((apply vL_val); (case h => ((apply opv_E); exact rfl))); apply vL_nil; apply seqP_normal; (refine vC_cond_dec rfl (fun _ => ?_) (fun h => by omega)); apply vC_region; ((apply vL_val); (case h => ((apply opv_fieldAddr); exact rfl))); ((apply vL_val); (case h => ((apply opv_loadb1); exact rfl; exact rfl; assumption; exact rfl))); ((apply vL_val); (case h => ((apply opv_fieldAddr); exact rfl))); ((apply vL_skip); (case h => ((apply ops_store1); exact norm_eq rfl; exact norm_eq rfl; (first | rfl | assumption); assumption; (first | decide | exact of_decide_eq_true rfl | (simp; done))))); apply vL_nil; apply seqP_normal; (iterate 2 (apply vC_seq)); apply vC_region; ((apply vL_val); (case h => ((apply opv_fieldAddr); exact rfl))); ((apply vL_val); (case h => ((apply opv_loadb1); exact rfl; exact rfl; infer_instance; exact rfl))); ((apply vL_val); (case h => ((apply opv_E); exact rfl))); apply vL_nil; apply seqP_normal; (refine vC_cond_dec rfl (fun _ => ?_) (fun h => by omega)); apply vC_seq; apply vC_region; ((apply vL_val); (case h => ((apply opv_fieldAddr); exact rfl))); ((apply vL_val); (case h => ((apply opv_loadb1); exact rfl; exact rfl; infer_instance; exact rfl))); ((apply vL_val); (case h => ((apply opv_E); exact rfl))); ((apply vL_val); (case h => ((apply opv_fieldAddr); exact rfl))); ((apply vL_val); (case h => ((apply opv_loadb1); exact rfl; exact rfl; infer_instance; exact rfl))); ((apply vL_val); (case h => ((apply opv_add); exact rfl; exact rfl; (first | omega | (simp only [List.length_map]; omega))))); ((apply vL_val); (case h => ((apply opv_indexAddr); ((conv => lhs; whnf) <;> exact rfl); exact rfl; infer_instance; (first | omega | (simp only [List.length_map]; omega)); (first | omega | (simp only [List.length_map]; omega))))); ((apply vL_val); (case h => ((apply opv_fieldAddr); exact rfl))))
  refine vL_gen (fun w' => Fr No w w' ∧ Blk w'.heap b2 (clE { c1 with broker := a.leader }) 25 ∧ Blk w'.heap b3 (rpE a) 56 ∧ Blk w'.heap b4 clZ 25 ∧ ClOwn w'.heap c1) ⟨hfw5.set _ _ (.inr (by omega)), Blk.as (Blk.set h25) rfl, h35.set_ne (by omega), h45.set_ne (by omega), hc5.frBlk h25 ⟨by decide, by decide, by decide⟩ ⟨by decide, by decide⟩ ((Fr.refl (fun k => k = b2) w5).set _ _ (.inl rfl))⟩ ?_
  rintro w6 ⟨hf6, h26, h36, h46, hc6⟩
  clear h25 h35 h45 hc5 hfw5 hcw5 hoff
  have ho6 := hc6.1
  rw [hx1] at ho6
  have hq6 : RqOwn w6.heap x1.rq := hc6.2.1 x1 (by rw [hx1]; exact List.mem_singleton_self _)
  have hs6 := hc6.2.2
  refine vL_storeElF (enc := wtE) (xs := [x1]) (x0 := x1) (j := 23) ({ x1 with due := c1.now + 8 } : WT) rfl rfl hxi rfl rfl (by decide) ho6 ?_
  intro w7 ho7 hf7
  replace ho7 : Own w7.heap 42 26 wtE c1.wv.1 [{ x1 with due := c1.now + 8 }] := ho7
  have h27 := h26.fr hf7 (fun h => Own.ne_blk ho6 h26 (by decide) h)
  have h37 := h36.fr hf7 (fun h => Own.ne_blk ho6 h36 (by decide) h)
  have h47 := h46.fr hf7 (fun h => Own.ne_blk ho6 h46 (by decide) h)
  have hq7 := hq6.frOwn ho6 (by decide) (by decide) (by decide) hf7
  have hs7 := hs6.fr hf7 (fun b hb h => Own.ne_own hs6 ho6 (by decide) b hb h)
  have hfw7 : Fr No w w7 := hf6.trans' hf7 (fun k hk => .inr (by have := hfwz k hk; omega))
  clear h26 h36 h46 hc6 hq6 hs6 hf6 ho6 hf7
  have hxi7 : ([{ x1 with due := c1.now + 8 }] : List WT)[((0 : Nat) : Int).toNat]? = some ({ x1 with due := c1.now + 8 } : WT) := rfl
  have hxl7 : (((0 : Nat) : Int)) < (([{ x1 with due := c1.now + 8 }] : List WT).length : Int) := Int.zero_lt_one
  (apply vL_nil; apply seqP_normal; (iterate 2 (apply vC_seq)); apply vC_region; ((apply vL_val); (case h => ((apply opv_E); exact rfl))); apply vL_nil; apply seqP_normal; (refine vC_cond_dec rfl (fun _ => ?_) (fun h => by omega)); apply vC_seq; apply vC_region; ((apply vL_val); (case h => ((apply opv_fieldAddr); exact rfl))); ((apply vL_val); (case h => ((apply opv_loadb1); exact rfl; exact rfl; assumption; exact rfl))); ((apply vL_val); (case h => ((apply opv_E); exact rfl))); ((apply vL_val); (case h => ((apply opv_fieldAddr); exact rfl))); ((apply vL_val); (case h => ((apply opv_loadb1); exact rfl; exact rfl; assumption; exact rfl))); ((apply vL_val); (case h => ((apply opv_indexAddr); ((conv => lhs; whnf) <;> exact rfl); exact rfl; infer_instance; (first | omega | (simp only [List.length_map]; omega)); (first | omega | (simp only [List.length_map]; omega))))); ((apply vL_val); (case h => ((apply opv_fieldAddr); exact rfl))))
  refine vL_storeElF (enc := wtE) (xs := [{ x1 with due := c1.now + 8 }]) (x0 := { x1 with due := c1.now + 8 }) (j := 25) ({ x1 with due := c1.now + 8, broker := a.leader } : WT) rfl rfl hxi7 rfl rfl (by decide) ho7 ?_
  intro w8 ho8 hf8
  replace ho8 : Own w8.heap 42 26 wtE c1.wv.1 [{ x1 with due := c1.now + 8, broker := a.leader }] := ho8
  have h28 := h27.fr hf8 (fun h => Own.ne_blk ho7 h27 (by decide) h)
  have h38 := h37.fr hf8 (fun h => Own.ne_blk ho7 h37 (by decide) h)
  have h48 := h47.fr hf8 (fun h => Own.ne_blk ho7 h47 (by decide) h)
  have hq8 := hq7.frOwn ho7 (by decide) (by decide) (by decide) hf8
  have hs8 := hs7.fr hf8 (fun b hb h => Own.ne_own hs7 ho7 (by decide) b hb h)
  have hfw8 : Fr No w w8 := hfw7.trans' hf8 (fun k hk => .inr (by have := hfwz k hk; omega))
  clear h27 h37 h47 hq7 hs7 hfw7 ho7 hf8 hxi7 hxl7
  have hxi8 : ([{ x1 with due := c1.now + 8, broker := a.leader }] : List WT)[((0 : Nat) : Int).toNat]? = some ({ x1 with due := c1.now + 8, broker := a.leader } : WT) := rfl
  have hxl8 : (((0 : Nat) : Int)) < (([{ x1 with due := c1.now + 8, broker := a.leader }] : List WT).length : Int) := Int.zero_lt_one
  (apply vL_nil; apply seqP_normal; apply vC_region; ((apply vL_val); (case h => ((apply opv_fieldAddr); exact rfl))); ((apply vL_val); (case h => ((apply opv_loadb1); exact rfl; exact rfl; assumption; exact rfl))); ((apply vL_val); (case h => ((apply opv_E); exact rfl))); ((apply vL_val); (case h => ((apply opv_fieldAddr); exact rfl))); ((apply vL_val); (case h => ((apply opv_loadb1); exact rfl; exact rfl; assumption; exact rfl))); ((apply vL_val); (case h => ((apply opv_add); exact rfl; exact rfl; (first | omega | (simp only [List.length_map]; omega))))); ((apply vL_val); (case h => ((apply opv_indexAddr); ((conv => lhs; whnf) <;> exact rfl); exact rfl; infer_instance; (first | omega | (simp only [List.length_map]; omega)); (first | omega | (simp only [List.length_map]; omega))))); ((apply vL_val); (case h => ((apply opv_fieldAddr); exact rfl))))
  refine vL_storeElF (enc := wtE) (xs := [{ x1 with due := c1.now + 8, broker := a.leader }]) (x0 := { x1 with due := c1.now + 8, broker := a.leader }) (j := 23) ({ x1 with due := c1.now + 1, broker := a.leader } : WT) rfl rfl hxi8 rfl rfl (by decide) ho8 ?_
  intro w9 ho9 hf9
  replace ho9 : Own w9.heap 42 26 wtE c1.wv.1 [{ x1 with due := c1.now + 1, broker := a.leader }] := ho9
  have h29 := h28.fr hf9 (fun h => Own.ne_blk ho8 h28 (by decide) h)
  have h49 := h48.fr hf9 (fun h => Own.ne_blk ho8 h48 (by decide) h)
  have hq9 := hq8.frOwn ho8 (by decide) (by decide) (by decide) hf9
  have hs9 := hs8.fr hf9 (fun b hb h => Own.ne_own hs8 ho8 (by decide) b hb h)
  have hfw9 : Fr No w w9 := hfw8.trans' hf9 (fun k hk => .inr (by have := hfwz k hk; omega))
  clear h28 h38 h48 hq8 hs8 hfw8 ho8 hf9 hxi8 hxl8
  (apply vL_nil; apply seqP_normal; apply vC_seq; apply vC_region; ((apply vL_val); (case h => ((apply opv_loadbC); exact rfl; exact rfl; assumption; exact (rfl : _ = [_, _, _, _, _, _, _, _, _, _]); exact rfl))); ((apply vL_skip); (case h => ((apply ops_storen); exact norm_eq rfl; exact norm_eq rfl; exact rfl; (intro u hu; simp only [List.mem_cons, List.not_mem_nil, or_false] at hu; rcases hu with rfl | rfl | rfl | rfl | rfl | rfl | rfl | rfl | rfl | rfl <;> (first | rfl | assumption)); assumption; (first | decide | exact of_decide_eq_true rfl | (simp; done))))); (iterate 2 (((apply vL_val); (case h => ((apply opv_E); exact rfl))))); apply vL_nil; apply seqP_normal; apply vC_ret; apply seqP_ret)
  (apply retC3; (case ha => exact rfl); (case hD => exact rfl); (case hb => (infer_instance)); (case hcs => exact rfl); (case hl => exact rfl); (case hu => (exact norm_eq rfl)); (case hu2 => (exact norm_eq rfl)))
  have hcl : ClOwn w9.heap { c1 with broker := a.leader, ws := [{ x1 with due := c1.now + 1, broker := a.leader }] } := ⟨ho9, fun y hy => by rw [List.mem_singleton.1 hy]; exact hq9, hs9⟩
  refine ⟨{ c1 with broker := a.leader, ws := [{ x1 with due := c1.now + 1, broker := a.leader }] }, _, rfl, hcl.frBlk h49 ⟨by decide, by decide, by decide⟩ ⟨by decide, by decide⟩ ((Fr.refl (fun k => k = b4) w9).set b4 (clE { c1 with broker := a.leader }).toArray (.inl rfl)), hfw9.set _ _ (.inr (by omega)), ?_, rfl⟩
  have e1 : c1.ss = c.ss := by have := congrArg CL.ss hnf; exact this
  have e2 : c1.id = c.id := by have := congrArg CL.id hnf; exact this
  have e3 : c1.next = c.next := by have := congrArg CL.next hnf; exact this
  have e4 : c1.pid = c.pid := by have := congrArg CL.pid hnf; exact this
  have e5 : c1.ep = c.ep := by have := congrArg CL.ep hnf; exact this
  have e6 : c1.stale = c.stale := by have := congrArg CL.stale hnf; exact this
  have e7 : x1.rq.nf = x.rq.nf := by have := congrArg WT.rq hx1n; exact this
  have e8 : x1.tries = x.tries := by have := congrArg WT.tries hx1n; exact this
  show ({ c1 with broker := a.leader, wv := nilO, sv := nilO, ws := [({ rq := x1.rq.nf, due := c1.now + 1, tries := x1.tries, broker := a.leader } : WT)] } : CL) = { c with broker := a.leader, wv := nilO, sv := nilO, ws := [({ rq := x.rq.nf, due := c.now + 1, tries := x.tries, broker := a.leader } : WT)] }
  rw [e7, e8, hnw, e1, e2, e3, e4, e5, e6, hbk]
end Go.Proofs.Ytchfaeaagpemlaa

set_option maxRecDepth 100000
namespace Go.Proofs.Ytchfaeaagpemlaa
open Go Go.Eng
section
variable {P : Program} {e : Env} {w : World} {ty : TypeId} {p : String} {af : Array Edge}
theorem opw_clearN {x : Operand} {t E b o n c by' sz : Nat} {z : List Value} {cs : List Value} {T : TypeId} [TUnd P t (.slice E)] [TInfo P E sz by' z] (hx : ev e x = .slice (some ⟨b, o, none⟩) n c) (hz : z.length = sz) (hpos : 0 < sz) (hz1 : ∀ u ∈ z, u.oneCell' = true) (hb : Blk w.heap b cs T) (ho : o + n * sz ≤ cs.length) :
    OpV P ⟨none, .call ⟨.builtin .clear, #[x], #[t]⟩, ty, p, af, none⟩ e w (.tuple #[]) (w.setRow b (cs.take o ++ (List.replicate n z).flatten ++ cs.drop (o + n * sz)).toArray) := by
  obtain ⟨i, zv, h1, h2, h3, h4, h5⟩ := TInfo.out (P := P) (t := E)
  have hzv : ∀ w, (zeroValue E).run P w = .ok zv w := fun w => by simp [zeroValue, run_typeInfo' h1, h4]
  have hzc : (Builtin.zeroCells zv.cells n).toList = (List.replicate n z).flatten := by
    rw [h5]
    show (madeCells z.toArray (n * z.toArray.size)).toList = _
    rw [List.size_toArray, hz, zeros_eq hz hpos]
  have hu := run_underlying (TUnd.out (P := P) (t := t)) w
  have hfl : ((List.replicate n z).flatten).length = n * sz := by simp [hz]
  cases n with
  | zero =>
    have e1 : (cs.take o ++ (List.replicate 0 z).flatten ++ cs.drop (o + 0 * sz)).toArray = cs.toArray := by simp
    rw [e1, setRow_id hb]
    simp [OpV, execOp, resolve, invoke, builtin, hx, Builtin.clear_, hu]
  | succ n =>
    have hst := run_storeCells_at (P := P) b o T ((List.replicate (n + 1) z).flatten) 0 cs.toArray w hb.get (by rw [hfl]; simpa using ho) (fun u hu => by
      obtain ⟨l, h1, h2⟩ := List.mem_flatten.1 hu
      rw [List.eq_of_mem_replicate h1] at h2
      exact hz1 u h2)
    simp only [Nat.add_zero] at hst
    simp [OpV, execOp, resolve, invoke, builtin, hx, Builtin.clear_, hu, hzv, hzc]
    rw [hfl] at hst
    rw [hst]
    simp only [List.append_assoc]
    rfl
end
theorem opv_slice_nil {P : Program} {d : Option Nat} {ty : TypeId} {p : String} {af : Array Edge} {e : Env} {w : World} {x lo : Operand} {t E sz by' : Nat} {z : List Value} {k : IntKind} [TUnd P t (.slice E)] [TInfo P E sz by' z] (hx : ev e x = .slice none 0 0) (hl : ev e lo = .int k 0) : OpV P ⟨d, .slice t x (some lo) none none, ty, p, af, none⟩ e w (.slice none 0 0) w := by
  have hu := run_underlying (TUnd.out (P := P) (t := t)) w
  have g0 : (0 : Int) ≤ 0 := Int.le_refl 0
  have g1 : (0 : Int) ≤ ((0 : Nat) : Int) := Int.le_refl 0
  simp only [OpV, execOp, Instr.sliceAt, Sem.run_bind, hu, Result.andThen_ok, Instr.slice, hx, Instr.sliceBounds, Option.map_some, Option.map_none, hl, Go.Eng.run_sliceBound g0 g1, Sem.run_pure, run_sizeOf' (P := P) (t := E)]
  rfl
theorem deleteN_wt (v : Value) (xs : List WT) (i : Nat) (w : World) (hi : i < xs.length) (ho : Own w.heap 42 26 wtE v xs) :
    Rets Try.prog 21 #[v, .int .i64 i, .int .i64 ((i : Int) + 1)] w fun u w' => Fr (fun k => own v = some k) w w' ∧ Own w'.heap 42 26 wtE u (xs.take i ++ xs.drop (i + 1)) ∧ own u = own v ∧ u.oneCell' = true := by
  have hs := ho.rd.small
  rcases ho.shape with ⟨_, rfl⟩ | ⟨g, cap, cs, rfl, hb, hn, hm, hl, ht⟩
  · simp at hi
  have hl1 : (xs.take i).length = i := by simp; omega
  have hl2 : (xs.drop (i + 1)).length = xs.length - (i + 1) := by simp
  have hm' : cap ≤ 9223372036854775807 := by unfold maxLen at hm; omega
  have hf1 : ((xs.take i ++ xs.drop (i + 1)).flatMap wtE).length = (i + (xs.length - (i + 1))) * 26 := by rw [flatMap_len _ (fun x _ => EncOk.len x)]; simp; omega
  have hf2 : ((xs.drop (i + 1)).flatMap wtE).length = (xs.length - (i + 1)) * 26 := by rw [flatMap_len _ (fun x _ => EncOk.len x)]; simp
  have htk : cs.take (i * 26) = (xs.take i).flatMap wtE := by rw [flatMap_take xs i ho.size, ← ht, List.take_take]; congr 1; omega
  have hrep : ∀ m : Nat, ((List.replicate m [Value.int .u8 0, Value.int .i64 0, Value.int .i64 0, Value.string ⟨#[]⟩, Value.int .i64 0, Value.int .i64 0, Value.int .i64 0, Value.int .i64 0, Value.slice none 0 0, Value.int .i64 0, Value.int .i64 0, Value.int .i64 0, Value.int .u8 0, Value.string ⟨#[]⟩, Value.string ⟨#[]⟩, Value.int .i64 0, Value.slice none 0 0, Value.string ⟨#[]⟩, Value.int .i64 0, Value.int .i64 0, Value.int .i64 0, Value.int .i64 0, Value.int .i64 0, Value.int .i64 0, Value.int .i64 0, Value.int .i64 0]).flatten).length = m * 26 := fun m => by simp
  refine rets_of Try.func21 rfl Try.ntmps21 rfl rfl (by kernel_rfl) ?_
  (apply vC_seq; apply vC_region; ((apply vL_val); (case h => ((apply opv_E); exact rfl))); apply vL_nil; apply seqP_normal; apply vC_seq; apply vC_region; (iterate 4 (((apply vL_val); (case h => ((apply opv_E); exact rfl))))); ((apply vL_val); (case h => ((apply opv_lenc); exact rfl))); ((apply vL_val); (case h => ((apply opv_slice3); exact rfl; exact rfl; exact rfl; exact rfl; (first | omega | (simp only [List.length_map]; omega)); (first | omega | (simp only [List.length_map]; omega)); (first | omega | (simp only [List.length_map]; omega)); (first | omega | (simp only [List.length_map]; omega))))); apply vL_nil; apply seqP_normal; (iterate 2 (apply vC_seq)); apply vC_region; (iterate 3 (((apply vL_val); (case h => ((apply opv_E); exact rfl))))); apply vL_nil; apply seqP_normal)
  refine vC_cond_dec rfl (fun h => by omega) (fun h => ?_)
  (apply vC_skip; apply seqP_normal; apply vC_seq; apply vC_region; ((apply vL_val); (case h => ((apply opv_E); exact rfl))); ((apply vL_val); (case h => ((apply opv_lenc); exact rfl))); ((apply vL_val); (case h => ((apply opv_E); exact rfl))); apply vL_nil; apply seqP_normal; apply vC_seq)
  refine vC_draw' (fun _ => True) trivial ?_
  ((apply (tk 0)); (case hi => exact rfl); (case hf => kernel_rfl); (case hS => trivial); (case hy => (intro _ _; (((apply opv_E); exact rfl)))))
  ((apply (tk 1)); (case hi => exact rfl); (case hf => kernel_rfl); (case hS => trivial); (case hy => (intro _ _; (((apply opv_E); exact rfl)))))
  ((apply (tk 2)); (case hi => exact rfl); (case hf => kernel_rfl); (case hS => trivial); (case hy => (intro _ _; (((apply opv_slice_hi'); exact rfl; exact rfl; (first | omega | (simp only [List.length_map]; omega)); (first | omega | (simp only [List.length_map]; omega)))))))
  ((apply (tk 3)); (case hi => exact rfl); (case hf => kernel_rfl); (case hS => trivial); (case hy => (intro _ _; (((apply opv_E); exact rfl)))))
  ((apply (tk 4)); (case hi => exact rfl); (case hf => kernel_rfl); (case hS => trivial); (case hy => (intro _ _; (((apply opv_E); exact rfl)))))
  ((apply (tk 5)); (case hi => exact rfl); (case hf => kernel_rfl); (case hS => trivial); (case hy => (intro _ _; (((apply opv_slice_lo'); exact rfl; exact rfl; (first | omega | (simp only [List.length_map]; omega)); (first | omega | (simp only [List.length_map]; omega)))))))
  have et : ((i : Int) + 1).toNat = i + 1 := by omega
  refine tkv 6 rfl (by kernel_rfl) trivial (opw_append_room (enc := wtE) (xs := xs.take i) (ys := xs.drop ((i : Int) + 1).toNat) (cs := cs) (by (exact norm_eq rfl)) (by (exact norm_eq rfl)) (by rw [hl1]; omega) (by rw [et, hl2]) hb hl (Rd.dropIf ho.rd (by omega)) (by rw [hl1, et, hl2]; omega)) ?_
  rw [et, hl1, hl2]
  ((apply (tk 7)); (case hi => exact rfl); (case hf => kernel_rfl); (case hS => trivial); (case hy => (intro _ _; (((apply opv_E); exact rfl)))))
  refine vA_done (by kernel_rfl) trivial ?_
  have hb2 := Blk.set (w := w.drew) (b := g) (c := cs) (T := 42) (c' := cs.take (i * 26) ++ (xs.drop (i + 1)).flatMap wtE ++ cs.drop (i * 26 + (xs.length - (i + 1)) * 26)) hb
  (apply seqP_normal; apply vC_seq; apply vC_region; (iterate 2 (((apply vL_val); (case h => ((apply opv_E); exact rfl))))); ((apply vL_val); (case h => ((apply opv_lenc); exact rfl))); ((apply vL_val); (case h => ((apply opv_E); exact rfl))); ((apply vL_val); (case h => ((apply opv_slice_lh'); exact rfl; exact rfl; exact rfl; (first | omega | (simp only [List.length_map]; omega)); (first | omega | (simp only [List.length_map]; omega)); (first | omega | (simp only [List.length_map]; omega))))))
  apply vL_val
  (case h => (refine opw_clearN (sz := 26) (z := [Value.int .u8 0, Value.int .i64 0, Value.int .i64 0, Value.string ⟨#[]⟩, Value.int .i64 0, Value.int .i64 0, Value.int .i64 0, Value.int .i64 0, Value.slice none 0 0, Value.int .i64 0, Value.int .i64 0, Value.int .i64 0, Value.int .u8 0, Value.string ⟨#[]⟩, Value.string ⟨#[]⟩, Value.int .i64 0, Value.slice none 0 0, Value.string ⟨#[]⟩, Value.int .i64 0, Value.int .i64 0, Value.int .i64 0, Value.int .i64 0, Value.int .i64 0, Value.int .i64 0, Value.int .i64 0, Value.int .i64 0]) (by (exact norm_eq rfl)) rfl (by decide) (by decide) hb2 ?_; rw [if_neg (by omega)]; simp only [List.length_append, List.length_take, List.length_drop, hf2]; omega))
  (apply vL_nil; apply seqP_normal; apply vC_seq; apply vC_region; (iterate 2 (((apply vL_val); (case h => ((apply opv_E); exact rfl))))); apply vL_nil; apply seqP_normal; apply vC_ret)
  (apply ret1; (case h1 => (exact norm_eq rfl)))
  refine ⟨?_, ?_, rfl, rfl⟩
  · exact Fr.set (Fr.set (Fr.drew (Fr.refl (fun k => own (Value.slice (some ⟨g, 0, none⟩) xs.length cap) = some k) w)) g _ (.inl rfl)) g _ (.inl rfl)
  · refine ⟨fun x _ => EncOk.len x, .inr ⟨g, cap, _, ?_, Blk.set hb2, ?_, hm, ?_, ?_⟩⟩
    · rw [List.length_append, hl1, hl2]
    · rw [List.length_append, hl1, hl2]; omega
    · rw [if_neg (by omega)]; simp only [List.length_append, List.length_take, List.length_drop, hrep, hf2]; omega
    · rw [if_neg (by omega)]
      have hpre : (cs.take (i * 26) ++ (xs.drop (i + 1)).flatMap wtE) = (xs.take i ++ xs.drop (i + 1)).flatMap wtE := by rw [List.flatMap_append, htk]
      rw [hpre]
      have hlen : (xs.take i ++ xs.drop (i + 1)).length * 26 = (i + (xs.length - (i + 1))) * 26 := by rw [List.length_append, hl1, hl2]
      rw [hlen, List.append_assoc (List.take _ _)]
      rw [show 0 + ((i + (xs.length - (i + 1)) : Nat) : Int).toNat * 26 = (i + (xs.length - (i + 1))) * 26 by omega]
      rw [List.take_append_of_le_length (l₁ := List.take _ _) (by simp only [List.length_append, List.length_take, hf1]; omega), List.take_take, Nat.min_self, List.take_left' hf1]
theorem clone_pl (v : Value) (xs : List (ByteArray × Int)) (w : World) (hr : Rd w.heap 2 tE v xs) (hbig : xs.length * 24 ≤ 140737488355328) :
    Rets Try.prog 25 #[v] w fun u w' => Fr No w w' ∧ Own w'.heap 36 2 tE u xs ∧ (∀ b, own u = some b → w.heap.size ≤ b) ∧ u.oneCell' = true := by
  have hs := hr.small
  refine rets_of Try.func25 rfl Try.ntmps25 rfl rfl (by kernel_rfl) ?_
  rcases hr.shape with ⟨rfl, none | a, rfl⟩ | ⟨b, o, c, rfl, hc⟩
  · (apply vC_seq; apply vC_region; ((apply vL_val); (case h => ((apply opv_E); exact rfl))); apply vL_nil; apply seqP_normal; (iterate 2 (apply vC_seq)); apply vC_region; ((apply vL_val); (case h => ((apply opv_E); exact rfl))); ((apply vL_val); (case h => ((apply opv_eql_snil); exact rfl; exact rfl))); apply vL_nil; apply seqP_normal; ((apply vC_cond_true); exact rfl); apply vC_seq; apply vC_region; ((apply vL_val); (case h => ((apply opv_E); exact rfl))); apply vL_nil; apply seqP_normal; apply vC_ret; apply seqP_ret)
    (apply ret1; (case h1 => (exact norm_eq rfl)))
    exact ⟨Fr.refl _ _, Own.nil _ _ _ _, fun b hb => (by cases hb), rfl⟩
  · (apply vC_seq; apply vC_region; ((apply vL_val); (case h => ((apply opv_E); exact rfl))); apply vL_nil; apply seqP_normal; (iterate 2 (apply vC_seq)); apply vC_region; ((apply vL_val); (case h => ((apply opv_E); exact rfl))); ((apply vL_val); (case h => ((apply opv_eql_snil); exact rfl; exact rfl))); apply vL_nil; apply seqP_normal; ((apply vC_cond_false); exact rfl); apply vC_skip; apply seqP_normal; apply vC_seq; apply vC_region; ((apply vL_val); (case h => ((apply opw_buildSl); exact rfl; exact rfl; exact rfl; exact (rfl : _ = some [])))); ((apply vL_val); (case h => ((apply opv_E); exact rfl))))
    refine vL_append (enc := tE) (xs := []) (ys := []) (T := 36) (sz := 2) (by (exact norm_eq rfl)) (by (exact norm_eq rfl)) (Own.newN tE [] rfl rfl (by decide)) inferInstance rfl (by decide) ?_ ?_ ?_
    · simp [maxLen]
    · simp
    intro v' w2 ho hf hfresh hone _
    (((apply vL_val); (case h => ((apply opv_assign); ((conv => lhs; whnf) <;> exact rfl)))); apply vL_nil; apply seqP_normal; apply vC_ret)
    (apply ret1; (case h1 => (((conv => lhs; whnf) <;> exact rfl))))
    refine ⟨((Fr.refl No w).alloc _).trans' hf (fun k hk => .inr (by cases hk; exact Nat.le_refl _)), ho, fun b hb => ?_, hone⟩
    rcases hfresh b hb with h | h
    · cases h; exact Nat.le_refl _
    · rw [alloc_size] at h; omega
  · (apply vC_seq; apply vC_region; ((apply vL_val); (case h => ((apply opv_E); exact rfl))); apply vL_nil; apply seqP_normal; (iterate 2 (apply vC_seq)); apply vC_region; ((apply vL_val); (case h => ((apply opv_E); exact rfl))); ((apply vL_val); (case h => ((apply opv_eql_snil); exact rfl; exact rfl))); apply vL_nil; apply seqP_normal; ((apply vC_cond_false); exact rfl); apply vC_skip; apply seqP_normal; apply vC_seq; apply vC_region; ((apply vL_val); (case h => ((apply opw_buildSl); exact rfl; exact rfl; exact rfl; exact (rfl : _ = some [])))); ((apply vL_val); (case h => ((apply opv_E); exact rfl))))
    refine vL_append (enc := tE) (xs := []) (ys := xs) (T := 36) (sz := 2) (by (exact norm_eq rfl)) (by (exact norm_eq rfl)) (Own.newN tE [] rfl rfl (by decide)) inferInstance rfl (by decide) ?_ ?_ ?_
    · simp [maxLen]; omega
    · simpa using hbig
    intro v' w2 ho hf hfresh hone _
    (((apply vL_val); (case h => ((apply opv_assign); ((conv => lhs; whnf) <;> exact rfl)))); apply vL_nil; apply seqP_normal; apply vC_ret)
    (apply ret1; (case h1 => (((conv => lhs; whnf) <;> exact rfl))))
    refine ⟨((Fr.refl No w).alloc _).trans' hf (fun k hk => .inr (by cases hk; exact Nat.le_refl _)), ho, fun b hb => ?_, hone⟩
    rcases hfresh b hb with h | h
    · cases h; exact Nat.le_refl _
    · rw [alloc_size] at h; omega
theorem insq31 (v : Value) (x : SQ) (w : World) {b : Nat} (ho : Own w.heap 65 3 sqE v []) (hx : Rd w.heap 3 sqE (.slice (some ⟨b, 0, none⟩) 1 1) [x]) :
    Rets Try.prog 39 #[v, .int .i64 0, .slice (some ⟨b, 0, none⟩) 1 1] w fun u w' => Own w'.heap 65 3 sqE u [x] ∧ Fr (fun k => own v = some k) w w' ∧ (∀ b, own u = some b → own v = some b ∨ w.heap.size ≤ b) ∧ u.oneCell' = true := by
  have hs := ho.rd.small
  refine rets_of Try.func39 rfl Try.ntmps39 rfl rfl (by kernel_rfl) ?_
  rcases ho.shape with ⟨rfl, _⟩ | ⟨g, cap, cs, rfl, hg, hn, hm, hcl, ht⟩
  · (apply vC_seq; apply vC_region; ((apply vL_val); (case h => ((apply opv_E); exact rfl))); apply vL_nil; apply seqP_normal; apply vC_seq; apply vC_region; (iterate 2 (((apply vL_val); (case h => ((apply opv_E); exact rfl))))))
    refine vL_val (opv_slice_nil rfl rfl) ?_
    (apply vL_nil; apply seqP_normal; apply vC_seq; apply vC_region; ((apply vL_val); (case h => ((apply opv_E); exact rfl))); ((apply vL_val); (case h => ((apply opv_lenc); exact rfl))); ((apply vL_val); (case h => ((apply opv_E); exact rfl))); apply vL_nil; apply seqP_normal; (iterate 2 (apply vC_seq)); apply vC_region; (iterate 2 (((apply vL_val); (case h => ((apply opv_E); exact rfl))))); apply vL_nil; apply seqP_normal; ((apply vC_cond_false); exact rfl); apply vC_skip; apply seqP_normal; apply vC_seq; apply vC_region; ((apply vL_val); (case h => ((apply opv_E); exact rfl))); ((apply vL_val); (case h => ((apply opv_lenc); exact rfl))); ((apply vL_val); (case h => ((apply opv_E); exact rfl))); apply vL_nil; apply seqP_normal; (iterate 2 (apply vC_seq)); apply vC_region; (iterate 3 (((apply vL_val); (case h => ((apply opv_E); exact rfl))))); apply vL_nil; apply seqP_normal; ((apply vC_cond_true); exact rfl); apply vC_seq; apply vC_region; (iterate 2 (((apply vL_val); (case h => ((apply opv_E); exact rfl))))))
    refine vL_append (enc := sqE) (xs := []) (ys := [x]) (T := 65) (sz := 3) (by (exact norm_eq rfl)) (by (exact norm_eq rfl)) (Own.nil _ _ _ _) hx rfl (by decide) (by simp [maxLen]) (by simp) ?_
    intro v' w2 ho2 hf2 hfr2 hone2 _
    (((apply vL_val); (case h => ((apply opv_assign); ((conv => lhs; whnf) <;> exact rfl)))); apply vL_nil; apply seqP_normal; apply vC_ret; apply seqP_ret)
    (apply ret1; (case h1 => (((conv => lhs; whnf) <;> exact rfl))))
    exact ⟨ho2, hf2, hfr2, hone2⟩
  · (apply vC_seq; apply vC_region; ((apply vL_val); (case h => ((apply opv_E); exact rfl))); apply vL_nil; apply seqP_normal; apply vC_seq; apply vC_region; (iterate 2 (((apply vL_val); (case h => ((apply opv_E); exact rfl))))); ((apply vL_val); (case h => ((apply opv_slice_lo'); exact rfl; exact rfl; (first | omega | (simp only [List.length_map]; omega)); (first | omega | (simp only [List.length_map]; omega))))); apply vL_nil; apply seqP_normal; apply vC_seq; apply vC_region; ((apply vL_val); (case h => ((apply opv_E); exact rfl))); ((apply vL_val); (case h => ((apply opv_lenc); exact rfl))); ((apply vL_val); (case h => ((apply opv_E); exact rfl))); apply vL_nil; apply seqP_normal; (iterate 2 (apply vC_seq)); apply vC_region; (iterate 2 (((apply vL_val); (case h => ((apply opv_E); exact rfl))))); apply vL_nil; apply seqP_normal; ((apply vC_cond_false); exact rfl); apply vC_skip; apply seqP_normal; apply vC_seq; apply vC_region; ((apply vL_val); (case h => ((apply opv_E); exact rfl))); ((apply vL_val); (case h => ((apply opv_lenc); exact rfl))); ((apply vL_val); (case h => ((apply opv_E); exact rfl))); apply vL_nil; apply seqP_normal; (iterate 2 (apply vC_seq)); apply vC_region; (iterate 3 (((apply vL_val); (case h => ((apply opv_E); exact rfl))))); apply vL_nil; apply seqP_normal; ((apply vC_cond_true); exact rfl); apply vC_seq; apply vC_region; (iterate 2 (((apply vL_val); (case h => ((apply opv_E); exact rfl))))))
    refine vL_append (enc := sqE) (xs := []) (ys := [x]) (T := 65) (sz := 3) (by (exact norm_eq rfl)) (by (exact norm_eq rfl)) ho hx rfl (by decide) (by simp [maxLen]) (by simp) ?_
    intro v' w2 ho2 hf2 hfr2 hone2 _
    (((apply vL_val); (case h => ((apply opv_assign); ((conv => lhs; whnf) <;> exact rfl)))); apply vL_nil; apply seqP_normal; apply vC_ret; apply seqP_ret)
    (apply ret1; (case h1 => (((conv => lhs; whnf) <;> exact rfl))))
    exact ⟨ho2, hf2, hfr2, hone2⟩
end Go.Proofs.Ytchfaeaagpemlaa

set_option maxRecDepth 100000
namespace Go.Proofs.Ytchfaeaagpemlaa
open Go Go.Eng
theorem stands31 (c : CL) (r : RQ) (b2 : Nat) (w : World) (hb : Blk w.heap b2 (clE c) 25) (ho : Own w.heap 65 3 sqE c.sv.1 []) (hss : c.ss = []) (hr : RqRd w.heap r) (hf : 0 ≤ r.fi ∧ r.fi ≤ 1000000) (hl : r.brs.length ≤ 1000) :
    Rets Try.prog 22 #[.pointer (some ⟨b2, 0, none⟩), .agg (rqE r).toArray] w fun u w' => u = .tuple #[] ∧ ∃ sv : OV, Blk w'.heap b2 (clE { c with sv := sv, ss := [⟨r.topic, r.part, r.fi + r.brs.length⟩] }) 25 ∧ Own w'.heap 65 3 sqE sv.1 [⟨r.topic, r.part, r.fi + r.brs.length⟩] ∧ Fr (fun k => k = b2 ∨ own c.sv.1 = some k) w w' ∧ (∀ b, own sv.1 = some b → own c.sv.1 = some b ∨ w.heap.size ≤ b) := by
  have hw0 := c.wv.2
  have hs0 := c.sv.2
  have hbv := r.brv.2
  have htv := r.trv.2
  refine rets_of Try.func22 rfl Try.ntmps22 rfl rfl (by kernel_rfl) ?_
  ((apply vC_seq; apply vC_region)); ((((apply vL_val); (case h => ((apply opw_boxn); exact rfl))); apply vL_nil)); with_reducible apply seqP_normal
  ((apply vC_seq; apply vC_region))
  refine vL_gen (fun w' => Fr No w w' ∧ Blk w'.heap w.heap.size (rqE r) 40) ⟨by (apply Fr.alloc; exact Fr.refl _ _), inferInstance⟩ ?_
  rintro w1 ⟨hf1, h3⟩
  have hb1 := hb.frN hf1
  have ho1 := ho.frN hf1
  have hr1 := hr.frN hf1
  have hrb1 := hr1.1
  have hlb := hb.lt
  obtain ⟨b3, eb3⟩ : ∃ b3, b3 = w.heap.size := ⟨_, rfl⟩
  rw [← eb3] at h3 ⊢
  haveI n23 : NeB b2 b3 := ⟨by omega⟩
  haveI n32 : NeB b3 b2 := ⟨by omega⟩
  ((iterate 2 (((apply vL_val); (case h => ((apply opv_fieldAddr); exact rfl))))); ((apply vL_val); (case h => ((apply opv_loadb1); exact rfl; exact rfl; assumption; exact rfl))); (iterate 2 (((apply vL_val); (case h => ((apply opv_fieldAddr); exact rfl))))); ((apply vL_val); (case h => ((apply opv_loadb1); exact rfl; exact rfl; assumption; exact rfl))); ((apply vL_val); (case h => ((apply opv_len); ((conv => lhs; whnf) <;> exact rfl); assumption))); ((apply vL_val); (case h => ((apply opv_add); exact rfl; exact rfl; (first | omega | (simp only [List.length_map]; omega))))); ((apply vL_val); (case h => ((apply opv_E); exact rfl))); apply vL_nil; apply seqP_normal; apply vC_seq)
  refine vC_draw' (fun wf => Fr No w1 wf) ((Fr.refl No w1).drew) ?_
  ((apply (tk 0)); (case hi => exact rfl); (case hf => kernel_rfl); (case hS => (apply Fr.drew; exact Fr.refl _ _)); (case hy => (intro wf hwf; haveI := From.mk hwf; (((apply opv_E); exact rfl)))))
  ((apply (tk 1)); (case hi => exact rfl); (case hf => kernel_rfl); (case hS => (apply Fr.drew; exact Fr.refl _ _)); (case hy => (intro wf hwf; haveI := From.mk hwf; (((apply opv_E); exact rfl)))))
  ((apply (tk 2)); (case hi => exact rfl); (case hf => kernel_rfl); (case hS => (apply Fr.drew; exact Fr.refl _ _)); (case hy => (intro wf hwf; haveI := From.mk hwf; (((apply opv_loadbC); exact rfl; exact rfl; infer_instance; exact (rfl : _ = [_, _, _, _, _, _, _, _, _, _]); exact rfl)))))
  ((apply (tk 3)); (case hi => exact rfl); (case hf => kernel_rfl); (case hS => (apply Fr.drew; exact Fr.refl _ _)); (case hy => (intro wf hwf; exact opv_loadbC (cs := rqE r) rfl rfl (h3.frN hwf) rfl rfl)))
  (refine tkc 4 rfl (by kernel_rfl) (by (apply Fr.drew; exact Fr.refl _ _)) rfl (of31 r _) rfl ?_)
  rintro _ w2 ⟨rfl, hf2⟩
  have hf12 : Fr No w1 w2 := (Fr.refl No w1).drew.trans hf2
  have hfd := find31 c r.topic r.part w2 (by rw [hss]; exact (ho1.frN hf12).rd) (by rw [hss]; exact Nat.zero_le _) (fun s hs => by rw [hss] at hs; cases hs)
  (refine tkc 5 rfl (by kernel_rfl) (by (assumption)) rfl (hfd) rfl ?_)
  rintro _ w3 ⟨rfl, hf3⟩
  have hf13 : Fr No w1 w3 := hf12.trans hf3
  ((apply (tk 6)); (case hi => exact rfl); (case hf => kernel_rfl); (case hS => (assumption)); (case hy => (intro wf hwf; haveI := From.mk hwf; (((apply opv_E); exact rfl)))))
  ((apply (tk 7)); (case hi => exact rfl); (case hf => kernel_rfl); (case hS => (assumption)); (case hy => (intro wf hwf; haveI := From.mk hwf; (((apply opv_E); exact rfl)))))
  ((apply (tk 8)); (case hi => exact rfl); (case hf => kernel_rfl); (case hS => (assumption)); (case hy => (intro wf hwf; haveI := From.mk hwf; (((apply opv_E); exact rfl)))))
  ((apply (tk 9)); (case hi => exact rfl); (case hf => kernel_rfl); (case hS => (assumption)); (case hy => (intro wf hwf; haveI := From.mk hwf; (((apply opv_E); exact rfl)))))
  ((apply (tk 10)); (case hi => exact rfl); (case hf => kernel_rfl); (case hS => (assumption)); (case hy => (intro wf hwf; haveI := From.mk hwf; (((apply opv_E); exact rfl)))))
  refine vA_done (by kernel_rfl) (by (first | exact trivial | ((assumption); done))) ?_
  have hb3 := hb1.frN hf13
  have ho3 := ho1.frN hf13
  have h33 := h3.frN hf13
  have hfw3 := hf1.trans hf13
  have hsl : c.ss.length = 0 := by rw [hss]; rfl
  have hsz3 := hfw3.size
  rw [hsl]
  clear hb1 h3 hf12 hf13 hf2 hf3 hr1 hrb1
  (apply seqP_normal; apply vC_block; apply vC_seq; apply vC_region; (iterate 3 (((apply vL_val); (case h => ((apply opv_E); exact rfl))))); apply vL_nil; apply seqP_normal; (refine vC_cond_dec rfl (fun h => by omega) (fun _ => ?_)); apply vC_seq; apply vC_region; (iterate 2 (((apply vL_val); (case h => ((apply opv_E); exact rfl))))); apply vL_nil; apply seqP_normal; ((apply vC_cond_false); exact rfl); apply vC_seq; apply vC_region; (iterate 2 (((apply vL_val); (case h => ((apply opv_E); exact rfl))))); ((apply vL_val); (case h => ((apply opv_fieldAddr); exact rfl))); ((apply vL_val); (case h => ((apply opv_loadb1); exact rfl; exact rfl; assumption; exact rfl))); ((apply vL_val); (case h => ((apply opv_len); ((conv => lhs; whnf) <;> exact rfl); infer_instance))); (iterate 2 (((apply vL_val); (case h => ((apply opv_E); exact rfl))))); apply vL_nil; apply seqP_normal; ((apply vC_cond_true); exact rfl))
  have hb3d := hb3.frN (Fr.refl No w3).drew
  have h33d := h33.frN (Fr.refl No w3).drew
  refine vC_draw' ((fun wf => Blk wf.heap b3 (rqE r) 40)) (by (first | exact trivial | assumption | infer_instance | (skip; done))) ?_
  ((apply (tk 0)); (case hi => exact rfl); (case hf => kernel_rfl); (case hS => (first | exact trivial | assumption | infer_instance | (skip; done))); (case hy => (intro wf hwf; (try dsimp only at hwf); (((apply opv_E); exact rfl)))))
  ((apply (tk 1)); (case hi => exact rfl); (case hf => kernel_rfl); (case hS => (first | exact trivial | assumption | infer_instance | (skip; done))); (case hy => (intro wf hwf; (try dsimp only at hwf); (((apply opv_E); exact rfl)))))
  ((apply (tk 2)); (case hi => exact rfl); (case hf => kernel_rfl); (case hS => (first | exact trivial | assumption | infer_instance | (skip; done))); (case hy => (intro wf hwf; (try dsimp only at hwf); (((apply opv_E); exact rfl)))))
  ((apply (tk 3)); (case hi => exact rfl); (case hf => kernel_rfl); (case hS => (first | exact trivial | assumption | infer_instance | (skip; done))); (case hy => (intro wf hwf; (try dsimp only at hwf); (((apply opv_fieldAddr); exact rfl)))))
  ((apply (tk 5)); (case hi => exact rfl); (case hf => kernel_rfl); (case hS => (first | exact trivial | assumption | infer_instance | (skip; done))); (case hy => (intro wf hwf; (try dsimp only at hwf); (((apply opv_E); exact rfl)))))
  ((apply (tk 8)); (case hi => exact rfl); (case hf => kernel_rfl); (case hS => (first | exact trivial | assumption | infer_instance | (skip; done))); (case hy => (intro wf hwf; (try dsimp only at hwf); (((apply opv_E); exact rfl)))))
  ((apply (tk 6)); (case hi => exact rfl); (case hf => kernel_rfl); (case hS => (first | exact trivial | assumption | infer_instance | (skip; done))); (case hy => (intro wf hwf; exact opv_loadbC (cs := rqE r) rfl rfl hwf rfl rfl)))
  have hof : ∀ w4, Fr No w3.drew w4 → Own w4.heap 65 3 sqE c.sv.1 [] := fun w4 h => (ho3.frN (Fr.refl No w3).drew).frN h
  refine vA_two 4 7 rfl rfl (by kernel_rfl) (by (first | exact trivial | assumption | infer_instance | (skip; done))) (fun K hK => ?_) (fun K hK => ?_)
  · (((apply vL_val); (case h => ((apply opv_loadb1); exact rfl; exact rfl; assumption; exact rfl))); apply vL_nil)
    refine ⟨rfl, hK _ _ ?_⟩
    refine vA_only 7 rfl (by kernel_rfl) (by (first | exact trivial | assumption | infer_instance | (skip; done))) (fun K hK => ?_)
    refine vL_callF rfl (of31 r _) rfl ?_
    rintro _ w4 ⟨rfl, hf4⟩
    have hb4 := hb3d.frN hf4
    have h34 := h33d.frN hf4
    refine vL_nil ⟨rfl, hK _ _ ?_⟩
    ((apply (tk 9)); (case hi => exact rfl); (case hf => kernel_rfl); (case hS => (first | exact trivial | assumption | infer_instance | (skip; done))); (case hy => (intro wf hwf; (try dsimp only at hwf); (((apply opv_buildS); exact rfl; exact (rfl : _ = some [_, _, _]))))))
    refine vA_only 10 rfl (by kernel_rfl) (by (first | exact trivial | assumption | infer_instance | (skip; done))) (fun K hK => ?_)
    (((apply vL_val); (case h => ((apply opw_buildSl); exact rfl; exact rfl; exact rfl; exact (rfl : _ = some [_, _, _])))); apply vL_nil)
    refine ⟨rfl, hK _ _ ?_⟩
    have hwr : Rd (w4.alloc (.cells (sqE ⟨r.topic, r.part, r.fi + r.brs.length⟩).toArray 65)).heap 3 sqE (.slice (some ⟨w4.heap.size, 0, none⟩) 1 1) [(⟨r.topic, r.part, r.fi + r.brs.length⟩ : SQ)] := (Own.newN (T := 65) sqE [(⟨r.topic, r.part, r.fi + r.brs.length⟩ : SQ)] rfl rfl (by simp [maxLen])).rd
    have hal : Fr No w4 (w4.alloc (.cells (sqE ⟨r.topic, r.part, r.fi + r.brs.length⟩).toArray 65)) := (Fr.refl No w4).alloc _
    have ho4 := hof _ (hf4.trans hal)
    have hb5 := hb4.frN hal
    have h35 := h34.frN hal
    refine vA_only 11 rfl (by kernel_rfl) (by (first | exact trivial | assumption | infer_instance | (skip; done))) (fun K hK => ?_)
    refine vL_callF rfl (insq31 c.sv.1 (⟨r.topic, r.part, r.fi + r.brs.length⟩ : SQ) _ ho4 hwr) rfl ?_
    rintro u5 w5 ⟨ho5, hf5, hfr5, hone5⟩
    have hb6 := hb5.fr hf5 (fun h => Own.ne_blk ho4 hb5 (by decide) h)
    have h36 := h35.fr hf5 (fun h => Own.ne_blk ho4 h35 (by decide) h)
    refine vL_nil ⟨rfl, hK _ _ ?_⟩
    ((apply (tk 12)); (case hi => exact rfl); (case hf => kernel_rfl); (case hS => (first | exact trivial | assumption | infer_instance | (skip; done))); (case hy => (intro wf hwf; (try dsimp only at hwf); (((apply opv_E); exact rfl)))))
    ((apply (tk 13)); (case hi => exact rfl); (case hf => kernel_rfl); (case hS => (first | exact trivial | assumption | infer_instance | (skip; done))); (case hy => (intro wf hwf; (try dsimp only at hwf); (((apply opv_fieldAddr); exact rfl)))))
    refine vA_only 14 rfl (by kernel_rfl) (by (first | exact trivial | assumption | infer_instance | (skip; done))) (fun K hK => ?_)
    (((apply vL_skip); (case h => ((apply ops_store1); exact norm_eq rfl; ((conv => lhs; whnf) <;> exact rfl); (first | rfl | assumption); assumption; (first | decide | exact of_decide_eq_true rfl | (simp; done))))); apply vL_nil)
    refine ⟨rfl, hK _ _ ?_⟩
    refine vA_done (by kernel_rfl) (by (first | exact trivial | assumption | infer_instance | (skip; done))) ?_
    (apply blockP_normal)
    (first | apply ret0 | apply ret0n)
    have hfa : Fr No w _ := ((hfw3.drew).trans hf4).trans hal
    have hs4 := hf4.size
    have hsd : w3.heap.size ≤ w3.drew.heap.size := Nat.le_refl _
    refine ⟨rfl, ⟨u5, hone5⟩, Blk.as (Blk.set hb6) rfl, ho5.set (Own.ne_blk ho5 hb6 (by decide)), (hfa.no_any.trans' hf5 (fun k hk => .inl (.inr hk))).set _ _ (.inl (.inl rfl)), fun b hb => ?_⟩
    rcases hfr5 b hb with h | h
    · exact .inl h
    · rw [alloc_size] at h; exact .inr (by omega)
  · refine vL_callF rfl (of31 r _) rfl ?_
    rintro _ w4 ⟨rfl, hf4⟩
    have hb4 := hb3d.frN hf4
    have h34 := h33d.frN hf4
    refine vL_nil ⟨rfl, hK _ _ ?_⟩
    ((apply (tk 9)); (case hi => exact rfl); (case hf => kernel_rfl); (case hS => (first | exact trivial | assumption | infer_instance | (skip; done))); (case hy => (intro wf hwf; (try dsimp only at hwf); (((apply opv_buildS); exact rfl; exact (rfl : _ = some [_, _, _]))))))
    refine vA_two 4 10 rfl rfl (by kernel_rfl) (by (first | exact trivial | assumption | infer_instance | (skip; done))) (fun K hK => ?_) (fun K hK => ?_)
    · (((apply vL_val); (case h => ((apply opv_loadb1); exact rfl; exact rfl; assumption; exact rfl))); apply vL_nil)
      refine ⟨rfl, hK _ _ ?_⟩
      refine vA_only 10 rfl (by kernel_rfl) (by (first | exact trivial | assumption | infer_instance | (skip; done))) (fun K hK => ?_)
      (((apply vL_val); (case h => ((apply opw_buildSl); exact rfl; exact rfl; exact rfl; exact (rfl : _ = some [_, _, _])))); apply vL_nil)
      refine ⟨rfl, hK _ _ ?_⟩
      have hwr : Rd (w4.alloc (.cells (sqE ⟨r.topic, r.part, r.fi + r.brs.length⟩).toArray 65)).heap 3 sqE (.slice (some ⟨w4.heap.size, 0, none⟩) 1 1) [(⟨r.topic, r.part, r.fi + r.brs.length⟩ : SQ)] := (Own.newN (T := 65) sqE [(⟨r.topic, r.part, r.fi + r.brs.length⟩ : SQ)] rfl rfl (by simp [maxLen])).rd
      have hal : Fr No w4 (w4.alloc (.cells (sqE ⟨r.topic, r.part, r.fi + r.brs.length⟩).toArray 65)) := (Fr.refl No w4).alloc _
      have ho4 := hof _ (hf4.trans hal)
      have hb5 := hb4.frN hal
      have h35 := h34.frN hal
      refine vA_only 11 rfl (by kernel_rfl) (by (first | exact trivial | assumption | infer_instance | (skip; done))) (fun K hK => ?_)
      refine vL_callF rfl (insq31 c.sv.1 (⟨r.topic, r.part, r.fi + r.brs.length⟩ : SQ) _ ho4 hwr) rfl ?_
      rintro u5 w5 ⟨ho5, hf5, hfr5, hone5⟩
      have hb6 := hb5.fr hf5 (fun h => Own.ne_blk ho4 hb5 (by decide) h)
      have h36 := h35.fr hf5 (fun h => Own.ne_blk ho4 h35 (by decide) h)
      refine vL_nil ⟨rfl, hK _ _ ?_⟩
      ((apply (tk 12)); (case hi => exact rfl); (case hf => kernel_rfl); (case hS => (first | exact trivial | assumption | infer_instance | (skip; done))); (case hy => (intro wf hwf; (try dsimp only at hwf); (((apply opv_E); exact rfl)))))
      ((apply (tk 13)); (case hi => exact rfl); (case hf => kernel_rfl); (case hS => (first | exact trivial | assumption | infer_instance | (skip; done))); (case hy => (intro wf hwf; (try dsimp only at hwf); (((apply opv_fieldAddr); exact rfl)))))
      refine vA_only 14 rfl (by kernel_rfl) (by (first | exact trivial | assumption | infer_instance | (skip; done))) (fun K hK => ?_)
      (((apply vL_skip); (case h => ((apply ops_store1); exact norm_eq rfl; ((conv => lhs; whnf) <;> exact rfl); (first | rfl | assumption); assumption; (first | decide | exact of_decide_eq_true rfl | (simp; done))))); apply vL_nil)
      refine ⟨rfl, hK _ _ ?_⟩
      refine vA_done (by kernel_rfl) (by (first | exact trivial | assumption | infer_instance | (skip; done))) ?_
      (apply blockP_normal)
      (first | apply ret0 | apply ret0n)
      have hfa : Fr No w _ := ((hfw3.drew).trans hf4).trans hal
      have hs4 := hf4.size
      have hsd : w3.heap.size ≤ w3.drew.heap.size := Nat.le_refl _
      refine ⟨rfl, ⟨u5, hone5⟩, Blk.as (Blk.set hb6) rfl, ho5.set (Own.ne_blk ho5 hb6 (by decide)), (hfa.no_any.trans' hf5 (fun k hk => .inl (.inr hk))).set _ _ (.inl (.inl rfl)), fun b hb => ?_⟩
      rcases hfr5 b hb with h | h
      · exact .inl h
      · rw [alloc_size] at h; exact .inr (by omega)
    · (((apply vL_val); (case h => ((apply opw_buildSl); exact rfl; exact rfl; exact rfl; exact (rfl : _ = some [_, _, _])))); apply vL_nil)
      refine ⟨rfl, hK _ _ ?_⟩
      refine vA_only 4 rfl (by kernel_rfl) (by (first | exact trivial | assumption | infer_instance | (skip; done))) (fun K hK => ?_)
      (((apply vL_val); (case h => ((apply opv_loadb1); exact rfl; exact rfl; infer_instance; exact rfl))); apply vL_nil)
      refine ⟨rfl, hK _ _ ?_⟩
      have hwr : Rd (w4.alloc (.cells (sqE ⟨r.topic, r.part, r.fi + r.brs.length⟩).toArray 65)).heap 3 sqE (.slice (some ⟨w4.heap.size, 0, none⟩) 1 1) [(⟨r.topic, r.part, r.fi + r.brs.length⟩ : SQ)] := (Own.newN (T := 65) sqE [(⟨r.topic, r.part, r.fi + r.brs.length⟩ : SQ)] rfl rfl (by simp [maxLen])).rd
      have hal : Fr No w4 (w4.alloc (.cells (sqE ⟨r.topic, r.part, r.fi + r.brs.length⟩).toArray 65)) := (Fr.refl No w4).alloc _
      have ho4 := hof _ (hf4.trans hal)
      have hb5 := hb4.frN hal
      have h35 := h34.frN hal
      refine vA_only 11 rfl (by kernel_rfl) (by (first | exact trivial | assumption | infer_instance | (skip; done))) (fun K hK => ?_)
      refine vL_callF rfl (insq31 c.sv.1 (⟨r.topic, r.part, r.fi + r.brs.length⟩ : SQ) _ ho4 hwr) rfl ?_
      rintro u5 w5 ⟨ho5, hf5, hfr5, hone5⟩
      have hb6 := hb5.fr hf5 (fun h => Own.ne_blk ho4 hb5 (by decide) h)
      have h36 := h35.fr hf5 (fun h => Own.ne_blk ho4 h35 (by decide) h)
      refine vL_nil ⟨rfl, hK _ _ ?_⟩
      ((apply (tk 12)); (case hi => exact rfl); (case hf => kernel_rfl); (case hS => (first | exact trivial | assumption | infer_instance | (skip; done))); (case hy => (intro wf hwf; (try dsimp only at hwf); (((apply opv_E); exact rfl)))))
      ((apply (tk 13)); (case hi => exact rfl); (case hf => kernel_rfl); (case hS => (first | exact trivial | assumption | infer_instance | (skip; done))); (case hy => (intro wf hwf; (try dsimp only at hwf); (((apply opv_fieldAddr); exact rfl)))))
      refine vA_only 14 rfl (by kernel_rfl) (by (first | exact trivial | assumption | infer_instance | (skip; done))) (fun K hK => ?_)
      (((apply vL_skip); (case h => ((apply ops_store1); exact norm_eq rfl; ((conv => lhs; whnf) <;> exact rfl); (first | rfl | assumption); assumption; (first | decide | exact of_decide_eq_true rfl | (simp; done))))); apply vL_nil)
      refine ⟨rfl, hK _ _ ?_⟩
      refine vA_done (by kernel_rfl) (by (first | exact trivial | assumption | infer_instance | (skip; done))) ?_
      (apply blockP_normal)
      (first | apply ret0 | apply ret0n)
      have hfa : Fr No w _ := ((hfw3.drew).trans hf4).trans hal
      have hs4 := hf4.size
      have hsd : w3.heap.size ≤ w3.drew.heap.size := Nat.le_refl _
      refine ⟨rfl, ⟨u5, hone5⟩, Blk.as (Blk.set hb6) rfl, ho5.set (Own.ne_blk ho5 hb6 (by decide)), (hfa.no_any.trans' hf5 (fun k hk => .inl (.inr hk))).set _ _ (.inl (.inl rfl)), fun b hb => ?_⟩
      rcases hfr5 b hb with h | h
      · exact .inl h
      · rw [alloc_size] at h; exact .inr (by omega)
end Go.Proofs.Ytchfaeaagpemlaa

set_option maxRecDepth 100000
namespace Go.Proofs.Ytchfaeaagpemlaa
open Go Go.Eng
theorem takeB31 (c : CL) (x : WT) (a : RP) (w : World) (R : R1 c) (hw : c.ws = [x]) (hm : matchB a x = true) (he : a.err = 0) (hld : 1 ≤ a.leader ∧ a.leader ≤ c.brokers) (hc : ClRd w.heap c) (hs : RqSz x.rq) (hkk : x.rq.k = 4) (hmk : x.rq.mkd = 2) (hpid : 1 ≤ a.mpid ∧ a.mpid ≤ 4611686018427387904) (hep : 0 ≤ a.mep ∧ a.mep ≤ 1073741824) (hrr : a.rrv = nilO) (hpl : a.mpl = nilO) :
    Rets Try.prog 8 #[.agg (clE c).toArray, .agg (rpE a).toArray] w fun u w' => ∃ c' b, u = .tuple #[.agg (clE c').toArray, .slice (some ⟨b, 0, none⟩) 1 1, .slice none 0 0] ∧ ClOwn w'.heap c' ∧ Fr No w w' ∧ c'.nf = ({ c with broker := a.leader, ws := [], pid := a.mpid, ep := a.mep, stale := false, ss := [] } : CL).nf := by
  have hw0 := c.wv.2
  have hs0 := c.sv.2
  have ha0 := a.rrv.2
  have ha1 := a.mpl.2
  refine rets_of Try.func8 rfl Try.ntmps8 rfl rfl (by kernel_rfl) ?_
  ((apply vC_seq; apply vC_region)); (((iterate 2 (((apply vL_val); (case h => ((apply opw_boxn); exact rfl))))); ((apply vL_val); (case h => (apply opw_alloc))); (iterate 2 (((apply vL_val); (case h => ((apply opv_E); exact rfl))))); apply vL_nil)); with_reducible apply seqP_normal
  ((apply vC_seq; apply vC_region))
  have e3 : (w.alloc (.cells (clE c).toArray 25)).heap.size = w.heap.size + 1 := by simp
  have e4 : ((w.alloc (.cells (clE c).toArray 25)).alloc (.cells (rpE a).toArray 56)).heap.size = w.heap.size + 2 := by simp
  refine vL_gen (fun w' => Fr No w w' ∧ Blk w'.heap w.heap.size (clE c) 25 ∧ Blk w'.heap (w.alloc (.cells (clE c).toArray 25)).heap.size (rpE a) 56 ∧ Blk w'.heap ((w.alloc (.cells (clE c).toArray 25)).alloc (.cells (rpE a).toArray 56)).heap.size clZ 25) ⟨by ((iterate 3 (apply Fr.alloc)); exact Fr.refl _ _), inferInstance, inferInstance, inferInstance⟩ ?_
  rintro w1 ⟨hf1, h2, h3, h4⟩
  rw [e3] at h3
  rw [e4] at h4
  rw [e3, e4]
  obtain ⟨b2, eb2⟩ : ∃ b2, b2 = w.heap.size := ⟨_, rfl⟩
  obtain ⟨b3, eb3⟩ : ∃ b3, b3 = w.heap.size + 1 := ⟨_, rfl⟩
  obtain ⟨b4, eb4⟩ : ∃ b4, b4 = w.heap.size + 2 := ⟨_, rfl⟩
  rw [← eb4] at h4 ⊢
  rw [← eb3] at h3 ⊢
  rw [← eb2] at h2 ⊢
  have hsz1 := hf1.size
  have hl4 := h4.lt
  (((apply vL_val); (case h => ((apply opv_fieldAddr); exact rfl))); ((apply vL_val); (case h => ((apply opv_loadb1); exact rfl; exact rfl; assumption; exact rfl))); ((apply vL_val); (case h => ((apply opv_makeFunc); exact rfl))))
  refine vL_callF rfl (indexFunc_wt _ _ (matchB a) c.ws _ 20 [.pointer (some ⟨b3, 0, none⟩)] (hc.1.frN hf1) rfl (fun y w1 hy hf => takec31 y a b3 w1 (h3.frN hf))) rfl ?_
  rintro u5 w2 ⟨hf2, hres⟩
  have h22 := h2.frN hf2
  have h32 := h3.frN hf2
  have h42 := h4.frN hf2
  have hf12 := hf1.trans hf2
  rcases hres with ⟨rfl, hno⟩ | ⟨k, rfl, hk, ⟨y, hy, hp⟩, _⟩
  · have := hno x (by rw [hw]; exact List.mem_singleton_self _)
    rw [hm] at this; cases this
  have hk0 : k = 0 := by rw [hw] at hk; have : k < 1 := hk; omega
  subst hk0
  clear hy hp y
  (((apply vL_val); (case h => ((apply opv_E); exact rfl))); apply vL_nil; apply seqP_normal; apply vC_seq; apply vC_region; ((apply vL_val); (case h => ((apply opv_loadbC); exact rfl; exact rfl; assumption; exact (rfl : _ = [_, _, _, _, _, _, _, _, _, _]); exact rfl))))
  refine vL_callF rfl (clone31 c w2 (hc.frN hf12) ⟨by rw [hw]; exact (show 1 ≤ 1000 by decide), by have := R.s1; omega, fun y hy => by rw [hw] at hy; rw [List.mem_singleton.1 hy]; exact hs⟩) rfl ?_
  rintro _ w3 ⟨c1, rfl, hnf, hc3, hfw3, hfs3, hf3⟩
  have hw1 := c1.wv.2
  have hs1 := c1.sv.2
  have h23 := h22.frN hf3
  have h33 := h32.frN hf3
  have h43 := h42.frN hf3
  have hf13 := hf12.trans hf3
  have hsz2 := hf12.size
  ((((apply vL_skip); (case h => ((apply ops_storen); exact norm_eq rfl; exact norm_eq rfl; exact rfl; exact (fun u hu => EncOk.one _ u hu); assumption; (first | decide | exact of_decide_eq_true rfl | (simp; done))))); apply vL_nil)); with_reducible apply seqP_normal
  (((iterate 2 (apply vC_seq)); apply vC_region))
  refine vL_gen (fun w' => Fr No w w' ∧ Blk w'.heap b2 (clE c1) 25 ∧ Blk w'.heap b3 (rpE a) 56 ∧ Blk w'.heap b4 clZ 25 ∧ ClOwn w'.heap c1) ⟨hf13.set _ _ (.inr (by omega)), Blk.as (Blk.set h23) rfl, h33.set_ne (by omega), h43.set_ne (by omega), hc3.frBlk h23 ⟨by decide, by decide, by decide⟩ ⟨by decide, by decide⟩ ((Fr.refl (fun k => k = b2) w3).set _ _ (.inl rfl))⟩ ?_
  rintro w4 ⟨hf4, h24, h34, h44, hc4⟩
  have hfwz : ∀ b, own c1.wv.1 = some b → w.heap.size + 3 ≤ b := fun b hb => by have := hfw3 b hb; have := hf2.size; omega
  have hfsz : ∀ b, own c1.sv.1 = some b → w.heap.size + 3 ≤ b := fun b hb => by have := hfs3 b hb; have := hf2.size; omega
  clear h22 h32 h42 h23 h33 h43 hc3 hfw3 hfs3 hf3 hf13 hf12 h2 h3 h4
  have R' := R1.nf hnf R
  have hnw : c1.now = c.now := by have := congrArg CL.now hnf; exact this
  have hbk : c1.brokers = c.brokers := by have := congrArg CL.brokers hnf; exact this
  obtain ⟨x1, hx1, hx1n⟩ : ∃ x1, c1.ws = [x1] ∧ x1.nf = x.nf := by
    have h1 : c1.ws.map WT.nf = c.ws.map WT.nf := by have := congrArg CL.ws hnf; exact this
    rw [hw] at h1
    obtain ⟨y, hy, e⟩ := List.map_eq_singleton_iff.1 h1
    exact ⟨y, hy, e⟩
  have hn0 := R.now
  ((iterate 3 (((apply vL_val); (case h => ((apply opv_E); exact rfl))))); ((apply vL_wanted); exact rfl); ((apply vL_val); (case h => ((apply opv_loadbC); exact rfl; exact rfl; assumption; exact (rfl : _ = [_, _, _, _, _, _, _, _, _, _]); exact rfl))); ((apply vL_wanted); exact rfl))
  refine vL_callF rfl (right31 c1 w4 hc4.rd R') rfl ?_
  rintro _ w5 ⟨rfl, hf5⟩
  have h25 := h24.frN hf5
  have h35 := h34.frN hf5
  have h45 := h44.frN hf5
  have hc5 := hc4.frN hf5
  have hfw5 := hf4.trans hf5
  have hcw5 := hc5.1
  rw [hx1] at hcw5
  have hxi : ([x1] : List WT)[((0 : Nat) : Int).toNat]? = some x1 := rfl
  have hxl : (((0 : Nat) : Int)) < (([x1] : List WT).length : Int) := Int.zero_lt_one
  clear h24 h34 h44 hc4 hf4 hf5
  haveI n23 : NeB b2 b3 := ⟨by omega⟩
  haveI n24 : NeB b2 b4 := ⟨by omega⟩
  haveI n34 : NeB b3 b4 := ⟨by omega⟩
  haveI n42 : NeB b4 b2 := ⟨by omega⟩
  haveI n32 : NeB b3 b2 := ⟨by omega⟩
  haveI n43 : NeB b4 b3 := ⟨by omega⟩
  haveI hoff : OffB c1.wv.1 b2 := ⟨Own.ne_blk hcw5 h25 (by decide)⟩
  have hbv1 := x1.rq.brv.2
  have htv1 := x1.rq.trv.2
  (((apply vL_wanted); exact rfl); ((apply vL_val); (case h => ((apply opv_not); exact rfl))); ((apply vL_val); (case h => ((apply opv_E); exact rfl))); apply vL_nil; apply seqP_normal; ((apply vC_cond_false); exact rfl); apply vC_skip; apply seqP_normal; apply vC_seq; apply vC_region; ((apply vL_val); (case h => ((apply opv_fieldAddr); exact rfl))); ((apply vL_val); (case h => ((apply opv_loadb1); exact rfl; exact rfl; assumption; exact rfl))); (iterate 2 (((apply vL_val); (case h => ((apply opv_E); exact rfl))))); (refine vL_and rfl rfl (fun _ => ?_) (fun h => by omega)); ((apply vL_val); (case h => ((apply opv_fieldAddr); exact rfl))); ((apply vL_wanted); exact rfl); ((apply vL_val); (case h => ((apply opv_loadb1); exact rfl; exact rfl; assumption; exact rfl))); ((apply vL_wanted); exact rfl); ((apply vL_val); (case h => ((apply opv_fieldAddr); exact rfl))); ((apply vL_wanted); exact rfl); ((apply vL_val); (case h => ((apply opv_loadb1); exact rfl; exact rfl; assumption; exact rfl))); ((apply vL_wanted); exact rfl); (iterate 3 (((apply vL_val); (case h => ((apply opv_E); exact rfl))))); apply vL_nil; apply seqP_normal; (iterate 2 (apply vC_seq)); apply vC_region; ((apply vL_val); (case h => ((apply opv_E); exact rfl))); apply vL_nil; apply seqP_normal; (refine vC_cond_dec rfl (fun _ => ?_) (fun h => by omega)); apply vC_region; ((apply vL_val); (case h => ((apply opv_fieldAddr); exact rfl))); ((apply vL_val); (case h => ((apply opv_loadb1); exact rfl; exact rfl; assumption; exact rfl))); ((apply vL_val); (case h => ((apply opv_fieldAddr); exact rfl))); ((apply vL_skip); (case h => ((apply ops_store1); exact norm_eq rfl; exact norm_eq rfl; (first | rfl | assumption); assumption; (first | decide | exact of_decide_eq_true rfl | (simp; done))))); apply vL_nil; apply seqP_normal; (iterate 2 (apply vC_seq)); apply vC_region; ((apply vL_val); (case h => ((apply opv_fieldAddr); exact rfl))); ((apply vL_val); (case h => ((apply opv_loadb1); exact rfl; exact rfl; infer_instance; exact rfl))); ((apply vL_val); (case h => ((apply opv_E); exact rfl))); apply vL_nil; apply seqP_normal; (refine vC_cond_dec rfl (fun h => by omega) (fun _ => ?_)); apply vC_skip; apply seqP_normal; apply vC_seq; apply vC_region; ((apply vL_val); (case h => ((apply opv_fieldAddr); exact rfl))); ((apply vL_val); (case h => ((apply opv_loadb1); exact rfl; exact rfl; infer_instance; exact rfl))); ((apply vL_val); (case h => ((apply opv_E); exact rfl))); ((apply vL_val); (case h => ((apply opv_indexAddr); ((conv => lhs; whnf) <;> exact rfl); exact rfl; infer_instance; (first | omega | (simp only [List.length_map]; omega)); (first | omega | (simp only [List.length_map]; omega))))); ((apply vL_val); (case h => ((apply opv_fieldAddr); exact rfl))))
  refine vL_gen (fun w' => Fr No w w' ∧ Blk w'.heap b2 (clE { c1 with broker := a.leader }) 25 ∧ Blk w'.heap b3 (rpE a) 56 ∧ Blk w'.heap b4 clZ 25 ∧ ClOwn w'.heap c1) ⟨hfw5.set _ _ (.inr (by omega)), Blk.as (Blk.set h25) rfl, h35.set_ne (by omega), h45.set_ne (by omega), hc5.frBlk h25 ⟨by decide, by decide, by decide⟩ ⟨by decide, by decide⟩ ((Fr.refl (fun k => k = b2) w5).set _ _ (.inl rfl))⟩ ?_
  rintro w6 ⟨hf6, h26, h36, h46, hc6⟩
  clear h25 h35 h45 hc5 hfw5 hcw5 hoff
  have ho6 := hc6.1
  rw [hx1] at ho6
  have hq6 : RqOwn w6.heap x1.rq := hc6.2.1 x1 (by rw [hx1]; exact List.mem_singleton_self _)
  have hs6 := hc6.2.2
  refine vL_val (opv_ld_elS (enc := wtE) (x0 := x1) (cs := rqE x1.rq) rfl rfl ho6.rd hxi rfl rfl) ?_
  ((((apply vL_val); (case h => (apply opw_alloc))); ((apply vL_skip); (case h => ((apply ops_storen); exact norm_eq rfl; exact norm_eq rfl; exact rfl; exact (fun u hu => EncOk.one _ u hu); infer_instance; (first | decide | exact of_decide_eq_true rfl | (simp; done))))); apply vL_nil)); with_reducible apply seqP_normal
  ((apply vC_seq; apply vC_region))
  refine vL_gen (fun w' => Fr No w6 w' ∧ w6.heap.size < w'.heap.size ∧ Blk w'.heap w6.heap.size (rqE x1.rq) 40) ⟨by (apply Fr.allocSet; exact Fr.refl _ _), by simp, Blk.as inferInstance rfl⟩ ?_
  rintro w7 ⟨hf7, hz7, h97⟩
  have h27 := h26.frN hf7
  have h37 := h36.frN hf7
  have h47 := h46.frN hf7
  have ho7 := ho6.frN hf7
  have hq7 := hq6.frN hf7
  have hs7 := hs6.frN hf7
  have hfw7 := hf6.trans hf7
  have hb69 : b4 < w6.heap.size := h46.lt
  obtain ⟨b9, eb9⟩ : ∃ b9, b9 = w6.heap.size := ⟨_, rfl⟩
  rw [← eb9] at h97 ⊢
  clear h26 h36 h46 hc6 hq6 hs6 hf6 ho6 hf7
  (((apply vL_val); (case h => ((apply opv_fieldAddr); exact rfl))); ((apply vL_val); (case h => ((apply opv_loadb1); exact rfl; exact rfl; assumption; exact rfl))); (iterate 2 (((apply vL_val); (case h => ((apply opv_E); exact rfl))))); ((apply vL_val); (case h => ((apply opv_add); exact rfl; exact rfl; (first | omega | (simp only [List.length_map]; omega))))))
  refine vL_callF rfl (deleteN_wt c1.wv.1 [x1] 0 w7 (Nat.zero_lt_one : 0 < 1) ho7) rfl ?_
  rintro wv2 w8 ⟨hf8, ho8, hov8, hone8⟩
  have h28 := h27.fr hf8 (fun h => Own.ne_blk ho7 h27 (by decide) h)
  have h38 := h37.fr hf8 (fun h => Own.ne_blk ho7 h37 (by decide) h)
  have h48 := h47.fr hf8 (fun h => Own.ne_blk ho7 h47 (by decide) h)
  have h98 := h97.fr hf8 (fun h => Own.ne_blk ho7 h97 (by decide) h)
  have hq8 := hq7.frOwn ho7 (by decide) (by decide) (by decide) hf8
  have hs8 := hs7.fr hf8 (fun b hb h => Own.ne_own hs7 ho7 (by decide) b hb h)
  have hfw8 : Fr No w w8 := hfw7.trans' hf8 (fun k hk => .inr (by have := hfwz k hk; omega))
  replace ho8 : Own w8.heap 42 26 wtE wv2 [] := ho8
  clear h27 h37 h47 hq7 hs7 hfw7 ho7 hf8 h97
  haveI n29 : NeB b2 b9 := ⟨by omega⟩
  haveI n92 : NeB b9 b2 := ⟨by omega⟩
  haveI n39 : NeB b3 b9 := ⟨by omega⟩
  haveI n93 : NeB b9 b3 := ⟨by omega⟩
  haveI n49 : NeB b4 b9 := ⟨by omega⟩
  haveI n94 : NeB b9 b4 := ⟨by omega⟩
  ((((apply vL_val); (case h => ((apply opv_fieldAddr); exact rfl))); ((apply vL_skip); (case h => ((apply ops_store1); exact norm_eq rfl; ((conv => lhs; whnf) <;> exact rfl); (first | rfl | assumption); assumption; (first | decide | exact of_decide_eq_true rfl | (simp; done))))); apply vL_nil)); with_reducible apply seqP_normal
  ((apply vC_seq; apply vC_block; apply vC_seq; apply vC_region))
  obtain ⟨c2, ec2⟩ : ∃ c2 : CL, c2 = { c1 with broker := a.leader, wv := ⟨wv2, hone8⟩, ws := [] } := ⟨_, rfl⟩
  refine vL_gen (fun w' => Fr No w w' ∧ Blk w'.heap b2 (clE c2) 25 ∧ Blk w'.heap b3 (rpE a) 56 ∧ Blk w'.heap b4 clZ 25 ∧ Blk w'.heap b9 (rqE x1.rq) 40 ∧ ClOwn w'.heap c2 ∧ RqOwn w'.heap x1.rq) ⟨hfw8.set _ _ (.inr (by omega)), Blk.as (Blk.set h28) (by rw [ec2]; rfl), h38.set_ne (by omega), h48.set_ne (by omega), h98.set_ne (by have := h28.lt; omega), (by rw [ec2]; exact ⟨ho8.set (Own.ne_blk ho8 h28 (by decide)), fun y hy => (by cases hy), hs8.set (Own.ne_blk hs8 h28 (by decide))⟩), hq8.frBlk h28 (by decide) (by decide) (by decide) ((Fr.refl (fun k => k = b2) w8).set _ _ (.inl rfl))⟩ ?_
  rintro w9 ⟨hf9, h29, h39, h49, h99, hc9, hq9⟩
  clear h28 h38 h48 h98 hq8 hs8 hfw8 ho8
  have hk1 : x1.rq.nf = x.rq.nf := by have := congrArg WT.rq hx1n; exact this
  have hw2 := c2.wv.2
  have hs2 := c2.sv.2
  have hov2 : ∀ b, own c2.wv.1 = some b → w.heap.size + 3 ≤ b := by rw [ec2]; intro b hb; exact hfwz b (hov8 ▸ hb)
  have hos2 : ∀ b, own c2.sv.1 = some b → w.heap.size + 3 ≤ b := by rw [ec2]; exact hfsz
  have hkk1 : x1.rq.k = 4 := by rw [← hkk]; have := congrArg RQ.k hk1; exact this
  have hmk1 : x1.rq.mkd = 2 := by rw [← hmk]; have := congrArg RQ.mkd hk1; exact this
  have hown : ownB c2 x1.rq = false := by unfold ownB; rw [decide_eq_false (by omega)]; rfl
  (((apply vL_val); (case h => ((apply opv_loadbC); exact rfl; exact rfl; assumption; exact (rfl : _ = [_, _, _, _, _, _, _, _, _, _]); exact rfl))); ((apply vL_val); (case h => ((apply opv_loadb); exact rfl; exact rfl; assumption; exact rfl))))
  refine vL_callF rfl (own31 c2 x1.rq w9) rfl ?_
  rintro _ w10 ⟨rfl, hf10⟩
  rw [hown]
  have h2x := h29.frN hf10
  have h3x := h39.frN hf10
  have h9x := h99.frN hf10
  (((apply vL_val); (case h => ((apply opv_E); exact rfl))); (iterate 3 (((apply vL_unwanted'); exact rfl; exact rfl))); (iterate 2 (((apply vL_val); (case h => ((apply opv_E); exact rfl))))); apply vL_nil; apply seqP_normal; ((apply vC_cond_false); exact rfl); apply vC_seq; apply vC_region; ((apply vL_val); (case h => ((apply opv_loadbC); exact rfl; exact rfl; assumption; exact (rfl : _ = [_, _, _, _, _, _, _, _, _, _]); exact rfl))); ((apply vL_val); (case h => ((apply opv_loadb); exact rfl; exact rfl; assumption; exact rfl))))
  refine vL_callF rfl (own31 c2 x1.rq w10) rfl ?_
  rintro _ w11 ⟨rfl, hf11⟩
  rw [hown]
  have hf911 := hf10.trans hf11
  have h2b := h29.frN hf911
  have h3b := h39.frN hf911
  have h4b := h49.frN hf911
  have h9b := h99.frN hf911
  have hcb := hc9.frN hf911
  have hqb := hq9.frN hf911
  have hfwb := hf9.trans hf911
  clear h29 h39 h49 h99 hc9 hq9 hf9 h2x h3x h9x hf10 hf11 hf911
  (((apply vL_val); (case h => ((apply opv_E); exact rfl))); (iterate 3 (((apply vL_unwanted'); exact rfl; exact rfl))); (iterate 2 (((apply vL_val); (case h => ((apply opv_E); exact rfl))))); apply vL_nil; apply seqP_normal; ((apply vC_cond_false); exact rfl); apply vC_seq; apply vC_region; ((apply vL_val); (case h => ((apply opv_fieldAddr); exact rfl))); ((apply vL_val); (case h => ((apply opv_loadb1); exact rfl; exact rfl; assumption; exact rfl))); (iterate 2 (((apply vL_val); (case h => ((apply opv_E); exact rfl))))); (refine vL_and rfl rfl (fun _ => ?_) (fun h => by omega)); ((apply vL_val); (case h => ((apply opv_fieldAddr); exact rfl))); ((apply vL_wanted); exact rfl); ((apply vL_val); (case h => ((apply opv_fieldAddr); exact rfl))); ((apply vL_wanted); exact rfl); ((apply vL_val); (case h => ((apply opv_loadb1); exact rfl; exact rfl; assumption; exact rfl))); ((apply vL_wanted); exact rfl); (iterate 3 (((apply vL_val); (case h => ((apply opv_E); exact rfl))))); (refine vL_and rfl rfl (fun _ => ?_) (fun h => by omega)); ((apply vL_val); (case h => ((apply opv_fieldAddr); exact rfl))); ((apply vL_wanted); exact rfl); ((apply vL_val); (case h => ((apply opv_loadb1); exact rfl; exact rfl; assumption; exact rfl))); ((apply vL_wanted); exact rfl); (iterate 3 (((apply vL_val); (case h => ((apply opv_E); exact rfl))))); apply vL_nil; apply seqP_normal; (refine vC_cond_dec rfl (fun _ => ?_) (fun h => by omega)); apply vC_seq; apply vC_region; (iterate 2 (((apply vL_val); (case h => ((apply opv_fieldAddr); exact rfl))))); ((apply vL_val); (case h => ((apply opv_loadb1); exact rfl; exact rfl; assumption; exact rfl))); (iterate 2 (((apply vL_val); (case h => ((apply opv_E); exact rfl))))); (refine vL_and rfl rfl (fun _ => ?_) (fun h => by omega)); ((apply vL_val); (case h => ((apply opv_fieldAddr); exact rfl))); ((apply vL_wanted); exact rfl); ((apply vL_val); (case h => ((apply opv_fieldAddr); exact rfl))); ((apply vL_wanted); exact rfl); ((apply vL_val); (case h => ((apply opv_loadb1); exact rfl; exact rfl; assumption; exact rfl))); ((apply vL_wanted); exact rfl); (iterate 3 (((apply vL_val); (case h => ((apply opv_E); exact rfl))))); (refine vL_and rfl rfl (fun _ => ?_) (fun h => by omega)); ((apply vL_val); (case h => ((apply opv_fieldAddr); exact rfl))); ((apply vL_wanted); exact rfl); ((apply vL_val); (case h => ((apply opv_fieldAddr); exact rfl))); ((apply vL_wanted); exact rfl); ((apply vL_val); (case h => ((apply opv_loadb1); exact rfl; exact rfl; assumption; exact rfl))); ((apply vL_wanted); exact rfl); (iterate 3 (((apply vL_val); (case h => ((apply opv_E); exact rfl))))); (refine vL_and rfl rfl (fun _ => ?_) (fun h => by omega)); ((apply vL_val); (case h => ((apply opv_fieldAddr); exact rfl))); ((apply vL_wanted); exact rfl); ((apply vL_val); (case h => ((apply opv_fieldAddr); exact rfl))); ((apply vL_wanted); exact rfl); ((apply vL_val); (case h => ((apply opv_loadb1); exact rfl; exact rfl; assumption; exact rfl))); ((apply vL_wanted); exact rfl); (iterate 2 (((apply vL_val); (case h => ((apply opv_E); exact rfl))))); apply vL_nil; apply seqP_normal; (refine vC_cond_dec rfl (fun _ => ?_) (fun h => by omega)))
  have h2bd := h2b.frN (Fr.refl No w11).drew
  have h3bd := h3b.frN (Fr.refl No w11).drew
  refine vC_draw' ((fun wf => Blk wf.heap b3 (rpE a) 56)) (by (first | exact trivial | assumption | infer_instance | (skip; done))) ?_
  ((apply (tk 0)); (case hi => exact rfl); (case hf => kernel_rfl); (case hS => (first | exact trivial | assumption | infer_instance | (skip; done))); (case hy => (intro wf hwf; (try dsimp only at hwf); (((apply opv_fieldAddr); exact rfl)))))
  ((apply (tk 1)); (case hi => exact rfl); (case hf => kernel_rfl); (case hS => (first | exact trivial | assumption | infer_instance | (skip; done))); (case hy => (intro wf hwf; (try dsimp only at hwf); (((apply opv_fieldAddr); exact rfl)))))
  ((apply (tk 2)); (case hi => exact rfl); (case hf => kernel_rfl); (case hS => (first | exact trivial | assumption | infer_instance | (skip; done))); (case hy => (intro wf hwf; (try dsimp only at hwf); (((apply opv_loadb1); exact rfl; exact rfl; assumption; exact rfl)))))
  ((apply (tk 3)); (case hi => exact rfl); (case hf => kernel_rfl); (case hS => (first | exact trivial | assumption | infer_instance | (skip; done))); (case hy => (intro wf hwf; (try dsimp only at hwf); (((apply opv_fieldAddr); exact rfl)))))
  ((apply (tk 4)); (case hi => exact rfl); (case hf => kernel_rfl); (case hS => (first | exact trivial | assumption | infer_instance | (skip; done))); (case hy => (intro wf hwf; (try dsimp only at hwf); (((apply opv_fieldAddr); exact rfl)))))
  ((apply (tk 5)); (case hi => exact rfl); (case hf => kernel_rfl); (case hS => (first | exact trivial | assumption | infer_instance | (skip; done))); (case hy => (intro wf hwf; (try dsimp only at hwf); (((apply opv_loadb1); exact rfl; exact rfl; assumption; exact rfl)))))
  ((apply (tk 6)); (case hi => exact rfl); (case hf => kernel_rfl); (case hS => (first | exact trivial | assumption | infer_instance | (skip; done))); (case hy => (intro wf hwf; (try dsimp only at hwf); (((apply opv_fieldAddr); exact rfl)))))
  refine vA_only 7 rfl (by kernel_rfl) (by (first | exact trivial | assumption | infer_instance | (skip; done))) (fun K hK => ?_)
  (((apply vL_skip); (case h => ((apply ops_store1); exact norm_eq rfl; exact norm_eq rfl; (first | rfl | assumption); assumption; (first | decide | exact of_decide_eq_true rfl | (simp; done))))); apply vL_nil)
  refine ⟨rfl, hK _ _ ?_⟩
  ((apply (tk 8)); (case hi => exact rfl); (case hf => kernel_rfl); (case hS => (first | exact trivial | assumption | infer_instance | (skip; done))); (case hy => (intro wf hwf; (try dsimp only at hwf); (((apply opv_fieldAddr); exact rfl)))))
  refine vA_only 9 rfl (by kernel_rfl) (by (first | exact trivial | assumption | infer_instance | (skip; done))) (fun K hK => ?_)
  (((apply vL_skip); (case h => ((apply ops_store1); exact norm_eq rfl; exact norm_eq rfl; (first | rfl | assumption); infer_instance; (first | decide | exact of_decide_eq_true rfl | (simp; done))))); apply vL_nil)
  refine ⟨rfl, hK _ _ ?_⟩
  ((apply (tk 10)); (case hi => exact rfl); (case hf => kernel_rfl); (case hS => (first | exact trivial | assumption | infer_instance | (skip; done))); (case hy => (intro wf hwf; (try dsimp only at hwf); (((apply opv_fieldAddr); exact rfl)))))
  refine vA_only 11 rfl (by kernel_rfl) (by (first | exact trivial | assumption | infer_instance | (skip; done))) (fun K hK => ?_)
  (((apply vL_skip); (case h => ((apply ops_store1); exact norm_eq rfl; exact norm_eq rfl; (first | rfl | assumption); infer_instance; (first | decide | exact of_decide_eq_true rfl | (simp; done))))); apply vL_nil)
  refine ⟨rfl, hK _ _ ?_⟩
  ((apply (tk 12)); (case hi => exact rfl); (case hf => kernel_rfl); (case hS => (first | exact trivial | assumption | infer_instance | (skip; done))); (case hy => (intro wf hwf; (try dsimp only at hwf); (((apply opv_fieldAddr); exact rfl)))))
  refine vA_only 13 rfl (by kernel_rfl) (by (first | exact trivial | assumption | infer_instance | (skip; done))) (fun K hK => ?_)
  (((apply vL_skip); (case h => ((apply ops_store1); exact norm_eq rfl; exact norm_eq rfl; (first | rfl | assumption); infer_instance; (first | decide | exact of_decide_eq_true rfl | (simp; done))))); apply vL_nil)
  refine ⟨rfl, hK _ _ ?_⟩
  refine vA_done (by kernel_rfl) (by (first | exact trivial | assumption | infer_instance | (skip; done))) ?_
  ((apply blockP_normal; apply seqP_normal; apply vC_seq; apply vC_region))
  obtain ⟨c3, ec3⟩ : ∃ c3 : CL, c3 = { c2 with pid := a.mpid, ep := a.mep, stale := false, sv := nilO, ss := [] } := ⟨_, rfl⟩
  have hcl3 : ∀ w', Fr (fun k => k = b2) w11 w' → ClOwn w'.heap c3 := fun w' h => by
    have hA := hcb.frBlk h2b ⟨by decide, by decide, by decide⟩ ⟨by decide, by decide⟩ h
    rw [ec3]
    exact ⟨hA.1, hA.2.1, Own.nil _ _ _ _⟩
  refine vL_gen (fun w' => Fr No w w' ∧ Blk w'.heap b2 (clE c3) 25 ∧ Blk w'.heap b3 (rpE a) 56 ∧ Blk w'.heap b4 clZ 25 ∧ ClOwn w'.heap c3) ⟨((((hfwb.drew).set _ _ (.inr (by omega))).set _ _ (.inr (by omega))).set _ _ (.inr (by omega))).set _ _ (.inr (by omega)), Blk.as (Blk.set (Blk.set (Blk.set (Blk.set h2bd)))) (by rw [ec3]; rfl), inferInstance, ((((h4b.frN (Fr.refl No w11).drew).set_ne (by omega)).set_ne (by omega)).set_ne (by omega)).set_ne (by omega), hcl3 _ (((((Fr.refl (fun k => k = b2) w11).drew.set _ _ (.inl rfl)).set _ _ (.inl rfl)).set _ _ (.inl rfl)).set _ _ (.inl rfl))⟩ ?_
  rintro w12 ⟨hfC, h2C, h3C, h4C, hcC⟩
  clear h2b h3b h4b h9b hcb hqb hfwb h2bd h3bd
  have hnfc : c3.nf = ({ c with broker := a.leader, ws := [], pid := a.mpid, ep := a.mep, stale := false, ss := [] } : CL).nf := by
    have e2 : c1.id = c.id := by have := congrArg CL.id hnf; exact this
    have e3 : c1.next = c.next := by have := congrArg CL.next hnf; exact this
    rw [ec3, ec2]
    show ({ c1 with broker := a.leader, wv := nilO, sv := nilO, ws := [], pid := a.mpid, ep := a.mep, stale := false, ss := [] } : CL) = { c with broker := a.leader, wv := nilO, sv := nilO, ws := [], pid := a.mpid, ep := a.mep, stale := false, ss := [] }
    rw [hnw, hbk, e2, e3]
  have hw3 := c3.wv.2
  have hs3 := c3.sv.2
  have har : Rd w12.heap 1 brE a.rrv.1 [] := by rw [hrr]; exact (Own.nil w12.heap 71 1 brE).rd
  (((apply vL_val); (case h => ((apply opv_fieldAddr); exact rfl))); ((apply vL_val); (case h => ((apply opv_loadb1); exact rfl; exact rfl; assumption; exact rfl))))
  refine vL_callF rfl (clone_br a.rrv.1 [] w12 har (by simp)) rfl ?_
  rintro rv2 w13 ⟨hf13, hr13, hrf13, hone13⟩
  have h2d := h2C.frN hf13
  have h3d := h3C.frN hf13
  have h4d := h4C.frN hf13
  have hcd := hcC.frN hf13
  have hfwd := hfC.trans hf13
  ((((apply vL_val); (case h => ((apply opv_fieldAddr); exact rfl))); ((apply vL_skip); (case h => ((apply ops_store1); exact norm_eq rfl; ((conv => lhs; whnf) <;> exact rfl); (first | rfl | assumption); assumption; (first | decide | exact of_decide_eq_true rfl | (simp; done))))); apply vL_nil)); with_reducible apply seqP_normal
  (((iterate 2 (apply vC_seq)); apply vC_region))
  refine vL_gen (fun w' => Fr No w w' ∧ Blk w'.heap b2 (clE c3) 25 ∧ Blk w'.heap b3 (rpE { a with rrv := ⟨rv2, hone13⟩ }) 56 ∧ Blk w'.heap b4 clZ 25 ∧ ClOwn w'.heap c3 ∧ Rd w'.heap 1 brE rv2 []) ⟨hfwd.set _ _ (.inr (by omega)), h2d.set_ne (by omega), Blk.as (Blk.set h3d) rfl, h4d.set_ne (by omega), hcd.frBlk h3d ⟨by decide, by decide, by decide⟩ ⟨by decide, by decide⟩ ((Fr.refl (fun k => k = b3) w13).set _ _ (.inl rfl)), (hr13.set (Own.ne_blk hr13 h3d (by decide))).rd⟩ ?_
  rintro w14 ⟨hf14, h2e, h3e, h4e, hce, hre⟩
  clear h2C h3C h4C hcC hfC h2d h3d h4d hcd hfwd hf13 hr13 har
  have hl0 : (([] : List (OV × List Int)).length : Int) = 0 := rfl
  (((apply vL_val); (case h => ((apply opv_fieldAddr); exact rfl))); ((apply vL_val); (case h => ((apply opv_loadb1); exact rfl; exact rfl; assumption; exact rfl))); ((apply vL_val); (case h => ((apply opv_len); ((conv => lhs; whnf) <;> exact rfl); assumption))); ((apply vL_val); (case h => ((apply opv_E); exact rfl))); apply vL_nil; apply seqP_normal; apply vC_block)
  (apply vC_loop1 748243166387255703404092769199714522219473214112768 155 (fun u w' => u = .int .i64 0 ∧ Fr No w w' ∧ Blk w'.heap b2 (clE c3) 25 ∧ Blk w'.heap b3 (rpE { a with rrv := ⟨rv2, hone13⟩ }) 56 ∧ Blk w'.heap b4 clZ 25 ∧ ClOwn w'.heap c3) (fun _ _ => 0)); (case h1 => (exact norm_eq rfl))
  case h0 => exact ⟨rfl, hf14, h2e, h3e, h4e, hce⟩
  case round =>
  clear h2e h3e h4e hce hre hf14
  rintro junk _ w15 ⟨rfl, hf15, h2f, h3f, h4f, hcf⟩
  have hap : Rd w15.heap 2 tE a.mpl.1 [] := by rw [hpl]; exact (Own.nil w15.heap 36 2 tE).rd
  (apply vC_seq; apply vC_region; ((apply vL_val); (case h => ((apply opv_E); exact rfl))); apply vL_nil; apply seqP_normal; apply vC_seq; ((apply vC_cond_false); exact rfl); apply vC_exit; apply seqP_exit; apply loopP_exit; apply blockP_exit; apply seqP_normal; apply vC_seq; apply vC_region; (iterate 2 (((apply vL_val); (case h => ((apply opv_fieldAddr); exact rfl))))); ((apply vL_val); (case h => ((apply opv_loadb1); exact rfl; exact rfl; assumption; exact rfl))))
  refine vL_callF rfl (clone_pl a.mpl.1 [] w15 hap (by simp)) rfl ?_
  rintro pv2 w16 ⟨hf16, hr16, hrf16, hone16⟩
  have h2g := h2f.frN hf16
  have h3g := h3f.frN hf16
  have h4g := h4f.frN hf16
  have hcg := hcf.frN hf16
  have hfwg := hf15.trans hf16
  (((iterate 2 (((apply vL_val); (case h => ((apply opv_fieldAddr); exact rfl))))); ((apply vL_skip); (case h => ((apply ops_store1); exact norm_eq rfl; ((conv => lhs; whnf) <;> exact rfl); (first | rfl | assumption); assumption; (first | decide | exact of_decide_eq_true rfl | (simp; done))))); apply vL_nil)); with_reducible apply seqP_normal
  ((apply vC_seq))
  refine vC_gen (fun w' => Fr No w w' ∧ Blk w'.heap b2 (clE c3) 25 ∧ Blk w'.heap b3 (rpE { a with rrv := ⟨rv2, hone13⟩, mpl := ⟨pv2, hone16⟩ }) 56 ∧ Blk w'.heap b4 clZ 25 ∧ ClOwn w'.heap c3) ⟨hfwg.set _ _ (.inr (by omega)), h2g.set_ne (by omega), Blk.as (Blk.set h3g) rfl, h4g.set_ne (by omega), hcg.frBlk h3g ⟨by decide, by decide, by decide⟩ ⟨by decide, by decide⟩ ((Fr.refl (fun k => k = b3) w16).set _ _ (.inl rfl))⟩ ?_
  rintro w17 ⟨hf17, h2h, h3h, h4h, hch⟩
  clear h2f h3f h4f hcf h2g h3g h4g hcg hfwg hf16 hf15 hap hr16
  obtain ⟨a2, ea2⟩ : ∃ a2 : RP, a2 = { a with rrv := ⟨rv2, hone13⟩, mpl := ⟨pv2, hone16⟩ } := ⟨_, rfl⟩
  rw [← ea2] at h3h
  have ha21 := a2.rrv.2
  have ha22 := a2.mpl.2
  have h2hd := h2h.frN (Fr.refl No w17).drew
  have h3hd := h3h.frN (Fr.refl No w17).drew
  have h4hd := h4h.frN (Fr.refl No w17).drew
  refine vC_draw' ((fun wf => Blk wf.heap b2 (clE c3) 25 ∧ Blk wf.heap b3 (rpE a2) 56)) (by (first | exact trivial | assumption | infer_instance | (refine ⟨?_, ?_⟩ <;> (first | assumption | infer_instance)) | (skip; done))) ?_
  ((apply (tk 0)); (case hi => exact rfl); (case hf => kernel_rfl); (case hS => (first | exact trivial | assumption | infer_instance | (refine ⟨?_, ?_⟩ <;> (first | assumption | infer_instance)) | (skip; done))); (case hy => (rintro wf ⟨hwa, hwb⟩; (((apply opv_loadbC); exact rfl; exact rfl; assumption; exact (rfl : _ = [_, _, _, _, _, _, _, _, _, _]); exact rfl)))))
  ((apply (tk 1)); (case hi => exact rfl); (case hf => kernel_rfl); (case hS => (first | exact trivial | assumption | infer_instance | (refine ⟨?_, ?_⟩ <;> (first | assumption | infer_instance)) | (skip; done))); (case hy => (rintro wf ⟨hwa, hwb⟩; (((apply opv_fieldAddr); exact rfl)))))
  ((apply (tk 2)); (case hi => exact rfl); (case hf => kernel_rfl); (case hS => (first | exact trivial | assumption | infer_instance | (refine ⟨?_, ?_⟩ <;> (first | assumption | infer_instance)) | (skip; done))); (case hy => (rintro wf ⟨hwa, hwb⟩; (((apply opv_loadb1); exact rfl; exact rfl; assumption; exact rfl)))))
  ((apply (tk 3)); (case hi => exact rfl); (case hf => kernel_rfl); (case hS => (first | exact trivial | assumption | infer_instance | (refine ⟨?_, ?_⟩ <;> (first | assumption | infer_instance)) | (skip; done))); (case hy => (rintro wf ⟨hwa, hwb⟩; (((apply opv_fieldAddr); exact rfl)))))
  ((apply (tk 4)); (case hi => exact rfl); (case hf => kernel_rfl); (case hS => (first | exact trivial | assumption | infer_instance | (refine ⟨?_, ?_⟩ <;> (first | assumption | infer_instance)) | (skip; done))); (case hy => (rintro wf ⟨hwa, hwb⟩; (((apply opv_loadb1); exact rfl; exact rfl; assumption; exact rfl)))))
  ((apply (tk 5)); (case hi => exact rfl); (case hf => kernel_rfl); (case hS => (first | exact trivial | assumption | infer_instance | (refine ⟨?_, ?_⟩ <;> (first | assumption | infer_instance)) | (skip; done))); (case hy => (rintro wf ⟨hwa, hwb⟩; exact opv_loadbC (cs := rpE a2) rfl rfl hwb rfl rfl)))
  ((apply (tk 6)); (case hi => exact rfl); (case hf => kernel_rfl); (case hS => (first | exact trivial | assumption | infer_instance | (refine ⟨?_, ?_⟩ <;> (first | assumption | infer_instance)) | (skip; done))); (case hy => (rintro wf ⟨hwa, hwb⟩; (((apply opv_buildS); exact rfl; exact (rfl : _ = some [_, _, _, _, _, _, _, _, _, _, _, _, _, _, _, _, _, _]))))))
  refine vA_two 7 8 rfl rfl (by kernel_rfl) (by (first | exact trivial | assumption | infer_instance | (refine ⟨?_, ?_⟩ <;> (first | assumption | infer_instance)) | (skip; done))) (fun K hK => ?_) (fun K hK => ?_)
  · (((apply vL_val); (case h => ((apply opw_buildSl); exact rfl; exact rfl; exact rfl; exact (rfl : _ = some [_, _, _, _, _, _, _, _, _, _, _, _, _, _, _, _, _, _])))); apply vL_nil)
    refine ⟨rfl, hK _ _ ?_⟩
    refine vA_only 8 rfl (by kernel_rfl) (by (first | exact trivial | assumption | infer_instance | (refine ⟨?_, ?_⟩ <;> (first | assumption | infer_instance)) | (skip; done))) (fun K hK => ?_)
    (((apply vL_skip); (case h => ((apply ops_storen); exact norm_eq rfl; exact norm_eq rfl; exact rfl; (intro u hu; simp only [List.mem_cons, List.not_mem_nil, or_false] at hu; rcases hu with rfl | rfl | rfl | rfl | rfl | rfl | rfl | rfl | rfl | rfl <;> (first | rfl | assumption)); infer_instance; (first | decide | exact of_decide_eq_true rfl | (simp; done))))); apply vL_nil)
    refine ⟨rfl, hK _ _ ?_⟩
    ((apply (tk 9)); (case hi => exact rfl); (case hf => kernel_rfl); (case hS => (first | exact trivial | assumption | infer_instance | (refine ⟨?_, ?_⟩ <;> (first | assumption | infer_instance)) | (skip; done))); (case hy => (rintro wf ⟨hwa, hwb⟩; (((apply opv_E); exact rfl)))))
    ((apply (tk 10)); (case hi => exact rfl); (case hf => kernel_rfl); (case hS => (first | exact trivial | assumption | infer_instance | (refine ⟨?_, ?_⟩ <;> (first | assumption | infer_instance)) | (skip; done))); (case hy => (rintro wf ⟨hwa, hwb⟩; (((apply opv_E); exact rfl)))))
    refine vA_done (by kernel_rfl) (by (first | exact trivial | assumption | infer_instance | (refine ⟨?_, ?_⟩ <;> (first | assumption | infer_instance)) | (skip; done))) ?_
    (apply seqP_normal; apply vC_ret)
    (apply retC3; (case ha => exact rfl); (case hD => exact rfl); (case hb => (infer_instance)); (case hcs => exact (rfl : _ = clE c3)); (case hl => exact rfl); (case hu => (exact norm_eq rfl)); (case hu2 => (exact norm_eq rfl)))
    exact ⟨c3, _, rfl, hch.frBlk h4h ⟨by decide, by decide, by decide⟩ ⟨by decide, by decide⟩ ((((Fr.refl (fun k => k = b4) w17).drew).alloc _).set _ _ (.inl rfl)), hf17.trans' ((((Fr.refl (fun k => k = b4) w17).drew).alloc _).set _ _ (.inl rfl)) (fun k hk => .inr (by omega)), hnfc⟩
  · (((apply vL_skip); (case h => ((apply ops_storen); exact norm_eq rfl; exact norm_eq rfl; exact rfl; (intro u hu; simp only [List.mem_cons, List.not_mem_nil, or_false] at hu; rcases hu with rfl | rfl | rfl | rfl | rfl | rfl | rfl | rfl | rfl | rfl <;> (first | rfl | assumption)); assumption; (first | decide | exact of_decide_eq_true rfl | (simp; done))))); apply vL_nil)
    refine ⟨rfl, hK _ _ ?_⟩
    refine vA_only 7 rfl (by kernel_rfl) (by (first | exact trivial | assumption | infer_instance | (refine ⟨?_, ?_⟩ <;> (first | assumption | infer_instance)) | (skip; done))) (fun K hK => ?_)
    (((apply vL_val); (case h => ((apply opw_buildSl); exact rfl; exact rfl; exact rfl; exact (rfl : _ = some [_, _, _, _, _, _, _, _, _, _, _, _, _, _, _, _, _, _])))); apply vL_nil)
    refine ⟨rfl, hK _ _ ?_⟩
    ((apply (tk 9)); (case hi => exact rfl); (case hf => kernel_rfl); (case hS => (first | exact trivial | assumption | infer_instance | (refine ⟨?_, ?_⟩ <;> (first | assumption | infer_instance)) | (skip; done))); (case hy => (rintro wf ⟨hwa, hwb⟩; (((apply opv_E); exact rfl)))))
    ((apply (tk 10)); (case hi => exact rfl); (case hf => kernel_rfl); (case hS => (first | exact trivial | assumption | infer_instance | (refine ⟨?_, ?_⟩ <;> (first | assumption | infer_instance)) | (skip; done))); (case hy => (rintro wf ⟨hwa, hwb⟩; (((apply opv_E); exact rfl)))))
    refine vA_done (by kernel_rfl) (by (first | exact trivial | assumption | infer_instance | (refine ⟨?_, ?_⟩ <;> (first | assumption | infer_instance)) | (skip; done))) ?_
    (apply seqP_normal; apply vC_ret)
    (apply retC3; (case ha => exact rfl); (case hD => exact rfl); (case hb => (infer_instance)); (case hcs => exact (rfl : _ = clE c3)); (case hl => exact rfl); (case hu => (exact norm_eq rfl)); (case hu2 => (exact norm_eq rfl)))
    exact ⟨c3, _, rfl, hch.frBlk h4h ⟨by decide, by decide, by decide⟩ ⟨by decide, by decide⟩ ((((Fr.refl (fun k => k = b4) w17).drew).set _ _ (.inl rfl)).alloc _), hf17.trans' ((((Fr.refl (fun k => k = b4) w17).drew).set _ _ (.inl rfl)).alloc _) (fun k hk => .inr (by omega)), hnfc⟩
end Go.Proofs.Ytchfaeaagpemlaa
