/- Layer 31: a request is put (where nothing waits yet).
Layer 31: Ask (where nothing waits yet).
Layer 31: find, where there is one sequence at the most.
Layer 31: who waits, by what it is.
Layer 31: Produce.
Layer 31: Produce, where one waits at the place.
Layer 31: Tick, where one waits and is due.
Layer 31: answers; Take, where nobody waits for it. -/
import Derived.Test.YtchfaeaagpemlaaX2
import Derived.Lib.Bytealg
set_option maxRecDepth 100000
namespace Go.Proofs.Ytchfaeaagpemlaa
open Go Go.Eng
def PutP (c : CL) (r : RQ) (c' : CL) (sd : SD) : Prop := c'.id = c.id ∧ c'.brokers = c.brokers ∧ c'.next = c.next + 1 ∧ c'.now = c.now ∧ c'.broker = c.broker ∧ c'.pid = c.pid ∧ c'.ep = c.ep ∧ c'.stale = c.stale ∧ c'.ss = c.ss ∧ sd.to = c.broker ∧ sd.rq.nf = ({ r with cl := c.id, call := c.next } : RQ).nf ∧
  ∃ x : WT, c'.ws = [x] ∧ x.rq.nf = ({ r with cl := c.id, call := c.next } : RQ).nf ∧ x.due = c.now + 8 ∧ x.tries = 1 ∧ x.broker = c.broker % c.brokers + 1
section
variable {P : Program} {e : Env} {w : World} {R : Value → World → Prop}
theorem retC3 {a u u2 t b o sz by' : Nat} {z c cs : List Value} {T : TypeId} {D : TypeDesc} {v' v2 : Value} [TUnd P t D] [TInfo P t sz by' z] (ha : e a = .pointer (some ⟨b, o, none⟩)) (hD : aggD D = true) (hb : Blk w.heap b c T) (hcs : (c.drop o).take sz = cs) (hl : cs.length = sz) (hu : e u = v') (hu2 : e u2 = v2) (h : R (.tuple #[.agg cs.toArray, v', v2]) w) : retP P [.cell a t, .tmp u, .tmp u2] R .ret e w := by
  subst hcs
  have h1 := run_loadCells_of (P := P) (blk_cells hb (o := o) (sz := sz))
  rw [hl] at h1
  refine ⟨[.agg ((c.drop o).take sz).toArray, v', v2], ⟨⟨_, ha, ?_⟩, hu, hu2, trivial⟩, h⟩
  simp [loadVar, run_isAgg, hD, run_sizeOf' (P := P) (t := t), h1]
end
theorem put31 (c : CL) (r : RQ) (w : World) (hw : c.ws = []) (hn : 1 ≤ c.next ∧ c.next < 1099511627776) (hnow : 0 ≤ c.now ∧ c.now ≤ 1099511627776) (hb : 1 ≤ c.broker ∧ c.broker ≤ 1000) (hbs : 1 ≤ c.brokers ∧ c.brokers ≤ 1000) (hc : ClRd w.heap c) (hsl : c.ss.length ≤ 1000) (hr : RqRd w.heap r) (hs : RqSz r) :
    Rets Try.prog 34 #[.agg (clE c).toArray, .agg (rqE r).toArray] w fun u w' => ∃ c' lv sd, u = .tuple #[.agg (clE c').toArray, lv, .int .i64 0] ∧ Own w'.heap 48 24 sdE lv [sd] ∧ lv.oneCell' = true ∧ ClOwn w'.heap c' ∧ (∀ b, own c'.wv.1 = some b → w.heap.size ≤ b) ∧ (∀ b, own c'.sv.1 = some b → w.heap.size ≤ b) ∧ Fr No w w' ∧ PutP c r c' sd := by
  have hw0 := c.wv.2
  have hs0 := c.sv.2
  have hb0 := r.brv.2
  have ht0 := r.trv.2
  have hwl : c.ws.length = 0 := by rw [hw]; rfl
  refine rets_of Try.func34 rfl Try.ntmps34 rfl rfl (by kernel_rfl) ?_
  ((apply vC_seq; apply vC_region)); (((iterate 2 (((apply vL_val); (case h => ((apply opw_boxn); exact rfl))))); ((apply vL_val); (case h => (apply opw_alloc))); (iterate 2 (((apply vL_val); (case h => ((apply opv_E); exact rfl))))); apply vL_nil)); with_reducible apply seqP_normal
  (((iterate 2 (apply vC_seq))))
  have e3 : (w.alloc (.cells (clE c).toArray 25)).heap.size = w.heap.size + 1 := by simp
  have e4 : ((w.alloc (.cells (clE c).toArray 25)).alloc (.cells (rqE r).toArray 40)).heap.size = w.heap.size + 2 := by simp
  refine vC_gen (fun w' => Fr No w w' ∧ Blk w'.heap w.heap.size (clE c) 25 ∧ Blk w'.heap (w.alloc (.cells (clE c).toArray 25)).heap.size (rqE r) 40 ∧ Blk w'.heap ((w.alloc (.cells (clE c).toArray 25)).alloc (.cells (rqE r).toArray 40)).heap.size clZ 25) ⟨by ((iterate 3 (apply Fr.alloc)); exact Fr.refl _ _), inferInstance, inferInstance, inferInstance⟩ ?_
  rintro w1 ⟨hf1, h2, h3, h4⟩
  rw [e3] at h3
  rw [e4] at h4
  rw [e3, e4]
  obtain ⟨b2, eb2⟩ : ∃ b2, b2 = w.heap.size := ⟨_, rfl⟩
  obtain ⟨b3, eb3⟩ : ∃ b3, b3 = w.heap.size + 1 := ⟨_, rfl⟩
  obtain ⟨b4, eb4⟩ : ∃ b4, b4 = w.heap.size + 2 := ⟨_, rfl⟩
  rw [← eb4] at h4 ⊢
  rw [← eb3] at h3 ⊢
  rw [← eb2] at h2 ⊢
  have hsz1 := hf1.size
  have hl4 := h4.lt
  have hc1 := hc.1.frN hf1
  obtain ⟨va, vc, ev⟩ := hc1.len
  have hrs1 := hr.frN hf1
  have hcr1 := hc.frN hf1
  (with_reducible apply vC_drawQ); (((apply vQ_op); (case hi => exact rfl); (case hf => kernel_rfl); (case hS => exact Dr.refl _); (case hy => (intro j; ((apply opv_fieldAddr); exact rfl)))); ((apply vQ_op); (case hi => exact rfl); (case hf => kernel_rfl); (case hS => exact Dr.refl _); (case hy => (intro j; ((apply opv_loadb1); exact rfl; exact rfl; assumption; exact rfl)))); ((apply vQ_op); (case hi => exact rfl); (case hf => kernel_rfl); (case hS => exact Dr.refl _); (case hy => (intro j; ((apply opv_len); ((conv => lhs; whnf) <;> exact rfl); assumption)))); (iterate 2 (((apply vQ_op); (case hi => exact rfl); (case hf => kernel_rfl); (case hS => exact Dr.refl _); (case hy => (intro j; ((apply opv_E); exact rfl)))))); (refine vQ_gF rfl rfl rfl (by omega) ?_); (iterate 10 (((apply vQ_unwanted); (case hi => exact rfl); (case hg => exact rfl); (case hne => exact rfl); (case hf => kernel_rfl); (case hS => exact Dr.refl _)))); ((apply vQ_op); (case hi => exact rfl); (case hf => kernel_rfl); (case hS => exact Dr.refl _); (case hy => (intro j; ((apply opv_E); exact rfl)))); ((apply vQ_end); (case hi => exact rfl); (case hf => kernel_rfl); (case hS => exact Dr.refl _)))
  (apply seqP_normal; ((apply vC_cond_false); exact rfl); apply vC_skip; apply seqP_normal; (iterate 2 (apply vC_seq)); apply vC_region; ((apply vL_val); (case h => ((apply opv_fieldAddr); exact rfl))); ((apply vL_val); (case h => ((apply opv_loadb1); exact rfl; exact rfl; assumption; exact rfl))); ((apply vL_val); (case h => ((apply opv_len); ((conv => lhs; whnf) <;> exact rfl); assumption))); (iterate 2 (((apply vL_val); (case h => ((apply opv_E); exact rfl))))); (refine vL_or rfl rfl (fun _ => ?_) (fun h => by omega)); ((apply vL_val); (case h => ((apply opv_fieldAddr); exact rfl))); ((apply vL_wanted); exact rfl); ((apply vL_val); (case h => ((apply opv_loadb1); exact rfl; exact rfl; assumption; exact rfl))); ((apply vL_wanted); exact rfl); (iterate 2 (((apply vL_val); (case h => ((apply opv_E); exact rfl))))); apply vL_nil; apply seqP_normal; (refine vC_cond_dec rfl (fun h => by omega) (fun _ => ?_)); apply vC_skip; apply seqP_normal; apply vC_seq; apply vC_region; ((apply vL_val); (case h => ((apply opv_loadbC); exact rfl; exact rfl; assumption; exact (rfl : _ = [_, _, _, _, _, _, _, _, _, _]); exact rfl))))
  refine vL_gen (fun w' => Fr No w1 w') ((Fr.refl No w1).drew) ?_
  intro w2 hf2
  have h22 := h2.frN hf2
  have h32 := h3.frN hf2
  have h42 := h4.frN hf2
  refine vL_callF rfl (clone31 c _ (hcr1.frN hf2) ⟨by omega, hsl, fun x hx => by rw [hw] at hx; cases hx⟩) rfl ?_
  rintro _ w3 ⟨c1, rfl, hnf1, hc3, hfw3, hfs3, hf3⟩
  have hf23 := hf2.trans hf3
  have h23 := h22.frN hf3
  have h33 := h32.frN hf3
  have h43 := h42.frN hf3
  have hw1 := c1.wv.2
  have hs1 := c1.sv.2
  ((((apply vL_skip); (case h => ((apply ops_storen); exact norm_eq rfl; exact norm_eq rfl; exact rfl; exact (fun u hu => EncOk.one _ u hu); assumption; (first | decide | exact of_decide_eq_true rfl | (simp; done))))); apply vL_nil)); with_reducible apply seqP_normal
  ((apply vC_seq; apply vC_region))
  refine vL_gen (fun w' => Fr No w w' ∧ Blk w'.heap b2 (clE c1) 25 ∧ Blk w'.heap b3 (rqE r) 40 ∧ Blk w'.heap b4 clZ 25 ∧ ClOwn w'.heap c1) ⟨(hf1.trans hf23).set _ _ (.inr (by omega)), Blk.as (Blk.set h23) rfl, h33.set_ne (by omega), h43.set_ne (by omega), hc3.frBlk h23 ⟨by decide, by decide, by decide⟩ ⟨by decide, by decide⟩ ((Fr.refl (fun k => k = b2) w3).set _ _ (.inl rfl))⟩ ?_
  rintro w4 ⟨hf4, h24, h34, h44, hc4⟩
  have hfwz : ∀ b, own c1.wv.1 = some b → w.heap.size + 3 ≤ b := fun b hb => by have := hfw3 b hb; have := hf2.size; omega
  have hfsz : ∀ b, own c1.sv.1 = some b → w.heap.size + 3 ≤ b := fun b hb => by have := hfs3 b hb; have := hf2.size; omega
  clear h22 h32 h42 h23 h33 h43 hc3 hfw3 hfs3 hf3 hf23 hf2 h2 h3 h4 hc1 hrs1 hcr1
  (((apply vL_val); (case h => ((apply opv_loadb); exact rfl; exact rfl; assumption; exact rfl))))
  refine vL_callF rfl (cloned31 r w4 (hr.frN hf4) hs) rfl ?_
  rintro _ w5 ⟨r1, rfl, hnr1, hr5, hf5⟩
  have h25 := h24.frN hf5
  have h35 := h34.frN hf5
  have h45 := h44.frN hf5
  have hc5 := hc4.frN hf5
  have hrb1 := r1.brv.2
  have hrt1 := r1.trv.2
  ((((apply vL_skip); (case h => ((apply ops_storen); exact norm_eq rfl; exact norm_eq rfl; exact rfl; exact (fun u hu => EncOk.one _ u hu); assumption; (first | decide | exact of_decide_eq_true rfl | (simp; done))))); apply vL_nil)); with_reducible apply seqP_normal
  ((apply vC_seq))
  refine vC_gen (fun w' => Fr No w w' ∧ Blk w'.heap b2 (clE c1) 25 ∧ Blk w'.heap b3 (rqE r1) 40 ∧ Blk w'.heap b4 clZ 25 ∧ ClOwn w'.heap c1 ∧ RqOwn w'.heap r1) ⟨(hf4.trans hf5).set _ _ (.inr (by omega)), h25.set_ne (by omega), Blk.as (Blk.set h35) rfl, h45.set_ne (by omega), hc5.frBlk h35 ⟨by decide, by decide, by decide⟩ ⟨by decide, by decide⟩ ((Fr.refl (fun k => k = b3) w5).set _ _ (.inl rfl)), hr5.frBlk h35 (by decide) (by decide) (by decide) ((Fr.refl (fun k => k = b3) w5).set _ _ (.inl rfl))⟩ ?_
  rintro w6 ⟨hf6, h26, h36, h46, hc6, hr6⟩
  clear h24 h34 h44 hc4 h25 h35 h45 hc5 hr5 hf4 hf5
  haveI n23 : NeB b2 b3 := ⟨by omega⟩
  haveI n24 : NeB b2 b4 := ⟨by omega⟩
  haveI n34 : NeB b3 b4 := ⟨by omega⟩
  haveI n42 : NeB b4 b2 := ⟨by omega⟩
  haveI n43 : NeB b4 b3 := ⟨by omega⟩
  haveI n32 : NeB b3 b2 := ⟨by omega⟩
  refine vC_draw' ((fun wf => Blk wf.heap b2 (clE c1) 25)) (by (first | exact trivial | assumption | infer_instance | (skip; done))) ?_
  have h26d := h26.frN (Fr.refl No w6).drew
  have h36d := h36.frN (Fr.refl No w6).drew
  have h46d := h46.frN (Fr.refl No w6).drew
  ((apply (tk 0)); (case hi => exact rfl); (case hf => kernel_rfl); (case hS => (first | exact trivial | assumption | infer_instance | (skip; done))); (case hy => (intro wf hwf; (try dsimp only at hwf); (((apply opv_fieldAddr); exact rfl)))))
  ((apply (tk 1)); (case hi => exact rfl); (case hf => kernel_rfl); (case hS => (first | exact trivial | assumption | infer_instance | (skip; done))); (case hy => (intro wf hwf; (try dsimp only at hwf); (((apply opv_loadb1); exact rfl; exact rfl; assumption; exact rfl)))))
  ((apply (tk 2)); (case hi => exact rfl); (case hf => kernel_rfl); (case hS => (first | exact trivial | assumption | infer_instance | (skip; done))); (case hy => (intro wf hwf; (try dsimp only at hwf); (((apply opv_fieldAddr); exact rfl)))))
  ((apply (tk 3)); (case hi => exact rfl); (case hf => kernel_rfl); (case hS => (first | exact trivial | assumption | infer_instance | (skip; done))); (case hy => (intro wf hwf; (try dsimp only at hwf); (((apply opv_loadb1); exact rfl; exact rfl; assumption; exact rfl)))))
  ((apply (tk 4)); (case hi => exact rfl); (case hf => kernel_rfl); (case hS => (first | exact trivial | assumption | infer_instance | (skip; done))); (case hy => (intro wf hwf; (try dsimp only at hwf); (((apply opv_fieldAddr); exact rfl)))))
  refine vA_only 5 rfl (by kernel_rfl) (by (first | exact trivial | assumption | infer_instance | (skip; done))) (fun K hK => ?_)
  (((apply vL_skip); (case h => ((apply ops_store1); exact norm_eq rfl; exact norm_eq rfl; (first | rfl | assumption); assumption; (first | decide | exact of_decide_eq_true rfl | (simp; done))))); apply vL_nil)
  refine ⟨rfl, hK _ _ ?_⟩
  ((apply (tk 6)); (case hi => exact rfl); (case hf => kernel_rfl); (case hS => (first | exact trivial | assumption | infer_instance | (skip; done))); (case hy => (intro wf hwf; (try dsimp only at hwf); (((apply opv_fieldAddr); exact rfl)))))
  refine vA_only 7 rfl (by kernel_rfl) (by (first | exact trivial | assumption | infer_instance | (skip; done))) (fun K hK => ?_)
  (((apply vL_skip); (case h => ((apply ops_store1); exact norm_eq rfl; exact norm_eq rfl; (first | rfl | assumption); infer_instance; (first | decide | exact of_decide_eq_true rfl | (simp; done))))); apply vL_nil)
  refine ⟨rfl, hK _ _ ?_⟩
  refine vA_done (by kernel_rfl) (by (first | exact trivial | assumption | infer_instance | (skip; done))) ?_
  ((apply seqP_normal; apply vC_seq; apply vC_region))
  refine vL_gen (fun w' => Fr No w w' ∧ Blk w'.heap b2 (clE c1) 25 ∧ Blk w'.heap b3 (rqE { r1 with cl := c1.id, call := c1.next }) 40 ∧ Blk w'.heap b4 clZ 25 ∧ ClOwn w'.heap c1 ∧ RqOwn w'.heap r1) ⟨((hf6.drew.set _ _ (.inr (by omega))).set _ _ (.inr (by omega))), inferInstance, Blk.as (Blk.set (Blk.set h36d)) rfl, inferInstance, ?_, ?_⟩ ?_
  · exact ((hc6.frN (Fr.refl No w6).drew).frBlk h36d ⟨by decide, by decide, by decide⟩ ⟨by decide, by decide⟩ (((Fr.refl (fun k => k = b3) _).set _ _ (.inl rfl)).set _ _ (.inl rfl)))
  · exact ((hr6.frN (Fr.refl No w6).drew).frBlk h36d (by decide) (by decide) (by decide) (((Fr.refl (fun k => k = b3) _).set _ _ (.inl rfl)).set _ _ (.inl rfl)))
  rintro w7 ⟨hf7, h27, h37, h47, hc7, hr7⟩
  clear h26 h36 h46 hc6 hr6 h26d h36d h46d hf6
  have hnx : c1.next = c.next := by have := congrArg CL.next hnf1; exact this
  have hnw : c1.now = c.now := by have := congrArg CL.now hnf1; exact this
  have hbr : c1.broker = c.broker := by have := congrArg CL.broker hnf1; exact this
  have hbk : c1.brokers = c.brokers := by have := congrArg CL.brokers hnf1; exact this
  ((((apply vL_val); (case h => ((apply opv_fieldAddr); exact rfl))); ((apply vL_val); (case h => ((apply opv_loadb1); exact rfl; exact rfl; assumption; exact rfl))); ((apply vL_val); (case h => ((apply opv_add); exact rfl; exact rfl; (first | omega | (simp only [List.length_map]; omega))))); ((apply vL_val); (case h => ((apply opv_fieldAddr); exact rfl))); ((apply vL_skip); (case h => ((apply ops_store1); exact norm_eq rfl; exact norm_eq rfl; (first | rfl | assumption); assumption; (first | decide | exact of_decide_eq_true rfl | (simp; done))))); apply vL_nil)); with_reducible apply seqP_normal
  ((apply vC_seq; apply vC_region))
  refine vL_gen (fun w' => Fr No w w' ∧ Blk w'.heap b2 (clE { c1 with next := c1.next + 1 }) 25 ∧ Blk w'.heap b3 (rqE { r1 with cl := c1.id, call := c1.next }) 40 ∧ Blk w'.heap b4 clZ 25 ∧ ClOwn w'.heap c1 ∧ RqOwn w'.heap r1) ⟨hf7.set _ _ (.inr (by omega)), Blk.as (Blk.set h27) rfl, h37.set_ne (by omega), h47.set_ne (by omega), hc7.frBlk h27 ⟨by decide, by decide, by decide⟩ ⟨by decide, by decide⟩ ((Fr.refl (fun k => k = b2) w7).set _ _ (.inl rfl)), hr7.frBlk h27 (by decide) (by decide) (by decide) ((Fr.refl (fun k => k = b2) w7).set _ _ (.inl rfl))⟩ ?_
  rintro w8 ⟨hf8, h28, h38, h48, hc8, hr8⟩
  clear h27 h37 h47 hc7 hr7 hf7
  obtain ⟨r2, er2⟩ : ∃ r2 : RQ, r2 = { r1 with cl := c1.id, call := c1.next } := ⟨_, rfl⟩
  rw [← er2] at h38
  have hr28 : RqOwn w8.heap r2 := by rw [er2]; exact hr8
  have hrb2 := r2.brv.2
  have hrt2 := r2.trv.2
  have hr2s : RqSz r2 := by
    have e1 : r1.brs.map (fun y => (nilO, y.2)) = r.brs.map (fun y => (nilO, y.2)) := by have := congrArg RQ.brs hnr1; exact this
    have e2 : r1.tps = r.tps := by have := congrArg RQ.tps hnr1; exact this
    have e3 : r1.brs.map (·.2) = r.brs.map (·.2) := by
      have := congrArg (List.map (·.2)) e1
      rw [List.map_map, List.map_map] at this
      exact this
    rw [er2]
    refine ⟨?_, fun y hy => ?_, ?_⟩
    · show r1.brs.length * 24 ≤ _
      have := congrArg List.length e3
      simp only [List.length_map] at this
      rw [this]; exact hs.1
    · have hy2 : y.2 ∈ r1.brs.map (·.2) := List.mem_map.2 ⟨y, hy, rfl⟩
      rw [e3] at hy2
      obtain ⟨z, hz, ez⟩ := List.mem_map.1 hy2
      rw [← ez]; exact hs.2.1 z hz
    · show r1.tps.length * 16 ≤ _
      rw [e2]; exact hs.2.2
  ((((apply vL_val); (case h => ((apply opv_loadb); exact rfl; exact rfl; assumption; exact rfl))); ((apply vL_val); (case h => ((apply opv_fieldAddr); exact rfl))); ((apply vL_val); (case h => ((apply opv_loadb1); exact rfl; exact rfl; assumption; exact rfl))); ((apply vL_val); (case h => ((apply opv_add); exact rfl; exact rfl; (first | omega | (simp only [List.length_map]; omega))))); ((apply vL_val); (case h => ((apply opv_fieldAddr); exact rfl))); ((apply vL_val); (case h => ((apply opv_loadb1); exact rfl; exact rfl; assumption; exact rfl))); ((apply vL_val); (case h => ((apply opv_buildS); exact rfl; exact (rfl : _ = some [_, _, _, _, _, _, _, _, _, _, _, _, _, _, _, _, _, _, _, _, _, _, _, _, _, _])))); ((apply vL_val); (case h => (apply opw_alloc))); ((apply vL_skip); (case h => ((apply ops_storen); exact norm_eq rfl; exact norm_eq rfl; exact rfl; (intro u hu; simp only [List.mem_cons, List.not_mem_nil, or_false] at hu; rcases hu with rfl | rfl | rfl | rfl | rfl | rfl | rfl | rfl | rfl | rfl | rfl | rfl | rfl | rfl | rfl | rfl | rfl | rfl | rfl | rfl | rfl | rfl | rfl | rfl | rfl | rfl <;> (first | rfl | assumption)); infer_instance; (first | decide | exact of_decide_eq_true rfl | (simp; done))))); apply vL_nil)); with_reducible apply seqP_normal
  ((apply vC_seq; apply vC_region))
  refine vL_gen (fun w' => Fr No w8 w' ∧ w8.heap.size < w'.heap.size ∧ Blk w'.heap w8.heap.size (wtE ⟨r2, c1.now + 8, 1, c1.broker⟩) 42) ⟨by (apply Fr.allocSet; exact Fr.refl _ _), by simp, Blk.as inferInstance rfl⟩ ?_
  rintro w9 ⟨hf89, hz9, h79⟩
  have hcl8 : ∀ b, own c1.wv.1 = some b → b < w8.heap.size := hc8.1.lt
  have hb27 : b2 < w8.heap.size := h28.lt
  have hb37 : b3 < w8.heap.size := h38.lt
  have hb47 : b4 < w8.heap.size := h48.lt
  have hs8 := hf8.size
  have h29 := h28.frN hf89
  have h49 := h48.frN hf89
  have hc9 := hc8.frN hf89
  have hr29 := hr28.frN hf89
  have hf9 := hf8.trans hf89
  generalize w8.heap.size = b7 at h79 hz9 hb27 hb37 hb47 hs8 hcl8 ⊢
  clear h28 h38 h48 hc8 hr8 hr28 hf89 hf8
  (((apply vL_val); (case h => ((apply opv_loadbC); exact rfl; exact rfl; assumption; exact (rfl : _ = [_, _, _, _, _, _, _, _, _, _]); exact rfl))))
  refine vL_callF rfl (send31 { c1 with next := c1.next + 1 } ⟨r2, c1.now + 8, 1, c1.broker⟩ b7 w9 h79 hr29.rd hr2s (by simp only; omega) (by simp only; omega)) rfl ?_
  rintro _ w10 ⟨r3, rfl, hnr3, hr10, hf10, h7x⟩
  have hrb3 := r3.brv.2
  have hrt3 := r3.trv.2
  have h210 := h29.fr hf10 (fun h => by omega)
  have h410 := h49.fr hf10 (fun h => by omega)
  have hc10 : ClOwn w10.heap c1 := ⟨hc9.1.fr hf10 (fun b hb e => by have := hcl8 b hb; omega), fun x hx => (hc9.2.1 x hx).frBlk h79 (by decide) (by decide) (by decide) hf10, hc9.2.2.fr hf10 (fun b hb e => Own.ne_blk hc9.2.2 h79 (by decide) (by rw [hb, e]))⟩
  have hr210 := hr29.frBlk h79 (by decide) (by decide) (by decide) hf10
  have hfw10 : Fr No w w10 := hf9.trans' hf10 (fun k hk => .inr (by omega))
  have hz10 := hf10.size
  clear h29 h49 hc9 hr29 hf9 hf10 h79
  have hc1w : c1.ws = [] := by
    have h1 : c1.ws.map WT.nf = c.ws.map WT.nf := by have := congrArg CL.ws hnf1; exact this
    rw [hw] at h1
    simpa using h1
  ((((apply vL_val); (case h => (apply opw_alloc))); ((apply vL_skip); (case h => ((apply ops_storen); exact norm_eq rfl; exact norm_eq rfl; exact rfl; exact (fun u hu => EncOk.one _ u hu); infer_instance; (first | decide | exact of_decide_eq_true rfl | (simp; done))))); apply vL_nil)); with_reducible apply seqP_normal
  ((apply vC_seq; apply vC_region))
  refine vL_gen (fun w' => Fr No w10 w' ∧ w10.heap.size < w'.heap.size ∧ Blk w'.heap w10.heap.size (sdE ⟨c1.broker, r3⟩) 48) ⟨by (apply Fr.allocSet; exact Fr.refl _ _), by simp, Blk.as inferInstance rfl⟩ ?_
  rintro w11 ⟨hf11, hz11, h811⟩
  have h211 := h210.frN hf11
  have h411 := h410.frN hf11
  have h711 := h7x.frN hf11
  have hc11 := hc10.frN hf11
  have hr211 := hr210.frN hf11
  have hr311 := hr10.frN hf11
  have hfw11 := hfw10.trans hf11
  have hb28 : b2 < w10.heap.size := by omega
  have hb48 : b4 < w10.heap.size := by omega
  have hs10 : w.heap.size + 3 ≤ w10.heap.size := by omega
  generalize w10.heap.size = b8 at h811 hz11 hb28 hb48 hs10 ⊢
  clear h210 h410 h7x hc10 hr210 hr10 hfw10 hf11 hz10
  have hwo := hc11.1
  rw [hc1w] at hwo
  (((apply vL_val); (case h => ((apply opv_fieldAddr); exact rfl))); ((apply vL_val); (case h => ((apply opv_loadb1); exact rfl; exact rfl; assumption; exact rfl))); ((apply vL_val); (case h => ((apply opv_loadb); exact rfl; exact rfl; assumption; exact rfl))); ((apply vL_val); (case h => ((apply opw_buildSl); exact rfl; exact rfl; exact rfl; exact (rfl : _ = some [_, _, _, _, _, _, _, _, _, _, _, _, _, _, _, _, _, _, _, _, _, _, _, _, _, _])))))
  refine vL_append (enc := wtE) (xs := []) (ys := [(⟨r2, c1.now + 8, 1, c1.broker % c1.brokers + 1⟩ : WT)]) (by (((conv => lhs; whnf) <;> exact rfl))) (by (exact norm_eq rfl)) ((Own.alloc hwo)) (Rd.new1 _ _ rfl) rfl (by decide) ?_ ?_ ?_
  · simp [maxLen]
  · simp
  intro av w12 ho12 hf12 hfr12 honea _
  have hfa : Fr (fun j => own c1.wv.1 = some j) w11 w12 := ((Fr.refl _ w11).alloc _).trans' hf12 (fun i hi => .inl hi)
  have h212 := h211.fr hfa (fun h => Own.ne_blk hwo h211 (by decide) h)
  have h412 := h411.fr hfa (fun h => Own.ne_blk hwo h411 (by decide) h)
  have h812 := h811.fr hfa (fun h => Own.ne_blk hwo h811 (by decide) h)
  have hs12 := hc11.2.2.fr hfa (fun b hb h => Own.ne_own hc11.2.2 hwo (by decide) b hb h)
  have hr212 := hr211.frOwn hwo (by decide) (by decide) (by decide) hfa
  have hr312 := hr311.frOwn hwo (by decide) (by decide) (by decide) hfa
  have hfw12 : Fr No w w12 := hfw11.trans' hfa (fun k hk => .inr (by have := hfwz k hk; omega))
  have hav : ∀ b, own av = some b → w.heap.size ≤ b := fun b hb => by
    rcases hfr12 b hb with h | h
    · have := hfwz b h; omega
    · rw [alloc_size] at h; have := hfw11.size; omega
  clear h211 h411 h711 hc11 hr211 hr311 hfw11 hwo hf12 hfr12 hfa h811
  ((((apply vL_val); (case h => ((apply opv_fieldAddr); exact rfl))); ((apply vL_skip); (case h => ((apply ops_store1); exact norm_eq rfl; ((conv => lhs; whnf) <;> exact rfl); (first | rfl | assumption); assumption; (first | decide | exact of_decide_eq_true rfl | (simp; done))))); apply vL_nil)); with_reducible apply seqP_normal
  ((apply vC_seq))
  refine vC_gen (fun w' => Fr No w w' ∧ Blk w'.heap b2 (clE { c1 with next := c1.next + 1, wv := ⟨av, honea⟩ }) 25 ∧ Blk w'.heap b4 clZ 25 ∧ Blk w'.heap b8 (sdE ⟨c1.broker, r3⟩) 48 ∧ Own w'.heap 42 26 wtE av [⟨r2, c1.now + 8, 1, c1.broker % c1.brokers + 1⟩] ∧ Own w'.heap 65 3 sqE c1.sv.1 c1.ss ∧ RqOwn w'.heap r2 ∧ RqOwn w'.heap r3) ⟨hfw12.set _ _ (.inr (by omega)), Blk.as (Blk.set h212) rfl, h412.set_ne (by omega), h812.set_ne (by omega), ho12.set (Own.ne_blk ho12 h212 (by decide)), hs12.set (Own.ne_blk hs12 h212 (by decide)), hr212.frBlk h212 (by decide) (by decide) (by decide) ((Fr.refl (fun k => k = b2) w12).set _ _ (.inl rfl)), hr312.frBlk h212 (by decide) (by decide) (by decide) ((Fr.refl (fun k => k = b2) w12).set _ _ (.inl rfl))⟩ ?_
  rintro w13 ⟨hf13, h213, h413, h813, ho13, hs13, hr213, hr313⟩
  clear h212 h412 h812 ho12 hs12 hr212 hr312 hfw12
  refine vC_draw' ((fun wf => Blk wf.heap b2 (clE { c1 with next := c1.next + 1, wv := ⟨av, honea⟩ }) 25 ∧ Blk wf.heap b8 (sdE ⟨c1.broker, r3⟩) 48)) (by (first | exact trivial | assumption | infer_instance | (refine ⟨?_, ?_⟩ <;> (first | assumption | infer_instance)) | (skip; done))) ?_
  haveI n28 : NeB b2 b4 := ⟨by omega⟩
  haveI n84 : NeB b8 b4 := ⟨by omega⟩
  have hw13 := hf13.size
  have h213d := h213.frN (Fr.refl No w13).drew
  have h413d := h413.frN (Fr.refl No w13).drew
  have h813d := h813.frN (Fr.refl No w13).drew
  ((apply (tk 0)); (case hi => exact rfl); (case hf => kernel_rfl); (case hS => (first | exact trivial | assumption | infer_instance | (refine ⟨?_, ?_⟩ <;> (first | assumption | infer_instance)) | (skip; done))); (case hy => (rintro wf ⟨hwa, hwb⟩; (((apply opv_loadbC); exact rfl; exact rfl; assumption; exact (rfl : _ = [_, _, _, _, _, _, _, _, _, _]); exact rfl)))))
  ((apply (tk 1)); (case hi => exact rfl); (case hf => kernel_rfl); (case hS => (first | exact trivial | assumption | infer_instance | (refine ⟨?_, ?_⟩ <;> (first | assumption | infer_instance)) | (skip; done))); (case hy => (rintro wf ⟨hwa, hwb⟩; (((apply opv_loadb); exact rfl; exact rfl; assumption; exact rfl)))))
  refine vA_two 2 3 rfl rfl (by kernel_rfl) (by (first | exact trivial | assumption | infer_instance | (refine ⟨?_, ?_⟩ <;> (first | assumption | infer_instance)) | (skip; done))) (fun K hK => ?_) (fun K hK => ?_)
  · (((apply vL_val); (case h => ((apply opw_buildSl); exact rfl; exact rfl; exact rfl; exact (rfl : _ = some [_, _, _, _, _, _, _, _, _, _, _, _, _, _, _, _, _, _, _, _, _, _, _, _])))); apply vL_nil)
    refine ⟨rfl, hK _ _ ?_⟩
    refine vA_only 3 rfl (by kernel_rfl) (by (first | exact trivial | assumption | infer_instance | (refine ⟨?_, ?_⟩ <;> (first | assumption | infer_instance)) | (skip; done))) (fun K hK => ?_)
    (((apply vL_skip); (case h => ((apply ops_storen); exact norm_eq rfl; exact norm_eq rfl; exact rfl; (intro u hu; simp only [List.mem_cons, List.not_mem_nil, or_false] at hu; rcases hu with rfl | rfl | rfl | rfl | rfl | rfl | rfl | rfl | rfl | rfl <;> (first | rfl | assumption)); infer_instance; (first | decide | exact of_decide_eq_true rfl | (simp; done))))); apply vL_nil)
    refine ⟨rfl, hK _ _ ?_⟩
    ((apply (tk 4)); (case hi => exact rfl); (case hf => kernel_rfl); (case hS => (first | exact trivial | assumption | infer_instance | (refine ⟨?_, ?_⟩ <;> (first | assumption | infer_instance)) | (skip; done))); (case hy => (rintro wf ⟨hwa, hwb⟩; (((apply opv_E); exact rfl)))))
    ((apply (tk 5)); (case hi => exact rfl); (case hf => kernel_rfl); (case hS => (first | exact trivial | assumption | infer_instance | (refine ⟨?_, ?_⟩ <;> (first | assumption | infer_instance)) | (skip; done))); (case hy => (rintro wf ⟨hwa, hwb⟩; (((apply opv_E); exact rfl)))))
    refine vA_done (by kernel_rfl) (by (first | exact trivial | assumption | infer_instance | (refine ⟨?_, ?_⟩ <;> (first | assumption | infer_instance)) | (skip; done))) ?_
    (apply seqP_normal; apply vC_ret)
    (apply retC3; (case ha => exact rfl); (case hD => exact rfl); (case hb => (infer_instance)); (case hcs => exact (rfl : _ = clE { c1 with next := c1.next + 1, wv := ⟨av, honea⟩, ws := [⟨r2, c1.now + 8, 1, c1.broker % c1.brokers + 1⟩] })); (case hl => exact rfl); (case hu => (exact norm_eq rfl)); (case hu2 => (exact norm_eq rfl)))
    have hcl13 : ClOwn w13.heap { c1 with next := c1.next + 1, wv := ⟨av, honea⟩, ws := [⟨r2, c1.now + 8, 1, c1.broker % c1.brokers + 1⟩] } := ⟨ho13, fun x hx => by rw [List.mem_singleton.1 hx]; exact hr213, hs13⟩
    have hnr2 : r2.nf = ({ r with cl := c.id, call := c.next } : RQ).nf := by
      have h1 : c1.id = c.id := by have := congrArg CL.id hnf1; exact this
      rw [er2, h1, hnx]
      show ({ r1.nf with cl := c.id, call := c.next } : RQ) = { r.nf with cl := c.id, call := c.next }
      rw [hnr1]
    refine ⟨{ c1 with next := c1.next + 1, wv := ⟨av, honea⟩, ws := [⟨r2, c1.now + 8, 1, c1.broker % c1.brokers + 1⟩] }, _, ⟨c1.broker, r3⟩, rfl, (Own.set (Own.newN (w := w13.drew) (T := 48) sdE [(⟨c1.broker, r3⟩ : SD)] rfl rfl (by decide)) (by intro h; injection h with h; simp only at h; have : w13.drew.heap.size = w13.heap.size := rfl; have := h413.lt; omega)), rfl, hcl13.frBlk h413 ⟨by decide, by decide, by decide⟩ ⟨by decide, by decide⟩ ((((Fr.refl (fun k => k = b4) w13).drew).alloc _).set _ _ (.inl rfl)), (fun b hb => by rw [eb2]; exact hav b hb), (fun b hb => by rw [eb2]; have := hfsz b hb; omega), hf13.trans' ((((Fr.refl (fun k => k = b4) w13).drew).alloc _).set _ _ (.inl rfl)) (fun k hk => .inr (by omega)), ?_⟩
    refine ⟨by have := congrArg CL.id hnf1; exact this, hbk, by show c1.next + 1 = c.next + 1; rw [hnx], hnw, hbr, by have := congrArg CL.pid hnf1; exact this, by have := congrArg CL.ep hnf1; exact this, by have := congrArg CL.stale hnf1; exact this, by have := congrArg CL.ss hnf1; exact this, hbr, hnr3.trans hnr2, _, rfl, hnr2, by show c1.now + 8 = c.now + 8; rw [hnw], rfl, by show c1.broker % c1.brokers + 1 = _; rw [hbr, hbk]⟩
  · (((apply vL_skip); (case h => ((apply ops_storen); exact norm_eq rfl; exact norm_eq rfl; exact rfl; (intro u hu; simp only [List.mem_cons, List.not_mem_nil, or_false] at hu; rcases hu with rfl | rfl | rfl | rfl | rfl | rfl | rfl | rfl | rfl | rfl <;> (first | rfl | assumption)); assumption; (first | decide | exact of_decide_eq_true rfl | (simp; done))))); apply vL_nil)
    refine ⟨rfl, hK _ _ ?_⟩
    refine vA_only 2 rfl (by kernel_rfl) (by (first | exact trivial | assumption | infer_instance | (refine ⟨?_, ?_⟩ <;> (first | assumption | infer_instance)) | (skip; done))) (fun K hK => ?_)
    (((apply vL_val); (case h => ((apply opw_buildSl); exact rfl; exact rfl; exact rfl; exact (rfl : _ = some [_, _, _, _, _, _, _, _, _, _, _, _, _, _, _, _, _, _, _, _, _, _, _, _])))); apply vL_nil)
    refine ⟨rfl, hK _ _ ?_⟩
    ((apply (tk 4)); (case hi => exact rfl); (case hf => kernel_rfl); (case hS => (first | exact trivial | assumption | infer_instance | (refine ⟨?_, ?_⟩ <;> (first | assumption | infer_instance)) | (skip; done))); (case hy => (rintro wf ⟨hwa, hwb⟩; (((apply opv_E); exact rfl)))))
    ((apply (tk 5)); (case hi => exact rfl); (case hf => kernel_rfl); (case hS => (first | exact trivial | assumption | infer_instance | (refine ⟨?_, ?_⟩ <;> (first | assumption | infer_instance)) | (skip; done))); (case hy => (rintro wf ⟨hwa, hwb⟩; (((apply opv_E); exact rfl)))))
    refine vA_done (by kernel_rfl) (by (first | exact trivial | assumption | infer_instance | (refine ⟨?_, ?_⟩ <;> (first | assumption | infer_instance)) | (skip; done))) ?_
    (apply seqP_normal; apply vC_ret)
    (apply retC3; (case ha => exact rfl); (case hD => exact rfl); (case hb => (infer_instance)); (case hcs => exact (rfl : _ = clE { c1 with next := c1.next + 1, wv := ⟨av, honea⟩, ws := [⟨r2, c1.now + 8, 1, c1.broker % c1.brokers + 1⟩] })); (case hl => exact rfl); (case hu => (exact norm_eq rfl)); (case hu2 => (exact norm_eq rfl)))
    have hcl13 : ClOwn w13.heap { c1 with next := c1.next + 1, wv := ⟨av, honea⟩, ws := [⟨r2, c1.now + 8, 1, c1.broker % c1.brokers + 1⟩] } := ⟨ho13, fun x hx => by rw [List.mem_singleton.1 hx]; exact hr213, hs13⟩
    have hnr2 : r2.nf = ({ r with cl := c.id, call := c.next } : RQ).nf := by
      have h1 : c1.id = c.id := by have := congrArg CL.id hnf1; exact this
      rw [er2, h1, hnx]
      show ({ r1.nf with cl := c.id, call := c.next } : RQ) = { r.nf with cl := c.id, call := c.next }
      rw [hnr1]
    refine ⟨{ c1 with next := c1.next + 1, wv := ⟨av, honea⟩, ws := [⟨r2, c1.now + 8, 1, c1.broker % c1.brokers + 1⟩] }, _, ⟨c1.broker, r3⟩, rfl, (Own.newN (T := 48) sdE [(⟨c1.broker, r3⟩ : SD)] rfl rfl (by decide)), rfl, hcl13.frBlk h413 ⟨by decide, by decide, by decide⟩ ⟨by decide, by decide⟩ ((((Fr.refl (fun k => k = b4) w13).drew).set _ _ (.inl rfl)).alloc _), (fun b hb => by rw [eb2]; exact hav b hb), (fun b hb => by rw [eb2]; have := hfsz b hb; omega), hf13.trans' ((((Fr.refl (fun k => k = b4) w13).drew).set _ _ (.inl rfl)).alloc _) (fun k hk => .inr (by omega)), ?_⟩
    refine ⟨by have := congrArg CL.id hnf1; exact this, hbk, by show c1.next + 1 = c.next + 1; rw [hnx], hnw, hbr, by have := congrArg CL.pid hnf1; exact this, by have := congrArg CL.ep hnf1; exact this, by have := congrArg CL.stale hnf1; exact this, by have := congrArg CL.ss hnf1; exact this, hbr, hnr3.trans hnr2, _, rfl, hnr2, by show c1.now + 8 = c.now + 8; rw [hnw], rfl, by show c1.broker % c1.brokers + 1 = _; rw [hbr, hbk]⟩
end Go.Proofs.Ytchfaeaagpemlaa

set_option maxRecDepth 100000
namespace Go.Proofs.Ytchfaeaagpemlaa
open Go Go.Eng
theorem ask31 (c : CL) (r : RQ) (w : World) (R : R1 c) (hw : c.ws = []) (hn : c.next < 1099511627776) (hc : ClRd w.heap c) (hr : RqRd w.heap r) (hs : RqSz r) (hk : 2 ≤ r.k ∧ r.k ≤ 6) :
    Rets Try.prog 14 #[.agg (clE c).toArray, .agg (rqE r).toArray] w fun u w' => ∃ c' lv sd, u = .tuple #[.agg (clE c').toArray, lv, .int .i64 0] ∧ Own w'.heap 48 24 sdE lv [sd] ∧ lv.oneCell' = true ∧ ClOwn w'.heap c' ∧ (∀ b, own c'.wv.1 = some b → w.heap.size ≤ b) ∧ (∀ b, own c'.sv.1 = some b → w.heap.size ≤ b) ∧ Fr No w w' ∧ PutP c r c' sd := by
  have hw0 := c.wv.2
  have hs0 := c.sv.2
  have hb0 := r.brv.2
  have ht0 := r.trv.2
  refine rets_of Try.func14 rfl Try.ntmps14 rfl rfl (by kernel_rfl) ?_
  ((apply vC_seq; apply vC_region)); (((iterate 2 (((apply vL_val); (case h => ((apply opw_boxn); exact rfl))))); ((apply vL_val); (case h => (apply opw_alloc))); (iterate 2 (((apply vL_val); (case h => ((apply opv_E); exact rfl))))); apply vL_nil)); with_reducible apply seqP_normal
  (((iterate 2 (apply vC_seq)); apply vC_region))
  have e3 : (w.alloc (.cells (clE c).toArray 25)).heap.size = w.heap.size + 1 := by simp
  have e4 : ((w.alloc (.cells (clE c).toArray 25)).alloc (.cells (rqE r).toArray 40)).heap.size = w.heap.size + 2 := by simp
  refine vL_gen (fun w' => Fr No w w' ∧ Blk w'.heap w.heap.size (clE c) 25 ∧ Blk w'.heap (w.alloc (.cells (clE c).toArray 25)).heap.size (rqE r) 40 ∧ Blk w'.heap ((w.alloc (.cells (clE c).toArray 25)).alloc (.cells (rqE r).toArray 40)).heap.size clZ 25) ⟨by ((iterate 3 (apply Fr.alloc)); exact Fr.refl _ _), inferInstance, inferInstance, inferInstance⟩ ?_
  rintro w1 ⟨hf1, h2, h3, h4⟩
  rw [e3] at h3
  rw [e4] at h4
  rw [e3, e4]
  obtain ⟨b2, eb2⟩ : ∃ b2, b2 = w.heap.size := ⟨_, rfl⟩
  obtain ⟨b3, eb3⟩ : ∃ b3, b3 = w.heap.size + 1 := ⟨_, rfl⟩
  obtain ⟨b4, eb4⟩ : ∃ b4, b4 = w.heap.size + 2 := ⟨_, rfl⟩
  rw [← eb4] at h4 ⊢
  rw [← eb3] at h3 ⊢
  rw [← eb2] at h2 ⊢
  have hsz1 := hf1.size
  have hl4 := h4.lt
  (((apply vL_val); (case h => ((apply opv_fieldAddr); exact rfl))); ((apply vL_val); (case h => ((apply opv_loadb1); exact rfl; exact rfl; assumption; exact rfl))); (iterate 2 (((apply vL_val); (case h => ((apply opv_E); exact rfl))))); (refine vL_or rfl rfl (fun _ => ?_) (fun h => by omega)); ((apply vL_val); (case h => ((apply opv_fieldAddr); exact rfl))); ((apply vL_wanted); exact rfl); ((apply vL_val); (case h => ((apply opv_loadb1); exact rfl; exact rfl; assumption; exact rfl))); ((apply vL_wanted); exact rfl); (iterate 3 (((apply vL_val); (case h => ((apply opv_E); exact rfl))))); (refine vL_or rfl rfl (fun _ => ?_) (fun h => by omega)); ((apply vL_val); (case h => ((apply opv_loadbC); exact rfl; exact rfl; assumption; exact (rfl : _ = [_, _, _, _, _, _, _, _, _, _]); exact rfl))); ((apply vL_wanted); exact rfl))
  refine vL_callF rfl (right31 c w1 (hc.frN hf1) R) rfl ?_
  rintro _ w2 ⟨rfl, hf2⟩
  have h22 := h2.frN hf2
  have h32 := h3.frN hf2
  have h42 := h4.frN hf2
  have hf12 := hf1.trans hf2
  (((apply vL_wanted); exact rfl); ((apply vL_val); (case h => ((apply opv_not); exact rfl))); ((apply vL_val); (case h => ((apply opv_E); exact rfl))); apply vL_nil; apply seqP_normal; ((apply vC_cond_false); exact rfl); apply vC_skip; apply seqP_normal; apply vC_seq; apply vC_region; ((apply vL_val); (case h => ((apply opv_loadbC); exact rfl; exact rfl; assumption; exact (rfl : _ = [_, _, _, _, _, _, _, _, _, _]); exact rfl))); ((apply vL_val); (case h => ((apply opv_loadb); exact rfl; exact rfl; assumption; exact rfl))))
  refine vL_callF rfl (put31 c r w2 hw ⟨R.nx.1, hn⟩ R.now (by have := R.bro; have := R.br; omega) (by have := R.br; omega) (hc.frN hf12) (by have := R.s1; omega) (hr.frN hf12) hs) rfl ?_
  rintro _ w3 ⟨c', lv, sd, rfl, hl3, hlo, hc3, hfw3, hfs3, hf3, hP⟩
  have h43 := h42.frN hf3
  have hw3 := c'.wv.2
  have hs3 := c'.sv.2
  have hsz2 := hf12.size
  (((apply vL_val); (case h => ((apply opv_E); exact rfl))); ((apply vL_val); (case h => ((apply opv_extract); exact norm_eq rfl; exact rfl))); ((apply vL_val); (case h => ((apply opv_E); exact rfl))); ((apply vL_skip); (case h => ((apply ops_storen); exact norm_eq rfl; exact norm_eq rfl; exact rfl; exact (fun u hu => EncOk.one _ u hu); assumption; (first | decide | exact of_decide_eq_true rfl | (simp; done))))); ((apply vL_val); (case h => ((apply opv_assign); ((conv => lhs; whnf) <;> exact rfl)))); ((apply vL_val); (case h => ((apply opv_E); exact rfl))); apply vL_nil; apply seqP_normal; apply vC_ret)
  (apply retC3; (case ha => exact rfl); (case hD => exact rfl); (case hb => exact Blk.set h43); (case hcs => exact (rfl : _ = clE c')); (case hl => exact rfl); (case hu => (((conv => lhs; whnf) <;> exact rfl))); (case hu2 => (exact norm_eq rfl)))
  have hfin : Fr (fun k => k = b4) w3 (w3.setRow b4 (List.take 0 clZ ++ [.int .i64 c'.id, .int .i64 c'.brokers, .int .i64 c'.next, .int .i64 c'.now, .int .i64 c'.broker, c'.wv.1, .int .i64 c'.pid, .int .i64 c'.ep, .bool c'.stale, c'.sv.1] ++ List.drop (0 + 10) clZ).toArray) := (Fr.refl (fun k => k = b4) w3).set _ _ (.inl rfl)
  refine ⟨c', lv, sd, rfl, ?_, hlo, hc3.frBlk h43 ⟨by decide, by decide, by decide⟩ ⟨by decide, by decide⟩ hfin, (fun b hb => by have := hfw3 b hb; omega), (fun b hb => by have := hfs3 b hb; omega), ((hf1.trans hf2).trans hf3).trans' hfin (fun k hk => .inr (by omega)), hP⟩
  exact hl3.fr hfin (fun b hb e => Own.ne_blk hl3 h43 (by decide) (by rw [hb, e]))
end Go.Proofs.Ytchfaeaagpemlaa

set_option maxRecDepth 100000
namespace Go.Proofs.Ytchfaeaagpemlaa
open Go Go.Eng
theorem compareBytes_self : ∀ l : List UInt8, Lib.compareBytes l l = 0
  | [] => rfl
  | x :: t => by
    unfold Lib.compareBytes
    have ih := compareBytes_self t
    simp [ih]
theorem run_cmp31 (a b : ByteArray) (w : World) : (callFunc 51 #[.string a, .string b]).run Try.prog w = .ok (.value (.int .i64 (Lib.compareBytes a.data.toList b.data.toList))) w := by
  rw [run_callFunc_extern Try.func51 (by kernel_rfl) (by kernel_rfl) (by kernel_rfl) (e := Extern.BytealgCompare.compare) (by kernel_rfl), Lib.run_compareString]
  rfl
theorem opv_cmp31 {e : Env} {w : World} {ty t t' : TypeId} {p : String} {af : Array Edge} {d : Option Nat} {x y : Operand} {a b : ByteArray} (hx : ev e x = .string a) (hy : ev e y = .string b) :
    OpV Try.prog ⟨d, .call ⟨.value (.func 51), #[x, y], #[t, t']⟩, ty, p, af, none⟩ e w (.int .i64 (Lib.compareBytes a.data.toList b.data.toList)) w := by
  have h := run_cmp31 a b w
  have hf : ev e (.func 51) = .func (.func 51) #[] #[] := rfl
  simp [OpV, execOp, resolve, invoke, Deferred.ofValue, hf, hx, hy, h]
theorem cmpS31 (a : ByteArray) (w : World) : Rets Try.prog 29 #[.string a, .string a] w fun u w' => u = .int .i64 0 ∧ w = w' := by
  have hi : Rets Try.prog 41 #[.string a, .string a] w fun u w' => u = .int .i64 0 ∧ w = w' := by
    refine rets_of Try.func41 rfl Try.ntmps41 rfl rfl (by kernel_rfl) ?_
    (apply vC_seq; apply vC_region; ((apply vL_val); (case h => ((apply opv_E); exact rfl))); apply vL_nil; apply seqP_normal; apply vC_seq; apply vC_region; (iterate 2 (((apply vL_val); (case h => ((apply opv_E); exact rfl))))))
    refine vL_val (opv_cmp31 rfl rfl) ?_
    rw [compareBytes_self]
    (((apply vL_val); (case h => ((apply opv_E); exact rfl))); apply vL_nil; apply seqP_normal; apply vC_ret)
    (apply ret1; (case h1 => (exact norm_eq rfl)))
    exact ⟨rfl, rfl⟩
  refine rets_of Try.func29 rfl Try.ntmps29 rfl rfl (by kernel_rfl) ?_
  (apply vC_seq; apply vC_region; ((apply vL_val); (case h => ((apply opv_E); exact rfl))); apply vL_nil; apply seqP_normal; apply vC_seq; apply vC_region; (iterate 2 (((apply vL_val); (case h => ((apply opv_E); exact rfl))))))
  refine vL_callF rfl (hi) rfl ?_
  rintro _ _ ⟨rfl, rfl⟩
  (((apply vL_val); (case h => ((apply opv_E); exact rfl))); apply vL_nil; apply seqP_normal; apply vC_ret)
  (apply ret1; (case h1 => (exact norm_eq rfl)))
  exact ⟨rfl, rfl⟩
theorem compare31 (t : ByteArray) (p : Int) (w : World) (hp : 0 ≤ p ∧ p ≤ 1000) : Rets Try.prog 12 #[.agg #[.string t, .int .i64 p], .agg #[.string t, .int .i64 p]] w fun u w' => u = .int .i64 0 ∧ Fr No w w' := by
  refine rets_of Try.func12 rfl Try.ntmps12 rfl rfl (by kernel_rfl) ?_
  (apply vC_seq; apply vC_region; (iterate 2 (((apply vL_val); (case h => ((apply opw_boxn); exact rfl))))); ((apply vL_val); (case h => ((apply opv_E); exact rfl))); apply vL_nil; apply seqP_normal; (iterate 2 (apply vC_seq)); apply vC_region; ((apply vL_val); (case h => ((apply opv_fieldAddr); exact rfl))); ((apply vL_val); (case h => ((apply opv_loadb1); exact rfl; exact rfl; infer_instance; exact rfl))); ((apply vL_val); (case h => ((apply opv_fieldAddr); exact rfl))); ((apply vL_val); (case h => ((apply opv_loadb1); exact rfl; exact rfl; infer_instance; exact rfl))))
  refine vL_gen (fun w' => Fr No w w' ∧ Blk w'.heap w.heap.size [.string t, .int .i64 p] 36 ∧ Blk w'.heap (w.alloc (.cells #[.string t, .int .i64 p] 36)).heap.size [.string t, .int .i64 p] 36) ⟨by ((iterate 2 (apply Fr.alloc)); exact Fr.refl _ _), inferInstance, inferInstance⟩ ?_
  rintro w1 ⟨hf1, h1, h2⟩
  generalize (w.alloc (.cells #[.string t, .int .i64 p] 36)).heap.size = b2 at h2 ⊢
  generalize w.heap.size = b1 at h1 ⊢
  refine vL_callF rfl (cmpS31 t w1) rfl ?_
  rintro _ _ ⟨rfl, rfl⟩
  (((apply vL_val); (case h => ((apply opv_E); exact rfl))); apply vL_nil; apply seqP_normal; apply vC_seq; apply vC_region; (iterate 2 (((apply vL_val); (case h => ((apply opv_E); exact rfl))))); apply vL_nil; apply seqP_normal; ((apply vC_cond_false); exact rfl); apply vC_skip; apply seqP_normal; apply vC_seq; apply vC_region; ((apply vL_val); (case h => ((apply opv_fieldAddr); exact rfl))); ((apply vL_val); (case h => ((apply opv_loadb1); exact rfl; exact rfl; assumption; exact rfl))); ((apply vL_val); (case h => ((apply opv_fieldAddr); exact rfl))); ((apply vL_val); (case h => ((apply opv_loadb1); exact rfl; exact rfl; assumption; exact rfl))); ((apply vL_val); (case h => ((apply opv_sub); exact rfl; exact rfl; (first | omega | (simp only [List.length_map]; omega))))); ((apply vL_val); (case h => ((apply opv_E); exact rfl))); apply vL_nil; apply seqP_normal; apply vC_ret)
  (apply ret1; (case h1 => (exact norm_eq rfl)))
  exact ⟨by rw [Int.sub_self], hf1⟩
theorem findc31 (s : SQ) (w : World) (hp : 0 ≤ s.part ∧ s.part ≤ 1000) : Rets Try.prog 46 #[.agg (sqE s).toArray, .agg #[.string s.topic, .int .i64 s.part]] w fun u w' => u = .int .i64 0 ∧ Fr No w w' := by
  refine rets_of Try.func46 rfl Try.ntmps46 rfl rfl (by kernel_rfl) ?_
  (apply vC_seq; apply vC_region; (iterate 2 (((apply vL_val); (case h => ((apply opw_boxn); exact rfl))))); ((apply vL_val); (case h => ((apply opv_E); exact rfl))); apply vL_nil; apply seqP_normal; apply vC_seq; apply vC_region; ((apply vL_val); (case h => ((apply opv_fieldAddr); exact rfl))); (iterate 2 (((apply vL_val); (case h => ((apply opv_loadbC); exact rfl; exact rfl; infer_instance; exact (rfl : _ = [_, _]); exact rfl))))))
  refine vL_callF rfl (compare31 s.topic s.part _ hp) rfl ?_
  rintro _ w2 ⟨rfl, hf2⟩
  (((apply vL_val); (case h => ((apply opv_E); exact rfl))); apply vL_nil; apply seqP_normal; apply vC_ret)
  (apply ret1; (case h1 => (exact norm_eq rfl)))
  exact ⟨rfl, Fr.trans (by ((iterate 2 (apply Fr.alloc)); exact Fr.refl _ _)) hf2⟩
theorem opv_shr1 {P : Program} {d : Option Nat} {ty t t' : TypeId} {p : String} {af : Array Edge} {e : Env} {w : World} {x y : Operand} {a : Int} (hx : ev e x = .int .u64 a) (hy : ev e y = .int .u64 1) (ha : 0 ≤ a ∧ a ≤ 18446744073709551615) : OpV P ⟨d, .binOp .shr t x y t', ty, p, af, none⟩ e w (.int .u64 (a / 2)) w := by
  simp [OpV, execOp, hx, hy, binOp, run_guardInt, Op.shift]
  exact Int.fdiv_eq_ediv_of_nonneg a (by decide)
theorem bs31 (v : Value) (l : List SQ) (t : ByteArray) (p : Int) (w : World) (hr : Rd w.heap 3 sqE v l) (hl : l.length ≤ 1) (hs : ∀ s ∈ l, s.topic = t ∧ s.part = p ∧ 0 ≤ p ∧ p ≤ 1000) :
    Rets Try.prog 45 #[v, .agg #[.string t, .int .i64 p], .func (.func 46) #[] #[]] w fun u w' => u = .tuple #[.int .i64 0, .bool (decide (l.length = 1))] ∧ Fr No w w' := by
  have hsm := hr.small
  refine rets_of Try.func45 rfl Try.ntmps45 rfl rfl (by kernel_rfl) ?_
  (apply vC_seq; apply vC_region; ((apply vL_val); (case h => ((apply opw_boxn); exact rfl))); (iterate 2 (((apply vL_val); (case h => ((apply opv_E); exact rfl))))); apply vL_nil; apply seqP_normal; apply vC_seq; apply vC_region; ((apply vL_val); (case h => ((apply opv_move); ((conv => lhs; whnf) <;> exact rfl)))); ((apply vL_val); (case h => ((apply opv_len); ((conv => lhs; whnf) <;> exact rfl); infer_instance))); ((apply vL_val); (case h => ((apply opv_E); exact rfl))); apply vL_nil; apply seqP_normal; apply vC_seq; apply vC_region; (iterate 3 (((apply vL_val); (case h => ((apply opv_E); exact rfl))))); apply vL_nil; apply seqP_normal; apply vC_seq; apply vC_block)
  refine vC_gen (fun w' => Fr No w w' ∧ Blk w'.heap w.heap.size [.string t, .int .i64 p] 36) ⟨by (apply Fr.alloc; exact Fr.refl _ _), inferInstance⟩ ?_
  rintro w1 ⟨hf1, h1⟩
  generalize w.heap.size = b4 at h1 ⊢
  (apply vC_loop2 34359709184 9 10 (fun u v w' => ∃ j : Nat, u = .int .i64 0 ∧ v = .int .i64 j ∧ j ≤ l.length ∧ Fr No w w' ∧ Blk w'.heap b4 [.string t, .int .i64 p] 36) (fun u v _ => (RowKit.intOf v).toNat)); (case h1 => (exact norm_eq rfl)); (case h2 => (exact norm_eq rfl))
  case h0 => exact ⟨l.length, rfl, rfl, Nat.le_refl _, hf1, h1⟩
  case round =>
  rintro junk _ _ w2 ⟨j, rfl, rfl, hj, hf2, h2⟩
  have hr2 := hr.frN hf2
  by_cases hj0 : 0 < j
  · have hj1 : j = 1 := by omega
    subst hj1
    obtain ⟨s, hsi⟩ : ∃ s, l[0]? = some s := ⟨l[0], List.getElem?_eq_getElem (by omega)⟩
    obtain ⟨rfl, rfl, hp0, hp1⟩ := hs s (List.mem_of_getElem? hsi)
    have hl1 : 0 < l.length := by omega
    have hsi' : l[(0 : Int).toNat]? = some s := hsi
    ((iterate 2 (apply vC_seq)); apply vC_region; (iterate 3 (((apply vL_val); (case h => ((apply opv_E); exact rfl))))); apply vL_nil; apply seqP_normal; ((apply vC_cond_true); exact rfl); apply vC_skip; apply seqP_normal; apply vC_block; apply vC_seq; apply vC_region; (iterate 2 (((apply vL_val); (case h => ((apply opv_E); exact rfl))))); ((apply vL_val); (case h => ((apply opv_add); exact rfl; exact rfl; (first | omega | (simp only [List.length_map]; omega))))); ((apply vL_val); (case h => ((apply opv_conv_u); exact rfl; (first | omega | (simp only [List.length_map]; omega))))))
    refine vL_val (opv_shr1 rfl rfl (by omega)) ?_
    rw [show ((0 : Int) + ((1 : Nat) : Int)) / 2 = 0 by decide]
    (((apply vL_val); (case h => ((apply opv_conv_i); exact rfl; (first | omega | (simp only [List.length_map]; omega))))); ((apply vL_val); (case h => ((apply opv_E); exact rfl))); apply vL_nil; apply seqP_normal; apply vC_seq)
    refine vC_draw' (fun wf => Fr No w2 wf) ((Fr.refl No w2).drew) ?_
    ((apply (tk 0)); (case hi => exact rfl); (case hf => kernel_rfl); (case hS => (apply Fr.drew; exact Fr.refl _ _)); (case hy => (intro wf hwf; haveI := From.mk hwf; (((apply opv_E); exact rfl)))))
    ((apply (tk 1)); (case hi => exact rfl); (case hf => kernel_rfl); (case hS => (apply Fr.drew; exact Fr.refl _ _)); (case hy => (intro wf hwf; haveI := From.mk hwf; (((apply opv_move); ((conv => lhs; whnf) <;> exact rfl))))))
    ((apply (tk 2)); (case hi => exact rfl); (case hf => kernel_rfl); (case hS => (apply Fr.drew; exact Fr.refl _ _)); (case hy => (intro wf hwf; haveI := From.mk hwf; (((apply opv_E); exact rfl)))))
    ((apply (tk 3)); (case hi => exact rfl); (case hf => kernel_rfl); (case hS => (apply Fr.drew; exact Fr.refl _ _)); (case hy => (intro wf hwf; haveI := From.mk hwf; (((apply opv_indexAddr); ((conv => lhs; whnf) <;> exact rfl); exact rfl; infer_instance; (first | omega | (simp only [List.length_map]; omega)); (first | omega | (simp only [List.length_map]; omega)))))))
    ((apply (tk 4)); (case hi => exact rfl); (case hf => kernel_rfl); (case hS => (apply Fr.drew; exact Fr.refl _ _)); (case hy => (intro wf hwf; haveI := From.mk hwf; (((apply opv_ld_eln); exact rfl; exact rfl; infer_instance; assumption)))))
    ((apply (tk 5)); (case hi => exact rfl); (case hf => kernel_rfl); (case hS => (apply Fr.drew; exact Fr.refl _ _)); (case hy => (intro wf hwf; haveI := From.mk hwf; (((apply opv_loadbC); exact rfl; exact rfl; infer_instance; exact (rfl : _ = [_, _]); exact rfl)))))
    (refine tkc 6 rfl (by kernel_rfl) (by (apply Fr.drew; exact Fr.refl _ _)) rfl (findc31 s _ ⟨hp0, hp1⟩) rfl ?_)
    rintro _ w3 ⟨rfl, hf3⟩
    have hf23 : Fr No w2 w3 := (Fr.refl No w2).drew.trans hf3
    ((apply (tk 7)); (case hi => exact rfl); (case hf => kernel_rfl); (case hS => (assumption)); (case hy => (intro wf hwf; haveI := From.mk hwf; (((apply opv_E); exact rfl)))))
    refine vA_done (by kernel_rfl) (by (first | exact trivial | ((assumption); done))) ?_
    (apply seqP_normal; ((apply vC_cond_false); exact rfl); apply vC_region; (iterate 2 (((apply vL_val); (case h => ((apply opv_E); exact rfl))))); apply vL_nil; apply blockP_normal; apply loopP_normal)
    (with_reducible apply end2); (case hs => ((iterate 20 (((refine same_updO ?_ ?_); rotate_left; exact rfl))); (iterate 2 (((refine same_upd ?_ ?_); rotate_left; exact rfl))); (exact same_mask _ _ _))); (case h1 => (exact norm_eq rfl)); (case h2 => (exact norm_eq rfl))
    · exact ⟨0, rfl, rfl, by omega, hf2.trans hf23, h2.frN hf23⟩
    · simp [RowKit.intOf]
  · have hj1 : j = 0 := by omega
    subst hj1
    ((iterate 2 (apply vC_seq)); apply vC_region; (iterate 3 (((apply vL_val); (case h => ((apply opv_E); exact rfl))))); apply vL_nil; apply seqP_normal; ((apply vC_cond_false); exact rfl); apply vC_exit; apply seqP_exit; apply loopP_exit; apply blockP_exit; apply seqP_normal; apply vC_seq)
    by_cases hl1 : l.length = 1
    · obtain ⟨s, hsi⟩ : ∃ s, l[0]? = some s := ⟨l[0], List.getElem?_eq_getElem (by omega)⟩
      obtain ⟨rfl, rfl, hp0, hp1⟩ := hs s (List.mem_of_getElem? hsi)
      have hsi' : l[(0 : Int).toNat]? = some s := hsi
      have hl2 : (0 : Int) < l.length := by omega
      refine vC_draw' (fun wf => Fr No w2 wf) ((Fr.refl No w2).drew) ?_
      ((apply (tk 0)); (case hi => exact rfl); (case hf => kernel_rfl); (case hS => (apply Fr.drew; exact Fr.refl _ _)); (case hy => (intro wf hwf; haveI := From.mk hwf; (((apply opv_E); exact rfl)))))
      ((apply (tk 1)); (case hi => exact rfl); (case hf => kernel_rfl); (case hS => (apply Fr.drew; exact Fr.refl _ _)); (case hy => (intro wf hwf; haveI := From.mk hwf; (((apply opv_E); exact rfl)))))
      ((apply (tk 2)); (case hi => exact rfl); (case hf => kernel_rfl); (case hS => (apply Fr.drew; exact Fr.refl _ _)); (case hy => (intro wf hwf; haveI := From.mk hwf; (((apply opv_E); exact rfl)))))
      ((apply (tk 3)); (case hi => exact rfl); (case hf => kernel_rfl); (case hS => (apply Fr.drew; exact Fr.refl _ _)); (case hy => (intro wf hwf; haveI := From.mk hwf; (((apply opv_E); exact rfl)))))
      ((apply (tk 4)); (case hi => exact rfl); (case hf => kernel_rfl); (case hS => (apply Fr.drew; exact Fr.refl _ _)); (case hy => (intro wf hwf; haveI := From.mk hwf; (((apply opv_E); exact rfl)))))
      refine vA_split 39 rfl (fun _ => ?_) (fun h => by omega)
      ((apply (tkw 5)); (case hi => exact rfl); (case hg => exact rfl); (case hf => kernel_rfl); (case hS => (apply Fr.drew; exact Fr.refl _ _)); (case hy => (intro wf hwf; haveI := From.mk hwf; (((apply opv_E); exact rfl)))))
      ((apply (tkw 6)); (case hi => exact rfl); (case hg => exact rfl); (case hf => kernel_rfl); (case hS => (apply Fr.drew; exact Fr.refl _ _)); (case hy => (intro wf hwf; haveI := From.mk hwf; (((apply opv_move); ((conv => lhs; whnf) <;> exact rfl))))))
      ((apply (tkw 7)); (case hi => exact rfl); (case hg => exact rfl); (case hf => kernel_rfl); (case hS => (apply Fr.drew; exact Fr.refl _ _)); (case hy => (intro wf hwf; haveI := From.mk hwf; (((apply opv_E); exact rfl)))))
      ((apply (tkw 8)); (case hi => exact rfl); (case hg => exact rfl); (case hf => kernel_rfl); (case hS => (apply Fr.drew; exact Fr.refl _ _)); (case hy => (intro wf hwf; haveI := From.mk hwf; (((apply opv_indexAddr); ((conv => lhs; whnf) <;> exact rfl); exact rfl; infer_instance; (first | omega | (simp only [List.length_map]; omega)); (first | omega | (simp only [List.length_map]; omega)))))))
      ((apply (tkw 9)); (case hi => exact rfl); (case hg => exact rfl); (case hf => kernel_rfl); (case hS => (apply Fr.drew; exact Fr.refl _ _)); (case hy => (intro wf hwf; haveI := From.mk hwf; (((apply opv_ld_eln); exact rfl; exact rfl; infer_instance; assumption)))))
      ((apply (tkw 10)); (case hi => exact rfl); (case hg => exact rfl); (case hf => kernel_rfl); (case hS => (apply Fr.drew; exact Fr.refl _ _)); (case hy => (intro wf hwf; haveI := From.mk hwf; (((apply opv_loadbC); exact rfl; exact rfl; infer_instance; exact (rfl : _ = [_, _]); exact rfl)))))
      (refine tkcw 11 rfl rfl (by kernel_rfl) (by (apply Fr.drew; exact Fr.refl _ _)) rfl (findc31 s _ ⟨hp0, hp1⟩) rfl ?_)
      rintro _ w3 ⟨rfl, hf3⟩
      have hf23 : Fr No w2 w3 := (Fr.refl No w2).drew.trans hf3
      ((apply (tkw 12)); (case hi => exact rfl); (case hg => exact rfl); (case hf => kernel_rfl); (case hS => (assumption)); (case hy => (intro wf hwf; haveI := From.mk hwf; (((apply opv_E); exact rfl)))))
      ((apply (tk 13)); (case hi => exact rfl); (case hf => kernel_rfl); (case hS => (assumption)); (case hy => (intro wf hwf; haveI := From.mk hwf; (((apply opv_E); exact rfl)))))
      ((apply (tk 14)); (case hi => exact rfl); (case hf => kernel_rfl); (case hS => (assumption)); (case hy => (intro wf hwf; haveI := From.mk hwf; (((apply opv_E); exact rfl)))))
      ((apply (tk 15)); (case hi => exact rfl); (case hf => kernel_rfl); (case hS => (assumption)); (case hy => (intro wf hwf; haveI := From.mk hwf; (((apply opv_E); exact rfl)))))
      refine vA_done (by kernel_rfl) (by (first | exact trivial | ((assumption); done))) ?_
      (apply seqP_normal; apply vC_ret)
      (apply ret2; (case h1 => (exact norm_eq rfl)); (case h2 => (exact norm_eq rfl)))
      exact ⟨by rw [decide_eq_true hl1]; rfl, hf2.trans hf23⟩
    · (with_reducible apply vC_drawQ); ((iterate 5 (((apply vQ_op); (case hi => exact rfl); (case hf => kernel_rfl); (case hS => exact Dr.refl _); (case hy => (intro j; ((apply opv_E); exact rfl)))))); (refine vQ_gF rfl rfl rfl (by omega) ?_); (iterate 8 (((apply vQ_unwanted); (case hi => exact rfl); (case hg => exact rfl); (case hne => exact rfl); (case hf => kernel_rfl); (case hS => exact Dr.refl _)))); (iterate 3 (((apply vQ_op); (case hi => exact rfl); (case hf => kernel_rfl); (case hS => exact Dr.refl _); (case hy => (intro j; ((apply opv_E); exact rfl)))))); ((apply vQ_end); (case hi => exact rfl); (case hf => kernel_rfl); (case hS => exact Dr.refl _)))
      (apply seqP_normal; apply vC_ret)
      (apply ret2; (case h1 => (exact norm_eq rfl)); (case h2 => (exact norm_eq rfl)))
      exact ⟨by rw [decide_eq_false hl1], by (apply Fr.drew; assumption)⟩
theorem find31 (c : CL) (t : ByteArray) (p : Int) (w : World) (hr : Rd w.heap 3 sqE c.sv.1 c.ss) (hl : c.ss.length ≤ 1) (hs : ∀ s ∈ c.ss, s.topic = t ∧ s.part = p ∧ 0 ≤ p ∧ p ≤ 1000) :
    Rets Try.prog 35 #[.agg (clE c).toArray, .agg #[.string t, .int .i64 p]] w fun u w' => u = .tuple #[.int .i64 0, .bool (decide (c.ss.length = 1))] ∧ Fr No w w' := by
  have hw0 := c.wv.2
  have hs0 := c.sv.2
  refine rets_of Try.func35 rfl Try.ntmps35 rfl rfl (by kernel_rfl) ?_
  ((apply vC_seq; apply vC_region)); (((iterate 2 (((apply vL_val); (case h => ((apply opw_boxn); exact rfl))))); (iterate 2 (((apply vL_val); (case h => ((apply opv_E); exact rfl))))); apply vL_nil)); with_reducible apply seqP_normal
  ((apply vC_seq; apply vC_region))
  refine vL_gen (fun w' => Fr No w w' ∧ Blk w'.heap w.heap.size (clE c) 25 ∧ Blk w'.heap (w.alloc (.cells (clE c).toArray 25)).heap.size [.string t, .int .i64 p] 36) ⟨by ((iterate 2 (apply Fr.alloc)); exact Fr.refl _ _), inferInstance, inferInstance⟩ ?_
  rintro w1 ⟨hf1, h1, h2⟩
  generalize (w.alloc (.cells (clE c).toArray 25)).heap.size = b3 at h2 ⊢
  generalize w.heap.size = b2 at h1 ⊢
  (((apply vL_val); (case h => ((apply opv_fieldAddr); exact rfl))); ((apply vL_val); (case h => ((apply opv_loadb1); exact rfl; exact rfl; assumption; exact rfl))); ((apply vL_val); (case h => ((apply opv_loadbC); exact rfl; exact rfl; assumption; exact (rfl : _ = [_, _]); exact rfl))))
  refine vL_callF rfl (bs31 c.sv.1 c.ss t p w1 (hr.frN hf1) hl hs) rfl ?_
  rintro _ w2 ⟨rfl, hf2⟩
  ((iterate 4 (((apply vL_val); (case h => ((apply opv_E); exact rfl))))); apply vL_nil; apply seqP_normal; apply vC_ret)
  (apply ret2; (case h1 => (exact norm_eq rfl)); (case h2 => (exact norm_eq rfl)))
  exact ⟨rfl, hf1.trans hf2⟩
end Go.Proofs.Ytchfaeaagpemlaa

set_option maxRecDepth 100000
namespace Go.Proofs.Ytchfaeaagpemlaa
open Go Go.Eng
theorem indexFunc_wt (fv v : Value) (p : WT → Bool) (xs : List WT) (w : World) (f : FuncId) (cap : List Value) [FnOk Try.prog f] (hr : Rd w.heap 26 wtE v xs) (hfv : fv = .func (.func f) #[] cap.toArray)
    (hf : ∀ x w1, x ∈ xs → Fr No w w1 → Rets Try.prog f (Value.agg (wtE x).toArray :: cap).toArray w1 fun v w2 => v = .bool (p x) ∧ Fr No w1 w2) :
    Rets Try.prog 19 #[v, fv] w fun u w' => Fr No w w' ∧ ((u = .int .i64 (-1) ∧ ∀ x ∈ xs, p x = false) ∨ ∃ k : Nat, u = .int .i64 k ∧ k < xs.length ∧ (∃ x, xs[k]? = some x ∧ p x = true) ∧ ∀ j, j < k → ∀ x, xs[j]? = some x → p x = false) := by
  subst hfv
  have hs := hr.small
  refine rets_of Try.func19 rfl Try.ntmps19 rfl rfl (by kernel_rfl) ?_
  (apply vC_seq; apply vC_region; ((apply vL_val); (case h => ((apply opv_E); exact rfl))); apply vL_nil; apply seqP_normal; (iterate 2 (apply vC_seq)); apply vC_region; ((apply vL_val); (case h => ((apply opv_move); ((conv => lhs; whnf) <;> exact rfl)))); ((apply vL_val); (case h => ((apply opv_len); ((conv => lhs; whnf) <;> exact rfl); assumption))); ((apply vL_val); (case h => ((apply opv_E); exact rfl))); apply vL_nil; apply seqP_normal; apply vC_block)
  (apply vC_loop1 524080 8 (fun u w' => ∃ k : Nat, u = .int .i64 k ∧ k ≤ xs.length ∧ Fr No w w' ∧ ∀ j, j < k → ∀ x, xs[j]? = some x → p x = false) (fun u _ => xs.length - (RowKit.intOf u).toNat)); (case h1 => (exact norm_eq rfl))
  case h0 => exact ⟨0, rfl, by omega, Fr.refl _ _, by omega⟩
  case round =>
  rintro junk _ w1 ⟨k, rfl, hk, hfr, hp⟩
  have hr1 := Rd.frN hfr hr
  (apply vC_seq; apply vC_region; ((apply vL_val); (case h => ((apply opv_E); exact rfl))); apply vL_nil; apply seqP_normal; apply vC_seq)
  refine vC_cond_dec rfl (fun h => ?_) (fun h => ?_)
  · have hk' : k < xs.length := by omega
    obtain ⟨x, hx⟩ : ∃ x, xs[k]? = some x := ⟨xs[k], by simp [hk']⟩
    (apply vC_skip; apply seqP_normal; apply vC_seq; apply vC_block; apply vC_seq; apply vC_region; (iterate 2 (((apply vL_val); (case h => ((apply opv_E); exact rfl))))); apply vL_nil; apply seqP_normal; apply vC_seq; apply vC_region; ((apply vL_val); (case h => ((apply opv_E); exact rfl))); ((apply vL_val); (case h => ((apply opv_move); ((conv => lhs; whnf) <;> exact rfl)))); ((apply vL_val); (case h => ((apply opv_E); exact rfl))); ((apply vL_val); (case h => ((apply opv_indexAddr); ((conv => lhs; whnf) <;> exact rfl); exact rfl; assumption; (first | omega | (simp only [List.length_map]; omega)); (first | omega | (simp only [List.length_map]; omega))))); ((apply vL_val); (case h => ((apply opv_ld_eln); exact rfl; exact rfl; assumption; assumption))))
    refine vL_callF rfl (hf x _ (List.mem_of_getElem? hx) (by (assumption))) rfl ?_
    rintro _ w2 ⟨rfl, hfr2⟩
    have hfr3 : Fr No w w2 := Fr.trans (by (assumption)) hfr2
    (apply vL_nil; apply seqP_normal)
    refine vC_cond rfl (fun hpx => ?_) (fun hpx => ?_)
    · (apply vC_seq; apply vC_region; (iterate 2 (((apply vL_val); (case h => ((apply opv_E); exact rfl))))); apply vL_nil; apply seqP_normal; apply vC_ret; apply blockP_ret; apply seqP_ret; apply loopP_ret; apply blockP_ret; apply seqP_ret)
      (apply ret1; (case h1 => (exact norm_eq rfl)))
      exact ⟨hfr3, .inr ⟨k, rfl, hk', ⟨x, hx, hpx⟩, hp⟩⟩
    · (apply vC_skip; apply blockP_normal; apply seqP_normal; apply vC_region; ((apply vL_val); (case h => ((apply opv_add); exact rfl; exact rfl; (first | omega | (simp only [List.length_map]; omega))))); ((apply vL_val); (case h => ((apply opv_E); exact rfl))); apply vL_nil; apply loopP_normal)
      (with_reducible apply end1); (case hs => ((iterate 11 (((refine same_updO ?_ ?_); rotate_left; exact rfl))); ((refine same_upd ?_ ?_); rotate_left; exact rfl); (exact same_mask _ _ _))); (case h1 => (exact norm_eq rfl))
      · exact ⟨k + 1, rfl, by omega, hfr3, fun j hj y hy => by
          by_cases e : j = k
          · subst e; rw [hx] at hy; cases hy; exact hpx
          · exact hp j (by omega) y hy⟩
      · simp [RowKit.intOf]; omega
  · (apply vC_exit; apply seqP_exit; apply loopP_exit; apply blockP_exit; apply seqP_normal; apply vC_seq; apply vC_region; ((apply vL_val); (case h => ((apply opv_E); exact rfl))); apply vL_nil; apply seqP_normal; apply vC_ret)
    (apply ret1; (case h1 => (exact norm_eq rfl)))
    refine ⟨hfr, .inl ⟨rfl, fun x hx => ?_⟩⟩
    obtain ⟨j, hj, rfl⟩ := List.getElem_of_mem hx
    exact hp j (by omega) _ (List.getElem?_eq_getElem hj)
theorem prodc31 (x : WT) (b : Nat) (t : ByteArray) (p : Int) (w : World) (hb : Blk w.heap b [.string t, .int .i64 p] 36) (hx : x.rq.k = 1 ∧ x.rq.topic = t ∧ x.rq.part = p) : Rets Try.prog 44 #[.agg (wtE x).toArray, .pointer (some ⟨b, 0, none⟩)] w fun u w' => u = .bool true ∧ Fr No w w' := by
  obtain ⟨hk, rfl, rfl⟩ := hx
  have hbv := x.rq.brv.2
  have htv := x.rq.trv.2
  refine rets_of Try.func44 rfl Try.ntmps44 rfl rfl (by kernel_rfl) ?_
  (apply vC_seq; apply vC_region; ((apply vL_val); (case h => ((apply opw_boxn); exact rfl))); ((apply vL_val); (case h => ((apply opv_E); exact rfl))); apply vL_nil; apply seqP_normal; apply vC_seq)
  refine vC_gen (fun w' => Fr No w w' ∧ Blk w'.heap w.heap.size (wtE x) 42) ⟨by (apply Fr.alloc; exact Fr.refl _ _), inferInstance⟩ ?_
  rintro w1 ⟨hf1, h1⟩
  have hb1 := hb.frN hf1
  generalize w.heap.size = b2 at h1 ⊢
  refine vC_draw' (fun wf => Fr No w1 wf) ((Fr.refl No w1).drew) ?_
  ((apply (tk 0)); (case hi => exact rfl); (case hf => kernel_rfl); (case hS => (apply Fr.drew; exact Fr.refl _ _)); (case hy => (intro wf hwf; haveI := From.mk hwf; (((apply opv_fieldAddr); exact rfl)))))
  ((apply (tk 1)); (case hi => exact rfl); (case hf => kernel_rfl); (case hS => (apply Fr.drew; exact Fr.refl _ _)); (case hy => (intro wf hwf; haveI := From.mk hwf; (((apply opv_fieldAddr); exact rfl)))))
  ((apply (tk 2)); (case hi => exact rfl); (case hf => kernel_rfl); (case hS => (apply Fr.drew; exact Fr.refl _ _)); (case hy => (intro wf hwf; haveI := From.mk hwf; (((apply opv_loadb1); exact rfl; exact rfl; infer_instance; exact rfl)))))
  ((apply (tk 3)); (case hi => exact rfl); (case hf => kernel_rfl); (case hS => (apply Fr.drew; exact Fr.refl _ _)); (case hy => (intro wf hwf; haveI := From.mk hwf; (((apply opv_E); exact rfl)))))
  ((apply (tk 4)); (case hi => exact rfl); (case hf => kernel_rfl); (case hS => (apply Fr.drew; exact Fr.refl _ _)); (case hy => (intro wf hwf; haveI := From.mk hwf; (((apply opv_E); exact rfl)))))
  refine vA_split 8 rfl (fun _ => ?_) (fun h => absurd hk h)
  ((apply (tkw 5)); (case hi => exact rfl); (case hg => exact rfl); (case hf => kernel_rfl); (case hS => (apply Fr.drew; exact Fr.refl _ _)); (case hy => (intro wf hwf; haveI := From.mk hwf; (((apply opv_fieldAddr); exact rfl)))))
  ((apply (tkw 6)); (case hi => exact rfl); (case hg => exact rfl); (case hf => kernel_rfl); (case hS => (apply Fr.drew; exact Fr.refl _ _)); (case hy => (intro wf hwf; exact opv_loadbC (cs := rqE x.rq) rfl rfl (h1.frN hwf) rfl rfl)))
  ((apply (tkw 8)); (case hi => exact rfl); (case hg => exact rfl); (case hf => kernel_rfl); (case hS => (apply Fr.drew; exact Fr.refl _ _)); (case hy => (intro wf hwf; haveI := From.mk hwf; (((apply opv_loadbC); exact rfl; exact rfl; infer_instance; exact (rfl : _ = [_, _]); exact rfl)))))
  (refine tkcw 7 rfl rfl (by kernel_rfl) (by (apply Fr.drew; exact Fr.refl _ _)) rfl (of31 x.rq _) rfl ?_)
  rintro _ w2 ⟨rfl, hf2⟩
  have hf12 : Fr No w1 w2 := (Fr.refl No w1).drew.trans hf2
  ((apply (tkw 9)); (case hi => exact rfl); (case hg => exact rfl); (case hf => kernel_rfl); (case hS => (assumption)); (case hy => (intro wf hwf; haveI := From.mk hwf; (((apply opv_eql_agg); exact rfl; exact rfl; (first | exact ⟨rfl, rfl, trivial⟩ | exact ⟨rfl, trivial⟩ | exact ⟨rfl, rfl, rfl, trivial⟩ | exact ⟨rfl, rfl, rfl, rfl, trivial⟩ | exact ⟨rfl, rfl, rfl, rfl, rfl, trivial⟩); (first | exact ⟨rfl, rfl, trivial⟩ | exact ⟨rfl, trivial⟩ | exact ⟨rfl, rfl, rfl, trivial⟩ | exact ⟨rfl, rfl, rfl, rfl, trivial⟩ | exact ⟨rfl, rfl, rfl, rfl, rfl, trivial⟩))))))
  ((apply (tk 10)); (case hi => exact rfl); (case hf => kernel_rfl); (case hS => (assumption)); (case hy => (intro wf hwf; haveI := From.mk hwf; (((apply opv_E); exact rfl)))))
  ((apply (tk 11)); (case hi => exact rfl); (case hf => kernel_rfl); (case hS => (assumption)); (case hy => (intro wf hwf; haveI := From.mk hwf; (((apply opv_E); exact rfl)))))
  refine vA_done (by kernel_rfl) (by (first | exact trivial | ((assumption); done))) ?_
  (apply seqP_normal; apply vC_ret)
  (apply ret1; (case h1 => (exact norm_eq rfl)))
  exact ⟨by simp [valsEq, valEq], hf1.trans hf12⟩
theorem contains1 (v : Value) (x : WT) (b : Nat) (t : ByteArray) (p : Int) (w : World) (hr : Rd w.heap 26 wtE v [x]) (hb : Blk w.heap b [.string t, .int .i64 p] 36) (hx : x.rq.k = 1 ∧ x.rq.topic = t ∧ x.rq.part = p) : Rets Try.prog 32 #[v, .func (.func 44) #[] #[.pointer (some ⟨b, 0, none⟩)]] w fun u w' => u = .bool true ∧ Fr No w w' := by
  obtain ⟨va, vc, ev⟩ := hr.len
  refine rets_of Try.func32 rfl Try.ntmps32 rfl rfl (by kernel_rfl) ?_
  (apply vC_seq; apply vC_region; ((apply vL_val); (case h => ((apply opv_E); exact rfl))); apply vL_nil; apply seqP_normal; apply vC_seq; apply vC_region; ((apply vL_val); (case h => ((apply opv_move); ((conv => lhs; whnf) <;> exact rfl)))); ((apply vL_val); (case h => ((apply opv_E); exact rfl))))
  refine vL_callF rfl (indexFunc_wt _ _ (fun _ => true) [x] _ 44 [.pointer (some ⟨b, 0, none⟩)] hr rfl (fun y w1 hy hf => by rw [List.mem_singleton.1 hy]; exact prodc31 x b t p w1 (hb.frN hf) hx)) rfl ?_
  rintro _ w2 ⟨hf2, ⟨rfl, h⟩ | ⟨k, rfl, hk, _, _⟩⟩
  · exact absurd (h x (List.mem_singleton_self _)) (by decide)
  · ((iterate 2 (((apply vL_val); (case h => ((apply opv_E); exact rfl))))); apply vL_nil; apply seqP_normal; apply vC_ret)
    (apply ret1; (case h1 => (exact norm_eq rfl)))
    exact ⟨by rw [decide_eq_true (by omega)], hf2⟩
end Go.Proofs.Ytchfaeaagpemlaa

set_option maxRecDepth 100000
namespace Go.Proofs.Ytchfaeaagpemlaa
open Go Go.Eng
/-- the request that Produce puts -/
def prodR (c : CL) (t : ByteArray) (p fi : Int) (rv : OV) (brs : List (OV × List Int)) : RQ := { k := 1, cl := 0, call := 0, topic := t, part := p, pid := c.pid, ep := c.ep, fi := fi, brv := rv, off := 0, most := 0, byt := 0, mkd := 0, grp := ⟨#[]⟩, nm := ⟨#[]⟩, n := 0, trv := nilO, ptop := ⟨#[]⟩, ppart := 0, moff := 0, mnow := 0, mcl := 0, mcall := 0, brs := brs, tps := [] }
def firstOf (c : CL) : Int := match c.ss with | [] => 0 | s :: _ => s.nx
structure ProdH (c : CL) (t : ByteArray) (p : Int) (brs : List (OV × List Int)) : Prop where
  R : R1 c
  nx : c.next < 1099511627776
  pid : c.pid ≠ 0
  st : c.stale = false
  may : mayPB t p = true
  pb : 0 ≤ p ∧ p ≤ 1000
  tz : t.size ≤ 1000
  sp : ∀ s ∈ c.ss, s.topic = t ∧ s.part = p
  mb : mayB 0 0 0 (brs.map (fun y => y.2.length)) = true
  bz : brs.length ≤ 256 ∧ firstOf c + brs.length ≤ 4611686018427387904 ∧ 0 ≤ firstOf c
  sz : ∀ y ∈ brs, y.2.length ≤ 140737488355328
theorem produce31 (c : CL) (t : ByteArray) (p : Int) (rv : OV) (brs : List (OV × List Int)) (w : World) (H : ProdH c t p brs) (hw : c.ws = []) (hc : ClRd w.heap c) (hr : Rd w.heap 1 brE rv.1 brs ∧ ∀ y ∈ brs, Rd w.heap 1 u8E y.1.1 y.2) :
    Rets Try.prog 15 #[.agg (clE c).toArray, .agg #[.string t, .int .i64 p], rv.1] w fun u w' => ∃ c' lv sd, u = .tuple #[.agg (clE c').toArray, lv, .int .i64 0] ∧ Own w'.heap 48 24 sdE lv [sd] ∧ lv.oneCell' = true ∧ ClOwn w'.heap c' ∧ (∀ b, own c'.wv.1 = some b → w.heap.size ≤ b) ∧ (∀ b, own c'.sv.1 = some b → w.heap.size ≤ b) ∧ Fr No w w' ∧ PutP c (prodR c t p (firstOf c) rv brs) c' sd := by
  have hw0 := c.wv.2
  have hs0 := c.sv.2
  obtain ⟨rvv, hrv⟩ := rv
  obtain ⟨ra, rc, er⟩ := hr.1.len
  simp only at er hr ⊢
  subst er
  have hmay := H.may
  have htz := H.tz
  have hpb := H.pb
  have hpid := H.pid
  have hst := H.st
  have hsl := H.R.s1
  have hys : ByOk (brs.map (fun y => (y.1, y.2.length))) := fun y hy => by
    obtain ⟨z, hz, rfl⟩ := List.mem_map.1 hy
    obtain ⟨a, cc, e⟩ := (hr.2 z hz).len
    exact ⟨a, cc, e, by have := (hr.2 z hz).small; simp only; omega⟩
  have hmb : mayB 0 0 0 ((brs.map (fun y => (y.1, y.2.length))).map (·.2)) = true := by rw [List.map_map]; exact H.mb
  refine rets_of Try.func15 rfl Try.ntmps15 rfl rfl (by kernel_rfl) ?_
  ((apply vC_seq; apply vC_region)); (((iterate 2 (((apply vL_val); (case h => ((apply opw_boxn); exact rfl))))); ((apply vL_val); (case h => (apply opw_alloc))); (iterate 2 (((apply vL_val); (case h => ((apply opv_E); exact rfl))))); apply vL_nil)); with_reducible apply seqP_normal
  (((iterate 2 (apply vC_seq)); apply vC_region))
  have e3 : (w.alloc (.cells (clE c).toArray 25)).heap.size = w.heap.size + 1 := by simp
  have e4 : ((w.alloc (.cells (clE c).toArray 25)).alloc (.cells #[.string t, .int .i64 p] 36)).heap.size = w.heap.size + 2 := by simp
  refine vL_gen (fun w' => Fr No w w' ∧ Blk w'.heap w.heap.size (clE c) 25 ∧ Blk w'.heap (w.alloc (.cells (clE c).toArray 25)).heap.size [.string t, .int .i64 p] 36 ∧ Blk w'.heap ((w.alloc (.cells (clE c).toArray 25)).alloc (.cells #[.string t, .int .i64 p] 36)).heap.size clZ 25) ⟨by ((iterate 3 (apply Fr.alloc)); exact Fr.refl _ _), inferInstance, inferInstance, inferInstance⟩ ?_
  rintro w1 ⟨hf1, h3, h4, h6⟩
  rw [e3] at h4
  rw [e4] at h6
  rw [e3, e4]
  obtain ⟨b3, eb3⟩ : ∃ b3, b3 = w.heap.size := ⟨_, rfl⟩
  obtain ⟨b4, eb4⟩ : ∃ b4, b4 = w.heap.size + 1 := ⟨_, rfl⟩
  obtain ⟨b6, eb6⟩ : ∃ b6, b6 = w.heap.size + 2 := ⟨_, rfl⟩
  rw [← eb6] at h6 ⊢
  rw [← eb4] at h4 ⊢
  rw [← eb3] at h3 ⊢
  have hsz1 := hf1.size
  have hl6 := h6.lt
  (((apply vL_val); (case h => ((apply opv_loadbC); exact rfl; exact rfl; assumption; exact (rfl : _ = [_, _]); exact rfl))))
  refine vL_callF rfl (mayp31 t p w1 (by omega)) rfl ?_
  rintro _ w2 ⟨rfl, hf2⟩
  rw [hmay]
  have h32 := h3.frN hf2
  have h42 := h4.frN hf2
  have h62 := h6.frN hf2
  have hf12 := hf1.trans hf2
  clear h3 h4 h6 hf2
  (((apply vL_val); (case h => ((apply opv_not); exact rfl))); ((apply vL_val); (case h => ((apply opv_E); exact rfl))); ((apply vL_wanted); exact rfl); ((apply vL_val); (case h => ((apply opv_E); exact rfl))); ((apply vL_wanted); exact rfl); ((apply vL_val); (case h => ((apply opv_buildS); exact rfl; exact (rfl : _ = some [_, _, _, _])))); ((apply vL_wanted); exact rfl))
  refine vL_callF rfl (may25 0 0 0 ⟨.slice ra brs.length rc, hrv⟩ (brs.map (fun y => (y.1, y.2.length))) w2 ((Rd.by25 hr.1).frN hf12) hys) rfl ?_
  rintro _ w3 ⟨rfl, hf3⟩
  rw [hmb]
  have h33 := h32.frN hf3
  have h43 := h42.frN hf3
  have h63 := h62.frN hf3
  have hf13 := hf12.trans hf3
  clear h32 h42 h62 hf3 hf12
  (((apply vL_wanted); exact rfl); ((apply vL_val); (case h => ((apply opv_not); exact rfl))); (iterate 2 (((apply vL_val); (case h => ((apply opv_E); exact rfl))))); ((apply vL_wanted); exact rfl); ((apply vL_val); (case h => ((apply opv_loadbC); exact rfl; exact rfl; assumption; exact (rfl : _ = [_, _, _, _, _, _, _, _, _, _]); exact rfl))); ((apply vL_wanted); exact rfl))
  refine vL_callF rfl (right31 c w3 (hc.frN hf13) H.R) rfl ?_
  rintro _ w4 ⟨rfl, hf4⟩
  have h34 := h33.frN hf4
  have h44 := h43.frN hf4
  have h64 := h63.frN hf4
  have hf14 := hf13.trans hf4
  clear h33 h43 h63 hf4 hf13
  (((apply vL_wanted); exact rfl); ((apply vL_val); (case h => ((apply opv_not); exact rfl))); ((apply vL_val); (case h => ((apply opv_E); exact rfl))); apply vL_nil; apply seqP_normal; ((apply vC_cond_false); exact rfl); apply vC_skip; apply seqP_normal; apply vC_seq; apply vC_region; ((apply vL_val); (case h => ((apply opv_loadbC); exact rfl; exact rfl; assumption; exact (rfl : _ = [_, _, _, _, _, _, _, _, _, _]); exact rfl))); ((apply vL_val); (case h => ((apply opv_loadbC); exact rfl; exact rfl; assumption; exact (rfl : _ = [_, _]); exact rfl))))
  refine vL_callF rfl (find31 c t p w4 (hc.2.2.frN hf14) hsl (fun s hs => ⟨(H.sp s hs).1, (H.sp s hs).2, hpb⟩)) rfl ?_
  rintro _ w5 ⟨rfl, hf5⟩
  have h35 := h34.frN hf5
  have h45 := h44.frN hf5
  have h65 := h64.frN hf5
  have hf15 := hf14.trans hf5
  have hrs5 := hc.2.2.frN hf15
  have hrw5 := hc.1.frN hf15
  clear h34 h44 h64 hf5 hf14
  obtain ⟨wa, wc, ewv⟩ := hrw5.len
  rw [hw] at ewv
  have hbz := H.bz
  by_cases hl1 : c.ss.length = 1
  · obtain ⟨s, hss⟩ : ∃ s, c.ss = [s] := by
      match hcs : c.ss, hl1 with
      | [s], _ => exact ⟨s, rfl⟩
    have hsi : c.ss[(0 : Int).toNat]? = some s := by rw [hss]; rfl
    have hfo : firstOf c = s.nx := by unfold firstOf; rw [hss]
    have hl0 : (0 : Int) < c.ss.length := by omega
    rw [decide_eq_true hl1]
    ((iterate 5 (((apply vL_val); (case h => ((apply opv_E); exact rfl))))); apply vL_nil; apply seqP_normal; apply vC_seq; apply vC_region; ((apply vL_val); (case h => ((apply opv_E); exact rfl))); apply vL_nil; apply seqP_normal; (iterate 2 (apply vC_seq)); apply vC_region; ((apply vL_val); (case h => ((apply opv_E); exact rfl))); apply vL_nil; apply seqP_normal; ((apply vC_cond_true); exact rfl); apply vC_region; ((apply vL_val); (case h => ((apply opv_fieldAddr); exact rfl))); ((apply vL_val); (case h => ((apply opv_loadb1); exact rfl; exact rfl; assumption; exact rfl))); ((apply vL_val); (case h => ((apply opv_E); exact rfl))); ((apply vL_val); (case h => ((apply opv_indexAddr); ((conv => lhs; whnf) <;> exact rfl); exact rfl; assumption; (first | omega | (simp only [List.length_map]; omega)); (first | omega | (simp only [List.length_map]; omega))))); ((apply vL_val); (case h => ((apply opv_fieldAddr); exact rfl))); ((apply vL_val); (case h => ((apply opv_ld_el); exact rfl; exact rfl; assumption; assumption; exact rfl))); ((apply vL_val); (case h => ((apply opv_E); exact rfl))); apply vL_nil; apply seqP_normal; apply vC_seq; apply vC_block; apply vC_seq; apply vC_region; ((apply vL_val); (case h => ((apply opv_fieldAddr); exact rfl))); ((apply vL_val); (case h => ((apply opv_loadb1); exact rfl; exact rfl; assumption; exact rfl))); (iterate 2 (((apply vL_val); (case h => ((apply opv_E); exact rfl))))); (refine vL_or rfl rfl (fun _ => ?_) (fun h => by omega)); ((apply vL_val); (case h => ((apply opv_fieldAddr); exact rfl))); ((apply vL_wanted); exact rfl); ((apply vL_val); (case h => ((apply opv_loadb1); exact rfl; exact rfl; assumption; exact rfl))); (iterate 2 (((apply vL_val); (case h => ((apply opv_E); exact rfl))))); apply vL_nil; apply seqP_normal)
    refine vC_condF rfl hst ?_
    (apply vC_seq)
    refine vC_draw' (fun wf => Fr No w5 wf) ((Fr.refl No w5).drew) ?_
    ((apply (tk 0)); (case hi => exact rfl); (case hf => kernel_rfl); (case hS => (apply Fr.drew; exact Fr.refl _ _)); (case hy => (intro wf hwf; haveI := From.mk hwf; (((apply opv_fieldAddr); exact rfl)))))
    ((apply (tk 1)); (case hi => exact rfl); (case hf => kernel_rfl); (case hS => (apply Fr.drew; exact Fr.refl _ _)); (case hy => (intro wf hwf; haveI := From.mk hwf; (((apply opv_loadb1); exact rfl; exact rfl; infer_instance; exact rfl)))))
    ((apply (tk 2)); (case hi => exact rfl); (case hf => kernel_rfl); (case hS => (apply Fr.drew; exact Fr.refl _ _)); (case hy => (intro wf hwf; haveI := From.mk hwf; (((apply opv_loadbC); exact rfl; exact rfl; infer_instance; exact (rfl : _ = [_, _]); exact rfl)))))
    (refine tkc 3 rfl (by kernel_rfl) (by (apply Fr.drew; exact Fr.refl _ _)) rfl (produces31 t p _) rfl ?_)
    rintro _ w6 ⟨rfl, hf6, _⟩
    have hf56 : Fr No w5 w6 := (Fr.refl No w5).drew.trans hf6
    have hc0 : Rets Try.prog 32 #[c.wv.1, .func (.func 44) #[] #[.pointer (some ⟨w5.drew.heap.size, 0, none⟩)]] w6 (fun u w' => u = .bool false ∧ w6 = w') := by
      rw [ewv]
      exact contains0 wa wc _ w6 rfl
    (refine tkc 4 rfl (by kernel_rfl) (by (assumption)) rfl (hc0) rfl ?_)
    rintro _ _ ⟨rfl, rfl⟩
    ((apply (tk 5)); (case hi => exact rfl); (case hf => kernel_rfl); (case hS => (assumption)); (case hy => (intro wf hwf; haveI := From.mk hwf; (((apply opv_E); exact rfl)))))
    refine vA_done (by kernel_rfl) (by (first | exact trivial | ((assumption); done))) ?_
    have h36 := h35.frN hf56
    have h46 := h45.frN hf56
    have h66 := h65.frN hf56
    have hf16 := hf15.trans hf56
    have hrs6 := hrs5.frN hf56
    clear h35 h45 h65 hf15 hf56 hf6 hrs5 hrw5
    (apply seqP_normal; ((apply vC_cond_false); exact rfl); apply vC_seq; apply vC_region; ((apply vL_val); (case h => ((apply opv_E); exact rfl))); ((apply vL_val); (case h => ((apply opv_not); exact rfl))); ((apply vL_val); (case h => ((apply opv_E); exact rfl))); (iterate 4 (((apply vL_unwanted'); exact rfl; exact rfl))); (iterate 2 (((apply vL_val); (case h => ((apply opv_E); exact rfl))))); ((apply vL_wanted); exact rfl); ((apply vL_val); (case h => ((apply opv_E); exact rfl))); ((apply vL_wanted); exact rfl); ((apply vL_val); (case h => ((apply opv_E); exact rfl))); ((apply vL_wanted); exact rfl); ((apply vL_val); (case h => ((apply opv_lenc); exact rfl))); ((apply vL_wanted); exact rfl); ((apply vL_val); (case h => ((apply opv_add); exact rfl; exact rfl; (first | omega | (simp only [List.length_map]; omega))))); ((apply vL_wanted); exact rfl); (iterate 3 (((apply vL_val); (case h => ((apply opv_E); exact rfl))))); apply vL_nil; apply seqP_normal; (refine vC_cond_dec rfl (fun h => by omega) (fun _ => ?_)); apply vC_skip; apply blockP_normal; apply seqP_normal; apply vC_seq; apply vC_region; ((apply vL_val); (case h => ((apply opv_loadbC); exact rfl; exact rfl; assumption; exact (rfl : _ = [_, _, _, _, _, _, _, _, _, _]); exact rfl))); ((apply vL_val); (case h => ((apply opv_fieldAddr); exact rfl))); ((apply vL_val); (case h => ((apply opv_loadb1); exact rfl; exact rfl; assumption; exact rfl))); ((apply vL_val); (case h => ((apply opv_fieldAddr); exact rfl))); ((apply vL_val); (case h => ((apply opv_loadb1); exact rfl; exact rfl; assumption; exact rfl))); ((apply vL_val); (case h => ((apply opv_fieldAddr); exact rfl))); ((apply vL_val); (case h => ((apply opv_loadb1); exact rfl; exact rfl; assumption; exact rfl))); ((apply vL_val); (case h => ((apply opv_fieldAddr); exact rfl))); ((apply vL_val); (case h => ((apply opv_loadb1); exact rfl; exact rfl; assumption; exact rfl))); (iterate 2 (((apply vL_val); (case h => ((apply opv_E); exact rfl))))); ((apply vL_val); (case h => ((apply opv_buildS); exact rfl; exact (rfl : _ = some [_, _, _, _])))); ((apply vL_val); (case h => ((apply opv_buildS); exact rfl; exact (rfl : _ = some [_, _, _, _, _, _, _, _, _, _, _, _, _, _, _, _, _, _, _, _, _, _, _])))))
    refine vL_callF rfl (put31 c (prodR c t p (s.nx) ⟨.slice ra brs.length rc, hrv⟩ brs) w6 hw ⟨H.R.nx.1, H.nx⟩ H.R.now (by have := H.R.bro; have := H.R.br; omega) (by have := H.R.br; omega) (hc.frN hf16) (by omega) ⟨hr.1.frN hf16, fun y hy => (hr.2 y hy).frN hf16, Rd.nil _ _ _⟩ ⟨by show brs.length * 24 ≤ _; omega, fun y hy => H.sz y hy, by show 0 * 16 ≤ _; omega⟩) rfl ?_
    rintro _ w7 ⟨c', lv, sd, rfl, hl7, hlo, hc7, hfw7, hfs7, hf7, hP⟩
    have h67 := h66.frN hf7
    have hw7 := c'.wv.2
    have hs7 := c'.sv.2
    have hsz6 := hf16.size
    (((apply vL_val); (case h => ((apply opv_E); exact rfl))); ((apply vL_val); (case h => ((apply opv_extract); exact norm_eq rfl; exact rfl))); ((apply vL_val); (case h => ((apply opv_E); exact rfl))); ((apply vL_skip); (case h => ((apply ops_storen); exact norm_eq rfl; exact norm_eq rfl; exact rfl; exact (fun u hu => EncOk.one _ u hu); assumption; (first | decide | exact of_decide_eq_true rfl | (simp; done))))); ((apply vL_val); (case h => ((apply opv_assign); ((conv => lhs; whnf) <;> exact rfl)))); ((apply vL_val); (case h => ((apply opv_E); exact rfl))); apply vL_nil; apply seqP_normal; apply vC_ret)
    (apply retC3; (case ha => exact rfl); (case hD => exact rfl); (case hb => exact Blk.set h67); (case hcs => exact (rfl : _ = clE c')); (case hl => exact rfl); (case hu => (((conv => lhs; whnf) <;> exact rfl))); (case hu2 => (exact norm_eq rfl)))
    have hfin : Fr (fun k => k = b6) w7 (w7.setRow b6 (List.take 0 clZ ++ [.int .i64 c'.id, .int .i64 c'.brokers, .int .i64 c'.next, .int .i64 c'.now, .int .i64 c'.broker, c'.wv.1, .int .i64 c'.pid, .int .i64 c'.ep, .bool c'.stale, c'.sv.1] ++ List.drop (0 + 10) clZ).toArray) := (Fr.refl (fun k => k = b6) w7).set _ _ (.inl rfl)
    exact ⟨c', lv, sd, rfl, hl7.fr hfin (fun b hb e => Own.ne_blk hl7 h67 (by decide) (by rw [hb, e])), hlo, hc7.frBlk h67 ⟨by decide, by decide, by decide⟩ ⟨by decide, by decide⟩ hfin, (fun b hb => by have := hfw7 b hb; omega), (fun b hb => by have := hfs7 b hb; omega), (hf16.trans hf7).trans' hfin (fun k hk => .inr (by omega)), by rw [hfo]; exact hP⟩
  · have hss : c.ss = [] := by
      match hcs : c.ss, hl1, hsl with
      | [], _, _ => rfl
      | [_], h, _ => exact absurd rfl h
    have hfo : firstOf c = 0 := by unfold firstOf; rw [hss]
    rw [decide_eq_false hl1]
    ((iterate 5 (((apply vL_val); (case h => ((apply opv_E); exact rfl))))); apply vL_nil; apply seqP_normal; apply vC_seq; apply vC_region; ((apply vL_val); (case h => ((apply opv_E); exact rfl))); apply vL_nil; apply seqP_normal; (iterate 2 (apply vC_seq)); apply vC_region; ((apply vL_val); (case h => ((apply opv_E); exact rfl))); apply vL_nil; apply seqP_normal; ((apply vC_cond_false); exact rfl); apply vC_skip; apply seqP_normal; apply vC_seq; apply vC_block; apply vC_seq; apply vC_region; ((apply vL_val); (case h => ((apply opv_fieldAddr); exact rfl))); ((apply vL_val); (case h => ((apply opv_loadb1); exact rfl; exact rfl; assumption; exact rfl))); (iterate 2 (((apply vL_val); (case h => ((apply opv_E); exact rfl))))); (refine vL_or rfl rfl (fun _ => ?_) (fun h => by omega)); ((apply vL_val); (case h => ((apply opv_fieldAddr); exact rfl))); ((apply vL_wanted); exact rfl); ((apply vL_val); (case h => ((apply opv_loadb1); exact rfl; exact rfl; assumption; exact rfl))); (iterate 2 (((apply vL_val); (case h => ((apply opv_E); exact rfl))))); apply vL_nil; apply seqP_normal)
    refine vC_condF rfl hst ?_
    (apply vC_seq)
    refine vC_draw' (fun wf => Fr No w5 wf) ((Fr.refl No w5).drew) ?_
    ((apply (tk 0)); (case hi => exact rfl); (case hf => kernel_rfl); (case hS => (apply Fr.drew; exact Fr.refl _ _)); (case hy => (intro wf hwf; haveI := From.mk hwf; (((apply opv_fieldAddr); exact rfl)))))
    ((apply (tk 1)); (case hi => exact rfl); (case hf => kernel_rfl); (case hS => (apply Fr.drew; exact Fr.refl _ _)); (case hy => (intro wf hwf; haveI := From.mk hwf; (((apply opv_loadb1); exact rfl; exact rfl; infer_instance; exact rfl)))))
    ((apply (tk 2)); (case hi => exact rfl); (case hf => kernel_rfl); (case hS => (apply Fr.drew; exact Fr.refl _ _)); (case hy => (intro wf hwf; haveI := From.mk hwf; (((apply opv_loadbC); exact rfl; exact rfl; infer_instance; exact (rfl : _ = [_, _]); exact rfl)))))
    (refine tkc 3 rfl (by kernel_rfl) (by (apply Fr.drew; exact Fr.refl _ _)) rfl (produces31 t p _) rfl ?_)
    rintro _ w6 ⟨rfl, hf6, _⟩
    have hf56 : Fr No w5 w6 := (Fr.refl No w5).drew.trans hf6
    have hc0 : Rets Try.prog 32 #[c.wv.1, .func (.func 44) #[] #[.pointer (some ⟨w5.drew.heap.size, 0, none⟩)]] w6 (fun u w' => u = .bool false ∧ w6 = w') := by
      rw [ewv]
      exact contains0 wa wc _ w6 rfl
    (refine tkc 4 rfl (by kernel_rfl) (by (assumption)) rfl (hc0) rfl ?_)
    rintro _ _ ⟨rfl, rfl⟩
    ((apply (tk 5)); (case hi => exact rfl); (case hf => kernel_rfl); (case hS => (assumption)); (case hy => (intro wf hwf; haveI := From.mk hwf; (((apply opv_E); exact rfl)))))
    refine vA_done (by kernel_rfl) (by (first | exact trivial | ((assumption); done))) ?_
    have h36 := h35.frN hf56
    have h46 := h45.frN hf56
    have h66 := h65.frN hf56
    have hf16 := hf15.trans hf56
    have hrs6 := hrs5.frN hf56
    clear h35 h45 h65 hf15 hf56 hf6 hrs5 hrw5
    (apply seqP_normal; ((apply vC_cond_false); exact rfl); apply vC_seq; apply vC_region; ((apply vL_val); (case h => ((apply opv_E); exact rfl))); ((apply vL_val); (case h => ((apply opv_not); exact rfl))); ((apply vL_val); (case h => ((apply opv_E); exact rfl))); ((apply vL_wanted); exact rfl); ((apply vL_val); (case h => ((apply opv_fieldAddr); exact rfl))); ((apply vL_wanted); exact rfl); ((apply vL_val); (case h => ((apply opv_loadb1); exact rfl; exact rfl; assumption; exact rfl))); ((apply vL_wanted); exact rfl); ((apply vL_val); (case h => ((apply opv_len); ((conv => lhs; whnf) <;> exact rfl); assumption))); ((apply vL_wanted); exact rfl); (iterate 3 (((apply vL_val); (case h => ((apply opv_E); exact rfl))))); (refine vL_or rfl rfl (fun _ => ?_) (fun h => by omega)); ((apply vL_val); (case h => ((apply opv_E); exact rfl))); ((apply vL_wanted); exact rfl); ((apply vL_val); (case h => ((apply opv_E); exact rfl))); ((apply vL_wanted); exact rfl); ((apply vL_val); (case h => ((apply opv_lenc); exact rfl))); ((apply vL_wanted); exact rfl); ((apply vL_val); (case h => ((apply opv_add); exact rfl; exact rfl; (first | omega | (simp only [List.length_map]; omega))))); ((apply vL_wanted); exact rfl); (iterate 3 (((apply vL_val); (case h => ((apply opv_E); exact rfl))))); apply vL_nil; apply seqP_normal; (refine vC_cond_dec rfl (fun h => by omega) (fun _ => ?_)); apply vC_skip; apply blockP_normal; apply seqP_normal; apply vC_seq; apply vC_region; ((apply vL_val); (case h => ((apply opv_loadbC); exact rfl; exact rfl; assumption; exact (rfl : _ = [_, _, _, _, _, _, _, _, _, _]); exact rfl))); ((apply vL_val); (case h => ((apply opv_fieldAddr); exact rfl))); ((apply vL_val); (case h => ((apply opv_loadb1); exact rfl; exact rfl; assumption; exact rfl))); ((apply vL_val); (case h => ((apply opv_fieldAddr); exact rfl))); ((apply vL_val); (case h => ((apply opv_loadb1); exact rfl; exact rfl; assumption; exact rfl))); ((apply vL_val); (case h => ((apply opv_fieldAddr); exact rfl))); ((apply vL_val); (case h => ((apply opv_loadb1); exact rfl; exact rfl; assumption; exact rfl))); ((apply vL_val); (case h => ((apply opv_fieldAddr); exact rfl))); ((apply vL_val); (case h => ((apply opv_loadb1); exact rfl; exact rfl; assumption; exact rfl))); (iterate 2 (((apply vL_val); (case h => ((apply opv_E); exact rfl))))); ((apply vL_val); (case h => ((apply opv_buildS); exact rfl; exact (rfl : _ = some [_, _, _, _])))); ((apply vL_val); (case h => ((apply opv_buildS); exact rfl; exact (rfl : _ = some [_, _, _, _, _, _, _, _, _, _, _, _, _, _, _, _, _, _, _, _, _, _, _])))))
    refine vL_callF rfl (put31 c (prodR c t p (0) ⟨.slice ra brs.length rc, hrv⟩ brs) w6 hw ⟨H.R.nx.1, H.nx⟩ H.R.now (by have := H.R.bro; have := H.R.br; omega) (by have := H.R.br; omega) (hc.frN hf16) (by omega) ⟨hr.1.frN hf16, fun y hy => (hr.2 y hy).frN hf16, Rd.nil _ _ _⟩ ⟨by show brs.length * 24 ≤ _; omega, fun y hy => H.sz y hy, by show 0 * 16 ≤ _; omega⟩) rfl ?_
    rintro _ w7 ⟨c', lv, sd, rfl, hl7, hlo, hc7, hfw7, hfs7, hf7, hP⟩
    have h67 := h66.frN hf7
    have hw7 := c'.wv.2
    have hs7 := c'.sv.2
    have hsz6 := hf16.size
    (((apply vL_val); (case h => ((apply opv_E); exact rfl))); ((apply vL_val); (case h => ((apply opv_extract); exact norm_eq rfl; exact rfl))); ((apply vL_val); (case h => ((apply opv_E); exact rfl))); ((apply vL_skip); (case h => ((apply ops_storen); exact norm_eq rfl; exact norm_eq rfl; exact rfl; exact (fun u hu => EncOk.one _ u hu); assumption; (first | decide | exact of_decide_eq_true rfl | (simp; done))))); ((apply vL_val); (case h => ((apply opv_assign); ((conv => lhs; whnf) <;> exact rfl)))); ((apply vL_val); (case h => ((apply opv_E); exact rfl))); apply vL_nil; apply seqP_normal; apply vC_ret)
    (apply retC3; (case ha => exact rfl); (case hD => exact rfl); (case hb => exact Blk.set h67); (case hcs => exact (rfl : _ = clE c')); (case hl => exact rfl); (case hu => (((conv => lhs; whnf) <;> exact rfl))); (case hu2 => (exact norm_eq rfl)))
    have hfin : Fr (fun k => k = b6) w7 (w7.setRow b6 (List.take 0 clZ ++ [.int .i64 c'.id, .int .i64 c'.brokers, .int .i64 c'.next, .int .i64 c'.now, .int .i64 c'.broker, c'.wv.1, .int .i64 c'.pid, .int .i64 c'.ep, .bool c'.stale, c'.sv.1] ++ List.drop (0 + 10) clZ).toArray) := (Fr.refl (fun k => k = b6) w7).set _ _ (.inl rfl)
    exact ⟨c', lv, sd, rfl, hl7.fr hfin (fun b hb e => Own.ne_blk hl7 h67 (by decide) (by rw [hb, e])), hlo, hc7.frBlk h67 ⟨by decide, by decide, by decide⟩ ⟨by decide, by decide⟩ hfin, (fun b hb => by have := hfw7 b hb; omega), (fun b hb => by have := hfs7 b hb; omega), (hf16.trans hf7).trans' hfin (fun k hk => .inr (by omega)), by rw [hfo]; exact hP⟩
end Go.Proofs.Ytchfaeaagpemlaa

set_option maxRecDepth 100000
namespace Go.Proofs.Ytchfaeaagpemlaa
open Go Go.Eng
theorem produceB31 (c : CL) (x : WT) (t : ByteArray) (p : Int) (rv : OV) (brs : List (OV × List Int)) (w : World) (H : ProdH c t p brs) (hw : c.ws = [x]) (hx : x.rq.k = 1 ∧ x.rq.topic = t ∧ x.rq.part = p) (hc : ClRd w.heap c) (hr : Rd w.heap 1 brE rv.1 brs ∧ ∀ y ∈ brs, Rd w.heap 1 u8E y.1.1 y.2) :
    Rets Try.prog 15 #[.agg (clE c).toArray, .agg #[.string t, .int .i64 p], rv.1] w fun u w' => u = .tuple #[.agg clZ.toArray, .slice none 0 0, .int .i64 151] ∧ Fr No w w' := by
  have hw0 := c.wv.2
  have hs0 := c.sv.2
  obtain ⟨rvv, hrv⟩ := rv
  obtain ⟨ra, rc, er⟩ := hr.1.len
  simp only at er hr ⊢
  subst er
  have hmay := H.may
  have htz := H.tz
  have hpb := H.pb
  have hpid := H.pid
  have hst := H.st
  have hsl := H.R.s1
  have hys : ByOk (brs.map (fun y => (y.1, y.2.length))) := fun y hy => by
    obtain ⟨z, hz, rfl⟩ := List.mem_map.1 hy
    obtain ⟨a, cc, e⟩ := (hr.2 z hz).len
    exact ⟨a, cc, e, by have := (hr.2 z hz).small; simp only; omega⟩
  have hmb : mayB 0 0 0 ((brs.map (fun y => (y.1, y.2.length))).map (·.2)) = true := by rw [List.map_map]; exact H.mb
  refine rets_of Try.func15 rfl Try.ntmps15 rfl rfl (by kernel_rfl) ?_
  ((apply vC_seq; apply vC_region)); (((iterate 2 (((apply vL_val); (case h => ((apply opw_boxn); exact rfl))))); ((apply vL_val); (case h => (apply opw_alloc))); (iterate 2 (((apply vL_val); (case h => ((apply opv_E); exact rfl))))); apply vL_nil)); with_reducible apply seqP_normal
  (((iterate 2 (apply vC_seq)); apply vC_region))
  have e3 : (w.alloc (.cells (clE c).toArray 25)).heap.size = w.heap.size + 1 := by simp
  have e4 : ((w.alloc (.cells (clE c).toArray 25)).alloc (.cells #[.string t, .int .i64 p] 36)).heap.size = w.heap.size + 2 := by simp
  refine vL_gen (fun w' => Fr No w w' ∧ Blk w'.heap w.heap.size (clE c) 25 ∧ Blk w'.heap (w.alloc (.cells (clE c).toArray 25)).heap.size [.string t, .int .i64 p] 36 ∧ Blk w'.heap ((w.alloc (.cells (clE c).toArray 25)).alloc (.cells #[.string t, .int .i64 p] 36)).heap.size clZ 25) ⟨by ((iterate 3 (apply Fr.alloc)); exact Fr.refl _ _), inferInstance, inferInstance, inferInstance⟩ ?_
  rintro w1 ⟨hf1, h3, h4, h6⟩
  rw [e3] at h4
  rw [e4] at h6
  rw [e3, e4]
  obtain ⟨b3, eb3⟩ : ∃ b3, b3 = w.heap.size := ⟨_, rfl⟩
  obtain ⟨b4, eb4⟩ : ∃ b4, b4 = w.heap.size + 1 := ⟨_, rfl⟩
  obtain ⟨b6, eb6⟩ : ∃ b6, b6 = w.heap.size + 2 := ⟨_, rfl⟩
  rw [← eb6] at h6 ⊢
  rw [← eb4] at h4 ⊢
  rw [← eb3] at h3 ⊢
  have hsz1 := hf1.size
  have hl6 := h6.lt
  (((apply vL_val); (case h => ((apply opv_loadbC); exact rfl; exact rfl; assumption; exact (rfl : _ = [_, _]); exact rfl))))
  refine vL_callF rfl (mayp31 t p w1 (by omega)) rfl ?_
  rintro _ w2 ⟨rfl, hf2⟩
  rw [hmay]
  have h32 := h3.frN hf2
  have h42 := h4.frN hf2
  have h62 := h6.frN hf2
  have hf12 := hf1.trans hf2
  clear h3 h4 h6 hf2
  (((apply vL_val); (case h => ((apply opv_not); exact rfl))); ((apply vL_val); (case h => ((apply opv_E); exact rfl))); ((apply vL_wanted); exact rfl); ((apply vL_val); (case h => ((apply opv_E); exact rfl))); ((apply vL_wanted); exact rfl); ((apply vL_val); (case h => ((apply opv_buildS); exact rfl; exact (rfl : _ = some [_, _, _, _])))); ((apply vL_wanted); exact rfl))
  refine vL_callF rfl (may25 0 0 0 ⟨.slice ra brs.length rc, hrv⟩ (brs.map (fun y => (y.1, y.2.length))) w2 ((Rd.by25 hr.1).frN hf12) hys) rfl ?_
  rintro _ w3 ⟨rfl, hf3⟩
  rw [hmb]
  have h33 := h32.frN hf3
  have h43 := h42.frN hf3
  have h63 := h62.frN hf3
  have hf13 := hf12.trans hf3
  clear h32 h42 h62 hf3 hf12
  (((apply vL_wanted); exact rfl); ((apply vL_val); (case h => ((apply opv_not); exact rfl))); (iterate 2 (((apply vL_val); (case h => ((apply opv_E); exact rfl))))); ((apply vL_wanted); exact rfl); ((apply vL_val); (case h => ((apply opv_loadbC); exact rfl; exact rfl; assumption; exact (rfl : _ = [_, _, _, _, _, _, _, _, _, _]); exact rfl))); ((apply vL_wanted); exact rfl))
  refine vL_callF rfl (right31 c w3 (hc.frN hf13) H.R) rfl ?_
  rintro _ w4 ⟨rfl, hf4⟩
  have h34 := h33.frN hf4
  have h44 := h43.frN hf4
  have h64 := h63.frN hf4
  have hf14 := hf13.trans hf4
  clear h33 h43 h63 hf4 hf13
  (((apply vL_wanted); exact rfl); ((apply vL_val); (case h => ((apply opv_not); exact rfl))); ((apply vL_val); (case h => ((apply opv_E); exact rfl))); apply vL_nil; apply seqP_normal; ((apply vC_cond_false); exact rfl); apply vC_skip; apply seqP_normal; apply vC_seq; apply vC_region; ((apply vL_val); (case h => ((apply opv_loadbC); exact rfl; exact rfl; assumption; exact (rfl : _ = [_, _, _, _, _, _, _, _, _, _]); exact rfl))); ((apply vL_val); (case h => ((apply opv_loadbC); exact rfl; exact rfl; assumption; exact (rfl : _ = [_, _]); exact rfl))))
  refine vL_callF rfl (find31 c t p w4 (hc.2.2.frN hf14) hsl (fun s hs => ⟨(H.sp s hs).1, (H.sp s hs).2, hpb⟩)) rfl ?_
  rintro _ w5 ⟨rfl, hf5⟩
  have h35 := h34.frN hf5
  have h45 := h44.frN hf5
  have h65 := h64.frN hf5
  have hf15 := hf14.trans hf5
  have hrs5 := hc.2.2.frN hf15
  have hrw5 := hc.1.frN hf15
  clear h34 h44 h64 hf5 hf14
  have hbz := H.bz
  by_cases hl1 : c.ss.length = 1
  · obtain ⟨s, hss⟩ : ∃ s, c.ss = [s] := by
      match hcs : c.ss, hl1 with
      | [s], _ => exact ⟨s, rfl⟩
    have hsi : c.ss[(0 : Int).toNat]? = some s := by rw [hss]; rfl
    have hl0 : (0 : Int) < c.ss.length := by omega
    rw [decide_eq_true hl1]
    ((iterate 5 (((apply vL_val); (case h => ((apply opv_E); exact rfl))))); apply vL_nil; apply seqP_normal; apply vC_seq; apply vC_region; ((apply vL_val); (case h => ((apply opv_E); exact rfl))); apply vL_nil; apply seqP_normal; (iterate 2 (apply vC_seq)); apply vC_region; ((apply vL_val); (case h => ((apply opv_E); exact rfl))); apply vL_nil; apply seqP_normal; ((apply vC_cond_true); exact rfl); apply vC_region; ((apply vL_val); (case h => ((apply opv_fieldAddr); exact rfl))); ((apply vL_val); (case h => ((apply opv_loadb1); exact rfl; exact rfl; assumption; exact rfl))); ((apply vL_val); (case h => ((apply opv_E); exact rfl))); ((apply vL_val); (case h => ((apply opv_indexAddr); ((conv => lhs; whnf) <;> exact rfl); exact rfl; assumption; (first | omega | (simp only [List.length_map]; omega)); (first | omega | (simp only [List.length_map]; omega))))); ((apply vL_val); (case h => ((apply opv_fieldAddr); exact rfl))); ((apply vL_val); (case h => ((apply opv_ld_el); exact rfl; exact rfl; assumption; assumption; exact rfl))); ((apply vL_val); (case h => ((apply opv_E); exact rfl))); apply vL_nil; apply seqP_normal; apply vC_seq; apply vC_block; apply vC_seq; apply vC_region; ((apply vL_val); (case h => ((apply opv_fieldAddr); exact rfl))); ((apply vL_val); (case h => ((apply opv_loadb1); exact rfl; exact rfl; assumption; exact rfl))); (iterate 2 (((apply vL_val); (case h => ((apply opv_E); exact rfl))))); (refine vL_or rfl rfl (fun _ => ?_) (fun h => by omega)); ((apply vL_val); (case h => ((apply opv_fieldAddr); exact rfl))); ((apply vL_wanted); exact rfl); ((apply vL_val); (case h => ((apply opv_loadb1); exact rfl; exact rfl; assumption; exact rfl))); (iterate 2 (((apply vL_val); (case h => ((apply opv_E); exact rfl))))); apply vL_nil; apply seqP_normal)
    refine vC_condF rfl hst ?_
    (apply vC_seq)
    refine vC_draw' (fun wf => Fr No w5 wf) ((Fr.refl No w5).drew) ?_
    ((apply (tk 0)); (case hi => exact rfl); (case hf => kernel_rfl); (case hS => (apply Fr.drew; exact Fr.refl _ _)); (case hy => (intro wf hwf; haveI := From.mk hwf; (((apply opv_fieldAddr); exact rfl)))))
    ((apply (tk 1)); (case hi => exact rfl); (case hf => kernel_rfl); (case hS => (apply Fr.drew; exact Fr.refl _ _)); (case hy => (intro wf hwf; haveI := From.mk hwf; (((apply opv_loadb1); exact rfl; exact rfl; infer_instance; exact rfl)))))
    ((apply (tk 2)); (case hi => exact rfl); (case hf => kernel_rfl); (case hS => (apply Fr.drew; exact Fr.refl _ _)); (case hy => (intro wf hwf; haveI := From.mk hwf; (((apply opv_loadbC); exact rfl; exact rfl; infer_instance; exact (rfl : _ = [_, _]); exact rfl)))))
    (refine tkc 3 rfl (by kernel_rfl) (by (apply Fr.drew; exact Fr.refl _ _)) rfl (produces31 t p _) rfl ?_)
    rintro _ w6 ⟨rfl, hf6, hpl6⟩
    have hf56 : Fr No w5 w6 := (Fr.refl No w5).drew.trans hf6
    have hrw6 : Rd w6.heap 26 wtE c.wv.1 [x] := by have := hrw5.frN hf56; rw [hw] at this; exact this
    have hc1 := contains1 c.wv.1 x _ t p w6 hrw6 hpl6 hx
    (refine tkc 4 rfl (by kernel_rfl) (by (assumption)) rfl (hc1) rfl ?_)
    rintro _ w7 ⟨rfl, hf7⟩
    have hf57 := hf56.trans hf7
    ((apply (tk 5)); (case hi => exact rfl); (case hf => kernel_rfl); (case hS => (assumption)); (case hy => (intro wf hwf; haveI := From.mk hwf; (((apply opv_E); exact rfl)))))
    refine vA_done (by kernel_rfl) (by (first | exact trivial | ((assumption); done))) ?_
    have h67 := h65.frN hf57
    have hf17 := hf15.trans hf57
    (apply seqP_normal; ((apply vC_cond_true); exact rfl); apply vC_seq; apply vC_region; ((apply vL_val); (case h => ((apply opv_buildS); exact rfl; exact (rfl : _ = some [_, _, _, _, _, _, _, _, _, _])))); ((apply vL_skip); (case h => ((apply ops_storen); exact norm_eq rfl; exact norm_eq rfl; exact rfl; (intro u hu; simp only [List.mem_cons, List.not_mem_nil, or_false] at hu; rcases hu with rfl | rfl | rfl | rfl | rfl | rfl | rfl | rfl | rfl | rfl <;> (first | rfl | assumption)); assumption; (first | decide | exact of_decide_eq_true rfl | (simp; done))))); (iterate 2 (((apply vL_val); (case h => ((apply opv_E); exact rfl))))); apply vL_nil; apply seqP_normal; apply vC_ret; apply blockP_ret; apply seqP_ret)
    (apply retC3; (case ha => exact rfl); (case hD => exact rfl); (case hb => (infer_instance)); (case hcs => (exact (rfl : _ = [_, _, _, _, _, _, _, _, _, _]))); (case hl => exact rfl); (case hu => (exact norm_eq rfl)); (case hu2 => (exact norm_eq rfl)))
    exact ⟨rfl, hf17.trans' ((Fr.refl (fun k => k = b6) w7).set _ _ (.inl rfl)) (fun k hk => .inr (by omega))⟩
  · rw [decide_eq_false hl1]
    ((iterate 5 (((apply vL_val); (case h => ((apply opv_E); exact rfl))))); apply vL_nil; apply seqP_normal; apply vC_seq; apply vC_region; ((apply vL_val); (case h => ((apply opv_E); exact rfl))); apply vL_nil; apply seqP_normal; (iterate 2 (apply vC_seq)); apply vC_region; ((apply vL_val); (case h => ((apply opv_E); exact rfl))); apply vL_nil; apply seqP_normal; ((apply vC_cond_false); exact rfl); apply vC_skip; apply seqP_normal; apply vC_seq; apply vC_block; apply vC_seq; apply vC_region; ((apply vL_val); (case h => ((apply opv_fieldAddr); exact rfl))); ((apply vL_val); (case h => ((apply opv_loadb1); exact rfl; exact rfl; assumption; exact rfl))); (iterate 2 (((apply vL_val); (case h => ((apply opv_E); exact rfl))))); (refine vL_or rfl rfl (fun _ => ?_) (fun h => by omega)); ((apply vL_val); (case h => ((apply opv_fieldAddr); exact rfl))); ((apply vL_wanted); exact rfl); ((apply vL_val); (case h => ((apply opv_loadb1); exact rfl; exact rfl; assumption; exact rfl))); (iterate 2 (((apply vL_val); (case h => ((apply opv_E); exact rfl))))); apply vL_nil; apply seqP_normal)
    refine vC_condF rfl hst ?_
    (apply vC_seq)
    refine vC_draw' (fun wf => Fr No w5 wf) ((Fr.refl No w5).drew) ?_
    ((apply (tk 0)); (case hi => exact rfl); (case hf => kernel_rfl); (case hS => (apply Fr.drew; exact Fr.refl _ _)); (case hy => (intro wf hwf; haveI := From.mk hwf; (((apply opv_fieldAddr); exact rfl)))))
    ((apply (tk 1)); (case hi => exact rfl); (case hf => kernel_rfl); (case hS => (apply Fr.drew; exact Fr.refl _ _)); (case hy => (intro wf hwf; haveI := From.mk hwf; (((apply opv_loadb1); exact rfl; exact rfl; infer_instance; exact rfl)))))
    ((apply (tk 2)); (case hi => exact rfl); (case hf => kernel_rfl); (case hS => (apply Fr.drew; exact Fr.refl _ _)); (case hy => (intro wf hwf; haveI := From.mk hwf; (((apply opv_loadbC); exact rfl; exact rfl; infer_instance; exact (rfl : _ = [_, _]); exact rfl)))))
    (refine tkc 3 rfl (by kernel_rfl) (by (apply Fr.drew; exact Fr.refl _ _)) rfl (produces31 t p _) rfl ?_)
    rintro _ w6 ⟨rfl, hf6, hpl6⟩
    have hf56 : Fr No w5 w6 := (Fr.refl No w5).drew.trans hf6
    have hrw6 : Rd w6.heap 26 wtE c.wv.1 [x] := by have := hrw5.frN hf56; rw [hw] at this; exact this
    have hc1 := contains1 c.wv.1 x _ t p w6 hrw6 hpl6 hx
    (refine tkc 4 rfl (by kernel_rfl) (by (assumption)) rfl (hc1) rfl ?_)
    rintro _ w7 ⟨rfl, hf7⟩
    have hf57 := hf56.trans hf7
    ((apply (tk 5)); (case hi => exact rfl); (case hf => kernel_rfl); (case hS => (assumption)); (case hy => (intro wf hwf; haveI := From.mk hwf; (((apply opv_E); exact rfl)))))
    refine vA_done (by kernel_rfl) (by (first | exact trivial | ((assumption); done))) ?_
    have h67 := h65.frN hf57
    have hf17 := hf15.trans hf57
    (apply seqP_normal; ((apply vC_cond_true); exact rfl); apply vC_seq; apply vC_region; ((apply vL_val); (case h => ((apply opv_buildS); exact rfl; exact (rfl : _ = some [_, _, _, _, _, _, _, _, _, _])))); ((apply vL_skip); (case h => ((apply ops_storen); exact norm_eq rfl; exact norm_eq rfl; exact rfl; (intro u hu; simp only [List.mem_cons, List.not_mem_nil, or_false] at hu; rcases hu with rfl | rfl | rfl | rfl | rfl | rfl | rfl | rfl | rfl | rfl <;> (first | rfl | assumption)); assumption; (first | decide | exact of_decide_eq_true rfl | (simp; done))))); (iterate 2 (((apply vL_val); (case h => ((apply opv_E); exact rfl))))); apply vL_nil; apply seqP_normal; apply vC_ret; apply blockP_ret; apply seqP_ret)
    (apply retC3; (case ha => exact rfl); (case hD => exact rfl); (case hb => (infer_instance)); (case hcs => (exact (rfl : _ = [_, _, _, _, _, _, _, _, _, _]))); (case hl => exact rfl); (case hu => (exact norm_eq rfl)); (case hu2 => (exact norm_eq rfl)))
    exact ⟨rfl, hf17.trans' ((Fr.refl (fun k => k = b6) w7).set _ _ (.inl rfl)) (fun k hk => .inr (by omega))⟩
end Go.Proofs.Ytchfaeaagpemlaa

set_option maxRecDepth 100000
namespace Go.Proofs.Ytchfaeaagpemlaa
open Go Go.Eng
theorem wok_nf {id nx br : Int} {x y : WT} (h : x.nf = y.nf) (H : WOk id nx br y) : WOk id nx br x := by
  have hr : x.rq.nf = y.rq.nf := by have := congrArg WT.rq h; exact this
  have e1 : x.rq.call = y.rq.call := by have := congrArg RQ.call hr; exact this
  have e2 : x.rq.cl = y.rq.cl := by have := congrArg RQ.cl hr; exact this
  have e3 : x.rq.k = y.rq.k := by have := congrArg RQ.k hr; exact this
  have e4 : x.due = y.due := by have := congrArg WT.due h; exact this
  have e5 : x.tries = y.tries := by have := congrArg WT.tries h; exact this
  have e6 : x.broker = y.broker := by have := congrArg WT.broker h; exact this
  have e7 : x.rq.topic = y.rq.topic := by have := congrArg RQ.topic hr; exact this
  have e8 : x.rq.part = y.rq.part := by have := congrArg RQ.part hr; exact this
  have e9 : x.rq.pid = y.rq.pid := by have := congrArg RQ.pid hr; exact this
  have e10 : x.rq.ep = y.rq.ep := by have := congrArg RQ.ep hr; exact this
  have e11 : x.rq.fi = y.rq.fi := by have := congrArg RQ.fi hr; exact this
  have e12 : x.rq.brs.map (fun y => (nilO, y.2)) = y.rq.brs.map (fun y => (nilO, y.2)) := by have := congrArg RQ.brs hr; exact this
  have e13 : x.rq.brs.map (fun y => y.2.length) = y.rq.brs.map (fun y => y.2.length) := by
    have := congrArg (List.map (fun z : OV × List Int => z.2.length)) e12
    rw [List.map_map, List.map_map] at this
    exact this
  unfold WOk at H ⊢
  rw [e1, e2, e3, e4, e5, e6, e7, e8, e9, e10, e11, e13]
  exact H
theorem R1.nf {c d : CL} (h : d.nf = c.nf) (R : R1 c) : R1 d := by
  have e1 : d.id = c.id := by have := congrArg CL.id h; exact this
  have e2 : d.brokers = c.brokers := by have := congrArg CL.brokers h; exact this
  have e3 : d.next = c.next := by have := congrArg CL.next h; exact this
  have e4 : d.now = c.now := by have := congrArg CL.now h; exact this
  have e5 : d.broker = c.broker := by have := congrArg CL.broker h; exact this
  have e6 : d.pid = c.pid := by have := congrArg CL.pid h; exact this
  have e7 : d.ep = c.ep := by have := congrArg CL.ep h; exact this
  have e8 : d.ss = c.ss := by have := congrArg CL.ss h; exact this
  have e9 : d.ws.map WT.nf = c.ws.map WT.nf := by have := congrArg CL.ws h; exact this
  have e10 : d.ws.length = c.ws.length := by simpa using congrArg List.length e9
  refine ⟨by rw [e1]; exact R.id, by rw [e2]; exact R.br, by rw [e3]; exact R.nx, by rw [e4]; exact R.now, by rw [e5, e2]; exact R.bro, by rw [e6]; exact R.pid, by rw [e7]; exact R.ep, by rw [e6, e7, e8]; exact R.none, by rw [e8]; exact R.s1, by rw [e8]; exact R.s, by rw [e10]; exact R.w1, fun x hx => ?_⟩
  have h1 : x.nf ∈ d.ws.map WT.nf := List.mem_map.2 ⟨x, hx, rfl⟩
  rw [e9] at h1
  obtain ⟨y, hy, e⟩ := List.mem_map.1 h1
  rw [e1, e2, e3]
  exact wok_nf e.symm (R.w y hy)
theorem rqsz_nf {r r1 : RQ} (h : r1.nf = r.nf) (hs : RqSz r) : RqSz r1 := by
  have e1 : r1.brs.map (fun y => (nilO, y.2)) = r.brs.map (fun y => (nilO, y.2)) := by have := congrArg RQ.brs h; exact this
  have e2 : r1.tps = r.tps := by have := congrArg RQ.tps h; exact this
  have e3 : r1.brs.map (·.2) = r.brs.map (·.2) := by
    have := congrArg (List.map (·.2)) e1
    rw [List.map_map, List.map_map] at this
    exact this
  refine ⟨?_, fun y hy => ?_, by rw [e2]; exact hs.2.2⟩
  · have := congrArg List.length e3
    simp only [List.length_map] at this
    rw [this]; exact hs.1
  · have hy2 : y.2 ∈ r1.brs.map (·.2) := List.mem_map.2 ⟨y, hy, rfl⟩
    rw [e3] at hy2
    obtain ⟨z, hz, ez⟩ := List.mem_map.1 hy2
    rw [← ez]; exact hs.2.1 z hz
def TickP (c : CL) (x : WT) (c' : CL) (sd : SD) : Prop := c'.id = c.id ∧ c'.brokers = c.brokers ∧ c'.next = c.next ∧ c'.now = c.now + 1 ∧ c'.broker = c.broker ∧ c'.pid = c.pid ∧ c'.ep = c.ep ∧ c'.stale = c.stale ∧ c'.ss = c.ss ∧ sd.to = x.broker ∧ sd.rq.nf = x.rq.nf ∧
  ∃ x' : WT, c'.ws = [x'] ∧ x'.rq.nf = x.rq.nf ∧ x'.due = c.now + 9 ∧ x'.tries = x.tries + 1 ∧ x'.broker = x.broker % c.brokers + 1
theorem tick31 (c : CL) (x : WT) (w : World) (R : R1 c) (hw : c.ws = [x]) (hnow : c.now < 1099511627776) (hd : x.due ≤ c.now + 1) (ht : x.tries < 10) (hc : ClRd w.heap c) (hs : RqSz x.rq) :
    Rets Try.prog 7 #[.agg (clE c).toArray] w fun u w' => ∃ c' lv sd, u = .tuple #[.agg (clE c').toArray, .slice none 0 0, lv] ∧ Own w'.heap 48 24 sdE lv [sd] ∧ lv.oneCell' = true ∧ ClOwn w'.heap c' ∧ (∀ b, own c'.wv.1 = some b → w.heap.size ≤ b) ∧ (∀ b, own c'.sv.1 = some b → w.heap.size ≤ b) ∧ Fr No w w' ∧ TickP c x c' sd := by
  have hw0 := c.wv.2
  have hs0 := c.sv.2
  refine rets_of Try.func7 rfl Try.ntmps7 rfl rfl (by kernel_rfl) ?_
  ((apply vC_seq; apply vC_region)); ((((apply vL_val); (case h => ((apply opw_boxn); exact rfl))); ((apply vL_val); (case h => (apply opw_alloc))); (iterate 2 (((apply vL_val); (case h => ((apply opv_E); exact rfl))))); apply vL_nil)); with_reducible apply seqP_normal
  ((apply vC_scope; apply vC_seq; apply vC_region))
  have e2 : (w.alloc (.cells (clE c).toArray 25)).heap.size = w.heap.size + 1 := by simp
  refine vL_gen (fun w' => Fr No w w' ∧ Blk w'.heap w.heap.size (clE c) 25 ∧ Blk w'.heap (w.alloc (.cells (clE c).toArray 25)).heap.size clZ 25) ⟨by ((iterate 2 (apply Fr.alloc)); exact Fr.refl _ _), inferInstance, inferInstance⟩ ?_
  rintro w1 ⟨hf1, h1, h2⟩
  rw [e2] at h2
  rw [e2]
  obtain ⟨b1, eb1⟩ : ∃ b1, b1 = w.heap.size := ⟨_, rfl⟩
  obtain ⟨b2, eb2⟩ : ∃ b2, b2 = w.heap.size + 1 := ⟨_, rfl⟩
  rw [← eb2] at h2 ⊢
  rw [← eb1] at h1 ⊢
  have hl2 := h2.lt
  (((apply vL_val); (case h => ((apply opv_loadbC); exact rfl; exact rfl; assumption; exact (rfl : _ = [_, _, _, _, _, _, _, _, _, _]); exact rfl))))
  refine vL_callF rfl (clone31 c w1 (hc.frN hf1) ⟨by rw [hw]; exact (show 1 ≤ 1000 by decide), by have := R.s1; omega, fun y hy => by rw [hw] at hy; rw [List.mem_singleton.1 hy]; exact hs⟩) rfl ?_
  rintro _ w2 ⟨c1, rfl, hnf, hc2, hfw2, hfs2, hf2⟩
  have hw1 := c1.wv.2
  have hs1 := c1.sv.2
  have h12 := h1.frN hf2
  have h22 := h2.frN hf2
  ((((apply vL_skip); (case h => ((apply ops_storen); exact norm_eq rfl; exact norm_eq rfl; exact rfl; exact (fun u hu => EncOk.one _ u hu); assumption; (first | decide | exact of_decide_eq_true rfl | (simp; done))))); apply vL_nil)); with_reducible apply seqP_normal
  (((iterate 2 (apply vC_seq)); apply vC_region))
  refine vL_gen (fun w' => Fr No w w' ∧ Blk w'.heap b1 (clE c1) 25 ∧ Blk w'.heap b2 clZ 25 ∧ ClOwn w'.heap c1) ⟨(hf1.trans hf2).set _ _ (.inr (by omega)), Blk.as (Blk.set h12) rfl, h22.set_ne (by omega), hc2.frBlk h12 ⟨by decide, by decide, by decide⟩ ⟨by decide, by decide⟩ ((Fr.refl (fun k => k = b1) w2).set _ _ (.inl rfl))⟩ ?_
  rintro w3 ⟨hf3, h13, h23, hc3⟩
  have hfwz : ∀ b, own c1.wv.1 = some b → w.heap.size + 2 ≤ b := fun b hb => by have := hfw2 b hb; omega
  have hfsz : ∀ b, own c1.sv.1 = some b → w.heap.size + 2 ≤ b := fun b hb => by have := hfs2 b hb; omega
  clear h12 h22 hc2 hfw2 hfs2 hf2 h1 h2
  have R' := R1.nf hnf R
  have hnw : c1.now = c.now := by have := congrArg CL.now hnf; exact this
  have hbk : c1.brokers = c.brokers := by have := congrArg CL.brokers hnf; exact this
  obtain ⟨x1, hx1, hx1n⟩ : ∃ x1, c1.ws = [x1] ∧ x1.nf = x.nf := by
    have h1 : c1.ws.map WT.nf = c.ws.map WT.nf := by have := congrArg CL.ws hnf; exact this
    rw [hw] at h1
    obtain ⟨y, hy, e⟩ := List.map_eq_singleton_iff.1 h1
    exact ⟨y, hy, e⟩
  have hn0 := R.now
  (((apply vL_val); (case h => ((apply opv_fieldAddr); exact rfl))); ((apply vL_val); (case h => ((apply opv_loadb1); exact rfl; exact rfl; assumption; exact rfl))); (iterate 2 (((apply vL_val); (case h => ((apply opv_E); exact rfl))))); (refine vL_or rfl rfl (fun _ => ?_) (fun h => by omega)); ((apply vL_val); (case h => ((apply opv_loadbC); exact rfl; exact rfl; assumption; exact (rfl : _ = [_, _, _, _, _, _, _, _, _, _]); exact rfl))); ((apply vL_wanted); exact rfl))
  refine vL_callF rfl (right31 c1 w3 hc3.rd R') rfl ?_
  rintro _ w4 ⟨rfl, hf4⟩
  have h14 := h13.frN hf4
  have h24 := h23.frN hf4
  have hc4 := hc3.frN hf4
  have hfw4 := hf3.trans hf4
  clear h13 h23 hc3 hf3 hf4
  have hcw4 := hc4.1
  rw [hx1] at hcw4
  haveI hoff : OffB c1.wv.1 b1 := ⟨Own.ne_blk hcw4 h14 (by decide)⟩
  (((apply vL_wanted); exact rfl); ((apply vL_val); (case h => ((apply opv_not); exact rfl))); ((apply vL_val); (case h => ((apply opv_E); exact rfl))); apply vL_nil; apply seqP_normal; ((apply vC_cond_false); exact rfl); apply vC_skip; apply seqP_normal; apply vC_seq; apply vC_region; ((apply vL_val); (case h => ((apply opv_fieldAddr); exact rfl))); ((apply vL_val); (case h => ((apply opv_loadb1); exact rfl; exact rfl; assumption; exact rfl))); ((apply vL_val); (case h => ((apply opv_add); exact rfl; exact rfl; (first | omega | (simp only [List.length_map]; omega))))); ((apply vL_val); (case h => ((apply opv_fieldAddr); exact rfl))); ((apply vL_skip); (case h => ((apply ops_store1); exact norm_eq rfl; exact norm_eq rfl; (first | rfl | assumption); assumption; (first | decide | exact of_decide_eq_true rfl | (simp; done))))); apply vL_nil; apply seqP_normal; apply vC_seq; apply vC_region; ((apply vL_val); (case h => ((apply opv_E); exact rfl))); apply vL_nil; apply seqP_normal; apply vC_seq; apply vC_region; ((apply vL_val); (case h => ((apply opv_E); exact rfl))); apply vL_nil; apply seqP_normal; apply vC_seq; apply vC_region; ((apply vL_val); (case h => ((apply opv_E); exact rfl))); apply vL_nil; apply seqP_normal; apply vC_seq; apply vC_label; apply seqP_normal; (iterate 2 (apply vC_seq)); apply vC_region; ((apply vL_val); (case h => ((apply opv_fieldAddr); exact rfl))); ((apply vL_val); (case h => ((apply opv_loadb1); exact rfl; exact rfl; infer_instance; exact rfl))); ((apply vL_val); (case h => ((apply opv_len); ((conv => lhs; whnf) <;> exact rfl); infer_instance))); ((apply vL_val); (case h => ((apply opv_E); exact rfl))); apply vL_nil; apply seqP_normal; apply vC_block)
  refine vC_gen (fun w' => Fr No w w' ∧ Blk w'.heap b1 (clE { c1 with now := c1.now + 1 }) 25 ∧ Blk w'.heap b2 clZ 25 ∧ ClOwn w'.heap c1) ⟨hfw4.set _ _ (.inr (by omega)), Blk.as (Blk.set h14) rfl, h24.set_ne (by omega), hc4.frBlk h14 ⟨by decide, by decide, by decide⟩ ⟨by decide, by decide⟩ ((Fr.refl (fun k => k = b1) w4).set _ _ (.inl rfl))⟩ ?_
  rintro w5 ⟨hf5, h15, h25, hc5⟩
  clear h14 h24 hc4 hfw4 hoff hcw4
  (apply vC_loop4 75557863725914054984416 5 7 6 28 (fun u5 u7 u6 u28 w' => Fr No w w' ∧ Blk w'.heap b1 (clE { c1 with now := c1.now + 1 }) 25 ∧ Blk w'.heap b2 clZ 25 ∧ ClOwn w'.heap c1 ∧ u6 = .slice none 0 0 ∧ ((u28 = .int .i64 0 ∧ u5 = .slice none 0 0 ∧ u7 = .slice none 0 0) ∨ (u28 = .int .i64 1 ∧ u5.oneCell' = true ∧ u7.oneCell' = true ∧ ∃ (r3 : RQ), r3.nf = x.rq.nf ∧ RqOwn w'.heap r3 ∧ Own w'.heap 42 26 wtE u5 [⟨x1.rq, c1.now + 1 + 8, x1.tries + 1, x1.broker % c1.brokers + 1⟩] ∧ (∀ b, own u5 = some b → w.heap.size + 2 ≤ b) ∧ Own w'.heap 48 24 sdE u7 [⟨x1.broker, r3⟩]))) (fun _ _ _ u28 _ => 1 - (RowKit.intOf u28).toNat)); (case h1 => (exact norm_eq rfl)); (case h2 => (exact norm_eq rfl)); (case h3 => (exact norm_eq rfl)); (case h4 => (exact norm_eq rfl))
  case h0 => exact ⟨hf5, h15, h25, hc5, rfl, .inl ⟨rfl, rfl, rfl⟩⟩
  case round =>
  clear h15 h25 hc5 hf5
  rintro junk u5 u7 u6 u28 w6 ⟨hf6, h16, h26, hc6, rfl, ⟨rfl, rfl, rfl⟩ | ⟨rfl, hu5, hu7, r3, hr3n, hr3, ho5, hfo5, ho7⟩⟩
  rotate_left
  · have hl1 : (([x1] : List WT).length : Int) = 1 := rfl
    have hl2 : c1.ws.length = 1 := by rw [hx1]; rfl
    have hl3 := h26.lt
    have h26' := h26.set_ne (cs := (clE { c1 with now := c1.now + 1, wv := ⟨u5, hu5⟩ }).toArray) (show b2 ≠ b1 by omega)
    (apply vC_seq; apply vC_region; ((apply vL_val); (case h => ((apply opv_E); exact rfl))); apply vL_nil; apply seqP_normal; apply vC_seq; ((apply vC_cond_false); exact rfl); apply vC_exit; apply seqP_exit; apply loopP_exit; apply blockP_exit; apply seqP_normal; apply vC_seq; apply vC_region; ((apply vL_val); (case h => ((apply opv_move); ((conv => lhs; whnf) <;> exact rfl)))); ((apply vL_val); (case h => ((apply opv_fieldAddr); exact rfl))); ((apply vL_skip); (case h => ((apply ops_store1); exact norm_eq rfl; ((conv => lhs; whnf) <;> exact rfl); (first | rfl | assumption); assumption; (first | decide | exact of_decide_eq_true rfl | (simp; done))))); apply vL_nil; apply seqP_normal; apply vC_seq; apply vC_region; ((apply vL_val); (case h => ((apply opv_loadbC); exact rfl; exact rfl; infer_instance; exact (rfl : _ = [_, _, _, _, _, _, _, _, _, _]); exact rfl))); ((apply vL_val); (case h => ((apply opv_E); exact rfl))); ((apply vL_val); (case h => ((apply opv_move); ((conv => lhs; whnf) <;> exact rfl)))); ((apply vL_skip); (case h => ((apply ops_storen); exact norm_eq rfl; exact norm_eq rfl; exact rfl; (intro u hu; simp only [List.mem_cons, List.not_mem_nil, or_false] at hu; rcases hu with rfl | rfl | rfl | rfl | rfl | rfl | rfl | rfl | rfl | rfl <;> (first | rfl | assumption)); assumption; (first | decide | exact of_decide_eq_true rfl | (simp; done))))); ((apply vL_val); (case h => ((apply opv_E); exact rfl))); ((apply vL_val); (case h => ((apply opv_assign); ((conv => lhs; whnf) <;> exact rfl)))); apply vL_nil; apply seqP_normal; apply vC_ret; apply gotoP_ret)
    (apply retC3; (case ha => exact rfl); (case hD => exact rfl); (case hb => exact Blk.set (h26.set_ne (show b2 ≠ b1 by omega))); (case hcs => exact (rfl : _ = clE { c1 with now := c1.now + 1, wv := ⟨u5, hu5⟩, ws := [⟨x1.rq, c1.now + 1 + 8, x1.tries + 1, x1.broker % c1.brokers + 1⟩] })); (case hl => exact rfl); (case hu => (exact norm_eq rfl)); (case hu2 => (((conv => lhs; whnf) <;> exact rfl))))
    have hx1q : RqOwn w6.heap x1.rq := hc6.2.1 x1 (by rw [hx1]; exact List.mem_singleton_self _)
    have hcl : ClOwn w6.heap { c1 with now := c1.now + 1, wv := ⟨u5, hu5⟩, ws := [⟨x1.rq, c1.now + 1 + 8, x1.tries + 1, x1.broker % c1.brokers + 1⟩] } := ⟨ho5, fun y hy => by rw [List.mem_singleton.1 hy]; exact hx1q, hc6.2.2⟩
    have hA := hcl.frBlk h16 ⟨by decide, by decide, by decide⟩ ⟨by decide, by decide⟩ ((Fr.refl (fun k => k = b1) w6).set b1 (clE { c1 with now := c1.now + 1, wv := ⟨u5, hu5⟩ }).toArray (.inl rfl))
    have hB := hA.frBlk h26' ⟨by decide, by decide, by decide⟩ ⟨by decide, by decide⟩ ((Fr.refl (fun k => k = b2) _).set b2 (clE { c1 with now := c1.now + 1, wv := ⟨u5, hu5⟩ }).toArray (.inl rfl))
    have hxr : x1.rq.nf = x.rq.nf := by have := congrArg WT.rq hx1n; exact this
    have hxb : x1.broker = x.broker := by have := congrArg WT.broker hx1n; exact this
    have hxt : x1.tries = x.tries := by have := congrArg WT.tries hx1n; exact this
    refine ⟨_, _, ⟨x1.broker, r3⟩, rfl, (ho7.set (Own.ne_blk ho7 h16 (by decide))).set (Own.ne_blk (ho7.set (b := b1) (cs := (clE { c1 with now := c1.now + 1, wv := ⟨u5, hu5⟩ }).toArray) (Own.ne_blk ho7 h16 (by decide))) h26' (by decide)), hu7, hB, (fun b hb => by have := hfo5 b hb; omega), (fun b hb => by have := hfsz b hb; omega), (hf6.set _ _ (.inr (by omega))).set _ _ (.inr (by omega)), ?_⟩
    exact ⟨by have := congrArg CL.id hnf; exact this, hbk, by have := congrArg CL.next hnf; exact this, by show c1.now + 1 = _; rw [hnw], by have := congrArg CL.broker hnf; exact this, by have := congrArg CL.pid hnf; exact this, by have := congrArg CL.ep hnf; exact this, by have := congrArg CL.stale hnf; exact this, by have := congrArg CL.ss hnf; exact this, hxb, hr3n, _, rfl, hxr, by show c1.now + 1 + 8 = _; rw [hnw]; omega, by show x1.tries + 1 = _; rw [hxt], by show x1.broker % c1.brokers + 1 = _; rw [hxb, hbk]⟩
  have hcw6 := hc6.1
  rw [hx1] at hcw6
  have hxi : ([x1] : List WT)[(0 : Int).toNat]? = some x1 := rfl
  have hxl : (0 : Int) < (([x1] : List WT).length : Int) := Int.zero_lt_one
  have hl2 : c1.ws.length = 1 := by rw [hx1]; rfl
  have hxd : x1.due = x.due := by have := congrArg WT.due hx1n; exact this
  have hxt : x1.tries = x.tries := by have := congrArg WT.tries hx1n; exact this
  have hxW := R'.w x1 (by rw [hx1]; exact List.mem_singleton_self _)
  have hxb0 := hxW.2.2.2.2.2.2.2.2.2.1
  have hxb1 := hxW.2.2.2.2.2.2.2.2.2.2.1
  have hxt1 := hxW.2.2.2.2.2.2.2.1
  have hbv := x1.rq.brv.2
  have htv := x1.rq.trv.2
  have hbr7 := R'.br
  ((apply vC_seq; apply vC_region)); ((((apply vL_val); (case h => ((apply opv_E); exact rfl))); apply vL_nil)); with_reducible apply seqP_normal
  ((apply vC_seq; ((apply vC_cond_true); exact rfl); apply vC_skip; apply seqP_normal; apply vC_seq; apply vC_block; apply vC_seq; apply vC_region))
  ((((apply vL_val); (case h => ((apply opv_indexAddr); ((conv => lhs; whnf) <;> exact rfl); exact rfl; infer_instance; (first | omega | (simp only [List.length_map]; omega)); (first | omega | (simp only [List.length_map]; omega))))); ((apply vL_val); (case h => ((apply opv_ld_eln); exact rfl; exact rfl; infer_instance; assumption))); ((apply vL_val); (case h => (apply opw_alloc))); ((apply vL_skip); (case h => ((apply ops_storen); exact norm_eq rfl; exact norm_eq rfl; exact rfl; exact (fun u hu => EncOk.one _ u hu); infer_instance; (first | decide | exact of_decide_eq_true rfl | (simp; done))))); apply vL_nil)); with_reducible apply seqP_normal
  ((apply vC_seq; apply vC_block; apply vC_seq; apply vC_region))
  refine vL_gen (fun w' => Fr No w6 w' ∧ w6.heap.size < w'.heap.size ∧ Blk w'.heap w6.heap.size (wtE x1) 42) ⟨by (apply Fr.allocSet; exact Fr.refl _ _), by simp, Blk.as inferInstance rfl⟩ ?_
  rintro w7 ⟨hf7, hz7, h97⟩
  have h17 := h16.frN hf7
  have h27 := h26.frN hf7
  have hc7 := hc6.frN hf7
  have hfw7 := hf6.trans hf7
  have hs6 := hf6.size
  have hcl6 : ∀ b, own c1.wv.1 = some b → b < w6.heap.size := hc6.1.lt
  have hb16 : b1 < w6.heap.size := h16.lt
  have hb26 : b2 < w6.heap.size := h26.lt
  generalize w6.heap.size = b9 at h97 hz7 hs6 hcl6 hb16 hb26 ⊢
  clear h16 h26 hc6 hf6 hf7 hcw6
  haveI n19 : NeB b1 b9 := ⟨by omega⟩
  haveI n29 : NeB b2 b9 := ⟨by omega⟩
  (((apply vL_val); (case h => ((apply opv_fieldAddr); exact rfl))); ((apply vL_val); (case h => ((apply opv_loadb1); exact rfl; exact rfl; assumption; exact rfl))); ((apply vL_val); (case h => ((apply opv_fieldAddr); exact rfl))); ((apply vL_val); (case h => ((apply opv_loadb1); exact rfl; exact rfl; assumption; exact rfl))); (iterate 2 (((apply vL_val); (case h => ((apply opv_E); exact rfl))))); apply vL_nil; apply seqP_normal; (refine vC_condF rfl (by ((simp only [Bool.not_eq_true', Bool.not_eq_false', Bool.not_not, decide_eq_true_eq, decide_eq_false_iff_not]); omega)) ?_); apply vC_seq; apply vC_region; ((apply vL_val); (case h => ((apply opv_fieldAddr); exact rfl))); ((apply vL_val); (case h => ((apply opv_loadb1); exact rfl; exact rfl; assumption; exact rfl))); (iterate 2 (((apply vL_val); (case h => ((apply opv_E); exact rfl))))); apply vL_nil; apply seqP_normal; (refine vC_cond_dec rfl (fun h => by omega) (fun _ => ?_)); apply vC_seq; apply vC_region; ((apply vL_val); (case h => ((apply opv_fieldAddr); exact rfl))); ((apply vL_val); (case h => ((apply opv_loadb1); exact rfl; exact rfl; assumption; exact rfl))); ((apply vL_val); (case h => ((apply opv_add); exact rfl; exact rfl; (first | omega | (simp only [List.length_map]; omega))))); ((apply vL_val); (case h => ((apply opv_fieldAddr); exact rfl))); ((apply vL_skip); (case h => ((apply ops_store1); exact norm_eq rfl; exact norm_eq rfl; (first | rfl | assumption); assumption; (first | decide | exact of_decide_eq_true rfl | (simp; done))))); apply vL_nil; apply seqP_normal; apply vC_seq; apply vC_region; ((apply vL_val); (case h => ((apply opv_fieldAddr); exact rfl))); ((apply vL_val); (case h => ((apply opv_loadb1); exact rfl; exact rfl; infer_instance; exact rfl))); ((apply vL_val); (case h => ((apply opv_add); exact rfl; exact rfl; (first | omega | (simp only [List.length_map]; omega))))); ((apply vL_val); (case h => ((apply opv_fieldAddr); exact rfl))); ((apply vL_skip); (case h => ((apply ops_store1); exact norm_eq rfl; exact norm_eq rfl; (first | rfl | assumption); infer_instance; (first | decide | exact of_decide_eq_true rfl | (simp; done))))); apply vL_nil; apply seqP_normal; apply vC_region; ((apply vL_val); (case h => ((apply opv_E); exact rfl))); ((apply vL_val); (case h => ((apply opv_loadbC); exact rfl; exact rfl; infer_instance; exact (rfl : _ = [_, _, _, _, _, _, _, _, _, _]); exact rfl))))
  have hq7 : RqOwn w7.heap x1.rq := hc7.2.1 x1 (by rw [hx1]; exact List.mem_singleton_self _)
  refine vL_gen (fun w' => Fr (fun k => k = b9) w7 w' ∧ Blk w'.heap b9 (wtE ⟨x1.rq, c1.now + 1 + 8, x1.tries + 1, x1.broker⟩) 42) ⟨((Fr.refl (fun k => k = b9) w7).set _ _ (.inl rfl)).set _ _ (.inl rfl), Blk.as (Blk.set (Blk.set h97)) rfl⟩ ?_
  rintro w8 ⟨hf8, h98⟩
  have h18 := h17.fr hf8 (fun h => by omega)
  have h28 := h27.fr hf8 (fun h => by omega)
  have hc8 : ClOwn w8.heap c1 := ⟨hc7.1.fr hf8 (fun b hb e => by have := hcl6 b hb; omega), fun y hy => (hc7.2.1 y hy).frBlk h97 (by decide) (by decide) (by decide) hf8, hc7.2.2.fr hf8 (fun b hb e => Own.ne_blk hc7.2.2 h97 (by decide) (by rw [hb, e]))⟩
  have hq8 : RqOwn w8.heap x1.rq := hc8.2.1 x1 (by rw [hx1]; exact List.mem_singleton_self _)
  have hfw8 : Fr No w w8 := hfw7.trans' hf8 (fun k hk => .inr (by omega))
  have hz8 := hf8.size
  have hsq : RqSz x1.rq := rqsz_nf (by have := congrArg WT.rq hx1n; exact this) hs
  clear h17 h27 hc7 hfw7 h97 hq7 hf8 n19 n29
  refine vL_callF rfl (send31 { c1 with now := c1.now + 1 } ⟨x1.rq, c1.now + 1 + 8, x1.tries + 1, x1.broker⟩ b9 w8 h98 hq8.rd hsq (by simp only; omega) (by simp only; omega)) rfl ?_
  rintro _ w10 ⟨r3, rfl, hnr3, hr10, hf10, h9x⟩
  have hrb3 := r3.brv.2
  have hrt3 := r3.trv.2
  have h110 := h18.fr hf10 (fun h => by omega)
  have h210 := h28.fr hf10 (fun h => by omega)
  have hc10 : ClOwn w10.heap c1 := ⟨hc8.1.fr hf10 (fun b hb e => by have := hcl6 b hb; omega), fun y hy => (hc8.2.1 y hy).frBlk h98 (by decide) (by decide) (by decide) hf10, hc8.2.2.fr hf10 (fun b hb e => Own.ne_blk hc8.2.2 h98 (by decide) (by rw [hb, e]))⟩
  have hfw10 : Fr No w w10 := hfw8.trans' hf10 (fun k hk => .inr (by omega))
  have hs10 := hfw10.size
  have hz10 := hf10.size
  clear h18 h28 hc8 hq8 hfw8 h98 hf10
  (((apply vL_val); (case h => ((apply opw_buildSl); exact rfl; exact rfl; exact rfl; exact (rfl : _ = some [_, _, _, _, _, _, _, _, _, _, _, _, _, _, _, _, _, _, _, _, _, _, _, _])))))
  refine vL_append (enc := sdE) (xs := []) (ys := [(⟨x1.broker, r3⟩ : SD)]) (by (exact norm_eq rfl)) (by (exact norm_eq rfl)) ((Own.nil _ _ _ _)) (Rd.new1 _ _ rfl) rfl (by decide) ?_ ?_ ?_
  · simp [maxLen]
  · simp
  intro lv w12 ho12 hf12 hfr12 honel _
  have hfa : Fr No w10 w12 := ((Fr.refl _ w10).alloc _).trans' hf12 (fun i hi => (by cases hi))
  have h112 := h110.frN hfa
  have h212 := h210.frN hfa
  have h912 := h9x.frN hfa
  have hc12 := hc10.frN hfa
  have hr12 := hr10.frN hfa
  have hfw12 := hfw10.trans hfa
  clear h110 h210 h9x hc10 hr10 hfw10 hf12 hfr12 hfa
  (((apply vL_val); (case h => ((apply opv_assign); ((conv => lhs; whnf) <;> exact rfl)))); apply vL_nil; apply blockP_normal; apply seqP_normal; apply vC_region; ((apply vL_val); (case h => ((apply opv_E); exact rfl))); ((apply vL_val); (case h => ((apply opv_loadb); exact rfl; exact rfl; assumption; exact rfl))); ((apply vL_val); (case h => ((apply opw_buildSl); exact rfl; exact rfl; exact rfl; exact (rfl : _ = some [_, _, _, _, _, _, _, _, _, _, _, _, _, _, _, _, _, _, _, _, _, _, _, _, _, _])))))
  refine vL_append (enc := wtE) (xs := []) (ys := [(⟨x1.rq, c1.now + 1 + 8, x1.tries + 1, x1.broker % c1.brokers + 1⟩ : WT)]) (by (exact norm_eq rfl)) (by (exact norm_eq rfl)) ((Own.nil _ _ _ _)) (Rd.new1 _ _ rfl) rfl (by decide) ?_ ?_ ?_
  · simp [maxLen]
  · simp
  intro av w13 ho13 hf13 hfr13 honea _
  have hfb : Fr No w12 w13 := ((Fr.refl _ w12).alloc _).trans' hf13 (fun i hi => (by cases hi))
  have hs12 := hfw12.size
  (((apply vL_val); (case h => ((apply opv_assign); ((conv => lhs; whnf) <;> exact rfl)))); apply vL_nil; apply blockP_normal; apply seqP_normal; apply vC_region; ((apply vL_val); (case h => ((apply opv_add); exact rfl; exact rfl; (first | omega | (simp only [List.length_map]; omega))))); ((apply vL_val); (case h => ((apply opv_E); exact rfl))); apply vL_nil; apply loopP_normal)
  (with_reducible apply end4); (case hs => ((iterate 13 (((refine same_updO ?_ ?_); rotate_left; exact rfl))); apply same_updN; (iterate 4 (((refine same_updO ?_ ?_); rotate_left; exact rfl))); apply same_updN; (iterate 14 (((refine same_updO ?_ ?_); rotate_left; exact rfl))); apply same_updN; (iterate 4 (((refine same_updO ?_ ?_); rotate_left; exact rfl))); (iterate 4 (((refine same_upd ?_ ?_); rotate_left; exact rfl))); (exact same_mask _ _ _))); (case h1 => (((conv => lhs; whnf) <;> exact rfl))); (case h2 => (((conv => lhs; whnf) <;> exact rfl))); (case h3 => (exact norm_eq rfl)); (case h4 => (exact norm_eq rfl))
  · refine ⟨hfw12.trans hfb, h112.frN hfb, h212.frN hfb, hc12.frN hfb, rfl, .inr ⟨rfl, honea, honel, r3, ?_, hr12.frN hfb, ho13, fun b hb => ?_, ho12.frN hfb⟩⟩
    · rw [hnr3]
      have := congrArg WT.rq hx1n
      exact this
    · rcases hfr13 b hb with h | h
      · cases h
      · rw [alloc_size] at h; have := h212.lt; omega
  · simp [RowKit.intOf]
end Go.Proofs.Ytchfaeaagpemlaa

set_option maxRecDepth 100000
namespace Go.Proofs.Ytchfaeaagpemlaa
open Go Go.Eng
structure RP where
  k : Int
  cl : Int
  call : Int
  err : Int
  leader : Int
  off : Int
  start : Int
  fin : Int
  again : Bool
  rrv : OV
  merr : Int
  mpid : Int
  mep : Int
  mn : Int
  mph : Int
  mpl : OV
def rpE (a : RP) : List Value := [.int .u8 a.k, .int .i64 a.cl, .int .i64 a.call, .int .i64 a.err, .int .i64 a.leader, .int .i64 a.off, .int .i64 a.start, .int .i64 a.fin, .bool a.again, a.rrv.1, .int .i64 a.merr, .int .i64 a.mpid, .int .i64 a.mep, .int .i64 a.mn, .int .u8 a.mph, a.mpl.1]
def matchB (a : RP) (x : WT) : Bool := decide (x.rq.call = a.call ∧ x.rq.k = a.k ∧ x.rq.cl = a.cl)
theorem takec31 (x : WT) (a : RP) (b : Nat) (w : World) (hb : Blk w.heap b (rpE a) 56) : Rets Try.prog 20 #[.agg (wtE x).toArray, .pointer (some ⟨b, 0, none⟩)] w fun u w' => u = .bool (matchB a x) ∧ Fr No w w' := by
  have hbv := x.rq.brv.2
  have htv := x.rq.trv.2
  unfold matchB
  refine rets_of Try.func20 rfl Try.ntmps20 rfl rfl (by kernel_rfl) ?_
  rcases (by omega : x.rq.call ≠ a.call ∨ (x.rq.call = a.call ∧ x.rq.k ≠ a.k) ∨ (x.rq.call = a.call ∧ x.rq.k = a.k)) with h | h | h
  · (apply vC_seq; apply vC_region; ((apply vL_val); (case h => ((apply opw_boxn); exact rfl))); ((apply vL_val); (case h => ((apply opv_E); exact rfl))); apply vL_nil; apply seqP_normal; apply vC_seq; apply vC_region; (iterate 2 (((apply vL_val); (case h => ((apply opv_fieldAddr); exact rfl))))); ((apply vL_val); (case h => ((apply opv_loadb1); exact rfl; exact rfl; infer_instance; exact rfl))); ((apply vL_val); (case h => ((apply opv_fieldAddr); exact rfl))); ((apply vL_val); (case h => ((apply opv_loadb1); exact rfl; exact rfl; infer_instance; exact rfl))); (iterate 2 (((apply vL_val); (case h => ((apply opv_E); exact rfl))))); (refine vL_and rfl rfl (fun h => by omega) (fun _ => ?_)); (iterate 5 (((apply vL_unwanted'); exact rfl; exact rfl))); (iterate 2 (((apply vL_val); (case h => ((apply opv_E); exact rfl))))); (iterate 6 (((apply vL_unwanted'); exact rfl; exact rfl))); (iterate 2 (((apply vL_val); (case h => ((apply opv_E); exact rfl))))); apply vL_nil; apply seqP_normal; apply vC_ret)
    (apply ret1; (case h1 => (exact norm_eq rfl)))
    exact ⟨by rw [decide_eq_false (fun h' : x.rq.call = a.call ∧ x.rq.k = a.k ∧ x.rq.cl = a.cl => h h'.1)], by (apply Fr.alloc; exact Fr.refl _ _)⟩
  · obtain ⟨h, h'⟩ := h
    (apply vC_seq; apply vC_region; ((apply vL_val); (case h => ((apply opw_boxn); exact rfl))); ((apply vL_val); (case h => ((apply opv_E); exact rfl))); apply vL_nil; apply seqP_normal; apply vC_seq; apply vC_region; (iterate 2 (((apply vL_val); (case h => ((apply opv_fieldAddr); exact rfl))))); ((apply vL_val); (case h => ((apply opv_loadb1); exact rfl; exact rfl; infer_instance; exact rfl))); ((apply vL_val); (case h => ((apply opv_fieldAddr); exact rfl))); ((apply vL_val); (case h => ((apply opv_loadb1); exact rfl; exact rfl; infer_instance; exact rfl))); (iterate 2 (((apply vL_val); (case h => ((apply opv_E); exact rfl))))); (refine vL_and rfl rfl (fun _ => ?_) (fun h => by omega)); ((apply vL_val); (case h => ((apply opv_fieldAddr); exact rfl))); ((apply vL_wanted); exact rfl); ((apply vL_val); (case h => ((apply opv_fieldAddr); exact rfl))); ((apply vL_wanted); exact rfl); ((apply vL_val); (case h => ((apply opv_loadb1); exact rfl; exact rfl; infer_instance; exact rfl))); ((apply vL_wanted); exact rfl); ((apply vL_val); (case h => ((apply opv_fieldAddr); exact rfl))); ((apply vL_wanted); exact rfl); ((apply vL_val); (case h => ((apply opv_loadb1); exact rfl; exact rfl; infer_instance; exact rfl))); ((apply vL_wanted); exact rfl); (iterate 3 (((apply vL_val); (case h => ((apply opv_E); exact rfl))))); (refine vL_and rfl rfl (fun h => by omega) (fun _ => ?_)); (iterate 5 (((apply vL_unwanted'); exact rfl; exact rfl))); (iterate 2 (((apply vL_val); (case h => ((apply opv_E); exact rfl))))); apply vL_nil; apply seqP_normal; apply vC_ret)
    (apply ret1; (case h1 => (exact norm_eq rfl)))
    exact ⟨by rw [decide_eq_false (fun h2 : x.rq.call = a.call ∧ x.rq.k = a.k ∧ x.rq.cl = a.cl => h' h2.2.1)], by (apply Fr.alloc; exact Fr.refl _ _)⟩
  · obtain ⟨h, h'⟩ := h
    (apply vC_seq; apply vC_region; ((apply vL_val); (case h => ((apply opw_boxn); exact rfl))); ((apply vL_val); (case h => ((apply opv_E); exact rfl))); apply vL_nil; apply seqP_normal; apply vC_seq; apply vC_region; (iterate 2 (((apply vL_val); (case h => ((apply opv_fieldAddr); exact rfl))))); ((apply vL_val); (case h => ((apply opv_loadb1); exact rfl; exact rfl; infer_instance; exact rfl))); ((apply vL_val); (case h => ((apply opv_fieldAddr); exact rfl))); ((apply vL_val); (case h => ((apply opv_loadb1); exact rfl; exact rfl; infer_instance; exact rfl))); (iterate 2 (((apply vL_val); (case h => ((apply opv_E); exact rfl))))); (refine vL_and rfl rfl (fun _ => ?_) (fun h => by omega)); ((apply vL_val); (case h => ((apply opv_fieldAddr); exact rfl))); ((apply vL_wanted); exact rfl); ((apply vL_val); (case h => ((apply opv_fieldAddr); exact rfl))); ((apply vL_wanted); exact rfl); ((apply vL_val); (case h => ((apply opv_loadb1); exact rfl; exact rfl; infer_instance; exact rfl))); ((apply vL_wanted); exact rfl); ((apply vL_val); (case h => ((apply opv_fieldAddr); exact rfl))); ((apply vL_wanted); exact rfl); ((apply vL_val); (case h => ((apply opv_loadb1); exact rfl; exact rfl; infer_instance; exact rfl))); ((apply vL_wanted); exact rfl); (iterate 3 (((apply vL_val); (case h => ((apply opv_E); exact rfl))))); (refine vL_and rfl rfl (fun _ => ?_) (fun h => by omega)); ((apply vL_val); (case h => ((apply opv_fieldAddr); exact rfl))); ((apply vL_wanted); exact rfl); ((apply vL_val); (case h => ((apply opv_fieldAddr); exact rfl))); ((apply vL_wanted); exact rfl); ((apply vL_val); (case h => ((apply opv_loadb1); exact rfl; exact rfl; infer_instance; exact rfl))); ((apply vL_wanted); exact rfl); ((apply vL_val); (case h => ((apply opv_fieldAddr); exact rfl))); ((apply vL_wanted); exact rfl); ((apply vL_val); (case h => ((apply opv_loadb1); exact rfl; exact rfl; infer_instance; exact rfl))); ((apply vL_wanted); exact rfl); (iterate 3 (((apply vL_val); (case h => ((apply opv_E); exact rfl))))); apply vL_nil; apply seqP_normal; apply vC_ret)
    (apply ret1; (case h1 => (exact norm_eq rfl)))
    exact ⟨congrArg Value.bool (decide_eq_decide.2 ⟨fun h2 => ⟨h, h', h2⟩, fun h2 => h2.2.2⟩), by (apply Fr.alloc; exact Fr.refl _ _)⟩
theorem takeD31 (c : CL) (a : RP) (w : World) (hc : ClRd w.heap c) (hs : ClSz c) (hn : ∀ x ∈ c.ws, matchB a x = false) :
    Rets Try.prog 8 #[.agg (clE c).toArray, .agg (rpE a).toArray] w fun u w' => ∃ c', u = .tuple #[.agg (clE c').toArray, .slice none 0 0, .slice none 0 0] ∧ c'.nf = c.nf ∧ ClOwn w'.heap c' ∧ Fr No w w' := by
  have hw0 := c.wv.2
  have hs0 := c.sv.2
  have ha0 := a.rrv.2
  have ha1 := a.mpl.2
  refine rets_of Try.func8 rfl Try.ntmps8 rfl rfl (by kernel_rfl) ?_
  ((apply vC_seq; apply vC_region)); (((iterate 2 (((apply vL_val); (case h => ((apply opw_boxn); exact rfl))))); ((apply vL_val); (case h => (apply opw_alloc))); (iterate 2 (((apply vL_val); (case h => ((apply opv_E); exact rfl))))); apply vL_nil)); with_reducible apply seqP_normal
  ((apply vC_seq; apply vC_region))
  have e3 : (w.alloc (.cells (clE c).toArray 25)).heap.size = w.heap.size + 1 := by simp
  have e4 : ((w.alloc (.cells (clE c).toArray 25)).alloc (.cells (rpE a).toArray 56)).heap.size = w.heap.size + 2 := by simp
  refine vL_gen (fun w' => Fr No w w' ∧ Blk w'.heap w.heap.size (clE c) 25 ∧ Blk w'.heap (w.alloc (.cells (clE c).toArray 25)).heap.size (rpE a) 56 ∧ Blk w'.heap ((w.alloc (.cells (clE c).toArray 25)).alloc (.cells (rpE a).toArray 56)).heap.size clZ 25) ⟨by ((iterate 3 (apply Fr.alloc)); exact Fr.refl _ _), inferInstance, inferInstance, inferInstance⟩ ?_
  rintro w1 ⟨hf1, h2, h3, h4⟩
  rw [e3] at h3
  rw [e4] at h4
  rw [e3, e4]
  obtain ⟨b2, eb2⟩ : ∃ b2, b2 = w.heap.size := ⟨_, rfl⟩
  obtain ⟨b3, eb3⟩ : ∃ b3, b3 = w.heap.size + 1 := ⟨_, rfl⟩
  obtain ⟨b4, eb4⟩ : ∃ b4, b4 = w.heap.size + 2 := ⟨_, rfl⟩
  rw [← eb4] at h4 ⊢
  rw [← eb3] at h3 ⊢
  rw [← eb2] at h2 ⊢
  have hsz1 := hf1.size
  have hl4 := h4.lt
  (((apply vL_val); (case h => ((apply opv_fieldAddr); exact rfl))); ((apply vL_val); (case h => ((apply opv_loadb1); exact rfl; exact rfl; assumption; exact rfl))); ((apply vL_val); (case h => ((apply opv_makeFunc); exact rfl))))
  refine vL_callF rfl (indexFunc_wt _ _ (matchB a) c.ws _ 20 [.pointer (some ⟨b3, 0, none⟩)] (hc.1.frN hf1) rfl (fun y w1 hy hf => takec31 y a b3 w1 (h3.frN hf))) rfl ?_
  rintro u5 w2 ⟨hf2, hres⟩
  have h22 := h2.frN hf2
  have h32 := h3.frN hf2
  have h42 := h4.frN hf2
  have hf12 := hf1.trans hf2
  rcases hres with ⟨rfl, _⟩ | ⟨k, rfl, hk, ⟨x, hx, hp⟩, _⟩
  rotate_left
  · rw [hn x (List.mem_of_getElem? hx)] at hp; cases hp
  (((apply vL_val); (case h => ((apply opv_E); exact rfl))); apply vL_nil; apply seqP_normal; apply vC_seq; apply vC_region; ((apply vL_val); (case h => ((apply opv_loadbC); exact rfl; exact rfl; assumption; exact (rfl : _ = [_, _, _, _, _, _, _, _, _, _]); exact rfl))))
  refine vL_callF rfl (clone31 c w2 (hc.frN hf12) hs) rfl ?_
  rintro _ w3 ⟨c1, rfl, hnf, hc3, _, _, hf3⟩
  have hw1 := c1.wv.2
  have hs1 := c1.sv.2
  have h23 := h22.frN hf3
  have h43 := h42.frN hf3
  haveI n42 : NeB b4 b2 := ⟨by omega⟩
  haveI n24 : NeB b2 b4 := ⟨by omega⟩
  (((apply vL_skip); (case h => ((apply ops_storen); exact norm_eq rfl; exact norm_eq rfl; exact rfl; exact (fun u hu => EncOk.one _ u hu); assumption; (first | decide | exact of_decide_eq_true rfl | (simp; done))))); apply vL_nil; apply seqP_normal; (iterate 2 (apply vC_seq)); apply vC_region; (iterate 3 (((apply vL_val); (case h => ((apply opv_E); exact rfl))))); (iterate 3 (((apply vL_unwanted'); exact rfl; exact rfl))); ((apply vL_val); (case h => ((apply opv_E); exact rfl))); apply vL_nil; apply seqP_normal; ((apply vC_cond_true); exact rfl); apply vC_seq; apply vC_region; ((apply vL_val); (case h => ((apply opv_loadbC); exact rfl; exact rfl; infer_instance; exact (rfl : _ = [_, _, _, _, _, _, _, _, _, _]); exact rfl))); ((apply vL_skip); (case h => ((apply ops_storen); exact norm_eq rfl; exact norm_eq rfl; exact rfl; (intro u hu; simp only [List.mem_cons, List.not_mem_nil, or_false] at hu; rcases hu with rfl | rfl | rfl | rfl | rfl | rfl | rfl | rfl | rfl | rfl <;> (first | rfl | assumption)); infer_instance; (first | decide | exact of_decide_eq_true rfl | (simp; done))))); (iterate 2 (((apply vL_val); (case h => ((apply opv_E); exact rfl))))); apply vL_nil; apply seqP_normal; apply vC_ret; apply seqP_ret)
  (apply retC3; (case ha => exact rfl); (case hD => exact rfl); (case hb => (infer_instance)); (case hcs => exact rfl); (case hl => exact rfl); (case hu => (exact norm_eq rfl)); (case hu2 => (exact norm_eq rfl)))
  refine ⟨c1, rfl, hnf, ?_, ((hf12.trans hf3).set _ _ (.inr (by omega))).set _ _ (.inr (by omega))⟩
  have hA := hc3.frBlk h23 ⟨by decide, by decide, by decide⟩ ⟨by decide, by decide⟩ ((Fr.refl (fun k => k = b2) w3).set b2 (clE c1).toArray (.inl rfl))
  exact hA.frBlk (h43.set_ne (show b4 ≠ b2 by omega)) ⟨by decide, by decide, by decide⟩ ⟨by decide, by decide⟩ ((Fr.refl (fun k => k = b4) _).set b4 (clE c1).toArray (.inl rfl))
end Go.Proofs.Ytchfaeaagpemlaa
