/- Layer 16: who waits. Layer 16: who waits to receive; who is forgotten. Layer 16: channels and tickets are made; what can be done. Layer 16: what can be done at a channel now. Layer 16: a channel is closed. Layer 16: the closures of plain sends and receives; what a waiting task has of its own. Layers 15, 16: a plain world: tasks that send and receive at channels, as lists; how the memory shows it. -/
import Derived.Test.YtbaidcnalkdhgaaGreatWi
import Derived.Test.YtbaidcnalkdhgaaGreatEy
set_option maxRecDepth 100000
namespace Go.Proofs.YtbaidcnalkdhgaaGreat
open Go Go.Eng
section
variable {w w' w0 : World} {F F0 : Nat → Prop} {rb : Nat} {c : CH} {ts : List TKT} {R : Asr}
def waitT_i (n : Nat) (k v told : Value) : List Value := []
theorem ch_waits_i [Lcl R] (S : At (ChA_i rb c * (TksA ts * R)) w0 F0 w) (h1 : ∀ x ∈ c.snd, ∃ t ∈ ts, x.k = t.b) (h2 : ∀ x ∈ c.rcv, ∃ t ∈ ts, x.k = t.b) :
    Rets Tryz.prog 25 #[pt c.cb] w fun u w' => u = .tuple #[.int .i64 (c.cleaned ts).snd.length, .int .i64 (c.cleaned ts).rcv.length] ∧ At (ChA_i rb (c.cleaned ts) * (TksA ts * R)) w0 F0 w' := by
  have hr0 := ch_right_i w c rb (ch_blk_i S)
  refine rets_of Tryz.func25 rfl Tryz.ntmps25 rfl rfl (by kernel_rfl) ?_
  (apply vC_seq; apply vC_region; (iterate 2 (((apply vL_val); (case h => ((apply opv_E); exact rfl))))); apply vL_nil; apply seqP_normal; (iterate 2 (apply vC_seq)); apply vC_region; ((apply vL_val); (case h => ((apply opv_E); exact rfl))))
  refine vL_callF rfl (hr0) rfl ?_
  rintro _ _ ⟨rfl, rfl⟩
  (((apply vL_val); (case h => ((apply opv_not); exact rfl))); apply vL_nil; apply seqP_normal; ((apply vC_cond_false); exact rfl); apply vC_skip; apply seqP_normal; apply vC_seq; apply vC_region; ((apply vL_val); (case h => ((apply opv_E); exact rfl))))
  refine vL_callF rfl (ch_clean_i S h1 h2) rfl ?_
  intro _ w1 S1
  have hcb1 := ch_blk_i S1
  rw [chL_i] at hcb1
  have ecb : (c.cleaned ts).cb = c.cb := rfl
  rw [ecb] at hcb1
  generalize c.cleaned ts = d at *
  obtain ⟨v2, b2, o2, n2, _⟩ := ch_snd_i S1
  obtain ⟨v3, b3, o3, n3, _⟩ := ch_rcv_i S1
  (apply vL_nil; apply seqP_normal; apply vC_seq)
  refine vC_draw' (fun wf => Fr No w1 wf) ((Fr.refl No w1).drew) ?_
  ((apply (tk 0)); (case hi => exact rfl); (case hf => kernel_rfl); (case hS => (apply Fr.drew; exact Fr.refl _ _)); (case hy => (intro wf hwf; haveI := From.mk hwf; (((apply opv_E); exact rfl)))))
  ((apply (tk 1)); (case hi => exact rfl); (case hf => kernel_rfl); (case hS => (apply Fr.drew; exact Fr.refl _ _)); (case hy => (intro wf hwf; haveI := From.mk hwf; (((apply opv_E); exact rfl)))))
  ((apply (tk 2)); (case hi => exact rfl); (case hf => kernel_rfl); (case hS => (apply Fr.drew; exact Fr.refl _ _)); (case hy => (intro wf hwf; haveI := From.mk hwf; (((apply opv_fieldAddr); exact rfl)))))
  ((apply (tk 3)); (case hi => exact rfl); (case hf => kernel_rfl); (case hS => (apply Fr.drew; exact Fr.refl _ _)); (case hy => (intro wf hwf; haveI := From.mk hwf; (((apply opv_loadb1); exact rfl; exact rfl; infer_instance; exact rfl)))))
  ((apply (tk 5)); (case hi => exact rfl); (case hf => kernel_rfl); (case hS => (apply Fr.drew; exact Fr.refl _ _)); (case hy => (intro wf hwf; haveI := From.mk hwf; (((apply opv_E); exact rfl)))))
  ((apply (tk 6)); (case hi => exact rfl); (case hf => kernel_rfl); (case hS => (apply Fr.drew; exact Fr.refl _ _)); (case hy => (intro wf hwf; haveI := From.mk hwf; (((apply opv_E); exact rfl)))))
  ((apply (tk 7)); (case hi => exact rfl); (case hf => kernel_rfl); (case hS => (apply Fr.drew; exact Fr.refl _ _)); (case hy => (intro wf hwf; haveI := From.mk hwf; (((apply opv_fieldAddr); exact rfl)))))
  ((apply (tk 8)); (case hi => exact rfl); (case hf => kernel_rfl); (case hS => (apply Fr.drew; exact Fr.refl _ _)); (case hy => (intro wf hwf; haveI := From.mk hwf; (((apply opv_loadb1); exact rfl; exact rfl; infer_instance; exact rfl)))))
  (refine tkc 4 rfl (by kernel_rfl) (by (apply Fr.drew; exact Fr.refl _ _)) rfl (q_len_snd d.sq v2 d.snd _ inferInstance inferInstance) rfl ?_)
  rintro _ _ ⟨rfl, rfl⟩
  (refine tkc 9 rfl (by kernel_rfl) (by (apply Fr.drew; exact Fr.refl _ _)) rfl (q_len_rcv d.rq v3 d.rcv _ inferInstance inferInstance) rfl ?_)
  rintro _ _ ⟨rfl, rfl⟩
  ((apply (tk 10)); (case hi => exact rfl); (case hf => kernel_rfl); (case hS => (apply Fr.drew; exact Fr.refl _ _)); (case hy => (intro wf hwf; haveI := From.mk hwf; (((apply opv_E); exact rfl)))))
  ((apply (tk 11)); (case hi => exact rfl); (case hf => kernel_rfl); (case hS => (apply Fr.drew; exact Fr.refl _ _)); (case hy => (intro wf hwf; haveI := From.mk hwf; (((apply opv_E); exact rfl)))))
  refine vA_done (by kernel_rfl) (by (first | exact trivial | ((apply Fr.drew; exact Fr.refl _ _); done))) ?_
  (apply seqP_normal; apply vC_ret)
  (apply ret2; (case h1 => (exact norm_eq rfl)); (case h2 => (exact norm_eq rfl)))
  exact ⟨rfl, S1.drew⟩
theorem waitS1_i (x : RE) (kb k : Nat) (w : World) (hb : Blk w.heap kb [pt k] 71) {c1 c2 : List Value} (h1 : Blk w.heap x.k c1 175) (h2 : Blk w.heap k c2 175) : Rets Tryz.prog 116 #[.agg (reE x).toArray, pt kb] w fun u w' => u = .bool (!decide (x.k = k)) ∧ Fr No w w' := by
  have hxf := x.f.2
  refine rets_of Tryz.func116 rfl Tryz.ntmps116 rfl rfl (by kernel_rfl) ?_
  ((apply vC_seq; apply vC_region)); ((((apply vL_val); (case h => ((apply opw_boxn); exact rfl))); ((apply vL_val); (case h => ((apply opv_E); exact rfl))); apply vL_nil)); with_reducible apply seqP_normal
  ((apply vC_seq; apply vC_region))
  refine vL_gen (fun w' => Fr No w w' ∧ Blk w'.heap w.heap.size (reE x) 157) ⟨by (apply Fr.alloc; exact Fr.refl _ _), Blk.as inferInstance rfl⟩ ?_
  rintro w1 ⟨hf1, h5⟩
  generalize w.heap.size = b5 at h5 ⊢
  have hb1 := hb.frN hf1
  have h11 := h1.frN hf1
  have h21 := h2.frN hf1
  rw [reE] at h5
  (((apply vL_val); (case h => ((apply opv_fieldAddr); exact rfl))); (iterate 2 (((apply vL_val); (case h => ((apply opv_loadb1); exact rfl; exact rfl; assumption; exact rfl))))); ((apply vL_val); (case h => ((apply opv_neq_ptr); exact rfl; exact rfl; exact rfl; assumption; assumption))); ((apply vL_val); (case h => ((apply opv_E); exact rfl))); apply vL_nil; apply seqP_normal; apply vC_ret)
  (apply ret1; (case h1 => (exact norm_eq rfl)))
  exact ⟨by simp, hf1⟩
theorem waitR1_i (x : SE) (kb k : Nat) (w : World) (hb : Blk w.heap kb [pt k] 71) {c1 c2 : List Value} (h1 : Blk w.heap x.k c1 175) (h2 : Blk w.heap k c2 175) : Rets Tryz.prog 120 #[.agg (seE x).toArray, pt kb] w fun u w' => u = .bool (!decide (x.k = k)) ∧ Fr No w w' := by
  have hxf := x.f.2
  refine rets_of Tryz.func120 rfl Tryz.ntmps120 rfl rfl (by kernel_rfl) ?_
  ((apply vC_seq; apply vC_region)); ((((apply vL_val); (case h => ((apply opw_boxn); exact rfl))); ((apply vL_val); (case h => ((apply opv_E); exact rfl))); apply vL_nil)); with_reducible apply seqP_normal
  ((apply vC_seq; apply vC_region))
  refine vL_gen (fun w' => Fr No w w' ∧ Blk w'.heap w.heap.size (seE x) 154) ⟨by (apply Fr.alloc; exact Fr.refl _ _), Blk.as inferInstance rfl⟩ ?_
  rintro w1 ⟨hf1, h5⟩
  generalize w.heap.size = b5 at h5 ⊢
  have hb1 := hb.frN hf1
  have h11 := h1.frN hf1
  have h21 := h2.frN hf1
  rw [seE] at h5
  (((apply vL_val); (case h => ((apply opv_fieldAddr); exact rfl))); (iterate 2 (((apply vL_val); (case h => ((apply opv_loadb1); exact rfl; exact rfl; assumption; exact rfl))))); ((apply vL_val); (case h => ((apply opv_neq_ptr); exact rfl; exact rfl; exact rfl; assumption; assumption))); ((apply vL_val); (case h => ((apply opv_E); exact rfl))); apply vL_nil; apply seqP_normal; apply vC_ret)
  (apply ret1; (case h1 => (exact norm_eq rfl)))
  exact ⟨by simp, hf1⟩
/-- may somebody wait to send? -/
def noSend (d : CH) (t : TKT) : Bool := t.fired || d.closed || d.rcv.any (fun x => !decide (x.k = t.b)) || decide ((d.buf.length : Int) < d.size)
def noRecv (d : CH) (t : TKT) : Bool := t.fired || d.closed || d.snd.any (fun x => !decide (x.k = t.b)) || decide (0 < d.buf.length)
theorem ch_waitsend_i [Lcl R] (S : At (ChA_i rb c * (TksA ts * R)) w0 F0 w) (h1 : ∀ x ∈ c.snd, ∃ t ∈ ts, x.k = t.b) (h2 : ∀ x ∈ c.rcv, ∃ t ∈ ts, x.k = t.b) (hbig : c.snd.length ≤ 1000000 ∧ c.rcv.length ≤ 1000000) (v : Int) {t : TKT} (ht : t ∈ ts) (g g2 : FuncId) (cap cap2 : Array Value) (hfire : t.fire.1 = .func (.func g2) #[] cap2) :
    Rets Tryz.prog 37 #[pt c.cb, .int .i64 v, pt t.b, .func (.func g) #[] cap] w fun u w' =>
      (noSend (c.cleaned ts) t = true ∧ u = .int .i64 2 ∧ At (ChA_i rb (c.cleaned ts) * (TksA ts * R)) w0 F0 w') ∨
      (noSend (c.cleaned ts) t = false ∧ u = .int .i64 0 ∧ At (ChA_i rb { c.cleaned ts with snd := (c.cleaned ts).snd ++ [⟨t.b, v, ⟨.func (.func g) #[] cap, rfl⟩⟩] } * (TksA ts * R)) w0 F0 w') := by
  refine rets_of Tryz.func37 rfl Tryz.ntmps37 rfl rfl (by kernel_rfl) ?_
  ((apply vC_seq; apply vC_region)); ((((apply vL_val); (case h => ((apply opw_box1); exact norm_eq rfl; (first | rfl | assumption)))); ((apply vL_val); (case h => ((apply opv_E); exact rfl))); apply vL_nil)); with_reducible apply seqP_normal
  (((iterate 2 (apply vC_seq)); apply vC_region))
  refine vL_gen (fun w' => At (ChA_i rb c * (TksA ts * (Pt w.heap.size [pt t.b] 71 * R))) w0 F0 w') ((S.new (cs := [pt t.b]) (T := 71) (by (apply Fr.alloc; exact Fr.refl _ _)) inferInstance (Nat.le_refl _)).ac (by ac_rfl)) ?_
  intro w1 S1
  generalize w.heap.size = b6 at S1 ⊢
  have hr1 := ch_right_i w1 c rb (ch_blk_i S1)
  have htb := (S1.ac (show _ = TksA ts * (ChA_i rb c * (Pt b6 [pt t.b] 71 * R)) by ac_rfl)).tk ht
  have h61 := (S1.ac (show _ = Pt b6 [pt t.b] 71 * (ChA_i rb c * (TksA ts * R)) by ac_rfl)).blk
  rw [hfire] at htb
  (((apply vL_val); (case h => ((apply opv_E); exact rfl))))
  refine vL_callF rfl (hr1) rfl ?_
  rintro _ _ ⟨rfl, rfl⟩
  (((apply vL_val); (case h => ((apply opv_not); exact rfl))); (iterate 24 (first | ((with_reducible apply vL_val); (case h => ((with_reducible apply opv_E); exact rfl))) | ((with_reducible apply vL_val); (case h => ((with_reducible apply opv_loadb1); exact rfl; exact rfl; assumption; exact rfl))) | ((with_reducible apply vL_val); (case h => ((with_reducible apply opv_fieldAddr); exact rfl))) | ((with_reducible apply vL_val); (case h => ((with_reducible apply opv_eql_pnil); exact rfl; exact rfl; (simp; done)))) | ((with_reducible apply vL_val); (case h => ((with_reducible apply opv_eql_fnil); exact rfl; exact rfl))) | ((with_reducible apply vL_wanted); exact rfl))); apply vL_nil; apply seqP_normal; ((apply vC_cond_false); exact rfl); apply vC_skip; apply seqP_normal; apply vC_seq; apply vC_region; ((apply vL_val); (case h => ((apply opv_E); exact rfl))))
  refine vL_callF rfl (ch_clean_i S1 h1 h2) rfl ?_
  intro _ w2 S2
  have hcb2 := ch_blk_i S2
  rw [chL_i] at hcb2
  have ecb : (c.cleaned ts).cb = c.cb := rfl
  have hsl : (c.cleaned ts).snd.length ≤ 1000000 ∧ (c.cleaned ts).rcv.length ≤ 1000000 := ⟨Nat.le_trans (List.length_filter_le _ _) hbig.1, Nat.le_trans (List.length_filter_le _ _) hbig.2⟩
  have hm2 : ∀ x ∈ (c.cleaned ts).rcv, ∃ t ∈ ts, x.k = t.b := fun x hx => h2 x (List.mem_filter.1 hx).1
  rw [ecb] at hcb2
  generalize c.cleaned ts = d at *
  clear htb h61 hr1 S1
  obtain ⟨v3, b3, o3, n3, _⟩ := ch_rcv_i S2
  (apply vL_nil; apply seqP_normal; apply vC_seq; apply vC_region; (iterate 2 (((apply vL_val); (case h => ((apply opv_E); exact rfl))))); ((apply vL_val); (case h => ((apply opv_fieldAddr); exact rfl))); ((apply vL_val); (case h => ((apply opv_loadb1); exact rfl; exact rfl; assumption; exact rfl))))
  refine vL_callF rfl (q_list_rcv d.rq v3 d.rcv w2 b3 o3 (by omega)) rfl ?_
  rintro lv w3 ⟨hf3, ho3, hfr3, hone3⟩
  have S3 := S2.frN hf3
  have htk3 : ∀ t ∈ ts, Blk w3.heap t.b [t.fire.1, .bool t.fired] 175 := fun t' ht' => (S3.ac (show _ = TksA ts * (ChA_i rb d * (Pt b6 [pt t.b] 71 * R)) by ac_rfl)).tk ht'
  have h63 := (S3.ac (show _ = Pt b6 [pt t.b] 71 * (ChA_i rb d * (TksA ts * R)) by ac_rfl)).blk
  (((apply vL_val); (case h => ((apply opv_makeFunc); exact rfl))))
  refine vL_callF rfl (containsFunc_rcv _ lv (fun x => !decide (x.k = t.b)) d.rcv w3 116 [pt b6] ho3.rd hone3 rfl (fun x w4 hx hf4 => by
    obtain ⟨t', ht', e'⟩ := hm2 x hx
    exact waitS1_i x b6 t.b w4 (h63.frN hf4) (by rw [e']; exact (htk3 t' ht').frN hf4) ((htk3 t ht).frN hf4))) rfl ?_
  rintro _ w4 ⟨rfl, hf4⟩
  have S4 := S3.frN hf4
  have hcb4 := ch_blk_i S4
  rw [chL_i, ecb] at hcb4
  have htb4 := (htk3 t ht).frN hf4
  have h64 := h63.frN hf4
  obtain ⟨v5, b5, o5, n5, _⟩ := ch_buf_i S4
  clear S2 S3 hcb2 b3 o3 htk3 h63 ho3
  have fin : ∀ w', At (ChA_i rb d * (TksA ts * (Pt b6 [pt t.b] 71 * R))) w0 F0 w' → At (ChA_i rb d * (TksA ts * R)) w0 F0 w' := fun w' h => (h.ac (show _ = Pt b6 [pt t.b] 71 * (ChA_i rb d * (TksA ts * R)) by ac_rfl)).drop
  have hns : noSend d t = (t.fired || d.closed || d.rcv.any (fun x => !decide (x.k = t.b)) || decide ((d.buf.length : Int) < d.size)) := rfl
  generalize d.rcv.any (fun x => !decide (x.k = t.b)) = an at hns ⊢
  have hbad : noSend d t = true → (noSend d t = true ∧ Value.int .i64 2 = .int .i64 2 ∧ At (ChA_i rb d * (TksA ts * R)) w0 F0 w4.drew) := fun h => ⟨h, rfl, fin _ S4.drew⟩
  cases hfd : t.fired with
  | true =>
    rw [hfd] at htb4 hns
    (((apply vL_val); (case h => ((apply opv_E); exact rfl))); apply vL_nil; apply seqP_normal; (iterate 2 (apply vC_seq)))
    (with_reducible apply vC_drawQ); ((iterate 25 (first | ((with_reducible apply vQ_op); (case hi => exact rfl); (case hf => kernel_rfl); (case hS => exact Dr.refl _); (case hy => (intro j; ((with_reducible apply opv_E); exact rfl)))) | ((with_reducible apply vQ_op); (case hi => exact rfl); (case hf => kernel_rfl); (case hS => exact Dr.refl _); (case hy => (intro j; ((with_reducible apply opv_loadb1); exact rfl; exact rfl; assumption; exact rfl)))) | ((with_reducible apply vQ_op); (case hi => exact rfl); (case hf => kernel_rfl); (case hS => exact Dr.refl _); (case hy => (intro j; ((with_reducible apply opv_fieldAddr); exact rfl)))) | ((with_reducible apply vQ_unwanted); (case hi => exact rfl); (case hg => exact rfl); (case hne => exact rfl); (case hf => kernel_rfl); (case hS => exact Dr.refl _)))); ((apply vQ_end); (case hi => exact rfl); (case hf => kernel_rfl); (case hS => exact Dr.refl _)))
    (apply seqP_normal; ((apply vC_cond_true); exact rfl); apply vC_seq; apply vC_region; ((apply vL_val); (case h => ((apply opv_E); exact rfl))); apply vL_nil; apply seqP_normal; apply vC_ret; apply seqP_ret)
    (apply ret1; (case h1 => (exact norm_eq rfl)))
    exact .inl (hbad (by rw [hns]; rfl))
  | false =>
  rw [hfd] at htb4 hns
  cases hcl : d.closed with
  | true =>
    rw [hcl] at hcb4 hns
    (((apply vL_val); (case h => ((apply opv_E); exact rfl))); apply vL_nil; apply seqP_normal; (iterate 2 (apply vC_seq)))
    (with_reducible apply vC_drawQ); ((iterate 25 (first | ((with_reducible apply vQ_op); (case hi => exact rfl); (case hf => kernel_rfl); (case hS => exact Dr.refl _); (case hy => (intro j; ((with_reducible apply opv_E); exact rfl)))) | ((with_reducible apply vQ_op); (case hi => exact rfl); (case hf => kernel_rfl); (case hS => exact Dr.refl _); (case hy => (intro j; ((with_reducible apply opv_loadb1); exact rfl; exact rfl; assumption; exact rfl)))) | ((with_reducible apply vQ_op); (case hi => exact rfl); (case hf => kernel_rfl); (case hS => exact Dr.refl _); (case hy => (intro j; ((with_reducible apply opv_fieldAddr); exact rfl)))) | ((with_reducible apply vQ_wanted); (case hi => exact rfl); (case hg => exact rfl); (case hf => kernel_rfl); (case hS => exact Dr.refl _); (case hy => (intro j; ((with_reducible apply opv_E); exact rfl)))) | ((with_reducible apply vQ_wanted); (case hi => exact rfl); (case hg => exact rfl); (case hf => kernel_rfl); (case hS => exact Dr.refl _); (case hy => (intro j; ((with_reducible apply opv_loadb1); exact rfl; exact rfl; assumption; exact rfl)))) | ((with_reducible apply vQ_wanted); (case hi => exact rfl); (case hg => exact rfl); (case hf => kernel_rfl); (case hS => exact Dr.refl _); (case hy => (intro j; ((with_reducible apply opv_fieldAddr); exact rfl)))) | ((with_reducible apply vQ_unwanted); (case hi => exact rfl); (case hg => exact rfl); (case hne => exact rfl); (case hf => kernel_rfl); (case hS => exact Dr.refl _)))); ((apply vQ_end); (case hi => exact rfl); (case hf => kernel_rfl); (case hS => exact Dr.refl _)))
    (apply seqP_normal; ((apply vC_cond_true); exact rfl); apply vC_seq; apply vC_region; ((apply vL_val); (case h => ((apply opv_E); exact rfl))); apply vL_nil; apply seqP_normal; apply vC_ret; apply seqP_ret)
    (apply ret1; (case h1 => (exact norm_eq rfl)))
    exact .inl (hbad (by rw [hns]; rfl))
  | false =>
  rw [hcl] at hcb4 hns
  cases an with
  | true =>
    (((apply vL_val); (case h => ((apply opv_E); exact rfl))); apply vL_nil; apply seqP_normal; (iterate 2 (apply vC_seq)))
    (with_reducible apply vC_drawQ); ((iterate 25 (first | ((with_reducible apply vQ_op); (case hi => exact rfl); (case hf => kernel_rfl); (case hS => exact Dr.refl _); (case hy => (intro j; ((with_reducible apply opv_E); exact rfl)))) | ((with_reducible apply vQ_op); (case hi => exact rfl); (case hf => kernel_rfl); (case hS => exact Dr.refl _); (case hy => (intro j; ((with_reducible apply opv_loadb1); exact rfl; exact rfl; assumption; exact rfl)))) | ((with_reducible apply vQ_op); (case hi => exact rfl); (case hf => kernel_rfl); (case hS => exact Dr.refl _); (case hy => (intro j; ((with_reducible apply opv_fieldAddr); exact rfl)))) | ((with_reducible apply vQ_wanted); (case hi => exact rfl); (case hg => exact rfl); (case hf => kernel_rfl); (case hS => exact Dr.refl _); (case hy => (intro j; ((with_reducible apply opv_E); exact rfl)))) | ((with_reducible apply vQ_wanted); (case hi => exact rfl); (case hg => exact rfl); (case hf => kernel_rfl); (case hS => exact Dr.refl _); (case hy => (intro j; ((with_reducible apply opv_loadb1); exact rfl; exact rfl; assumption; exact rfl)))) | ((with_reducible apply vQ_wanted); (case hi => exact rfl); (case hg => exact rfl); (case hf => kernel_rfl); (case hS => exact Dr.refl _); (case hy => (intro j; ((with_reducible apply opv_fieldAddr); exact rfl)))) | ((with_reducible apply vQ_unwanted); (case hi => exact rfl); (case hg => exact rfl); (case hne => exact rfl); (case hf => kernel_rfl); (case hS => exact Dr.refl _)))); ((apply vQ_end); (case hi => exact rfl); (case hf => kernel_rfl); (case hS => exact Dr.refl _)))
    (apply seqP_normal; ((apply vC_cond_true); exact rfl); apply vC_seq; apply vC_region; ((apply vL_val); (case h => ((apply opv_E); exact rfl))); apply vL_nil; apply seqP_normal; apply vC_ret; apply seqP_ret)
    (apply ret1; (case h1 => (exact norm_eq rfl)))
    exact .inl (hbad (by rw [hns]; rfl))
  | false =>
  (((apply vL_val); (case h => ((apply opv_E); exact rfl))); apply vL_nil; apply seqP_normal; (iterate 2 (apply vC_seq)))
  refine vC_draw' (fun wf => Fr No w4 wf) ((Fr.refl No w4).drew) ?_
  ((apply (tk 0)); (case hi => exact rfl); (case hf => kernel_rfl); (case hS => (apply Fr.drew; exact Fr.refl _ _)); (case hy => (intro wf hwf; haveI := From.mk hwf; (((apply opv_loadb1); exact rfl; exact rfl; infer_instance; exact rfl)))))
  ((apply (tk 1)); (case hi => exact rfl); (case hf => kernel_rfl); (case hS => (apply Fr.drew; exact Fr.refl _ _)); (case hy => (intro wf hwf; haveI := From.mk hwf; (((apply opv_E); exact rfl)))))
  ((apply (tk 2)); (case hi => exact rfl); (case hf => kernel_rfl); (case hS => (apply Fr.drew; exact Fr.refl _ _)); (case hy => (intro wf hwf; haveI := From.mk hwf; (((apply opv_fieldAddr); exact rfl)))))
  ((apply (tk 3)); (case hi => exact rfl); (case hf => kernel_rfl); (case hS => (apply Fr.drew; exact Fr.refl _ _)); (case hy => (intro wf hwf; haveI := From.mk hwf; (((apply opv_loadb1); exact rfl; exact rfl; infer_instance; exact rfl)))))
  ((apply (tk 4)); (case hi => exact rfl); (case hf => kernel_rfl); (case hS => (apply Fr.drew; exact Fr.refl _ _)); (case hy => (intro wf hwf; haveI := From.mk hwf; (((apply opv_E); exact rfl)))))
  ((apply (tkw 5)); (case hi => exact rfl); (case hg => exact rfl); (case hf => kernel_rfl); (case hS => (apply Fr.drew; exact Fr.refl _ _)); (case hy => (intro wf hwf; haveI := From.mk hwf; (((apply opv_E); exact rfl)))))
  ((apply (tkw 6)); (case hi => exact rfl); (case hg => exact rfl); (case hf => kernel_rfl); (case hS => (apply Fr.drew; exact Fr.refl _ _)); (case hy => (intro wf hwf; haveI := From.mk hwf; (((apply opv_E); exact rfl)))))
  ((apply (tkw 7)); (case hi => exact rfl); (case hg => exact rfl); (case hf => kernel_rfl); (case hS => (apply Fr.drew; exact Fr.refl _ _)); (case hy => (intro wf hwf; haveI := From.mk hwf; (((apply opv_fieldAddr); exact rfl)))))
  ((apply (tkw 8)); (case hi => exact rfl); (case hg => exact rfl); (case hf => kernel_rfl); (case hS => (apply Fr.drew; exact Fr.refl _ _)); (case hy => (intro wf hwf; haveI := From.mk hwf; (((apply opv_loadb1); exact rfl; exact rfl; infer_instance; exact rfl)))))
  ((apply (tk 9)); (case hi => exact rfl); (case hf => kernel_rfl); (case hS => (apply Fr.drew; exact Fr.refl _ _)); (case hy => (intro wf hwf; haveI := From.mk hwf; (((apply opv_E); exact rfl)))))
  ((apply (tk 10)); (case hi => exact rfl); (case hf => kernel_rfl); (case hS => (apply Fr.drew; exact Fr.refl _ _)); (case hy => (intro wf hwf; haveI := From.mk hwf; (((apply opv_E); exact rfl)))))
  ((apply (tkw 11)); (case hi => exact rfl); (case hg => exact rfl); (case hf => kernel_rfl); (case hS => (apply Fr.drew; exact Fr.refl _ _)); (case hy => (intro wf hwf; haveI := From.mk hwf; (((apply opv_E); exact rfl)))))
  ((apply (tk 12)); (case hi => exact rfl); (case hf => kernel_rfl); (case hS => (apply Fr.drew; exact Fr.refl _ _)); (case hy => (intro wf hwf; haveI := From.mk hwf; (((apply opv_E); exact rfl)))))
  ((apply (tk 13)); (case hi => exact rfl); (case hf => kernel_rfl); (case hS => (apply Fr.drew; exact Fr.refl _ _)); (case hy => (intro wf hwf; haveI := From.mk hwf; (((apply opv_E); exact rfl)))))
  ((apply (tkw 14)); (case hi => exact rfl); (case hg => exact rfl); (case hf => kernel_rfl); (case hS => (apply Fr.drew; exact Fr.refl _ _)); (case hy => (intro wf hwf; haveI := From.mk hwf; (((apply opv_E); exact rfl)))))
  ((apply (tkw 15)); (case hi => exact rfl); (case hg => exact rfl); (case hf => kernel_rfl); (case hS => (apply Fr.drew; exact Fr.refl _ _)); (case hy => (intro wf hwf; haveI := From.mk hwf; (((apply opv_E); exact rfl)))))
  ((apply (tkw 16)); (case hi => exact rfl); (case hg => exact rfl); (case hf => kernel_rfl); (case hS => (apply Fr.drew; exact Fr.refl _ _)); (case hy => (intro wf hwf; haveI := From.mk hwf; (((apply opv_fieldAddr); exact rfl)))))
  ((apply (tkw 17)); (case hi => exact rfl); (case hg => exact rfl); (case hf => kernel_rfl); (case hS => (apply Fr.drew; exact Fr.refl _ _)); (case hy => (intro wf hwf; haveI := From.mk hwf; (((apply opv_loadb1); exact rfl; exact rfl; infer_instance; exact rfl)))))
  ((apply (tkw 19)); (case hi => exact rfl); (case hg => exact rfl); (case hf => kernel_rfl); (case hS => (apply Fr.drew; exact Fr.refl _ _)); (case hy => (intro wf hwf; haveI := From.mk hwf; (((apply opv_E); exact rfl)))))
  ((apply (tkw 20)); (case hi => exact rfl); (case hg => exact rfl); (case hf => kernel_rfl); (case hS => (apply Fr.drew; exact Fr.refl _ _)); (case hy => (intro wf hwf; haveI := From.mk hwf; (((apply opv_E); exact rfl)))))
  ((apply (tkw 21)); (case hi => exact rfl); (case hg => exact rfl); (case hf => kernel_rfl); (case hS => (apply Fr.drew; exact Fr.refl _ _)); (case hy => (intro wf hwf; haveI := From.mk hwf; (((apply opv_fieldAddr); exact rfl)))))
  ((apply (tkw 22)); (case hi => exact rfl); (case hg => exact rfl); (case hf => kernel_rfl); (case hS => (apply Fr.drew; exact Fr.refl _ _)); (case hy => (intro wf hwf; haveI := From.mk hwf; (((apply opv_loadb1); exact rfl; exact rfl; infer_instance; exact rfl)))))
  (refine tkcw 18 rfl rfl (by kernel_rfl) (by (apply Fr.drew; exact Fr.refl _ _)) rfl (q_len_int d.bq v5 d.buf _ inferInstance inferInstance) rfl ?_)
  rintro _ _ ⟨rfl, rfl⟩
  ((apply (tkw 23)); (case hi => exact rfl); (case hg => exact rfl); (case hf => kernel_rfl); (case hS => (apply Fr.drew; exact Fr.refl _ _)); (case hy => (intro wf hwf; haveI := From.mk hwf; (((apply opv_E); exact rfl)))))
  ((apply (tk 24)); (case hi => exact rfl); (case hf => kernel_rfl); (case hS => (apply Fr.drew; exact Fr.refl _ _)); (case hy => (intro wf hwf; haveI := From.mk hwf; (((apply opv_E); exact rfl)))))
  refine vA_done (by kernel_rfl) (by (first | exact trivial | ((apply Fr.drew; exact Fr.refl _ _); done))) ?_
  by_cases hl : (d.buf.length : Int) < d.size
  · (apply seqP_normal; (refine vC_cond_dec rfl (fun _ => ?_) (fun h => by omega)); apply vC_seq; apply vC_region; ((apply vL_val); (case h => ((apply opv_E); exact rfl))); apply vL_nil; apply seqP_normal; apply vC_ret; apply seqP_ret)
    (apply ret1; (case h1 => (exact norm_eq rfl)))
    exact .inl (hbad (by rw [hns, decide_eq_true hl]; rfl))
  have hok : noSend d t = false := by rw [hns, decide_eq_false hl]; rfl
  refine vC_gen (fun w' => At (ChA_i rb d * (TksA ts * (Pt b6 [pt t.b] 71 * R))) w0 F0 w') S4.drew ?_
  clear S4 hcb4 htb4 h64 b5 o5 hbad
  intro w5 S5
  have hcb5 := ch_blk_i S5
  rw [chL_i, ecb] at hcb5
  have h65 := (S5.ac (show _ = Pt b6 [pt t.b] 71 * (ChA_i rb d * (TksA ts * R)) by ac_rfl)).blk
  ((refine vC_cond_dec rfl (fun h => by omega) (fun _ => ?_)); apply vC_skip; apply seqP_normal; apply vC_seq)
  refine vC_draw' ((fun wf => Blk wf.heap c.cb [pt rb, .int .i64 d.size, pt d.bq, pt d.sq, pt d.rq, .bool d.closed] 148 ∧ Blk wf.heap b6 [pt t.b] 71)) (by (first | exact trivial | assumption | infer_instance | (refine ⟨?_, ?_⟩ <;> (first | assumption | infer_instance)) | (skip; done))) ?_
  ((apply (tk 0)); (case hi => exact rfl); (case hf => kernel_rfl); (case hS => (first | exact trivial | assumption | infer_instance | (refine ⟨?_, ?_⟩ <;> (first | assumption | infer_instance)) | (skip; done))); (case hy => (rintro wf ⟨hwa, hwb⟩; (((apply opv_E); exact rfl)))))
  ((apply (tk 1)); (case hi => exact rfl); (case hf => kernel_rfl); (case hS => (first | exact trivial | assumption | infer_instance | (refine ⟨?_, ?_⟩ <;> (first | assumption | infer_instance)) | (skip; done))); (case hy => (rintro wf ⟨hwa, hwb⟩; (((apply opv_E); exact rfl)))))
  ((apply (tk 2)); (case hi => exact rfl); (case hf => kernel_rfl); (case hS => (first | exact trivial | assumption | infer_instance | (refine ⟨?_, ?_⟩ <;> (first | assumption | infer_instance)) | (skip; done))); (case hy => (rintro wf ⟨hwa, hwb⟩; (((apply opv_fieldAddr); exact rfl)))))
  ((apply (tk 3)); (case hi => exact rfl); (case hf => kernel_rfl); (case hS => (first | exact trivial | assumption | infer_instance | (refine ⟨?_, ?_⟩ <;> (first | assumption | infer_instance)) | (skip; done))); (case hy => (rintro wf ⟨hwa, hwb⟩; (((apply opv_loadb1); exact rfl; exact rfl; assumption; exact rfl)))))
  ((apply (tk 4)); (case hi => exact rfl); (case hf => kernel_rfl); (case hS => (first | exact trivial | assumption | infer_instance | (refine ⟨?_, ?_⟩ <;> (first | assumption | infer_instance)) | (skip; done))); (case hy => (rintro wf ⟨hwa, hwb⟩; (((apply opv_loadb1); exact rfl; exact rfl; assumption; exact rfl)))))
  ((apply (tk 5)); (case hi => exact rfl); (case hf => kernel_rfl); (case hS => (first | exact trivial | assumption | infer_instance | (refine ⟨?_, ?_⟩ <;> (first | assumption | infer_instance)) | (skip; done))); (case hy => (rintro wf ⟨hwa, hwb⟩; (((apply opv_E); exact rfl)))))
  ((apply (tk 6)); (case hi => exact rfl); (case hf => kernel_rfl); (case hS => (first | exact trivial | assumption | infer_instance | (refine ⟨?_, ?_⟩ <;> (first | assumption | infer_instance)) | (skip; done))); (case hy => (rintro wf ⟨hwa, hwb⟩; (((apply opv_E); exact rfl)))))
  ((apply (tk 7)); (case hi => exact rfl); (case hf => kernel_rfl); (case hS => (first | exact trivial | assumption | infer_instance | (refine ⟨?_, ?_⟩ <;> (first | assumption | infer_instance)) | (skip; done))); (case hy => (rintro wf ⟨hwa, hwb⟩; (((apply opv_buildS); exact rfl; exact (rfl : _ = some [_, _, _]))))))
  have S5d := S5.drew
  obtain ⟨v6, b6', o6, n6, up6⟩ := ch_snd_i S5d
  refine tkc 8 rfl (by kernel_rfl) (by (first | exact trivial | assumption | infer_instance | (refine ⟨?_, ?_⟩ <;> (first | assumption | infer_instance)) | (skip; done))) rfl (q_push_snd d.sq v6 ⟨t.b, v, ⟨.func (.func g) #[] cap, rfl⟩⟩ d.snd _ b6' o6 (by omega)) rfl ?_
  rintro _ w6 ⟨lv6, hf6, hb6, ho6, hl6, hone6⟩
  have S6 := up6 _ _ _ hf6 hb6 ho6 hone6 hl6
  have hcb6 := ch_blk_i S6
  rw [chL_i] at hcb6
  simp only [ecb] at hcb6
  have h66 := (S6.ac (show _ = Pt b6 [pt t.b] 71 * (ChA_i rb { d with snd := d.snd ++ [⟨t.b, v, ⟨.func (.func g) #[] cap, rfl⟩⟩] } * (TksA ts * R)) by ac_rfl)).blk
  refine vA_done (by kernel_rfl) (by (first | exact trivial | assumption | infer_instance | (refine ⟨?_, ?_⟩ <;> (first | assumption | infer_instance)) | (skip; done))) ?_
  (apply seqP_normal; apply vC_seq; apply vC_region; ((apply vL_val); (case h => ((apply opv_E); exact rfl))); apply vL_nil; apply seqP_normal; apply vC_ret)
  (apply ret1; (case h1 => (exact norm_eq rfl)))
  exact .inr ⟨hok, rfl, (S6.ac (show _ = Pt b6 [pt t.b] 71 * (ChA_i rb { d with snd := d.snd ++ [⟨t.b, v, ⟨.func (.func g) #[] cap, rfl⟩⟩] } * (TksA ts * R)) by ac_rfl)).drop⟩
end
end Go.Proofs.YtbaidcnalkdhgaaGreat
set_option maxRecDepth 100000
namespace Go.Proofs.YtbaidcnalkdhgaaGreat
open Go Go.Eng
def CH.without (c : CH) (k : Nat) : CH := { c with snd := c.snd.filter fun x => !decide (x.k = k), rcv := c.rcv.filter fun x => !decide (x.k = k) }
section
variable {w w' w0 : World} {F F0 : Nat → Prop} {rb : Nat} {c : CH} {ts : List TKT} {R : Asr}
theorem ch_waitrecv_i [Lcl R] (S : At (ChA_i rb c * (TksA ts * R)) w0 F0 w) (h1 : ∀ x ∈ c.snd, ∃ t ∈ ts, x.k = t.b) (h2 : ∀ x ∈ c.rcv, ∃ t ∈ ts, x.k = t.b) (hbig : c.snd.length ≤ 1000000 ∧ c.rcv.length ≤ 1000000) {t : TKT} (ht : t ∈ ts) (g g2 : FuncId) (cap cap2 : Array Value) (hfire : t.fire.1 = .func (.func g2) #[] cap2) :
    Rets Tryz.prog 39 #[pt c.cb, pt t.b, .func (.func g) #[] cap] w fun u w' =>
      (noRecv (c.cleaned ts) t = true ∧ u = .int .i64 2 ∧ At (ChA_i rb (c.cleaned ts) * (TksA ts * R)) w0 F0 w') ∨
      (noRecv (c.cleaned ts) t = false ∧ u = .int .i64 0 ∧ At (ChA_i rb { c.cleaned ts with rcv := (c.cleaned ts).rcv ++ [⟨t.b, ⟨.func (.func g) #[] cap, rfl⟩⟩] } * (TksA ts * R)) w0 F0 w') := by
  refine rets_of Tryz.func39 rfl Tryz.ntmps39 rfl rfl (by kernel_rfl) ?_
  ((apply vC_seq; apply vC_region)); ((((apply vL_val); (case h => ((apply opw_box1); exact norm_eq rfl; (first | rfl | assumption)))); ((apply vL_val); (case h => ((apply opv_E); exact rfl))); apply vL_nil)); with_reducible apply seqP_normal
  (((iterate 2 (apply vC_seq)); apply vC_region))
  refine vL_gen (fun w' => At (ChA_i rb c * (TksA ts * (Pt w.heap.size [pt t.b] 71 * R))) w0 F0 w') ((S.new (cs := [pt t.b]) (T := 71) (by (apply Fr.alloc; exact Fr.refl _ _)) inferInstance (Nat.le_refl _)).ac (by ac_rfl)) ?_
  intro w1 S1
  generalize w.heap.size = b6 at S1 ⊢
  have hr1 := ch_right_i w1 c rb (ch_blk_i S1)
  have htb := (S1.ac (show _ = TksA ts * (ChA_i rb c * (Pt b6 [pt t.b] 71 * R)) by ac_rfl)).tk ht
  have h61 := (S1.ac (show _ = Pt b6 [pt t.b] 71 * (ChA_i rb c * (TksA ts * R)) by ac_rfl)).blk
  rw [hfire] at htb
  (((apply vL_val); (case h => ((apply opv_E); exact rfl))))
  refine vL_callF rfl (hr1) rfl ?_
  rintro _ _ ⟨rfl, rfl⟩
  (((apply vL_val); (case h => ((apply opv_not); exact rfl))); (iterate 24 (first | ((with_reducible apply vL_val); (case h => ((with_reducible apply opv_E); exact rfl))) | ((with_reducible apply vL_val); (case h => ((with_reducible apply opv_loadb1); exact rfl; exact rfl; assumption; exact rfl))) | ((with_reducible apply vL_val); (case h => ((with_reducible apply opv_fieldAddr); exact rfl))) | ((with_reducible apply vL_val); (case h => ((with_reducible apply opv_eql_pnil); exact rfl; exact rfl; (simp; done)))) | ((with_reducible apply vL_val); (case h => ((with_reducible apply opv_eql_fnil); exact rfl; exact rfl))) | ((with_reducible apply vL_wanted); exact rfl))); apply vL_nil; apply seqP_normal; ((apply vC_cond_false); exact rfl); apply vC_skip; apply seqP_normal; apply vC_seq; apply vC_region; ((apply vL_val); (case h => ((apply opv_E); exact rfl))))
  refine vL_callF rfl (ch_clean_i S1 h1 h2) rfl ?_
  intro _ w2 S2
  have hcb2 := ch_blk_i S2
  rw [chL_i] at hcb2
  have ecb : (c.cleaned ts).cb = c.cb := rfl
  have hsl : (c.cleaned ts).snd.length ≤ 1000000 ∧ (c.cleaned ts).rcv.length ≤ 1000000 := ⟨Nat.le_trans (List.length_filter_le _ _) hbig.1, Nat.le_trans (List.length_filter_le _ _) hbig.2⟩
  have hm2 : ∀ x ∈ (c.cleaned ts).snd, ∃ t ∈ ts, x.k = t.b := fun x hx => h1 x (List.mem_filter.1 hx).1
  rw [ecb] at hcb2
  generalize c.cleaned ts = d at *
  clear htb h61 hr1 S1
  obtain ⟨v3, b3, o3, n3, _⟩ := ch_snd_i S2
  (apply vL_nil; apply seqP_normal; apply vC_seq; apply vC_region; (iterate 2 (((apply vL_val); (case h => ((apply opv_E); exact rfl))))); ((apply vL_val); (case h => ((apply opv_fieldAddr); exact rfl))); ((apply vL_val); (case h => ((apply opv_loadb1); exact rfl; exact rfl; assumption; exact rfl))))
  refine vL_callF rfl (q_list_snd d.sq v3 d.snd w2 b3 o3 (by omega)) rfl ?_
  rintro lv w3 ⟨hf3, ho3, hfr3, hone3⟩
  have S3 := S2.frN hf3
  have htk3 : ∀ t ∈ ts, Blk w3.heap t.b [t.fire.1, .bool t.fired] 175 := fun t' ht' => (S3.ac (show _ = TksA ts * (ChA_i rb d * (Pt b6 [pt t.b] 71 * R)) by ac_rfl)).tk ht'
  have h63 := (S3.ac (show _ = Pt b6 [pt t.b] 71 * (ChA_i rb d * (TksA ts * R)) by ac_rfl)).blk
  (((apply vL_val); (case h => ((apply opv_makeFunc); exact rfl))))
  refine vL_callF rfl (containsFunc_snd _ lv (fun x => !decide (x.k = t.b)) d.snd w3 120 [pt b6] ho3.rd hone3 rfl (fun x w4 hx hf4 => by
    obtain ⟨t', ht', e'⟩ := hm2 x hx
    exact waitR1_i x b6 t.b w4 (h63.frN hf4) (by rw [e']; exact (htk3 t' ht').frN hf4) ((htk3 t ht).frN hf4))) rfl ?_
  rintro _ w4 ⟨rfl, hf4⟩
  have S4 := S3.frN hf4
  have hcb4 := ch_blk_i S4
  rw [chL_i, ecb] at hcb4
  have htb4 := (htk3 t ht).frN hf4
  have h64 := h63.frN hf4
  obtain ⟨v5, b5, o5, n5, _⟩ := ch_buf_i S4
  clear S2 S3 hcb2 b3 o3 htk3 h63 ho3
  have fin : ∀ w', At (ChA_i rb d * (TksA ts * (Pt b6 [pt t.b] 71 * R))) w0 F0 w' → At (ChA_i rb d * (TksA ts * R)) w0 F0 w' := fun w' h => (h.ac (show _ = Pt b6 [pt t.b] 71 * (ChA_i rb d * (TksA ts * R)) by ac_rfl)).drop
  have hns : noRecv d t = (t.fired || d.closed || d.snd.any (fun x => !decide (x.k = t.b)) || decide (0 < d.buf.length)) := rfl
  generalize d.snd.any (fun x => !decide (x.k = t.b)) = an at hns ⊢
  have hbad : noRecv d t = true → (noRecv d t = true ∧ Value.int .i64 2 = .int .i64 2 ∧ At (ChA_i rb d * (TksA ts * R)) w0 F0 w4) := fun h => ⟨h, rfl, fin _ S4⟩
  cases hfd : t.fired with
  | true =>
    rw [hfd] at htb4 hns
    ((iterate 29 (first | with_reducible apply vC_seq | with_reducible apply vC_region | with_reducible apply seqP_normal | ((with_reducible apply vL_val); (case h => ((with_reducible apply opv_E); exact rfl))) | ((with_reducible apply vL_val); (case h => ((with_reducible apply opv_loadb1); exact rfl; exact rfl; assumption; exact rfl))) | ((with_reducible apply vL_val); (case h => ((with_reducible apply opv_fieldAddr); exact rfl))) | with_reducible apply vL_nil | ((with_reducible apply vL_unwanted'); exact rfl; exact rfl))); ((apply vC_cond_true); exact rfl); apply vC_seq; apply vC_region; ((apply vL_val); (case h => ((apply opv_E); exact rfl))); apply vL_nil; apply seqP_normal; apply vC_ret; apply seqP_ret)
    (apply ret1; (case h1 => (exact norm_eq rfl)))
    exact .inl (hbad (by rw [hns]; rfl))
  | false =>
  rw [hfd] at htb4 hns
  cases hcl : d.closed with
  | true =>
    rw [hcl] at hcb4 hns
    (((apply vL_val); (case h => ((apply opv_E); exact rfl))); apply vL_nil; apply seqP_normal; (iterate 2 (apply vC_seq)); apply vC_region; (iterate 25 (first | ((with_reducible apply vL_val); (case h => ((with_reducible apply opv_E); exact rfl))) | ((with_reducible apply vL_val); (case h => ((with_reducible apply opv_loadb1); exact rfl; exact rfl; assumption; exact rfl))) | ((with_reducible apply vL_val); (case h => ((with_reducible apply opv_fieldAddr); exact rfl))) | ((with_reducible apply vL_wanted); exact rfl) | ((with_reducible apply vL_unwanted'); exact rfl; exact rfl))); apply vL_nil; apply seqP_normal; ((apply vC_cond_true); exact rfl); apply vC_seq; apply vC_region; ((apply vL_val); (case h => ((apply opv_E); exact rfl))); apply vL_nil; apply seqP_normal; apply vC_ret; apply seqP_ret)
    (apply ret1; (case h1 => (exact norm_eq rfl)))
    exact .inl (hbad (by rw [hns]; rfl))
  | false =>
  rw [hcl] at hcb4 hns
  cases an with
  | true =>
    (((apply vL_val); (case h => ((apply opv_E); exact rfl))); apply vL_nil; apply seqP_normal; (iterate 2 (apply vC_seq)); apply vC_region; (iterate 26 (first | ((with_reducible apply vL_val); (case h => ((with_reducible apply opv_E); exact rfl))) | ((with_reducible apply vL_val); (case h => ((with_reducible apply opv_loadb1); exact rfl; exact rfl; assumption; exact rfl))) | ((with_reducible apply vL_val); (case h => ((with_reducible apply opv_fieldAddr); exact rfl))) | ((with_reducible apply vL_wanted); exact rfl) | ((with_reducible apply vL_unwanted'); exact rfl; exact rfl))); apply vL_nil; apply seqP_normal; ((apply vC_cond_true); exact rfl); apply vC_seq; apply vC_region; ((apply vL_val); (case h => ((apply opv_E); exact rfl))); apply vL_nil; apply seqP_normal; apply vC_ret; apply seqP_ret)
    (apply ret1; (case h1 => (exact norm_eq rfl)))
    exact .inl (hbad (by rw [hns]; rfl))
  | false =>
  (((apply vL_val); (case h => ((apply opv_E); exact rfl))); apply vL_nil; apply seqP_normal; (iterate 2 (apply vC_seq)); apply vC_region; (iterate 28 (first | ((with_reducible apply vL_val); (case h => ((with_reducible apply opv_E); exact rfl))) | ((with_reducible apply vL_val); (case h => ((with_reducible apply opv_loadb1); exact rfl; exact rfl; assumption; exact rfl))) | ((with_reducible apply vL_val); (case h => ((with_reducible apply opv_fieldAddr); exact rfl))) | ((with_reducible apply vL_wanted); exact rfl))))
  refine vL_callF rfl (q_len_int d.bq v5 d.buf w4 b5 o5) rfl ?_
  rintro _ _ ⟨rfl, rfl⟩
  by_cases hl : 0 < d.buf.length
  · (((apply vL_wanted); exact rfl); (iterate 2 (((apply vL_val); (case h => ((apply opv_E); exact rfl))))); apply vL_nil; apply seqP_normal; (refine vC_cond_dec rfl (fun _ => ?_) (fun h => by omega)); apply vC_seq; apply vC_region; ((apply vL_val); (case h => ((apply opv_E); exact rfl))); apply vL_nil; apply seqP_normal; apply vC_ret; apply seqP_ret)
    (apply ret1; (case h1 => (exact norm_eq rfl)))
    exact .inl (hbad (by rw [hns, decide_eq_true hl]; rfl))
  have hok : noRecv d t = false := by rw [hns, decide_eq_false hl]; rfl
  refine vL_gen (fun w' => At (ChA_i rb d * (TksA ts * (Pt b6 [pt t.b] 71 * R))) w0 F0 w') S4 ?_
  clear S4 hcb4 htb4 h64 b5 o5 hbad
  intro w5 S5
  have hcb5 := ch_blk_i S5
  rw [chL_i, ecb] at hcb5
  have h65 := (S5.ac (show _ = Pt b6 [pt t.b] 71 * (ChA_i rb d * (TksA ts * R)) by ac_rfl)).blk
  (((apply vL_wanted); exact rfl); (iterate 2 (((apply vL_val); (case h => ((apply opv_E); exact rfl))))); apply vL_nil; apply seqP_normal; (refine vC_cond_dec rfl (fun h => by omega) (fun _ => ?_)); apply vC_skip; apply seqP_normal; apply vC_seq)
  refine vC_draw' ((fun wf => Blk wf.heap c.cb [pt rb, .int .i64 d.size, pt d.bq, pt d.sq, pt d.rq, .bool d.closed] 148 ∧ Blk wf.heap b6 [pt t.b] 71)) (by (first | exact trivial | assumption | infer_instance | (refine ⟨?_, ?_⟩ <;> (first | assumption | infer_instance)) | (skip; done))) ?_
  ((apply (tk 0)); (case hi => exact rfl); (case hf => kernel_rfl); (case hS => (first | exact trivial | assumption | infer_instance | (refine ⟨?_, ?_⟩ <;> (first | assumption | infer_instance)) | (skip; done))); (case hy => (rintro wf ⟨hwa, hwb⟩; (((apply opv_E); exact rfl)))))
  ((apply (tk 1)); (case hi => exact rfl); (case hf => kernel_rfl); (case hS => (first | exact trivial | assumption | infer_instance | (refine ⟨?_, ?_⟩ <;> (first | assumption | infer_instance)) | (skip; done))); (case hy => (rintro wf ⟨hwa, hwb⟩; (((apply opv_E); exact rfl)))))
  ((apply (tk 2)); (case hi => exact rfl); (case hf => kernel_rfl); (case hS => (first | exact trivial | assumption | infer_instance | (refine ⟨?_, ?_⟩ <;> (first | assumption | infer_instance)) | (skip; done))); (case hy => (rintro wf ⟨hwa, hwb⟩; (((apply opv_fieldAddr); exact rfl)))))
  ((apply (tk 3)); (case hi => exact rfl); (case hf => kernel_rfl); (case hS => (first | exact trivial | assumption | infer_instance | (refine ⟨?_, ?_⟩ <;> (first | assumption | infer_instance)) | (skip; done))); (case hy => (rintro wf ⟨hwa, hwb⟩; (((apply opv_loadb1); exact rfl; exact rfl; assumption; exact rfl)))))
  ((apply (tk 4)); (case hi => exact rfl); (case hf => kernel_rfl); (case hS => (first | exact trivial | assumption | infer_instance | (refine ⟨?_, ?_⟩ <;> (first | assumption | infer_instance)) | (skip; done))); (case hy => (rintro wf ⟨hwa, hwb⟩; (((apply opv_loadb1); exact rfl; exact rfl; assumption; exact rfl)))))
  ((apply (tk 5)); (case hi => exact rfl); (case hf => kernel_rfl); (case hS => (first | exact trivial | assumption | infer_instance | (refine ⟨?_, ?_⟩ <;> (first | assumption | infer_instance)) | (skip; done))); (case hy => (rintro wf ⟨hwa, hwb⟩; (((apply opv_E); exact rfl)))))
  ((apply (tk 6)); (case hi => exact rfl); (case hf => kernel_rfl); (case hS => (first | exact trivial | assumption | infer_instance | (refine ⟨?_, ?_⟩ <;> (first | assumption | infer_instance)) | (skip; done))); (case hy => (rintro wf ⟨hwa, hwb⟩; (((apply opv_buildS); exact rfl; exact (rfl : _ = some [_, _]))))))
  have S5d := S5.drew
  obtain ⟨v6, b6', o6, n6, up6⟩ := ch_rcv_i S5d
  refine tkc 7 rfl (by kernel_rfl) (by (first | exact trivial | assumption | infer_instance | (refine ⟨?_, ?_⟩ <;> (first | assumption | infer_instance)) | (skip; done))) rfl (q_push_rcv d.rq v6 ⟨t.b, ⟨.func (.func g) #[] cap, rfl⟩⟩ d.rcv _ b6' o6 (by omega)) rfl ?_
  rintro _ w6 ⟨lv6, hf6, hb6, ho6, hl6, hone6⟩
  have S6 := up6 _ _ _ hf6 hb6 ho6 hone6 hl6
  have hcb6 := ch_blk_i S6
  rw [chL_i] at hcb6
  simp only [ecb] at hcb6
  have h66 := (S6.ac (show _ = Pt b6 [pt t.b] 71 * (ChA_i rb { d with rcv := d.rcv ++ [⟨t.b, ⟨.func (.func g) #[] cap, rfl⟩⟩] } * (TksA ts * R)) by ac_rfl)).blk
  refine vA_done (by kernel_rfl) (by (first | exact trivial | assumption | infer_instance | (refine ⟨?_, ?_⟩ <;> (first | assumption | infer_instance)) | (skip; done))) ?_
  (apply seqP_normal; apply vC_seq; apply vC_region; ((apply vL_val); (case h => ((apply opv_E); exact rfl))); apply vL_nil; apply seqP_normal; apply vC_ret)
  (apply ret1; (case h1 => (exact norm_eq rfl)))
  exact .inr ⟨hok, rfl, (S6.ac (show _ = Pt b6 [pt t.b] 71 * (ChA_i rb { d with rcv := d.rcv ++ [⟨t.b, ⟨.func (.func g) #[] cap, rfl⟩⟩] } * (TksA ts * R)) by ac_rfl)).drop⟩
theorem forget1_i (x : SE) (kb k : Nat) (w : World) (hb : Blk w.heap kb [pt k] 71) {c1 c2 : List Value} (h1 : Blk w.heap x.k c1 175) (h2 : Blk w.heap k c2 175) : Rets Tryz.prog 123 #[.agg (seE x).toArray, pt kb] w fun u w' => u = .bool (decide (x.k = k)) ∧ Fr No w w' := by
  have hxf := x.f.2
  refine rets_of Tryz.func123 rfl Tryz.ntmps123 rfl rfl (by kernel_rfl) ?_
  ((apply vC_seq; apply vC_region)); ((((apply vL_val); (case h => ((apply opw_boxn); exact rfl))); ((apply vL_val); (case h => ((apply opv_E); exact rfl))); apply vL_nil)); with_reducible apply seqP_normal
  ((apply vC_seq; apply vC_region))
  refine vL_gen (fun w' => Fr No w w' ∧ Blk w'.heap w.heap.size (seE x) 154) ⟨by (apply Fr.alloc; exact Fr.refl _ _), Blk.as inferInstance rfl⟩ ?_
  rintro w1 ⟨hf1, h5⟩
  generalize w.heap.size = b5 at h5 ⊢
  have hb1 := hb.frN hf1
  have h11 := h1.frN hf1
  have h21 := h2.frN hf1
  rw [seE] at h5
  (((apply vL_val); (case h => ((apply opv_fieldAddr); exact rfl))); (iterate 2 (((apply vL_val); (case h => ((apply opv_loadb1); exact rfl; exact rfl; assumption; exact rfl))))); ((apply vL_val); (case h => ((apply opv_eql_ptr); exact rfl; exact rfl; exact rfl; assumption; assumption))); ((apply vL_val); (case h => ((apply opv_E); exact rfl))); apply vL_nil; apply seqP_normal; apply vC_ret)
  (apply ret1; (case h1 => (exact norm_eq rfl)))
  exact ⟨by simp, hf1⟩
theorem forget2_i (x : RE) (kb k : Nat) (w : World) (hb : Blk w.heap kb [pt k] 71) {c1 c2 : List Value} (h1 : Blk w.heap x.k c1 175) (h2 : Blk w.heap k c2 175) : Rets Tryz.prog 125 #[.agg (reE x).toArray, pt kb] w fun u w' => u = .bool (decide (x.k = k)) ∧ Fr No w w' := by
  have hxf := x.f.2
  refine rets_of Tryz.func125 rfl Tryz.ntmps125 rfl rfl (by kernel_rfl) ?_
  ((apply vC_seq; apply vC_region)); ((((apply vL_val); (case h => ((apply opw_boxn); exact rfl))); ((apply vL_val); (case h => ((apply opv_E); exact rfl))); apply vL_nil)); with_reducible apply seqP_normal
  ((apply vC_seq; apply vC_region))
  refine vL_gen (fun w' => Fr No w w' ∧ Blk w'.heap w.heap.size (reE x) 157) ⟨by (apply Fr.alloc; exact Fr.refl _ _), Blk.as inferInstance rfl⟩ ?_
  rintro w1 ⟨hf1, h5⟩
  generalize w.heap.size = b5 at h5 ⊢
  have hb1 := hb.frN hf1
  have h11 := h1.frN hf1
  have h21 := h2.frN hf1
  rw [reE] at h5
  (((apply vL_val); (case h => ((apply opv_fieldAddr); exact rfl))); (iterate 2 (((apply vL_val); (case h => ((apply opv_loadb1); exact rfl; exact rfl; assumption; exact rfl))))); ((apply vL_val); (case h => ((apply opv_eql_ptr); exact rfl; exact rfl; exact rfl; assumption; assumption))); ((apply vL_val); (case h => ((apply opv_E); exact rfl))); apply vL_nil; apply seqP_normal; apply vC_ret)
  (apply ret1; (case h1 => (exact norm_eq rfl)))
  exact ⟨by simp, hf1⟩
theorem ch_forget_i [Lcl R] (S : At (ChA_i rb c * (TksA ts * R)) w0 F0 w) (hbig : c.snd.length ≤ 1000000 ∧ c.rcv.length ≤ 1000000) (h1 : ∀ x ∈ c.snd, ∃ t ∈ ts, x.k = t.b) (h2 : ∀ x ∈ c.rcv, ∃ t ∈ ts, x.k = t.b) {t : TKT} (ht : t ∈ ts) :
    Rets Tryz.prog 41 #[pt c.cb, pt t.b] w fun u w' => u = .int .i64 (((c.cleaned ts).snd.length : Int) - ((c.cleaned ts).without t.b).snd.length + (((c.cleaned ts).rcv.length : Int) - ((c.cleaned ts).without t.b).rcv.length)) ∧ At (ChA_i rb ((c.cleaned ts).without t.b) * (TksA ts * R)) w0 F0 w' := by
  refine rets_of Tryz.func41 rfl Tryz.ntmps41 rfl rfl (by kernel_rfl) ?_
  ((apply vC_seq; apply vC_region)); ((((apply vL_val); (case h => ((apply opw_box1); exact norm_eq rfl; (first | rfl | assumption)))); ((apply vL_val); (case h => ((apply opv_E); exact rfl))); apply vL_nil)); with_reducible apply seqP_normal
  (((iterate 2 (apply vC_seq)); apply vC_region))
  refine vL_gen (fun w' => At (ChA_i rb c * (TksA ts * (Pt w.heap.size [pt t.b] 71 * R))) w0 F0 w') ((S.new (cs := [pt t.b]) (T := 71) (by (apply Fr.alloc; exact Fr.refl _ _)) inferInstance (Nat.le_refl _)).ac (by ac_rfl)) ?_
  intro w1 S1
  generalize w.heap.size = b6 at S1 ⊢
  have hr1 := ch_right_i w1 c rb (ch_blk_i S1)
  have h61 := (S1.ac (show _ = Pt b6 [pt t.b] 71 * (ChA_i rb c * (TksA ts * R)) by ac_rfl)).blk
  (((apply vL_val); (case h => ((apply opv_E); exact rfl))))
  refine vL_callF rfl (hr1) rfl ?_
  rintro _ _ ⟨rfl, rfl⟩
  (((apply vL_val); (case h => ((apply opv_not); exact rfl))); ((apply vL_val); (case h => ((apply opv_E); exact rfl))); ((apply vL_wanted); exact rfl); ((apply vL_val); (case h => ((apply opv_loadb1); exact rfl; exact rfl; assumption; exact rfl))); ((apply vL_wanted); exact rfl); ((apply vL_val); (case h => ((apply opv_eql_pnil); exact rfl; exact rfl; (simp; done)))); ((apply vL_val); (case h => ((apply opv_E); exact rfl))); apply vL_nil; apply seqP_normal; ((apply vC_cond_false); exact rfl); apply vC_skip; apply seqP_normal; apply vC_seq; apply vC_region; ((apply vL_val); (case h => ((apply opv_E); exact rfl))))
  refine vL_callF rfl (ch_clean_i S1 h1 h2) rfl ?_
  intro _ w2 S2
  have hcb2 := ch_blk_i S2
  rw [chL_i] at hcb2
  have ecb : (c.cleaned ts).cb = c.cb := rfl
  have hsl : (c.cleaned ts).snd.length ≤ 1000000 ∧ (c.cleaned ts).rcv.length ≤ 1000000 := ⟨Nat.le_trans (List.length_filter_le _ _) hbig.1, Nat.le_trans (List.length_filter_le _ _) hbig.2⟩
  have hm1 : ∀ x ∈ (c.cleaned ts).snd, ∃ t ∈ ts, x.k = t.b := fun x hx => h1 x (List.mem_filter.1 hx).1
  have hm2 : ∀ x ∈ (c.cleaned ts).rcv, ∃ t ∈ ts, x.k = t.b := fun x hx => h2 x (List.mem_filter.1 hx).1
  rw [ecb] at hcb2
  generalize c.cleaned ts = d at *
  clear h61 hr1 S1
  (apply vL_nil; apply seqP_normal; apply vC_seq)
  refine vC_draw' ((fun wf => Blk wf.heap c.cb [pt rb, .int .i64 d.size, pt d.bq, pt d.sq, pt d.rq, .bool d.closed] 148)) (by (first | exact trivial | assumption | infer_instance | (skip; done))) ?_
  ((apply (tk 0)); (case hi => exact rfl); (case hf => kernel_rfl); (case hS => (first | exact trivial | assumption | infer_instance | (skip; done))); (case hy => (intro wf hwf; (try dsimp only at hwf); (((apply opv_E); exact rfl)))))
  ((apply (tk 1)); (case hi => exact rfl); (case hf => kernel_rfl); (case hS => (first | exact trivial | assumption | infer_instance | (skip; done))); (case hy => (intro wf hwf; (try dsimp only at hwf); (((apply opv_E); exact rfl)))))
  ((apply (tk 2)); (case hi => exact rfl); (case hf => kernel_rfl); (case hS => (first | exact trivial | assumption | infer_instance | (skip; done))); (case hy => (intro wf hwf; (try dsimp only at hwf); (((apply opv_fieldAddr); exact rfl)))))
  ((apply (tk 3)); (case hi => exact rfl); (case hf => kernel_rfl); (case hS => (first | exact trivial | assumption | infer_instance | (skip; done))); (case hy => (intro wf hwf; (try dsimp only at hwf); (((apply opv_loadb1); exact rfl; exact rfl; assumption; exact rfl)))))
  ((apply (tk 4)); (case hi => exact rfl); (case hf => kernel_rfl); (case hS => (first | exact trivial | assumption | infer_instance | (skip; done))); (case hy => (intro wf hwf; (try dsimp only at hwf); (((apply opv_makeFunc); exact rfl)))))
  ((apply (tk 6)); (case hi => exact rfl); (case hf => kernel_rfl); (case hS => (first | exact trivial | assumption | infer_instance | (skip; done))); (case hy => (intro wf hwf; (try dsimp only at hwf); (((apply opv_E); exact rfl)))))
  ((apply (tk 7)); (case hi => exact rfl); (case hf => kernel_rfl); (case hS => (first | exact trivial | assumption | infer_instance | (skip; done))); (case hy => (intro wf hwf; (try dsimp only at hwf); (((apply opv_E); exact rfl)))))
  ((apply (tk 8)); (case hi => exact rfl); (case hf => kernel_rfl); (case hS => (first | exact trivial | assumption | infer_instance | (skip; done))); (case hy => (intro wf hwf; (try dsimp only at hwf); (((apply opv_fieldAddr); exact rfl)))))
  ((apply (tk 9)); (case hi => exact rfl); (case hf => kernel_rfl); (case hS => (first | exact trivial | assumption | infer_instance | (skip; done))); (case hy => (intro wf hwf; (try dsimp only at hwf); (((apply opv_loadb1); exact rfl; exact rfl; assumption; exact rfl)))))
  ((apply (tk 10)); (case hi => exact rfl); (case hf => kernel_rfl); (case hS => (first | exact trivial | assumption | infer_instance | (skip; done))); (case hy => (intro wf hwf; (try dsimp only at hwf); (((apply opv_makeFunc); exact rfl)))))
  have S2d := S2.drew
  obtain ⟨v3, b3, o3, n3, up3⟩ := ch_snd_i S2d
  have htk : ∀ t ∈ ts, Blk w2.drew.heap t.b [t.fire.1, .bool t.fired] 175 := fun t' ht' => (S2d.ac (show _ = TksA ts * (ChA_i rb d * (Pt b6 [pt t.b] 71 * R)) by ac_rfl)).tk ht'
  have h62 := (S2d.ac (show _ = Pt b6 [pt t.b] 71 * (ChA_i rb d * (TksA ts * R)) by ac_rfl)).blk
  refine tkc 5 rfl (by kernel_rfl) (by (first | exact trivial | assumption | infer_instance | (skip; done))) rfl (q_drop_snd d.sq v3 (fun x => decide (x.k = t.b)) d.snd _ 123 [pt b6] b3 o3 n3 (fun x w4 hx hf4 => by
    obtain ⟨t', ht', e'⟩ := hm1 x hx
    exact forget1_i x b6 t.b w4 (h62.fr hf4 (fun h => Own.ne_blk o3 h62 (by decide) h)) (by rw [e']; exact (htk t' ht').fr hf4 (fun h => Own.ne_blk o3 (htk t' ht') (by decide) h)) ((htk t ht).fr hf4 (fun h => Own.ne_blk o3 (htk t ht) (by decide) h)))) rfl ?_
  rintro _ w3 ⟨lv3, hf3, hb3, ho3, hown3, hone3, rfl⟩
  have S3 := up3 _ _ _ hf3 hb3 ho3 hone3 (fun k hk => .inl (by rw [← hown3]; exact hk))
  have hcb3 := ch_blk_i S3
  rw [chL_i] at hcb3
  simp only [ecb] at hcb3
  obtain ⟨v4, b4, o4, n4, up4⟩ := ch_rcv_i S3
  have htk3 : ∀ t ∈ ts, Blk w3.heap t.b [t.fire.1, .bool t.fired] 175 := fun t' ht' => (S3.ac (show _ = TksA ts * (ChA_i rb { d with snd := d.snd.filter fun x => !decide (x.k = t.b) } * (Pt b6 [pt t.b] 71 * R)) by ac_rfl)).tk ht'
  have h63 := (S3.ac (show _ = Pt b6 [pt t.b] 71 * (ChA_i rb { d with snd := d.snd.filter fun x => !decide (x.k = t.b) } * (TksA ts * R)) by ac_rfl)).blk
  refine tkc 11 rfl (by kernel_rfl) (by (first | exact trivial | assumption | infer_instance | (skip; done))) rfl (q_drop_rcv d.rq v4 (fun x => decide (x.k = t.b)) d.rcv _ 125 [pt b6] b4 o4 n4 (fun x w4 hx hf4 => by
    obtain ⟨t', ht', e'⟩ := hm2 x hx
    exact forget2_i x b6 t.b w4 (h63.fr hf4 (fun h => Own.ne_blk o4 h63 (by decide) h)) (by rw [e']; exact (htk3 t' ht').fr hf4 (fun h => Own.ne_blk o4 (htk3 t' ht') (by decide) h)) ((htk3 t ht).fr hf4 (fun h => Own.ne_blk o4 (htk3 t ht) (by decide) h)))) rfl ?_
  rintro _ w4 ⟨lv4, hf4, hb4, ho4, hown4, hone4, rfl⟩
  have S4 := up4 _ _ _ hf4 hb4 ho4 hone4 (fun k hk => .inl (by rw [← hown4]; exact hk))
  have hcb4 := ch_blk_i S4
  rw [chL_i] at hcb4
  simp only [ecb] at hcb4
  have l1 := List.length_filter_le (fun x : SE => !decide (x.k = t.b)) d.snd
  have l2 := List.length_filter_le (fun x : RE => !decide (x.k = t.b)) d.rcv
  have l3 := o3.rd.small
  have l4 := o4.rd.small
  ((apply (tk 12)); (case hi => exact rfl); (case hf => kernel_rfl); (case hS => (first | exact trivial | assumption | infer_instance | (skip; done))); (case hy => (intro wf hwf; (try dsimp only at hwf); (((apply opv_add); exact rfl; exact rfl; (first | omega | (simp only [List.length_map]; omega)))))))
  ((apply (tk 13)); (case hi => exact rfl); (case hf => kernel_rfl); (case hS => (first | exact trivial | assumption | infer_instance | (skip; done))); (case hy => (intro wf hwf; (try dsimp only at hwf); (((apply opv_E); exact rfl)))))
  refine vA_done (by kernel_rfl) (by (first | exact trivial | assumption | infer_instance | (skip; done))) ?_
  (apply seqP_normal; apply vC_ret)
  (apply ret1; (case h1 => (exact norm_eq rfl)))
  exact ⟨rfl, (S4.ac (show _ = Pt b6 [pt t.b] 71 * (ChA_i rb (d.without t.b) * (TksA ts * R)) by unfold CH.without; ac_rfl)).drop⟩
end
end Go.Proofs.YtbaidcnalkdhgaaGreat
set_option maxRecDepth 100000
namespace Go.Proofs.YtbaidcnalkdhgaaGreat
open Go Go.Eng
theorem q_of0_bi (w : World) :
    Rets Tryz.prog 84 #[.slice none 0 0] w fun u w' => Fr No w w' ∧ ∃ b, u = pt b ∧ w.heap.size ≤ b ∧ Blk w'.heap b [.bool true, .slice none 0 0] 223 := by
  have hc : Rets Tryz.prog 150 #[.slice none 0 0] w fun u w' => w = w' ∧ u = .slice none 0 0 := by
    refine rets_of Tryz.func150 rfl Tryz.ntmps150 rfl rfl (by kernel_rfl) ?_
    ((iterate 18 (first | with_reducible apply vC_seq | with_reducible apply vC_region | with_reducible apply seqP_normal | ((with_reducible apply vC_cond_true); exact rfl) | ((with_reducible apply vL_val); (case h => ((with_reducible apply opv_E); exact rfl))) | ((with_reducible apply vL_val); (case h => ((with_reducible apply opv_eql_snil); exact rfl; exact rfl))) | with_reducible apply vL_nil)); apply vC_ret; apply seqP_ret)
    (apply ret1; (case h1 => (exact norm_eq rfl)))
    exact ⟨rfl, rfl⟩
  refine rets_of Tryz.func84 rfl Tryz.ntmps84 rfl rfl (by kernel_rfl) ?_
  (apply vC_seq; apply vC_region; ((apply vL_val); (case h => ((apply opv_E); exact rfl))); apply vL_nil; apply seqP_normal; apply vC_seq; apply vC_region; ((apply vL_val); (case h => ((apply opv_E); exact rfl))))
  refine vL_callF rfl (hc) rfl ?_
  rintro _ _ ⟨rfl, rfl⟩
  (((apply vL_val); (case h => ((apply opv_buildS); exact rfl; exact (rfl : _ = some [_, _])))); ((apply vL_val); (case h => ((apply opw_boxn); exact rfl))); ((apply vL_val); (case h => ((apply opv_E); exact rfl))); apply vL_nil; apply seqP_normal; apply vC_ret)
  (apply ret1; (case h1 => (exact norm_eq rfl)))
  exact ⟨(Fr.refl No w).alloc _, _, rfl, Nat.le_refl _, inferInstance⟩
theorem tk_new {R : Asr} [Lcl R] {w0 w : World} {F0 : Nat → Prop} {ts : List TKT} (S : At (TksA ts * R) w0 F0 w) (g : FuncId) (cap : Array Value) : Rets Tryz.prog 35 #[.func (.func g) #[] cap] w fun u w' => ∃ b, u = pt b ∧ At (TksA (ts ++ [⟨b, ⟨.func (.func g) #[] cap, rfl⟩, false⟩]) * R) w0 F0 w' := by
  refine rets_of Tryz.func35 rfl Tryz.ntmps35 rfl rfl (by kernel_rfl) ?_
  ((iterate 18 (first | with_reducible apply vC_seq | with_reducible apply vC_region | with_reducible apply seqP_normal | with_reducible apply vC_skip | ((with_reducible apply vC_cond_false); exact rfl) | ((with_reducible apply vL_val); (case h => ((with_reducible apply opv_E); exact rfl))) | ((with_reducible apply vL_val); (case h => ((with_reducible apply opv_eql_fnil); exact rfl; exact rfl))) | with_reducible apply vL_nil)); ((apply vL_val); (case h => ((apply opv_buildS); exact rfl; exact (rfl : _ = some [_, _])))); ((apply vL_val); (case h => ((apply opw_boxn); exact rfl))); ((apply vL_val); (case h => ((apply opv_E); exact rfl))); apply vL_nil; apply seqP_normal; apply vC_ret)
  (apply ret1; (case h1 => (exact norm_eq rfl)))
  refine ⟨w.heap.size, rfl, ?_⟩
  have S1 := S.new (w' := w.alloc (.cells #[.func (.func g) #[] cap, .bool false] 175)) (b := w.heap.size) (cs := [.func (.func g) #[] cap, .bool false]) (T := 175) ((Fr.refl No w).alloc _) Blk.new (Nat.le_refl _)
  exact S1.ac (by unfold TksA; rw [big_map_snoc, star_assoc]; rfl)
section
variable {w w' w0 : World} {F F0 : Nat → Prop} {rb : Nat} {c : CH} {ts : List TKT} {R : Asr}
theorem ch_make_i [Lcl R] {now : Option Nat} {rest : Int} {ready : List Int} {tk : List (Nat × TK)} (S : At (RtA rb now rest ready tk * R) w0 F0 w) (size : Int) (hs : 0 ≤ size ∧ size ≤ 64) :
    Rets Tryz.prog 15 #[pt rb, .int .i64 size] w fun u w' => ∃ cb bq sq rq, u = .tuple #[pt cb, .int .i64 0] ∧ At (ChA_i rb ⟨cb, bq, sq, rq, size, [], [], [], false⟩ * (RtA rb now rest ready tk * R)) w0 F0 w' := by
  have hm : Rets Tryz.prog 83 #[pt rb] w fun u w' => w = w' ∧ u = .bool true := by
    have hr := rightA S
    refine rets_of Tryz.func83 rfl Tryz.ntmps83 rfl rfl (by kernel_rfl) ?_
    (apply vC_seq; apply vC_region; ((apply vL_val); (case h => ((apply opv_E); exact rfl))); apply vL_nil; apply seqP_normal; apply vC_seq; apply vC_region; ((apply vL_val); (case h => ((apply opv_E); exact rfl))))
    refine vL_callF rfl (hr) rfl ?_
    rintro _ _ ⟨rfl, rfl⟩
    (((apply vL_val); (case h => ((apply opv_E); exact rfl))); apply vL_nil; apply seqP_normal; apply vC_ret)
    (apply ret1; (case h1 => (exact norm_eq rfl)))
    exact ⟨rfl, rfl⟩
  refine rets_of Tryz.func15 rfl Tryz.ntmps15 rfl rfl (by kernel_rfl) ?_
  (apply vC_seq; apply vC_region; (iterate 2 (((apply vL_val); (case h => ((apply opv_E); exact rfl))))); apply vL_nil; apply seqP_normal; apply vC_seq; apply vC_block; apply vC_seq; apply vC_region; ((apply vL_val); (case h => ((apply opv_E); exact rfl))))
  refine vL_callF rfl (hm) rfl ?_
  rintro _ _ ⟨rfl, rfl⟩
  (((apply vL_val); (case h => ((apply opv_not); exact rfl))); ((apply vL_val); (case h => ((apply opv_E); exact rfl))); apply vL_nil; apply seqP_normal; ((apply vC_cond_false); exact rfl); apply vC_seq; apply vC_region; (iterate 9 (first | ((with_reducible apply vL_val); (case h => ((with_reducible apply opv_E); exact rfl))) | ((with_reducible apply vL_wanted); exact rfl) | (refine vL_or rfl rfl (fun _ => ?_) (fun h => by omega)))); apply vL_nil; apply seqP_normal; (refine vC_cond_dec rfl (fun h => by omega) (fun _ => ?_)); apply vC_skip; apply blockP_normal; apply seqP_normal; apply vC_seq; apply vC_region; (iterate 2 (((apply vL_val); (case h => ((apply opv_E); exact rfl))))))
  refine vL_callF rfl (q_of0_bi w) rfl ?_
  rintro _ w1 ⟨hf1, bq, rfl, hl1, hb1⟩
  have S1 := S.new hf1 hb1 hl1
  skip
  refine vL_callF rfl (q_of0_snd w1) rfl ?_
  rintro _ w2 ⟨hf2, sq, rfl, hl2, hb2⟩
  have S2 := S1.new hf2 hb2 hl2
  skip
  refine vL_callF rfl (q_of0_rcv w2) rfl ?_
  rintro _ w3 ⟨hf3, rq, rfl, hl3, hb3⟩
  have S3 := S2.new hf3 hb3 hl3
  (((apply vL_val); (case h => ((apply opv_buildS); exact rfl; exact (rfl : _ = some [_, _, _, _, _, _])))); ((apply vL_val); (case h => ((apply opw_boxn); exact rfl))); (iterate 2 (((apply vL_val); (case h => ((apply opv_E); exact rfl))))); apply vL_nil; apply seqP_normal; apply vC_ret)
  (apply ret2; (case h1 => (exact norm_eq rfl)); (case h2 => (exact norm_eq rfl)))
  refine ⟨w3.heap.size, bq, sq, rq, rfl, ?_⟩
  have S4 := S3.new (w' := w3.alloc (.cells (chL_i rb ⟨w3.heap.size, bq, sq, rq, size, [], [], [], false⟩).toArray 148)) (b := w3.heap.size) (cs := chL_i rb ⟨w3.heap.size, bq, sq, rq, size, [], [], [], false⟩) (T := 148) ((Fr.refl No w3).alloc _) Blk.new (Nat.le_refl _)
  have S5 := ((S4.nil 3 1 iE).nil 154 3 seE).nil 157 2 reE
  have S6 : At ((Pt bq [.bool true, .slice none 0 0] 223 * Ow 3 1 iE (.slice none 0 0) []) * ((Pt sq [.bool true, .slice none 0 0] 226 * Ow 154 3 seE (.slice none 0 0) []) * ((Pt rq [.bool true, .slice none 0 0] 229 * Ow 157 2 reE (.slice none 0 0) []) * (Pt w3.heap.size (chL_i rb ⟨w3.heap.size, bq, sq, rq, size, [], [], [], false⟩) 148 * (RtA rb now rest ready tk * R))))) w0 F0 _ := S5.ac (by ac_rfl)
  have S7 := S6.weak (B := QA 223 3 1 iE bq [] * (QA 226 154 3 seE sq [] * (QA 229 157 2 reE rq [] * (Pt w3.heap.size (chL_i rb ⟨w3.heap.size, bq, sq, rq, size, [], [], [], false⟩) 148 * (RtA rb now rest ready tk * R))))) (fun h F hA => by
    obtain ⟨F1, F2, a, ⟨F3, F4, a', ⟨F5, F6, a'', r, d3, rfl⟩, d2, rfl⟩, d1, rfl⟩ := hA
    exact ⟨F1, _, ⟨_, a⟩, ⟨F3, _, ⟨_, a'⟩, ⟨F5, F6, ⟨_, a''⟩, r, d3, rfl⟩, d2, rfl⟩, d1, rfl⟩)
  exact S7.ac (by unfold ChA_i; ac_rfl)
end
end Go.Proofs.YtbaidcnalkdhgaaGreat
set_option maxRecDepth 100000
namespace Go.Proofs.YtbaidcnalkdhgaaGreat
open Go Go.Eng
def canS (d : CH) : Bool := d.closed || (!d.rcv.isEmpty || decide ((d.buf.length : Int) < d.size))
def canR (d : CH) : Bool := d.closed || (!d.buf.isEmpty || !d.snd.isEmpty)
section
variable {w w' w0 : World} {F F0 : Nat → Prop} {rb : Nat} {c : CH} {ts : List TKT} {R : Asr}
theorem ch_can_i [Lcl R] (S : At (ChA_i rb c * (TksA ts * R)) w0 F0 w) (h1 : ∀ x ∈ c.snd, ∃ t ∈ ts, x.k = t.b) (h2 : ∀ x ∈ c.rcv, ∃ t ∈ ts, x.k = t.b) :
    Rets Tryz.prog 79 #[pt c.cb] w fun u w' => u = .tuple #[.bool (canS (c.cleaned ts)), .bool (canR (c.cleaned ts))] ∧ At (ChA_i rb (c.cleaned ts) * (TksA ts * R)) w0 F0 w' := by
  have hr0 := ch_right_i w c rb (ch_blk_i S)
  refine rets_of Tryz.func79 rfl Tryz.ntmps79 rfl rfl (by kernel_rfl) ?_
  (apply vC_seq; apply vC_region; (iterate 2 (((apply vL_val); (case h => ((apply opv_E); exact rfl))))); apply vL_nil; apply seqP_normal; (iterate 2 (apply vC_seq)); apply vC_region; ((apply vL_val); (case h => ((apply opv_E); exact rfl))))
  refine vL_callF rfl (hr0) rfl ?_
  rintro _ _ ⟨rfl, rfl⟩
  (((apply vL_val); (case h => ((apply opv_not); exact rfl))); apply vL_nil; apply seqP_normal; ((apply vC_cond_false); exact rfl); apply vC_skip; apply seqP_normal; apply vC_seq; apply vC_region; ((apply vL_val); (case h => ((apply opv_E); exact rfl))))
  refine vL_callF rfl (ch_clean_i S h1 h2) rfl ?_
  intro _ w1 S1
  have hcb1 := ch_blk_i S1
  rw [chL_i] at hcb1
  have ecb : (c.cleaned ts).cb = c.cb := rfl
  rw [ecb] at hcb1
  generalize c.cleaned ts = d at *
  obtain ⟨v2, b2, o2, n2, _⟩ := ch_snd_i S1
  obtain ⟨v3, b3, o3, n3, _⟩ := ch_rcv_i S1
  obtain ⟨v4, b4, o4, n4, _⟩ := ch_buf_i S1
  cases hcl : d.closed with
  | true =>
    rw [hcl] at hcb1
    (apply vL_nil; apply seqP_normal; apply vC_seq)
    (with_reducible apply vC_drawQ); ((iterate 46 (first | ((with_reducible apply vQ_op); (case hi => exact rfl); (case hf => kernel_rfl); (case hS => exact Dr.refl _); (case hy => (intro j; ((with_reducible apply opv_E); exact rfl)))) | ((with_reducible apply vQ_op); (case hi => exact rfl); (case hf => kernel_rfl); (case hS => exact Dr.refl _); (case hy => (intro j; ((with_reducible apply opv_loadb1); exact rfl; exact rfl; assumption; exact rfl)))) | ((with_reducible apply vQ_op); (case hi => exact rfl); (case hf => kernel_rfl); (case hS => exact Dr.refl _); (case hy => (intro j; ((with_reducible apply opv_fieldAddr); exact rfl)))) | ((with_reducible apply vQ_unwanted); (case hi => exact rfl); (case hg => exact rfl); (case hne => exact rfl); (case hf => kernel_rfl); (case hS => exact Dr.refl _)))); ((apply vQ_end); (case hi => exact rfl); (case hf => kernel_rfl); (case hS => exact Dr.refl _)))
    (apply seqP_normal; apply vC_ret)
    (apply ret2; (case h1 => (exact norm_eq rfl)); (case h2 => (exact norm_eq rfl)))
    exact ⟨by unfold canS canR; rw [hcl]; rfl, S1.drew⟩
  | false =>
  rw [hcl] at hcb1
  (apply vL_nil; apply seqP_normal; apply vC_seq)
  refine vC_draw' (fun wf => Fr No w1 wf) ((Fr.refl No w1).drew) ?_
  ((apply (tk 0)); (case hi => exact rfl); (case hf => kernel_rfl); (case hS => (apply Fr.drew; exact Fr.refl _ _)); (case hy => (intro wf hwf; haveI := From.mk hwf; (((apply opv_E); exact rfl)))))
  ((apply (tk 1)); (case hi => exact rfl); (case hf => kernel_rfl); (case hS => (apply Fr.drew; exact Fr.refl _ _)); (case hy => (intro wf hwf; haveI := From.mk hwf; (((apply opv_E); exact rfl)))))
  ((apply (tk 2)); (case hi => exact rfl); (case hf => kernel_rfl); (case hS => (apply Fr.drew; exact Fr.refl _ _)); (case hy => (intro wf hwf; haveI := From.mk hwf; (((apply opv_fieldAddr); exact rfl)))))
  ((apply (tk 3)); (case hi => exact rfl); (case hf => kernel_rfl); (case hS => (apply Fr.drew; exact Fr.refl _ _)); (case hy => (intro wf hwf; haveI := From.mk hwf; (((apply opv_loadb1); exact rfl; exact rfl; infer_instance; exact rfl)))))
  ((apply (tk 4)); (case hi => exact rfl); (case hf => kernel_rfl); (case hS => (apply Fr.drew; exact Fr.refl _ _)); (case hy => (intro wf hwf; haveI := From.mk hwf; (((apply opv_E); exact rfl)))))
  ((apply (tkw 5)); (case hi => exact rfl); (case hg => exact rfl); (case hf => kernel_rfl); (case hS => (apply Fr.drew; exact Fr.refl _ _)); (case hy => (intro wf hwf; haveI := From.mk hwf; (((apply opv_E); exact rfl)))))
  ((apply (tkw 6)); (case hi => exact rfl); (case hg => exact rfl); (case hf => kernel_rfl); (case hS => (apply Fr.drew; exact Fr.refl _ _)); (case hy => (intro wf hwf; haveI := From.mk hwf; (((apply opv_E); exact rfl)))))
  ((apply (tkw 7)); (case hi => exact rfl); (case hg => exact rfl); (case hf => kernel_rfl); (case hS => (apply Fr.drew; exact Fr.refl _ _)); (case hy => (intro wf hwf; haveI := From.mk hwf; (((apply opv_fieldAddr); exact rfl)))))
  ((apply (tkw 8)); (case hi => exact rfl); (case hg => exact rfl); (case hf => kernel_rfl); (case hS => (apply Fr.drew; exact Fr.refl _ _)); (case hy => (intro wf hwf; haveI := From.mk hwf; (((apply opv_loadb1); exact rfl; exact rfl; infer_instance; exact rfl)))))
  (refine tkpw 9 rfl rfl (by kernel_rfl) (by (apply Fr.drew; exact Fr.refl _ _)) rfl (fun wf hwf => (by haveI := From.mk hwf; exact (q_len_rcv d.rq v3 d.rcv _ inferInstance inferInstance))) rfl ?_)
  ((apply (tkw 10)); (case hi => exact rfl); (case hg => exact rfl); (case hf => kernel_rfl); (case hS => (apply Fr.drew; exact Fr.refl _ _)); (case hy => (intro wf hwf; haveI := From.mk hwf; (((apply opv_E); exact rfl)))))
  ((apply (tk 11)); (case hi => exact rfl); (case hf => kernel_rfl); (case hS => (apply Fr.drew; exact Fr.refl _ _)); (case hy => (intro wf hwf; haveI := From.mk hwf; (((apply opv_E); exact rfl)))))
  ((apply (tk 12)); (case hi => exact rfl); (case hf => kernel_rfl); (case hS => (apply Fr.drew; exact Fr.refl _ _)); (case hy => (intro wf hwf; haveI := From.mk hwf; (((apply opv_E); exact rfl)))))
  by_cases hr : 0 < d.rcv.length
  · refine vA_split 21 rfl (fun _ => ?_) (fun h => absurd (by omega) h)
    refine tku 13 rfl rfl rfl (by kernel_rfl) (by (apply Fr.drew; exact Fr.refl _ _)) ?_
    refine tku 14 rfl rfl rfl (by kernel_rfl) (by (apply Fr.drew; exact Fr.refl _ _)) ?_
    refine tku 15 rfl rfl rfl (by kernel_rfl) (by (apply Fr.drew; exact Fr.refl _ _)) ?_
    refine tku 16 rfl rfl rfl (by kernel_rfl) (by (apply Fr.drew; exact Fr.refl _ _)) ?_
    refine tku 17 rfl rfl rfl (by kernel_rfl) (by (apply Fr.drew; exact Fr.refl _ _)) ?_
    refine tku 18 rfl rfl rfl (by kernel_rfl) (by (apply Fr.drew; exact Fr.refl _ _)) ?_
    refine tku 19 rfl rfl rfl (by kernel_rfl) (by (apply Fr.drew; exact Fr.refl _ _)) ?_
    refine tku 20 rfl rfl rfl (by kernel_rfl) (by (apply Fr.drew; exact Fr.refl _ _)) ?_
    refine tku 21 rfl rfl rfl (by kernel_rfl) (by (apply Fr.drew; exact Fr.refl _ _)) ?_
    refine tku 22 rfl rfl rfl (by kernel_rfl) (by (apply Fr.drew; exact Fr.refl _ _)) ?_
    have hcs : canS d = true := by
      have hem : d.rcv.isEmpty = decide (¬ 0 < d.rcv.length) := by cases hh : d.rcv <;> simp
      unfold canS; rw [hcl, hem]; simp [hr]
    ((apply (tk 23)); (case hi => exact rfl); (case hf => kernel_rfl); (case hS => (apply Fr.drew; exact Fr.refl _ _)); (case hy => (intro wf hwf; haveI := From.mk hwf; (((apply opv_E); exact rfl)))))
    ((apply (tk 24)); (case hi => exact rfl); (case hf => kernel_rfl); (case hS => (apply Fr.drew; exact Fr.refl _ _)); (case hy => (intro wf hwf; haveI := From.mk hwf; (((apply opv_E); exact rfl)))))
    ((apply (tk 25)); (case hi => exact rfl); (case hf => kernel_rfl); (case hS => (apply Fr.drew; exact Fr.refl _ _)); (case hy => (intro wf hwf; haveI := From.mk hwf; (((apply opv_E); exact rfl)))))
    ((apply (tk 26)); (case hi => exact rfl); (case hf => kernel_rfl); (case hS => (apply Fr.drew; exact Fr.refl _ _)); (case hy => (intro wf hwf; haveI := From.mk hwf; (((apply opv_fieldAddr); exact rfl)))))
    ((apply (tk 27)); (case hi => exact rfl); (case hf => kernel_rfl); (case hS => (apply Fr.drew; exact Fr.refl _ _)); (case hy => (intro wf hwf; haveI := From.mk hwf; (((apply opv_loadb1); exact rfl; exact rfl; infer_instance; exact rfl)))))
    ((apply (tk 28)); (case hi => exact rfl); (case hf => kernel_rfl); (case hS => (apply Fr.drew; exact Fr.refl _ _)); (case hy => (intro wf hwf; haveI := From.mk hwf; (((apply opv_E); exact rfl)))))
    ((apply (tkw 29)); (case hi => exact rfl); (case hg => exact rfl); (case hf => kernel_rfl); (case hS => (apply Fr.drew; exact Fr.refl _ _)); (case hy => (intro wf hwf; haveI := From.mk hwf; (((apply opv_E); exact rfl)))))
    ((apply (tkw 30)); (case hi => exact rfl); (case hg => exact rfl); (case hf => kernel_rfl); (case hS => (apply Fr.drew; exact Fr.refl _ _)); (case hy => (intro wf hwf; haveI := From.mk hwf; (((apply opv_E); exact rfl)))))
    ((apply (tkw 31)); (case hi => exact rfl); (case hg => exact rfl); (case hf => kernel_rfl); (case hS => (apply Fr.drew; exact Fr.refl _ _)); (case hy => (intro wf hwf; haveI := From.mk hwf; (((apply opv_fieldAddr); exact rfl)))))
    ((apply (tkw 32)); (case hi => exact rfl); (case hg => exact rfl); (case hf => kernel_rfl); (case hS => (apply Fr.drew; exact Fr.refl _ _)); (case hy => (intro wf hwf; haveI := From.mk hwf; (((apply opv_loadb1); exact rfl; exact rfl; infer_instance; exact rfl)))))
    (refine tkpw 33 rfl rfl (by kernel_rfl) (by (apply Fr.drew; exact Fr.refl _ _)) rfl (fun wf hwf => (by haveI := From.mk hwf; exact (q_len_int d.bq v4 d.buf _ inferInstance inferInstance))) rfl ?_)
    ((apply (tkw 34)); (case hi => exact rfl); (case hg => exact rfl); (case hf => kernel_rfl); (case hS => (apply Fr.drew; exact Fr.refl _ _)); (case hy => (intro wf hwf; haveI := From.mk hwf; (((apply opv_E); exact rfl)))))
    ((apply (tk 35)); (case hi => exact rfl); (case hf => kernel_rfl); (case hS => (apply Fr.drew; exact Fr.refl _ _)); (case hy => (intro wf hwf; haveI := From.mk hwf; (((apply opv_E); exact rfl)))))
    ((apply (tk 36)); (case hi => exact rfl); (case hf => kernel_rfl); (case hS => (apply Fr.drew; exact Fr.refl _ _)); (case hy => (intro wf hwf; haveI := From.mk hwf; (((apply opv_E); exact rfl)))))
    by_cases hbf : 0 < d.buf.length
    · refine vA_split 45 rfl (fun _ => ?_) (fun h => absurd (by omega) h)
      refine tku 37 rfl rfl rfl (by kernel_rfl) (by (apply Fr.drew; exact Fr.refl _ _)) ?_
      refine tku 38 rfl rfl rfl (by kernel_rfl) (by (apply Fr.drew; exact Fr.refl _ _)) ?_
      refine tku 39 rfl rfl rfl (by kernel_rfl) (by (apply Fr.drew; exact Fr.refl _ _)) ?_
      refine tku 40 rfl rfl rfl (by kernel_rfl) (by (apply Fr.drew; exact Fr.refl _ _)) ?_
      refine tku 41 rfl rfl rfl (by kernel_rfl) (by (apply Fr.drew; exact Fr.refl _ _)) ?_
      refine tku 42 rfl rfl rfl (by kernel_rfl) (by (apply Fr.drew; exact Fr.refl _ _)) ?_
      ((apply (tk 43)); (case hi => exact rfl); (case hf => kernel_rfl); (case hS => (apply Fr.drew; exact Fr.refl _ _)); (case hy => (intro wf hwf; haveI := From.mk hwf; (((apply opv_E); exact rfl)))))
      ((apply (tk 44)); (case hi => exact rfl); (case hf => kernel_rfl); (case hS => (apply Fr.drew; exact Fr.refl _ _)); (case hy => (intro wf hwf; haveI := From.mk hwf; (((apply opv_E); exact rfl)))))
      ((apply (tk 45)); (case hi => exact rfl); (case hf => kernel_rfl); (case hS => (apply Fr.drew; exact Fr.refl _ _)); (case hy => (intro wf hwf; haveI := From.mk hwf; (((apply opv_E); exact rfl)))))
      refine vA_done (by kernel_rfl) (by (first | exact trivial | ((apply Fr.drew; exact Fr.refl _ _); done))) ?_
      (apply seqP_normal; apply vC_ret)
      (apply ret2; (case h1 => (exact norm_eq rfl)); (case h2 => (exact norm_eq rfl)))
      exact ⟨by rw [hcs]; unfold canR; rw [hcl]; cases hh : d.buf with
        | nil => rw [hh] at hbf; simp at hbf
        | cons y l => rfl, S1.drew⟩
    · refine vA_split 45 rfl (fun h => absurd h (by omega)) (fun _ => ?_)
      ((apply (tkw 37)); (case hi => exact rfl); (case hg => exact rfl); (case hf => kernel_rfl); (case hS => (apply Fr.drew; exact Fr.refl _ _)); (case hy => (intro wf hwf; haveI := From.mk hwf; (((apply opv_E); exact rfl)))))
      ((apply (tkw 38)); (case hi => exact rfl); (case hg => exact rfl); (case hf => kernel_rfl); (case hS => (apply Fr.drew; exact Fr.refl _ _)); (case hy => (intro wf hwf; haveI := From.mk hwf; (((apply opv_E); exact rfl)))))
      ((apply (tkw 39)); (case hi => exact rfl); (case hg => exact rfl); (case hf => kernel_rfl); (case hS => (apply Fr.drew; exact Fr.refl _ _)); (case hy => (intro wf hwf; haveI := From.mk hwf; (((apply opv_fieldAddr); exact rfl)))))
      ((apply (tkw 40)); (case hi => exact rfl); (case hg => exact rfl); (case hf => kernel_rfl); (case hS => (apply Fr.drew; exact Fr.refl _ _)); (case hy => (intro wf hwf; haveI := From.mk hwf; (((apply opv_loadb1); exact rfl; exact rfl; infer_instance; exact rfl)))))
      (refine tkpw 41 rfl rfl (by kernel_rfl) (by (apply Fr.drew; exact Fr.refl _ _)) rfl (fun wf hwf => (by haveI := From.mk hwf; exact (q_len_snd d.sq v2 d.snd _ inferInstance inferInstance))) rfl ?_)
      ((apply (tkw 42)); (case hi => exact rfl); (case hg => exact rfl); (case hf => kernel_rfl); (case hS => (apply Fr.drew; exact Fr.refl _ _)); (case hy => (intro wf hwf; haveI := From.mk hwf; (((apply opv_E); exact rfl)))))
      ((apply (tk 43)); (case hi => exact rfl); (case hf => kernel_rfl); (case hS => (apply Fr.drew; exact Fr.refl _ _)); (case hy => (intro wf hwf; haveI := From.mk hwf; (((apply opv_E); exact rfl)))))
      ((apply (tk 44)); (case hi => exact rfl); (case hf => kernel_rfl); (case hS => (apply Fr.drew; exact Fr.refl _ _)); (case hy => (intro wf hwf; haveI := From.mk hwf; (((apply opv_E); exact rfl)))))
      ((apply (tk 45)); (case hi => exact rfl); (case hf => kernel_rfl); (case hS => (apply Fr.drew; exact Fr.refl _ _)); (case hy => (intro wf hwf; haveI := From.mk hwf; (((apply opv_E); exact rfl)))))
      refine vA_done (by kernel_rfl) (by (first | exact trivial | ((apply Fr.drew; exact Fr.refl _ _); done))) ?_
      (apply seqP_normal; apply vC_ret)
      (apply ret2; (case h1 => (exact norm_eq rfl)); (case h2 => (exact norm_eq rfl)))
      exact ⟨by rw [hcs]; unfold canR; rw [hcl]; cases hh : d.buf with
        | cons y l => rw [hh] at hbf; simp at hbf
        | nil => cases hs : d.snd <;> simp, S1.drew⟩
  · refine vA_split 21 rfl (fun h => absurd h (by omega)) (fun _ => ?_)
    ((apply (tkw 13)); (case hi => exact rfl); (case hg => exact rfl); (case hf => kernel_rfl); (case hS => (apply Fr.drew; exact Fr.refl _ _)); (case hy => (intro wf hwf; haveI := From.mk hwf; (((apply opv_E); exact rfl)))))
    ((apply (tkw 14)); (case hi => exact rfl); (case hg => exact rfl); (case hf => kernel_rfl); (case hS => (apply Fr.drew; exact Fr.refl _ _)); (case hy => (intro wf hwf; haveI := From.mk hwf; (((apply opv_E); exact rfl)))))
    ((apply (tkw 15)); (case hi => exact rfl); (case hg => exact rfl); (case hf => kernel_rfl); (case hS => (apply Fr.drew; exact Fr.refl _ _)); (case hy => (intro wf hwf; haveI := From.mk hwf; (((apply opv_fieldAddr); exact rfl)))))
    ((apply (tkw 16)); (case hi => exact rfl); (case hg => exact rfl); (case hf => kernel_rfl); (case hS => (apply Fr.drew; exact Fr.refl _ _)); (case hy => (intro wf hwf; haveI := From.mk hwf; (((apply opv_loadb1); exact rfl; exact rfl; infer_instance; exact rfl)))))
    (refine tkpw 17 rfl rfl (by kernel_rfl) (by (apply Fr.drew; exact Fr.refl _ _)) rfl (fun wf hwf => (by haveI := From.mk hwf; exact (q_len_int d.bq v4 d.buf _ inferInstance inferInstance))) rfl ?_)
    ((apply (tkw 18)); (case hi => exact rfl); (case hg => exact rfl); (case hf => kernel_rfl); (case hS => (apply Fr.drew; exact Fr.refl _ _)); (case hy => (intro wf hwf; haveI := From.mk hwf; (((apply opv_E); exact rfl)))))
    ((apply (tkw 19)); (case hi => exact rfl); (case hg => exact rfl); (case hf => kernel_rfl); (case hS => (apply Fr.drew; exact Fr.refl _ _)); (case hy => (intro wf hwf; haveI := From.mk hwf; (((apply opv_E); exact rfl)))))
    ((apply (tkw 20)); (case hi => exact rfl); (case hg => exact rfl); (case hf => kernel_rfl); (case hS => (apply Fr.drew; exact Fr.refl _ _)); (case hy => (intro wf hwf; haveI := From.mk hwf; (((apply opv_fieldAddr); exact rfl)))))
    ((apply (tkw 21)); (case hi => exact rfl); (case hg => exact rfl); (case hf => kernel_rfl); (case hS => (apply Fr.drew; exact Fr.refl _ _)); (case hy => (intro wf hwf; haveI := From.mk hwf; (((apply opv_loadb1); exact rfl; exact rfl; infer_instance; exact rfl)))))
    ((apply (tkw 22)); (case hi => exact rfl); (case hg => exact rfl); (case hf => kernel_rfl); (case hS => (apply Fr.drew; exact Fr.refl _ _)); (case hy => (intro wf hwf; haveI := From.mk hwf; (((apply opv_E); exact rfl)))))
    have hcs : canS d = (decide ((d.buf.length : Int) < d.size)) := by
      have hem : d.rcv.isEmpty = decide (¬ 0 < d.rcv.length) := by cases hh : d.rcv <;> simp
      unfold canS; rw [hcl, hem]; simp [hr]
    ((apply (tk 23)); (case hi => exact rfl); (case hf => kernel_rfl); (case hS => (apply Fr.drew; exact Fr.refl _ _)); (case hy => (intro wf hwf; haveI := From.mk hwf; (((apply opv_E); exact rfl)))))
    ((apply (tk 24)); (case hi => exact rfl); (case hf => kernel_rfl); (case hS => (apply Fr.drew; exact Fr.refl _ _)); (case hy => (intro wf hwf; haveI := From.mk hwf; (((apply opv_E); exact rfl)))))
    ((apply (tk 25)); (case hi => exact rfl); (case hf => kernel_rfl); (case hS => (apply Fr.drew; exact Fr.refl _ _)); (case hy => (intro wf hwf; haveI := From.mk hwf; (((apply opv_E); exact rfl)))))
    ((apply (tk 26)); (case hi => exact rfl); (case hf => kernel_rfl); (case hS => (apply Fr.drew; exact Fr.refl _ _)); (case hy => (intro wf hwf; haveI := From.mk hwf; (((apply opv_fieldAddr); exact rfl)))))
    ((apply (tk 27)); (case hi => exact rfl); (case hf => kernel_rfl); (case hS => (apply Fr.drew; exact Fr.refl _ _)); (case hy => (intro wf hwf; haveI := From.mk hwf; (((apply opv_loadb1); exact rfl; exact rfl; infer_instance; exact rfl)))))
    ((apply (tk 28)); (case hi => exact rfl); (case hf => kernel_rfl); (case hS => (apply Fr.drew; exact Fr.refl _ _)); (case hy => (intro wf hwf; haveI := From.mk hwf; (((apply opv_E); exact rfl)))))
    ((apply (tkw 29)); (case hi => exact rfl); (case hg => exact rfl); (case hf => kernel_rfl); (case hS => (apply Fr.drew; exact Fr.refl _ _)); (case hy => (intro wf hwf; haveI := From.mk hwf; (((apply opv_E); exact rfl)))))
    ((apply (tkw 30)); (case hi => exact rfl); (case hg => exact rfl); (case hf => kernel_rfl); (case hS => (apply Fr.drew; exact Fr.refl _ _)); (case hy => (intro wf hwf; haveI := From.mk hwf; (((apply opv_E); exact rfl)))))
    ((apply (tkw 31)); (case hi => exact rfl); (case hg => exact rfl); (case hf => kernel_rfl); (case hS => (apply Fr.drew; exact Fr.refl _ _)); (case hy => (intro wf hwf; haveI := From.mk hwf; (((apply opv_fieldAddr); exact rfl)))))
    ((apply (tkw 32)); (case hi => exact rfl); (case hg => exact rfl); (case hf => kernel_rfl); (case hS => (apply Fr.drew; exact Fr.refl _ _)); (case hy => (intro wf hwf; haveI := From.mk hwf; (((apply opv_loadb1); exact rfl; exact rfl; infer_instance; exact rfl)))))
    (refine tkpw 33 rfl rfl (by kernel_rfl) (by (apply Fr.drew; exact Fr.refl _ _)) rfl (fun wf hwf => (by haveI := From.mk hwf; exact (q_len_int d.bq v4 d.buf _ inferInstance inferInstance))) rfl ?_)
    ((apply (tkw 34)); (case hi => exact rfl); (case hg => exact rfl); (case hf => kernel_rfl); (case hS => (apply Fr.drew; exact Fr.refl _ _)); (case hy => (intro wf hwf; haveI := From.mk hwf; (((apply opv_E); exact rfl)))))
    ((apply (tk 35)); (case hi => exact rfl); (case hf => kernel_rfl); (case hS => (apply Fr.drew; exact Fr.refl _ _)); (case hy => (intro wf hwf; haveI := From.mk hwf; (((apply opv_E); exact rfl)))))
    ((apply (tk 36)); (case hi => exact rfl); (case hf => kernel_rfl); (case hS => (apply Fr.drew; exact Fr.refl _ _)); (case hy => (intro wf hwf; haveI := From.mk hwf; (((apply opv_E); exact rfl)))))
    by_cases hbf : 0 < d.buf.length
    · refine vA_split 45 rfl (fun _ => ?_) (fun h => absurd (by omega) h)
      refine tku 37 rfl rfl rfl (by kernel_rfl) (by (apply Fr.drew; exact Fr.refl _ _)) ?_
      refine tku 38 rfl rfl rfl (by kernel_rfl) (by (apply Fr.drew; exact Fr.refl _ _)) ?_
      refine tku 39 rfl rfl rfl (by kernel_rfl) (by (apply Fr.drew; exact Fr.refl _ _)) ?_
      refine tku 40 rfl rfl rfl (by kernel_rfl) (by (apply Fr.drew; exact Fr.refl _ _)) ?_
      refine tku 41 rfl rfl rfl (by kernel_rfl) (by (apply Fr.drew; exact Fr.refl _ _)) ?_
      refine tku 42 rfl rfl rfl (by kernel_rfl) (by (apply Fr.drew; exact Fr.refl _ _)) ?_
      ((apply (tk 43)); (case hi => exact rfl); (case hf => kernel_rfl); (case hS => (apply Fr.drew; exact Fr.refl _ _)); (case hy => (intro wf hwf; haveI := From.mk hwf; (((apply opv_E); exact rfl)))))
      ((apply (tk 44)); (case hi => exact rfl); (case hf => kernel_rfl); (case hS => (apply Fr.drew; exact Fr.refl _ _)); (case hy => (intro wf hwf; haveI := From.mk hwf; (((apply opv_E); exact rfl)))))
      ((apply (tk 45)); (case hi => exact rfl); (case hf => kernel_rfl); (case hS => (apply Fr.drew; exact Fr.refl _ _)); (case hy => (intro wf hwf; haveI := From.mk hwf; (((apply opv_E); exact rfl)))))
      refine vA_done (by kernel_rfl) (by (first | exact trivial | ((apply Fr.drew; exact Fr.refl _ _); done))) ?_
      (apply seqP_normal; apply vC_ret)
      (apply ret2; (case h1 => (exact norm_eq rfl)); (case h2 => (exact norm_eq rfl)))
      exact ⟨by rw [hcs]; unfold canR; rw [hcl]; cases hh : d.buf with
        | nil => rw [hh] at hbf; simp at hbf
        | cons y l => rfl, S1.drew⟩
    · refine vA_split 45 rfl (fun h => absurd h (by omega)) (fun _ => ?_)
      ((apply (tkw 37)); (case hi => exact rfl); (case hg => exact rfl); (case hf => kernel_rfl); (case hS => (apply Fr.drew; exact Fr.refl _ _)); (case hy => (intro wf hwf; haveI := From.mk hwf; (((apply opv_E); exact rfl)))))
      ((apply (tkw 38)); (case hi => exact rfl); (case hg => exact rfl); (case hf => kernel_rfl); (case hS => (apply Fr.drew; exact Fr.refl _ _)); (case hy => (intro wf hwf; haveI := From.mk hwf; (((apply opv_E); exact rfl)))))
      ((apply (tkw 39)); (case hi => exact rfl); (case hg => exact rfl); (case hf => kernel_rfl); (case hS => (apply Fr.drew; exact Fr.refl _ _)); (case hy => (intro wf hwf; haveI := From.mk hwf; (((apply opv_fieldAddr); exact rfl)))))
      ((apply (tkw 40)); (case hi => exact rfl); (case hg => exact rfl); (case hf => kernel_rfl); (case hS => (apply Fr.drew; exact Fr.refl _ _)); (case hy => (intro wf hwf; haveI := From.mk hwf; (((apply opv_loadb1); exact rfl; exact rfl; infer_instance; exact rfl)))))
      (refine tkpw 41 rfl rfl (by kernel_rfl) (by (apply Fr.drew; exact Fr.refl _ _)) rfl (fun wf hwf => (by haveI := From.mk hwf; exact (q_len_snd d.sq v2 d.snd _ inferInstance inferInstance))) rfl ?_)
      ((apply (tkw 42)); (case hi => exact rfl); (case hg => exact rfl); (case hf => kernel_rfl); (case hS => (apply Fr.drew; exact Fr.refl _ _)); (case hy => (intro wf hwf; haveI := From.mk hwf; (((apply opv_E); exact rfl)))))
      ((apply (tk 43)); (case hi => exact rfl); (case hf => kernel_rfl); (case hS => (apply Fr.drew; exact Fr.refl _ _)); (case hy => (intro wf hwf; haveI := From.mk hwf; (((apply opv_E); exact rfl)))))
      ((apply (tk 44)); (case hi => exact rfl); (case hf => kernel_rfl); (case hS => (apply Fr.drew; exact Fr.refl _ _)); (case hy => (intro wf hwf; haveI := From.mk hwf; (((apply opv_E); exact rfl)))))
      ((apply (tk 45)); (case hi => exact rfl); (case hf => kernel_rfl); (case hS => (apply Fr.drew; exact Fr.refl _ _)); (case hy => (intro wf hwf; haveI := From.mk hwf; (((apply opv_E); exact rfl)))))
      refine vA_done (by kernel_rfl) (by (first | exact trivial | ((apply Fr.drew; exact Fr.refl _ _); done))) ?_
      (apply seqP_normal; apply vC_ret)
      (apply ret2; (case h1 => (exact norm_eq rfl)); (case h2 => (exact norm_eq rfl)))
      exact ⟨by rw [hcs]; unfold canR; rw [hcl]; cases hh : d.buf with
        | cons y l => rw [hh] at hbf; simp at hbf
        | nil => cases hs : d.snd <;> simp, S1.drew⟩
end
end Go.Proofs.YtbaidcnalkdhgaaGreat
set_option maxRecDepth 100000
namespace Go.Proofs.YtbaidcnalkdhgaaGreat
open Go Go.Eng
theorem CH.cleaned2 (c : CH) (ts : List TKT) : (c.cleaned ts).cleaned ts = c.cleaned ts := by
  unfold CH.cleaned
  simp only [List.filter_filter, Bool.and_self]
section
variable {w w' w0 : World} {F F0 : Nat → Prop} {rb : Nat} {c : CH} {ts : List TKT} {R : Asr}
theorem ch_close2_i [Lcl R] (S : At (ChA_i rb c * R) w0 F0 w) (hc : c.closed = true) : Rets Tryz.prog 32 #[pt c.cb] w fun u w' => w = w' ∧ u = .int .i64 150 := by
  have hcb := ch_blk_i S
  have hr0 := ch_right_i w c rb hcb
  rw [chL_i, hc] at hcb
  refine rets_of Tryz.func32 rfl Tryz.ntmps32 rfl rfl (by kernel_rfl) ?_
  (apply vC_seq; apply vC_region; ((apply vL_val); (case h => ((apply opv_E); exact rfl))); apply vL_nil; apply seqP_normal; apply vC_seq; apply vC_block; apply vC_seq; apply vC_region; ((apply vL_val); (case h => ((apply opv_E); exact rfl))))
  refine vL_callF rfl (hr0) rfl ?_
  rintro _ _ ⟨rfl, rfl⟩
  (((apply vL_val); (case h => ((apply opv_not); exact rfl))); ((apply vL_val); (case h => ((apply opv_E); exact rfl))); apply vL_nil; apply seqP_normal; ((apply vC_cond_false); exact rfl); apply vC_seq; apply vC_region; (iterate 2 (((apply vL_val); (case h => ((apply opv_E); exact rfl))))); ((apply vL_val); (case h => ((apply opv_fieldAddr); exact rfl))); ((apply vL_val); (case h => ((apply opv_loadb1); exact rfl; exact rfl; assumption; exact rfl))); ((apply vL_val); (case h => ((apply opv_E); exact rfl))); apply vL_nil; apply seqP_normal; ((apply vC_cond_true); exact rfl); apply vC_seq; apply vC_region; ((apply vL_val); (case h => ((apply opv_E); exact rfl))); apply vL_nil; apply seqP_normal; apply vC_ret; apply blockP_ret; apply seqP_ret)
  (apply ret1; (case h1 => (exact norm_eq rfl)))
  exact ⟨rfl, rfl⟩
/-- a state of a closing: its channel, its tickets, all else -/
structure Clo_i (rb cb : Nat) (B : Asr) (σ : Type) where
  P : σ → Prop
  ch : σ → CH
  tk : σ → List TKT
  rs : σ → Asr
  μ : σ → Nat
  loc : ∀ s, Lcl (rs s)
  mem : ∀ s, P s → (∀ x ∈ (ch s).snd, ∃ t ∈ tk s, x.k = t.b) ∧ (∀ x ∈ (ch s).rcv, ∃ t ∈ tk s, x.k = t.b) ∧ (ch s).cb = cb
  rcv : ∀ s x r, P s → ((ch s).cleaned (tk s)).rcv = x :: r → ∃ (i : Nat) (t : TKT) (g g2 : FuncId) (cap cap2 : List Value) (Mid : Asr), (tk s)[i]? = some t ∧ x.k = t.b ∧ Nonempty (FnOk Tryz.prog g) ∧ Nonempty (FnOk Tryz.prog g2) ∧ x.f.1 = .func (.func g) #[] cap.toArray ∧ t.fire.1 = .func (.func g2) #[] cap2.toArray ∧
    Sp Tryz.prog g (.int .i64 0 :: .bool false :: cap).toArray (ChA_i rb { (ch s).cleaned (tk s) with rcv := r } * (TksA ((tk s).set i { t with fired := true }) * rs s)) (fun _ => Mid) ∧ (∀ h F, Mid h F → Blk h t.b [t.fire.1, .bool true] 175) ∧
    Sp Tryz.prog g2 cap2.toArray Mid (fun _ => Ex fun s' : σ => Pu (P s' ∧ μ s' < μ s) * (ChA_i rb (ch s') * (TksA (tk s') * rs s')))
  snd : ∀ s x r, P s → ((ch s).cleaned (tk s)).rcv = [] → ((ch s).cleaned (tk s)).snd = x :: r → ∃ (i : Nat) (t : TKT) (g g2 : FuncId) (cap cap2 : List Value) (Mid : Asr), (tk s)[i]? = some t ∧ x.k = t.b ∧ Nonempty (FnOk Tryz.prog g) ∧ Nonempty (FnOk Tryz.prog g2) ∧ x.f.1 = .func (.func g) #[] cap.toArray ∧ t.fire.1 = .func (.func g2) #[] cap2.toArray ∧
    Sp Tryz.prog g (.bool false :: cap).toArray (ChA_i rb { (ch s).cleaned (tk s) with snd := r } * (TksA ((tk s).set i { t with fired := true }) * rs s)) (fun _ => Mid) ∧ (∀ h F, Mid h F → Blk h t.b [t.fire.1, .bool true] 175) ∧
    Sp Tryz.prog g2 cap2.toArray Mid (fun _ => Ex fun s' : σ => Pu (P s' ∧ ((ch s').cleaned (tk s')).rcv = [] ∧ μ s' < μ s) * (ChA_i rb (ch s') * (TksA (tk s') * rs s')))
  fin : ∀ s, P s → ((ch s).cleaned (tk s)).rcv = [] → ((ch s).cleaned (tk s)).snd = [] → ∀ h F, (ChA_i rb ((ch s).cleaned (tk s)) * (TksA (tk s) * rs s)) h F → B h F
theorem ch_close_i [Lcl R] {B : Asr} {σ : Type} (C : Clo_i rb c.cb B σ) (s0 : σ) (h0 : C.P s0) (e1 : C.ch s0 = { c with closed := true }) (e2 : C.tk s0 = ts) (e3 : C.rs s0 = R) (hcl : c.closed = false) :
    Sp Tryz.prog 32 #[pt c.cb] (ChA_i rb c * (TksA ts * R)) (fun u => Pu (u = .int .i64 0) * B) := by
  haveI : ∀ s, Lcl (C.rs s) := C.loc
  intro w F hA
  have S : At (ChA_i rb c * (TksA ts * R)) w F w := At.init hA
  have hcb := ch_blk_i S
  have hr0 := ch_right_i w c rb hcb
  rw [chL_i, hcl] at hcb
  refine rets_of Tryz.func32 rfl Tryz.ntmps32 rfl rfl (by kernel_rfl) ?_
  (apply vC_seq; apply vC_region; ((apply vL_val); (case h => ((apply opv_E); exact rfl))); apply vL_nil; apply seqP_normal; apply vC_seq; apply vC_block; apply vC_seq; apply vC_region; ((apply vL_val); (case h => ((apply opv_E); exact rfl))))
  refine vL_callF rfl (hr0) rfl ?_
  rintro _ _ ⟨rfl, rfl⟩
  (((apply vL_val); (case h => ((apply opv_not); exact rfl))); ((apply vL_val); (case h => ((apply opv_E); exact rfl))); apply vL_nil; apply seqP_normal; ((apply vC_cond_false); exact rfl); apply vC_seq; apply vC_region; (iterate 2 (((apply vL_val); (case h => ((apply opv_E); exact rfl))))); ((apply vL_val); (case h => ((apply opv_fieldAddr); exact rfl))); ((apply vL_val); (case h => ((apply opv_loadb1); exact rfl; exact rfl; assumption; exact rfl))); ((apply vL_val); (case h => ((apply opv_E); exact rfl))); apply vL_nil; apply seqP_normal; ((apply vC_cond_false); exact rfl); apply vC_skip; apply blockP_normal; apply seqP_normal; apply vC_seq; apply vC_region; (iterate 2 (((apply vL_val); (case h => ((apply opv_E); exact rfl))))); ((apply vL_val); (case h => ((apply opv_fieldAddr); exact rfl))); ((apply vL_skip); (case h => ((apply ops_store1); exact norm_eq rfl; exact norm_eq rfl; (first | rfl | assumption); assumption; (first | decide | exact of_decide_eq_true rfl | (simp; done))))); apply vL_nil; apply seqP_normal; (iterate 2 (apply vC_seq)); apply vC_region; ((apply vL_val); (case h => ((apply opv_E); exact rfl))))
  refine vL_gen (fun w' => At (ChA_i rb (C.ch s0) * (TksA (C.tk s0) * C.rs s0)) w F w') ?_ ?_
  · rw [e1, e2, e3]
    have S1 : At (Pt c.cb (chL_i rb c) 148 * ((QA 223 3 1 iE c.bq c.buf * (QA 226 154 3 seE c.sq c.snd * QA 229 157 2 reE c.rq c.rcv)) * (TksA ts * R))) w F w := S.ac (by unfold ChA_i; ac_rfl)
    exact (S1.set (cs' := chL_i rb { c with closed := true })).ac (by unfold ChA_i; ac_rfl)
  clear S hr0 hcb
  intro w1 S1
  obtain ⟨m1, m2, m3⟩ := C.mem s0 h0
  have hcl0 := ch_clean_i S1 m1 m2
  rw [m3] at hcl0
  refine vL_callF rfl (hcl0) rfl ?_
  intro _ w2 S2
  clear S1 m1 m2 hcl0
  (apply vL_nil; apply seqP_normal; apply vC_block)
  (apply vC_loop1 4503599623176248 22 (fun _ w' => ∃ s, C.P s ∧ At (ChA_i rb ((C.ch s).cleaned (C.tk s)) * (TksA (C.tk s) * C.rs s)) w F w') (fun _ w' => leastN fun n => ∃ s, C.P s ∧ At (ChA_i rb ((C.ch s).cleaned (C.tk s)) * (TksA (C.tk s) * C.rs s)) w F w' ∧ C.μ s = n)); (case h1 => (exact norm_eq rfl))
  case h0 => exact ⟨s0, h0, S2⟩
  case round =>
  clear S2
  rintro junk _ w3 hex
  obtain ⟨s, hP, S3, hμ⟩ := leastN_spec (p := fun n => ∃ s, C.P s ∧ At (ChA_i rb ((C.ch s).cleaned (C.tk s)) * (TksA (C.tk s) * C.rs s)) w F w3 ∧ C.μ s = n) (by obtain ⟨s, h1, h2⟩ := hex; exact ⟨_, s, h1, h2, rfl⟩)
  generalize hmm : (leastN fun n => ∃ s, C.P s ∧ At (ChA_i rb ((C.ch s).cleaned (C.tk s)) * (TksA (C.tk s) * C.rs s)) w F w3 ∧ C.μ s = n) = mm at hμ ⊢
  obtain ⟨k1, k2, k3⟩ := C.mem s hP
  have hcb3 := ch_blk_i S3
  have ecb : ((C.ch s).cleaned (C.tk s)).cb = c.cb := k3
  have hrc := C.rcv s
  generalize hd : (C.ch s).cleaned (C.tk s) = d at *
  rw [chL_i, ecb] at hcb3
  obtain ⟨v2, b2, o2, n2, up2⟩ := ch_rcv_i S3
  ((iterate 2 (apply vC_seq)); apply vC_region; (iterate 2 (((apply vL_val); (case h => ((apply opv_E); exact rfl))))); ((apply vL_val); (case h => ((apply opv_fieldAddr); exact rfl))); ((apply vL_val); (case h => ((apply opv_loadb1); exact rfl; exact rfl; assumption; exact rfl))))
  refine vL_callF rfl (q_len_rcv d.rq v2 d.rcv w3 b2 o2) rfl ?_
  rintro _ _ ⟨rfl, rfl⟩
  cases hdr : d.rcv with
  | cons x r =>
    obtain ⟨i, t, g, g2, cap, cap2, Mid, ht, hxk, ⟨hg⟩, ⟨hg2⟩, hfv, hfire, spg, hmid, spf⟩ := hrc x r hP hdr
    rw [hdr] at o2
    have hxf := x.f.2
    have htf := t.fire.2
    haveI := hg
    haveI := hg2
    have hpos : (0 : Int) < ((x :: r).length : Int) := by rw [List.length_cons]; omega
    (((apply vL_val); (case h => ((apply opv_E); exact rfl))); apply vL_nil; apply seqP_normal; (refine vC_cond_dec rfl (fun _ => ?_) (fun h => by omega)); apply vC_skip; apply seqP_normal; apply vC_seq; apply vC_block; apply vC_seq; apply vC_region; (iterate 2 (((apply vL_val); (case h => ((apply opv_E); exact rfl))))); ((apply vL_val); (case h => ((apply opv_fieldAddr); exact rfl))); ((apply vL_val); (case h => ((apply opv_loadb1); exact rfl; exact rfl; assumption; exact rfl))))
    refine vL_callF rfl (q_pop_rcv d.rq v2 (x :: r) w3 b2 o2 n2) rfl ?_
    rintro _ w4 ⟨lv', xs', hf4, hb4, ho4, hown4, hone4, ⟨x', hx', rfl⟩ | ⟨hx', _, _⟩⟩
    rotate_left
    · cases hx'
    cases hx'
    have S4 := up2 _ _ _ hf4 hb4 ho4 hone4 (fun k hk => .inl (by rw [← hown4]; exact hk))
    (((iterate 3 (((apply vL_val); (case h => ((apply opv_E); exact rfl))))); ((apply vL_val); (case h => (apply opw_alloc))); ((apply vL_skip); (case h => ((apply ops_storen); exact norm_eq rfl; exact norm_eq rfl; exact rfl; exact (fun u hu => EncOk.one _ u hu); infer_instance; (first | decide | exact of_decide_eq_true rfl | (simp; done))))); ((apply vL_val); (case h => ((apply opv_E); exact rfl))); apply vL_nil)); with_reducible apply seqP_normal
    ((apply vC_seq; apply vC_region))
    refine vL_gen (fun w' => At (Pt w4.heap.size (reE x) 157 * (ChA_i rb { d with rcv := r } * (TksA (C.tk s) * C.rs s))) w F w') (S4.new (by (apply Fr.allocSet; exact Fr.refl _ _)) (Blk.as inferInstance rfl) (Nat.le_refl _)) ?_
    intro w5 S5
    generalize w4.heap.size = b3 at S5 ⊢
    clear S3 S4 hcb3 b2 o2 up2 hb4 ho4
    have h3 := S5.blk
    have htb := (S5.ac (show _ = TksA (C.tk s) * (Pt b3 (reE x) 157 * (ChA_i rb { d with rcv := r } * C.rs s)) by ac_rfl)).tk (List.mem_of_getElem? ht)
    rw [reE, hxk, hfv] at h3
    have ne3 : b3 ≠ t.b := Blk.ne_type h3 htb (by decide)
    haveI : NeB b3 t.b := ⟨ne3⟩
    (((apply vL_val); (case h => ((apply opv_E); exact rfl))); apply vL_nil; apply seqP_normal; apply vC_seq; apply vC_region; ((apply vL_val); (case h => ((apply opv_fieldAddr); exact rfl))); ((apply vL_val); (case h => ((apply opv_loadb1); exact rfl; exact rfl; assumption; exact rfl))); ((apply vL_val); (case h => ((apply opv_E); exact rfl))); ((apply vL_val); (case h => ((apply opv_fieldAddr); exact rfl))); ((apply vL_skip); (case h => ((apply ops_store1); exact norm_eq rfl; exact norm_eq rfl; (first | rfl | assumption); assumption; (first | decide | exact of_decide_eq_true rfl | (simp; done))))); apply vL_nil; apply seqP_normal; apply vC_seq; apply vC_region; ((apply vL_val); (case h => ((apply opv_fieldAddr); exact rfl))); ((apply vL_val); (case h => ((apply opv_loadb1); exact rfl; exact rfl; infer_instance; exact rfl))); ((apply vL_val); (case h => ((apply opv_E); exact rfl))))
    refine vL_gen (fun w' => At (ChA_i rb { d with rcv := r } * (TksA ((C.tk s).set i { t with fired := true }) * C.rs s) * Pt b3 (reE x) 157) w F w') ((tk_fire (S5.ac (show _ = TksA (C.tk s) * (Pt b3 (reE x) 157 * (ChA_i rb { d with rcv := r } * C.rs s)) by ac_rfl)) ht).ac (by ac_rfl)) ?_
    intro w6 S6
    have h36 := S6.swap.blk
    rw [reE, hxk, hfv] at h36
    clear htb h3 S5
    skip
    refine vL_callF rfl (spg.at S6) rfl ?_
    intro _ w7 S7
    have h37 := S7.swap.blk
    rw [reE, hxk, hfv] at h37
    obtain ⟨F7, m7⟩ := S7.get
    have htb7 := hmid _ _ m7
    rw [hfire] at htb7
    (apply vL_nil; apply seqP_normal; apply vC_region; (iterate 5 (first | ((with_reducible apply vL_val); (case h => ((with_reducible apply opv_E); exact rfl))) | ((with_reducible apply vL_val); (case h => ((with_reducible apply opv_loadb1); exact rfl; exact rfl; assumption; exact rfl))) | ((with_reducible apply vL_val); (case h => ((with_reducible apply opv_fieldAddr); exact rfl))))))
    refine vL_callF rfl (spf.at S7) rfl ?_
    intro _ w8 S8
    obtain ⟨s', S8⟩ := S8.ex
    obtain ⟨⟨hP', hμ'⟩, S8⟩ := (S8.ac (star_assoc _ _ _)).pure
    have S8' : At (ChA_i rb (C.ch s') * (TksA (C.tk s') * C.rs s')) w F w8 := S8.swap.drop
    obtain ⟨j1, j2, j3⟩ := C.mem s' hP'
    have hcl8 := ch_clean_i S8' j1 j2
    rw [j3] at hcl8
    clear S6 S7 S8 htb7 h36 h37
    (apply vL_nil; apply blockP_normal; apply seqP_normal; apply vC_region; ((apply vL_val); (case h => ((apply opv_E); exact rfl))))
    refine vL_callF rfl (hcl8) rfl ?_
    intro _ w9 S9
    (apply vL_nil; apply loopP_normal)
    (with_reducible apply end1); (case hs => ((iterate 35 (first | with_reducible apply same_updN | ((with_reducible refine same_updO ?_ ?_); rotate_left; exact rfl))); ((refine same_upd ?_ ?_); rotate_left; exact rfl); (exact same_mask _ _ _))); (case h1 => (exact norm_eq rfl))
    · exact ⟨s', hP', S9⟩
    · show leastN _ < mm
      rw [← hμ]
      exact Nat.lt_of_le_of_lt (leastN_le ⟨s', hP', S9, rfl⟩) hμ'
  | nil =>
    have hcc : d.cleaned (C.tk s) = d := by rw [← hd]; exact CH.cleaned2 _ _
    have k1' : ∀ x ∈ d.snd, ∃ t ∈ C.tk s, x.k = t.b := fun x hx => by rw [← hd] at hx; exact k1 x (List.mem_filter.1 hx).1
    have hcl3 := ch_clean_i S3 k1' (fun x hx => by rw [hdr] at hx; cases hx)
    rw [ecb, hcc] at hcl3
    (((apply vL_val); (case h => ((apply opv_E); exact rfl))); apply vL_nil; apply seqP_normal; ((apply vC_cond_false); exact rfl); apply vC_exit; apply seqP_exit; apply loopP_exit; apply blockP_exit; apply seqP_normal; (iterate 2 (apply vC_seq)); apply vC_region; ((apply vL_val); (case h => ((apply opv_E); exact rfl))))
    refine vL_callF rfl (hcl3) rfl ?_
    intro _ w4 S4
    rw [← hd] at S4 hdr
    clear S3 hcb3 b2 o2 up2 hcl3 hrc k1' hcc ecb k1 k2 k3
    clear hd
    (apply vL_nil; apply seqP_normal; apply vC_block)
    (apply vC_loop1 9671406538902634888167616 54 (fun _ w' => ∃ s, C.P s ∧ ((C.ch s).cleaned (C.tk s)).rcv = [] ∧ At (ChA_i rb ((C.ch s).cleaned (C.tk s)) * (TksA (C.tk s) * C.rs s)) w F w') (fun _ w' => leastN fun n => ∃ s, C.P s ∧ ((C.ch s).cleaned (C.tk s)).rcv = [] ∧ At (ChA_i rb ((C.ch s).cleaned (C.tk s)) * (TksA (C.tk s) * C.rs s)) w F w' ∧ C.μ s = n)); (case h1 => (exact norm_eq rfl))
    case h0 => exact ⟨s, hP, hdr, S4⟩
    case round =>
    clear S4
    rintro junk2 _ w3 hex2
    obtain ⟨s, hP, hrn, S3, hμ⟩ := leastN_spec (p := fun n => ∃ s, C.P s ∧ ((C.ch s).cleaned (C.tk s)).rcv = [] ∧ At (ChA_i rb ((C.ch s).cleaned (C.tk s)) * (TksA (C.tk s) * C.rs s)) w F w3 ∧ C.μ s = n) (by obtain ⟨s, h1, h2, h3⟩ := hex2; exact ⟨_, s, h1, h2, h3, rfl⟩)
    generalize hmm : (leastN fun n => ∃ s, C.P s ∧ ((C.ch s).cleaned (C.tk s)).rcv = [] ∧ At (ChA_i rb ((C.ch s).cleaned (C.tk s)) * (TksA (C.tk s) * C.rs s)) w F w3 ∧ C.μ s = n) = mm at hμ ⊢
    obtain ⟨k1, k2, k3⟩ := C.mem s hP
    have hcb3 := ch_blk_i S3
    have ecb : ((C.ch s).cleaned (C.tk s)).cb = c.cb := k3
    have hsn := C.snd s
    have hfn := C.fin s hP hrn
    generalize hd : (C.ch s).cleaned (C.tk s) = d at *
    rw [chL_i, ecb] at hcb3
    obtain ⟨v2, b2, o2, n2, up2⟩ := ch_snd_i S3
    ((iterate 2 (apply vC_seq)); apply vC_region; (iterate 2 (((apply vL_val); (case h => ((apply opv_E); exact rfl))))); ((apply vL_val); (case h => ((apply opv_fieldAddr); exact rfl))); ((apply vL_val); (case h => ((apply opv_loadb1); exact rfl; exact rfl; assumption; exact rfl))))
    refine vL_callF rfl (q_len_snd d.sq v2 d.snd w3 b2 o2) rfl ?_
    rintro _ _ ⟨rfl, rfl⟩
    cases hds : d.snd with
    | cons x r =>
      obtain ⟨i, t, g, g2, cap, cap2, Mid, ht, hxk, ⟨hg⟩, ⟨hg2⟩, hfv, hfire, spg, hmid, spf⟩ := hsn x r hP hrn hds
      rw [hds] at o2
      have hxf := x.f.2
      have htf := t.fire.2
      haveI := hg
      haveI := hg2
      have hpos : (0 : Int) < ((x :: r).length : Int) := by rw [List.length_cons]; omega
      (((apply vL_val); (case h => ((apply opv_E); exact rfl))); apply vL_nil; apply seqP_normal; (refine vC_cond_dec rfl (fun _ => ?_) (fun h => by omega)); apply vC_skip; apply seqP_normal; apply vC_seq; apply vC_block; apply vC_seq; apply vC_region; (iterate 2 (((apply vL_val); (case h => ((apply opv_E); exact rfl))))); ((apply vL_val); (case h => ((apply opv_fieldAddr); exact rfl))); ((apply vL_val); (case h => ((apply opv_loadb1); exact rfl; exact rfl; assumption; exact rfl))))
      refine vL_callF rfl (q_pop_snd d.sq v2 (x :: r) w3 b2 o2 n2) rfl ?_
      rintro _ w4 ⟨lv', xs', hf4, hb4, ho4, hown4, hone4, ⟨x', hx', rfl⟩ | ⟨hx', _, _⟩⟩
      rotate_left
      · cases hx'
      cases hx'
      have S4 := up2 _ _ _ hf4 hb4 ho4 hone4 (fun k hk => .inl (by rw [← hown4]; exact hk))
      (((iterate 3 (((apply vL_val); (case h => ((apply opv_E); exact rfl))))); ((apply vL_val); (case h => (apply opw_alloc))); ((apply vL_skip); (case h => ((apply ops_storen); exact norm_eq rfl; exact norm_eq rfl; exact rfl; exact (fun u hu => EncOk.one _ u hu); infer_instance; (first | decide | exact of_decide_eq_true rfl | (simp; done))))); ((apply vL_val); (case h => ((apply opv_E); exact rfl))); apply vL_nil)); with_reducible apply seqP_normal
      ((apply vC_seq; apply vC_region))
      refine vL_gen (fun w' => At (Pt w4.heap.size (seE x) 154 * (ChA_i rb { d with snd := r } * (TksA (C.tk s) * C.rs s))) w F w') (S4.new (by (apply Fr.allocSet; exact Fr.refl _ _)) (Blk.as inferInstance rfl) (Nat.le_refl _)) ?_
      intro w5 S5
      generalize w4.heap.size = b3 at S5 ⊢
      clear S3 S4 hcb3 b2 o2 up2 hb4 ho4
      have h3 := S5.blk
      have htb := (S5.ac (show _ = TksA (C.tk s) * (Pt b3 (seE x) 154 * (ChA_i rb { d with snd := r } * C.rs s)) by ac_rfl)).tk (List.mem_of_getElem? ht)
      rw [seE, hxk, hfv] at h3
      have ne3 : b3 ≠ t.b := Blk.ne_type h3 htb (by decide)
      haveI : NeB b3 t.b := ⟨ne3⟩
      (((apply vL_val); (case h => ((apply opv_fieldAddr); exact rfl))); ((apply vL_val); (case h => ((apply opv_loadb1); exact rfl; exact rfl; assumption; exact rfl))); ((apply vL_val); (case h => ((apply opv_E); exact rfl))); ((apply vL_val); (case h => ((apply opv_fieldAddr); exact rfl))); ((apply vL_skip); (case h => ((apply ops_store1); exact norm_eq rfl; exact norm_eq rfl; (first | rfl | assumption); assumption; (first | decide | exact of_decide_eq_true rfl | (simp; done))))); apply vL_nil; apply seqP_normal; apply vC_seq; apply vC_region; ((apply vL_val); (case h => ((apply opv_fieldAddr); exact rfl))); ((apply vL_val); (case h => ((apply opv_loadb1); exact rfl; exact rfl; infer_instance; exact rfl))))
      refine vL_gen (fun w' => At (ChA_i rb { d with snd := r } * (TksA ((C.tk s).set i { t with fired := true }) * C.rs s) * Pt b3 (seE x) 154) w F w') ((tk_fire (S5.ac (show _ = TksA (C.tk s) * (Pt b3 (seE x) 154 * (ChA_i rb { d with snd := r } * C.rs s)) by ac_rfl)) ht).ac (by ac_rfl)) ?_
      intro w6 S6
      have h36 := S6.swap.blk
      rw [seE, hxk, hfv] at h36
      clear htb h3 S5
      skip
      refine vL_callF rfl (spg.at S6) rfl ?_
      intro _ w7 S7
      have h37 := S7.swap.blk
      rw [seE, hxk, hfv] at h37
      obtain ⟨F7, m7⟩ := S7.get
      have htb7 := hmid _ _ m7
      rw [hfire] at htb7
      (apply vL_nil; apply seqP_normal; apply vC_region; (iterate 5 (first | ((with_reducible apply vL_val); (case h => ((with_reducible apply opv_E); exact rfl))) | ((with_reducible apply vL_val); (case h => ((with_reducible apply opv_loadb1); exact rfl; exact rfl; assumption; exact rfl))) | ((with_reducible apply vL_val); (case h => ((with_reducible apply opv_fieldAddr); exact rfl))))))
      refine vL_callF rfl (spf.at S7) rfl ?_
      intro _ w8 S8
      obtain ⟨s', S8⟩ := S8.ex
      obtain ⟨⟨hP', hrn', hμ'⟩, S8⟩ := (S8.ac (star_assoc _ _ _)).pure
      have S8' : At (ChA_i rb (C.ch s') * (TksA (C.tk s') * C.rs s')) w F w8 := S8.swap.drop
      obtain ⟨j1, j2, j3⟩ := C.mem s' hP'
      have hcl8 := ch_clean_i S8' j1 j2
      rw [j3] at hcl8
      clear S6 S7 S8 htb7 h36 h37
      (apply vL_nil; apply blockP_normal; apply seqP_normal; apply vC_region; ((apply vL_val); (case h => ((apply opv_E); exact rfl))))
      refine vL_callF rfl (hcl8) rfl ?_
      intro _ w9 S9
      (apply vL_nil; apply loopP_normal)
      (with_reducible apply end1); (case hs => ((iterate 33 (first | with_reducible apply same_updN | ((with_reducible refine same_updO ?_ ?_); rotate_left; exact rfl))); ((refine same_upd ?_ ?_); rotate_left; exact rfl); (exact same_mask _ _ _))); (case h1 => (exact norm_eq rfl))
      · exact ⟨s', hP', hrn', S9⟩
      · show leastN _ < mm
        rw [← hμ]
        exact Nat.lt_of_le_of_lt (leastN_le ⟨s', hP', hrn', S9, rfl⟩) hμ'
    | nil =>
      have hB := hfn hds
      (((apply vL_val); (case h => ((apply opv_E); exact rfl))); apply vL_nil; apply seqP_normal; ((apply vC_cond_false); exact rfl); apply vC_exit; apply seqP_exit; apply loopP_exit; apply blockP_exit; apply seqP_normal; apply vC_seq; apply vC_region; ((apply vL_val); (case h => ((apply opv_E); exact rfl))); apply vL_nil; apply seqP_normal; apply vC_ret)
      (apply ret1; (case h1 => (exact norm_eq rfl)))
      exact (S3.weak hB).add rfl
end
end Go.Proofs.YtbaidcnalkdhgaaGreat
set_option maxRecDepth 100000
namespace Go.Proofs.YtbaidcnalkdhgaaGreat
open Go Go.Eng
abbrev Bx := Nat × List Value × TypeId
theorem _root_.Go.Eng.Sp.frame {P : Program} {g : FuncId} {args : Array Value} {A R : Asr} {B : Value → Asr} [Lcl R] (h : Sp P g args A B) : Sp P g args (A * R) (fun u => B u * R) := fun w F hA => h.at (At.init hA)
theorem _root_.Go.Eng.Sp.cong {P : Program} {g : FuncId} {args : Array Value} {A A' : Asr} {B B' : Value → Asr} (h : Sp P g args A B) (ha : A' = A) (hb : ∀ u x F, B u x F → B' u x F) : Sp P g args A' B' := fun w F hA => (h w F (ha ▸ hA)).mono fun u w' S => S.weak (hb u)
/-- a waiting task's own boxes: told (s: a sender; r: a receiver, with the value) -/
inductive Gh where
  | none
  | s (thb tkb tb n : Nat) (ok : Bool)
  | r (thb tkb vx tb n : Nat) (v : Int) (ok : Bool)
def GhA : Gh → Asr
  | .none => Emp
  | .s _ _ tb _ ok => Pt tb [.bool ok] 4
  | .r _ _ vx tb _ v ok => Pt vx [.int .i64 v] 3 * Pt tb [.bool ok] 4
instance instLclGhA (g : Gh) : Lcl (GhA g) := by cases g <;> (unfold GhA; infer_instance)
def GhsA (gs : List Gh) : Asr := Big (gs.map GhA)
instance instLclGhsA (gs : List Gh) : Lcl (GhsA gs) := by unfold GhsA; infer_instance
theorem ghs_pick {gs : List Gh} {i : Nat} {g : Gh} (h : gs[i]? = some g) : GhsA gs = GhA g * GhsA (gs.eraseIdx i) := big_map_pick GhA h
theorem ghs_put {gs : List Gh} {i : Nat} (g : Gh) (h : i < gs.length) : GhsA (gs.set i g) = GhA g * GhsA (gs.eraseIdx i) := big_map_put GhA g h
theorem ghs_snoc (gs : List Gh) : GhsA (gs ++ [.none]) = GhsA gs := by unfold GhsA; rw [big_map_snoc]; exact emp_star _
theorem send3 (tb : Nat) (b ok : Bool) : Sp Tryz.prog 93 #[.bool ok, pt tb] (Pt tb [.bool b] 4) (fun _ => Pt tb [.bool ok] 4) := by
  intro w F hA
  have S : At (Pt tb [.bool b] 4) w F w := At.init hA
  have S1 := S.ac (star_emp _).symm
  have hb := S1.blk
  refine rets_of Tryz.func93 rfl Tryz.ntmps93 rfl rfl (by kernel_rfl) ?_
  (apply vC_region; ((apply vL_val); (case h => ((apply opv_E); exact rfl))); ((apply vL_skip); (case h => ((apply ops_store1); exact norm_eq rfl; exact norm_eq rfl; (first | rfl | assumption); assumption; (first | decide | exact of_decide_eq_true rfl | (simp; done))))); apply vL_nil)
  (first | apply ret0 | apply ret0n)
  exact (S1.set (cs' := [.bool ok])).ac (star_emp _)
theorem recv3 (vx tb : Nat) (v0 v : Int) (b ok : Bool) : Sp Tryz.prog 96 #[.int .i64 v, .bool ok, pt vx, pt tb] (Pt vx [.int .i64 v0] 3 * Pt tb [.bool b] 4) (fun _ => Pt vx [.int .i64 v] 3 * Pt tb [.bool ok] 4) := by
  intro w F hA
  have S : At (Pt vx [.int .i64 v0] 3 * Pt tb [.bool b] 4) w F w := At.init hA
  have hb := S.blk
  have hb2 := S.swap.blk
  haveI n1 : NeB tb vx := ⟨Blk.ne_type hb2 hb (by decide)⟩
  haveI n2 : NeB vx tb := ⟨Blk.ne_type hb hb2 (by decide)⟩
  refine rets_of Tryz.func96 rfl Tryz.ntmps96 rfl rfl (by kernel_rfl) ?_
  (apply vC_region; (iterate 2 (((apply vL_val); (case h => ((apply opv_E); exact rfl))))); ((apply vL_skip); (case h => ((apply ops_store1); exact norm_eq rfl; exact norm_eq rfl; (first | rfl | assumption); assumption; (first | decide | exact of_decide_eq_true rfl | (simp; done))))); ((apply vL_skip); (case h => ((apply ops_store1); exact norm_eq rfl; exact norm_eq rfl; (first | rfl | assumption); infer_instance; (first | decide | exact of_decide_eq_true rfl | (simp; done))))); apply vL_nil)
  (first | apply ret0 | apply ret0n)
  exact (((S.set (cs' := [.int .i64 v])).swap).set (cs' := [.bool ok])).swap
section
variable {w w' w0 : World} {F F0 : Nat → Prop} {rb : Nat} {now : Option Nat} {rest : Int} {ready : List Int} {ts : List (Nat × TK)} {R : Asr}
/-- a ticket's fire: its task is woken -/
def woken (x : Nat × TK) (fb yb : Nat) : Nat × TK := (x.1, { x.2 with next := ⟨.func (.func 156) #[] #[pt fb, pt yb], rfl⟩, parked := false })
def wokenK (x : Nat × TK) (fb yb : Nat) (kb : List Bx) : List Bx := (fb, [x.2.wake.1], 135) :: (yb, [.int .i64 0], 3) :: kb
theorem fire_s (tkb : Nat) (kb : List Bx) {i : Nat} {x : Nat × TK} (hk : (tkb, [pt x.1], 34) ∈ kb) (hx : ts[i]? = some x) (hl : ready.length ≤ 256) (hp : x.2.parked = true) :
    Sp Tryz.prog 92 #[pt tkb] (RtA rb now rest ready ts * Bxl kb) (fun _ => Ex fun fb : Nat => Ex fun yb : Nat => RtA rb now rest (readyL ready i) (ts.set i (woken x fb yb)) * Bxl (wokenK x fb yb kb)) := by
  intro w F hA
  have S : At (RtA rb now rest ready ts * Bxl kb) w F w := At.init hA
  have hb := (S.swap).bx hk
  refine rets_of Tryz.func92 rfl Tryz.ntmps92 rfl rfl (by kernel_rfl) ?_
  (apply vC_region; ((apply vL_val); (case h => ((apply opv_loadb1); exact rfl; exact rfl; assumption; exact rfl))))
  refine vL_callF rfl (wakeA S hx 0 hl hp) rfl ?_
  rintro _ w1 ⟨rfl, fb, yb, S1⟩
  (apply vL_nil)
  (first | apply ret0 | apply ret0n)
  obtain ⟨F1, a, hf, hn⟩ := S1.out
  exact ⟨F1, ⟨fb, yb, a⟩, hf, hn⟩
theorem fire_r (tkb : Nat) (kb : List Bx) {i : Nat} {x : Nat × TK} (hk : (tkb, [pt x.1], 34) ∈ kb) (hx : ts[i]? = some x) (hl : ready.length ≤ 256) (hp : x.2.parked = true) :
    Sp Tryz.prog 95 #[pt tkb] (RtA rb now rest ready ts * Bxl kb) (fun _ => Ex fun fb : Nat => Ex fun yb : Nat => RtA rb now rest (readyL ready i) (ts.set i (woken x fb yb)) * Bxl (wokenK x fb yb kb)) := by
  intro w F hA
  have S : At (RtA rb now rest ready ts * Bxl kb) w F w := At.init hA
  have hb := (S.swap).bx hk
  refine rets_of Tryz.func95 rfl Tryz.ntmps95 rfl rfl (by kernel_rfl) ?_
  (apply vC_region; ((apply vL_val); (case h => ((apply opv_loadb1); exact rfl; exact rfl; assumption; exact rfl))))
  refine vL_callF rfl (wakeA S hx 0 hl hp) rfl ?_
  rintro _ w1 ⟨rfl, fb, yb, S1⟩
  (apply vL_nil)
  (first | apply ret0 | apply ret0n)
  obtain ⟨F1, a, hf, hn⟩ := S1.out
  exact ⟨F1, ⟨fb, yb, a⟩, hf, hn⟩
end
/-- what calls a task's then-function: of a sender, of a receiver -/
theorem send1_calls {w : World} {thb tb : Nat} {g : FuncId} {cap : List Value} {n : Int} {ok : Bool} [FnOk Tryz.prog g] (hb : Blk w.heap thb [.func (.func g) #[] cap.toArray] 36) (ht : Blk w.heap tb [.bool ok] 4) {R : Value → World → Prop} (h : Rets Tryz.prog g (.bool ok :: cap).toArray w fun _ w' => R (.tuple #[]) w') :
    Rets Tryz.prog 90 #[.int .i64 n, pt thb, pt tb] w R := by
  refine rets_of Tryz.func90 rfl Tryz.ntmps90 rfl rfl (by kernel_rfl) ?_
  (apply vC_region; (iterate 2 (((apply vL_val); (case h => ((apply opv_loadb1); exact rfl; exact rfl; assumption; exact rfl))))))
  refine vL_callF rfl (h) rfl ?_
  intro u w' hR
  (apply vL_nil)
  (first | apply ret0 | apply ret0n)
  exact hR
theorem recv1_calls {w : World} {thb vx tb : Nat} {g : FuncId} {cap : List Value} {n v : Int} {ok : Bool} [FnOk Tryz.prog g] (hb : Blk w.heap thb [.func (.func g) #[] cap.toArray] 39) (hv : Blk w.heap vx [.int .i64 v] 3) (ht : Blk w.heap tb [.bool ok] 4) {R : Value → World → Prop} (h : Rets Tryz.prog g (.int .i64 v :: .bool ok :: cap).toArray w fun _ w' => R (.tuple #[]) w') :
    Rets Tryz.prog 94 #[.int .i64 n, pt thb, pt vx, pt tb] w R := by
  refine rets_of Tryz.func94 rfl Tryz.ntmps94 rfl rfl (by kernel_rfl) ?_
  (apply vC_region; (iterate 3 (((apply vL_val); (case h => ((apply opv_loadb1); exact rfl; exact rfl; assumption; exact rfl))))))
  refine vL_callF rfl (h) rfl ?_
  intro u w' hR
  (apply vL_nil)
  (first | apply ret0 | apply ret0n)
  exact hR
theorem wake1_calls {w : World} {fb yb : Nat} {g : FuncId} {cap : List Value} {n : Int} [FnOk Tryz.prog g] (hb : Blk w.heap fb [.func (.func g) #[] cap.toArray] 135) (hy : Blk w.heap yb [.int .i64 n] 3) {R : Value → World → Prop} (h : Rets Tryz.prog g (.int .i64 n :: cap).toArray w fun _ w' => R (.tuple #[]) w') :
    Rets Tryz.prog 156 #[pt fb, pt yb] w R := by
  refine rets_of Tryz.func156 rfl Tryz.ntmps156 rfl rfl (by kernel_rfl) ?_
  (apply vC_region; (iterate 2 (((apply vL_val); (case h => ((apply opv_loadb1); exact rfl; exact rfl; assumption; exact rfl))))))
  refine vL_callF rfl (h) rfl ?_
  intro u w' hR
  (apply vL_nil)
  (first | apply ret0 | apply ret0n)
  exact hR
theorem spawn1_calls {w : World} {fb tx tb : Nat} {g : FuncId} {cap : List Value} [FnOk Tryz.prog g] (hb : Blk w.heap fb [.func (.func g) #[] cap.toArray] 37) (ht : Blk w.heap tx [pt tb] 34) {R : Value → World → Prop} (h : Rets Tryz.prog g (pt tb :: cap).toArray w fun _ w' => R (.tuple #[]) w') :
    Rets Tryz.prog 98 #[pt fb, pt tx] w R := by
  refine rets_of Tryz.func98 rfl Tryz.ntmps98 rfl rfl (by kernel_rfl) ?_
  (apply vC_region; (iterate 2 (((apply vL_val); (case h => ((apply opv_loadb1); exact rfl; exact rfl; assumption; exact rfl))))))
  refine vL_callF rfl (h) rfl ?_
  intro u w' hR
  (apply vL_nil)
  (first | apply ret0 | apply ret0n)
  exact hR
end Go.Proofs.YtbaidcnalkdhgaaGreat
set_option maxRecDepth 100000
namespace Go.Proofs.YtbaidcnalkdhgaaGreat
open Go Go.Eng
/-- what becomes of a task: over; running; in the midst of a send, a receive; ready (told by a send, a receive; or by its law); waiting (to send, to receive; or by its law) -/
inductive St (κ : Type) where
  | over
  | run
  | mS (k : κ) (tkb tb : Nat)
  | mR (k : κ) (tkb vx tb : Nat)
  | rdyS (k : κ) (ok : Bool)
  | rdyR (k : κ) (v : Int) (ok : Bool)
  | rdyY (k : κ)
  | wS (k : κ) (j : Nat) (v : Int)
  | wR (k : κ) (j : Nat)
  | wX (k : κ)
def St.rdy {κ : Type} : St κ → Bool
  | .rdyS _ _ => true
  | .rdyR _ _ _ => true
  | .rdyY _ => true
  | _ => false
def St.isRun {κ : Type} : St κ → Bool
  | .run => true
  | _ => false
def St.parked {κ : Type} : St κ → Bool
  | .mS _ _ _ => true
  | .mR _ _ _ _ => true
  | .wS _ _ _ => true
  | .wR _ _ => true
  | .wX _ => true
  | _ => false
def St.isOver {κ : Type} : St κ → Bool
  | .over => true
  | _ => false
def St.waits {κ : Type} : St κ → Bool
  | .wS _ _ _ => true
  | .wR _ _ => true
  | _ => false
structure C16 where
  cb : Nat
  size : Int
  buf : List Int
  snd : List Nat
  rcv : List Nat
  closed : Bool
structure PS (κ : Type) where
  sts : List (St κ)
  tbs : List Nat
  cs : List C16
  line : List Int
/-- a law's own functions: what goes on behind a send, a receive; a task's next turn; what a task of its own kind waits with -/
structure LawP (κ : Type) where
  th : κ → List Bx → Value → Prop
  tr : κ → List Bx → Value → Prop
  yd : κ → Nat → List Bx → Value → Prop
  xd : κ → Nat → List Bx → Value → Prop
  mth : ∀ {k kb kb' v}, (∀ b ∈ kb, b ∈ kb') → th k kb v → th k kb' v
  mtr : ∀ {k kb kb' v}, (∀ b ∈ kb, b ∈ kb') → tr k kb v → tr k kb' v
  myd : ∀ {k t kb kb' v}, (∀ b ∈ kb, b ∈ kb') → yd k t kb v → yd k t kb' v
  mxd : ∀ {k t kb kb' v}, (∀ b ∈ kb, b ∈ kb') → xd k t kb v → xd k t kb' v
/-- the memory's side -/
structure Q16 where
  ts : List (Nat × TK)
  cs : List CH
  tks : List TKT
  ghs : List Gh
section
variable {κ : Type}
def MidS (L : LawP κ) (kb : List Bx) (x : Nat × TK) (g : Gh) (k : κ) (wk : Value) (n : Nat) (ok : Bool) : Prop :=
  ∃ (thb tkb tb : Nat) (f : Value), g = .s thb tkb tb n ok ∧ wk = .func (.func 90) #[] #[pt thb, pt tb] ∧ (thb, [f], 36) ∈ kb ∧ L.th k kb f ∧ (tkb, [pt x.1], 34) ∈ kb
def MidR (L : LawP κ) (kb : List Bx) (x : Nat × TK) (g : Gh) (k : κ) (wk : Value) (n : Nat) (v : Int) (ok : Bool) : Prop :=
  ∃ (thb tkb vx tb : Nat) (f : Value), g = .r thb tkb vx tb n v ok ∧ wk = .func (.func 94) #[] #[pt thb, pt vx, pt tb] ∧ (thb, [f], 39) ∈ kb ∧ L.tr k kb f ∧ (tkb, [pt x.1], 34) ∈ kb
/-- the next turn of a woken task -/
def Woken (kb : List Bx) (nx wk : Value) : Prop := ∃ fb yb : Nat, nx = .func (.func 156) #[] #[pt fb, pt yb] ∧ (fb, [wk], 135) ∈ kb ∧ (yb, [.int .i64 0], 3) ∈ kb
def TktS (tks : List TKT) (g : Gh) (n : Nat) : Prop := ∃ (thb tkb tb : Nat) (ok : Bool) (t : TKT), g = .s thb tkb tb n ok ∧ tks[n]? = some t ∧ t.fired = false ∧ t.fire.1 = .func (.func 92) #[] #[pt tkb]
def TktR (tks : List TKT) (g : Gh) (n : Nat) : Prop := ∃ (thb tkb vx tb : Nat) (v : Int) (ok : Bool) (t : TKT), g = .r thb tkb vx tb n v ok ∧ tks[n]? = some t ∧ t.fired = false ∧ t.fire.1 = .func (.func 95) #[] #[pt tkb]
/-- a task -/
def RelT (L : LawP κ) (kb : List Bx) (tks : List TKT) (x : Nat × TK) (g : Gh) : St κ → Prop
  | .over => True
  | .run => True
  | .mS k tkb tb => ∃ n ok, MidS L kb x g k x.2.wake.1 n ok ∧ ∃ thb, g = .s thb tkb tb n ok
  | .mR k tkb vx tb => ∃ n v ok, MidR L kb x g k x.2.wake.1 n v ok ∧ ∃ thb, g = .r thb tkb vx tb n v ok
  | .rdyS k ok => ∃ n wk, MidS L kb x g k wk n ok ∧ Woken kb x.2.next.1 wk
  | .rdyR k v ok => ∃ n wk, MidR L kb x g k wk n v ok ∧ Woken kb x.2.next.1 wk
  | .rdyY k => L.yd k x.1 kb x.2.next.1
  | .wS k _ _ => ∃ n ok, MidS L kb x g k x.2.wake.1 n ok ∧ TktS tks g n
  | .wR k _ => ∃ n v ok, MidR L kb x g k x.2.wake.1 n v ok ∧ TktR tks g n
  | .wX k => L.xd k x.1 kb x.2.wake.1
/-- which ticket a task's box speaks of -/
def Gh.tkt : Gh → Option Nat
  | .none => Option.none
  | .s _ _ _ n _ => some n
  | .r _ _ _ _ n _ _ => some n
def EntS (q : Q16) (S : PS κ) (j : Nat) (e : SE) (m : Nat) : Prop := ∃ (k : κ) (v : Int) (thb tkb tb n : Nat) (ok : Bool) (t : TKT), S.sts[m]? = some (.wS k j v) ∧ q.ghs[m]? = some (.s thb tkb tb n ok) ∧ q.tks[n]? = some t ∧ e.k = t.b ∧ e.v = v ∧ e.f.1 = .func (.func 93) #[] #[pt tb]
def EntR (q : Q16) (S : PS κ) (j : Nat) (e : RE) (m : Nat) : Prop := ∃ (k : κ) (thb tkb vx tb n : Nat) (v : Int) (ok : Bool) (t : TKT), S.sts[m]? = some (.wR k j) ∧ q.ghs[m]? = some (.r thb tkb vx tb n v ok) ∧ q.tks[n]? = some t ∧ e.k = t.b ∧ e.f.1 = .func (.func 96) #[] #[pt vx, pt tb]
/-- two lists go together -/
def Zip {α β : Type} (R : α → β → Prop) (l : List α) (l' : List β) : Prop := l.length = l'.length ∧ ∀ (p : Nat) a b, l[p]? = some a → l'[p]? = some b → R a b
structure RelC (q : Q16) (S : PS κ) (j : Nat) (c : CH) (d : C16) : Prop where
  cb : c.cb = d.cb
  size : c.size = d.size
  buf : c.buf = d.buf
  closed : c.closed = d.closed
  room : (d.buf.length : Int) ≤ d.size ∧ d.size ≤ 64
  nds : d.snd.Nodup
  ndr : d.rcv.Nodup
  snd : Zip (EntS q S j) c.snd d.snd
  rcv : Zip (EntR q S j) c.rcv d.rcv
structure PRel (L : LawP κ) (q : Q16) (nowi : Option Nat) (kb : List Bx) (S : PS κ) : Prop where
  lt : q.ts.length = S.sts.length
  lg : q.ghs.length = S.sts.length
  lc : q.cs.length = S.cs.length
  tbs : S.tbs = q.ts.map (·.1)
  few : S.sts.length ≤ 200
  tk : ∀ (i : Nat) x g s, q.ts[i]? = some x → q.ghs[i]? = some g → S.sts[i]? = some s → RelT L kb q.tks x g s ∧ x.2.parked = s.parked ∧ x.2.over = s.isOver
  said : ∀ (i : Nat) x s, nowi = some i → q.ts[i]? = some x → S.sts[i]? = some s → x.2.said = !s.isRun
  run : ∀ (i : Nat) s, S.sts[i]? = some s → s.isRun = true → nowi = some i
  nowok : ∀ i, nowi = some i → i < S.sts.length
  ch : ∀ (j : Nat) c d, q.cs[j]? = some c → S.cs[j]? = some d → RelC q S j c d
  nd : S.line.Nodup
  nn : ∀ z ∈ S.line, 0 ≤ z
  rdy : ∀ i : Nat, ((i : Int) ∈ S.line ↔ ∃ s, S.sts[i]? = some s ∧ s.rdy = true)
  tn : ∀ (i j : Nat) t u, q.tks[i]? = some t → q.tks[j]? = some u → t.b = u.b → i = j
  dn : ∀ (i m : Nat) g g' s s' n, q.ghs[i]? = some g → q.ghs[m]? = some g' → S.sts[i]? = some s → S.sts[m]? = some s' → s.waits = true → s'.waits = true → g.tkt = some n → g'.tkt = some n → i = m
  nov : ∀ i s, nowi = some i → S.sts[i]? = some s → s.isOver = false
def nowB (S : PS κ) (nowi : Option Nat) : Option Nat := nowi.bind fun i => S.tbs[i]?
def PWA (L : LawP κ) (rb : Nat) (nowi : Option Nat) (rest : Int) (kb : List Bx) (S : PS κ) : Asr := Ex fun q : Q16 => Pu (PRel L q nowi kb S) * (RtA rb (nowB S nowi) rest S.line q.ts * (Big (q.cs.map (ChA_i rb)) * (TksA q.tks * (Bxl kb * GhsA q.ghs))))
instance instLclPWA (L : LawP κ) (rb : Nat) (nowi : Option Nat) (rest : Int) (kb : List Bx) (S : PS κ) : Lcl (PWA L rb nowi rest kb S) := by unfold PWA; infer_instance
variable {L : LawP κ} {q q' : Q16} {nowi : Option Nat} {kb kb' : List Bx} {S S' : PS κ} {rb : Nat} {rest : Int} {w0 w w' : World} {F0 : Nat → Prop} {R : Asr}
theorem RelT.mono {tks : List TKT} {x : Nat × TK} {g : Gh} {s : St κ} (h : ∀ b ∈ kb, b ∈ kb') (r : RelT L kb tks x g s) : RelT L kb' tks x g s := by
  have hS : ∀ {k wk n ok}, MidS L kb x g k wk n ok → MidS L kb' x g k wk n ok := fun ⟨a, b, c, f, h1, h2, h3, h4, h5⟩ => ⟨a, b, c, f, h1, h2, h _ h3, L.mth h h4, h _ h5⟩
  have hR : ∀ {k wk n v ok}, MidR L kb x g k wk n v ok → MidR L kb' x g k wk n v ok := fun ⟨a, b, c, d, f, h1, h2, h3, h4, h5⟩ => ⟨a, b, c, d, f, h1, h2, h _ h3, L.mtr h h4, h _ h5⟩
  have hW : ∀ {nx wk}, Woken kb nx wk → Woken kb' nx wk := fun ⟨a, b, h1, h2, h3⟩ => ⟨a, b, h1, h _ h2, h _ h3⟩
  cases s with
  | over => trivial
  | run => trivial
  | mS k a b => obtain ⟨n, ok, r, r'⟩ := r; exact ⟨n, ok, hS r, r'⟩
  | mR k a b c => obtain ⟨n, v, ok, r, r'⟩ := r; exact ⟨n, v, ok, hR r, r'⟩
  | rdyS k ok => obtain ⟨n, wk, r, r'⟩ := r; exact ⟨n, wk, hS r, hW r'⟩
  | rdyR k v ok => obtain ⟨n, wk, r, r'⟩ := r; exact ⟨n, wk, hR r, hW r'⟩
  | rdyY k => exact L.myd h r
  | wS k j v => obtain ⟨n, ok, r, r'⟩ := r; exact ⟨n, ok, hS r, r'⟩
  | wR k j => obtain ⟨n, v, ok, r, r'⟩ := r; exact ⟨n, v, ok, hR r, r'⟩
  | wX k => exact L.mxd h r
theorem PRel.mono (h : ∀ b ∈ kb, b ∈ kb') (p : PRel L q nowi kb S) : PRel L q nowi kb' S :=
  ⟨p.lt, p.lg, p.lc, p.tbs, p.few, fun i x g s hx hg hs => ⟨(p.tk i x g s hx hg hs).1.mono h, (p.tk i x g s hx hg hs).2⟩, p.said, p.run, p.nowok, p.ch, p.nd, p.nn, p.rdy, p.tn, p.dn, p.nov⟩
theorem pw_open (S1 : At (PWA L rb nowi rest kb S * R) w0 F0 w) : ∃ q, PRel L q nowi kb S ∧ At (RtA rb (nowB S nowi) rest S.line q.ts * (Big (q.cs.map (ChA_i rb)) * (TksA q.tks * (Bxl kb * (GhsA q.ghs * R))))) w0 F0 w := by
  unfold PWA at S1
  obtain ⟨q, S1⟩ := S1.ex
  obtain ⟨hp, S1⟩ := (S1.ac (star_assoc _ _ _)).pure
  exact ⟨q, hp, S1.ac (by ac_rfl)⟩
theorem pw_shut (hp : PRel L q nowi kb S) (S1 : At (RtA rb (nowB S nowi) rest S.line q.ts * (Big (q.cs.map (ChA_i rb)) * (TksA q.tks * (Bxl kb * (GhsA q.ghs * R))))) w0 F0 w) : At (PWA L rb nowi rest kb S * R) w0 F0 w := by
  unfold PWA
  refine At.intro q ?_
  exact ((S1.add hp).ac (by ac_rfl))
/-- a box of the law's own joins the frozen ones -/
theorem pw_box {b : Nat} {cs : List Value} {T : TypeId} (S1 : At (Pt b cs T * (PWA L rb nowi rest kb S * R)) w0 F0 w) : At (PWA L rb nowi rest ((b, cs, T) :: kb) S * R) w0 F0 w := by
  obtain ⟨q, hp, S2⟩ := pw_open (S1.ac (show _ = PWA L rb nowi rest kb S * (Pt b cs T * R) by ac_rfl))
  refine pw_shut (hp.mono (fun x hx => List.mem_cons_of_mem _ hx)) ?_
  rw [bxl_cons]
  exact S2.ac (by ac_rfl)
theorem pw_bx {b : Nat} {cs : List Value} {T : TypeId} (S1 : At (PWA L rb nowi rest kb S * R) w0 F0 w) (h : (b, cs, T) ∈ kb) : Blk w.heap b cs T := by
  obtain ⟨q, hp, S2⟩ := pw_open S1
  exact (S2.ac (show _ = Bxl kb * (RtA rb (nowB S nowi) rest S.line q.ts * (Big (q.cs.map (ChA_i rb)) * (TksA q.tks * (GhsA q.ghs * R)))) by ac_rfl)).bx h
end
end Go.Proofs.YtbaidcnalkdhgaaGreat
