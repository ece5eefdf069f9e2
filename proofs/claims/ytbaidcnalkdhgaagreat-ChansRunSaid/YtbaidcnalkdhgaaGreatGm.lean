/- Layers 16 to 18: the document's machine: Recv. Layers 16 to 18: the document's machine: Close. Layers 16 to 18: the document's machine: choose. Layers 16 to 18: the document's machine: what a task does (but for sleeps and stops). -/
import Derived.Test.YtbaidcnalkdhgaaGreatGi
import Derived.Test.YtbaidcnalkdhgaaGreatEq
set_option maxRecDepth 100000
namespace Go.Proofs.YtbaidcnalkdhgaaGreat
open Go Go.Eng
section
variable {w w0 : World} {F0 : Nat → Prop} {R : Asr} {qb : Nat} {vp : Value} {v : GV} {rows : List RR} {S : MW} {j : Nat} {r : RR}
theorem star_left' (A B C : Asr) : A * (B * C) = B * (A * C) := by ac_rfl
theorem recv_none {d : MC} (hd : S.ch[j]? = some d) (hb : d.buf = []) (hs : d.snd = []) : S.recv j = (S, 0, false) := by
  unfold MW.recv; simp only [hd]; rw [hb, hs]
theorem recv_take {d : MC} {x : Wt} {xs : List Wt} (hd : S.ch[j]? = some d) (hb : d.buf = []) (hs : d.snd = x :: xs) : S.recv j = (S.serve x 0 true, x.v, true) := by
  unfold MW.recv; simp only [hd]; rw [hb, hs]
theorem recv_pop {d : MC} {b : Int} {bs : List Int} (hd : S.ch[j]? = some d) (hb : d.buf = b :: bs) (hs : d.snd = []) : S.recv j = (S.setC j { d with buf := bs }, b, true) := by
  unfold MW.recv; simp only [hd]; rw [hb, hs]
theorem recv_both {d : MC} {b : Int} {bs : List Int} {x : Wt} {xs : List Wt} (hd : S.ch[j]? = some d) (hb : d.buf = b :: bs) (hs : d.snd = x :: xs) : S.recv j = ((S.setC j { d with buf := bs ++ [x.v] }).serve x 0 true, b, true) := by
  unfold MW.recv; simp only [hd]; rw [hb, hs]
set_option maxHeartbeats 4000000 in
theorem g_recv [Lcl R] (hgo : GCh S) (S1 : At (GwA qb vp S * R) w0 F0 w) (hp1 : vp.oneCell' = true) {c : Int} {d : MC} (h0 : 0 ≤ c) (hd : S.ch[c.toNat]? = some d) (hl : S.li.length ≤ 1000000) (hbl : d.buf.length ≤ 1000000) :
    Rets Tryz.prog 192 #[pt qb, .int .i64 c] w fun u w' => u = .tuple #[.int .i64 (S.recv c.toNat).2.1, .bool (S.recv c.toNat).2.2] ∧ At (GwA qb vp (S.recv c.toNat).1 * R) w0 F0 w' := by
  obtain ⟨v, rows, hrows, S2⟩ := gw_open S1
  obtain ⟨r, hr, hrm⟩ := rows_get hrows hd
  have hb := gw_blk S2
  rw [gwL] at hb
  have hch := (gw_ch S2).1.rd
  have hrv := (row_snd hr S2).rd
  have hbo := row_buf hr S2
  have hlr := (List.getElem?_eq_some_iff.1 hr).1
  have hgd := hgo d (List.mem_of_getElem? hd)
  obtain ⟨size, ⟨bv, obv⟩, ⟨sv, osv⟩, ⟨rv, orv⟩, closed, buf, snd, rcv⟩ := r
  obtain rfl : d = ⟨size, buf, snd, rcv, closed⟩ := hrm.symm
  simp only [] at hrv hbl hbo
  have hs2 := hrv.small
  have hbr := hbo.rd
  have hs1 := hbr.small
  refine rets_of Tryz.func192 rfl Tryz.ntmps192 rfl rfl (by kernel_rfl) ?_
  ((iterate 23 (first | with_reducible apply vC_seq | with_reducible apply vC_region | with_reducible apply seqP_normal | (refine vE rfl ?_) | ((with_reducible apply vL_val); (case h => ((with_reducible apply opv_loadb1); exact rfl; exact rfl; assumption; exact rfl))) | (refine vL_val (opv_fieldAddr rfl) ?_) | ((with_reducible apply vL_val); (case h => ((with_reducible apply opv_indexAddr); ((conv => lhs; whnf) <;> exact rfl); exact rfl; assumption; (first | omega | (simp only [List.length_map]; omega)); (first | omega | (simp only [List.length_map]; omega))))) | with_reducible apply vL_nil)); ((apply vL_val); (case h => ((apply opv_ld_el); exact rfl; exact rfl; assumption; assumption; exact rfl))); ((apply vL_val); (case h => ((apply opv_len); ((conv => lhs; whnf) <;> exact rfl); assumption))); (refine vE rfl ?_); apply vL_nil; apply seqP_normal)
  cases buf with
  | nil =>
    have hl0 : ([] : List Int).length = 0 := rfl
    cases snd with
    | nil =>
      have hl1 : ([] : List Wt).length = 0 := rfl
      rw [recv_none hd rfl rfl]
      (((apply vC_cond_false); exact rfl); apply vC_skip; apply seqP_normal; (iterate 2 (apply vC_seq)); apply vC_region; (iterate 2 ((refine vE rfl ?_))); (refine vL_val (opv_fieldAddr rfl) ?_); ((apply vL_val); (case h => ((apply opv_ld_el); exact rfl; exact rfl; assumption; assumption; exact rfl))); ((apply vL_val); (case h => ((apply opv_len); ((conv => lhs; whnf) <;> exact rfl); assumption))); (refine vE rfl ?_); apply vL_nil; apply seqP_normal; ((apply vC_cond_false); exact rfl); apply vC_skip; apply seqP_normal; apply vC_seq; apply vC_region; (iterate 2 ((refine vE rfl ?_))); apply vL_nil; apply seqP_normal; apply vC_ret)
      (apply ret2; (case h1 => (exact norm_eq rfl)); (case h2 => (exact norm_eq rfl)))
      exact ⟨rfl, S1⟩
    | cons x xs =>
      rw [recv_take hd rfl rfl]
      have hx0 : (x :: xs)[(0 : Int).toNat]? = some x := rfl
      have hlx : (x :: xs).length = xs.length + 1 := rfl
      (((apply vC_cond_false); exact rfl); apply vC_skip; apply seqP_normal; (iterate 2 (apply vC_seq)); apply vC_region; (iterate 2 ((refine vE rfl ?_))); (refine vL_val (opv_fieldAddr rfl) ?_); ((apply vL_val); (case h => ((apply opv_ld_el); exact rfl; exact rfl; assumption; assumption; exact rfl))); ((apply vL_val); (case h => ((apply opv_len); ((conv => lhs; whnf) <;> exact rfl); assumption))); (refine vE rfl ?_); apply vL_nil; apply seqP_normal; (refine vC_cond_dec rfl (fun _ => ?_) (fun h => by omega)); apply vC_seq; apply vC_region; (iterate 2 ((refine vE rfl ?_))); (refine vL_val (opv_fieldAddr rfl) ?_); ((apply vL_val); (case h => ((apply opv_ld_el); exact rfl; exact rfl; assumption; assumption; exact rfl))); ((apply vL_val); (case h => ((apply opv_indexAddr); ((conv => lhs; whnf) <;> exact rfl); exact rfl; assumption; (first | omega | (simp only [List.length_map]; omega)); (first | omega | (simp only [List.length_map]; omega))))); ((apply vL_val); (case h => ((apply opv_ld_eln); exact rfl; exact rfl; assumption; assumption))); ((apply vL_val); (case h => (apply opw_alloc))); ((apply vL_skip); (case h => ((apply ops_storen); exact norm_eq rfl; exact norm_eq rfl; exact rfl; exact (fun u hu => EncOk.one _ u hu); infer_instance; (first | decide | exact of_decide_eq_true rfl | (simp; done))))); apply vL_nil; apply seqP_normal; apply vC_seq; apply vC_region; (refine vE rfl ?_); ((apply vL_val); (case h => ((apply opv_loadbC); exact rfl; exact rfl; infer_instance; exact (rfl : _ = [_, _, _, _]); exact rfl))))
      have S3 := ((S1.alloc (cs := [.int .i64 0, .int .i64 0, .int .i64 0, .int .i64 0]) (T := 271)).set (cs' := [.int .i64 x.task, .int .i64 x.tk, .int .i64 x.which, .int .i64 x.v])).ac (show _ = GwA qb vp S * (Pt w.heap.size [.int .i64 x.task, .int .i64 x.tk, .int .i64 x.which, .int .i64 x.v] 271 * R) by ac_rfl)
      refine vL_gen (fun w' => At _ w0 F0 w') S3 ?_
      clear S3
      intro w3 S3
      generalize w.heap.size = b9 at S3 ⊢
      skip
      refine vL_callF rfl (g_serve hgo S3 hp1 x (hgd.1.2 x List.mem_cons_self) 0 true hl) rfl ?_
      intro _ w4 S4
      have hb9 := (S4.ac (show _ = Pt b9 [.int .i64 x.task, .int .i64 x.tk, .int .i64 x.which, .int .i64 x.v] 271 * (GwA qb vp (S.serve x 0 true) * R) by ac_rfl)).blk
      (apply vL_nil; apply seqP_normal; apply vC_seq; apply vC_region; (refine vL_val (opv_fieldAddr rfl) ?_); ((apply vL_val); (case h => ((apply opv_loadb1); exact rfl; exact rfl; assumption; exact rfl))); (iterate 2 ((refine vE rfl ?_))); apply vL_nil; apply seqP_normal; apply vC_ret; apply seqP_ret)
      (apply ret2; (case h1 => (exact norm_eq rfl)); (case h2 => (exact norm_eq rfl)))
      exact ⟨rfl, (S4.ac (show _ = Pt b9 [.int .i64 x.task, .int .i64 x.tk, .int .i64 x.which, .int .i64 x.v] 271 * (GwA qb vp (S.serve x 0 true) * R) by ac_rfl)).drop⟩
  | cons b bs =>
    have hlb : (b :: bs).length = bs.length + 1 := rfl
    have hb0 : (b :: bs)[(0 : Int).toNat]? = some b := rfl
    rcases hbo.shape with ⟨_, h⟩ | ⟨g, cap, cs, rfl, hblk, hcap1, hcap2, hcs1, hcs2⟩
    · cases h
    have hRt := Rd.dropIf hbr (i := 1) (by simp)
    rw [List.drop_one, List.tail_cons] at hRt
    have S3 := gw_row hr S2
    simp only [] at S3
    ((refine vC_cond_dec rfl (fun _ => ?_) (fun h => by omega)); apply vC_seq; apply vC_region; (iterate 2 ((refine vE rfl ?_))); (refine vL_val (opv_fieldAddr rfl) ?_); (iterate 3 (first | ((with_reducible apply vL_val); (case h => ((with_reducible apply opv_indexAddr); exact norm_eq rfl; exact rfl; assumption; (first | omega | (simp only [List.length_map]; omega)); (first | omega | (simp only [List.length_map]; omega))))) | ((with_reducible apply vL_val); (case h => ((with_reducible apply opv_ld_el); exact rfl; exact rfl; assumption; assumption; exact rfl))))); (refine vE rfl ?_); apply vL_nil; apply seqP_normal; apply vC_seq; apply vC_region; (refine vE rfl ?_); ((apply vL_val); (case h => ((apply opw_buildSl); exact rfl; exact rfl; exact rfl; exact (rfl : _ = some [])))); (iterate 2 ((refine vE rfl ?_))); (refine vL_val (opv_fieldAddr rfl) ?_); ((apply vL_val); (case h => ((apply opv_ld_el); exact rfl; exact rfl; infer_instance; assumption; exact rfl))); ((apply vL_val); (case h => ((apply opv_slice_lo'); exact rfl; exact rfl; (first | omega | (simp only [List.length_map]; omega)); (first | omega | (simp only [List.length_map]; omega))))))
    refine vL_append (enc := iE) (xs := []) (ys := bs) (T := 3) (sz := 1) (by (exact norm_eq rfl)) (by (exact norm_eq rfl)) (Own.newN iE [] rfl rfl (by decide)) hRt.alloc rfl (by decide) ?_ ?_ ?_
    · simp [maxLen]; omega
    · simp; omega
    intro v5 w5 ho5 hf5 hfr5 hone5 _
    have hfa5 : Fr No w w5 := ((Fr.refl No w).alloc _).trans' hf5 (fun k hk => .inr (by cases hk; exact Nat.le_refl _))
    have hfr5' : ∀ k, own v5 = some k → w.heap.size ≤ k := fun k hk => by
      rcases hfr5 k hk with h | h
      · cases h; exact Nat.le_refl _
      · rw [alloc_size] at h; omega
    rw [List.nil_append] at ho5
    have S4 := S3.gain (A := Ow 3 1 iE v5 bs) hfa5 ⟨_, ⟨ho5, hone5, rfl⟩, hfr5'⟩
    have S5 := (S4.ac (star_left' _ _ _)).drop
    have S6 := S5.ac (show _ = GwP qb vp v rows S * (Ow 3 1 iE v5 bs * (Ow 271 4 wtE sv snd * (Ow 271 4 wtE rv rcv * (Big ((rows.eraseIdx c.toNat).map RrA) * R)))) by ac_rfl)
    ((refine vE rfl ?_); (refine vL_val (opv_fieldAddr rfl) ?_))
    refine vL_storeElF (enc := rrE) (xs := rows) (i := c) (x0 := ⟨size, ⟨_, obv⟩, ⟨sv, osv⟩, ⟨rv, orv⟩, closed, b :: bs, snd, rcv⟩) ⟨size, ⟨v5, hone5⟩, ⟨sv, osv⟩, ⟨rv, orv⟩, closed, bs, snd, rcv⟩ rfl rfl hr rfl hone5 (by decide) (gw_ch S6).1 ?_
    intro w6 ho6 hf6
    have S7 := gw_rows S6 hf6 ho6
    have S8 := gw_unrow (qb := qb) (vp := vp) (v := v) (S := S) (R := R) (r' := ⟨size, ⟨v5, hone5⟩, ⟨sv, osv⟩, ⟨rv, orv⟩, closed, bs, snd, rcv⟩) hlr (S7.ac (by dsimp only; ac_rfl))
    have hr1 : (rows.set c.toNat ⟨size, ⟨v5, hone5⟩, ⟨sv, osv⟩, ⟨rv, orv⟩, closed, bs, snd, rcv⟩)[c.toNat]? = some ⟨size, ⟨v5, hone5⟩, ⟨sv, osv⟩, ⟨rv, orv⟩, closed, bs, snd, rcv⟩ := List.getElem?_set_self hlr
    have hrows1 : (rows.set c.toNat ⟨size, ⟨v5, hone5⟩, ⟨sv, osv⟩, ⟨rv, orv⟩, closed, bs, snd, rcv⟩).map RR.m = (S.setC c.toNat ⟨size, bs, snd, rcv, closed⟩).ch := rows_set hrows rfl
    generalize (rows.set c.toNat ⟨size, ⟨v5, hone5⟩, ⟨sv, osv⟩, ⟨rv, orv⟩, closed, bs, snd, rcv⟩) = rows1 at S8 hr1 hrows1
    have hlr1 := (List.getElem?_eq_some_iff.1 hr1).1
    clear S7 S6 S5 S4 S3 S2 hr hrows hb hch hrv hbo hbr hRt hblk ho6 hf6 hfr5 hfr5' hfa5 hf5 ho5 hrm hlr hcs1 hcs2 S1
    have hb6 := gw_blk S8
    rw [gwL] at hb6
    have hch1 := (gw_ch S8).1.rd
    have hsv1 := (row_snd hr1 S8).rd
    simp only [] at hsv1
    cases snd with
    | nil =>
      have hl1 : ([] : List Wt).length = 0 := rfl
      rw [recv_pop hd rfl rfl]
      (apply vL_nil; apply seqP_normal; (iterate 2 (apply vC_seq)); apply vC_region; (iterate 2 ((refine vE rfl ?_))); (refine vL_val (opv_fieldAddr rfl) ?_); ((apply vL_val); (case h => ((apply opv_ld_el); exact rfl; exact rfl; assumption; assumption; exact rfl))); ((apply vL_val); (case h => ((apply opv_len); ((conv => lhs; whnf) <;> exact rfl); assumption))); (refine vE rfl ?_); apply vL_nil; apply seqP_normal; ((apply vC_cond_false); exact rfl); apply vC_skip; apply seqP_normal; apply vC_seq; apply vC_region; (iterate 3 ((refine vE rfl ?_))); apply vL_nil; apply seqP_normal; apply vC_ret; apply seqP_ret)
      (apply ret2; (case h1 => (exact norm_eq rfl)); (case h2 => (exact norm_eq rfl)))
      exact ⟨rfl, gw_shut hrows1 S8⟩
    | cons x xs =>
      rw [recv_both hd rfl rfl]
      have hx0 : (x :: xs)[(0 : Int).toNat]? = some x := rfl
      have hlx : (x :: xs).length = xs.length + 1 := rfl
      (apply vL_nil; apply seqP_normal; (iterate 2 (apply vC_seq)); apply vC_region; (iterate 2 ((refine vE rfl ?_))); (refine vL_val (opv_fieldAddr rfl) ?_); ((apply vL_val); (case h => ((apply opv_ld_el); exact rfl; exact rfl; assumption; assumption; exact rfl))); ((apply vL_val); (case h => ((apply opv_len); ((conv => lhs; whnf) <;> exact rfl); assumption))); (refine vE rfl ?_); apply vL_nil; apply seqP_normal; (refine vC_cond_dec rfl (fun _ => ?_) (fun h => by omega)); apply vC_seq; apply vC_region; (iterate 2 ((refine vE rfl ?_))); (refine vL_val (opv_fieldAddr rfl) ?_); ((apply vL_val); (case h => ((apply opv_ld_el); exact rfl; exact rfl; assumption; assumption; exact rfl))); ((apply vL_val); (case h => ((apply opv_indexAddr); ((conv => lhs; whnf) <;> exact rfl); exact rfl; assumption; (first | omega | (simp only [List.length_map]; omega)); (first | omega | (simp only [List.length_map]; omega))))); ((apply vL_val); (case h => ((apply opv_ld_eln); exact rfl; exact rfl; assumption; assumption))); ((apply vL_val); (case h => (apply opw_alloc))); ((apply vL_skip); (case h => ((apply ops_storen); exact norm_eq rfl; exact norm_eq rfl; exact rfl; exact (fun u hu => EncOk.one _ u hu); infer_instance; (first | decide | exact of_decide_eq_true rfl | (simp; done))))); apply vL_nil; apply seqP_normal; apply vC_seq)
      have S9 := ((S8.alloc (cs := [.int .i64 0, .int .i64 0, .int .i64 0, .int .i64 0]) (T := 271)).set (cs' := [.int .i64 x.task, .int .i64 x.tk, .int .i64 x.which, .int .i64 x.v])).ac (show _ = GwP qb vp v rows1 S * (Big (rows1.map RrA) * (Pt w6.heap.size [.int .i64 x.task, .int .i64 x.tk, .int .i64 x.which, .int .i64 x.v] 271 * R)) by ac_rfl)
      refine vC_gen (fun w' => At _ w0 F0 w') S9 ?_
      clear S9 S8 hb6 hch1 hsv1
      intro w7 S9
      generalize w6.heap.size = b8 at S9 ⊢
      have hch7 := (gw_ch S9).1.rd
      have S11 := gw_row hr1 S9
      simp only [] at S11
      have S12 := S11.drew
      have hb8 := (S9.ac (show _ = Pt b8 [.int .i64 x.task, .int .i64 x.tk, .int .i64 x.which, .int .i64 x.v] 271 * (GwP qb vp v rows1 S * (Big (rows1.map RrA) * R)) by ac_rfl)).blk
      refine vC_draw' ((fun wf => Blk wf.heap b8 [.int .i64 x.task, .int .i64 x.tk, .int .i64 x.which, .int .i64 x.v] 271)) (by first | assumption | infer_instance) ?_
      (refine tkE 0 rfl (by kernel_rfl) (by first | assumption | infer_instance) rfl ?_)
      (refine tkE 1 rfl (by kernel_rfl) (by first | assumption | infer_instance) rfl ?_)
      (refine tkE 2 rfl (by kernel_rfl) (by first | assumption | infer_instance) rfl ?_)
      (refine tk 3 rfl (by kernel_rfl) (by first | assumption | infer_instance) (by intro wf hwf; (try dsimp only at hwf); (((apply opv_fieldAddr); exact rfl))) ?_)
      (refine tk 5 rfl (by kernel_rfl) (by first | assumption | infer_instance) (by intro wf hwf; (try dsimp only at hwf); (((apply opv_fieldAddr); exact rfl))) ?_)
      (refine tk 6 rfl (by kernel_rfl) (by first | assumption | infer_instance) (by intro wf hwf; (try dsimp only at hwf); (((apply opv_loadb1); exact rfl; exact rfl; assumption; exact rfl))) ?_)
      refine vA_two 4 7 rfl rfl (by kernel_rfl) (by first | assumption | infer_instance) (fun K hK => ?_) (fun K hK => ?_)
      · (((apply vL_val); (case h => ((apply opv_ld_el); exact rfl; exact rfl; assumption; assumption; exact rfl))); apply vL_nil)
        refine ⟨rfl, hK _ _ ?_⟩
        refine vA_only 7 rfl (by kernel_rfl) (by first | assumption | infer_instance) (fun K hK => ?_)
        (((apply vL_val); (case h => ((apply opw_buildSl); exact rfl; exact rfl; exact rfl; exact (rfl : _ = some [_])))); apply vL_nil)
        refine ⟨rfl, hK _ _ ?_⟩
        refine vA_only 8 rfl (by kernel_rfl) (by first | assumption | infer_instance) (fun K hK => ?_)
        have oR9 := (S12).own.1
        refine vL_append (enc := iE) (xs := bs) (ys := [x.v]) (T := 3) (sz := 1) (by (((conv => lhs; whnf) <;> exact rfl))) (by (exact norm_eq rfl)) (Own.alloc oR9) (Rd.new1 _ _ rfl) rfl (by decide) ?_ ?_ ?_
        · simp [maxLen]; omega
        · simp; omega
        intro v9 w9 ho9 hf9 hfr9 hone9 _
        have hfa9 : Fr (fun j => own v5 = some j) w7.drew w9 := ((Fr.refl _ w7.drew).alloc _).trans' hf9 (fun i hi => .inl hi)
        have SR9 := (S12).owTo hfa9 ho9 hone9 (fun k hk => (hfr9 k hk).imp (fun h => h) (fun h => by rw [alloc_size] at h; omega))
        have S13 := SR9.ac (show _ = GwP qb vp v rows1 S * (Ow 3 1 iE v9 (bs ++ [x.v]) * (Ow 271 4 wtE sv (x :: xs) * (Ow 271 4 wtE rv rcv * (Big ((rows1.eraseIdx c.toNat).map RrA) * (Pt b8 [.int .i64 x.task, .int .i64 x.tk, .int .i64 x.which, .int .i64 x.v] 271 * R))))) by ac_rfl)
        have hb89 := (S13.ac (show _ = Pt b8 [.int .i64 x.task, .int .i64 x.tk, .int .i64 x.which, .int .i64 x.v] 271 * (Ow 3 1 iE v9 (bs ++ [x.v]) * (Ow 271 4 wtE sv (x :: xs) * (Ow 271 4 wtE rv rcv * (Big ((rows1.eraseIdx c.toNat).map RrA) * (GwP qb vp v rows1 S * R))))) by ac_rfl)).blk
        refine vL_nil ⟨rfl, hK _ _ ?_⟩
        (refine tkE 9 rfl (by kernel_rfl) (by first | assumption | infer_instance) rfl ?_)
        (refine tk 10 rfl (by kernel_rfl) (by first | assumption | infer_instance) (by intro wf hwf; (try dsimp only at hwf); (((apply opv_fieldAddr); exact rfl))) ?_)
        refine vA_only 11 rfl (by kernel_rfl) (by first | assumption | infer_instance) (fun K hK => ?_)
        refine vL_storeElF (enc := rrE) (xs := rows1) (i := c) (x0 := ⟨size, ⟨v5, hone5⟩, ⟨sv, osv⟩, ⟨rv, orv⟩, closed, bs, x :: xs, rcv⟩) ⟨size, ⟨v9, hone9⟩, ⟨sv, osv⟩, ⟨rv, orv⟩, closed, bs ++ [x.v], x :: xs, rcv⟩ rfl rfl hr1 rfl hone9 (by decide) (gw_ch S13).1 ?_
        intro w10 ho10 hf10
        have S14 := gw_rows S13 hf10 ho10
        have S15 := gw_unrow (qb := qb) (vp := vp) (v := v) (S := S) (R := Pt b8 [.int .i64 x.task, .int .i64 x.tk, .int .i64 x.which, .int .i64 x.v] 271 * R) (r' := ⟨size, ⟨v9, hone9⟩, ⟨sv, osv⟩, ⟨rv, orv⟩, closed, bs ++ [x.v], x :: xs, rcv⟩) hlr1 (S14.ac (by dsimp only; ac_rfl))
        have hb810 := (S15.ac (show _ = Pt b8 [.int .i64 x.task, .int .i64 x.tk, .int .i64 x.which, .int .i64 x.v] 271 * (GwP qb vp v (rows1.set c.toNat ⟨size, ⟨v9, hone9⟩, ⟨sv, osv⟩, ⟨rv, orv⟩, closed, bs ++ [x.v], x :: xs, rcv⟩) S * (Big ((rows1.set c.toNat ⟨size, ⟨v9, hone9⟩, ⟨sv, osv⟩, ⟨rv, orv⟩, closed, bs ++ [x.v], x :: xs, rcv⟩).map RrA) * R)) by ac_rfl)).blk
        refine vL_nil ⟨rfl, hK _ _ ?_⟩
        refine vA_done (by kernel_rfl) (by first | assumption | infer_instance) ?_
        with_reducible apply seqP_normal
        have hrows2 : (rows1.set c.toNat ⟨size, ⟨v9, hone9⟩, ⟨sv, osv⟩, ⟨rv, orv⟩, closed, bs ++ [x.v], x :: xs, rcv⟩).map RR.m = (S.setC c.toNat ⟨size, bs ++ [x.v], x :: xs, rcv, closed⟩).ch := by
          rw [List.map_set, hrows1]
          show (S.ch.set _ _).set _ _ = S.ch.set _ _
          rw [List.set_set]; rfl
        have S16 : At (GwA qb vp (S.setC c.toNat ⟨size, bs ++ [x.v], x :: xs, rcv, closed⟩) * (Pt b8 [.int .i64 x.task, .int .i64 x.tk, .int .i64 x.which, .int .i64 x.v] 271 * R)) w0 F0 w10 := gw_shut hrows2 S15
        (apply vC_region; (refine vE rfl ?_); ((apply vL_val); (case h => ((apply opv_loadbC); exact rfl; exact rfl; assumption; exact (rfl : _ = [_, _, _, _]); exact rfl))))
        have hgo2 : GCh (S.setC c.toNat ⟨size, bs ++ [x.v], x :: xs, rcv, closed⟩) := hgo.setC (d' := ⟨size, bs ++ [x.v], x :: xs, rcv, closed⟩) hd rfl rfl
        refine vL_callF rfl (g_serve hgo2 S16 hp1 x (hgd.1.2 x List.mem_cons_self) 0 true hl) rfl ?_
        intro _ w11 S17
        (apply vL_nil; apply seqP_normal; apply vC_seq; apply vC_region; (iterate 3 ((refine vE rfl ?_))); apply vL_nil; apply seqP_normal; apply vC_ret; apply seqP_ret)
        (apply ret2; (case h1 => (exact norm_eq rfl)); (case h2 => (exact norm_eq rfl)))
        exact ⟨rfl, (S17.ac (show _ = Pt b8 [.int .i64 x.task, .int .i64 x.tk, .int .i64 x.which, .int .i64 x.v] 271 * (GwA qb vp ((S.setC c.toNat ⟨size, bs ++ [x.v], x :: xs, rcv, closed⟩).serve x 0 true) * R) by ac_rfl)).drop⟩
      · (((apply vL_val); (case h => ((apply opw_buildSl); exact rfl; exact rfl; exact rfl; exact (rfl : _ = some [_])))); apply vL_nil)
        refine ⟨rfl, hK _ _ ?_⟩
        refine vA_only 4 rfl (by kernel_rfl) (by first | assumption | infer_instance) (fun K hK => ?_)
        (((apply vL_val); (case h => ((apply opv_ld_el); exact rfl; exact rfl; infer_instance; assumption; exact rfl))); apply vL_nil)
        refine ⟨rfl, hK _ _ ?_⟩
        refine vA_only 8 rfl (by kernel_rfl) (by first | assumption | infer_instance) (fun K hK => ?_)
        have oR9 := (S12).own.1
        refine vL_append (enc := iE) (xs := bs) (ys := [x.v]) (T := 3) (sz := 1) (by (((conv => lhs; whnf) <;> exact rfl))) (by (exact norm_eq rfl)) (Own.alloc oR9) (Rd.new1 _ _ rfl) rfl (by decide) ?_ ?_ ?_
        · simp [maxLen]; omega
        · simp; omega
        intro v9 w9 ho9 hf9 hfr9 hone9 _
        have hfa9 : Fr (fun j => own v5 = some j) w7.drew w9 := ((Fr.refl _ w7.drew).alloc _).trans' hf9 (fun i hi => .inl hi)
        have SR9 := (S12).owTo hfa9 ho9 hone9 (fun k hk => (hfr9 k hk).imp (fun h => h) (fun h => by rw [alloc_size] at h; omega))
        have S13 := SR9.ac (show _ = GwP qb vp v rows1 S * (Ow 3 1 iE v9 (bs ++ [x.v]) * (Ow 271 4 wtE sv (x :: xs) * (Ow 271 4 wtE rv rcv * (Big ((rows1.eraseIdx c.toNat).map RrA) * (Pt b8 [.int .i64 x.task, .int .i64 x.tk, .int .i64 x.which, .int .i64 x.v] 271 * R))))) by ac_rfl)
        have hb89 := (S13.ac (show _ = Pt b8 [.int .i64 x.task, .int .i64 x.tk, .int .i64 x.which, .int .i64 x.v] 271 * (Ow 3 1 iE v9 (bs ++ [x.v]) * (Ow 271 4 wtE sv (x :: xs) * (Ow 271 4 wtE rv rcv * (Big ((rows1.eraseIdx c.toNat).map RrA) * (GwP qb vp v rows1 S * R))))) by ac_rfl)).blk
        refine vL_nil ⟨rfl, hK _ _ ?_⟩
        (refine tkE 9 rfl (by kernel_rfl) (by first | assumption | infer_instance) rfl ?_)
        (refine tk 10 rfl (by kernel_rfl) (by first | assumption | infer_instance) (by intro wf hwf; (try dsimp only at hwf); (((apply opv_fieldAddr); exact rfl))) ?_)
        refine vA_only 11 rfl (by kernel_rfl) (by first | assumption | infer_instance) (fun K hK => ?_)
        refine vL_storeElF (enc := rrE) (xs := rows1) (i := c) (x0 := ⟨size, ⟨v5, hone5⟩, ⟨sv, osv⟩, ⟨rv, orv⟩, closed, bs, x :: xs, rcv⟩) ⟨size, ⟨v9, hone9⟩, ⟨sv, osv⟩, ⟨rv, orv⟩, closed, bs ++ [x.v], x :: xs, rcv⟩ rfl rfl hr1 rfl hone9 (by decide) (gw_ch S13).1 ?_
        intro w10 ho10 hf10
        have S14 := gw_rows S13 hf10 ho10
        have S15 := gw_unrow (qb := qb) (vp := vp) (v := v) (S := S) (R := Pt b8 [.int .i64 x.task, .int .i64 x.tk, .int .i64 x.which, .int .i64 x.v] 271 * R) (r' := ⟨size, ⟨v9, hone9⟩, ⟨sv, osv⟩, ⟨rv, orv⟩, closed, bs ++ [x.v], x :: xs, rcv⟩) hlr1 (S14.ac (by dsimp only; ac_rfl))
        have hb810 := (S15.ac (show _ = Pt b8 [.int .i64 x.task, .int .i64 x.tk, .int .i64 x.which, .int .i64 x.v] 271 * (GwP qb vp v (rows1.set c.toNat ⟨size, ⟨v9, hone9⟩, ⟨sv, osv⟩, ⟨rv, orv⟩, closed, bs ++ [x.v], x :: xs, rcv⟩) S * (Big ((rows1.set c.toNat ⟨size, ⟨v9, hone9⟩, ⟨sv, osv⟩, ⟨rv, orv⟩, closed, bs ++ [x.v], x :: xs, rcv⟩).map RrA) * R)) by ac_rfl)).blk
        refine vL_nil ⟨rfl, hK _ _ ?_⟩
        refine vA_done (by kernel_rfl) (by first | assumption | infer_instance) ?_
        with_reducible apply seqP_normal
        have hrows2 : (rows1.set c.toNat ⟨size, ⟨v9, hone9⟩, ⟨sv, osv⟩, ⟨rv, orv⟩, closed, bs ++ [x.v], x :: xs, rcv⟩).map RR.m = (S.setC c.toNat ⟨size, bs ++ [x.v], x :: xs, rcv, closed⟩).ch := by
          rw [List.map_set, hrows1]
          show (S.ch.set _ _).set _ _ = S.ch.set _ _
          rw [List.set_set]; rfl
        have S16 : At (GwA qb vp (S.setC c.toNat ⟨size, bs ++ [x.v], x :: xs, rcv, closed⟩) * (Pt b8 [.int .i64 x.task, .int .i64 x.tk, .int .i64 x.which, .int .i64 x.v] 271 * R)) w0 F0 w10 := gw_shut hrows2 S15
        (apply vC_region; (refine vE rfl ?_); ((apply vL_val); (case h => ((apply opv_loadbC); exact rfl; exact rfl; assumption; exact (rfl : _ = [_, _, _, _]); exact rfl))))
        have hgo2 : GCh (S.setC c.toNat ⟨size, bs ++ [x.v], x :: xs, rcv, closed⟩) := hgo.setC (d' := ⟨size, bs ++ [x.v], x :: xs, rcv, closed⟩) hd rfl rfl
        refine vL_callF rfl (g_serve hgo2 S16 hp1 x (hgd.1.2 x List.mem_cons_self) 0 true hl) rfl ?_
        intro _ w11 S17
        (apply vL_nil; apply seqP_normal; apply vC_seq; apply vC_region; (iterate 3 ((refine vE rfl ?_))); apply vL_nil; apply seqP_normal; apply vC_ret; apply seqP_ret)
        (apply ret2; (case h1 => (exact norm_eq rfl)); (case h2 => (exact norm_eq rfl)))
        exact ⟨rfl, (S17.ac (show _ = Pt b8 [.int .i64 x.task, .int .i64 x.tk, .int .i64 x.which, .int .i64 x.v] 271 * (GwA qb vp ((S.setC c.toNat ⟨size, bs ++ [x.v], x :: xs, rcv, closed⟩).serve x 0 true) * R) by ac_rfl)).drop⟩
end
end Go.Proofs.YtbaidcnalkdhgaaGreat
set_option maxRecDepth 100000
namespace Go.Proofs.YtbaidcnalkdhgaaGreat
open Go Go.Eng
section
variable {S T : MW} {j i : Nat} {x : Wt} {v : Int} {ok : Bool}
theorem serve_ch (S : MW) (x : Wt) (v : Int) (ok : Bool) : (S.serve x v ok).ch = S.ch.map (MC.clean (S.fi.set x.tk.toNat true)) := by
  unfold MW.serve
  split <;> rfl
theorem serve_rcvL {d : MC} {xs : List Wt} (hd : S.ch[j]? = some d) (hx : d.rcv = x :: xs) (hk : 0 ≤ x.tk ∧ x.tk < S.fi.length) : (S.serve x v ok).rcvL j ≤ xs.length := by
  unfold MW.rcvL
  rw [serve_ch, List.getElem?_map, hd]
  show ((d.rcv).filter (lvW (S.fi.set x.tk.toNat true))).length ≤ xs.length
  rw [hx, List.filter_cons]
  have : lvW (S.fi.set x.tk.toNat true) x = false := by
    unfold lvW
    rw [List.getElem?_set_self (by omega)]; rfl
  rw [this]
  exact List.length_filter_le _ _
theorem serve_sndL {d : MC} {xs : List Wt} (hd : S.ch[j]? = some d) (hx : d.snd = x :: xs) (hk : 0 ≤ x.tk ∧ x.tk < S.fi.length) : (S.serve x v ok).sndL j ≤ xs.length := by
  unfold MW.sndL
  rw [serve_ch, List.getElem?_map, hd]
  show ((d.snd).filter (lvW (S.fi.set x.tk.toNat true))).length ≤ xs.length
  rw [hx, List.filter_cons]
  have : lvW (S.fi.set x.tk.toNat true) x = false := by
    unfold lvW
    rw [List.getElem?_set_self (by omega)]; rfl
  rw [this]
  exact List.length_filter_le _ _
theorem serve_sndL' (S : MW) (x : Wt) (v : Int) (ok : Bool) (j : Nat) : (S.serve x v ok).sndL j ≤ S.sndL j := by
  unfold MW.sndL
  rw [serve_ch, List.getElem?_map]
  cases S.ch[j]? with
  | none => exact Nat.le_refl _
  | some d => exact List.length_filter_le _ _
theorem endsR_sndL (i j : Nat) : ∀ (f : Nat) (S : MW), (MW.endsR i f S).sndL j ≤ S.sndL j
  | 0, S => Nat.le_refl _
  | f + 1, S => by
    unfold MW.endsR
    split
    · exact Nat.le_refl _
    · split
      · exact Nat.le_refl _
      · exact Nat.le_trans (endsR_sndL i j f _) (serve_sndL' _ _ _ _ _)
def PER (j : Nat) (fin : MW) (LL f : Nat) (T : MW) : Prop := GCh T ∧ T.rcvL j ≤ f ∧ MW.endsR j f T = fin ∧ T.li.length + f ≤ LL ∧ ∃ d, T.ch[j]? = some d
def PES (j : Nat) (fin : MW) (LL f : Nat) (T : MW) : Prop := GCh T ∧ T.sndL j ≤ f ∧ MW.endsS j f T = fin ∧ T.li.length + f ≤ LL ∧ ∃ d, T.ch[j]? = some d
end
section
variable {w w0 : World} {F0 : Nat → Prop} {R : Asr} {qb : Nat} {vp : Value} {S : MW}
theorem close_yes {j : Nat} {d : MC} (hd : S.ch[j]? = some d) (h : d.closed = true) : S.close j = (S, false) := by
  unfold MW.close; simp only [hd]; rw [if_pos h]
theorem close_no {j : Nat} {d : MC} (hd : S.ch[j]? = some d) (h : d.closed = false) : S.close j = (MW.endsS j ((S.close1 j d).sndL j) (S.close1 j d), true) := by
  unfold MW.close; simp only [hd]; rw [if_neg (by rw [h]; simp)]
set_option maxHeartbeats 4000000 in
theorem g_close [Lcl R] (hgo : GCh S) (S1 : At (GwA qb vp S * R) w0 F0 w) (hp1 : vp.oneCell' = true) {c : Int} {d : MC} (h0 : 0 ≤ c) (hd : S.ch[c.toNat]? = some d) (hl : S.li.length + d.rcv.length + d.snd.length ≤ 1000000) :
    Rets Tryz.prog 188 #[pt qb, .int .i64 c] w fun u w' => u = .bool (S.close c.toNat).2 ∧ At (GwA qb vp (S.close c.toNat).1 * R) w0 F0 w' := by
  obtain ⟨v, rows, hrows, S2⟩ := gw_open S1
  obtain ⟨r, hr, hrm⟩ := rows_get hrows hd
  have hb := gw_blk S2
  rw [gwL] at hb
  have hch := (gw_ch S2).1.rd
  have hlr := (List.getElem?_eq_some_iff.1 hr).1
  have hgd := hgo d (List.mem_of_getElem? hd)
  obtain ⟨size, ⟨bv, obv⟩, ⟨sv, osv⟩, ⟨rv, orv⟩, closed, buf, snd, rcv⟩ := r
  obtain rfl : d = ⟨size, buf, snd, rcv, closed⟩ := hrm.symm
  simp only [] at hl
  refine rets_of Tryz.func188 rfl Tryz.ntmps188 rfl rfl (by kernel_rfl) ?_
  (apply vC_seq; apply vC_region; (refine vE rfl ?_); apply vL_nil; apply seqP_normal; (iterate 2 (apply vC_seq)); apply vC_region; (iterate 2 ((refine vE rfl ?_))); (refine vL_val (opv_fieldAddr rfl) ?_); ((apply vL_val); (case h => ((apply opv_loadb1); exact rfl; exact rfl; assumption; exact rfl))); (refine vE rfl ?_); ((apply vL_val); (case h => ((apply opv_indexAddr); ((conv => lhs; whnf) <;> exact rfl); exact rfl; assumption; (first | omega | (simp only [List.length_map]; omega)); (first | omega | (simp only [List.length_map]; omega))))); (refine vL_val (opv_fieldAddr rfl) ?_); ((apply vL_val); (case h => ((apply opv_ld_el); exact rfl; exact rfl; assumption; assumption; exact rfl))); apply vL_nil; apply seqP_normal)
  cases closed with
  | true =>
    rw [close_yes hd rfl]
    (((apply vC_cond_true); exact rfl); apply vC_seq; apply vC_region; (refine vE rfl ?_); apply vL_nil; apply seqP_normal; apply vC_ret; apply seqP_ret)
    (apply ret1; (case h1 => (exact norm_eq rfl)))
    exact ⟨rfl, S1⟩
  | false =>
    rw [close_no hd rfl]
    have S3 := gw_row hr S2
    simp only [] at S3
    have S6 := S3.ac (show _ = GwP qb vp v rows S * (Ow 3 1 iE bv buf * (Ow 271 4 wtE sv snd * (Ow 271 4 wtE rv rcv * (Big ((rows.eraseIdx c.toNat).map RrA) * R)))) by ac_rfl)
    (((apply vC_cond_false); exact rfl); apply vC_skip; apply seqP_normal; apply vC_seq; apply vC_region; (iterate 2 ((refine vE rfl ?_))); (refine vL_val (opv_fieldAddr rfl) ?_); ((apply vL_val); (case h => ((apply opv_loadb1); exact rfl; exact rfl; assumption; exact rfl))); (refine vE rfl ?_); ((apply vL_val); (case h => ((apply opv_indexAddr); ((conv => lhs; whnf) <;> exact rfl); exact rfl; assumption; (first | omega | (simp only [List.length_map]; omega)); (first | omega | (simp only [List.length_map]; omega))))); (refine vL_val (opv_fieldAddr rfl) ?_))
    refine vL_storeElF (enc := rrE) (xs := rows) (i := c) (x0 := ⟨size, ⟨bv, obv⟩, ⟨sv, osv⟩, ⟨rv, orv⟩, false, buf, snd, rcv⟩) ⟨size, ⟨bv, obv⟩, ⟨sv, osv⟩, ⟨rv, orv⟩, true, buf, snd, rcv⟩ rfl rfl hr rfl rfl (by decide) (gw_ch S6).1 ?_
    intro w2 ho2 hf2
    have S7 := gw_rows S6 hf2 ho2
    have S8 := gw_unrow (qb := qb) (vp := vp) (v := v) (S := S) (R := R) (r' := ⟨size, ⟨bv, obv⟩, ⟨sv, osv⟩, ⟨rv, orv⟩, true, buf, snd, rcv⟩) hlr (S7.ac (by dsimp only; ac_rfl))
    have S9 : At (GwA qb vp (S.setC c.toNat ⟨size, buf, snd, rcv, true⟩) * R) w0 F0 w2 := gw_shut (rows_set hrows rfl) S8
    have hd9 : (S.setC c.toNat ⟨size, buf, snd, rcv, true⟩).ch[c.toNat]? = some ⟨size, buf, snd, rcv, true⟩ := List.getElem?_set_self (List.getElem?_eq_some_iff.1 hd).1
    have hg9 : GCh (S.setC c.toNat ⟨size, buf, snd, rcv, true⟩) := hgo.setC (d' := ⟨size, buf, snd, rcv, true⟩) hd rfl rfl
    obtain ⟨LL, hLL⟩ : ∃ LL, LL = 1000000 := ⟨_, rfl⟩
    obtain ⟨FINR, hFR⟩ : ∃ F, F = S.close1 c.toNat ⟨size, buf, snd, rcv, false⟩ := ⟨_, rfl⟩
    have hmk : MKp rcv.length S FINR := by
      rw [hFR]; unfold MW.close1
      exact ((setC_mkp S c.toNat _ 0).trans (endsR_mkp c.toNat rcv.length _)).mono (by omega)
    have hsl : FINR.sndL c.toNat ≤ snd.length := by
      rw [hFR]; unfold MW.close1
      refine Nat.le_trans (endsR_sndL _ _ _ _) ?_
      unfold MW.sndL
      rw [hd9]; exact Nat.le_refl _
    have hPR : PER c.toNat FINR LL rcv.length (S.setC c.toNat ⟨size, buf, snd, rcv, true⟩) := ⟨hg9, by unfold MW.rcvL; rw [hd9]; exact Nat.le_refl _, by rw [hFR]; rfl, by show S.li.length + _ ≤ _; omega, _, hd9⟩
    rw [← hFR]
    clear S8 S7 S6 S3 S2 S1 ho2 hf2 hb hch hr hrows hlr hrm hg9 hd9
    ((apply vL_nil))
    with_reducible apply seqP_normal
    ((apply vC_seq; apply vC_block))
    (apply vC_loop1 4398045462528 20 (fun _ w' => ∃ f T, PER c.toNat FINR LL f T ∧ At (GwA qb vp T * R) w0 F0 w') (fun _ w' => leastN fun n => ∃ T, PER c.toNat FINR LL n T ∧ At (GwA qb vp T * R) w0 F0 w')); (case h1 => (exact norm_eq rfl))
    case h0 => exact ⟨_, _, hPR, S9⟩
    case round =>
    clear S9
    rintro junkR _ w3 hex
    obtain ⟨T, hPT, S3⟩ := leastN_spec (p := fun n => ∃ T, PER c.toNat FINR LL n T ∧ At (GwA qb vp T * R) w0 F0 w3) (by obtain ⟨f, T, h1, h2⟩ := hex; exact ⟨f, T, h1, h2⟩)
    clear hex
    generalize hmm : (leastN fun n => ∃ T, PER c.toNat FINR LL n T ∧ At (GwA qb vp T * R) w0 F0 w3) = mm at hPT ⊢
    clear hmm
    obtain ⟨hgT, hfT, heT, hlT, dd, hdd⟩ := hPT
    obtain ⟨v, rows, hrows, S4⟩ := gw_open S3
    obtain ⟨r, hr, hrm⟩ := rows_get hrows hdd
    have hb := gw_blk S4
    rw [gwL] at hb
    have hch := (gw_ch S4).1.rd
    have hrv := (row_rcv hr S4).rd
    have hlr := (List.getElem?_eq_some_iff.1 hr).1
    have hgd := hgT dd (List.mem_of_getElem? hdd)
    obtain ⟨size, ⟨bv, obv⟩, ⟨sv, osv⟩, ⟨rv, orv⟩, closed, buf, snd, rcv⟩ := r
    obtain rfl : dd = ⟨size, buf, snd, rcv, closed⟩ := hrm.symm
    simp only [] at hrv
    have hs2 := hrv.small
    cases rcv with
    | cons x xs =>
      have hx0 : (x :: xs)[(0 : Int).toNat]? = some x := rfl
      have hlx : (x :: xs).length = xs.length + 1 := rfl
      have hxg := hgd.2.2 x List.mem_cons_self
      have hrR : T.rcvL c.toNat = xs.length + 1 := by unfold MW.rcvL; rw [hdd]; rfl
      obtain ⟨f', rfl⟩ : ∃ f', mm = f' + 1 := ⟨mm - 1, by omega⟩
      ((iterate 2 (apply vC_seq)); apply vC_region; (iterate 2 ((refine vE rfl ?_))); (refine vL_val (opv_fieldAddr rfl) ?_); ((apply vL_val); (case h => ((apply opv_loadb1); exact rfl; exact rfl; assumption; exact rfl))); (refine vE rfl ?_); ((apply vL_val); (case h => ((apply opv_indexAddr); ((conv => lhs; whnf) <;> exact rfl); exact rfl; assumption; (first | omega | (simp only [List.length_map]; omega)); (first | omega | (simp only [List.length_map]; omega))))); (refine vL_val (opv_fieldAddr rfl) ?_); ((apply vL_val); (case h => ((apply opv_ld_el); exact rfl; exact rfl; assumption; assumption; exact rfl))); ((apply vL_val); (case h => ((apply opv_len); ((conv => lhs; whnf) <;> exact rfl); assumption))); (refine vE rfl ?_); apply vL_nil; apply seqP_normal; (refine vC_cond_dec rfl (fun _ => ?_) (fun h => by omega)); apply vC_skip; apply seqP_normal; apply vC_block; apply vC_region; (iterate 10 (first | (refine vE rfl ?_) | ((with_reducible apply vL_val); (case h => ((with_reducible apply opv_loadb1); exact rfl; exact rfl; assumption; exact rfl))) | (refine vL_val (opv_fieldAddr rfl) ?_) | ((with_reducible apply vL_val); (case h => ((with_reducible apply opv_indexAddr); ((conv => lhs; whnf) <;> exact rfl); exact rfl; assumption; (first | omega | (simp only [List.length_map]; omega)); (first | omega | (simp only [List.length_map]; omega))))) | ((with_reducible apply vL_val); (case h => ((with_reducible apply opv_ld_el); exact rfl; exact rfl; assumption; assumption; exact rfl))))); ((apply vL_val); (case h => ((apply opv_ld_eln); exact rfl; exact rfl; assumption; assumption))))
      refine vL_callF rfl (g_serve hgT S3 hp1 x hxg 0 false (by omega)) rfl ?_
      intro _ w4 S5
      have hP' : PER c.toNat FINR LL f' (T.serve x 0 false) := by
        refine ⟨hgT.serve x 0 false, ?_, ?_, ?_, ?_⟩
        · have := serve_rcvL (v := 0) (ok := false) hdd rfl ⟨hxg.1, hxg.2.1⟩
          have e : xs.length ≤ f' := by omega
          exact Nat.le_trans this e
        · rw [← heT, MW.endsR, hdd]
        · have := (serve_mkp T x 0 false).li
          omega
        · exact ⟨_, List.getElem?_eq_getElem (by rw [(serve_mkp T x 0 false).ch]; exact (List.getElem?_eq_some_iff.1 hdd).1)⟩
      (apply vL_nil; apply blockP_normal; apply loopP_normal)
      (with_reducible apply end1); (case hs => ((iterate 22 (((refine same_updO ?_ ?_); rotate_left; exact rfl))); ((refine same_upd ?_ ?_); rotate_left; exact rfl); (exact same_mask _ _ _))); (case h1 => (exact norm_eq rfl))
      · exact ⟨f', _, hP', S5⟩
      · show leastN _ < f' + 1
        exact Nat.lt_succ_of_le (leastN_le ⟨_, hP', S5⟩)
    | nil =>
      have hl0 : ([] : List Wt).length = 0 := rfl
      have eT : T = FINR := by
        rw [← heT]
        cases mm with
        | zero => rfl
        | succ f => unfold MW.endsR; simp only [hdd]
      ((iterate 2 (apply vC_seq)); apply vC_region; (iterate 2 ((refine vE rfl ?_))); (refine vL_val (opv_fieldAddr rfl) ?_); ((apply vL_val); (case h => ((apply opv_loadb1); exact rfl; exact rfl; assumption; exact rfl))); (refine vE rfl ?_); ((apply vL_val); (case h => ((apply opv_indexAddr); ((conv => lhs; whnf) <;> exact rfl); exact rfl; assumption; (first | omega | (simp only [List.length_map]; omega)); (first | omega | (simp only [List.length_map]; omega))))); (refine vL_val (opv_fieldAddr rfl) ?_); ((apply vL_val); (case h => ((apply opv_ld_el); exact rfl; exact rfl; assumption; assumption; exact rfl))); ((apply vL_val); (case h => ((apply opv_len); ((conv => lhs; whnf) <;> exact rfl); assumption))); (refine vE rfl ?_); apply vL_nil; apply seqP_normal; ((apply vC_cond_false); exact rfl); apply vC_exit; apply seqP_exit; apply loopP_exit; apply blockP_exit; apply seqP_normal; apply vC_seq; apply vC_block)
      clear hPR hFR
      subst eT
      obtain ⟨FINS, hFS⟩ : ∃ F, F = MW.endsS c.toNat (T.sndL c.toNat) T := ⟨_, rfl⟩
      rw [← hFS]
      have hPS : PES c.toNat FINS LL (T.sndL c.toNat) T := ⟨hgT, Nat.le_refl _, hFS.symm, by have := hmk.li; omega, _, hdd⟩
      clear S4 hb hch hrv hr hrows hlr hrm hgd hfT heT hlT hmk hs2 hsl
      clear hdd
      have S10 := S3
      clear S3
      clear hgT
      obtain ⟨T0, hT0⟩ : ∃ T0, T0 = T := ⟨_, rfl⟩
      rw [← hT0] at hPS S10
      clear hT0 hFS
      (apply vC_loop1 18446739675663040512 42 (fun _ w' => ∃ f T, PES c.toNat FINS LL f T ∧ At (GwA qb vp T * R) w0 F0 w') (fun _ w' => leastN fun n => ∃ T, PES c.toNat FINS LL n T ∧ At (GwA qb vp T * R) w0 F0 w')); (case h1 => (exact norm_eq rfl))
      case h0 => exact ⟨_, _, hPS, S10⟩
      case round =>
      clear S10
      rintro junkS _ w3 hex
      obtain ⟨T, hPT, S3⟩ := leastN_spec (p := fun n => ∃ T, PES c.toNat FINS LL n T ∧ At (GwA qb vp T * R) w0 F0 w3) (by obtain ⟨f, T, h1, h2⟩ := hex; exact ⟨f, T, h1, h2⟩)
      clear hex
      generalize hmm : (leastN fun n => ∃ T, PES c.toNat FINS LL n T ∧ At (GwA qb vp T * R) w0 F0 w3) = mm at hPT ⊢
      clear hmm
      obtain ⟨hgT, hfT, heT, hlT, dd, hdd⟩ := hPT
      obtain ⟨v, rows, hrows, S4⟩ := gw_open S3
      obtain ⟨r, hr, hrm⟩ := rows_get hrows hdd
      have hb := gw_blk S4
      rw [gwL] at hb
      have hch := (gw_ch S4).1.rd
      have hrv := (row_snd hr S4).rd
      have hlr := (List.getElem?_eq_some_iff.1 hr).1
      have hgd := hgT dd (List.mem_of_getElem? hdd)
      obtain ⟨size, ⟨bv, obv⟩, ⟨sv, osv⟩, ⟨rv, orv⟩, closed, buf, snd, rcv⟩ := r
      obtain rfl : dd = ⟨size, buf, snd, rcv, closed⟩ := hrm.symm
      simp only [] at hrv
      have hs2 := hrv.small
      cases snd with
      | cons x xs =>
        have hx0 : (x :: xs)[(0 : Int).toNat]? = some x := rfl
        have hlx : (x :: xs).length = xs.length + 1 := rfl
        have hxg := hgd.1.2 x List.mem_cons_self
        have hrS : T.sndL c.toNat = xs.length + 1 := by unfold MW.sndL; rw [hdd]; rfl
        obtain ⟨f', rfl⟩ : ∃ f', mm = f' + 1 := ⟨mm - 1, by omega⟩
        ((iterate 2 (apply vC_seq)); apply vC_region; (iterate 2 ((refine vE rfl ?_))); (refine vL_val (opv_fieldAddr rfl) ?_); ((apply vL_val); (case h => ((apply opv_loadb1); exact rfl; exact rfl; assumption; exact rfl))); (refine vE rfl ?_); ((apply vL_val); (case h => ((apply opv_indexAddr); ((conv => lhs; whnf) <;> exact rfl); exact rfl; assumption; (first | omega | (simp only [List.length_map]; omega)); (first | omega | (simp only [List.length_map]; omega))))); (refine vL_val (opv_fieldAddr rfl) ?_); ((apply vL_val); (case h => ((apply opv_ld_el); exact rfl; exact rfl; assumption; assumption; exact rfl))); ((apply vL_val); (case h => ((apply opv_len); ((conv => lhs; whnf) <;> exact rfl); assumption))); (refine vE rfl ?_); apply vL_nil; apply seqP_normal; (refine vC_cond_dec rfl (fun _ => ?_) (fun h => by omega)); apply vC_skip; apply seqP_normal; apply vC_block; apply vC_region; (iterate 10 (first | (refine vE rfl ?_) | ((with_reducible apply vL_val); (case h => ((with_reducible apply opv_loadb1); exact rfl; exact rfl; assumption; exact rfl))) | (refine vL_val (opv_fieldAddr rfl) ?_) | ((with_reducible apply vL_val); (case h => ((with_reducible apply opv_indexAddr); ((conv => lhs; whnf) <;> exact rfl); exact rfl; assumption; (first | omega | (simp only [List.length_map]; omega)); (first | omega | (simp only [List.length_map]; omega))))) | ((with_reducible apply vL_val); (case h => ((with_reducible apply opv_ld_el); exact rfl; exact rfl; assumption; assumption; exact rfl))))); ((apply vL_val); (case h => ((apply opv_ld_eln); exact rfl; exact rfl; assumption; assumption))))
        refine vL_callF rfl (g_serve hgT S3 hp1 x hxg 0 false (by omega)) rfl ?_
        intro _ w4 S5
        have hP' : PES c.toNat FINS LL f' (T.serve x 0 false) := by
          refine ⟨hgT.serve x 0 false, ?_, ?_, ?_, ?_⟩
          · have := serve_sndL (v := 0) (ok := false) hdd rfl ⟨hxg.1, hxg.2.1⟩
            have e : xs.length ≤ f' := by omega
            exact Nat.le_trans this e
          · rw [← heT, MW.endsS, hdd]
          · have := (serve_mkp T x 0 false).li
            omega
          · exact ⟨_, List.getElem?_eq_getElem (by rw [(serve_mkp T x 0 false).ch]; exact (List.getElem?_eq_some_iff.1 hdd).1)⟩
        (apply vL_nil; apply blockP_normal; apply loopP_normal)
        (with_reducible apply end1); (case hs => ((iterate 22 (((refine same_updO ?_ ?_); rotate_left; exact rfl))); ((refine same_upd ?_ ?_); rotate_left; exact rfl); (exact same_mask _ _ _))); (case h1 => (exact norm_eq rfl))
        · exact ⟨f', _, hP', S5⟩
        · show leastN _ < f' + 1
          exact Nat.lt_succ_of_le (leastN_le ⟨_, hP', S5⟩)
      | nil =>
        have hl0 : ([] : List Wt).length = 0 := rfl
        have eT : T = FINS := by
          rw [← heT]
          cases mm with
          | zero => rfl
          | succ f => unfold MW.endsS; simp only [hdd]
        ((iterate 2 (apply vC_seq)); apply vC_region; (iterate 2 ((refine vE rfl ?_))); (refine vL_val (opv_fieldAddr rfl) ?_); ((apply vL_val); (case h => ((apply opv_loadb1); exact rfl; exact rfl; assumption; exact rfl))); (refine vE rfl ?_); ((apply vL_val); (case h => ((apply opv_indexAddr); ((conv => lhs; whnf) <;> exact rfl); exact rfl; assumption; (first | omega | (simp only [List.length_map]; omega)); (first | omega | (simp only [List.length_map]; omega))))); (refine vL_val (opv_fieldAddr rfl) ?_); ((apply vL_val); (case h => ((apply opv_ld_el); exact rfl; exact rfl; assumption; assumption; exact rfl))); ((apply vL_val); (case h => ((apply opv_len); ((conv => lhs; whnf) <;> exact rfl); assumption))); (refine vE rfl ?_); apply vL_nil; apply seqP_normal; ((apply vC_cond_false); exact rfl); apply vC_exit; apply seqP_exit; apply loopP_exit; apply blockP_exit; apply seqP_normal; apply vC_seq; apply vC_region; (refine vE rfl ?_); apply vL_nil; apply seqP_normal; apply vC_ret)
        (apply ret1; (case h1 => (exact norm_eq rfl)))
        exact ⟨rfl, by rw [← eT]; exact S3⟩
end
end Go.Proofs.YtbaidcnalkdhgaaGreat
set_option maxRecDepth 100000
namespace Go.Proofs.YtbaidcnalkdhgaaGreat
open Go Go.Eng
section
variable {S T : MW} {j i : Nat} {x : Cs} {l : List Cs}
theorem cans_next {k : Nat} (hx : l[k]? = some x) : S.cans l (k + 1) = if S.can x then S.cans l k ++ [(k : Int)] else S.cans l k := by
  unfold MW.cans
  rw [List.range_succ, List.filter_append, List.map_append]
  by_cases h : S.can x = true <;> simp [hx, h]
theorem cans_len (S : MW) (l : List Cs) (k : Nat) : (S.cans l k).length ≤ k := by
  unfold MW.cans
  rw [List.length_map]
  exact Nat.le_trans (List.length_filter_le _ _) (by simp)
theorem cans_mem {a : Int} {k : Nat} (h : a ∈ S.cans l k) : ∃ n : Nat, a = n ∧ ∃ x, l[n]? = some x ∧ S.can x = true := by
  unfold MW.cans at h
  obtain ⟨n, hn, rfl⟩ := List.mem_map.1 h
  obtain ⟨_, h2⟩ := List.mem_filter.1 hn
  refine ⟨n, rfl, ?_⟩
  cases hx : l[n]? with
  | none => rw [hx] at h2; cases h2
  | some x => rw [hx] at h2; exact ⟨x, rfl, h2⟩
theorem waitN_next {id k : Int} {n : Nat} (hx : l[n]? = some x) : S.waitN id k l (n + 1) = (S.waitN id k l n).wait1 id k n x := by
  rw [MW.waitN, hx]
theorem go_send {id : Int} {n : Nat} {c v : Int} (hx : l[n]? = some ⟨true, c, v⟩) : S.go id l n = (S.send c.toNat v).1.yields id ⟨n, 0, (S.send c.toNat v).2⟩ := by
  unfold MW.go; rw [Int.toNat_natCast, hx]; rfl
theorem go_recv {id : Int} {n : Nat} {c v : Int} (hx : l[n]? = some ⟨false, c, v⟩) : S.go id l n = (S.recv c.toNat).1.yields id ⟨n, (S.recv c.toNat).2.1, (S.recv c.toNat).2.2⟩ := by
  unfold MW.go; rw [Int.toNat_natCast, hx]; rfl
theorem choose_many {id : Int} {std : Bool} {a : Int} (h : 0 < (S.cans l l.length).length) (h1 : 1 < l.length) (ha : (S.cans l l.length)[(S.rest % (S.cans l l.length).length).toNat]? = some a) : S.choose id l std = ({ S with rest := S.rest / (S.cans l l.length).length } : MW).go id l a := by
  unfold MW.choose; rw [if_pos h, if_pos h1, List.getD_eq_getElem?_getD, ha]; rfl
theorem choose_first {id : Int} {std : Bool} {a : Int} (h : 0 < (S.cans l l.length).length) (h1 : ¬ 1 < l.length) (ha : (S.cans l l.length)[0]? = some a) : S.choose id l std = S.go id l a := by
  unfold MW.choose; rw [if_pos h, if_neg h1, List.getD_eq_getElem?_getD, ha]; rfl
theorem choose_std {id : Int} (h : ¬ 0 < (S.cans l l.length).length) : S.choose id l true = S.yields id ⟨-1, 0, false⟩ := by
  unfold MW.choose; rw [if_neg h]; rfl
theorem choose_wait {id : Int} (h : ¬ 0 < (S.cans l l.length).length) : S.choose id l false = ({ S with fi := S.fi ++ [false] } : MW).waitN id S.fi.length l l.length := by
  unfold MW.choose; rw [if_neg h]; rfl
/-- how long the lists of who waits are, behind n waits -/
theorem waitN_len (S : MW) (id k : Int) (l : List Cs) (B : Nat) (h : ∀ d ∈ S.ch, d.snd.length ≤ B ∧ d.rcv.length ≤ B) : ∀ n, ∀ d ∈ (S.waitN id k l n).ch, d.snd.length ≤ B + n ∧ d.rcv.length ≤ B + n
  | 0 => h
  | n + 1 => fun d hd => by
    have ih := waitN_len S id k l B h n
    unfold MW.waitN at hd
    split at hd
    · have := ih d hd; omega
    · rename_i x hx
      unfold MW.wait1 at hd
      split at hd
      · have := ih d hd; omega
      · rename_i d0 hd0
        have hd : d ∈ (S.waitN id k l n).ch.set x.c.toNat (d0.put x.send ⟨id, k, n, x.v⟩) := hd
        rcases List.mem_or_eq_of_mem_set hd with h1 | rfl
        · have := ih d h1; omega
        · have := ih d0 (List.mem_of_getElem? hd0)
          unfold MC.put
          split <;> (simp only [List.length_append, List.length_singleton]; omega)
end
/-- what choose needs of the machine -/
structure GOs (S : MW) : Prop where
  ch : GCh S
  buf : ∀ d ∈ S.ch, d.buf.length ≤ 900000
  li : S.li.length ≤ 900000
  fi : S.fi.length ≤ 900000
  cl : ∀ d ∈ S.ch, S.li.length + d.rcv.length + d.snd.length ≤ 900000
  r0 : 0 ≤ S.rest
  r1 : S.rest ≤ 18446744073709551615
section
variable {w w0 : World} {F0 : Nat → Prop} {R : Asr} {qb : Nat} {vp : Value} {S : MW}
set_option maxHeartbeats 4000000 in
theorem g_choose [Lcl R] (hgo : GOs S) (S1 : At (GwA qb vp S * R) w0 F0 w) (hp1 : vp.oneCell' = true) {id : Int} (hi0 : 0 ≤ id) (hi1 : id < S.to.length) {lv : Value} {xs : List Cs} (hcs : ∀ T w', At (GwA qb vp T * R) w0 F0 w' → Rd w'.heap 3 csE lv xs) (hl16 : xs.length ≤ 1000) (hxc : ∀ x ∈ xs, 0 ≤ x.c ∧ x.c < S.ch.length) (std : Bool) :
    Rets Tryz.prog 187 #[pt qb, .int .i64 id, lv, .bool std] w fun _ w' => At (GwA qb vp (S.choose id xs std) * R) w0 F0 w' := by
  refine rets_of Tryz.func187 rfl Tryz.ntmps187 rfl rfl (by kernel_rfl) ?_
  (apply vC_seq; apply vC_region; (refine vE rfl ?_); apply vL_nil; apply seqP_normal; (iterate 2 (apply vC_seq)); apply vC_region; (refine vE rfl ?_); apply vL_nil; apply seqP_normal; apply vC_block)
  (apply vC_loop2 288230376151581440 9 8 (fun u v8 w' => ∃ k : Nat, u = .int .i64 (k : Int) ∧ k ≤ xs.length ∧ Fr No w w' ∧ Own w'.heap 3 1 iE v8 (S.cans xs k) ∧ (∀ b, own v8 = some b → w.heap.size ≤ b) ∧ v8.oneCell' = true) (fun u _ _ => xs.length - (RowKit.intOf u).toNat)); (case h1 => (exact norm_eq rfl)); (case h2 => (exact norm_eq rfl))
  case h0 => exact ⟨0, rfl, by omega, Fr.refl _ _, Own.nil _ _ _ _, fun b hb => (by cases hb), rfl⟩
  case round =>
  rintro junk _ v8 w1 ⟨k, rfl, hk, hf1, ho1, hfr1, hone1⟩
  have S2 := S1.frN hf1
  have hR := hcs _ _ S2
  obtain ⟨la, lc, rfl⟩ := hR.len
  have hcl := cans_len S xs k
  by_cases hkl : k < xs.length
  · obtain ⟨x, hx⟩ : ∃ x, xs[k]? = some x := ⟨xs[k], by simp [hkl]⟩
    have hx' : xs[((k : Nat) : Int).toNat]? = some x := by rw [Int.toNat_natCast]; exact hx
    obtain ⟨c0, c1⟩ := hxc x (List.mem_of_getElem? hx)
    obtain ⟨d, hd⟩ : ∃ d, S.ch[x.c.toNat]? = some d := ⟨_, List.getElem?_eq_getElem (by omega)⟩
    have hnx := cans_next (S := S) hx
    obtain ⟨va, vn, vc, rfl⟩ := ho1.isSlice
    obtain ⟨sd, xc, xv⟩ := x
    simp only [] at c0 c1 hd
    cases sd with
    | true =>
      have ecan : S.can ⟨true, xc, xv⟩ = d.canS := by unfold MW.can; rw [hd]; rfl
      rw [ecan] at hnx
      ((iterate 2 (apply vC_seq)); apply vC_region; (iterate 2 ((refine vE rfl ?_))); (refine vL_val (opv_lenc rfl) ?_); (refine vE rfl ?_); apply vL_nil; apply seqP_normal; (refine vC_cond_dec rfl (fun _ => ?_) (fun h => by omega)); apply vC_skip; apply seqP_normal; apply vC_seq; apply vC_block; apply vC_seq; apply vC_region; (iterate 19 (first | (refine vE rfl ?_) | (refine vL_val (opv_fieldAddr rfl) ?_) | ((with_reducible apply vL_val); (case h => ((with_reducible apply opv_indexAddr); exact norm_eq rfl; exact rfl; assumption; (first | omega | (simp only [List.length_map]; omega)); (first | omega | (simp only [List.length_map]; omega))))) | ((with_reducible apply vL_val); (case h => ((with_reducible apply opv_ld_el); exact rfl; exact rfl; assumption; assumption; exact rfl))) | ((with_reducible apply vL_wanted); exact rfl))))
      refine vL_callF rfl (g_canS S2 c0 hd) rfl ?_
      rintro _ w2 ⟨hf2, rfl⟩
      have hR2 := hR.frN hf2
      have ho2 := ho1.frN hf2
      have hf12 := hf1.trans hf2
      clear hR ho1 S2 hf1
      cases hcan : d.canS with
      | true =>
        rw [hcan, if_pos rfl] at hnx
        ((iterate 18 (first | (refine vE rfl ?_) | ((with_reducible apply vL_unwanted'); exact rfl; exact rfl) | ((with_reducible apply vL_unwanted_none); exact rfl))); apply vL_nil; apply seqP_normal; ((apply vC_cond_true); exact rfl); apply vC_region; (iterate 2 ((refine vE rfl ?_))); ((apply vL_val); (case h => ((apply opw_buildSl); exact rfl; exact rfl; exact rfl; exact (rfl : _ = some [_])))))
        refine vL_append (enc := iE) (xs := S.cans xs k) (ys := [(k : Int)]) (by (exact norm_eq rfl)) (by (exact norm_eq rfl)) (Own.alloc ho2) (Rd.new1 _ _ rfl) rfl (by decide) ?_ ?_ ?_
        · simp [maxLen]; omega
        · simp; omega
        intro v' w3 ho3 hf3 hfr3 hone3 _
        obtain ⟨va2, vn2, vc2, rfl⟩ := ho3.isSlice
        have hfB : Fr No w w3 := (hf12.alloc _).trans' hf3 (fun i hi => .inr (hfr1 i hi))
        ((refine vE rfl ?_); apply vL_nil; apply blockP_normal; apply seqP_normal; apply vC_region; (refine vE rfl ?_); ((apply vL_val); (case h => ((apply opv_add); exact rfl; exact rfl; (first | omega | (simp only [List.length_map]; omega))))); (refine vE rfl ?_); apply vL_nil; apply loopP_normal)
        (with_reducible apply end2); (case hs => ((iterate 43 (((refine same_updO ?_ ?_); rotate_left; exact rfl))); (iterate 2 (((refine same_upd ?_ ?_); rotate_left; exact rfl))); (exact same_mask _ _ _))); (case h1 => (exact norm_eq rfl)); (case h2 => (exact norm_eq rfl))
        · refine ⟨k + 1, rfl, by omega, hfB, by rw [hnx]; exact ho3, fun b hb => ?_, rfl⟩
          rcases hfr3 b hb with h | h
          · exact hfr1 b h
          · have := hf12.size; rw [alloc_size] at h; omega
        · simp [RowKit.intOf]; omega
      | false =>
        rw [hcan, if_neg (by simp)] at hnx
        ((iterate 26 (first | (refine vE rfl ?_) | (refine vL_val (opv_fieldAddr rfl) ?_) | ((with_reducible apply vL_val); (case h => ((with_reducible apply opv_indexAddr); exact norm_eq rfl; exact rfl; assumption; (first | omega | (simp only [List.length_map]; omega)); (first | omega | (simp only [List.length_map]; omega))))) | ((with_reducible apply vL_val); (case h => ((with_reducible apply opv_ld_el); exact rfl; exact rfl; assumption; assumption; exact rfl))) | (refine vL_val (opv_not rfl) ?_) | ((with_reducible apply vL_wanted); exact rfl) | ((with_reducible apply vL_unwanted'); exact rfl; exact rfl))); apply vL_nil; apply seqP_normal; ((apply vC_cond_false); exact rfl); apply vC_skip; apply blockP_normal; apply seqP_normal; apply vC_region; (refine vE rfl ?_); ((apply vL_val); (case h => ((apply opv_add); exact rfl; exact rfl; (first | omega | (simp only [List.length_map]; omega))))); (refine vE rfl ?_); apply vL_nil; apply loopP_normal)
        (with_reducible apply end2); (case hs => ((iterate 38 (((refine same_updO ?_ ?_); rotate_left; exact rfl))); (iterate 2 (((refine same_upd ?_ ?_); rotate_left; exact rfl))); (exact same_mask _ _ _))); (case h1 => (exact norm_eq rfl)); (case h2 => (exact norm_eq rfl))
        · exact ⟨k + 1, rfl, by omega, hf12, by rw [hnx]; exact ho2, hfr1, rfl⟩
        · simp [RowKit.intOf]; omega
    | false =>
      have ecan : S.can ⟨false, xc, xv⟩ = d.canR := by unfold MW.can; rw [hd]; rfl
      rw [ecan] at hnx
      ((iterate 2 (apply vC_seq)); apply vC_region; (iterate 2 ((refine vE rfl ?_))); (refine vL_val (opv_lenc rfl) ?_); (refine vE rfl ?_); apply vL_nil; apply seqP_normal; (refine vC_cond_dec rfl (fun _ => ?_) (fun h => by omega)); apply vC_skip; apply seqP_normal; apply vC_seq; apply vC_block; apply vC_seq; apply vC_region; (iterate 42 (first | (refine vE rfl ?_) | (refine vL_val (opv_fieldAddr rfl) ?_) | ((with_reducible apply vL_val); (case h => ((with_reducible apply opv_indexAddr); exact norm_eq rfl; exact rfl; assumption; (first | omega | (simp only [List.length_map]; omega)); (first | omega | (simp only [List.length_map]; omega))))) | ((with_reducible apply vL_val); (case h => ((with_reducible apply opv_ld_el); exact rfl; exact rfl; assumption; assumption; exact rfl))) | (refine vL_val (opv_not rfl) ?_) | ((with_reducible apply vL_wanted); exact rfl) | ((with_reducible apply vL_unwanted'); exact rfl; exact rfl))))
      refine vL_callF rfl (g_canR S2 c0 hd) rfl ?_
      rintro _ w2 ⟨hf2, rfl⟩
      have hR2 := hR.frN hf2
      have ho2 := ho1.frN hf2
      have hf12 := hf1.trans hf2
      clear hR ho1 S2 hf1
      cases hcan : d.canR with
      | true =>
        rw [hcan, if_pos rfl] at hnx
        (((apply vL_wanted); exact rfl); (iterate 2 ((refine vE rfl ?_))); apply vL_nil; apply seqP_normal; ((apply vC_cond_true); exact rfl); apply vC_region; (iterate 2 ((refine vE rfl ?_))); ((apply vL_val); (case h => ((apply opw_buildSl); exact rfl; exact rfl; exact rfl; exact (rfl : _ = some [_])))))
        refine vL_append (enc := iE) (xs := S.cans xs k) (ys := [(k : Int)]) (by (exact norm_eq rfl)) (by (exact norm_eq rfl)) (Own.alloc ho2) (Rd.new1 _ _ rfl) rfl (by decide) ?_ ?_ ?_
        · simp [maxLen]; omega
        · simp; omega
        intro v' w3 ho3 hf3 hfr3 hone3 _
        obtain ⟨va2, vn2, vc2, rfl⟩ := ho3.isSlice
        have hfB : Fr No w w3 := (hf12.alloc _).trans' hf3 (fun i hi => .inr (hfr1 i hi))
        ((refine vE rfl ?_); apply vL_nil; apply blockP_normal; apply seqP_normal; apply vC_region; (refine vE rfl ?_); ((apply vL_val); (case h => ((apply opv_add); exact rfl; exact rfl; (first | omega | (simp only [List.length_map]; omega))))); (refine vE rfl ?_); apply vL_nil; apply loopP_normal)
        (with_reducible apply end2); (case hs => ((iterate 43 (((refine same_updO ?_ ?_); rotate_left; exact rfl))); (iterate 2 (((refine same_upd ?_ ?_); rotate_left; exact rfl))); (exact same_mask _ _ _))); (case h1 => (exact norm_eq rfl)); (case h2 => (exact norm_eq rfl))
        · refine ⟨k + 1, rfl, by omega, hfB, by rw [hnx]; exact ho3, fun b hb => ?_, rfl⟩
          rcases hfr3 b hb with h | h
          · exact hfr1 b h
          · have := hf12.size; rw [alloc_size] at h; omega
        · simp [RowKit.intOf]; omega
      | false =>
        rw [hcan, if_neg (by simp)] at hnx
        (((apply vL_wanted); exact rfl); (iterate 2 ((refine vE rfl ?_))); apply vL_nil; apply seqP_normal; ((apply vC_cond_false); exact rfl); apply vC_skip; apply blockP_normal; apply seqP_normal; apply vC_region; (refine vE rfl ?_); ((apply vL_val); (case h => ((apply opv_add); exact rfl; exact rfl; (first | omega | (simp only [List.length_map]; omega))))); (refine vE rfl ?_); apply vL_nil; apply loopP_normal)
        (with_reducible apply end2); (case hs => ((iterate 38 (((refine same_updO ?_ ?_); rotate_left; exact rfl))); (iterate 2 (((refine same_upd ?_ ?_); rotate_left; exact rfl))); (exact same_mask _ _ _))); (case h1 => (exact norm_eq rfl)); (case h2 => (exact norm_eq rfl))
        · exact ⟨k + 1, rfl, by omega, hf12, by rw [hnx]; exact ho2, hfr1, rfl⟩
        · simp [RowKit.intOf]; omega
  · have e : k = xs.length := by omega
    subst e
    have ho1r := ho1.rd
    obtain ⟨va, vc, rfl⟩ := ho1r.len
    have hmem : ∀ (m : Nat) a, (S.cans xs xs.length)[m]? = some a → ∃ na : Nat, a = na ∧ ∃ x, xs[na]? = some x ∧ S.can x = true := fun m a h => cans_mem (List.mem_of_getElem? h)
    by_cases hpos : 0 < (S.cans xs xs.length).length
    · obtain ⟨a0, ha0⟩ : ∃ a0, (S.cans xs xs.length)[0]? = some a0 := ⟨_, List.getElem?_eq_getElem hpos⟩
      have ha0' : (S.cans xs xs.length)[(0 : Int).toNat]? = some a0 := ha0
      by_cases h1 : 1 < xs.length
      · have hn : 1 ≤ ((S.cans xs xs.length).length : Int) := by omega
        have hm0 := Int.emod_nonneg S.rest (b := ((S.cans xs xs.length).length : Int)) (by omega)
        have hm1 := Int.emod_lt_of_pos S.rest (b := ((S.cans xs xs.length).length : Int)) (by omega)
        obtain ⟨a, ha⟩ : ∃ a, (S.cans xs xs.length)[(S.rest % ((S.cans xs xs.length).length : Int)).toNat]? = some a := ⟨_, List.getElem?_eq_getElem (by omega)⟩
        rw [choose_many hpos h1 ha]
        obtain ⟨na, rfl, ⟨sd, xc, xv⟩, hna, _⟩ := hmem _ _ ha
        obtain ⟨c0, c1⟩ := hxc _ (List.mem_of_getElem? hna)
        simp only [] at c0 c1
        obtain ⟨d, hd⟩ : ∃ d, S.ch[xc.toNat]? = some d := ⟨_, List.getElem?_eq_getElem (by omega)⟩
        have hbd : d.buf.length ≤ 1000000 := by have := hgo.buf d (List.mem_of_getElem? hd); omega
        have hgr0 := hgo.r0
        have hgr1 := hgo.r1
        have hq0 := Int.ediv_nonneg hgr0 (show 0 ≤ ((S.cans xs xs.length).length : Int) by omega)
        have hq1 := Int.ediv_le_self ((S.cans xs xs.length).length : Int) hgr0
        have hgl := hgo.li
        obtain ⟨v, rows, hrows, S3⟩ := gw_open S2
        have hb := gw_blk S3
        rw [gwL] at hb
        obtain ⟨g1, g2, g3, g4, g5, g6, g7, g8⟩ := gw_ones S3
        ((iterate 2 (apply vC_seq)); apply vC_region; (iterate 2 ((refine vE rfl ?_))); (refine vL_val (opv_lenc rfl) ?_); (refine vE rfl ?_); apply vL_nil; apply seqP_normal; (refine vC_cond_dec rfl (fun h => by omega) (fun _ => ?_)); apply vC_exit; apply seqP_exit; apply loopP_exit; apply blockP_exit; (iterate 21 (first | with_reducible apply vC_seq | with_reducible apply vC_region | with_reducible apply seqP_normal | (refine vE rfl ?_) | (refine vL_val (opv_lenc rfl) ?_) | ((with_reducible apply vL_val); (case h => ((with_reducible apply opv_conv_u); exact rfl; (first | omega | (simp only [List.length_map]; omega))))) | with_reducible apply vL_nil | (refine vC_cond_dec rfl (fun _ => ?_) (fun h => by omega)))); ((apply vL_val); (case h => ((apply opv_indexAddr); exact norm_eq rfl; exact rfl; assumption; (first | omega | (simp only [List.length_map]; omega)); (first | omega | (simp only [List.length_map]; omega))))); ((apply vL_val); (case h => ((apply opv_ld_el); exact rfl; exact rfl; assumption; assumption; exact rfl))); (iterate 17 (first | with_reducible apply vC_seq | with_reducible apply vC_region | with_reducible apply seqP_normal | (refine vE rfl ?_) | (refine vL_val (opv_lenc rfl) ?_) | with_reducible apply vL_nil | (refine vC_cond_dec rfl (fun _ => ?_) (fun h => by omega)))); (refine vL_val (opv_fieldAddr rfl) ?_); ((apply vL_val); (case h => ((apply opv_loadb1); exact rfl; exact rfl; assumption; exact rfl))); (refine vE rfl ?_); ((apply vL_val); (case h => ((apply opv_rem); exact rfl; exact rfl; (first | omega | (simp only [List.length_map]; omega)); (first | omega | (simp only [List.length_map]; omega))))); ((apply vL_val); (case h => ((apply opv_conv_i); exact rfl; (first | omega | (simp only [List.length_map]; omega))))); ((apply vL_val); (case h => ((apply opv_indexAddr); exact norm_eq rfl; exact rfl; assumption; (first | omega | (simp only [List.length_map]; omega)); (first | omega | (simp only [List.length_map]; omega))))); ((apply vL_val); (case h => ((apply opv_ld_el); exact rfl; exact rfl; assumption; assumption; exact rfl))); (refine vE rfl ?_); apply vL_nil; apply seqP_normal; apply vC_region; (iterate 9 (first | (refine vE rfl ?_) | ((with_reducible apply vL_val); (case h => ((with_reducible apply opv_loadb1); exact rfl; exact rfl; assumption; exact rfl))) | (refine vL_val (opv_fieldAddr rfl) ?_) | ((with_reducible apply vL_val); (case h => ((with_reducible apply opv_quou); exact rfl; exact rfl; (first | omega | (simp only [List.length_map]; omega)); (first | omega | (simp only [List.length_map]; omega))))))); ((apply vL_skip); (case h => ((apply ops_store1); exact norm_eq rfl; exact norm_eq rfl; (first | rfl | assumption); assumption; (first | decide | exact of_decide_eq_true rfl | (simp; done))))); apply vL_nil; apply seqP_normal; apply vC_seq; apply vC_region; (refine vE rfl ?_); ((apply vL_val); (case h => ((apply opv_buildS); exact rfl; exact (rfl : _ = some [_, _, _])))); ((apply vL_val); (case h => (apply opw_alloc))); ((apply vL_skip); (case h => ((apply ops_storen); exact norm_eq rfl; exact norm_eq rfl; exact rfl; (intro u hu; simp at hu; rcases hu with rfl | rfl | rfl <;> (first | rfl | assumption)); infer_instance; (first | decide | exact of_decide_eq_true rfl | (simp; done))))); apply vL_nil; apply seqP_normal; (iterate 2 (apply vC_seq)); apply vC_region; (iterate 2 ((refine vE rfl ?_))))
        have S4 : At (GwA qb vp { S with rest := S.rest / ((S.cans xs xs.length).length : Int) } * R) w0 F0 (w1.setRow qb ([vp, v.ch, v.at_, v.to, v.ov, v.li, v.ev, v.fi, .int .i64 S.now, v.tm, .int .i64 S.made, .int .u64 S.rest].set (0 + 11) (.int .u64 (S.rest / ((S.cans xs xs.length).length : Int)))).toArray) := gw_shut hrows (gw_num S3 S.now S.made _)
        have hgch : GCh { S with rest := S.rest / ((S.cans xs xs.length).length : Int) } := hgo.ch
        have S5 := ((S4.alloc (cs := [.int .i64 0, .int .i64 0, .bool false]) (T := 171)).set (cs' := [.int .i64 (na : Int), .int .i64 0, .bool false])).ac (show _ = GwA qb vp ({ S with rest := S.rest / ((S.cans xs xs.length).length : Int) } : MW) * (Pt (w1.setRow qb ([vp, v.ch, v.at_, v.to, v.ov, v.li, v.ev, v.fi, .int .i64 S.now, v.tm, .int .i64 S.made, .int .u64 S.rest].set (0 + 11) (.int .u64 (S.rest / ((S.cans xs xs.length).length : Int)))).toArray).heap.size [.int .i64 (na : Int), .int .i64 0, .bool false] 171 * R) by ac_rfl)
        refine vL_gen (fun w' => At _ w0 F0 w') S5 ?_
        clear S5
        intro w5 S5
        generalize (w1.setRow qb ([vp, v.ch, v.at_, v.to, v.ov, v.li, v.ev, v.fi, .int .i64 S.now, v.tm, .int .i64 S.made, .int .u64 S.rest].set (0 + 11) (.int .u64 (S.rest / ((S.cans xs xs.length).length : Int)))).toArray).heap.size = b12 at S5 ⊢
        have up12 : ∀ {T : MW} {cs : List Value} {w' : World}, At (GwA qb vp T * (Pt b12 cs 171 * R)) w0 F0 w' → At (Pt b12 cs 171 * (GwA qb vp T * R)) w0 F0 w' := fun h => h.ac (by ac_rfl)
        have hR5 := hcs _ _ (up12 S5).drop
        have hna' : xs[((na : Nat) : Int).toNat]? = some ⟨sd, xc, xv⟩ := by rw [Int.toNat_natCast]; exact hna
        have hnl := (List.getElem?_eq_some_iff.1 hna).1
        have hlr0 : (({ S with rest := S.rest / ((S.cans xs xs.length).length : Int) } : MW)).li.length ≤ 1000000 := by show S.li.length ≤ _; omega
        cases sd with
        | true =>
          rw [go_send hna]
          (((apply vL_val); (case h => ((apply opv_indexAddr); exact norm_eq rfl; exact rfl; assumption; (first | omega | (simp only [List.length_map]; omega)); (first | omega | (simp only [List.length_map]; omega))))); (refine vL_val (opv_fieldAddr rfl) ?_); ((apply vL_val); (case h => ((apply opv_ld_el); exact rfl; exact rfl; assumption; assumption; exact rfl))); apply vL_nil; apply seqP_normal; ((apply vC_cond_true); exact rfl))
          refine vC_draw' ((fun wf => Rd wf.heap 3 csE (.slice la xs.length lc) xs)) (by first | assumption | infer_instance) ?_
          (refine tkE 0 rfl (by kernel_rfl) (by first | assumption | infer_instance) rfl ?_)
          (refine tkE 1 rfl (by kernel_rfl) (by first | assumption | infer_instance) rfl ?_)
          (refine tkE 2 rfl (by kernel_rfl) (by first | assumption | infer_instance) rfl ?_)
          (refine tk 3 rfl (by kernel_rfl) (by first | assumption | infer_instance) (by intro wf hwf; (try dsimp only at hwf); (((apply opv_indexAddr); exact norm_eq rfl; exact rfl; assumption; (first | omega | (simp only [List.length_map]; omega)); (first | omega | (simp only [List.length_map]; omega))))) ?_)
          (refine tk 4 rfl (by kernel_rfl) (by first | assumption | infer_instance) (by intro wf hwf; (try dsimp only at hwf); (((apply opv_fieldAddr); exact rfl))) ?_)
          (refine tk 5 rfl (by kernel_rfl) (by first | assumption | infer_instance) (by intro wf hwf; (try dsimp only at hwf); (((apply opv_ld_el); exact rfl; exact rfl; assumption; assumption; exact rfl))) ?_)
          (refine tkE 6 rfl (by kernel_rfl) (by first | assumption | infer_instance) rfl ?_)
          (refine tkE 7 rfl (by kernel_rfl) (by first | assumption | infer_instance) rfl ?_)
          (refine tk 8 rfl (by kernel_rfl) (by first | assumption | infer_instance) (by intro wf hwf; (try dsimp only at hwf); (((apply opv_indexAddr); exact norm_eq rfl; exact rfl; assumption; (first | omega | (simp only [List.length_map]; omega)); (first | omega | (simp only [List.length_map]; omega))))) ?_)
          (refine tk 9 rfl (by kernel_rfl) (by first | assumption | infer_instance) (by intro wf hwf; (try dsimp only at hwf); (((apply opv_fieldAddr); exact rfl))) ?_)
          (refine tk 10 rfl (by kernel_rfl) (by first | assumption | infer_instance) (by intro wf hwf; (try dsimp only at hwf); (((apply opv_ld_el); exact rfl; exact rfl; assumption; assumption; exact rfl))) ?_)
          (refine tkc 11 rfl (by kernel_rfl) (by first | assumption | infer_instance) rfl (g_send hgch S5.drew hp1 c0 hd xv hlr0 hbd) rfl ?_)
          rintro _ w6 ⟨rfl, S6⟩
          have hR6 := hcs _ _ (up12 S6).drop
          have hb12 := (up12 S6).blk
          (refine tk 12 rfl (by kernel_rfl) (by first | assumption | infer_instance) (by intro wf hwf; (try dsimp only at hwf); (((apply opv_fieldAddr); exact rfl))) ?_)
          refine vA_only 13 rfl (by kernel_rfl) (by first | assumption | infer_instance) (fun K hK => ?_)
          have S7 := (up12 S6).set (cs' := [.int .i64 (na : Int), .int .i64 0, .bool ((({ S with rest := S.rest / ((S.cans xs xs.length).length : Int) } : MW)).send xc.toNat xv).2])
          have hR7 := hcs _ _ S7.drop
          have hb127 := S7.blk
          (((apply vL_skip); (case h => ((apply ops_store1); exact norm_eq rfl; exact norm_eq rfl; (first | rfl | assumption); assumption; (first | decide | exact of_decide_eq_true rfl | (simp; done))))); apply vL_nil)
          refine ⟨rfl, hK _ _ ?_⟩
          refine vA_done (by kernel_rfl) (by first | assumption | infer_instance) ?_
          have hmk := send_mkp ({ S with rest := S.rest / ((S.cans xs xs.length).length : Int) } : MW) xc.toNat xv
          refine vC_gen (fun w' => At _ w0 F0 w') S7 ?_
          clear S7 hR7 hb127 hb12 hR6 S6 S5 hR5
          intro w7 S7
          have hb12 := S7.blk
          (apply vC_seq; apply vC_region; (iterate 2 ((refine vE rfl ?_))); ((apply vL_val); (case h => ((apply opv_loadbC); exact rfl; exact rfl; assumption; exact (rfl : _ = [_, _, _]); exact rfl))))
          have hy := g_yields (S7.ac (show _ = GwA qb vp ((({ S with rest := S.rest / ((S.cans xs xs.length).length : Int) } : MW)).send xc.toNat xv).1 * (Pt b12 [.int .i64 (na : Int), .int .i64 0, .bool ((({ S with rest := S.rest / ((S.cans xs xs.length).length : Int) } : MW)).send xc.toNat xv).2] 171 * R) by ac_rfl)) hp1 id ⟨na, 0, ((({ S with rest := S.rest / ((S.cans xs xs.length).length : Int) } : MW)).send xc.toNat xv).2⟩ hi0 (by rw [hmk.to]; exact hi1) (by have := hmk.li; have e : (({ S with rest := S.rest / ((S.cans xs xs.length).length : Int) } : MW)).li.length = S.li.length := rfl; omega)
          refine vL_callF rfl (hy) rfl ?_
          intro _ w8 S8
          (apply vL_nil; apply seqP_normal; apply vC_ret; apply seqP_ret)
          (first | apply ret0 | apply ret0n)
          exact (up12 S8).drop
        | false =>
          rw [go_recv hna]
          ((iterate 13 (first | with_reducible apply vC_region | with_reducible apply seqP_normal | ((with_reducible apply vC_cond_false); exact rfl) | (refine vE rfl ?_) | (refine vL_val (opv_fieldAddr rfl) ?_) | ((with_reducible apply vL_val); (case h => ((with_reducible apply opv_indexAddr); exact norm_eq rfl; exact rfl; assumption; (first | omega | (simp only [List.length_map]; omega)); (first | omega | (simp only [List.length_map]; omega))))) | ((with_reducible apply vL_val); (case h => ((with_reducible apply opv_ld_el); exact rfl; exact rfl; assumption; assumption; exact rfl))) | with_reducible apply vL_nil)))
          refine vL_callF rfl (g_recv hgch S5 hp1 c0 hd hlr0 hbd) rfl ?_
          rintro _ w6 ⟨rfl, S6⟩
          have hb12 := (up12 S6).blk
          ((iterate 3 ((refine vE rfl ?_))); (refine vL_val (opv_fieldAddr rfl) ?_); ((apply vL_skip); (case h => ((apply ops_store1); exact norm_eq rfl; exact norm_eq rfl; (first | rfl | assumption); assumption; (first | decide | exact of_decide_eq_true rfl | (simp; done))))); (refine vL_val (opv_fieldAddr rfl) ?_); ((apply vL_skip); (case h => ((apply ops_store1); exact norm_eq rfl; exact norm_eq rfl; (first | rfl | assumption); infer_instance; (first | decide | exact of_decide_eq_true rfl | (simp; done))))); apply vL_nil; apply seqP_normal; apply vC_seq; apply vC_region; (iterate 2 ((refine vE rfl ?_))); ((apply vL_val); (case h => ((apply opv_loadbC); exact rfl; exact rfl; infer_instance; exact (rfl : _ = [_, _, _]); exact rfl))))
          have S7 := ((up12 S6).set (cs' := [.int .i64 (na : Int), .int .i64 ((({ S with rest := S.rest / ((S.cans xs xs.length).length : Int) } : MW)).recv xc.toNat).2.1, .bool false])).set (cs' := [.int .i64 (na : Int), .int .i64 ((({ S with rest := S.rest / ((S.cans xs xs.length).length : Int) } : MW)).recv xc.toNat).2.1, .bool ((({ S with rest := S.rest / ((S.cans xs xs.length).length : Int) } : MW)).recv xc.toNat).2.2])
          have hmk := recv_mkp ({ S with rest := S.rest / ((S.cans xs xs.length).length : Int) } : MW) xc.toNat
          refine vL_gen (fun w' => At _ w0 F0 w') S7 ?_
          clear S7 hb12 S6 S5 hR5
          intro w7 S7
          have hb12 := S7.blk
          skip
          have hy := g_yields (S7.ac (show _ = GwA qb vp ((({ S with rest := S.rest / ((S.cans xs xs.length).length : Int) } : MW)).recv xc.toNat).1 * (Pt b12 [.int .i64 (na : Int), .int .i64 ((({ S with rest := S.rest / ((S.cans xs xs.length).length : Int) } : MW)).recv xc.toNat).2.1, .bool ((({ S with rest := S.rest / ((S.cans xs xs.length).length : Int) } : MW)).recv xc.toNat).2.2] 171 * R) by ac_rfl)) hp1 id ⟨na, ((({ S with rest := S.rest / ((S.cans xs xs.length).length : Int) } : MW)).recv xc.toNat).2.1, ((({ S with rest := S.rest / ((S.cans xs xs.length).length : Int) } : MW)).recv xc.toNat).2.2⟩ hi0 (by rw [hmk.to]; exact hi1) (by have := hmk.li; have e : (({ S with rest := S.rest / ((S.cans xs xs.length).length : Int) } : MW)).li.length = S.li.length := rfl; omega)
          refine vL_callF rfl (hy) rfl ?_
          intro _ w8 S8
          (apply vL_nil; apply seqP_normal; apply vC_ret; apply seqP_ret)
          (first | apply ret0 | apply ret0n)
          exact (up12 S8).drop
      · rw [choose_first hpos h1 ha0]
        obtain ⟨na, rfl, ⟨sd, xc, xv⟩, hna, _⟩ := hmem _ _ ha0
        obtain ⟨c0, c1⟩ := hxc _ (List.mem_of_getElem? hna)
        simp only [] at c0 c1
        obtain ⟨d, hd⟩ : ∃ d, S.ch[xc.toNat]? = some d := ⟨_, List.getElem?_eq_getElem (by omega)⟩
        have hbd : d.buf.length ≤ 1000000 := by have := hgo.buf d (List.mem_of_getElem? hd); omega
        have hgl := hgo.li
        have hgch := hgo.ch
        ((iterate 2 (apply vC_seq)); apply vC_region; (iterate 2 ((refine vE rfl ?_))); (refine vL_val (opv_lenc rfl) ?_); (refine vE rfl ?_); apply vL_nil; apply seqP_normal; (refine vC_cond_dec rfl (fun h => by omega) (fun _ => ?_)); apply vC_exit; apply seqP_exit; apply loopP_exit; apply blockP_exit; (iterate 21 (first | with_reducible apply vC_seq | with_reducible apply vC_region | with_reducible apply seqP_normal | (refine vE rfl ?_) | (refine vL_val (opv_lenc rfl) ?_) | ((with_reducible apply vL_val); (case h => ((with_reducible apply opv_conv_u); exact rfl; (first | omega | (simp only [List.length_map]; omega))))) | with_reducible apply vL_nil | (refine vC_cond_dec rfl (fun _ => ?_) (fun h => by omega)))); ((apply vL_val); (case h => ((apply opv_indexAddr); exact norm_eq rfl; exact rfl; assumption; (first | omega | (simp only [List.length_map]; omega)); (first | omega | (simp only [List.length_map]; omega))))); ((apply vL_val); (case h => ((apply opv_ld_el); exact rfl; exact rfl; assumption; assumption; exact rfl))); (iterate 17 (first | with_reducible apply vC_seq | with_reducible apply vC_region | with_reducible apply seqP_normal | with_reducible apply vC_skip | (refine vE rfl ?_) | (refine vL_val (opv_lenc rfl) ?_) | with_reducible apply vL_nil | (refine vC_cond_dec rfl (fun h => by omega) (fun _ => ?_)))); ((apply vL_val); (case h => ((apply opv_buildS); exact rfl; exact (rfl : _ = some [_, _, _])))); ((apply vL_val); (case h => (apply opw_alloc))); ((apply vL_skip); (case h => ((apply ops_storen); exact norm_eq rfl; exact norm_eq rfl; exact rfl; (intro u hu; simp at hu; rcases hu with rfl | rfl | rfl <;> (first | rfl | assumption)); infer_instance; (first | decide | exact of_decide_eq_true rfl | (simp; done))))); apply vL_nil; apply seqP_normal; (iterate 2 (apply vC_seq)); apply vC_region; (iterate 2 ((refine vE rfl ?_))))
        clear hR
        have S5 := ((S2.alloc (cs := [.int .i64 0, .int .i64 0, .bool false]) (T := 171)).set (cs' := [.int .i64 (na : Int), .int .i64 0, .bool false])).ac (show _ = GwA qb vp S * (Pt w1.heap.size [.int .i64 (na : Int), .int .i64 0, .bool false] 171 * R) by ac_rfl)
        refine vL_gen (fun w' => At _ w0 F0 w') S5 ?_
        clear S5
        intro w5 S5
        generalize w1.heap.size = b12 at S5 ⊢
        have up12 : ∀ {T : MW} {cs : List Value} {w' : World}, At (GwA qb vp T * (Pt b12 cs 171 * R)) w0 F0 w' → At (Pt b12 cs 171 * (GwA qb vp T * R)) w0 F0 w' := fun h => h.ac (by ac_rfl)
        have hR5 := hcs _ _ (up12 S5).drop
        have hna' : xs[((na : Nat) : Int).toNat]? = some ⟨sd, xc, xv⟩ := by rw [Int.toNat_natCast]; exact hna
        have hnl := (List.getElem?_eq_some_iff.1 hna).1
        have hlr0 : (S).li.length ≤ 1000000 := by show S.li.length ≤ _; omega
        cases sd with
        | true =>
          rw [go_send hna]
          (((apply vL_val); (case h => ((apply opv_indexAddr); exact norm_eq rfl; exact rfl; assumption; (first | omega | (simp only [List.length_map]; omega)); (first | omega | (simp only [List.length_map]; omega))))); (refine vL_val (opv_fieldAddr rfl) ?_); ((apply vL_val); (case h => ((apply opv_ld_el); exact rfl; exact rfl; assumption; assumption; exact rfl))); apply vL_nil; apply seqP_normal; ((apply vC_cond_true); exact rfl))
          refine vC_draw' ((fun wf => Rd wf.heap 3 csE (.slice la xs.length lc) xs)) (by first | assumption | infer_instance) ?_
          (refine tkE 0 rfl (by kernel_rfl) (by first | assumption | infer_instance) rfl ?_)
          (refine tkE 1 rfl (by kernel_rfl) (by first | assumption | infer_instance) rfl ?_)
          (refine tkE 2 rfl (by kernel_rfl) (by first | assumption | infer_instance) rfl ?_)
          (refine tk 3 rfl (by kernel_rfl) (by first | assumption | infer_instance) (by intro wf hwf; (try dsimp only at hwf); (((apply opv_indexAddr); exact norm_eq rfl; exact rfl; assumption; (first | omega | (simp only [List.length_map]; omega)); (first | omega | (simp only [List.length_map]; omega))))) ?_)
          (refine tk 4 rfl (by kernel_rfl) (by first | assumption | infer_instance) (by intro wf hwf; (try dsimp only at hwf); (((apply opv_fieldAddr); exact rfl))) ?_)
          (refine tk 5 rfl (by kernel_rfl) (by first | assumption | infer_instance) (by intro wf hwf; (try dsimp only at hwf); (((apply opv_ld_el); exact rfl; exact rfl; assumption; assumption; exact rfl))) ?_)
          (refine tkE 6 rfl (by kernel_rfl) (by first | assumption | infer_instance) rfl ?_)
          (refine tkE 7 rfl (by kernel_rfl) (by first | assumption | infer_instance) rfl ?_)
          (refine tk 8 rfl (by kernel_rfl) (by first | assumption | infer_instance) (by intro wf hwf; (try dsimp only at hwf); (((apply opv_indexAddr); exact norm_eq rfl; exact rfl; assumption; (first | omega | (simp only [List.length_map]; omega)); (first | omega | (simp only [List.length_map]; omega))))) ?_)
          (refine tk 9 rfl (by kernel_rfl) (by first | assumption | infer_instance) (by intro wf hwf; (try dsimp only at hwf); (((apply opv_fieldAddr); exact rfl))) ?_)
          (refine tk 10 rfl (by kernel_rfl) (by first | assumption | infer_instance) (by intro wf hwf; (try dsimp only at hwf); (((apply opv_ld_el); exact rfl; exact rfl; assumption; assumption; exact rfl))) ?_)
          (refine tkc 11 rfl (by kernel_rfl) (by first | assumption | infer_instance) rfl (g_send hgch S5.drew hp1 c0 hd xv hlr0 hbd) rfl ?_)
          rintro _ w6 ⟨rfl, S6⟩
          have hR6 := hcs _ _ (up12 S6).drop
          have hb12 := (up12 S6).blk
          (refine tk 12 rfl (by kernel_rfl) (by first | assumption | infer_instance) (by intro wf hwf; (try dsimp only at hwf); (((apply opv_fieldAddr); exact rfl))) ?_)
          refine vA_only 13 rfl (by kernel_rfl) (by first | assumption | infer_instance) (fun K hK => ?_)
          have S7 := (up12 S6).set (cs' := [.int .i64 (na : Int), .int .i64 0, .bool ((S).send xc.toNat xv).2])
          have hR7 := hcs _ _ S7.drop
          have hb127 := S7.blk
          (((apply vL_skip); (case h => ((apply ops_store1); exact norm_eq rfl; exact norm_eq rfl; (first | rfl | assumption); assumption; (first | decide | exact of_decide_eq_true rfl | (simp; done))))); apply vL_nil)
          refine ⟨rfl, hK _ _ ?_⟩
          refine vA_done (by kernel_rfl) (by first | assumption | infer_instance) ?_
          have hmk := send_mkp S xc.toNat xv
          refine vC_gen (fun w' => At _ w0 F0 w') S7 ?_
          clear S7 hR7 hb127 hb12 hR6 S6 S5 hR5
          intro w7 S7
          have hb12 := S7.blk
          (apply vC_seq; apply vC_region; (iterate 2 ((refine vE rfl ?_))); ((apply vL_val); (case h => ((apply opv_loadbC); exact rfl; exact rfl; assumption; exact (rfl : _ = [_, _, _]); exact rfl))))
          have hy := g_yields (S7.ac (show _ = GwA qb vp ((S).send xc.toNat xv).1 * (Pt b12 [.int .i64 (na : Int), .int .i64 0, .bool ((S).send xc.toNat xv).2] 171 * R) by ac_rfl)) hp1 id ⟨na, 0, ((S).send xc.toNat xv).2⟩ hi0 (by rw [hmk.to]; exact hi1) (by have := hmk.li; have e : (S).li.length = S.li.length := rfl; omega)
          refine vL_callF rfl (hy) rfl ?_
          intro _ w8 S8
          (apply vL_nil; apply seqP_normal; apply vC_ret; apply seqP_ret)
          (first | apply ret0 | apply ret0n)
          exact (up12 S8).drop
        | false =>
          rw [go_recv hna]
          ((iterate 13 (first | with_reducible apply vC_region | with_reducible apply seqP_normal | ((with_reducible apply vC_cond_false); exact rfl) | (refine vE rfl ?_) | (refine vL_val (opv_fieldAddr rfl) ?_) | ((with_reducible apply vL_val); (case h => ((with_reducible apply opv_indexAddr); exact norm_eq rfl; exact rfl; assumption; (first | omega | (simp only [List.length_map]; omega)); (first | omega | (simp only [List.length_map]; omega))))) | ((with_reducible apply vL_val); (case h => ((with_reducible apply opv_ld_el); exact rfl; exact rfl; assumption; assumption; exact rfl))) | with_reducible apply vL_nil)))
          refine vL_callF rfl (g_recv hgch S5 hp1 c0 hd hlr0 hbd) rfl ?_
          rintro _ w6 ⟨rfl, S6⟩
          have hb12 := (up12 S6).blk
          ((iterate 3 ((refine vE rfl ?_))); (refine vL_val (opv_fieldAddr rfl) ?_); ((apply vL_skip); (case h => ((apply ops_store1); exact norm_eq rfl; exact norm_eq rfl; (first | rfl | assumption); assumption; (first | decide | exact of_decide_eq_true rfl | (simp; done))))); (refine vL_val (opv_fieldAddr rfl) ?_); ((apply vL_skip); (case h => ((apply ops_store1); exact norm_eq rfl; exact norm_eq rfl; (first | rfl | assumption); infer_instance; (first | decide | exact of_decide_eq_true rfl | (simp; done))))); apply vL_nil; apply seqP_normal; apply vC_seq; apply vC_region; (iterate 2 ((refine vE rfl ?_))); ((apply vL_val); (case h => ((apply opv_loadbC); exact rfl; exact rfl; infer_instance; exact (rfl : _ = [_, _, _]); exact rfl))))
          have S7 := ((up12 S6).set (cs' := [.int .i64 (na : Int), .int .i64 ((S).recv xc.toNat).2.1, .bool false])).set (cs' := [.int .i64 (na : Int), .int .i64 ((S).recv xc.toNat).2.1, .bool ((S).recv xc.toNat).2.2])
          have hmk := recv_mkp S xc.toNat
          refine vL_gen (fun w' => At _ w0 F0 w') S7 ?_
          clear S7 hb12 S6 S5 hR5
          intro w7 S7
          have hb12 := S7.blk
          skip
          have hy := g_yields (S7.ac (show _ = GwA qb vp ((S).recv xc.toNat).1 * (Pt b12 [.int .i64 (na : Int), .int .i64 ((S).recv xc.toNat).2.1, .bool ((S).recv xc.toNat).2.2] 171 * R) by ac_rfl)) hp1 id ⟨na, ((S).recv xc.toNat).2.1, ((S).recv xc.toNat).2.2⟩ hi0 (by rw [hmk.to]; exact hi1) (by have := hmk.li; have e : (S).li.length = S.li.length := rfl; omega)
          refine vL_callF rfl (hy) rfl ?_
          intro _ w8 S8
          (apply vL_nil; apply seqP_normal; apply vC_ret; apply seqP_ret)
          (first | apply ret0 | apply ret0n)
          exact (up12 S8).drop
    · have hgl := hgo.li
      have hgf := hgo.fi
      cases std with
      | true =>
        rw [choose_std hpos]
        ((iterate 2 (apply vC_seq)); apply vC_region; (iterate 2 ((refine vE rfl ?_))); (refine vL_val (opv_lenc rfl) ?_); (refine vE rfl ?_); apply vL_nil; apply seqP_normal; (refine vC_cond_dec rfl (fun h => by omega) (fun _ => ?_)); apply vC_exit; apply seqP_exit; apply loopP_exit; apply blockP_exit; (iterate 18 (first | with_reducible apply vC_seq | with_reducible apply vC_region | with_reducible apply seqP_normal | with_reducible apply vC_skip | (refine vE rfl ?_) | (refine vL_val (opv_lenc rfl) ?_) | with_reducible apply vL_nil | (refine vC_cond_dec rfl (fun h => by omega) (fun _ => ?_)))); ((apply vC_cond_true); exact rfl); apply vC_seq; apply vC_region; (iterate 2 ((refine vE rfl ?_))); ((apply vL_val); (case h => ((apply opv_buildS); exact rfl; exact (rfl : _ = some [_, _, _])))))
        refine vL_callF rfl (g_yields S2 hp1 id ⟨-1, 0, false⟩ hi0 hi1 (by omega)) rfl ?_
        intro _ w3 S3
        (apply vL_nil; apply seqP_normal; apply vC_ret; apply seqP_ret)
        (first | apply ret0 | apply ret0n)
        exact S3
      | false =>
        rw [choose_wait hpos]
        ((iterate 2 (apply vC_seq)); apply vC_region; (iterate 2 ((refine vE rfl ?_))); (refine vL_val (opv_lenc rfl) ?_); (refine vE rfl ?_); apply vL_nil; apply seqP_normal; (refine vC_cond_dec rfl (fun h => by omega) (fun _ => ?_)); apply vC_exit; apply seqP_exit; apply loopP_exit; apply blockP_exit; apply seqP_normal; (iterate 2 (apply vC_seq)); apply vC_region; (refine vE rfl ?_); (refine vL_val (opv_lenc rfl) ?_); (iterate 18 (first | with_reducible apply vC_seq | with_reducible apply vC_region | with_reducible apply seqP_normal | with_reducible apply vC_skip | ((with_reducible apply vC_cond_false); exact rfl) | (refine vE rfl ?_) | with_reducible apply vL_nil | (refine vC_cond_dec rfl (fun h => by omega) (fun _ => ?_)))))
        refine vL_callF rfl (g_ticket S2 hp1 (by omega)) rfl ?_
        rintro _ w2 ⟨rfl, S3⟩
        ((refine vE rfl ?_); apply vL_nil; apply seqP_normal; apply vC_seq; apply vC_region; (refine vE rfl ?_); apply vL_nil; apply seqP_normal; apply vC_block)
        (apply vC_loop1 6129982163463549988915517373585821320481237580443140096 14 (fun u w' => ∃ k : Nat, u = .int .i64 (k : Int) ∧ k ≤ xs.length ∧ At (GwA qb vp (({ S with fi := S.fi ++ [false] } : MW).waitN id S.fi.length xs k) * R) w0 F0 w') (fun u _ => xs.length - (RowKit.intOf u).toNat)); (case h1 => (exact norm_eq rfl))
        case h0 => exact ⟨0, rfl, by omega, S3⟩
        clear S3 S2 hR ho1 ho1r hfr1 hf1
        case round =>
        rintro junk2 _ w3 ⟨k, rfl, hk3, S3⟩
        have hR := hcs _ _ S3
        by_cases hkl3 : k < xs.length
        · obtain ⟨x, hx⟩ : ∃ x, xs[k]? = some x := ⟨xs[k], by simp [hkl3]⟩
          have hx' : xs[((k : Nat) : Int).toNat]? = some x := by rw [Int.toNat_natCast]; exact hx
          have hnx := waitN_next (S := ({ S with fi := S.fi ++ [false] } : MW)) (id := id) (k := S.fi.length) hx
          have hbl := waitN_len ({ S with fi := S.fi ++ [false] } : MW) id S.fi.length xs 1000000 (fun d hd => ⟨(hgo.ch d hd).1.1, (hgo.ch d hd).2.1⟩) k
          have hmk := waitN_mkp ({ S with fi := S.fi ++ [false] } : MW) id S.fi.length xs k
          obtain ⟨TT, hTT⟩ : ∃ TT, TT = ({ S with fi := S.fi ++ [false] } : MW).waitN id S.fi.length xs k := ⟨_, rfl⟩
          rw [← hTT] at S3 hbl hmk
          obtain ⟨c0, c1⟩ := hxc x (List.mem_of_getElem? hx)
          have hchl : TT.ch.length = S.ch.length := hmk.ch
          obtain ⟨dd, hdd⟩ : ∃ d, TT.ch[x.c.toNat]? = some d := ⟨_, List.getElem?_eq_getElem (by omega)⟩
          obtain ⟨v, rows, hrows, S4⟩ := gw_open S3
          obtain ⟨r, hr, hrm⟩ := rows_get hrows hdd
          have hlr := (List.getElem?_eq_some_iff.1 hr).1
          obtain ⟨hb1, hb2⟩ := hbl dd (List.mem_of_getElem? hdd)
          obtain ⟨size, ⟨bv, obv⟩, ⟨sv, osv⟩, ⟨rv, orv⟩, closed, buf, snd, rcv⟩ := r
          obtain rfl : dd = ⟨size, buf, snd, rcv, closed⟩ := hrm.symm
          simp only [] at hb1 hb2
          have hb := gw_blk S4
          rw [gwL] at hb
          have hch := (gw_ch S4).1.rd
          ((iterate 2 (apply vC_seq)); apply vC_region; (iterate 2 ((refine vE rfl ?_))); (refine vL_val (opv_lenc rfl) ?_); (refine vE rfl ?_); apply vL_nil; apply seqP_normal; (refine vC_cond_dec rfl (fun _ => ?_) (fun h => by omega)); apply vC_skip; apply seqP_normal; apply vC_seq; apply vC_block; apply vC_seq; apply vC_region; (iterate 5 ((refine vE rfl ?_))); ((apply vL_val); (case h => ((apply opv_indexAddr); exact norm_eq rfl; exact rfl; assumption; (first | omega | (simp only [List.length_map]; omega)); (first | omega | (simp only [List.length_map]; omega))))); (refine vL_val (opv_fieldAddr rfl) ?_); ((apply vL_val); (case h => ((apply opv_ld_el); exact rfl; exact rfl; assumption; assumption; exact rfl))); ((apply vL_val); (case h => ((apply opv_buildS); exact rfl; exact (rfl : _ = some [_, _, _, _])))); ((apply vL_val); (case h => (apply opw_alloc))); ((apply vL_skip); (case h => ((apply ops_storen); exact norm_eq rfl; exact norm_eq rfl; exact rfl; (intro u hu; simp at hu; rcases hu with rfl | rfl | rfl | rfl <;> (first | rfl | assumption)); infer_instance; (first | decide | exact of_decide_eq_true rfl | (simp; done))))); apply vL_nil; apply seqP_normal; apply vC_seq)
          have S5 := ((S4.alloc (cs := [.int .i64 0, .int .i64 0, .int .i64 0, .int .i64 0]) (T := 271)).set (cs' := [.int .i64 id, .int .i64 S.fi.length, .int .i64 k, .int .i64 x.v])).ac (show _ = GwP qb vp v rows TT * (Big (rows.map RrA) * (Pt w3.heap.size [.int .i64 id, .int .i64 S.fi.length, .int .i64 k, .int .i64 x.v] 271 * R)) by ac_rfl)
          refine vC_gen (fun w' => At _ w0 F0 w') S5 ?_
          clear S5 S4 hb hch hR
          intro w5 S5
          generalize w3.heap.size = b15 at S5 ⊢
          have hb := gw_blk S5
          rw [gwL] at hb
          have hch := (gw_ch S5).1.rd
          have hR := hcs TT _ ((gw_shut hrows S5).ac (show _ = Pt b15 [.int .i64 id, .int .i64 S.fi.length, .int .i64 k, .int .i64 x.v] 271 * (GwA qb vp TT * R) by ac_rfl)).drop
          have hrl2 : rows.length = TT.ch.length := by rw [← hrows, List.length_map]
          have S6 := S5.drew
          (with_reducible apply vC_drawQ); ((iterate 11 (first | ((with_reducible apply vQ_op); (case hi => exact rfl); (case hf => kernel_rfl); (case hS => exact Dr.refl _); (case hy => (intro j; ((with_reducible apply opv_E); exact rfl)))) | ((with_reducible apply vQ_op); (case hi => exact rfl); (case hf => kernel_rfl); (case hS => exact Dr.refl _); (case hy => (intro j; ((with_reducible apply opv_loadb1); exact rfl; exact rfl; assumption; exact rfl)))) | ((with_reducible apply vQ_op); (case hi => exact rfl); (case hf => kernel_rfl); (case hS => exact Dr.refl _); (case hy => (intro j; ((with_reducible apply opv_fieldAddr); exact rfl)))) | ((with_reducible apply vQ_op); (case hi => exact rfl); (case hf => kernel_rfl); (case hS => exact Dr.refl _); (case hy => (intro j; ((with_reducible apply opv_indexAddr); exact norm_eq rfl; exact rfl; assumption; (first | omega | (simp only [List.length_map]; omega)); (first | omega | (simp only [List.length_map]; omega)))))) | ((with_reducible apply vQ_op); (case hi => exact rfl); (case hf => kernel_rfl); (case hS => exact Dr.refl _); (case hy => (intro j; ((with_reducible apply opv_indexAddr); ((conv => lhs; whnf) <;> exact rfl); exact rfl; assumption; (first | omega | (simp only [List.length_map]; omega)); (first | omega | (simp only [List.length_map]; omega)))))) | ((with_reducible apply vQ_op); (case hi => exact rfl); (case hf => kernel_rfl); (case hS => exact Dr.refl _); (case hy => (intro j; ((with_reducible apply opv_ld_el); exact rfl; exact rfl; assumption; assumption; exact rfl)))))); ((apply vQ_end); (case hi => exact rfl); (case hf => kernel_rfl); (case hS => exact Dr.refl _)))
          (apply seqP_normal; apply vC_seq; apply vC_region; (iterate 2 ((refine vE rfl ?_))); ((apply vL_val); (case h => ((apply opv_indexAddr); exact norm_eq rfl; exact rfl; assumption; (first | omega | (simp only [List.length_map]; omega)); (first | omega | (simp only [List.length_map]; omega))))); (refine vL_val (opv_fieldAddr rfl) ?_); ((apply vL_val); (case h => ((apply opv_ld_el); exact rfl; exact rfl; assumption; assumption; exact rfl))); apply vL_nil; apply seqP_normal)
          refine vC_cond rfl (fun hsend => ?_) (fun hsend => ?_)
          · (skip)
            refine vC_gen (fun w' => At _ w0 F0 w') S6 ?_
            clear S6 S5 hb hch hR
            intro w6 S6
            have hch := (gw_ch S6.drew).1.rd
            have hb15 := (S6.ac (show _ = Pt b15 [.int .i64 id, .int .i64 S.fi.length, .int .i64 k, .int .i64 x.v] 271 * (GwP qb vp v rows TT * (Big (rows.map RrA) * R)) by ac_rfl)).blk
            have SQ := ((gw_row hr S6).drew).ac (show _ = Ow 271 4 wtE sv snd * (Ow 271 4 wtE rv rcv * (Ow 3 1 iE bv buf * (GwP qb vp v rows TT * (Big ((rows.eraseIdx x.c.toNat).map RrA) * (Pt b15 [.int .i64 id, .int .i64 S.fi.length, .int .i64 k, .int .i64 x.v] 271 * R))))) by dsimp only; ac_rfl)
            refine vC_draw' ((fun wf => Blk wf.heap b15 [.int .i64 id, .int .i64 S.fi.length, .int .i64 k, .int .i64 x.v] 271)) (by first | assumption | infer_instance) ?_
            (refine tkE 0 rfl (by kernel_rfl) (by first | assumption | infer_instance) rfl ?_)
            (refine tkE 1 rfl (by kernel_rfl) (by first | assumption | infer_instance) rfl ?_)
            (refine tkE 2 rfl (by kernel_rfl) (by first | assumption | infer_instance) rfl ?_)
            (refine tk 3 rfl (by kernel_rfl) (by first | assumption | infer_instance) (by intro wf hwf; (try dsimp only at hwf); (((apply opv_fieldAddr); exact rfl))) ?_)
            (refine tk 5 rfl (by kernel_rfl) (by first | assumption | infer_instance) (by intro wf hwf; (try dsimp only at hwf); (((apply opv_loadbC); exact rfl; exact rfl; assumption; exact (rfl : _ = [_, _, _, _]); exact rfl))) ?_)
            refine vA_two 4 6 rfl rfl (by kernel_rfl) (by first | assumption | infer_instance) (fun K hK => ?_) (fun K hK => ?_)
            · (((apply vL_val); (case h => ((apply opv_ld_el); exact rfl; exact rfl; assumption; assumption; exact rfl))); apply vL_nil)
              refine ⟨rfl, hK _ _ ?_⟩
              refine vA_only 6 rfl (by kernel_rfl) (by first | assumption | infer_instance) (fun K hK => ?_)
              (((apply vL_val); (case h => ((apply opw_buildSl); exact rfl; exact rfl; exact rfl; exact (rfl : _ = some [_, _, _, _])))); apply vL_nil)
              refine ⟨rfl, hK _ _ ?_⟩
              refine vA_only 7 rfl (by kernel_rfl) (by first | assumption | infer_instance) (fun K hK => ?_)
              have oR := (SQ).own.1
              refine vL_append (enc := wtE) (xs := snd) (ys := [⟨id, S.fi.length, k, x.v⟩]) (T := 271) (sz := 4) (by (((conv => lhs; whnf) <;> exact rfl))) (by (exact norm_eq rfl)) (Own.alloc oR) (Rd.new1 _ _ rfl) rfl (by decide) ?_ ?_ ?_
              · simp [maxLen]; omega
              · simp; omega
              intro v9 w9 ho9 hf9 hfr9 hone9 _
              have hfa9 : Fr (fun j => own sv = some j) w6.drew w9 := ((Fr.refl _ w6.drew).alloc _).trans' hf9 (fun i hi => .inl hi)
              have SR := (SQ).owTo hfa9 ho9 hone9 (fun k hk => (hfr9 k hk).imp (fun h => h) (fun h => by rw [alloc_size] at h; omega))
              have SG := SR.ac (show _ = GwP qb vp v rows TT * (Ow 271 4 wtE v9 (snd ++ [⟨id, S.fi.length, k, x.v⟩]) * (Ow 271 4 wtE rv rcv * (Ow 3 1 iE bv buf * (Big ((rows.eraseIdx x.c.toNat).map RrA) * (Pt b15 [.int .i64 id, .int .i64 S.fi.length, .int .i64 k, .int .i64 x.v] 271 * R))))) by ac_rfl)
              have hb159 := (SG.ac (show _ = Pt b15 [.int .i64 id, .int .i64 S.fi.length, .int .i64 k, .int .i64 x.v] 271 * (GwP qb vp v rows TT * (Ow 271 4 wtE v9 (snd ++ [⟨id, S.fi.length, k, x.v⟩]) * (Ow 271 4 wtE rv rcv * (Ow 3 1 iE bv buf * (Big ((rows.eraseIdx x.c.toNat).map RrA) * R))))) by ac_rfl)).blk
              refine vL_nil ⟨rfl, hK _ _ ?_⟩
              (refine tkE 8 rfl (by kernel_rfl) (by first | assumption | infer_instance) rfl ?_)
              (refine tk 9 rfl (by kernel_rfl) (by first | assumption | infer_instance) (by intro wf hwf; (try dsimp only at hwf); (((apply opv_fieldAddr); exact rfl))) ?_)
              refine vA_only 10 rfl (by kernel_rfl) (by first | assumption | infer_instance) (fun K hK => ?_)
              refine vL_storeElF (enc := rrE) (xs := rows) (i := x.c) (x0 := ⟨size, ⟨bv, obv⟩, ⟨sv, osv⟩, ⟨rv, orv⟩, closed, buf, snd, rcv⟩) ⟨size, ⟨bv, obv⟩, ⟨v9, hone9⟩, ⟨rv, orv⟩, closed, buf, snd ++ [⟨id, S.fi.length, k, x.v⟩], rcv⟩ rfl rfl hr rfl hone9 (by decide) (gw_ch SG).1 ?_
              intro w10 ho10 hf10
              have SH := gw_rows SG hf10 ho10
              have SI := gw_unrow (qb := qb) (vp := vp) (v := v) (S := TT) (R := Pt b15 [.int .i64 id, .int .i64 S.fi.length, .int .i64 k, .int .i64 x.v] 271 * R) (r' := ⟨size, ⟨bv, obv⟩, ⟨v9, hone9⟩, ⟨rv, orv⟩, closed, buf, snd ++ [⟨id, S.fi.length, k, x.v⟩], rcv⟩) hlr (SH.ac (by dsimp only; ac_rfl))
              have hb1510 := (SI.ac (show _ = Pt b15 [.int .i64 id, .int .i64 S.fi.length, .int .i64 k, .int .i64 x.v] 271 * (GwP qb vp v (rows.set x.c.toNat ⟨size, ⟨bv, obv⟩, ⟨v9, hone9⟩, ⟨rv, orv⟩, closed, buf, snd ++ [⟨id, S.fi.length, k, x.v⟩], rcv⟩) TT * (Big ((rows.set x.c.toNat ⟨size, ⟨bv, obv⟩, ⟨v9, hone9⟩, ⟨rv, orv⟩, closed, buf, snd ++ [⟨id, S.fi.length, k, x.v⟩], rcv⟩).map RrA) * R)) by ac_rfl)).blk
              refine vL_nil ⟨rfl, hK _ _ ?_⟩
              refine vA_done (by kernel_rfl) (by first | assumption | infer_instance) ?_
              have hrows2 : (rows.set x.c.toNat ⟨size, ⟨bv, obv⟩, ⟨v9, hone9⟩, ⟨rv, orv⟩, closed, buf, snd ++ [⟨id, S.fi.length, k, x.v⟩], rcv⟩).map RR.m = (TT.wait1 id S.fi.length k x).ch := by
                unfold MW.wait1
                rw [hdd]
                dsimp only
                rw [hsend]
                exact rows_set hrows rfl
              have SJ : At (GwA qb vp (TT.wait1 id S.fi.length k x) * (Pt b15 [.int .i64 id, .int .i64 S.fi.length, .int .i64 k, .int .i64 x.v] 271 * R)) w0 F0 w10 := by
                have e : GwP qb vp v (rows.set x.c.toNat ⟨size, ⟨bv, obv⟩, ⟨v9, hone9⟩, ⟨rv, orv⟩, closed, buf, snd ++ [⟨id, S.fi.length, k, x.v⟩], rcv⟩) TT = GwP qb vp v (rows.set x.c.toNat ⟨size, ⟨bv, obv⟩, ⟨v9, hone9⟩, ⟨rv, orv⟩, closed, buf, snd ++ [⟨id, S.fi.length, k, x.v⟩], rcv⟩) (TT.wait1 id S.fi.length k x) := by
                  unfold MW.wait1
                  rw [hdd]
                  rfl
                rw [e] at SI
                exact gw_shut hrows2 SI
              have SK := (SJ.ac (show _ = Pt b15 [.int .i64 id, .int .i64 S.fi.length, .int .i64 k, .int .i64 x.v] 271 * (GwA qb vp (TT.wait1 id S.fi.length k x) * R) by ac_rfl)).drop
              (apply blockP_normal; apply seqP_normal; apply vC_region; (refine vE rfl ?_); ((apply vL_val); (case h => ((apply opv_add); exact rfl; exact rfl; (first | omega | (simp only [List.length_map]; omega))))); (refine vE rfl ?_); apply vL_nil; apply loopP_normal)
              (with_reducible apply end1); (case hs => ((iterate 44 (first | with_reducible apply same_updN | ((with_reducible refine same_updO ?_ ?_); rotate_left; exact rfl))); ((refine same_upd ?_ ?_); rotate_left; exact rfl); (exact same_mask _ _ _))); (case h1 => (exact norm_eq rfl))
              · refine ⟨k + 1, rfl, by omega, ?_⟩
                rw [hnx, ← hTT]
                exact SK
              · simp [RowKit.intOf]; omega
            · (((apply vL_val); (case h => ((apply opw_buildSl); exact rfl; exact rfl; exact rfl; exact (rfl : _ = some [_, _, _, _])))); apply vL_nil)
              refine ⟨rfl, hK _ _ ?_⟩
              refine vA_only 4 rfl (by kernel_rfl) (by first | assumption | infer_instance) (fun K hK => ?_)
              (((apply vL_val); (case h => ((apply opv_ld_el); exact rfl; exact rfl; infer_instance; assumption; exact rfl))); apply vL_nil)
              refine ⟨rfl, hK _ _ ?_⟩
              refine vA_only 7 rfl (by kernel_rfl) (by first | assumption | infer_instance) (fun K hK => ?_)
              have oR := (SQ).own.1
              refine vL_append (enc := wtE) (xs := snd) (ys := [⟨id, S.fi.length, k, x.v⟩]) (T := 271) (sz := 4) (by (((conv => lhs; whnf) <;> exact rfl))) (by (exact norm_eq rfl)) (Own.alloc oR) (Rd.new1 _ _ rfl) rfl (by decide) ?_ ?_ ?_
              · simp [maxLen]; omega
              · simp; omega
              intro v9 w9 ho9 hf9 hfr9 hone9 _
              have hfa9 : Fr (fun j => own sv = some j) w6.drew w9 := ((Fr.refl _ w6.drew).alloc _).trans' hf9 (fun i hi => .inl hi)
              have SR := (SQ).owTo hfa9 ho9 hone9 (fun k hk => (hfr9 k hk).imp (fun h => h) (fun h => by rw [alloc_size] at h; omega))
              have SG := SR.ac (show _ = GwP qb vp v rows TT * (Ow 271 4 wtE v9 (snd ++ [⟨id, S.fi.length, k, x.v⟩]) * (Ow 271 4 wtE rv rcv * (Ow 3 1 iE bv buf * (Big ((rows.eraseIdx x.c.toNat).map RrA) * (Pt b15 [.int .i64 id, .int .i64 S.fi.length, .int .i64 k, .int .i64 x.v] 271 * R))))) by ac_rfl)
              have hb159 := (SG.ac (show _ = Pt b15 [.int .i64 id, .int .i64 S.fi.length, .int .i64 k, .int .i64 x.v] 271 * (GwP qb vp v rows TT * (Ow 271 4 wtE v9 (snd ++ [⟨id, S.fi.length, k, x.v⟩]) * (Ow 271 4 wtE rv rcv * (Ow 3 1 iE bv buf * (Big ((rows.eraseIdx x.c.toNat).map RrA) * R))))) by ac_rfl)).blk
              refine vL_nil ⟨rfl, hK _ _ ?_⟩
              (refine tkE 8 rfl (by kernel_rfl) (by first | assumption | infer_instance) rfl ?_)
              (refine tk 9 rfl (by kernel_rfl) (by first | assumption | infer_instance) (by intro wf hwf; (try dsimp only at hwf); (((apply opv_fieldAddr); exact rfl))) ?_)
              refine vA_only 10 rfl (by kernel_rfl) (by first | assumption | infer_instance) (fun K hK => ?_)
              refine vL_storeElF (enc := rrE) (xs := rows) (i := x.c) (x0 := ⟨size, ⟨bv, obv⟩, ⟨sv, osv⟩, ⟨rv, orv⟩, closed, buf, snd, rcv⟩) ⟨size, ⟨bv, obv⟩, ⟨v9, hone9⟩, ⟨rv, orv⟩, closed, buf, snd ++ [⟨id, S.fi.length, k, x.v⟩], rcv⟩ rfl rfl hr rfl hone9 (by decide) (gw_ch SG).1 ?_
              intro w10 ho10 hf10
              have SH := gw_rows SG hf10 ho10
              have SI := gw_unrow (qb := qb) (vp := vp) (v := v) (S := TT) (R := Pt b15 [.int .i64 id, .int .i64 S.fi.length, .int .i64 k, .int .i64 x.v] 271 * R) (r' := ⟨size, ⟨bv, obv⟩, ⟨v9, hone9⟩, ⟨rv, orv⟩, closed, buf, snd ++ [⟨id, S.fi.length, k, x.v⟩], rcv⟩) hlr (SH.ac (by dsimp only; ac_rfl))
              have hb1510 := (SI.ac (show _ = Pt b15 [.int .i64 id, .int .i64 S.fi.length, .int .i64 k, .int .i64 x.v] 271 * (GwP qb vp v (rows.set x.c.toNat ⟨size, ⟨bv, obv⟩, ⟨v9, hone9⟩, ⟨rv, orv⟩, closed, buf, snd ++ [⟨id, S.fi.length, k, x.v⟩], rcv⟩) TT * (Big ((rows.set x.c.toNat ⟨size, ⟨bv, obv⟩, ⟨v9, hone9⟩, ⟨rv, orv⟩, closed, buf, snd ++ [⟨id, S.fi.length, k, x.v⟩], rcv⟩).map RrA) * R)) by ac_rfl)).blk
              refine vL_nil ⟨rfl, hK _ _ ?_⟩
              refine vA_done (by kernel_rfl) (by first | assumption | infer_instance) ?_
              have hrows2 : (rows.set x.c.toNat ⟨size, ⟨bv, obv⟩, ⟨v9, hone9⟩, ⟨rv, orv⟩, closed, buf, snd ++ [⟨id, S.fi.length, k, x.v⟩], rcv⟩).map RR.m = (TT.wait1 id S.fi.length k x).ch := by
                unfold MW.wait1
                rw [hdd]
                dsimp only
                rw [hsend]
                exact rows_set hrows rfl
              have SJ : At (GwA qb vp (TT.wait1 id S.fi.length k x) * (Pt b15 [.int .i64 id, .int .i64 S.fi.length, .int .i64 k, .int .i64 x.v] 271 * R)) w0 F0 w10 := by
                have e : GwP qb vp v (rows.set x.c.toNat ⟨size, ⟨bv, obv⟩, ⟨v9, hone9⟩, ⟨rv, orv⟩, closed, buf, snd ++ [⟨id, S.fi.length, k, x.v⟩], rcv⟩) TT = GwP qb vp v (rows.set x.c.toNat ⟨size, ⟨bv, obv⟩, ⟨v9, hone9⟩, ⟨rv, orv⟩, closed, buf, snd ++ [⟨id, S.fi.length, k, x.v⟩], rcv⟩) (TT.wait1 id S.fi.length k x) := by
                  unfold MW.wait1
                  rw [hdd]
                  rfl
                rw [e] at SI
                exact gw_shut hrows2 SI
              have SK := (SJ.ac (show _ = Pt b15 [.int .i64 id, .int .i64 S.fi.length, .int .i64 k, .int .i64 x.v] 271 * (GwA qb vp (TT.wait1 id S.fi.length k x) * R) by ac_rfl)).drop
              (apply blockP_normal; apply seqP_normal; apply vC_region; (refine vE rfl ?_); ((apply vL_val); (case h => ((apply opv_add); exact rfl; exact rfl; (first | omega | (simp only [List.length_map]; omega))))); (refine vE rfl ?_); apply vL_nil; apply loopP_normal)
              (with_reducible apply end1); (case hs => ((iterate 44 (first | with_reducible apply same_updN | ((with_reducible refine same_updO ?_ ?_); rotate_left; exact rfl))); ((refine same_upd ?_ ?_); rotate_left; exact rfl); (exact same_mask _ _ _))); (case h1 => (exact norm_eq rfl))
              · refine ⟨k + 1, rfl, by omega, ?_⟩
                rw [hnx, ← hTT]
                exact SK
              · simp [RowKit.intOf]; omega
          · (skip)
            refine vC_gen (fun w' => At _ w0 F0 w') S6 ?_
            clear S6 S5 hb hch hR
            intro w6 S6
            have hch := (gw_ch S6.drew).1.rd
            have hb15 := (S6.ac (show _ = Pt b15 [.int .i64 id, .int .i64 S.fi.length, .int .i64 k, .int .i64 x.v] 271 * (GwP qb vp v rows TT * (Big (rows.map RrA) * R)) by ac_rfl)).blk
            have SQ := ((gw_row hr S6).drew).ac (show _ = Ow 271 4 wtE rv rcv * (Ow 271 4 wtE sv snd * (Ow 3 1 iE bv buf * (GwP qb vp v rows TT * (Big ((rows.eraseIdx x.c.toNat).map RrA) * (Pt b15 [.int .i64 id, .int .i64 S.fi.length, .int .i64 k, .int .i64 x.v] 271 * R))))) by dsimp only; ac_rfl)
            refine vC_draw' ((fun wf => Blk wf.heap b15 [.int .i64 id, .int .i64 S.fi.length, .int .i64 k, .int .i64 x.v] 271)) (by first | assumption | infer_instance) ?_
            (refine tkE 0 rfl (by kernel_rfl) (by first | assumption | infer_instance) rfl ?_)
            (refine tkE 1 rfl (by kernel_rfl) (by first | assumption | infer_instance) rfl ?_)
            (refine tkE 2 rfl (by kernel_rfl) (by first | assumption | infer_instance) rfl ?_)
            (refine tk 3 rfl (by kernel_rfl) (by first | assumption | infer_instance) (by intro wf hwf; (try dsimp only at hwf); (((apply opv_fieldAddr); exact rfl))) ?_)
            (refine tk 5 rfl (by kernel_rfl) (by first | assumption | infer_instance) (by intro wf hwf; (try dsimp only at hwf); (((apply opv_loadbC); exact rfl; exact rfl; assumption; exact (rfl : _ = [_, _, _, _]); exact rfl))) ?_)
            refine vA_two 4 6 rfl rfl (by kernel_rfl) (by first | assumption | infer_instance) (fun K hK => ?_) (fun K hK => ?_)
            · (((apply vL_val); (case h => ((apply opv_ld_el); exact rfl; exact rfl; assumption; assumption; exact rfl))); apply vL_nil)
              refine ⟨rfl, hK _ _ ?_⟩
              refine vA_only 6 rfl (by kernel_rfl) (by first | assumption | infer_instance) (fun K hK => ?_)
              (((apply vL_val); (case h => ((apply opw_buildSl); exact rfl; exact rfl; exact rfl; exact (rfl : _ = some [_, _, _, _])))); apply vL_nil)
              refine ⟨rfl, hK _ _ ?_⟩
              refine vA_only 7 rfl (by kernel_rfl) (by first | assumption | infer_instance) (fun K hK => ?_)
              have oR := (SQ).own.1
              refine vL_append (enc := wtE) (xs := rcv) (ys := [⟨id, S.fi.length, k, x.v⟩]) (T := 271) (sz := 4) (by (((conv => lhs; whnf) <;> exact rfl))) (by (exact norm_eq rfl)) (Own.alloc oR) (Rd.new1 _ _ rfl) rfl (by decide) ?_ ?_ ?_
              · simp [maxLen]; omega
              · simp; omega
              intro v9 w9 ho9 hf9 hfr9 hone9 _
              have hfa9 : Fr (fun j => own rv = some j) w6.drew w9 := ((Fr.refl _ w6.drew).alloc _).trans' hf9 (fun i hi => .inl hi)
              have SR := (SQ).owTo hfa9 ho9 hone9 (fun k hk => (hfr9 k hk).imp (fun h => h) (fun h => by rw [alloc_size] at h; omega))
              have SG := SR.ac (show _ = GwP qb vp v rows TT * (Ow 271 4 wtE v9 (rcv ++ [⟨id, S.fi.length, k, x.v⟩]) * (Ow 271 4 wtE sv snd * (Ow 3 1 iE bv buf * (Big ((rows.eraseIdx x.c.toNat).map RrA) * (Pt b15 [.int .i64 id, .int .i64 S.fi.length, .int .i64 k, .int .i64 x.v] 271 * R))))) by ac_rfl)
              have hb159 := (SG.ac (show _ = Pt b15 [.int .i64 id, .int .i64 S.fi.length, .int .i64 k, .int .i64 x.v] 271 * (GwP qb vp v rows TT * (Ow 271 4 wtE v9 (rcv ++ [⟨id, S.fi.length, k, x.v⟩]) * (Ow 271 4 wtE sv snd * (Ow 3 1 iE bv buf * (Big ((rows.eraseIdx x.c.toNat).map RrA) * R))))) by ac_rfl)).blk
              refine vL_nil ⟨rfl, hK _ _ ?_⟩
              (refine tkE 8 rfl (by kernel_rfl) (by first | assumption | infer_instance) rfl ?_)
              (refine tk 9 rfl (by kernel_rfl) (by first | assumption | infer_instance) (by intro wf hwf; (try dsimp only at hwf); (((apply opv_fieldAddr); exact rfl))) ?_)
              refine vA_only 10 rfl (by kernel_rfl) (by first | assumption | infer_instance) (fun K hK => ?_)
              refine vL_storeElF (enc := rrE) (xs := rows) (i := x.c) (x0 := ⟨size, ⟨bv, obv⟩, ⟨sv, osv⟩, ⟨rv, orv⟩, closed, buf, snd, rcv⟩) ⟨size, ⟨bv, obv⟩, ⟨sv, osv⟩, ⟨v9, hone9⟩, closed, buf, snd, rcv ++ [⟨id, S.fi.length, k, x.v⟩]⟩ rfl rfl hr rfl hone9 (by decide) (gw_ch SG).1 ?_
              intro w10 ho10 hf10
              have SH := gw_rows SG hf10 ho10
              have SI := gw_unrow (qb := qb) (vp := vp) (v := v) (S := TT) (R := Pt b15 [.int .i64 id, .int .i64 S.fi.length, .int .i64 k, .int .i64 x.v] 271 * R) (r' := ⟨size, ⟨bv, obv⟩, ⟨sv, osv⟩, ⟨v9, hone9⟩, closed, buf, snd, rcv ++ [⟨id, S.fi.length, k, x.v⟩]⟩) hlr (SH.ac (by dsimp only; ac_rfl))
              have hb1510 := (SI.ac (show _ = Pt b15 [.int .i64 id, .int .i64 S.fi.length, .int .i64 k, .int .i64 x.v] 271 * (GwP qb vp v (rows.set x.c.toNat ⟨size, ⟨bv, obv⟩, ⟨sv, osv⟩, ⟨v9, hone9⟩, closed, buf, snd, rcv ++ [⟨id, S.fi.length, k, x.v⟩]⟩) TT * (Big ((rows.set x.c.toNat ⟨size, ⟨bv, obv⟩, ⟨sv, osv⟩, ⟨v9, hone9⟩, closed, buf, snd, rcv ++ [⟨id, S.fi.length, k, x.v⟩]⟩).map RrA) * R)) by ac_rfl)).blk
              refine vL_nil ⟨rfl, hK _ _ ?_⟩
              refine vA_done (by kernel_rfl) (by first | assumption | infer_instance) ?_
              have hrows2 : (rows.set x.c.toNat ⟨size, ⟨bv, obv⟩, ⟨sv, osv⟩, ⟨v9, hone9⟩, closed, buf, snd, rcv ++ [⟨id, S.fi.length, k, x.v⟩]⟩).map RR.m = (TT.wait1 id S.fi.length k x).ch := by
                unfold MW.wait1
                rw [hdd]
                dsimp only
                rw [hsend]
                exact rows_set hrows rfl
              have SJ : At (GwA qb vp (TT.wait1 id S.fi.length k x) * (Pt b15 [.int .i64 id, .int .i64 S.fi.length, .int .i64 k, .int .i64 x.v] 271 * R)) w0 F0 w10 := by
                have e : GwP qb vp v (rows.set x.c.toNat ⟨size, ⟨bv, obv⟩, ⟨sv, osv⟩, ⟨v9, hone9⟩, closed, buf, snd, rcv ++ [⟨id, S.fi.length, k, x.v⟩]⟩) TT = GwP qb vp v (rows.set x.c.toNat ⟨size, ⟨bv, obv⟩, ⟨sv, osv⟩, ⟨v9, hone9⟩, closed, buf, snd, rcv ++ [⟨id, S.fi.length, k, x.v⟩]⟩) (TT.wait1 id S.fi.length k x) := by
                  unfold MW.wait1
                  rw [hdd]
                  rfl
                rw [e] at SI
                exact gw_shut hrows2 SI
              have SK := (SJ.ac (show _ = Pt b15 [.int .i64 id, .int .i64 S.fi.length, .int .i64 k, .int .i64 x.v] 271 * (GwA qb vp (TT.wait1 id S.fi.length k x) * R) by ac_rfl)).drop
              (apply blockP_normal; apply seqP_normal; apply vC_region; (refine vE rfl ?_); ((apply vL_val); (case h => ((apply opv_add); exact rfl; exact rfl; (first | omega | (simp only [List.length_map]; omega))))); (refine vE rfl ?_); apply vL_nil; apply loopP_normal)
              (with_reducible apply end1); (case hs => ((iterate 44 (first | with_reducible apply same_updN | ((with_reducible refine same_updO ?_ ?_); rotate_left; exact rfl))); ((refine same_upd ?_ ?_); rotate_left; exact rfl); (exact same_mask _ _ _))); (case h1 => (exact norm_eq rfl))
              · refine ⟨k + 1, rfl, by omega, ?_⟩
                rw [hnx, ← hTT]
                exact SK
              · simp [RowKit.intOf]; omega
            · (((apply vL_val); (case h => ((apply opw_buildSl); exact rfl; exact rfl; exact rfl; exact (rfl : _ = some [_, _, _, _])))); apply vL_nil)
              refine ⟨rfl, hK _ _ ?_⟩
              refine vA_only 4 rfl (by kernel_rfl) (by first | assumption | infer_instance) (fun K hK => ?_)
              (((apply vL_val); (case h => ((apply opv_ld_el); exact rfl; exact rfl; infer_instance; assumption; exact rfl))); apply vL_nil)
              refine ⟨rfl, hK _ _ ?_⟩
              refine vA_only 7 rfl (by kernel_rfl) (by first | assumption | infer_instance) (fun K hK => ?_)
              have oR := (SQ).own.1
              refine vL_append (enc := wtE) (xs := rcv) (ys := [⟨id, S.fi.length, k, x.v⟩]) (T := 271) (sz := 4) (by (((conv => lhs; whnf) <;> exact rfl))) (by (exact norm_eq rfl)) (Own.alloc oR) (Rd.new1 _ _ rfl) rfl (by decide) ?_ ?_ ?_
              · simp [maxLen]; omega
              · simp; omega
              intro v9 w9 ho9 hf9 hfr9 hone9 _
              have hfa9 : Fr (fun j => own rv = some j) w6.drew w9 := ((Fr.refl _ w6.drew).alloc _).trans' hf9 (fun i hi => .inl hi)
              have SR := (SQ).owTo hfa9 ho9 hone9 (fun k hk => (hfr9 k hk).imp (fun h => h) (fun h => by rw [alloc_size] at h; omega))
              have SG := SR.ac (show _ = GwP qb vp v rows TT * (Ow 271 4 wtE v9 (rcv ++ [⟨id, S.fi.length, k, x.v⟩]) * (Ow 271 4 wtE sv snd * (Ow 3 1 iE bv buf * (Big ((rows.eraseIdx x.c.toNat).map RrA) * (Pt b15 [.int .i64 id, .int .i64 S.fi.length, .int .i64 k, .int .i64 x.v] 271 * R))))) by ac_rfl)
              have hb159 := (SG.ac (show _ = Pt b15 [.int .i64 id, .int .i64 S.fi.length, .int .i64 k, .int .i64 x.v] 271 * (GwP qb vp v rows TT * (Ow 271 4 wtE v9 (rcv ++ [⟨id, S.fi.length, k, x.v⟩]) * (Ow 271 4 wtE sv snd * (Ow 3 1 iE bv buf * (Big ((rows.eraseIdx x.c.toNat).map RrA) * R))))) by ac_rfl)).blk
              refine vL_nil ⟨rfl, hK _ _ ?_⟩
              (refine tkE 8 rfl (by kernel_rfl) (by first | assumption | infer_instance) rfl ?_)
              (refine tk 9 rfl (by kernel_rfl) (by first | assumption | infer_instance) (by intro wf hwf; (try dsimp only at hwf); (((apply opv_fieldAddr); exact rfl))) ?_)
              refine vA_only 10 rfl (by kernel_rfl) (by first | assumption | infer_instance) (fun K hK => ?_)
              refine vL_storeElF (enc := rrE) (xs := rows) (i := x.c) (x0 := ⟨size, ⟨bv, obv⟩, ⟨sv, osv⟩, ⟨rv, orv⟩, closed, buf, snd, rcv⟩) ⟨size, ⟨bv, obv⟩, ⟨sv, osv⟩, ⟨v9, hone9⟩, closed, buf, snd, rcv ++ [⟨id, S.fi.length, k, x.v⟩]⟩ rfl rfl hr rfl hone9 (by decide) (gw_ch SG).1 ?_
              intro w10 ho10 hf10
              have SH := gw_rows SG hf10 ho10
              have SI := gw_unrow (qb := qb) (vp := vp) (v := v) (S := TT) (R := Pt b15 [.int .i64 id, .int .i64 S.fi.length, .int .i64 k, .int .i64 x.v] 271 * R) (r' := ⟨size, ⟨bv, obv⟩, ⟨sv, osv⟩, ⟨v9, hone9⟩, closed, buf, snd, rcv ++ [⟨id, S.fi.length, k, x.v⟩]⟩) hlr (SH.ac (by dsimp only; ac_rfl))
              have hb1510 := (SI.ac (show _ = Pt b15 [.int .i64 id, .int .i64 S.fi.length, .int .i64 k, .int .i64 x.v] 271 * (GwP qb vp v (rows.set x.c.toNat ⟨size, ⟨bv, obv⟩, ⟨sv, osv⟩, ⟨v9, hone9⟩, closed, buf, snd, rcv ++ [⟨id, S.fi.length, k, x.v⟩]⟩) TT * (Big ((rows.set x.c.toNat ⟨size, ⟨bv, obv⟩, ⟨sv, osv⟩, ⟨v9, hone9⟩, closed, buf, snd, rcv ++ [⟨id, S.fi.length, k, x.v⟩]⟩).map RrA) * R)) by ac_rfl)).blk
              refine vL_nil ⟨rfl, hK _ _ ?_⟩
              refine vA_done (by kernel_rfl) (by first | assumption | infer_instance) ?_
              have hrows2 : (rows.set x.c.toNat ⟨size, ⟨bv, obv⟩, ⟨sv, osv⟩, ⟨v9, hone9⟩, closed, buf, snd, rcv ++ [⟨id, S.fi.length, k, x.v⟩]⟩).map RR.m = (TT.wait1 id S.fi.length k x).ch := by
                unfold MW.wait1
                rw [hdd]
                dsimp only
                rw [hsend]
                exact rows_set hrows rfl
              have SJ : At (GwA qb vp (TT.wait1 id S.fi.length k x) * (Pt b15 [.int .i64 id, .int .i64 S.fi.length, .int .i64 k, .int .i64 x.v] 271 * R)) w0 F0 w10 := by
                have e : GwP qb vp v (rows.set x.c.toNat ⟨size, ⟨bv, obv⟩, ⟨sv, osv⟩, ⟨v9, hone9⟩, closed, buf, snd, rcv ++ [⟨id, S.fi.length, k, x.v⟩]⟩) TT = GwP qb vp v (rows.set x.c.toNat ⟨size, ⟨bv, obv⟩, ⟨sv, osv⟩, ⟨v9, hone9⟩, closed, buf, snd, rcv ++ [⟨id, S.fi.length, k, x.v⟩]⟩) (TT.wait1 id S.fi.length k x) := by
                  unfold MW.wait1
                  rw [hdd]
                  rfl
                rw [e] at SI
                exact gw_shut hrows2 SI
              have SK := (SJ.ac (show _ = Pt b15 [.int .i64 id, .int .i64 S.fi.length, .int .i64 k, .int .i64 x.v] 271 * (GwA qb vp (TT.wait1 id S.fi.length k x) * R) by ac_rfl)).drop
              (apply blockP_normal; apply seqP_normal; apply vC_region; (refine vE rfl ?_); ((apply vL_val); (case h => ((apply opv_add); exact rfl; exact rfl; (first | omega | (simp only [List.length_map]; omega))))); (refine vE rfl ?_); apply vL_nil; apply loopP_normal)
              (with_reducible apply end1); (case hs => ((iterate 44 (first | with_reducible apply same_updN | ((with_reducible refine same_updO ?_ ?_); rotate_left; exact rfl))); ((refine same_upd ?_ ?_); rotate_left; exact rfl); (exact same_mask _ _ _))); (case h1 => (exact norm_eq rfl))
              · refine ⟨k + 1, rfl, by omega, ?_⟩
                rw [hnx, ← hTT]
                exact SK
              · simp [RowKit.intOf]; omega
        · have e3 : k = xs.length := by omega
          subst e3
          obtain ⟨la3, lc3, e4⟩ := hR.len
          ((iterate 2 (apply vC_seq)); apply vC_region; (iterate 2 ((refine vE rfl ?_))); (refine vL_val (opv_lenc rfl) ?_); (refine vE rfl ?_); apply vL_nil; apply seqP_normal; (refine vC_cond_dec rfl (fun h => by omega) (fun _ => ?_)); apply vC_exit; apply seqP_exit; apply loopP_exit; apply blockP_exit)
          (first | apply ret0 | apply ret0n)
          exact S3
end
end Go.Proofs.YtbaidcnalkdhgaaGreat
set_option maxRecDepth 100000
namespace Go.Proofs.YtbaidcnalkdhgaaGreat
open Go Go.Eng
theorem rd_one {α : Type} {enc : α → List Value} {sz : Nat} [ie : EncOk enc sz] {h : Array Obj} {b : Nat} {cs : List Value} {T : TypeId} (x : α) (hb : Blk h b cs T) (hc : enc x = cs) : Rd h sz enc (.slice (some ⟨b, 0, none⟩) 1 1) [x] := by
  have : Own h T sz enc (.slice (some ⟨b, 0, none⟩) 1 1) [x] := ⟨fun y _ => ie.len y, .inr ⟨b, 1, cs, rfl, hb, Nat.le_refl _, by simp [maxLen], by rw [← hc, ie.len x]; omega, by rw [← hc]; simp [ie.len x]; rw [List.take_of_length_le]; rw [ie.len x]; exact Nat.le_refl _⟩⟩
  exact this.rd
section
variable {S : MW} {j : Nat}
theorem close_li {d : MC} (hd : S.ch[j]? = some d) : (S.close j).1.li.length ≤ S.li.length + d.rcv.length + d.snd.length ∧ (S.close j).1.to.length = S.to.length := by
  cases hc : d.closed with
  | true => rw [close_yes hd hc]; exact ⟨by show S.li.length ≤ _; omega, rfl⟩
  | false =>
    rw [close_no hd hc]
    have h1 : MKp d.rcv.length S (S.close1 j d) := by
      unfold MW.close1
      exact ((setC_mkp S j _ 0).trans (endsR_mkp j d.rcv.length _)).mono (by omega)
    have h2 : (S.close1 j d).sndL j ≤ d.snd.length := by
      unfold MW.close1
      refine Nat.le_trans (endsR_sndL _ _ _ _) ?_
      unfold MW.sndL
      show ((S.ch.set j _)[j]?).elim 0 _ ≤ _
      rw [List.getElem?_set_self (List.getElem?_eq_some_iff.1 hd).1]
      exact Nat.le_refl _
    have h3 := h1.trans (endsS_mkp j ((S.close1 j d).sndL j) (S.close1 j d))
    exact ⟨by have := h3.li; show (MW.endsS _ _ _).li.length ≤ _; omega, h3.to⟩
end
section
variable {w w0 : World} {F0 : Nat → Prop} {R : Asr} {qb : Nat} {vp : Value} {S : MW}
def doV (d : Do5) : Value := .agg #[.int .i64 d.k, .int .i64 d.c, .int .i64 d.v, d.cs.1, .bool d.df]
set_option maxHeartbeats 4000000 in
theorem g_do [Lcl R] (hgo : GOs S) (S1 : At (GwA qb vp S * R) w0 F0 w) (hp1 : vp.oneCell' = true) {id : Int} (hi0 : 0 ≤ id) (hi1 : id < S.to.length) (hi2 : S.ov.length = S.to.length) (d : Do5) (cs : List Cs) (hk7 : d.k ≤ 7) (hc0 : 0 ≤ d.c) (hc1 : d.c < S.ch.length)
    (hcs : d.k = 5 → (∀ T w', At (GwA qb vp T * R) w0 F0 w' → Rd w'.heap 3 csE d.cs.1 cs) ∧ cs.length ≤ 1000 ∧ ∀ x ∈ cs, 0 ≤ x.c ∧ x.c < S.ch.length) :
    Rets Tryz.prog 132 #[pt qb, .int .i64 id, doV d] w fun _ w' => At (GwA qb vp (S.act id d cs) * R) w0 F0 w' := by
  obtain ⟨x, hx⟩ : ∃ x, S.ch[d.c.toNat]? = some x := ⟨_, List.getElem?_eq_getElem (by omega)⟩
  have hbx : x.buf.length ≤ 1000000 := by have := hgo.buf x (List.mem_of_getElem? hx); omega
  have hlx : S.li.length + x.rcv.length + x.snd.length ≤ 900000 := hgo.cl x (List.mem_of_getElem? hx)
  have hgl := hgo.li
  have hlS : S.li.length ≤ 1000000 := by omega
  obtain ⟨dk, dc, dv, ⟨dcs, odc⟩, ddf⟩ := d
  simp only [] at hk7 hc0 hc1 hcs hx
  unfold doV
  dsimp only
  refine rets_of Tryz.func132 rfl Tryz.ntmps132 rfl rfl (by kernel_rfl) ?_
  (apply vC_seq; apply vC_region; (refine vL_val (opw_boxn rfl) ?_); apply vL_nil; apply seqP_normal; apply vC_seq; apply vC_region; (refine vL_val (opv_fieldAddr rfl) ?_); ((apply vL_val); (case h => ((apply opv_loadb1); exact rfl; exact rfl; infer_instance; exact rfl))); apply vL_nil; apply seqP_normal; apply vC_block; apply vC_seq; apply vC_region; (iterate 2 ((refine vE rfl ?_))); apply vL_nil; apply seqP_normal)
  have S2 := (S1.alloc (cs := [.int .i64 dk, .int .i64 dc, .int .i64 dv, dcs, .bool ddf]) (T := 167)).ac (show _ = GwA qb vp S * (Pt w.heap.size [.int .i64 dk, .int .i64 dc, .int .i64 dv, dcs, .bool ddf] 167 * R) by ac_rfl)
  refine vC_gen (fun w' => At _ w0 F0 w') S2 ?_
  clear S2 S1
  intro w1 S2
  generalize w.heap.size = b5 at S2 ⊢
  have up5 : ∀ {T : MW} {w' : World}, At (GwA qb vp T * (Pt b5 [.int .i64 dk, .int .i64 dc, .int .i64 dv, dcs, .bool ddf] 167 * R)) w0 F0 w' → At (GwA qb vp T * R) w0 F0 w' := fun {T w'} h => (h.ac (show _ = Pt b5 [.int .i64 dk, .int .i64 dc, .int .i64 dv, dcs, .bool ddf] 167 * (GwA qb vp T * R) by ac_rfl)).drop
  have ub5 : ∀ {T : MW} {w' : World}, At (GwA qb vp T * (Pt b5 [.int .i64 dk, .int .i64 dc, .int .i64 dv, dcs, .bool ddf] 167 * R)) w0 F0 w' → Blk w'.heap b5 [.int .i64 dk, .int .i64 dc, .int .i64 dv, dcs, .bool ddf] 167 := fun {T w'} h => (h.ac (show _ = Pt b5 [.int .i64 dk, .int .i64 dc, .int .i64 dv, dcs, .bool ddf] 167 * (GwA qb vp T * R) by ac_rfl)).blk
  have hb5 := ub5 S2
  unfold MW.act
  dsimp only
  by_cases k1 : dk = 1
  · rw [if_pos k1]
    ((refine vC_cond_dec rfl (fun _ => ?_) (fun h => by omega)); apply vC_region; (iterate 2 ((refine vE rfl ?_))); ((apply vL_val); (case h => ((apply opv_buildS); exact rfl; exact (rfl : _ = some [_, _, _])))))
    refine vL_callF rfl (g_yields S2 hp1 id ⟨0, 0, false⟩ hi0 hi1 hlS) rfl ?_
    intro _ w2 S3
    (apply vL_nil; apply blockP_normal)
    (first | apply ret0 | apply ret0n)
    exact up5 S3
  rw [if_neg k1]
  by_cases k2 : dk = 2
  · rw [if_pos k2]
    ((refine vC_cond_dec rfl (fun h => by omega) (fun _ => ?_)); apply vC_seq; apply vC_region; (iterate 2 ((refine vE rfl ?_))); apply vL_nil; apply seqP_normal; (refine vC_cond_dec rfl (fun _ => ?_) (fun h => by omega)); apply vC_region; (iterate 2 ((refine vE rfl ?_))); (iterate 4 (first | ((with_reducible apply vL_val); (case h => ((with_reducible apply opv_loadb1); exact rfl; exact rfl; assumption; exact rfl))) | (refine vL_val (opv_fieldAddr rfl) ?_))); ((apply vL_val); (case h => ((apply opv_buildS); exact rfl; exact (rfl : _ = some [_, _, _])))); ((apply vL_val); (case h => ((apply opw_buildSl); exact rfl; exact rfl; exact rfl; exact (rfl : _ = some [_, _, _])))))
    have SD := S2.alloc (cs := [.bool true, .int .i64 dc, .int .i64 dv]) (T := 247)
    refine vL_gen (fun w' => At _ w0 F0 w') (SD.ac (show _ = GwA qb vp S * (Pt w1.heap.size [.bool true, .int .i64 dc, .int .i64 dv] 247 * (Pt b5 [.int .i64 dk, .int .i64 dc, .int .i64 dv, dcs, .bool ddf] 167 * R)) by ac_rfl)) ?_
    clear SD
    intro w2 S3
    generalize w1.heap.size = g at S3 ⊢
    have hcc : ∀ T w', At (GwA qb vp T * (Pt g [.bool true, .int .i64 dc, .int .i64 dv] 247 * (Pt b5 [.int .i64 dk, .int .i64 dc, .int .i64 dv, dcs, .bool ddf] 167 * R))) w0 F0 w' → Rd w'.heap 3 csE (.slice (some ⟨g, 0, none⟩) 1 1) [⟨true, dc, dv⟩] := fun T w' h =>
      rd_one (enc := csE) (⟨true, dc, dv⟩ : Cs) (h.ac (show _ = Pt g [.bool true, .int .i64 dc, .int .i64 dv] 247 * (GwA qb vp T * (Pt b5 [.int .i64 dk, .int .i64 dc, .int .i64 dv, dcs, .bool ddf] 167 * R)) by ac_rfl)).blk rfl
    have hch := g_choose hgo S3 hp1 hi0 hi1 hcc (show 1 ≤ 1000 by decide) (fun x hx => by rw [List.mem_singleton] at hx; subst hx; exact ⟨hc0, hc1⟩) false
    refine vL_callF rfl (hch) rfl ?_
    intro _ w3 S4
    (apply vL_nil; apply blockP_normal)
    (first | apply ret0 | apply ret0n)
    exact up5 (S4.ac (show _ = Pt g [.bool true, .int .i64 dc, .int .i64 dv] 247 * (GwA qb vp (S.choose id [⟨true, dc, dv⟩] false) * (Pt b5 [.int .i64 dk, .int .i64 dc, .int .i64 dv, dcs, .bool ddf] 167 * R)) by ac_rfl)).drop
  rw [if_neg k2]
  by_cases k3 : dk = 3
  · rw [if_pos k3]
    ((iterate 18 (first | with_reducible apply vC_seq | with_reducible apply vC_region | with_reducible apply seqP_normal | (refine vE rfl ?_) | with_reducible apply vL_nil | (refine vC_cond_dec rfl (fun _ => ?_) (fun h => by omega)) | (refine vC_cond_dec rfl (fun h => by omega) (fun _ => ?_)))); (refine vL_val (opv_fieldAddr rfl) ?_); ((apply vL_val); (case h => ((apply opv_loadb1); exact rfl; exact rfl; assumption; exact rfl))); ((apply vL_val); (case h => ((apply opv_buildS); exact rfl; exact (rfl : _ = some [_, _, _])))); ((apply vL_val); (case h => ((apply opw_buildSl); exact rfl; exact rfl; exact rfl; exact (rfl : _ = some [_, _, _])))))
    have SD := S2.alloc (cs := [.bool false, .int .i64 dc, .int .i64 0]) (T := 247)
    refine vL_gen (fun w' => At _ w0 F0 w') (SD.ac (show _ = GwA qb vp S * (Pt w1.heap.size [.bool false, .int .i64 dc, .int .i64 0] 247 * (Pt b5 [.int .i64 dk, .int .i64 dc, .int .i64 dv, dcs, .bool ddf] 167 * R)) by ac_rfl)) ?_
    clear SD
    intro w2 S3
    generalize w1.heap.size = g at S3 ⊢
    have hcc : ∀ T w', At (GwA qb vp T * (Pt g [.bool false, .int .i64 dc, .int .i64 0] 247 * (Pt b5 [.int .i64 dk, .int .i64 dc, .int .i64 dv, dcs, .bool ddf] 167 * R))) w0 F0 w' → Rd w'.heap 3 csE (.slice (some ⟨g, 0, none⟩) 1 1) [⟨false, dc, 0⟩] := fun T w' h =>
      rd_one (enc := csE) (⟨false, dc, 0⟩ : Cs) (h.ac (show _ = Pt g [.bool false, .int .i64 dc, .int .i64 0] 247 * (GwA qb vp T * (Pt b5 [.int .i64 dk, .int .i64 dc, .int .i64 dv, dcs, .bool ddf] 167 * R)) by ac_rfl)).blk rfl
    have hch := g_choose hgo S3 hp1 hi0 hi1 hcc (show 1 ≤ 1000 by decide) (fun x hx => by rw [List.mem_singleton] at hx; subst hx; exact ⟨hc0, hc1⟩) false
    refine vL_callF rfl (hch) rfl ?_
    intro _ w3 S4
    (apply vL_nil; apply blockP_normal)
    (first | apply ret0 | apply ret0n)
    exact up5 (S4.ac (show _ = Pt g [.bool false, .int .i64 dc, .int .i64 0] 247 * (GwA qb vp (S.choose id [⟨false, dc, 0⟩] false) * (Pt b5 [.int .i64 dk, .int .i64 dc, .int .i64 dv, dcs, .bool ddf] 167 * R)) by ac_rfl)).drop
  rw [if_neg k3]
  by_cases k4 : dk = 4
  · rw [if_pos k4]
    have hcl := close_li hx
    ((iterate 26 (first | with_reducible apply vC_seq | with_reducible apply vC_region | with_reducible apply seqP_normal | (refine vE rfl ?_) | with_reducible apply vL_nil | (refine vC_cond_dec rfl (fun _ => ?_) (fun h => by omega)) | (refine vC_cond_dec rfl (fun h => by omega) (fun _ => ?_)))); (refine vL_val (opv_fieldAddr rfl) ?_); ((apply vL_val); (case h => ((apply opv_loadb1); exact rfl; exact rfl; assumption; exact rfl))))
    refine vL_callF rfl (g_close hgo.ch S2 hp1 hc0 hx (by omega)) rfl ?_
    rintro _ w2 ⟨rfl, S3⟩
    (((apply vL_val); (case h => ((apply opv_buildS); exact rfl; exact (rfl : _ = some [_, _, _])))))
    have hy := g_yields S3 hp1 id ⟨0, 0, (S.close dc.toNat).2⟩ hi0 (by rw [hcl.2]; exact hi1) (by omega)
    refine vL_callF rfl (hy) rfl ?_
    intro _ w3 S4
    (apply vL_nil; apply blockP_normal)
    (first | apply ret0 | apply ret0n)
    exact up5 S4
  rw [if_neg k4]
  by_cases k5 : dk = 5
  · rw [if_pos k5]
    obtain ⟨q1, q2, q3⟩ := hcs k5
    ((iterate 32 (first | with_reducible apply vC_seq | with_reducible apply vC_region | with_reducible apply seqP_normal | (refine vE rfl ?_) | with_reducible apply vL_nil | (refine vC_cond_dec rfl (fun _ => ?_) (fun h => by omega)) | (refine vC_cond_dec rfl (fun h => by omega) (fun _ => ?_)))); (iterate 4 (first | ((with_reducible apply vL_val); (case h => ((with_reducible apply opv_loadb1); exact rfl; exact rfl; assumption; exact rfl))) | (refine vL_val (opv_fieldAddr rfl) ?_))))
    have hch := g_choose hgo S2 hp1 hi0 hi1 (fun T w' h => q1 T w' (up5 h)) q2 q3 ddf
    refine vL_callF rfl (hch) rfl ?_
    intro _ w3 S4
    (apply vL_nil; apply blockP_normal)
    (first | apply ret0 | apply ret0n)
    exact up5 S4
  rw [if_neg k5]
  by_cases k6 : dk = 6
  · rw [if_pos k6]
    have ecan : S.can ⟨true, dc, dv⟩ = x.canS := by unfold MW.can; simp only [hx]; rfl
    rw [ecan]
    ((iterate 39 (first | with_reducible apply vC_seq | with_reducible apply vC_region | with_reducible apply seqP_normal | (refine vE rfl ?_) | with_reducible apply vL_nil | (refine vC_cond_dec rfl (fun _ => ?_) (fun h => by omega)) | (refine vC_cond_dec rfl (fun h => by omega) (fun _ => ?_)))); (refine vL_val (opv_fieldAddr rfl) ?_); ((apply vL_val); (case h => ((apply opv_loadb1); exact rfl; exact rfl; assumption; exact rfl))))
    refine vL_callF rfl (g_canS S2 hc0 hx) rfl ?_
    rintro _ w2 ⟨hf2, rfl⟩
    have S3 := S2.frN hf2
    have hb53 := ub5 S3
    clear hb5
    cases hcan : x.canS with
    | true =>
      rw [if_pos rfl]
      ((iterate 16 (first | with_reducible apply vC_seq | with_reducible apply vC_region | with_reducible apply seqP_normal | ((with_reducible apply vC_cond_true); exact rfl) | (refine vE rfl ?_) | ((with_reducible apply vL_val); (case h => ((with_reducible apply opv_loadb1); exact rfl; exact rfl; assumption; exact rfl))) | (refine vL_val (opv_fieldAddr rfl) ?_) | with_reducible apply vL_nil)))
      refine vL_callF rfl (g_send hgo.ch S3 hp1 hc0 hx dv hlS hbx) rfl ?_
      rintro _ w3 ⟨rfl, S4⟩
      have hmk := send_mkp S dc.toNat dv
      ((refine vE rfl ?_); apply vL_nil; apply seqP_normal; apply vC_region; (iterate 3 ((refine vE rfl ?_))); ((apply vL_val); (case h => ((apply opv_buildS); exact rfl; exact (rfl : _ = some [_, _, _])))))
      have hy := g_yields S4 hp1 id ⟨0, 0, (S.send dc.toNat dv).2⟩ hi0 (by rw [hmk.to]; exact hi1) (by have := hmk.li; omega)
      refine vL_callF rfl (hy) rfl ?_
      intro _ w4 S5
      (apply vL_nil; apply blockP_normal)
      (first | apply ret0 | apply ret0n)
      exact up5 S5
    | false =>
      rw [if_neg (by simp)]
      ((iterate 16 (first | with_reducible apply vC_seq | with_reducible apply vC_region | with_reducible apply seqP_normal | with_reducible apply vC_skip | ((with_reducible apply vC_cond_false); exact rfl) | (refine vE rfl ?_) | with_reducible apply vL_nil)); ((apply vL_val); (case h => ((apply opv_buildS); exact rfl; exact (rfl : _ = some [_, _, _])))))
      refine vL_callF rfl (g_yields S3 hp1 id ⟨0, 0, false⟩ hi0 hi1 hlS) rfl ?_
      intro _ w4 S5
      (apply vL_nil; apply blockP_normal)
      (first | apply ret0 | apply ret0n)
      exact up5 S5
  rw [if_neg k6]
  by_cases k7 : dk = 7
  · rw [if_pos k7]
    have ecan : S.can ⟨false, dc, 0⟩ = x.canR := by unfold MW.can; simp only [hx]; rfl
    rw [ecan]
    ((iterate 45 (first | with_reducible apply vC_seq | with_reducible apply vC_region | with_reducible apply seqP_normal | (refine vE rfl ?_) | with_reducible apply vL_nil | (refine vC_cond_dec rfl (fun _ => ?_) (fun h => by omega)) | (refine vC_cond_dec rfl (fun h => by omega) (fun _ => ?_)))); ((apply vL_val); (case h => ((apply opv_buildS); exact rfl; exact (rfl : _ = some [_, _, _])))); ((apply vL_val); (case h => (apply opw_alloc))); ((apply vL_skip); (case h => ((apply ops_storen); exact norm_eq rfl; exact norm_eq rfl; exact rfl; (intro u hu; simp at hu; rcases hu with rfl | rfl | rfl <;> (first | rfl | assumption)); infer_instance; (first | decide | exact of_decide_eq_true rfl | (simp; done))))); apply vL_nil; apply seqP_normal; (iterate 2 (apply vC_seq)); apply vC_region; (refine vE rfl ?_); (refine vL_val (opv_fieldAddr rfl) ?_); ((apply vL_val); (case h => ((apply opv_loadb1); exact rfl; exact rfl; infer_instance; exact rfl))))
    have SD := ((S2.alloc (cs := [.int .i64 0, .int .i64 0, .bool false]) (T := 171)).set (cs' := [.int .i64 1, .int .i64 0, .bool false])).ac (show _ = GwA qb vp S * (Pt w1.heap.size [.int .i64 1, .int .i64 0, .bool false] 171 * (Pt b5 [.int .i64 dk, .int .i64 dc, .int .i64 dv, dcs, .bool ddf] 167 * R)) by ac_rfl)
    refine vL_gen (fun w' => At _ w0 F0 w') SD ?_
    clear SD
    intro w2 S3
    generalize w1.heap.size = b7 at S3 ⊢
    have up7 : ∀ {T : MW} {cs : List Value} {w' : World}, At (GwA qb vp T * (Pt b7 cs 171 * (Pt b5 [.int .i64 dk, .int .i64 dc, .int .i64 dv, dcs, .bool ddf] 167 * R))) w0 F0 w' → At (Pt b7 cs 171 * (GwA qb vp T * (Pt b5 [.int .i64 dk, .int .i64 dc, .int .i64 dv, dcs, .bool ddf] 167 * R))) w0 F0 w' := fun h => h.ac (by ac_rfl)
    have dn7 : ∀ {T : MW} {cs : List Value} {w' : World}, At (Pt b7 cs 171 * (GwA qb vp T * (Pt b5 [.int .i64 dk, .int .i64 dc, .int .i64 dv, dcs, .bool ddf] 167 * R))) w0 F0 w' → At (GwA qb vp T * (Pt b7 cs 171 * (Pt b5 [.int .i64 dk, .int .i64 dc, .int .i64 dv, dcs, .bool ddf] 167 * R))) w0 F0 w' := fun h => h.ac (by ac_rfl)
    have hb5 := ub5 (up7 S3).drop
    skip
    refine vL_callF rfl (g_canR S3 hc0 hx) rfl ?_
    rintro _ w3 ⟨hf3, rfl⟩
    have S4 := S3.frN hf3
    have hb5 := ub5 (up7 S4).drop
    have hb7 := (up7 S4).blk
    cases hcan : x.canR with
    | true =>
      rw [if_pos rfl]
      (apply vL_nil; apply seqP_normal; ((apply vC_cond_true); exact rfl); apply vC_seq; apply vC_region; (refine vE rfl ?_); (refine vL_val (opv_fieldAddr rfl) ?_); ((apply vL_val); (case h => ((apply opv_loadb1); exact rfl; exact rfl; assumption; exact rfl))))
      refine vL_callF rfl (g_recv hgo.ch S4 hp1 hc0 hx hlS hbx) rfl ?_
      rintro _ w4 ⟨rfl, S5⟩
      have hmk := recv_mkp S dc.toNat
      have hb5 := ub5 (up7 S5).drop
      have hb7 := (up7 S5).blk
      ((iterate 17 (first | with_reducible apply vC_region | with_reducible apply seqP_normal | (refine vE rfl ?_) | (refine vL_val (opv_fieldAddr rfl) ?_) | with_reducible apply vL_nil | ((with_reducible apply vL_skip); (case h => ((with_reducible apply ops_store1); exact norm_eq rfl; exact norm_eq rfl; (first | rfl | assumption); assumption; (first | decide | exact of_decide_eq_true rfl | (simp; done))))) | ((with_reducible apply vL_skip); (case h => ((with_reducible apply ops_store1); exact norm_eq rfl; exact norm_eq rfl; (first | rfl | assumption); infer_instance; (first | decide | exact of_decide_eq_true rfl | (simp; done))))))); ((apply vL_val); (case h => ((apply opv_loadbC); exact rfl; exact rfl; infer_instance; exact (rfl : _ = [_, _, _]); exact rfl))))
      have S6 := dn7 ((((up7 S5).set (cs' := [.int .i64 1, .int .i64 (S.recv dc.toNat).2.1, .bool false])).set (cs' := [.int .i64 1, .int .i64 (S.recv dc.toNat).2.1, .bool (S.recv dc.toNat).2.2])).set (cs' := [.int .i64 0, .int .i64 (S.recv dc.toNat).2.1, .bool (S.recv dc.toNat).2.2]))
      refine vL_gen (fun w' => At _ w0 F0 w') S6 ?_
      clear S6
      intro w5 S6
      have hy := g_yields S6 hp1 id ⟨0, (S.recv dc.toNat).2.1, (S.recv dc.toNat).2.2⟩ hi0 (by rw [hmk.to]; exact hi1) (by have := hmk.li; omega)
      refine vL_callF rfl (hy) rfl ?_
      intro _ w6 S7
      (apply vL_nil; apply blockP_normal)
      (first | apply ret0 | apply ret0n)
      exact up5 (up7 S7).drop
    | false =>
      rw [if_neg (by simp)]
      (apply vL_nil; apply seqP_normal; ((apply vC_cond_false); exact rfl); apply vC_skip; apply seqP_normal; apply vC_region; (iterate 2 ((refine vE rfl ?_))); ((apply vL_val); (case h => ((apply opv_loadbC); exact rfl; exact rfl; assumption; exact (rfl : _ = [_, _, _]); exact rfl))))
      refine vL_callF rfl (g_yields S4 hp1 id ⟨1, 0, false⟩ hi0 hi1 hlS) rfl ?_
      intro _ w6 S7
      (apply vL_nil; apply blockP_normal)
      (first | apply ret0 | apply ret0n)
      exact up5 (up7 S7).drop
  rw [if_neg k7, if_neg (by omega), if_neg (by omega)]
  obtain ⟨v, rows, hrows, S3⟩ := gw_open S2
  have hb := gw_blk S3
  rw [gwL] at hb
  have hov := (gw_ov S3).1
  ((iterate 60 (first | with_reducible apply vC_seq | with_reducible apply vC_region | with_reducible apply seqP_normal | (refine vE rfl ?_) | with_reducible apply vL_nil | (refine vC_cond_dec rfl (fun h => by omega) (fun _ => ?_)))); (refine vL_val (opv_fieldAddr rfl) ?_); ((apply vL_val); (case h => ((apply opv_loadb1); exact rfl; exact rfl; assumption; exact rfl))); (refine vE rfl ?_); ((apply vL_val); (case h => ((apply opv_indexAddr); ((conv => lhs; whnf) <;> exact rfl); exact rfl; infer_instance; (first | omega | (simp only [List.length_map]; omega)); (first | omega | (simp only [List.length_map]; omega))))))
  refine vL_storeEl (enc := bE) (xs := S.ov) (i := id) true rfl rfl rfl hov (by omega) ?_
  intro w2 ho2 hf2
  have S4 := gw_sov S3 hf2 ho2
  (apply vL_nil; apply blockP_normal)
  (first | apply ret0 | apply ret0n)
  exact up5 (gw_shut hrows S4)
end
end Go.Proofs.YtbaidcnalkdhgaaGreat
