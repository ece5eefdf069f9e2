/- Layer 16: ChansClosed: the walk. Opening the arguments of the rows of layer 16. -/
import Derived.Test.YtbaidcnalkdhgaaGreatVr
import Derived.Test.YtbaidcnalkdhgaaGreatEo
import Derived.Test.YtbaidcnalkdhgaaGreatRows
import Derived.OpenShut
import Derived.ChangeSame
import Derived.Deep.Strs
set_option maxRecDepth 100000
namespace Go.Proofs.YtbaidcnalkdhgaaGreat
open Go Go.Eng
theorem now_ps0 (cl : List (Nat × Int)) (tl : List Nat) : NoW (ps0 cl tl) := fun j d hd hc => by
  have hd : (cl.map c16)[j]? = some d := hd
  rw [List.getElem?_map] at hd
  cases h : cl[j]? with
  | none => rw [h] at hd; cases hd
  | some x => rw [h] at hd; cases hd; cases hc
theorem closed16 (w : World) (vp vk : Value) (size : Int) (P : List (OV × List Do5)) (picks : List Int) (z : Pz16 w.heap vp P) (hk : Rd w.heap 1 uE vk picks) (hkb : ∀ x ∈ picks, 0 ≤ x ∧ x ≤ 18446744073709551615) (hko : vk.oneCell' = true) :
    Rets Tryz.prog 4 #[vp, .int .i64 size, vk] w fun u w' => u = .bool true ∧ Fr No w w' := by
  have hv1 := z.one
  have hPs := z.hP.small
  have hks := hk.small
  obtain ⟨va, vc, hvp⟩ := z.hP.len
  obtain ⟨ka, kc, rfl⟩ := hk.len
  refine rets_of Tryz.func4 rfl Tryz.ntmps4 rfl rfl (by kernel_rfl) ?_
  (apply vC_seq; apply vC_region; ((apply vL_val); (case h => ((apply opv_E); exact rfl))); apply vL_nil; apply seqP_normal; (iterate 2 (apply vC_seq)); apply vC_region; ((apply vL_val); (case h => ((apply opv_move); ((conv => lhs; whnf) <;> exact rfl)))); ((apply vL_val); (case h => ((apply opv_E); exact rfl))); ((apply vL_val); (case h => ((apply opw_buildSl); exact rfl; exact rfl; exact rfl; exact (rfl : _ = some [_])))))
  refine vL_callF rfl (tame16 _ vp _ P [size] (z.frN (by (apply Fr.alloc; exact Fr.refl _ _))) (Rd.new1 iE size rfl) rfl) rfl ?_
  rintro _ w1 ⟨hf1, b, rfl, hb⟩
  have hf01 : Fr No w w1 := Fr.trans (by (apply Fr.alloc; exact Fr.refl _ _)) hf1
  cases b with
  | false =>
    (((apply vL_val); (case h => ((apply opv_not); exact rfl))); apply vL_nil; apply seqP_normal; ((apply vC_cond_true); exact rfl); apply vC_seq; apply vC_region)
    refine vL_callF rfl (awake16 _) rfl ?_
    rintro _ w2 ⟨rfl, hf2⟩
    (((apply vL_val); (case h => ((apply opv_E); exact rfl))); apply vL_nil; apply seqP_normal; apply vC_ret; apply seqP_ret)
    (apply ret1; (case h1 => (exact norm_eq rfl)))
    exact ⟨rfl, hf01.trans hf2⟩
  | true =>
  have ht := hb rfl
  clear hb
  have hsb := ht.size size List.mem_cons_self
  (((apply vL_val); (case h => ((apply opv_not); exact rfl))); apply vL_nil; apply seqP_normal; ((apply vC_cond_false); exact rfl); apply vC_skip; apply seqP_normal; apply vC_seq; apply vC_region; ((apply vL_val); (case h => ((apply opv_move); ((conv => lhs; whnf) <;> exact rfl)))); ((apply vL_val); (case h => ((apply opv_E); exact rfl))); ((apply vL_val); (case h => ((apply opw_buildSl); exact rfl; exact rfl; exact rfl; exact (rfl : _ = some [_])))))
  refine vL_callF rfl (begun16 (P := P) (sizes := [size]) (z.frN (by (apply Fr.alloc; assumption))) ht.six (Rd.new1 iE size rfl) (by simp) ht.size rfl) rfl ?_
  rintro _ w3 ⟨wb, qb, rb, cl, tl, kb, rfl, hcl, htl, S3⟩
  obtain ⟨⟨cb, c0⟩, rfl⟩ : ∃ x, cl = [x] := len1 (by have := congrArg List.length hcl; simpa using this)
  obtain rfl : c0 = size := by simpa using hcl
  have hf3 := hf01.trans ((show Fr No w1 _ by (apply Fr.alloc; exact Fr.refl _ _)).trans S3.fr)
  generalize hW2 : w1.alloc (.cells #[.int .i64 c0] 3) = w2 at *
  have hf02 : Fr No w w2 := by rw [← hW2]; exact hf01.trans (by (apply Fr.alloc; exact Fr.refl _ _))
  have pr : Pr16 w2 vp P [(cb, c0)] := ⟨z.frN hf02, ht.six, fun y hy d hd => (ht.ch y hy d hd).1, Nat.one_pos⟩
  have I0 : Inv16 (P.map (·.2)) [(cb, c0)] tl (ps0 [(cb, c0)] tl, []) := inv16_init (by rw [List.length_map]; exact htl)
  have S4 : At (W16 wb rb vp [(cb, c0)] tl (ps0 [(cb, c0)] tl, []) * RwA qb vp (rwI ([c0].map row0) P.length)) w2 No w3 := w16_shut S3
  clear S3
  ((iterate 23 (first | with_reducible apply vC_seq | with_reducible apply vC_region | with_reducible apply seqP_normal | with_reducible apply vC_skip | ((with_reducible apply vC_cond_false); exact rfl) | ((with_reducible apply vL_val); (case h => ((with_reducible apply opv_E); exact rfl))) | ((with_reducible apply vL_val); (case h => ((with_reducible apply opv_eql_pnil); exact rfl; exact rfl; (simp; done)))) | with_reducible apply vL_nil)); apply vC_block)
  (apply vC_loop1 72057456598974976 9 (fun u w' => ∃ (k : Nat) (T : T16), u = .int .i64 (k : Int) ∧ k ≤ picks.length ∧ k ≤ 100 ∧ T.2.length ≤ k ∧ Inv16 (P.map (·.2)) [(cb, c0)] tl T ∧ NoW T.1 ∧ At (W16 wb rb vp [(cb, c0)] tl T * RwA qb vp (rwI ([c0].map row0) P.length)) w2 No w') (fun u _ => 100 - (RowKit.intOf u).toNat)); (case h1 => (exact norm_eq rfl))
  case h0 => exact ⟨0, _, rfl, Nat.zero_le _, by decide, Nat.le_refl _, I0, now_ps0 _ _, S4⟩
  clear S4 I0 hf3
  case round =>
  rintro junk _ w4 ⟨k, T, rfl, hkl, hk100, hT, I, hN, S5⟩
  obtain ⟨cv, tv, ev, h51, h52, h53, h54, h55, h56, h57⟩ := w16_see S5
  have hk5 := hk.frN (hf02.trans S5.fr)
  by_cases hlt : k < picks.length ∧ k < 100
  · obtain ⟨g0, g1⟩ := hlt
    obtain ⟨p, hp⟩ : ∃ p, picks[k]? = some p := ⟨_, List.getElem?_eq_getElem g0⟩
    have hp' : picks[((k : Nat) : Int).toNat]? = some p := by rw [Int.toNat_natCast]; exact hp
    have hpb := hkb p (List.mem_of_getElem? hp)
    ((iterate 2 (apply vC_seq)); apply vC_region; (iterate 10 (first | ((with_reducible apply vL_val); (case h => ((with_reducible apply opv_E); exact rfl))) | ((with_reducible apply vL_val); (case h => ((with_reducible apply opv_lenc); exact rfl))) | ((with_reducible apply vL_wanted); exact rfl) | (refine vL_and rfl rfl (fun _ => ?_) (fun h => by omega)))); apply vL_nil; apply seqP_normal; (refine vC_cond_dec rfl (fun _ => ?_) (fun h => by omega)); apply vC_skip; apply seqP_normal; apply vC_seq; apply vC_block)
    have hE5 : ∃ a b c, Blk w4.heap wb [pt rb, vp, a, b, c, .bool false] 61 := ⟨_, _, _, h51⟩
    refine vC_draw' ((fun wf => (∃ a b c, Blk wf.heap wb [pt rb, vp, a, b, c, .bool false] 61) ∧ Rd wf.heap 1 uE (.slice ka picks.length kc) picks)) (by (first | exact trivial | assumption | infer_instance | (refine ⟨?_, ?_⟩ <;> (first | assumption | infer_instance)) | (skip; done))) ?_
    ((apply (tk 0)); (case hi => exact rfl); (case hf => kernel_rfl); (case hS => (first | exact trivial | assumption | infer_instance | (refine ⟨?_, ?_⟩ <;> (first | assumption | infer_instance)) | (skip; done))); (case hy => (rintro wf ⟨hwa, hwb⟩; (((apply opv_E); exact rfl)))))
    ((apply (tk 1)); (case hi => exact rfl); (case hf => kernel_rfl); (case hS => (first | exact trivial | assumption | infer_instance | (refine ⟨?_, ?_⟩ <;> (first | assumption | infer_instance)) | (skip; done))); (case hy => (rintro wf ⟨hwa, hwb⟩; (((apply opv_E); exact rfl)))))
    ((apply (tk 2)); (case hi => exact rfl); (case hf => kernel_rfl); (case hS => (first | exact trivial | assumption | infer_instance | (refine ⟨?_, ?_⟩ <;> (first | assumption | infer_instance)) | (skip; done))); (case hy => (rintro wf ⟨hwa, hwb⟩; (((apply opv_fieldAddr); exact rfl)))))
    (apply (tk 3)); (case hi => exact rfl); (case hf => kernel_rfl); (case hS => (first | exact trivial | assumption | infer_instance | (refine ⟨?_, ?_⟩ <;> (first | assumption | infer_instance)) | (skip; done))); (case hy => (rintro wf ⟨⟨a, b, c, hwa⟩, hwb⟩; (((apply opv_loadb1); exact rfl; exact rfl; assumption; exact rfl))))
    ((apply (tk 4)); (case hi => exact rfl); (case hf => kernel_rfl); (case hS => (first | exact trivial | assumption | infer_instance | (refine ⟨?_, ?_⟩ <;> (first | assumption | infer_instance)) | (skip; done))); (case hy => (rintro wf ⟨hwa, hwb⟩; (((apply opv_E); exact rfl)))))
    ((apply (tk 5)); (case hi => exact rfl); (case hf => kernel_rfl); (case hS => (first | exact trivial | assumption | infer_instance | (refine ⟨?_, ?_⟩ <;> (first | assumption | infer_instance)) | (skip; done))); (case hy => (rintro wf ⟨hwa, hwb⟩; (((apply opv_E); exact rfl)))))
    ((apply (tk 6)); (case hi => exact rfl); (case hf => kernel_rfl); (case hS => (first | exact trivial | assumption | infer_instance | (refine ⟨?_, ?_⟩ <;> (first | assumption | infer_instance)) | (skip; done))); (case hy => (rintro wf ⟨hwa, hwb⟩; (((apply opv_indexAddr); exact norm_eq rfl; exact rfl; assumption; (first | omega | (simp only [List.length_map]; omega)); (first | omega | (simp only [List.length_map]; omega)))))))
    ((apply (tk 7)); (case hi => exact rfl); (case hf => kernel_rfl); (case hS => (first | exact trivial | assumption | infer_instance | (refine ⟨?_, ?_⟩ <;> (first | assumption | infer_instance)) | (skip; done))); (case hy => (rintro wf ⟨hwa, hwb⟩; (((apply opv_ld_el); exact rfl; exact rfl; assumption; assumption; exact rfl)))))
    refine tkc 8 rfl (by kernel_rfl) (by (first | exact trivial | assumption | infer_instance | (refine ⟨?_, ?_⟩ <;> (first | assumption | infer_instance)) | (skip; done))) rfl (w16_step pr S5.drew I (by omega) p hpb) rfl ?_
    rintro _ w5 h
    have hex : ∃ T', T'.2.length ≤ k + 1 ∧ Inv16 (P.map (·.2)) [(cb, c0)] tl T' ∧ NoW T'.1 ∧ At (W16 wb rb vp [(cb, c0)] tl T' * RwA qb vp (rwI ([c0].map row0) P.length)) w2 No w5 := by
      rcases h with ⟨_, _, h3⟩ | ⟨T', h1, h2, h3, _, h4⟩
      · exact ⟨T, by omega, I, hN, h3⟩
      · exact ⟨T', by omega, h2, hN.step h1, h4⟩
    clear h
    obtain ⟨T', hT', I', hN', S6⟩ := hex
    obtain ⟨cv6, tv6, ev6, h61, _⟩ := w16_see S6
    have hE6 : ∃ a b c, Blk w5.heap wb [pt rb, vp, a, b, c, .bool false] 61 := ⟨_, _, _, h61⟩
    have hk6 := hk.frN (hf02.trans S6.fr)
    refine vA_done (by kernel_rfl) (by (first | exact trivial | assumption | infer_instance | (refine ⟨?_, ?_⟩ <;> (first | assumption | infer_instance)) | (skip; done))) ?_
    (apply blockP_normal; apply seqP_normal; apply vC_region; ((apply vL_val); (case h => ((apply opv_E); exact rfl))); ((apply vL_val); (case h => ((apply opv_add); exact rfl; exact rfl; (first | omega | (simp only [List.length_map]; omega))))); ((apply vL_val); (case h => ((apply opv_E); exact rfl))); apply vL_nil; apply loopP_normal)
    (with_reducible apply end1); (case hs => ((iterate 22 (first | ((with_reducible refine same_updO ?_ ?_); rotate_left; exact rfl) | ((with_reducible refine same_upd ?_ ?_); rotate_left; exact rfl))); (exact same_mask _ _ _))); (case h1 => (exact norm_eq rfl))
    · exact ⟨k + 1, T', rfl, by omega, by omega, hT', I', hN', S6⟩
    · simp [RowKit.intOf]; omega
  · have hc1 : T.1.cs.map C16.cbz = [(cb, c0)] := I.cs
    obtain ⟨d, hd⟩ : ∃ d, T.1.cs = [d] := len1 (by have := congrArg List.length hc1; simpa using this)
    rw [hd] at hc1
    have hdcb : d.cb = cb := by have := List.cons.inj hc1; exact congrArg Prod.fst this.1
    have hd0 : T.1.cs[0]? = some d := by rw [hd]; rfl
    have hcl1 : ([(cb, c0)].map (·.1) : List Nat).length = 1 := rfl
    have hcb : ([(cb, c0)].map (·.1) : List Nat)[(0 : Int).toNat]? = some cb := rfl
    obtain ⟨kb5, S6⟩ := w16_open S5
    obtain ⟨R6, hR6⟩ : ∃ R6, R6 = WA wb rb vp ([(cb, c0)].map (·.1)) tl T.2 false * RwA qb vp (rwI ([c0].map row0) P.length) := ⟨_, rfl⟩
    haveI : Lcl R6 := by rw [hR6]; infer_instance
    rw [← hR6] at S6
    repeat (with_reducible apply vC_seq)
    refine vC_meet1 35046933135360 44 (.bool false) (fun w' => w' = w4) ?_ ?_
    · by_cases g0 : k < picks.length
      · have g1 : ¬ k < 100 := fun h => hlt ⟨g0, h⟩
        (apply vC_region; (iterate 10 (first | ((with_reducible apply vL_val); (case h => ((with_reducible apply opv_E); exact rfl))) | ((with_reducible apply vL_val); (case h => ((with_reducible apply opv_lenc); exact rfl))) | ((with_reducible apply vL_wanted); exact rfl) | (refine vL_and rfl rfl (fun _ => ?_) (fun h => by omega)))); apply vL_nil)
        exact ⟨rfl, by (((iterate 9 (first | ((with_reducible refine same_updO ?_ ?_); rotate_left; exact rfl) | ((with_reducible refine same_upd ?_ ?_); rotate_left; exact rfl)))); exact fun _ _ => rfl), by first | rfl | exact congrArg Value.bool (decide_eq_false (by omega)), rfl⟩
      · (apply vC_region; (iterate 8 (first | ((with_reducible apply vL_val); (case h => ((with_reducible apply opv_E); exact rfl))) | ((with_reducible apply vL_val); (case h => ((with_reducible apply opv_lenc); exact rfl))) | ((with_reducible apply vL_unwanted'); exact rfl; exact rfl) | (refine vL_and rfl rfl (fun h => by omega) (fun _ => ?_)))); apply vL_nil)
        exact ⟨rfl, by (((iterate 9 (first | ((with_reducible refine same_updO ?_ ?_); rotate_left; exact rfl) | ((with_reducible refine same_upd ?_ ?_); rotate_left; exact rfl)))); exact fun _ _ => rfl), by first | rfl | exact congrArg Value.bool (decide_eq_false (by omega)), rfl⟩
    rintro junk7 _ rfl
    (apply seqP_normal; ((apply vC_cond_false); exact rfl); apply vC_exit; apply seqP_exit; apply loopP_exit; apply blockP_exit; apply seqP_normal; apply vC_seq; apply vC_region; (iterate 2 (((apply vL_val); (case h => ((apply opv_E); exact rfl))))); ((apply vL_val); (case h => ((apply opv_fieldAddr); exact rfl))); ((apply vL_val); (case h => ((apply opv_loadb1); exact rfl; exact rfl; assumption; exact rfl))); ((apply vL_val); (case h => ((apply opv_indexAddr); ((conv => lhs; whnf) <;> exact rfl); exact rfl; infer_instance; (first | omega | (simp only [List.length_map]; omega)); (first | omega | (simp only [List.length_map]; omega))))); ((apply vL_val); (case h => ((apply opv_ld_el); exact rfl; exact rfl; infer_instance; assumption; exact rfl))); ((apply vL_val); (case h => ((apply opv_E); exact rfl))); apply vL_nil; apply seqP_normal; apply vC_seq; apply vC_region; ((apply vL_val); (case h => ((apply opv_E); exact rfl))))
    have hbuf : d.buf.length ≤ 64 := by
      obtain ⟨q, hp, _⟩ := pw_open S6
      obtain ⟨c, hc⟩ := hp.cget hd0
      have := (hp.ch 0 c d hc hd0).room
      omega
    have q1 := pw_closed S6 hd0
    have q2 := pw_len S6 hd0
    have q3 := pw_close S6 hd0
    rw [hdcb] at q1 q2 q3
    refine vL_callF rfl (q1) rfl ?_
    rintro _ _ ⟨rfl, rfl⟩
    (((apply vL_val); (case h => ((apply opv_E); exact rfl))))
    refine vL_callF rfl (q2) rfl ?_
    rintro _ _ ⟨rfl, rfl⟩
    ((iterate 2 (((apply vL_val); (case h => ((apply opv_E); exact rfl))))); apply vL_nil; apply seqP_normal; (iterate 2 (apply vC_seq)); apply vC_region; ((apply vL_val); (case h => ((apply opv_E); exact rfl))))
    refine vL_callF rfl (q3) rfl ?_
    rintro _ w6 ⟨rfl, kb6, _, S7⟩
    obtain ⟨d', hd', e1, e2, e3, e4, e5⟩ := close_done hN hd0
    have ht := close_told hd0
    rw [ht]
    have q4 := pw_closed S7 hd'
    rw [e5, hdcb, e1] at q4
    ((((apply vL_val); (case h => ((apply opv_E); exact rfl))); apply vL_nil))
    with_reducible apply seqP_normal
    repeat (with_reducible apply vC_seq)
    refine vC_meet1 150820579546649294012416 76 (.bool false) (fun w' => w' = w6) ?_ ?_
    · generalize d.closed = dc
      cases dc with
      | true =>
        (apply vC_region; (iterate 8 (first | ((with_reducible apply vL_val); (case h => ((with_reducible apply opv_E); exact rfl))) | ((with_reducible apply vL_val); (case h => ((with_reducible apply opv_eql_bool); exact rfl; exact rfl))) | ((with_reducible apply vL_wanted); exact rfl))))
        refine vL_callF rfl (q4) rfl ?_
        rintro _ _ ⟨rfl, rfl⟩
        (((apply vL_wanted); exact rfl); ((apply vL_val); (case h => ((apply opv_not); exact rfl))); ((apply vL_val); (case h => ((apply opv_E); exact rfl))); apply vL_nil)
        exact ⟨rfl, by (((iterate 9 (((refine same_updO ?_ ?_); rotate_left; exact rfl)))); exact fun _ _ => rfl), rfl, rfl⟩
      | false =>
        (apply vC_region; (iterate 8 (first | ((with_reducible apply vL_val); (case h => ((with_reducible apply opv_E); exact rfl))) | ((with_reducible apply vL_val); (case h => ((with_reducible apply opv_eql_bool); exact rfl; exact rfl))) | ((with_reducible apply vL_wanted); exact rfl))))
        refine vL_callF rfl (q4) rfl ?_
        rintro _ _ ⟨rfl, rfl⟩
        (((apply vL_wanted); exact rfl); ((apply vL_val); (case h => ((apply opv_not); exact rfl))); ((apply vL_val); (case h => ((apply opv_E); exact rfl))); apply vL_nil)
        exact ⟨rfl, by (((iterate 9 (((refine same_updO ?_ ?_); rotate_left; exact rfl)))); exact fun _ _ => rfl), rfl, rfl⟩
    rintro junk13 _ rfl
    (apply seqP_normal; ((apply vC_cond_false); exact rfl); apply vC_skip; apply seqP_normal; apply vC_seq; apply vC_region; ((apply vL_val); (case h => ((apply opv_E); exact rfl))))
    have q5 := pw_waits S7 hd'
    rw [e5, hdcb, e2, e3] at q5
    change Rets _ _ _ _ (fun u w' => u = .tuple #[.int .i64 0, .int .i64 0] ∧ _) at q5
    refine vL_callF rfl (q5) rfl ?_
    rintro _ w7 ⟨rfl, S8⟩
    ((iterate 5 (((apply vL_val); (case h => ((apply opv_E); exact rfl))))); apply vL_nil; apply seqP_normal; apply vC_seq; apply vC_region; ((apply vL_val); (case h => ((apply opv_E); exact rfl))))
    have q6 := pw_trysend S8 hd' 1
    rw [e5, hdcb, trySend_closed hd' e1] at q6
    change Rets _ _ _ _ (fun u w' => u = .tuple #[.bool false, .bool true] ∧ _) at q6
    refine vL_callF rfl (q6) rfl ?_
    rintro _ w8 ⟨rfl, kb8, _, S9⟩
    have q7 := pw_len S9 hd'
    rw [e5, hdcb, e4] at q7
    ((iterate 5 (((apply vL_val); (case h => ((apply opv_E); exact rfl))))); apply vL_nil; apply seqP_normal; (iterate 2 (apply vC_seq)); apply vC_region; (iterate 18 (first | ((with_reducible apply vL_val); (case h => ((with_reducible apply opv_E); exact rfl))) | ((with_reducible apply vL_val); (case h => ((with_reducible apply opv_add); exact rfl; exact rfl; (first | omega | (simp only [List.length_map]; omega))))) | ((with_reducible apply vL_val); (case h => ((with_reducible apply opv_not); exact rfl))) | ((with_reducible apply vL_wanted); exact rfl))))
    refine vL_callF rfl (q7) rfl ?_
    rintro _ _ ⟨rfl, rfl⟩
    ((iterate 16 (first | with_reducible apply vC_seq | with_reducible apply vC_region | with_reducible apply seqP_normal | with_reducible apply vC_skip | ((with_reducible apply vL_val); (case h => ((with_reducible apply opv_E); exact rfl))) | with_reducible apply vL_nil | ((with_reducible apply vL_wanted); exact rfl) | (refine vC_cond_dec rfl (fun h => by omega) (fun _ => ?_)))); apply vC_block)
    (apply vC_loop1 2658435709160228094137190173313335360 18 (fun u w' => ∃ (i : Nat) (T' : PS K16) (kb' : List Bx) (dd : C16), u = .int .i64 (i : Int) ∧ i ≤ d.buf.length ∧ T'.cs[0]? = some dd ∧ dd.cb = cb ∧ dd.snd = [] ∧ dd.closed = true ∧ dd.buf = d.buf.drop i ∧ At (PWA (L16 wb) rb none 0 kb' T' * R6) w2 No w') (fun u _ => d.buf.length - (RowKit.intOf u).toNat)); (case h1 => (exact norm_eq rfl))
    case h0 => exact ⟨0, _, _, d', rfl, Nat.zero_le _, hd', by rw [e5, hdcb], e2, e1, by rw [e4]; rfl, S9⟩
    clear S9 S8 S7 S6 S5 q1 q2 q3 q4 q5 q6 q7 hd' e1 e2 e3 e4 e5 h51 h52 h53 h54
    case round =>
    rintro junk18 _ w9 ⟨i, T', kb9, dd, rfl, hi, hdd, f1, f2, f3, f4, S9⟩
    have q8 := pw_tryrecv S9 hdd
    rw [f1, tryRecv_left hdd f2, f3] at q8
    by_cases hil : i < d.buf.length
    · have hne : dd.buf.isEmpty = false := by
        rw [f4]; cases h : d.buf.drop i with
        | nil => have := congrArg List.length h; simp at this; omega
        | cons a b => rfl
      rw [hne] at q8
      change Rets _ _ _ _ (fun u w' => u = .tuple #[.int .i64 (dd.buf.headD 0), .bool true, .bool true] ∧ _) at q8
      ((iterate 2 (apply vC_seq)); apply vC_region; (iterate 3 (((apply vL_val); (case h => ((apply opv_E); exact rfl))))); apply vL_nil; apply seqP_normal; (refine vC_cond_dec rfl (fun _ => ?_) (fun h => by omega)); apply vC_skip; apply seqP_normal; apply vC_seq; apply vC_block; apply vC_seq; apply vC_region; ((apply vL_val); (case h => ((apply opv_E); exact rfl))))
      refine vL_callF rfl (q8) rfl ?_
      rintro _ w10 ⟨rfl, kb10, _, S10⟩
      ((iterate 21 (first | with_reducible apply vC_seq | with_reducible apply vC_region | with_reducible apply seqP_normal | ((with_reducible apply vL_val); (case h => ((with_reducible apply opv_E); exact rfl))) | ((with_reducible apply vL_val); (case h => ((with_reducible apply opv_not); exact rfl))) | with_reducible apply vL_nil | ((with_reducible apply vL_wanted); exact rfl))); ((apply vC_cond_false); exact rfl); apply vC_skip; apply blockP_normal; apply seqP_normal; apply vC_region; ((apply vL_val); (case h => ((apply opv_E); exact rfl))); ((apply vL_val); (case h => ((apply opv_add); exact rfl; exact rfl; (first | omega | (simp only [List.length_map]; omega))))); ((apply vL_val); (case h => ((apply opv_E); exact rfl))); apply vL_nil; apply loopP_normal)
      (with_reducible apply end1); (case hs => ((iterate 21 (((refine same_updO ?_ ?_); rotate_left; exact rfl))); ((refine same_upd ?_ ?_); rotate_left; exact rfl); (exact same_mask _ _ _))); (case h1 => (exact norm_eq rfl))
      · refine ⟨i + 1, _, kb10, { dd with buf := dd.buf.tail, closed := true }, rfl, by omega, ?_, f1, f2, rfl, ?_, S10⟩
        · show (T'.cs.set 0 _)[0]? = _
          rw [List.getElem?_set_self (List.getElem?_eq_some_iff.1 hdd).1]
        · show dd.buf.tail = _
          rw [f4, List.tail_drop]
      · simp [RowKit.intOf]; omega
    · have hne : dd.buf.isEmpty = true := by
        rw [f4, List.drop_eq_nil_of_le (by omega)]; rfl
      rw [hne] at q8
      change Rets _ _ _ _ (fun u w' => u = .tuple #[.int .i64 (dd.buf.headD 0), .bool false, .bool true] ∧ _) at q8
      ((iterate 2 (apply vC_seq)); apply vC_region; (iterate 3 (((apply vL_val); (case h => ((apply opv_E); exact rfl))))); apply vL_nil; apply seqP_normal; (refine vC_cond_dec rfl (fun h => by omega) (fun _ => ?_)); apply vC_exit; apply seqP_exit; apply loopP_exit; apply blockP_exit; apply seqP_normal; apply vC_seq; apply vC_region; ((apply vL_val); (case h => ((apply opv_E); exact rfl))))
      refine vL_callF rfl (q8) rfl ?_
      rintro _ w10 ⟨rfl, kb10, _, S10⟩
      ((iterate 6 (((apply vL_val); (case h => ((apply opv_E); exact rfl))))); apply vL_nil; apply seqP_normal; apply vC_seq; apply vC_region; (iterate 8 (first | ((with_reducible apply vL_val); (case h => ((with_reducible apply opv_E); exact rfl))) | ((with_reducible apply vL_val); (case h => ((with_reducible apply opv_not); exact rfl))) | ((with_reducible apply vL_wanted); exact rfl))))
      refine vL_callF rfl (awake16 _) rfl ?_
      rintro _ w11 ⟨rfl, hf11⟩
      ((iterate 2 (((apply vL_val); (case h => ((apply opv_E); exact rfl))))); apply vL_nil; apply seqP_normal; apply vC_ret)
      (apply ret1; (case h1 => (exact norm_eq rfl)))
      exact ⟨rfl, (hf02.trans S10.fr).trans hf11⟩
end Go.Proofs.YtbaidcnalkdhgaaGreat
set_option maxRecDepth 100000
namespace Go.Proofs.YtbaidcnalkdhgaaGreat
open Go Go.Eng Go.ChangeShapes Go.WideShapes Go.ChangeAt Go.RowKit
theorem own_knob : ownKnob Tryz.prog.godebug = none := by kernel_rfl
theorem laid_out : laidOutB Tryz.prog = true := by kernel_rfl
theorem cells_int : Tryz.prog.cellsOf 3 = 1 := by kernel_rfl
theorem cells_bool : Tryz.prog.cellsOf 4 = 1 := by kernel_rfl
theorem cells_u64 : Tryz.prog.cellsOf 43 = 1 := by kernel_rfl
theorem cells_do : Tryz.prog.cellsOf 167 = 5 := by kernel_rfl
theorem cells_dos : Tryz.prog.cellsOf 168 = 1 := by kernel_rfl
theorem cells_cases : Tryz.prog.cellsOf 165 = 1 := by kernel_rfl
section
variable {H : Type} {enc : TypeId × Value → H} {W : World}
theorem trod_struct5 {P : Program} {base : Nat} {spare : Bool} {held : Nat → Bool} {t : TypeId} {f0 f1 f2 f3 f4 : Field} {fuel : Nat} {cs : List Value} {x : DataW H × List MemPlace} (ht : P.underlying t = some (.struct #[f0, f1, f2, f3, f4])) (h : DataW.trod enc P W base held spare fuel t cs = some x) :
    ∃ y0 y1 y2 y3 y4 n, cs.length = P.cellsOf t ∧ DataW.trod enc P W base held spare n f0.type ((cs.drop f0.offset).take (P.cellsOf f0.type)) = some y0 ∧
      DataW.trod enc P W base held spare n f1.type ((cs.drop f1.offset).take (P.cellsOf f1.type)) = some y1 ∧ DataW.trod enc P W base held spare n f2.type ((cs.drop f2.offset).take (P.cellsOf f2.type)) = some y2 ∧
      DataW.trod enc P W base held spare n f3.type ((cs.drop f3.offset).take (P.cellsOf f3.type)) = some y3 ∧ DataW.trod enc P W base held spare n f4.type ((cs.drop f4.offset).take (P.cellsOf f4.type)) = some y4 := by
  obtain ⟨xs, n, _, rfl, hl, hlen, hf⟩ := DataW.trod_struct ht h
  match xs, hlen with
  | [y0, y1, y2, y3, y4], _ => exact ⟨y0, y1, y2, y3, y4, n, hl, by simpa using hf 0 f0 rfl, by simpa using hf 1 f1 rfl, by simpa using hf 2 f2 rfl, by simpa using hf 3 f3 rfl, by simpa using hf 4 f4 rfl⟩
theorem open_u64s {base : Nat} {v : Value} {d : DataW H} {ps : List MemPlace} (hval : Value.okWide Tryz.prog W .any base 24 v) (h : DataW.Trod enc Tryz.prog W 0 (fun _ => true) true 24 v d ps) :
    ∃ xs : List Int, Rd W.heap 1 uE v xs ∧ (∀ x ∈ xs, 0 ≤ x ∧ x ≤ 18446744073709551615) ∧ ((d = .nil ∧ xs = []) ∨ ∃ es spr, d = .slice es spr ∧ es.length = xs.length) :=
  rd_open Tryz.underlying24 cells_u64 (fun _ => rfl) (fun n cs y hy => by
    obtain ⟨a, rfl, _, hw⟩ := DataW.trod_int Tryz.underlying43 hy
    exact ⟨a, rfl, Go.Eng.wf_u64 hw⟩) hval h
theorem open_ints {base : Nat} {v : Value} {d : DataW H} {ps : List MemPlace} (hval : Value.okWide Tryz.prog W .any base 32 v) (h : DataW.Trod enc Tryz.prog W 0 (fun _ => true) true 32 v d ps) :
    ∃ xs : List Int, Rd W.heap 1 iE v xs ∧ (∀ x ∈ xs, -9223372036854775808 ≤ x ∧ x ≤ 9223372036854775807) ∧ ((d = .nil ∧ xs = []) ∨ ∃ es spr, d = .slice es spr ∧ es.length = xs.length) :=
  rd_open Tryz.underlying32 cells_int (fun _ => rfl) (fun n cs y hy => by
    obtain ⟨a, rfl, _, hw⟩ := DataW.trod_int Tryz.underlying3 hy
    exact ⟨a, rfl, Go.Eng.wf_i64 hw⟩) hval h
theorem open_cases {n : Nat} {cs : List Value} {y : DataW H × List MemPlace} (hy : DataW.trod enc Tryz.prog W 0 (fun _ => true) true n 165 cs = some y) : ∃ v : OV, cs = [v.1] := by
  rcases Deep.open_slice Tryz.underlying165 hy with ⟨h1, h2⟩ | ⟨a, len, cap, m, n, D, Pl, h1, _⟩
  · exact ⟨⟨.slice none 0 0, rfl⟩, h1⟩
  · exact ⟨⟨_, rfl⟩, h1⟩
theorem open_progs {base : Nat} {v : Value} {d : DataW H} {ps : List MemPlace} (hval : Value.okWide Tryz.prog W .any base 51 v) (h : DataW.Trod enc Tryz.prog W 0 (fun _ => true) true 51 v d ps) :
    ∃ P : List (OV × List Do5), Pz16 W.heap v P := by
  obtain ⟨a0, len0, cap0, rfl⟩ := okWide_slice Tryz.underlying51 hval
  obtain ⟨fuel, hf⟩ := h
  obtain ⟨v, P, h1, h2, h3⟩ := Go.Eng.rd_openW (enc' := oE) (wf := fun (y : OV × List Do5) => Rd W.heap 5 do5 y.1.1 y.2) Tryz.underlying51 cells_dos (by decide) (fun _ => rfl) (fun n cs y hy => by
    obtain ⟨u, xs, h1, h2, h3⟩ := Go.Eng.rd_openW (enc' := do5) (wf := fun _ => True) Tryz.underlying168 cells_do (by decide) (fun _ => rfl) (fun n cs y hy => by
      obtain ⟨y0, y1, y2, y3, y4, m, hl, g0, g1, g2, g3, g4⟩ := trod_struct5 Tryz.underlying167 hy
      rw [cells_do] at hl
      match cs, hl with
      | [c0, c1, c2, c3, c4], _ =>
        rw [cells_int] at g0 g1 g2
        rw [cells_cases] at g3
        rw [cells_bool] at g4
        obtain ⟨a, h0, _, w0⟩ := DataW.trod_int Tryz.underlying3 g0
        obtain ⟨b, h1, _, w1⟩ := DataW.trod_int Tryz.underlying3 g1
        obtain ⟨c, h2, _, w2⟩ := DataW.trod_int Tryz.underlying3 g2
        obtain ⟨u, h3⟩ := open_cases g3
        obtain ⟨f, h4, _⟩ := DataW.trod_bool Tryz.underlying4 g4
        simp at h0 h1 h2 h3 h4
        subst h0; subst h1; subst h2; subst h3; subst h4
        exact ⟨⟨a, b, c, u, f⟩, rfl, trivial⟩) hy
    exact ⟨(u, xs), h1, h2⟩) hf
  simp [Value.cells] at h1
  rw [h1]
  exact ⟨P, h2, fun y hy => h3 y hy, v.2⟩
end
end Go.Proofs.YtbaidcnalkdhgaaGreat
