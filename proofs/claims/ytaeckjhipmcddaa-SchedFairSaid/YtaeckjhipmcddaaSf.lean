/- Layer 14: the law SchedGone. -/
import Derived.Test.YtaeckjhipmcddaaSe
set_option maxRecDepth 100000
namespace Go.Proofs.Ytaeckjhipmcddaa
open Go Go.Eng
theorem gone14 (vi : Value) (ids : List Int) (g p : Int) (w : World) (hi : Rd w.heap 1 iE vi ids) (hp : 0 ≤ p ∧ p ≤ 18446744073709551615) :
    Rets Try.prog 5 #[vi, .int .i64 g, .int .u64 p] w fun u w' => u = .bool true ∧ Fr No w w' := by
  have hs' := hi.small
  refine rets_of Try.func5 rfl Try.ntmps5 rfl rfl (by kernel_rfl) ?_
  (apply vC_seq; apply vC_region; ((apply vL_val); (case h => ((apply opv_E); exact rfl))); apply vL_nil; apply seqP_normal; apply vC_seq; apply vC_region)
  refine vL_callF rfl (s_new w) rfl ?_
  rintro _ w1 ⟨sb, b, lv, rfl, q0⟩
  (((apply vL_val); (case h => ((apply opv_E); exact rfl))); apply vL_nil; apply seqP_normal; (iterate 2 (apply vC_seq)); apply vC_region; ((apply vL_val); (case h => ((apply opv_E); exact rfl))); ((apply vL_val); (case h => ((apply opv_eql_pnil); exact rfl; exact rfl; simp))); apply vL_nil; apply seqP_normal; ((apply vC_cond_false); exact rfl); apply vC_skip; apply seqP_normal; (iterate 2 (apply vC_seq)); apply vC_region; ((apply vL_val); (case h => ((apply opv_E); exact rfl))); apply vL_nil; apply seqP_normal; apply vC_block)
  (apply vC_loop1 549747425536 8 (fun u w' => ∃ (k : Nat) (cur : List Int) (lv : Value), u = .int .i64 (k : Int) ∧ k ≤ ids.length ∧ k ≤ 100 ∧ Ss w w' sb b lv cur ∧ cur.length ≤ 256) (fun u _ => ids.length - (RowKit.intOf u).toNat)); (case h1 => (first | exact norm_eq rfl | ((conv => lhs; whnf) <;> exact rfl)))
  case h0 => exact ⟨0, [], lv, rfl, by omega, by omega, q0, by decide⟩
  clear q0
  case round =>
  rintro junk _ w2 ⟨k, cur, lv1, rfl, hk, hk4, q1, hc⟩
  have hi2 := hi.frN q1.fr
  ((iterate 2 (apply vC_seq)); apply vC_region; ((apply vL_val); (case h => ((apply opv_E); exact rfl))); ((apply vL_val); (case h => ((apply opv_move); ((conv => lhs; whnf) <;> exact rfl)))); ((apply vL_val); (case h => ((apply opv_len); (first | exact norm_eq rfl | ((conv => lhs; whnf) <;> exact rfl)); (first | assumption | infer_instance)))); (iterate 2 (((apply vL_val); (case h => ((apply opv_E); exact rfl))))))
  refine vL_and rfl rfl (fun c1 => ?_) (fun c1 => ?_)
  · (((apply vL_val); (case h => ((apply opv_E); exact rfl))); ((apply vL_wanted); exact rfl); (iterate 2 (((apply vL_val); (case h => ((apply opv_E); exact rfl))))); apply vL_nil; apply seqP_normal)
    refine vC_cond_dec rfl (fun c2 => ?_) (fun c2 => ?_)
    · obtain ⟨x, hx⟩ : ∃ q, ids[k]? = some q := ⟨ids[k]'(by omega), List.getElem?_eq_getElem _⟩
      (apply vC_skip; apply seqP_normal; apply vC_seq; apply vC_block; apply vC_region; ((apply vL_val); (case h => ((apply opv_E); exact rfl))); ((apply vL_val); (case h => ((apply opv_move); ((conv => lhs; whnf) <;> exact rfl)))); ((apply vL_val); (case h => ((apply opv_E); exact rfl))); ((apply vL_val); (case h => ((apply opv_indexAddr); (first | exact norm_eq rfl | ((conv => lhs; whnf) <;> exact rfl)); exact rfl; (first | assumption | infer_instance); (first | omega | (simp only [List.length_map]; omega)); (first | omega | (simp only [List.length_map]; omega))))); ((apply vL_val); (case h => ((apply opv_ld_el); exact rfl; exact rfl; (first | assumption | infer_instance); assumption; exact rfl))))
      refine vL_callF rfl (s_ready sb b lv1 cur x _ q1.sc hc) rfl ?_
      rintro _ w3 ⟨rfl, lv2, h⟩
      (apply vL_nil; apply blockP_normal; apply seqP_normal; apply vC_region; ((apply vL_val); (case h => ((apply opv_E); exact rfl))); ((apply vL_val); (case h => ((apply opv_add); exact rfl; exact rfl; (first | omega | (simp only [List.length_map]; omega))))); ((apply vL_val); (case h => ((apply opv_E); exact rfl))); apply vL_nil; apply loopP_normal)
      (with_reducible apply end1); (case hs => (repeat (first | (with_reducible exact same_mask _ _ _) | with_reducible apply same_updN | ((with_reducible refine same_updO ?_ ?_); rotate_left; exact rfl) | ((with_reducible refine same_upd ?_ ?_); rotate_left; exact rfl) | ((with_reducible refine same_maskIn ?_ ?_); rotate_left; exact rfl)))); (case h1 => (first | exact norm_eq rfl | ((conv => lhs; whnf) <;> exact rfl)))
      · exact ⟨k + 1, _, lv2, rfl, by omega, by omega, q1.to h, readyL_len hc⟩
      · simp [RowKit.intOf]; omega
    (apply vC_exit; apply seqP_exit; apply loopP_exit; apply blockP_exit; apply seqP_normal; apply vC_seq; apply vC_region; ((apply vL_val); (case h => ((apply opv_E); exact rfl))))
    refine vL_callF rfl (s_list sb b lv1 cur _ q1.sc hc) rfl ?_
    rintro v9 w3 ⟨hf3, ho3, hfr3, hone3⟩
    have q2 := q1.frN hf3
    (((apply vL_val); (case h => ((apply opv_assign); ((conv => lhs; whnf) <;> exact rfl)))); apply vL_nil; apply seqP_normal; apply vC_seq; apply vC_region; (iterate 2 (((apply vL_val); (case h => ((apply opv_E); exact rfl))))))
    refine vL_callF rfl (s_gone sb b lv1 cur g _ q2.sc hc) rfl ?_
    rintro _ w4 ⟨rfl, lv2, h⟩
    have q3 := q2.to h
    have ho4 : Own w4.heap 3 1 iE v9 cur := ho3.fr h.fr (fun j h6 h => by
      rcases h with rfl | h
      · exact Own.ne_blk ho3 q2.sc.hb (by decide) h6
      · have := q1.sc.ho.lt j h; have := hfr3 j h6; omega)
    clear h
    (((apply vL_val); (case h => ((apply opv_E); exact rfl))); apply vL_nil; apply seqP_normal; apply vC_seq; apply vC_region; ((apply vL_val); (case h => ((apply opv_E); exact rfl))); apply vL_nil; apply seqP_normal; (iterate 2 (apply vC_seq)); apply vC_region; ((apply vL_val); (case h => ((apply opv_move); ((conv => lhs; whnf) <;> exact rfl)))); ((apply vL_val); (case h => ((apply opv_len); (first | exact norm_eq rfl | ((conv => lhs; whnf) <;> exact rfl)); (first | assumption | infer_instance)))); ((apply vL_val); (case h => ((apply opv_E); exact rfl))); apply vL_nil; apply seqP_normal; apply vC_block)
    (apply vC_loop2 288160007407544320 46 11 (fun u v11 w' => ∃ (j : Nat), u = .int .i64 (j : Int) ∧ j ≤ cur.length ∧ Own w'.heap 3 1 iE v11 ((cur.take j).filter fun x => !decide (x = g)) ∧ Fr No w4 w' ∧ (∀ i, own v11 = some i → w4.heap.size ≤ i) ∧ v11.oneCell' = true) (fun u _ _ => cur.length - (RowKit.intOf u).toNat)); (case h1 => (first | exact norm_eq rfl | ((conv => lhs; whnf) <;> exact rfl))); (case h2 => (first | exact norm_eq rfl | ((conv => lhs; whnf) <;> exact rfl)))
    case h0 => exact ⟨0, rfl, by omega, Own.nil _ _ _ _, Fr.refl _ _, fun j hj => (by cases hj), rfl⟩
    case round =>
    rintro junk _ v11 w5 ⟨j, rfl, hj, ho11, hf11, hfr11, hone11⟩
    have ho5 := ho4.frN hf11
    (apply vC_seq; apply vC_region; ((apply vL_val); (case h => ((apply opv_E); exact rfl))); apply vL_nil; apply seqP_normal; apply vC_seq)
    refine vC_cond_dec rfl (fun c3 => ?_) (fun c3 => ?_)
    · obtain ⟨x, hx⟩ : ∃ q, cur[j]? = some q := ⟨cur[j]'(by omega), List.getElem?_eq_getElem _⟩
      have hnext := filter_next (p := fun x => !decide (x = g)) hx
      have hout : ((cur.take j).filter fun x => !decide (x = g)).length ≤ j := by
        have := List.length_filter_le (fun x => !decide (x = g)) (cur.take j)
        simp only [List.length_take] at this
        omega
      generalize (cur.take j).filter (fun x => !decide (x = g)) = out at *
      (apply vC_skip; apply seqP_normal; apply vC_seq; apply vC_block; apply vC_seq; apply vC_region; ((apply vL_val); (case h => ((apply opv_indexAddr); (first | exact norm_eq rfl | ((conv => lhs; whnf) <;> exact rfl)); exact rfl; (first | assumption | infer_instance); (first | omega | (simp only [List.length_map]; omega)); (first | omega | (simp only [List.length_map]; omega))))); ((apply vL_val); (case h => ((apply opv_ld_el); exact rfl; exact rfl; (first | assumption | infer_instance); assumption; exact rfl))); ((apply vL_val); (case h => ((apply opv_E); exact rfl))); apply vL_nil; apply seqP_normal; apply vC_seq; apply vC_region; (iterate 3 (((apply vL_val); (case h => ((apply opv_E); exact rfl))))); apply vL_nil; apply seqP_normal)
      refine vC_cond_dec rfl (fun c4 => ?_) (fun c4 => ?_)
      · rw [if_pos (by simpa using c4)] at hnext
        (apply vC_region; ((apply vL_val); (case h => ((apply opv_move); ((conv => lhs; whnf) <;> exact rfl)))); ((apply vL_val); (case h => ((apply opv_E); exact rfl))); ((apply vL_val); (case h => ((apply opw_buildSl); exact rfl; exact rfl; exact rfl; (first | exact (rfl : _ = some []) | exact (rfl : _ = some [_]) | exact (rfl : _ = some [_, _]) | exact (rfl : _ = some [_, _, _]) | exact (rfl : _ = some [_, _, _, _]) | exact (rfl : _ = some [_, _, _, _, _]) | exact (rfl : _ = some [_, _, _, _, _, _]) | exact (rfl : _ = some [_, _, _, _, _, _, _]) | exact (rfl : _ = some [_, _, _, _, _, _, _, _]) | exact (rfl : _ = some [_, _, _, _, _, _, _, _, _]) | exact (rfl : _ = some [_, _, _, _, _, _, _, _, _, _]) | exact (rfl : _ = some [_, _, _, _, _, _, _, _, _, _, _]) | exact (rfl : _ = some [_, _, _, _, _, _, _, _, _, _, _, _]) | exact (rfl : _ = some [_, _, _, _, _, _, _, _, _, _, _, _, _]) | exact (rfl : _ = some [_, _, _, _, _, _, _, _, _, _, _, _, _, _]) | exact (rfl : _ = some [_, _, _, _, _, _, _, _, _, _, _, _, _, _, _]) | exact (rfl : _ = some [_, _, _, _, _, _, _, _, _, _, _, _, _, _, _, _]))))))
        refine vL_append (enc := iE) (xs := out) (ys := [x]) (by (first | exact norm_eq rfl | ((conv => lhs; whnf) <;> exact rfl))) (by (first | exact norm_eq rfl | ((conv => lhs; whnf) <;> exact rfl))) (Own.alloc ho11) (Rd.new1 _ _ rfl) rfl (by decide) ?_ ?_ ?_
        · simp [maxLen]; omega
        · simp; omega
        intro v' w6 ho6 hf6 hfr6 hone6 _
        have hf46 : Fr No w4 w6 := (hf11.alloc _).trans' hf6 (fun i hi => .inr (hfr11 i hi))
        (((apply vL_val); (case h => ((apply opv_assign); ((conv => lhs; whnf) <;> exact rfl)))); apply vL_nil; apply blockP_normal; apply seqP_normal; apply vC_region; ((apply vL_val); (case h => ((apply opv_add); exact rfl; exact rfl; (first | omega | (simp only [List.length_map]; omega))))); ((apply vL_val); (case h => ((apply opv_E); exact rfl))); apply vL_nil; apply loopP_normal)
        (with_reducible apply end2); (case hs => (repeat (first | (with_reducible exact same_mask _ _ _) | with_reducible apply same_updN | ((with_reducible refine same_updO ?_ ?_); rotate_left; exact rfl) | ((with_reducible refine same_upd ?_ ?_); rotate_left; exact rfl) | ((with_reducible refine same_maskIn ?_ ?_); rotate_left; exact rfl)))); (case h1 => (first | exact norm_eq rfl | ((conv => lhs; whnf) <;> exact rfl))); (case h2 => (first | exact norm_eq rfl | ((conv => lhs; whnf) <;> exact rfl)))
        · refine ⟨j + 1, rfl, by omega, by rw [hnext]; exact ho6, hf46, fun i hi => ?_, hone6⟩
          rcases hfr6 i hi with h | h
          · exact hfr11 i h
          · have := hf11.size; rw [alloc_size] at h; omega
        · simp [RowKit.intOf]; omega
      · rw [if_neg (by simpa using c4)] at hnext
        (apply vC_skip; apply blockP_normal; apply seqP_normal; apply vC_region; ((apply vL_val); (case h => ((apply opv_add); exact rfl; exact rfl; (first | omega | (simp only [List.length_map]; omega))))); ((apply vL_val); (case h => ((apply opv_E); exact rfl))); apply vL_nil; apply loopP_normal)
        (with_reducible apply end2); (case hs => (repeat (first | (with_reducible exact same_mask _ _ _) | with_reducible apply same_updN | ((with_reducible refine same_updO ?_ ?_); rotate_left; exact rfl) | ((with_reducible refine same_upd ?_ ?_); rotate_left; exact rfl) | ((with_reducible refine same_maskIn ?_ ?_); rotate_left; exact rfl)))); (case h1 => (first | exact norm_eq rfl | ((conv => lhs; whnf) <;> exact rfl))); (case h2 => (first | exact norm_eq rfl | ((conv => lhs; whnf) <;> exact rfl)))
        · exact ⟨j + 1, rfl, by omega, by rw [hnext]; exact ho11, hf11, hfr11, hone11⟩
        · simp [RowKit.intOf]; omega
    have ej : j = cur.length := by omega
    subst ej
    rw [List.take_length] at ho11
    have hcf : (cur.filter fun x => !decide (x = g)).length ≤ 256 := Nat.le_trans (List.filter_sublist.length_le) hc
    have q4 := q3.frN hf11
    (apply vC_exit; apply seqP_exit; apply loopP_exit; apply blockP_exit; apply seqP_normal; apply vC_seq; apply vC_region; ((apply vL_val); (case h => ((apply opv_E); exact rfl))))
    generalize (cur.filter fun x => !decide (x = g)) = want at *
    refine vL_callF rfl (s_list sb b lv2 want _ q4.sc hcf) rfl ?_
    rintro v14 w6 ⟨hf6, ho6, hfr6, hone6⟩
    have q5 := q4.frN hf6
    have ho11' := ho11.frN hf6
    have ho9 := ho5.frN hf6
    (((apply vL_val); (case h => ((apply opv_assign); ((conv => lhs; whnf) <;> exact rfl)))); apply vL_nil; apply seqP_normal; (iterate 2 (apply vC_seq)); apply vC_region; ((apply vL_val); (case h => ((apply opv_E); exact rfl))); ((apply vL_val); (case h => ((apply opv_move); ((conv => lhs; whnf) <;> exact rfl)))); ((apply vL_val); (case h => ((apply opv_len); (first | exact norm_eq rfl | ((conv => lhs; whnf) <;> exact rfl)); (first | assumption | infer_instance)))); ((apply vL_val); (case h => ((apply opv_move); ((conv => lhs; whnf) <;> exact rfl)))); ((apply vL_val); (case h => ((apply opv_len); (first | exact norm_eq rfl | ((conv => lhs; whnf) <;> exact rfl)); (first | assumption | infer_instance)))); ((apply vL_val); (case h => ((apply opv_E); exact rfl))); ((apply vL_val); (case h => ((apply opv_neq_bool); exact rfl; exact rfl))); ((apply vL_val); (case h => ((apply opv_E); exact rfl))))
    refine vL_or rfl rfl (fun d => ?_) (fun d => absurd (by simp) d)
    (((apply vL_val); (case h => ((apply opv_move); ((conv => lhs; whnf) <;> exact rfl)))); ((apply vL_wanted); exact rfl); ((apply vL_val); (case h => ((apply opv_len); (first | exact norm_eq rfl | ((conv => lhs; whnf) <;> exact rfl)); (first | assumption | infer_instance)))); ((apply vL_wanted); exact rfl); ((apply vL_val); (case h => ((apply opv_move); ((conv => lhs; whnf) <;> exact rfl)))); ((apply vL_wanted); exact rfl); ((apply vL_val); (case h => ((apply opv_len); (first | exact norm_eq rfl | ((conv => lhs; whnf) <;> exact rfl)); (first | assumption | infer_instance)))); ((apply vL_wanted); exact rfl); (iterate 2 (((apply vL_val); (case h => ((apply opv_E); exact rfl))))); apply vL_nil; apply seqP_normal)
    refine vC_cond_neg rfl (fun d => d rfl) ?_
    (apply vC_skip; apply seqP_normal; (iterate 2 (apply vC_seq)); apply vC_region; ((apply vL_val); (case h => ((apply opv_move); ((conv => lhs; whnf) <;> exact rfl)))); ((apply vL_val); (case h => ((apply opv_len); (first | exact norm_eq rfl | ((conv => lhs; whnf) <;> exact rfl)); (first | assumption | infer_instance)))); ((apply vL_val); (case h => ((apply opv_E); exact rfl))); apply vL_nil; apply seqP_normal; apply vC_block)
    (apply vC_loop1 618894461778964223126175808 76 (fun u w' => ∃ (j : Nat), u = .int .i64 (j : Int) ∧ j ≤ want.length ∧ Fr No w6 w') (fun u _ => want.length - (RowKit.intOf u).toNat)); (case h1 => (first | exact norm_eq rfl | ((conv => lhs; whnf) <;> exact rfl)))
    case h0 => exact ⟨0, rfl, by omega, Fr.refl _ _⟩
    case round =>
    rintro junk _ w7 ⟨j, rfl, hj, hf7⟩
    have ho6' := ho6.frN hf7
    have ho12 := ho11'.frN hf7
    (apply vC_seq; apply vC_region; ((apply vL_val); (case h => ((apply opv_E); exact rfl))); apply vL_nil; apply seqP_normal; apply vC_seq)
    refine vC_cond_dec rfl (fun c5 => ?_) (fun c5 => ?_)
    · obtain ⟨x, hx⟩ : ∃ q, want[j]? = some q := ⟨want[j]'(by omega), List.getElem?_eq_getElem _⟩
      (apply vC_skip; apply seqP_normal; apply vC_seq; apply vC_block; apply vC_seq; apply vC_region; (iterate 2 (((apply vL_val); (case h => ((apply opv_E); exact rfl))))); apply vL_nil; apply seqP_normal; apply vC_seq)
      (with_reducible apply vC_drawQ); (((apply vQ_op); (case hi => exact rfl); (case hf => kernel_rfl); (case hS => (first | exact Dr.refl _ | assumption | exact ⟨_, rfl⟩)); (case hy => (intro j; ((apply opv_move); ((conv => lhs; whnf) <;> exact rfl))))); ((apply vQ_op); (case hi => exact rfl); (case hf => kernel_rfl); (case hS => (first | exact Dr.refl _ | assumption | exact ⟨_, rfl⟩)); (case hy => (intro j; ((apply opv_E); exact rfl)))); ((apply vQ_op); (case hi => exact rfl); (case hf => kernel_rfl); (case hS => (first | exact Dr.refl _ | assumption | exact ⟨_, rfl⟩)); (case hy => (intro j; ((apply opv_indexAddr); (first | exact norm_eq rfl | ((conv => lhs; whnf) <;> exact rfl)); exact rfl; (first | assumption | infer_instance); (first | omega | (simp only [List.length_map]; omega)); (first | omega | (simp only [List.length_map]; omega)))))); ((apply vQ_op); (case hi => exact rfl); (case hf => kernel_rfl); (case hS => (first | exact Dr.refl _ | assumption | exact ⟨_, rfl⟩)); (case hy => (intro j; ((apply opv_ld_el); exact rfl; exact rfl; (first | assumption | infer_instance); assumption; exact rfl)))); ((apply vQ_op); (case hi => exact rfl); (case hf => kernel_rfl); (case hS => (first | exact Dr.refl _ | assumption | exact ⟨_, rfl⟩)); (case hy => (intro j; ((apply opv_move); ((conv => lhs; whnf) <;> exact rfl))))); ((apply vQ_op); (case hi => exact rfl); (case hf => kernel_rfl); (case hS => (first | exact Dr.refl _ | assumption | exact ⟨_, rfl⟩)); (case hy => (intro j; ((apply opv_E); exact rfl)))); ((apply vQ_op); (case hi => exact rfl); (case hf => kernel_rfl); (case hS => (first | exact Dr.refl _ | assumption | exact ⟨_, rfl⟩)); (case hy => (intro j; ((apply opv_indexAddr); (first | exact norm_eq rfl | ((conv => lhs; whnf) <;> exact rfl)); exact rfl; (first | assumption | infer_instance); (first | omega | (simp only [List.length_map]; omega)); (first | omega | (simp only [List.length_map]; omega)))))); ((apply vQ_op); (case hi => exact rfl); (case hf => kernel_rfl); (case hS => (first | exact Dr.refl _ | assumption | exact ⟨_, rfl⟩)); (case hy => (intro j; ((apply opv_ld_el); exact rfl; exact rfl; (first | assumption | infer_instance); assumption; exact rfl)))); ((apply vQ_op); (case hi => exact rfl); (case hf => kernel_rfl); (case hS => (first | exact Dr.refl _ | assumption | exact ⟨_, rfl⟩)); (case hy => (intro j; ((apply opv_E); exact rfl)))); ((apply vQ_end); (case hi => exact rfl); (case hf => kernel_rfl); (case hS => (first | exact Dr.refl _ | assumption | exact ⟨_, rfl⟩))))
      refine vC_cond_neg rfl (fun d => d rfl) ?_
      (apply vC_skip; apply blockP_normal; apply seqP_normal; apply vC_region; ((apply vL_val); (case h => ((apply opv_add); exact rfl; exact rfl; (first | omega | (simp only [List.length_map]; omega))))); ((apply vL_val); (case h => ((apply opv_E); exact rfl))); apply vL_nil; apply loopP_normal)
      (with_reducible apply end1); (case hs => (repeat (first | (with_reducible exact same_mask _ _ _) | with_reducible apply same_updN | ((with_reducible refine same_updO ?_ ?_); rotate_left; exact rfl) | ((with_reducible refine same_upd ?_ ?_); rotate_left; exact rfl) | ((with_reducible refine same_maskIn ?_ ?_); rotate_left; exact rfl)))); (case h1 => (first | exact norm_eq rfl | ((conv => lhs; whnf) <;> exact rfl)))
      · exact ⟨j + 1, rfl, by omega, hf7.drew⟩
      · simp [RowKit.intOf]; omega
    have q6 := q5.frN hf7
    (apply vC_exit; apply seqP_exit; apply loopP_exit; apply blockP_exit; apply seqP_normal; apply vC_seq; apply vC_region; (iterate 2 (((apply vL_val); (case h => ((apply opv_E); exact rfl))))))
    refine vL_callF rfl (s_pick sb b lv2 want p _ q6.sc hcf hp) rfl ?_
    rintro _ w8 (⟨hnil, rfl, rfl⟩ | ⟨x, lv3, hx, rfl, h⟩)
    · ((iterate 7 (((apply vL_val); (case h => ((apply opv_E); exact rfl))))); apply vL_nil; apply seqP_normal; (iterate 2 (apply vC_seq)); apply vC_region; ((apply vL_val); (case h => ((apply opv_move); ((conv => lhs; whnf) <;> exact rfl)))); ((apply vL_val); (case h => ((apply opv_len); (first | exact norm_eq rfl | ((conv => lhs; whnf) <;> exact rfl)); (first | assumption | infer_instance)))); ((apply vL_val); (case h => ((apply opv_E); exact rfl))); apply vL_nil; apply seqP_normal)
      refine vC_cond_pos rfl (by simp [hnil]) ?_
      (apply vC_seq; apply vC_region; ((apply vL_val); (case h => ((apply opv_E); exact rfl))); ((apply vL_val); (case h => ((apply opv_not); exact rfl))); ((apply vL_val); (case h => ((apply opv_E); exact rfl))); ((apply vL_wanted); exact rfl))
      refine vL_callF rfl (awake14 _) rfl ?_
      rintro _ w9 ⟨rfl, hf9⟩
      ((iterate 2 (((apply vL_val); (case h => ((apply opv_E); exact rfl))))); apply vL_nil; apply seqP_normal; apply vC_ret; apply seqP_ret)
      (apply ret1; (case h1 => (first | exact norm_eq rfl | ((conv => lhs; whnf) <;> exact rfl))))
      exact ⟨rfl, q6.fr.trans hf9⟩
    have ho13 : Own w8.heap 3 1 iE v11 want := ho12.fr h.fr (fun j h6 h => by
      rcases h with rfl | h
      · exact Own.ne_blk ho12 q6.sc.hb (by decide) h6
      · have := q3.sc.ho.lt j h; have := hfr11 j h6; omega)
    have q7 := q6.to h
    have hlen := (List.getElem?_eq_some_iff.1 hx).1
    have hwl : (without want (p % want.length)).length = want.length - 1 := by
      have := Int.emod_nonneg p (b := (want.length : Int)) (by omega)
      rw [without, if_neg (by omega)]; simp; omega
    have hm0 := Int.emod_nonneg p (b := (want.length : Int)) (by omega)
    have hm1 := Int.emod_lt_of_pos p (b := (want.length : Int)) (by omega)
    ((iterate 7 (((apply vL_val); (case h => ((apply opv_E); exact rfl))))); apply vL_nil; apply seqP_normal; (iterate 2 (apply vC_seq)); apply vC_region; ((apply vL_val); (case h => ((apply opv_move); ((conv => lhs; whnf) <;> exact rfl)))); ((apply vL_val); (case h => ((apply opv_len); (first | exact norm_eq rfl | ((conv => lhs; whnf) <;> exact rfl)); (first | assumption | infer_instance)))); ((apply vL_val); (case h => ((apply opv_E); exact rfl))); apply vL_nil; apply seqP_normal)
    refine vC_cond_neg rfl (by omega) ?_
    (apply vC_skip; apply seqP_normal; apply vC_seq; apply vC_region; ((apply vL_val); (case h => ((apply opv_move); ((conv => lhs; whnf) <;> exact rfl)))); ((apply vL_val); (case h => ((apply opv_len); (first | exact norm_eq rfl | ((conv => lhs; whnf) <;> exact rfl)); (first | assumption | infer_instance)))); ((apply vL_val); (case h => ((apply opv_conv_u); exact rfl; (first | omega | (simp only [List.length_map]; omega))))); ((apply vL_val); (case h => ((apply opv_E); exact rfl))); apply vL_nil; apply seqP_normal; apply vC_seq; apply vC_region; (iterate 2 (((apply vL_val); (case h => ((apply opv_E); exact rfl))))); ((apply vL_wanted); exact rfl); ((apply vL_val); (case h => ((apply opv_E); exact rfl))); ((apply vL_wanted); exact rfl); ((apply vL_val); (case h => ((apply opv_move); ((conv => lhs; whnf) <;> exact rfl)))); ((apply vL_wanted); exact rfl); ((apply vL_val); (case h => ((apply opv_E); exact rfl))); ((apply vL_wanted); exact rfl); ((apply vL_val); (case h => ((apply opv_E); exact rfl))); ((apply vL_wanted); exact rfl); ((apply vL_val); (case h => ((apply opv_rem); exact rfl; exact rfl; (first | omega | (simp only [List.length_map]; omega)); (first | omega | (simp only [List.length_map]; omega))))); ((apply vL_wanted); exact rfl); ((apply vL_val); (case h => ((apply opv_indexAddr); (first | exact norm_eq rfl | ((conv => lhs; whnf) <;> exact rfl)); exact rfl; (first | assumption | infer_instance); (first | omega | (simp only [List.length_map]; omega)); (first | omega | (simp only [List.length_map]; omega))))); ((apply vL_wanted); exact rfl); ((apply vL_val); (case h => ((apply opv_ld_el); exact rfl; exact rfl; (first | assumption | infer_instance); assumption; exact rfl))); ((apply vL_wanted); exact rfl); (iterate 3 (((apply vL_val); (case h => ((apply opv_E); exact rfl))))))
    refine vL_and rfl rfl (fun d => ?_) (fun d => absurd rfl d)
    (((apply vL_val); (case h => ((apply opv_E); exact rfl))); ((apply vL_wanted); exact rfl); ((apply vL_val); (case h => ((apply opv_E); exact rfl))); ((apply vL_wanted); exact rfl); ((apply vL_val); (case h => ((apply opv_E); exact rfl))); ((apply vL_wanted); exact rfl); ((apply vL_val); (case h => ((apply opv_quou); exact rfl; exact rfl; (first | omega | (simp only [List.length_map]; omega)); (first | omega | (simp only [List.length_map]; omega))))); ((apply vL_wanted); exact rfl); (iterate 3 (((apply vL_val); (case h => ((apply opv_E); exact rfl))))))
    refine vL_and rfl rfl (fun d => ?_) (fun d => absurd rfl d)
    (((apply vL_val); (case h => ((apply opv_E); exact rfl))); ((apply vL_wanted); exact rfl))
    refine vL_callF rfl (s_len sb b lv3 _ _ q7.sc) rfl ?_
    rintro _ _ ⟨rfl, rfl⟩
    (((apply vL_wanted); exact rfl); ((apply vL_val); (case h => ((apply opv_move); ((conv => lhs; whnf) <;> exact rfl)))); ((apply vL_wanted); exact rfl); ((apply vL_val); (case h => ((apply opv_len); (first | exact norm_eq rfl | ((conv => lhs; whnf) <;> exact rfl)); (first | assumption | infer_instance)))); ((apply vL_wanted); exact rfl); ((apply vL_val); (case h => ((apply opv_sub); exact rfl; exact rfl; (first | omega | (simp only [List.length_map]; omega))))); ((apply vL_wanted); exact rfl); (iterate 3 (((apply vL_val); (case h => ((apply opv_E); exact rfl))))))
    refine vL_and rfl rfl (fun d => ?_) (fun d => absurd (by omega) d)
    skip
    refine vL_callF rfl (awake14 _) rfl ?_
    rintro _ w9 ⟨rfl, hf9⟩
    ((iterate 2 (((apply vL_val); (case h => ((apply opv_E); exact rfl))))); apply vL_nil; apply seqP_normal; apply vC_ret)
    (apply ret1; (case h1 => (first | exact norm_eq rfl | ((conv => lhs; whnf) <;> exact rfl))))
    exact ⟨rfl, q7.fr.trans hf9⟩
  (((apply vL_unwanted'); exact rfl; exact rfl); ((apply vL_val); (case h => ((apply opv_E); exact rfl))); apply vL_nil; apply seqP_normal; ((apply vC_cond_false); exact rfl); apply vC_exit; apply seqP_exit; apply loopP_exit; apply blockP_exit; apply seqP_normal; apply vC_seq; apply vC_region; ((apply vL_val); (case h => ((apply opv_E); exact rfl))))
  refine vL_callF rfl (s_list sb b lv1 cur _ q1.sc hc) rfl ?_
  rintro v9 w3 ⟨hf3, ho3, hfr3, hone3⟩
  have q2 := q1.frN hf3
  (((apply vL_val); (case h => ((apply opv_assign); ((conv => lhs; whnf) <;> exact rfl)))); apply vL_nil; apply seqP_normal; apply vC_seq; apply vC_region; (iterate 2 (((apply vL_val); (case h => ((apply opv_E); exact rfl))))))
  refine vL_callF rfl (s_gone sb b lv1 cur g _ q2.sc hc) rfl ?_
  rintro _ w4 ⟨rfl, lv2, h⟩
  have q3 := q2.to h
  have ho4 : Own w4.heap 3 1 iE v9 cur := ho3.fr h.fr (fun j h6 h => by
    rcases h with rfl | h
    · exact Own.ne_blk ho3 q2.sc.hb (by decide) h6
    · have := q1.sc.ho.lt j h; have := hfr3 j h6; omega)
  clear h
  (((apply vL_val); (case h => ((apply opv_E); exact rfl))); apply vL_nil; apply seqP_normal; apply vC_seq; apply vC_region; ((apply vL_val); (case h => ((apply opv_E); exact rfl))); apply vL_nil; apply seqP_normal; (iterate 2 (apply vC_seq)); apply vC_region; ((apply vL_val); (case h => ((apply opv_move); ((conv => lhs; whnf) <;> exact rfl)))); ((apply vL_val); (case h => ((apply opv_len); (first | exact norm_eq rfl | ((conv => lhs; whnf) <;> exact rfl)); (first | assumption | infer_instance)))); ((apply vL_val); (case h => ((apply opv_E); exact rfl))); apply vL_nil; apply seqP_normal; apply vC_block)
  (apply vC_loop2 288160007407544320 46 11 (fun u v11 w' => ∃ (j : Nat), u = .int .i64 (j : Int) ∧ j ≤ cur.length ∧ Own w'.heap 3 1 iE v11 ((cur.take j).filter fun x => !decide (x = g)) ∧ Fr No w4 w' ∧ (∀ i, own v11 = some i → w4.heap.size ≤ i) ∧ v11.oneCell' = true) (fun u _ _ => cur.length - (RowKit.intOf u).toNat)); (case h1 => (first | exact norm_eq rfl | ((conv => lhs; whnf) <;> exact rfl))); (case h2 => (first | exact norm_eq rfl | ((conv => lhs; whnf) <;> exact rfl)))
  case h0 => exact ⟨0, rfl, by omega, Own.nil _ _ _ _, Fr.refl _ _, fun j hj => (by cases hj), rfl⟩
  case round =>
  rintro junk _ v11 w5 ⟨j, rfl, hj, ho11, hf11, hfr11, hone11⟩
  have ho5 := ho4.frN hf11
  (apply vC_seq; apply vC_region; ((apply vL_val); (case h => ((apply opv_E); exact rfl))); apply vL_nil; apply seqP_normal; apply vC_seq)
  refine vC_cond_dec rfl (fun c3 => ?_) (fun c3 => ?_)
  · obtain ⟨x, hx⟩ : ∃ q, cur[j]? = some q := ⟨cur[j]'(by omega), List.getElem?_eq_getElem _⟩
    have hnext := filter_next (p := fun x => !decide (x = g)) hx
    have hout : ((cur.take j).filter fun x => !decide (x = g)).length ≤ j := by
      have := List.length_filter_le (fun x => !decide (x = g)) (cur.take j)
      simp only [List.length_take] at this
      omega
    generalize (cur.take j).filter (fun x => !decide (x = g)) = out at *
    (apply vC_skip; apply seqP_normal; apply vC_seq; apply vC_block; apply vC_seq; apply vC_region; ((apply vL_val); (case h => ((apply opv_indexAddr); (first | exact norm_eq rfl | ((conv => lhs; whnf) <;> exact rfl)); exact rfl; (first | assumption | infer_instance); (first | omega | (simp only [List.length_map]; omega)); (first | omega | (simp only [List.length_map]; omega))))); ((apply vL_val); (case h => ((apply opv_ld_el); exact rfl; exact rfl; (first | assumption | infer_instance); assumption; exact rfl))); ((apply vL_val); (case h => ((apply opv_E); exact rfl))); apply vL_nil; apply seqP_normal; apply vC_seq; apply vC_region; (iterate 3 (((apply vL_val); (case h => ((apply opv_E); exact rfl))))); apply vL_nil; apply seqP_normal)
    refine vC_cond_dec rfl (fun c4 => ?_) (fun c4 => ?_)
    · rw [if_pos (by simpa using c4)] at hnext
      (apply vC_region; ((apply vL_val); (case h => ((apply opv_move); ((conv => lhs; whnf) <;> exact rfl)))); ((apply vL_val); (case h => ((apply opv_E); exact rfl))); ((apply vL_val); (case h => ((apply opw_buildSl); exact rfl; exact rfl; exact rfl; (first | exact (rfl : _ = some []) | exact (rfl : _ = some [_]) | exact (rfl : _ = some [_, _]) | exact (rfl : _ = some [_, _, _]) | exact (rfl : _ = some [_, _, _, _]) | exact (rfl : _ = some [_, _, _, _, _]) | exact (rfl : _ = some [_, _, _, _, _, _]) | exact (rfl : _ = some [_, _, _, _, _, _, _]) | exact (rfl : _ = some [_, _, _, _, _, _, _, _]) | exact (rfl : _ = some [_, _, _, _, _, _, _, _, _]) | exact (rfl : _ = some [_, _, _, _, _, _, _, _, _, _]) | exact (rfl : _ = some [_, _, _, _, _, _, _, _, _, _, _]) | exact (rfl : _ = some [_, _, _, _, _, _, _, _, _, _, _, _]) | exact (rfl : _ = some [_, _, _, _, _, _, _, _, _, _, _, _, _]) | exact (rfl : _ = some [_, _, _, _, _, _, _, _, _, _, _, _, _, _]) | exact (rfl : _ = some [_, _, _, _, _, _, _, _, _, _, _, _, _, _, _]) | exact (rfl : _ = some [_, _, _, _, _, _, _, _, _, _, _, _, _, _, _, _]))))))
      refine vL_append (enc := iE) (xs := out) (ys := [x]) (by (first | exact norm_eq rfl | ((conv => lhs; whnf) <;> exact rfl))) (by (first | exact norm_eq rfl | ((conv => lhs; whnf) <;> exact rfl))) (Own.alloc ho11) (Rd.new1 _ _ rfl) rfl (by decide) ?_ ?_ ?_
      · simp [maxLen]; omega
      · simp; omega
      intro v' w6 ho6 hf6 hfr6 hone6 _
      have hf46 : Fr No w4 w6 := (hf11.alloc _).trans' hf6 (fun i hi => .inr (hfr11 i hi))
      (((apply vL_val); (case h => ((apply opv_assign); ((conv => lhs; whnf) <;> exact rfl)))); apply vL_nil; apply blockP_normal; apply seqP_normal; apply vC_region; ((apply vL_val); (case h => ((apply opv_add); exact rfl; exact rfl; (first | omega | (simp only [List.length_map]; omega))))); ((apply vL_val); (case h => ((apply opv_E); exact rfl))); apply vL_nil; apply loopP_normal)
      (with_reducible apply end2); (case hs => (repeat (first | (with_reducible exact same_mask _ _ _) | with_reducible apply same_updN | ((with_reducible refine same_updO ?_ ?_); rotate_left; exact rfl) | ((with_reducible refine same_upd ?_ ?_); rotate_left; exact rfl) | ((with_reducible refine same_maskIn ?_ ?_); rotate_left; exact rfl)))); (case h1 => (first | exact norm_eq rfl | ((conv => lhs; whnf) <;> exact rfl))); (case h2 => (first | exact norm_eq rfl | ((conv => lhs; whnf) <;> exact rfl)))
      · refine ⟨j + 1, rfl, by omega, by rw [hnext]; exact ho6, hf46, fun i hi => ?_, hone6⟩
        rcases hfr6 i hi with h | h
        · exact hfr11 i h
        · have := hf11.size; rw [alloc_size] at h; omega
      · simp [RowKit.intOf]; omega
    · rw [if_neg (by simpa using c4)] at hnext
      (apply vC_skip; apply blockP_normal; apply seqP_normal; apply vC_region; ((apply vL_val); (case h => ((apply opv_add); exact rfl; exact rfl; (first | omega | (simp only [List.length_map]; omega))))); ((apply vL_val); (case h => ((apply opv_E); exact rfl))); apply vL_nil; apply loopP_normal)
      (with_reducible apply end2); (case hs => (repeat (first | (with_reducible exact same_mask _ _ _) | with_reducible apply same_updN | ((with_reducible refine same_updO ?_ ?_); rotate_left; exact rfl) | ((with_reducible refine same_upd ?_ ?_); rotate_left; exact rfl) | ((with_reducible refine same_maskIn ?_ ?_); rotate_left; exact rfl)))); (case h1 => (first | exact norm_eq rfl | ((conv => lhs; whnf) <;> exact rfl))); (case h2 => (first | exact norm_eq rfl | ((conv => lhs; whnf) <;> exact rfl)))
      · exact ⟨j + 1, rfl, by omega, by rw [hnext]; exact ho11, hf11, hfr11, hone11⟩
      · simp [RowKit.intOf]; omega
  have ej : j = cur.length := by omega
  subst ej
  rw [List.take_length] at ho11
  have hcf : (cur.filter fun x => !decide (x = g)).length ≤ 256 := Nat.le_trans (List.filter_sublist.length_le) hc
  have q4 := q3.frN hf11
  (apply vC_exit; apply seqP_exit; apply loopP_exit; apply blockP_exit; apply seqP_normal; apply vC_seq; apply vC_region; ((apply vL_val); (case h => ((apply opv_E); exact rfl))))
  generalize (cur.filter fun x => !decide (x = g)) = want at *
  refine vL_callF rfl (s_list sb b lv2 want _ q4.sc hcf) rfl ?_
  rintro v14 w6 ⟨hf6, ho6, hfr6, hone6⟩
  have q5 := q4.frN hf6
  have ho11' := ho11.frN hf6
  have ho9 := ho5.frN hf6
  (((apply vL_val); (case h => ((apply opv_assign); ((conv => lhs; whnf) <;> exact rfl)))); apply vL_nil; apply seqP_normal; (iterate 2 (apply vC_seq)); apply vC_region; ((apply vL_val); (case h => ((apply opv_E); exact rfl))); ((apply vL_val); (case h => ((apply opv_move); ((conv => lhs; whnf) <;> exact rfl)))); ((apply vL_val); (case h => ((apply opv_len); (first | exact norm_eq rfl | ((conv => lhs; whnf) <;> exact rfl)); (first | assumption | infer_instance)))); ((apply vL_val); (case h => ((apply opv_move); ((conv => lhs; whnf) <;> exact rfl)))); ((apply vL_val); (case h => ((apply opv_len); (first | exact norm_eq rfl | ((conv => lhs; whnf) <;> exact rfl)); (first | assumption | infer_instance)))); ((apply vL_val); (case h => ((apply opv_E); exact rfl))); ((apply vL_val); (case h => ((apply opv_neq_bool); exact rfl; exact rfl))); ((apply vL_val); (case h => ((apply opv_E); exact rfl))))
  refine vL_or rfl rfl (fun d => ?_) (fun d => absurd (by simp) d)
  (((apply vL_val); (case h => ((apply opv_move); ((conv => lhs; whnf) <;> exact rfl)))); ((apply vL_wanted); exact rfl); ((apply vL_val); (case h => ((apply opv_len); (first | exact norm_eq rfl | ((conv => lhs; whnf) <;> exact rfl)); (first | assumption | infer_instance)))); ((apply vL_wanted); exact rfl); ((apply vL_val); (case h => ((apply opv_move); ((conv => lhs; whnf) <;> exact rfl)))); ((apply vL_wanted); exact rfl); ((apply vL_val); (case h => ((apply opv_len); (first | exact norm_eq rfl | ((conv => lhs; whnf) <;> exact rfl)); (first | assumption | infer_instance)))); ((apply vL_wanted); exact rfl); (iterate 2 (((apply vL_val); (case h => ((apply opv_E); exact rfl))))); apply vL_nil; apply seqP_normal)
  refine vC_cond_neg rfl (fun d => d rfl) ?_
  (apply vC_skip; apply seqP_normal; (iterate 2 (apply vC_seq)); apply vC_region; ((apply vL_val); (case h => ((apply opv_move); ((conv => lhs; whnf) <;> exact rfl)))); ((apply vL_val); (case h => ((apply opv_len); (first | exact norm_eq rfl | ((conv => lhs; whnf) <;> exact rfl)); (first | assumption | infer_instance)))); ((apply vL_val); (case h => ((apply opv_E); exact rfl))); apply vL_nil; apply seqP_normal; apply vC_block)
  (apply vC_loop1 618894461778964223126175808 76 (fun u w' => ∃ (j : Nat), u = .int .i64 (j : Int) ∧ j ≤ want.length ∧ Fr No w6 w') (fun u _ => want.length - (RowKit.intOf u).toNat)); (case h1 => (first | exact norm_eq rfl | ((conv => lhs; whnf) <;> exact rfl)))
  case h0 => exact ⟨0, rfl, by omega, Fr.refl _ _⟩
  case round =>
  rintro junk _ w7 ⟨j, rfl, hj, hf7⟩
  have ho6' := ho6.frN hf7
  have ho12 := ho11'.frN hf7
  (apply vC_seq; apply vC_region; ((apply vL_val); (case h => ((apply opv_E); exact rfl))); apply vL_nil; apply seqP_normal; apply vC_seq)
  refine vC_cond_dec rfl (fun c5 => ?_) (fun c5 => ?_)
  · obtain ⟨x, hx⟩ : ∃ q, want[j]? = some q := ⟨want[j]'(by omega), List.getElem?_eq_getElem _⟩
    (apply vC_skip; apply seqP_normal; apply vC_seq; apply vC_block; apply vC_seq; apply vC_region; (iterate 2 (((apply vL_val); (case h => ((apply opv_E); exact rfl))))); apply vL_nil; apply seqP_normal; apply vC_seq)
    (with_reducible apply vC_drawQ); (((apply vQ_op); (case hi => exact rfl); (case hf => kernel_rfl); (case hS => (first | exact Dr.refl _ | assumption | exact ⟨_, rfl⟩)); (case hy => (intro j; ((apply opv_move); ((conv => lhs; whnf) <;> exact rfl))))); ((apply vQ_op); (case hi => exact rfl); (case hf => kernel_rfl); (case hS => (first | exact Dr.refl _ | assumption | exact ⟨_, rfl⟩)); (case hy => (intro j; ((apply opv_E); exact rfl)))); ((apply vQ_op); (case hi => exact rfl); (case hf => kernel_rfl); (case hS => (first | exact Dr.refl _ | assumption | exact ⟨_, rfl⟩)); (case hy => (intro j; ((apply opv_indexAddr); (first | exact norm_eq rfl | ((conv => lhs; whnf) <;> exact rfl)); exact rfl; (first | assumption | infer_instance); (first | omega | (simp only [List.length_map]; omega)); (first | omega | (simp only [List.length_map]; omega)))))); ((apply vQ_op); (case hi => exact rfl); (case hf => kernel_rfl); (case hS => (first | exact Dr.refl _ | assumption | exact ⟨_, rfl⟩)); (case hy => (intro j; ((apply opv_ld_el); exact rfl; exact rfl; (first | assumption | infer_instance); assumption; exact rfl)))); ((apply vQ_op); (case hi => exact rfl); (case hf => kernel_rfl); (case hS => (first | exact Dr.refl _ | assumption | exact ⟨_, rfl⟩)); (case hy => (intro j; ((apply opv_move); ((conv => lhs; whnf) <;> exact rfl))))); ((apply vQ_op); (case hi => exact rfl); (case hf => kernel_rfl); (case hS => (first | exact Dr.refl _ | assumption | exact ⟨_, rfl⟩)); (case hy => (intro j; ((apply opv_E); exact rfl)))); ((apply vQ_op); (case hi => exact rfl); (case hf => kernel_rfl); (case hS => (first | exact Dr.refl _ | assumption | exact ⟨_, rfl⟩)); (case hy => (intro j; ((apply opv_indexAddr); (first | exact norm_eq rfl | ((conv => lhs; whnf) <;> exact rfl)); exact rfl; (first | assumption | infer_instance); (first | omega | (simp only [List.length_map]; omega)); (first | omega | (simp only [List.length_map]; omega)))))); ((apply vQ_op); (case hi => exact rfl); (case hf => kernel_rfl); (case hS => (first | exact Dr.refl _ | assumption | exact ⟨_, rfl⟩)); (case hy => (intro j; ((apply opv_ld_el); exact rfl; exact rfl; (first | assumption | infer_instance); assumption; exact rfl)))); ((apply vQ_op); (case hi => exact rfl); (case hf => kernel_rfl); (case hS => (first | exact Dr.refl _ | assumption | exact ⟨_, rfl⟩)); (case hy => (intro j; ((apply opv_E); exact rfl)))); ((apply vQ_end); (case hi => exact rfl); (case hf => kernel_rfl); (case hS => (first | exact Dr.refl _ | assumption | exact ⟨_, rfl⟩))))
    refine vC_cond_neg rfl (fun d => d rfl) ?_
    (apply vC_skip; apply blockP_normal; apply seqP_normal; apply vC_region; ((apply vL_val); (case h => ((apply opv_add); exact rfl; exact rfl; (first | omega | (simp only [List.length_map]; omega))))); ((apply vL_val); (case h => ((apply opv_E); exact rfl))); apply vL_nil; apply loopP_normal)
    (with_reducible apply end1); (case hs => (repeat (first | (with_reducible exact same_mask _ _ _) | with_reducible apply same_updN | ((with_reducible refine same_updO ?_ ?_); rotate_left; exact rfl) | ((with_reducible refine same_upd ?_ ?_); rotate_left; exact rfl) | ((with_reducible refine same_maskIn ?_ ?_); rotate_left; exact rfl)))); (case h1 => (first | exact norm_eq rfl | ((conv => lhs; whnf) <;> exact rfl)))
    · exact ⟨j + 1, rfl, by omega, hf7.drew⟩
    · simp [RowKit.intOf]; omega
  have q6 := q5.frN hf7
  (apply vC_exit; apply seqP_exit; apply loopP_exit; apply blockP_exit; apply seqP_normal; apply vC_seq; apply vC_region; (iterate 2 (((apply vL_val); (case h => ((apply opv_E); exact rfl))))))
  refine vL_callF rfl (s_pick sb b lv2 want p _ q6.sc hcf hp) rfl ?_
  rintro _ w8 (⟨hnil, rfl, rfl⟩ | ⟨x, lv3, hx, rfl, h⟩)
  · ((iterate 7 (((apply vL_val); (case h => ((apply opv_E); exact rfl))))); apply vL_nil; apply seqP_normal; (iterate 2 (apply vC_seq)); apply vC_region; ((apply vL_val); (case h => ((apply opv_move); ((conv => lhs; whnf) <;> exact rfl)))); ((apply vL_val); (case h => ((apply opv_len); (first | exact norm_eq rfl | ((conv => lhs; whnf) <;> exact rfl)); (first | assumption | infer_instance)))); ((apply vL_val); (case h => ((apply opv_E); exact rfl))); apply vL_nil; apply seqP_normal)
    refine vC_cond_pos rfl (by simp [hnil]) ?_
    (apply vC_seq; apply vC_region; ((apply vL_val); (case h => ((apply opv_E); exact rfl))); ((apply vL_val); (case h => ((apply opv_not); exact rfl))); ((apply vL_val); (case h => ((apply opv_E); exact rfl))); ((apply vL_wanted); exact rfl))
    refine vL_callF rfl (awake14 _) rfl ?_
    rintro _ w9 ⟨rfl, hf9⟩
    ((iterate 2 (((apply vL_val); (case h => ((apply opv_E); exact rfl))))); apply vL_nil; apply seqP_normal; apply vC_ret; apply seqP_ret)
    (apply ret1; (case h1 => (first | exact norm_eq rfl | ((conv => lhs; whnf) <;> exact rfl))))
    exact ⟨rfl, q6.fr.trans hf9⟩
  have ho13 : Own w8.heap 3 1 iE v11 want := ho12.fr h.fr (fun j h6 h => by
    rcases h with rfl | h
    · exact Own.ne_blk ho12 q6.sc.hb (by decide) h6
    · have := q3.sc.ho.lt j h; have := hfr11 j h6; omega)
  have q7 := q6.to h
  have hlen := (List.getElem?_eq_some_iff.1 hx).1
  have hwl : (without want (p % want.length)).length = want.length - 1 := by
    have := Int.emod_nonneg p (b := (want.length : Int)) (by omega)
    rw [without, if_neg (by omega)]; simp; omega
  have hm0 := Int.emod_nonneg p (b := (want.length : Int)) (by omega)
  have hm1 := Int.emod_lt_of_pos p (b := (want.length : Int)) (by omega)
  ((iterate 7 (((apply vL_val); (case h => ((apply opv_E); exact rfl))))); apply vL_nil; apply seqP_normal; (iterate 2 (apply vC_seq)); apply vC_region; ((apply vL_val); (case h => ((apply opv_move); ((conv => lhs; whnf) <;> exact rfl)))); ((apply vL_val); (case h => ((apply opv_len); (first | exact norm_eq rfl | ((conv => lhs; whnf) <;> exact rfl)); (first | assumption | infer_instance)))); ((apply vL_val); (case h => ((apply opv_E); exact rfl))); apply vL_nil; apply seqP_normal)
  refine vC_cond_neg rfl (by omega) ?_
  (apply vC_skip; apply seqP_normal; apply vC_seq; apply vC_region; ((apply vL_val); (case h => ((apply opv_move); ((conv => lhs; whnf) <;> exact rfl)))); ((apply vL_val); (case h => ((apply opv_len); (first | exact norm_eq rfl | ((conv => lhs; whnf) <;> exact rfl)); (first | assumption | infer_instance)))); ((apply vL_val); (case h => ((apply opv_conv_u); exact rfl; (first | omega | (simp only [List.length_map]; omega))))); ((apply vL_val); (case h => ((apply opv_E); exact rfl))); apply vL_nil; apply seqP_normal; apply vC_seq; apply vC_region; (iterate 2 (((apply vL_val); (case h => ((apply opv_E); exact rfl))))); ((apply vL_wanted); exact rfl); ((apply vL_val); (case h => ((apply opv_E); exact rfl))); ((apply vL_wanted); exact rfl); ((apply vL_val); (case h => ((apply opv_move); ((conv => lhs; whnf) <;> exact rfl)))); ((apply vL_wanted); exact rfl); ((apply vL_val); (case h => ((apply opv_E); exact rfl))); ((apply vL_wanted); exact rfl); ((apply vL_val); (case h => ((apply opv_E); exact rfl))); ((apply vL_wanted); exact rfl); ((apply vL_val); (case h => ((apply opv_rem); exact rfl; exact rfl; (first | omega | (simp only [List.length_map]; omega)); (first | omega | (simp only [List.length_map]; omega))))); ((apply vL_wanted); exact rfl); ((apply vL_val); (case h => ((apply opv_indexAddr); (first | exact norm_eq rfl | ((conv => lhs; whnf) <;> exact rfl)); exact rfl; (first | assumption | infer_instance); (first | omega | (simp only [List.length_map]; omega)); (first | omega | (simp only [List.length_map]; omega))))); ((apply vL_wanted); exact rfl); ((apply vL_val); (case h => ((apply opv_ld_el); exact rfl; exact rfl; (first | assumption | infer_instance); assumption; exact rfl))); ((apply vL_wanted); exact rfl); (iterate 3 (((apply vL_val); (case h => ((apply opv_E); exact rfl))))))
  refine vL_and rfl rfl (fun d => ?_) (fun d => absurd rfl d)
  (((apply vL_val); (case h => ((apply opv_E); exact rfl))); ((apply vL_wanted); exact rfl); ((apply vL_val); (case h => ((apply opv_E); exact rfl))); ((apply vL_wanted); exact rfl); ((apply vL_val); (case h => ((apply opv_E); exact rfl))); ((apply vL_wanted); exact rfl); ((apply vL_val); (case h => ((apply opv_quou); exact rfl; exact rfl; (first | omega | (simp only [List.length_map]; omega)); (first | omega | (simp only [List.length_map]; omega))))); ((apply vL_wanted); exact rfl); (iterate 3 (((apply vL_val); (case h => ((apply opv_E); exact rfl))))))
  refine vL_and rfl rfl (fun d => ?_) (fun d => absurd rfl d)
  (((apply vL_val); (case h => ((apply opv_E); exact rfl))); ((apply vL_wanted); exact rfl))
  refine vL_callF rfl (s_len sb b lv3 _ _ q7.sc) rfl ?_
  rintro _ _ ⟨rfl, rfl⟩
  (((apply vL_wanted); exact rfl); ((apply vL_val); (case h => ((apply opv_move); ((conv => lhs; whnf) <;> exact rfl)))); ((apply vL_wanted); exact rfl); ((apply vL_val); (case h => ((apply opv_len); (first | exact norm_eq rfl | ((conv => lhs; whnf) <;> exact rfl)); (first | assumption | infer_instance)))); ((apply vL_wanted); exact rfl); ((apply vL_val); (case h => ((apply opv_sub); exact rfl; exact rfl; (first | omega | (simp only [List.length_map]; omega))))); ((apply vL_wanted); exact rfl); (iterate 3 (((apply vL_val); (case h => ((apply opv_E); exact rfl))))))
  refine vL_and rfl rfl (fun d => ?_) (fun d => absurd (by omega) d)
  skip
  refine vL_callF rfl (awake14 _) rfl ?_
  rintro _ w9 ⟨rfl, hf9⟩
  ((iterate 2 (((apply vL_val); (case h => ((apply opv_E); exact rfl))))); apply vL_nil; apply seqP_normal; apply vC_ret)
  (apply ret1; (case h1 => (first | exact norm_eq rfl | ((conv => lhs; whnf) <;> exact rfl))))
  exact ⟨rfl, q7.fr.trans hf9⟩
end Go.Proofs.Ytaeckjhipmcddaa
