/- Layer 13: slices.DeleteFunc and Drop. -/
import Derived.Test.YtfceebbkjogedaaQc
import Derived.Test.YtfceebbkjogedaaQd
set_option maxRecDepth 100000
namespace Go.Proofs.Ytfceebbkjogedaa
open Go Go.Eng

theorem filter_next {p : Int → Bool} {xs : List Int} {j : Nat} {x : Int} (hx : xs[j]? = some x) : (xs.take (j + 1)).filter p = if p x then (xs.take j).filter p ++ [x] else (xs.take j).filter p := by
  have hj := (List.getElem?_eq_some_iff.1 hx).1
  rw [List.take_succ_eq_append_getElem hj, (List.getElem?_eq_some_iff.1 hx).2, List.filter_append]
  split <;> simp_all

theorem deleteFunc_int (fv v : Value) (p : Int → Bool) (xs : List Int) (w : World) (f : FuncId) [FnOk Try.prog f] (ho : Own w.heap 3 1 iE v xs) (hone : v.oneCell' = true) (hfv : fv = .func (.func f) #[] #[])
    (hf : ∀ x w1, Rets Try.prog f #[.int .i64 x] w1 fun v w2 => v = .bool (p x) ∧ Fr No w1 w2) :
    Rets Try.prog 68 #[v, fv] w fun u w' => Fr (fun k => own v = some k) w w' ∧ Own w'.heap 3 1 iE u (xs.filter fun x => !p x) ∧ own u = own v ∧ u.oneCell' = true := by
  have hs := ho.rd.small
  refine rets_of Try.func68 rfl Try.ntmps68 rfl rfl (by kernel_rfl) ?_
  (apply vC_seq; apply vC_region; ((apply vL_val); (case h => ((apply opv_E); exact rfl))); apply vL_nil; apply seqP_normal; apply vC_seq; apply vC_region; (iterate 2 (((apply vL_val); (case h => ((apply opv_move); ((conv => lhs; whnf) <;> exact rfl)))))))
  refine vL_callF rfl (indexFunc_int fv v p xs w f [] ho.rd hfv (fun x w1 _ => hf x w1)) rfl ?_
  subst hfv
  rintro _ w1 ⟨hf1, ⟨rfl, hno⟩ | ⟨k, rfl, hk, ⟨x0, hx0, hpx0⟩, hp⟩⟩
  · have F1 : From w1 _ := ⟨hf1⟩
    (((apply vL_val); (case h => ((apply opv_E); exact rfl))); apply vL_nil; apply seqP_normal; (iterate 2 (apply vC_seq)); apply vC_region; (iterate 2 (((apply vL_val); (case h => ((apply opv_E); exact rfl))))); apply vL_nil; apply seqP_normal; ((apply vC_cond_true); exact rfl); apply vC_seq; apply vC_region; ((apply vL_val); (case h => ((apply opv_move); ((conv => lhs; whnf) <;> exact rfl)))); ((apply vL_val); (case h => ((apply opv_assign); ((conv => lhs; whnf) <;> exact rfl)))); apply vL_nil; apply seqP_normal; apply vC_ret; apply seqP_ret)
    (apply ret1; (case h1 => (first | exact norm_eq rfl | ((conv => lhs; whnf) <;> exact rfl))))
    refine ⟨hf1.mono (fun k _ h => h.elim), ?_, rfl, hone⟩
    have : xs.filter (fun x => !p x) = xs := by
      rw [List.filter_eq_self]
      intro x hx
      simp [hno x hx]
    rw [this]
    exact ho.frN hf1
  have ho1 := ho.frN hf1
  (((apply vL_val); (case h => ((apply opv_E); exact rfl))); apply vL_nil; apply seqP_normal; (iterate 2 (apply vC_seq)); apply vC_region; (iterate 2 (((apply vL_val); (case h => ((apply opv_E); exact rfl))))); apply vL_nil; apply seqP_normal; ((apply vC_cond_false); exact rfl); apply vC_skip; apply seqP_normal; (iterate 2 (apply vC_seq)); apply vC_region; ((apply vL_val); (case h => ((apply opv_E); exact rfl))); ((apply vL_val); (case h => ((apply opv_add); exact rfl; exact rfl; (first | omega | (simp only [List.length_map]; omega))))); ((apply vL_val); (case h => ((apply opv_E); exact rfl))); apply vL_nil; apply seqP_normal; apply vC_block)
  (apply vC_loop3 68719411424 6 5 7 (fun u v5 _ w' => ∃ (i j : Nat) (cur : List Int), u = .int .i64 (j : Int) ∧ v5 = .int .i64 (i : Int) ∧ i < j ∧ j ≤ xs.length ∧ Own w'.heap 3 1 iE v cur ∧ cur.length = xs.length ∧ cur.take i = (xs.take j).filter (fun x => !p x) ∧ cur.drop j = xs.drop j ∧ Fr (fun k => own v = some k) w w') (fun u _ _ _ => xs.length - (RowKit.intOf u).toNat)); (case h1 => (first | exact norm_eq rfl | ((conv => lhs; whnf) <;> exact rfl))); (case h2 => (first | exact norm_eq rfl | ((conv => lhs; whnf) <;> exact rfl))); (case h3 => (first | exact norm_eq rfl | ((conv => lhs; whnf) <;> exact rfl)))
  case h0 =>
    refine ⟨k, k + 1, xs, rfl, rfl, by omega, by omega, ho1, rfl, ?_, rfl, hf1.mono (fun k _ h => h.elim)⟩
    rw [filter_next hx0]
    simp only [hpx0, Bool.not_true, Bool.false_eq_true, if_false]
    symm
    rw [List.filter_eq_self]
    intro x hx
    obtain ⟨j, hj, rfl⟩ := List.getElem_of_mem hx
    simp at hj
    have := hp j (by omega) (xs[j]'(by omega)) (List.getElem?_eq_getElem _)
    simp [this]
  case round =>
  rintro junk _ _ v7 w2 ⟨i, j, cur, rfl, rfl, hij, hj, ho2, hcl, hct, hcd, hf2⟩
  ((iterate 2 (apply vC_seq)); apply vC_region; ((apply vL_val); (case h => ((apply opv_E); exact rfl))); ((apply vL_val); (case h => ((apply opv_move); ((conv => lhs; whnf) <;> exact rfl)))); ((apply vL_val); (case h => ((apply opv_len); (first | exact norm_eq rfl | ((conv => lhs; whnf) <;> exact rfl)); (first | assumption | infer_instance)))); ((apply vL_val); (case h => ((apply opv_E); exact rfl))); apply vL_nil; apply seqP_normal)
  refine vC_cond_dec rfl (fun hc => ?_) (fun hc => ?_)
  · have hj' : j < xs.length := by omega
    obtain ⟨x, hx⟩ : ∃ x, xs[j]? = some x := ⟨xs[j], by simp [hj']⟩
    have hcx : cur[j]? = some x := by
      have h1 : (cur.drop j)[0]? = (xs.drop j)[0]? := by rw [hcd]
      simpa [hx] using h1
    (apply vC_skip; apply seqP_normal; apply vC_seq; apply vC_block; apply vC_seq; apply vC_region; ((apply vL_val); (case h => ((apply opv_move); ((conv => lhs; whnf) <;> exact rfl)))); ((apply vL_val); (case h => ((apply opv_E); exact rfl))); ((apply vL_val); (case h => ((apply opv_indexAddr); (first | exact norm_eq rfl | ((conv => lhs; whnf) <;> exact rfl)); exact rfl; (first | assumption | infer_instance); (first | omega | (simp only [List.length_map]; omega)); (first | omega | (simp only [List.length_map]; omega))))); ((apply vL_val); (case h => ((apply opv_ld_el); exact rfl; exact rfl; (first | assumption | infer_instance); assumption; exact rfl))); ((apply vL_val); (case h => ((apply opv_E); exact rfl))); apply vL_nil; apply seqP_normal; apply vC_seq; apply vC_region; (iterate 2 (((apply vL_val); (case h => ((apply opv_E); exact rfl))))))
    refine vL_callF rfl (hf x w2) rfl ?_
    rintro _ w3 ⟨rfl, hf3⟩
    have hf23 : Fr (fun k => own v = some k) w w3 := hf2.trans (hf3.mono (fun k _ h => h.elim))
    have ho3 := ho2.frN hf3
    (((apply vL_val); (case h => ((apply opv_not); exact rfl))); apply vL_nil; apply seqP_normal)
    refine vC_cond rfl (fun hpx => ?_) (fun hpx => ?_)
    · (apply vC_seq; apply vC_region; ((apply vL_val); (case h => ((apply opv_move); ((conv => lhs; whnf) <;> exact rfl)))); (iterate 2 (((apply vL_val); (case h => ((apply opv_E); exact rfl))))); ((apply vL_val); (case h => ((apply opv_indexAddr); (first | exact norm_eq rfl | ((conv => lhs; whnf) <;> exact rfl)); exact rfl; (first | assumption | infer_instance); (first | omega | (simp only [List.length_map]; omega)); (first | omega | (simp only [List.length_map]; omega))))))
      refine vL_storeEl (enc := iE) (xs := cur) x rfl rfl rfl ho3 (by omega) ?_
      intro w4 ho4 hf4
      (apply vL_nil; apply seqP_normal; apply vC_region; ((apply vL_val); (case h => ((apply opv_E); exact rfl))); ((apply vL_val); (case h => ((apply opv_add); exact rfl; exact rfl; (first | omega | (simp only [List.length_map]; omega))))); ((apply vL_val); (case h => ((apply opv_E); exact rfl))); apply vL_nil; apply blockP_normal; apply seqP_normal; apply vC_region; ((apply vL_val); (case h => ((apply opv_E); exact rfl))); ((apply vL_val); (case h => ((apply opv_add); exact rfl; exact rfl; (first | omega | (simp only [List.length_map]; omega))))); ((apply vL_val); (case h => ((apply opv_E); exact rfl))); apply vL_nil; apply loopP_normal)
      (with_reducible apply end3); (case hs => ((repeat (first | with_reducible apply same_updN | ((with_reducible refine same_updO ?_ ?_); rotate_left; exact rfl) | ((with_reducible refine same_upd ?_ ?_); rotate_left; exact rfl))); exact same_mask _ _ _)); (case h1 => (first | exact norm_eq rfl | ((conv => lhs; whnf) <;> exact rfl))); (case h2 => (first | exact norm_eq rfl | ((conv => lhs; whnf) <;> exact rfl))); (case h3 => (first | exact norm_eq rfl | ((conv => lhs; whnf) <;> exact rfl)))
      · refine ⟨i + 1, j + 1, cur.set i x, rfl, rfl, by omega, by omega, ho4, by simp [hcl], ?_, ?_, hf23.trans hf4⟩
        · rw [filter_next hx, if_pos (by simpa using hpx), ← hct]
          rw [List.take_succ_eq_append_getElem (by simp; omega)]
          simp [List.take_set_of_le]
        · rw [List.drop_set_of_lt (by omega)]
          rw [← List.drop_drop, ← List.drop_drop, hcd]
      · simp [RowKit.intOf]; omega
    · (apply vC_skip; apply blockP_normal; apply seqP_normal; apply vC_region; ((apply vL_val); (case h => ((apply opv_E); exact rfl))); ((apply vL_val); (case h => ((apply opv_add); exact rfl; exact rfl; (first | omega | (simp only [List.length_map]; omega))))); ((apply vL_val); (case h => ((apply opv_E); exact rfl))); apply vL_nil; apply loopP_normal)
      (with_reducible apply end3); (case hs => ((repeat (first | with_reducible apply same_updN | ((with_reducible refine same_updO ?_ ?_); rotate_left; exact rfl) | ((with_reducible refine same_upd ?_ ?_); rotate_left; exact rfl))); exact same_mask _ _ _)); (case h1 => (first | exact norm_eq rfl | ((conv => lhs; whnf) <;> exact rfl))); (case h2 => (first | exact norm_eq rfl | ((conv => lhs; whnf) <;> exact rfl))); (case h3 => (first | exact norm_eq rfl | ((conv => lhs; whnf) <;> exact rfl)))
      · refine ⟨i, j + 1, cur, rfl, rfl, by omega, by omega, ho3, hcl, ?_, ?_, hf23⟩
        · rw [filter_next hx, if_neg (by simpa using hpx), ← hct]
        · rw [← List.drop_drop, ← List.drop_drop, hcd]
      · simp [RowKit.intOf]; omega
  have ej : j = xs.length := by omega
  subst ej
  rw [List.take_length] at hct
  rcases ho2.shape with ⟨_, rfl⟩ | ⟨g, cap, cs, rfl, hb, hn, hm, hl, ht⟩
  · simp at hcl; omega
  have hm' : cap ≤ 9223372036854775807 := by unfold maxLen at hm; omega
  have hlen : (xs.filter fun x => !p x).length = i := by rw [← hct]; simp; omega
  (apply vC_exit; apply seqP_exit; apply loopP_exit; apply blockP_exit; apply seqP_normal; apply vC_seq; apply vC_region; (iterate 2 (((apply vL_val); (case h => ((apply opv_E); exact rfl))))); ((apply vL_val); (case h => ((apply opv_slice_lo'); exact rfl; exact rfl; (first | omega | (simp only [List.length_map]; omega)); (first | omega | (simp only [List.length_map]; omega))))))
  apply vL_val
  (case h => (refine opw_clear (by (first | exact norm_eq rfl | ((conv => lhs; whnf) <;> exact rfl))) rfl hb ?_; rw [if_neg (by omega)]; omega))
  (apply vL_nil; apply seqP_normal; apply vC_seq; apply vC_region; (iterate 2 (((apply vL_val); (case h => ((apply opv_E); exact rfl))))); ((apply vL_val); (case h => ((apply opv_slice_hi'); exact rfl; exact rfl; (first | omega | (simp only [List.length_map]; omega)); (first | omega | (simp only [List.length_map]; omega))))); ((apply vL_val); (case h => ((apply opv_E); exact rfl))); apply vL_nil; apply seqP_normal; apply vC_ret)
  (apply ret1; (case h1 => (first | exact norm_eq rfl | ((conv => lhs; whnf) <;> exact rfl))))
  refine ⟨hf2.set g _ (.inl rfl), ?_, rfl, rfl⟩
  refine ⟨fun x _ => EncOk.len x, .inr ⟨g, cap, _, ?_, Blk.set hb, ?_, hm, ?_, ?_⟩⟩
  · rw [hlen]; rfl
  · rw [hlen]; omega
  · rw [if_neg (by omega)]; simp only [List.length_append, List.length_take, List.length_drop, List.length_replicate]; omega
  · rw [if_neg (by omega), hlen, List.append_assoc]
    rw [show 0 + (i : Int).toNat * 1 = i by omega]
    rw [List.take_append_of_le_length (by simp; omega), List.take_take, Nat.min_eq_left (by omega), ← hct, flatMap_take cur i ho2.size, ← ht, List.take_take]
    congr 1
    omega
end Go.Proofs.Ytfceebbkjogedaa
