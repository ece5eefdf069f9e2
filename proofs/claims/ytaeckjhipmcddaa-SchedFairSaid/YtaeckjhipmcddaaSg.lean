/- Layer 14: the law SchedFair. -/
import Derived.Test.YtaeckjhipmcddaaSf
import Derived.Test.YtaeckjhipmcddaaEm
set_option maxRecDepth 100000
namespace Go.Proofs.Ytaeckjhipmcddaa
open Go Go.Eng
theorem erase_at {xs : List Int} {k : Nat} {y : Int} (hn : xs.Nodup) (h : xs[k]? = some y) : without xs k = xs.erase y := by
  have e := split_at h
  rw [without, if_neg (by omega)]
  simp only [Int.toNat_natCast]
  have hn' := hn
  rw [e, List.nodup_append, List.nodup_cons] at hn'
  conv => rhs; rw [e]
  rw [List.erase_append_right _ (fun hm => hn'.2.2 y hm y (by simp) rfl), List.erase_cons_head]
theorem ready_cases {cur : List Int} (x : Int) (h : cur.length < 256) : (x < 0 ∧ readyE cur x = 2 ∧ readyL cur x = cur) ∨ (0 ≤ x ∧ x ∈ cur ∧ readyE cur x = 151 ∧ readyL cur x = cur) ∨ (0 ≤ x ∧ x ∉ cur ∧ readyE cur x = 0 ∧ readyL cur x = cur ++ [x]) := by
  unfold readyE readyL
  by_cases h0 : x < 0
  · exact .inl ⟨h0, by rw [if_pos h0], by rw [if_pos h0]⟩
  · by_cases h1 : x ∈ cur
    · exact .inr (.inl ⟨by omega, h1, by rw [if_neg h0, if_pos h1], by rw [if_neg h0, if_pos h1]⟩)
    · exact .inr (.inr ⟨by omega, h1, by rw [if_neg h0, if_neg h1, if_neg (by omega)], by rw [if_neg h0, if_neg h1, if_neg (by omega)]⟩)

theorem Ss.map {w0 w w' : World} {sb b r : Nat} {lv : Value} {xs : List Int} {M : List (Int × Bool)} (q : Ss w0 w sb b lv xs) (hf : Fr (fun i => i = r) w w') (hr : w0.heap.size ≤ r) (hm : Mp w.heap r ikE Value.bool M) : Ss w0 w' sb b lv xs :=
  ⟨q.fr.trans' hf (fun i hi => .inr (hi ▸ hr)), ⟨q.sc.hs.fr hf (hm.ne_blk q.sc.hs), q.sc.hb.fr hf (hm.ne_blk q.sc.hb), q.sc.ho.fr hf (fun j hj h => hm.ne_own q.sc.ho (h ▸ hj)), q.sc.one⟩, q.fs, q.fb, q.fl⟩

theorem fair14 (vi vp va : Value) (ids picks : List Int) (again : List Bool) (w : World) (hi : Rd w.heap 1 iE vi ids) (hp : Rd w.heap 1 uE vp picks) (ha : Rd w.heap 1 bE va again) (hw : ∀ x ∈ picks, 0 ≤ x ∧ x ≤ 18446744073709551615) :
    Rets Try.prog 4 #[vi, vp, va] w fun u w' => u = .bool true ∧ Fr No w w' := by
  have hs1 := hi.small
  have hs2 := hp.small
  have hs3 := ha.small
  refine rets_of Try.func4 rfl Try.ntmps4 rfl rfl (by kernel_rfl) ?_
  (apply vC_seq; apply vC_region; ((apply vL_val); (case h => ((apply opv_E); exact rfl))); apply vL_nil; apply seqP_normal; apply vC_seq; apply vC_region)
  refine vL_callF rfl (s_new w) rfl ?_
  rintro _ w1 ⟨sb, b, lv, rfl, q0⟩
  (((apply vL_val); (case h => ((apply opv_E); exact rfl))); apply vL_nil; apply seqP_normal; (iterate 2 (apply vC_seq)); apply vC_region; ((apply vL_val); (case h => ((apply opv_E); exact rfl))); ((apply vL_val); (case h => ((apply opv_eql_pnil); exact rfl; exact rfl; simp))); apply vL_nil; apply seqP_normal; ((apply vC_cond_false); exact rfl); apply vC_skip; apply seqP_normal; apply vC_seq; apply vC_region)
  apply vL_val
  (case h => exact opw_makeMap)
  have hm0 : Mp (w1.alloc (.map #[] 0)).heap w1.heap.size ikE Value.bool [] := Mp.new ikE Value.bool
  have hr0 : w.heap.size ≤ w1.heap.size := q0.fr.size
  have q1 := q0.frN ((Fr.refl No w1).alloc (.map #[] 0))
  generalize w1.heap.size = r at *
  (((apply vL_val); (case h => ((apply opv_assign); ((conv => lhs; whnf) <;> exact rfl)))); apply vL_nil; apply seqP_normal; (iterate 2 (apply vC_seq)); apply vC_region; ((apply vL_val); (case h => ((apply opv_E); exact rfl))); apply vL_nil; apply seqP_normal; apply vC_block)
  (apply vC_loop1 147573952589659637312 9 (fun u w' => ∃ (k : Nat) (cur : List Int) (lv : Value) (M : List (Int × Bool)), u = .int .i64 (k : Int) ∧ k ≤ ids.length ∧ k ≤ 100 ∧ Ss w w' sb b lv cur ∧ cur.length ≤ k ∧ Mp w'.heap r ikE Value.bool M ∧ MSet M cur ∧ ∀ x ∈ cur, 0 ≤ x) (fun u _ => ids.length - (RowKit.intOf u).toNat)); (case h1 => (first | exact norm_eq rfl | ((conv => lhs; whnf) <;> exact rfl)))
  case h0 => exact ⟨0, [], lv, [], rfl, by omega, by omega, q1, by decide, hm0, MSet.nil, by simp⟩
  clear q0 q1 hm0
  case round =>
  rintro junk _ w2 ⟨k, cur, lv1, M, rfl, hk, hk4, q1, hc, hm, ms, hnn⟩
  have hi2 := hi.frN q1.fr
  ((iterate 2 (apply vC_seq)); apply vC_region; ((apply vL_val); (case h => ((apply opv_E); exact rfl))); ((apply vL_val); (case h => ((apply opv_move); ((conv => lhs; whnf) <;> exact rfl)))); ((apply vL_val); (case h => ((apply opv_len); (first | exact norm_eq rfl | ((conv => lhs; whnf) <;> exact rfl)); (first | assumption | infer_instance)))); (iterate 2 (((apply vL_val); (case h => ((apply opv_E); exact rfl))))))
  refine vL_and rfl rfl (fun c1 => ?_) (fun c1 => ?_)
  · (((apply vL_val); (case h => ((apply opv_E); exact rfl))); ((apply vL_wanted); exact rfl); (iterate 2 (((apply vL_val); (case h => ((apply opv_E); exact rfl))))); apply vL_nil; apply seqP_normal)
    refine vC_cond_dec rfl (fun c2 => ?_) (fun c2 => ?_)
    · obtain ⟨x, hx⟩ : ∃ q, ids[k]? = some q := ⟨ids[k]'(by omega), List.getElem?_eq_getElem _⟩
      (apply vC_skip; apply seqP_normal; apply vC_seq; apply vC_block; (iterate 2 (apply vC_seq)); apply vC_region; ((apply vL_val); (case h => ((apply opv_E); exact rfl))); ((apply vL_val); (case h => ((apply opv_move); ((conv => lhs; whnf) <;> exact rfl)))); ((apply vL_val); (case h => ((apply opv_E); exact rfl))); ((apply vL_val); (case h => ((apply opv_indexAddr); (first | exact norm_eq rfl | ((conv => lhs; whnf) <;> exact rfl)); exact rfl; (first | assumption | infer_instance); (first | omega | (simp only [List.length_map]; omega)); (first | omega | (simp only [List.length_map]; omega))))); ((apply vL_val); (case h => ((apply opv_ld_el); exact rfl; exact rfl; (first | assumption | infer_instance); assumption; exact rfl))))
      refine vL_callF rfl (s_ready sb b lv1 cur x _ q1.sc (by omega)) rfl ?_
      rintro _ w3 ⟨rfl, lv2, h⟩
      have q2 := q1.to h
      have hm3 := hm.fr h.fr (fun hb => by
        rcases hb with hb | hb
        · exact hm.ne_blk q1.sc.hb hb.symm
        · exact hm.ne_own q1.sc.ho hb)
      have hi3 := hi.frN q2.fr
      clear h
      have hlk : ((mget M x).map Value.bool).getD (.bool false) = .bool (decide (x ∈ cur)) := by
        rw [ms.get x]; by_cases hh : x ∈ cur <;> simp [hh]
      rcases ready_cases x (by omega : cur.length < 256) with ⟨h0, hE, hL⟩ | ⟨h0, hin, hE, hL⟩ | ⟨h0, hin, hE, hL⟩
      · rw [hE]
        rw [hL] at q2
        (((apply vL_val); (case h => ((apply opv_E); exact rfl))); apply vL_nil; apply seqP_normal; apply vC_seq; apply vC_region; (iterate 2 (((apply vL_val); (case h => ((apply opv_E); exact rfl))))); ((apply vL_val); (case h => ((apply opv_move); ((conv => lhs; whnf) <;> exact rfl)))); ((apply vL_val); (case h => ((apply opv_E); exact rfl))); ((apply vL_val); (case h => ((apply opv_indexAddr); (first | exact norm_eq rfl | ((conv => lhs; whnf) <;> exact rfl)); exact rfl; (first | assumption | infer_instance); (first | omega | (simp only [List.length_map]; omega)); (first | omega | (simp only [List.length_map]; omega))))); ((apply vL_val); (case h => ((apply opv_ld_el); exact rfl; exact rfl; (first | assumption | infer_instance); assumption; exact rfl))); (iterate 2 (((apply vL_val); (case h => ((apply opv_E); exact rfl))))))
        refine vL_and rfl rfl (fun c => absurd c (by omega)) (fun c => ?_)
        ((iterate 6 (((apply vL_unwanted'); exact rfl; exact rfl))); ((apply vL_val); (case h => ((apply opv_E); exact rfl))); ((apply vL_val); (case h => ((apply opv_neq_bool); exact rfl; exact rfl))); apply vL_nil; apply seqP_normal; ((apply vC_cond_false); exact rfl); apply vC_skip; apply seqP_normal; apply vC_seq; apply vC_region; ((apply vL_val); (case h => ((apply opv_move); ((conv => lhs; whnf) <;> exact rfl)))); ((apply vL_val); (case h => ((apply opv_E); exact rfl))); ((apply vL_val); (case h => ((apply opv_indexAddr); (first | exact norm_eq rfl | ((conv => lhs; whnf) <;> exact rfl)); exact rfl; (first | assumption | infer_instance); (first | omega | (simp only [List.length_map]; omega)); (first | omega | (simp only [List.length_map]; omega))))); ((apply vL_val); (case h => ((apply opv_ld_el); exact rfl; exact rfl; (first | assumption | infer_instance); assumption; exact rfl))); ((apply vL_val); (case h => ((apply opv_E); exact rfl))); apply vL_nil; apply seqP_normal)
        refine vC_cond_neg rfl (by omega) ?_
        (apply vC_skip; apply blockP_normal; apply seqP_normal; apply vC_region; ((apply vL_val); (case h => ((apply opv_E); exact rfl))); ((apply vL_val); (case h => ((apply opv_add); exact rfl; exact rfl; (first | omega | (simp only [List.length_map]; omega))))); ((apply vL_val); (case h => ((apply opv_E); exact rfl))); apply vL_nil; apply loopP_normal)
        (with_reducible apply end1); (case hs => (repeat (first | (with_reducible exact same_mask _ _ _) | with_reducible apply same_updN | ((with_reducible refine same_updO ?_ ?_); rotate_left; exact rfl) | ((with_reducible refine same_upd ?_ ?_); rotate_left; exact rfl) | ((with_reducible refine same_maskIn ?_ ?_); rotate_left; exact rfl)))); (case h1 => (first | exact norm_eq rfl | ((conv => lhs; whnf) <;> exact rfl)))
        · exact ⟨k + 1, cur, lv2, M, rfl, by omega, by omega, q2, by omega, hm3, ms, hnn⟩
        · simp [RowKit.intOf]; omega
      · rw [hE]
        rw [hL] at q2
        (((apply vL_val); (case h => ((apply opv_E); exact rfl))); apply vL_nil; apply seqP_normal; apply vC_seq; apply vC_region; (iterate 2 (((apply vL_val); (case h => ((apply opv_E); exact rfl))))); ((apply vL_val); (case h => ((apply opv_move); ((conv => lhs; whnf) <;> exact rfl)))); ((apply vL_val); (case h => ((apply opv_E); exact rfl))); ((apply vL_val); (case h => ((apply opv_indexAddr); (first | exact norm_eq rfl | ((conv => lhs; whnf) <;> exact rfl)); exact rfl; (first | assumption | infer_instance); (first | omega | (simp only [List.length_map]; omega)); (first | omega | (simp only [List.length_map]; omega))))); ((apply vL_val); (case h => ((apply opv_ld_el); exact rfl; exact rfl; (first | assumption | infer_instance); assumption; exact rfl))); (iterate 2 (((apply vL_val); (case h => ((apply opv_E); exact rfl))))))
        refine vL_and rfl rfl (fun c => ?_) (fun c => absurd h0 c)
        (((apply vL_val); (case h => ((apply opv_move); ((conv => lhs; whnf) <;> exact rfl)))); ((apply vL_wanted); exact rfl); ((apply vL_val); (case h => ((apply opv_move); ((conv => lhs; whnf) <;> exact rfl)))); ((apply vL_wanted); exact rfl); ((apply vL_val); (case h => ((apply opv_E); exact rfl))); ((apply vL_wanted); exact rfl); ((apply vL_val); (case h => ((apply opv_indexAddr); (first | exact norm_eq rfl | ((conv => lhs; whnf) <;> exact rfl)); exact rfl; (first | assumption | infer_instance); (first | omega | (simp only [List.length_map]; omega)); (first | omega | (simp only [List.length_map]; omega))))); ((apply vL_wanted); exact rfl); ((apply vL_val); (case h => ((apply opv_ld_el); exact rfl; exact rfl; (first | assumption | infer_instance); assumption; exact rfl))); ((apply vL_wanted); exact rfl))
        apply vL_val
        (case h => exact opv_lookup' (kE := ikE) (vE := Value.bool) (key := x) rfl rfl hm3 hlk)
        (((apply vL_wanted); exact rfl); ((apply vL_val); (case h => ((apply opv_not); exact rfl))); ((apply vL_val); (case h => ((apply opv_E); exact rfl))); ((apply vL_val); (case h => ((apply opv_neq_bool); exact rfl; exact rfl))); apply vL_nil; apply seqP_normal)
        refine vC_cond_neg rfl (by simp [hin]) ?_
        (apply vC_skip; apply seqP_normal; apply vC_seq; apply vC_region; ((apply vL_val); (case h => ((apply opv_move); ((conv => lhs; whnf) <;> exact rfl)))); ((apply vL_val); (case h => ((apply opv_E); exact rfl))); ((apply vL_val); (case h => ((apply opv_indexAddr); (first | exact norm_eq rfl | ((conv => lhs; whnf) <;> exact rfl)); exact rfl; (first | assumption | infer_instance); (first | omega | (simp only [List.length_map]; omega)); (first | omega | (simp only [List.length_map]; omega))))); ((apply vL_val); (case h => ((apply opv_ld_el); exact rfl; exact rfl; (first | assumption | infer_instance); assumption; exact rfl))); ((apply vL_val); (case h => ((apply opv_E); exact rfl))); apply vL_nil; apply seqP_normal)
        refine vC_cond_pos rfl (by omega) ?_
        (apply vC_region; (iterate 2 (((apply vL_val); (case h => ((apply opv_move); ((conv => lhs; whnf) <;> exact rfl)))))); ((apply vL_val); (case h => ((apply opv_E); exact rfl))); ((apply vL_val); (case h => ((apply opv_indexAddr); (first | exact norm_eq rfl | ((conv => lhs; whnf) <;> exact rfl)); exact rfl; (first | assumption | infer_instance); (first | omega | (simp only [List.length_map]; omega)); (first | omega | (simp only [List.length_map]; omega))))); ((apply vL_val); (case h => ((apply opv_ld_el); exact rfl; exact rfl; (first | assumption | infer_instance); assumption; exact rfl))))
        refine vL_mapUpdate (kE := ikE) (vE := Value.bool) (key := x) (val := true) rfl rfl rfl hm3 ?_
        intro w4 hm4 hf4
        have q3 := q2.map hf4 hr0 hm3
        (apply vL_nil; apply blockP_normal; apply seqP_normal; apply vC_region; ((apply vL_val); (case h => ((apply opv_E); exact rfl))); ((apply vL_val); (case h => ((apply opv_add); exact rfl; exact rfl; (first | omega | (simp only [List.length_map]; omega))))); ((apply vL_val); (case h => ((apply opv_E); exact rfl))); apply vL_nil; apply loopP_normal)
        (with_reducible apply end1); (case hs => (repeat (first | (with_reducible exact same_mask _ _ _) | with_reducible apply same_updN | ((with_reducible refine same_updO ?_ ?_); rotate_left; exact rfl) | ((with_reducible refine same_upd ?_ ?_); rotate_left; exact rfl) | ((with_reducible refine same_maskIn ?_ ?_); rotate_left; exact rfl)))); (case h1 => (first | exact norm_eq rfl | ((conv => lhs; whnf) <;> exact rfl)))
        · exact ⟨k + 1, cur, lv2, _, rfl, by omega, by omega, q3, by omega, hm4, ms.again hin, hnn⟩
        · simp [RowKit.intOf]; omega
      · rw [hE]
        rw [hL] at q2
        (((apply vL_val); (case h => ((apply opv_E); exact rfl))); apply vL_nil; apply seqP_normal; apply vC_seq; apply vC_region; (iterate 2 (((apply vL_val); (case h => ((apply opv_E); exact rfl))))); ((apply vL_val); (case h => ((apply opv_move); ((conv => lhs; whnf) <;> exact rfl)))); ((apply vL_val); (case h => ((apply opv_E); exact rfl))); ((apply vL_val); (case h => ((apply opv_indexAddr); (first | exact norm_eq rfl | ((conv => lhs; whnf) <;> exact rfl)); exact rfl; (first | assumption | infer_instance); (first | omega | (simp only [List.length_map]; omega)); (first | omega | (simp only [List.length_map]; omega))))); ((apply vL_val); (case h => ((apply opv_ld_el); exact rfl; exact rfl; (first | assumption | infer_instance); assumption; exact rfl))); (iterate 2 (((apply vL_val); (case h => ((apply opv_E); exact rfl))))))
        refine vL_and rfl rfl (fun c => ?_) (fun c => absurd h0 c)
        (((apply vL_val); (case h => ((apply opv_move); ((conv => lhs; whnf) <;> exact rfl)))); ((apply vL_wanted); exact rfl); ((apply vL_val); (case h => ((apply opv_move); ((conv => lhs; whnf) <;> exact rfl)))); ((apply vL_wanted); exact rfl); ((apply vL_val); (case h => ((apply opv_E); exact rfl))); ((apply vL_wanted); exact rfl); ((apply vL_val); (case h => ((apply opv_indexAddr); (first | exact norm_eq rfl | ((conv => lhs; whnf) <;> exact rfl)); exact rfl; (first | assumption | infer_instance); (first | omega | (simp only [List.length_map]; omega)); (first | omega | (simp only [List.length_map]; omega))))); ((apply vL_wanted); exact rfl); ((apply vL_val); (case h => ((apply opv_ld_el); exact rfl; exact rfl; (first | assumption | infer_instance); assumption; exact rfl))); ((apply vL_wanted); exact rfl))
        apply vL_val
        (case h => exact opv_lookup' (kE := ikE) (vE := Value.bool) (key := x) rfl rfl hm3 hlk)
        (((apply vL_wanted); exact rfl); ((apply vL_val); (case h => ((apply opv_not); exact rfl))); ((apply vL_val); (case h => ((apply opv_E); exact rfl))); ((apply vL_val); (case h => ((apply opv_neq_bool); exact rfl; exact rfl))); apply vL_nil; apply seqP_normal)
        refine vC_cond_neg rfl (by simp [hin]) ?_
        (apply vC_skip; apply seqP_normal; apply vC_seq; apply vC_region; ((apply vL_val); (case h => ((apply opv_move); ((conv => lhs; whnf) <;> exact rfl)))); ((apply vL_val); (case h => ((apply opv_E); exact rfl))); ((apply vL_val); (case h => ((apply opv_indexAddr); (first | exact norm_eq rfl | ((conv => lhs; whnf) <;> exact rfl)); exact rfl; (first | assumption | infer_instance); (first | omega | (simp only [List.length_map]; omega)); (first | omega | (simp only [List.length_map]; omega))))); ((apply vL_val); (case h => ((apply opv_ld_el); exact rfl; exact rfl; (first | assumption | infer_instance); assumption; exact rfl))); ((apply vL_val); (case h => ((apply opv_E); exact rfl))); apply vL_nil; apply seqP_normal)
        refine vC_cond_pos rfl (by omega) ?_
        (apply vC_region; (iterate 2 (((apply vL_val); (case h => ((apply opv_move); ((conv => lhs; whnf) <;> exact rfl)))))); ((apply vL_val); (case h => ((apply opv_E); exact rfl))); ((apply vL_val); (case h => ((apply opv_indexAddr); (first | exact norm_eq rfl | ((conv => lhs; whnf) <;> exact rfl)); exact rfl; (first | assumption | infer_instance); (first | omega | (simp only [List.length_map]; omega)); (first | omega | (simp only [List.length_map]; omega))))); ((apply vL_val); (case h => ((apply opv_ld_el); exact rfl; exact rfl; (first | assumption | infer_instance); assumption; exact rfl))))
        refine vL_mapUpdate (kE := ikE) (vE := Value.bool) (key := x) (val := true) rfl rfl rfl hm3 ?_
        intro w4 hm4 hf4
        have q3 := q2.map hf4 hr0 hm3
        (apply vL_nil; apply blockP_normal; apply seqP_normal; apply vC_region; ((apply vL_val); (case h => ((apply opv_E); exact rfl))); ((apply vL_val); (case h => ((apply opv_add); exact rfl; exact rfl; (first | omega | (simp only [List.length_map]; omega))))); ((apply vL_val); (case h => ((apply opv_E); exact rfl))); apply vL_nil; apply loopP_normal)
        (with_reducible apply end1); (case hs => (repeat (first | (with_reducible exact same_mask _ _ _) | with_reducible apply same_updN | ((with_reducible refine same_updO ?_ ?_); rotate_left; exact rfl) | ((with_reducible refine same_upd ?_ ?_); rotate_left; exact rfl) | ((with_reducible refine same_maskIn ?_ ?_); rotate_left; exact rfl)))); (case h1 => (first | exact norm_eq rfl | ((conv => lhs; whnf) <;> exact rfl)))
        · exact ⟨k + 1, cur ++ [x], lv2, _, rfl, by omega, by omega, q3, by simp; omega, hm4, ms.add hin, fun y hy => by simp at hy; rcases hy with hy | hy; exact hnn y hy; omega⟩
        · simp [RowKit.intOf]; omega
    have hc100 : cur.length ≤ 100 := by omega
    clear hi2 hk hk4 hc
    (apply vC_exit; apply seqP_exit; apply loopP_exit; apply blockP_exit; apply seqP_normal; (iterate 2 (apply vC_seq)); apply vC_region; ((apply vL_val); (case h => ((apply opv_E); exact rfl))); apply vL_nil; apply seqP_normal; apply vC_block)
    (apply vC_loop1 5444517870735015415266419766318615001152 11 (fun u w' => ∃ (k : Nat) (cur : List Int) (lv : Value) (M : List (Int × Bool)), u = .int .i64 (k : Int) ∧ k ≤ picks.length ∧ k ≤ 100 ∧ Ss w w' sb b lv cur ∧ cur.length ≤ 100 ∧ Mp w'.heap r ikE Value.bool M ∧ MSet M cur ∧ ∀ x ∈ cur, 0 ≤ x) (fun u _ => picks.length - (RowKit.intOf u).toNat)); (case h1 => (first | exact norm_eq rfl | ((conv => lhs; whnf) <;> exact rfl)))
    case h0 => exact ⟨0, cur, lv1, M, rfl, by omega, by omega, q1, hc100, hm, ms, hnn⟩
    clear q1 hm ms hnn hc100
    case round =>
    rintro junk _ w2 ⟨k, cur, lv1, M, rfl, hk, hk4, q1, hc, hm, ms, hnn⟩
    have hp2 := hp.frN q1.fr
    ((iterate 2 (apply vC_seq)); apply vC_region; ((apply vL_val); (case h => ((apply opv_E); exact rfl))); ((apply vL_val); (case h => ((apply opv_move); ((conv => lhs; whnf) <;> exact rfl)))); ((apply vL_val); (case h => ((apply opv_len); (first | exact norm_eq rfl | ((conv => lhs; whnf) <;> exact rfl)); (first | assumption | infer_instance)))); (iterate 2 (((apply vL_val); (case h => ((apply opv_E); exact rfl))))))
    refine vL_and rfl rfl (fun c1 => ?_) (fun c1 => ?_)
    · (((apply vL_val); (case h => ((apply opv_E); exact rfl))); ((apply vL_wanted); exact rfl); (iterate 2 (((apply vL_val); (case h => ((apply opv_E); exact rfl))))); apply vL_nil; apply seqP_normal)
      refine vC_cond_dec rfl (fun c2 => ?_) (fun c2 => ?_)
      · obtain ⟨p, hpk⟩ : ∃ q, picks[k]? = some q := ⟨picks[k]'(by omega), List.getElem?_eq_getElem _⟩
        (apply vC_skip; apply seqP_normal; apply vC_seq; apply vC_block; apply vC_seq; apply vC_region; ((apply vL_val); (case h => ((apply opv_E); exact rfl))); ((apply vL_val); (case h => ((apply opv_move); ((conv => lhs; whnf) <;> exact rfl)))); ((apply vL_val); (case h => ((apply opv_E); exact rfl))); ((apply vL_val); (case h => ((apply opv_indexAddr); (first | exact norm_eq rfl | ((conv => lhs; whnf) <;> exact rfl)); exact rfl; (first | assumption | infer_instance); (first | omega | (simp only [List.length_map]; omega)); (first | omega | (simp only [List.length_map]; omega))))); ((apply vL_val); (case h => ((apply opv_ld_el); exact rfl; exact rfl; (first | assumption | infer_instance); assumption; exact rfl))))
        refine vL_callF rfl (s_pick sb b lv1 cur p _ q1.sc (by omega) (hw _ (List.mem_of_getElem? hpk))) rfl ?_
        rintro _ w3 (⟨hnil, rfl, rfl⟩ | ⟨x, lv2, hx, rfl, h⟩)
        · ((iterate 7 (((apply vL_val); (case h => ((apply opv_E); exact rfl))))); apply vL_nil; apply seqP_normal; (iterate 2 (apply vC_seq)); apply vC_region; ((apply vL_val); (case h => ((apply opv_E); exact rfl))); ((apply vL_val); (case h => ((apply opv_move); ((conv => lhs; whnf) <;> exact rfl)))))
          apply vL_val
          (case h => exact opv_lenMap' (kE := ikE) (vE := Value.bool) rfl hm ms.len)
          (((apply vL_val); (case h => ((apply opv_E); exact rfl))); ((apply vL_val); (case h => ((apply opv_neq_bool); exact rfl; exact rfl))); ((apply vL_val); (case h => ((apply opv_E); exact rfl))))
          refine vL_or rfl rfl (fun d => ?_) (fun d => absurd d (by simp [hnil]))
          (((apply vL_val); (case h => ((apply opv_E); exact rfl))); ((apply vL_wanted); exact rfl); ((apply vL_val); (case h => ((apply opv_E); exact rfl))); (iterate 4 (((apply vL_unwanted'); exact rfl; exact rfl))); ((apply vL_wanted); exact rfl); (iterate 2 (((apply vL_val); (case h => ((apply opv_E); exact rfl))))); apply vL_nil; apply seqP_normal; ((apply vC_cond_false); exact rfl); apply vC_skip; apply seqP_normal; (iterate 2 (apply vC_seq)); apply vC_region; ((apply vL_val); (case h => ((apply opv_E); exact rfl))); ((apply vL_val); (case h => ((apply opv_not); exact rfl))); apply vL_nil; apply seqP_normal; ((apply vC_cond_true); exact rfl); apply vC_exit; apply seqP_exit; apply blockP_exit; apply seqP_normal; apply vC_region; ((apply vL_val); (case h => ((apply opv_E); exact rfl))); ((apply vL_val); (case h => ((apply opv_add); exact rfl; exact rfl; (first | omega | (simp only [List.length_map]; omega))))); ((apply vL_val); (case h => ((apply opv_E); exact rfl))); apply vL_nil; apply loopP_normal)
          (with_reducible apply end1); (case hs => (repeat (first | (with_reducible exact same_mask _ _ _) | with_reducible apply same_updN | ((with_reducible refine same_updO ?_ ?_); rotate_left; exact rfl) | ((with_reducible refine same_upd ?_ ?_); rotate_left; exact rfl) | ((with_reducible refine same_maskIn ?_ ?_); rotate_left; exact rfl)))); (case h1 => (first | exact norm_eq rfl | ((conv => lhs; whnf) <;> exact rfl)))
          · exact ⟨k + 1, cur, lv1, M, rfl, by omega, by omega, q1, hc, hm, ms, hnn⟩
          · simp [RowKit.intOf]; omega
        have q2 := q1.to h
        have hm3 := hm.fr h.fr (fun hb => by
          rcases hb with hb | hb
          · exact hm.ne_blk q1.sc.hb hb.symm
          · exact hm.ne_own q1.sc.ho hb)
        clear h
        have hin := List.mem_of_getElem? hx
        have hlen := (List.getElem?_eq_some_iff.1 hx).1
        have hlk : ((mget M x).map Value.bool).getD (.bool false) = .bool true := by rw [ms.get x]; simp [hin]
        have hmod := Int.emod_nonneg p (b := (cur.length : Int)) (by omega)
        have her : without cur (p % cur.length) = cur.erase x := by
          have h := erase_at ms.nc hx
          rwa [Int.toNat_of_nonneg hmod] at h
        rw [her] at q2
        have hcl : (cur.erase x).length = cur.length - 1 := List.length_erase_of_mem hin
        have hnx : x ∉ cur.erase x := fun h => ((List.Nodup.mem_erase_iff ms.nc).1 h).1 rfl
        have hnn2 : ∀ y ∈ cur.erase x, 0 ≤ y := fun y hy => hnn y (List.mem_of_mem_erase hy)
        ((iterate 7 (((apply vL_val); (case h => ((apply opv_E); exact rfl))))); apply vL_nil; apply seqP_normal; (iterate 2 (apply vC_seq)); apply vC_region; ((apply vL_val); (case h => ((apply opv_E); exact rfl))); ((apply vL_val); (case h => ((apply opv_move); ((conv => lhs; whnf) <;> exact rfl)))))
        apply vL_val
        (case h => exact opv_lenMap' (kE := ikE) (vE := Value.bool) rfl hm3 ms.len)
        (((apply vL_val); (case h => ((apply opv_E); exact rfl))); ((apply vL_val); (case h => ((apply opv_neq_bool); exact rfl; exact rfl))); ((apply vL_val); (case h => ((apply opv_E); exact rfl))))
        refine vL_or rfl rfl (fun d => ?_) (fun d => absurd d (by have h0 : (0 : Int) < cur.length := (by omega); simp only [h0]; simp))
        (((apply vL_val); (case h => ((apply opv_E); exact rfl))); ((apply vL_wanted); exact rfl); ((apply vL_val); (case h => ((apply opv_E); exact rfl))); ((apply vL_wanted); exact rfl); ((apply vL_val); (case h => ((apply opv_move); ((conv => lhs; whnf) <;> exact rfl)))); ((apply vL_wanted); exact rfl); ((apply vL_val); (case h => ((apply opv_E); exact rfl))); ((apply vL_wanted); exact rfl))
        apply vL_val
        (case h => exact opv_lookup' (kE := ikE) (vE := Value.bool) (key := x) rfl rfl hm3 hlk)
        (((apply vL_wanted); exact rfl); ((apply vL_val); (case h => ((apply opv_not); exact rfl))); ((apply vL_wanted); exact rfl); (iterate 2 (((apply vL_val); (case h => ((apply opv_E); exact rfl))))); apply vL_nil; apply seqP_normal; ((apply vC_cond_false); exact rfl); apply vC_skip; apply seqP_normal; (iterate 2 (apply vC_seq)); apply vC_region; ((apply vL_val); (case h => ((apply opv_E); exact rfl))); ((apply vL_val); (case h => ((apply opv_not); exact rfl))); apply vL_nil; apply seqP_normal; ((apply vC_cond_false); exact rfl); apply vC_skip; apply seqP_normal; apply vC_seq; apply vC_region; ((apply vL_val); (case h => ((apply opv_move); ((conv => lhs; whnf) <;> exact rfl)))); ((apply vL_val); (case h => ((apply opv_E); exact rfl))))
        refine vL_mapDelete (kE := ikE) (vE := Value.bool) (key := x) rfl rfl hm3 ?_
        intro w4 hm4 hf4
        have q3 := q2.map hf4 hr0 hm3
        have ms4 := ms.del hin rfl
        have ha4 := ha.frN q3.fr
        clear q2 hm3 hm
        (apply vL_nil; apply seqP_normal; apply vC_seq; apply vC_region; ((apply vL_val); (case h => ((apply opv_E); exact rfl))); ((apply vL_val); (case h => ((apply opv_move); ((conv => lhs; whnf) <;> exact rfl)))); ((apply vL_val); (case h => ((apply opv_len); (first | exact norm_eq rfl | ((conv => lhs; whnf) <;> exact rfl)); (first | assumption | infer_instance)))); (iterate 2 (((apply vL_val); (case h => ((apply opv_E); exact rfl))))))
        refine vL_and rfl rfl (fun c5 => ?_) (fun c5 => ?_)
        · obtain ⟨ag, hag⟩ : ∃ q, again[k]? = some q := ⟨again[k]'(by omega), List.getElem?_eq_getElem _⟩
          (((apply vL_val); (case h => ((apply opv_move); ((conv => lhs; whnf) <;> exact rfl)))); ((apply vL_wanted); exact rfl); ((apply vL_val); (case h => ((apply opv_E); exact rfl))); ((apply vL_wanted); exact rfl); ((apply vL_val); (case h => ((apply opv_indexAddr); (first | exact norm_eq rfl | ((conv => lhs; whnf) <;> exact rfl)); exact rfl; (first | assumption | infer_instance); (first | omega | (simp only [List.length_map]; omega)); (first | omega | (simp only [List.length_map]; omega))))); ((apply vL_wanted); exact rfl); ((apply vL_val); (case h => ((apply opv_ld_el); exact rfl; exact rfl; (first | assumption | infer_instance); assumption; exact rfl))); ((apply vL_val); (case h => ((apply opv_E); exact rfl))); apply vL_nil; apply seqP_normal)
          refine vC_cond rfl (fun c6 => ?_) (fun c6 => ?_)
          · (apply vC_seq; apply vC_region; ((apply vL_val); (case h => ((apply opv_move); ((conv => lhs; whnf) <;> exact rfl)))); ((apply vL_val); (case h => ((apply opv_E); exact rfl))))
            refine vL_mapUpdate (kE := ikE) (vE := Value.bool) (key := x) (val := true) rfl rfl rfl hm4 ?_
            intro w5 hm5 hf5
            have q4 := q3.map hf5 hr0 hm4
            have ms5 := ms4.add hnx
            (apply vL_nil; apply seqP_normal; apply vC_seq; apply vC_region; (iterate 2 (((apply vL_val); (case h => ((apply opv_E); exact rfl))))))
            refine vL_callF rfl (s_ready sb b lv2 (cur.erase x) x _ q4.sc (by omega)) rfl ?_
            rintro _ w6 ⟨rfl, lv3, h⟩
            rcases ready_cases x (by omega : (cur.erase x).length < 256) with ⟨h0, _⟩ | ⟨h0, h1, _⟩ | ⟨h0, h1, hE, hL⟩
            · have := hnn x hin; omega
            · exact absurd h1 hnx
            rw [hE]
            rw [hL] at h
            have q5 := q4.to h
            have hm6 := hm5.fr h.fr (fun hb => by
              rcases hb with hb | hb
              · exact hm5.ne_blk q4.sc.hb hb.symm
              · exact hm5.ne_own q4.sc.ho hb)
            clear h
            have hcl2 : (cur.erase x ++ [x]).length ≤ 100 := by simp; omega
            ((iterate 2 (((apply vL_val); (case h => ((apply opv_E); exact rfl))))); ((apply vL_wanted); exact rfl); ((apply vL_val); (case h => ((apply opv_E); exact rfl))); ((apply vL_wanted); exact rfl))
            refine vL_callF rfl (s_list sb b lv3 _ _ q5.sc (by omega)) rfl ?_
            rintro v7 w7 ⟨hf7, ho7, hfr7, hone7⟩
            have q6 := q5.frN hf7
            (((apply vL_wanted); exact rfl); ((apply vL_val); (case h => ((apply opv_E); exact rfl))); ((apply vL_wanted); exact rfl))
            refine vL_callF rfl (s_len sb b lv3 _ _ q6.sc) rfl ?_
            rintro _ _ ⟨rfl, rfl⟩
            have hlast : (cur.erase x ++ [x])[(((cur.erase x ++ [x]).length : Int) - 1).toNat]? = some x := by
              have e : (((cur.erase x ++ [x]).length : Int) - 1).toNat = (cur.erase x).length := by simp
              rw [e]; simp
            have hpos : 1 ≤ (cur.erase x ++ [x]).length := by simp
            (((apply vL_wanted); exact rfl); ((apply vL_val); (case h => ((apply opv_sub); exact rfl; exact rfl; (first | omega | (simp only [List.length_map]; omega))))); ((apply vL_wanted); exact rfl); ((apply vL_val); (case h => ((apply opv_indexAddr); (first | exact norm_eq rfl | ((conv => lhs; whnf) <;> exact rfl)); exact rfl; (first | assumption | infer_instance); (first | omega | (simp only [List.length_map]; omega)); (first | omega | (simp only [List.length_map]; omega))))); ((apply vL_wanted); exact rfl); ((apply vL_val); (case h => ((apply opv_ld_el); exact rfl; exact rfl; (first | assumption | infer_instance); assumption; exact rfl))); ((apply vL_wanted); exact rfl); ((apply vL_val); (case h => ((apply opv_E); exact rfl))); ((apply vL_wanted); exact rfl); (iterate 2 (((apply vL_val); (case h => ((apply opv_E); exact rfl))))); apply vL_nil; apply seqP_normal)
            refine vC_cond_neg rfl (fun d => d rfl) ?_
            (apply vC_skip; apply blockP_normal; apply seqP_normal; apply vC_region; ((apply vL_val); (case h => ((apply opv_E); exact rfl))); ((apply vL_val); (case h => ((apply opv_add); exact rfl; exact rfl; (first | omega | (simp only [List.length_map]; omega))))); ((apply vL_val); (case h => ((apply opv_E); exact rfl))); apply vL_nil; apply loopP_normal)
            (with_reducible apply end1); (case hs => (repeat (first | (with_reducible exact same_mask _ _ _) | with_reducible apply same_updN | ((with_reducible refine same_updO ?_ ?_); rotate_left; exact rfl) | ((with_reducible refine same_upd ?_ ?_); rotate_left; exact rfl) | ((with_reducible refine same_maskIn ?_ ?_); rotate_left; exact rfl)))); (case h1 => (first | exact norm_eq rfl | ((conv => lhs; whnf) <;> exact rfl)))
            · exact ⟨k + 1, _, lv3, _, rfl, by omega, by omega, q6, hcl2, hm6.frN hf7, ms5, fun y hy => by simp at hy; rcases hy with hy | hy; exact hnn2 y hy; exact hy ▸ hnn x hin⟩
            · simp [RowKit.intOf]; omega
          · (apply vC_skip; apply blockP_normal; apply seqP_normal; apply vC_region; ((apply vL_val); (case h => ((apply opv_E); exact rfl))); ((apply vL_val); (case h => ((apply opv_add); exact rfl; exact rfl; (first | omega | (simp only [List.length_map]; omega))))); ((apply vL_val); (case h => ((apply opv_E); exact rfl))); apply vL_nil; apply loopP_normal)
            (with_reducible apply end1); (case hs => (repeat (first | (with_reducible exact same_mask _ _ _) | with_reducible apply same_updN | ((with_reducible refine same_updO ?_ ?_); rotate_left; exact rfl) | ((with_reducible refine same_upd ?_ ?_); rotate_left; exact rfl) | ((with_reducible refine same_maskIn ?_ ?_); rotate_left; exact rfl)))); (case h1 => (first | exact norm_eq rfl | ((conv => lhs; whnf) <;> exact rfl)))
            · exact ⟨k + 1, _, lv2, _, rfl, by omega, by omega, q3, by omega, hm4, ms4, hnn2⟩
            · simp [RowKit.intOf]; omega
        · ((iterate 3 (((apply vL_unwanted'); exact rfl; exact rfl))); ((apply vL_val); (case h => ((apply opv_E); exact rfl))); apply vL_nil; apply seqP_normal; ((apply vC_cond_false); exact rfl); apply vC_skip; apply blockP_normal; apply seqP_normal; apply vC_region; ((apply vL_val); (case h => ((apply opv_E); exact rfl))); ((apply vL_val); (case h => ((apply opv_add); exact rfl; exact rfl; (first | omega | (simp only [List.length_map]; omega))))); ((apply vL_val); (case h => ((apply opv_E); exact rfl))); apply vL_nil; apply loopP_normal)
          (with_reducible apply end1); (case hs => (repeat (first | (with_reducible exact same_mask _ _ _) | with_reducible apply same_updN | ((with_reducible refine same_updO ?_ ?_); rotate_left; exact rfl) | ((with_reducible refine same_upd ?_ ?_); rotate_left; exact rfl) | ((with_reducible refine same_maskIn ?_ ?_); rotate_left; exact rfl)))); (case h1 => (first | exact norm_eq rfl | ((conv => lhs; whnf) <;> exact rfl)))
          · exact ⟨k + 1, _, lv2, _, rfl, by omega, by omega, q3, by omega, hm4, ms4, hnn2⟩
          · simp [RowKit.intOf]; omega
      clear hp2 hk hk4
      (apply vC_exit; apply seqP_exit; apply loopP_exit; apply blockP_exit; apply seqP_normal; apply vC_seq; apply vC_region; ((apply vL_val); (case h => ((apply opv_E); exact rfl))))
      refine vL_callF rfl (s_list sb b lv1 cur _ q1.sc (by omega)) rfl ?_
      rintro v15 w3 ⟨hf3, ho3, hfr3, hone3⟩
      have q2 := q1.frN hf3
      have hm3 := hm.frN hf3
      (((apply vL_val); (case h => ((apply opv_assign); ((conv => lhs; whnf) <;> exact rfl)))); apply vL_nil; apply seqP_normal; (iterate 2 (apply vC_seq)); apply vC_region; ((apply vL_val); (case h => ((apply opv_move); ((conv => lhs; whnf) <;> exact rfl)))); ((apply vL_val); (case h => ((apply opv_len); (first | exact norm_eq rfl | ((conv => lhs; whnf) <;> exact rfl)); (first | assumption | infer_instance)))); ((apply vL_val); (case h => ((apply opv_E); exact rfl))); apply vL_nil; apply seqP_normal; apply vC_block)
      (apply vC_loop1 1461501550218616986443438186092383517123271393344 136 (fun u w' => ∃ (j : Nat) (lv : Value), u = .int .i64 (j : Int) ∧ j ≤ cur.length ∧ Ss w w' sb b lv (cur.drop j) ∧ Mp w'.heap r ikE Value.bool M ∧ Own w'.heap 3 1 iE v15 cur ∧ ∀ i, own lv = some i → own v15 ≠ some i) (fun u _ => cur.length - (RowKit.intOf u).toNat)); (case h1 => (first | exact norm_eq rfl | ((conv => lhs; whnf) <;> exact rfl)))
      case h0 => exact ⟨0, lv1, rfl, by omega, q2, hm3, ho3, fun i hi h => by have := q1.sc.ho.lt i hi; have := hfr3 i h; omega⟩
      case round =>
      rintro junk _ w4 ⟨j, lv3, rfl, hj, q3, hm4, ho4, hd⟩
      (apply vC_seq; apply vC_region; ((apply vL_val); (case h => ((apply opv_E); exact rfl))); apply vL_nil; apply seqP_normal; apply vC_seq)
      refine vC_cond_dec rfl (fun c7 => ?_) (fun c7 => ?_)
      · obtain ⟨x, hx⟩ : ∃ q, cur[j]? = some q := ⟨cur[j]'(by omega), List.getElem?_eq_getElem _⟩
        have hdl : (cur.drop j).length = cur.length - j := by simp
        (apply vC_skip; apply seqP_normal; apply vC_seq; apply vC_block; apply vC_seq; apply vC_region; (iterate 2 (((apply vL_val); (case h => ((apply opv_E); exact rfl))))); apply vL_nil; apply seqP_normal; apply vC_seq; apply vC_region; ((apply vL_val); (case h => ((apply opv_E); exact rfl))))
        refine vL_callF rfl (s_pick sb b lv3 (cur.drop j) 0 _ q3.sc (by omega) (by decide)) rfl ?_
        rintro _ w5 (⟨hnil, _⟩ | ⟨y, lv4, hy, rfl, h⟩)
        · rw [hnil] at hdl; simp at hdl; omega
        have e0 : (0 : Int) % ((cur.drop j).length : Int) = 0 := Int.zero_emod _
        have e1 : (0 : Int) / ((cur.drop j).length : Int) = 0 := Int.zero_ediv _
        rw [e0] at hy h
        rw [e1]
        have hy' : cur[j]? = some y := by simpa using hy
        obtain rfl : x = y := Option.some.inj (hx.symm.trans hy')
        have e2 : without (cur.drop j) 0 = cur.drop (j + 1) := by simp [without, List.drop_drop]
        rw [e2] at h
        have q4 := q3.to h
        have hm5 := hm4.fr h.fr (fun hb => by
          rcases hb with hb | hb
          · exact hm4.ne_blk q3.sc.hb hb.symm
          · exact hm4.ne_own q3.sc.ho hb)
        have ho5 : Own w5.heap 3 1 iE v15 cur := ho4.fr h.fr (fun j h6 h => by
          rcases h with rfl | h
          · exact Own.ne_blk ho4 q3.sc.hb (by decide) h6
          · exact hd j h h6)
        have hd5 : ∀ i, own lv4 = some i → own v15 ≠ some i := fun i hi h6 => by
          rcases h.fl i hi with h7 | h7
          · exact hd i h7 h6
          · have := ho4.lt i h6; omega
        clear h
        ((iterate 7 (((apply vL_val); (case h => ((apply opv_E); exact rfl))))); apply vL_nil; apply seqP_normal; apply vC_seq; apply vC_region; ((apply vL_val); (case h => ((apply opv_E); exact rfl))); ((apply vL_val); (case h => ((apply opv_not); exact rfl))); ((apply vL_val); (case h => ((apply opv_E); exact rfl))); ((apply vL_wanted); exact rfl); ((apply vL_val); (case h => ((apply opv_E); exact rfl))); ((apply vL_wanted); exact rfl); ((apply vL_val); (case h => ((apply opv_move); ((conv => lhs; whnf) <;> exact rfl)))); ((apply vL_wanted); exact rfl); ((apply vL_val); (case h => ((apply opv_E); exact rfl))); ((apply vL_wanted); exact rfl); ((apply vL_val); (case h => ((apply opv_indexAddr); (first | exact norm_eq rfl | ((conv => lhs; whnf) <;> exact rfl)); exact rfl; (first | assumption | infer_instance); (first | omega | (simp only [List.length_map]; omega)); (first | omega | (simp only [List.length_map]; omega))))); ((apply vL_wanted); exact rfl); ((apply vL_val); (case h => ((apply opv_ld_el); exact rfl; exact rfl; (first | assumption | infer_instance); assumption; exact rfl))); ((apply vL_wanted); exact rfl); (iterate 3 (((apply vL_val); (case h => ((apply opv_E); exact rfl))))))
        refine vL_or rfl rfl (fun d => ?_) (fun d => absurd rfl d)
        (((apply vL_val); (case h => ((apply opv_E); exact rfl))); ((apply vL_wanted); exact rfl); (iterate 2 (((apply vL_val); (case h => ((apply opv_E); exact rfl))))); apply vL_nil; apply seqP_normal; ((apply vC_cond_false); exact rfl); apply vC_skip; apply blockP_normal; apply seqP_normal; apply vC_region; ((apply vL_val); (case h => ((apply opv_add); exact rfl; exact rfl; (first | omega | (simp only [List.length_map]; omega))))); ((apply vL_val); (case h => ((apply opv_E); exact rfl))); apply vL_nil; apply loopP_normal)
        (with_reducible apply end1); (case hs => (repeat (first | (with_reducible exact same_mask _ _ _) | with_reducible apply same_updN | ((with_reducible refine same_updO ?_ ?_); rotate_left; exact rfl) | ((with_reducible refine same_upd ?_ ?_); rotate_left; exact rfl) | ((with_reducible refine same_maskIn ?_ ?_); rotate_left; exact rfl)))); (case h1 => (first | exact norm_eq rfl | ((conv => lhs; whnf) <;> exact rfl)))
        · exact ⟨j + 1, lv4, rfl, by omega, q4, hm5, ho5, hd5⟩
        · simp [RowKit.intOf]; omega
      have hdl : cur.drop j = [] := List.drop_of_length_le (by omega)
      rw [hdl] at q3
      (apply vC_exit; apply seqP_exit; apply loopP_exit; apply blockP_exit; apply seqP_normal; apply vC_seq; apply vC_region; ((apply vL_val); (case h => ((apply opv_move); ((conv => lhs; whnf) <;> exact rfl)))); ((apply vL_val); (case h => ((apply opv_len); (first | exact norm_eq rfl | ((conv => lhs; whnf) <;> exact rfl)); (first | assumption | infer_instance)))); ((apply vL_val); (case h => ((apply opv_move); ((conv => lhs; whnf) <;> exact rfl)))))
      apply vL_val
      (case h => exact opv_lenMap' (kE := ikE) (vE := Value.bool) rfl hm4 ms.len)
      ((iterate 2 (((apply vL_val); (case h => ((apply opv_E); exact rfl))))))
      refine vL_and rfl rfl (fun d => ?_) (fun d => absurd rfl d)
      (((apply vL_val); (case h => ((apply opv_E); exact rfl))); ((apply vL_wanted); exact rfl))
      refine vL_callF rfl (s_len sb b lv3 [] _ q3.sc) rfl ?_
      rintro _ _ ⟨rfl, rfl⟩
      (((apply vL_wanted); exact rfl); (iterate 3 (((apply vL_val); (case h => ((apply opv_E); exact rfl))))); ((apply vL_wanted); exact rfl))
      refine vL_callF rfl (awake14 _) rfl ?_
      rintro _ w9 ⟨rfl, hf9⟩
      ((iterate 2 (((apply vL_val); (case h => ((apply opv_E); exact rfl))))); apply vL_nil; apply seqP_normal; apply vC_ret)
      (apply ret1; (case h1 => (first | exact norm_eq rfl | ((conv => lhs; whnf) <;> exact rfl))))
      exact ⟨rfl, q3.fr.trans hf9⟩
    clear hp2 hk hk4
    (((apply vL_unwanted'); exact rfl; exact rfl); ((apply vL_val); (case h => ((apply opv_E); exact rfl))); apply vL_nil; apply seqP_normal; ((apply vC_cond_false); exact rfl); apply vC_exit; apply seqP_exit; apply loopP_exit; apply blockP_exit; apply seqP_normal; apply vC_seq; apply vC_region; ((apply vL_val); (case h => ((apply opv_E); exact rfl))))
    refine vL_callF rfl (s_list sb b lv1 cur _ q1.sc (by omega)) rfl ?_
    rintro v15 w3 ⟨hf3, ho3, hfr3, hone3⟩
    have q2 := q1.frN hf3
    have hm3 := hm.frN hf3
    (((apply vL_val); (case h => ((apply opv_assign); ((conv => lhs; whnf) <;> exact rfl)))); apply vL_nil; apply seqP_normal; (iterate 2 (apply vC_seq)); apply vC_region; ((apply vL_val); (case h => ((apply opv_move); ((conv => lhs; whnf) <;> exact rfl)))); ((apply vL_val); (case h => ((apply opv_len); (first | exact norm_eq rfl | ((conv => lhs; whnf) <;> exact rfl)); (first | assumption | infer_instance)))); ((apply vL_val); (case h => ((apply opv_E); exact rfl))); apply vL_nil; apply seqP_normal; apply vC_block)
    (apply vC_loop1 1461501550218616986443438186092383517123271393344 136 (fun u w' => ∃ (j : Nat) (lv : Value), u = .int .i64 (j : Int) ∧ j ≤ cur.length ∧ Ss w w' sb b lv (cur.drop j) ∧ Mp w'.heap r ikE Value.bool M ∧ Own w'.heap 3 1 iE v15 cur ∧ ∀ i, own lv = some i → own v15 ≠ some i) (fun u _ => cur.length - (RowKit.intOf u).toNat)); (case h1 => (first | exact norm_eq rfl | ((conv => lhs; whnf) <;> exact rfl)))
    case h0 => exact ⟨0, lv1, rfl, by omega, q2, hm3, ho3, fun i hi h => by have := q1.sc.ho.lt i hi; have := hfr3 i h; omega⟩
    case round =>
    rintro junk _ w4 ⟨j, lv3, rfl, hj, q3, hm4, ho4, hd⟩
    (apply vC_seq; apply vC_region; ((apply vL_val); (case h => ((apply opv_E); exact rfl))); apply vL_nil; apply seqP_normal; apply vC_seq)
    refine vC_cond_dec rfl (fun c7 => ?_) (fun c7 => ?_)
    · obtain ⟨x, hx⟩ : ∃ q, cur[j]? = some q := ⟨cur[j]'(by omega), List.getElem?_eq_getElem _⟩
      have hdl : (cur.drop j).length = cur.length - j := by simp
      (apply vC_skip; apply seqP_normal; apply vC_seq; apply vC_block; apply vC_seq; apply vC_region; (iterate 2 (((apply vL_val); (case h => ((apply opv_E); exact rfl))))); apply vL_nil; apply seqP_normal; apply vC_seq; apply vC_region; ((apply vL_val); (case h => ((apply opv_E); exact rfl))))
      refine vL_callF rfl (s_pick sb b lv3 (cur.drop j) 0 _ q3.sc (by omega) (by decide)) rfl ?_
      rintro _ w5 (⟨hnil, _⟩ | ⟨y, lv4, hy, rfl, h⟩)
      · rw [hnil] at hdl; simp at hdl; omega
      have e0 : (0 : Int) % ((cur.drop j).length : Int) = 0 := Int.zero_emod _
      have e1 : (0 : Int) / ((cur.drop j).length : Int) = 0 := Int.zero_ediv _
      rw [e0] at hy h
      rw [e1]
      have hy' : cur[j]? = some y := by simpa using hy
      obtain rfl : x = y := Option.some.inj (hx.symm.trans hy')
      have e2 : without (cur.drop j) 0 = cur.drop (j + 1) := by simp [without, List.drop_drop]
      rw [e2] at h
      have q4 := q3.to h
      have hm5 := hm4.fr h.fr (fun hb => by
        rcases hb with hb | hb
        · exact hm4.ne_blk q3.sc.hb hb.symm
        · exact hm4.ne_own q3.sc.ho hb)
      have ho5 : Own w5.heap 3 1 iE v15 cur := ho4.fr h.fr (fun j h6 h => by
        rcases h with rfl | h
        · exact Own.ne_blk ho4 q3.sc.hb (by decide) h6
        · exact hd j h h6)
      have hd5 : ∀ i, own lv4 = some i → own v15 ≠ some i := fun i hi h6 => by
        rcases h.fl i hi with h7 | h7
        · exact hd i h7 h6
        · have := ho4.lt i h6; omega
      clear h
      ((iterate 7 (((apply vL_val); (case h => ((apply opv_E); exact rfl))))); apply vL_nil; apply seqP_normal; apply vC_seq; apply vC_region; ((apply vL_val); (case h => ((apply opv_E); exact rfl))); ((apply vL_val); (case h => ((apply opv_not); exact rfl))); ((apply vL_val); (case h => ((apply opv_E); exact rfl))); ((apply vL_wanted); exact rfl); ((apply vL_val); (case h => ((apply opv_E); exact rfl))); ((apply vL_wanted); exact rfl); ((apply vL_val); (case h => ((apply opv_move); ((conv => lhs; whnf) <;> exact rfl)))); ((apply vL_wanted); exact rfl); ((apply vL_val); (case h => ((apply opv_E); exact rfl))); ((apply vL_wanted); exact rfl); ((apply vL_val); (case h => ((apply opv_indexAddr); (first | exact norm_eq rfl | ((conv => lhs; whnf) <;> exact rfl)); exact rfl; (first | assumption | infer_instance); (first | omega | (simp only [List.length_map]; omega)); (first | omega | (simp only [List.length_map]; omega))))); ((apply vL_wanted); exact rfl); ((apply vL_val); (case h => ((apply opv_ld_el); exact rfl; exact rfl; (first | assumption | infer_instance); assumption; exact rfl))); ((apply vL_wanted); exact rfl); (iterate 3 (((apply vL_val); (case h => ((apply opv_E); exact rfl))))))
      refine vL_or rfl rfl (fun d => ?_) (fun d => absurd rfl d)
      (((apply vL_val); (case h => ((apply opv_E); exact rfl))); ((apply vL_wanted); exact rfl); (iterate 2 (((apply vL_val); (case h => ((apply opv_E); exact rfl))))); apply vL_nil; apply seqP_normal; ((apply vC_cond_false); exact rfl); apply vC_skip; apply blockP_normal; apply seqP_normal; apply vC_region; ((apply vL_val); (case h => ((apply opv_add); exact rfl; exact rfl; (first | omega | (simp only [List.length_map]; omega))))); ((apply vL_val); (case h => ((apply opv_E); exact rfl))); apply vL_nil; apply loopP_normal)
      (with_reducible apply end1); (case hs => (repeat (first | (with_reducible exact same_mask _ _ _) | with_reducible apply same_updN | ((with_reducible refine same_updO ?_ ?_); rotate_left; exact rfl) | ((with_reducible refine same_upd ?_ ?_); rotate_left; exact rfl) | ((with_reducible refine same_maskIn ?_ ?_); rotate_left; exact rfl)))); (case h1 => (first | exact norm_eq rfl | ((conv => lhs; whnf) <;> exact rfl)))
      · exact ⟨j + 1, lv4, rfl, by omega, q4, hm5, ho5, hd5⟩
      · simp [RowKit.intOf]; omega
    have hdl : cur.drop j = [] := List.drop_of_length_le (by omega)
    rw [hdl] at q3
    (apply vC_exit; apply seqP_exit; apply loopP_exit; apply blockP_exit; apply seqP_normal; apply vC_seq; apply vC_region; ((apply vL_val); (case h => ((apply opv_move); ((conv => lhs; whnf) <;> exact rfl)))); ((apply vL_val); (case h => ((apply opv_len); (first | exact norm_eq rfl | ((conv => lhs; whnf) <;> exact rfl)); (first | assumption | infer_instance)))); ((apply vL_val); (case h => ((apply opv_move); ((conv => lhs; whnf) <;> exact rfl)))))
    apply vL_val
    (case h => exact opv_lenMap' (kE := ikE) (vE := Value.bool) rfl hm4 ms.len)
    ((iterate 2 (((apply vL_val); (case h => ((apply opv_E); exact rfl))))))
    refine vL_and rfl rfl (fun d => ?_) (fun d => absurd rfl d)
    (((apply vL_val); (case h => ((apply opv_E); exact rfl))); ((apply vL_wanted); exact rfl))
    refine vL_callF rfl (s_len sb b lv3 [] _ q3.sc) rfl ?_
    rintro _ _ ⟨rfl, rfl⟩
    (((apply vL_wanted); exact rfl); (iterate 3 (((apply vL_val); (case h => ((apply opv_E); exact rfl))))); ((apply vL_wanted); exact rfl))
    refine vL_callF rfl (awake14 _) rfl ?_
    rintro _ w9 ⟨rfl, hf9⟩
    ((iterate 2 (((apply vL_val); (case h => ((apply opv_E); exact rfl))))); apply vL_nil; apply seqP_normal; apply vC_ret)
    (apply ret1; (case h1 => (first | exact norm_eq rfl | ((conv => lhs; whnf) <;> exact rfl))))
    exact ⟨rfl, q3.fr.trans hf9⟩
  have hc100 : cur.length ≤ 100 := by omega
  clear hi2 hk hk4 hc
  (((apply vL_unwanted'); exact rfl; exact rfl); ((apply vL_val); (case h => ((apply opv_E); exact rfl))); apply vL_nil; apply seqP_normal; ((apply vC_cond_false); exact rfl); apply vC_exit; apply seqP_exit; apply loopP_exit; apply blockP_exit; apply seqP_normal; (iterate 2 (apply vC_seq)); apply vC_region; ((apply vL_val); (case h => ((apply opv_E); exact rfl))); apply vL_nil; apply seqP_normal; apply vC_block)
  (apply vC_loop1 5444517870735015415266419766318615001152 11 (fun u w' => ∃ (k : Nat) (cur : List Int) (lv : Value) (M : List (Int × Bool)), u = .int .i64 (k : Int) ∧ k ≤ picks.length ∧ k ≤ 100 ∧ Ss w w' sb b lv cur ∧ cur.length ≤ 100 ∧ Mp w'.heap r ikE Value.bool M ∧ MSet M cur ∧ ∀ x ∈ cur, 0 ≤ x) (fun u _ => picks.length - (RowKit.intOf u).toNat)); (case h1 => (first | exact norm_eq rfl | ((conv => lhs; whnf) <;> exact rfl)))
  case h0 => exact ⟨0, cur, lv1, M, rfl, by omega, by omega, q1, hc100, hm, ms, hnn⟩
  clear q1 hm ms hnn hc100
  case round =>
  rintro junk _ w2 ⟨k, cur, lv1, M, rfl, hk, hk4, q1, hc, hm, ms, hnn⟩
  have hp2 := hp.frN q1.fr
  ((iterate 2 (apply vC_seq)); apply vC_region; ((apply vL_val); (case h => ((apply opv_E); exact rfl))); ((apply vL_val); (case h => ((apply opv_move); ((conv => lhs; whnf) <;> exact rfl)))); ((apply vL_val); (case h => ((apply opv_len); (first | exact norm_eq rfl | ((conv => lhs; whnf) <;> exact rfl)); (first | assumption | infer_instance)))); (iterate 2 (((apply vL_val); (case h => ((apply opv_E); exact rfl))))))
  refine vL_and rfl rfl (fun c1 => ?_) (fun c1 => ?_)
  · (((apply vL_val); (case h => ((apply opv_E); exact rfl))); ((apply vL_wanted); exact rfl); (iterate 2 (((apply vL_val); (case h => ((apply opv_E); exact rfl))))); apply vL_nil; apply seqP_normal)
    refine vC_cond_dec rfl (fun c2 => ?_) (fun c2 => ?_)
    · obtain ⟨p, hpk⟩ : ∃ q, picks[k]? = some q := ⟨picks[k]'(by omega), List.getElem?_eq_getElem _⟩
      (apply vC_skip; apply seqP_normal; apply vC_seq; apply vC_block; apply vC_seq; apply vC_region; ((apply vL_val); (case h => ((apply opv_E); exact rfl))); ((apply vL_val); (case h => ((apply opv_move); ((conv => lhs; whnf) <;> exact rfl)))); ((apply vL_val); (case h => ((apply opv_E); exact rfl))); ((apply vL_val); (case h => ((apply opv_indexAddr); (first | exact norm_eq rfl | ((conv => lhs; whnf) <;> exact rfl)); exact rfl; (first | assumption | infer_instance); (first | omega | (simp only [List.length_map]; omega)); (first | omega | (simp only [List.length_map]; omega))))); ((apply vL_val); (case h => ((apply opv_ld_el); exact rfl; exact rfl; (first | assumption | infer_instance); assumption; exact rfl))))
      refine vL_callF rfl (s_pick sb b lv1 cur p _ q1.sc (by omega) (hw _ (List.mem_of_getElem? hpk))) rfl ?_
      rintro _ w3 (⟨hnil, rfl, rfl⟩ | ⟨x, lv2, hx, rfl, h⟩)
      · ((iterate 7 (((apply vL_val); (case h => ((apply opv_E); exact rfl))))); apply vL_nil; apply seqP_normal; (iterate 2 (apply vC_seq)); apply vC_region; ((apply vL_val); (case h => ((apply opv_E); exact rfl))); ((apply vL_val); (case h => ((apply opv_move); ((conv => lhs; whnf) <;> exact rfl)))))
        apply vL_val
        (case h => exact opv_lenMap' (kE := ikE) (vE := Value.bool) rfl hm ms.len)
        (((apply vL_val); (case h => ((apply opv_E); exact rfl))); ((apply vL_val); (case h => ((apply opv_neq_bool); exact rfl; exact rfl))); ((apply vL_val); (case h => ((apply opv_E); exact rfl))))
        refine vL_or rfl rfl (fun d => ?_) (fun d => absurd d (by simp [hnil]))
        (((apply vL_val); (case h => ((apply opv_E); exact rfl))); ((apply vL_wanted); exact rfl); ((apply vL_val); (case h => ((apply opv_E); exact rfl))); (iterate 4 (((apply vL_unwanted'); exact rfl; exact rfl))); ((apply vL_wanted); exact rfl); (iterate 2 (((apply vL_val); (case h => ((apply opv_E); exact rfl))))); apply vL_nil; apply seqP_normal; ((apply vC_cond_false); exact rfl); apply vC_skip; apply seqP_normal; (iterate 2 (apply vC_seq)); apply vC_region; ((apply vL_val); (case h => ((apply opv_E); exact rfl))); ((apply vL_val); (case h => ((apply opv_not); exact rfl))); apply vL_nil; apply seqP_normal; ((apply vC_cond_true); exact rfl); apply vC_exit; apply seqP_exit; apply blockP_exit; apply seqP_normal; apply vC_region; ((apply vL_val); (case h => ((apply opv_E); exact rfl))); ((apply vL_val); (case h => ((apply opv_add); exact rfl; exact rfl; (first | omega | (simp only [List.length_map]; omega))))); ((apply vL_val); (case h => ((apply opv_E); exact rfl))); apply vL_nil; apply loopP_normal)
        (with_reducible apply end1); (case hs => (repeat (first | (with_reducible exact same_mask _ _ _) | with_reducible apply same_updN | ((with_reducible refine same_updO ?_ ?_); rotate_left; exact rfl) | ((with_reducible refine same_upd ?_ ?_); rotate_left; exact rfl) | ((with_reducible refine same_maskIn ?_ ?_); rotate_left; exact rfl)))); (case h1 => (first | exact norm_eq rfl | ((conv => lhs; whnf) <;> exact rfl)))
        · exact ⟨k + 1, cur, lv1, M, rfl, by omega, by omega, q1, hc, hm, ms, hnn⟩
        · simp [RowKit.intOf]; omega
      have q2 := q1.to h
      have hm3 := hm.fr h.fr (fun hb => by
        rcases hb with hb | hb
        · exact hm.ne_blk q1.sc.hb hb.symm
        · exact hm.ne_own q1.sc.ho hb)
      clear h
      have hin := List.mem_of_getElem? hx
      have hlen := (List.getElem?_eq_some_iff.1 hx).1
      have hlk : ((mget M x).map Value.bool).getD (.bool false) = .bool true := by rw [ms.get x]; simp [hin]
      have hmod := Int.emod_nonneg p (b := (cur.length : Int)) (by omega)
      have her : without cur (p % cur.length) = cur.erase x := by
        have h := erase_at ms.nc hx
        rwa [Int.toNat_of_nonneg hmod] at h
      rw [her] at q2
      have hcl : (cur.erase x).length = cur.length - 1 := List.length_erase_of_mem hin
      have hnx : x ∉ cur.erase x := fun h => ((List.Nodup.mem_erase_iff ms.nc).1 h).1 rfl
      have hnn2 : ∀ y ∈ cur.erase x, 0 ≤ y := fun y hy => hnn y (List.mem_of_mem_erase hy)
      ((iterate 7 (((apply vL_val); (case h => ((apply opv_E); exact rfl))))); apply vL_nil; apply seqP_normal; (iterate 2 (apply vC_seq)); apply vC_region; ((apply vL_val); (case h => ((apply opv_E); exact rfl))); ((apply vL_val); (case h => ((apply opv_move); ((conv => lhs; whnf) <;> exact rfl)))))
      apply vL_val
      (case h => exact opv_lenMap' (kE := ikE) (vE := Value.bool) rfl hm3 ms.len)
      (((apply vL_val); (case h => ((apply opv_E); exact rfl))); ((apply vL_val); (case h => ((apply opv_neq_bool); exact rfl; exact rfl))); ((apply vL_val); (case h => ((apply opv_E); exact rfl))))
      refine vL_or rfl rfl (fun d => ?_) (fun d => absurd d (by have h0 : (0 : Int) < cur.length := (by omega); simp only [h0]; simp))
      (((apply vL_val); (case h => ((apply opv_E); exact rfl))); ((apply vL_wanted); exact rfl); ((apply vL_val); (case h => ((apply opv_E); exact rfl))); ((apply vL_wanted); exact rfl); ((apply vL_val); (case h => ((apply opv_move); ((conv => lhs; whnf) <;> exact rfl)))); ((apply vL_wanted); exact rfl); ((apply vL_val); (case h => ((apply opv_E); exact rfl))); ((apply vL_wanted); exact rfl))
      apply vL_val
      (case h => exact opv_lookup' (kE := ikE) (vE := Value.bool) (key := x) rfl rfl hm3 hlk)
      (((apply vL_wanted); exact rfl); ((apply vL_val); (case h => ((apply opv_not); exact rfl))); ((apply vL_wanted); exact rfl); (iterate 2 (((apply vL_val); (case h => ((apply opv_E); exact rfl))))); apply vL_nil; apply seqP_normal; ((apply vC_cond_false); exact rfl); apply vC_skip; apply seqP_normal; (iterate 2 (apply vC_seq)); apply vC_region; ((apply vL_val); (case h => ((apply opv_E); exact rfl))); ((apply vL_val); (case h => ((apply opv_not); exact rfl))); apply vL_nil; apply seqP_normal; ((apply vC_cond_false); exact rfl); apply vC_skip; apply seqP_normal; apply vC_seq; apply vC_region; ((apply vL_val); (case h => ((apply opv_move); ((conv => lhs; whnf) <;> exact rfl)))); ((apply vL_val); (case h => ((apply opv_E); exact rfl))))
      refine vL_mapDelete (kE := ikE) (vE := Value.bool) (key := x) rfl rfl hm3 ?_
      intro w4 hm4 hf4
      have q3 := q2.map hf4 hr0 hm3
      have ms4 := ms.del hin rfl
      have ha4 := ha.frN q3.fr
      clear q2 hm3 hm
      (apply vL_nil; apply seqP_normal; apply vC_seq; apply vC_region; ((apply vL_val); (case h => ((apply opv_E); exact rfl))); ((apply vL_val); (case h => ((apply opv_move); ((conv => lhs; whnf) <;> exact rfl)))); ((apply vL_val); (case h => ((apply opv_len); (first | exact norm_eq rfl | ((conv => lhs; whnf) <;> exact rfl)); (first | assumption | infer_instance)))); (iterate 2 (((apply vL_val); (case h => ((apply opv_E); exact rfl))))))
      refine vL_and rfl rfl (fun c5 => ?_) (fun c5 => ?_)
      · obtain ⟨ag, hag⟩ : ∃ q, again[k]? = some q := ⟨again[k]'(by omega), List.getElem?_eq_getElem _⟩
        (((apply vL_val); (case h => ((apply opv_move); ((conv => lhs; whnf) <;> exact rfl)))); ((apply vL_wanted); exact rfl); ((apply vL_val); (case h => ((apply opv_E); exact rfl))); ((apply vL_wanted); exact rfl); ((apply vL_val); (case h => ((apply opv_indexAddr); (first | exact norm_eq rfl | ((conv => lhs; whnf) <;> exact rfl)); exact rfl; (first | assumption | infer_instance); (first | omega | (simp only [List.length_map]; omega)); (first | omega | (simp only [List.length_map]; omega))))); ((apply vL_wanted); exact rfl); ((apply vL_val); (case h => ((apply opv_ld_el); exact rfl; exact rfl; (first | assumption | infer_instance); assumption; exact rfl))); ((apply vL_val); (case h => ((apply opv_E); exact rfl))); apply vL_nil; apply seqP_normal)
        refine vC_cond rfl (fun c6 => ?_) (fun c6 => ?_)
        · (apply vC_seq; apply vC_region; ((apply vL_val); (case h => ((apply opv_move); ((conv => lhs; whnf) <;> exact rfl)))); ((apply vL_val); (case h => ((apply opv_E); exact rfl))))
          refine vL_mapUpdate (kE := ikE) (vE := Value.bool) (key := x) (val := true) rfl rfl rfl hm4 ?_
          intro w5 hm5 hf5
          have q4 := q3.map hf5 hr0 hm4
          have ms5 := ms4.add hnx
          (apply vL_nil; apply seqP_normal; apply vC_seq; apply vC_region; (iterate 2 (((apply vL_val); (case h => ((apply opv_E); exact rfl))))))
          refine vL_callF rfl (s_ready sb b lv2 (cur.erase x) x _ q4.sc (by omega)) rfl ?_
          rintro _ w6 ⟨rfl, lv3, h⟩
          rcases ready_cases x (by omega : (cur.erase x).length < 256) with ⟨h0, _⟩ | ⟨h0, h1, _⟩ | ⟨h0, h1, hE, hL⟩
          · have := hnn x hin; omega
          · exact absurd h1 hnx
          rw [hE]
          rw [hL] at h
          have q5 := q4.to h
          have hm6 := hm5.fr h.fr (fun hb => by
            rcases hb with hb | hb
            · exact hm5.ne_blk q4.sc.hb hb.symm
            · exact hm5.ne_own q4.sc.ho hb)
          clear h
          have hcl2 : (cur.erase x ++ [x]).length ≤ 100 := by simp; omega
          ((iterate 2 (((apply vL_val); (case h => ((apply opv_E); exact rfl))))); ((apply vL_wanted); exact rfl); ((apply vL_val); (case h => ((apply opv_E); exact rfl))); ((apply vL_wanted); exact rfl))
          refine vL_callF rfl (s_list sb b lv3 _ _ q5.sc (by omega)) rfl ?_
          rintro v7 w7 ⟨hf7, ho7, hfr7, hone7⟩
          have q6 := q5.frN hf7
          (((apply vL_wanted); exact rfl); ((apply vL_val); (case h => ((apply opv_E); exact rfl))); ((apply vL_wanted); exact rfl))
          refine vL_callF rfl (s_len sb b lv3 _ _ q6.sc) rfl ?_
          rintro _ _ ⟨rfl, rfl⟩
          have hlast : (cur.erase x ++ [x])[(((cur.erase x ++ [x]).length : Int) - 1).toNat]? = some x := by
            have e : (((cur.erase x ++ [x]).length : Int) - 1).toNat = (cur.erase x).length := by simp
            rw [e]; simp
          have hpos : 1 ≤ (cur.erase x ++ [x]).length := by simp
          (((apply vL_wanted); exact rfl); ((apply vL_val); (case h => ((apply opv_sub); exact rfl; exact rfl; (first | omega | (simp only [List.length_map]; omega))))); ((apply vL_wanted); exact rfl); ((apply vL_val); (case h => ((apply opv_indexAddr); (first | exact norm_eq rfl | ((conv => lhs; whnf) <;> exact rfl)); exact rfl; (first | assumption | infer_instance); (first | omega | (simp only [List.length_map]; omega)); (first | omega | (simp only [List.length_map]; omega))))); ((apply vL_wanted); exact rfl); ((apply vL_val); (case h => ((apply opv_ld_el); exact rfl; exact rfl; (first | assumption | infer_instance); assumption; exact rfl))); ((apply vL_wanted); exact rfl); ((apply vL_val); (case h => ((apply opv_E); exact rfl))); ((apply vL_wanted); exact rfl); (iterate 2 (((apply vL_val); (case h => ((apply opv_E); exact rfl))))); apply vL_nil; apply seqP_normal)
          refine vC_cond_neg rfl (fun d => d rfl) ?_
          (apply vC_skip; apply blockP_normal; apply seqP_normal; apply vC_region; ((apply vL_val); (case h => ((apply opv_E); exact rfl))); ((apply vL_val); (case h => ((apply opv_add); exact rfl; exact rfl; (first | omega | (simp only [List.length_map]; omega))))); ((apply vL_val); (case h => ((apply opv_E); exact rfl))); apply vL_nil; apply loopP_normal)
          (with_reducible apply end1); (case hs => (repeat (first | (with_reducible exact same_mask _ _ _) | with_reducible apply same_updN | ((with_reducible refine same_updO ?_ ?_); rotate_left; exact rfl) | ((with_reducible refine same_upd ?_ ?_); rotate_left; exact rfl) | ((with_reducible refine same_maskIn ?_ ?_); rotate_left; exact rfl)))); (case h1 => (first | exact norm_eq rfl | ((conv => lhs; whnf) <;> exact rfl)))
          · exact ⟨k + 1, _, lv3, _, rfl, by omega, by omega, q6, hcl2, hm6.frN hf7, ms5, fun y hy => by simp at hy; rcases hy with hy | hy; exact hnn2 y hy; exact hy ▸ hnn x hin⟩
          · simp [RowKit.intOf]; omega
        · (apply vC_skip; apply blockP_normal; apply seqP_normal; apply vC_region; ((apply vL_val); (case h => ((apply opv_E); exact rfl))); ((apply vL_val); (case h => ((apply opv_add); exact rfl; exact rfl; (first | omega | (simp only [List.length_map]; omega))))); ((apply vL_val); (case h => ((apply opv_E); exact rfl))); apply vL_nil; apply loopP_normal)
          (with_reducible apply end1); (case hs => (repeat (first | (with_reducible exact same_mask _ _ _) | with_reducible apply same_updN | ((with_reducible refine same_updO ?_ ?_); rotate_left; exact rfl) | ((with_reducible refine same_upd ?_ ?_); rotate_left; exact rfl) | ((with_reducible refine same_maskIn ?_ ?_); rotate_left; exact rfl)))); (case h1 => (first | exact norm_eq rfl | ((conv => lhs; whnf) <;> exact rfl)))
          · exact ⟨k + 1, _, lv2, _, rfl, by omega, by omega, q3, by omega, hm4, ms4, hnn2⟩
          · simp [RowKit.intOf]; omega
      · ((iterate 3 (((apply vL_unwanted'); exact rfl; exact rfl))); ((apply vL_val); (case h => ((apply opv_E); exact rfl))); apply vL_nil; apply seqP_normal; ((apply vC_cond_false); exact rfl); apply vC_skip; apply blockP_normal; apply seqP_normal; apply vC_region; ((apply vL_val); (case h => ((apply opv_E); exact rfl))); ((apply vL_val); (case h => ((apply opv_add); exact rfl; exact rfl; (first | omega | (simp only [List.length_map]; omega))))); ((apply vL_val); (case h => ((apply opv_E); exact rfl))); apply vL_nil; apply loopP_normal)
        (with_reducible apply end1); (case hs => (repeat (first | (with_reducible exact same_mask _ _ _) | with_reducible apply same_updN | ((with_reducible refine same_updO ?_ ?_); rotate_left; exact rfl) | ((with_reducible refine same_upd ?_ ?_); rotate_left; exact rfl) | ((with_reducible refine same_maskIn ?_ ?_); rotate_left; exact rfl)))); (case h1 => (first | exact norm_eq rfl | ((conv => lhs; whnf) <;> exact rfl)))
        · exact ⟨k + 1, _, lv2, _, rfl, by omega, by omega, q3, by omega, hm4, ms4, hnn2⟩
        · simp [RowKit.intOf]; omega
    clear hp2 hk hk4
    (apply vC_exit; apply seqP_exit; apply loopP_exit; apply blockP_exit; apply seqP_normal; apply vC_seq; apply vC_region; ((apply vL_val); (case h => ((apply opv_E); exact rfl))))
    refine vL_callF rfl (s_list sb b lv1 cur _ q1.sc (by omega)) rfl ?_
    rintro v15 w3 ⟨hf3, ho3, hfr3, hone3⟩
    have q2 := q1.frN hf3
    have hm3 := hm.frN hf3
    (((apply vL_val); (case h => ((apply opv_assign); ((conv => lhs; whnf) <;> exact rfl)))); apply vL_nil; apply seqP_normal; (iterate 2 (apply vC_seq)); apply vC_region; ((apply vL_val); (case h => ((apply opv_move); ((conv => lhs; whnf) <;> exact rfl)))); ((apply vL_val); (case h => ((apply opv_len); (first | exact norm_eq rfl | ((conv => lhs; whnf) <;> exact rfl)); (first | assumption | infer_instance)))); ((apply vL_val); (case h => ((apply opv_E); exact rfl))); apply vL_nil; apply seqP_normal; apply vC_block)
    (apply vC_loop1 1461501550218616986443438186092383517123271393344 136 (fun u w' => ∃ (j : Nat) (lv : Value), u = .int .i64 (j : Int) ∧ j ≤ cur.length ∧ Ss w w' sb b lv (cur.drop j) ∧ Mp w'.heap r ikE Value.bool M ∧ Own w'.heap 3 1 iE v15 cur ∧ ∀ i, own lv = some i → own v15 ≠ some i) (fun u _ => cur.length - (RowKit.intOf u).toNat)); (case h1 => (first | exact norm_eq rfl | ((conv => lhs; whnf) <;> exact rfl)))
    case h0 => exact ⟨0, lv1, rfl, by omega, q2, hm3, ho3, fun i hi h => by have := q1.sc.ho.lt i hi; have := hfr3 i h; omega⟩
    case round =>
    rintro junk _ w4 ⟨j, lv3, rfl, hj, q3, hm4, ho4, hd⟩
    (apply vC_seq; apply vC_region; ((apply vL_val); (case h => ((apply opv_E); exact rfl))); apply vL_nil; apply seqP_normal; apply vC_seq)
    refine vC_cond_dec rfl (fun c7 => ?_) (fun c7 => ?_)
    · obtain ⟨x, hx⟩ : ∃ q, cur[j]? = some q := ⟨cur[j]'(by omega), List.getElem?_eq_getElem _⟩
      have hdl : (cur.drop j).length = cur.length - j := by simp
      (apply vC_skip; apply seqP_normal; apply vC_seq; apply vC_block; apply vC_seq; apply vC_region; (iterate 2 (((apply vL_val); (case h => ((apply opv_E); exact rfl))))); apply vL_nil; apply seqP_normal; apply vC_seq; apply vC_region; ((apply vL_val); (case h => ((apply opv_E); exact rfl))))
      refine vL_callF rfl (s_pick sb b lv3 (cur.drop j) 0 _ q3.sc (by omega) (by decide)) rfl ?_
      rintro _ w5 (⟨hnil, _⟩ | ⟨y, lv4, hy, rfl, h⟩)
      · rw [hnil] at hdl; simp at hdl; omega
      have e0 : (0 : Int) % ((cur.drop j).length : Int) = 0 := Int.zero_emod _
      have e1 : (0 : Int) / ((cur.drop j).length : Int) = 0 := Int.zero_ediv _
      rw [e0] at hy h
      rw [e1]
      have hy' : cur[j]? = some y := by simpa using hy
      obtain rfl : x = y := Option.some.inj (hx.symm.trans hy')
      have e2 : without (cur.drop j) 0 = cur.drop (j + 1) := by simp [without, List.drop_drop]
      rw [e2] at h
      have q4 := q3.to h
      have hm5 := hm4.fr h.fr (fun hb => by
        rcases hb with hb | hb
        · exact hm4.ne_blk q3.sc.hb hb.symm
        · exact hm4.ne_own q3.sc.ho hb)
      have ho5 : Own w5.heap 3 1 iE v15 cur := ho4.fr h.fr (fun j h6 h => by
        rcases h with rfl | h
        · exact Own.ne_blk ho4 q3.sc.hb (by decide) h6
        · exact hd j h h6)
      have hd5 : ∀ i, own lv4 = some i → own v15 ≠ some i := fun i hi h6 => by
        rcases h.fl i hi with h7 | h7
        · exact hd i h7 h6
        · have := ho4.lt i h6; omega
      clear h
      ((iterate 7 (((apply vL_val); (case h => ((apply opv_E); exact rfl))))); apply vL_nil; apply seqP_normal; apply vC_seq; apply vC_region; ((apply vL_val); (case h => ((apply opv_E); exact rfl))); ((apply vL_val); (case h => ((apply opv_not); exact rfl))); ((apply vL_val); (case h => ((apply opv_E); exact rfl))); ((apply vL_wanted); exact rfl); ((apply vL_val); (case h => ((apply opv_E); exact rfl))); ((apply vL_wanted); exact rfl); ((apply vL_val); (case h => ((apply opv_move); ((conv => lhs; whnf) <;> exact rfl)))); ((apply vL_wanted); exact rfl); ((apply vL_val); (case h => ((apply opv_E); exact rfl))); ((apply vL_wanted); exact rfl); ((apply vL_val); (case h => ((apply opv_indexAddr); (first | exact norm_eq rfl | ((conv => lhs; whnf) <;> exact rfl)); exact rfl; (first | assumption | infer_instance); (first | omega | (simp only [List.length_map]; omega)); (first | omega | (simp only [List.length_map]; omega))))); ((apply vL_wanted); exact rfl); ((apply vL_val); (case h => ((apply opv_ld_el); exact rfl; exact rfl; (first | assumption | infer_instance); assumption; exact rfl))); ((apply vL_wanted); exact rfl); (iterate 3 (((apply vL_val); (case h => ((apply opv_E); exact rfl))))))
      refine vL_or rfl rfl (fun d => ?_) (fun d => absurd rfl d)
      (((apply vL_val); (case h => ((apply opv_E); exact rfl))); ((apply vL_wanted); exact rfl); (iterate 2 (((apply vL_val); (case h => ((apply opv_E); exact rfl))))); apply vL_nil; apply seqP_normal; ((apply vC_cond_false); exact rfl); apply vC_skip; apply blockP_normal; apply seqP_normal; apply vC_region; ((apply vL_val); (case h => ((apply opv_add); exact rfl; exact rfl; (first | omega | (simp only [List.length_map]; omega))))); ((apply vL_val); (case h => ((apply opv_E); exact rfl))); apply vL_nil; apply loopP_normal)
      (with_reducible apply end1); (case hs => (repeat (first | (with_reducible exact same_mask _ _ _) | with_reducible apply same_updN | ((with_reducible refine same_updO ?_ ?_); rotate_left; exact rfl) | ((with_reducible refine same_upd ?_ ?_); rotate_left; exact rfl) | ((with_reducible refine same_maskIn ?_ ?_); rotate_left; exact rfl)))); (case h1 => (first | exact norm_eq rfl | ((conv => lhs; whnf) <;> exact rfl)))
      · exact ⟨j + 1, lv4, rfl, by omega, q4, hm5, ho5, hd5⟩
      · simp [RowKit.intOf]; omega
    have hdl : cur.drop j = [] := List.drop_of_length_le (by omega)
    rw [hdl] at q3
    (apply vC_exit; apply seqP_exit; apply loopP_exit; apply blockP_exit; apply seqP_normal; apply vC_seq; apply vC_region; ((apply vL_val); (case h => ((apply opv_move); ((conv => lhs; whnf) <;> exact rfl)))); ((apply vL_val); (case h => ((apply opv_len); (first | exact norm_eq rfl | ((conv => lhs; whnf) <;> exact rfl)); (first | assumption | infer_instance)))); ((apply vL_val); (case h => ((apply opv_move); ((conv => lhs; whnf) <;> exact rfl)))))
    apply vL_val
    (case h => exact opv_lenMap' (kE := ikE) (vE := Value.bool) rfl hm4 ms.len)
    ((iterate 2 (((apply vL_val); (case h => ((apply opv_E); exact rfl))))))
    refine vL_and rfl rfl (fun d => ?_) (fun d => absurd rfl d)
    (((apply vL_val); (case h => ((apply opv_E); exact rfl))); ((apply vL_wanted); exact rfl))
    refine vL_callF rfl (s_len sb b lv3 [] _ q3.sc) rfl ?_
    rintro _ _ ⟨rfl, rfl⟩
    (((apply vL_wanted); exact rfl); (iterate 3 (((apply vL_val); (case h => ((apply opv_E); exact rfl))))); ((apply vL_wanted); exact rfl))
    refine vL_callF rfl (awake14 _) rfl ?_
    rintro _ w9 ⟨rfl, hf9⟩
    ((iterate 2 (((apply vL_val); (case h => ((apply opv_E); exact rfl))))); apply vL_nil; apply seqP_normal; apply vC_ret)
    (apply ret1; (case h1 => (first | exact norm_eq rfl | ((conv => lhs; whnf) <;> exact rfl))))
    exact ⟨rfl, q3.fr.trans hf9⟩
  clear hp2 hk hk4
  (((apply vL_unwanted'); exact rfl; exact rfl); ((apply vL_val); (case h => ((apply opv_E); exact rfl))); apply vL_nil; apply seqP_normal; ((apply vC_cond_false); exact rfl); apply vC_exit; apply seqP_exit; apply loopP_exit; apply blockP_exit; apply seqP_normal; apply vC_seq; apply vC_region; ((apply vL_val); (case h => ((apply opv_E); exact rfl))))
  refine vL_callF rfl (s_list sb b lv1 cur _ q1.sc (by omega)) rfl ?_
  rintro v15 w3 ⟨hf3, ho3, hfr3, hone3⟩
  have q2 := q1.frN hf3
  have hm3 := hm.frN hf3
  (((apply vL_val); (case h => ((apply opv_assign); ((conv => lhs; whnf) <;> exact rfl)))); apply vL_nil; apply seqP_normal; (iterate 2 (apply vC_seq)); apply vC_region; ((apply vL_val); (case h => ((apply opv_move); ((conv => lhs; whnf) <;> exact rfl)))); ((apply vL_val); (case h => ((apply opv_len); (first | exact norm_eq rfl | ((conv => lhs; whnf) <;> exact rfl)); (first | assumption | infer_instance)))); ((apply vL_val); (case h => ((apply opv_E); exact rfl))); apply vL_nil; apply seqP_normal; apply vC_block)
  (apply vC_loop1 1461501550218616986443438186092383517123271393344 136 (fun u w' => ∃ (j : Nat) (lv : Value), u = .int .i64 (j : Int) ∧ j ≤ cur.length ∧ Ss w w' sb b lv (cur.drop j) ∧ Mp w'.heap r ikE Value.bool M ∧ Own w'.heap 3 1 iE v15 cur ∧ ∀ i, own lv = some i → own v15 ≠ some i) (fun u _ => cur.length - (RowKit.intOf u).toNat)); (case h1 => (first | exact norm_eq rfl | ((conv => lhs; whnf) <;> exact rfl)))
  case h0 => exact ⟨0, lv1, rfl, by omega, q2, hm3, ho3, fun i hi h => by have := q1.sc.ho.lt i hi; have := hfr3 i h; omega⟩
  case round =>
  rintro junk _ w4 ⟨j, lv3, rfl, hj, q3, hm4, ho4, hd⟩
  (apply vC_seq; apply vC_region; ((apply vL_val); (case h => ((apply opv_E); exact rfl))); apply vL_nil; apply seqP_normal; apply vC_seq)
  refine vC_cond_dec rfl (fun c7 => ?_) (fun c7 => ?_)
  · obtain ⟨x, hx⟩ : ∃ q, cur[j]? = some q := ⟨cur[j]'(by omega), List.getElem?_eq_getElem _⟩
    have hdl : (cur.drop j).length = cur.length - j := by simp
    (apply vC_skip; apply seqP_normal; apply vC_seq; apply vC_block; apply vC_seq; apply vC_region; (iterate 2 (((apply vL_val); (case h => ((apply opv_E); exact rfl))))); apply vL_nil; apply seqP_normal; apply vC_seq; apply vC_region; ((apply vL_val); (case h => ((apply opv_E); exact rfl))))
    refine vL_callF rfl (s_pick sb b lv3 (cur.drop j) 0 _ q3.sc (by omega) (by decide)) rfl ?_
    rintro _ w5 (⟨hnil, _⟩ | ⟨y, lv4, hy, rfl, h⟩)
    · rw [hnil] at hdl; simp at hdl; omega
    have e0 : (0 : Int) % ((cur.drop j).length : Int) = 0 := Int.zero_emod _
    have e1 : (0 : Int) / ((cur.drop j).length : Int) = 0 := Int.zero_ediv _
    rw [e0] at hy h
    rw [e1]
    have hy' : cur[j]? = some y := by simpa using hy
    obtain rfl : x = y := Option.some.inj (hx.symm.trans hy')
    have e2 : without (cur.drop j) 0 = cur.drop (j + 1) := by simp [without, List.drop_drop]
    rw [e2] at h
    have q4 := q3.to h
    have hm5 := hm4.fr h.fr (fun hb => by
      rcases hb with hb | hb
      · exact hm4.ne_blk q3.sc.hb hb.symm
      · exact hm4.ne_own q3.sc.ho hb)
    have ho5 : Own w5.heap 3 1 iE v15 cur := ho4.fr h.fr (fun j h6 h => by
      rcases h with rfl | h
      · exact Own.ne_blk ho4 q3.sc.hb (by decide) h6
      · exact hd j h h6)
    have hd5 : ∀ i, own lv4 = some i → own v15 ≠ some i := fun i hi h6 => by
      rcases h.fl i hi with h7 | h7
      · exact hd i h7 h6
      · have := ho4.lt i h6; omega
    clear h
    ((iterate 7 (((apply vL_val); (case h => ((apply opv_E); exact rfl))))); apply vL_nil; apply seqP_normal; apply vC_seq; apply vC_region; ((apply vL_val); (case h => ((apply opv_E); exact rfl))); ((apply vL_val); (case h => ((apply opv_not); exact rfl))); ((apply vL_val); (case h => ((apply opv_E); exact rfl))); ((apply vL_wanted); exact rfl); ((apply vL_val); (case h => ((apply opv_E); exact rfl))); ((apply vL_wanted); exact rfl); ((apply vL_val); (case h => ((apply opv_move); ((conv => lhs; whnf) <;> exact rfl)))); ((apply vL_wanted); exact rfl); ((apply vL_val); (case h => ((apply opv_E); exact rfl))); ((apply vL_wanted); exact rfl); ((apply vL_val); (case h => ((apply opv_indexAddr); (first | exact norm_eq rfl | ((conv => lhs; whnf) <;> exact rfl)); exact rfl; (first | assumption | infer_instance); (first | omega | (simp only [List.length_map]; omega)); (first | omega | (simp only [List.length_map]; omega))))); ((apply vL_wanted); exact rfl); ((apply vL_val); (case h => ((apply opv_ld_el); exact rfl; exact rfl; (first | assumption | infer_instance); assumption; exact rfl))); ((apply vL_wanted); exact rfl); (iterate 3 (((apply vL_val); (case h => ((apply opv_E); exact rfl))))))
    refine vL_or rfl rfl (fun d => ?_) (fun d => absurd rfl d)
    (((apply vL_val); (case h => ((apply opv_E); exact rfl))); ((apply vL_wanted); exact rfl); (iterate 2 (((apply vL_val); (case h => ((apply opv_E); exact rfl))))); apply vL_nil; apply seqP_normal; ((apply vC_cond_false); exact rfl); apply vC_skip; apply blockP_normal; apply seqP_normal; apply vC_region; ((apply vL_val); (case h => ((apply opv_add); exact rfl; exact rfl; (first | omega | (simp only [List.length_map]; omega))))); ((apply vL_val); (case h => ((apply opv_E); exact rfl))); apply vL_nil; apply loopP_normal)
    (with_reducible apply end1); (case hs => (repeat (first | (with_reducible exact same_mask _ _ _) | with_reducible apply same_updN | ((with_reducible refine same_updO ?_ ?_); rotate_left; exact rfl) | ((with_reducible refine same_upd ?_ ?_); rotate_left; exact rfl) | ((with_reducible refine same_maskIn ?_ ?_); rotate_left; exact rfl)))); (case h1 => (first | exact norm_eq rfl | ((conv => lhs; whnf) <;> exact rfl)))
    · exact ⟨j + 1, lv4, rfl, by omega, q4, hm5, ho5, hd5⟩
    · simp [RowKit.intOf]; omega
  have hdl : cur.drop j = [] := List.drop_of_length_le (by omega)
  rw [hdl] at q3
  (apply vC_exit; apply seqP_exit; apply loopP_exit; apply blockP_exit; apply seqP_normal; apply vC_seq; apply vC_region; ((apply vL_val); (case h => ((apply opv_move); ((conv => lhs; whnf) <;> exact rfl)))); ((apply vL_val); (case h => ((apply opv_len); (first | exact norm_eq rfl | ((conv => lhs; whnf) <;> exact rfl)); (first | assumption | infer_instance)))); ((apply vL_val); (case h => ((apply opv_move); ((conv => lhs; whnf) <;> exact rfl)))))
  apply vL_val
  (case h => exact opv_lenMap' (kE := ikE) (vE := Value.bool) rfl hm4 ms.len)
  ((iterate 2 (((apply vL_val); (case h => ((apply opv_E); exact rfl))))))
  refine vL_and rfl rfl (fun d => ?_) (fun d => absurd rfl d)
  (((apply vL_val); (case h => ((apply opv_E); exact rfl))); ((apply vL_wanted); exact rfl))
  refine vL_callF rfl (s_len sb b lv3 [] _ q3.sc) rfl ?_
  rintro _ _ ⟨rfl, rfl⟩
  (((apply vL_wanted); exact rfl); (iterate 3 (((apply vL_val); (case h => ((apply opv_E); exact rfl))))); ((apply vL_wanted); exact rfl))
  refine vL_callF rfl (awake14 _) rfl ?_
  rintro _ w9 ⟨rfl, hf9⟩
  ((iterate 2 (((apply vL_val); (case h => ((apply opv_E); exact rfl))))); apply vL_nil; apply seqP_normal; apply vC_ret)
  (apply ret1; (case h1 => (first | exact norm_eq rfl | ((conv => lhs; whnf) <;> exact rfl))))
  exact ⟨rfl, q3.fr.trans hf9⟩
end Go.Proofs.Ytaeckjhipmcddaa
