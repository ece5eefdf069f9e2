/- The document's answer for layer 14; schedulers that nobody made; the chapter's example. -/
import Derived.Test.YtaeckjhipmcddaaSc
set_option maxRecDepth 100000
namespace Go.Proofs.Ytaeckjhipmcddaa
open Go Go.Eng
theorem place14 (v : Value) (xs : List Int) (y : Int) (w : World) (hr : Rd w.heap 1 iE v xs) :
    Rets Try.prog 15 #[v, .int .i64 y] w fun u w' => w = w' ∧ ((u = .int .i64 (-1) ∧ y ∉ xs) ∨ ∃ k : Nat, u = .int .i64 k ∧ k < xs.length ∧ xs[k]? = some y ∧ ∀ j : Nat, j < k → ∀ x, xs[j]? = some x → x ≠ y) := by
  have hs := hr.small
  refine rets_of Try.func15 rfl Try.ntmps15 rfl rfl (by kernel_rfl) ?_
  (apply vC_seq; apply vC_region; ((apply vL_val); (case h => ((apply opv_E); exact rfl))); apply vL_nil; apply seqP_normal; (iterate 2 (apply vC_seq)); apply vC_region; ((apply vL_val); (case h => ((apply opv_E); exact rfl))); apply vL_nil; apply seqP_normal; apply vC_block)
  (apply vC_loop1 524272 5 (fun u w' => ∃ k : Nat, u = .int .i64 k ∧ k ≤ xs.length ∧ w = w' ∧ ∀ j : Nat, j < k → ∀ x, xs[j]? = some x → x ≠ y) (fun u _ => xs.length - (RowKit.intOf u).toNat)); (case h1 => (first | exact norm_eq rfl | ((conv => lhs; whnf) <;> exact rfl)))
  case h0 => exact ⟨0, rfl, by omega, rfl, by omega⟩
  case round =>
  rintro junk _ _ ⟨k, rfl, hk, rfl, hp⟩
  ((iterate 2 (apply vC_seq)); apply vC_region; ((apply vL_val); (case h => ((apply opv_E); exact rfl))); ((apply vL_val); (case h => ((apply opv_move); ((conv => lhs; whnf) <;> exact rfl)))); ((apply vL_val); (case h => ((apply opv_len); (first | exact norm_eq rfl | ((conv => lhs; whnf) <;> exact rfl)); (first | assumption | infer_instance)))); ((apply vL_val); (case h => ((apply opv_E); exact rfl))); apply vL_nil; apply seqP_normal)
  refine vC_cond_dec rfl (fun h => ?_) (fun h => ?_)
  · have hk' : k < xs.length := by omega
    obtain ⟨x, hx⟩ : ∃ x, xs[k]? = some x := ⟨xs[k], by simp [hk']⟩
    (apply vC_skip; apply seqP_normal; apply vC_seq; apply vC_block; apply vC_seq; apply vC_region; ((apply vL_val); (case h => ((apply opv_move); ((conv => lhs; whnf) <;> exact rfl)))); ((apply vL_val); (case h => ((apply opv_E); exact rfl))); ((apply vL_val); (case h => ((apply opv_indexAddr); (first | exact norm_eq rfl | ((conv => lhs; whnf) <;> exact rfl)); exact rfl; (first | assumption | infer_instance); (first | omega | (simp only [List.length_map]; omega)); (first | omega | (simp only [List.length_map]; omega))))); ((apply vL_val); (case h => ((apply opv_ld_el); exact rfl; exact rfl; (first | assumption | infer_instance); assumption; exact rfl))); (iterate 2 (((apply vL_val); (case h => ((apply opv_E); exact rfl))))); apply vL_nil; apply seqP_normal)
    refine vC_cond_dec rfl (fun hpx => ?_) (fun hpx => ?_)
    · (apply vC_seq; apply vC_region; (iterate 2 (((apply vL_val); (case h => ((apply opv_E); exact rfl))))); apply vL_nil; apply seqP_normal; apply vC_ret; apply blockP_ret; apply seqP_ret; apply loopP_ret; apply blockP_ret; apply seqP_ret)
      (apply ret1; (case h1 => (first | exact norm_eq rfl | ((conv => lhs; whnf) <;> exact rfl))))
      exact ⟨rfl, .inr ⟨k, rfl, hk', by rw [hx, hpx], hp⟩⟩
    · (apply vC_skip; apply blockP_normal; apply seqP_normal; apply vC_region; ((apply vL_val); (case h => ((apply opv_E); exact rfl))); ((apply vL_val); (case h => ((apply opv_add); exact rfl; exact rfl; (first | omega | (simp only [List.length_map]; omega))))); ((apply vL_val); (case h => ((apply opv_E); exact rfl))); apply vL_nil; apply loopP_normal)
      (with_reducible apply end1); (case hs => (repeat (first | (with_reducible exact same_mask _ _ _) | with_reducible apply same_updN | ((with_reducible refine same_updO ?_ ?_); rotate_left; exact rfl) | ((with_reducible refine same_upd ?_ ?_); rotate_left; exact rfl) | ((with_reducible refine same_maskIn ?_ ?_); rotate_left; exact rfl)))); (case h1 => (first | exact norm_eq rfl | ((conv => lhs; whnf) <;> exact rfl)))
      · exact ⟨k + 1, rfl, by omega, rfl, fun j hj z hz => by
          by_cases e : j = k
          · subst e; rw [hx] at hz; cases hz; exact hpx
          · exact hp j (by omega) z hz⟩
      · simp [RowKit.intOf]; omega
  · (apply vC_exit; apply seqP_exit; apply loopP_exit; apply blockP_exit; apply seqP_normal; apply vC_seq; apply vC_region; ((apply vL_val); (case h => ((apply opv_E); exact rfl))); apply vL_nil; apply seqP_normal; apply vC_ret)
    (apply ret1; (case h1 => (first | exact norm_eq rfl | ((conv => lhs; whnf) <;> exact rfl))))
    refine ⟨rfl, .inl ⟨rfl, fun hy => ?_⟩⟩
    obtain ⟨j, hj, e⟩ := List.getElem_of_mem hy
    exact hp j (by omega) y (by rw [← e]; exact List.getElem?_eq_getElem hj) rfl
theorem ready14 (v : Value) (xs : List Int) (y : Int) (w : World) (ho : Own w.heap 3 1 iE v xs) (hone : v.oneCell' = true) (hbig : xs.length ≤ 256) :
    Rets Try.prog 11 #[v, .int .i64 y] w fun u w' => ∃ v', u = .tuple #[v', .int .i64 (readyE xs y)] ∧ Fr No w w' ∧ Own w'.heap 3 1 iE v' (readyL xs y) ∧ (∀ k, own v' = some k → own v = some k ∨ w.heap.size ≤ k) ∧ v'.oneCell' = true := by
  have hr := ho.rd
  obtain ⟨la, ln, lc, hv⟩ := ho.isSlice
  unfold readyE readyL
  refine rets_of Try.func11 rfl Try.ntmps11 rfl rfl (by kernel_rfl) ?_
  (apply vC_seq; apply vC_region; (iterate 2 (((apply vL_val); (case h => ((apply opv_E); exact rfl))))); apply vL_nil; apply seqP_normal; (iterate 2 (apply vC_seq)); apply vC_region; (iterate 2 (((apply vL_val); (case h => ((apply opv_E); exact rfl))))); apply vL_nil; apply seqP_normal)
  refine vC_cond_dec rfl (fun h0 => ?_) (fun h0 => ?_)
  · subst hv
    (apply vC_seq; apply vC_region; (iterate 3 (((apply vL_val); (case h => ((apply opv_E); exact rfl))))); apply vL_nil; apply seqP_normal; apply vC_ret; apply seqP_ret)
    (apply ret2; (case h1 => (first | exact norm_eq rfl | ((conv => lhs; whnf) <;> exact rfl))); (case h2 => (first | exact norm_eq rfl | ((conv => lhs; whnf) <;> exact rfl))))
    rw [if_pos h0, if_pos h0]
    exact ⟨_, rfl, Fr.refl _ _, ho, fun k h => .inl h, hone⟩
  rw [if_neg h0, if_neg h0]
  (apply vC_skip; apply seqP_normal; (iterate 2 (apply vC_seq)); apply vC_region; ((apply vL_val); (case h => ((apply opv_move); ((conv => lhs; whnf) <;> exact rfl)))); ((apply vL_val); (case h => ((apply opv_E); exact rfl))))
  refine vL_callF rfl (place14 v xs y w hr) rfl ?_
  rintro _ _ ⟨rfl, ⟨rfl, h1⟩ | ⟨k, rfl, hk, h1, _⟩⟩
  rotate_left
  · have hm := List.mem_of_getElem? h1
    subst hv
    (((apply vL_val); (case h => ((apply opv_E); exact rfl))); apply vL_nil; apply seqP_normal; ((apply vC_cond_true); exact rfl); apply vC_seq; apply vC_region; (iterate 3 (((apply vL_val); (case h => ((apply opv_E); exact rfl))))); apply vL_nil; apply seqP_normal; apply vC_ret; apply seqP_ret)
    (apply ret2; (case h1 => (first | exact norm_eq rfl | ((conv => lhs; whnf) <;> exact rfl))); (case h2 => (first | exact norm_eq rfl | ((conv => lhs; whnf) <;> exact rfl))))
    rw [if_pos hm, if_pos hm]
    exact ⟨_, rfl, Fr.refl _ _, ho, fun k h => .inl h, hone⟩
  rw [if_neg h1, if_neg h1]
  (((apply vL_val); (case h => ((apply opv_E); exact rfl))); apply vL_nil; apply seqP_normal; ((apply vC_cond_false); exact rfl); apply vC_skip; apply seqP_normal; (iterate 2 (apply vC_seq)); apply vC_region; ((apply vL_val); (case h => ((apply opv_move); ((conv => lhs; whnf) <;> exact rfl)))); ((apply vL_val); (case h => ((apply opv_len); (first | exact norm_eq rfl | ((conv => lhs; whnf) <;> exact rfl)); (first | assumption | infer_instance)))); ((apply vL_val); (case h => ((apply opv_E); exact rfl))); apply vL_nil; apply seqP_normal)
  refine vC_cond_dec rfl (fun h2 => ?_) (fun h2 => ?_)
  · subst hv
    (apply vC_seq; apply vC_region; (iterate 3 (((apply vL_val); (case h => ((apply opv_E); exact rfl))))); apply vL_nil; apply seqP_normal; apply vC_ret; apply seqP_ret)
    (apply ret2; (case h1 => (first | exact norm_eq rfl | ((conv => lhs; whnf) <;> exact rfl))); (case h2 => (first | exact norm_eq rfl | ((conv => lhs; whnf) <;> exact rfl))))
    rw [if_pos (by omega), if_pos (by omega)]
    exact ⟨_, rfl, Fr.refl _ _, ho, fun k h => .inl h, hone⟩
  rw [if_neg (by omega), if_neg (by omega)]
  (apply vC_skip; apply seqP_normal; apply vC_seq; apply vC_region; ((apply vL_val); (case h => ((apply opv_E); exact rfl))); apply vL_nil; apply seqP_normal; apply vC_seq; apply vC_region; ((apply vL_val); (case h => ((apply opv_E); exact rfl))); ((apply vL_val); (case h => ((apply opv_move); ((conv => lhs; whnf) <;> exact rfl)))))
  refine vL_append (enc := iE) (xs := []) (ys := xs) (T := 3) (sz := 1) (by (first | exact norm_eq rfl | ((conv => lhs; whnf) <;> exact rfl))) (by (first | exact norm_eq rfl | ((conv => lhs; whnf) <;> exact rfl))) (Own.nil _ _ _ _) hr rfl (by decide) ?_ ?_ ?_
  · simp [maxLen]; omega
  · simp; omega
  intro v1 w1 ho1 hf1 hfr1 hone1 _
  have hfa : Fr No w w1 := hf1.mono (fun k _ h => by cases h)
  rw [List.nil_append] at ho1
  (((apply vL_val); (case h => ((apply opv_assign); ((conv => lhs; whnf) <;> exact rfl)))); apply vL_nil; apply seqP_normal; apply vC_seq; apply vC_region; ((apply vL_val); (case h => ((apply opv_move); ((conv => lhs; whnf) <;> exact rfl)))); ((apply vL_val); (case h => ((apply opv_E); exact rfl))); ((apply vL_val); (case h => ((apply opw_buildSl); exact rfl; exact rfl; exact rfl; (first | exact (rfl : _ = some []) | exact (rfl : _ = some [_]) | exact (rfl : _ = some [_, _]) | exact (rfl : _ = some [_, _, _]) | exact (rfl : _ = some [_, _, _, _]) | exact (rfl : _ = some [_, _, _, _, _]) | exact (rfl : _ = some [_, _, _, _, _, _]) | exact (rfl : _ = some [_, _, _, _, _, _, _]) | exact (rfl : _ = some [_, _, _, _, _, _, _, _]) | exact (rfl : _ = some [_, _, _, _, _, _, _, _, _]) | exact (rfl : _ = some [_, _, _, _, _, _, _, _, _, _]) | exact (rfl : _ = some [_, _, _, _, _, _, _, _, _, _, _]) | exact (rfl : _ = some [_, _, _, _, _, _, _, _, _, _, _, _]) | exact (rfl : _ = some [_, _, _, _, _, _, _, _, _, _, _, _, _]) | exact (rfl : _ = some [_, _, _, _, _, _, _, _, _, _, _, _, _, _]) | exact (rfl : _ = some [_, _, _, _, _, _, _, _, _, _, _, _, _, _, _]) | exact (rfl : _ = some [_, _, _, _, _, _, _, _, _, _, _, _, _, _, _, _]))))))
  refine vL_append (enc := iE) (xs := xs) (ys := [y]) (by (first | exact norm_eq rfl | ((conv => lhs; whnf) <;> exact rfl))) (by (first | exact norm_eq rfl | ((conv => lhs; whnf) <;> exact rfl))) (Own.alloc ho1) (Rd.new1 _ _ rfl) rfl (by decide) ?_ ?_ ?_
  · simp [maxLen]; omega
  · simp; omega
  intro v2 w2 ho2 hf2 hfr2 hone2 _
  have hnew : ∀ k, own v1 = some k → w.heap.size ≤ k := fun k hk => by
    rcases hfr1 k hk with h | h
    · cases h
    · exact h
  (((apply vL_val); (case h => ((apply opv_assign); ((conv => lhs; whnf) <;> exact rfl)))); ((apply vL_val); (case h => ((apply opv_E); exact rfl))); apply vL_nil; apply seqP_normal; apply vC_ret)
  (apply ret2; (case h1 => (first | exact norm_eq rfl | ((conv => lhs; whnf) <;> exact rfl))); (case h2 => (first | exact norm_eq rfl | ((conv => lhs; whnf) <;> exact rfl))))
  refine ⟨v2, rfl, ((hfa.alloc _).trans' hf2 (fun i hi => .inr (hnew i hi))), ho2, fun k hk => .inr ?_, hone2⟩
  rcases hfr2 k hk with h | h
  · exact hnew k h
  · have := hfa.size; rw [alloc_size] at h; omega
theorem pick14 (v : Value) (xs : List Int) (p : Int) (w : World) (ho : Own w.heap 3 1 iE v xs) (hone : v.oneCell' = true) (hbig : xs.length ≤ 256) (hp : 0 ≤ p ∧ p ≤ 18446744073709551615) :
    Rets Try.prog 13 #[v, .int .u64 p] w fun u w' =>
      (xs = [] ∧ u = .tuple #[v, .int .i64 0, .int .u64 0, .bool false] ∧ w = w') ∨
      ∃ (x : Int) (v' : Value), xs[(p % xs.length).toNat]? = some x ∧ u = .tuple #[v', .int .i64 x, .int .u64 (p / xs.length), .bool true] ∧ Fr No w w' ∧ Own w'.heap 3 1 iE v' (without xs (p % xs.length)) ∧ (∀ k, own v' = some k → w.heap.size ≤ k) ∧ v'.oneCell' = true := by
  have hr := ho.rd
  obtain ⟨la, ln, lc, hv⟩ := ho.isSlice
  refine rets_of Try.func13 rfl Try.ntmps13 rfl rfl (by kernel_rfl) ?_
  (apply vC_seq; apply vC_region; (iterate 4 (((apply vL_val); (case h => ((apply opv_E); exact rfl))))); apply vL_nil; apply seqP_normal; (iterate 2 (apply vC_seq)); apply vC_region; ((apply vL_val); (case h => ((apply opv_move); ((conv => lhs; whnf) <;> exact rfl)))); ((apply vL_val); (case h => ((apply opv_len); (first | exact norm_eq rfl | ((conv => lhs; whnf) <;> exact rfl)); (first | assumption | infer_instance)))); ((apply vL_val); (case h => ((apply opv_E); exact rfl))); apply vL_nil; apply seqP_normal)
  refine vC_cond_dec rfl (fun h0 => ?_) (fun h0 => ?_)
  · subst hv
    (apply vC_seq; apply vC_region; (iterate 5 (((apply vL_val); (case h => ((apply opv_E); exact rfl))))); apply vL_nil; apply seqP_normal; apply vC_ret; apply seqP_ret)
    (apply ret4; (case h1 => (first | exact norm_eq rfl | ((conv => lhs; whnf) <;> exact rfl))); (case h2 => (first | exact norm_eq rfl | ((conv => lhs; whnf) <;> exact rfl))); (case h3 => (first | exact norm_eq rfl | ((conv => lhs; whnf) <;> exact rfl))); (case h4 => (first | exact norm_eq rfl | ((conv => lhs; whnf) <;> exact rfl))))
    exact .inl ⟨List.eq_nil_of_length_eq_zero (by omega), rfl, rfl⟩
  have hm0 := Int.emod_nonneg p (b := (xs.length : Int)) (by omega)
  have hm1 := Int.emod_lt_of_pos p (b := (xs.length : Int)) (by omega)
  obtain ⟨x, hx⟩ : ∃ x, xs[(p % xs.length).toNat]? = some x := ⟨xs[(p % xs.length).toNat]'(by omega), List.getElem?_eq_getElem _⟩
  (apply vC_skip; apply seqP_normal; apply vC_seq; apply vC_region; ((apply vL_val); (case h => ((apply opv_move); ((conv => lhs; whnf) <;> exact rfl)))); ((apply vL_val); (case h => ((apply opv_len); (first | exact norm_eq rfl | ((conv => lhs; whnf) <;> exact rfl)); (first | assumption | infer_instance)))); ((apply vL_val); (case h => ((apply opv_conv_u); exact rfl; (first | omega | (simp only [List.length_map]; omega))))); ((apply vL_val); (case h => ((apply opv_E); exact rfl))); apply vL_nil; apply seqP_normal; apply vC_seq; apply vC_region; (iterate 2 (((apply vL_val); (case h => ((apply opv_E); exact rfl))))); ((apply vL_val); (case h => ((apply opv_rem); exact rfl; exact rfl; (first | omega | (simp only [List.length_map]; omega)); (first | omega | (simp only [List.length_map]; omega))))); ((apply vL_val); (case h => ((apply opv_conv_i); exact rfl; (first | omega | (simp only [List.length_map]; omega))))); ((apply vL_val); (case h => ((apply opv_E); exact rfl))); apply vL_nil; apply seqP_normal; apply vC_seq)
  refine vC_draw' (fun wf => Fr No w wf) ((Fr.refl No w).drew) ?_
  ((apply (tk 0)); (case hi => exact rfl); (case hf => kernel_rfl); (case hS => (repeat (first | exact Fr.refl _ _ | assumption | with_reducible apply Fr.allocSet | with_reducible apply Fr.alloc | with_reducible apply Fr.drewN | with_reducible apply Fr.drew | ((with_reducible apply Fr.set); rotate_left; (right; ((try simp only [alloc_size]); omega))) | (refine Fr.trans ?_ (by assumption))))); (case hy => (intro wf hwf; haveI := From.mk hwf; (((apply opv_move); ((conv => lhs; whnf) <;> exact rfl))))))
  ((apply (tk 1)); (case hi => exact rfl); (case hf => kernel_rfl); (case hS => (repeat (first | exact Fr.refl _ _ | assumption | with_reducible apply Fr.allocSet | with_reducible apply Fr.alloc | with_reducible apply Fr.drewN | with_reducible apply Fr.drew | ((with_reducible apply Fr.set); rotate_left; (right; ((try simp only [alloc_size]); omega))) | (refine Fr.trans ?_ (by assumption))))); (case hy => (intro wf hwf; haveI := From.mk hwf; (((apply opv_E); exact rfl)))))
  ((apply (tk 3)); (case hi => exact rfl); (case hf => kernel_rfl); (case hS => (repeat (first | exact Fr.refl _ _ | assumption | with_reducible apply Fr.allocSet | with_reducible apply Fr.alloc | with_reducible apply Fr.drewN | with_reducible apply Fr.drew | ((with_reducible apply Fr.set); rotate_left; (right; ((try simp only [alloc_size]); omega))) | (refine Fr.trans ?_ (by assumption))))); (case hy => (intro wf hwf; haveI := From.mk hwf; (((apply opv_move); ((conv => lhs; whnf) <;> exact rfl))))))
  ((apply (tk 4)); (case hi => exact rfl); (case hf => kernel_rfl); (case hS => (repeat (first | exact Fr.refl _ _ | assumption | with_reducible apply Fr.allocSet | with_reducible apply Fr.alloc | with_reducible apply Fr.drewN | with_reducible apply Fr.drew | ((with_reducible apply Fr.set); rotate_left; (right; ((try simp only [alloc_size]); omega))) | (refine Fr.trans ?_ (by assumption))))); (case hy => (intro wf hwf; haveI := From.mk hwf; (((apply opv_E); exact rfl)))))
  ((apply (tk 5)); (case hi => exact rfl); (case hf => kernel_rfl); (case hS => (repeat (first | exact Fr.refl _ _ | assumption | with_reducible apply Fr.allocSet | with_reducible apply Fr.alloc | with_reducible apply Fr.drewN | with_reducible apply Fr.drew | ((with_reducible apply Fr.set); rotate_left; (right; ((try simp only [alloc_size]); omega))) | (refine Fr.trans ?_ (by assumption))))); (case hy => (intro wf hwf; haveI := From.mk hwf; (((apply opv_indexAddr); (first | exact norm_eq rfl | ((conv => lhs; whnf) <;> exact rfl)); exact rfl; (first | assumption | infer_instance); (first | omega | (simp only [List.length_map]; omega)); (first | omega | (simp only [List.length_map]; omega)))))))
  ((apply (tk 6)); (case hi => exact rfl); (case hf => kernel_rfl); (case hS => (repeat (first | exact Fr.refl _ _ | assumption | with_reducible apply Fr.allocSet | with_reducible apply Fr.alloc | with_reducible apply Fr.drewN | with_reducible apply Fr.drew | ((with_reducible apply Fr.set); rotate_left; (right; ((try simp only [alloc_size]); omega))) | (refine Fr.trans ?_ (by assumption))))); (case hy => (intro wf hwf; haveI := From.mk hwf; (((apply opv_ld_el); exact rfl; exact rfl; (first | assumption | infer_instance); assumption; exact rfl)))))
  ((apply (tk 7)); (case hi => exact rfl); (case hf => kernel_rfl); (case hS => (repeat (first | exact Fr.refl _ _ | assumption | with_reducible apply Fr.allocSet | with_reducible apply Fr.alloc | with_reducible apply Fr.drewN | with_reducible apply Fr.drew | ((with_reducible apply Fr.set); rotate_left; (right; ((try simp only [alloc_size]); omega))) | (refine Fr.trans ?_ (by assumption))))); (case hy => (intro wf hwf; haveI := From.mk hwf; (((apply opv_E); exact rfl)))))
  ((apply (tk 8)); (case hi => exact rfl); (case hf => kernel_rfl); (case hS => (repeat (first | exact Fr.refl _ _ | assumption | with_reducible apply Fr.allocSet | with_reducible apply Fr.alloc | with_reducible apply Fr.drewN | with_reducible apply Fr.drew | ((with_reducible apply Fr.set); rotate_left; (right; ((try simp only [alloc_size]); omega))) | (refine Fr.trans ?_ (by assumption))))); (case hy => (intro wf hwf; haveI := From.mk hwf; (((apply opv_E); exact rfl)))))
  ((apply (tk 9)); (case hi => exact rfl); (case hf => kernel_rfl); (case hS => (repeat (first | exact Fr.refl _ _ | assumption | with_reducible apply Fr.allocSet | with_reducible apply Fr.alloc | with_reducible apply Fr.drewN | with_reducible apply Fr.drew | ((with_reducible apply Fr.set); rotate_left; (right; ((try simp only [alloc_size]); omega))) | (refine Fr.trans ?_ (by assumption))))); (case hy => (intro wf hwf; haveI := From.mk hwf; (((apply opv_quou); exact rfl; exact rfl; (first | omega | (simp only [List.length_map]; omega)); (first | omega | (simp only [List.length_map]; omega)))))))
  (refine tkc 2 rfl (by kernel_rfl) (by (repeat (first | exact Fr.refl _ _ | assumption | with_reducible apply Fr.allocSet | with_reducible apply Fr.alloc | with_reducible apply Fr.drewN | with_reducible apply Fr.drew | ((with_reducible apply Fr.set); rotate_left; (right; ((try simp only [alloc_size]); omega))) | (refine Fr.trans ?_ (by assumption))))) rfl (without13 v (p % xs.length) xs w.drew hr (by omega)) rfl ?_)
  rintro v' w1 ⟨hf1, ho1, hfr1, hone1⟩
  have hf : Fr No w w1 := Fr.trans ((Fr.refl No w).drew) hf1
  ((apply (tk 10)); (case hi => exact rfl); (case hf => kernel_rfl); (case hS => (repeat (first | exact Fr.refl _ _ | assumption | with_reducible apply Fr.allocSet | with_reducible apply Fr.alloc | with_reducible apply Fr.drewN | with_reducible apply Fr.drew | ((with_reducible apply Fr.set); rotate_left; (right; ((try simp only [alloc_size]); omega))) | (refine Fr.trans ?_ (by assumption))))); (case hy => (intro wf hwf; haveI := From.mk hwf; (((apply opv_assign); ((conv => lhs; whnf) <;> exact rfl))))))
  ((apply (tk 11)); (case hi => exact rfl); (case hf => kernel_rfl); (case hS => (repeat (first | exact Fr.refl _ _ | assumption | with_reducible apply Fr.allocSet | with_reducible apply Fr.alloc | with_reducible apply Fr.drewN | with_reducible apply Fr.drew | ((with_reducible apply Fr.set); rotate_left; (right; ((try simp only [alloc_size]); omega))) | (refine Fr.trans ?_ (by assumption))))); (case hy => (intro wf hwf; haveI := From.mk hwf; (((apply opv_E); exact rfl)))))
  ((apply (tk 12)); (case hi => exact rfl); (case hf => kernel_rfl); (case hS => (repeat (first | exact Fr.refl _ _ | assumption | with_reducible apply Fr.allocSet | with_reducible apply Fr.alloc | with_reducible apply Fr.drewN | with_reducible apply Fr.drew | ((with_reducible apply Fr.set); rotate_left; (right; ((try simp only [alloc_size]); omega))) | (refine Fr.trans ?_ (by assumption))))); (case hy => (intro wf hwf; haveI := From.mk hwf; (((apply opv_E); exact rfl)))))
  ((apply (tk 13)); (case hi => exact rfl); (case hf => kernel_rfl); (case hS => (repeat (first | exact Fr.refl _ _ | assumption | with_reducible apply Fr.allocSet | with_reducible apply Fr.alloc | with_reducible apply Fr.drewN | with_reducible apply Fr.drew | ((with_reducible apply Fr.set); rotate_left; (right; ((try simp only [alloc_size]); omega))) | (refine Fr.trans ?_ (by assumption))))); (case hy => (intro wf hwf; haveI := From.mk hwf; (((apply opv_E); exact rfl)))))
  refine vA_done (by kernel_rfl) (by (first | exact trivial | ((repeat (first | exact Fr.refl _ _ | assumption | with_reducible apply Fr.allocSet | with_reducible apply Fr.alloc | with_reducible apply Fr.drewN | with_reducible apply Fr.drew | ((with_reducible apply Fr.set); rotate_left; (right; ((try simp only [alloc_size]); omega))) | (refine Fr.trans ?_ (by assumption)))); done))) ?_
  (apply seqP_normal; apply vC_ret)
  (apply ret4; (case h1 => (first | exact norm_eq rfl | ((conv => lhs; whnf) <;> exact rfl))); (case h2 => (first | exact norm_eq rfl | ((conv => lhs; whnf) <;> exact rfl))); (case h3 => (first | exact norm_eq rfl | ((conv => lhs; whnf) <;> exact rfl))); (case h4 => (first | exact norm_eq rfl | ((conv => lhs; whnf) <;> exact rfl))))
  exact .inr ⟨x, v', hx, rfl, hf, ho1, hfr1, hone1⟩

theorem s_nil_len (w : World) : Rets Try.prog 19 #[.pointer none] w fun u w' => w = w' ∧ u = .int .i64 0 := by
  refine rets_of Try.func19 rfl Try.ntmps19 rfl rfl (by kernel_rfl) ?_
  (apply vC_seq; apply vC_region; ((apply vL_val); (case h => ((apply opv_E); exact rfl))); apply vL_nil; apply seqP_normal; (iterate 2 (apply vC_seq)); apply vC_region; ((apply vL_val); (case h => ((apply opv_E); exact rfl))); ((apply vL_val); (case h => ((apply opv_eql_pnil); exact rfl; exact rfl; (simp; done)))); apply vL_nil; apply seqP_normal; ((apply vC_cond_true); exact rfl); apply vC_seq; apply vC_region; ((apply vL_val); (case h => ((apply opv_E); exact rfl))); apply vL_nil; apply seqP_normal; apply vC_ret; apply seqP_ret)
  (apply ret1; (case h1 => (first | exact norm_eq rfl | ((conv => lhs; whnf) <;> exact rfl))))
  exact ⟨rfl, rfl⟩
theorem q_nil_len (w : World) : Rets Try.prog 62 #[.pointer none] w fun u w' => w = w' ∧ u = .int .i64 0 := by
  refine rets_of Try.func62 rfl Try.ntmps62 rfl rfl (by kernel_rfl) ?_
  (apply vC_seq; apply vC_region; ((apply vL_val); (case h => ((apply opv_E); exact rfl))); apply vL_nil; apply seqP_normal; (iterate 2 (apply vC_seq)); apply vC_region; ((apply vL_val); (case h => ((apply opv_E); exact rfl))))
  refine vL_callF rfl (q_right_nil_int w) rfl ?_
  rintro _ _ ⟨rfl, rfl⟩
  (((apply vL_val); (case h => ((apply opv_not); exact rfl))); apply vL_nil; apply seqP_normal; ((apply vC_cond_true); exact rfl); apply vC_seq; apply vC_region; ((apply vL_val); (case h => ((apply opv_E); exact rfl))); apply vL_nil; apply seqP_normal; apply vC_ret; apply seqP_ret)
  (apply ret1; (case h1 => (first | exact norm_eq rfl | ((conv => lhs; whnf) <;> exact rfl))))
  exact ⟨rfl, rfl⟩
theorem s_zero_len (sb : Nat) (w : World) (hs : Blk w.heap sb [.pointer none] 45) : Rets Try.prog 19 #[.pointer (some ⟨sb, 0, none⟩)] w fun u w' => w = w' ∧ u = .int .i64 0 := by
  refine rets_of Try.func19 rfl Try.ntmps19 rfl rfl (by kernel_rfl) ?_
  (apply vC_seq; apply vC_region; ((apply vL_val); (case h => ((apply opv_E); exact rfl))); apply vL_nil; apply seqP_normal; (iterate 2 (apply vC_seq)); apply vC_region; ((apply vL_val); (case h => ((apply opv_E); exact rfl))); ((apply vL_val); (case h => ((apply opv_eql_pnil); exact rfl; exact rfl; (simp; done)))); apply vL_nil; apply seqP_normal; ((apply vC_cond_false); exact rfl); apply vC_skip; apply seqP_normal; apply vC_seq; apply vC_region; (iterate 2 (((apply vL_val); (case h => ((apply opv_E); exact rfl))))); ((apply vL_val); (case h => ((apply opv_fieldAddr); exact rfl))); ((apply vL_val); (case h => ((apply opv_loadb1); exact rfl; exact rfl; (first | assumption | infer_instance); exact rfl))))
  refine vL_callF rfl (q_nil_len w) rfl ?_
  rintro _ _ ⟨rfl, rfl⟩
  (((apply vL_val); (case h => ((apply opv_E); exact rfl))); apply vL_nil; apply seqP_normal; apply vC_ret)
  (apply ret1; (case h1 => (first | exact norm_eq rfl | ((conv => lhs; whnf) <;> exact rfl))))
  exact ⟨rfl, rfl⟩
theorem s_pick0 (q : Value) (p : Int) (w : World) (h : Rets Try.prog 19 #[q] w fun u w' => w = w' ∧ u = .int .i64 0) : Rets Try.prog 14 #[q, .int .u64 p] w fun u w' => w = w' ∧ u = .tuple #[.int .i64 0, .int .u64 0, .bool false] := by
  refine rets_of Try.func14 rfl Try.ntmps14 rfl rfl (by kernel_rfl) ?_
  (apply vC_seq; apply vC_region; (iterate 3 (((apply vL_val); (case h => ((apply opv_E); exact rfl))))); apply vL_nil; apply seqP_normal; apply vC_seq; apply vC_region; ((apply vL_val); (case h => ((apply opv_move); ((conv => lhs; whnf) <;> exact rfl)))))
  refine vL_callF rfl (h) rfl ?_
  rintro _ _ ⟨rfl, rfl⟩
  (((apply vL_val); (case h => ((apply opv_conv_u); exact rfl; (first | omega | (simp only [List.length_map]; omega))))); ((apply vL_val); (case h => ((apply opv_E); exact rfl))); apply vL_nil; apply seqP_normal; (iterate 2 (apply vC_seq)); apply vC_region; (iterate 2 (((apply vL_val); (case h => ((apply opv_E); exact rfl))))); apply vL_nil; apply seqP_normal; ((apply vC_cond_true); exact rfl); apply vC_seq; apply vC_region; (iterate 3 (((apply vL_val); (case h => ((apply opv_E); exact rfl))))); apply vL_nil; apply seqP_normal; apply vC_ret; apply seqP_ret)
  (apply ret3; (case h1 => (first | exact norm_eq rfl | ((conv => lhs; whnf) <;> exact rfl))); (case h2 => (first | exact norm_eq rfl | ((conv => lhs; whnf) <;> exact rfl))); (case h3 => (first | exact norm_eq rfl | ((conv => lhs; whnf) <;> exact rfl))))
  exact ⟨rfl, rfl⟩
theorem s_nil_ready (id : Int) (w : World) : Rets Try.prog 12 #[.pointer none, .int .i64 id] w fun u w' => w = w' ∧ u = .int .i64 1 := by
  refine rets_of Try.func12 rfl Try.ntmps12 rfl rfl (by kernel_rfl) ?_
  (apply vC_seq; apply vC_region; ((apply vL_val); (case h => ((apply opv_E); exact rfl))); apply vL_nil; apply seqP_normal; apply vC_seq; apply vC_block; apply vC_seq; apply vC_region; ((apply vL_val); (case h => ((apply opv_E); exact rfl))); ((apply vL_val); (case h => ((apply opv_eql_pnil); exact rfl; exact rfl; (simp; done)))); ((apply vL_val); (case h => ((apply opv_E); exact rfl))); (iterate 5 (((apply vL_unwanted'); exact rfl; exact rfl))); (iterate 2 (((apply vL_val); (case h => ((apply opv_E); exact rfl))))); apply vL_nil; apply seqP_normal; ((apply vC_cond_true); exact rfl); apply vC_seq; apply vC_region; ((apply vL_val); (case h => ((apply opv_E); exact rfl))); apply vL_nil; apply seqP_normal; apply vC_ret; apply blockP_ret; apply seqP_ret)
  (apply ret1; (case h1 => (first | exact norm_eq rfl | ((conv => lhs; whnf) <;> exact rfl))))
  exact ⟨rfl, rfl⟩
theorem s_zero_ready (sb : Nat) (id : Int) (w : World) (hs : Blk w.heap sb [.pointer none] 45) : Rets Try.prog 12 #[.pointer (some ⟨sb, 0, none⟩), .int .i64 id] w fun u w' => w = w' ∧ u = .int .i64 1 := by
  refine rets_of Try.func12 rfl Try.ntmps12 rfl rfl (by kernel_rfl) ?_
  (apply vC_seq; apply vC_region; ((apply vL_val); (case h => ((apply opv_E); exact rfl))); apply vL_nil; apply seqP_normal; apply vC_seq; apply vC_block; apply vC_seq; apply vC_region; ((apply vL_val); (case h => ((apply opv_E); exact rfl))); ((apply vL_val); (case h => ((apply opv_eql_pnil); exact rfl; exact rfl; (simp; done)))); ((apply vL_val); (case h => ((apply opv_E); exact rfl))); ((apply vL_wanted); exact rfl); ((apply vL_val); (case h => ((apply opv_E); exact rfl))); ((apply vL_wanted); exact rfl); ((apply vL_val); (case h => ((apply opv_E); exact rfl))); ((apply vL_wanted); exact rfl); ((apply vL_val); (case h => ((apply opv_fieldAddr); exact rfl))); ((apply vL_wanted); exact rfl); ((apply vL_val); (case h => ((apply opv_loadb1); exact rfl; exact rfl; (first | assumption | infer_instance); exact rfl))); ((apply vL_wanted); exact rfl); ((apply vL_val); (case h => ((apply opv_eql_pnil); exact rfl; exact rfl; (simp; done)))); (iterate 2 (((apply vL_val); (case h => ((apply opv_E); exact rfl))))); apply vL_nil; apply seqP_normal; ((apply vC_cond_true); exact rfl); apply vC_seq; apply vC_region; ((apply vL_val); (case h => ((apply opv_E); exact rfl))); apply vL_nil; apply seqP_normal; apply vC_ret; apply blockP_ret; apply seqP_ret)
  (apply ret1; (case h1 => (first | exact norm_eq rfl | ((conv => lhs; whnf) <;> exact rfl))))
  exact ⟨rfl, rfl⟩
theorem s_nil_gone (id : Int) (w : World) : Rets Try.prog 16 #[.pointer none, .int .i64 id] w fun u w' => Fr No w w' ∧ u = .bool false := by
  refine rets_of Try.func16 rfl Try.ntmps16 rfl rfl (by kernel_rfl) ?_
  (apply vC_seq; apply vC_region; ((apply vL_val); (case h => ((apply opw_box1); (first | exact norm_eq rfl | ((conv => lhs; whnf) <;> exact rfl)); (first | rfl | assumption)))); ((apply vL_val); (case h => ((apply opv_E); exact rfl))); apply vL_nil; apply seqP_normal; (iterate 2 (apply vC_seq)); apply vC_region; ((apply vL_val); (case h => ((apply opv_E); exact rfl))); ((apply vL_val); (case h => ((apply opv_eql_pnil); exact rfl; exact rfl; (simp; done)))); apply vL_nil; apply seqP_normal; ((apply vC_cond_true); exact rfl); apply vC_seq; apply vC_region; ((apply vL_val); (case h => ((apply opv_E); exact rfl))); apply vL_nil; apply seqP_normal; apply vC_ret; apply seqP_ret)
  (apply ret1; (case h1 => (first | exact norm_eq rfl | ((conv => lhs; whnf) <;> exact rfl))))
  exact ⟨by (repeat (first | exact Fr.refl _ _ | assumption | with_reducible apply Fr.allocSet | with_reducible apply Fr.alloc | with_reducible apply Fr.drewN | with_reducible apply Fr.drew | ((with_reducible apply Fr.set); rotate_left; (right; ((try simp only [alloc_size]); omega))) | (refine Fr.trans ?_ (by assumption)))), rfl⟩
theorem s_nil_list (w : World) : Rets Try.prog 18 #[.pointer none] w fun u w' => w = w' ∧ u = .slice none 0 0 := by
  refine rets_of Try.func18 rfl Try.ntmps18 rfl rfl (by kernel_rfl) ?_
  (apply vC_seq; apply vC_region; ((apply vL_val); (case h => ((apply opv_E); exact rfl))); apply vL_nil; apply seqP_normal; (iterate 2 (apply vC_seq)); apply vC_region; ((apply vL_val); (case h => ((apply opv_E); exact rfl))); ((apply vL_val); (case h => ((apply opv_eql_pnil); exact rfl; exact rfl; (simp; done)))); apply vL_nil; apply seqP_normal; ((apply vC_cond_true); exact rfl); apply vC_seq; apply vC_region; ((apply vL_val); (case h => ((apply opv_E); exact rfl))); apply vL_nil; apply seqP_normal; apply vC_ret; apply seqP_ret)
  (apply ret1; (case h1 => (first | exact norm_eq rfl | ((conv => lhs; whnf) <;> exact rfl))))
  exact ⟨rfl, rfl⟩

theorem awake14 (w : World) : Rets Try.prog 21 #[] w fun u w' => u = .bool true ∧ Fr No w w' := by
  refine rets_of Try.func21 rfl Try.ntmps21 rfl rfl (by kernel_rfl) ?_
  (apply vC_seq; apply vC_region; ((apply vL_val); (case h => ((apply opv_E); exact rfl))); apply vL_nil; apply seqP_normal; apply vC_seq; apply vC_region)
  refine vL_callF rfl (s_new w) rfl ?_
  rintro _ w1 ⟨sb, b, lv, rfl, q0⟩
  (((apply vL_val); (case h => ((apply opv_E); exact rfl))); apply vL_nil; apply seqP_normal; (iterate 2 (apply vC_seq)); apply vC_region; ((apply vL_val); (case h => ((apply opv_E); exact rfl))); ((apply vL_val); (case h => ((apply opv_eql_pnil); exact rfl; exact rfl; (simp; done)))); ((apply vL_val); (case h => ((apply opv_E); exact rfl))); ((apply vL_wanted); exact rfl); ((apply vL_val); (case h => ((apply opv_E); exact rfl))); ((apply vL_wanted); exact rfl))
  refine vL_callF rfl (s_ready sb b lv [] 5 w1 q0.sc (by decide)) rfl ?_
  rintro _ w2 ⟨rfl, lv2, h⟩
  have q1 : Ss w w2 sb b lv2 [5] := q0.to h
  clear h
  (((apply vL_wanted); exact rfl); (iterate 3 (((apply vL_val); (case h => ((apply opv_E); exact rfl))))); ((apply vL_wanted); exact rfl); ((apply vL_val); (case h => ((apply opv_E); exact rfl))); ((apply vL_wanted); exact rfl))
  refine vL_callF rfl (s_ready sb b lv2 [5] 7 w2 q1.sc (by decide)) rfl ?_
  rintro _ w3 ⟨rfl, lv3, h⟩
  have q2 : Ss w w3 sb b lv3 [5, 7] := q1.to h
  clear h
  (((apply vL_wanted); exact rfl); (iterate 3 (((apply vL_val); (case h => ((apply opv_E); exact rfl))))); ((apply vL_wanted); exact rfl); ((apply vL_val); (case h => ((apply opv_E); exact rfl))); ((apply vL_wanted); exact rfl))
  refine vL_callF rfl (s_ready sb b lv3 [5, 7] 9 w3 q2.sc (by decide)) rfl ?_
  rintro _ w4 ⟨rfl, lv4, h⟩
  have q3 : Ss w w4 sb b lv4 [5, 7, 9] := q2.to h
  clear h
  (((apply vL_wanted); exact rfl); (iterate 3 (((apply vL_val); (case h => ((apply opv_E); exact rfl))))); ((apply vL_wanted); exact rfl); ((apply vL_val); (case h => ((apply opv_E); exact rfl))); ((apply vL_wanted); exact rfl))
  refine vL_callF rfl (s_ready sb b lv4 [5, 7, 9] 7 w4 q3.sc (by decide)) rfl ?_
  rintro _ w5 ⟨rfl, lv5, h⟩
  have q4 : Ss w w5 sb b lv5 [5, 7, 9] := q3.to h
  clear h
  (((apply vL_wanted); exact rfl); (iterate 2 (((apply vL_val); (case h => ((apply opv_E); exact rfl))))); apply vL_nil; apply seqP_normal; ((apply vC_cond_false); exact rfl); apply vC_skip; apply seqP_normal; apply vC_seq; apply vC_region; ((apply vL_val); (case h => ((apply opv_E); exact rfl))))
  refine vL_callF rfl (s_pick sb b lv5 [5, 7, 9] 4 w5 q4.sc (by decide) (by decide)) rfl ?_
  rintro _ w6 (⟨h, _⟩ | ⟨x, lv6, hx, rfl, h⟩)
  · cases h
  obtain rfl : 7 = x := Option.some.inj hx
  have q5 : Ss w w6 sb b lv6 [5, 9] := q4.to h
  clear h
  ((iterate 7 (((apply vL_val); (case h => ((apply opv_E); exact rfl))))); apply vL_nil; apply seqP_normal; apply vC_seq; apply vC_region; ((apply vL_val); (case h => ((apply opv_E); exact rfl))))
  refine vL_callF rfl (s_pick sb b lv6 [5, 9] 0 w6 q5.sc (by decide) (by decide)) rfl ?_
  rintro _ w7 (⟨h, _⟩ | ⟨x, lv7, hx, rfl, h⟩)
  · cases h
  obtain rfl : 5 = x := Option.some.inj hx
  have q6 : Ss w w7 sb b lv7 [9] := q5.to h
  clear h
  ((iterate 7 (((apply vL_val); (case h => ((apply opv_E); exact rfl))))); apply vL_nil; apply seqP_normal; apply vC_seq; apply vC_region; ((apply vL_val); (case h => ((apply opv_E); exact rfl))))
  refine vL_callF rfl (s_gone sb b lv7 [9] 9 w7 q6.sc (by decide)) rfl ?_
  rintro _ w8 ⟨rfl, lv8, h⟩
  have q7 : Ss w w8 sb b lv8 [] := q6.to h
  clear h
  (((apply vL_val); (case h => ((apply opv_E); exact rfl))); apply vL_nil; apply seqP_normal; apply vC_seq; apply vC_region; ((apply vL_val); (case h => ((apply opv_E); exact rfl))))
  refine vL_callF rfl (s_pick sb b lv8 [] 1 w8 q7.sc (by decide) (by decide)) rfl ?_
  rintro _ w9 (⟨_, rfl, rfl⟩ | ⟨x, lv9, hx, rfl, h⟩)
  rotate_left
  · simp at hx
  ((iterate 7 (((apply vL_val); (case h => ((apply opv_E); exact rfl))))); apply vL_nil; apply seqP_normal; apply vC_seq; apply vC_region; (iterate 3 (((apply vL_val); (case h => ((apply opv_E); exact rfl))))); ((apply vL_wanted); exact rfl); ((apply vL_val); (case h => ((apply opv_E); exact rfl))); ((apply vL_wanted); exact rfl); (iterate 3 (((apply vL_val); (case h => ((apply opv_E); exact rfl))))); ((apply vL_wanted); exact rfl); (iterate 3 (((apply vL_val); (case h => ((apply opv_E); exact rfl))))); ((apply vL_wanted); exact rfl); ((apply vL_val); (case h => ((apply opv_E); exact rfl))); ((apply vL_wanted); exact rfl); (iterate 3 (((apply vL_val); (case h => ((apply opv_E); exact rfl))))); ((apply vL_wanted); exact rfl); ((apply vL_val); (case h => ((apply opv_E); exact rfl))); ((apply vL_wanted); exact rfl); (iterate 3 (((apply vL_val); (case h => ((apply opv_E); exact rfl))))); ((apply vL_wanted); exact rfl); (iterate 3 (((apply vL_val); (case h => ((apply opv_E); exact rfl))))); ((apply vL_wanted); exact rfl); (iterate 3 (((apply vL_val); (case h => ((apply opv_E); exact rfl))))); ((apply vL_wanted); exact rfl); ((apply vL_val); (case h => ((apply opv_E); exact rfl))); ((apply vL_wanted); exact rfl); ((apply vL_val); (case h => ((apply opv_not); exact rfl))); (iterate 2 (((apply vL_val); (case h => ((apply opv_E); exact rfl))))); ((apply vL_wanted); exact rfl); ((apply vL_val); (case h => ((apply opv_E); exact rfl))); ((apply vL_wanted); exact rfl))
  refine vL_callF rfl (s_len sb b lv8 [] _ q7.sc) rfl ?_
  rintro _ _ ⟨rfl, rfl⟩
  (((apply vL_wanted); exact rfl); (iterate 3 (((apply vL_val); (case h => ((apply opv_E); exact rfl))))); apply vL_nil; apply seqP_normal; apply vC_ret)
  (apply ret1; (case h1 => (first | exact norm_eq rfl | ((conv => lhs; whnf) <;> exact rfl))))
  exact ⟨rfl, q7.fr⟩
end Go.Proofs.Ytaeckjhipmcddaa
