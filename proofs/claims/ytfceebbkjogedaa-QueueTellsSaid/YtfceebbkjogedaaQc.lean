/- Layer 13: a queue's calls. -/
import Derived.Test.YtfceebbkjogedaaQb
set_option maxRecDepth 100000
namespace Go.Proofs.Ytfceebbkjogedaa
open Go Go.Eng

theorem q_of_int (v : Value) (xs : List Int) (w : World) (hr : Rd w.heap 1 iE v xs) (hbig : xs.length * 8 ≤ 140737488355328) :
    Rets Try.prog 24 #[v] w fun u w' => Fr No w w' ∧ ∃ b lv, u = .pointer (some ⟨b, 0, none⟩) ∧ w.heap.size ≤ b ∧ Blk w'.heap b [.bool true, lv] 56 ∧ Own w'.heap 3 1 iE lv xs ∧ (∀ k, own lv = some k → w.heap.size ≤ k) ∧ lv.oneCell' = true := by
  refine rets_of Try.func24 rfl Try.ntmps24 rfl rfl (by kernel_rfl) ?_
  (apply vC_seq; apply vC_region; ((apply vL_val); (case h => ((apply opv_E); exact rfl))); apply vL_nil; apply seqP_normal; apply vC_seq; apply vC_region; ((apply vL_val); (case h => ((apply opv_move); ((conv => lhs; whnf) <;> exact rfl)))))
  refine vL_callF rfl (clone_int v xs w hr hbig) rfl ?_
  rintro lv w1 ⟨hf1, ho1, hfresh1, hone⟩
  obtain ⟨la, ln, lc, rfl⟩ := ho1.isSlice
  (((apply vL_val); (case h => ((apply opv_buildS); exact rfl; (first | exact (rfl : _ = some []) | exact (rfl : _ = some [_]) | exact (rfl : _ = some [_, _]) | exact (rfl : _ = some [_, _, _]) | exact (rfl : _ = some [_, _, _, _]) | exact (rfl : _ = some [_, _, _, _, _]) | exact (rfl : _ = some [_, _, _, _, _, _]) | exact (rfl : _ = some [_, _, _, _, _, _, _]) | exact (rfl : _ = some [_, _, _, _, _, _, _, _]) | exact (rfl : _ = some [_, _, _, _, _, _, _, _, _]) | exact (rfl : _ = some [_, _, _, _, _, _, _, _, _, _]) | exact (rfl : _ = some [_, _, _, _, _, _, _, _, _, _, _]) | exact (rfl : _ = some [_, _, _, _, _, _, _, _, _, _, _, _]) | exact (rfl : _ = some [_, _, _, _, _, _, _, _, _, _, _, _, _]) | exact (rfl : _ = some [_, _, _, _, _, _, _, _, _, _, _, _, _, _]) | exact (rfl : _ = some [_, _, _, _, _, _, _, _, _, _, _, _, _, _, _]) | exact (rfl : _ = some [_, _, _, _, _, _, _, _, _, _, _, _, _, _, _, _]))))); ((apply vL_val); (case h => ((apply opw_boxn); exact rfl))); ((apply vL_val); (case h => ((apply opv_E); exact rfl))); apply vL_nil; apply seqP_normal; apply vC_ret)
  (apply ret1; (case h1 => (first | exact norm_eq rfl | ((conv => lhs; whnf) <;> exact rfl))))
  exact ⟨hf1.alloc _, _, _, rfl, hf1.size, inferInstance, inferInstance, hfresh1, hone⟩

theorem q_push_int (b : Nat) (lv : Value) (x : Int) (xs : List Int) (w : World) (hb : Blk w.heap b [.bool true, lv] 56) (ho : Own w.heap 3 1 iE lv xs) (hbig : (xs.length + 1) * 8 ≤ 140737488355328) :
    Rets Try.prog 26 #[.pointer (some ⟨b, 0, none⟩), .int .i64 x] w fun u w' => ∃ lv', Fr (fun k => k = b ∨ own lv = some k) w w' ∧ Blk w'.heap b [.bool true, lv'] 56 ∧ Own w'.heap 3 1 iE lv' (xs ++ [x]) ∧ (∀ k, own lv' = some k → own lv = some k ∨ w.heap.size ≤ k) ∧ lv'.oneCell' = true := by
  refine rets_of Try.func26 rfl Try.ntmps26 rfl rfl (by kernel_rfl) ?_
  (apply vC_seq; apply vC_region; ((apply vL_val); (case h => ((apply opv_E); exact rfl))))
  refine vL_callF rfl (q_right_int b true lv w hb) rfl ?_
  rintro _ _ ⟨rfl, rfl⟩
  (apply vL_nil; apply seqP_normal; ((apply vC_cond_true); exact rfl); apply vC_region; (iterate 3 (((apply vL_val); (case h => ((apply opv_E); exact rfl))))); ((apply vL_val); (case h => ((apply opv_fieldAddr); exact rfl))); ((apply vL_val); (case h => ((apply opv_loadb1); exact rfl; exact rfl; (first | assumption | infer_instance); exact rfl))); ((apply vL_val); (case h => ((apply opv_E); exact rfl))); ((apply vL_val); (case h => ((apply opw_buildSl); exact rfl; exact rfl; exact rfl; (first | exact (rfl : _ = some []) | exact (rfl : _ = some [_]) | exact (rfl : _ = some [_, _]) | exact (rfl : _ = some [_, _, _]) | exact (rfl : _ = some [_, _, _, _]) | exact (rfl : _ = some [_, _, _, _, _]) | exact (rfl : _ = some [_, _, _, _, _, _]) | exact (rfl : _ = some [_, _, _, _, _, _, _]) | exact (rfl : _ = some [_, _, _, _, _, _, _, _]) | exact (rfl : _ = some [_, _, _, _, _, _, _, _, _]) | exact (rfl : _ = some [_, _, _, _, _, _, _, _, _, _]) | exact (rfl : _ = some [_, _, _, _, _, _, _, _, _, _, _]) | exact (rfl : _ = some [_, _, _, _, _, _, _, _, _, _, _, _]) | exact (rfl : _ = some [_, _, _, _, _, _, _, _, _, _, _, _, _]) | exact (rfl : _ = some [_, _, _, _, _, _, _, _, _, _, _, _, _, _]) | exact (rfl : _ = some [_, _, _, _, _, _, _, _, _, _, _, _, _, _, _]) | exact (rfl : _ = some [_, _, _, _, _, _, _, _, _, _, _, _, _, _, _, _]))))))
  refine vL_append (enc := iE) (xs := xs) (ys := [x]) (by (first | exact norm_eq rfl | ((conv => lhs; whnf) <;> exact rfl))) (by (first | exact norm_eq rfl | ((conv => lhs; whnf) <;> exact rfl))) (Own.alloc ho) (Rd.new1 _ _ rfl) rfl (by decide) ?_ ?_ ?_
  · simp [maxLen]; omega
  · simp; omega
  intro v' w2 ho2 hf2 hfr2 hone2 _
  have hne : own lv ≠ some b := Own.ne_blk ho hb (by decide)
  have hb2 : Blk w2.heap b [.bool true, lv] 56 := Blk.fr hf2 (Blk.alloc hb) hne
  have hne2 : own v' ≠ some b := Own.ne_blk ho2 hb2 (by decide)
  haveI : OffB v' b := ⟨hne2⟩
  (((apply vL_val); (case h => ((apply opv_E); exact rfl))); ((apply vL_val); (case h => ((apply opv_fieldAddr); exact rfl))); ((apply vL_skip); (case h => ((apply ops_store1); (first | exact norm_eq rfl | ((conv => lhs; whnf) <;> exact rfl)); (first | exact norm_eq rfl | ((conv => lhs; whnf) <;> exact rfl)); (first | rfl | assumption); (first | assumption | infer_instance); (first | decide | exact of_decide_eq_true rfl | (simp; done))))); apply vL_nil)
  (first | apply ret0 | apply ret0n)
  refine ⟨v', ?_, inferInstance, inferInstance, fun k hk => ?_, hone2⟩
  · have h1 : Fr (fun k => k = b ∨ own lv = some k) w w2 := ((Fr.refl _ w).alloc _).trans' hf2 (fun i hi => .inl (.inr hi))
    exact h1.set _ _ (.inl (.inl rfl))
  · rcases hfr2 k hk with h | h
    · exact .inl h
    · rw [alloc_size] at h; exact .inr (by omega)

theorem q_list_int (b : Nat) (lv : Value) (xs : List Int) (w : World) (hb : Blk w.heap b [.bool true, lv] 56) (ho : Own w.heap 3 1 iE lv xs) (hbig : xs.length * 8 ≤ 140737488355328) :
    Rets Try.prog 34 #[.pointer (some ⟨b, 0, none⟩)] w fun u w' => Fr No w w' ∧ Own w'.heap 3 1 iE u xs ∧ (∀ b, own u = some b → w.heap.size ≤ b) ∧ u.oneCell' = true := by
  refine rets_of Try.func34 rfl Try.ntmps34 rfl rfl (by kernel_rfl) ?_
  (apply vC_seq; apply vC_region; ((apply vL_val); (case h => ((apply opv_E); exact rfl))); apply vL_nil; apply seqP_normal; (iterate 2 (apply vC_seq)); apply vC_region; ((apply vL_val); (case h => ((apply opv_E); exact rfl))))
  refine vL_callF rfl (q_right_int b true lv w hb) rfl ?_
  rintro _ _ ⟨rfl, rfl⟩
  (((apply vL_val); (case h => ((apply opv_not); exact rfl))); apply vL_nil; apply seqP_normal; ((apply vC_cond_false); exact rfl); apply vC_skip; apply seqP_normal; apply vC_seq; apply vC_region; (iterate 2 (((apply vL_val); (case h => ((apply opv_E); exact rfl))))); ((apply vL_val); (case h => ((apply opv_fieldAddr); exact rfl))); ((apply vL_val); (case h => ((apply opv_loadb1); exact rfl; exact rfl; (first | assumption | infer_instance); exact rfl))))
  refine vL_callF rfl (clone_int lv xs w ho.rd hbig) rfl ?_
  rintro u w1 ⟨hf1, ho1, hfresh1, hone⟩
  (((apply vL_val); (case h => ((apply opv_assign); ((conv => lhs; whnf) <;> exact rfl)))); apply vL_nil; apply seqP_normal; apply vC_ret)
  (apply ret1; (case h1 => (first | exact norm_eq rfl | ((conv => lhs; whnf) <;> exact rfl))))
  exact ⟨hf1, ho1, hfresh1, hone⟩

theorem q_at_int (b : Nat) (lv : Value) (i : Int) (xs : List Int) (w : World) (hb : Blk w.heap b [.bool true, lv] 56) (ho : Own w.heap 3 1 iE lv xs) :
    Rets Try.prog 29 #[.pointer (some ⟨b, 0, none⟩), .int .i64 i] w fun u w' => w = w' ∧ ((∃ x, 0 ≤ i ∧ xs[i.toNat]? = some x ∧ u = .tuple #[.int .i64 x, .bool true]) ∨ ((i < 0 ∨ (xs.length : Int) ≤ i) ∧ u = .tuple #[.int .i64 0, .bool false])) := by
  refine rets_of Try.func29 rfl Try.ntmps29 rfl rfl (by kernel_rfl) ?_
  (apply vC_seq; apply vC_region; (iterate 2 (((apply vL_val); (case h => ((apply opv_E); exact rfl))))); apply vL_nil; apply seqP_normal; (iterate 2 (apply vC_seq)); apply vC_region; ((apply vL_val); (case h => ((apply opv_E); exact rfl))))
  refine vL_callF rfl (q_right_int b true lv w hb) rfl ?_
  rintro _ _ ⟨rfl, rfl⟩
  (((apply vL_val); (case h => ((apply opv_not); exact rfl))); ((apply vL_val); (case h => ((apply opv_E); exact rfl))); ((apply vL_wanted); exact rfl); ((apply vL_val); (case h => ((apply opv_E); exact rfl))); ((apply vL_wanted); exact rfl); (iterate 3 (((apply vL_val); (case h => ((apply opv_E); exact rfl))))))
  refine vL_or rfl rfl (fun h1 => ?_) (fun h1 => ?_)
  rotate_left
  · ((iterate 6 (((apply vL_unwanted'); exact rfl; exact rfl))); ((apply vL_val); (case h => ((apply opv_E); exact rfl))); apply vL_nil; apply seqP_normal; ((apply vC_cond_true); exact rfl); apply vC_seq; apply vC_region; ((apply vL_val); (case h => ((apply opv_E); exact rfl))); apply vL_nil; apply seqP_normal; apply vC_seq; apply vC_region; (iterate 3 (((apply vL_val); (case h => ((apply opv_E); exact rfl))))); apply vL_nil; apply seqP_normal; apply vC_ret; apply seqP_ret)
    (apply ret2; (case h1 => (first | exact norm_eq rfl | ((conv => lhs; whnf) <;> exact rfl))); (case h2 => (first | exact norm_eq rfl | ((conv => lhs; whnf) <;> exact rfl))))
    exact ⟨rfl, .inr ⟨.inl h1, rfl⟩⟩
  (((apply vL_val); (case h => ((apply opv_E); exact rfl))); ((apply vL_wanted); exact rfl); ((apply vL_val); (case h => ((apply opv_E); exact rfl))); ((apply vL_wanted); exact rfl); ((apply vL_val); (case h => ((apply opv_E); exact rfl))); ((apply vL_wanted); exact rfl); ((apply vL_val); (case h => ((apply opv_fieldAddr); exact rfl))); ((apply vL_wanted); exact rfl); ((apply vL_val); (case h => ((apply opv_loadb1); exact rfl; exact rfl; (first | assumption | infer_instance); exact rfl))); ((apply vL_wanted); exact rfl); ((apply vL_val); (case h => ((apply opv_len); (first | exact norm_eq rfl | ((conv => lhs; whnf) <;> exact rfl)); (first | assumption | infer_instance)))); ((apply vL_wanted); exact rfl); (iterate 2 (((apply vL_val); (case h => ((apply opv_E); exact rfl))))); apply vL_nil; apply seqP_normal)
  refine vC_cond_dec rfl (fun h2 => ?_) (fun h2 => ?_)
  · (apply vC_seq; apply vC_region; ((apply vL_val); (case h => ((apply opv_E); exact rfl))); apply vL_nil; apply seqP_normal; apply vC_seq; apply vC_region; (iterate 3 (((apply vL_val); (case h => ((apply opv_E); exact rfl))))); apply vL_nil; apply seqP_normal; apply vC_ret; apply seqP_ret)
    (apply ret2; (case h1 => (first | exact norm_eq rfl | ((conv => lhs; whnf) <;> exact rfl))); (case h2 => (first | exact norm_eq rfl | ((conv => lhs; whnf) <;> exact rfl))))
    exact ⟨rfl, .inr ⟨.inr h2, rfl⟩⟩
  obtain ⟨x, hx⟩ : ∃ x, xs[i.toNat]? = some x := ⟨xs[i.toNat]'(by omega), List.getElem?_eq_getElem _⟩
  (apply vC_skip; apply seqP_normal; apply vC_seq; apply vC_region; (iterate 2 (((apply vL_val); (case h => ((apply opv_E); exact rfl))))); ((apply vL_val); (case h => ((apply opv_fieldAddr); exact rfl))); ((apply vL_val); (case h => ((apply opv_loadb1); exact rfl; exact rfl; (first | assumption | infer_instance); exact rfl))); ((apply vL_val); (case h => ((apply opv_E); exact rfl))); ((apply vL_val); (case h => ((apply opv_indexAddr); (first | exact norm_eq rfl | ((conv => lhs; whnf) <;> exact rfl)); exact rfl; (first | assumption | infer_instance); (first | omega | (simp only [List.length_map]; omega)); (first | omega | (simp only [List.length_map]; omega))))); ((apply vL_val); (case h => ((apply opv_ld_el); exact rfl; exact rfl; (first | assumption | infer_instance); assumption; exact rfl))); (iterate 2 (((apply vL_val); (case h => ((apply opv_E); exact rfl))))); apply vL_nil; apply seqP_normal; apply vC_ret)
  (apply ret2; (case h1 => (first | exact norm_eq rfl | ((conv => lhs; whnf) <;> exact rfl))); (case h2 => (first | exact norm_eq rfl | ((conv => lhs; whnf) <;> exact rfl))))
  exact ⟨rfl, .inl ⟨x, by omega, hx, rfl⟩⟩

theorem q_take_int (b : Nat) (lv : Value) (i : Int) (xs : List Int) (w : World) (hb : Blk w.heap b [.bool true, lv] 56) (ho : Own w.heap 3 1 iE lv xs) (hone : lv.oneCell' = true) :
    Rets Try.prog 30 #[.pointer (some ⟨b, 0, none⟩), .int .i64 i] w fun u w' => ∃ lv' xs', Fr (fun k => k = b ∨ own lv = some k) w w' ∧ Blk w'.heap b [.bool true, lv'] 56 ∧ Own w'.heap 3 1 iE lv' xs' ∧ own lv' = own lv ∧ lv'.oneCell' = true ∧
      ((∃ x, 0 ≤ i ∧ xs[i.toNat]? = some x ∧ u = .tuple #[.int .i64 x, .bool true] ∧ xs' = xs.take i.toNat ++ xs.drop (i.toNat + 1)) ∨ ((i < 0 ∨ (xs.length : Int) ≤ i) ∧ u = .tuple #[.int .i64 0, .bool false] ∧ xs' = xs)) := by
  have hs := ho.rd.small
  refine rets_of Try.func30 rfl Try.ntmps30 rfl rfl (by kernel_rfl) ?_
  (apply vC_seq; apply vC_region; (iterate 2 (((apply vL_val); (case h => ((apply opv_E); exact rfl))))); apply vL_nil; apply seqP_normal; apply vC_seq; apply vC_region; (iterate 2 (((apply vL_val); (case h => ((apply opv_E); exact rfl))))))
  refine vL_callF rfl (q_at_int b lv i xs w hb ho) rfl ?_
  rintro _ _ ⟨rfl, ⟨x, h0, hx, rfl⟩ | ⟨h0, rfl⟩⟩
  rotate_left
  · ((iterate 5 (((apply vL_val); (case h => ((apply opv_E); exact rfl))))); apply vL_nil; apply seqP_normal; (iterate 2 (apply vC_seq)); apply vC_region; ((apply vL_val); (case h => ((apply opv_E); exact rfl))); apply vL_nil; apply seqP_normal; ((apply vC_cond_false); exact rfl); apply vC_skip; apply seqP_normal; apply vC_seq; apply vC_region; (iterate 4 (((apply vL_val); (case h => ((apply opv_E); exact rfl))))); apply vL_nil; apply seqP_normal; apply vC_ret)
    (apply ret2; (case h1 => (first | exact norm_eq rfl | ((conv => lhs; whnf) <;> exact rfl))); (case h2 => (first | exact norm_eq rfl | ((conv => lhs; whnf) <;> exact rfl))))
    exact ⟨lv, xs, Fr.refl _ _, hb, ho, rfl, hone, .inr ⟨h0, rfl, rfl⟩⟩
  have hlt := (List.getElem?_eq_some_iff.1 hx).1
  obtain ⟨n, rfl⟩ : ∃ n : Nat, i = n := ⟨i.toNat, by omega⟩
  ((iterate 5 (((apply vL_val); (case h => ((apply opv_E); exact rfl))))); apply vL_nil; apply seqP_normal; (iterate 2 (apply vC_seq)); apply vC_region; ((apply vL_val); (case h => ((apply opv_E); exact rfl))); apply vL_nil; apply seqP_normal; ((apply vC_cond_true); exact rfl); apply vC_region; (iterate 3 (((apply vL_val); (case h => ((apply opv_E); exact rfl))))); ((apply vL_val); (case h => ((apply opv_fieldAddr); exact rfl))); ((apply vL_val); (case h => ((apply opv_loadb1); exact rfl; exact rfl; (first | assumption | infer_instance); exact rfl))); (iterate 2 (((apply vL_val); (case h => ((apply opv_E); exact rfl))))); ((apply vL_val); (case h => ((apply opv_add); exact rfl; exact rfl; (first | omega | (simp only [List.length_map]; omega))))))
  refine vL_callF rfl (delete_int lv xs n w (by omega) ho) rfl ?_
  rintro v' w1 ⟨hf1, ho1, hown, hone1⟩
  have hne : own lv ≠ some b := Own.ne_blk ho hb (by decide)
  have hb1 : Blk w1.heap b [.bool true, lv] 56 := Blk.fr hf1 hb hne
  haveI : OffB v' b := ⟨by rw [hown]; exact hne⟩
  (((apply vL_val); (case h => ((apply opv_E); exact rfl))); ((apply vL_val); (case h => ((apply opv_fieldAddr); exact rfl))); ((apply vL_skip); (case h => ((apply ops_store1); (first | exact norm_eq rfl | ((conv => lhs; whnf) <;> exact rfl)); (first | exact norm_eq rfl | ((conv => lhs; whnf) <;> exact rfl)); (first | rfl | assumption); (first | assumption | infer_instance); (first | decide | exact of_decide_eq_true rfl | (simp; done))))); apply vL_nil; apply seqP_normal; apply vC_seq; apply vC_region; (iterate 4 (((apply vL_val); (case h => ((apply opv_E); exact rfl))))); apply vL_nil; apply seqP_normal; apply vC_ret)
  (apply ret2; (case h1 => (first | exact norm_eq rfl | ((conv => lhs; whnf) <;> exact rfl))); (case h2 => (first | exact norm_eq rfl | ((conv => lhs; whnf) <;> exact rfl))))
  have h1 : Fr (fun k => k = b ∨ own lv = some k) w w1 := hf1.mono (fun k _ h => .inr h)
  exact ⟨v', _, h1.set _ _ (.inl (.inl rfl)), inferInstance, (inferInstance : Own (w1.setRow b _).heap _ _ _ v' _), hown, hone1, .inl ⟨x, h0, hx, rfl, rfl⟩⟩

theorem q_pop_int (b : Nat) (lv : Value) (xs : List Int) (w : World) (hb : Blk w.heap b [.bool true, lv] 56) (ho : Own w.heap 3 1 iE lv xs) (hone : lv.oneCell' = true) :
    Rets Try.prog 27 #[.pointer (some ⟨b, 0, none⟩)] w fun u w' => ∃ lv' xs', Fr (fun k => k = b ∨ own lv = some k) w w' ∧ Blk w'.heap b [.bool true, lv'] 56 ∧ Own w'.heap 3 1 iE lv' xs' ∧ own lv' = own lv ∧ lv'.oneCell' = true ∧
      ((∃ x, xs = x :: xs' ∧ u = .tuple #[.int .i64 x, .bool true]) ∨ (xs = [] ∧ u = .tuple #[.int .i64 0, .bool false] ∧ xs' = [])) := by
  refine rets_of Try.func27 rfl Try.ntmps27 rfl rfl (by kernel_rfl) ?_
  (apply vC_seq; apply vC_region; (iterate 2 (((apply vL_val); (case h => ((apply opv_E); exact rfl))))); apply vL_nil; apply seqP_normal; apply vC_seq; apply vC_region; ((apply vL_val); (case h => ((apply opv_E); exact rfl))))
  refine vL_callF rfl (q_take_int b lv 0 xs w hb ho hone) rfl ?_
  rintro _ w1 ⟨lv', xs', hf1, hb1, ho1, hown, hone1, ⟨x, _, hx, rfl, rfl⟩ | ⟨h0, rfl, rfl⟩⟩
  · ((iterate 4 (((apply vL_val); (case h => ((apply opv_E); exact rfl))))); apply vL_nil; apply seqP_normal; apply vC_ret)
    (apply ret2; (case h1 => (first | exact norm_eq rfl | ((conv => lhs; whnf) <;> exact rfl))); (case h2 => (first | exact norm_eq rfl | ((conv => lhs; whnf) <;> exact rfl))))
    refine ⟨lv', _, hf1, hb1, ho1, hown, hone1, .inl ⟨x, ?_, rfl⟩⟩
    cases xs with
    | nil => simp at hx
    | cons y ys => simp at hx; simp [hx]
  · ((iterate 4 (((apply vL_val); (case h => ((apply opv_E); exact rfl))))); apply vL_nil; apply seqP_normal; apply vC_ret)
    (apply ret2; (case h1 => (first | exact norm_eq rfl | ((conv => lhs; whnf) <;> exact rfl))); (case h2 => (first | exact norm_eq rfl | ((conv => lhs; whnf) <;> exact rfl))))
    have : xs' = [] := List.eq_nil_of_length_eq_zero (by omega)
    subst this
    exact ⟨lv', _, hf1, hb1, ho1, hown, hone1, .inr ⟨rfl, rfl, rfl⟩⟩
theorem q_len_int (b : Nat) (lv : Value) (xs : List Int) (w : World) (hb : Blk w.heap b [.bool true, lv] 56) (ho : Own w.heap 3 1 iE lv xs) :
    Rets Try.prog 35 #[.pointer (some ⟨b, 0, none⟩)] w fun u w' => w = w' ∧ u = .int .i64 xs.length := by
  refine rets_of Try.func35 rfl Try.ntmps35 rfl rfl (by kernel_rfl) ?_
  (apply vC_seq; apply vC_region; ((apply vL_val); (case h => ((apply opv_E); exact rfl))); apply vL_nil; apply seqP_normal; (iterate 2 (apply vC_seq)); apply vC_region; ((apply vL_val); (case h => ((apply opv_E); exact rfl))))
  refine vL_callF rfl (q_right_int b true lv w hb) rfl ?_
  rintro _ _ ⟨rfl, rfl⟩
  (((apply vL_val); (case h => ((apply opv_not); exact rfl))); apply vL_nil; apply seqP_normal; ((apply vC_cond_false); exact rfl); apply vC_skip; apply seqP_normal; apply vC_seq; apply vC_region; (iterate 2 (((apply vL_val); (case h => ((apply opv_E); exact rfl))))); ((apply vL_val); (case h => ((apply opv_fieldAddr); exact rfl))); ((apply vL_val); (case h => ((apply opv_loadb1); exact rfl; exact rfl; (first | assumption | infer_instance); exact rfl))); ((apply vL_val); (case h => ((apply opv_len); (first | exact norm_eq rfl | ((conv => lhs; whnf) <;> exact rfl)); (first | assumption | infer_instance)))); ((apply vL_val); (case h => ((apply opv_E); exact rfl))); apply vL_nil; apply seqP_normal; apply vC_ret)
  (apply ret1; (case h1 => (first | exact norm_eq rfl | ((conv => lhs; whnf) <;> exact rfl))))
  exact ⟨rfl, rfl⟩
theorem q_of_str (v : Value) (xs : List ByteArray) (w : World) (hr : Rd w.heap 1 sE v xs) (hbig : xs.length * 16 ≤ 140737488355328) :
    Rets Try.prog 39 #[v] w fun u w' => Fr No w w' ∧ ∃ b lv, u = .pointer (some ⟨b, 0, none⟩) ∧ w.heap.size ≤ b ∧ Blk w'.heap b [.bool true, lv] 101 ∧ Own w'.heap 9 1 sE lv xs ∧ (∀ k, own lv = some k → w.heap.size ≤ k) ∧ lv.oneCell' = true := by
  refine rets_of Try.func39 rfl Try.ntmps39 rfl rfl (by kernel_rfl) ?_
  (apply vC_seq; apply vC_region; ((apply vL_val); (case h => ((apply opv_E); exact rfl))); apply vL_nil; apply seqP_normal; apply vC_seq; apply vC_region; ((apply vL_val); (case h => ((apply opv_move); ((conv => lhs; whnf) <;> exact rfl)))))
  refine vL_callF rfl (clone_str v xs w hr hbig) rfl ?_
  rintro lv w1 ⟨hf1, ho1, hfresh1, hone⟩
  obtain ⟨la, ln, lc, rfl⟩ := ho1.isSlice
  (((apply vL_val); (case h => ((apply opv_buildS); exact rfl; (first | exact (rfl : _ = some []) | exact (rfl : _ = some [_]) | exact (rfl : _ = some [_, _]) | exact (rfl : _ = some [_, _, _]) | exact (rfl : _ = some [_, _, _, _]) | exact (rfl : _ = some [_, _, _, _, _]) | exact (rfl : _ = some [_, _, _, _, _, _]) | exact (rfl : _ = some [_, _, _, _, _, _, _]) | exact (rfl : _ = some [_, _, _, _, _, _, _, _]) | exact (rfl : _ = some [_, _, _, _, _, _, _, _, _]) | exact (rfl : _ = some [_, _, _, _, _, _, _, _, _, _]) | exact (rfl : _ = some [_, _, _, _, _, _, _, _, _, _, _]) | exact (rfl : _ = some [_, _, _, _, _, _, _, _, _, _, _, _]) | exact (rfl : _ = some [_, _, _, _, _, _, _, _, _, _, _, _, _]) | exact (rfl : _ = some [_, _, _, _, _, _, _, _, _, _, _, _, _, _]) | exact (rfl : _ = some [_, _, _, _, _, _, _, _, _, _, _, _, _, _, _]) | exact (rfl : _ = some [_, _, _, _, _, _, _, _, _, _, _, _, _, _, _, _]))))); ((apply vL_val); (case h => ((apply opw_boxn); exact rfl))); ((apply vL_val); (case h => ((apply opv_E); exact rfl))); apply vL_nil; apply seqP_normal; apply vC_ret)
  (apply ret1; (case h1 => (first | exact norm_eq rfl | ((conv => lhs; whnf) <;> exact rfl))))
  exact ⟨hf1.alloc _, _, _, rfl, hf1.size, inferInstance, inferInstance, hfresh1, hone⟩

theorem q_push_str (b : Nat) (lv : Value) (x : ByteArray) (xs : List ByteArray) (w : World) (hb : Blk w.heap b [.bool true, lv] 101) (ho : Own w.heap 9 1 sE lv xs) (hbig : (xs.length + 1) * 16 ≤ 140737488355328) :
    Rets Try.prog 40 #[.pointer (some ⟨b, 0, none⟩), .string x] w fun u w' => ∃ lv', Fr (fun k => k = b ∨ own lv = some k) w w' ∧ Blk w'.heap b [.bool true, lv'] 101 ∧ Own w'.heap 9 1 sE lv' (xs ++ [x]) ∧ (∀ k, own lv' = some k → own lv = some k ∨ w.heap.size ≤ k) ∧ lv'.oneCell' = true := by
  refine rets_of Try.func40 rfl Try.ntmps40 rfl rfl (by kernel_rfl) ?_
  (apply vC_seq; apply vC_region; ((apply vL_val); (case h => ((apply opv_E); exact rfl))))
  refine vL_callF rfl (q_right_str b true lv w hb) rfl ?_
  rintro _ _ ⟨rfl, rfl⟩
  (apply vL_nil; apply seqP_normal; ((apply vC_cond_true); exact rfl); apply vC_region; (iterate 3 (((apply vL_val); (case h => ((apply opv_E); exact rfl))))); ((apply vL_val); (case h => ((apply opv_fieldAddr); exact rfl))); ((apply vL_val); (case h => ((apply opv_loadb1); exact rfl; exact rfl; (first | assumption | infer_instance); exact rfl))); ((apply vL_val); (case h => ((apply opv_E); exact rfl))); ((apply vL_val); (case h => ((apply opw_buildSl); exact rfl; exact rfl; exact rfl; (first | exact (rfl : _ = some []) | exact (rfl : _ = some [_]) | exact (rfl : _ = some [_, _]) | exact (rfl : _ = some [_, _, _]) | exact (rfl : _ = some [_, _, _, _]) | exact (rfl : _ = some [_, _, _, _, _]) | exact (rfl : _ = some [_, _, _, _, _, _]) | exact (rfl : _ = some [_, _, _, _, _, _, _]) | exact (rfl : _ = some [_, _, _, _, _, _, _, _]) | exact (rfl : _ = some [_, _, _, _, _, _, _, _, _]) | exact (rfl : _ = some [_, _, _, _, _, _, _, _, _, _]) | exact (rfl : _ = some [_, _, _, _, _, _, _, _, _, _, _]) | exact (rfl : _ = some [_, _, _, _, _, _, _, _, _, _, _, _]) | exact (rfl : _ = some [_, _, _, _, _, _, _, _, _, _, _, _, _]) | exact (rfl : _ = some [_, _, _, _, _, _, _, _, _, _, _, _, _, _]) | exact (rfl : _ = some [_, _, _, _, _, _, _, _, _, _, _, _, _, _, _]) | exact (rfl : _ = some [_, _, _, _, _, _, _, _, _, _, _, _, _, _, _, _]))))))
  refine vL_append (enc := sE) (xs := xs) (ys := [x]) (by (first | exact norm_eq rfl | ((conv => lhs; whnf) <;> exact rfl))) (by (first | exact norm_eq rfl | ((conv => lhs; whnf) <;> exact rfl))) (Own.alloc ho) (Rd.new1 _ _ rfl) rfl (by decide) ?_ ?_ ?_
  · simp [maxLen]; omega
  · simp; omega
  intro v' w2 ho2 hf2 hfr2 hone2 _
  have hne : own lv ≠ some b := Own.ne_blk ho hb (by decide)
  have hb2 : Blk w2.heap b [.bool true, lv] 101 := Blk.fr hf2 (Blk.alloc hb) hne
  have hne2 : own v' ≠ some b := Own.ne_blk ho2 hb2 (by decide)
  haveI : OffB v' b := ⟨hne2⟩
  (((apply vL_val); (case h => ((apply opv_E); exact rfl))); ((apply vL_val); (case h => ((apply opv_fieldAddr); exact rfl))); ((apply vL_skip); (case h => ((apply ops_store1); (first | exact norm_eq rfl | ((conv => lhs; whnf) <;> exact rfl)); (first | exact norm_eq rfl | ((conv => lhs; whnf) <;> exact rfl)); (first | rfl | assumption); (first | assumption | infer_instance); (first | decide | exact of_decide_eq_true rfl | (simp; done))))); apply vL_nil)
  (first | apply ret0 | apply ret0n)
  refine ⟨v', ?_, inferInstance, inferInstance, fun k hk => ?_, hone2⟩
  · have h1 : Fr (fun k => k = b ∨ own lv = some k) w w2 := ((Fr.refl _ w).alloc _).trans' hf2 (fun i hi => .inl (.inr hi))
    exact h1.set _ _ (.inl (.inl rfl))
  · rcases hfr2 k hk with h | h
    · exact .inl h
    · rw [alloc_size] at h; exact .inr (by omega)

theorem q_list_str (b : Nat) (lv : Value) (xs : List ByteArray) (w : World) (hb : Blk w.heap b [.bool true, lv] 101) (ho : Own w.heap 9 1 sE lv xs) (hbig : xs.length * 16 ≤ 140737488355328) :
    Rets Try.prog 42 #[.pointer (some ⟨b, 0, none⟩)] w fun u w' => Fr No w w' ∧ Own w'.heap 9 1 sE u xs ∧ (∀ b, own u = some b → w.heap.size ≤ b) ∧ u.oneCell' = true := by
  refine rets_of Try.func42 rfl Try.ntmps42 rfl rfl (by kernel_rfl) ?_
  (apply vC_seq; apply vC_region; ((apply vL_val); (case h => ((apply opv_E); exact rfl))); apply vL_nil; apply seqP_normal; (iterate 2 (apply vC_seq)); apply vC_region; ((apply vL_val); (case h => ((apply opv_E); exact rfl))))
  refine vL_callF rfl (q_right_str b true lv w hb) rfl ?_
  rintro _ _ ⟨rfl, rfl⟩
  (((apply vL_val); (case h => ((apply opv_not); exact rfl))); apply vL_nil; apply seqP_normal; ((apply vC_cond_false); exact rfl); apply vC_skip; apply seqP_normal; apply vC_seq; apply vC_region; (iterate 2 (((apply vL_val); (case h => ((apply opv_E); exact rfl))))); ((apply vL_val); (case h => ((apply opv_fieldAddr); exact rfl))); ((apply vL_val); (case h => ((apply opv_loadb1); exact rfl; exact rfl; (first | assumption | infer_instance); exact rfl))))
  refine vL_callF rfl (clone_str lv xs w ho.rd hbig) rfl ?_
  rintro u w1 ⟨hf1, ho1, hfresh1, hone⟩
  (((apply vL_val); (case h => ((apply opv_assign); ((conv => lhs; whnf) <;> exact rfl)))); apply vL_nil; apply seqP_normal; apply vC_ret)
  (apply ret1; (case h1 => (first | exact norm_eq rfl | ((conv => lhs; whnf) <;> exact rfl))))
  exact ⟨hf1, ho1, hfresh1, hone⟩

theorem q_at_str (b : Nat) (lv : Value) (i : Int) (xs : List ByteArray) (w : World) (hb : Blk w.heap b [.bool true, lv] 101) (ho : Own w.heap 9 1 sE lv xs) :
    Rets Try.prog 88 #[.pointer (some ⟨b, 0, none⟩), .int .i64 i] w fun u w' => w = w' ∧ ((∃ x, 0 ≤ i ∧ xs[i.toNat]? = some x ∧ u = .tuple #[.string x, .bool true]) ∨ ((i < 0 ∨ (xs.length : Int) ≤ i) ∧ u = .tuple #[.string ⟨#[]⟩, .bool false])) := by
  refine rets_of Try.func88 rfl Try.ntmps88 rfl rfl (by kernel_rfl) ?_
  (apply vC_seq; apply vC_region; (iterate 2 (((apply vL_val); (case h => ((apply opv_E); exact rfl))))); apply vL_nil; apply seqP_normal; (iterate 2 (apply vC_seq)); apply vC_region; ((apply vL_val); (case h => ((apply opv_E); exact rfl))))
  refine vL_callF rfl (q_right_str b true lv w hb) rfl ?_
  rintro _ _ ⟨rfl, rfl⟩
  (((apply vL_val); (case h => ((apply opv_not); exact rfl))); ((apply vL_val); (case h => ((apply opv_E); exact rfl))); ((apply vL_wanted); exact rfl); ((apply vL_val); (case h => ((apply opv_E); exact rfl))); ((apply vL_wanted); exact rfl); (iterate 3 (((apply vL_val); (case h => ((apply opv_E); exact rfl))))))
  refine vL_or rfl rfl (fun h1 => ?_) (fun h1 => ?_)
  rotate_left
  · ((iterate 6 (((apply vL_unwanted'); exact rfl; exact rfl))); ((apply vL_val); (case h => ((apply opv_E); exact rfl))); apply vL_nil; apply seqP_normal; ((apply vC_cond_true); exact rfl); apply vC_seq; apply vC_region; ((apply vL_val); (case h => ((apply opv_E); exact rfl))); apply vL_nil; apply seqP_normal; apply vC_seq; apply vC_region; (iterate 3 (((apply vL_val); (case h => ((apply opv_E); exact rfl))))); apply vL_nil; apply seqP_normal; apply vC_ret; apply seqP_ret)
    (apply ret2; (case h1 => (first | exact norm_eq rfl | ((conv => lhs; whnf) <;> exact rfl))); (case h2 => (first | exact norm_eq rfl | ((conv => lhs; whnf) <;> exact rfl))))
    exact ⟨rfl, .inr ⟨.inl h1, rfl⟩⟩
  (((apply vL_val); (case h => ((apply opv_E); exact rfl))); ((apply vL_wanted); exact rfl); ((apply vL_val); (case h => ((apply opv_E); exact rfl))); ((apply vL_wanted); exact rfl); ((apply vL_val); (case h => ((apply opv_E); exact rfl))); ((apply vL_wanted); exact rfl); ((apply vL_val); (case h => ((apply opv_fieldAddr); exact rfl))); ((apply vL_wanted); exact rfl); ((apply vL_val); (case h => ((apply opv_loadb1); exact rfl; exact rfl; (first | assumption | infer_instance); exact rfl))); ((apply vL_wanted); exact rfl); ((apply vL_val); (case h => ((apply opv_len); (first | exact norm_eq rfl | ((conv => lhs; whnf) <;> exact rfl)); (first | assumption | infer_instance)))); ((apply vL_wanted); exact rfl); (iterate 2 (((apply vL_val); (case h => ((apply opv_E); exact rfl))))); apply vL_nil; apply seqP_normal)
  refine vC_cond_dec rfl (fun h2 => ?_) (fun h2 => ?_)
  · (apply vC_seq; apply vC_region; ((apply vL_val); (case h => ((apply opv_E); exact rfl))); apply vL_nil; apply seqP_normal; apply vC_seq; apply vC_region; (iterate 3 (((apply vL_val); (case h => ((apply opv_E); exact rfl))))); apply vL_nil; apply seqP_normal; apply vC_ret; apply seqP_ret)
    (apply ret2; (case h1 => (first | exact norm_eq rfl | ((conv => lhs; whnf) <;> exact rfl))); (case h2 => (first | exact norm_eq rfl | ((conv => lhs; whnf) <;> exact rfl))))
    exact ⟨rfl, .inr ⟨.inr h2, rfl⟩⟩
  obtain ⟨x, hx⟩ : ∃ x, xs[i.toNat]? = some x := ⟨xs[i.toNat]'(by omega), List.getElem?_eq_getElem _⟩
  (apply vC_skip; apply seqP_normal; apply vC_seq; apply vC_region; (iterate 2 (((apply vL_val); (case h => ((apply opv_E); exact rfl))))); ((apply vL_val); (case h => ((apply opv_fieldAddr); exact rfl))); ((apply vL_val); (case h => ((apply opv_loadb1); exact rfl; exact rfl; (first | assumption | infer_instance); exact rfl))); ((apply vL_val); (case h => ((apply opv_E); exact rfl))); ((apply vL_val); (case h => ((apply opv_indexAddr); (first | exact norm_eq rfl | ((conv => lhs; whnf) <;> exact rfl)); exact rfl; (first | assumption | infer_instance); (first | omega | (simp only [List.length_map]; omega)); (first | omega | (simp only [List.length_map]; omega))))); ((apply vL_val); (case h => ((apply opv_ld_el); exact rfl; exact rfl; (first | assumption | infer_instance); assumption; exact rfl))); (iterate 2 (((apply vL_val); (case h => ((apply opv_E); exact rfl))))); apply vL_nil; apply seqP_normal; apply vC_ret)
  (apply ret2; (case h1 => (first | exact norm_eq rfl | ((conv => lhs; whnf) <;> exact rfl))); (case h2 => (first | exact norm_eq rfl | ((conv => lhs; whnf) <;> exact rfl))))
  exact ⟨rfl, .inl ⟨x, by omega, hx, rfl⟩⟩

theorem q_take_str (b : Nat) (lv : Value) (i : Int) (xs : List ByteArray) (w : World) (hb : Blk w.heap b [.bool true, lv] 101) (ho : Own w.heap 9 1 sE lv xs) (hone : lv.oneCell' = true) :
    Rets Try.prog 72 #[.pointer (some ⟨b, 0, none⟩), .int .i64 i] w fun u w' => ∃ lv' xs', Fr (fun k => k = b ∨ own lv = some k) w w' ∧ Blk w'.heap b [.bool true, lv'] 101 ∧ Own w'.heap 9 1 sE lv' xs' ∧ own lv' = own lv ∧ lv'.oneCell' = true ∧
      ((∃ x, 0 ≤ i ∧ xs[i.toNat]? = some x ∧ u = .tuple #[.string x, .bool true] ∧ xs' = xs.take i.toNat ++ xs.drop (i.toNat + 1)) ∨ ((i < 0 ∨ (xs.length : Int) ≤ i) ∧ u = .tuple #[.string ⟨#[]⟩, .bool false] ∧ xs' = xs)) := by
  have hs := ho.rd.small
  refine rets_of Try.func72 rfl Try.ntmps72 rfl rfl (by kernel_rfl) ?_
  (apply vC_seq; apply vC_region; (iterate 2 (((apply vL_val); (case h => ((apply opv_E); exact rfl))))); apply vL_nil; apply seqP_normal; apply vC_seq; apply vC_region; (iterate 2 (((apply vL_val); (case h => ((apply opv_E); exact rfl))))))
  refine vL_callF rfl (q_at_str b lv i xs w hb ho) rfl ?_
  rintro _ _ ⟨rfl, ⟨x, h0, hx, rfl⟩ | ⟨h0, rfl⟩⟩
  rotate_left
  · ((iterate 5 (((apply vL_val); (case h => ((apply opv_E); exact rfl))))); apply vL_nil; apply seqP_normal; (iterate 2 (apply vC_seq)); apply vC_region; ((apply vL_val); (case h => ((apply opv_E); exact rfl))); apply vL_nil; apply seqP_normal; ((apply vC_cond_false); exact rfl); apply vC_skip; apply seqP_normal; apply vC_seq; apply vC_region; (iterate 4 (((apply vL_val); (case h => ((apply opv_E); exact rfl))))); apply vL_nil; apply seqP_normal; apply vC_ret)
    (apply ret2; (case h1 => (first | exact norm_eq rfl | ((conv => lhs; whnf) <;> exact rfl))); (case h2 => (first | exact norm_eq rfl | ((conv => lhs; whnf) <;> exact rfl))))
    exact ⟨lv, xs, Fr.refl _ _, hb, ho, rfl, hone, .inr ⟨h0, rfl, rfl⟩⟩
  have hlt := (List.getElem?_eq_some_iff.1 hx).1
  obtain ⟨n, rfl⟩ : ∃ n : Nat, i = n := ⟨i.toNat, by omega⟩
  ((iterate 5 (((apply vL_val); (case h => ((apply opv_E); exact rfl))))); apply vL_nil; apply seqP_normal; (iterate 2 (apply vC_seq)); apply vC_region; ((apply vL_val); (case h => ((apply opv_E); exact rfl))); apply vL_nil; apply seqP_normal; ((apply vC_cond_true); exact rfl); apply vC_region; (iterate 3 (((apply vL_val); (case h => ((apply opv_E); exact rfl))))); ((apply vL_val); (case h => ((apply opv_fieldAddr); exact rfl))); ((apply vL_val); (case h => ((apply opv_loadb1); exact rfl; exact rfl; (first | assumption | infer_instance); exact rfl))); (iterate 2 (((apply vL_val); (case h => ((apply opv_E); exact rfl))))); ((apply vL_val); (case h => ((apply opv_add); exact rfl; exact rfl; (first | omega | (simp only [List.length_map]; omega))))))
  refine vL_callF rfl (delete_str lv xs n w (by omega) ho) rfl ?_
  rintro v' w1 ⟨hf1, ho1, hown, hone1⟩
  have hne : own lv ≠ some b := Own.ne_blk ho hb (by decide)
  have hb1 : Blk w1.heap b [.bool true, lv] 101 := Blk.fr hf1 hb hne
  haveI : OffB v' b := ⟨by rw [hown]; exact hne⟩
  (((apply vL_val); (case h => ((apply opv_E); exact rfl))); ((apply vL_val); (case h => ((apply opv_fieldAddr); exact rfl))); ((apply vL_skip); (case h => ((apply ops_store1); (first | exact norm_eq rfl | ((conv => lhs; whnf) <;> exact rfl)); (first | exact norm_eq rfl | ((conv => lhs; whnf) <;> exact rfl)); (first | rfl | assumption); (first | assumption | infer_instance); (first | decide | exact of_decide_eq_true rfl | (simp; done))))); apply vL_nil; apply seqP_normal; apply vC_seq; apply vC_region; (iterate 4 (((apply vL_val); (case h => ((apply opv_E); exact rfl))))); apply vL_nil; apply seqP_normal; apply vC_ret)
  (apply ret2; (case h1 => (first | exact norm_eq rfl | ((conv => lhs; whnf) <;> exact rfl))); (case h2 => (first | exact norm_eq rfl | ((conv => lhs; whnf) <;> exact rfl))))
  have h1 : Fr (fun k => k = b ∨ own lv = some k) w w1 := hf1.mono (fun k _ h => .inr h)
  exact ⟨v', _, h1.set _ _ (.inl (.inl rfl)), inferInstance, (inferInstance : Own (w1.setRow b _).heap _ _ _ v' _), hown, hone1, .inl ⟨x, h0, hx, rfl, rfl⟩⟩

theorem q_pop_str (b : Nat) (lv : Value) (xs : List ByteArray) (w : World) (hb : Blk w.heap b [.bool true, lv] 101) (ho : Own w.heap 9 1 sE lv xs) (hone : lv.oneCell' = true) :
    Rets Try.prog 41 #[.pointer (some ⟨b, 0, none⟩)] w fun u w' => ∃ lv' xs', Fr (fun k => k = b ∨ own lv = some k) w w' ∧ Blk w'.heap b [.bool true, lv'] 101 ∧ Own w'.heap 9 1 sE lv' xs' ∧ own lv' = own lv ∧ lv'.oneCell' = true ∧
      ((∃ x, xs = x :: xs' ∧ u = .tuple #[.string x, .bool true]) ∨ (xs = [] ∧ u = .tuple #[.string ⟨#[]⟩, .bool false] ∧ xs' = [])) := by
  refine rets_of Try.func41 rfl Try.ntmps41 rfl rfl (by kernel_rfl) ?_
  (apply vC_seq; apply vC_region; (iterate 2 (((apply vL_val); (case h => ((apply opv_E); exact rfl))))); apply vL_nil; apply seqP_normal; apply vC_seq; apply vC_region; ((apply vL_val); (case h => ((apply opv_E); exact rfl))))
  refine vL_callF rfl (q_take_str b lv 0 xs w hb ho hone) rfl ?_
  rintro _ w1 ⟨lv', xs', hf1, hb1, ho1, hown, hone1, ⟨x, _, hx, rfl, rfl⟩ | ⟨h0, rfl, rfl⟩⟩
  · ((iterate 4 (((apply vL_val); (case h => ((apply opv_E); exact rfl))))); apply vL_nil; apply seqP_normal; apply vC_ret)
    (apply ret2; (case h1 => (first | exact norm_eq rfl | ((conv => lhs; whnf) <;> exact rfl))); (case h2 => (first | exact norm_eq rfl | ((conv => lhs; whnf) <;> exact rfl))))
    refine ⟨lv', _, hf1, hb1, ho1, hown, hone1, .inl ⟨x, ?_, rfl⟩⟩
    cases xs with
    | nil => simp at hx
    | cons y ys => simp at hx; simp [hx]
  · ((iterate 4 (((apply vL_val); (case h => ((apply opv_E); exact rfl))))); apply vL_nil; apply seqP_normal; apply vC_ret)
    (apply ret2; (case h1 => (first | exact norm_eq rfl | ((conv => lhs; whnf) <;> exact rfl))); (case h2 => (first | exact norm_eq rfl | ((conv => lhs; whnf) <;> exact rfl))))
    have : xs' = [] := List.eq_nil_of_length_eq_zero (by omega)
    subst this
    exact ⟨lv', _, hf1, hb1, ho1, hown, hone1, .inr ⟨rfl, rfl, rfl⟩⟩

end Go.Proofs.Ytfceebbkjogedaa
