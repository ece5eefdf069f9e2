/- A queue of numbers: its calls; comparing lists. -/
import Derived.Test.YtaeckjhipmcddaaSa
set_option maxRecDepth 100000
namespace Go.Proofs.Ytaeckjhipmcddaa
open Go Go.Eng
theorem q_of_int (v : Value) (xs : List Int) (w : World) (hr : Rd w.heap 1 iE v xs) (hbig : xs.length * 8 ≤ 140737488355328) :
    Rets Try.prog 55 #[v] w fun u w' => Fr No w w' ∧ ∃ b lv, u = .pointer (some ⟨b, 0, none⟩) ∧ w.heap.size ≤ b ∧ Blk w'.heap b [.bool true, lv] 101 ∧ Own w'.heap 3 1 iE lv xs ∧ (∀ k, own lv = some k → w.heap.size ≤ k) ∧ lv.oneCell' = true := by
  refine rets_of Try.func55 rfl Try.ntmps55 rfl rfl (by kernel_rfl) ?_
  (apply vC_seq; apply vC_region; ((apply vL_val); (case h => ((apply opv_E); exact rfl))); apply vL_nil; apply seqP_normal; apply vC_seq; apply vC_region; ((apply vL_val); (case h => ((apply opv_move); ((conv => lhs; whnf) <;> exact rfl)))))
  refine vL_callF rfl (clone_int v xs w hr hbig) rfl ?_
  rintro lv w1 ⟨hf1, ho1, hfresh1, hone⟩
  obtain ⟨la, ln, lc, rfl⟩ := ho1.isSlice
  (((apply vL_val); (case h => ((apply opv_buildS); exact rfl; (first | exact (rfl : _ = some []) | exact (rfl : _ = some [_]) | exact (rfl : _ = some [_, _]) | exact (rfl : _ = some [_, _, _]) | exact (rfl : _ = some [_, _, _, _]) | exact (rfl : _ = some [_, _, _, _, _]) | exact (rfl : _ = some [_, _, _, _, _, _]) | exact (rfl : _ = some [_, _, _, _, _, _, _]) | exact (rfl : _ = some [_, _, _, _, _, _, _, _]) | exact (rfl : _ = some [_, _, _, _, _, _, _, _, _]) | exact (rfl : _ = some [_, _, _, _, _, _, _, _, _, _]) | exact (rfl : _ = some [_, _, _, _, _, _, _, _, _, _, _]) | exact (rfl : _ = some [_, _, _, _, _, _, _, _, _, _, _, _]) | exact (rfl : _ = some [_, _, _, _, _, _, _, _, _, _, _, _, _]) | exact (rfl : _ = some [_, _, _, _, _, _, _, _, _, _, _, _, _, _]) | exact (rfl : _ = some [_, _, _, _, _, _, _, _, _, _, _, _, _, _, _]) | exact (rfl : _ = some [_, _, _, _, _, _, _, _, _, _, _, _, _, _, _, _]))))); ((apply vL_val); (case h => ((apply opw_boxn); exact rfl))); ((apply vL_val); (case h => ((apply opv_E); exact rfl))); apply vL_nil; apply seqP_normal; apply vC_ret)
  (apply ret1; (case h1 => (first | exact norm_eq rfl | ((conv => lhs; whnf) <;> exact rfl))))
  exact ⟨hf1.alloc _, _, _, rfl, hf1.size, inferInstance, inferInstance, hfresh1, hone⟩

theorem q_push_int (b : Nat) (lv : Value) (x : Int) (xs : List Int) (w : World) (hb : Blk w.heap b [.bool true, lv] 101) (ho : Own w.heap 3 1 iE lv xs) (hbig : (xs.length + 1) * 8 ≤ 140737488355328) :
    Rets Try.prog 57 #[.pointer (some ⟨b, 0, none⟩), .int .i64 x] w fun u w' => ∃ lv', Fr (fun k => k = b ∨ own lv = some k) w w' ∧ Blk w'.heap b [.bool true, lv'] 101 ∧ Own w'.heap 3 1 iE lv' (xs ++ [x]) ∧ (∀ k, own lv' = some k → own lv = some k ∨ w.heap.size ≤ k) ∧ lv'.oneCell' = true := by
  refine rets_of Try.func57 rfl Try.ntmps57 rfl rfl (by kernel_rfl) ?_
  (apply vC_seq; apply vC_region; ((apply vL_val); (case h => ((apply opv_E); exact rfl))))
  refine vL_callF rfl (q_right_int b true lv w hb) rfl ?_
  rintro _ _ ⟨rfl, rfl⟩
  (apply vL_nil; apply seqP_normal; ((apply vC_cond_true); exact rfl); apply vC_region; (iterate 3 (((apply vL_val); (case h => ((apply opv_E); exact rfl))))); ((apply vL_val); (case h => ((apply opv_fieldAddr); exact rfl))); ((apply vL_val); (case h => ((apply opv_loadb1); exact rfl; exact rfl; (first | assumption | infer_instance); exact rfl))); ((apply vL_val); (case h => ((apply opv_E); exact rfl))); ((apply vL_val); (case h => ((apply opw_buildSl); exact rfl; exact rfl; exact rfl; (first | exact (rfl : _ = some []) | exact (rfl : _ = some [_]) | exact (rfl : _ = some [_, _]) | exact (rfl : _ = some [_, _, _]) | exact (rfl : _ = some [_, _, _, _]) | exact (rfl : _ = some [_, _, _, _, _]) | exact (rfl : _ = some [_, _, _, _, _, _]) | exact (rfl : _ = some [_, _, _, _, _, _, _]) | exact (rfl : _ = some [_, _, _, _, _, _, _, _]) | exact (rfl : _ = some [_, _, _, _, _, _, _, _, _]) | exact (rfl : _ = some [_, _, _, _, _, _, _, _, _, _]) | exact (rfl : _ = some [_, _, _, _, _, _, _, _, _, _, _]) | exact (rfl : _ = some [_, _, _, _, _, _, _, _, _, _, _, _]) | exact (rfl : _ = some [_, _, _, _, _, _, _, _, _, _, _, _, _]) | exact (rfl : _ = some [_, _, _, _, _, _, _, _, _, _, _, _, _, _]) | exact (rfl : _ = some [_, _, _, _, _, _, _, _, _, _, _, _, _, _, _]) | exact (rfl : _ = some [_, _, _, _, _, _, _, _, _, _, _, _, _, _, _, _]))))))
  refine vL_append (enc := iE) (xs := xs) (ys := [x]) (by (first | exact norm_eq rfl | ((conv => lhs; whnf) <;> exact rfl))) (by (first | exact norm_eq rfl | ((conv => lhs; whnf) <;> exact rfl))) (Own.alloc ho) (Rd.new1 _ _ rfl) rfl (by decide) ?_ ?_ ?_
  · simp [maxLen]; omega
  · simp; omega
  intro v' w2 ho2 hf2 hfr2 hone2 _
  have hne : own lv ≠ some b := Own.ne_blk ho hb (by decide)
  have hb2 : Blk w2.heap b [.bool true, lv] 101 := Blk.fr hf2 (Blk.alloc hb) hne
  have hne2 : own v' ≠ some b := Own.ne_blk ho2 hb2 (by decide)
  haveI : OffB v' b := ⟨hne2⟩
  (((apply vL_val); (case h => ((apply opv_E); exact rfl))); ((apply vL_val); (case h => ((apply opv_fieldAddr); exact rfl))); ((apply vL_skip); (case h => ((apply ops_store1); (first | exact norm_eq rfl | ((conv => lhs; whnf) <;> exact rfl)); (first | exact norm_eq rfl | ((conv => lhs; whnf) <;> exact rfl)); (first | rfl | assumption); (first | assumption | infer_instance); (first | decide | exact of_decide_eq_true rfl | (simp; done))))); apply vL_nil)
  (first | apply ret0 | apply ret0n)
  refine ⟨v', ?_, inferInstance, inferInstance, fun k hk => ?_, hone2⟩
  · have h1 : Fr (fun k => k = b ∨ own lv = some k) w w2 := ((Fr.refl _ w).alloc _).trans' hf2 (fun i hi => .inl (.inr hi))
    exact h1.set _ _ (.inl (.inl rfl))
  · rcases hfr2 k hk with h | h
    · exact .inl h
    · rw [alloc_size] at h; exact .inr (by omega)

theorem q_list_int (b : Nat) (lv : Value) (xs : List Int) (w : World) (hb : Blk w.heap b [.bool true, lv] 101) (ho : Own w.heap 3 1 iE lv xs) (hbig : xs.length * 8 ≤ 140737488355328) :
    Rets Try.prog 61 #[.pointer (some ⟨b, 0, none⟩)] w fun u w' => Fr No w w' ∧ Own w'.heap 3 1 iE u xs ∧ (∀ b, own u = some b → w.heap.size ≤ b) ∧ u.oneCell' = true := by
  refine rets_of Try.func61 rfl Try.ntmps61 rfl rfl (by kernel_rfl) ?_
  (apply vC_seq; apply vC_region; ((apply vL_val); (case h => ((apply opv_E); exact rfl))); apply vL_nil; apply seqP_normal; (iterate 2 (apply vC_seq)); apply vC_region; ((apply vL_val); (case h => ((apply opv_E); exact rfl))))
  refine vL_callF rfl (q_right_int b true lv w hb) rfl ?_
  rintro _ _ ⟨rfl, rfl⟩
  (((apply vL_val); (case h => ((apply opv_not); exact rfl))); apply vL_nil; apply seqP_normal; ((apply vC_cond_false); exact rfl); apply vC_skip; apply seqP_normal; apply vC_seq; apply vC_region; (iterate 2 (((apply vL_val); (case h => ((apply opv_E); exact rfl))))); ((apply vL_val); (case h => ((apply opv_fieldAddr); exact rfl))); ((apply vL_val); (case h => ((apply opv_loadb1); exact rfl; exact rfl; (first | assumption | infer_instance); exact rfl))))
  refine vL_callF rfl (clone_int lv xs w ho.rd hbig) rfl ?_
  rintro u w1 ⟨hf1, ho1, hfresh1, hone⟩
  (((apply vL_val); (case h => ((apply opv_assign); ((conv => lhs; whnf) <;> exact rfl)))); apply vL_nil; apply seqP_normal; apply vC_ret)
  (apply ret1; (case h1 => (first | exact norm_eq rfl | ((conv => lhs; whnf) <;> exact rfl))))
  exact ⟨hf1, ho1, hfresh1, hone⟩

theorem q_at_int (b : Nat) (lv : Value) (i : Int) (xs : List Int) (w : World) (hb : Blk w.heap b [.bool true, lv] 101) (ho : Own w.heap 3 1 iE lv xs) :
    Rets Try.prog 80 #[.pointer (some ⟨b, 0, none⟩), .int .i64 i] w fun u w' => w = w' ∧ ((∃ x, 0 ≤ i ∧ xs[i.toNat]? = some x ∧ u = .tuple #[.int .i64 x, .bool true]) ∨ ((i < 0 ∨ (xs.length : Int) ≤ i) ∧ u = .tuple #[.int .i64 0, .bool false])) := by
  refine rets_of Try.func80 rfl Try.ntmps80 rfl rfl (by kernel_rfl) ?_
  (apply vC_seq; apply vC_region; (iterate 2 (((apply vL_val); (case h => ((apply opv_E); exact rfl))))); apply vL_nil; apply seqP_normal; (iterate 2 (apply vC_seq)); apply vC_region; ((apply vL_val); (case h => ((apply opv_E); exact rfl))))
  refine vL_callF rfl (q_right_int b true lv w hb) rfl ?_
  rintro _ _ ⟨rfl, rfl⟩
  (((apply vL_val); (case h => ((apply opv_not); exact rfl))); ((apply vL_val); (case h => ((apply opv_E); exact rfl))); ((apply vL_wanted); exact rfl); ((apply vL_val); (case h => ((apply opv_E); exact rfl))); ((apply vL_wanted); exact rfl); (iterate 3 (((apply vL_val); (case h => ((apply opv_E); exact rfl))))))
  refine vL_or rfl rfl (fun h1 => ?_) (fun h1 => ?_)
  rotate_left
  · ((iterate 6 (((apply vL_unwanted'); exact rfl; exact rfl))); ((apply vL_val); (case h => ((apply opv_E); exact rfl))); apply vL_nil; apply seqP_normal; ((apply vC_cond_true); exact rfl); apply vC_seq; apply vC_region; ((apply vL_val); (case h => ((apply opv_E); exact rfl))); apply vL_nil; apply seqP_normal; apply vC_seq; apply vC_region; (iterate 3 (((apply vL_val); (case h => ((apply opv_E); exact rfl))))); apply vL_nil; apply seqP_normal; apply vC_ret; apply seqP_ret)
    (apply ret2; (case h1 => (first | exact norm_eq rfl | ((conv => lhs; whnf) <;> exact rfl))); (case h2 => (first | exact norm_eq rfl | ((conv => lhs; whnf) <;> exact rfl))))
    exact ⟨rfl, .inr ⟨.inl h1, rfl⟩⟩
  (((apply vL_val); (case h => ((apply opv_E); exact rfl))); ((apply vL_wanted); exact rfl); ((apply vL_val); (case h => ((apply opv_E); exact rfl))); ((apply vL_wanted); exact rfl); ((apply vL_val); (case h => ((apply opv_E); exact rfl))); ((apply vL_wanted); exact rfl); ((apply vL_val); (case h => ((apply opv_fieldAddr); exact rfl))); ((apply vL_wanted); exact rfl); ((apply vL_val); (case h => ((apply opv_loadb1); exact rfl; exact rfl; (first | assumption | infer_instance); exact rfl))); ((apply vL_wanted); exact rfl); ((apply vL_val); (case h => ((apply opv_len); (first | exact norm_eq rfl | ((conv => lhs; whnf) <;> exact rfl)); (first | assumption | infer_instance)))); ((apply vL_wanted); exact rfl); (iterate 2 (((apply vL_val); (case h => ((apply opv_E); exact rfl))))); apply vL_nil; apply seqP_normal)
  refine vC_cond_dec rfl (fun h2 => ?_) (fun h2 => ?_)
  · (apply vC_seq; apply vC_region; ((apply vL_val); (case h => ((apply opv_E); exact rfl))); apply vL_nil; apply seqP_normal; apply vC_seq; apply vC_region; (iterate 3 (((apply vL_val); (case h => ((apply opv_E); exact rfl))))); apply vL_nil; apply seqP_normal; apply vC_ret; apply seqP_ret)
    (apply ret2; (case h1 => (first | exact norm_eq rfl | ((conv => lhs; whnf) <;> exact rfl))); (case h2 => (first | exact norm_eq rfl | ((conv => lhs; whnf) <;> exact rfl))))
    exact ⟨rfl, .inr ⟨.inr h2, rfl⟩⟩
  obtain ⟨x, hx⟩ : ∃ x, xs[i.toNat]? = some x := ⟨xs[i.toNat]'(by omega), List.getElem?_eq_getElem _⟩
  (apply vC_skip; apply seqP_normal; apply vC_seq; apply vC_region; (iterate 2 (((apply vL_val); (case h => ((apply opv_E); exact rfl))))); ((apply vL_val); (case h => ((apply opv_fieldAddr); exact rfl))); ((apply vL_val); (case h => ((apply opv_loadb1); exact rfl; exact rfl; (first | assumption | infer_instance); exact rfl))); ((apply vL_val); (case h => ((apply opv_E); exact rfl))); ((apply vL_val); (case h => ((apply opv_indexAddr); (first | exact norm_eq rfl | ((conv => lhs; whnf) <;> exact rfl)); exact rfl; (first | assumption | infer_instance); (first | omega | (simp only [List.length_map]; omega)); (first | omega | (simp only [List.length_map]; omega))))); ((apply vL_val); (case h => ((apply opv_ld_el); exact rfl; exact rfl; (first | assumption | infer_instance); assumption; exact rfl))); (iterate 2 (((apply vL_val); (case h => ((apply opv_E); exact rfl))))); apply vL_nil; apply seqP_normal; apply vC_ret)
  (apply ret2; (case h1 => (first | exact norm_eq rfl | ((conv => lhs; whnf) <;> exact rfl))); (case h2 => (first | exact norm_eq rfl | ((conv => lhs; whnf) <;> exact rfl))))
  exact ⟨rfl, .inl ⟨x, by omega, hx, rfl⟩⟩

theorem q_take_int (b : Nat) (lv : Value) (i : Int) (xs : List Int) (w : World) (hb : Blk w.heap b [.bool true, lv] 101) (ho : Own w.heap 3 1 iE lv xs) (hone : lv.oneCell' = true) :
    Rets Try.prog 58 #[.pointer (some ⟨b, 0, none⟩), .int .i64 i] w fun u w' => ∃ lv' xs', Fr (fun k => k = b ∨ own lv = some k) w w' ∧ Blk w'.heap b [.bool true, lv'] 101 ∧ Own w'.heap 3 1 iE lv' xs' ∧ own lv' = own lv ∧ lv'.oneCell' = true ∧
      ((∃ x, 0 ≤ i ∧ xs[i.toNat]? = some x ∧ u = .tuple #[.int .i64 x, .bool true] ∧ xs' = xs.take i.toNat ++ xs.drop (i.toNat + 1)) ∨ ((i < 0 ∨ (xs.length : Int) ≤ i) ∧ u = .tuple #[.int .i64 0, .bool false] ∧ xs' = xs)) := by
  have hs := ho.rd.small
  refine rets_of Try.func58 rfl Try.ntmps58 rfl rfl (by kernel_rfl) ?_
  (apply vC_seq; apply vC_region; (iterate 2 (((apply vL_val); (case h => ((apply opv_E); exact rfl))))); apply vL_nil; apply seqP_normal; apply vC_seq; apply vC_region; (iterate 2 (((apply vL_val); (case h => ((apply opv_E); exact rfl))))))
  refine vL_callF rfl (q_at_int b lv i xs w hb ho) rfl ?_
  rintro _ _ ⟨rfl, ⟨x, h0, hx, rfl⟩ | ⟨h0, rfl⟩⟩
  rotate_left
  · ((iterate 5 (((apply vL_val); (case h => ((apply opv_E); exact rfl))))); apply vL_nil; apply seqP_normal; (iterate 2 (apply vC_seq)); apply vC_region; ((apply vL_val); (case h => ((apply opv_E); exact rfl))); apply vL_nil; apply seqP_normal; ((apply vC_cond_false); exact rfl); apply vC_skip; apply seqP_normal; apply vC_seq; apply vC_region; (iterate 4 (((apply vL_val); (case h => ((apply opv_E); exact rfl))))); apply vL_nil; apply seqP_normal; apply vC_ret)
    (apply ret2; (case h1 => (first | exact norm_eq rfl | ((conv => lhs; whnf) <;> exact rfl))); (case h2 => (first | exact norm_eq rfl | ((conv => lhs; whnf) <;> exact rfl))))
    exact ⟨lv, xs, Fr.refl _ _, hb, ho, rfl, hone, .inr ⟨h0, rfl, rfl⟩⟩
  have hlt := (List.getElem?_eq_some_iff.1 hx).1
  obtain ⟨n, rfl⟩ : ∃ n : Nat, i = n := ⟨i.toNat, by omega⟩
  ((iterate 5 (((apply vL_val); (case h => ((apply opv_E); exact rfl))))); apply vL_nil; apply seqP_normal; (iterate 2 (apply vC_seq)); apply vC_region; ((apply vL_val); (case h => ((apply opv_E); exact rfl))); apply vL_nil; apply seqP_normal; ((apply vC_cond_true); exact rfl); apply vC_region; (iterate 3 (((apply vL_val); (case h => ((apply opv_E); exact rfl))))); ((apply vL_val); (case h => ((apply opv_fieldAddr); exact rfl))); ((apply vL_val); (case h => ((apply opv_loadb1); exact rfl; exact rfl; (first | assumption | infer_instance); exact rfl))); (iterate 2 (((apply vL_val); (case h => ((apply opv_E); exact rfl))))); ((apply vL_val); (case h => ((apply opv_add); exact rfl; exact rfl; (first | omega | (simp only [List.length_map]; omega))))))
  refine vL_callF rfl (delete_int lv xs n w (by omega) ho) rfl ?_
  rintro v' w1 ⟨hf1, ho1, hown, hone1⟩
  have hne : own lv ≠ some b := Own.ne_blk ho hb (by decide)
  have hb1 : Blk w1.heap b [.bool true, lv] 101 := Blk.fr hf1 hb hne
  haveI : OffB v' b := ⟨by rw [hown]; exact hne⟩
  (((apply vL_val); (case h => ((apply opv_E); exact rfl))); ((apply vL_val); (case h => ((apply opv_fieldAddr); exact rfl))); ((apply vL_skip); (case h => ((apply ops_store1); (first | exact norm_eq rfl | ((conv => lhs; whnf) <;> exact rfl)); (first | exact norm_eq rfl | ((conv => lhs; whnf) <;> exact rfl)); (first | rfl | assumption); (first | assumption | infer_instance); (first | decide | exact of_decide_eq_true rfl | (simp; done))))); apply vL_nil; apply seqP_normal; apply vC_seq; apply vC_region; (iterate 4 (((apply vL_val); (case h => ((apply opv_E); exact rfl))))); apply vL_nil; apply seqP_normal; apply vC_ret)
  (apply ret2; (case h1 => (first | exact norm_eq rfl | ((conv => lhs; whnf) <;> exact rfl))); (case h2 => (first | exact norm_eq rfl | ((conv => lhs; whnf) <;> exact rfl))))
  have h1 : Fr (fun k => k = b ∨ own lv = some k) w w1 := hf1.mono (fun k _ h => .inr h)
  exact ⟨v', _, h1.set _ _ (.inl (.inl rfl)), inferInstance, (inferInstance : Own (w1.setRow b _).heap _ _ _ v' _), hown, hone1, .inl ⟨x, h0, hx, rfl, rfl⟩⟩
theorem q_len_int (b : Nat) (lv : Value) (xs : List Int) (w : World) (hb : Blk w.heap b [.bool true, lv] 101) (ho : Own w.heap 3 1 iE lv xs) :
    Rets Try.prog 62 #[.pointer (some ⟨b, 0, none⟩)] w fun u w' => w = w' ∧ u = .int .i64 xs.length := by
  refine rets_of Try.func62 rfl Try.ntmps62 rfl rfl (by kernel_rfl) ?_
  (apply vC_seq; apply vC_region; ((apply vL_val); (case h => ((apply opv_E); exact rfl))); apply vL_nil; apply seqP_normal; (iterate 2 (apply vC_seq)); apply vC_region; ((apply vL_val); (case h => ((apply opv_E); exact rfl))))
  refine vL_callF rfl (q_right_int b true lv w hb) rfl ?_
  rintro _ _ ⟨rfl, rfl⟩
  (((apply vL_val); (case h => ((apply opv_not); exact rfl))); apply vL_nil; apply seqP_normal; ((apply vC_cond_false); exact rfl); apply vC_skip; apply seqP_normal; apply vC_seq; apply vC_region; (iterate 2 (((apply vL_val); (case h => ((apply opv_E); exact rfl))))); ((apply vL_val); (case h => ((apply opv_fieldAddr); exact rfl))); ((apply vL_val); (case h => ((apply opv_loadb1); exact rfl; exact rfl; (first | assumption | infer_instance); exact rfl))); ((apply vL_val); (case h => ((apply opv_len); (first | exact norm_eq rfl | ((conv => lhs; whnf) <;> exact rfl)); (first | assumption | infer_instance)))); ((apply vL_val); (case h => ((apply opv_E); exact rfl))); apply vL_nil; apply seqP_normal; apply vC_ret)
  (apply ret1; (case h1 => (first | exact norm_eq rfl | ((conv => lhs; whnf) <;> exact rfl))))
  exact ⟨rfl, rfl⟩
theorem kit_same_int (v v' : Value) (xs ys : List Int) (w : World) (hr : Rd w.heap 1 iE v xs) (hr' : Rd w.heap 1 iE v' ys) :
    Rets Try.prog 20 #[v, v'] w fun u w' => (∃ k, w' = w.drewN k) ∧ u = .bool (decide (xs = ys)) := by
  have hs := hr.small
  have hs' := hr'.small
  refine rets_of Try.func20 rfl Try.ntmps20 rfl rfl (by kernel_rfl) ?_
  (apply vC_seq; apply vC_region; ((apply vL_val); (case h => ((apply opv_E); exact rfl))); apply vL_nil; apply seqP_normal; (iterate 2 (apply vC_seq)); apply vC_region; ((apply vL_val); (case h => ((apply opv_move); ((conv => lhs; whnf) <;> exact rfl)))); ((apply vL_val); (case h => ((apply opv_len); (first | exact norm_eq rfl | ((conv => lhs; whnf) <;> exact rfl)); (first | assumption | infer_instance)))); ((apply vL_val); (case h => ((apply opv_move); ((conv => lhs; whnf) <;> exact rfl)))); ((apply vL_val); (case h => ((apply opv_len); (first | exact norm_eq rfl | ((conv => lhs; whnf) <;> exact rfl)); (first | assumption | infer_instance)))); ((apply vL_val); (case h => ((apply opv_E); exact rfl))); apply vL_nil; apply seqP_normal)
  refine vC_cond_dec rfl (fun h => ?_) (fun h => ?_)
  · (apply vC_seq; apply vC_region; ((apply vL_val); (case h => ((apply opv_E); exact rfl))); apply vL_nil; apply seqP_normal; apply vC_ret; apply seqP_ret)
    (apply ret1; (case h1 => (first | exact norm_eq rfl | ((conv => lhs; whnf) <;> exact rfl))))
    exact ⟨⟨0, rfl⟩, by rw [decide_eq_false]; intro e; subst e; exact h rfl⟩
  have hl : xs.length = ys.length := by omega
  (apply vC_skip; apply seqP_normal; (iterate 2 (apply vC_seq)); apply vC_region; ((apply vL_val); (case h => ((apply opv_E); exact rfl))); apply vL_nil; apply seqP_normal; apply vC_block)
  (apply vC_loop1 67106864 5 (fun u w' => ∃ k j : Nat, u = .int .i64 (k : Int) ∧ k ≤ xs.length ∧ w' = w.drewN j ∧ ∀ j : Nat, j < k → ∀ x y, xs[j]? = some x → ys[j]? = some y → x = y) (fun u _ => xs.length - (RowKit.intOf u).toNat)); (case h1 => (first | exact norm_eq rfl | ((conv => lhs; whnf) <;> exact rfl)))
  case h0 => exact ⟨0, 0, rfl, by omega, rfl, fun j hj => by omega⟩
  case round =>
  rintro junk _ _ ⟨k, dn, rfl, hk, rfl, hok⟩
  ((iterate 2 (apply vC_seq)); apply vC_region; ((apply vL_val); (case h => ((apply opv_E); exact rfl))); ((apply vL_val); (case h => ((apply opv_move); ((conv => lhs; whnf) <;> exact rfl)))); ((apply vL_val); (case h => ((apply opv_len); (first | exact norm_eq rfl | ((conv => lhs; whnf) <;> exact rfl)); (first | assumption | infer_instance)))); ((apply vL_val); (case h => ((apply opv_E); exact rfl))); apply vL_nil; apply seqP_normal)
  refine vC_cond_dec rfl (fun h => ?_) (fun h => ?_)
  · have hk' : k < xs.length := by omega
    obtain ⟨a, ha⟩ : ∃ x, xs[k]? = some x := ⟨xs[k], by simp [hk']⟩
    obtain ⟨b, hb⟩ : ∃ x, ys[k]? = some x := ⟨ys[k], by rw [List.getElem?_eq_getElem]⟩
    (apply vC_skip; apply seqP_normal; apply vC_seq; apply vC_block; apply vC_seq)
    (with_reducible apply vC_drawQ); (((apply vQ_op); (case hi => exact rfl); (case hf => kernel_rfl); (case hS => (first | exact Dr.refl _ | assumption | exact ⟨_, rfl⟩)); (case hy => (intro j; ((apply opv_move); ((conv => lhs; whnf) <;> exact rfl))))); ((apply vQ_op); (case hi => exact rfl); (case hf => kernel_rfl); (case hS => (first | exact Dr.refl _ | assumption | exact ⟨_, rfl⟩)); (case hy => (intro j; ((apply opv_E); exact rfl)))); ((apply vQ_op); (case hi => exact rfl); (case hf => kernel_rfl); (case hS => (first | exact Dr.refl _ | assumption | exact ⟨_, rfl⟩)); (case hy => (intro j; ((apply opv_indexAddr); (first | exact norm_eq rfl | ((conv => lhs; whnf) <;> exact rfl)); exact rfl; (first | assumption | infer_instance); (first | omega | (simp only [List.length_map]; omega)); (first | omega | (simp only [List.length_map]; omega)))))); ((apply vQ_op); (case hi => exact rfl); (case hf => kernel_rfl); (case hS => (first | exact Dr.refl _ | assumption | exact ⟨_, rfl⟩)); (case hy => (intro j; ((apply opv_ld_el); exact rfl; exact rfl; (first | assumption | infer_instance); assumption; exact rfl)))); ((apply vQ_op); (case hi => exact rfl); (case hf => kernel_rfl); (case hS => (first | exact Dr.refl _ | assumption | exact ⟨_, rfl⟩)); (case hy => (intro j; ((apply opv_move); ((conv => lhs; whnf) <;> exact rfl))))); ((apply vQ_op); (case hi => exact rfl); (case hf => kernel_rfl); (case hS => (first | exact Dr.refl _ | assumption | exact ⟨_, rfl⟩)); (case hy => (intro j; ((apply opv_E); exact rfl)))); ((apply vQ_op); (case hi => exact rfl); (case hf => kernel_rfl); (case hS => (first | exact Dr.refl _ | assumption | exact ⟨_, rfl⟩)); (case hy => (intro j; ((apply opv_indexAddr); (first | exact norm_eq rfl | ((conv => lhs; whnf) <;> exact rfl)); exact rfl; (first | assumption | infer_instance); (first | omega | (simp only [List.length_map]; omega)); (first | omega | (simp only [List.length_map]; omega)))))); ((apply vQ_op); (case hi => exact rfl); (case hf => kernel_rfl); (case hS => (first | exact Dr.refl _ | assumption | exact ⟨_, rfl⟩)); (case hy => (intro j; ((apply opv_ld_el); exact rfl; exact rfl; (first | assumption | infer_instance); assumption; exact rfl)))); ((apply vQ_op); (case hi => exact rfl); (case hf => kernel_rfl); (case hS => (first | exact Dr.refl _ | assumption | exact ⟨_, rfl⟩)); (case hy => (intro j; ((apply opv_E); exact rfl)))); ((apply vQ_end); (case hi => exact rfl); (case hf => kernel_rfl); (case hS => (first | exact Dr.refl _ | assumption | exact ⟨_, rfl⟩))))
    refine vC_cond_dec rfl (fun hc => ?_) (fun hc => ?_)
    · (apply vC_seq; apply vC_region; ((apply vL_val); (case h => ((apply opv_E); exact rfl))); apply vL_nil; apply seqP_normal; apply vC_ret; apply blockP_ret; apply seqP_ret; apply loopP_ret; apply blockP_ret; apply seqP_ret)
      (apply ret1; (case h1 => (first | exact norm_eq rfl | ((conv => lhs; whnf) <;> exact rfl))))
      exact ⟨⟨dn + 1, rfl⟩, by rw [decide_eq_false]; exact ne_get ha hb hc⟩
    · have hab : a = b := by simpa using hc
      (apply vC_skip; apply blockP_normal; apply seqP_normal; apply vC_region; ((apply vL_val); (case h => ((apply opv_E); exact rfl))); ((apply vL_val); (case h => ((apply opv_add); exact rfl; exact rfl; (first | omega | (simp only [List.length_map]; omega))))); ((apply vL_val); (case h => ((apply opv_E); exact rfl))); apply vL_nil; apply loopP_normal)
      (with_reducible apply end1); (case hs => (repeat (first | (with_reducible exact same_mask _ _ _) | with_reducible apply same_updN | ((with_reducible refine same_updO ?_ ?_); rotate_left; exact rfl) | ((with_reducible refine same_upd ?_ ?_); rotate_left; exact rfl) | ((with_reducible refine same_maskIn ?_ ?_); rotate_left; exact rfl)))); (case h1 => (first | exact norm_eq rfl | ((conv => lhs; whnf) <;> exact rfl)))
      · refine ⟨k + 1, dn + 1, rfl, by omega, rfl, fun j hj x y hx hy => ?_⟩
        by_cases e : j = k
        · subst e
          rw [ha] at hx; rw [hb] at hy; cases hx; cases hy; exact hab
        · exact hok j (by omega) x y hx hy
      · simp [RowKit.intOf]; omega
  · have : xs.length = k := by omega
    (apply vC_exit; apply seqP_exit; apply loopP_exit; apply blockP_exit; apply seqP_normal; apply vC_seq; apply vC_region; ((apply vL_val); (case h => ((apply opv_E); exact rfl))); apply vL_nil; apply seqP_normal; apply vC_ret)
    (apply ret1; (case h1 => (first | exact norm_eq rfl | ((conv => lhs; whnf) <;> exact rfl))))
    exact ⟨⟨dn, rfl⟩, by rw [decide_eq_true]; exact ext_get hl (this ▸ hok)⟩
def without (xs : List Int) (i : Int) : List Int := if i < 0 then xs else xs.take i.toNat ++ xs.drop (i.toNat + 1)
theorem without_succ {xs : List Int} {k : Nat} {x i : Int} (hx : xs[k]? = some x) : without (xs.take (k + 1)) i = if (k : Int) = i then without (xs.take k) i else without (xs.take k) i ++ [x] := by
  have hk := (List.getElem?_eq_some_iff.1 hx).1
  have hlen : (xs.take k).length = k := by simp; omega
  rw [List.take_succ_eq_append_getElem hk, (List.getElem?_eq_some_iff.1 hx).2]
  unfold without
  split
  · rw [if_neg (by omega)]
  · split
    · rename_i h1 h2
      subst h2
      rw [List.take_append_of_le_length (by omega), List.drop_append]
      simp [hlen]
    · rename_i h1 h2
      rcases Nat.lt_or_ge i.toNat k with h | h
      · rw [List.take_append_of_le_length (by omega), List.drop_append_of_le_length (by omega), List.append_assoc]
      · have h3 : k < i.toNat := by omega
        have a1 : (xs.take k ++ [x]).take i.toNat = xs.take k ++ [x] := List.take_of_length_le (by rw [List.length_append, hlen]; simp; omega)
        have a2 : (xs.take k ++ [x]).drop (i.toNat + 1) = [] := List.drop_of_length_le (by rw [List.length_append, hlen]; simp; omega)
        have a3 : (xs.take k).take i.toNat = xs.take k := List.take_of_length_le (by omega)
        have a4 : (xs.take k).drop (i.toNat + 1) = [] := List.drop_of_length_le (by omega)
        rw [a1, a2, a3, a4]
        simp
theorem without_len (xs : List Int) (i : Int) : (without xs i).length ≤ xs.length := by
  unfold without
  split
  · omega
  · simp; omega

theorem without13 (v : Value) (i : Int) (xs : List Int) (w : World) (hr : Rd w.heap 1 iE v xs) (hbig : xs.length * 8 ≤ 140737488355328) :
    Rets Try.prog 17 #[v, .int .i64 i] w fun u w' => Fr No w w' ∧ Own w'.heap 3 1 iE u (without xs i) ∧ (∀ b, own u = some b → w.heap.size ≤ b) ∧ u.oneCell' = true := by
  have hs := hr.small
  refine rets_of Try.func17 rfl Try.ntmps17 rfl rfl (by kernel_rfl) ?_
  (apply vC_seq; apply vC_region; ((apply vL_val); (case h => ((apply opv_E); exact rfl))); apply vL_nil; apply seqP_normal; apply vC_seq; apply vC_region; ((apply vL_val); (case h => ((apply opv_E); exact rfl))); apply vL_nil; apply seqP_normal; (iterate 2 (apply vC_seq)); apply vC_region; ((apply vL_val); (case h => ((apply opv_E); exact rfl))); apply vL_nil; apply seqP_normal; apply vC_block)
  (apply vC_loop2 8388576 6 5 (fun u v5 w' => ∃ k : Nat, u = .int .i64 (k : Int) ∧ k ≤ xs.length ∧ Own w'.heap 3 1 iE v5 (without (xs.take k) i) ∧ Fr No w w' ∧ (∀ b, own v5 = some b → w.heap.size ≤ b) ∧ v5.oneCell' = true) (fun u _ _ => xs.length - (RowKit.intOf u).toNat)); (case h1 => (first | exact norm_eq rfl | ((conv => lhs; whnf) <;> exact rfl))); (case h2 => (first | exact norm_eq rfl | ((conv => lhs; whnf) <;> exact rfl)))
  case h0 => exact ⟨0, rfl, by omega, (by have : without (xs.take 0) i = [] := (by simp [without]); rw [this]; exact Own.nil _ _ _ _), Fr.refl _ _, fun b hb => (by cases hb), rfl⟩
  case round =>
  rintro junk _ v5 w1 ⟨k, rfl, hk, ho, hf, hfresh, hone⟩
  have hr1 := Rd.frN hf hr
  ((iterate 2 (apply vC_seq)); apply vC_region; ((apply vL_val); (case h => ((apply opv_E); exact rfl))); ((apply vL_val); (case h => ((apply opv_move); ((conv => lhs; whnf) <;> exact rfl)))); ((apply vL_val); (case h => ((apply opv_len); (first | exact norm_eq rfl | ((conv => lhs; whnf) <;> exact rfl)); (first | assumption | infer_instance)))); ((apply vL_val); (case h => ((apply opv_E); exact rfl))); apply vL_nil; apply seqP_normal)
  refine vC_cond_dec rfl (fun hc => ?_) (fun hc => ?_)
  · have hk' : k < xs.length := by omega
    obtain ⟨x, hx⟩ : ∃ x, xs[k]? = some x := ⟨xs[k], by simp [hk']⟩
    have hsucc := without_succ (i := i) hx
    have hout : (without (xs.take k) i).length ≤ k := by have := without_len (xs.take k) i; simp at this; omega
    generalize without (xs.take k) i = out at *
    (apply vC_skip; apply seqP_normal; apply vC_seq; apply vC_block; apply vC_seq; apply vC_region; (iterate 3 (((apply vL_val); (case h => ((apply opv_E); exact rfl))))); apply vL_nil; apply seqP_normal)
    refine vC_cond_dec rfl (fun hd => ?_) (fun hd => ?_)
    · rw [if_neg hd] at hsucc
      (apply vC_region; (iterate 2 (((apply vL_val); (case h => ((apply opv_move); ((conv => lhs; whnf) <;> exact rfl)))))); ((apply vL_val); (case h => ((apply opv_E); exact rfl))); ((apply vL_val); (case h => ((apply opv_indexAddr); (first | exact norm_eq rfl | ((conv => lhs; whnf) <;> exact rfl)); exact rfl; (first | assumption | infer_instance); (first | omega | (simp only [List.length_map]; omega)); (first | omega | (simp only [List.length_map]; omega))))); ((apply vL_val); (case h => ((apply opv_ld_el); exact rfl; exact rfl; (first | assumption | infer_instance); assumption; exact rfl))); ((apply vL_val); (case h => ((apply opw_buildSl); exact rfl; exact rfl; exact rfl; (first | exact (rfl : _ = some []) | exact (rfl : _ = some [_]) | exact (rfl : _ = some [_, _]) | exact (rfl : _ = some [_, _, _]) | exact (rfl : _ = some [_, _, _, _]) | exact (rfl : _ = some [_, _, _, _, _]) | exact (rfl : _ = some [_, _, _, _, _, _]) | exact (rfl : _ = some [_, _, _, _, _, _, _]) | exact (rfl : _ = some [_, _, _, _, _, _, _, _]) | exact (rfl : _ = some [_, _, _, _, _, _, _, _, _]) | exact (rfl : _ = some [_, _, _, _, _, _, _, _, _, _]) | exact (rfl : _ = some [_, _, _, _, _, _, _, _, _, _, _]) | exact (rfl : _ = some [_, _, _, _, _, _, _, _, _, _, _, _]) | exact (rfl : _ = some [_, _, _, _, _, _, _, _, _, _, _, _, _]) | exact (rfl : _ = some [_, _, _, _, _, _, _, _, _, _, _, _, _, _]) | exact (rfl : _ = some [_, _, _, _, _, _, _, _, _, _, _, _, _, _, _]) | exact (rfl : _ = some [_, _, _, _, _, _, _, _, _, _, _, _, _, _, _, _]))))))
      refine vL_append (enc := iE) (xs := out) (ys := [x]) (by (first | exact norm_eq rfl | ((conv => lhs; whnf) <;> exact rfl))) (by (first | exact norm_eq rfl | ((conv => lhs; whnf) <;> exact rfl))) (Own.alloc ho) (Rd.new1 _ _ rfl) rfl (by decide) ?_ ?_ ?_
      · simp [maxLen]; omega
      · simp; omega
      intro v' w2 ho2 hf2 hfr2 hone2 _
      have hf3 : Fr No w w2 := (hf.alloc _).trans' hf2 (fun i hi => .inr (hfresh i hi))
      (((apply vL_val); (case h => ((apply opv_assign); ((conv => lhs; whnf) <;> exact rfl)))); apply vL_nil; apply blockP_normal; apply seqP_normal; apply vC_region; ((apply vL_val); (case h => ((apply opv_E); exact rfl))); ((apply vL_val); (case h => ((apply opv_add); exact rfl; exact rfl; (first | omega | (simp only [List.length_map]; omega))))); ((apply vL_val); (case h => ((apply opv_E); exact rfl))); apply vL_nil; apply loopP_normal)
      (with_reducible apply end2); (case hs => (repeat (first | (with_reducible exact same_mask _ _ _) | with_reducible apply same_updN | ((with_reducible refine same_updO ?_ ?_); rotate_left; exact rfl) | ((with_reducible refine same_upd ?_ ?_); rotate_left; exact rfl) | ((with_reducible refine same_maskIn ?_ ?_); rotate_left; exact rfl)))); (case h1 => (first | exact norm_eq rfl | ((conv => lhs; whnf) <;> exact rfl))); (case h2 => (first | exact norm_eq rfl | ((conv => lhs; whnf) <;> exact rfl)))
      · refine ⟨k + 1, rfl, hk', by rw [hsucc]; exact ho2, hf3, fun b hb => ?_, hone2⟩
        rcases hfr2 b hb with h | h
        · exact hfresh b h
        · have := hf.size; rw [alloc_size] at h; omega
      · simp [RowKit.intOf]; omega
    · rw [if_pos (by omega)] at hsucc
      (apply vC_skip; apply blockP_normal; apply seqP_normal; apply vC_region; ((apply vL_val); (case h => ((apply opv_E); exact rfl))); ((apply vL_val); (case h => ((apply opv_add); exact rfl; exact rfl; (first | omega | (simp only [List.length_map]; omega))))); ((apply vL_val); (case h => ((apply opv_E); exact rfl))); apply vL_nil; apply loopP_normal)
      (with_reducible apply end2); (case hs => (repeat (first | (with_reducible exact same_mask _ _ _) | with_reducible apply same_updN | ((with_reducible refine same_updO ?_ ?_); rotate_left; exact rfl) | ((with_reducible refine same_upd ?_ ?_); rotate_left; exact rfl) | ((with_reducible refine same_maskIn ?_ ?_); rotate_left; exact rfl)))); (case h1 => (first | exact norm_eq rfl | ((conv => lhs; whnf) <;> exact rfl))); (case h2 => (first | exact norm_eq rfl | ((conv => lhs; whnf) <;> exact rfl)))
      · exact ⟨k + 1, rfl, hk', by rw [hsucc]; exact ho, hf, hfresh, hone⟩
      · simp [RowKit.intOf]; omega
  have e : k = xs.length := by omega
  subst e
  rw [List.take_length] at ho
  (apply vC_exit; apply seqP_exit; apply loopP_exit; apply blockP_exit; apply seqP_normal; apply vC_seq; apply vC_region; ((apply vL_val); (case h => ((apply opv_move); ((conv => lhs; whnf) <;> exact rfl)))); ((apply vL_val); (case h => ((apply opv_assign); ((conv => lhs; whnf) <;> exact rfl)))); apply vL_nil; apply seqP_normal; apply vC_ret)
  (apply ret1; (case h1 => (first | exact norm_eq rfl | ((conv => lhs; whnf) <;> exact rfl))))
  exact ⟨hf, ho, hfresh, hone⟩
theorem filter_next {α : Type} {p : α → Bool} {xs : List α} {j : Nat} {x : α} (hx : xs[j]? = some x) : (xs.take (j + 1)).filter p = if p x then (xs.take j).filter p ++ [x] else (xs.take j).filter p := by
  have hj := (List.getElem?_eq_some_iff.1 hx).1
  rw [List.take_succ_eq_append_getElem hj, (List.getElem?_eq_some_iff.1 hx).2, List.filter_append]
  split <;> simp_all

theorem deleteFunc_int (fv v : Value) (p : Int → Bool) (xs : List Int) (w : World) (f : FuncId) (cap : List Value) [FnOk Try.prog f] (ho : Own w.heap 3 1 iE v xs) (hone : v.oneCell' = true) (hfv : fv = .func (.func f) #[] cap.toArray)
    (hf : ∀ x w1, Fr (fun k => own v = some k) w w1 → Rets Try.prog f (Value.int .i64 x :: cap).toArray w1 fun v w2 => v = .bool (p x) ∧ Fr No w1 w2) :
    Rets Try.prog 82 #[v, fv] w fun u w' => Fr (fun k => own v = some k) w w' ∧ Own w'.heap 3 1 iE u (xs.filter fun x => !p x) ∧ own u = own v ∧ u.oneCell' = true := by
  have hs := ho.rd.small
  refine rets_of Try.func82 rfl Try.ntmps82 rfl rfl (by kernel_rfl) ?_
  (apply vC_seq; apply vC_region; ((apply vL_val); (case h => ((apply opv_E); exact rfl))); apply vL_nil; apply seqP_normal; apply vC_seq; apply vC_region; (iterate 2 (((apply vL_val); (case h => ((apply opv_move); ((conv => lhs; whnf) <;> exact rfl)))))))
  refine vL_callF rfl (indexFunc_int fv v p xs w f cap ho.rd hfv (fun x w1 _ h => hf x w1 h.no_any)) rfl ?_
  subst hfv
  rintro _ w1 ⟨hf1, ⟨rfl, hno⟩ | ⟨k, rfl, hk, ⟨x0, hx0, hpx0⟩, hp⟩⟩
  · have F1 : From w1 _ := ⟨hf1⟩
    (((apply vL_val); (case h => ((apply opv_E); exact rfl))); apply vL_nil; apply seqP_normal; (iterate 2 (apply vC_seq)); apply vC_region; (iterate 2 (((apply vL_val); (case h => ((apply opv_E); exact rfl))))); apply vL_nil; apply seqP_normal; ((apply vC_cond_true); exact rfl); apply vC_seq; apply vC_region; ((apply vL_val); (case h => ((apply opv_move); ((conv => lhs; whnf) <;> exact rfl)))); ((apply vL_val); (case h => ((apply opv_assign); ((conv => lhs; whnf) <;> exact rfl)))); apply vL_nil; apply seqP_normal; apply vC_ret; apply seqP_ret)
    (apply ret1; (case h1 => (first | exact norm_eq rfl | ((conv => lhs; whnf) <;> exact rfl))))
    refine ⟨hf1.mono (fun k _ h => h.elim), ?_, rfl, hone⟩
    have : xs.filter (fun x => !p x) = xs := by
      rw [List.filter_eq_self]
      intro x hx
      simp [hno x hx]
    rw [this]
    exact ho.frN hf1
  have ho1 := ho.frN hf1
  (((apply vL_val); (case h => ((apply opv_E); exact rfl))); apply vL_nil; apply seqP_normal; (iterate 2 (apply vC_seq)); apply vC_region; (iterate 2 (((apply vL_val); (case h => ((apply opv_E); exact rfl))))); apply vL_nil; apply seqP_normal; ((apply vC_cond_false); exact rfl); apply vC_skip; apply seqP_normal; (iterate 2 (apply vC_seq)); apply vC_region; ((apply vL_val); (case h => ((apply opv_E); exact rfl))); ((apply vL_val); (case h => ((apply opv_add); exact rfl; exact rfl; (first | omega | (simp only [List.length_map]; omega))))); ((apply vL_val); (case h => ((apply opv_E); exact rfl))); apply vL_nil; apply seqP_normal; apply vC_block)
  (apply vC_loop3 68719411424 6 5 7 (fun u v5 _ w' => ∃ (i j : Nat) (cur : List Int), u = .int .i64 (j : Int) ∧ v5 = .int .i64 (i : Int) ∧ i < j ∧ j ≤ xs.length ∧ Own w'.heap 3 1 iE v cur ∧ cur.length = xs.length ∧ cur.take i = (xs.take j).filter (fun x => !p x) ∧ cur.drop j = xs.drop j ∧ Fr (fun k => own v = some k) w w') (fun u _ _ _ => xs.length - (RowKit.intOf u).toNat)); (case h1 => (first | exact norm_eq rfl | ((conv => lhs; whnf) <;> exact rfl))); (case h2 => (first | exact norm_eq rfl | ((conv => lhs; whnf) <;> exact rfl))); (case h3 => (first | exact norm_eq rfl | ((conv => lhs; whnf) <;> exact rfl)))
  case h0 =>
    refine ⟨k, k + 1, xs, rfl, rfl, by omega, by omega, ho1, rfl, ?_, rfl, hf1.mono (fun k _ h => h.elim)⟩
    rw [filter_next hx0]
    simp only [hpx0, Bool.not_true, Bool.false_eq_true, if_false]
    symm
    rw [List.filter_eq_self]
    intro x hx
    obtain ⟨j, hj, rfl⟩ := List.getElem_of_mem hx
    simp at hj
    have := hp j (by omega) (xs[j]'(by omega)) (List.getElem?_eq_getElem _)
    simp [this]
  case round =>
  rintro junk _ _ v7 w2 ⟨i, j, cur, rfl, rfl, hij, hj, ho2, hcl, hct, hcd, hf2⟩
  ((iterate 2 (apply vC_seq)); apply vC_region; ((apply vL_val); (case h => ((apply opv_E); exact rfl))); ((apply vL_val); (case h => ((apply opv_move); ((conv => lhs; whnf) <;> exact rfl)))); ((apply vL_val); (case h => ((apply opv_len); (first | exact norm_eq rfl | ((conv => lhs; whnf) <;> exact rfl)); (first | assumption | infer_instance)))); ((apply vL_val); (case h => ((apply opv_E); exact rfl))); apply vL_nil; apply seqP_normal)
  refine vC_cond_dec rfl (fun hc => ?_) (fun hc => ?_)
  · have hj' : j < xs.length := by omega
    obtain ⟨x, hx⟩ : ∃ x, xs[j]? = some x := ⟨xs[j], by simp [hj']⟩
    have hcx : cur[j]? = some x := by
      have h1 : (cur.drop j)[0]? = (xs.drop j)[0]? := by rw [hcd]
      simpa [hx] using h1
    (apply vC_skip; apply seqP_normal; apply vC_seq; apply vC_block; apply vC_seq; apply vC_region; ((apply vL_val); (case h => ((apply opv_move); ((conv => lhs; whnf) <;> exact rfl)))); ((apply vL_val); (case h => ((apply opv_E); exact rfl))); ((apply vL_val); (case h => ((apply opv_indexAddr); (first | exact norm_eq rfl | ((conv => lhs; whnf) <;> exact rfl)); exact rfl; (first | assumption | infer_instance); (first | omega | (simp only [List.length_map]; omega)); (first | omega | (simp only [List.length_map]; omega))))); ((apply vL_val); (case h => ((apply opv_ld_el); exact rfl; exact rfl; (first | assumption | infer_instance); assumption; exact rfl))); ((apply vL_val); (case h => ((apply opv_E); exact rfl))); apply vL_nil; apply seqP_normal; apply vC_seq; apply vC_region; (iterate 2 (((apply vL_val); (case h => ((apply opv_E); exact rfl))))))
    refine vL_callF rfl (hf x w2 hf2) rfl ?_
    rintro _ w3 ⟨rfl, hf3⟩
    have hf23 : Fr (fun k => own v = some k) w w3 := hf2.trans (hf3.mono (fun k _ h => h.elim))
    have ho3 := ho2.frN hf3
    (((apply vL_val); (case h => ((apply opv_not); exact rfl))); apply vL_nil; apply seqP_normal)
    refine vC_cond rfl (fun hpx => ?_) (fun hpx => ?_)
    · (apply vC_seq; apply vC_region; ((apply vL_val); (case h => ((apply opv_move); ((conv => lhs; whnf) <;> exact rfl)))); (iterate 2 (((apply vL_val); (case h => ((apply opv_E); exact rfl))))); ((apply vL_val); (case h => ((apply opv_indexAddr); (first | exact norm_eq rfl | ((conv => lhs; whnf) <;> exact rfl)); exact rfl; (first | assumption | infer_instance); (first | omega | (simp only [List.length_map]; omega)); (first | omega | (simp only [List.length_map]; omega))))))
      refine vL_storeEl (enc := iE) (xs := cur) x rfl rfl rfl ho3 (by omega) ?_
      intro w4 ho4 hf4
      (apply vL_nil; apply seqP_normal; apply vC_region; ((apply vL_val); (case h => ((apply opv_E); exact rfl))); ((apply vL_val); (case h => ((apply opv_add); exact rfl; exact rfl; (first | omega | (simp only [List.length_map]; omega))))); ((apply vL_val); (case h => ((apply opv_E); exact rfl))); apply vL_nil; apply blockP_normal; apply seqP_normal; apply vC_region; ((apply vL_val); (case h => ((apply opv_E); exact rfl))); ((apply vL_val); (case h => ((apply opv_add); exact rfl; exact rfl; (first | omega | (simp only [List.length_map]; omega))))); ((apply vL_val); (case h => ((apply opv_E); exact rfl))); apply vL_nil; apply loopP_normal)
      (with_reducible apply end3); (case hs => (repeat (first | (with_reducible exact same_mask _ _ _) | with_reducible apply same_updN | ((with_reducible refine same_updO ?_ ?_); rotate_left; exact rfl) | ((with_reducible refine same_upd ?_ ?_); rotate_left; exact rfl) | ((with_reducible refine same_maskIn ?_ ?_); rotate_left; exact rfl)))); (case h1 => (first | exact norm_eq rfl | ((conv => lhs; whnf) <;> exact rfl))); (case h2 => (first | exact norm_eq rfl | ((conv => lhs; whnf) <;> exact rfl))); (case h3 => (first | exact norm_eq rfl | ((conv => lhs; whnf) <;> exact rfl)))
      · refine ⟨i + 1, j + 1, cur.set i x, rfl, rfl, by omega, by omega, ho4, by simp [hcl], ?_, ?_, hf23.trans hf4⟩
        · rw [filter_next hx, if_pos (by simpa using hpx), ← hct]
          rw [List.take_succ_eq_append_getElem (by simp; omega)]
          simp [List.take_set_of_le]
        · rw [List.drop_set_of_lt (by omega)]
          rw [← List.drop_drop, ← List.drop_drop, hcd]
      · simp [RowKit.intOf]; omega
    · (apply vC_skip; apply blockP_normal; apply seqP_normal; apply vC_region; ((apply vL_val); (case h => ((apply opv_E); exact rfl))); ((apply vL_val); (case h => ((apply opv_add); exact rfl; exact rfl; (first | omega | (simp only [List.length_map]; omega))))); ((apply vL_val); (case h => ((apply opv_E); exact rfl))); apply vL_nil; apply loopP_normal)
      (with_reducible apply end3); (case hs => (repeat (first | (with_reducible exact same_mask _ _ _) | with_reducible apply same_updN | ((with_reducible refine same_updO ?_ ?_); rotate_left; exact rfl) | ((with_reducible refine same_upd ?_ ?_); rotate_left; exact rfl) | ((with_reducible refine same_maskIn ?_ ?_); rotate_left; exact rfl)))); (case h1 => (first | exact norm_eq rfl | ((conv => lhs; whnf) <;> exact rfl))); (case h2 => (first | exact norm_eq rfl | ((conv => lhs; whnf) <;> exact rfl))); (case h3 => (first | exact norm_eq rfl | ((conv => lhs; whnf) <;> exact rfl)))
      · refine ⟨i, j + 1, cur, rfl, rfl, by omega, by omega, ho3, hcl, ?_, ?_, hf23⟩
        · rw [filter_next hx, if_neg (by simpa using hpx), ← hct]
        · rw [← List.drop_drop, ← List.drop_drop, hcd]
      · simp [RowKit.intOf]; omega
  have ej : j = xs.length := by omega
  subst ej
  rw [List.take_length] at hct
  rcases ho2.shape with ⟨_, rfl⟩ | ⟨g, cap', cs, rfl, hb, hn, hm, hl, ht⟩
  · simp at hcl; omega
  have hm' : cap' ≤ 9223372036854775807 := by unfold maxLen at hm; omega
  have hlen : (xs.filter fun x => !p x).length = i := by rw [← hct]; simp; omega
  (apply vC_exit; apply seqP_exit; apply loopP_exit; apply blockP_exit; apply seqP_normal; apply vC_seq; apply vC_region; (iterate 2 (((apply vL_val); (case h => ((apply opv_E); exact rfl))))); ((apply vL_val); (case h => ((apply opv_slice_lo'); exact rfl; exact rfl; (first | omega | (simp only [List.length_map]; omega)); (first | omega | (simp only [List.length_map]; omega))))))
  apply vL_val
  (case h => (refine opw_clear (by (first | exact norm_eq rfl | ((conv => lhs; whnf) <;> exact rfl))) rfl hb ?_; rw [if_neg (by omega)]; omega))
  (apply vL_nil; apply seqP_normal; apply vC_seq; apply vC_region; (iterate 2 (((apply vL_val); (case h => ((apply opv_E); exact rfl))))); ((apply vL_val); (case h => ((apply opv_slice_hi'); exact rfl; exact rfl; (first | omega | (simp only [List.length_map]; omega)); (first | omega | (simp only [List.length_map]; omega))))); ((apply vL_val); (case h => ((apply opv_E); exact rfl))); apply vL_nil; apply seqP_normal; apply vC_ret)
  (apply ret1; (case h1 => (first | exact norm_eq rfl | ((conv => lhs; whnf) <;> exact rfl))))
  refine ⟨hf2.set g _ (.inl rfl), ?_, rfl, rfl⟩
  refine ⟨fun x _ => EncOk.len x, .inr ⟨g, cap', _, ?_, Blk.set hb, ?_, hm, ?_, ?_⟩⟩
  · rw [hlen]; rfl
  · rw [hlen]; omega
  · rw [if_neg (by omega)]; simp only [List.length_append, List.length_take, List.length_drop, List.length_replicate]; omega
  · rw [if_neg (by omega), hlen, List.append_assoc]
    rw [show 0 + (i : Int).toNat * 1 = i by omega]
    rw [List.take_append_of_le_length (by simp; omega), List.take_take, Nat.min_eq_left (by omega), ← hct, flatMap_take cur i ho2.size, ← ht, List.take_take]
    congr 1
    omega
theorem q_drop (b : Nat) (lv : Value) (p : Int → Bool) (xs : List Int) (w : World) (f : FuncId) (cap : List Value) [FnOk Try.prog f] (hb : Blk w.heap b [.bool true, lv] 101) (ho : Own w.heap 3 1 iE lv xs) (hone : lv.oneCell' = true)
    (hf : ∀ x w1, Fr (fun k => own lv = some k) w w1 → Rets Try.prog f (Value.int .i64 x :: cap).toArray w1 fun v w2 => v = .bool (p x) ∧ Fr No w1 w2) :
    Rets Try.prog 59 #[.pointer (some ⟨b, 0, none⟩), .func (.func f) #[] cap.toArray] w fun u w' => ∃ lv', Fr (fun k => k = b ∨ own lv = some k) w w' ∧ Blk w'.heap b [.bool true, lv'] 101 ∧ Own w'.heap 3 1 iE lv' (xs.filter fun x => !p x) ∧ own lv' = own lv ∧ lv'.oneCell' = true ∧
      u = .int .i64 ((xs.length : Int) - ((xs.filter fun x => !p x).length : Nat)) := by
  have hs := ho.rd.small
  have hfl := List.length_filter_le (fun x => !p x) xs
  refine rets_of Try.func59 rfl Try.ntmps59 rfl rfl (by kernel_rfl) ?_
  (apply vC_seq; apply vC_region; ((apply vL_val); (case h => ((apply opv_E); exact rfl))); apply vL_nil; apply seqP_normal; (iterate 2 (apply vC_seq)); apply vC_region; ((apply vL_val); (case h => ((apply opv_E); exact rfl))))
  refine vL_callF rfl (q_right_int b true lv w hb) rfl ?_
  rintro _ _ ⟨rfl, rfl⟩
  (((apply vL_val); (case h => ((apply opv_not); exact rfl))); ((apply vL_val); (case h => ((apply opv_E); exact rfl))); ((apply vL_wanted); exact rfl); ((apply vL_val); (case h => ((apply opv_E); exact rfl))); ((apply vL_wanted); exact rfl); ((apply vL_val); (case h => ((apply opv_eql_fnil); exact rfl; exact rfl))); ((apply vL_val); (case h => ((apply opv_E); exact rfl))); apply vL_nil; apply seqP_normal; ((apply vC_cond_false); exact rfl); apply vC_skip; apply seqP_normal; apply vC_seq; apply vC_region; (iterate 2 (((apply vL_val); (case h => ((apply opv_E); exact rfl))))); ((apply vL_val); (case h => ((apply opv_fieldAddr); exact rfl))); ((apply vL_val); (case h => ((apply opv_loadb1); exact rfl; exact rfl; (first | assumption | infer_instance); exact rfl))); ((apply vL_val); (case h => ((apply opv_len); (first | exact norm_eq rfl | ((conv => lhs; whnf) <;> exact rfl)); (first | assumption | infer_instance)))); ((apply vL_val); (case h => ((apply opv_E); exact rfl))); apply vL_nil; apply seqP_normal; apply vC_seq; apply vC_region; (iterate 3 (((apply vL_val); (case h => ((apply opv_E); exact rfl))))); ((apply vL_val); (case h => ((apply opv_fieldAddr); exact rfl))); ((apply vL_val); (case h => ((apply opv_loadb1); exact rfl; exact rfl; (first | assumption | infer_instance); exact rfl))); ((apply vL_val); (case h => ((apply opv_E); exact rfl))))
  refine vL_callF rfl (deleteFunc_int _ lv p xs w f cap ho hone rfl hf) rfl ?_
  rintro v' w1 ⟨hf1, ho1, hown, hone1⟩
  have hne : own lv ≠ some b := Own.ne_blk ho hb (by decide)
  have hb1 : Blk w1.heap b [.bool true, lv] 101 := Blk.fr hf1 hb hne
  haveI : OffB v' b := ⟨by rw [hown]; exact hne⟩
  (((apply vL_val); (case h => ((apply opv_E); exact rfl))); ((apply vL_val); (case h => ((apply opv_fieldAddr); exact rfl))); ((apply vL_skip); (case h => ((apply ops_store1); (first | exact norm_eq rfl | ((conv => lhs; whnf) <;> exact rfl)); (first | exact norm_eq rfl | ((conv => lhs; whnf) <;> exact rfl)); (first | rfl | assumption); (first | assumption | infer_instance); (first | decide | exact of_decide_eq_true rfl | (simp; done))))); apply vL_nil; apply seqP_normal; apply vC_seq; apply vC_region; (iterate 3 (((apply vL_val); (case h => ((apply opv_E); exact rfl))))); ((apply vL_val); (case h => ((apply opv_fieldAddr); exact rfl))); ((apply vL_val); (case h => ((apply opv_loadb1); exact rfl; exact rfl; (first | assumption | infer_instance); exact rfl))); ((apply vL_val); (case h => ((apply opv_len); (first | exact norm_eq rfl | ((conv => lhs; whnf) <;> exact rfl)); (first | assumption | infer_instance)))); ((apply vL_val); (case h => ((apply opv_sub); exact rfl; exact rfl; (first | omega | (simp only [List.length_map]; omega))))); ((apply vL_val); (case h => ((apply opv_E); exact rfl))); apply vL_nil; apply seqP_normal; apply vC_ret)
  (apply ret1; (case h1 => (first | exact norm_eq rfl | ((conv => lhs; whnf) <;> exact rfl))))
  have h1 : Fr (fun k => k = b ∨ own lv = some k) w w1 := hf1.mono (fun k _ h => .inr h)
  exact ⟨v', h1.set _ _ (.inl (.inl rfl)), inferInstance, (inferInstance : Own (w1.setRow b _).heap _ _ _ v' _), hown, hone1, rfl⟩
structure Q_int (w0 w : World) (b : Nat) (lv : Value) (xs : List Int) : Prop where
  fr : Fr No w0 w
  hb : Blk w.heap b [.bool true, lv] 101
  ho : Own w.heap 3 1 iE lv xs
  one : lv.oneCell' = true
  fb : w0.heap.size ≤ b
  fl : ∀ k, own lv = some k → w0.heap.size ≤ k
theorem Q_int.step {w0 w w' : World} {b : Nat} {lv lv' : Value} {xs xs' : List Int} (q : Q_int w0 w b lv xs) (hf : Fr (fun k => k = b ∨ own lv = some k) w w') (hb : Blk w'.heap b [.bool true, lv'] 101) (ho : Own w'.heap 3 1 iE lv' xs') (hl : ∀ k, own lv' = some k → own lv = some k ∨ w.heap.size ≤ k) (hone : lv'.oneCell' = true) : Q_int w0 w' b lv' xs' := by
  refine ⟨q.fr.trans' hf (fun k hk => .inr ?_), hb, ho, hone, q.fb, fun k hk => ?_⟩
  · rcases hk with rfl | h
    · exact q.fb
    · exact q.fl k h
  · rcases hl k hk with h | h
    · exact q.fl k h
    · have := q.fr.size; omega
theorem Q_int.same {w0 w w' : World} {b : Nat} {lv : Value} {xs : List Int} (q : Q_int w0 w b lv xs) (hf : Fr No w w') : Q_int w0 w' b lv xs :=
  ⟨q.fr.trans hf, q.hb.frN hf, q.ho.frN hf, q.one, q.fb, q.fl⟩
/-- a list of the law's own, beside a queue -/
structure L_int (w0 w : World) (lv v : Value) (ys : List Int) : Prop where
  ho : Own w.heap 3 1 iE v ys
  fl : ∀ j, own v = some j → w0.heap.size ≤ j
  one : v.oneCell' = true
  dis : ∀ j, own lv = some j → own v ≠ some j
theorem L_int.same {w0 w w' : World} {lv v : Value} {ys : List Int} (l : L_int w0 w lv v ys) (hf : Fr No w w') : L_int w0 w' lv v ys := ⟨l.ho.frN hf, l.fl, l.one, l.dis⟩
theorem L_int.step {w0 w w' : World} {b : Nat} {c : List Value} {lv lv' v : Value} {ys : List Int} (l : L_int w0 w lv v ys) (hb : Blk w.heap b c 101) (hf : Fr (fun k => k = b ∨ own lv = some k) w w') (hl : ∀ k, own lv' = some k → own lv = some k ∨ w.heap.size ≤ k) : L_int w0 w' lv' v ys :=
  ⟨l.ho.fr hf (fun j h6 h => by
    rcases h with rfl | h
    · exact Own.ne_blk l.ho hb (by decide) h6
    · exact l.dis j h h6), l.fl, l.one, fun j hj h6 => by
    rcases hl j hj with h | h
    · exact l.dis j h h6
    · have := l.ho.lt j h6; omega⟩
/-- the list is written or replaced; the queue stays -/
theorem L_int.set {w0 w w' : World} {b : Nat} {lv v v' : Value} {xs ys ys' : List Int} (l : L_int w0 w lv v ys) (q : Q_int w0 w b lv xs) (hf : Fr (fun k => own v = some k) w w') (ho : Own w'.heap 3 1 iE v' ys') (hl : ∀ k, own v' = some k → own v = some k ∨ w.heap.size ≤ k) (hone : v'.oneCell' = true) : L_int w0 w' lv v' ys' ∧ Q_int w0 w' b lv xs :=
  ⟨⟨ho, fun j hj => by
    rcases hl j hj with h | h
    · exact l.fl j h
    · have := q.fr.size; omega, hone, fun j hj h6 => by
    rcases hl j h6 with h | h
    · exact l.dis j hj h
    · have := q.ho.lt j hj; omega⟩,
   ⟨q.fr.trans' hf (fun i hi => .inr (l.fl i hi)), q.hb.fr hf (Own.ne_blk l.ho q.hb (by decide)), q.ho.fr hf (fun j hj h => l.dis j hj h), q.one, q.fb, q.fl⟩⟩
theorem ob_keep_int {w w' : World} {b o : Nat} {T : TypeId} {c d : List Value} {lv : Value} {xs : List Int} (hf : Fr (fun k => k = b ∨ own lv = some k) w w') (hb : Blk w.heap b c 101) (ho : Own w.heap 3 1 iE lv xs) (hob : Blk w.heap o d T) (h1 : T ≠ 101) (h2 : T ≠ 3) : Blk w'.heap o d T :=
  hob.fr hf (fun h => by
    rcases h with rfl | h
    · exact hob.ne_type hb h1 rfl
    · exact Own.ne_blk ho hob (fun h => h2 h.symm) h)
theorem L_int.new {w0 w w' : World} {b : Nat} {lv v' : Value} {xs ys' : List Int} (q : Q_int w0 w b lv xs) (hf : Fr No w w') (ho : Own w'.heap 3 1 iE v' ys') (hl : ∀ k, own v' = some k → w.heap.size ≤ k) (hone : v'.oneCell' = true) : L_int w0 w' lv v' ys' :=
  ⟨ho, fun j hj => by have := hl j hj; have := q.fr.size; omega, hone, fun j hj h6 => by have := q.ho.lt j hj; have := hl j h6; omega⟩
end Go.Proofs.Ytaeckjhipmcddaa
