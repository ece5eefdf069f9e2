/- Layer 13: the laws QueueNone and QueueFirst. -/
import Derived.Test.YtfceebbkjogedaaQg
set_option maxRecDepth 100000
namespace Go.Proofs.Ytfceebbkjogedaa
open Go Go.Eng

theorem none13 (n : Int) (w : World) : Rets Try.prog 7 #[.int .i64 n] w fun u w' => u = .bool true ∧ Fr No w w' := by
  have h0 : ∀ w, NotRight (.pointer none) w := fun w => q_right_nil_int w
  have h1 : ∀ w' b lv, Blk w'.heap b [.bool false, lv] 56 → NotRight (.pointer (some ⟨b, 0, none⟩)) w' := fun w' b lv hb => q_right_int b false lv w' hb
  refine rets_of Try.func7 rfl Try.ntmps7 rfl rfl (by kernel_rfl) ?_
  (apply vC_seq; apply vC_region; ((apply vL_val); (case h => ((apply opv_E); exact rfl))); apply vL_nil; apply seqP_normal; apply vC_seq; apply vC_region; ((apply vL_val); (case h => ((apply opv_E); exact rfl))); apply vL_nil; apply seqP_normal; apply vC_seq; apply vC_region; ((apply vL_val); (case h => ((apply opv_buildS); exact rfl; (first | exact (rfl : _ = some []) | exact (rfl : _ = some [_]) | exact (rfl : _ = some [_, _]) | exact (rfl : _ = some [_, _, _]) | exact (rfl : _ = some [_, _, _, _]) | exact (rfl : _ = some [_, _, _, _, _]) | exact (rfl : _ = some [_, _, _, _, _, _]) | exact (rfl : _ = some [_, _, _, _, _, _, _]) | exact (rfl : _ = some [_, _, _, _, _, _, _, _]) | exact (rfl : _ = some [_, _, _, _, _, _, _, _, _]) | exact (rfl : _ = some [_, _, _, _, _, _, _, _, _, _]) | exact (rfl : _ = some [_, _, _, _, _, _, _, _, _, _, _]) | exact (rfl : _ = some [_, _, _, _, _, _, _, _, _, _, _, _]) | exact (rfl : _ = some [_, _, _, _, _, _, _, _, _, _, _, _, _]) | exact (rfl : _ = some [_, _, _, _, _, _, _, _, _, _, _, _, _, _]) | exact (rfl : _ = some [_, _, _, _, _, _, _, _, _, _, _, _, _, _, _]) | exact (rfl : _ = some [_, _, _, _, _, _, _, _, _, _, _, _, _, _, _, _]))))); ((apply vL_val); (case h => ((apply opw_boxn); exact rfl))); ((apply vL_val); (case h => ((apply opv_E); exact rfl))); apply vL_nil; apply seqP_normal; apply vC_seq; apply vC_region; (iterate 2 (((apply vL_val); (case h => ((apply opv_E); exact rfl))))))
  refine vL_callF rfl (n_push (.pointer none) (.int .i64 n) _ (h0 _)) rfl ?_
  rintro _ _ rfl
  (apply vL_nil; apply seqP_normal; apply vC_seq; apply vC_region; (iterate 2 (((apply vL_val); (case h => ((apply opv_E); exact rfl))))))
  refine vL_callF rfl (n_push _ (.int .i64 n) _ (h1 _ w.heap.size _ inferInstance)) rfl ?_
  rintro _ _ rfl
  (apply vL_nil; apply seqP_normal; apply vC_seq; apply vC_region; ((apply vL_val); (case h => ((apply opv_E); exact rfl))))
  refine vL_callF rfl (n_pop (.pointer none) _ (h0 _)) rfl ?_
  rintro _ _ ⟨rfl, rfl⟩
  ((iterate 5 (((apply vL_val); (case h => ((apply opv_E); exact rfl))))); apply vL_nil; apply seqP_normal; apply vC_seq; apply vC_region; ((apply vL_val); (case h => ((apply opv_E); exact rfl))))
  refine vL_callF rfl (n_pop _ _ (h1 _ w.heap.size _ inferInstance)) rfl ?_
  rintro _ _ ⟨rfl, rfl⟩
  ((iterate 5 (((apply vL_val); (case h => ((apply opv_E); exact rfl))))); apply vL_nil; apply seqP_normal; apply vC_seq; apply vC_region; ((apply vL_val); (case h => ((apply opv_E); exact rfl))))
  refine vL_callF rfl (n_at (.pointer none) 0 _ (h0 _)) rfl ?_
  rintro _ _ ⟨rfl, rfl⟩
  ((iterate 5 (((apply vL_val); (case h => ((apply opv_E); exact rfl))))); apply vL_nil; apply seqP_normal; apply vC_seq; apply vC_region; ((apply vL_val); (case h => ((apply opv_E); exact rfl))))
  refine vL_callF rfl (n_take _ 0 _ (h1 _ w.heap.size _ inferInstance)) rfl ?_
  rintro _ _ ⟨rfl, rfl⟩
  ((iterate 5 (((apply vL_val); (case h => ((apply opv_E); exact rfl))))); apply vL_nil; apply seqP_normal; apply vC_seq; apply vC_region; ((apply vL_val); (case h => ((apply opv_E); exact rfl))); apply vL_nil; apply seqP_normal; apply vC_seq; apply vC_region; ((apply vL_val); (case h => ((apply opv_E); exact rfl))); ((apply vL_val); (case h => ((apply opv_not); exact rfl))); ((apply vL_val); (case h => ((apply opv_E); exact rfl))); ((apply vL_wanted); exact rfl); ((apply vL_val); (case h => ((apply opv_E); exact rfl))); ((apply vL_wanted); exact rfl); ((apply vL_val); (case h => ((apply opv_not); exact rfl))); (iterate 2 (((apply vL_val); (case h => ((apply opv_E); exact rfl))))); ((apply vL_wanted); exact rfl); ((apply vL_val); (case h => ((apply opv_E); exact rfl))); ((apply vL_wanted); exact rfl); ((apply vL_val); (case h => ((apply opv_not); exact rfl))); (iterate 2 (((apply vL_val); (case h => ((apply opv_E); exact rfl))))); ((apply vL_wanted); exact rfl); ((apply vL_val); (case h => ((apply opv_E); exact rfl))); ((apply vL_wanted); exact rfl); ((apply vL_val); (case h => ((apply opv_not); exact rfl))); (iterate 2 (((apply vL_val); (case h => ((apply opv_E); exact rfl))))); ((apply vL_wanted); exact rfl); ((apply vL_val); (case h => ((apply opv_E); exact rfl))); ((apply vL_wanted); exact rfl))
  refine vL_callF rfl (n_len (.pointer none) _ (h0 _)) rfl ?_
  rintro _ _ ⟨rfl, rfl⟩
  (((apply vL_wanted); exact rfl); (iterate 3 (((apply vL_val); (case h => ((apply opv_E); exact rfl))))); ((apply vL_wanted); exact rfl); ((apply vL_val); (case h => ((apply opv_E); exact rfl))); ((apply vL_wanted); exact rfl))
  refine vL_callF rfl (n_len _ _ (h1 _ w.heap.size _ inferInstance)) rfl ?_
  rintro _ _ ⟨rfl, rfl⟩
  (((apply vL_wanted); exact rfl); (iterate 3 (((apply vL_val); (case h => ((apply opv_E); exact rfl))))); ((apply vL_wanted); exact rfl); ((apply vL_val); (case h => ((apply opv_E); exact rfl))); ((apply vL_wanted); exact rfl))
  refine vL_callF rfl (n_list _ _ (h1 _ w.heap.size _ inferInstance)) rfl ?_
  rintro _ _ ⟨rfl, rfl⟩
  (((apply vL_wanted); exact rfl); ((apply vL_val); (case h => ((apply opv_lenc); exact rfl))); ((apply vL_wanted); exact rfl); (iterate 3 (((apply vL_val); (case h => ((apply opv_E); exact rfl))))); ((apply vL_wanted); exact rfl); ((apply vL_val); (case h => ((apply opv_E); exact rfl))); ((apply vL_wanted); exact rfl); ((apply vL_val); (case h => ((apply opv_E); exact rfl))); ((apply vL_wanted); exact rfl))
  refine vL_callF rfl (n_drop (.pointer none) _ _ (h0 _)) rfl ?_
  rintro _ _ ⟨rfl, rfl⟩
  (((apply vL_wanted); exact rfl); (iterate 3 (((apply vL_val); (case h => ((apply opv_E); exact rfl))))); ((apply vL_wanted); exact rfl); ((apply vL_val); (case h => ((apply opv_E); exact rfl))); ((apply vL_wanted); exact rfl); ((apply vL_val); (case h => ((apply opv_E); exact rfl))); ((apply vL_wanted); exact rfl))
  refine vL_callF rfl (n_drop _ _ _ (h1 _ w.heap.size _ inferInstance)) rfl ?_
  rintro _ _ ⟨rfl, rfl⟩
  (((apply vL_wanted); exact rfl); (iterate 3 (((apply vL_val); (case h => ((apply opv_E); exact rfl))))); ((apply vL_wanted); exact rfl))
  refine vL_callF rfl (awake13 _) rfl ?_
  rintro _ w1 ⟨rfl, hf1⟩
  ((iterate 2 (((apply vL_val); (case h => ((apply opv_E); exact rfl))))); apply vL_nil; apply seqP_normal; apply vC_ret)
  (apply ret1; (case h1 => (first | exact norm_eq rfl | ((conv => lhs; whnf) <;> exact rfl))))
  exact ⟨rfl, by (repeat (first | exact Fr.refl _ _ | assumption | with_reducible apply Fr.allocSet | with_reducible apply Fr.alloc | with_reducible apply Fr.drewN | with_reducible apply Fr.drew | ((with_reducible apply Fr.set); rotate_left; (right; ((try simp only [alloc_size]); omega))) | (refine Fr.trans ?_ (by assumption))))⟩

def bE (b : Bool) : List Value := [.bool b]
instance encB : EncOk bE 1 := ⟨by intro x u h; simp [bE] at h; rw [h]; rfl, fun _ => rfl⟩

theorem first13 (vl vp : Value) (l : List ByteArray) (ps : List Bool) (w : World) (hl : Rd w.heap 1 sE vl l) (hp : Rd w.heap 1 bE vp ps) (hbig : l.length * 16 ≤ 140737488351232) :
    Rets Try.prog 8 #[vl, vp] w fun u w' => u = .bool true ∧ Fr No w w' := by
  have hs := hl.small
  have hs' := hp.small
  refine rets_of Try.func8 rfl Try.ntmps8 rfl rfl (by kernel_rfl) ?_
  (apply vC_seq; apply vC_region; ((apply vL_val); (case h => ((apply opv_E); exact rfl))); apply vL_nil; apply seqP_normal; apply vC_seq; apply vC_region)
  refine vL_callF rfl (q_of_str _ [] _ (Rd.nil _ _ _) (by decide)) rfl ?_
  rintro _ w1 ⟨hf1, b, lv, rfl, hb0, hb, ho, hfl, hone⟩
  have q0 : Q_str w w1 b lv [] := ⟨hf1, hb, ho, hone, hb0, hfl⟩
  clear hb ho hfl hone hb0 hf1
  (((apply vL_val); (case h => ((apply opv_E); exact rfl))); apply vL_nil; apply seqP_normal; (iterate 2 (apply vC_seq)); apply vC_region; ((apply vL_val); (case h => ((apply opv_E); exact rfl))); ((apply vL_val); (case h => ((apply opv_eql_pnil); exact rfl; exact rfl; simp))); apply vL_nil; apply seqP_normal; ((apply vC_cond_false); exact rfl); apply vC_skip; apply seqP_normal; apply vC_seq; apply vC_region; ((apply vL_val); (case h => ((apply opv_E); exact rfl))); apply vL_nil; apply seqP_normal; (iterate 2 (apply vC_seq)); apply vC_region; ((apply vL_val); (case h => ((apply opv_E); exact rfl))); apply vL_nil; apply seqP_normal; apply vC_block)
  (apply vC_loop2 70368744170448 7 6 (fun u v6 w' => ∃ (k : Nat) (got qxs : List ByteArray) (lv : Value), u = .int .i64 (k : Int) ∧ k ≤ l.length ∧ Own w'.heap 9 1 sE v6 got ∧ (∀ j, own v6 = some j → w.heap.size ≤ j) ∧ v6.oneCell' = true ∧ Q_str w w' b lv qxs ∧ got ++ qxs = l.take k ∧ ∀ j, own lv = some j → own v6 ≠ some j) (fun u _ _ => l.length - (RowKit.intOf u).toNat)); (case h1 => (first | exact norm_eq rfl | ((conv => lhs; whnf) <;> exact rfl))); (case h2 => (first | exact norm_eq rfl | ((conv => lhs; whnf) <;> exact rfl)))
  case h0 => exact ⟨0, [], [], lv, rfl, by omega, Own.nil _ _ _ _, fun j hj => (by cases hj), rfl, q0, rfl, fun j _ h => (by cases h)⟩
  case round =>
  rintro junk _ v6 w2 ⟨k, got, qxs, lv1, rfl, hk, ho6, hf6, hone6, q1, hcat, hdis⟩
  have hl2 := hl.frN q1.fr
  have hp2 := hp.frN q1.fr
  have hlen : got.length + qxs.length = k := by have := congrArg List.length hcat; simp at this; omega
  ((iterate 2 (apply vC_seq)); apply vC_region; ((apply vL_val); (case h => ((apply opv_E); exact rfl))); ((apply vL_val); (case h => ((apply opv_move); ((conv => lhs; whnf) <;> exact rfl)))); ((apply vL_val); (case h => ((apply opv_len); (first | exact norm_eq rfl | ((conv => lhs; whnf) <;> exact rfl)); (first | assumption | infer_instance)))); ((apply vL_val); (case h => ((apply opv_E); exact rfl))); apply vL_nil; apply seqP_normal)
  refine vC_cond_dec rfl (fun hc => ?_) (fun hc => ?_)
  · have hk' : k < l.length := by omega
    obtain ⟨x, hx⟩ : ∃ x, l[k]? = some x := ⟨l[k], by simp [hk']⟩
    have hsucc : l.take (k + 1) = got ++ (qxs ++ [x]) := by
      rw [List.take_succ_eq_append_getElem hk', (List.getElem?_eq_some_iff.1 hx).2, ← hcat, List.append_assoc]
    (apply vC_skip; apply seqP_normal; apply vC_seq; apply vC_block; apply vC_seq; apply vC_region; ((apply vL_val); (case h => ((apply opv_E); exact rfl))); ((apply vL_val); (case h => ((apply opv_move); ((conv => lhs; whnf) <;> exact rfl)))); ((apply vL_val); (case h => ((apply opv_E); exact rfl))); ((apply vL_val); (case h => ((apply opv_indexAddr); (first | exact norm_eq rfl | ((conv => lhs; whnf) <;> exact rfl)); exact rfl; (first | assumption | infer_instance); (first | omega | (simp only [List.length_map]; omega)); (first | omega | (simp only [List.length_map]; omega))))); ((apply vL_val); (case h => ((apply opv_ld_el); exact rfl; exact rfl; (first | assumption | infer_instance); assumption; exact rfl))))
    refine vL_callF rfl (q_push_str b lv1 x qxs _ q1.hb q1.ho (by omega)) rfl ?_
    rintro _ w3 ⟨lv2, hf, hb, ho, hfl, hone⟩
    have q2 := q1.step hf hb ho hfl hone
    have hd2 : ∀ j, own lv2 = some j → own v6 ≠ some j := fun j hj h6 => by
      rcases hfl j hj with h | h
      · exact hdis j h h6
      · have := ho6.lt j h6; omega
    have ho6' : Own w3.heap 9 1 sE v6 got := ho6.fr hf (fun j h6 h => by
      rcases h with rfl | h
      · exact Own.ne_blk ho6 q1.hb (by decide) h6
      · exact hdis j h h6)
    clear hf hb ho hfl hone
    have hp3 := hp.frN q2.fr
    have hcont : ∀ (j : Bool), True := fun _ => trivial
    (apply vL_nil; apply seqP_normal; apply vC_seq; apply vC_region; ((apply vL_val); (case h => ((apply opv_E); exact rfl))); ((apply vL_val); (case h => ((apply opv_move); ((conv => lhs; whnf) <;> exact rfl)))); ((apply vL_val); (case h => ((apply opv_len); (first | exact norm_eq rfl | ((conv => lhs; whnf) <;> exact rfl)); (first | assumption | infer_instance)))); (iterate 2 (((apply vL_val); (case h => ((apply opv_E); exact rfl))))))
    refine vL_and rfl rfl (fun c1 => ?_) (fun c1 => ?_)
    rotate_left
    · ((iterate 3 (((apply vL_unwanted'); exact rfl; exact rfl))); ((apply vL_val); (case h => ((apply opv_E); exact rfl))); apply vL_nil; apply seqP_normal; ((apply vC_cond_false); exact rfl); apply vC_skip; apply blockP_normal; apply seqP_normal; apply vC_region; ((apply vL_val); (case h => ((apply opv_E); exact rfl))); ((apply vL_val); (case h => ((apply opv_add); exact rfl; exact rfl; (first | omega | (simp only [List.length_map]; omega))))); ((apply vL_val); (case h => ((apply opv_E); exact rfl))); apply vL_nil; apply loopP_normal)
      (with_reducible apply end2); (case hs => ((repeat (first | with_reducible apply same_updN | ((with_reducible refine same_updO ?_ ?_); rotate_left; exact rfl) | ((with_reducible refine same_upd ?_ ?_); rotate_left; exact rfl))); exact same_mask _ _ _)); (case h1 => (first | exact norm_eq rfl | ((conv => lhs; whnf) <;> exact rfl))); (case h2 => (first | exact norm_eq rfl | ((conv => lhs; whnf) <;> exact rfl)))
      · exact ⟨k + 1, got, qxs ++ [x], lv2, rfl, by omega, ho6', hf6, hone6, q2, hsucc.symm, hd2⟩
      · simp [RowKit.intOf]; omega
    obtain ⟨pb, hpb⟩ : ∃ y, ps[k]? = some y := ⟨ps[k]'(by omega), List.getElem?_eq_getElem _⟩
    (((apply vL_val); (case h => ((apply opv_move); ((conv => lhs; whnf) <;> exact rfl)))); ((apply vL_wanted); exact rfl); ((apply vL_val); (case h => ((apply opv_E); exact rfl))); ((apply vL_wanted); exact rfl); ((apply vL_val); (case h => ((apply opv_indexAddr); (first | exact norm_eq rfl | ((conv => lhs; whnf) <;> exact rfl)); exact rfl; (first | assumption | infer_instance); (first | omega | (simp only [List.length_map]; omega)); (first | omega | (simp only [List.length_map]; omega))))); ((apply vL_wanted); exact rfl); ((apply vL_val); (case h => ((apply opv_ld_el); exact rfl; exact rfl; (first | assumption | infer_instance); assumption; exact rfl))); ((apply vL_val); (case h => ((apply opv_E); exact rfl))); apply vL_nil; apply seqP_normal)
    refine vC_cond rfl (fun c2 => ?_) (fun c2 => ?_)
    · (apply vC_seq; apply vC_region; ((apply vL_val); (case h => ((apply opv_E); exact rfl))))
      refine vL_callF rfl (q_pop_str b lv2 _ _ q2.hb q2.ho q2.one) rfl ?_
      rintro _ w4 ⟨lv3, xs3, hf, hb, ho, hlo, hone, ⟨y, hy, rfl⟩ | ⟨hy, _⟩⟩
      rotate_left
      · simp at hy
      have q3 := q2.step hf hb ho (fun k hk => .inl (hlo ▸ hk)) hone
      have ho6'' : Own w4.heap 9 1 sE v6 got := ho6'.fr hf (fun j h6 h => by
        rcases h with rfl | h
        · exact Own.ne_blk ho6' q2.hb (by decide) h6
        · exact hd2 j h h6)
      have hd3 : ∀ j, own lv3 = some j → own v6 ≠ some j := fun j hj h6 => hd2 j (hlo ▸ hj) h6
      clear hf hb ho hlo hone
      ((iterate 5 (((apply vL_val); (case h => ((apply opv_E); exact rfl))))); apply vL_nil; apply seqP_normal; (iterate 2 (apply vC_seq)); apply vC_region; ((apply vL_val); (case h => ((apply opv_E); exact rfl))); ((apply vL_val); (case h => ((apply opv_not); exact rfl))); apply vL_nil; apply seqP_normal; ((apply vC_cond_false); exact rfl); apply vC_skip; apply seqP_normal; apply vC_region; ((apply vL_val); (case h => ((apply opv_move); ((conv => lhs; whnf) <;> exact rfl)))); ((apply vL_val); (case h => ((apply opv_E); exact rfl))); ((apply vL_val); (case h => ((apply opw_buildSl); exact rfl; exact rfl; exact rfl; (first | exact (rfl : _ = some []) | exact (rfl : _ = some [_]) | exact (rfl : _ = some [_, _]) | exact (rfl : _ = some [_, _, _]) | exact (rfl : _ = some [_, _, _, _]) | exact (rfl : _ = some [_, _, _, _, _]) | exact (rfl : _ = some [_, _, _, _, _, _]) | exact (rfl : _ = some [_, _, _, _, _, _, _]) | exact (rfl : _ = some [_, _, _, _, _, _, _, _]) | exact (rfl : _ = some [_, _, _, _, _, _, _, _, _]) | exact (rfl : _ = some [_, _, _, _, _, _, _, _, _, _]) | exact (rfl : _ = some [_, _, _, _, _, _, _, _, _, _, _]) | exact (rfl : _ = some [_, _, _, _, _, _, _, _, _, _, _, _]) | exact (rfl : _ = some [_, _, _, _, _, _, _, _, _, _, _, _, _]) | exact (rfl : _ = some [_, _, _, _, _, _, _, _, _, _, _, _, _, _]) | exact (rfl : _ = some [_, _, _, _, _, _, _, _, _, _, _, _, _, _, _]) | exact (rfl : _ = some [_, _, _, _, _, _, _, _, _, _, _, _, _, _, _, _]))))))
      refine vL_append (enc := sE) (xs := got) (ys := [y]) (by (first | exact norm_eq rfl | ((conv => lhs; whnf) <;> exact rfl))) (by (first | exact norm_eq rfl | ((conv => lhs; whnf) <;> exact rfl))) (Own.alloc ho6'') (Rd.new1 _ _ rfl) rfl (by decide) ?_ ?_ ?_
      · simp [maxLen]; omega
      · simp; omega
      intro v' w5 ho5 hf5 hfr5 hone5 _
      have hfa : Fr (fun j => own v6 = some j) w4 w5 := ((Fr.refl _ w4).alloc _).trans' hf5 (fun i hi => .inl hi)
      have hnb : own v6 ≠ some b := Own.ne_blk ho6'' q3.hb (by decide)
      have q4 : Q_str w w5 b lv3 xs3 := ⟨q3.fr.trans' hfa (fun i hi => .inr (hf6 i hi)), q3.hb.fr hfa hnb, q3.ho.fr hfa (fun j hj h => hd3 j hj h), q3.one, q3.fb, q3.fl⟩
      (((apply vL_val); (case h => ((apply opv_assign); ((conv => lhs; whnf) <;> exact rfl)))); apply vL_nil; apply blockP_normal; apply seqP_normal; apply vC_region; ((apply vL_val); (case h => ((apply opv_E); exact rfl))); ((apply vL_val); (case h => ((apply opv_add); exact rfl; exact rfl; (first | omega | (simp only [List.length_map]; omega))))); ((apply vL_val); (case h => ((apply opv_E); exact rfl))); apply vL_nil; apply loopP_normal)
      (with_reducible apply end2); (case hs => ((repeat (first | with_reducible apply same_updN | ((with_reducible refine same_updO ?_ ?_); rotate_left; exact rfl) | ((with_reducible refine same_upd ?_ ?_); rotate_left; exact rfl))); exact same_mask _ _ _)); (case h1 => (first | exact norm_eq rfl | ((conv => lhs; whnf) <;> exact rfl))); (case h2 => (first | exact norm_eq rfl | ((conv => lhs; whnf) <;> exact rfl)))
      · refine ⟨k + 1, got ++ [y], xs3, lv3, rfl, by omega, ho5, fun j hj => ?_, hone5, q4, ?_, fun j hj h6 => ?_⟩
        · rcases hfr5 j hj with h | h
          · exact hf6 j h
          · have := q3.fr.size; rw [alloc_size] at h; omega
        · rw [hsucc, hy]; simp
        · rcases hfr5 j h6 with h | h
          · exact hd3 j hj h
          · have := q3.ho.lt j hj; rw [alloc_size] at h; omega
      · simp [RowKit.intOf]; omega
    · (apply vC_skip; apply blockP_normal; apply seqP_normal; apply vC_region; ((apply vL_val); (case h => ((apply opv_E); exact rfl))); ((apply vL_val); (case h => ((apply opv_add); exact rfl; exact rfl; (first | omega | (simp only [List.length_map]; omega))))); ((apply vL_val); (case h => ((apply opv_E); exact rfl))); apply vL_nil; apply loopP_normal)
      (with_reducible apply end2); (case hs => ((repeat (first | with_reducible apply same_updN | ((with_reducible refine same_updO ?_ ?_); rotate_left; exact rfl) | ((with_reducible refine same_upd ?_ ?_); rotate_left; exact rfl))); exact same_mask _ _ _)); (case h1 => (first | exact norm_eq rfl | ((conv => lhs; whnf) <;> exact rfl))); (case h2 => (first | exact norm_eq rfl | ((conv => lhs; whnf) <;> exact rfl)))
      · exact ⟨k + 1, got, qxs ++ [x], lv2, rfl, by omega, ho6', hf6, hone6, q2, hsucc.symm, hd2⟩
      · simp [RowKit.intOf]; omega
  have e : k = l.length := by omega
  subst e
  rw [List.take_length] at hcat
  (apply vC_exit; apply seqP_exit; apply loopP_exit; apply blockP_exit; apply seqP_normal; apply vC_seq; apply vC_region; ((apply vL_val); (case h => ((apply opv_move); ((conv => lhs; whnf) <;> exact rfl)))); ((apply vL_val); (case h => ((apply opv_E); exact rfl))))
  refine vL_callF rfl (q_list_str b lv1 qxs _ q1.hb q1.ho (by omega)) rfl ?_
  rintro u w3 ⟨hf3, ho3, hfr3, hone3⟩
  have ho6' := ho6.frN hf3
  skip
  refine vL_append (enc := sE) (xs := got) (ys := qxs) (T := 9) (sz := 1) (by (first | exact norm_eq rfl | ((conv => lhs; whnf) <;> exact rfl))) (by (first | exact norm_eq rfl | ((conv => lhs; whnf) <;> exact rfl))) ho6' ho3.rd rfl (by decide) ?_ ?_ ?_
  · simp [maxLen]; omega
  · omega
  intro v' w4 ho4 hf4 hfr4 hone4 _
  have hfall : Fr No w w4 := (q1.fr.trans hf3).trans' hf4 (fun i hi => .inr (hf6 i hi))
  rw [hcat] at ho4
  have hl4 := hl.frN hfall
  (((apply vL_val); (case h => ((apply opv_assign); ((conv => lhs; whnf) <;> exact rfl)))); apply vL_nil; apply seqP_normal; apply vC_seq; apply vC_region; (iterate 2 (((apply vL_val); (case h => ((apply opv_move); ((conv => lhs; whnf) <;> exact rfl)))))))
  refine vL_callF rfl (kit_same_str v' vl l l _ inferInstance hl4) rfl ?_
  rintro _ _ ⟨⟨dn, rfl⟩, hu⟩
  have hu := hu.trans (congrArg Value.bool (decide_eq_true rfl))
  subst hu
  (((apply vL_val); (case h => ((apply opv_E); exact rfl))); ((apply vL_wanted); exact rfl))
  refine vL_callF rfl (awake13 _) rfl ?_
  rintro _ w5 ⟨rfl, hf5⟩
  ((iterate 2 (((apply vL_val); (case h => ((apply opv_E); exact rfl))))); apply vL_nil; apply seqP_normal; apply vC_ret)
  (apply ret1; (case h1 => (first | exact norm_eq rfl | ((conv => lhs; whnf) <;> exact rfl))))
  exact ⟨rfl, (hfall.drewN dn).trans hf5⟩
end Go.Proofs.Ytfceebbkjogedaa
