/- The example of layer 9; the law IndexTells. -/
import Derived.Test.YtfceebbkjogedaaIg
set_option maxRecDepth 100000
namespace Go.Proofs.Ytfceebbkjogedaa
open Go Go.Eng

def exL : List (Int × Int) := [(0, 0), (3, 30)]
theorem exL_right : rightL exL := by
  refine ⟨rfl, fun j hj a b ha hb => ?_⟩
  have hj' : j = 0 := by simp [exL] at hj; omega
  subst hj'
  simp [exL] at ha hb
  subst ha; subst hb
  rfl
theorem exL_2 : isFind exL 2 (0, 0) := ⟨0, rfl, by decide, fun j h y hy => by
  have := (List.getElem?_eq_some_iff.1 hy).1
  have : j = 1 := by simp [exL] at this; omega
  subst this
  simp [exL] at hy
  subst hy; decide⟩
theorem exL_99 : isFind exL 99 (3, 30) := ⟨1, rfl, by decide, fun j h y hy => by
  have := (List.getElem?_eq_some_iff.1 hy).1
  simp [exL] at this; omega⟩

theorem awake09 (w : World) : Rets Try.prog 17 #[] w fun u w' => u = .bool true ∧ Fr No w w' := by
  refine rets_of Try.func17 rfl Try.ntmps17 rfl rfl (by kernel_rfl) ?_
  (apply vC_seq; apply vC_region; ((apply vL_val); (case h => ((apply opv_E); exact rfl))); apply vL_nil; apply seqP_normal; apply vC_seq; apply vC_region; ((apply vL_val); (case h => ((apply opw_buildSl); exact rfl; exact rfl; exact rfl; (first | exact (rfl : _ = some [_]) | exact (rfl : _ = some [_, _]) | exact (rfl : _ = some [_, _, _]) | exact (rfl : _ = some [_, _, _, _]) | exact (rfl : _ = some [_, _, _, _, _]) | exact (rfl : _ = some [_, _, _, _, _, _]) | exact (rfl : _ = some [_, _, _, _, _, _, _]) | exact (rfl : _ = some [_, _, _, _, _, _, _, _]) | exact (rfl : _ = some [_, _, _, _, _, _, _, _, _]) | exact (rfl : _ = some [_, _, _, _, _, _, _, _, _, _]) | exact (rfl : _ = some [_, _, _, _, _, _, _, _, _, _, _]) | exact (rfl : _ = some [_, _, _, _, _, _, _, _, _, _, _, _]) | exact (rfl : _ = some [_, _, _, _, _, _, _, _, _, _, _, _, _]) | exact (rfl : _ = some [_, _, _, _, _, _, _, _, _, _, _, _, _, _]) | exact (rfl : _ = some [_, _, _, _, _, _, _, _, _, _, _, _, _, _, _]) | exact (rfl : _ = some [_, _, _, _, _, _, _, _, _, _, _, _, _, _, _, _]))))))
  refine vL_callF rfl (build_ref _ [10, 10, 10, 10, 10] 25 _ (Rd.newN iE [10, 10, 10, 10, 10] rfl rfl (by decide))) rfl ?_
  rintro _ w1 ⟨hf1, ⟨h, _⟩ | ⟨_, sv, rfl, ho⟩⟩
  · cases h
  have F1 : From w1 _ := ⟨hf1⟩
  have ho : Own w1.heap 27 2 pE sv exL := ho
  (((apply vL_val); (case h => ((apply opv_E); exact rfl))); ((apply vL_val); (case h => ((apply opv_extract); (first | exact norm_eq rfl | ((conv => lhs; whnf) <;> exact rfl)); exact rfl))); ((apply vL_val); (case h => ((apply opv_E); exact rfl))); ((apply vL_val); (case h => ((apply opv_assign); ((conv => lhs; whnf) <;> exact rfl)))); ((apply vL_val); (case h => ((apply opv_E); exact rfl))); apply vL_nil; apply seqP_normal; apply vC_seq; apply vC_region; ((apply vL_val); (case h => ((apply opv_move); ((conv => lhs; whnf) <;> exact rfl)))))
  refine vL_callF rfl (find_idx sv exL 2 _ inferInstance) rfl ?_
  rintro _ w2 ⟨hf2, ⟨h, _⟩ | ⟨_, _, q, hq, rfl⟩⟩
  · exact absurd ⟨exL_right, by decide⟩ h
  have F2 : From w2 _ := ⟨hf2⟩
  have e := isFind_inj hq exL_2
  subst e
  ((iterate 3 (((apply vL_val); (case h => ((apply opv_E); exact rfl))))); ((apply vL_val); (case h => (apply opw_alloc))); ((apply vL_skip); (case h => ((apply ops_storen); (first | exact norm_eq rfl | ((conv => lhs; whnf) <;> exact rfl)); (first | exact norm_eq rfl | ((conv => lhs; whnf) <;> exact rfl)); exact rfl; (first | exact (fun u hu => EncOk.one _ u hu) | (intro u hu; simp at hu; rcases hu with rfl | rfl <;> rfl)); (first | assumption | infer_instance); (first | decide | exact of_decide_eq_true rfl | (simp; done))))); ((apply vL_val); (case h => ((apply opv_E); exact rfl))); apply vL_nil; apply seqP_normal; apply vC_seq; apply vC_region; ((apply vL_val); (case h => ((apply opv_move); ((conv => lhs; whnf) <;> exact rfl)))))
  refine vL_callF rfl (find_idx sv exL 99 _ inferInstance) rfl ?_
  rintro _ w3 ⟨hf3, ⟨h, _⟩ | ⟨_, _, q, hq2, rfl⟩⟩
  · exact absurd ⟨exL_right, by decide⟩ h
  have F3 : From w3 _ := ⟨hf3⟩
  have e := isFind_inj hq2 exL_99
  subst e
  ((iterate 3 (((apply vL_val); (case h => ((apply opv_E); exact rfl))))); ((apply vL_val); (case h => (apply opw_alloc))); ((apply vL_skip); (case h => ((apply ops_storen); (first | exact norm_eq rfl | ((conv => lhs; whnf) <;> exact rfl)); (first | exact norm_eq rfl | ((conv => lhs; whnf) <;> exact rfl)); exact rfl; (first | exact (fun u hu => EncOk.one _ u hu) | (intro u hu; simp at hu; rcases hu with rfl | rfl <;> rfl)); (first | assumption | infer_instance); (first | decide | exact of_decide_eq_true rfl | (simp; done))))); ((apply vL_val); (case h => ((apply opv_E); exact rfl))); apply vL_nil; apply seqP_normal; apply vC_seq; apply vC_region; (iterate 2 (((apply vL_val); (case h => ((apply opv_E); exact rfl))))); ((apply vL_val); (case h => ((apply opv_add); exact rfl; exact rfl; (first | omega | (simp only [List.length_map]; omega))))); ((apply vL_val); (case h => ((apply opv_E); exact rfl))); ((apply vL_val); (case h => ((apply opv_add); exact rfl; exact rfl; (first | omega | (simp only [List.length_map]; omega))))); (iterate 2 (((apply vL_val); (case h => ((apply opv_E); exact rfl))))); ((apply vL_wanted); exact rfl); ((apply vL_val); (case h => ((apply opv_move); ((conv => lhs; whnf) <;> exact rfl)))); ((apply vL_wanted); exact rfl); ((apply vL_val); (case h => ((apply opv_buildA); exact rfl; (first | exact (rfl : _ = some [_]) | exact (rfl : _ = some [_, _]) | exact (rfl : _ = some [_, _, _]) | exact (rfl : _ = some [_, _, _, _]) | exact (rfl : _ = some [_, _, _, _, _]) | exact (rfl : _ = some [_, _, _, _, _, _]) | exact (rfl : _ = some [_, _, _, _, _, _, _]) | exact (rfl : _ = some [_, _, _, _, _, _, _, _]) | exact (rfl : _ = some [_, _, _, _, _, _, _, _, _]) | exact (rfl : _ = some [_, _, _, _, _, _, _, _, _, _]) | exact (rfl : _ = some [_, _, _, _, _, _, _, _, _, _, _]) | exact (rfl : _ = some [_, _, _, _, _, _, _, _, _, _, _, _]) | exact (rfl : _ = some [_, _, _, _, _, _, _, _, _, _, _, _, _]) | exact (rfl : _ = some [_, _, _, _, _, _, _, _, _, _, _, _, _, _]) | exact (rfl : _ = some [_, _, _, _, _, _, _, _, _, _, _, _, _, _, _]) | exact (rfl : _ = some [_, _, _, _, _, _, _, _, _, _, _, _, _, _, _, _]))))); ((apply vL_wanted); exact rfl); ((apply vL_val); (case h => ((apply opv_buildA); exact rfl; (first | exact (rfl : _ = some [_]) | exact (rfl : _ = some [_, _]) | exact (rfl : _ = some [_, _, _]) | exact (rfl : _ = some [_, _, _, _]) | exact (rfl : _ = some [_, _, _, _, _]) | exact (rfl : _ = some [_, _, _, _, _, _]) | exact (rfl : _ = some [_, _, _, _, _, _, _]) | exact (rfl : _ = some [_, _, _, _, _, _, _, _]) | exact (rfl : _ = some [_, _, _, _, _, _, _, _, _]) | exact (rfl : _ = some [_, _, _, _, _, _, _, _, _, _]) | exact (rfl : _ = some [_, _, _, _, _, _, _, _, _, _, _]) | exact (rfl : _ = some [_, _, _, _, _, _, _, _, _, _, _, _]) | exact (rfl : _ = some [_, _, _, _, _, _, _, _, _, _, _, _, _]) | exact (rfl : _ = some [_, _, _, _, _, _, _, _, _, _, _, _, _, _]) | exact (rfl : _ = some [_, _, _, _, _, _, _, _, _, _, _, _, _, _, _]) | exact (rfl : _ = some [_, _, _, _, _, _, _, _, _, _, _, _, _, _, _, _]))))); ((apply vL_wanted); exact rfl); ((apply vL_val); (case h => ((apply opw_buildSl); exact rfl; exact rfl; exact rfl; (first | exact (rfl : _ = some [_]) | exact (rfl : _ = some [_, _]) | exact (rfl : _ = some [_, _, _]) | exact (rfl : _ = some [_, _, _, _]) | exact (rfl : _ = some [_, _, _, _, _]) | exact (rfl : _ = some [_, _, _, _, _, _]) | exact (rfl : _ = some [_, _, _, _, _, _, _]) | exact (rfl : _ = some [_, _, _, _, _, _, _, _]) | exact (rfl : _ = some [_, _, _, _, _, _, _, _, _]) | exact (rfl : _ = some [_, _, _, _, _, _, _, _, _, _]) | exact (rfl : _ = some [_, _, _, _, _, _, _, _, _, _, _]) | exact (rfl : _ = some [_, _, _, _, _, _, _, _, _, _, _, _]) | exact (rfl : _ = some [_, _, _, _, _, _, _, _, _, _, _, _, _]) | exact (rfl : _ = some [_, _, _, _, _, _, _, _, _, _, _, _, _, _]) | exact (rfl : _ = some [_, _, _, _, _, _, _, _, _, _, _, _, _, _, _]) | exact (rfl : _ = some [_, _, _, _, _, _, _, _, _, _, _, _, _, _, _, _]))))); ((apply vL_wanted); exact rfl))
  refine vL_callF rfl (same_pairs sv _ exL exL _ inferInstance (Rd.newN pE exL rfl rfl (by decide))) rfl ?_
  rintro _ _ ⟨⟨dn, rfl⟩, hu⟩
  have hu := hu.trans (congrArg Value.bool (decide_eq_true rfl))
  subst hu
  ((iterate 2 (((apply vL_val); (case h => ((apply opv_E); exact rfl))))); ((apply vL_wanted); exact rfl); ((apply vL_val); (case h => ((apply opv_loadbC); exact rfl; exact rfl; (first | assumption | infer_instance); (first | exact (rfl : _ = [_]) | exact (rfl : _ = [_, _]) | exact (rfl : _ = [_, _, _]) | exact (rfl : _ = [_, _, _, _]) | exact (rfl : _ = [_, _, _, _, _]) | exact (rfl : _ = [_, _, _, _, _, _]) | exact (rfl : _ = [_, _, _, _, _, _, _]) | exact (rfl : _ = [_, _, _, _, _, _, _, _]) | exact (rfl : _ = [_, _, _, _, _, _, _, _, _]) | exact (rfl : _ = [_, _, _, _, _, _, _, _, _, _]) | exact (rfl : _ = [_, _, _, _, _, _, _, _, _, _, _]) | exact (rfl : _ = [_, _, _, _, _, _, _, _, _, _, _, _])); exact rfl))); ((apply vL_wanted); exact rfl); ((apply vL_val); (case h => ((apply opv_buildA); exact rfl; (first | exact (rfl : _ = some [_]) | exact (rfl : _ = some [_, _]) | exact (rfl : _ = some [_, _, _]) | exact (rfl : _ = some [_, _, _, _]) | exact (rfl : _ = some [_, _, _, _, _]) | exact (rfl : _ = some [_, _, _, _, _, _]) | exact (rfl : _ = some [_, _, _, _, _, _, _]) | exact (rfl : _ = some [_, _, _, _, _, _, _, _]) | exact (rfl : _ = some [_, _, _, _, _, _, _, _, _]) | exact (rfl : _ = some [_, _, _, _, _, _, _, _, _, _]) | exact (rfl : _ = some [_, _, _, _, _, _, _, _, _, _, _]) | exact (rfl : _ = some [_, _, _, _, _, _, _, _, _, _, _, _]) | exact (rfl : _ = some [_, _, _, _, _, _, _, _, _, _, _, _, _]) | exact (rfl : _ = some [_, _, _, _, _, _, _, _, _, _, _, _, _, _]) | exact (rfl : _ = some [_, _, _, _, _, _, _, _, _, _, _, _, _, _, _]) | exact (rfl : _ = some [_, _, _, _, _, _, _, _, _, _, _, _, _, _, _, _]))))); ((apply vL_wanted); exact rfl); ((apply vL_val); (case h => ((apply opv_eql_agg); exact rfl; exact rfl; (first | exact ⟨rfl, rfl, trivial⟩ | exact ⟨rfl, trivial⟩ | exact ⟨rfl, rfl, rfl, trivial⟩ | exact ⟨rfl, rfl, rfl, rfl, trivial⟩ | exact ⟨rfl, rfl, rfl, rfl, rfl, trivial⟩); (first | exact ⟨rfl, rfl, trivial⟩ | exact ⟨rfl, trivial⟩ | exact ⟨rfl, rfl, rfl, trivial⟩ | exact ⟨rfl, rfl, rfl, rfl, trivial⟩ | exact ⟨rfl, rfl, rfl, rfl, rfl, trivial⟩)))); (iterate 2 (((apply vL_val); (case h => ((apply opv_E); exact rfl))))); ((apply vL_wanted); exact rfl); ((apply vL_val); (case h => ((apply opv_loadbC); exact rfl; exact rfl; (first | assumption | infer_instance); (first | exact (rfl : _ = [_]) | exact (rfl : _ = [_, _]) | exact (rfl : _ = [_, _, _]) | exact (rfl : _ = [_, _, _, _]) | exact (rfl : _ = [_, _, _, _, _]) | exact (rfl : _ = [_, _, _, _, _, _]) | exact (rfl : _ = [_, _, _, _, _, _, _]) | exact (rfl : _ = [_, _, _, _, _, _, _, _]) | exact (rfl : _ = [_, _, _, _, _, _, _, _, _]) | exact (rfl : _ = [_, _, _, _, _, _, _, _, _, _]) | exact (rfl : _ = [_, _, _, _, _, _, _, _, _, _, _]) | exact (rfl : _ = [_, _, _, _, _, _, _, _, _, _, _, _])); exact rfl))); ((apply vL_wanted); exact rfl); ((apply vL_val); (case h => ((apply opv_buildA); exact rfl; (first | exact (rfl : _ = some [_]) | exact (rfl : _ = some [_, _]) | exact (rfl : _ = some [_, _, _]) | exact (rfl : _ = some [_, _, _, _]) | exact (rfl : _ = some [_, _, _, _, _]) | exact (rfl : _ = some [_, _, _, _, _, _]) | exact (rfl : _ = some [_, _, _, _, _, _, _]) | exact (rfl : _ = some [_, _, _, _, _, _, _, _]) | exact (rfl : _ = some [_, _, _, _, _, _, _, _, _]) | exact (rfl : _ = some [_, _, _, _, _, _, _, _, _, _]) | exact (rfl : _ = some [_, _, _, _, _, _, _, _, _, _, _]) | exact (rfl : _ = some [_, _, _, _, _, _, _, _, _, _, _, _]) | exact (rfl : _ = some [_, _, _, _, _, _, _, _, _, _, _, _, _]) | exact (rfl : _ = some [_, _, _, _, _, _, _, _, _, _, _, _, _, _]) | exact (rfl : _ = some [_, _, _, _, _, _, _, _, _, _, _, _, _, _, _]) | exact (rfl : _ = some [_, _, _, _, _, _, _, _, _, _, _, _, _, _, _, _]))))); ((apply vL_wanted); exact rfl); ((apply vL_val); (case h => ((apply opv_eql_agg); exact rfl; exact rfl; (first | exact ⟨rfl, rfl, trivial⟩ | exact ⟨rfl, trivial⟩ | exact ⟨rfl, rfl, rfl, trivial⟩ | exact ⟨rfl, rfl, rfl, rfl, trivial⟩ | exact ⟨rfl, rfl, rfl, rfl, rfl, trivial⟩); (first | exact ⟨rfl, rfl, trivial⟩ | exact ⟨rfl, trivial⟩ | exact ⟨rfl, rfl, rfl, trivial⟩ | exact ⟨rfl, rfl, rfl, rfl, trivial⟩ | exact ⟨rfl, rfl, rfl, rfl, rfl, trivial⟩)))); (iterate 2 (((apply vL_val); (case h => ((apply opv_E); exact rfl))))); apply vL_nil; apply seqP_normal; apply vC_ret)
  (apply ret1; (case h1 => (first | exact norm_eq rfl | ((conv => lhs; whnf) <;> exact rfl))))
  exact ⟨rfl, by (repeat (first | exact Fr.refl _ _ | assumption | with_reducible apply Fr.allocSet | with_reducible apply Fr.alloc | with_reducible apply Fr.drewN | with_reducible apply Fr.drew | ((with_reducible apply Fr.set); rotate_left; (right; ((try simp only [alloc_size]); omega))) | (refine Fr.trans ?_ (by assumption))))⟩

theorem tells09 (vs vl : Value) (xs : List Int) (every : Int) (l : List (Int × Int)) (n : Int) (w : World) (hr : Rd w.heap 1 iE vs xs) (hl : Rd w.heap 2 pE vl l) (hbig : xs.length * 8 ≤ 140737488355328) :
    Rets Try.prog 4 #[vs, .int .i64 every, vl, .int .i64 n] w fun u w' => u = .bool true ∧ Fr No w w' := by
  refine rets_of Try.func4 rfl Try.ntmps4 rfl rfl (by kernel_rfl) ?_
  (apply vC_seq; apply vC_region; ((apply vL_val); (case h => ((apply opv_E); exact rfl))); apply vL_nil; apply seqP_normal; apply vC_seq; apply vC_region; ((apply vL_val); (case h => ((apply opv_move); ((conv => lhs; whnf) <;> exact rfl)))))
  refine vL_callF rfl (copy_ints vs xs _ hr hbig) rfl ?_
  rintro v9 w1 ⟨hf1, ho1, hfresh1⟩
  have F1 : From w1 _ := ⟨hf1⟩
  (((apply vL_val); (case h => ((apply opv_assign); ((conv => lhs; whnf) <;> exact rfl)))); apply vL_nil; apply seqP_normal; apply vC_seq; apply vC_region; ((apply vL_val); (case h => ((apply opv_move); ((conv => lhs; whnf) <;> exact rfl)))); ((apply vL_val); (case h => ((apply opv_E); exact rfl))))
  refine vL_callF rfl (build_ref v9 xs every _ inferInstance) rfl ?_
  rintro r1 w2 ⟨hf2, hb1⟩
  have F2 : From w2 _ := ⟨hf2⟩
  have key1 : ∃ (a : Value) (e : Int) (o : List (Int × Int)), r1 = .tuple #[a, .int .i64 e] ∧ Own w2.heap 27 2 pE a o ∧ ((refuses xs every = true ∧ e = 2 ∧ o = []) ∨ (refuses xs every = false ∧ e = 0 ∧ o = (buildS xs every xs.length).1)) := by
    rcases hb1 with ⟨h, rfl⟩ | ⟨h, sv, rfl, ho⟩
    · exact ⟨_, _, [], rfl, Own.nil _ _ _ _, .inl ⟨h, rfl, rfl⟩⟩
    · exact ⟨_, _, _, rfl, ho, .inr ⟨h, rfl, rfl⟩⟩
  clear hb1
  obtain ⟨a1, e1, o1, rfl, ho2, hc1⟩ := key1
  (((apply vL_val); (case h => ((apply opv_E); exact rfl))); ((apply vL_val); (case h => ((apply opv_extract); (first | exact norm_eq rfl | ((conv => lhs; whnf) <;> exact rfl)); exact rfl))); ((apply vL_val); (case h => ((apply opv_E); exact rfl))); ((apply vL_val); (case h => ((apply opv_assign); ((conv => lhs; whnf) <;> exact rfl)))); ((apply vL_val); (case h => ((apply opv_E); exact rfl))); apply vL_nil; apply seqP_normal; apply vC_seq; apply vC_region; ((apply vL_val); (case h => ((apply opv_move); ((conv => lhs; whnf) <;> exact rfl)))); ((apply vL_val); (case h => ((apply opv_E); exact rfl))))
  refine vL_callF rfl (build_ref09 vs xs every _ inferInstance) rfl ?_
  rintro r2 w3 ⟨hf3, hb2⟩
  have F3 : From w3 _ := ⟨hf3⟩
  have key2 : ∃ (a : Value), r2 = .tuple #[a, .int .i64 e1] ∧ Own w3.heap 27 2 pE a o1 := by
    rcases hb2 with ⟨h, rfl⟩ | ⟨h, sv, rfl, ho⟩
    · rcases hc1 with ⟨_, rfl, rfl⟩ | ⟨h', _⟩
      · exact ⟨_, rfl, Own.nil _ _ _ _⟩
      · rw [h] at h'; cases h'
    · rcases hc1 with ⟨h', _⟩ | ⟨_, rfl, rfl⟩
      · rw [h] at h'; cases h'
      · exact ⟨_, rfl, ho⟩
  clear hb2 hc1
  obtain ⟨a2, rfl, ho3⟩ := key2
  (((apply vL_val); (case h => ((apply opv_E); exact rfl))); ((apply vL_val); (case h => ((apply opv_extract); (first | exact norm_eq rfl | ((conv => lhs; whnf) <;> exact rfl)); exact rfl))); ((apply vL_val); (case h => ((apply opv_E); exact rfl))); ((apply vL_val); (case h => ((apply opv_assign); ((conv => lhs; whnf) <;> exact rfl)))); ((apply vL_val); (case h => ((apply opv_E); exact rfl))); apply vL_nil; apply seqP_normal; apply vC_seq; apply vC_region; ((apply vL_val); (case h => ((apply opv_move); ((conv => lhs; whnf) <;> exact rfl)))); ((apply vL_val); (case h => ((apply opv_E); exact rfl))))
  refine vL_callF rfl (find_idx vl l n _ inferInstance) rfl ?_
  rintro r3 w4 ⟨hf4, hd1⟩
  have F4 : From w4 _ := ⟨hf4⟩
  have key3 : ∃ (q : Int × Int) (e : Int), r3 = .tuple #[.agg (pE q).toArray, .int .i64 e] ∧ ((¬ (rightL l ∧ 0 ≤ n) ∧ e = 2 ∧ q = (0, 0)) ∨ (rightL l ∧ 0 ≤ n ∧ isFind l n q ∧ e = 0)) := by
    rcases hd1 with ⟨h, rfl⟩ | ⟨h, h', q, hq, rfl⟩
    · exact ⟨_, _, rfl, .inl ⟨h, rfl, rfl⟩⟩
    · exact ⟨_, _, rfl, .inr ⟨h, h', hq, rfl⟩⟩
  clear hd1
  obtain ⟨q1, e3, rfl, hc3⟩ := key3
  ((iterate 3 (((apply vL_val); (case h => ((apply opv_E); exact rfl))))); ((apply vL_val); (case h => (apply opw_alloc))); ((apply vL_skip); (case h => ((apply ops_storen); (first | exact norm_eq rfl | ((conv => lhs; whnf) <;> exact rfl)); (first | exact norm_eq rfl | ((conv => lhs; whnf) <;> exact rfl)); exact rfl; (first | exact (fun u hu => EncOk.one _ u hu) | (intro u hu; simp at hu; rcases hu with rfl | rfl <;> rfl)); (first | assumption | infer_instance); (first | decide | exact of_decide_eq_true rfl | (simp; done))))); ((apply vL_val); (case h => ((apply opv_E); exact rfl))); apply vL_nil; apply seqP_normal; apply vC_seq; apply vC_region; ((apply vL_val); (case h => ((apply opv_move); ((conv => lhs; whnf) <;> exact rfl)))); ((apply vL_val); (case h => ((apply opv_E); exact rfl))))
  refine vL_callF rfl (find_ref09 vl l n _ inferInstance) rfl ?_
  rintro r4 w5 ⟨hf5, hd2⟩
  have F5 : From w5 _ := ⟨hf5⟩
  have key4 : r4 = .tuple #[.agg (pE q1).toArray, .int .i64 e3] := by
    rcases hd2 with ⟨h, rfl⟩ | ⟨h, h', q, hq, rfl⟩
    · rcases hc3 with ⟨_, rfl, rfl⟩ | ⟨g, g', _⟩
      · rfl
      · exact absurd ⟨g, g'⟩ h
    · rcases hc3 with ⟨g, _⟩ | ⟨_, _, g, rfl⟩
      · exact absurd ⟨h, h'⟩ g
      · rw [isFind_inj g hq]
  subst key4
  clear hd2
  ((iterate 3 (((apply vL_val); (case h => ((apply opv_E); exact rfl))))); ((apply vL_val); (case h => (apply opw_alloc))); ((apply vL_skip); (case h => ((apply ops_storen); (first | exact norm_eq rfl | ((conv => lhs; whnf) <;> exact rfl)); (first | exact norm_eq rfl | ((conv => lhs; whnf) <;> exact rfl)); exact rfl; (first | exact (fun u hu => EncOk.one _ u hu) | (intro u hu; simp at hu; rcases hu with rfl | rfl <;> rfl)); (first | assumption | infer_instance); (first | decide | exact of_decide_eq_true rfl | (simp; done))))); ((apply vL_val); (case h => ((apply opv_E); exact rfl))); apply vL_nil; apply seqP_normal; apply vC_seq; apply vC_region; (iterate 4 (((apply vL_val); (case h => ((apply opv_E); exact rfl))))))
  refine vL_and rfl rfl (fun c1 => ?_) (fun c1 => absurd rfl c1)
  (((apply vL_val); (case h => ((apply opv_move); ((conv => lhs; whnf) <;> exact rfl)))); ((apply vL_wanted); exact rfl); ((apply vL_val); (case h => ((apply opv_move); ((conv => lhs; whnf) <;> exact rfl)))); ((apply vL_wanted); exact rfl))
  refine vL_callF rfl (same_pairs a1 a2 o1 o1 _ inferInstance inferInstance) rfl ?_
  rintro _ _ ⟨⟨dn, rfl⟩, hu⟩
  have hu := hu.trans (congrArg Value.bool (decide_eq_true rfl))
  subst hu
  ((iterate 2 (((apply vL_val); (case h => ((apply opv_E); exact rfl))))); ((apply vL_wanted); exact rfl); ((apply vL_val); (case h => ((apply opv_E); exact rfl))); ((apply vL_wanted); exact rfl); ((apply vL_val); (case h => ((apply opv_E); exact rfl))); ((apply vL_wanted); exact rfl); (iterate 3 (((apply vL_val); (case h => ((apply opv_E); exact rfl))))))
  refine vL_and rfl rfl (fun c2 => ?_) (fun c2 => absurd rfl c2)
  (((apply vL_val); (case h => ((apply opv_loadbC); exact rfl; exact rfl; (first | assumption | infer_instance); (first | exact (rfl : _ = [_]) | exact (rfl : _ = [_, _]) | exact (rfl : _ = [_, _, _]) | exact (rfl : _ = [_, _, _, _]) | exact (rfl : _ = [_, _, _, _, _]) | exact (rfl : _ = [_, _, _, _, _, _]) | exact (rfl : _ = [_, _, _, _, _, _, _]) | exact (rfl : _ = [_, _, _, _, _, _, _, _]) | exact (rfl : _ = [_, _, _, _, _, _, _, _, _]) | exact (rfl : _ = [_, _, _, _, _, _, _, _, _, _]) | exact (rfl : _ = [_, _, _, _, _, _, _, _, _, _, _]) | exact (rfl : _ = [_, _, _, _, _, _, _, _, _, _, _, _])); exact rfl))); ((apply vL_wanted); exact rfl); ((apply vL_val); (case h => ((apply opv_loadbC); exact rfl; exact rfl; (first | assumption | infer_instance); (first | exact (rfl : _ = [_]) | exact (rfl : _ = [_, _]) | exact (rfl : _ = [_, _, _]) | exact (rfl : _ = [_, _, _, _]) | exact (rfl : _ = [_, _, _, _, _]) | exact (rfl : _ = [_, _, _, _, _, _]) | exact (rfl : _ = [_, _, _, _, _, _, _]) | exact (rfl : _ = [_, _, _, _, _, _, _, _]) | exact (rfl : _ = [_, _, _, _, _, _, _, _, _]) | exact (rfl : _ = [_, _, _, _, _, _, _, _, _, _]) | exact (rfl : _ = [_, _, _, _, _, _, _, _, _, _, _]) | exact (rfl : _ = [_, _, _, _, _, _, _, _, _, _, _, _])); exact rfl))); ((apply vL_wanted); exact rfl); ((apply vL_val); (case h => ((apply opv_eql_agg); exact rfl; exact rfl; (first | exact ⟨rfl, rfl, trivial⟩ | exact ⟨rfl, trivial⟩ | exact ⟨rfl, rfl, rfl, trivial⟩ | exact ⟨rfl, rfl, rfl, rfl, trivial⟩ | exact ⟨rfl, rfl, rfl, rfl, rfl, trivial⟩); (first | exact ⟨rfl, rfl, trivial⟩ | exact ⟨rfl, trivial⟩ | exact ⟨rfl, rfl, rfl, trivial⟩ | exact ⟨rfl, rfl, rfl, rfl, trivial⟩ | exact ⟨rfl, rfl, rfl, rfl, rfl, trivial⟩)))); (iterate 2 (((apply vL_val); (case h => ((apply opv_E); exact rfl))))))
  refine vL_andb rfl rfl (fun c3 => ?_) (fun c3 => ?_)
  rotate_left
  · have c4 : valsEq (pE q1) (pE q1) = false := c3
    rw [valsEq_pE] at c4; simp at c4
  (((apply vL_val); (case h => ((apply opv_move); ((conv => lhs; whnf) <;> exact rfl)))); ((apply vL_wanted); exact rfl))
  refine vL_callF rfl (right_idx vl l _ inferInstance) rfl ?_
  rintro r6 _ ⟨⟨dn6, rfl⟩, hr6⟩
  (((apply vL_wanted); exact rfl); ((apply vL_val); (case h => ((apply opv_move); ((conv => lhs; whnf) <;> exact rfl)))); ((apply vL_wanted); exact rfl))
  refine vL_callF rfl (right_ref09 vl l _ inferInstance) rfl ?_
  rintro r7 _ ⟨⟨dn7, rfl⟩, hr7⟩
  have key7 : ∃ t : Bool, r6 = .bool t ∧ r7 = .bool t := by
    rcases hr6 with ⟨rfl, h⟩ | ⟨rfl, h⟩
    · rcases hr7 with ⟨rfl, g⟩ | ⟨rfl, g⟩
      · exact ⟨_, rfl, rfl⟩
      · exact absurd h g
    · rcases hr7 with ⟨rfl, g⟩ | ⟨rfl, g⟩
      · exact absurd g h
      · exact ⟨_, rfl, rfl⟩
  obtain ⟨t, rfl, rfl⟩ := key7
  clear hr6 hr7
  (((apply vL_wanted); exact rfl); ((apply vL_val); (case h => ((apply opv_eql_bool); exact rfl; exact rfl))); (iterate 2 (((apply vL_val); (case h => ((apply opv_E); exact rfl))))))
  refine vL_and rfl rfl (fun c4 => ?_) (fun c4 => absurd rfl c4)
  (((apply vL_val); (case h => ((apply opv_move); ((conv => lhs; whnf) <;> exact rfl)))); ((apply vL_wanted); exact rfl); ((apply vL_val); (case h => ((apply opv_move); ((conv => lhs; whnf) <;> exact rfl)))); ((apply vL_wanted); exact rfl))
  refine vL_callF rfl (same_ints v9 vs xs xs _ inferInstance inferInstance) rfl ?_
  rintro _ _ ⟨⟨dn8, rfl⟩, hu⟩
  have hu := hu.trans (congrArg Value.bool (decide_eq_true rfl))
  subst hu
  ((iterate 2 (((apply vL_val); (case h => ((apply opv_E); exact rfl))))); ((apply vL_wanted); exact rfl))
  refine vL_callF rfl (awake09 _) rfl ?_
  rintro _ w6 ⟨rfl, hf6⟩
  ((iterate 2 (((apply vL_val); (case h => ((apply opv_E); exact rfl))))); apply vL_nil; apply seqP_normal; apply vC_ret)
  (apply ret1; (case h1 => (first | exact norm_eq rfl | ((conv => lhs; whnf) <;> exact rfl))))
  exact ⟨rfl, by (repeat (first | exact Fr.refl _ _ | assumption | with_reducible apply Fr.allocSet | with_reducible apply Fr.alloc | with_reducible apply Fr.drewN | with_reducible apply Fr.drew | ((with_reducible apply Fr.set); rotate_left; (right; ((try simp only [alloc_size]); omega))) | (refine Fr.trans ?_ (by assumption))))⟩
end Go.Proofs.Ytfceebbkjogedaa
