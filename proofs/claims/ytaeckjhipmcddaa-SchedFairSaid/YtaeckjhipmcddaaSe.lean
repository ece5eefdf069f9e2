/- Layer 14: the law SchedTells. -/
import Derived.Test.YtaeckjhipmcddaaSd
set_option maxRecDepth 100000
namespace Go.Proofs.Ytaeckjhipmcddaa
open Go Go.Eng
theorem nodup_readyL {xs : List Int} {id : Int} (h : xs.Nodup) : (readyL xs id).Nodup := by
  unfold readyL
  split
  · exact h
  · split
    · exact h
    · split
      · exact h
      · rename_i h1 _
        rw [List.nodup_append]
        refine ⟨h, by simp, fun a ha b hb => ?_⟩
        simp at hb
        subst hb
        exact fun e => h1 (e ▸ ha)
theorem without_sub (xs : List Int) (i : Int) : (without xs i).Sublist xs := by
  unfold without
  split
  · exact List.Sublist.refl _
  · rw [← List.eraseIdx_eq_take_drop_succ]; exact List.eraseIdx_sublist ..
theorem split_at {α : Type} {xs : List α} {k : Nat} {y : α} (h : xs[k]? = some y) : xs = xs.take k ++ y :: xs.drop (k + 1) := by
  have hk := (List.getElem?_eq_some_iff.1 h).1
  have e := (List.getElem?_eq_some_iff.1 h).2
  conv => lhs; rw [← List.take_append_drop k xs, List.drop_eq_getElem_cons hk, e]
theorem filter_without {xs : List Int} {k : Nat} {y : Int} (hn : xs.Nodup) (h : xs[k]? = some y) : (xs.filter fun x => !decide (x = y)) = without xs k := by
  have e := split_at h
  rw [without, if_neg (by omega)]
  simp only [Int.toNat_natCast]
  rw [e, List.nodup_append, List.nodup_cons] at hn
  conv => lhs; rw [e]
  rw [List.filter_append, List.filter_cons]
  simp only [decide_true, Bool.not_true, Bool.false_eq_true, if_false]
  congr 1
  · rw [List.filter_eq_self]
    intro a ha
    have := hn.2.2 a ha y (by simp)
    simp [this]
  · rw [List.filter_eq_self]
    intro a ha
    have : a ≠ y := fun h => hn.2.1.1 (h ▸ ha)
    simp [this]
theorem filter_none {xs : List Int} {y : Int} (h : y ∉ xs) : (xs.filter fun x => !decide (x = y)) = xs := by
  rw [List.filter_eq_self]
  intro a ha
  have : a ≠ y := fun e => h (e ▸ ha)
  simp [this]

def oE (q : Int × Int × Int) : List Value := [.int .i64 q.1, .int .i64 q.2.1, .int .u64 q.2.2]
instance encO : EncOk oE 3 := ⟨by intro x u h; simp [oE] at h; rcases h with rfl | rfl | rfl <;> rfl, fun _ => rfl⟩

theorem tells14 (vo : Value) (ops : List (Int × Int × Int)) (w : World) (hops : Rd w.heap 3 oE vo ops) (hw : ∀ x ∈ ops, 0 ≤ x.2.2 ∧ x.2.2 ≤ 18446744073709551615) :
    Rets Try.prog 3 #[vo] w fun u w' => u = .bool true ∧ Fr No w w' := by
  have hs' := hops.small
  refine rets_of Try.func3 rfl Try.ntmps3 rfl rfl (by kernel_rfl) ?_
  (apply vC_seq; apply vC_region; ((apply vL_val); (case h => ((apply opv_E); exact rfl))); apply vL_nil; apply seqP_normal; apply vC_seq; apply vC_region)
  refine vL_callF rfl (s_new w) rfl ?_
  rintro _ w1 ⟨sb, b, lv, rfl, q0⟩
  have l0 : L_int w w1 lv (.slice none 0 0) [] := ⟨Own.nil _ _ _ _, fun j hj => (by cases hj), rfl, fun j _ h6 => (by cases h6)⟩
  (((apply vL_val); (case h => ((apply opv_E); exact rfl))); apply vL_nil; apply seqP_normal; (iterate 2 (apply vC_seq)); apply vC_region; ((apply vL_val); (case h => ((apply opv_E); exact rfl))); ((apply vL_val); (case h => ((apply opv_eql_pnil); exact rfl; exact rfl; simp))); apply vL_nil; apply seqP_normal; ((apply vC_cond_false); exact rfl); apply vC_skip; apply seqP_normal; apply vC_seq; apply vC_region; ((apply vL_val); (case h => ((apply opv_E); exact rfl))); apply vL_nil; apply seqP_normal; (iterate 2 (apply vC_seq)); apply vC_region; ((apply vL_val); (case h => ((apply opv_E); exact rfl))); apply vL_nil; apply seqP_normal; apply vC_block)
  (apply vC_loop2 87112285931760246646623899502532125786100 5 4 (fun u v4 w' => ∃ (k : Nat) (cur : List Int) (lv : Value), u = .int .i64 (k : Int) ∧ k ≤ ops.length ∧ k ≤ 400 ∧ L_int w w' lv v4 cur ∧ Ss w w' sb b lv cur ∧ cur.length ≤ 256 ∧ cur.Nodup) (fun u _ _ => ops.length - (RowKit.intOf u).toNat)); (case h1 => (first | exact norm_eq rfl | ((conv => lhs; whnf) <;> exact rfl))); (case h2 => (first | exact norm_eq rfl | ((conv => lhs; whnf) <;> exact rfl)))
  case h0 => exact ⟨0, [], lv, rfl, by omega, by omega, l0, q0, by decide, List.nodup_nil⟩
  clear l0 q0
  case round =>
  rintro junk _ v4 w4 ⟨k, cur, lv1, rfl, hk, hk4, l1, q1, hc, hn⟩
  have hops4 := hops.frN q1.fr
  ((iterate 2 (apply vC_seq)); apply vC_region; ((apply vL_val); (case h => ((apply opv_E); exact rfl))); ((apply vL_val); (case h => ((apply opv_move); ((conv => lhs; whnf) <;> exact rfl)))); ((apply vL_val); (case h => ((apply opv_len); (first | exact norm_eq rfl | ((conv => lhs; whnf) <;> exact rfl)); (first | assumption | infer_instance)))); (iterate 2 (((apply vL_val); (case h => ((apply opv_E); exact rfl))))))
  have hout : ∀ e : Env, True := fun _ => trivial
  refine vL_and rfl rfl (fun c1 => ?_) (fun c1 => ?_)
  rotate_left
  · (((apply vL_unwanted'); exact rfl; exact rfl); ((apply vL_val); (case h => ((apply opv_E); exact rfl))); apply vL_nil; apply seqP_normal; ((apply vC_cond_false); exact rfl); apply vC_exit; apply seqP_exit; apply loopP_exit; apply blockP_exit; apply seqP_normal; apply vC_seq; apply vC_region; ((apply vL_val); (case h => ((apply opv_E); exact rfl))); apply vL_nil; apply seqP_normal; apply vC_seq; apply vC_region; ((apply vL_val); (case h => ((apply opv_E); exact rfl))))
    refine vL_gen (fun w5 => Fr No w w5) q1.fr ?_
    intro w5 hf5
    refine vL_callF rfl (s_pick0 (.pointer none) 0 w5 (s_nil_len w5)) rfl ?_
    rintro _ _ ⟨rfl, rfl⟩
    ((iterate 7 (((apply vL_val); (case h => ((apply opv_E); exact rfl))))); apply vL_nil; apply seqP_normal; apply vC_seq; apply vC_region; ((apply vL_val); (case h => ((apply opv_buildS); exact rfl; (first | exact (rfl : _ = some []) | exact (rfl : _ = some [_]) | exact (rfl : _ = some [_, _]) | exact (rfl : _ = some [_, _, _]) | exact (rfl : _ = some [_, _, _, _]) | exact (rfl : _ = some [_, _, _, _, _]) | exact (rfl : _ = some [_, _, _, _, _, _]) | exact (rfl : _ = some [_, _, _, _, _, _, _]) | exact (rfl : _ = some [_, _, _, _, _, _, _, _]) | exact (rfl : _ = some [_, _, _, _, _, _, _, _, _]) | exact (rfl : _ = some [_, _, _, _, _, _, _, _, _, _]) | exact (rfl : _ = some [_, _, _, _, _, _, _, _, _, _, _]) | exact (rfl : _ = some [_, _, _, _, _, _, _, _, _, _, _, _]) | exact (rfl : _ = some [_, _, _, _, _, _, _, _, _, _, _, _, _]) | exact (rfl : _ = some [_, _, _, _, _, _, _, _, _, _, _, _, _, _]) | exact (rfl : _ = some [_, _, _, _, _, _, _, _, _, _, _, _, _, _, _]) | exact (rfl : _ = some [_, _, _, _, _, _, _, _, _, _, _, _, _, _, _, _]))))); ((apply vL_val); (case h => ((apply opw_boxn); exact rfl))))
    refine vL_callF rfl (s_pick0 (.pointer (some ⟨w5.heap.size, 0, none⟩)) 0 _ (s_zero_len w5.heap.size _ inferInstance)) rfl ?_
    rintro _ _ ⟨rfl, rfl⟩
    ((iterate 7 (((apply vL_val); (case h => ((apply opv_E); exact rfl))))); apply vL_nil; apply seqP_normal; apply vC_seq; apply vC_region; ((apply vL_val); (case h => ((apply opv_E); exact rfl))); ((apply vL_val); (case h => ((apply opv_not); exact rfl))); ((apply vL_val); (case h => ((apply opv_E); exact rfl))); ((apply vL_wanted); exact rfl); ((apply vL_val); (case h => ((apply opv_E); exact rfl))); ((apply vL_wanted); exact rfl); ((apply vL_val); (case h => ((apply opv_not); exact rfl))); (iterate 2 (((apply vL_val); (case h => ((apply opv_E); exact rfl))))); ((apply vL_wanted); exact rfl); ((apply vL_val); (case h => ((apply opv_E); exact rfl))); ((apply vL_wanted); exact rfl))
    refine vL_callF rfl (s_nil_ready 1 _) rfl ?_
    rintro _ _ ⟨rfl, rfl⟩
    (((apply vL_wanted); exact rfl); (iterate 3 (((apply vL_val); (case h => ((apply opv_E); exact rfl))))); ((apply vL_wanted); exact rfl); ((apply vL_val); (case h => ((apply opv_buildS); exact rfl; (first | exact (rfl : _ = some []) | exact (rfl : _ = some [_]) | exact (rfl : _ = some [_, _]) | exact (rfl : _ = some [_, _, _]) | exact (rfl : _ = some [_, _, _, _]) | exact (rfl : _ = some [_, _, _, _, _]) | exact (rfl : _ = some [_, _, _, _, _, _]) | exact (rfl : _ = some [_, _, _, _, _, _, _]) | exact (rfl : _ = some [_, _, _, _, _, _, _, _]) | exact (rfl : _ = some [_, _, _, _, _, _, _, _, _]) | exact (rfl : _ = some [_, _, _, _, _, _, _, _, _, _]) | exact (rfl : _ = some [_, _, _, _, _, _, _, _, _, _, _]) | exact (rfl : _ = some [_, _, _, _, _, _, _, _, _, _, _, _]) | exact (rfl : _ = some [_, _, _, _, _, _, _, _, _, _, _, _, _]) | exact (rfl : _ = some [_, _, _, _, _, _, _, _, _, _, _, _, _, _]) | exact (rfl : _ = some [_, _, _, _, _, _, _, _, _, _, _, _, _, _, _]) | exact (rfl : _ = some [_, _, _, _, _, _, _, _, _, _, _, _, _, _, _, _]))))); ((apply vL_wanted); exact rfl); ((apply vL_val); (case h => ((apply opw_boxn); exact rfl))); ((apply vL_wanted); exact rfl))
    refine vL_callF rfl (s_zero_ready _ 1 _ inferInstance) rfl ?_
    rintro _ _ ⟨rfl, rfl⟩
    (((apply vL_wanted); exact rfl); (iterate 3 (((apply vL_val); (case h => ((apply opv_E); exact rfl))))); ((apply vL_wanted); exact rfl); ((apply vL_val); (case h => ((apply opv_E); exact rfl))); ((apply vL_wanted); exact rfl))
    refine vL_callF rfl (s_nil_len _) rfl ?_
    rintro _ _ ⟨rfl, rfl⟩
    (((apply vL_wanted); exact rfl); (iterate 3 (((apply vL_val); (case h => ((apply opv_E); exact rfl))))); ((apply vL_wanted); exact rfl); ((apply vL_val); (case h => ((apply opv_E); exact rfl))); ((apply vL_wanted); exact rfl))
    refine vL_callF rfl (s_nil_gone 1 _) rfl ?_
    rintro _ w6 ⟨hf6, rfl⟩
    (((apply vL_wanted); exact rfl); ((apply vL_val); (case h => ((apply opv_not); exact rfl))); (iterate 2 (((apply vL_val); (case h => ((apply opv_E); exact rfl))))); ((apply vL_wanted); exact rfl); ((apply vL_val); (case h => ((apply opv_E); exact rfl))); ((apply vL_wanted); exact rfl))
    refine vL_callF rfl (s_nil_list _) rfl ?_
    rintro _ _ ⟨rfl, rfl⟩
    (((apply vL_wanted); exact rfl); ((apply vL_val); (case h => ((apply opv_lenc); exact rfl))); ((apply vL_wanted); exact rfl); (iterate 3 (((apply vL_val); (case h => ((apply opv_E); exact rfl))))); ((apply vL_wanted); exact rfl))
    refine vL_callF rfl (awake14 _) rfl ?_
    rintro _ w7 ⟨rfl, hf7⟩
    ((iterate 2 (((apply vL_val); (case h => ((apply opv_E); exact rfl))))); apply vL_nil; apply seqP_normal; apply vC_ret)
    (apply ret1; (case h1 => (first | exact norm_eq rfl | ((conv => lhs; whnf) <;> exact rfl))))
    exact ⟨rfl, hf5.trans (Fr.trans (Fr.trans (by (repeat (first | exact Fr.refl _ _ | assumption | with_reducible apply Fr.allocSet | with_reducible apply Fr.alloc | with_reducible apply Fr.drewN | with_reducible apply Fr.drew | ((with_reducible apply Fr.set); rotate_left; (right; ((try simp only [alloc_size]); omega))) | (refine Fr.trans ?_ (by assumption))))) hf6) hf7)⟩
  (((apply vL_val); (case h => ((apply opv_E); exact rfl))); ((apply vL_wanted); exact rfl); (iterate 2 (((apply vL_val); (case h => ((apply opv_E); exact rfl))))); apply vL_nil; apply seqP_normal)
  refine vC_cond_dec rfl (fun c2 => ?_) (fun c2 => ?_)
  rotate_left
  · refine vC_gen (fun w5 => Fr No w w5) q1.fr ?_
    intro w5 hf5
    (apply vC_exit; apply seqP_exit; apply loopP_exit; apply blockP_exit; apply seqP_normal; apply vC_seq; apply vC_region; ((apply vL_val); (case h => ((apply opv_E); exact rfl))); apply vL_nil; apply seqP_normal; apply vC_seq; apply vC_region; ((apply vL_val); (case h => ((apply opv_E); exact rfl))))
    refine vL_callF rfl (s_pick0 (.pointer none) 0 w5 (s_nil_len w5)) rfl ?_
    rintro _ _ ⟨rfl, rfl⟩
    ((iterate 7 (((apply vL_val); (case h => ((apply opv_E); exact rfl))))); apply vL_nil; apply seqP_normal; apply vC_seq; apply vC_region; ((apply vL_val); (case h => ((apply opv_buildS); exact rfl; (first | exact (rfl : _ = some []) | exact (rfl : _ = some [_]) | exact (rfl : _ = some [_, _]) | exact (rfl : _ = some [_, _, _]) | exact (rfl : _ = some [_, _, _, _]) | exact (rfl : _ = some [_, _, _, _, _]) | exact (rfl : _ = some [_, _, _, _, _, _]) | exact (rfl : _ = some [_, _, _, _, _, _, _]) | exact (rfl : _ = some [_, _, _, _, _, _, _, _]) | exact (rfl : _ = some [_, _, _, _, _, _, _, _, _]) | exact (rfl : _ = some [_, _, _, _, _, _, _, _, _, _]) | exact (rfl : _ = some [_, _, _, _, _, _, _, _, _, _, _]) | exact (rfl : _ = some [_, _, _, _, _, _, _, _, _, _, _, _]) | exact (rfl : _ = some [_, _, _, _, _, _, _, _, _, _, _, _, _]) | exact (rfl : _ = some [_, _, _, _, _, _, _, _, _, _, _, _, _, _]) | exact (rfl : _ = some [_, _, _, _, _, _, _, _, _, _, _, _, _, _, _]) | exact (rfl : _ = some [_, _, _, _, _, _, _, _, _, _, _, _, _, _, _, _]))))); ((apply vL_val); (case h => ((apply opw_boxn); exact rfl))))
    refine vL_callF rfl (s_pick0 (.pointer (some ⟨w5.heap.size, 0, none⟩)) 0 _ (s_zero_len w5.heap.size _ inferInstance)) rfl ?_
    rintro _ _ ⟨rfl, rfl⟩
    ((iterate 7 (((apply vL_val); (case h => ((apply opv_E); exact rfl))))); apply vL_nil; apply seqP_normal; apply vC_seq; apply vC_region; ((apply vL_val); (case h => ((apply opv_E); exact rfl))); ((apply vL_val); (case h => ((apply opv_not); exact rfl))); ((apply vL_val); (case h => ((apply opv_E); exact rfl))); ((apply vL_wanted); exact rfl); ((apply vL_val); (case h => ((apply opv_E); exact rfl))); ((apply vL_wanted); exact rfl); ((apply vL_val); (case h => ((apply opv_not); exact rfl))); (iterate 2 (((apply vL_val); (case h => ((apply opv_E); exact rfl))))); ((apply vL_wanted); exact rfl); ((apply vL_val); (case h => ((apply opv_E); exact rfl))); ((apply vL_wanted); exact rfl))
    refine vL_callF rfl (s_nil_ready 1 _) rfl ?_
    rintro _ _ ⟨rfl, rfl⟩
    (((apply vL_wanted); exact rfl); (iterate 3 (((apply vL_val); (case h => ((apply opv_E); exact rfl))))); ((apply vL_wanted); exact rfl); ((apply vL_val); (case h => ((apply opv_buildS); exact rfl; (first | exact (rfl : _ = some []) | exact (rfl : _ = some [_]) | exact (rfl : _ = some [_, _]) | exact (rfl : _ = some [_, _, _]) | exact (rfl : _ = some [_, _, _, _]) | exact (rfl : _ = some [_, _, _, _, _]) | exact (rfl : _ = some [_, _, _, _, _, _]) | exact (rfl : _ = some [_, _, _, _, _, _, _]) | exact (rfl : _ = some [_, _, _, _, _, _, _, _]) | exact (rfl : _ = some [_, _, _, _, _, _, _, _, _]) | exact (rfl : _ = some [_, _, _, _, _, _, _, _, _, _]) | exact (rfl : _ = some [_, _, _, _, _, _, _, _, _, _, _]) | exact (rfl : _ = some [_, _, _, _, _, _, _, _, _, _, _, _]) | exact (rfl : _ = some [_, _, _, _, _, _, _, _, _, _, _, _, _]) | exact (rfl : _ = some [_, _, _, _, _, _, _, _, _, _, _, _, _, _]) | exact (rfl : _ = some [_, _, _, _, _, _, _, _, _, _, _, _, _, _, _]) | exact (rfl : _ = some [_, _, _, _, _, _, _, _, _, _, _, _, _, _, _, _]))))); ((apply vL_wanted); exact rfl); ((apply vL_val); (case h => ((apply opw_boxn); exact rfl))); ((apply vL_wanted); exact rfl))
    refine vL_callF rfl (s_zero_ready _ 1 _ inferInstance) rfl ?_
    rintro _ _ ⟨rfl, rfl⟩
    (((apply vL_wanted); exact rfl); (iterate 3 (((apply vL_val); (case h => ((apply opv_E); exact rfl))))); ((apply vL_wanted); exact rfl); ((apply vL_val); (case h => ((apply opv_E); exact rfl))); ((apply vL_wanted); exact rfl))
    refine vL_callF rfl (s_nil_len _) rfl ?_
    rintro _ _ ⟨rfl, rfl⟩
    (((apply vL_wanted); exact rfl); (iterate 3 (((apply vL_val); (case h => ((apply opv_E); exact rfl))))); ((apply vL_wanted); exact rfl); ((apply vL_val); (case h => ((apply opv_E); exact rfl))); ((apply vL_wanted); exact rfl))
    refine vL_callF rfl (s_nil_gone 1 _) rfl ?_
    rintro _ w6 ⟨hf6, rfl⟩
    (((apply vL_wanted); exact rfl); ((apply vL_val); (case h => ((apply opv_not); exact rfl))); (iterate 2 (((apply vL_val); (case h => ((apply opv_E); exact rfl))))); ((apply vL_wanted); exact rfl); ((apply vL_val); (case h => ((apply opv_E); exact rfl))); ((apply vL_wanted); exact rfl))
    refine vL_callF rfl (s_nil_list _) rfl ?_
    rintro _ _ ⟨rfl, rfl⟩
    (((apply vL_wanted); exact rfl); ((apply vL_val); (case h => ((apply opv_lenc); exact rfl))); ((apply vL_wanted); exact rfl); (iterate 3 (((apply vL_val); (case h => ((apply opv_E); exact rfl))))); ((apply vL_wanted); exact rfl))
    refine vL_callF rfl (awake14 _) rfl ?_
    rintro _ w7 ⟨rfl, hf7⟩
    ((iterate 2 (((apply vL_val); (case h => ((apply opv_E); exact rfl))))); apply vL_nil; apply seqP_normal; apply vC_ret)
    (apply ret1; (case h1 => (first | exact norm_eq rfl | ((conv => lhs; whnf) <;> exact rfl))))
    exact ⟨rfl, hf5.trans (Fr.trans (Fr.trans (by (repeat (first | exact Fr.refl _ _ | assumption | with_reducible apply Fr.allocSet | with_reducible apply Fr.alloc | with_reducible apply Fr.drewN | with_reducible apply Fr.drew | ((with_reducible apply Fr.set); rotate_left; (right; ((try simp only [alloc_size]); omega))) | (refine Fr.trans ?_ (by assumption))))) hf6) hf7)⟩
  obtain ⟨⟨kd, id, p⟩, hq⟩ : ∃ q, ops[k]? = some q := ⟨ops[k]'(by omega), List.getElem?_eq_getElem _⟩
  have hp := hw _ (List.mem_of_getElem? hq)
  dsimp only at hp
  (apply vC_skip; apply seqP_normal; apply vC_seq; apply vC_block; apply vC_seq; apply vC_region; ((apply vL_val); (case h => ((apply opv_move); ((conv => lhs; whnf) <;> exact rfl)))); ((apply vL_val); (case h => ((apply opv_E); exact rfl))); ((apply vL_val); (case h => ((apply opv_indexAddr); (first | exact norm_eq rfl | ((conv => lhs; whnf) <;> exact rfl)); exact rfl; (first | assumption | infer_instance); (first | omega | (simp only [List.length_map]; omega)); (first | omega | (simp only [List.length_map]; omega))))); ((apply vL_val); (case h => ((apply opv_ld_eln); exact rfl; exact rfl; (first | assumption | infer_instance); assumption))); ((apply vL_val); (case h => (apply opw_alloc))); ((apply vL_skip); (case h => ((apply ops_storen); (first | exact norm_eq rfl | ((conv => lhs; whnf) <;> exact rfl)); (first | exact norm_eq rfl | ((conv => lhs; whnf) <;> exact rfl)); exact rfl; (first | exact (fun u hu => EncOk.one _ u hu) | (intro u hu; simp at hu; rcases hu with rfl | rfl <;> rfl)); (first | assumption | infer_instance); (first | decide | exact of_decide_eq_true rfl | (simp; done))))); apply vL_nil; apply seqP_normal; (iterate 2 (apply vC_seq)); apply vC_region; ((apply vL_val); (case h => ((apply opv_fieldAddr); exact rfl))); ((apply vL_val); (case h => ((apply opv_loadb1); exact rfl; exact rfl; (first | assumption | infer_instance); exact rfl))); apply vL_nil; apply seqP_normal; apply vC_block; (iterate 2 (apply vC_seq)); apply vC_region; (iterate 2 (((apply vL_val); (case h => ((apply opv_E); exact rfl))))); apply vL_nil; apply seqP_normal)
  refine vC_gen (fun w5 => Fr No w4 w5 ∧ Blk w5.heap w4.heap.size [.int .i64 kd, .int .i64 id, .int .u64 p] 28) ⟨by (repeat (first | exact Fr.refl _ _ | assumption | with_reducible apply Fr.allocSet | with_reducible apply Fr.alloc | with_reducible apply Fr.drewN | with_reducible apply Fr.drew | ((with_reducible apply Fr.set); rotate_left; (right; ((try simp only [alloc_size]); omega))) | (refine Fr.trans ?_ (by assumption)))), inferInstance⟩ ?_
  rintro w5 ⟨hf5, hob⟩
  replace q1 := q1.frN hf5
  replace l1 := l1.same hf5
  have hlv4 := l1.ho
  rcases (by omega : kd = 0 ∨ kd = 1 ∨ kd = 2 ∨ kd = 3 ∨ kd = 4 ∨ ¬ (kd = 0 ∨ kd = 1 ∨ kd = 2 ∨ kd = 3 ∨ kd = 4)) with rfl | rfl | rfl | rfl | rfl | hno
  · (((apply vC_cond_true); exact rfl); apply vC_skip; apply seqP_normal; ((apply vC_cond_true); exact rfl); apply vC_seq; apply vC_region; ((apply vL_val); (case h => ((apply opv_move); ((conv => lhs; whnf) <;> exact rfl)))); ((apply vL_val); (case h => ((apply opv_fieldAddr); exact rfl))); ((apply vL_val); (case h => ((apply opv_loadb1); exact rfl; exact rfl; (first | assumption | infer_instance); exact rfl))))
    refine vL_callF rfl (ready14 v4 cur id _ l1.ho l1.one hc) rfl ?_
    rintro _ w6 ⟨v5, rfl, hf6, ho6, hfr6, hone6⟩
    have hob6 := hob.frN hf6
    have q2 := q1.frN hf6
    have hcell : ∃ a n c, v5 = .slice a n c := ho6.isSlice
    (((apply vL_val); (case h => ((apply opv_E); exact rfl))); ((apply vL_val); (case h => ((apply opv_extract); (first | exact norm_eq rfl | ((conv => lhs; whnf) <;> exact rfl)); exact rfl))); ((apply vL_val); (case h => ((apply opv_E); exact rfl))); ((apply vL_val); (case h => ((apply opv_assign); ((conv => lhs; whnf) <;> exact rfl)))); ((apply vL_val); (case h => ((apply opv_E); exact rfl))); apply vL_nil; apply seqP_normal; apply vC_seq; apply vC_region; ((apply vL_val); (case h => ((apply opv_move); ((conv => lhs; whnf) <;> exact rfl)))); ((apply vL_val); (case h => ((apply opv_assign); ((conv => lhs; whnf) <;> exact rfl)))); apply vL_nil; apply seqP_normal; apply vC_seq; apply vC_region; ((apply vL_val); (case h => ((apply opv_E); exact rfl))); ((apply vL_val); (case h => ((apply opv_fieldAddr); exact rfl))); ((apply vL_val); (case h => ((apply opv_loadb1); exact rfl; exact rfl; (first | assumption | infer_instance); exact rfl))))
    refine vL_callF rfl (s_ready sb b lv1 cur id _ q2.sc hc) rfl ?_
    rintro _ w7 ⟨rfl, lv2, h⟩
    have l9 : L_int w w7 lv2 v5 (readyL cur id) := by
      have l2 : L_int w w6 lv1 v5 (readyL cur id) := ⟨ho6, fun j hj => by
        rcases hfr6 j hj with h | h
        · exact l1.fl j h
        · have := q1.fr.size; omega, hone6, fun j hj h6 => by
        rcases hfr6 j h6 with h | h
        · exact l1.dis j hj h
        · have := q1.sc.ho.lt j hj; omega⟩
      exact l2.step q2.sc.hb h.fr h.fl
    have q9 := q2.to h
    have hc9 := readyL_len (id := id) hc
    have hn9 := nodup_readyL (id := id) hn
    clear h
    ((iterate 2 (((apply vL_val); (case h => ((apply opv_E); exact rfl))))); apply vL_nil; apply seqP_normal)
    refine vC_cond_neg rfl (fun d => d rfl) ?_
    have hlv9 := l9.ho
    (apply vC_skip; apply blockP_normal; apply seqP_normal; apply vC_seq; apply vC_region; ((apply vL_val); (case h => ((apply opv_E); exact rfl))))
    refine vL_callF rfl (s_len sb b _ _ _ q9.sc) rfl ?_
    rintro _ _ ⟨rfl, rfl⟩
    (((apply vL_val); (case h => ((apply opv_move); ((conv => lhs; whnf) <;> exact rfl)))); ((apply vL_val); (case h => ((apply opv_len); (first | exact norm_eq rfl | ((conv => lhs; whnf) <;> exact rfl)); (first | assumption | infer_instance)))); (iterate 2 (((apply vL_val); (case h => ((apply opv_E); exact rfl))))))
    refine vL_or rfl rfl (fun d => ?_) (fun d => absurd rfl d)
    (((apply vL_val); (case h => ((apply opv_E); exact rfl))); ((apply vL_wanted); exact rfl))
    refine vL_callF rfl (s_list sb b _ _ _ q9.sc hc9) rfl ?_
    rintro ul w10 ⟨hf10, ho10, hfr10, hone10⟩
    have l10 := l9.same hf10
    have q10 := q9.frN hf10
    (((apply vL_wanted); exact rfl); ((apply vL_val); (case h => ((apply opv_move); ((conv => lhs; whnf) <;> exact rfl)))); ((apply vL_wanted); exact rfl))
    refine vL_callF rfl (kit_same_int ul _ _ _ _ ho10.rd l10.ho.rd) rfl ?_
    rintro _ _ ⟨⟨dn, rfl⟩, hu⟩
    have hu := hu.trans (congrArg Value.bool (decide_eq_true rfl))
    subst hu
    have q11 := q10.frN ((Fr.refl No w10).drewN dn)
    have l11 := l10.same ((Fr.refl No w10).drewN dn)
    (((apply vL_wanted); exact rfl); ((apply vL_val); (case h => ((apply opv_not); exact rfl))); ((apply vL_val); (case h => ((apply opv_E); exact rfl))); apply vL_nil; apply seqP_normal; ((apply vC_cond_false); exact rfl); apply vC_skip; apply blockP_normal; apply seqP_normal; apply vC_region; ((apply vL_val); (case h => ((apply opv_E); exact rfl))); ((apply vL_val); (case h => ((apply opv_add); exact rfl; exact rfl; (first | omega | (simp only [List.length_map]; omega))))); ((apply vL_val); (case h => ((apply opv_E); exact rfl))); apply vL_nil; apply loopP_normal)
    (with_reducible apply end2); (case hs => (repeat (first | (with_reducible exact same_mask _ _ _) | with_reducible apply same_updN | ((with_reducible refine same_updO ?_ ?_); rotate_left; exact rfl) | ((with_reducible refine same_upd ?_ ?_); rotate_left; exact rfl) | ((with_reducible refine same_maskIn ?_ ?_); rotate_left; exact rfl)))); (case h1 => (first | exact norm_eq rfl | ((conv => lhs; whnf) <;> exact rfl))); (case h2 => (first | exact norm_eq rfl | ((conv => lhs; whnf) <;> exact rfl)))
    · exact ⟨k + 1, _, _, rfl, by omega, by omega, l11, q11, hc9, hn9⟩
    · simp [RowKit.intOf]; omega
  · (((apply vC_cond_false); exact rfl); apply vC_region; (iterate 2 (((apply vL_val); (case h => ((apply opv_E); exact rfl))))); apply vL_nil; apply seqP_normal; ((apply vC_cond_true); exact rfl); apply vC_seq; apply vC_region; ((apply vL_val); (case h => ((apply opv_move); ((conv => lhs; whnf) <;> exact rfl)))); ((apply vL_val); (case h => ((apply opv_fieldAddr); exact rfl))); ((apply vL_val); (case h => ((apply opv_loadb1); exact rfl; exact rfl; (first | assumption | infer_instance); exact rfl))))
    refine vL_callF rfl (ready14 v4 cur id _ l1.ho l1.one hc) rfl ?_
    rintro _ w6 ⟨v5, rfl, hf6, ho6, hfr6, hone6⟩
    have hob6 := hob.frN hf6
    have q2 := q1.frN hf6
    have hcell : ∃ a n c, v5 = .slice a n c := ho6.isSlice
    (((apply vL_val); (case h => ((apply opv_E); exact rfl))); ((apply vL_val); (case h => ((apply opv_extract); (first | exact norm_eq rfl | ((conv => lhs; whnf) <;> exact rfl)); exact rfl))); ((apply vL_val); (case h => ((apply opv_E); exact rfl))); ((apply vL_val); (case h => ((apply opv_assign); ((conv => lhs; whnf) <;> exact rfl)))); ((apply vL_val); (case h => ((apply opv_E); exact rfl))); apply vL_nil; apply seqP_normal; apply vC_seq; apply vC_region; ((apply vL_val); (case h => ((apply opv_move); ((conv => lhs; whnf) <;> exact rfl)))); ((apply vL_val); (case h => ((apply opv_assign); ((conv => lhs; whnf) <;> exact rfl)))); apply vL_nil; apply seqP_normal; apply vC_seq; apply vC_region; ((apply vL_val); (case h => ((apply opv_E); exact rfl))); ((apply vL_val); (case h => ((apply opv_fieldAddr); exact rfl))); ((apply vL_val); (case h => ((apply opv_loadb1); exact rfl; exact rfl; (first | assumption | infer_instance); exact rfl))))
    refine vL_callF rfl (s_ready sb b lv1 cur id _ q2.sc hc) rfl ?_
    rintro _ w7 ⟨rfl, lv2, h⟩
    have l9 : L_int w w7 lv2 v5 (readyL cur id) := by
      have l2 : L_int w w6 lv1 v5 (readyL cur id) := ⟨ho6, fun j hj => by
        rcases hfr6 j hj with h | h
        · exact l1.fl j h
        · have := q1.fr.size; omega, hone6, fun j hj h6 => by
        rcases hfr6 j h6 with h | h
        · exact l1.dis j hj h
        · have := q1.sc.ho.lt j hj; omega⟩
      exact l2.step q2.sc.hb h.fr h.fl
    have q9 := q2.to h
    have hc9 := readyL_len (id := id) hc
    have hn9 := nodup_readyL (id := id) hn
    clear h
    ((iterate 2 (((apply vL_val); (case h => ((apply opv_E); exact rfl))))); apply vL_nil; apply seqP_normal)
    refine vC_cond_neg rfl (fun d => d rfl) ?_
    have hlv9 := l9.ho
    (apply vC_skip; apply blockP_normal; apply seqP_normal; apply vC_seq; apply vC_region; ((apply vL_val); (case h => ((apply opv_E); exact rfl))))
    refine vL_callF rfl (s_len sb b _ _ _ q9.sc) rfl ?_
    rintro _ _ ⟨rfl, rfl⟩
    (((apply vL_val); (case h => ((apply opv_move); ((conv => lhs; whnf) <;> exact rfl)))); ((apply vL_val); (case h => ((apply opv_len); (first | exact norm_eq rfl | ((conv => lhs; whnf) <;> exact rfl)); (first | assumption | infer_instance)))); (iterate 2 (((apply vL_val); (case h => ((apply opv_E); exact rfl))))))
    refine vL_or rfl rfl (fun d => ?_) (fun d => absurd rfl d)
    (((apply vL_val); (case h => ((apply opv_E); exact rfl))); ((apply vL_wanted); exact rfl))
    refine vL_callF rfl (s_list sb b _ _ _ q9.sc hc9) rfl ?_
    rintro ul w10 ⟨hf10, ho10, hfr10, hone10⟩
    have l10 := l9.same hf10
    have q10 := q9.frN hf10
    (((apply vL_wanted); exact rfl); ((apply vL_val); (case h => ((apply opv_move); ((conv => lhs; whnf) <;> exact rfl)))); ((apply vL_wanted); exact rfl))
    refine vL_callF rfl (kit_same_int ul _ _ _ _ ho10.rd l10.ho.rd) rfl ?_
    rintro _ _ ⟨⟨dn, rfl⟩, hu⟩
    have hu := hu.trans (congrArg Value.bool (decide_eq_true rfl))
    subst hu
    have q11 := q10.frN ((Fr.refl No w10).drewN dn)
    have l11 := l10.same ((Fr.refl No w10).drewN dn)
    (((apply vL_wanted); exact rfl); ((apply vL_val); (case h => ((apply opv_not); exact rfl))); ((apply vL_val); (case h => ((apply opv_E); exact rfl))); apply vL_nil; apply seqP_normal; ((apply vC_cond_false); exact rfl); apply vC_skip; apply blockP_normal; apply seqP_normal; apply vC_region; ((apply vL_val); (case h => ((apply opv_E); exact rfl))); ((apply vL_val); (case h => ((apply opv_add); exact rfl; exact rfl; (first | omega | (simp only [List.length_map]; omega))))); ((apply vL_val); (case h => ((apply opv_E); exact rfl))); apply vL_nil; apply loopP_normal)
    (with_reducible apply end2); (case hs => (repeat (first | (with_reducible exact same_mask _ _ _) | with_reducible apply same_updN | ((with_reducible refine same_updO ?_ ?_); rotate_left; exact rfl) | ((with_reducible refine same_upd ?_ ?_); rotate_left; exact rfl) | ((with_reducible refine same_maskIn ?_ ?_); rotate_left; exact rfl)))); (case h1 => (first | exact norm_eq rfl | ((conv => lhs; whnf) <;> exact rfl))); (case h2 => (first | exact norm_eq rfl | ((conv => lhs; whnf) <;> exact rfl)))
    · exact ⟨k + 1, _, _, rfl, by omega, by omega, l11, q11, hc9, hn9⟩
    · simp [RowKit.intOf]; omega
  · (((apply vC_cond_false); exact rfl); apply vC_region; (iterate 2 (((apply vL_val); (case h => ((apply opv_E); exact rfl))))); apply vL_nil; apply seqP_normal; ((apply vC_cond_false); exact rfl); apply vC_seq; apply vC_region; (iterate 2 (((apply vL_val); (case h => ((apply opv_E); exact rfl))))); apply vL_nil; apply seqP_normal; ((apply vC_cond_true); exact rfl); apply vC_seq; apply vC_region; ((apply vL_val); (case h => ((apply opv_move); ((conv => lhs; whnf) <;> exact rfl)))); ((apply vL_val); (case h => ((apply opv_fieldAddr); exact rfl))); ((apply vL_val); (case h => ((apply opv_loadb1); exact rfl; exact rfl; (first | assumption | infer_instance); exact rfl))))
    refine vL_callF rfl (pick14 v4 cur p _ l1.ho l1.one hc hp) rfl ?_
    rintro _ w6 (⟨hcur, rfl, rfl⟩ | ⟨x, v5, hx, rfl, hf6, ho6, hfr6, hone6⟩)
    · obtain ⟨la, lc, rfl⟩ := l1.ho.rd.len
      ((iterate 9 (((apply vL_val); (case h => ((apply opv_E); exact rfl))))); apply vL_nil; apply seqP_normal; apply vC_seq; apply vC_region; (iterate 2 (((apply vL_val); (case h => ((apply opv_E); exact rfl))))); apply vL_nil; apply seqP_normal; apply vC_seq; apply vC_region; ((apply vL_val); (case h => ((apply opv_E); exact rfl))); ((apply vL_val); (case h => ((apply opv_fieldAddr); exact rfl))); ((apply vL_val); (case h => ((apply opv_loadb1); exact rfl; exact rfl; (first | assumption | infer_instance); exact rfl))))
      refine vL_callF rfl (s_pick sb b lv1 cur p _ q1.sc hc hp) rfl ?_
      rintro _ w7 (⟨_, rfl, rfl⟩ | ⟨y, lv2, hy, rfl, h⟩)
      rotate_left
      · rw [hcur] at hy; simp at hy
      have l9 := l1
      have q9 := q1
      have hc9 := hc
      have hn9 := hn
      have hlv9 := l9.ho
      ((iterate 7 (((apply vL_val); (case h => ((apply opv_E); exact rfl))))); apply vL_nil; apply seqP_normal; apply vC_seq; apply vC_region; (iterate 4 (((apply vL_val); (case h => ((apply opv_E); exact rfl))))); ((apply vL_wanted); exact rfl); ((apply vL_val); (case h => ((apply opv_E); exact rfl))); ((apply vL_wanted); exact rfl); ((apply vL_val); (case h => ((apply opv_E); exact rfl))); ((apply vL_wanted); exact rfl); (iterate 3 (((apply vL_val); (case h => ((apply opv_E); exact rfl))))); ((apply vL_wanted); exact rfl); ((apply vL_val); (case h => ((apply opv_E); exact rfl))); ((apply vL_wanted); exact rfl); ((apply vL_val); (case h => ((apply opv_E); exact rfl))); ((apply vL_wanted); exact rfl); ((apply vL_val); (case h => ((apply opv_neq_bool); exact rfl; exact rfl))); ((apply vL_val); (case h => ((apply opv_E); exact rfl))); apply vL_nil; apply seqP_normal; ((apply vC_cond_false); exact rfl); apply vC_skip; apply blockP_normal; apply seqP_normal; apply vC_seq; apply vC_region; ((apply vL_val); (case h => ((apply opv_E); exact rfl))))
      refine vL_callF rfl (s_len sb b _ _ _ q9.sc) rfl ?_
      rintro _ _ ⟨rfl, rfl⟩
      (((apply vL_val); (case h => ((apply opv_E); exact rfl))); ((apply vL_val); (case h => ((apply opv_lenc); exact rfl))); (iterate 2 (((apply vL_val); (case h => ((apply opv_E); exact rfl))))))
      refine vL_or rfl rfl (fun d => ?_) (fun d => absurd rfl d)
      (((apply vL_val); (case h => ((apply opv_E); exact rfl))); ((apply vL_wanted); exact rfl))
      refine vL_callF rfl (s_list sb b _ _ _ q9.sc hc9) rfl ?_
      rintro ul w10 ⟨hf10, ho10, hfr10, hone10⟩
      have l10 := l9.same hf10
      have q10 := q9.frN hf10
      (((apply vL_wanted); exact rfl); ((apply vL_val); (case h => ((apply opv_E); exact rfl))); ((apply vL_wanted); exact rfl))
      refine vL_callF rfl (kit_same_int ul _ _ _ _ ho10.rd l10.ho.rd) rfl ?_
      rintro _ _ ⟨⟨dn, rfl⟩, hu⟩
      have hu := hu.trans (congrArg Value.bool (decide_eq_true rfl))
      subst hu
      have q11 := q10.frN ((Fr.refl No w10).drewN dn)
      have l11 := l10.same ((Fr.refl No w10).drewN dn)
      (((apply vL_wanted); exact rfl); ((apply vL_val); (case h => ((apply opv_not); exact rfl))); ((apply vL_val); (case h => ((apply opv_E); exact rfl))); apply vL_nil; apply seqP_normal; ((apply vC_cond_false); exact rfl); apply vC_skip; apply blockP_normal; apply seqP_normal; apply vC_region; ((apply vL_val); (case h => ((apply opv_E); exact rfl))); ((apply vL_val); (case h => ((apply opv_add); exact rfl; exact rfl; (first | omega | (simp only [List.length_map]; omega))))); ((apply vL_val); (case h => ((apply opv_E); exact rfl))); apply vL_nil; apply loopP_normal)
      (with_reducible apply end2); (case hs => (repeat (first | (with_reducible exact same_mask _ _ _) | with_reducible apply same_updN | ((with_reducible refine same_updO ?_ ?_); rotate_left; exact rfl) | ((with_reducible refine same_upd ?_ ?_); rotate_left; exact rfl) | ((with_reducible refine same_maskIn ?_ ?_); rotate_left; exact rfl)))); (case h1 => (first | exact norm_eq rfl | ((conv => lhs; whnf) <;> exact rfl))); (case h2 => (first | exact norm_eq rfl | ((conv => lhs; whnf) <;> exact rfl)))
      · exact ⟨k + 1, _, _, rfl, by omega, by omega, l11, q11, hc9, hn9⟩
      · simp [RowKit.intOf]; omega
    · have hob6 := hob.frN hf6
      have q2 := q1.frN hf6
      have hcell : ∃ a n c, v5 = .slice a n c := ho6.isSlice
      (((apply vL_val); (case h => ((apply opv_E); exact rfl))); ((apply vL_val); (case h => ((apply opv_extract); (first | exact norm_eq rfl | ((conv => lhs; whnf) <;> exact rfl)); exact rfl))); (iterate 3 (((apply vL_val); (case h => ((apply opv_E); exact rfl))))); ((apply vL_val); (case h => ((apply opv_assign); ((conv => lhs; whnf) <;> exact rfl)))); (iterate 3 (((apply vL_val); (case h => ((apply opv_E); exact rfl))))); apply vL_nil; apply seqP_normal; apply vC_seq; apply vC_region; ((apply vL_val); (case h => ((apply opv_move); ((conv => lhs; whnf) <;> exact rfl)))); ((apply vL_val); (case h => ((apply opv_assign); ((conv => lhs; whnf) <;> exact rfl)))); apply vL_nil; apply seqP_normal; apply vC_seq; apply vC_region; ((apply vL_val); (case h => ((apply opv_E); exact rfl))); ((apply vL_val); (case h => ((apply opv_fieldAddr); exact rfl))); ((apply vL_val); (case h => ((apply opv_loadb1); exact rfl; exact rfl; (first | assumption | infer_instance); exact rfl))))
      refine vL_callF rfl (s_pick sb b lv1 cur p _ q2.sc hc hp) rfl ?_
      rintro _ w7 (⟨hcur, _⟩ | ⟨y, lv2, hy, rfl, h⟩)
      · rw [hcur] at hx; simp at hx
      obtain rfl : x = y := Option.some.inj (hx.symm.trans hy)
      have l9 : L_int w w7 lv2 v5 (without cur (p % cur.length)) := by
        have l2 : L_int w w6 lv1 v5 (without cur (p % cur.length)) := ⟨ho6, fun j hj => by have := hfr6 j hj; have := q1.fr.size; omega, hone6, fun j hj h6 => by have := q1.sc.ho.lt j hj; have := hfr6 j h6; omega⟩
        exact l2.step q2.sc.hb h.fr h.fl
      have q9 := q2.to h
      have hsub := without_sub cur (p % cur.length)
      have hc9 : (without cur (p % cur.length)).length ≤ 256 := Nat.le_trans hsub.length_le hc
      have hn9 := hsub.nodup hn
      clear h
      ((iterate 7 (((apply vL_val); (case h => ((apply opv_E); exact rfl))))); apply vL_nil; apply seqP_normal; apply vC_seq; apply vC_region; (iterate 4 (((apply vL_val); (case h => ((apply opv_E); exact rfl))))))
      refine vL_or rfl rfl (fun d => ?_) (fun d => absurd rfl d)
      (((apply vL_val); (case h => ((apply opv_E); exact rfl))); ((apply vL_wanted); exact rfl); ((apply vL_val); (case h => ((apply opv_E); exact rfl))); ((apply vL_wanted); exact rfl); (iterate 3 (((apply vL_val); (case h => ((apply opv_E); exact rfl))))))
      refine vL_or rfl rfl (fun d => ?_) (fun d => absurd rfl d)
      have hlv9 := l9.ho
      (((apply vL_val); (case h => ((apply opv_E); exact rfl))); ((apply vL_wanted); exact rfl); ((apply vL_val); (case h => ((apply opv_E); exact rfl))); ((apply vL_wanted); exact rfl); ((apply vL_val); (case h => ((apply opv_neq_bool); exact rfl; exact rfl))); ((apply vL_val); (case h => ((apply opv_E); exact rfl))); apply vL_nil; apply seqP_normal; ((apply vC_cond_false); exact rfl); apply vC_skip; apply blockP_normal; apply seqP_normal; apply vC_seq; apply vC_region; ((apply vL_val); (case h => ((apply opv_E); exact rfl))))
      refine vL_callF rfl (s_len sb b _ _ _ q9.sc) rfl ?_
      rintro _ _ ⟨rfl, rfl⟩
      (((apply vL_val); (case h => ((apply opv_move); ((conv => lhs; whnf) <;> exact rfl)))); ((apply vL_val); (case h => ((apply opv_len); (first | exact norm_eq rfl | ((conv => lhs; whnf) <;> exact rfl)); (first | assumption | infer_instance)))); (iterate 2 (((apply vL_val); (case h => ((apply opv_E); exact rfl))))))
      refine vL_or rfl rfl (fun d => ?_) (fun d => absurd rfl d)
      (((apply vL_val); (case h => ((apply opv_E); exact rfl))); ((apply vL_wanted); exact rfl))
      refine vL_callF rfl (s_list sb b _ _ _ q9.sc hc9) rfl ?_
      rintro ul w10 ⟨hf10, ho10, hfr10, hone10⟩
      have l10 := l9.same hf10
      have q10 := q9.frN hf10
      (((apply vL_wanted); exact rfl); ((apply vL_val); (case h => ((apply opv_move); ((conv => lhs; whnf) <;> exact rfl)))); ((apply vL_wanted); exact rfl))
      refine vL_callF rfl (kit_same_int ul _ _ _ _ ho10.rd l10.ho.rd) rfl ?_
      rintro _ _ ⟨⟨dn, rfl⟩, hu⟩
      have hu := hu.trans (congrArg Value.bool (decide_eq_true rfl))
      subst hu
      have q11 := q10.frN ((Fr.refl No w10).drewN dn)
      have l11 := l10.same ((Fr.refl No w10).drewN dn)
      (((apply vL_wanted); exact rfl); ((apply vL_val); (case h => ((apply opv_not); exact rfl))); ((apply vL_val); (case h => ((apply opv_E); exact rfl))); apply vL_nil; apply seqP_normal; ((apply vC_cond_false); exact rfl); apply vC_skip; apply blockP_normal; apply seqP_normal; apply vC_region; ((apply vL_val); (case h => ((apply opv_E); exact rfl))); ((apply vL_val); (case h => ((apply opv_add); exact rfl; exact rfl; (first | omega | (simp only [List.length_map]; omega))))); ((apply vL_val); (case h => ((apply opv_E); exact rfl))); apply vL_nil; apply loopP_normal)
      (with_reducible apply end2); (case hs => (repeat (first | (with_reducible exact same_mask _ _ _) | with_reducible apply same_updN | ((with_reducible refine same_updO ?_ ?_); rotate_left; exact rfl) | ((with_reducible refine same_upd ?_ ?_); rotate_left; exact rfl) | ((with_reducible refine same_maskIn ?_ ?_); rotate_left; exact rfl)))); (case h1 => (first | exact norm_eq rfl | ((conv => lhs; whnf) <;> exact rfl))); (case h2 => (first | exact norm_eq rfl | ((conv => lhs; whnf) <;> exact rfl)))
      · exact ⟨k + 1, _, _, rfl, by omega, by omega, l11, q11, hc9, hn9⟩
      · simp [RowKit.intOf]; omega
  · (((apply vC_cond_false); exact rfl); apply vC_region; (iterate 2 (((apply vL_val); (case h => ((apply opv_E); exact rfl))))); apply vL_nil; apply seqP_normal; ((apply vC_cond_false); exact rfl); apply vC_seq; apply vC_region; (iterate 2 (((apply vL_val); (case h => ((apply opv_E); exact rfl))))); apply vL_nil; apply seqP_normal; ((apply vC_cond_false); exact rfl); apply vC_seq; apply vC_region; (iterate 2 (((apply vL_val); (case h => ((apply opv_E); exact rfl))))); apply vL_nil; apply seqP_normal; ((apply vC_cond_true); exact rfl); apply vC_seq; apply vC_region; ((apply vL_val); (case h => ((apply opv_move); ((conv => lhs; whnf) <;> exact rfl)))); ((apply vL_val); (case h => ((apply opv_fieldAddr); exact rfl))); ((apply vL_val); (case h => ((apply opv_loadb1); exact rfl; exact rfl; (first | assumption | infer_instance); exact rfl))))
    refine vL_callF rfl (place14 v4 cur id _ l1.ho.rd) rfl ?_
    rintro _ _ ⟨rfl, ⟨rfl, hat⟩ | ⟨j, rfl, hj, hx, _⟩⟩
    · have hflt := filter_none hat
      have hwo : without cur (-1) = (cur.filter fun x => !decide (x = id)) := by rw [hflt]; rfl
      (((apply vL_val); (case h => ((apply opv_E); exact rfl))); apply vL_nil; apply seqP_normal; (iterate 2 (apply vC_seq)); apply vC_region; ((apply vL_val); (case h => ((apply opv_E); exact rfl))); ((apply vL_val); (case h => ((apply opv_fieldAddr); exact rfl))); ((apply vL_val); (case h => ((apply opv_loadb1); exact rfl; exact rfl; (first | assumption | infer_instance); exact rfl))))
      refine vL_callF rfl (s_gone sb b lv1 cur id _ q1.sc hc) rfl ?_
      rintro _ w6 ⟨rfl, lv2, h⟩
      have l2 := l1.step q1.sc.hb h.fr h.fl
      have q2 := q1.to h
      clear h
      ((iterate 2 (((apply vL_val); (case h => ((apply opv_E); exact rfl))))); ((apply vL_val); (case h => ((apply opv_neq_bool); exact rfl; exact rfl))); apply vL_nil; apply seqP_normal)
      refine vC_cond_neg rfl (by simp [hflt]) ?_
      (apply vC_skip; apply seqP_normal; apply vC_region; ((apply vL_val); (case h => ((apply opv_move); ((conv => lhs; whnf) <;> exact rfl)))); ((apply vL_val); (case h => ((apply opv_E); exact rfl))))
      refine vL_callF rfl (without13 v4 (-1) cur _ l2.ho.rd (by omega)) rfl ?_
      rintro v5 w7 ⟨hf7, ho7, hfr7, hone7⟩
      rw [hwo] at ho7
      have hsub : (cur.filter fun x => !decide (x = id)).Sublist cur := List.filter_sublist
      have q9 := q2.frN hf7
      have l9 : L_int w w7 lv2 v5 (cur.filter fun x => !decide (x = id)) := ⟨ho7, fun j hj => by have := hfr7 j hj; have := q2.fr.size; omega, hone7, fun j hj h6 => by have := q2.sc.ho.lt j hj; have := hfr7 j h6; omega⟩
      have hc9 : (cur.filter fun x => !decide (x = id)).length ≤ 256 := Nat.le_trans hsub.length_le hc
      have hn9 := hsub.nodup hn
      have hlv9 := l9.ho
      (((apply vL_val); (case h => ((apply opv_assign); ((conv => lhs; whnf) <;> exact rfl)))); apply vL_nil; apply blockP_normal; apply seqP_normal; apply vC_seq; apply vC_region; ((apply vL_val); (case h => ((apply opv_E); exact rfl))))
      refine vL_callF rfl (s_len sb b _ _ _ q9.sc) rfl ?_
      rintro _ _ ⟨rfl, rfl⟩
      (((apply vL_val); (case h => ((apply opv_move); ((conv => lhs; whnf) <;> exact rfl)))); ((apply vL_val); (case h => ((apply opv_len); (first | exact norm_eq rfl | ((conv => lhs; whnf) <;> exact rfl)); (first | assumption | infer_instance)))); (iterate 2 (((apply vL_val); (case h => ((apply opv_E); exact rfl))))))
      refine vL_or rfl rfl (fun d => ?_) (fun d => absurd rfl d)
      (((apply vL_val); (case h => ((apply opv_E); exact rfl))); ((apply vL_wanted); exact rfl))
      refine vL_callF rfl (s_list sb b _ _ _ q9.sc hc9) rfl ?_
      rintro ul w10 ⟨hf10, ho10, hfr10, hone10⟩
      have l10 := l9.same hf10
      have q10 := q9.frN hf10
      (((apply vL_wanted); exact rfl); ((apply vL_val); (case h => ((apply opv_move); ((conv => lhs; whnf) <;> exact rfl)))); ((apply vL_wanted); exact rfl))
      refine vL_callF rfl (kit_same_int ul _ _ _ _ ho10.rd l10.ho.rd) rfl ?_
      rintro _ _ ⟨⟨dn, rfl⟩, hu⟩
      have hu := hu.trans (congrArg Value.bool (decide_eq_true rfl))
      subst hu
      have q11 := q10.frN ((Fr.refl No w10).drewN dn)
      have l11 := l10.same ((Fr.refl No w10).drewN dn)
      (((apply vL_wanted); exact rfl); ((apply vL_val); (case h => ((apply opv_not); exact rfl))); ((apply vL_val); (case h => ((apply opv_E); exact rfl))); apply vL_nil; apply seqP_normal; ((apply vC_cond_false); exact rfl); apply vC_skip; apply blockP_normal; apply seqP_normal; apply vC_region; ((apply vL_val); (case h => ((apply opv_E); exact rfl))); ((apply vL_val); (case h => ((apply opv_add); exact rfl; exact rfl; (first | omega | (simp only [List.length_map]; omega))))); ((apply vL_val); (case h => ((apply opv_E); exact rfl))); apply vL_nil; apply loopP_normal)
      (with_reducible apply end2); (case hs => (repeat (first | (with_reducible exact same_mask _ _ _) | with_reducible apply same_updN | ((with_reducible refine same_updO ?_ ?_); rotate_left; exact rfl) | ((with_reducible refine same_upd ?_ ?_); rotate_left; exact rfl) | ((with_reducible refine same_maskIn ?_ ?_); rotate_left; exact rfl)))); (case h1 => (first | exact norm_eq rfl | ((conv => lhs; whnf) <;> exact rfl))); (case h2 => (first | exact norm_eq rfl | ((conv => lhs; whnf) <;> exact rfl)))
      · exact ⟨k + 1, _, _, rfl, by omega, by omega, l11, q11, hc9, hn9⟩
      · simp [RowKit.intOf]; omega
    · have hwo : without cur j = (cur.filter fun x => !decide (x = id)) := (filter_without hn hx).symm
      have hlt : (cur.filter fun x => !decide (x = id)).length < cur.length := by rw [filter_without hn hx, without, if_neg (by omega)]; simp; omega
      (((apply vL_val); (case h => ((apply opv_E); exact rfl))); apply vL_nil; apply seqP_normal; (iterate 2 (apply vC_seq)); apply vC_region; ((apply vL_val); (case h => ((apply opv_E); exact rfl))); ((apply vL_val); (case h => ((apply opv_fieldAddr); exact rfl))); ((apply vL_val); (case h => ((apply opv_loadb1); exact rfl; exact rfl; (first | assumption | infer_instance); exact rfl))))
      refine vL_callF rfl (s_gone sb b lv1 cur id _ q1.sc hc) rfl ?_
      rintro _ w6 ⟨rfl, lv2, h⟩
      have l2 := l1.step q1.sc.hb h.fr h.fl
      have q2 := q1.to h
      clear h
      ((iterate 2 (((apply vL_val); (case h => ((apply opv_E); exact rfl))))); ((apply vL_val); (case h => ((apply opv_neq_bool); exact rfl; exact rfl))); apply vL_nil; apply seqP_normal)
      refine vC_cond_neg rfl (by simp [hlt]) ?_
      (apply vC_skip; apply seqP_normal; apply vC_region; ((apply vL_val); (case h => ((apply opv_move); ((conv => lhs; whnf) <;> exact rfl)))); ((apply vL_val); (case h => ((apply opv_E); exact rfl))))
      refine vL_callF rfl (without13 v4 j cur _ l2.ho.rd (by omega)) rfl ?_
      rintro v5 w7 ⟨hf7, ho7, hfr7, hone7⟩
      rw [hwo] at ho7
      have hsub : (cur.filter fun x => !decide (x = id)).Sublist cur := List.filter_sublist
      have q9 := q2.frN hf7
      have l9 : L_int w w7 lv2 v5 (cur.filter fun x => !decide (x = id)) := ⟨ho7, fun j hj => by have := hfr7 j hj; have := q2.fr.size; omega, hone7, fun j hj h6 => by have := q2.sc.ho.lt j hj; have := hfr7 j h6; omega⟩
      have hc9 : (cur.filter fun x => !decide (x = id)).length ≤ 256 := Nat.le_trans hsub.length_le hc
      have hn9 := hsub.nodup hn
      have hlv9 := l9.ho
      (((apply vL_val); (case h => ((apply opv_assign); ((conv => lhs; whnf) <;> exact rfl)))); apply vL_nil; apply blockP_normal; apply seqP_normal; apply vC_seq; apply vC_region; ((apply vL_val); (case h => ((apply opv_E); exact rfl))))
      refine vL_callF rfl (s_len sb b _ _ _ q9.sc) rfl ?_
      rintro _ _ ⟨rfl, rfl⟩
      (((apply vL_val); (case h => ((apply opv_move); ((conv => lhs; whnf) <;> exact rfl)))); ((apply vL_val); (case h => ((apply opv_len); (first | exact norm_eq rfl | ((conv => lhs; whnf) <;> exact rfl)); (first | assumption | infer_instance)))); (iterate 2 (((apply vL_val); (case h => ((apply opv_E); exact rfl))))))
      refine vL_or rfl rfl (fun d => ?_) (fun d => absurd rfl d)
      (((apply vL_val); (case h => ((apply opv_E); exact rfl))); ((apply vL_wanted); exact rfl))
      refine vL_callF rfl (s_list sb b _ _ _ q9.sc hc9) rfl ?_
      rintro ul w10 ⟨hf10, ho10, hfr10, hone10⟩
      have l10 := l9.same hf10
      have q10 := q9.frN hf10
      (((apply vL_wanted); exact rfl); ((apply vL_val); (case h => ((apply opv_move); ((conv => lhs; whnf) <;> exact rfl)))); ((apply vL_wanted); exact rfl))
      refine vL_callF rfl (kit_same_int ul _ _ _ _ ho10.rd l10.ho.rd) rfl ?_
      rintro _ _ ⟨⟨dn, rfl⟩, hu⟩
      have hu := hu.trans (congrArg Value.bool (decide_eq_true rfl))
      subst hu
      have q11 := q10.frN ((Fr.refl No w10).drewN dn)
      have l11 := l10.same ((Fr.refl No w10).drewN dn)
      (((apply vL_wanted); exact rfl); ((apply vL_val); (case h => ((apply opv_not); exact rfl))); ((apply vL_val); (case h => ((apply opv_E); exact rfl))); apply vL_nil; apply seqP_normal; ((apply vC_cond_false); exact rfl); apply vC_skip; apply blockP_normal; apply seqP_normal; apply vC_region; ((apply vL_val); (case h => ((apply opv_E); exact rfl))); ((apply vL_val); (case h => ((apply opv_add); exact rfl; exact rfl; (first | omega | (simp only [List.length_map]; omega))))); ((apply vL_val); (case h => ((apply opv_E); exact rfl))); apply vL_nil; apply loopP_normal)
      (with_reducible apply end2); (case hs => (repeat (first | (with_reducible exact same_mask _ _ _) | with_reducible apply same_updN | ((with_reducible refine same_updO ?_ ?_); rotate_left; exact rfl) | ((with_reducible refine same_upd ?_ ?_); rotate_left; exact rfl) | ((with_reducible refine same_maskIn ?_ ?_); rotate_left; exact rfl)))); (case h1 => (first | exact norm_eq rfl | ((conv => lhs; whnf) <;> exact rfl))); (case h2 => (first | exact norm_eq rfl | ((conv => lhs; whnf) <;> exact rfl)))
      · exact ⟨k + 1, _, _, rfl, by omega, by omega, l11, q11, hc9, hn9⟩
      · simp [RowKit.intOf]; omega
  · (((apply vC_cond_false); exact rfl); apply vC_region; (iterate 2 (((apply vL_val); (case h => ((apply opv_E); exact rfl))))); apply vL_nil; apply seqP_normal; ((apply vC_cond_false); exact rfl); apply vC_seq; apply vC_region; (iterate 2 (((apply vL_val); (case h => ((apply opv_E); exact rfl))))); apply vL_nil; apply seqP_normal; ((apply vC_cond_false); exact rfl); apply vC_seq; apply vC_region; (iterate 2 (((apply vL_val); (case h => ((apply opv_E); exact rfl))))); apply vL_nil; apply seqP_normal; ((apply vC_cond_false); exact rfl); apply vC_seq; apply vC_region; (iterate 2 (((apply vL_val); (case h => ((apply opv_E); exact rfl))))); apply vL_nil; apply seqP_normal; ((apply vC_cond_true); exact rfl); apply vC_seq; apply vC_region; ((apply vL_val); (case h => ((apply opv_E); exact rfl))))
    refine vL_callF rfl (s_list sb b lv1 cur _ q1.sc hc) rfl ?_
    rintro m w6 ⟨hf6, ho6, hfr6, hone6⟩
    have hm0 : ∃ a n c, m = .slice a n c := ho6.isSlice
    (((apply vL_val); (case h => ((apply opv_assign); ((conv => lhs; whnf) <;> exact rfl)))); apply vL_nil; apply seqP_normal; apply vC_seq; apply vC_region; ((apply vL_val); (case h => ((apply opv_E); exact rfl))); apply vL_nil; apply seqP_normal; apply vC_block)
    (apply vC_loop1 21226109557690375345432668993852014592 18 (fun u w' => ∃ (j : Nat) (ys : List Int), u = .int .i64 (j : Int) ∧ j ≤ cur.length ∧ ys.length = cur.length ∧ Own w'.heap 3 1 iE m ys ∧ Fr (fun i => own m = some i) w6 w') (fun u _ => cur.length - (RowKit.intOf u).toNat)); (case h1 => (first | exact norm_eq rfl | ((conv => lhs; whnf) <;> exact rfl)))
    case h0 => exact ⟨0, cur, rfl, by omega, rfl, ho6, Fr.refl _ _⟩
    case round =>
    rintro junk _ w7 ⟨j, ys, rfl, hj, hys, ho7, hf7⟩
    ((iterate 2 (apply vC_seq)); apply vC_region; ((apply vL_val); (case h => ((apply opv_E); exact rfl))); ((apply vL_val); (case h => ((apply opv_move); ((conv => lhs; whnf) <;> exact rfl)))); ((apply vL_val); (case h => ((apply opv_len); (first | exact norm_eq rfl | ((conv => lhs; whnf) <;> exact rfl)); (first | assumption | infer_instance)))); ((apply vL_val); (case h => ((apply opv_E); exact rfl))); apply vL_nil; apply seqP_normal)
    refine vC_cond_dec rfl (fun c5 => ?_) (fun c5 => ?_)
    · (apply vC_skip; apply seqP_normal; apply vC_seq; apply vC_block; apply vC_region; ((apply vL_val); (case h => ((apply opv_move); ((conv => lhs; whnf) <;> exact rfl)))); ((apply vL_val); (case h => ((apply opv_E); exact rfl))); ((apply vL_val); (case h => ((apply opv_indexAddr); (first | exact norm_eq rfl | ((conv => lhs; whnf) <;> exact rfl)); exact rfl; (first | assumption | infer_instance); (first | omega | (simp only [List.length_map]; omega)); (first | omega | (simp only [List.length_map]; omega))))))
      refine vL_storeEl (77 : Int) (by (first | exact norm_eq rfl | ((conv => lhs; whnf) <;> exact rfl))) rfl rfl ho7 (by omega) ?_
      intro w8 ho8 hf8
      (apply vL_nil; apply blockP_normal; apply seqP_normal; apply vC_region; ((apply vL_val); (case h => ((apply opv_E); exact rfl))); ((apply vL_val); (case h => ((apply opv_add); exact rfl; exact rfl; (first | omega | (simp only [List.length_map]; omega))))); ((apply vL_val); (case h => ((apply opv_E); exact rfl))); apply vL_nil; apply loopP_normal)
      (with_reducible apply end1); (case hs => (repeat (first | (with_reducible exact same_mask _ _ _) | with_reducible apply same_updN | ((with_reducible refine same_updO ?_ ?_); rotate_left; exact rfl) | ((with_reducible refine same_upd ?_ ?_); rotate_left; exact rfl) | ((with_reducible refine same_maskIn ?_ ?_); rotate_left; exact rfl)))); (case h1 => (first | exact norm_eq rfl | ((conv => lhs; whnf) <;> exact rfl)))
      · exact ⟨j + 1, _, rfl, by omega, by simp [hys], ho8, hf7.trans hf8⟩
      · simp [RowKit.intOf]; omega
    have hf57 : Fr No w5 w7 := hf6.trans' hf7 (fun i hi => .inr (hfr6 i hi))
    have q9 := q1.frN hf57
    have l9 := l1.same hf57
    have hc9 := hc
    have hn9 := hn
    have hlv9 := l9.ho
    (apply vC_exit; apply seqP_exit; apply loopP_exit; apply blockP_exit; apply blockP_normal; apply seqP_normal; apply vC_seq; apply vC_region; ((apply vL_val); (case h => ((apply opv_E); exact rfl))))
    refine vL_callF rfl (s_len sb b _ _ _ q9.sc) rfl ?_
    rintro _ _ ⟨rfl, rfl⟩
    (((apply vL_val); (case h => ((apply opv_move); ((conv => lhs; whnf) <;> exact rfl)))); ((apply vL_val); (case h => ((apply opv_len); (first | exact norm_eq rfl | ((conv => lhs; whnf) <;> exact rfl)); (first | assumption | infer_instance)))); (iterate 2 (((apply vL_val); (case h => ((apply opv_E); exact rfl))))))
    refine vL_or rfl rfl (fun d => ?_) (fun d => absurd rfl d)
    (((apply vL_val); (case h => ((apply opv_E); exact rfl))); ((apply vL_wanted); exact rfl))
    refine vL_callF rfl (s_list sb b _ _ _ q9.sc hc9) rfl ?_
    rintro ul w10 ⟨hf10, ho10, hfr10, hone10⟩
    have l10 := l9.same hf10
    have q10 := q9.frN hf10
    (((apply vL_wanted); exact rfl); ((apply vL_val); (case h => ((apply opv_move); ((conv => lhs; whnf) <;> exact rfl)))); ((apply vL_wanted); exact rfl))
    refine vL_callF rfl (kit_same_int ul _ _ _ _ ho10.rd l10.ho.rd) rfl ?_
    rintro _ _ ⟨⟨dn, rfl⟩, hu⟩
    have hu := hu.trans (congrArg Value.bool (decide_eq_true rfl))
    subst hu
    have q11 := q10.frN ((Fr.refl No w10).drewN dn)
    have l11 := l10.same ((Fr.refl No w10).drewN dn)
    (((apply vL_wanted); exact rfl); ((apply vL_val); (case h => ((apply opv_not); exact rfl))); ((apply vL_val); (case h => ((apply opv_E); exact rfl))); apply vL_nil; apply seqP_normal; ((apply vC_cond_false); exact rfl); apply vC_skip; apply blockP_normal; apply seqP_normal; apply vC_region; ((apply vL_val); (case h => ((apply opv_E); exact rfl))); ((apply vL_val); (case h => ((apply opv_add); exact rfl; exact rfl; (first | omega | (simp only [List.length_map]; omega))))); ((apply vL_val); (case h => ((apply opv_E); exact rfl))); apply vL_nil; apply loopP_normal)
    (with_reducible apply end2); (case hs => (repeat (first | (with_reducible exact same_mask _ _ _) | with_reducible apply same_updN | ((with_reducible refine same_updO ?_ ?_); rotate_left; exact rfl) | ((with_reducible refine same_upd ?_ ?_); rotate_left; exact rfl) | ((with_reducible refine same_maskIn ?_ ?_); rotate_left; exact rfl)))); (case h1 => (first | exact norm_eq rfl | ((conv => lhs; whnf) <;> exact rfl))); (case h2 => (first | exact norm_eq rfl | ((conv => lhs; whnf) <;> exact rfl)))
    · exact ⟨k + 1, _, _, rfl, by omega, by omega, l11, q11, hc9, hn9⟩
    · simp [RowKit.intOf]; omega
  · skip
    refine vC_cond_neg rfl (by omega) ?_
    (apply vC_region; (iterate 2 (((apply vL_val); (case h => ((apply opv_E); exact rfl))))); apply vL_nil; apply seqP_normal)
    refine vC_cond_neg rfl (by omega) ?_
    (apply vC_seq; apply vC_region; (iterate 2 (((apply vL_val); (case h => ((apply opv_E); exact rfl))))); apply vL_nil; apply seqP_normal)
    refine vC_cond_neg rfl (by omega) ?_
    (apply vC_seq; apply vC_region; (iterate 2 (((apply vL_val); (case h => ((apply opv_E); exact rfl))))); apply vL_nil; apply seqP_normal)
    refine vC_cond_neg rfl (by omega) ?_
    (apply vC_seq; apply vC_region; (iterate 2 (((apply vL_val); (case h => ((apply opv_E); exact rfl))))); apply vL_nil; apply seqP_normal)
    refine vC_cond_neg rfl (by omega) ?_
    have q9 := q1
    have l9 := l1
    have hc9 := hc
    have hn9 := hn
    have hlv9 := l9.ho
    (apply vC_skip; apply blockP_normal; apply seqP_normal; apply vC_seq; apply vC_region; ((apply vL_val); (case h => ((apply opv_E); exact rfl))))
    refine vL_callF rfl (s_len sb b _ _ _ q9.sc) rfl ?_
    rintro _ _ ⟨rfl, rfl⟩
    (((apply vL_val); (case h => ((apply opv_move); ((conv => lhs; whnf) <;> exact rfl)))); ((apply vL_val); (case h => ((apply opv_len); (first | exact norm_eq rfl | ((conv => lhs; whnf) <;> exact rfl)); (first | assumption | infer_instance)))); (iterate 2 (((apply vL_val); (case h => ((apply opv_E); exact rfl))))))
    refine vL_or rfl rfl (fun d => ?_) (fun d => absurd rfl d)
    (((apply vL_val); (case h => ((apply opv_E); exact rfl))); ((apply vL_wanted); exact rfl))
    refine vL_callF rfl (s_list sb b _ _ _ q9.sc hc9) rfl ?_
    rintro ul w10 ⟨hf10, ho10, hfr10, hone10⟩
    have l10 := l9.same hf10
    have q10 := q9.frN hf10
    (((apply vL_wanted); exact rfl); ((apply vL_val); (case h => ((apply opv_move); ((conv => lhs; whnf) <;> exact rfl)))); ((apply vL_wanted); exact rfl))
    refine vL_callF rfl (kit_same_int ul _ _ _ _ ho10.rd l10.ho.rd) rfl ?_
    rintro _ _ ⟨⟨dn, rfl⟩, hu⟩
    have hu := hu.trans (congrArg Value.bool (decide_eq_true rfl))
    subst hu
    have q11 := q10.frN ((Fr.refl No w10).drewN dn)
    have l11 := l10.same ((Fr.refl No w10).drewN dn)
    (((apply vL_wanted); exact rfl); ((apply vL_val); (case h => ((apply opv_not); exact rfl))); ((apply vL_val); (case h => ((apply opv_E); exact rfl))); apply vL_nil; apply seqP_normal; ((apply vC_cond_false); exact rfl); apply vC_skip; apply blockP_normal; apply seqP_normal; apply vC_region; ((apply vL_val); (case h => ((apply opv_E); exact rfl))); ((apply vL_val); (case h => ((apply opv_add); exact rfl; exact rfl; (first | omega | (simp only [List.length_map]; omega))))); ((apply vL_val); (case h => ((apply opv_E); exact rfl))); apply vL_nil; apply loopP_normal)
    (with_reducible apply end2); (case hs => (repeat (first | (with_reducible exact same_mask _ _ _) | with_reducible apply same_updN | ((with_reducible refine same_updO ?_ ?_); rotate_left; exact rfl) | ((with_reducible refine same_upd ?_ ?_); rotate_left; exact rfl) | ((with_reducible refine same_maskIn ?_ ?_); rotate_left; exact rfl)))); (case h1 => (first | exact norm_eq rfl | ((conv => lhs; whnf) <;> exact rfl))); (case h2 => (first | exact norm_eq rfl | ((conv => lhs; whnf) <;> exact rfl)))
    · exact ⟨k + 1, _, _, rfl, by omega, by omega, l11, q11, hc9, hn9⟩
    · simp [RowKit.intOf]; omega
end Go.Proofs.Ytaeckjhipmcddaa
