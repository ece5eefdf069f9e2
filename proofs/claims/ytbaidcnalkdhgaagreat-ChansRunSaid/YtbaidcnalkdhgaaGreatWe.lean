/- Layer 16: queues of numbers; the scheduler. Layer 15: a runtime's state; its calls. Layer 15: tasks are made; a step. -/
import Derived.Test.YtbaidcnalkdhgaaGreatWb
import Derived.Test.YtbaidcnalkdhgaaGreatEv
import Derived.Test.YtbaidcnalkdhgaaGreatEq
set_option maxRecDepth 100000
namespace Go.Proofs.YtbaidcnalkdhgaaGreat
open Go Go.Eng
theorem index_int (v : Value) (xs : List Int) (y : Int) (w : World) (hr : Rd w.heap 1 iE v xs) :
    Rets Tryz.prog 209 #[v, .int .i64 y] w fun u w' => w = w' ∧ ((u = .int .i64 (-1) ∧ y ∉ xs) ∨ ∃ k : Nat, u = .int .i64 k ∧ k < xs.length ∧ xs[k]? = some y) := by
  have hs := hr.small
  refine rets_of Tryz.func209 rfl Tryz.ntmps209 rfl rfl (by kernel_rfl) ?_
  (apply vC_seq; apply vC_region; (refine vE rfl ?_); apply vL_nil; apply seqP_normal; (iterate 2 (apply vC_seq)); apply vC_region; ((apply vL_val); (case h => ((apply opv_move); ((conv => lhs; whnf) <;> exact rfl)))); ((apply vL_val); (case h => ((apply opv_len); ((conv => lhs; whnf) <;> exact rfl); assumption))); (refine vE rfl ?_); apply vL_nil; apply seqP_normal; apply vC_block)
  (apply vC_loop1 524080 8 (fun u w' => ∃ k : Nat, u = .int .i64 k ∧ k ≤ xs.length ∧ w = w' ∧ ∀ j : Nat, j < k → ∀ x, xs[j]? = some x → x ≠ y) (fun u _ => xs.length - (RowKit.intOf u).toNat)); (case h1 => (exact norm_eq rfl))
  case h0 => exact ⟨0, rfl, by omega, rfl, by omega⟩
  case round =>
  rintro junk _ _ ⟨k, rfl, hk, rfl, hp⟩
  (apply vC_seq; apply vC_region; (refine vE rfl ?_); apply vL_nil; apply seqP_normal; apply vC_seq)
  refine vC_cond_dec rfl (fun h => ?_) (fun h => ?_)
  · have hk' : k < xs.length := by omega
    obtain ⟨x, hx⟩ : ∃ x, xs[k]? = some x := ⟨xs[k], by simp [hk']⟩
    (apply vC_skip; apply seqP_normal; apply vC_seq; apply vC_block; apply vC_seq; apply vC_region; (iterate 2 ((refine vE rfl ?_))); apply vL_nil; apply seqP_normal; apply vC_seq; apply vC_region; (refine vE rfl ?_); ((apply vL_val); (case h => ((apply opv_move); ((conv => lhs; whnf) <;> exact rfl)))); (refine vE rfl ?_); ((apply vL_val); (case h => ((apply opv_indexAddr); ((conv => lhs; whnf) <;> exact rfl); exact rfl; assumption; (first | omega | (simp only [List.length_map]; omega)); (first | omega | (simp only [List.length_map]; omega))))); ((apply vL_val); (case h => ((apply opv_ld_el); exact rfl; exact rfl; assumption; assumption; exact rfl))); (refine vE rfl ?_); apply vL_nil; apply seqP_normal)
    refine vC_cond_dec rfl (fun hpx => ?_) (fun hpx => ?_)
    · (apply vC_seq; apply vC_region; (iterate 2 ((refine vE rfl ?_))); apply vL_nil; apply seqP_normal; apply vC_ret; apply blockP_ret; apply seqP_ret; apply loopP_ret; apply blockP_ret; apply seqP_ret)
      (apply ret1; (case h1 => (exact norm_eq rfl)))
      exact ⟨rfl, .inr ⟨k, rfl, hk', by rw [hx, hpx]⟩⟩
    · (apply vC_skip; apply blockP_normal; apply seqP_normal; apply vC_region; ((apply vL_val); (case h => ((apply opv_add); exact rfl; exact rfl; (first | omega | (simp only [List.length_map]; omega))))); (refine vE rfl ?_); apply vL_nil; apply loopP_normal)
      (with_reducible apply end1); (case hs => ((iterate 11 (((refine same_updO ?_ ?_); rotate_left; exact rfl))); ((refine same_upd ?_ ?_); rotate_left; exact rfl); (exact same_mask _ _ _))); (case h1 => (exact norm_eq rfl))
      · exact ⟨k + 1, rfl, by omega, rfl, fun j hj z hz => by
          by_cases e : j = k
          · subst e; rw [hx] at hz; cases hz; exact fun h => hpx h.symm
          · exact hp j (by omega) z hz⟩
      · simp [RowKit.intOf]; omega
  · (apply vC_exit; apply seqP_exit; apply loopP_exit; apply blockP_exit; apply seqP_normal; apply vC_seq; apply vC_region; (refine vE rfl ?_); apply vL_nil; apply seqP_normal; apply vC_ret)
    (apply ret1; (case h1 => (exact norm_eq rfl)))
    refine ⟨rfl, .inl ⟨rfl, fun hy => ?_⟩⟩
    obtain ⟨j, hj, e⟩ := List.getElem_of_mem hy
    exact hp j (by omega) y (by rw [← e]; exact List.getElem?_eq_getElem hj) rfl
theorem contains_int (v : Value) (xs : List Int) (y : Int) (w : World) (hr : Rd w.heap 1 iE v xs) :
    Rets Tryz.prog 157 #[v, .int .i64 y] w fun u w' => w = w' ∧ u = .bool (decide (y ∈ xs)) := by
  refine rets_of Tryz.func157 rfl Tryz.ntmps157 rfl rfl (by kernel_rfl) ?_
  (apply vC_seq; apply vC_region; (refine vE rfl ?_); apply vL_nil; apply seqP_normal; apply vC_seq; apply vC_region; ((apply vL_val); (case h => ((apply opv_move); ((conv => lhs; whnf) <;> exact rfl)))); (refine vE rfl ?_))
  refine vL_callF rfl (index_int v xs y w hr) rfl ?_
  rintro _ _ ⟨rfl, ⟨rfl, h⟩ | ⟨k, rfl, hk, h⟩⟩
  · ((iterate 2 ((refine vE rfl ?_))); apply vL_nil; apply seqP_normal; apply vC_ret)
    (apply ret1; (case h1 => (exact norm_eq rfl)))
    exact ⟨rfl, by rw [decide_eq_false h]; rfl⟩
  · ((iterate 2 ((refine vE rfl ?_))); apply vL_nil; apply seqP_normal; apply vC_ret)
    (apply ret1; (case h1 => (exact norm_eq rfl)))
    exact ⟨rfl, by rw [decide_eq_true (List.mem_of_getElem? h), decide_eq_true (by omega)]⟩
theorem q_right_int (b : Nat) (m : Bool) (lv : Value) (w : World) (hb : Blk w.heap b [.bool m, lv] 223) :
    Rets Tryz.prog 164 #[.pointer (some ⟨b, 0, none⟩)] w fun u w' => w = w' ∧ u = .bool m := by
  refine rets_of Tryz.func164 rfl Tryz.ntmps164 rfl rfl (by kernel_rfl) ?_
  (apply vC_seq; apply vC_region; (refine vE rfl ?_); apply vL_nil; apply seqP_normal; apply vC_seq; apply vC_region; (iterate 13 (first | (refine vE rfl ?_) | ((with_reducible apply vL_val); (case h => ((with_reducible apply opv_loadb1); exact rfl; exact rfl; assumption; exact rfl))) | (refine vL_val (opv_fieldAddr rfl) ?_) | ((with_reducible apply vL_val); (case h => ((with_reducible apply opv_neq_pnil); exact rfl; exact rfl; (simp; done)))) | ((with_reducible apply vL_wanted); exact rfl))); apply vL_nil; apply seqP_normal; apply vC_ret)
  (apply ret1; (case h1 => (exact norm_eq rfl)))
  exact ⟨rfl, rfl⟩
theorem clone_int (v : Value) (xs : List Int) (w : World) (hr : Rd w.heap 1 iE v xs) (hbig : xs.length * 8 ≤ 140737488355328) :
    Rets Tryz.prog 150 #[v] w fun u w' => Fr No w w' ∧ Own w'.heap 3 1 iE u xs ∧ (∀ b, own u = some b → w.heap.size ≤ b) ∧ u.oneCell' = true := by
  have hs := hr.small
  refine rets_of Tryz.func150 rfl Tryz.ntmps150 rfl rfl (by kernel_rfl) ?_
  rcases hr.shape with ⟨rfl, none | a, rfl⟩ | ⟨b, o, c, rfl, hc⟩
  · ((iterate 18 (first | with_reducible apply vC_seq | with_reducible apply vC_region | with_reducible apply seqP_normal | ((with_reducible apply vC_cond_true); exact rfl) | (refine vE rfl ?_) | (refine vL_val (opv_eql_snil rfl rfl) ?_) | with_reducible apply vL_nil)); apply vC_ret; apply seqP_ret)
    (apply ret1; (case h1 => (exact norm_eq rfl)))
    exact ⟨Fr.refl _ _, Own.nil _ _ _ _, fun b hb => (by cases hb), rfl⟩
  · (apply vC_seq; apply vC_region; (refine vE rfl ?_); apply vL_nil; apply seqP_normal; (iterate 2 (apply vC_seq)); apply vC_region; (refine vE rfl ?_); (refine vL_val (opv_eql_snil rfl rfl) ?_); apply vL_nil; apply seqP_normal; ((apply vC_cond_false); exact rfl); apply vC_skip; apply seqP_normal; apply vC_seq; apply vC_region; ((apply vL_val); (case h => ((apply opw_buildSl); exact rfl; exact rfl; exact rfl; exact (rfl : _ = some [])))); (refine vE rfl ?_))
    refine vL_append (enc := iE) (xs := []) (ys := []) (T := 3) (sz := 1) (by (exact norm_eq rfl)) (by (exact norm_eq rfl)) (Own.newN iE [] rfl rfl (by decide)) inferInstance rfl (by decide) ?_ ?_ ?_
    · simp [maxLen]
    · simp
    intro v' w2 ho hf hfresh hone _
    (((apply vL_val); (case h => ((apply opv_assign); ((conv => lhs; whnf) <;> exact rfl)))); apply vL_nil; apply seqP_normal; apply vC_ret)
    (apply ret1; (case h1 => (((conv => lhs; whnf) <;> exact rfl))))
    refine ⟨((Fr.refl No w).alloc _).trans' hf (fun k hk => .inr (by cases hk; exact Nat.le_refl _)), ho, fun b hb => ?_, hone⟩
    rcases hfresh b hb with h | h
    · cases h; exact Nat.le_refl _
    · rw [alloc_size] at h; omega
  · (apply vC_seq; apply vC_region; (refine vE rfl ?_); apply vL_nil; apply seqP_normal; (iterate 2 (apply vC_seq)); apply vC_region; (refine vE rfl ?_); (refine vL_val (opv_eql_snil rfl rfl) ?_); apply vL_nil; apply seqP_normal; ((apply vC_cond_false); exact rfl); apply vC_skip; apply seqP_normal; apply vC_seq; apply vC_region; ((apply vL_val); (case h => ((apply opw_buildSl); exact rfl; exact rfl; exact rfl; exact (rfl : _ = some [])))); (refine vE rfl ?_))
    refine vL_append (enc := iE) (xs := []) (ys := xs) (T := 3) (sz := 1) (by (exact norm_eq rfl)) (by (exact norm_eq rfl)) (Own.newN iE [] rfl rfl (by decide)) inferInstance rfl (by decide) ?_ ?_ ?_
    · simp [maxLen]; omega
    · simpa using hbig
    intro v' w2 ho hf hfresh hone _
    (((apply vL_val); (case h => ((apply opv_assign); ((conv => lhs; whnf) <;> exact rfl)))); apply vL_nil; apply seqP_normal; apply vC_ret)
    (apply ret1; (case h1 => (((conv => lhs; whnf) <;> exact rfl))))
    refine ⟨((Fr.refl No w).alloc _).trans' hf (fun k hk => .inr (by cases hk; exact Nat.le_refl _)), ho, fun b hb => ?_, hone⟩
    rcases hfresh b hb with h | h
    · cases h; exact Nat.le_refl _
    · rw [alloc_size] at h; omega
theorem delete_int (v : Value) (xs : List Int) (i : Nat) (w : World) (hi : i < xs.length) (ho : Own w.heap 3 1 iE v xs) :
    Rets Tryz.prog 211 #[v, .int .i64 i, .int .i64 ((i : Int) + 1)] w fun u w' => Fr (fun k => own v = some k) w w' ∧ Own w'.heap 3 1 iE u (xs.take i ++ xs.drop (i + 1)) ∧ own u = own v ∧ u.oneCell' = true := by
  have hs := ho.rd.small
  rcases ho.shape with ⟨_, rfl⟩ | ⟨g, cap, cs, rfl, hb, hn, hm, hl, ht⟩
  · simp at hi
  have hl1 : (xs.take i).length = i := by simp; omega
  have hl2 : (xs.drop (i + 1)).length = xs.length - (i + 1) := by simp
  have hm' : cap ≤ 9223372036854775807 := by unfold maxLen at hm; omega
  have hf1 : ((xs.take i ++ xs.drop (i + 1)).flatMap iE).length = i + (xs.length - (i + 1)) := by rw [flatMap_len _ (fun x _ => EncOk.len x)]; simp; omega
  have hf2 : ((xs.drop (i + 1)).flatMap iE).length = xs.length - (i + 1) := by rw [flatMap_len _ (fun x _ => EncOk.len x)]; simp
  have htk : cs.take i = (xs.take i).flatMap iE := by rw [flatMap_take xs i ho.size, ← ht, List.take_take]; congr 1; omega
  refine rets_of Tryz.func211 rfl Tryz.ntmps211 rfl rfl (by kernel_rfl) ?_
  ((iterate 23 (first | with_reducible apply vC_seq | with_reducible apply vC_region | with_reducible apply seqP_normal | (refine vE rfl ?_) | (refine vL_val (opv_lenc rfl) ?_) | ((with_reducible apply vL_val); (case h => ((with_reducible apply opv_slice3); exact rfl; exact rfl; exact rfl; exact rfl; (first | omega | (simp only [List.length_map]; omega)); (first | omega | (simp only [List.length_map]; omega)); (first | omega | (simp only [List.length_map]; omega)); (first | omega | (simp only [List.length_map]; omega))))) | with_reducible apply vL_nil)))
  refine vC_cond_dec rfl (fun h => by omega) (fun h => ?_)
  (apply vC_skip; apply seqP_normal; apply vC_seq; apply vC_region; (refine vE rfl ?_); (refine vL_val (opv_lenc rfl) ?_); (refine vE rfl ?_); apply vL_nil; apply seqP_normal; apply vC_seq)
  refine vC_draw' (fun _ => True) trivial ?_
  (refine tkE 0 rfl (by kernel_rfl) (by trivial) rfl ?_)
  (refine tkE 1 rfl (by kernel_rfl) (by trivial) rfl ?_)
  (refine tk 2 rfl (by kernel_rfl) (by trivial) (by intro _ _; (((apply opv_slice_hi'); exact rfl; exact rfl; (first | omega | (simp only [List.length_map]; omega)); (first | omega | (simp only [List.length_map]; omega))))) ?_)
  (refine tkE 3 rfl (by kernel_rfl) (by trivial) rfl ?_)
  (refine tkE 4 rfl (by kernel_rfl) (by trivial) rfl ?_)
  (refine tk 5 rfl (by kernel_rfl) (by trivial) (by intro _ _; (((apply opv_slice_lo'); exact rfl; exact rfl; (first | omega | (simp only [List.length_map]; omega)); (first | omega | (simp only [List.length_map]; omega))))) ?_)
  have et : ((i : Int) + 1).toNat = i + 1 := by omega
  refine tkv 6 rfl (by kernel_rfl) trivial (opw_append_room (enc := iE) (xs := xs.take i) (ys := xs.drop ((i : Int) + 1).toNat) (cs := cs) (by (exact norm_eq rfl)) (by (exact norm_eq rfl)) (by rw [hl1]; omega) (by rw [et, hl2]) hb hl (Rd.dropIf ho.rd (by omega)) (by rw [hl1, et, hl2]; omega)) ?_
  rw [et, hl1, hl2]
  (refine tkE 7 rfl (by kernel_rfl) (by trivial) rfl ?_)
  refine vA_done (by kernel_rfl) trivial ?_
  have hb2 := Blk.set (w := w.drew) (b := g) (c := cs) (T := 3) (c' := cs.take (i * 1) ++ (xs.drop (i + 1)).flatMap iE ++ cs.drop (i * 1 + (xs.length - (i + 1)) * 1)) hb
  (apply seqP_normal; apply vC_seq; apply vC_region; (iterate 2 ((refine vE rfl ?_))); (refine vL_val (opv_lenc rfl) ?_); (refine vE rfl ?_); ((apply vL_val); (case h => ((apply opv_slice_lh'); exact rfl; exact rfl; exact rfl; (first | omega | (simp only [List.length_map]; omega)); (first | omega | (simp only [List.length_map]; omega)); (first | omega | (simp only [List.length_map]; omega))))))
  apply vL_val
  (case h => (refine opw_clear (by (exact norm_eq rfl)) rfl hb2 ?_; rw [if_neg (by omega)]; simp only [List.length_append, List.length_take, List.length_drop, hf2]; omega))
  (apply vL_nil; apply seqP_normal; apply vC_seq; apply vC_region; (iterate 2 ((refine vE rfl ?_))); apply vL_nil; apply seqP_normal; apply vC_ret)
  (apply ret1; (case h1 => (exact norm_eq rfl)))
  refine ⟨?_, ?_, rfl, rfl⟩
  · exact Fr.set (Fr.set (Fr.drew (Fr.refl (fun k => own (Value.slice (some ⟨g, 0, none⟩) xs.length cap) = some k) w)) g _ (.inl rfl)) g _ (.inl rfl)
  · refine ⟨fun x _ => EncOk.len x, .inr ⟨g, cap, _, ?_, Blk.set hb2, ?_, hm, ?_, ?_⟩⟩
    · rw [List.length_append, hl1, hl2]
    · rw [List.length_append, hl1, hl2]; omega
    · rw [if_neg (by omega)]; simp only [List.length_append, List.length_take, List.length_drop, List.length_replicate, hf2]; omega
    · rw [if_neg (by omega)]
      have hpre : (cs.take (i * 1) ++ (xs.drop (i + 1)).flatMap iE) = (xs.take i ++ xs.drop (i + 1)).flatMap iE := by rw [List.flatMap_append, Nat.mul_one, htk]
      rw [hpre]
      have hlen : (xs.take i ++ xs.drop (i + 1)).length * 1 = i + (xs.length - (i + 1)) := by rw [List.length_append, hl1, hl2]; omega
      rw [hlen, List.append_assoc (List.take _ _)]
      rw [show 0 + ((i + (xs.length - (i + 1)) : Nat) : Int).toNat * 1 = i + (xs.length - (i + 1)) by omega]
      rw [List.take_append_of_le_length (l₁ := List.take _ _) (by simp only [List.length_append, List.length_take, hf1]; omega), List.take_take, Nat.min_self, List.take_left' hf1]
theorem q_of_int (v : Value) (xs : List Int) (w : World) (hr : Rd w.heap 1 iE v xs) (hbig : xs.length * 8 ≤ 140737488355328) :
    Rets Tryz.prog 84 #[v] w fun u w' => Fr No w w' ∧ ∃ b lv, u = .pointer (some ⟨b, 0, none⟩) ∧ w.heap.size ≤ b ∧ Blk w'.heap b [.bool true, lv] 223 ∧ Own w'.heap 3 1 iE lv xs ∧ (∀ k, own lv = some k → w.heap.size ≤ k) ∧ lv.oneCell' = true := by
  refine rets_of Tryz.func84 rfl Tryz.ntmps84 rfl rfl (by kernel_rfl) ?_
  (apply vC_seq; apply vC_region; (refine vE rfl ?_); apply vL_nil; apply seqP_normal; apply vC_seq; apply vC_region; ((apply vL_val); (case h => ((apply opv_move); ((conv => lhs; whnf) <;> exact rfl)))))
  refine vL_callF rfl (clone_int v xs w hr hbig) rfl ?_
  rintro lv w1 ⟨hf1, ho1, hfresh1, hone⟩
  obtain ⟨la, ln, lc, rfl⟩ := ho1.isSlice
  (((apply vL_val); (case h => ((apply opv_buildS); exact rfl; exact (rfl : _ = some [_, _])))); (refine vL_val (opw_boxn rfl) ?_); (refine vE rfl ?_); apply vL_nil; apply seqP_normal; apply vC_ret)
  (apply ret1; (case h1 => (exact norm_eq rfl)))
  exact ⟨hf1.alloc _, _, _, rfl, hf1.size, inferInstance, inferInstance, hfresh1, hone⟩

theorem q_push_int (b : Nat) (lv : Value) (x : Int) (xs : List Int) (w : World) (hb : Blk w.heap b [.bool true, lv] 223) (ho : Own w.heap 3 1 iE lv xs) (hbig : (xs.length + 1) * 8 ≤ 140737488355328) :
    Rets Tryz.prog 112 #[.pointer (some ⟨b, 0, none⟩), .int .i64 x] w fun u w' => ∃ lv', Fr (fun k => k = b ∨ own lv = some k) w w' ∧ Blk w'.heap b [.bool true, lv'] 223 ∧ Own w'.heap 3 1 iE lv' (xs ++ [x]) ∧ (∀ k, own lv' = some k → own lv = some k ∨ w.heap.size ≤ k) ∧ lv'.oneCell' = true := by
  refine rets_of Tryz.func112 rfl Tryz.ntmps112 rfl rfl (by kernel_rfl) ?_
  (apply vC_seq; apply vC_region; (refine vE rfl ?_))
  refine vL_callF rfl (q_right_int b true lv w hb) rfl ?_
  rintro _ _ ⟨rfl, rfl⟩
  (apply vL_nil; apply seqP_normal; ((apply vC_cond_true); exact rfl); apply vC_region; (iterate 3 ((refine vE rfl ?_))); (refine vL_val (opv_fieldAddr rfl) ?_); ((apply vL_val); (case h => ((apply opv_loadb1); exact rfl; exact rfl; assumption; exact rfl))); (refine vE rfl ?_); ((apply vL_val); (case h => ((apply opw_buildSl); exact rfl; exact rfl; exact rfl; exact (rfl : _ = some [_])))))
  refine vL_append (enc := iE) (xs := xs) (ys := [x]) (by (((conv => lhs; whnf) <;> exact rfl))) (by (exact norm_eq rfl)) (Own.alloc ho) (Rd.new1 _ _ rfl) rfl (by decide) ?_ ?_ ?_
  · simp [maxLen]; omega
  · simp; omega
  intro v' w2 ho2 hf2 hfr2 hone2 _
  have hne : own lv ≠ some b := Own.ne_blk ho hb (by decide)
  have hb2 : Blk w2.heap b [.bool true, lv] 223 := Blk.fr hf2 (Blk.alloc hb) hne
  have hne2 : own v' ≠ some b := Own.ne_blk ho2 hb2 (by decide)
  haveI : OffB v' b := ⟨hne2⟩
  ((refine vE rfl ?_); (refine vL_val (opv_fieldAddr rfl) ?_); ((apply vL_skip); (case h => ((apply ops_store1); exact norm_eq rfl; ((conv => lhs; whnf) <;> exact rfl); (first | rfl | assumption); assumption; (first | decide | exact of_decide_eq_true rfl | (simp; done))))); apply vL_nil)
  (first | apply ret0 | apply ret0n)
  refine ⟨v', ?_, inferInstance, inferInstance, fun k hk => ?_, hone2⟩
  · have h1 : Fr (fun k => k = b ∨ own lv = some k) w w2 := ((Fr.refl _ w).alloc _).trans' hf2 (fun i hi => .inl (.inr hi))
    exact h1.set _ _ (.inl (.inl rfl))
  · rcases hfr2 k hk with h | h
    · exact .inl h
    · rw [alloc_size] at h; exact .inr (by omega)

theorem q_list_int (b : Nat) (lv : Value) (xs : List Int) (w : World) (hb : Blk w.heap b [.bool true, lv] 223) (ho : Own w.heap 3 1 iE lv xs) (hbig : xs.length * 8 ≤ 140737488355328) :
    Rets Tryz.prog 195 #[.pointer (some ⟨b, 0, none⟩)] w fun u w' => Fr No w w' ∧ Own w'.heap 3 1 iE u xs ∧ (∀ b, own u = some b → w.heap.size ≤ b) ∧ u.oneCell' = true := by
  refine rets_of Tryz.func195 rfl Tryz.ntmps195 rfl rfl (by kernel_rfl) ?_
  (apply vC_seq; apply vC_region; (refine vE rfl ?_); apply vL_nil; apply seqP_normal; (iterate 2 (apply vC_seq)); apply vC_region; (refine vE rfl ?_))
  refine vL_callF rfl (q_right_int b true lv w hb) rfl ?_
  rintro _ _ ⟨rfl, rfl⟩
  ((refine vL_val (opv_not rfl) ?_); apply vL_nil; apply seqP_normal; ((apply vC_cond_false); exact rfl); apply vC_skip; apply seqP_normal; apply vC_seq; apply vC_region; (iterate 2 ((refine vE rfl ?_))); (refine vL_val (opv_fieldAddr rfl) ?_); ((apply vL_val); (case h => ((apply opv_loadb1); exact rfl; exact rfl; assumption; exact rfl))))
  refine vL_callF rfl (clone_int lv xs w ho.rd hbig) rfl ?_
  rintro u w1 ⟨hf1, ho1, hfresh1, hone⟩
  (((apply vL_val); (case h => ((apply opv_assign); ((conv => lhs; whnf) <;> exact rfl)))); apply vL_nil; apply seqP_normal; apply vC_ret)
  (apply ret1; (case h1 => (((conv => lhs; whnf) <;> exact rfl))))
  exact ⟨hf1, ho1, hfresh1, hone⟩

theorem q_at_int (b : Nat) (lv : Value) (i : Int) (xs : List Int) (w : World) (hb : Blk w.heap b [.bool true, lv] 223) (ho : Own w.heap 3 1 iE lv xs) :
    Rets Tryz.prog 210 #[.pointer (some ⟨b, 0, none⟩), .int .i64 i] w fun u w' => w = w' ∧ ((∃ x, 0 ≤ i ∧ xs[i.toNat]? = some x ∧ u = .tuple #[.int .i64 x, .bool true]) ∨ ((i < 0 ∨ (xs.length : Int) ≤ i) ∧ u = .tuple #[.int .i64 0, .bool false])) := by
  refine rets_of Tryz.func210 rfl Tryz.ntmps210 rfl rfl (by kernel_rfl) ?_
  (apply vC_seq; apply vC_region; (iterate 2 ((refine vE rfl ?_))); apply vL_nil; apply seqP_normal; (iterate 2 (apply vC_seq)); apply vC_region; (refine vE rfl ?_))
  refine vL_callF rfl (q_right_int b true lv w hb) rfl ?_
  rintro _ _ ⟨rfl, rfl⟩
  ((refine vL_val (opv_not rfl) ?_); (iterate 7 (first | (refine vE rfl ?_) | ((with_reducible apply vL_wanted); exact rfl))))
  refine vL_or rfl rfl (fun h1 => ?_) (fun h1 => ?_)
  rotate_left
  · ((iterate 6 (((apply vL_unwanted'); exact rfl; exact rfl))); (iterate 16 (first | with_reducible apply vC_seq | with_reducible apply vC_region | with_reducible apply seqP_normal | ((with_reducible apply vC_cond_true); exact rfl) | (refine vE rfl ?_) | with_reducible apply vL_nil)); apply vC_ret; apply seqP_ret)
    (apply ret2; (case h1 => (exact norm_eq rfl)); (case h2 => (exact norm_eq rfl)))
    exact ⟨rfl, .inr ⟨.inl h1, rfl⟩⟩
  ((iterate 14 (first | (refine vE rfl ?_) | ((with_reducible apply vL_val); (case h => ((with_reducible apply opv_loadb1); exact rfl; exact rfl; assumption; exact rfl))) | (refine vL_val (opv_fieldAddr rfl) ?_) | ((with_reducible apply vL_val); (case h => ((with_reducible apply opv_len); ((conv => lhs; whnf) <;> exact rfl); infer_instance))) | ((with_reducible apply vL_wanted); exact rfl))); apply vL_nil; apply seqP_normal)
  refine vC_cond_dec rfl (fun h2 => ?_) (fun h2 => ?_)
  · (apply vC_seq; apply vC_region; (refine vE rfl ?_); apply vL_nil; apply seqP_normal; apply vC_seq; apply vC_region; (iterate 3 ((refine vE rfl ?_))); apply vL_nil; apply seqP_normal; apply vC_ret; apply seqP_ret)
    (apply ret2; (case h1 => (exact norm_eq rfl)); (case h2 => (exact norm_eq rfl)))
    exact ⟨rfl, .inr ⟨.inr h2, rfl⟩⟩
  obtain ⟨x, hx⟩ : ∃ x, xs[i.toNat]? = some x := ⟨xs[i.toNat]'(by omega), List.getElem?_eq_getElem _⟩
  (apply vC_skip; apply seqP_normal; apply vC_seq; apply vC_region; (iterate 2 ((refine vE rfl ?_))); (refine vL_val (opv_fieldAddr rfl) ?_); ((apply vL_val); (case h => ((apply opv_loadb1); exact rfl; exact rfl; assumption; exact rfl))); (refine vE rfl ?_); ((apply vL_val); (case h => ((apply opv_indexAddr); ((conv => lhs; whnf) <;> exact rfl); exact rfl; infer_instance; (first | omega | (simp only [List.length_map]; omega)); (first | omega | (simp only [List.length_map]; omega))))); ((apply vL_val); (case h => ((apply opv_ld_el); exact rfl; exact rfl; infer_instance; assumption; exact rfl))); (iterate 2 ((refine vE rfl ?_))); apply vL_nil; apply seqP_normal; apply vC_ret)
  (apply ret2; (case h1 => (exact norm_eq rfl)); (case h2 => (exact norm_eq rfl)))
  exact ⟨rfl, .inl ⟨x, by omega, hx, rfl⟩⟩

theorem q_take_int (b : Nat) (lv : Value) (i : Int) (xs : List Int) (w : World) (hb : Blk w.heap b [.bool true, lv] 223) (ho : Own w.heap 3 1 iE lv xs) (hone : lv.oneCell' = true) :
    Rets Tryz.prog 159 #[.pointer (some ⟨b, 0, none⟩), .int .i64 i] w fun u w' => ∃ lv' xs', Fr (fun k => k = b ∨ own lv = some k) w w' ∧ Blk w'.heap b [.bool true, lv'] 223 ∧ Own w'.heap 3 1 iE lv' xs' ∧ own lv' = own lv ∧ lv'.oneCell' = true ∧
      ((∃ x, 0 ≤ i ∧ xs[i.toNat]? = some x ∧ u = .tuple #[.int .i64 x, .bool true] ∧ xs' = xs.take i.toNat ++ xs.drop (i.toNat + 1)) ∨ ((i < 0 ∨ (xs.length : Int) ≤ i) ∧ u = .tuple #[.int .i64 0, .bool false] ∧ xs' = xs)) := by
  have hs := ho.rd.small
  refine rets_of Tryz.func159 rfl Tryz.ntmps159 rfl rfl (by kernel_rfl) ?_
  (apply vC_seq; apply vC_region; (iterate 2 ((refine vE rfl ?_))); apply vL_nil; apply seqP_normal; apply vC_seq; apply vC_region; (iterate 2 ((refine vE rfl ?_))))
  refine vL_callF rfl (q_at_int b lv i xs w hb ho) rfl ?_
  rintro _ _ ⟨rfl, ⟨x, h0, hx, rfl⟩ | ⟨h0, rfl⟩⟩
  rotate_left
  · ((iterate 24 (first | with_reducible apply vC_seq | with_reducible apply vC_region | with_reducible apply seqP_normal | with_reducible apply vC_skip | ((with_reducible apply vC_cond_false); exact rfl) | (refine vE rfl ?_) | with_reducible apply vL_nil)); apply vC_ret)
    (apply ret2; (case h1 => (exact norm_eq rfl)); (case h2 => (exact norm_eq rfl)))
    exact ⟨lv, xs, Fr.refl _ _, hb, ho, rfl, hone, .inr ⟨h0, rfl, rfl⟩⟩
  have hlt := (List.getElem?_eq_some_iff.1 hx).1
  obtain ⟨n, rfl⟩ : ∃ n : Nat, i = n := ⟨i.toNat, by omega⟩
  ((iterate 18 (first | with_reducible apply vC_seq | with_reducible apply vC_region | with_reducible apply seqP_normal | ((with_reducible apply vC_cond_true); exact rfl) | (refine vE rfl ?_) | with_reducible apply vL_nil)); (refine vL_val (opv_fieldAddr rfl) ?_); ((apply vL_val); (case h => ((apply opv_loadb1); exact rfl; exact rfl; assumption; exact rfl))); (iterate 2 ((refine vE rfl ?_))); ((apply vL_val); (case h => ((apply opv_add); exact rfl; exact rfl; (first | omega | (simp only [List.length_map]; omega))))))
  refine vL_callF rfl (delete_int lv xs n w (by omega) ho) rfl ?_
  rintro v' w1 ⟨hf1, ho1, hown, hone1⟩
  have hne : own lv ≠ some b := Own.ne_blk ho hb (by decide)
  have hb1 : Blk w1.heap b [.bool true, lv] 223 := Blk.fr hf1 hb hne
  haveI : OffB v' b := ⟨by rw [hown]; exact hne⟩
  ((refine vE rfl ?_); (refine vL_val (opv_fieldAddr rfl) ?_); ((apply vL_skip); (case h => ((apply ops_store1); exact norm_eq rfl; ((conv => lhs; whnf) <;> exact rfl); (first | rfl | assumption); assumption; (first | decide | exact of_decide_eq_true rfl | (simp; done))))); apply vL_nil; apply seqP_normal; apply vC_seq; apply vC_region; (iterate 4 ((refine vE rfl ?_))); apply vL_nil; apply seqP_normal; apply vC_ret)
  (apply ret2; (case h1 => (exact norm_eq rfl)); (case h2 => (exact norm_eq rfl)))
  have h1 : Fr (fun k => k = b ∨ own lv = some k) w w1 := hf1.mono (fun k _ h => .inr h)
  exact ⟨v', _, h1.set _ _ (.inl (.inl rfl)), inferInstance, (inferInstance : Own (w1.setRow b _).heap _ _ _ v' _), hown, hone1, .inl ⟨x, h0, hx, rfl, rfl⟩⟩
theorem q_pop_int (b : Nat) (lv : Value) (xs : List Int) (w : World) (hb : Blk w.heap b [.bool true, lv] 223) (ho : Own w.heap 3 1 iE lv xs) (hone : lv.oneCell' = true) :
    Rets Tryz.prog 113 #[.pointer (some ⟨b, 0, none⟩)] w fun u w' => ∃ lv' xs', Fr (fun k => k = b ∨ own lv = some k) w w' ∧ Blk w'.heap b [.bool true, lv'] 223 ∧ Own w'.heap 3 1 iE lv' xs' ∧ own lv' = own lv ∧ lv'.oneCell' = true ∧
      ((∃ x, xs = x :: xs' ∧ u = .tuple #[.int .i64 x, .bool true]) ∨ (xs = [] ∧ u = .tuple #[.int .i64 0, .bool false] ∧ xs' = [])) := by
  refine rets_of Tryz.func113 rfl Tryz.ntmps113 rfl rfl (by kernel_rfl) ?_
  (apply vC_seq; apply vC_region; (iterate 2 ((refine vE rfl ?_))); apply vL_nil; apply seqP_normal; apply vC_seq; apply vC_region; (refine vE rfl ?_))
  refine vL_callF rfl (q_take_int b lv 0 xs w hb ho hone) rfl ?_
  rintro _ w1 ⟨lv', xs', hf1, hb1, ho1, hown, hone1, ⟨x, _, hx, rfl, rfl⟩ | ⟨h0, rfl, rfl⟩⟩
  · ((iterate 4 ((refine vE rfl ?_))); apply vL_nil; apply seqP_normal; apply vC_ret)
    (apply ret2; (case h1 => (exact norm_eq rfl)); (case h2 => (exact norm_eq rfl)))
    refine ⟨lv', _, hf1, hb1, ho1, hown, hone1, .inl ⟨x, ?_, rfl⟩⟩
    cases xs with
    | nil => simp at hx
    | cons y ys => simp at hx; simp [hx]
  · ((iterate 4 ((refine vE rfl ?_))); apply vL_nil; apply seqP_normal; apply vC_ret)
    (apply ret2; (case h1 => (exact norm_eq rfl)); (case h2 => (exact norm_eq rfl)))
    have : xs' = [] := List.eq_nil_of_length_eq_zero (by omega)
    subst this
    exact ⟨lv', _, hf1, hb1, ho1, hown, hone1, .inr ⟨rfl, rfl, rfl⟩⟩
theorem q_len_int (b : Nat) (lv : Value) (xs : List Int) (w : World) (hb : Blk w.heap b [.bool true, lv] 223) (ho : Own w.heap 3 1 iE lv xs) :
    Rets Tryz.prog 104 #[.pointer (some ⟨b, 0, none⟩)] w fun u w' => w = w' ∧ u = .int .i64 xs.length := by
  refine rets_of Tryz.func104 rfl Tryz.ntmps104 rfl rfl (by kernel_rfl) ?_
  (apply vC_seq; apply vC_region; (refine vE rfl ?_); apply vL_nil; apply seqP_normal; (iterate 2 (apply vC_seq)); apply vC_region; (refine vE rfl ?_))
  refine vL_callF rfl (q_right_int b true lv w hb) rfl ?_
  rintro _ _ ⟨rfl, rfl⟩
  ((refine vL_val (opv_not rfl) ?_); apply vL_nil; apply seqP_normal; ((apply vC_cond_false); exact rfl); apply vC_skip; apply seqP_normal; apply vC_seq; apply vC_region; (iterate 2 ((refine vE rfl ?_))); (refine vL_val (opv_fieldAddr rfl) ?_); ((apply vL_val); (case h => ((apply opv_loadb1); exact rfl; exact rfl; assumption; exact rfl))); ((apply vL_val); (case h => ((apply opv_len); ((conv => lhs; whnf) <;> exact rfl); infer_instance))); (refine vE rfl ?_); apply vL_nil; apply seqP_normal; apply vC_ret)
  (apply ret1; (case h1 => (exact norm_eq rfl)))
  exact ⟨rfl, rfl⟩
theorem kit_same_int (v v' : Value) (xs ys : List Int) (w : World) (hr : Rd w.heap 1 iE v xs) (hr' : Rd w.heap 1 iE v' ys) :
    Rets Tryz.prog 50 #[v, v'] w fun u w' => (∃ k, w' = w.drewN k) ∧ u = .bool (decide (xs = ys)) := by
  have hs := hr.small
  have hs' := hr'.small
  refine rets_of Tryz.func50 rfl Tryz.ntmps50 rfl rfl (by kernel_rfl) ?_
  ((iterate 15 (first | with_reducible apply vC_seq | with_reducible apply vC_region | with_reducible apply seqP_normal | (refine vE rfl ?_) | ((with_reducible apply vL_val); (case h => ((with_reducible apply opv_move); ((conv => lhs; whnf) <;> exact rfl)))) | ((with_reducible apply vL_val); (case h => ((with_reducible apply opv_len); ((conv => lhs; whnf) <;> exact rfl); assumption))) | with_reducible apply vL_nil)))
  refine vC_cond_dec rfl (fun h => ?_) (fun h => ?_)
  · (apply vC_seq; apply vC_region; (refine vE rfl ?_); apply vL_nil; apply seqP_normal; apply vC_ret; apply seqP_ret)
    (apply ret1; (case h1 => (exact norm_eq rfl)))
    exact ⟨⟨0, rfl⟩, by rw [decide_eq_false]; intro e; subst e; exact h rfl⟩
  have hl : xs.length = ys.length := by omega
  (apply vC_skip; apply seqP_normal; (iterate 2 (apply vC_seq)); apply vC_region; (refine vE rfl ?_); apply vL_nil; apply seqP_normal; apply vC_block)
  (apply vC_loop1 67106864 5 (fun u w' => ∃ k j : Nat, u = .int .i64 (k : Int) ∧ k ≤ xs.length ∧ w' = w.drewN j ∧ ∀ j : Nat, j < k → ∀ x y, xs[j]? = some x → ys[j]? = some y → x = y) (fun u _ => xs.length - (RowKit.intOf u).toNat)); (case h1 => (exact norm_eq rfl))
  case h0 => exact ⟨0, 0, rfl, by omega, rfl, fun j hj => by omega⟩
  case round =>
  rintro junk _ _ ⟨k, dn, rfl, hk, rfl, hok⟩
  ((iterate 2 (apply vC_seq)); apply vC_region; (refine vE rfl ?_); ((apply vL_val); (case h => ((apply opv_move); ((conv => lhs; whnf) <;> exact rfl)))); ((apply vL_val); (case h => ((apply opv_len); ((conv => lhs; whnf) <;> exact rfl); assumption))); (refine vE rfl ?_); apply vL_nil; apply seqP_normal)
  refine vC_cond_dec rfl (fun h => ?_) (fun h => ?_)
  · have hk' : k < xs.length := by omega
    obtain ⟨a, ha⟩ : ∃ x, xs[k]? = some x := ⟨xs[k], by simp [hk']⟩
    obtain ⟨b, hb⟩ : ∃ x, ys[k]? = some x := ⟨ys[k], by rw [List.getElem?_eq_getElem]⟩
    (apply vC_skip; apply seqP_normal; apply vC_seq; apply vC_block; apply vC_seq)
    (with_reducible apply vC_drawQ); ((iterate 9 (first | ((with_reducible apply vQ_op); (case hi => exact rfl); (case hf => kernel_rfl); (case hS => exact Dr.refl _); (case hy => (intro j; ((with_reducible apply opv_E); exact rfl)))) | ((with_reducible apply vQ_op); (case hi => exact rfl); (case hf => kernel_rfl); (case hS => exact Dr.refl _); (case hy => (intro j; ((with_reducible apply opv_move); ((conv => lhs; whnf) <;> exact rfl))))) | ((with_reducible apply vQ_op); (case hi => exact rfl); (case hf => kernel_rfl); (case hS => exact Dr.refl _); (case hy => (intro j; ((with_reducible apply opv_indexAddr); ((conv => lhs; whnf) <;> exact rfl); exact rfl; assumption; (first | omega | (simp only [List.length_map]; omega)); (first | omega | (simp only [List.length_map]; omega)))))) | ((with_reducible apply vQ_op); (case hi => exact rfl); (case hf => kernel_rfl); (case hS => exact Dr.refl _); (case hy => (intro j; ((with_reducible apply opv_ld_el); exact rfl; exact rfl; assumption; assumption; exact rfl)))))); ((apply vQ_end); (case hi => exact rfl); (case hf => kernel_rfl); (case hS => exact Dr.refl _)))
    refine vC_cond_dec rfl (fun hc => ?_) (fun hc => ?_)
    · (apply vC_seq; apply vC_region; (refine vE rfl ?_); apply vL_nil; apply seqP_normal; apply vC_ret; apply blockP_ret; apply seqP_ret; apply loopP_ret; apply blockP_ret; apply seqP_ret)
      (apply ret1; (case h1 => (exact norm_eq rfl)))
      exact ⟨⟨dn + 1, rfl⟩, by rw [decide_eq_false]; exact ne_get ha hb hc⟩
    · have hab : a = b := by simpa using hc
      (apply vC_skip; apply blockP_normal; apply seqP_normal; apply vC_region; (refine vE rfl ?_); ((apply vL_val); (case h => ((apply opv_add); exact rfl; exact rfl; (first | omega | (simp only [List.length_map]; omega))))); (refine vE rfl ?_); apply vL_nil; apply loopP_normal)
      (with_reducible apply end1); (case hs => ((iterate 16 (((refine same_updO ?_ ?_); rotate_left; exact rfl))); ((refine same_upd ?_ ?_); rotate_left; exact rfl); (exact same_mask _ _ _))); (case h1 => (exact norm_eq rfl))
      · refine ⟨k + 1, dn + 1, rfl, by omega, rfl, fun j hj x y hx hy => ?_⟩
        by_cases e : j = k
        · subst e
          rw [ha] at hx; rw [hb] at hy; cases hx; cases hy; exact hab
        · exact hok j (by omega) x y hx hy
      · simp [RowKit.intOf]; omega
  · have : xs.length = k := by omega
    (apply vC_exit; apply seqP_exit; apply loopP_exit; apply blockP_exit; apply seqP_normal; apply vC_seq; apply vC_region; (refine vE rfl ?_); apply vL_nil; apply seqP_normal; apply vC_ret)
    (apply ret1; (case h1 => (exact norm_eq rfl)))
    exact ⟨⟨dn, rfl⟩, by rw [decide_eq_true]; exact ext_get hl (this ▸ hok)⟩
def without (xs : List Int) (i : Int) : List Int := if i < 0 then xs else xs.take i.toNat ++ xs.drop (i.toNat + 1)
theorem without_succ {xs : List Int} {k : Nat} {x i : Int} (hx : xs[k]? = some x) : without (xs.take (k + 1)) i = if (k : Int) = i then without (xs.take k) i else without (xs.take k) i ++ [x] := by
  have hk := (List.getElem?_eq_some_iff.1 hx).1
  have hlen : (xs.take k).length = k := by simp; omega
  rw [List.take_succ_eq_append_getElem hk, (List.getElem?_eq_some_iff.1 hx).2]
  unfold without
  split
  · rw [if_neg (by omega)]
  · split
    · rename_i h1 h2
      subst h2
      rw [List.take_append_of_le_length (by omega), List.drop_append]
      simp [hlen]
    · rename_i h1 h2
      rcases Nat.lt_or_ge i.toNat k with h | h
      · rw [List.take_append_of_le_length (by omega), List.drop_append_of_le_length (by omega), List.append_assoc]
      · have h3 : k < i.toNat := by omega
        have a1 : (xs.take k ++ [x]).take i.toNat = xs.take k ++ [x] := List.take_of_length_le (by rw [List.length_append, hlen]; simp; omega)
        have a2 : (xs.take k ++ [x]).drop (i.toNat + 1) = [] := List.drop_of_length_le (by rw [List.length_append, hlen]; simp; omega)
        have a3 : (xs.take k).take i.toNat = xs.take k := List.take_of_length_le (by omega)
        have a4 : (xs.take k).drop (i.toNat + 1) = [] := List.drop_of_length_le (by omega)
        rw [a1, a2, a3, a4]
        simp
theorem without_len (xs : List Int) (i : Int) : (without xs i).length ≤ xs.length := by
  unfold without
  split
  · omega
  · simp; omega

theorem without13 (v : Value) (i : Int) (xs : List Int) (w : World) (hr : Rd w.heap 1 iE v xs) (hbig : xs.length * 8 ≤ 140737488355328) :
    Rets Tryz.prog 186 #[v, .int .i64 i] w fun u w' => Fr No w w' ∧ Own w'.heap 3 1 iE u (without xs i) ∧ (∀ b, own u = some b → w.heap.size ≤ b) ∧ u.oneCell' = true := by
  have hs := hr.small
  refine rets_of Tryz.func186 rfl Tryz.ntmps186 rfl rfl (by kernel_rfl) ?_
  ((iterate 16 (first | with_reducible apply vC_seq | with_reducible apply vC_region | with_reducible apply seqP_normal | (refine vE rfl ?_) | with_reducible apply vL_nil)); apply vC_block)
  (apply vC_loop2 8388576 6 5 (fun u v5 w' => ∃ k : Nat, u = .int .i64 (k : Int) ∧ k ≤ xs.length ∧ Own w'.heap 3 1 iE v5 (without (xs.take k) i) ∧ Fr No w w' ∧ (∀ b, own v5 = some b → w.heap.size ≤ b) ∧ v5.oneCell' = true) (fun u _ _ => xs.length - (RowKit.intOf u).toNat)); (case h1 => (exact norm_eq rfl)); (case h2 => (exact norm_eq rfl))
  case h0 => exact ⟨0, rfl, by omega, (by have : without (xs.take 0) i = [] := (by simp [without]); rw [this]; exact Own.nil _ _ _ _), Fr.refl _ _, fun b hb => (by cases hb), rfl⟩
  case round =>
  rintro junk _ v5 w1 ⟨k, rfl, hk, ho, hf, hfresh, hone⟩
  have hr1 := Rd.frN hf hr
  ((iterate 2 (apply vC_seq)); apply vC_region; (refine vE rfl ?_); ((apply vL_val); (case h => ((apply opv_move); ((conv => lhs; whnf) <;> exact rfl)))); ((apply vL_val); (case h => ((apply opv_len); ((conv => lhs; whnf) <;> exact rfl); assumption))); (refine vE rfl ?_); apply vL_nil; apply seqP_normal)
  refine vC_cond_dec rfl (fun hc => ?_) (fun hc => ?_)
  · have hk' : k < xs.length := by omega
    obtain ⟨x, hx⟩ : ∃ x, xs[k]? = some x := ⟨xs[k], by simp [hk']⟩
    have hsucc := without_succ (i := i) hx
    have hout : (without (xs.take k) i).length ≤ k := by have := without_len (xs.take k) i; simp at this; omega
    generalize without (xs.take k) i = out at *
    (apply vC_skip; apply seqP_normal; apply vC_seq; apply vC_block; apply vC_seq; apply vC_region; (iterate 3 ((refine vE rfl ?_))); apply vL_nil; apply seqP_normal)
    refine vC_cond_dec rfl (fun hd => ?_) (fun hd => ?_)
    · rw [if_neg hd] at hsucc
      (apply vC_region; (iterate 2 (((apply vL_val); (case h => ((apply opv_move); ((conv => lhs; whnf) <;> exact rfl)))))); (refine vE rfl ?_); ((apply vL_val); (case h => ((apply opv_indexAddr); ((conv => lhs; whnf) <;> exact rfl); exact rfl; assumption; (first | omega | (simp only [List.length_map]; omega)); (first | omega | (simp only [List.length_map]; omega))))); ((apply vL_val); (case h => ((apply opv_ld_el); exact rfl; exact rfl; assumption; assumption; exact rfl))); ((apply vL_val); (case h => ((apply opw_buildSl); exact rfl; exact rfl; exact rfl; exact (rfl : _ = some [_])))))
      refine vL_append (enc := iE) (xs := out) (ys := [x]) (by (((conv => lhs; whnf) <;> exact rfl))) (by (exact norm_eq rfl)) (Own.alloc ho) (Rd.new1 _ _ rfl) rfl (by decide) ?_ ?_ ?_
      · simp [maxLen]; omega
      · simp; omega
      intro v' w2 ho2 hf2 hfr2 hone2 _
      have hf3 : Fr No w w2 := (hf.alloc _).trans' hf2 (fun i hi => .inr (hfresh i hi))
      (((apply vL_val); (case h => ((apply opv_assign); ((conv => lhs; whnf) <;> exact rfl)))); apply vL_nil; apply blockP_normal; apply seqP_normal; apply vC_region; (refine vE rfl ?_); ((apply vL_val); (case h => ((apply opv_add); exact rfl; exact rfl; (first | omega | (simp only [List.length_map]; omega))))); (refine vE rfl ?_); apply vL_nil; apply loopP_normal)
      (with_reducible apply end2); (case hs => ((iterate 18 (((refine same_updO ?_ ?_); rotate_left; exact rfl))); (iterate 2 (((refine same_upd ?_ ?_); rotate_left; exact rfl))); (exact same_mask _ _ _))); (case h1 => (exact norm_eq rfl)); (case h2 => (((conv => lhs; whnf) <;> exact rfl)))
      · refine ⟨k + 1, rfl, hk', by rw [hsucc]; exact ho2, hf3, fun b hb => ?_, hone2⟩
        rcases hfr2 b hb with h | h
        · exact hfresh b h
        · have := hf.size; rw [alloc_size] at h; omega
      · simp [RowKit.intOf]; omega
    · rw [if_pos (by omega)] at hsucc
      (apply vC_skip; apply blockP_normal; apply seqP_normal; apply vC_region; (refine vE rfl ?_); ((apply vL_val); (case h => ((apply opv_add); exact rfl; exact rfl; (first | omega | (simp only [List.length_map]; omega))))); (refine vE rfl ?_); apply vL_nil; apply loopP_normal)
      (with_reducible apply end2); (case hs => ((iterate 10 (((refine same_updO ?_ ?_); rotate_left; exact rfl))); (iterate 2 (((refine same_upd ?_ ?_); rotate_left; exact rfl))); (exact same_mask _ _ _))); (case h1 => (exact norm_eq rfl)); (case h2 => (((conv => lhs; whnf) <;> exact rfl)))
      · exact ⟨k + 1, rfl, hk', by rw [hsucc]; exact ho, hf, hfresh, hone⟩
      · simp [RowKit.intOf]; omega
  have e : k = xs.length := by omega
  subst e
  rw [List.take_length] at ho
  (apply vC_exit; apply seqP_exit; apply loopP_exit; apply blockP_exit; apply seqP_normal; apply vC_seq; apply vC_region; ((apply vL_val); (case h => ((apply opv_move); ((conv => lhs; whnf) <;> exact rfl)))); ((apply vL_val); (case h => ((apply opv_assign); ((conv => lhs; whnf) <;> exact rfl)))); apply vL_nil; apply seqP_normal; apply vC_ret)
  (apply ret1; (case h1 => (((conv => lhs; whnf) <;> exact rfl))))
  exact ⟨hf, ho, hfresh, hone⟩
theorem ob_keep_int {w w' : World} {b o : Nat} {T : TypeId} {c d : List Value} {lv : Value} {xs : List Int} (hf : Fr (fun k => k = b ∨ own lv = some k) w w') (hb : Blk w.heap b c 223) (ho : Own w.heap 3 1 iE lv xs) (hob : Blk w.heap o d T) (h1 : T ≠ 223) (h2 : T ≠ 3) : Blk w'.heap o d T :=
  hob.fr hf (fun h => by
    rcases h with rfl | h
    · exact hob.ne_type hb h1 rfl
    · exact Own.ne_blk ho hob (fun h => h2 h.symm) h)
/-- a scheduler's line -/
structure Sc (w : World) (sb b : Nat) (lv : Value) (xs : List Int) : Prop where
  hs : Blk w.heap sb [.pointer (some ⟨b, 0, none⟩)] 220
  hb : Blk w.heap b [.bool true, lv] 223
  ho : Own w.heap 3 1 iE lv xs
  one : lv.oneCell' = true
theorem Sc.frN {w w' : World} {sb b : Nat} {lv : Value} {xs : List Int} (s : Sc w sb b lv xs) (hf : Fr No w w') : Sc w' sb b lv xs := ⟨s.hs.frN hf, s.hb.frN hf, s.ho.frN hf, s.one⟩
/-- .. after a call -/
structure ScTo (w w' : World) (sb b : Nat) (lv lv' : Value) (xs' : List Int) : Prop where
  fr : Fr (fun k => k = b ∨ own lv = some k) w w'
  sc : Sc w' sb b lv' xs'
  fl : ∀ k, own lv' = some k → own lv = some k ∨ w.heap.size ≤ k
theorem Sc.to {w w' : World} {sb b : Nat} {lv lv' : Value} {xs xs' : List Int} (s : Sc w sb b lv xs) (hf : Fr (fun k => k = b ∨ own lv = some k) w w') (hb : Blk w'.heap b [.bool true, lv'] 223) (ho : Own w'.heap 3 1 iE lv' xs') (hl : ∀ k, own lv' = some k → own lv = some k ∨ w.heap.size ≤ k) (hone : lv'.oneCell' = true) : ScTo w w' sb b lv lv' xs' :=
  ⟨hf, ⟨ob_keep_int hf s.hb s.ho s.hs (by decide) (by decide), hb, ho, hone⟩, hl⟩
theorem Sc.toN {w w' : World} {sb b : Nat} {lv : Value} {xs : List Int} (s : Sc w sb b lv xs) (hf : Fr No w w') : ScTo w w' sb b lv lv xs := ⟨hf.no_any, s.frN hf, fun _ h => .inl h⟩
theorem ScTo.after {w w1 w' : World} {sb b : Nat} {lv lv' : Value} {xs' : List Int} (h : ScTo w1 w' sb b lv lv' xs') (hf : Fr No w w1) : ScTo w w' sb b lv lv' xs' :=
  ⟨hf.no_any.trans h.fr, h.sc, fun k hk => (h.fl k hk).imp id (fun h1 => Nat.le_trans hf.size h1)⟩
structure Ss (w0 w : World) (sb b : Nat) (lv : Value) (xs : List Int) : Prop where
  fr : Fr No w0 w
  sc : Sc w sb b lv xs
  fs : w0.heap.size ≤ sb
  fb : w0.heap.size ≤ b
  fl : ∀ k, own lv = some k → w0.heap.size ≤ k
def readyE (xs : List Int) (id : Int) : Int := if id < 0 then 2 else if id ∈ xs then 151 else if xs.length = 256 then 5 else 0
def readyL (xs : List Int) (id : Int) : List Int := if id < 0 then xs else if id ∈ xs then xs else if xs.length = 256 then xs else xs ++ [id]
theorem s_new (w : World) : Rets Tryz.prog 82 #[] w fun u w' => ∃ sb b lv, u = .pointer (some ⟨sb, 0, none⟩) ∧ Ss w w' sb b lv [] := by
  refine rets_of Tryz.func82 rfl Tryz.ntmps82 rfl rfl (by kernel_rfl) ?_
  (apply vC_seq; apply vC_region; (refine vE rfl ?_); apply vL_nil; apply seqP_normal; apply vC_seq; apply vC_region)
  refine vL_callF rfl (q_of_int _ [] w (Rd.nil _ _ _) (by decide)) rfl ?_
  rintro _ w1 ⟨hf1, b, lv, rfl, hb0, hb, ho, hl, hone⟩
  (((apply vL_val); (case h => ((apply opv_buildS); exact rfl; exact (rfl : _ = some [_])))); (refine vL_val (opw_boxn rfl) ?_); (refine vE rfl ?_); apply vL_nil; apply seqP_normal; apply vC_ret)
  (apply ret1; (case h1 => (exact norm_eq rfl)))
  exact ⟨_, b, lv, rfl, hf1.alloc _, ⟨inferInstance, inferInstance, inferInstance, hone⟩, hf1.size, hb0, hl⟩
theorem s_list (sb b : Nat) (lv : Value) (xs : List Int) (w : World) (s : Sc w sb b lv xs) (hbig : xs.length ≤ 256) :
    Rets Tryz.prog 133 #[.pointer (some ⟨sb, 0, none⟩)] w fun u w' => Fr No w w' ∧ Own w'.heap 3 1 iE u xs ∧ (∀ b, own u = some b → w.heap.size ≤ b) ∧ u.oneCell' = true := by
  have hs := s.hs
  refine rets_of Tryz.func133 rfl Tryz.ntmps133 rfl rfl (by kernel_rfl) ?_
  ((iterate 19 (first | with_reducible apply vC_seq | with_reducible apply vC_region | with_reducible apply seqP_normal | with_reducible apply vC_skip | ((with_reducible apply vC_cond_false); exact rfl) | (refine vE rfl ?_) | ((with_reducible apply vL_val); (case h => ((with_reducible apply opv_eql_pnil); exact rfl; exact rfl; (simp; done)))) | with_reducible apply vL_nil)); (refine vL_val (opv_fieldAddr rfl) ?_); ((apply vL_val); (case h => ((apply opv_loadb1); exact rfl; exact rfl; assumption; exact rfl))))
  refine vL_callF rfl (q_list_int b lv xs w s.hb s.ho (by omega)) rfl ?_
  rintro u w1 ⟨hf1, ho1, hfresh1, hone⟩
  (((apply vL_val); (case h => ((apply opv_assign); ((conv => lhs; whnf) <;> exact rfl)))); apply vL_nil; apply seqP_normal; apply vC_ret)
  (apply ret1; (case h1 => (((conv => lhs; whnf) <;> exact rfl))))
  exact ⟨hf1, ho1, hfresh1, hone⟩
theorem s_len (sb b : Nat) (lv : Value) (xs : List Int) (w : World) (s : Sc w sb b lv xs) :
    Rets Tryz.prog 158 #[.pointer (some ⟨sb, 0, none⟩)] w fun u w' => w = w' ∧ u = .int .i64 xs.length := by
  have hs := s.hs
  refine rets_of Tryz.func158 rfl Tryz.ntmps158 rfl rfl (by kernel_rfl) ?_
  ((iterate 19 (first | with_reducible apply vC_seq | with_reducible apply vC_region | with_reducible apply seqP_normal | with_reducible apply vC_skip | ((with_reducible apply vC_cond_false); exact rfl) | (refine vE rfl ?_) | ((with_reducible apply vL_val); (case h => ((with_reducible apply opv_eql_pnil); exact rfl; exact rfl; (simp; done)))) | with_reducible apply vL_nil)); (refine vL_val (opv_fieldAddr rfl) ?_); ((apply vL_val); (case h => ((apply opv_loadb1); exact rfl; exact rfl; assumption; exact rfl))))
  refine vL_callF rfl (q_len_int b lv xs w s.hb s.ho) rfl ?_
  rintro _ _ ⟨rfl, rfl⟩
  ((refine vE rfl ?_); apply vL_nil; apply seqP_normal; apply vC_ret)
  (apply ret1; (case h1 => (exact norm_eq rfl)))
  exact ⟨rfl, rfl⟩
theorem s_ready (sb b : Nat) (lv : Value) (xs : List Int) (id : Int) (w : World) (s : Sc w sb b lv xs) (hbig : xs.length ≤ 256) :
    Rets Tryz.prog 99 #[.pointer (some ⟨sb, 0, none⟩), .int .i64 id] w fun u w' => u = .int .i64 (readyE xs id) ∧ ∃ lv', ScTo w w' sb b lv lv' (readyL xs id) := by
  have hs := s.hs
  unfold readyE readyL
  refine rets_of Tryz.func99 rfl Tryz.ntmps99 rfl rfl (by kernel_rfl) ?_
  (apply vC_seq; apply vC_region; (refine vE rfl ?_); apply vL_nil; apply seqP_normal; apply vC_seq; apply vC_block; apply vC_seq; apply vC_region; (iterate 15 (first | (refine vE rfl ?_) | ((with_reducible apply vL_val); (case h => ((with_reducible apply opv_loadb1); exact rfl; exact rfl; assumption; exact rfl))) | (refine vL_val (opv_fieldAddr rfl) ?_) | ((with_reducible apply vL_val); (case h => ((with_reducible apply opv_eql_pnil); exact rfl; exact rfl; (simp; done)))) | ((with_reducible apply vL_wanted); exact rfl))); apply vL_nil; apply seqP_normal; ((apply vC_cond_false); exact rfl); apply vC_seq; apply vC_region; (iterate 3 ((refine vE rfl ?_))); apply vL_nil; apply seqP_normal)
  refine vC_cond_dec rfl (fun h0 => ?_) (fun h0 => ?_)
  · (apply vC_seq; apply vC_region; (refine vE rfl ?_); apply vL_nil; apply seqP_normal; apply vC_ret; apply blockP_ret; apply seqP_ret)
    (apply ret1; (case h1 => (exact norm_eq rfl)))
    rw [if_pos h0, if_pos h0]
    exact ⟨rfl, lv, s.toN (Fr.refl _ _)⟩
  rw [if_neg h0, if_neg h0]
  (apply vC_seq; apply vC_region; (refine vE rfl ?_))
  refine vL_callF rfl (s_list sb b lv xs w s hbig) rfl ?_
  rintro u w1 ⟨hf1, ho1, hfresh1, hone⟩
  ((refine vE rfl ?_))
  refine vL_callF rfl (contains_int u xs id w1 ho1.rd) rfl ?_
  rintro _ _ ⟨rfl, rfl⟩
  ((refine vE rfl ?_); apply vL_nil; apply seqP_normal)
  refine vC_cond_dec rfl (fun h1 => ?_) (fun h1 => ?_)
  · (apply vC_seq; apply vC_region; (refine vE rfl ?_); apply vL_nil; apply seqP_normal; apply vC_ret; apply blockP_ret; apply seqP_ret)
    (apply ret1; (case h1 => (exact norm_eq rfl)))
    rw [if_pos h1, if_pos h1]
    exact ⟨rfl, lv, s.toN hf1⟩
  rw [if_neg h1, if_neg h1]
  have s1 := s.frN hf1
  have hs1 := s1.hs
  (apply vC_seq; apply vC_region; (refine vE rfl ?_))
  refine vL_callF rfl (s_len sb b lv xs w1 s1) rfl ?_
  rintro _ _ ⟨rfl, rfl⟩
  ((iterate 2 ((refine vE rfl ?_))); apply vL_nil; apply seqP_normal)
  refine vC_cond_dec rfl (fun h2 => ?_) (fun h2 => ?_)
  · (apply vC_seq; apply vC_region; (refine vE rfl ?_); apply vL_nil; apply seqP_normal; apply vC_ret; apply blockP_ret; apply seqP_ret)
    (apply ret1; (case h1 => (exact norm_eq rfl)))
    rw [if_pos (by omega), if_pos (by omega)]
    exact ⟨rfl, lv, s.toN hf1⟩
  rw [if_neg (by omega), if_neg (by omega)]
  (apply vC_skip; apply blockP_normal; apply seqP_normal; apply vC_seq; apply vC_region; (iterate 2 ((refine vE rfl ?_))); (refine vL_val (opv_fieldAddr rfl) ?_); ((apply vL_val); (case h => ((apply opv_loadb1); exact rfl; exact rfl; assumption; exact rfl))); (refine vE rfl ?_))
  refine vL_callF rfl (q_push_int b lv id xs w1 s1.hb s1.ho (by omega)) rfl ?_
  rintro _ w2 ⟨lv2, hf, hb, ho, hl, hone2⟩
  (apply vL_nil; apply seqP_normal; apply vC_seq; apply vC_region; (refine vE rfl ?_); apply vL_nil; apply seqP_normal; apply vC_ret)
  (apply ret1; (case h1 => (exact norm_eq rfl)))
  exact ⟨rfl, lv2, (s1.to hf hb ho hl hone2).after hf1⟩
theorem s_pick (sb b : Nat) (lv : Value) (xs : List Int) (p : Int) (w : World) (s : Sc w sb b lv xs) (hbig : xs.length ≤ 256) (hp : 0 ≤ p ∧ p ≤ 18446744073709551615) :
    Rets Tryz.prog 100 #[.pointer (some ⟨sb, 0, none⟩), .int .u64 p] w fun u w' =>
      (xs = [] ∧ u = .tuple #[.int .i64 0, .int .u64 0, .bool false] ∧ w = w') ∨
      ∃ (x : Int) (lv' : Value), xs[(p % xs.length).toNat]? = some x ∧ u = .tuple #[.int .i64 x, .int .u64 (p / xs.length), .bool true] ∧ ScTo w w' sb b lv lv' (without xs (p % xs.length)) := by
  have hs := s.hs
  refine rets_of Tryz.func100 rfl Tryz.ntmps100 rfl rfl (by kernel_rfl) ?_
  (apply vC_seq; apply vC_region; (iterate 3 ((refine vE rfl ?_))); apply vL_nil; apply seqP_normal; apply vC_seq; apply vC_region; (refine vE rfl ?_))
  refine vL_callF rfl (s_len sb b lv xs w s) rfl ?_
  rintro _ _ ⟨rfl, rfl⟩
  (((apply vL_val); (case h => ((apply opv_conv_u); exact rfl; (first | omega | (simp only [List.length_map]; omega))))); (refine vE rfl ?_); apply vL_nil; apply seqP_normal; (iterate 2 (apply vC_seq)); apply vC_region; (iterate 2 ((refine vE rfl ?_))); apply vL_nil; apply seqP_normal)
  refine vC_cond_dec rfl (fun h0 => ?_) (fun h0 => ?_)
  · (apply vC_seq; apply vC_region; (iterate 3 ((refine vE rfl ?_))); apply vL_nil; apply seqP_normal; apply vC_ret; apply seqP_ret)
    (apply ret3; (case h1 => (exact norm_eq rfl)); (case h2 => (exact norm_eq rfl)); (case h3 => (exact norm_eq rfl)))
    exact .inl ⟨List.eq_nil_of_length_eq_zero (by omega), rfl, rfl⟩
  (apply vC_skip; apply seqP_normal; apply vC_seq)
  have hm0 := Int.emod_nonneg p (b := (xs.length : Int)) (by omega)
  have hm1 := Int.emod_lt_of_pos p (b := (xs.length : Int)) (by omega)
  refine vC_draw' ((fun wf => Blk wf.heap sb [.pointer (some ⟨b, 0, none⟩)] 220)) (by first | assumption | infer_instance) ?_
  (refine tkE 0 rfl (by kernel_rfl) (by first | assumption | infer_instance) rfl ?_)
  (refine tkE 1 rfl (by kernel_rfl) (by first | assumption | infer_instance) rfl ?_)
  (refine tk 2 rfl (by kernel_rfl) (by first | assumption | infer_instance) (by intro wf hwf; (try dsimp only at hwf); (((apply opv_fieldAddr); exact rfl))) ?_)
  (refine tk 3 rfl (by kernel_rfl) (by first | assumption | infer_instance) (by intro wf hwf; (try dsimp only at hwf); (((apply opv_loadb1); exact rfl; exact rfl; assumption; exact rfl))) ?_)
  (refine tkE 4 rfl (by kernel_rfl) (by first | assumption | infer_instance) rfl ?_)
  (refine tkE 5 rfl (by kernel_rfl) (by first | assumption | infer_instance) rfl ?_)
  (refine tk 6 rfl (by kernel_rfl) (by first | assumption | infer_instance) (by intro wf hwf; (try dsimp only at hwf); (((apply opv_rem); exact rfl; exact rfl; (first | omega | (simp only [List.length_map]; omega)); (first | omega | (simp only [List.length_map]; omega))))) ?_)
  (refine tk 7 rfl (by kernel_rfl) (by first | assumption | infer_instance) (by intro wf hwf; (try dsimp only at hwf); (((apply opv_conv_i); exact rfl; (first | omega | (simp only [List.length_map]; omega))))) ?_)
  (refine tkc 8 rfl (by kernel_rfl) (by first | assumption | infer_instance) rfl (q_take_int b lv (p % xs.length) xs _ (s.hb.frN ((Fr.refl No w).drew)) (s.ho.frN ((Fr.refl No w).drew)) s.one) rfl ?_)
  rintro _ w1 ⟨lv1, xs1, hf, hb, ho, hl, hone, ⟨x, _, hx, rfl, rfl⟩ | ⟨hbad, _⟩⟩
  rotate_left
  · omega
  have s1 := (s.frN ((Fr.refl No w).drew)).to hf hb ho (fun k hk => .inl (hl ▸ hk)) hone
  have hs1 := s1.sc.hs
  (refine tkE 9 rfl (by kernel_rfl) (by first | assumption | infer_instance) rfl ?_)
  (refine tkE 10 rfl (by kernel_rfl) (by first | assumption | infer_instance) rfl ?_)
  (refine tkE 11 rfl (by kernel_rfl) (by first | assumption | infer_instance) rfl ?_)
  (refine tkE 12 rfl (by kernel_rfl) (by first | assumption | infer_instance) rfl ?_)
  (refine tkE 13 rfl (by kernel_rfl) (by first | assumption | infer_instance) rfl ?_)
  refine vA_done (by kernel_rfl) (by first | assumption | infer_instance) ?_
  (apply seqP_normal; apply vC_seq)
  (with_reducible apply vC_drawQ); ((iterate 8 (first | ((with_reducible apply vQ_op); (case hi => exact rfl); (case hf => kernel_rfl); (case hS => exact Dr.refl _); (case hy => (intro j; ((with_reducible apply opv_E); exact rfl)))) | ((with_reducible apply vQ_op); (case hi => exact rfl); (case hf => kernel_rfl); (case hS => exact Dr.refl _); (case hy => (intro j; ((with_reducible apply opv_quou); exact rfl; exact rfl; (first | omega | (simp only [List.length_map]; omega)); (first | omega | (simp only [List.length_map]; omega)))))))); ((apply vQ_end); (case hi => exact rfl); (case hf => kernel_rfl); (case hS => exact Dr.refl _)))
  (apply seqP_normal; apply vC_ret)
  (apply ret3; (case h1 => (exact norm_eq rfl)); (case h2 => (exact norm_eq rfl)); (case h3 => (exact norm_eq rfl)))
  refine .inr ⟨x, lv1, hx, rfl, ?_⟩
  have e : without xs (p % xs.length) = xs.take (p % xs.length).toNat ++ xs.drop ((p % xs.length).toNat + 1) := by rw [without, if_neg (by omega)]
  rw [e]
  exact ⟨(Fr.refl _ _).drew.trans s1.fr |>.drew, s1.sc.frN ((Fr.refl _ _).drew), fun k hk => s1.fl k hk⟩
end Go.Proofs.YtbaidcnalkdhgaaGreat
set_option maxRecDepth 100000
namespace Go.Proofs.YtbaidcnalkdhgaaGreat
open Go Go.Eng
/-- a task's record, but for its number and its runtime -/
structure TK where
  next : OV
  wake : OV
  said : Bool
  parked : Bool
  over : Bool
def tkL (rb : Nat) (i : Int) (x : TK) : List Value := [.pointer (some ⟨rb, 0, none⟩), .int .i64 i, x.next.1, x.wake.1, .bool x.said, .bool x.parked, .bool x.over]
def ptE (b : Nat) : List Value := [.pointer (some ⟨b, 0, none⟩)]
instance encPt : EncOk ptE 1 := ⟨by intro x u h; simp [ptE] at h; subst h; rfl, fun _ => rfl⟩
def nowV : Option Nat → Value
  | none => .pointer none
  | some b => .pointer (some ⟨b, 0, none⟩)
/-- the blocks that a runtime may change -/
def RtB (rb sb qb : Nat) (lv tv : Value) (ts : List (Nat × TK)) (k : Nat) : Prop := k = rb ∨ k = sb ∨ k = qb ∨ own lv = some k ∨ own tv = some k ∨ ∃ x ∈ ts, k = x.1
/-- a runtime; Z: what is not its own -/
structure Rt (Z : Nat → Prop) (w : World) (rb sb qb : Nat) (lv tv : Value) (now : Option Nat) (rest : Int) (ready : List Int) (ts : List (Nat × TK)) : Prop where
  hr : Blk w.heap rb [.pointer (some ⟨sb, 0, none⟩), tv, nowV now, .int .u64 rest] 108
  sc : Sc w sb qb lv ready
  ht : Own w.heap 34 1 ptE tv (ts.map (·.1))
  tk : ∀ (i : Nat) x, ts[i]? = some x → Blk w.heap x.1 (tkL rb i x.2) 162
  one : tv.oneCell' = true
  hn : ∀ b, now = some b → b ∈ ts.map (·.1)
  zs : ∀ k, Z k → k < w.heap.size
  zn : ∀ k, RtB rb sb qb lv tv ts k → ¬ Z k
section
variable {Z Z' : Nat → Prop} {w w' : World} {rb sb qb : Nat} {lv tv : Value} {now : Option Nat} {rest : Int} {ready : List Int} {ts : List (Nat × TK)}
theorem Rt.lt (s : Rt Z w rb sb qb lv tv now rest ready ts) : ∀ k, RtB rb sb qb lv tv ts k → k < w.heap.size := fun k hk => by
  rcases hk with rfl | rfl | rfl | h | h | ⟨x, hx, rfl⟩
  · exact s.hr.lt
  · exact s.sc.hs.lt
  · exact s.sc.hb.lt
  · exact s.sc.ho.lt k h
  · exact s.ht.lt k h
  · obtain ⟨i, hi, rfl⟩ := List.getElem_of_mem hx
    exact (s.tk i _ (List.getElem?_eq_getElem hi)).lt
/-- what others do -/
theorem Rt.fr (s : Rt Z w rb sb qb lv tv now rest ready ts) (hf : Fr Z w w') (hz : ∀ k, Z' k → k < w'.heap.size ∧ (Z k ∨ w.heap.size ≤ k)) : Rt Z' w' rb sb qb lv tv now rest ready ts :=
  ⟨s.hr.fr hf (s.zn _ (.inl rfl)), ⟨s.sc.hs.fr hf (s.zn _ (.inr (.inl rfl))), s.sc.hb.fr hf (s.zn _ (.inr (.inr (.inl rfl)))), s.sc.ho.fr hf (fun b hb => s.zn _ (.inr (.inr (.inr (.inl hb))))), s.sc.one⟩,
    s.ht.fr hf (fun b hb => s.zn _ (.inr (.inr (.inr (.inr (.inl hb)))))), fun i x hx => (s.tk i x hx).fr hf (s.zn _ (.inr (.inr (.inr (.inr (.inr ⟨x, List.mem_of_getElem? hx, rfl⟩)))))), s.one, s.hn, fun k hk => (hz k hk).1, fun k hk hz' => by
      rcases (hz k hz').2 with h | h
      · exact s.zn k hk h
      · have := s.lt k hk; omega⟩
theorem Rt.frN (s : Rt Z w rb sb qb lv tv now rest ready ts) (hf : Fr No w w') : Rt Z w' rb sb qb lv tv now rest ready ts := s.fr hf.no_any (fun k hk => ⟨Nat.lt_of_lt_of_le (s.zs k hk) hf.size, .inl hk⟩)
/-- Z may be less, and more of what is new -/
theorem Rt.re (s : Rt Z w rb sb qb lv tv now rest ready ts) (hz : ∀ k, Z' k → Z k) : Rt Z' w rb sb qb lv tv now rest ready ts := s.fr (Fr.refl _ _) (fun k hk => ⟨s.zs k (hz k hk), .inl (hz k hk)⟩)
/-- the line's own calls -/
theorem Rt.line {lv' : Value} {ready' : List Int} (s : Rt Z w rb sb qb lv tv now rest ready ts) (h : ScTo w w' sb qb lv lv' ready') : Rt Z w' rb sb qb lv' tv now rest ready' ts ∧ Fr (fun k => ¬ Z k) w w' := by
  have hr : ¬ (rb = qb ∨ own lv = some rb) := fun h => by
    rcases h with h | h
    · exact Blk.ne_type s.hr s.sc.hb (by decide) h
    · exact Own.ne_blk s.sc.ho s.hr (by decide) h
  refine ⟨⟨s.hr.fr h.fr hr, h.sc, s.ht.fr h.fr (fun b hb h' => ?_), fun i x hx => (s.tk i x hx).fr h.fr (fun h' => ?_), s.one, s.hn, fun k hk => Nat.lt_of_lt_of_le (s.zs k hk) h.fr.size, fun k hk hz => ?_⟩, h.fr.mono (fun k _ hk => ?_)⟩
  · rcases h' with rfl | h'
    · exact Own.ne_blk s.ht s.sc.hb (by decide) hb
    · exact Own.ne_own s.ht s.sc.ho (by decide) b hb h'
  · rcases h' with h' | h'
    · exact Blk.ne_type (s.tk i x hx) s.sc.hb (by decide) h'
    · exact Own.ne_blk s.sc.ho (s.tk i x hx) (by decide) h'
  · rcases hk with rfl | rfl | rfl | h1 | h1 | ⟨x, hx, rfl⟩
    · exact s.zn _ (.inl rfl) hz
    · exact s.zn _ (.inr (.inl rfl)) hz
    · exact s.zn _ (.inr (.inr (.inl rfl))) hz
    · rcases h.fl k h1 with h2 | h2
      · exact s.zn _ (.inr (.inr (.inr (.inl h2)))) hz
      · have := s.zs k hz; omega
    · exact s.zn _ (.inr (.inr (.inr (.inr (.inl h1))))) hz
    · exact s.zn _ (.inr (.inr (.inr (.inr (.inr ⟨x, hx, rfl⟩))))) hz
  · rcases hk with rfl | h1
    · exact s.zn _ (.inr (.inr (.inl rfl)))
    · exact s.zn _ (.inr (.inr (.inr (.inl h1))))
theorem Rt.inj (s : Rt Z w rb sb qb lv tv now rest ready ts) {i j : Nat} {x y} (hx : ts[i]? = some x) (hy : ts[j]? = some y) (h : x.1 = y.1) : i = j := by
  have h1 := s.tk i x hx
  have h2 := s.tk j y hy
  rw [h] at h1
  have h3 := (h1.inj h2).1
  simp only [tkL, List.cons.injEq, Value.int.injEq, true_and] at h3
  exact Int.ofNat.inj h3.1
theorem set_fst {α β : Type} {l : List (α × β)} {i : Nat} {x : α × β} {y : β} (h : l[i]? = some x) : (l.set i (x.1, y)).map (·.1) = l.map (·.1) := by
  rw [List.map_set]
  apply List.ext_getElem?
  intro j
  rw [List.getElem?_set]
  split
  · rename_i e; subst e
    rw [List.getElem?_map, h]
    split
    · rfl
    · rename_i hh
      rw [List.length_map] at hh
      exact absurd (List.getElem?_eq_some_iff.1 h).1 hh
  · rfl
/-- a task's record changes -/
theorem Rt.task {i : Nat} {x : Nat × TK} {y : TK} (s : Rt Z w rb sb qb lv tv now rest ready ts) (hx : ts[i]? = some x) (hf : Fr (fun k => k = x.1) w w') (hb : Blk w'.heap x.1 (tkL rb i y) 162) : Rt Z w' rb sb qb lv tv now rest ready (ts.set i (x.1, y)) ∧ Fr (fun k => ¬ Z k) w w' := by
  have hB := s.tk i x hx
  have hi := (List.getElem?_eq_some_iff.1 hx).1
  have hzx : ¬ Z x.1 := s.zn _ (.inr (.inr (.inr (.inr (.inr ⟨x, List.mem_of_getElem? hx, rfl⟩)))))
  refine ⟨⟨s.hr.fr hf (Blk.ne_type s.hr hB (by decide)), ⟨s.sc.hs.fr hf (Blk.ne_type s.sc.hs hB (by decide)), s.sc.hb.fr hf (Blk.ne_type s.sc.hb hB (by decide)), s.sc.ho.fr hf (fun b hb' h => Own.ne_blk s.sc.ho hB (by decide) (h ▸ hb')), s.sc.one⟩, ?_, fun j z hz => ?_, s.one, fun b hb => by rw [set_fst hx]; exact s.hn b hb, fun k hk => Nat.lt_of_lt_of_le (s.zs k hk) hf.size, fun k hk => ?_⟩, hf.mono (fun k _ hk => by rw [hk]; exact hzx)⟩
  · rw [set_fst hx]
    exact s.ht.fr hf (fun b hb' h => Own.ne_blk s.ht hB (by decide) (h ▸ hb'))
  · rw [List.getElem?_set] at hz
    by_cases e : i = j
    · subst e; rw [if_pos rfl, if_pos hi] at hz; cases hz; exact hb
    · rw [if_neg e] at hz
      exact (s.tk j z hz).fr hf (fun h => e (s.inj hx hz h.symm))
  · rcases hk with h1 | h1 | h1 | h1 | h1 | ⟨z, hz, rfl⟩
    · exact s.zn _ (.inl h1)
    · exact s.zn _ (.inr (.inl h1))
    · exact s.zn _ (.inr (.inr (.inl h1)))
    · exact s.zn _ (.inr (.inr (.inr (.inl h1))))
    · exact s.zn _ (.inr (.inr (.inr (.inr (.inl h1)))))
    · rcases List.mem_or_eq_of_mem_set hz with h2 | rfl
      · exact s.zn _ (.inr (.inr (.inr (.inr (.inr ⟨z, h2, rfl⟩)))))
      · exact hzx
/-- the runtime's own record changes -/
theorem Rt.self {now' : Option Nat} {rest' : Int} (s : Rt Z w rb sb qb lv tv now rest ready ts) (hn : ∀ b, now' = some b → b ∈ ts.map (·.1)) (hf : Fr (fun k => k = rb) w w') (hb : Blk w'.heap rb [.pointer (some ⟨sb, 0, none⟩), tv, nowV now', .int .u64 rest'] 108) : Rt Z w' rb sb qb lv tv now' rest' ready ts ∧ Fr (fun k => ¬ Z k) w w' :=
  ⟨⟨hb, ⟨s.sc.hs.fr hf (Blk.ne_type s.sc.hs s.hr (by decide)), s.sc.hb.fr hf (Blk.ne_type s.sc.hb s.hr (by decide)), s.sc.ho.fr hf (fun b hb' h => Own.ne_blk s.sc.ho s.hr (by decide) (h ▸ hb')), s.sc.one⟩, s.ht.fr hf (fun b hb' h => Own.ne_blk s.ht s.hr (by decide) (h ▸ hb')), fun i x hx => (s.tk i x hx).fr hf (Blk.ne_type (s.tk i x hx) s.hr (by decide)), s.one, hn, fun k hk => Nat.lt_of_lt_of_le (s.zs k hk) hf.size, s.zn⟩, hf.mono (fun k _ hk => by rw [hk]; exact s.zn _ (.inl rfl))⟩
end
section
variable {Z : Nat → Prop} {w : World} {rb sb qb : Nat} {lv tv : Value} {now : Option Nat} {rest : Int} {ready : List Int} {ts : List (Nat × TK)}
theorem r_right (s : Rt Z w rb sb qb lv tv now rest ready ts) : Rets Tryz.prog 97 #[.pointer (some ⟨rb, 0, none⟩)] w fun u w' => w = w' ∧ u = .bool true := by
  have hr := s.hr
  refine rets_of Tryz.func97 rfl Tryz.ntmps97 rfl rfl (by kernel_rfl) ?_
  (apply vC_seq; apply vC_region; (refine vE rfl ?_); apply vL_nil; apply seqP_normal; apply vC_seq; apply vC_region; (iterate 15 (first | (refine vE rfl ?_) | ((with_reducible apply vL_val); (case h => ((with_reducible apply opv_loadb1); exact rfl; exact rfl; assumption; exact rfl))) | (refine vL_val (opv_fieldAddr rfl) ?_) | ((with_reducible apply vL_val); (case h => ((with_reducible apply opv_neq_pnil); exact rfl; exact rfl; (simp; done)))) | ((with_reducible apply vL_wanted); exact rfl))); apply vL_nil; apply seqP_normal; apply vC_ret)
  (apply ret1; (case h1 => (exact norm_eq rfl)))
  exact ⟨rfl, rfl⟩
theorem t_right {i : Int} {x : TK} {tb : Nat} (hb : Blk w.heap tb (tkL rb i x) 162) : Rets Tryz.prog 154 #[.pointer (some ⟨tb, 0, none⟩)] w fun u w' => w = w' ∧ u = .bool true := by
  refine rets_of Tryz.func154 rfl Tryz.ntmps154 rfl rfl (by kernel_rfl) ?_
  (apply vC_seq; apply vC_region; (refine vE rfl ?_); apply vL_nil; apply seqP_normal; apply vC_seq; apply vC_region; (iterate 15 (first | (refine vE rfl ?_) | ((with_reducible apply vL_val); (case h => ((with_reducible apply opv_loadb1); exact rfl; exact rfl; assumption; exact rfl))) | (refine vL_val (opv_fieldAddr rfl) ?_) | ((with_reducible apply vL_val); (case h => ((with_reducible apply opv_neq_pnil); exact rfl; exact rfl; (simp; done)))) | ((with_reducible apply vL_wanted); exact rfl))); apply vL_nil; apply seqP_normal; apply vC_ret)
  (apply ret1; (case h1 => (exact norm_eq rfl)))
  exact ⟨rfl, rfl⟩
theorem t_id {i : Int} {x : TK} {tb : Nat} (hb : Blk w.heap tb (tkL rb i x) 162) : Rets Tryz.prog 165 #[.pointer (some ⟨tb, 0, none⟩)] w fun u w' => w = w' ∧ u = .int .i64 i := by
  refine rets_of Tryz.func165 rfl Tryz.ntmps165 rfl rfl (by kernel_rfl) ?_
  (apply vC_seq; apply vC_region; (refine vE rfl ?_); apply vL_nil; apply seqP_normal; (iterate 2 (apply vC_seq)); apply vC_region; (refine vE rfl ?_))
  refine vL_callF rfl (t_right hb) rfl ?_
  rintro _ _ ⟨rfl, rfl⟩
  ((refine vL_val (opv_not rfl) ?_); apply vL_nil; apply seqP_normal; ((apply vC_cond_false); exact rfl); apply vC_skip; apply seqP_normal; apply vC_seq; apply vC_region; (iterate 2 ((refine vE rfl ?_))); (refine vL_val (opv_fieldAddr rfl) ?_); ((apply vL_val); (case h => ((apply opv_loadb1); exact rfl; exact rfl; assumption; exact rfl))); (refine vE rfl ?_); apply vL_nil; apply seqP_normal; apply vC_ret)
  (apply ret1; (case h1 => (exact norm_eq rfl)))
  exact ⟨rfl, rfl⟩
theorem t_over {i : Int} {x : TK} {tb : Nat} (hb : Blk w.heap tb (tkL rb i x) 162) : Rets Tryz.prog 106 #[.pointer (some ⟨tb, 0, none⟩)] w fun u w' => w = w' ∧ u = .bool x.over := by
  refine rets_of Tryz.func106 rfl Tryz.ntmps106 rfl rfl (by kernel_rfl) ?_
  (apply vC_seq; apply vC_region; (refine vE rfl ?_); apply vL_nil; apply seqP_normal; apply vC_seq; apply vC_region; (refine vE rfl ?_))
  refine vL_callF rfl (t_right hb) rfl ?_
  rintro _ _ ⟨rfl, rfl⟩
  ((iterate 11 (first | (refine vE rfl ?_) | ((with_reducible apply vL_val); (case h => ((with_reducible apply opv_loadb1); exact rfl; exact rfl; assumption; exact rfl))) | (refine vL_val (opv_fieldAddr rfl) ?_) | ((with_reducible apply vL_wanted); exact rfl))); apply vL_nil; apply seqP_normal; apply vC_ret)
  (apply ret1; (case h1 => (exact norm_eq rfl)))
  exact ⟨rfl, rfl⟩
theorem t_runtime {i : Int} {x : TK} {tb : Nat} (hb : Blk w.heap tb (tkL rb i x) 162) : Rets Tryz.prog 134 #[.pointer (some ⟨tb, 0, none⟩)] w fun u w' => w = w' ∧ u = .pointer (some ⟨rb, 0, none⟩) := by
  refine rets_of Tryz.func134 rfl Tryz.ntmps134 rfl rfl (by kernel_rfl) ?_
  (apply vC_seq; apply vC_region; (refine vE rfl ?_); apply vL_nil; apply seqP_normal; (iterate 2 (apply vC_seq)); apply vC_region; (refine vE rfl ?_))
  refine vL_callF rfl (t_right hb) rfl ?_
  rintro _ _ ⟨rfl, rfl⟩
  ((refine vL_val (opv_not rfl) ?_); apply vL_nil; apply seqP_normal; ((apply vC_cond_false); exact rfl); apply vC_skip; apply seqP_normal; apply vC_seq; apply vC_region; (iterate 2 ((refine vE rfl ?_))); (refine vL_val (opv_fieldAddr rfl) ?_); ((apply vL_val); (case h => ((apply opv_loadb1); exact rfl; exact rfl; assumption; exact rfl))); (refine vE rfl ?_); apply vL_nil; apply seqP_normal; apply vC_ret)
  (apply ret1; (case h1 => (exact norm_eq rfl)))
  exact ⟨rfl, rfl⟩
def mayE (none : Bool) (now : Option Nat) (x : Nat × TK) : Int := if none then 1 else if now = some x.1 then (if x.2.said then 151 else 0) else 152
theorem t_may (s : Rt Z w rb sb qb lv tv now rest ready ts) {i : Nat} {x} (hx : ts[i]? = some x) (none : Bool) : Rets Tryz.prog 153 #[.pointer (some ⟨x.1, 0, .none⟩), .bool none] w fun u w' => w = w' ∧ u = .int .i64 (mayE none now x) := by
  have hb := s.tk i x hx
  have hr := s.hr
  unfold mayE
  refine rets_of Tryz.func153 rfl Tryz.ntmps153 rfl rfl (by kernel_rfl) ?_
  (apply vC_seq; apply vC_region; (refine vE rfl ?_); apply vL_nil; apply seqP_normal; apply vC_seq; apply vC_block; apply vC_seq; apply vC_region; (refine vE rfl ?_))
  refine vL_callF rfl (t_right hb) rfl ?_
  rintro _ _ ⟨rfl, rfl⟩
  cases none with
  | true =>
    ((refine vL_val (opv_not rfl) ?_); (refine vE rfl ?_); ((apply vL_wanted); exact rfl); (iterate 3 ((refine vE rfl ?_))); apply vL_nil; apply seqP_normal; ((apply vC_cond_true); exact rfl); apply vC_seq; apply vC_region; (refine vE rfl ?_); apply vL_nil; apply seqP_normal; apply vC_ret; apply blockP_ret; apply seqP_ret)
    (apply ret1; (case h1 => (exact norm_eq rfl)))
    exact ⟨rfl, rfl⟩
  | false =>
  cases hn : now with
  | none =>
    rw [hn] at hr
    ((refine vL_val (opv_not rfl) ?_); (refine vE rfl ?_); ((apply vL_wanted); exact rfl); (iterate 3 ((refine vE rfl ?_))); apply vL_nil; apply seqP_normal; ((apply vC_cond_false); exact rfl); apply vC_seq; apply vC_region; (iterate 10 (first | (refine vE rfl ?_) | ((with_reducible apply vL_val); (case h => ((with_reducible apply opv_loadb1); exact rfl; exact rfl; assumption; exact rfl))) | (refine vL_val (opv_fieldAddr rfl) ?_) | ((with_reducible apply vL_val); (case h => ((with_reducible apply opv_neq_pnil); exact rfl; exact rfl; (simp; done)))))); apply vL_nil; apply seqP_normal; ((apply vC_cond_true); exact rfl); apply vC_seq; apply vC_region; (refine vE rfl ?_); apply vL_nil; apply seqP_normal; apply vC_ret; apply blockP_ret; apply seqP_ret)
    (apply ret1; (case h1 => (exact norm_eq rfl)))
    exact ⟨rfl, rfl⟩
  | some b =>
    rw [hn] at hr
    obtain ⟨y, hy, rfl⟩ := List.mem_map.1 (s.hn b hn)
    obtain ⟨j, hj, rfl⟩ := List.getElem_of_mem hy
    have hbj := s.tk j _ (List.getElem?_eq_getElem hj)
    generalize ts[j] = y at *
    by_cases hyx : y.1 = x.1
    · rw [if_neg (by simp), if_pos (by rw [hyx])]
      ((refine vL_val (opv_not rfl) ?_); (refine vE rfl ?_); ((apply vL_wanted); exact rfl); (iterate 3 ((refine vE rfl ?_))); apply vL_nil; apply seqP_normal; ((apply vC_cond_false); exact rfl); apply vC_seq; apply vC_region; (iterate 10 (first | (refine vE rfl ?_) | ((with_reducible apply vL_val); (case h => ((with_reducible apply opv_loadb1); exact rfl; exact rfl; assumption; exact rfl))) | (refine vL_val (opv_fieldAddr rfl) ?_) | ((with_reducible apply vL_val); (case h => ((with_reducible apply opv_neq_ptr); exact rfl; exact rfl; exact rfl; assumption; assumption))))); apply vL_nil; apply seqP_normal)
      refine vC_condF rfl (decide_eq_false (by simp [hyx])) ?_
      (apply vC_seq; apply vC_region; (iterate 2 ((refine vE rfl ?_))); (refine vL_val (opv_fieldAddr rfl) ?_); ((apply vL_val); (case h => ((apply opv_loadb1); exact rfl; exact rfl; assumption; exact rfl))); (refine vE rfl ?_); apply vL_nil; apply seqP_normal)
      cases hs : x.2.said with
      | true =>
        (((apply vC_cond_true); exact rfl); apply vC_seq; apply vC_region; (refine vE rfl ?_); apply vL_nil; apply seqP_normal; apply vC_ret; apply blockP_ret; apply seqP_ret)
        (apply ret1; (case h1 => (exact norm_eq rfl)))
        exact ⟨rfl, rfl⟩
      | false =>
        (((apply vC_cond_false); exact rfl); apply vC_skip; apply blockP_normal; apply seqP_normal; apply vC_seq; apply vC_region; (refine vE rfl ?_); apply vL_nil; apply seqP_normal; apply vC_ret)
        (apply ret1; (case h1 => (exact norm_eq rfl)))
        exact ⟨rfl, rfl⟩
    · rw [if_neg (by simp), if_neg (by simpa using hyx)]
      ((refine vL_val (opv_not rfl) ?_); (refine vE rfl ?_); ((apply vL_wanted); exact rfl); (iterate 3 ((refine vE rfl ?_))); apply vL_nil; apply seqP_normal; ((apply vC_cond_false); exact rfl); apply vC_seq; apply vC_region; (iterate 10 (first | (refine vE rfl ?_) | ((with_reducible apply vL_val); (case h => ((with_reducible apply opv_loadb1); exact rfl; exact rfl; assumption; exact rfl))) | (refine vL_val (opv_fieldAddr rfl) ?_) | ((with_reducible apply vL_val); (case h => ((with_reducible apply opv_neq_ptr); exact rfl; exact rfl; exact rfl; assumption; assumption))))); apply vL_nil; apply seqP_normal)
      refine vC_condT rfl (decide_eq_true (by simp [hyx])) ?_
      (apply vC_seq; apply vC_region; (refine vE rfl ?_); apply vL_nil; apply seqP_normal; apply vC_ret; apply blockP_ret; apply seqP_ret)
      (apply ret1; (case h1 => (exact norm_eq rfl)))
      exact ⟨rfl, rfl⟩
end
section
variable {Z : Nat → Prop} {w : World} {rb sb qb : Nat} {lv tv : Value} {now : Option Nat} {rest : Int} {ready : List Int} {ts : List (Nat × TK)}
theorem set_at {α : Type} {l : List α} {i : Nat} {x y : α} (h : l[i]? = some x) : (l.set i y)[i]? = some y := by
  rw [List.getElem?_set, if_pos rfl, if_pos (List.getElem?_eq_some_iff.1 h).1]
theorem t_again (s : Rt Z w rb sb qb lv tv now rest ready ts) {i : Nat} {x} (hx : ts[i]? = some x) (v : OV) (hl : ready.length ≤ 256) :
    Rets Tryz.prog 155 #[.pointer (some ⟨x.1, 0, none⟩), v.1] w fun u w' => ∃ lv', Rt Z w' rb sb qb lv' tv now rest (readyL ready i) (ts.set i (x.1, { x.2 with next := v, parked := false })) ∧ Fr (fun k => ¬ Z k) w w' := by
  have hb := s.tk i x hx
  have hv := v.2
  refine rets_of Tryz.func155 rfl Tryz.ntmps155 rfl rfl (by kernel_rfl) ?_
  (apply vC_seq; apply vC_region; (iterate 8 (first | (refine vE rfl ?_) | (refine vL_val (opv_fieldAddr rfl) ?_) | ((with_reducible apply vL_val); (case h => ((with_reducible apply opv_move); ((conv => lhs; whnf) <;> exact rfl)))) | ((with_reducible apply vL_skip); (case h => ((with_reducible apply ops_store1); exact norm_eq rfl; ((conv => lhs; whnf) <;> exact rfl); (first | rfl | assumption); assumption; (first | decide | exact of_decide_eq_true rfl | (simp; done))))))); ((apply vL_skip); (case h => ((apply ops_store1); exact norm_eq rfl; exact norm_eq rfl; (first | rfl | assumption); infer_instance; (first | decide | exact of_decide_eq_true rfl | (simp; done))))); apply vL_nil; apply seqP_normal)
  refine vC_gen (fun w' => Fr (fun k => k = x.1) w w' ∧ Blk w'.heap x.1 [.pointer (some ⟨rb, 0, none⟩), .int .i64 i, v.1, x.2.wake.1, .bool x.2.said, .bool false, .bool x.2.over] 162) ⟨((Fr.refl (fun k => k = x.1) w).set _ _ (.inl rfl)).set _ _ (.inl rfl), inferInstance⟩ ?_
  rintro w1 ⟨hf1, hb1⟩
  obtain ⟨s1, hz1⟩ := s.task (y := { x.2 with next := v, parked := false }) hx hf1 hb1
  have hr1 := s1.hr
  refine vC_draw' ((fun wf => Blk wf.heap x.1 [.pointer (some ⟨rb, 0, none⟩), .int .i64 i, v.1, x.2.wake.1, .bool x.2.said, .bool false, .bool x.2.over] 162 ∧ Blk wf.heap rb [.pointer (some ⟨sb, 0, none⟩), tv, nowV now, .int .u64 rest] 108)) (by refine ⟨?_, ?_⟩ <;> first | assumption | infer_instance) ?_
  (refine tkE 0 rfl (by kernel_rfl) (by refine ⟨?_, ?_⟩ <;> first | assumption | infer_instance) rfl ?_)
  (refine tkE 1 rfl (by kernel_rfl) (by refine ⟨?_, ?_⟩ <;> first | assumption | infer_instance) rfl ?_)
  (refine tk 2 rfl (by kernel_rfl) (by refine ⟨?_, ?_⟩ <;> first | assumption | infer_instance) (by rintro wf ⟨hwa, hwb⟩; (((apply opv_fieldAddr); exact rfl))) ?_)
  (refine tk 3 rfl (by kernel_rfl) (by refine ⟨?_, ?_⟩ <;> first | assumption | infer_instance) (by rintro wf ⟨hwa, hwb⟩; (((apply opv_loadb1); exact rfl; exact rfl; assumption; exact rfl))) ?_)
  (refine tkE 4 rfl (by kernel_rfl) (by refine ⟨?_, ?_⟩ <;> first | assumption | infer_instance) rfl ?_)
  (refine tk 5 rfl (by kernel_rfl) (by refine ⟨?_, ?_⟩ <;> first | assumption | infer_instance) (by rintro wf ⟨hwa, hwb⟩; (((apply opv_fieldAddr); exact rfl))) ?_)
  (refine tk 6 rfl (by kernel_rfl) (by refine ⟨?_, ?_⟩ <;> first | assumption | infer_instance) (by rintro wf ⟨hwa, hwb⟩; (((apply opv_loadb1); exact rfl; exact rfl; assumption; exact rfl))) ?_)
  (refine tkE 7 rfl (by kernel_rfl) (by refine ⟨?_, ?_⟩ <;> first | assumption | infer_instance) rfl ?_)
  (refine tkE 8 rfl (by kernel_rfl) (by refine ⟨?_, ?_⟩ <;> first | assumption | infer_instance) rfl ?_)
  (refine tk 9 rfl (by kernel_rfl) (by refine ⟨?_, ?_⟩ <;> first | assumption | infer_instance) (by rintro wf ⟨hwa, hwb⟩; (((apply opv_fieldAddr); exact rfl))) ?_)
  (refine tk 10 rfl (by kernel_rfl) (by refine ⟨?_, ?_⟩ <;> first | assumption | infer_instance) (by rintro wf ⟨hwa, hwb⟩; (((apply opv_loadb1); exact rfl; exact rfl; assumption; exact rfl))) ?_)
  refine tkc 11 rfl (by kernel_rfl) (by refine ⟨?_, ?_⟩ <;> first | assumption | infer_instance) rfl (s_ready sb qb lv ready i _ (s1.sc.frN (Fr.refl No _).drew) hl) rfl ?_
  rintro _ w2 ⟨rfl, lv', hsc⟩
  obtain ⟨s2, hz2⟩ := s1.line (hsc.after (Fr.refl No _).drew)
  have hb2 : Blk w2.heap x.1 [.pointer (some ⟨rb, 0, none⟩), .int .i64 i, v.1, x.2.wake.1, .bool x.2.said, .bool false, .bool x.2.over] 162 := s2.tk i _ (set_at hx)
  have hr2 := s2.hr
  refine vA_done (by kernel_rfl) (by refine ⟨?_, ?_⟩ <;> first | assumption | infer_instance) ?_
  skip
  (first | apply ret0 | apply ret0n)
  exact ⟨lv', s2, hz1.trans hz2⟩
theorem t_yield (s : Rt Z w rb sb qb lv tv now rest ready ts) {i : Nat} {x} (hx : ts[i]? = some x) (f : FuncId) (cap : Array Value) (hl : ready.length ≤ 256) :
    Rets Tryz.prog 168 #[.pointer (some ⟨x.1, 0, none⟩), .func (.func f) #[] cap] w fun u w' => u = .int .i64 (mayE false now x) ∧ ((mayE false now x ≠ 0 ∧ w = w') ∨
      (mayE false now x = 0 ∧ ∃ lv', Rt Z w' rb sb qb lv' tv now rest (readyL ready i) (ts.set i (x.1, { x.2 with next := ⟨.func (.func f) #[] cap, rfl⟩, said := true, parked := false })) ∧ Fr (fun k => ¬ Z k) w w')) := by
  have hb := s.tk i x hx
  refine rets_of Tryz.func168 rfl Tryz.ntmps168 rfl rfl (by kernel_rfl) ?_
  (apply vC_seq; apply vC_region; (refine vE rfl ?_); apply vL_nil; apply seqP_normal; (iterate 2 (apply vC_seq)); apply vC_region; (iterate 2 ((refine vE rfl ?_))); (refine vL_val (opv_eql_fnil rfl rfl) ?_))
  refine vL_callF rfl (t_may s hx false) rfl ?_
  rintro _ _ ⟨rfl, rfl⟩
  ((refine vE rfl ?_); apply vL_nil; apply seqP_normal; apply vC_seq; apply vC_region; (iterate 2 ((refine vE rfl ?_))); apply vL_nil; apply seqP_normal)
  refine vC_cond_dec rfl (fun hc => ?_) (fun hc => ?_)
  · (apply vC_seq; apply vC_region; (iterate 2 ((refine vE rfl ?_))); apply vL_nil; apply seqP_normal; apply vC_ret; apply seqP_ret)
    (apply ret1; (case h1 => (exact norm_eq rfl)))
    exact ⟨rfl, .inl ⟨hc, rfl⟩⟩
  · have hc0 : mayE false now x = 0 := by simpa using hc
    (apply vC_skip; apply seqP_normal; apply vC_seq; apply vC_region; (iterate 2 ((refine vE rfl ?_))); (refine vL_val (opv_fieldAddr rfl) ?_); ((apply vL_skip); (case h => ((apply ops_store1); exact norm_eq rfl; exact norm_eq rfl; (first | rfl | assumption); assumption; (first | decide | exact of_decide_eq_true rfl | (simp; done))))); apply vL_nil; apply seqP_normal; apply vC_seq; apply vC_region; (iterate 2 ((refine vE rfl ?_))))
    refine vL_gen (fun w' => Fr (fun k => k = x.1) w w' ∧ Blk w'.heap x.1 [.pointer (some ⟨rb, 0, none⟩), .int .i64 i, x.2.next.1, x.2.wake.1, .bool true, .bool x.2.parked, .bool x.2.over] 162) ⟨(Fr.refl (fun k => k = x.1) w).set _ _ (.inl rfl), inferInstance⟩ ?_
    rintro w1 ⟨hf1, hb1⟩
    obtain ⟨s1, hz1⟩ := s.task (y := { x.2 with said := true }) hx hf1 hb1
    refine vL_callF rfl (t_again s1 (set_at hx) ⟨.func (.func f) #[] cap, rfl⟩ hl) rfl ?_
    rintro _ w2 ⟨lv', s2, hz2⟩
    rw [List.set_set] at s2
    (apply vL_nil; apply seqP_normal; apply vC_seq; apply vC_region; (refine vE rfl ?_); apply vL_nil; apply seqP_normal; apply vC_ret)
    (apply ret1; (case h1 => (exact norm_eq rfl)))
    exact ⟨by rw [hc0], .inr ⟨hc0, lv', s2, hz1.trans hz2⟩⟩
theorem t_park (s : Rt Z w rb sb qb lv tv now rest ready ts) {i : Nat} {x} (hx : ts[i]? = some x) (f : FuncId) (cap : Array Value) :
    Rets Tryz.prog 89 #[.pointer (some ⟨x.1, 0, none⟩), .func (.func f) #[] cap] w fun u w' => u = .int .i64 (mayE false now x) ∧ ((mayE false now x ≠ 0 ∧ w = w') ∨
      (mayE false now x = 0 ∧ Rt Z w' rb sb qb lv tv now rest ready (ts.set i (x.1, { x.2 with wake := ⟨.func (.func f) #[] cap, rfl⟩, said := true, parked := true })) ∧ Fr (fun k => ¬ Z k) w w')) := by
  have hb := s.tk i x hx
  refine rets_of Tryz.func89 rfl Tryz.ntmps89 rfl rfl (by kernel_rfl) ?_
  (apply vC_seq; apply vC_region; (refine vE rfl ?_); apply vL_nil; apply seqP_normal; (iterate 2 (apply vC_seq)); apply vC_region; (iterate 2 ((refine vE rfl ?_))); (refine vL_val (opv_eql_fnil rfl rfl) ?_))
  refine vL_callF rfl (t_may s hx false) rfl ?_
  rintro _ _ ⟨rfl, rfl⟩
  ((refine vE rfl ?_); apply vL_nil; apply seqP_normal; apply vC_seq; apply vC_region; (iterate 2 ((refine vE rfl ?_))); apply vL_nil; apply seqP_normal)
  refine vC_cond_dec rfl (fun hc => ?_) (fun hc => ?_)
  · (apply vC_seq; apply vC_region; (iterate 2 ((refine vE rfl ?_))); apply vL_nil; apply seqP_normal; apply vC_ret; apply seqP_ret)
    (apply ret1; (case h1 => (exact norm_eq rfl)))
    exact ⟨rfl, .inl ⟨hc, rfl⟩⟩
  · have hc0 : mayE false now x = 0 := by simpa using hc
    (apply vC_skip; (iterate 23 (first | with_reducible apply vC_seq | with_reducible apply vC_region | with_reducible apply seqP_normal | (refine vE rfl ?_) | (refine vL_val (opv_fieldAddr rfl) ?_) | with_reducible apply vL_nil | ((with_reducible apply vL_skip); (case h => ((with_reducible apply ops_store1); exact norm_eq rfl; exact norm_eq rfl; (first | rfl | assumption); assumption; (first | decide | exact of_decide_eq_true rfl | (simp; done))))) | ((with_reducible apply vL_skip); (case h => ((with_reducible apply ops_store1); exact norm_eq rfl; exact norm_eq rfl; (first | rfl | assumption); infer_instance; (first | decide | exact of_decide_eq_true rfl | (simp; done))))))); apply vC_ret)
    (apply ret1; (case h1 => (exact norm_eq rfl)))
    refine ⟨by rw [hc0], .inr ⟨hc0, ?_⟩⟩
    exact s.task (y := { x.2 with wake := ⟨.func (.func f) #[] cap, rfl⟩, said := true, parked := true }) hx ((((Fr.refl (fun k => k = x.1) w).set _ _ (.inl rfl)).set _ _ (.inl rfl)).set _ _ (.inl rfl)) (show Blk _ x.1 [.pointer (some ⟨rb, 0, none⟩), .int .i64 i, x.2.next.1, .func (.func f) #[] cap, .bool true, .bool true, .bool x.2.over] 162 from inferInstance)
end
section
variable {Z : Nat → Prop} {w : World} {rb sb qb : Nat} {lv tv : Value} {now : Option Nat} {rest : Int} {ready : List Int} {ts : List (Nat × TK)}
theorem t_wake (s : Rt Z w rb sb qb lv tv now rest ready ts) {i : Nat} {x} (hx : ts[i]? = some x) (why : Int) (hl : ready.length ≤ 256) :
    Rets Tryz.prog 91 #[.pointer (some ⟨x.1, 0, none⟩), .int .i64 why] w fun u w' => (x.2.parked = false ∧ u = .int .i64 152 ∧ Fr No w w') ∨
      (x.2.parked = true ∧ u = .int .i64 0 ∧ ∃ lv' fb yb, w.heap.size ≤ fb ∧ w.heap.size ≤ yb ∧ Blk w'.heap fb [x.2.wake.1] 135 ∧ Blk w'.heap yb [.int .i64 why] 3 ∧ Fr (fun k => ¬ Z k) w w' ∧
        Rt (fun k => Z k ∨ k = fb ∨ k = yb) w' rb sb qb lv' tv now rest (readyL ready i) (ts.set i (x.1, { x.2 with next := ⟨.func (.func 156) #[] #[.pointer (some ⟨fb, 0, none⟩), .pointer (some ⟨yb, 0, none⟩)], rfl⟩, parked := false }))) := by
  have hb := s.tk i x hx
  have hw := x.2.wake.2
  refine rets_of Tryz.func91 rfl Tryz.ntmps91 rfl rfl (by kernel_rfl) ?_
  (apply vC_seq; apply vC_region; ((apply vL_val); (case h => ((apply opw_box1); exact norm_eq rfl; (first | rfl | assumption)))); (refine vE rfl ?_); apply vL_nil; apply seqP_normal; apply vC_seq; apply vC_block; apply vC_seq; apply vC_region; (refine vE rfl ?_))
  refine vL_gen (fun w' => Fr No w w' ∧ Blk w'.heap w.heap.size [.int .i64 why] 3 ∧ w'.heap.size = w.heap.size + 1) ⟨by (apply Fr.alloc; exact Fr.refl _ _), inferInstance, by simp⟩ ?_
  rintro w1 ⟨hf1, hy1, hs1⟩
  have hb1 := hb.frN hf1
  refine vL_callF rfl (t_right hb1) rfl ?_
  rintro _ _ ⟨rfl, rfl⟩
  ((refine vL_val (opv_not rfl) ?_); (refine vE rfl ?_); apply vL_nil; apply seqP_normal; ((apply vC_cond_false); exact rfl); apply vC_seq; apply vC_region; (iterate 2 ((refine vE rfl ?_))); (refine vL_val (opv_fieldAddr rfl) ?_); ((apply vL_val); (case h => ((apply opv_loadb1); exact rfl; exact rfl; assumption; exact rfl))); (refine vL_val (opv_not rfl) ?_); (refine vE rfl ?_); apply vL_nil; apply seqP_normal)
  cases hp : x.2.parked with
  | false =>
    rw [tkL, hp] at hb1
    (((apply vC_cond_true); exact rfl); apply vC_seq; apply vC_region; (refine vE rfl ?_); apply vL_nil; apply seqP_normal; apply vC_ret; apply blockP_ret; apply seqP_ret)
    (apply ret1; (case h1 => (exact norm_eq rfl)))
    exact .inl ⟨rfl, rfl, hf1⟩
  | true =>
    rw [tkL, hp] at hb1
    (((apply vC_cond_false); exact rfl); apply vC_skip; apply blockP_normal; apply seqP_normal; apply vC_seq; apply vC_region; (iterate 2 ((refine vE rfl ?_))); (refine vL_val (opv_fieldAddr rfl) ?_); ((apply vL_val); (case h => ((apply opv_loadb1); exact rfl; exact rfl; assumption; exact rfl))); ((apply vL_val); (case h => (apply opw_alloc))); ((apply vL_skip); (case h => ((apply ops_store1); exact norm_eq rfl; ((conv => lhs; whnf) <;> exact rfl); (first | rfl | assumption); infer_instance; (first | decide | exact of_decide_eq_true rfl | (simp; done))))); apply vL_nil; apply seqP_normal; apply vC_seq; apply vC_region; (refine vE rfl ?_); (refine vL_val (opv_makeFunc rfl) ?_))
    refine vL_gen (fun w' => Fr No w w' ∧ Blk w'.heap w.heap.size [.int .i64 why] 3 ∧ Blk w'.heap w1.heap.size [x.2.wake.1] 135) ⟨hf1.trans (by (apply Fr.allocSet; exact Fr.refl _ _)), inferInstance, inferInstance⟩ ?_
    rintro w2 ⟨hf2, hy2, hk2⟩
    have s2 : Rt (fun k => Z k ∨ k = w1.heap.size ∨ k = w.heap.size) w2 rb sb qb lv tv now rest ready ts := s.fr hf2.no_any (fun k hk => by
      rcases hk with h | rfl | rfl
      · exact ⟨Nat.lt_of_lt_of_le (s.zs k h) hf2.size, .inl h⟩
      · exact ⟨hk2.lt, .inr hf1.size⟩
      · exact ⟨hy2.lt, .inr (Nat.le_refl _)⟩)
    refine vL_callF rfl (t_again s2 hx ⟨.func (.func 156) #[] #[.pointer (some ⟨w1.heap.size, 0, none⟩), .pointer (some ⟨w.heap.size, 0, none⟩)], rfl⟩ hl) rfl ?_
    rintro _ w3 ⟨lv', s3, hz3⟩
    (apply vL_nil; apply seqP_normal; apply vC_seq; apply vC_region; (refine vE rfl ?_); apply vL_nil; apply seqP_normal; apply vC_ret)
    (apply ret1; (case h1 => (exact norm_eq rfl)))
    exact .inr ⟨rfl, rfl, lv', w1.heap.size, w.heap.size, hf1.size, Nat.le_refl _, hk2.fr hz3 (fun h => h (.inr (.inl rfl))), hy2.fr hz3 (fun h => h (.inr (.inr rfl))), hf2.no_any.trans (hz3.mono (fun k _ h h' => h (.inl h'))), s3⟩
theorem r_ready (s : Rt Z w rb sb qb lv tv now rest ready ts) (hl : ready.length ≤ 256) : Rets Tryz.prog 51 #[.pointer (some ⟨rb, 0, none⟩)] w fun u w' => Fr No w w' ∧ Own w'.heap 3 1 iE u ready ∧ (∀ b, own u = some b → w.heap.size ≤ b) ∧ u.oneCell' = true := by
  have hr := s.hr
  refine rets_of Tryz.func51 rfl Tryz.ntmps51 rfl rfl (by kernel_rfl) ?_
  (apply vC_seq; apply vC_region; (refine vE rfl ?_); apply vL_nil; apply seqP_normal; (iterate 2 (apply vC_seq)); apply vC_region; (refine vE rfl ?_))
  refine vL_callF rfl (r_right s) rfl ?_
  rintro _ _ ⟨rfl, rfl⟩
  ((refine vL_val (opv_not rfl) ?_); apply vL_nil; apply seqP_normal; ((apply vC_cond_false); exact rfl); apply vC_skip; apply seqP_normal; apply vC_seq; apply vC_region; (iterate 2 ((refine vE rfl ?_))); (refine vL_val (opv_fieldAddr rfl) ?_); ((apply vL_val); (case h => ((apply opv_loadb1); exact rfl; exact rfl; assumption; exact rfl))))
  refine vL_callF rfl (s_list sb qb lv ready _ s.sc hl) rfl ?_
  rintro v w1 ⟨hf1, ho1, hfr1, hone1⟩
  obtain ⟨va, vn, vc, rfl⟩ := ho1.isSlice
  ((refine vE rfl ?_); apply vL_nil; apply seqP_normal; apply vC_ret)
  (apply ret1; (case h1 => (exact norm_eq rfl)))
  exact ⟨hf1, ho1, hfr1, rfl⟩
end
end Go.Proofs.YtbaidcnalkdhgaaGreat
set_option maxRecDepth 100000
namespace Go.Proofs.YtbaidcnalkdhgaaGreat
open Go Go.Eng
section
variable {Z : Nat → Prop} {w : World} {rb sb qb : Nat} {lv tv : Value} {now : Option Nat} {rest : Int} {ready : List Int} {ts : List (Nat × TK)}
def parkedIn (ts : List (Nat × TK)) (k : Nat) : List Int := ((List.range k).filter fun i => (ts[i]?).elim false (·.2.parked)).map fun (n : Nat) => (n : Int)
theorem parkedIn_next {k : Nat} {x} (hx : ts[k]? = some x) : parkedIn ts (k + 1) = if x.2.parked then parkedIn ts k ++ [(k : Int)] else parkedIn ts k := by
  unfold parkedIn
  rw [List.range_succ, List.filter_append, List.map_append]
  cases h : x.2.parked <;> simp [hx, h]
theorem parkedIn_len (ts : List (Nat × TK)) (k : Nat) : (parkedIn ts k).length ≤ k := by
  unfold parkedIn
  rw [List.length_map]
  exact Nat.le_trans (List.length_filter_le _ _) (by simp)
theorem r_parked (s : Rt Z w rb sb qb lv tv now rest ready ts) (hl : ts.length ≤ 1000000) : Rets Tryz.prog 105 #[.pointer (some ⟨rb, 0, none⟩)] w fun u w' => Fr No w w' ∧ Own w'.heap 3 1 iE u (parkedIn ts ts.length) ∧ (∀ b, own u = some b → w.heap.size ≤ b) ∧ u.oneCell' = true := by
  have hr := s.hr
  have ht := s.ht
  have hone := s.one
  have hml : (ts.map (·.1)).length = ts.length := List.length_map ..
  refine rets_of Tryz.func105 rfl Tryz.ntmps105 rfl rfl (by kernel_rfl) ?_
  (apply vC_seq; apply vC_region; (refine vE rfl ?_); apply vL_nil; apply seqP_normal; (iterate 2 (apply vC_seq)); apply vC_region; (refine vE rfl ?_))
  refine vL_callF rfl (r_right s) rfl ?_
  rintro _ _ ⟨rfl, rfl⟩
  ((refine vL_val (opv_not rfl) ?_); apply vL_nil; apply seqP_normal; ((apply vC_cond_false); exact rfl); apply vC_skip; apply seqP_normal; apply vC_seq; apply vC_region; (refine vE rfl ?_); apply vL_nil; apply seqP_normal; (iterate 2 (apply vC_seq)); apply vC_region; (iterate 2 ((refine vE rfl ?_))); (refine vL_val (opv_fieldAddr rfl) ?_); ((apply vL_val); (case h => ((apply opv_loadb1); exact rfl; exact rfl; assumption; exact rfl))); ((apply vL_val); (case h => ((apply opv_len); ((conv => lhs; whnf) <;> exact rfl); infer_instance))); (refine vE rfl ?_); apply vL_nil; apply seqP_normal; apply vC_block)
  (apply vC_loop2 1073725480 14 3 (fun u v3 w' => ∃ k : Nat, u = .int .i64 (k : Int) ∧ k ≤ ts.length ∧ Fr No w w' ∧ Own w'.heap 3 1 iE v3 (parkedIn ts k) ∧ (∀ b, own v3 = some b → w.heap.size ≤ b) ∧ v3.oneCell' = true) (fun u _ _ => ts.length - (RowKit.intOf u).toNat)); (case h1 => (exact norm_eq rfl)); (case h2 => (exact norm_eq rfl))
  case h0 => exact ⟨0, rfl, by omega, Fr.refl _ _, Own.nil _ _ _ _, fun b hb => (by cases hb), rfl⟩
  case round =>
  rintro junk _ v3 w1 ⟨k, rfl, hk, hf1, ho1, hfr1, hone1⟩
  have ht1 := ht.frN hf1
  by_cases hkl : k < ts.length
  · obtain ⟨x, hx⟩ : ∃ x, ts[k]? = some x := ⟨ts[k], by simp [hkl]⟩
    have hg : (ts.map (·.1))[((k : Nat) : Int).toNat]? = some x.1 := by rw [Int.toNat_natCast, List.getElem?_map, hx]; rfl
    have hb := (s.tk k x hx).frN hf1
    have hnx := parkedIn_next hx
    have hpl := parkedIn_len ts k
    rw [tkL] at hb
    (apply vC_seq; apply vC_region; (refine vE rfl ?_); apply vL_nil; apply seqP_normal; apply vC_seq; (refine vC_cond_dec rfl (fun _ => ?_) (fun h => by omega)); apply vC_skip; apply seqP_normal; apply vC_seq; apply vC_block; apply vC_seq; apply vC_region; ((apply vL_val); (case h => ((apply opv_indexAddr); ((conv => lhs; whnf) <;> exact rfl); exact rfl; infer_instance; (first | omega | (simp only [List.length_map]; omega)); (first | omega | (simp only [List.length_map]; omega))))); ((apply vL_val); (case h => ((apply opv_ld_el); exact rfl; exact rfl; infer_instance; assumption; exact rfl))); (refine vE rfl ?_); apply vL_nil; apply seqP_normal; apply vC_seq; apply vC_region; (iterate 2 ((refine vE rfl ?_))); (refine vL_val (opv_fieldAddr rfl) ?_); ((apply vL_val); (case h => ((apply opv_loadb1); exact rfl; exact rfl; assumption; exact rfl))); apply vL_nil; apply seqP_normal)
    cases hp : x.2.parked with
    | false =>
      rw [hp] at hb hnx
      (((apply vC_cond_false); exact rfl); apply vC_skip; apply blockP_normal; apply seqP_normal; apply vC_region; ((apply vL_val); (case h => ((apply opv_add); exact rfl; exact rfl; (first | omega | (simp only [List.length_map]; omega))))); (refine vE rfl ?_); apply vL_nil; apply loopP_normal)
      (with_reducible apply end2); (case hs => ((iterate 10 (((refine same_updO ?_ ?_); rotate_left; exact rfl))); (iterate 2 (((refine same_upd ?_ ?_); rotate_left; exact rfl))); (exact same_mask _ _ _))); (case h1 => (exact norm_eq rfl)); (case h2 => (((conv => lhs; whnf) <;> exact rfl)))
      · exact ⟨k + 1, rfl, by omega, hf1, by rw [hnx]; exact ho1, hfr1, hone1⟩
      · simp [RowKit.intOf]; omega
    | true =>
      rw [hp] at hb hnx
      (((apply vC_cond_true); exact rfl); apply vC_region; ((apply vL_val); (case h => ((apply opv_move); ((conv => lhs; whnf) <;> exact rfl)))); (iterate 2 ((refine vE rfl ?_))); (refine vL_val (opv_fieldAddr rfl) ?_); ((apply vL_val); (case h => ((apply opv_loadb1); exact rfl; exact rfl; assumption; exact rfl))); ((apply vL_val); (case h => ((apply opw_buildSl); exact rfl; exact rfl; exact rfl; exact (rfl : _ = some [_])))))
      refine vL_append (enc := iE) (xs := parkedIn ts k) (ys := [(k : Int)]) (by (((conv => lhs; whnf) <;> exact rfl))) (by (exact norm_eq rfl)) (Own.alloc ho1) (Rd.new1 _ _ rfl) rfl (by decide) ?_ ?_ ?_
      · simp [maxLen]; omega
      · simp; omega
      intro v' w2 ho2 hf2 hfr2 hone2 _
      have hfB : Fr No w w2 := (hf1.alloc _).trans' hf2 (fun i hi => .inr (hfr1 i hi))
      (((apply vL_val); (case h => ((apply opv_assign); ((conv => lhs; whnf) <;> exact rfl)))); apply vL_nil; apply blockP_normal; apply seqP_normal; apply vC_region; ((apply vL_val); (case h => ((apply opv_add); exact rfl; exact rfl; (first | omega | (simp only [List.length_map]; omega))))); (refine vE rfl ?_); apply vL_nil; apply loopP_normal)
      (with_reducible apply end2); (case hs => ((iterate 18 (((refine same_updO ?_ ?_); rotate_left; exact rfl))); (iterate 2 (((refine same_upd ?_ ?_); rotate_left; exact rfl))); (exact same_mask _ _ _))); (case h1 => (exact norm_eq rfl)); (case h2 => (((conv => lhs; whnf) <;> exact rfl)))
      · refine ⟨k + 1, rfl, by omega, hfB, by rw [hnx]; exact ho2, fun b hb => ?_, hone2⟩
        rcases hfr2 b hb with h | h
        · exact hfr1 b h
        · have := hf1.size; rw [alloc_size] at h; omega
      · simp [RowKit.intOf]; omega
  · have e : k = ts.length := by omega
    subst e
    obtain ⟨va, vn, vc, rfl⟩ := ho1.isSlice
    (apply vC_seq; apply vC_region; (refine vE rfl ?_); apply vL_nil; apply seqP_normal; apply vC_seq; (refine vC_cond_dec rfl (fun h => by omega) (fun _ => ?_)); apply vC_exit; apply seqP_exit; apply loopP_exit; apply blockP_exit; apply seqP_normal; apply vC_seq; apply vC_region; (iterate 2 ((refine vE rfl ?_))); apply vL_nil; apply seqP_normal; apply vC_ret)
    (apply ret1; (case h1 => (exact norm_eq rfl)))
    exact ⟨hf1, ho1, hfr1, rfl⟩
end
section
variable {Z Z' : Nat → Prop} {w w' : World} {rb sb qb : Nat} {lv tv : Value} {now : Option Nat} {rest : Int} {ready : List Int} {ts : List (Nat × TK)}
def openIn (ts : List (Nat × TK)) (k : Nat) : Nat := ((ts.take k).filter fun x => !x.2.over).length
theorem openIn_next {k : Nat} {x} (hx : ts[k]? = some x) : openIn ts (k + 1) = if x.2.over then openIn ts k else openIn ts k + 1 := by
  unfold openIn
  rw [take_next hx, List.filter_append]
  cases h : x.2.over <;> simp [h]
theorem openIn_le (ts : List (Nat × TK)) (k : Nat) : openIn ts k ≤ k := by
  unfold openIn
  refine Nat.le_trans (List.length_filter_le _ _) ?_
  rw [List.length_take]
  exact Nat.min_le_left _ _
/-- one task more -/
theorem Rt.push {tv' : Value} {tb : Nat} {y : TK} (s : Rt Z w rb sb qb lv tv now rest ready ts) (hz : Z tb) (hb : Blk w.heap tb (tkL rb ts.length y) 162) (hf : Fr (fun k => own tv = some k ∨ k = rb) w w')
    (hr : Blk w'.heap rb [.pointer (some ⟨sb, 0, none⟩), tv', nowV now, .int .u64 rest] 108) (ho : Own w'.heap 34 1 ptE tv' (ts.map (·.1) ++ [tb])) (hone : tv'.oneCell' = true) (hl : ∀ k, own tv' = some k → own tv = some k ∨ w.heap.size ≤ k)
    (hz' : ∀ k, Z' k → Z k ∧ k ≠ tb) : Rt Z' w' rb sb qb lv tv' now rest ready (ts ++ [(tb, y)]) ∧ Fr (fun k => ¬ Z k) w w' := by
  have n1 : ∀ {b c T}, Blk w.heap b c T → T ≠ 34 → T ≠ 108 → ¬ (own tv = some b ∨ b = rb) := fun hB h1 h2 h => by
    rcases h with h | h
    · exact Own.ne_blk s.ht hB (fun e => h1 e.symm) h
    · exact Blk.ne_type hB s.hr h2 h
  refine ⟨⟨hr, ⟨s.sc.hs.fr hf (n1 s.sc.hs (by decide) (by decide)), s.sc.hb.fr hf (n1 s.sc.hb (by decide) (by decide)), s.sc.ho.fr hf (fun b hb' h => ?_), s.sc.one⟩, by rw [List.map_append]; exact ho, fun i x hx => ?_, hone, fun b hb' => by rw [List.map_append]; exact List.mem_append_left _ (s.hn b hb'), fun k hk => Nat.lt_of_lt_of_le (s.zs k (hz' k hk).1) hf.size, fun k hk hk' => ?_⟩, hf.mono (fun k _ hk => ?_)⟩
  · rcases h with h | h
    · exact Own.ne_own s.sc.ho s.ht (by decide) b hb' h
    · exact Own.ne_blk s.sc.ho s.hr (by decide) (h ▸ hb')
  · by_cases hi : i < ts.length
    · rw [List.getElem?_append_left hi] at hx
      exact (s.tk i x hx).fr hf (n1 (s.tk i x hx) (by decide) (by decide))
    · have hle := (List.getElem?_eq_some_iff.1 hx).1
      have : i = ts.length := by simp at hle; omega
      subst this
      rw [List.getElem?_append_right (Nat.le_refl _), Nat.sub_self] at hx
      cases hx
      exact hb.fr hf (n1 hb (by decide) (by decide))
  · obtain ⟨h1, h2⟩ := hz' k hk'
    rcases hk with rfl | rfl | rfl | h | h | ⟨x, hx, rfl⟩
    · exact s.zn _ (.inl rfl) h1
    · exact s.zn _ (.inr (.inl rfl)) h1
    · exact s.zn _ (.inr (.inr (.inl rfl))) h1
    · exact s.zn _ (.inr (.inr (.inr (.inl h)))) h1
    · rcases hl k h with h3 | h3
      · exact s.zn _ (.inr (.inr (.inr (.inr (.inl h3))))) h1
      · have := s.zs k h1; omega
    · rcases List.mem_append.1 hx with h3 | h3
      · exact s.zn _ (.inr (.inr (.inr (.inr (.inr ⟨x, h3, rfl⟩))))) h1
      · rw [List.mem_singleton] at h3
        subst h3
        exact h2 rfl
  · rcases hk with h | rfl
    · exact s.zn _ (.inr (.inr (.inr (.inr (.inl h)))))
    · exact s.zn _ (.inl rfl)
end
section
variable {Z : Nat → Prop} {w : World} {rb sb qb : Nat} {lv tv : Value} {now : Option Nat} {rest : Int} {ready : List Int} {ts : List (Nat × TK)}
/-- a new task -/
def newT (fb tx : Nat) : TK := ⟨⟨.func (.func 98) #[] #[.pointer (some ⟨fb, 0, none⟩), .pointer (some ⟨tx, 0, none⟩)], rfl⟩, ⟨.nilFunc, rfl⟩, false, false, false⟩
theorem r_spawn (s : Rt Z w rb sb qb lv tv now rest ready ts) (g : FuncId) (cap : Array Value) (hl : ready.length ≤ 256) (hlt : ts.length ≤ 1000000) :
    Rets Tryz.prog 22 #[.pointer (some ⟨rb, 0, none⟩), .func (.func g) #[] cap] w fun u w' => (256 ≤ openIn ts ts.length ∧ u = .tuple #[.pointer none, .int .i64 5] ∧ Fr No w w') ∨
      (openIn ts ts.length < 256 ∧ ∃ tb fb tx lv' tv', u = .tuple #[.pointer (some ⟨tb, 0, none⟩), .int .i64 0] ∧ w.heap.size ≤ tb ∧ w.heap.size ≤ fb ∧ w.heap.size ≤ tx ∧ Blk w'.heap fb [.func (.func g) #[] cap] 37 ∧ Blk w'.heap tx [.pointer (some ⟨tb, 0, none⟩)] 34 ∧ Fr (fun k => ¬ Z k) w w' ∧
        Rt (fun k => Z k ∨ k = fb ∨ k = tx) w' rb sb qb lv' tv' now rest (readyL ready ts.length) (ts ++ [(tb, newT fb tx)])) := by
  refine rets_of Tryz.func22 rfl Tryz.ntmps22 rfl rfl (by kernel_rfl) ?_
  (apply vC_seq; apply vC_region; ((apply vL_val); (case h => ((apply opw_box1); exact norm_eq rfl; (first | rfl | assumption)))); (iterate 2 ((refine vE rfl ?_))); apply vL_nil; apply seqP_normal; (iterate 2 (apply vC_seq)); apply vC_region; (refine vE rfl ?_))
  refine vL_gen (fun w' => Fr No w w' ∧ Blk w'.heap w.heap.size [.func (.func g) #[] cap] 37) ⟨by (apply Fr.alloc; exact Fr.refl _ _), inferInstance⟩ ?_
  rintro w1 ⟨hf1, hfb1⟩
  have s1 := s.frN hf1
  have hr1 := s1.hr
  have ht1 := s1.ht
  have hone := s.one
  have hml : (ts.map (·.1)).length = ts.length := List.length_map ..
  refine vL_callF rfl (r_right s1) rfl ?_
  rintro _ _ ⟨rfl, rfl⟩
  ((refine vL_val (opv_not rfl) ?_); (refine vE rfl ?_); ((apply vL_wanted); exact rfl); ((apply vL_val); (case h => ((apply opv_loadb1); exact rfl; exact rfl; assumption; exact rfl))); ((apply vL_wanted); exact rfl); (refine vL_val (opv_eql_fnil rfl rfl) ?_); (iterate 16 (first | with_reducible apply vC_seq | with_reducible apply vC_region | with_reducible apply seqP_normal | with_reducible apply vC_skip | ((with_reducible apply vC_cond_false); exact rfl) | (refine vE rfl ?_) | with_reducible apply vL_nil)); (refine vL_val (opv_fieldAddr rfl) ?_); ((apply vL_val); (case h => ((apply opv_loadb1); exact rfl; exact rfl; assumption; exact rfl))); ((apply vL_val); (case h => ((apply opv_len); ((conv => lhs; whnf) <;> exact rfl); infer_instance))); (refine vE rfl ?_); apply vL_nil; apply seqP_normal; apply vC_block)
  (apply vC_loop2 17175675200 22 6 (fun u u6 w' => ∃ k : Nat, u = .int .i64 (k : Int) ∧ u6 = .int .i64 ((openIn ts k : Nat) : Int) ∧ k ≤ ts.length ∧ w1 = w') (fun u _ _ => ts.length - (RowKit.intOf u).toNat)); (case h1 => (exact norm_eq rfl)); (case h2 => (exact norm_eq rfl))
  case h0 => exact ⟨0, rfl, rfl, by omega, rfl⟩
  case round =>
  rintro junk _ _ _ ⟨k, rfl, rfl, hk, rfl⟩
  have hol := openIn_le ts k
  by_cases hkl : k < ts.length
  · obtain ⟨x, hx⟩ : ∃ x, ts[k]? = some x := ⟨ts[k], by simp [hkl]⟩
    have hg : (ts.map (·.1))[((k : Nat) : Int).toNat]? = some x.1 := by rw [Int.toNat_natCast, List.getElem?_map, hx]; rfl
    have hb := s1.tk k x hx
    have hnx := openIn_next hx
    rw [tkL] at hb
    (apply vC_seq; apply vC_region; (refine vE rfl ?_); apply vL_nil; apply seqP_normal; apply vC_seq; (refine vC_cond_dec rfl (fun _ => ?_) (fun h => by omega)); apply vC_skip; apply seqP_normal; apply vC_seq; apply vC_block; apply vC_seq; apply vC_region; ((apply vL_val); (case h => ((apply opv_indexAddr); ((conv => lhs; whnf) <;> exact rfl); exact rfl; infer_instance; (first | omega | (simp only [List.length_map]; omega)); (first | omega | (simp only [List.length_map]; omega))))); ((apply vL_val); (case h => ((apply opv_ld_el); exact rfl; exact rfl; infer_instance; assumption; exact rfl))); (refine vE rfl ?_); apply vL_nil; apply seqP_normal; apply vC_seq; apply vC_region; (iterate 2 ((refine vE rfl ?_))); (refine vL_val (opv_fieldAddr rfl) ?_); ((apply vL_val); (case h => ((apply opv_loadb1); exact rfl; exact rfl; assumption; exact rfl))); (refine vL_val (opv_not rfl) ?_); apply vL_nil; apply seqP_normal)
    cases hp : x.2.over with
    | true =>
      rw [hp] at hb hnx
      (((apply vC_cond_false); exact rfl); apply vC_skip; apply blockP_normal; apply seqP_normal; apply vC_region; ((apply vL_val); (case h => ((apply opv_add); exact rfl; exact rfl; (first | omega | (simp only [List.length_map]; omega))))); (refine vE rfl ?_); apply vL_nil; apply loopP_normal)
      (with_reducible apply end2); (case hs => ((iterate 11 (((refine same_updO ?_ ?_); rotate_left; exact rfl))); (iterate 2 (((refine same_upd ?_ ?_); rotate_left; exact rfl))); (exact same_mask _ _ _))); (case h1 => (exact norm_eq rfl)); (case h2 => (exact norm_eq rfl))
      · exact ⟨k + 1, rfl, by rw [hnx]; rfl, by omega, rfl⟩
      · simp [RowKit.intOf]; omega
    | false =>
      rw [hp] at hb hnx
      (((apply vC_cond_true); exact rfl); (iterate 11 (first | with_reducible apply vC_region | with_reducible apply seqP_normal | with_reducible apply blockP_normal | (refine vE rfl ?_) | ((with_reducible apply vL_val); (case h => ((with_reducible apply opv_add); exact rfl; exact rfl; (first | omega | (simp only [List.length_map]; omega))))) | with_reducible apply vL_nil)); apply loopP_normal)
      (with_reducible apply end2); (case hs => ((iterate 14 (((refine same_updO ?_ ?_); rotate_left; exact rfl))); (iterate 2 (((refine same_upd ?_ ?_); rotate_left; exact rfl))); (exact same_mask _ _ _))); (case h1 => (exact norm_eq rfl)); (case h2 => (exact norm_eq rfl))
      · exact ⟨k + 1, rfl, by rw [hnx]; rfl, by omega, rfl⟩
      · simp [RowKit.intOf]; omega
  have e : k = ts.length := by omega
  subst e
  by_cases hfull : 256 ≤ openIn ts ts.length
  · (apply vC_seq; apply vC_region; (refine vE rfl ?_); apply vL_nil; apply seqP_normal; apply vC_seq; (refine vC_cond_dec rfl (fun h => by omega) (fun _ => ?_)); apply vC_exit; apply seqP_exit; apply loopP_exit; apply blockP_exit; (iterate 15 (first | with_reducible apply vC_seq | with_reducible apply vC_region | with_reducible apply seqP_normal | (refine vE rfl ?_) | with_reducible apply vL_nil | (refine vC_cond_dec rfl (fun _ => ?_) (fun h => by omega)))); apply vC_ret; apply seqP_ret)
    (apply ret2; (case h1 => (exact norm_eq rfl)); (case h2 => (exact norm_eq rfl)))
    exact .inl ⟨hfull, rfl, hf1⟩
  (apply vC_seq; apply vC_region; (refine vE rfl ?_); apply vL_nil; apply seqP_normal; apply vC_seq; (refine vC_cond_dec rfl (fun h => by omega) (fun _ => ?_)); apply vC_exit; apply seqP_exit; apply loopP_exit; apply blockP_exit; apply seqP_normal; (iterate 2 (apply vC_seq)); apply vC_region; (iterate 2 ((refine vE rfl ?_))); apply vL_nil; apply seqP_normal; (refine vC_cond_dec rfl (fun h => by omega) (fun _ => ?_)); apply vC_skip; apply seqP_normal; apply vC_seq; apply vC_region; (iterate 3 ((refine vE rfl ?_))); (refine vL_val (opv_fieldAddr rfl) ?_); ((apply vL_val); (case h => ((apply opv_loadb1); exact rfl; exact rfl; assumption; exact rfl))); ((apply vL_val); (case h => ((apply opv_len); ((conv => lhs; whnf) <;> exact rfl); infer_instance))); ((apply vL_val); (case h => ((apply opv_buildS); exact rfl; exact (rfl : _ = some [_, _, _, _, _, _, _])))); (refine vL_val (opw_boxn rfl) ?_); ((apply vL_val); (case h => (apply opw_alloc))); ((apply vL_skip); (case h => ((apply ops_store1); exact norm_eq rfl; exact norm_eq rfl; (first | rfl | assumption); infer_instance; (first | decide | exact of_decide_eq_true rfl | (simp; done))))); apply vL_nil; apply seqP_normal; apply vC_seq; apply vC_region; ((apply vL_val); (case h => ((apply opv_loadb1); exact rfl; exact rfl; infer_instance; exact rfl))); (refine vL_val (opv_makeFunc rfl) ?_); (refine vE rfl ?_); (refine vL_val (opv_fieldAddr rfl) ?_); ((apply vL_skip); (case h => ((apply ops_store1); exact norm_eq rfl; exact norm_eq rfl; (first | rfl | assumption); infer_instance; (first | decide | exact of_decide_eq_true rfl | (simp; done))))); apply vL_nil; apply seqP_normal; apply vC_seq)
  have hne : w1.heap.size ≠ (w1.alloc (.cells #[.pointer (some ⟨rb, 0, none⟩), .int .i64 ((ts.map (·.1)).length : Nat), .nilFunc, .nilFunc, .bool false, .bool false, .bool false] 162)).heap.size := by rw [alloc_size]; omega
  haveI hn1 : NeB w1.heap.size (w1.alloc (.cells #[.pointer (some ⟨rb, 0, none⟩), .int .i64 ((ts.map (·.1)).length : Nat), .nilFunc, .nilFunc, .bool false, .bool false, .bool false] 162)).heap.size := ⟨hne⟩
  haveI hn2 : NeB (w1.alloc (.cells #[.pointer (some ⟨rb, 0, none⟩), .int .i64 ((ts.map (·.1)).length : Nat), .nilFunc, .nilFunc, .bool false, .bool false, .bool false] 162)).heap.size w1.heap.size := ⟨fun h => hne h.symm⟩
  refine vC_gen (fun w' => Fr No w1 w' ∧ Blk w'.heap w1.heap.size [.pointer (some ⟨rb, 0, none⟩), .int .i64 ((ts.map (·.1)).length : Nat), .func (.func 98) #[] #[.pointer (some ⟨w.heap.size, 0, none⟩), .pointer (some ⟨(w1.alloc (.cells #[.pointer (some ⟨rb, 0, none⟩), .int .i64 ((ts.map (·.1)).length : Nat), .nilFunc, .nilFunc, .bool false, .bool false, .bool false] 162)).heap.size, 0, none⟩)], .nilFunc, .bool false, .bool false, .bool false] 162 ∧ Blk w'.heap (w1.alloc (.cells #[.pointer (some ⟨rb, 0, none⟩), .int .i64 ((ts.map (·.1)).length : Nat), .nilFunc, .nilFunc, .bool false, .bool false, .bool false] 162)).heap.size [.pointer (some ⟨w1.heap.size, 0, none⟩)] 34) ⟨by (((apply Fr.set); rotate_left; (right; ((try simp only [alloc_size]); omega))); apply Fr.allocSet; apply Fr.alloc; exact Fr.refl _ _), Blk.as inferInstance rfl, inferInstance⟩ ?_
  rintro w2 ⟨hf2, htb2, htx2⟩
  have hsz2 : w1.heap.size ≤ (w1.alloc (.cells #[.pointer (some ⟨rb, 0, none⟩), .int .i64 ((ts.map (·.1)).length : Nat), .nilFunc, .nilFunc, .bool false, .bool false, .bool false] 162)).heap.size := by rw [alloc_size]; omega
  clear hn1 hn2
  generalize (w1.alloc (.cells #[.pointer (some ⟨rb, 0, none⟩), .int .i64 ((ts.map (·.1)).length : Nat), .nilFunc, .nilFunc, .bool false, .bool false, .bool false] 162)).heap.size = tx at *
  rw [hml] at htb2
  have hfb2 := hfb1.frN hf2
  have hw1 := hf1.size
  have s2 : Rt (fun k => Z k ∨ k = w.heap.size ∨ k = tx ∨ k = w1.heap.size) w2 rb sb qb lv tv now rest ready ts := s.fr (hf1.trans hf2).no_any (fun k hk => by
    rcases hk with h | rfl | rfl | rfl
    · exact ⟨Nat.lt_of_lt_of_le (s1.zs k h) hf2.size, .inl h⟩
    · exact ⟨hfb2.lt, .inr (Nat.le_refl _)⟩
    · exact ⟨htx2.lt, .inr (Nat.le_trans hw1 hsz2)⟩
    · exact ⟨htb2.lt, .inr hw1⟩)
  have hr2 := s2.hr
  have ht2 := s2.ht
  refine vC_draw' ((fun wf => Blk wf.heap tx [.pointer (some ⟨w1.heap.size, 0, none⟩)] 34)) (by first | assumption | infer_instance) ?_
  (refine tkE 0 rfl (by kernel_rfl) (by first | assumption | infer_instance) rfl ?_)
  (refine tkE 1 rfl (by kernel_rfl) (by first | assumption | infer_instance) rfl ?_)
  (refine tkE 2 rfl (by kernel_rfl) (by first | assumption | infer_instance) rfl ?_)
  (refine tk 3 rfl (by kernel_rfl) (by first | assumption | infer_instance) (by intro wf hwf; (try dsimp only at hwf); (((apply opv_fieldAddr); exact rfl))) ?_)
  (refine tk 5 rfl (by kernel_rfl) (by first | assumption | infer_instance) (by intro wf hwf; (try dsimp only at hwf); (((apply opv_loadb1); exact rfl; exact rfl; assumption; exact rfl))) ?_)
  refine vA_two 4 6 rfl rfl (by kernel_rfl) (by first | assumption | infer_instance) (fun K hK => ?_) (fun K hK => ?_)
  · (((apply vL_val); (case h => ((apply opv_loadb1); exact rfl; exact rfl; assumption; exact rfl))); apply vL_nil)
    refine ⟨rfl, hK _ _ ?_⟩
    refine vA_only 6 rfl (by kernel_rfl) (by first | assumption | infer_instance) (fun K hK => ?_)
    (((apply vL_val); (case h => ((apply opw_buildSl); exact rfl; exact rfl; exact rfl; exact (rfl : _ = some [_])))); apply vL_nil)
    refine ⟨rfl, hK _ _ ?_⟩
    refine vA_only 7 rfl (by kernel_rfl) (by first | assumption | infer_instance) (fun K hK => ?_)
    refine vL_append (enc := ptE) (xs := ts.map (·.1)) (ys := [w1.heap.size]) (T := 34) (sz := 1) (by (((conv => lhs; whnf) <;> exact rfl))) (by (exact norm_eq rfl)) (Own.alloc (ht2.frN ((Fr.refl No _).drew))) (Rd.new1 _ _ rfl) rfl (by decide) ?_ ?_ ?_
    · simp [maxLen]; omega
    · simp; omega
    intro tv' w3 ho3 hf3 hfr3 hone3 _
    have hfa : Fr (fun j => own tv = some j) w2 w3 := (((Fr.refl _ w2).drew).alloc _).trans' hf3 (fun i hi => .inl hi)
    have hr3 := hr2.fr hfa (fun h => Own.ne_blk ht2 hr2 (by decide) h)
    have htx3 := htx2.fr hfa (fun h => s2.zn _ (.inr (.inr (.inr (.inr (.inl h))))) (.inr (.inr (.inl rfl))))
    refine vL_nil ⟨rfl, hK _ _ ?_⟩
    (refine tkE 8 rfl (by kernel_rfl) (by first | assumption | infer_instance) rfl ?_)
    (refine tk 9 rfl (by kernel_rfl) (by first | assumption | infer_instance) (by intro wf hwf; (try dsimp only at hwf); (((apply opv_fieldAddr); exact rfl))) ?_)
    refine vA_only 10 rfl (by kernel_rfl) (by first | assumption | infer_instance) (fun K hK => ?_)
    have hone3' := hone3
    (((apply vL_skip); (case h => ((apply ops_store1); exact norm_eq rfl; ((conv => lhs; whnf) <;> exact rfl); (first | rfl | assumption); assumption; (first | decide | exact of_decide_eq_true rfl | (simp; done))))); apply vL_nil)
    refine ⟨rfl, hK _ _ ?_⟩
    obtain ⟨s4, hz4⟩ := s2.push (w' := w3.setRow rb [.pointer (some ⟨sb, 0, none⟩), tv', nowV now, .int .u64 rest].toArray) (Z' := fun k => Z k ∨ k = w.heap.size ∨ k = tx) (tv' := tv') (y := newT w.heap.size tx) (.inr (.inr (.inr rfl))) htb2 ((hfa.mono (fun k _ h => .inl h)).set _ _ (.inl (.inr rfl))) (show Blk _ rb [.pointer (some ⟨sb, 0, none⟩), tv', nowV now, .int .u64 rest] 108 from inferInstance) (ho3.set (Own.ne_blk ho3 hr3 (by decide))) hone3 (fun k hk => (hfr3 k hk).imp id (fun h => by rw [alloc_size] at h; exact Nat.le_trans (Nat.le_succ _) h)) (fun k hk => by
      rcases hk with h | rfl | rfl
      · exact ⟨.inl h, fun e => by have := s.zs k h; omega⟩
      · exact ⟨.inr (.inl rfl), fun e => by have := hfb1.lt; omega⟩
      · exact ⟨.inr (.inr (.inl rfl)), fun e => hne e.symm⟩)
    haveI hnt : NeB tx rb := ⟨Blk.ne_type htx3 hr3 (by decide)⟩
    refine vA_done (by kernel_rfl) (by first | assumption | infer_instance) ?_
    (apply seqP_normal; apply vC_seq)
    refine vC_gen (fun w' => Rt (fun k => Z k ∨ k = w.heap.size ∨ k = tx) w' rb sb qb lv tv' now rest ready (ts ++ [(w1.heap.size, newT w.heap.size tx)]) ∧ Fr (fun k => ¬ (Z k ∨ k = w.heap.size ∨ k = tx ∨ k = w1.heap.size)) w2 w') ⟨s4, hz4⟩ ?_
    clear s4 hz4
    rintro w4 ⟨s4, hz4⟩
    have hr4 := s4.hr
    have htx4 := htx2.fr hz4 (fun h => h (.inr (.inr (.inl rfl))))
    have htb4 := s4.tk ts.length _ (by rw [List.getElem?_append_right (Nat.le_refl _), Nat.sub_self]; rfl)
    rw [tkL, newT] at htb4
    refine vC_draw' ((fun wf => Blk wf.heap tx [.pointer (some ⟨w1.heap.size, 0, none⟩)] 34 ∧ Blk wf.heap rb [.pointer (some ⟨sb, 0, none⟩), tv', nowV now, .int .u64 rest] 108 ∧ Blk wf.heap w1.heap.size [.pointer (some ⟨rb, 0, none⟩), .int .i64 ts.length, .func (.func 98) #[] #[.pointer (some ⟨w.heap.size, 0, none⟩), .pointer (some ⟨tx, 0, none⟩)], .nilFunc, .bool false, .bool false, .bool false] 162)) (by refine ⟨?_, ?_, ?_⟩ <;> first | assumption | infer_instance) ?_
    (refine tkE 0 rfl (by kernel_rfl) (by refine ⟨?_, ?_, ?_⟩ <;> first | assumption | infer_instance) rfl ?_)
    (refine tkE 1 rfl (by kernel_rfl) (by refine ⟨?_, ?_, ?_⟩ <;> first | assumption | infer_instance) rfl ?_)
    (refine tk 2 rfl (by kernel_rfl) (by refine ⟨?_, ?_, ?_⟩ <;> first | assumption | infer_instance) (by rintro wf ⟨hwa, hwb, hwc⟩; (((apply opv_fieldAddr); exact rfl))) ?_)
    (refine tk 3 rfl (by kernel_rfl) (by refine ⟨?_, ?_, ?_⟩ <;> first | assumption | infer_instance) (by rintro wf ⟨hwa, hwb, hwc⟩; (((apply opv_loadb1); exact rfl; exact rfl; assumption; exact rfl))) ?_)
    (refine tk 4 rfl (by kernel_rfl) (by refine ⟨?_, ?_, ?_⟩ <;> first | assumption | infer_instance) (by rintro wf ⟨hwa, hwb, hwc⟩; (((apply opv_loadb1); exact rfl; exact rfl; assumption; exact rfl))) ?_)
    (refine tkE 5 rfl (by kernel_rfl) (by refine ⟨?_, ?_, ?_⟩ <;> first | assumption | infer_instance) rfl ?_)
    (refine tk 6 rfl (by kernel_rfl) (by refine ⟨?_, ?_, ?_⟩ <;> first | assumption | infer_instance) (by rintro wf ⟨hwa, hwb, hwc⟩; (((apply opv_fieldAddr); exact rfl))) ?_)
    (refine tk 7 rfl (by kernel_rfl) (by refine ⟨?_, ?_, ?_⟩ <;> first | assumption | infer_instance) (by rintro wf ⟨hwa, hwb, hwc⟩; (((apply opv_loadb1); exact rfl; exact rfl; assumption; exact rfl))) ?_)
    refine tkc 8 rfl (by kernel_rfl) (by refine ⟨?_, ?_, ?_⟩ <;> first | assumption | infer_instance) rfl (s_ready sb qb lv ready ts.length _ (s4.sc.frN (Fr.refl No _).drew) hl) rfl ?_
    rintro _ w5 ⟨rfl, lv', hsc⟩
    obtain ⟨s5, hz5⟩ := s4.line (hsc.after (Fr.refl No _).drew)
    have hr5 := s5.hr
    have htx5 := htx4.fr hz5 (fun h => h (.inr (.inr rfl)))
    have htb5 : Blk w5.heap w1.heap.size [.pointer (some ⟨rb, 0, none⟩), .int .i64 ts.length, .func (.func 98) #[] #[.pointer (some ⟨w.heap.size, 0, none⟩), .pointer (some ⟨tx, 0, none⟩)], .nilFunc, .bool false, .bool false, .bool false] 162 := s5.tk ts.length _ (by rw [List.getElem?_append_right (Nat.le_refl _), Nat.sub_self]; rfl)
    refine vA_done (by kernel_rfl) (by refine ⟨?_, ?_, ?_⟩ <;> first | assumption | infer_instance) ?_
    (apply seqP_normal; apply vC_seq; apply vC_region; ((apply vL_val); (case h => ((apply opv_loadb1); exact rfl; exact rfl; assumption; exact rfl))); (iterate 2 ((refine vE rfl ?_))); apply vL_nil; apply seqP_normal; apply vC_ret)
    (apply ret2; (case h1 => (exact norm_eq rfl)); (case h2 => (exact norm_eq rfl)))
    exact .inr ⟨by omega, w1.heap.size, w.heap.size, tx, lv', tv', rfl, hw1, Nat.le_refl _, Nat.le_trans hw1 hsz2, (hfb2.fr hz4 (fun h => h (.inr (.inl rfl)))).fr hz5 (fun h => h (.inr (.inl rfl))), htx5, ((hf1.trans hf2).no_any.trans (hz4.mono (fun k _ h h' => h (.inl h')))).trans (hz5.mono (fun k _ h h' => h (.inl h'))), s5⟩
  · (((apply vL_val); (case h => ((apply opw_buildSl); exact rfl; exact rfl; exact rfl; exact (rfl : _ = some [_])))); apply vL_nil)
    refine ⟨rfl, hK _ _ ?_⟩
    refine vA_only 4 rfl (by kernel_rfl) (by first | assumption | infer_instance) (fun K hK => ?_)
    (((apply vL_val); (case h => ((apply opv_loadb1); exact rfl; exact rfl; infer_instance; exact rfl))); apply vL_nil)
    refine ⟨rfl, hK _ _ ?_⟩
    refine vA_only 7 rfl (by kernel_rfl) (by first | assumption | infer_instance) (fun K hK => ?_)
    refine vL_append (enc := ptE) (xs := ts.map (·.1)) (ys := [w1.heap.size]) (T := 34) (sz := 1) (by (((conv => lhs; whnf) <;> exact rfl))) (by (exact norm_eq rfl)) (Own.alloc (ht2.frN ((Fr.refl No _).drew))) (Rd.new1 _ _ rfl) rfl (by decide) ?_ ?_ ?_
    · simp [maxLen]; omega
    · simp; omega
    intro tv' w3 ho3 hf3 hfr3 hone3 _
    have hfa : Fr (fun j => own tv = some j) w2 w3 := (((Fr.refl _ w2).drew).alloc _).trans' hf3 (fun i hi => .inl hi)
    have hr3 := hr2.fr hfa (fun h => Own.ne_blk ht2 hr2 (by decide) h)
    have htx3 := htx2.fr hfa (fun h => s2.zn _ (.inr (.inr (.inr (.inr (.inl h))))) (.inr (.inr (.inl rfl))))
    refine vL_nil ⟨rfl, hK _ _ ?_⟩
    (refine tkE 8 rfl (by kernel_rfl) (by first | assumption | infer_instance) rfl ?_)
    (refine tk 9 rfl (by kernel_rfl) (by first | assumption | infer_instance) (by intro wf hwf; (try dsimp only at hwf); (((apply opv_fieldAddr); exact rfl))) ?_)
    refine vA_only 10 rfl (by kernel_rfl) (by first | assumption | infer_instance) (fun K hK => ?_)
    have hone3' := hone3
    (((apply vL_skip); (case h => ((apply ops_store1); exact norm_eq rfl; ((conv => lhs; whnf) <;> exact rfl); (first | rfl | assumption); assumption; (first | decide | exact of_decide_eq_true rfl | (simp; done))))); apply vL_nil)
    refine ⟨rfl, hK _ _ ?_⟩
    obtain ⟨s4, hz4⟩ := s2.push (w' := w3.setRow rb [.pointer (some ⟨sb, 0, none⟩), tv', nowV now, .int .u64 rest].toArray) (Z' := fun k => Z k ∨ k = w.heap.size ∨ k = tx) (tv' := tv') (y := newT w.heap.size tx) (.inr (.inr (.inr rfl))) htb2 ((hfa.mono (fun k _ h => .inl h)).set _ _ (.inl (.inr rfl))) (show Blk _ rb [.pointer (some ⟨sb, 0, none⟩), tv', nowV now, .int .u64 rest] 108 from inferInstance) (ho3.set (Own.ne_blk ho3 hr3 (by decide))) hone3 (fun k hk => (hfr3 k hk).imp id (fun h => by rw [alloc_size] at h; exact Nat.le_trans (Nat.le_succ _) h)) (fun k hk => by
      rcases hk with h | rfl | rfl
      · exact ⟨.inl h, fun e => by have := s.zs k h; omega⟩
      · exact ⟨.inr (.inl rfl), fun e => by have := hfb1.lt; omega⟩
      · exact ⟨.inr (.inr (.inl rfl)), fun e => hne e.symm⟩)
    haveI hnt : NeB tx rb := ⟨Blk.ne_type htx3 hr3 (by decide)⟩
    refine vA_done (by kernel_rfl) (by first | assumption | infer_instance) ?_
    (apply seqP_normal; apply vC_seq)
    refine vC_gen (fun w' => Rt (fun k => Z k ∨ k = w.heap.size ∨ k = tx) w' rb sb qb lv tv' now rest ready (ts ++ [(w1.heap.size, newT w.heap.size tx)]) ∧ Fr (fun k => ¬ (Z k ∨ k = w.heap.size ∨ k = tx ∨ k = w1.heap.size)) w2 w') ⟨s4, hz4⟩ ?_
    clear s4 hz4
    rintro w4 ⟨s4, hz4⟩
    have hr4 := s4.hr
    have htx4 := htx2.fr hz4 (fun h => h (.inr (.inr (.inl rfl))))
    have htb4 := s4.tk ts.length _ (by rw [List.getElem?_append_right (Nat.le_refl _), Nat.sub_self]; rfl)
    rw [tkL, newT] at htb4
    refine vC_draw' ((fun wf => Blk wf.heap tx [.pointer (some ⟨w1.heap.size, 0, none⟩)] 34 ∧ Blk wf.heap rb [.pointer (some ⟨sb, 0, none⟩), tv', nowV now, .int .u64 rest] 108 ∧ Blk wf.heap w1.heap.size [.pointer (some ⟨rb, 0, none⟩), .int .i64 ts.length, .func (.func 98) #[] #[.pointer (some ⟨w.heap.size, 0, none⟩), .pointer (some ⟨tx, 0, none⟩)], .nilFunc, .bool false, .bool false, .bool false] 162)) (by refine ⟨?_, ?_, ?_⟩ <;> first | assumption | infer_instance) ?_
    (refine tkE 0 rfl (by kernel_rfl) (by refine ⟨?_, ?_, ?_⟩ <;> first | assumption | infer_instance) rfl ?_)
    (refine tkE 1 rfl (by kernel_rfl) (by refine ⟨?_, ?_, ?_⟩ <;> first | assumption | infer_instance) rfl ?_)
    (refine tk 2 rfl (by kernel_rfl) (by refine ⟨?_, ?_, ?_⟩ <;> first | assumption | infer_instance) (by rintro wf ⟨hwa, hwb, hwc⟩; (((apply opv_fieldAddr); exact rfl))) ?_)
    (refine tk 3 rfl (by kernel_rfl) (by refine ⟨?_, ?_, ?_⟩ <;> first | assumption | infer_instance) (by rintro wf ⟨hwa, hwb, hwc⟩; (((apply opv_loadb1); exact rfl; exact rfl; assumption; exact rfl))) ?_)
    (refine tk 4 rfl (by kernel_rfl) (by refine ⟨?_, ?_, ?_⟩ <;> first | assumption | infer_instance) (by rintro wf ⟨hwa, hwb, hwc⟩; (((apply opv_loadb1); exact rfl; exact rfl; assumption; exact rfl))) ?_)
    (refine tkE 5 rfl (by kernel_rfl) (by refine ⟨?_, ?_, ?_⟩ <;> first | assumption | infer_instance) rfl ?_)
    (refine tk 6 rfl (by kernel_rfl) (by refine ⟨?_, ?_, ?_⟩ <;> first | assumption | infer_instance) (by rintro wf ⟨hwa, hwb, hwc⟩; (((apply opv_fieldAddr); exact rfl))) ?_)
    (refine tk 7 rfl (by kernel_rfl) (by refine ⟨?_, ?_, ?_⟩ <;> first | assumption | infer_instance) (by rintro wf ⟨hwa, hwb, hwc⟩; (((apply opv_loadb1); exact rfl; exact rfl; assumption; exact rfl))) ?_)
    refine tkc 8 rfl (by kernel_rfl) (by refine ⟨?_, ?_, ?_⟩ <;> first | assumption | infer_instance) rfl (s_ready sb qb lv ready ts.length _ (s4.sc.frN (Fr.refl No _).drew) hl) rfl ?_
    rintro _ w5 ⟨rfl, lv', hsc⟩
    obtain ⟨s5, hz5⟩ := s4.line (hsc.after (Fr.refl No _).drew)
    have hr5 := s5.hr
    have htx5 := htx4.fr hz5 (fun h => h (.inr (.inr rfl)))
    have htb5 : Blk w5.heap w1.heap.size [.pointer (some ⟨rb, 0, none⟩), .int .i64 ts.length, .func (.func 98) #[] #[.pointer (some ⟨w.heap.size, 0, none⟩), .pointer (some ⟨tx, 0, none⟩)], .nilFunc, .bool false, .bool false, .bool false] 162 := s5.tk ts.length _ (by rw [List.getElem?_append_right (Nat.le_refl _), Nat.sub_self]; rfl)
    refine vA_done (by kernel_rfl) (by refine ⟨?_, ?_, ?_⟩ <;> first | assumption | infer_instance) ?_
    (apply seqP_normal; apply vC_seq; apply vC_region; ((apply vL_val); (case h => ((apply opv_loadb1); exact rfl; exact rfl; assumption; exact rfl))); (iterate 2 ((refine vE rfl ?_))); apply vL_nil; apply seqP_normal; apply vC_ret)
    (apply ret2; (case h1 => (exact norm_eq rfl)); (case h2 => (exact norm_eq rfl)))
    exact .inr ⟨by omega, w1.heap.size, w.heap.size, tx, lv', tv', rfl, hw1, Nat.le_refl _, Nat.le_trans hw1 hsz2, (hfb2.fr hz4 (fun h => h (.inr (.inl rfl)))).fr hz5 (fun h => h (.inr (.inl rfl))), htx5, ((hf1.trans hf2).no_any.trans (hz4.mono (fun k _ h h' => h (.inl h')))).trans (hz5.mono (fun k _ h h' => h (.inl h'))), s5⟩
end
section
variable {Z : Nat → Prop} {w : World} {rb sb qb : Nat} {lv tv : Value} {rest : Int} {ready : List Int} {ts : List (Nat × TK)}
theorem r_step_none (s : Rt Z w rb sb qb lv tv none rest [] ts) (p : Int) (hp : 0 ≤ p ∧ p ≤ 18446744073709551615) :
    Rets Tryz.prog 24 #[.pointer (some ⟨rb, 0, none⟩), .int .u64 p] w fun u w' => w = w' ∧ u = .bool false := by
  have hr := s.hr
  refine rets_of Tryz.func24 rfl Tryz.ntmps24 rfl rfl (by kernel_rfl) ?_
  (apply vC_seq; apply vC_region; (refine vE rfl ?_); apply vL_nil; apply seqP_normal; (iterate 2 (apply vC_seq)); apply vC_region; (refine vE rfl ?_))
  refine vL_callF rfl (r_right s) rfl ?_
  rintro _ _ ⟨rfl, rfl⟩
  ((refine vL_val (opv_not rfl) ?_); (iterate 12 (first | (refine vE rfl ?_) | ((with_reducible apply vL_val); (case h => ((with_reducible apply opv_loadb1); exact rfl; exact rfl; assumption; exact rfl))) | (refine vL_val (opv_fieldAddr rfl) ?_) | ((with_reducible apply vL_val); (case h => ((with_reducible apply opv_neq_pnil); exact rfl; exact rfl; (simp; done)))) | ((with_reducible apply vL_wanted); exact rfl))); apply vL_nil; apply seqP_normal; ((apply vC_cond_false); exact rfl); apply vC_skip; apply seqP_normal; apply vC_seq; apply vC_region; (iterate 2 ((refine vE rfl ?_))); (refine vL_val (opv_fieldAddr rfl) ?_); ((apply vL_val); (case h => ((apply opv_loadb1); exact rfl; exact rfl; assumption; exact rfl))); (refine vE rfl ?_))
  refine vL_callF rfl (s_pick sb qb lv [] p w s.sc (by decide) hp) rfl ?_
  rintro _ w1 (⟨_, rfl, rfl⟩ | ⟨z, lv1, hz, rfl, hsc⟩)
  · ((iterate 22 (first | with_reducible apply vC_seq | with_reducible apply vC_region | with_reducible apply seqP_normal | ((with_reducible apply vC_cond_true); exact rfl) | (refine vE rfl ?_) | (refine vL_val (opv_not rfl) ?_) | with_reducible apply vL_nil)); apply vC_ret; apply seqP_ret)
    (apply ret1; (case h1 => (exact norm_eq rfl)))
    exact ⟨rfl, rfl⟩
  · simp at hz
theorem r_step (s : Rt Z w rb sb qb lv tv none rest ready ts) (p : Int) (hp : 0 ≤ p ∧ p ≤ 18446744073709551615) (hl : ready.length ≤ 256) {i : Nat} {x : Nat × TK} (hid : ready[(p % ready.length).toNat]? = some (i : Int)) (hx : ts[i]? = some x)
    {g : FuncId} [FnOk Tryz.prog g] (cap : List Value) (hnext : x.2.next.1 = .func (.func g) #[] cap.toArray) (H : World → (Nat → Prop) → List Int → List (Nat × TK) → TK → Prop)
    (hcall : ∀ w1 lv1, Rt Z w1 rb sb qb lv1 tv (some x.1) (p / ready.length) (without ready (p % ready.length)) (ts.set i (x.1, { x.2 with next := ⟨.nilFunc, rfl⟩, said := false })) → Fr (fun k => ¬ Z k) w w1 → Rets Tryz.prog g cap.toArray w1 fun _ w2 =>
      ∃ Z2 sb2 qb2 lv2 tv2 rest2 ready2 ts2 y, Rt Z2 w2 rb sb2 qb2 lv2 tv2 (some x.1) rest2 ready2 ts2 ∧ ts2[i]? = some (x.1, y) ∧ H w2 Z2 ready2 ts2 y) :
    Rets Tryz.prog 24 #[.pointer (some ⟨rb, 0, none⟩), .int .u64 p] w fun u w' => u = .bool true ∧ ∃ w2 Z2 sb2 qb2 lv2 tv2 ready2 ts2 y, H w2 Z2 ready2 ts2 y ∧ ts2[i]? = some (x.1, y) ∧ Rt Z2 w' rb sb2 qb2 lv2 tv2 none 0 ready2 (ts2.set i (x.1, { y with over := !y.said })) ∧ Fr (fun k => ¬ Z2 k) w2 w' := by
  have hr := s.hr
  refine rets_of Tryz.func24 rfl Tryz.ntmps24 rfl rfl (by kernel_rfl) ?_
  (apply vC_seq; apply vC_region; (refine vE rfl ?_); apply vL_nil; apply seqP_normal; (iterate 2 (apply vC_seq)); apply vC_region; (refine vE rfl ?_))
  refine vL_callF rfl (r_right s) rfl ?_
  rintro _ _ ⟨rfl, rfl⟩
  ((refine vL_val (opv_not rfl) ?_); (iterate 12 (first | (refine vE rfl ?_) | ((with_reducible apply vL_val); (case h => ((with_reducible apply opv_loadb1); exact rfl; exact rfl; assumption; exact rfl))) | (refine vL_val (opv_fieldAddr rfl) ?_) | ((with_reducible apply vL_val); (case h => ((with_reducible apply opv_neq_pnil); exact rfl; exact rfl; (simp; done)))) | ((with_reducible apply vL_wanted); exact rfl))); apply vL_nil; apply seqP_normal; ((apply vC_cond_false); exact rfl); apply vC_skip; apply seqP_normal; apply vC_seq; apply vC_region; (iterate 2 ((refine vE rfl ?_))); (refine vL_val (opv_fieldAddr rfl) ?_); ((apply vL_val); (case h => ((apply opv_loadb1); exact rfl; exact rfl; assumption; exact rfl))); (refine vE rfl ?_))
  refine vL_callF rfl (s_pick sb qb lv ready p w s.sc hl hp) rfl ?_
  rintro _ w1 (⟨h, _, _⟩ | ⟨z, lv1, hz, rfl, hsc⟩)
  · rw [h] at hid; simp at hid
  obtain rfl : z = (i : Int) := by rw [hid] at hz; exact (Option.some.inj hz).symm
  generalize p / (ready.length : Int) = rs at *
  obtain ⟨s1, hz1⟩ := s.line hsc
  have hr1 := s1.hr
  have ht1 := s1.ht
  have hml : (ts.map (·.1)).length = ts.length := List.length_map ..
  have hi := (List.getElem?_eq_some_iff.1 hx).1
  have hg : (ts.map (·.1))[((i : Nat) : Int).toNat]? = some x.1 := by rw [Int.toNat_natCast, List.getElem?_map, hx]; rfl
  have hone := x.2.wake.2
  ((iterate 23 (first | with_reducible apply vC_seq | with_reducible apply vC_region | with_reducible apply seqP_normal | with_reducible apply vC_skip | ((with_reducible apply vC_cond_false); exact rfl) | (refine vE rfl ?_) | (refine vL_val (opv_not rfl) ?_) | with_reducible apply vL_nil)); (refine vL_val (opv_fieldAddr rfl) ?_); ((apply vL_val); (case h => ((apply opv_loadb1); exact rfl; exact rfl; assumption; exact rfl))); (refine vE rfl ?_); ((apply vL_val); (case h => ((apply opv_indexAddr); ((conv => lhs; whnf) <;> exact rfl); exact rfl; infer_instance; (first | omega | (simp only [List.length_map]; omega)); (first | omega | (simp only [List.length_map]; omega))))); ((apply vL_val); (case h => ((apply opv_ld_el); exact rfl; exact rfl; infer_instance; assumption; exact rfl))); (iterate 22 (first | with_reducible apply vC_seq | with_reducible apply vC_region | with_reducible apply seqP_normal | (refine vE rfl ?_) | (refine vL_val (opv_fieldAddr rfl) ?_) | with_reducible apply vL_nil | ((with_reducible apply vL_skip); (case h => ((with_reducible apply ops_store1); exact norm_eq rfl; exact norm_eq rfl; (first | rfl | assumption); assumption; (first | decide | exact of_decide_eq_true rfl | (simp; done))))) | ((with_reducible apply vL_skip); (case h => ((with_reducible apply ops_store1); exact norm_eq rfl; exact norm_eq rfl; (first | rfl | assumption); infer_instance; (first | decide | exact of_decide_eq_true rfl | (simp; done))))))))
  refine vL_gen (fun w' => Rt Z w' rb sb qb lv1 tv (some x.1) rs (without ready (p % ready.length)) ts ∧ Fr (fun k => ¬ Z k) w w') ?_ ?_
  · obtain ⟨a, ha⟩ := s1.self (now' := some x.1) (rest' := rs) (w' := (w1.setRow rb [.pointer (some ⟨sb, 0, none⟩), tv, .pointer (some ⟨x.1, 0, none⟩), .int .u64 rest].toArray).setRow rb [.pointer (some ⟨sb, 0, none⟩), tv, .pointer (some ⟨x.1, 0, none⟩), .int .u64 rs].toArray) (fun b hb => by cases hb; exact List.mem_map.2 ⟨x, List.mem_of_getElem? hx, rfl⟩) (((Fr.refl (fun k => k = rb) w1).set _ _ (.inl rfl)).set _ _ (.inl rfl)) (show Blk _ rb [.pointer (some ⟨sb, 0, none⟩), tv, .pointer (some ⟨x.1, 0, none⟩), .int .u64 rs] 108 from inferInstance)
    exact ⟨a, hz1.trans ha⟩
  clear hr1 ht1 s1 hz1 hsc hz
  rintro w1b ⟨s1, hz1⟩
  have hb1 := s1.tk i x hx
  rw [tkL, hnext] at hb1
  (((apply vL_val); (case h => ((apply opv_loadb1); exact rfl; exact rfl; assumption; exact rfl))); (iterate 18 (first | with_reducible apply vC_seq | with_reducible apply vC_region | with_reducible apply seqP_normal | (refine vE rfl ?_) | (refine vL_val (opv_fieldAddr rfl) ?_) | with_reducible apply vL_nil | ((with_reducible apply vL_skip); (case h => ((with_reducible apply ops_store1); exact norm_eq rfl; exact norm_eq rfl; (first | rfl | assumption); assumption; (first | decide | exact of_decide_eq_true rfl | (simp; done))))) | ((with_reducible apply vL_skip); (case h => ((with_reducible apply ops_store1); exact norm_eq rfl; exact norm_eq rfl; (first | rfl | assumption); infer_instance; (first | decide | exact of_decide_eq_true rfl | (simp; done))))))))
  refine vL_gen (fun w' => Rt Z w' rb sb qb lv1 tv (some x.1) rs (without ready (p % ready.length)) (ts.set i (x.1, { x.2 with next := ⟨.nilFunc, rfl⟩, said := false })) ∧ Fr (fun k => ¬ Z k) w w') ?_ ?_
  · obtain ⟨b, hb⟩ := s1.task (y := { x.2 with next := ⟨.nilFunc, rfl⟩, said := false }) (w' := (w1b.setRow x.1 [.pointer (some ⟨rb, 0, none⟩), .int .i64 i, .nilFunc, x.2.wake.1, .bool x.2.said, .bool x.2.parked, .bool x.2.over].toArray).setRow x.1 [.pointer (some ⟨rb, 0, none⟩), .int .i64 i, .nilFunc, x.2.wake.1, .bool false, .bool x.2.parked, .bool x.2.over].toArray) hx (((Fr.refl (fun k => k = x.1) _).set _ _ (.inl rfl)).set _ _ (.inl rfl)) (show Blk _ x.1 [.pointer (some ⟨rb, 0, none⟩), .int .i64 i, .nilFunc, x.2.wake.1, .bool false, .bool x.2.parked, .bool x.2.over] 162 from inferInstance)
    exact ⟨b, hz1.trans hb⟩
  clear hb1 s1 hz1
  rintro w2 ⟨s2, hz2⟩
  refine vL_callF rfl (hcall w2 lv1 s2 hz2) rfl ?_
  rintro _ w3 ⟨Z2, sb2, qb2, lv2, tv2, rest2, ready2, ts2, y, s3, hy, hH⟩
  have hb3 := s3.tk i _ hy
  have hone3 := y.wake.2
  have hone4 := y.next.2
  rw [tkL] at hb3
  (apply vL_nil; apply seqP_normal; apply vC_seq; apply vC_region; (iterate 3 ((refine vE rfl ?_))); (refine vL_val (opv_fieldAddr rfl) ?_); ((apply vL_val); (case h => ((apply opv_loadb1); exact rfl; exact rfl; assumption; exact rfl))); (refine vL_val (opv_not rfl) ?_); (refine vE rfl ?_); (refine vL_val (opv_fieldAddr rfl) ?_); ((apply vL_skip); (case h => ((apply ops_store1); exact norm_eq rfl; exact norm_eq rfl; (first | rfl | assumption); assumption; (first | decide | exact of_decide_eq_true rfl | (simp; done))))); apply vL_nil; apply seqP_normal; apply vC_seq; apply vC_region; (iterate 3 ((refine vE rfl ?_))); (refine vL_val (opv_fieldAddr rfl) ?_))
  refine vL_gen (fun w' => Rt Z2 w' rb sb2 qb2 lv2 tv2 (some x.1) rest2 ready2 (ts2.set i (x.1, { y with over := !y.said })) ∧ Fr (fun k => ¬ Z2 k) w3 w') ?_ ?_
  · exact s3.task (y := { y with over := !y.said }) (w' := w3.setRow x.1 [.pointer (some ⟨rb, 0, none⟩), .int .i64 i, y.next.1, y.wake.1, .bool y.said, .bool y.parked, .bool (!y.said)].toArray) hy ((Fr.refl (fun k => k = x.1) _).set _ _ (.inl rfl)) (show Blk _ x.1 [.pointer (some ⟨rb, 0, none⟩), .int .i64 i, y.next.1, y.wake.1, .bool y.said, .bool y.parked, .bool (!y.said)] 162 from inferInstance)
  rintro w4 ⟨a, ha⟩
  have har := a.hr
  (((apply vL_skip); (case h => ((apply ops_store1); exact norm_eq rfl; exact norm_eq rfl; (first | rfl | assumption); assumption; (first | decide | exact of_decide_eq_true rfl | (simp; done))))); (refine vE rfl ?_); (refine vL_val (opv_fieldAddr rfl) ?_); ((apply vL_skip); (case h => ((apply ops_store1); exact norm_eq rfl; exact norm_eq rfl; (first | rfl | assumption); infer_instance; (first | decide | exact of_decide_eq_true rfl | (simp; done))))); apply vL_nil; apply seqP_normal; apply vC_seq; apply vC_region; (refine vE rfl ?_); apply vL_nil; apply seqP_normal; apply vC_ret)
  (apply ret1; (case h1 => (exact norm_eq rfl)))
  obtain ⟨b, hb⟩ := a.self (now' := none) (rest' := 0) (w' := (w4.setRow rb [.pointer (some ⟨sb2, 0, none⟩), tv2, .pointer none, .int .u64 rest2].toArray).setRow rb [.pointer (some ⟨sb2, 0, none⟩), tv2, .pointer none, .int .u64 0].toArray) (fun b hb => by cases hb) (((Fr.refl (fun k => k = rb) _).set _ _ (.inl rfl)).set _ _ (.inl rfl)) (show Blk _ rb [.pointer (some ⟨sb2, 0, none⟩), tv2, .pointer none, .int .u64 0] 108 from inferInstance)
  exact ⟨rfl, w3, Z2, sb2, qb2, lv2, tv2, ready2, ts2, y, hH, hy, b, ha.trans hb⟩
end
end Go.Proofs.YtbaidcnalkdhgaaGreat
