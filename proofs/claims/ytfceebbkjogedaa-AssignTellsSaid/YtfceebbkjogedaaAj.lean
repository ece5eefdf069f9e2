/- Layer 27: the law AssignMore: copies, counts. -/
import Derived.Test.YtfceebbkjogedaaAi
set_option maxRecDepth 100000
namespace Go.Proofs.Ytfceebbkjogedaa
open Go Go.Eng
theorem kit_copy_str (v : Value) (xs : List ByteArray) (w : World) (hr : Rd w.heap 1 sE v xs) (hbig : xs.length * 16 ≤ 140737488355328) :
    Rets Try.prog 90 #[v] w fun u w' => Fr No w w' ∧ Own w'.heap 9 1 sE u xs ∧ (∀ b, own u = some b → w.heap.size ≤ b) ∧ u.oneCell' = true := by
  have hs := hr.small
  refine rets_of Try.func90 rfl Try.ntmps90 rfl rfl (by kernel_rfl) ?_
  (apply vC_seq; apply vC_region; ((apply vL_val); (case h => ((apply opv_E); exact rfl))); apply vL_nil; apply seqP_normal; apply vC_seq; apply vC_region; ((apply vL_val); (case h => ((apply opv_E); exact rfl))); apply vL_nil; apply seqP_normal; (iterate 2 (apply vC_seq)); apply vC_region; ((apply vL_val); (case h => ((apply opv_E); exact rfl))); apply vL_nil; apply seqP_normal; apply vC_block)
  (apply vC_loop2 262136 4 3 (fun u v3 w' => ∃ k : Nat, u = .int .i64 (k : Int) ∧ k ≤ xs.length ∧ Own w'.heap 9 1 sE v3 (xs.take k) ∧ Fr No w w' ∧ (∀ b, own v3 = some b → w.heap.size ≤ b) ∧ v3.oneCell' = true) (fun u _ _ => xs.length - (RowKit.intOf u).toNat)); (case h1 => (first | exact norm_eq rfl | ((conv => lhs; whnf) <;> exact rfl))); (case h2 => (first | exact norm_eq rfl | ((conv => lhs; whnf) <;> exact rfl)))
  case h0 => exact ⟨0, rfl, by omega, Own.nil _ _ _ _, Fr.refl _ _, fun b hb => (by cases hb), rfl⟩
  case round =>
  rintro junk _ v3 w1 ⟨k, rfl, hk, ho, hf, hfresh, hone⟩
  have hr1 := Rd.frN hf hr
  ((iterate 2 (apply vC_seq)); apply vC_region; ((apply vL_val); (case h => ((apply opv_E); exact rfl))); ((apply vL_val); (case h => ((apply opv_move); ((conv => lhs; whnf) <;> exact rfl)))); ((apply vL_val); (case h => ((apply opv_len); (first | exact norm_eq rfl | ((conv => lhs; whnf) <;> exact rfl)); (first | assumption | infer_instance)))); ((apply vL_val); (case h => ((apply opv_E); exact rfl))); apply vL_nil; apply seqP_normal)
  refine vC_cond_dec rfl (fun hc => ?_) (fun hc => ?_)
  · have hk' : k < xs.length := by omega
    obtain ⟨x, hx⟩ : ∃ x, xs[k]? = some x := ⟨xs[k], by simp [hk']⟩
    have hsucc : xs.take (k + 1) = xs.take k ++ [x] := by
      rw [List.take_succ_eq_append_getElem hk', (List.getElem?_eq_some_iff.1 hx).2]
    have hout : (xs.take k).length ≤ k := by simp; omega
    generalize xs.take k = out at *
    (apply vC_skip; apply seqP_normal; apply vC_seq; apply vC_block; apply vC_region; (iterate 2 (((apply vL_val); (case h => ((apply opv_move); ((conv => lhs; whnf) <;> exact rfl)))))); ((apply vL_val); (case h => ((apply opv_E); exact rfl))); ((apply vL_val); (case h => ((apply opv_indexAddr); (first | exact norm_eq rfl | ((conv => lhs; whnf) <;> exact rfl)); exact rfl; (first | assumption | infer_instance); (first | omega | (simp only [List.length_map]; omega)); (first | omega | (simp only [List.length_map]; omega))))); ((apply vL_val); (case h => ((apply opv_ld_el); exact rfl; exact rfl; (first | assumption | infer_instance); assumption; exact rfl))); ((apply vL_val); (case h => ((apply opw_buildSl); exact rfl; exact rfl; exact rfl; (first | exact (rfl : _ = some []) | exact (rfl : _ = some [_]) | exact (rfl : _ = some [_, _]) | exact (rfl : _ = some [_, _, _]) | exact (rfl : _ = some [_, _, _, _]) | exact (rfl : _ = some [_, _, _, _, _]) | exact (rfl : _ = some [_, _, _, _, _, _]) | exact (rfl : _ = some [_, _, _, _, _, _, _]) | exact (rfl : _ = some [_, _, _, _, _, _, _, _]) | exact (rfl : _ = some [_, _, _, _, _, _, _, _, _]) | exact (rfl : _ = some [_, _, _, _, _, _, _, _, _, _]) | exact (rfl : _ = some [_, _, _, _, _, _, _, _, _, _, _]) | exact (rfl : _ = some [_, _, _, _, _, _, _, _, _, _, _, _]) | exact (rfl : _ = some [_, _, _, _, _, _, _, _, _, _, _, _, _]) | exact (rfl : _ = some [_, _, _, _, _, _, _, _, _, _, _, _, _, _]) | exact (rfl : _ = some [_, _, _, _, _, _, _, _, _, _, _, _, _, _, _]) | exact (rfl : _ = some [_, _, _, _, _, _, _, _, _, _, _, _, _, _, _, _]))))))
    refine vL_append (enc := sE) (xs := out) (ys := [x]) (by (first | exact norm_eq rfl | ((conv => lhs; whnf) <;> exact rfl))) (by (first | exact norm_eq rfl | ((conv => lhs; whnf) <;> exact rfl))) (Own.alloc ho) (Rd.new1 _ _ rfl) rfl (by decide) ?_ ?_ ?_
    · simp [maxLen]; omega
    · simp; omega
    intro v' w2 ho2 hf2 hfr2 hone2 _
    have hf3 : Fr No w w2 := (hf.alloc _).trans' hf2 (fun i hi => .inr (hfresh i hi))
    (((apply vL_val); (case h => ((apply opv_assign); ((conv => lhs; whnf) <;> exact rfl)))); apply vL_nil; apply blockP_normal; apply seqP_normal; apply vC_region; ((apply vL_val); (case h => ((apply opv_E); exact rfl))); ((apply vL_val); (case h => ((apply opv_add); exact rfl; exact rfl; (first | omega | (simp only [List.length_map]; omega))))); ((apply vL_val); (case h => ((apply opv_E); exact rfl))); apply vL_nil; apply loopP_normal)
    (with_reducible apply end2); (case hs => (repeat (first | (with_reducible exact same_mask _ _ _) | with_reducible apply same_updN | ((with_reducible refine same_updO ?_ ?_); rotate_left; exact rfl) | ((with_reducible refine same_upd ?_ ?_); rotate_left; exact rfl) | ((with_reducible refine same_maskIn ?_ ?_); rotate_left; exact rfl)))); (case h1 => (first | exact norm_eq rfl | ((conv => lhs; whnf) <;> exact rfl))); (case h2 => (first | exact norm_eq rfl | ((conv => lhs; whnf) <;> exact rfl)))
    · refine ⟨k + 1, rfl, hk', by rw [hsucc]; exact ho2, hf3, fun b hb => ?_, hone2⟩
      rcases hfr2 b hb with h | h
      · exact hfresh b h
      · have := hf.size; rw [alloc_size] at h; omega
    · simp [RowKit.intOf]; omega
  have e : k = xs.length := by omega
  subst e
  rw [List.take_length] at ho
  (apply vC_exit; apply seqP_exit; apply loopP_exit; apply blockP_exit; apply seqP_normal; apply vC_seq; apply vC_region; ((apply vL_val); (case h => ((apply opv_move); ((conv => lhs; whnf) <;> exact rfl)))); ((apply vL_val); (case h => ((apply opv_assign); ((conv => lhs; whnf) <;> exact rfl)))); apply vL_nil; apply seqP_normal; apply vC_ret)
  (apply ret1; (case h1 => (first | exact norm_eq rfl | ((conv => lhs; whnf) <;> exact rfl))))
  exact ⟨hf, ho, hfresh, hone⟩
theorem pick_kit (x n : Int) (w : World) (hn : 1 ≤ n) (hn2 : n ≤ 4611686018427387904) : Rets Try.prog 59 #[.int .i64 x, .int .i64 n] w fun u w' => w = w' ∧ ∃ r : Int, u = .int .i64 r ∧ 0 ≤ r ∧ r < n := by
  have h1 : x.tmod n < n := Int.tmod_lt_of_pos x (by omega)
  have h2 : -n < x.tmod n := by
    have h3 := Int.tmod_lt_of_pos (-x) (b := n) (by omega)
    rw [Int.neg_tmod] at h3
    omega
  refine rets_of Try.func59 rfl Try.ntmps59 rfl rfl (by kernel_rfl) ?_
  (apply vC_seq; apply vC_region; ((apply vL_val); (case h => ((apply opv_E); exact rfl))); apply vL_nil; apply seqP_normal; (iterate 2 (apply vC_seq)); apply vC_region; (iterate 2 (((apply vL_val); (case h => ((apply opv_E); exact rfl))))); apply vL_nil; apply seqP_normal; (refine vC_cond_dec rfl (fun h => by omega) (fun _ => ?_)); apply vC_skip; apply seqP_normal; apply vC_seq; apply vC_region; (iterate 2 (((apply vL_val); (case h => ((apply opv_E); exact rfl))))))
  apply vL_val
  (case h => ((with_reducible apply opv_rem_t); exact rfl; exact rfl; omega))
  (((apply vL_val); (case h => ((apply opv_E); exact rfl))); apply vL_nil; apply seqP_normal; (iterate 2 (apply vC_seq)); apply vC_region; (iterate 2 (((apply vL_val); (case h => ((apply opv_E); exact rfl))))); apply vL_nil; apply seqP_normal)
  refine vC_cond_dec rfl (fun hc => ?_) (fun hc => ?_)
  · (apply vC_region; (iterate 2 (((apply vL_val); (case h => ((apply opv_E); exact rfl))))); ((apply vL_val); (case h => ((apply opv_add); exact rfl; exact rfl; (first | omega | (simp only [List.length_map]; omega))))); ((apply vL_val); (case h => ((apply opv_E); exact rfl))); apply vL_nil; apply seqP_normal; apply vC_seq; apply vC_region; (iterate 2 (((apply vL_val); (case h => ((apply opv_E); exact rfl))))); apply vL_nil; apply seqP_normal; apply vC_ret)
    (apply ret1; (case h1 => (first | exact norm_eq rfl | ((conv => lhs; whnf) <;> exact rfl))))
    exact ⟨rfl, _, rfl, by omega, by omega⟩
  · (apply vC_skip; apply seqP_normal; apply vC_seq; apply vC_region; (iterate 2 (((apply vL_val); (case h => ((apply opv_E); exact rfl))))); apply vL_nil; apply seqP_normal; apply vC_ret)
    (apply ret1; (case h1 => (first | exact norm_eq rfl | ((conv => lhs; whnf) <;> exact rfl))))
    exact ⟨rfl, _, rfl, by omega, by omega⟩

theorem copy_sub (x : ByteArray × OV × List ByteArray) (w : World) (hr : Rd w.heap 1 sE x.2.1.1 x.2.2) (hbig : x.2.2.length * 16 ≤ 140737488355328) :
    Rets Try.prog 73 #[.agg (nE x).toArray] w fun u w' => Fr No w w' ∧ ∃ v : OV, u = .agg (nE (x.1, v, x.2.2)).toArray ∧ Own w'.heap 9 1 sE v.1 x.2.2 ∧ ∀ b, own v.1 = some b → w.heap.size ≤ b := by
  have hone := x.2.1.2
  refine rets_of Try.func73 rfl Try.ntmps73 rfl rfl (by kernel_rfl) ?_
  (apply vC_seq; apply vC_region; ((apply vL_val); (case h => ((apply opw_boxn); exact rfl))); ((apply vL_val); (case h => (apply opw_alloc))); apply vL_nil; apply seqP_normal; apply vC_seq; apply vC_region; ((apply vL_val); (case h => ((apply opv_fieldAddr); exact rfl))); ((apply vL_val); (case h => ((apply opv_loadb1); exact rfl; exact rfl; (first | assumption | infer_instance); exact rfl))))
  refine vL_gen (fun w' => Fr No w w' ∧ Blk w'.heap w.heap.size [.string x.1, x.2.1.1] 84 ∧ Blk w'.heap (w.alloc (.cells (nE x).toArray 84)).heap.size [.string ⟨#[]⟩, .slice none 0 0] 84 ∧ w.heap.size < w'.heap.size) ⟨by (repeat (first | exact Fr.refl _ _ | assumption | with_reducible apply Fr.allocSet | with_reducible apply Fr.alloc | with_reducible apply Fr.drewN | with_reducible apply Fr.drew | ((with_reducible apply Fr.set); rotate_left; (right; ((try simp only [alloc_size]); omega))) | (refine Fr.trans ?_ (by assumption)))), inferInstance, inferInstance, by simp only [alloc_size]; omega⟩ ?_
  rintro w1 ⟨hf1, hb1, hb2, hsz⟩
  have hne : w.heap.size ≠ (w.alloc (.cells (nE x).toArray 84)).heap.size := by rw [alloc_size]; omega
  have hge : w.heap.size ≤ (w.alloc (.cells (nE x).toArray 84)).heap.size := by rw [alloc_size]; omega
  generalize (w.alloc (.cells (nE x).toArray 84)).heap.size = b2 at *
  refine vL_callF rfl (kit_copy_str x.2.1.1 x.2.2 w1 (hr.frN hf1) hbig) rfl ?_
  rintro v w2 ⟨hf2, ho2, hfr2, hone2⟩
  have hb1' := hb1.frN hf2
  have hb2' := hb2.frN hf2
  haveI hn1 : NeB b2 w.heap.size := ⟨fun h => hne h.symm⟩
  haveI hn2 : NeB w.heap.size b2 := ⟨hne⟩
  (((apply vL_val); (case h => ((apply opv_fieldAddr); exact rfl))); ((apply vL_skip); (case h => ((apply ops_store1); (first | exact norm_eq rfl | ((conv => lhs; whnf) <;> exact rfl)); (first | exact norm_eq rfl | ((conv => lhs; whnf) <;> exact rfl)); (first | rfl | assumption); (first | assumption | infer_instance); (first | decide | exact of_decide_eq_true rfl | (simp; done))))); apply vL_nil; apply seqP_normal; apply vC_seq; apply vC_region; ((apply vL_val); (case h => ((apply opv_loadbC); exact rfl; exact rfl; (first | assumption | infer_instance); (first | exact (rfl : _ = [_]) | exact (rfl : _ = [_, _]) | exact (rfl : _ = [_, _, _]) | exact (rfl : _ = [_, _, _, _]) | exact (rfl : _ = [_, _, _, _, _]) | exact (rfl : _ = [_, _, _, _, _, _]) | exact (rfl : _ = [_, _, _, _, _, _, _]) | exact (rfl : _ = [_, _, _, _, _, _, _, _]) | exact (rfl : _ = [_, _, _, _, _, _, _, _, _]) | exact (rfl : _ = [_, _, _, _, _, _, _, _, _, _]) | exact (rfl : _ = [_, _, _, _, _, _, _, _, _, _, _]) | exact (rfl : _ = [_, _, _, _, _, _, _, _, _, _, _, _])); exact rfl))); ((apply vL_skip); (case h => ((apply ops_storen); (first | exact norm_eq rfl | ((conv => lhs; whnf) <;> exact rfl)); (first | exact norm_eq rfl | ((conv => lhs; whnf) <;> exact rfl)); exact rfl; (first | exact (fun u hu => EncOk.one _ u hu) | (intro u hu; simp at hu; rcases hu with rfl | rfl <;> (first | rfl | assumption))); (first | assumption | infer_instance); (first | decide | exact of_decide_eq_true rfl | (simp; done))))); apply vL_nil; apply seqP_normal; apply vC_ret)
  (apply retC1; (case ha => exact rfl); (case hD => exact rfl); (case hb => (first | assumption | infer_instance)); (case hcs => (first | exact (rfl : _ = [_]) | exact (rfl : _ = [_, _]) | exact (rfl : _ = [_, _, _]) | exact (rfl : _ = [_, _, _, _]) | exact (rfl : _ = [_, _, _, _, _]) | exact (rfl : _ = [_, _, _, _, _, _]) | exact (rfl : _ = [_, _, _, _, _, _, _]) | exact (rfl : _ = [_, _, _, _, _, _, _, _]) | exact (rfl : _ = [_, _, _, _, _, _, _, _, _]) | exact (rfl : _ = [_, _, _, _, _, _, _, _, _, _]) | exact (rfl : _ = [_, _, _, _, _, _, _, _, _, _, _]) | exact (rfl : _ = [_, _, _, _, _, _, _, _, _, _, _, _]))); (case hl => exact rfl))
  have hf3 : Fr No w w2 := hf1.trans hf2
  refine ⟨?_, ⟨v, hone2⟩, rfl, ?_, fun b hb => ?_⟩
  · exact (hf3.set _ _ (.inr (Nat.le_refl _))).set _ _ (.inr hge)
  · have h1 : own v ≠ some w.heap.size := Own.ne_blk ho2 hb1' (by decide)
    have h2 : own v ≠ some b2 := Own.ne_blk ho2 hb2' (by decide)
    exact (ho2.set h1).set h2
  · have := hfr2 b hb; have := hf1.size; omega

/-- members in memory of their own -/
structure SubsO (h : Array Obj) (B : Nat) (v : Value) (subs : List (ByteArray × OV × List ByteArray)) : Prop where
  out : Own h 84 2 nE v subs
  inner : ∀ x ∈ subs, Own h 9 1 sE x.2.1.1 x.2.2
  frO : ∀ b, own v = some b → B ≤ b
theorem SubsO.frN {w w' : World} {B : Nat} {v : Value} {subs : List (ByteArray × OV × List ByteArray)} (s : SubsO w.heap B v subs) (hf : Fr No w w') : SubsO w'.heap B v subs := ⟨s.out.frN hf, fun x hx => (s.inner x hx).frN hf, s.frO⟩
theorem copy_subs (v : Value) (subs : List (ByteArray × OV × List ByteArray)) (w : World) (hr : Rd w.heap 2 nE v subs) (hin : ∀ x ∈ subs, Rd w.heap 1 sE x.2.1.1 x.2.2 ∧ x.2.2.length ≤ 4096) (hl : subs.length ≤ 4096) :
    Rets Try.prog 46 #[v] w fun u w' => Fr No w w' ∧ u.oneCell' = true ∧ ∃ subs', SubsO w'.heap w.heap.size u subs' ∧ subs'.map (fun x => (x.1, x.2.2)) = subs.map (fun x => (x.1, x.2.2)) := by
  refine rets_of Try.func46 rfl Try.ntmps46 rfl rfl (by kernel_rfl) ?_
  (apply vC_seq; apply vC_region; ((apply vL_val); (case h => ((apply opv_E); exact rfl))); apply vL_nil; apply seqP_normal; apply vC_seq; apply vC_region; ((apply vL_val); (case h => ((apply opv_E); exact rfl))); apply vL_nil; apply seqP_normal; (iterate 2 (apply vC_seq)); apply vC_region; ((apply vL_val); (case h => ((apply opv_E); exact rfl))); apply vL_nil; apply seqP_normal; apply vC_block)
  (apply vC_loop2 524280 4 3 (fun u v3 w' => ∃ (k : Nat) (l : List (ByteArray × OV × List ByteArray)), u = .int .i64 (k : Int) ∧ k ≤ subs.length ∧ Fr No w w' ∧ v3.oneCell' = true ∧ SubsO w'.heap w.heap.size v3 l ∧ l.map (fun x => (x.1, x.2.2)) = (subs.take k).map (fun x => (x.1, x.2.2))) (fun u _ _ => subs.length - (RowKit.intOf u).toNat)); (case h1 => (first | exact norm_eq rfl | ((conv => lhs; whnf) <;> exact rfl))); (case h2 => (first | exact norm_eq rfl | ((conv => lhs; whnf) <;> exact rfl)))
  case h0 => exact ⟨0, [], rfl, by omega, Fr.refl _ _, rfl, ⟨Own.nil _ _ _ _, by simp, fun b hb => (by cases hb)⟩, rfl⟩
  case round =>
  rintro junk _ v3 w1 ⟨k, l, rfl, hk, hf1, hone3, S, hC⟩
  have hr1 := hr.frN hf1
  have hll : l.length = k := by have := congrArg List.length hC; simp at this; omega
  by_cases hkl : k < subs.length
  · obtain ⟨x, hx⟩ : ∃ x, subs[k]? = some x := ⟨subs[k], by simp [hkl]⟩
    have hxm := List.mem_of_getElem? hx
    ((iterate 2 (apply vC_seq)); apply vC_region; ((apply vL_val); (case h => ((apply opv_E); exact rfl))); ((apply vL_val); (case h => ((apply opv_move); ((conv => lhs; whnf) <;> exact rfl)))); ((apply vL_val); (case h => ((apply opv_len); (first | exact norm_eq rfl | ((conv => lhs; whnf) <;> exact rfl)); (first | assumption | infer_instance)))); ((apply vL_val); (case h => ((apply opv_E); exact rfl))); apply vL_nil; apply seqP_normal; (refine vC_cond_dec rfl (fun _ => ?_) (fun h => by omega)); apply vC_skip; apply seqP_normal; apply vC_seq; apply vC_block; apply vC_region; (iterate 2 (((apply vL_val); (case h => ((apply opv_move); ((conv => lhs; whnf) <;> exact rfl)))))); ((apply vL_val); (case h => ((apply opv_E); exact rfl))); ((apply vL_val); (case h => ((apply opv_indexAddr); (first | exact norm_eq rfl | ((conv => lhs; whnf) <;> exact rfl)); exact rfl; (first | assumption | infer_instance); (first | omega | (simp only [List.length_map]; omega)); (first | omega | (simp only [List.length_map]; omega))))); ((apply vL_val); (case h => ((apply opv_ld_eln); exact rfl; exact rfl; (first | assumption | infer_instance); assumption))))
    refine vL_callF rfl (copy_sub x w1 ((hin x hxm).1.frN hf1) (by have := (hin x hxm).2; omega)) rfl ?_
    rintro _ w2 ⟨hf2, v2, rfl, ho2, hfr2⟩
    have S2 := S.frN hf2
    (((apply vL_val); (case h => ((apply opw_buildSl); exact rfl; exact rfl; exact rfl; (first | exact (rfl : _ = some []) | exact (rfl : _ = some [_]) | exact (rfl : _ = some [_, _]) | exact (rfl : _ = some [_, _, _]) | exact (rfl : _ = some [_, _, _, _]) | exact (rfl : _ = some [_, _, _, _, _]) | exact (rfl : _ = some [_, _, _, _, _, _]) | exact (rfl : _ = some [_, _, _, _, _, _, _]) | exact (rfl : _ = some [_, _, _, _, _, _, _, _]) | exact (rfl : _ = some [_, _, _, _, _, _, _, _, _]) | exact (rfl : _ = some [_, _, _, _, _, _, _, _, _, _]) | exact (rfl : _ = some [_, _, _, _, _, _, _, _, _, _, _]) | exact (rfl : _ = some [_, _, _, _, _, _, _, _, _, _, _, _]) | exact (rfl : _ = some [_, _, _, _, _, _, _, _, _, _, _, _, _]) | exact (rfl : _ = some [_, _, _, _, _, _, _, _, _, _, _, _, _, _]) | exact (rfl : _ = some [_, _, _, _, _, _, _, _, _, _, _, _, _, _, _]) | exact (rfl : _ = some [_, _, _, _, _, _, _, _, _, _, _, _, _, _, _, _]))))))
    refine vL_append (enc := nE) (xs := l) (ys := [(x.1, v2, x.2.2)]) (T := 84) (sz := 2) (by (first | exact norm_eq rfl | ((conv => lhs; whnf) <;> exact rfl))) (by (first | exact norm_eq rfl | ((conv => lhs; whnf) <;> exact rfl))) (Own.alloc S2.out) (Rd.new1 _ _ rfl) rfl (by decide) ?_ ?_ ?_
    · simp [maxLen]; omega
    · simp; omega
    intro v' w3 ho3 hf3 hfr3 hone4 _
    have hfa : Fr (fun j => own v3 = some j) w2 w3 := ((Fr.refl _ w2).alloc _).trans' hf3 (fun i hi => .inl hi)
    (((apply vL_val); (case h => ((apply opv_assign); ((conv => lhs; whnf) <;> exact rfl)))); apply vL_nil; apply blockP_normal; apply seqP_normal; apply vC_region; ((apply vL_val); (case h => ((apply opv_E); exact rfl))); ((apply vL_val); (case h => ((apply opv_add); exact rfl; exact rfl; (first | omega | (simp only [List.length_map]; omega))))); ((apply vL_val); (case h => ((apply opv_E); exact rfl))); apply vL_nil; apply loopP_normal)
    (with_reducible apply end2); (case hs => (repeat (first | (with_reducible exact same_mask _ _ _) | with_reducible apply same_updN | ((with_reducible refine same_updO ?_ ?_); rotate_left; exact rfl) | ((with_reducible refine same_upd ?_ ?_); rotate_left; exact rfl) | ((with_reducible refine same_maskIn ?_ ?_); rotate_left; exact rfl)))); (case h1 => (first | exact norm_eq rfl | ((conv => lhs; whnf) <;> exact rfl))); (case h2 => (first | exact norm_eq rfl | ((conv => lhs; whnf) <;> exact rfl)))
    · refine ⟨k + 1, _, rfl, by omega, (hf1.trans hf2).trans' hfa (fun i hi => .inr (S.frO i hi)), hone4, ⟨ho3, fun y hy => ?_, fun b hb => ?_⟩, ?_⟩
      · simp only [List.mem_append, List.mem_singleton] at hy
        rcases hy with hy | rfl
        · exact (S2.inner y hy).fr hfa (fun b hb h => Own.ne_own (S2.inner y hy) S2.out (by decide) b hb h)
        · exact ho2.fr hfa (fun b hb h => Own.ne_own ho2 S2.out (by decide) b hb h)
      · rcases hfr3 b hb with h | h
        · exact S.frO b h
        · have := (hf1.trans hf2).size; rw [alloc_size] at h; omega
      · rw [List.map_append, hC, take_next hx, List.map_append]; rfl
    · simp [RowKit.intOf]; omega
  have e : k = subs.length := by omega
  rw [e, List.take_length] at hC
  obtain ⟨va, vn, vc, rfl⟩ := S.out.isSlice
  ((iterate 2 (apply vC_seq)); apply vC_region; ((apply vL_val); (case h => ((apply opv_E); exact rfl))); ((apply vL_val); (case h => ((apply opv_move); ((conv => lhs; whnf) <;> exact rfl)))); ((apply vL_val); (case h => ((apply opv_len); (first | exact norm_eq rfl | ((conv => lhs; whnf) <;> exact rfl)); (first | assumption | infer_instance)))); ((apply vL_val); (case h => ((apply opv_E); exact rfl))); apply vL_nil; apply seqP_normal; (refine vC_cond_dec rfl (fun h => by omega) (fun _ => ?_)); apply vC_exit; apply seqP_exit; apply loopP_exit; apply blockP_exit; apply seqP_normal; apply vC_seq; apply vC_region; (iterate 2 (((apply vL_val); (case h => ((apply opv_E); exact rfl))))); apply vL_nil; apply seqP_normal; apply vC_ret)
  (apply ret1; (case h1 => (first | exact norm_eq rfl | ((conv => lhs; whnf) <;> exact rfl))))
  exact ⟨hf1, hone3, l, S, hC⟩

theorem count27 (x : ByteArray × OV × List (ByteArray × Int)) (nm : ByteArray) (w : World) (hr : Rd w.heap 2 tE x.2.1.1 x.2.2) :
    Rets Try.prog 60 #[.agg (nE x).toArray, .string nm] w fun u w' => Fr No w w' ∧ u = .int .i64 ((x.2.2.filter (fun p => decide (p.1 = nm))).length : Nat) := by
  have hone := x.2.1.2
  have hsm := hr.small
  refine rets_of Try.func60 rfl Try.ntmps60 rfl rfl (by kernel_rfl) ?_
  (apply vC_seq; apply vC_region; ((apply vL_val); (case h => ((apply opw_boxn); exact rfl))); ((apply vL_val); (case h => ((apply opv_E); exact rfl))); apply vL_nil; apply seqP_normal; apply vC_seq; apply vC_region; ((apply vL_val); (case h => ((apply opv_E); exact rfl))); apply vL_nil; apply seqP_normal; (iterate 2 (apply vC_seq)); apply vC_region; ((apply vL_val); (case h => ((apply opv_fieldAddr); exact rfl))); ((apply vL_val); (case h => ((apply opv_loadb1); exact rfl; exact rfl; (first | assumption | infer_instance); exact rfl))); ((apply vL_val); (case h => ((apply opv_len); (first | exact norm_eq rfl | ((conv => lhs; whnf) <;> exact rfl)); (first | assumption | infer_instance)))); ((apply vL_val); (case h => ((apply opv_E); exact rfl))); apply vL_nil; apply seqP_normal; apply vC_block)
  refine vC_gen (fun w' => Fr No w w') (by (repeat (first | exact Fr.refl _ _ | assumption | with_reducible apply Fr.allocSet | with_reducible apply Fr.alloc | with_reducible apply Fr.drewN | with_reducible apply Fr.drew | ((with_reducible apply Fr.set); rotate_left; (right; ((try simp only [alloc_size]); omega))) | (refine Fr.trans ?_ (by assumption))))) ?_
  intro w1 hf1
  have hr1 := hr.frN hf1
  skip
  (apply vC_loop2 4192416 11 5 (fun u u5 w' => ∃ (k : Nat), u = .int .i64 (k : Int) ∧ k ≤ x.2.2.length ∧ u5 = .int .i64 (((x.2.2.take k).filter (fun p => decide (p.1 = nm))).length : Nat) ∧ Fr No w1 w') (fun u _ _ => x.2.2.length - (RowKit.intOf u).toNat)); (case h1 => (first | exact norm_eq rfl | ((conv => lhs; whnf) <;> exact rfl))); (case h2 => (first | exact norm_eq rfl | ((conv => lhs; whnf) <;> exact rfl)))
  case h0 => exact ⟨0, rfl, by omega, rfl, Fr.refl _ _⟩
  case round =>
  rintro junk _ _ w2 ⟨k, rfl, hk, rfl, hf2⟩
  have hr2 := hr1.frN hf2
  by_cases hkl : k < x.2.2.length
  · obtain ⟨⟨pt, pp⟩, hx⟩ : ∃ z, x.2.2[k]? = some z := ⟨x.2.2[k], by simp [hkl]⟩
    have hnx := filter_nextT (nm := nm) hx
    have hfl : ((x.2.2.take k).filter (fun p => decide (p.1 = nm))).length ≤ k := by
      have := List.length_filter_le (fun p : ByteArray × Int => decide (p.1 = nm)) (x.2.2.take k)
      simp only [List.length_take] at this
      omega
    generalize ((x.2.2.take k).filter (fun p => decide (p.1 = nm))).length = n at *
    (apply vC_seq; apply vC_region; ((apply vL_val); (case h => ((apply opv_E); exact rfl))); apply vL_nil; apply seqP_normal; apply vC_seq; (refine vC_cond_dec rfl (fun _ => ?_) (fun h => by omega)); apply vC_skip; apply seqP_normal; apply vC_seq; apply vC_block; apply vC_seq; apply vC_region; ((apply vL_val); (case h => ((apply opv_indexAddr); (first | exact norm_eq rfl | ((conv => lhs; whnf) <;> exact rfl)); exact rfl; (first | assumption | infer_instance); (first | omega | (simp only [List.length_map]; omega)); (first | omega | (simp only [List.length_map]; omega))))); ((apply vL_val); (case h => ((apply opv_ld_eln); exact rfl; exact rfl; (first | assumption | infer_instance); assumption))); ((apply vL_val); (case h => (apply opw_alloc))); ((apply vL_skip); (case h => ((apply ops_storen); (first | exact norm_eq rfl | ((conv => lhs; whnf) <;> exact rfl)); (first | exact norm_eq rfl | ((conv => lhs; whnf) <;> exact rfl)); exact rfl; (first | exact (fun u hu => EncOk.one _ u hu) | (intro u hu; simp at hu; rcases hu with rfl | rfl <;> (first | rfl | assumption))); (first | assumption | infer_instance); (first | decide | exact of_decide_eq_true rfl | (simp; done))))); apply vL_nil; apply seqP_normal; apply vC_seq; apply vC_region; ((apply vL_val); (case h => ((apply opv_fieldAddr); exact rfl))); ((apply vL_val); (case h => ((apply opv_loadb1); exact rfl; exact rfl; (first | assumption | infer_instance); exact rfl))); ((apply vL_val); (case h => ((apply opv_E); exact rfl))); ((apply vL_val); (case h => ((apply opv_eql_str); exact rfl; exact rfl))); apply vL_nil; apply seqP_normal)
    refine vC_cond_dec rfl (fun hc => ?_) (fun hc => ?_)
    · rw [if_pos hc] at hnx
      (apply vC_region; ((apply vL_val); (case h => ((apply opv_E); exact rfl))); ((apply vL_val); (case h => ((apply opv_add); exact rfl; exact rfl; (first | omega | (simp only [List.length_map]; omega))))); ((apply vL_val); (case h => ((apply opv_E); exact rfl))); apply vL_nil; apply blockP_normal; apply seqP_normal; apply vC_region; ((apply vL_val); (case h => ((apply opv_add); exact rfl; exact rfl; (first | omega | (simp only [List.length_map]; omega))))); ((apply vL_val); (case h => ((apply opv_E); exact rfl))); apply vL_nil; apply loopP_normal)
      (with_reducible apply end2); (case hs => (repeat (first | (with_reducible exact same_mask _ _ _) | with_reducible apply same_updN | ((with_reducible refine same_updO ?_ ?_); rotate_left; exact rfl) | ((with_reducible refine same_upd ?_ ?_); rotate_left; exact rfl) | ((with_reducible refine same_maskIn ?_ ?_); rotate_left; exact rfl)))); (case h1 => (first | exact norm_eq rfl | ((conv => lhs; whnf) <;> exact rfl))); (case h2 => (first | exact norm_eq rfl | ((conv => lhs; whnf) <;> exact rfl)))
      · exact ⟨k + 1, rfl, by omega, by rw [hnx]; rfl, hf2.trans (by (repeat (first | exact Fr.refl _ _ | assumption | with_reducible apply Fr.allocSet | with_reducible apply Fr.alloc | with_reducible apply Fr.drewN | with_reducible apply Fr.drew | ((with_reducible apply Fr.set); rotate_left; (right; ((try simp only [alloc_size]); omega))) | (refine Fr.trans ?_ (by assumption)))))⟩
      · simp [RowKit.intOf]; omega
    · rw [if_neg hc] at hnx
      (apply vC_skip; apply blockP_normal; apply seqP_normal; apply vC_region; ((apply vL_val); (case h => ((apply opv_add); exact rfl; exact rfl; (first | omega | (simp only [List.length_map]; omega))))); ((apply vL_val); (case h => ((apply opv_E); exact rfl))); apply vL_nil; apply loopP_normal)
      (with_reducible apply end2); (case hs => (repeat (first | (with_reducible exact same_mask _ _ _) | with_reducible apply same_updN | ((with_reducible refine same_updO ?_ ?_); rotate_left; exact rfl) | ((with_reducible refine same_upd ?_ ?_); rotate_left; exact rfl) | ((with_reducible refine same_maskIn ?_ ?_); rotate_left; exact rfl)))); (case h1 => (first | exact norm_eq rfl | ((conv => lhs; whnf) <;> exact rfl))); (case h2 => (first | exact norm_eq rfl | ((conv => lhs; whnf) <;> exact rfl)))
      · exact ⟨k + 1, rfl, by omega, by rw [hnx], hf2.trans (by (repeat (first | exact Fr.refl _ _ | assumption | with_reducible apply Fr.allocSet | with_reducible apply Fr.alloc | with_reducible apply Fr.drewN | with_reducible apply Fr.drew | ((with_reducible apply Fr.set); rotate_left; (right; ((try simp only [alloc_size]); omega))) | (refine Fr.trans ?_ (by assumption)))))⟩
      · simp [RowKit.intOf]; omega
  have e : k = x.2.2.length := by omega
  subst e
  rw [List.take_length]
  (apply vC_seq; apply vC_region; ((apply vL_val); (case h => ((apply opv_E); exact rfl))); apply vL_nil; apply seqP_normal; apply vC_seq; (refine vC_cond_dec rfl (fun h => by omega) (fun _ => ?_)); apply vC_exit; apply seqP_exit; apply loopP_exit; apply blockP_exit; apply seqP_normal; apply vC_seq; apply vC_region; (iterate 2 (((apply vL_val); (case h => ((apply opv_E); exact rfl))))); apply vL_nil; apply seqP_normal; apply vC_ret)
  (apply ret1; (case h1 => (first | exact norm_eq rfl | ((conv => lhs; whnf) <;> exact rfl))))
  exact ⟨hf1.trans hf2, rfl⟩
end Go.Proofs.Ytfceebbkjogedaa
