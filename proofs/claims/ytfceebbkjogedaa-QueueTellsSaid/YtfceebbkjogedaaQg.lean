/- Layer 13: the chapter's example; the law QueueNone. -/
import Derived.Test.YtfceebbkjogedaaQf
set_option maxRecDepth 100000
namespace Go.Proofs.Ytfceebbkjogedaa
open Go Go.Eng

structure Q_int (w0 w : World) (b : Nat) (lv : Value) (xs : List Int) : Prop where
  fr : Fr No w0 w
  hb : Blk w.heap b [.bool true, lv] 56
  ho : Own w.heap 3 1 iE lv xs
  one : lv.oneCell' = true
  fb : w0.heap.size ≤ b
  fl : ∀ k, own lv = some k → w0.heap.size ≤ k
theorem Q_int.step {w0 w w' : World} {b : Nat} {lv lv' : Value} {xs xs' : List Int} (q : Q_int w0 w b lv xs) (hf : Fr (fun k => k = b ∨ own lv = some k) w w') (hb : Blk w'.heap b [.bool true, lv'] 56) (ho : Own w'.heap 3 1 iE lv' xs') (hl : ∀ k, own lv' = some k → own lv = some k ∨ w.heap.size ≤ k) (hone : lv'.oneCell' = true) : Q_int w0 w' b lv' xs' := by
  refine ⟨q.fr.trans' hf (fun k hk => .inr ?_), hb, ho, hone, q.fb, fun k hk => ?_⟩
  · rcases hk with rfl | h
    · exact q.fb
    · exact q.fl k h
  · rcases hl k hk with h | h
    · exact q.fl k h
    · have := q.fr.size; omega
theorem Q_int.same {w0 w w' : World} {b : Nat} {lv : Value} {xs : List Int} (q : Q_int w0 w b lv xs) (hf : Fr No w w') : Q_int w0 w' b lv xs :=
  ⟨q.fr.trans hf, q.hb.frN hf, q.ho.frN hf, q.one, q.fb, q.fl⟩
structure Q_str (w0 w : World) (b : Nat) (lv : Value) (xs : List ByteArray) : Prop where
  fr : Fr No w0 w
  hb : Blk w.heap b [.bool true, lv] 101
  ho : Own w.heap 9 1 sE lv xs
  one : lv.oneCell' = true
  fb : w0.heap.size ≤ b
  fl : ∀ k, own lv = some k → w0.heap.size ≤ k
theorem Q_str.step {w0 w w' : World} {b : Nat} {lv lv' : Value} {xs xs' : List ByteArray} (q : Q_str w0 w b lv xs) (hf : Fr (fun k => k = b ∨ own lv = some k) w w') (hb : Blk w'.heap b [.bool true, lv'] 101) (ho : Own w'.heap 9 1 sE lv' xs') (hl : ∀ k, own lv' = some k → own lv = some k ∨ w.heap.size ≤ k) (hone : lv'.oneCell' = true) : Q_str w0 w' b lv' xs' := by
  refine ⟨q.fr.trans' hf (fun k hk => .inr ?_), hb, ho, hone, q.fb, fun k hk => ?_⟩
  · rcases hk with rfl | h
    · exact q.fb
    · exact q.fl k h
  · rcases hl k hk with h | h
    · exact q.fl k h
    · have := q.fr.size; omega
theorem Q_str.same {w0 w w' : World} {b : Nat} {lv : Value} {xs : List ByteArray} (q : Q_str w0 w b lv xs) (hf : Fr No w w') : Q_str w0 w' b lv xs :=
  ⟨q.fr.trans hf, q.hb.frN hf, q.ho.frN hf, q.one, q.fb, q.fl⟩

theorem big2 (x : Int) (w : World) : Rets Try.prog 69 #[.int .i64 x] w fun v w' => v = .bool (decide (2 < x)) ∧ Fr No w w' := by
  refine rets_of Try.func69 rfl Try.ntmps69 rfl rfl (by kernel_rfl) ?_
  (apply vC_seq; apply vC_region; ((apply vL_val); (case h => ((apply opv_E); exact rfl))); apply vL_nil; apply seqP_normal; apply vC_seq; apply vC_region; (iterate 3 (((apply vL_val); (case h => ((apply opv_E); exact rfl))))); apply vL_nil; apply seqP_normal; apply vC_ret)
  (apply ret1; (case h1 => (first | exact norm_eq rfl | ((conv => lhs; whnf) <;> exact rfl))))
  exact ⟨rfl, Fr.refl _ _⟩

theorem awake13 (w : World) : Rets Try.prog 37 #[] w fun u w' => u = .bool true ∧ Fr No w w' := by
  refine rets_of Try.func37 rfl Try.ntmps37 rfl rfl (by kernel_rfl) ?_
  (apply vC_seq; apply vC_region; ((apply vL_val); (case h => ((apply opv_E); exact rfl))); apply vL_nil; apply seqP_normal; apply vC_seq; apply vC_region; ((apply vL_val); (case h => ((apply opw_buildSl); exact rfl; exact rfl; exact rfl; (first | exact (rfl : _ = some []) | exact (rfl : _ = some [_]) | exact (rfl : _ = some [_, _]) | exact (rfl : _ = some [_, _, _]) | exact (rfl : _ = some [_, _, _, _]) | exact (rfl : _ = some [_, _, _, _, _]) | exact (rfl : _ = some [_, _, _, _, _, _]) | exact (rfl : _ = some [_, _, _, _, _, _, _]) | exact (rfl : _ = some [_, _, _, _, _, _, _, _]) | exact (rfl : _ = some [_, _, _, _, _, _, _, _, _]) | exact (rfl : _ = some [_, _, _, _, _, _, _, _, _, _]) | exact (rfl : _ = some [_, _, _, _, _, _, _, _, _, _, _]) | exact (rfl : _ = some [_, _, _, _, _, _, _, _, _, _, _, _]) | exact (rfl : _ = some [_, _, _, _, _, _, _, _, _, _, _, _, _]) | exact (rfl : _ = some [_, _, _, _, _, _, _, _, _, _, _, _, _, _]) | exact (rfl : _ = some [_, _, _, _, _, _, _, _, _, _, _, _, _, _, _]) | exact (rfl : _ = some [_, _, _, _, _, _, _, _, _, _, _, _, _, _, _, _]))))))
  refine vL_callF rfl (q_of_int _ [1, 2] _ (Rd.newN iE [1, 2] rfl rfl (by decide)) (by decide)) rfl ?_
  rintro _ w1 ⟨hf1, b, lv, rfl, hb0, hb, ho, hl, hone⟩
  have hal : w.heap.size + 1 = (w.alloc (.cells [Value.int .i64 1, .int .i64 2].toArray 3)).heap.size := (alloc_size _ _).symm
  have q0 : Q_int w w1 b lv [1, 2] := ⟨((Fr.refl No w).alloc _).trans hf1, hb, ho, hone, by have h := hb0; rw [alloc_size] at h; omega, fun k hk => by have h := hl k hk; rw [alloc_size] at h; omega⟩
  clear hb ho hl hone hb0 hf1
  (((apply vL_val); (case h => ((apply opv_E); exact rfl))); apply vL_nil; apply seqP_normal; (iterate 2 (apply vC_seq)); apply vC_region; ((apply vL_val); (case h => ((apply opv_E); exact rfl))); ((apply vL_val); (case h => ((apply opv_eql_pnil); exact rfl; exact rfl; simp))); apply vL_nil; apply seqP_normal; ((apply vC_cond_false); exact rfl); apply vC_skip; apply seqP_normal; apply vC_seq; apply vC_region; ((apply vL_val); (case h => ((apply opv_E); exact rfl))))
  refine vL_callF rfl (q_push_int b lv 3 [1, 2] _ q0.hb q0.ho (by decide)) rfl ?_
  rintro _ w2 ⟨lv2, hf, hb, ho, hl, hone⟩
  have q2 := q0.step hf hb ho hl hone
  clear hf hb ho hl hone
  (apply vL_nil; apply seqP_normal; apply vC_seq; apply vC_region; ((apply vL_val); (case h => ((apply opv_E); exact rfl))))
  refine vL_callF rfl (q_pop_int b lv2 _ _ q2.hb q2.ho q2.one) rfl ?_
  rintro _ w3 ⟨lv3, xs3, hf, hb, ho, hl, hone, ⟨x, h, rfl⟩ | ⟨h, _⟩⟩
  rotate_left
  · cases h
  cases h
  have q3 := q2.step hf hb ho (fun k hk => .inl (hl ▸ hk)) hone
  clear hf hb ho hl hone
  ((iterate 5 (((apply vL_val); (case h => ((apply opv_E); exact rfl))))); apply vL_nil; apply seqP_normal; apply vC_seq; apply vC_region; ((apply vL_val); (case h => ((apply opv_E); exact rfl))))
  refine vL_callF rfl (q_at_int b lv3 1 _ _ q3.hb q3.ho) rfl ?_
  rintro _ _ ⟨rfl, ⟨x, _, h, rfl⟩ | ⟨h, _⟩⟩
  rotate_left
  · rcases h with h | h <;> simp at h
  cases h
  ((iterate 5 (((apply vL_val); (case h => ((apply opv_E); exact rfl))))); apply vL_nil; apply seqP_normal; apply vC_seq; apply vC_region; ((apply vL_val); (case h => ((apply opv_E); exact rfl))))
  refine vL_callF rfl (q_take_int b lv3 0 _ _ q3.hb q3.ho q3.one) rfl ?_
  rintro _ w4 ⟨lv4, xs4, hf, hb, ho, hl, hone, ⟨x, _, h, rfl, rfl⟩ | ⟨h, _⟩⟩
  rotate_left
  · rcases h with h | h <;> simp at h
  cases h
  have q4 := q3.step hf hb ho (fun k hk => .inl (hl ▸ hk)) hone
  clear hf hb ho hl hone
  ((iterate 5 (((apply vL_val); (case h => ((apply opv_E); exact rfl))))); apply vL_nil; apply seqP_normal; apply vC_seq; apply vC_region; ((apply vL_val); (case h => ((apply opv_E); exact rfl))))
  refine vL_callF rfl (q_drop b lv4 (fun x => decide (2 < x)) _ _ _ q4.hb q4.ho q4.one big2) rfl ?_
  rintro _ w5 ⟨lv5, hf, hb, ho, hl, hone, rfl⟩
  have q5 := q4.step hf hb ho (fun k hk => .inl (hl ▸ hk)) hone
  clear hf hb ho hl hone
  have q5 : Q_int w w5 b lv5 [] := q5
  (((apply vL_val); (case h => ((apply opv_E); exact rfl))); apply vL_nil; apply seqP_normal; apply vC_seq; apply vC_region; ((apply vL_val); (case h => ((apply opv_E); exact rfl))))
  refine vL_callF rfl (q_pop_int b lv5 _ _ q5.hb q5.ho q5.one) rfl ?_
  rintro _ w6 ⟨lv6, xs6, hf, hb, ho, hl, hone, ⟨x, h, rfl⟩ | ⟨_, rfl, rfl⟩⟩
  · cases h
  have q6 := q5.step hf hb ho (fun k hk => .inl (hl ▸ hk)) hone
  clear hf hb ho hl hone
  ((iterate 5 (((apply vL_val); (case h => ((apply opv_E); exact rfl))))); apply vL_nil; apply seqP_normal; apply vC_seq; apply vC_region; (iterate 3 (((apply vL_val); (case h => ((apply opv_E); exact rfl))))); ((apply vL_wanted); exact rfl); (iterate 3 (((apply vL_val); (case h => ((apply opv_E); exact rfl))))); ((apply vL_wanted); exact rfl); ((apply vL_val); (case h => ((apply opv_E); exact rfl))); ((apply vL_wanted); exact rfl); (iterate 3 (((apply vL_val); (case h => ((apply opv_E); exact rfl))))); ((apply vL_wanted); exact rfl); (iterate 3 (((apply vL_val); (case h => ((apply opv_E); exact rfl))))); ((apply vL_wanted); exact rfl); ((apply vL_val); (case h => ((apply opv_E); exact rfl))); ((apply vL_wanted); exact rfl); (iterate 3 (((apply vL_val); (case h => ((apply opv_E); exact rfl))))); ((apply vL_wanted); exact rfl); (iterate 3 (((apply vL_val); (case h => ((apply opv_E); exact rfl))))); ((apply vL_wanted); exact rfl); ((apply vL_val); (case h => ((apply opv_E); exact rfl))); ((apply vL_wanted); exact rfl); (iterate 3 (((apply vL_val); (case h => ((apply opv_E); exact rfl))))); ((apply vL_wanted); exact rfl); ((apply vL_val); (case h => ((apply opv_E); exact rfl))); ((apply vL_wanted); exact rfl); (iterate 3 (((apply vL_val); (case h => ((apply opv_E); exact rfl))))); ((apply vL_wanted); exact rfl); ((apply vL_val); (case h => ((apply opv_E); exact rfl))); ((apply vL_wanted); exact rfl); ((apply vL_val); (case h => ((apply opv_not); exact rfl))); (iterate 2 (((apply vL_val); (case h => ((apply opv_E); exact rfl))))); ((apply vL_wanted); exact rfl); ((apply vL_val); (case h => ((apply opv_E); exact rfl))); ((apply vL_wanted); exact rfl))
  refine vL_callF rfl (q_len_int b lv6 _ _ q6.hb q6.ho) rfl ?_
  rintro _ _ ⟨rfl, rfl⟩
  (((apply vL_wanted); exact rfl); (iterate 3 (((apply vL_val); (case h => ((apply opv_E); exact rfl))))); apply vL_nil; apply seqP_normal; apply vC_ret)
  (apply ret1; (case h1 => (first | exact norm_eq rfl | ((conv => lhs; whnf) <;> exact rfl))))
  exact ⟨rfl, q6.fr⟩
end Go.Proofs.Ytfceebbkjogedaa
