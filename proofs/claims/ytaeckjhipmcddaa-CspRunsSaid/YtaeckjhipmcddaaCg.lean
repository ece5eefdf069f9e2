/- Layer 15: a step. -/
import Derived.Test.YtaeckjhipmcddaaCf
set_option maxRecDepth 100000
namespace Go.Proofs.Ytaeckjhipmcddaa
open Go Go.Eng
section
variable {Z : Nat → Prop} {w : World} {rb sb qb : Nat} {lv tv : Value} {rest : Int} {ready : List Int} {ts : List (Nat × TK)}
theorem r_step_none (s : Rt Z w rb sb qb lv tv none rest [] ts) (p : Int) (hp : 0 ≤ p ∧ p ≤ 18446744073709551615) :
    Rets Try.prog 26 #[.pointer (some ⟨rb, 0, none⟩), .int .u64 p] w fun u w' => w = w' ∧ u = .bool false := by
  have hr := s.hr
  refine rets_of Try.func26 rfl Try.ntmps26 rfl rfl (by kernel_rfl) ?_
  (apply vC_seq; apply vC_region; ((apply vL_val); (case h => ((apply opv_E); exact rfl))); apply vL_nil; apply seqP_normal; (iterate 2 (apply vC_seq)); apply vC_region; ((apply vL_val); (case h => ((apply opv_E); exact rfl))))
  refine vL_callF rfl (r_right s) rfl ?_
  rintro _ _ ⟨rfl, rfl⟩
  (((apply vL_val); (case h => ((apply opv_not); exact rfl))); ((apply vL_val); (case h => ((apply opv_E); exact rfl))); ((apply vL_wanted); exact rfl); ((apply vL_val); (case h => ((apply opv_E); exact rfl))); ((apply vL_wanted); exact rfl); ((apply vL_val); (case h => ((apply opv_E); exact rfl))); ((apply vL_wanted); exact rfl); ((apply vL_val); (case h => ((apply opv_fieldAddr); exact rfl))); ((apply vL_wanted); exact rfl); ((apply vL_val); (case h => ((apply opv_loadb1); exact rfl; exact rfl; (first | assumption | infer_instance); exact rfl))); ((apply vL_wanted); exact rfl); ((apply vL_val); (case h => ((apply opv_neq_pnil); exact rfl; exact rfl; (simp; done)))); ((apply vL_val); (case h => ((apply opv_E); exact rfl))); apply vL_nil; apply seqP_normal; ((apply vC_cond_false); exact rfl); apply vC_skip; apply seqP_normal; apply vC_seq; apply vC_region; (iterate 2 (((apply vL_val); (case h => ((apply opv_E); exact rfl))))); ((apply vL_val); (case h => ((apply opv_fieldAddr); exact rfl))); ((apply vL_val); (case h => ((apply opv_loadb1); exact rfl; exact rfl; (first | assumption | infer_instance); exact rfl))); ((apply vL_val); (case h => ((apply opv_E); exact rfl))))
  refine vL_callF rfl (s_pick sb qb lv [] p w s.sc (by decide) hp) rfl ?_
  rintro _ w1 (⟨_, rfl, rfl⟩ | ⟨z, lv1, hz, rfl, hsc⟩)
  · ((iterate 7 (((apply vL_val); (case h => ((apply opv_E); exact rfl))))); apply vL_nil; apply seqP_normal; (iterate 2 (apply vC_seq)); apply vC_region; ((apply vL_val); (case h => ((apply opv_E); exact rfl))); ((apply vL_val); (case h => ((apply opv_not); exact rfl))); apply vL_nil; apply seqP_normal; ((apply vC_cond_true); exact rfl); apply vC_seq; apply vC_region; ((apply vL_val); (case h => ((apply opv_E); exact rfl))); apply vL_nil; apply seqP_normal; apply vC_ret; apply seqP_ret)
    (apply ret1; (case h1 => (first | exact norm_eq rfl | ((conv => lhs; whnf) <;> exact rfl))))
    exact ⟨rfl, rfl⟩
  · simp at hz
theorem r_step (s : Rt Z w rb sb qb lv tv none rest ready ts) (p : Int) (hp : 0 ≤ p ∧ p ≤ 18446744073709551615) (hl : ready.length ≤ 256) {i : Nat} {x : Nat × TK} (hid : ready[(p % ready.length).toNat]? = some (i : Int)) (hx : ts[i]? = some x)
    {g : FuncId} [FnOk Try.prog g] (cap : List Value) (hnext : x.2.next.1 = .func (.func g) #[] cap.toArray) (H : World → (Nat → Prop) → List Int → List (Nat × TK) → TK → Prop)
    (hcall : ∀ w1 lv1, Rt Z w1 rb sb qb lv1 tv (some x.1) (p / ready.length) (without ready (p % ready.length)) (ts.set i (x.1, { x.2 with next := ⟨.nilFunc, rfl⟩, said := false })) → Fr (fun k => ¬ Z k) w w1 → Rets Try.prog g cap.toArray w1 fun _ w2 =>
      ∃ Z2 sb2 qb2 lv2 tv2 rest2 ready2 ts2 y, Rt Z2 w2 rb sb2 qb2 lv2 tv2 (some x.1) rest2 ready2 ts2 ∧ ts2[i]? = some (x.1, y) ∧ H w2 Z2 ready2 ts2 y) :
    Rets Try.prog 26 #[.pointer (some ⟨rb, 0, none⟩), .int .u64 p] w fun u w' => u = .bool true ∧ ∃ w2 Z2 sb2 qb2 lv2 tv2 ready2 ts2 y, H w2 Z2 ready2 ts2 y ∧ ts2[i]? = some (x.1, y) ∧ Rt Z2 w' rb sb2 qb2 lv2 tv2 none 0 ready2 (ts2.set i (x.1, { y with over := !y.said })) ∧ Fr (fun k => ¬ Z2 k) w2 w' := by
  have hr := s.hr
  refine rets_of Try.func26 rfl Try.ntmps26 rfl rfl (by kernel_rfl) ?_
  (apply vC_seq; apply vC_region; ((apply vL_val); (case h => ((apply opv_E); exact rfl))); apply vL_nil; apply seqP_normal; (iterate 2 (apply vC_seq)); apply vC_region; ((apply vL_val); (case h => ((apply opv_E); exact rfl))))
  refine vL_callF rfl (r_right s) rfl ?_
  rintro _ _ ⟨rfl, rfl⟩
  (((apply vL_val); (case h => ((apply opv_not); exact rfl))); ((apply vL_val); (case h => ((apply opv_E); exact rfl))); ((apply vL_wanted); exact rfl); ((apply vL_val); (case h => ((apply opv_E); exact rfl))); ((apply vL_wanted); exact rfl); ((apply vL_val); (case h => ((apply opv_E); exact rfl))); ((apply vL_wanted); exact rfl); ((apply vL_val); (case h => ((apply opv_fieldAddr); exact rfl))); ((apply vL_wanted); exact rfl); ((apply vL_val); (case h => ((apply opv_loadb1); exact rfl; exact rfl; (first | assumption | infer_instance); exact rfl))); ((apply vL_wanted); exact rfl); ((apply vL_val); (case h => ((apply opv_neq_pnil); exact rfl; exact rfl; (simp; done)))); ((apply vL_val); (case h => ((apply opv_E); exact rfl))); apply vL_nil; apply seqP_normal; ((apply vC_cond_false); exact rfl); apply vC_skip; apply seqP_normal; apply vC_seq; apply vC_region; (iterate 2 (((apply vL_val); (case h => ((apply opv_E); exact rfl))))); ((apply vL_val); (case h => ((apply opv_fieldAddr); exact rfl))); ((apply vL_val); (case h => ((apply opv_loadb1); exact rfl; exact rfl; (first | assumption | infer_instance); exact rfl))); ((apply vL_val); (case h => ((apply opv_E); exact rfl))))
  refine vL_callF rfl (s_pick sb qb lv ready p w s.sc hl hp) rfl ?_
  rintro _ w1 (⟨h, _, _⟩ | ⟨z, lv1, hz, rfl, hsc⟩)
  · rw [h] at hid; simp at hid
  obtain rfl : z = (i : Int) := by rw [hid] at hz; exact (Option.some.inj hz).symm
  generalize p / (ready.length : Int) = rs at *
  obtain ⟨s1, hz1⟩ := s.line hsc
  have hr1 := s1.hr
  have ht1 := s1.ht
  have hml : (ts.map (·.1)).length = ts.length := List.length_map ..
  have hi := (List.getElem?_eq_some_iff.1 hx).1
  have hg : (ts.map (·.1))[((i : Nat) : Int).toNat]? = some x.1 := by rw [Int.toNat_natCast, List.getElem?_map, hx]; rfl
  have hone := x.2.wake.2
  ((iterate 7 (((apply vL_val); (case h => ((apply opv_E); exact rfl))))); apply vL_nil; apply seqP_normal; (iterate 2 (apply vC_seq)); apply vC_region; ((apply vL_val); (case h => ((apply opv_E); exact rfl))); ((apply vL_val); (case h => ((apply opv_not); exact rfl))); apply vL_nil; apply seqP_normal; ((apply vC_cond_false); exact rfl); apply vC_skip; apply seqP_normal; apply vC_seq; apply vC_region; (iterate 2 (((apply vL_val); (case h => ((apply opv_E); exact rfl))))); ((apply vL_val); (case h => ((apply opv_fieldAddr); exact rfl))); ((apply vL_val); (case h => ((apply opv_loadb1); exact rfl; exact rfl; (first | assumption | infer_instance); exact rfl))); ((apply vL_val); (case h => ((apply opv_E); exact rfl))); ((apply vL_val); (case h => ((apply opv_indexAddr); (first | exact norm_eq rfl | ((conv => lhs; whnf) <;> exact rfl)); exact rfl; (first | assumption | infer_instance); (first | omega | (simp only [List.length_map]; omega)); (first | omega | (simp only [List.length_map]; omega))))); ((apply vL_val); (case h => ((apply opv_ld_el); exact rfl; exact rfl; (first | assumption | infer_instance); assumption; exact rfl))); ((apply vL_val); (case h => ((apply opv_E); exact rfl))); apply vL_nil; apply seqP_normal; apply vC_seq; apply vC_region; (iterate 5 (((apply vL_val); (case h => ((apply opv_E); exact rfl))))); ((apply vL_val); (case h => ((apply opv_fieldAddr); exact rfl))); ((apply vL_skip); (case h => ((apply ops_store1); (first | exact norm_eq rfl | ((conv => lhs; whnf) <;> exact rfl)); (first | exact norm_eq rfl | ((conv => lhs; whnf) <;> exact rfl)); (first | rfl | assumption); (first | assumption | infer_instance); (first | decide | exact of_decide_eq_true rfl | (simp; done))))); ((apply vL_val); (case h => ((apply opv_E); exact rfl))); ((apply vL_val); (case h => ((apply opv_fieldAddr); exact rfl))); ((apply vL_skip); (case h => ((apply ops_store1); (first | exact norm_eq rfl | ((conv => lhs; whnf) <;> exact rfl)); (first | exact norm_eq rfl | ((conv => lhs; whnf) <;> exact rfl)); (first | rfl | assumption); (first | assumption | infer_instance); (first | decide | exact of_decide_eq_true rfl | (simp; done))))); apply vL_nil; apply seqP_normal; apply vC_seq; apply vC_region; (iterate 2 (((apply vL_val); (case h => ((apply opv_E); exact rfl))))); ((apply vL_val); (case h => ((apply opv_fieldAddr); exact rfl))))
  refine vL_gen (fun w' => Rt Z w' rb sb qb lv1 tv (some x.1) rs (without ready (p % ready.length)) ts ∧ Fr (fun k => ¬ Z k) w w') ?_ ?_
  · obtain ⟨a, ha⟩ := s1.self (now' := some x.1) (rest' := rs) (w' := (w1.setRow rb [.pointer (some ⟨sb, 0, none⟩), tv, .pointer (some ⟨x.1, 0, none⟩), .int .u64 rest].toArray).setRow rb [.pointer (some ⟨sb, 0, none⟩), tv, .pointer (some ⟨x.1, 0, none⟩), .int .u64 rs].toArray) (fun b hb => by cases hb; exact List.mem_map.2 ⟨x, List.mem_of_getElem? hx, rfl⟩) (((Fr.refl (fun k => k = rb) w1).set _ _ (.inl rfl)).set _ _ (.inl rfl)) (show Blk _ rb [.pointer (some ⟨sb, 0, none⟩), tv, .pointer (some ⟨x.1, 0, none⟩), .int .u64 rs] 82 from inferInstance)
    exact ⟨a, hz1.trans ha⟩
  clear hr1 ht1 s1 hz1 hsc hz
  rintro w1b ⟨s1, hz1⟩
  have hb1 := s1.tk i x hx
  rw [tkL, hnext] at hb1
  (((apply vL_val); (case h => ((apply opv_loadb1); exact rfl; exact rfl; (first | assumption | infer_instance); exact rfl))); ((apply vL_val); (case h => ((apply opv_E); exact rfl))); apply vL_nil; apply seqP_normal; apply vC_seq; apply vC_region; (iterate 3 (((apply vL_val); (case h => ((apply opv_E); exact rfl))))); ((apply vL_val); (case h => ((apply opv_fieldAddr); exact rfl))); ((apply vL_skip); (case h => ((apply ops_store1); (first | exact norm_eq rfl | ((conv => lhs; whnf) <;> exact rfl)); (first | exact norm_eq rfl | ((conv => lhs; whnf) <;> exact rfl)); (first | rfl | assumption); (first | assumption | infer_instance); (first | decide | exact of_decide_eq_true rfl | (simp; done))))); ((apply vL_val); (case h => ((apply opv_E); exact rfl))); ((apply vL_val); (case h => ((apply opv_fieldAddr); exact rfl))); ((apply vL_skip); (case h => ((apply ops_store1); (first | exact norm_eq rfl | ((conv => lhs; whnf) <;> exact rfl)); (first | exact norm_eq rfl | ((conv => lhs; whnf) <;> exact rfl)); (first | rfl | assumption); (first | assumption | infer_instance); (first | decide | exact of_decide_eq_true rfl | (simp; done))))); apply vL_nil; apply seqP_normal; apply vC_seq; apply vC_region; ((apply vL_val); (case h => ((apply opv_E); exact rfl))))
  refine vL_gen (fun w' => Rt Z w' rb sb qb lv1 tv (some x.1) rs (without ready (p % ready.length)) (ts.set i (x.1, { x.2 with next := ⟨.nilFunc, rfl⟩, said := false })) ∧ Fr (fun k => ¬ Z k) w w') ?_ ?_
  · obtain ⟨b, hb⟩ := s1.task (y := { x.2 with next := ⟨.nilFunc, rfl⟩, said := false }) (w' := (w1b.setRow x.1 [.pointer (some ⟨rb, 0, none⟩), .int .i64 i, .nilFunc, x.2.wake.1, .bool x.2.said, .bool x.2.parked, .bool x.2.over].toArray).setRow x.1 [.pointer (some ⟨rb, 0, none⟩), .int .i64 i, .nilFunc, x.2.wake.1, .bool false, .bool x.2.parked, .bool x.2.over].toArray) hx (((Fr.refl (fun k => k = x.1) _).set _ _ (.inl rfl)).set _ _ (.inl rfl)) (show Blk _ x.1 [.pointer (some ⟨rb, 0, none⟩), .int .i64 i, .nilFunc, x.2.wake.1, .bool false, .bool x.2.parked, .bool x.2.over] 75 from inferInstance)
    exact ⟨b, hz1.trans hb⟩
  clear hb1 s1 hz1
  rintro w2 ⟨s2, hz2⟩
  refine vL_callF rfl (hcall w2 lv1 s2 hz2) rfl ?_
  rintro _ w3 ⟨Z2, sb2, qb2, lv2, tv2, rest2, ready2, ts2, y, s3, hy, hH⟩
  have hb3 := s3.tk i _ hy
  have hone3 := y.wake.2
  have hone4 := y.next.2
  rw [tkL] at hb3
  (apply vL_nil; apply seqP_normal; apply vC_seq; apply vC_region; (iterate 3 (((apply vL_val); (case h => ((apply opv_E); exact rfl))))); ((apply vL_val); (case h => ((apply opv_fieldAddr); exact rfl))); ((apply vL_val); (case h => ((apply opv_loadb1); exact rfl; exact rfl; (first | assumption | infer_instance); exact rfl))); ((apply vL_val); (case h => ((apply opv_not); exact rfl))); ((apply vL_val); (case h => ((apply opv_E); exact rfl))); ((apply vL_val); (case h => ((apply opv_fieldAddr); exact rfl))); ((apply vL_skip); (case h => ((apply ops_store1); (first | exact norm_eq rfl | ((conv => lhs; whnf) <;> exact rfl)); (first | exact norm_eq rfl | ((conv => lhs; whnf) <;> exact rfl)); (first | rfl | assumption); (first | assumption | infer_instance); (first | decide | exact of_decide_eq_true rfl | (simp; done))))); apply vL_nil; apply seqP_normal; apply vC_seq; apply vC_region; (iterate 3 (((apply vL_val); (case h => ((apply opv_E); exact rfl))))); ((apply vL_val); (case h => ((apply opv_fieldAddr); exact rfl))))
  refine vL_gen (fun w' => Rt Z2 w' rb sb2 qb2 lv2 tv2 (some x.1) rest2 ready2 (ts2.set i (x.1, { y with over := !y.said })) ∧ Fr (fun k => ¬ Z2 k) w3 w') ?_ ?_
  · exact s3.task (y := { y with over := !y.said }) (w' := w3.setRow x.1 [.pointer (some ⟨rb, 0, none⟩), .int .i64 i, y.next.1, y.wake.1, .bool y.said, .bool y.parked, .bool (!y.said)].toArray) hy ((Fr.refl (fun k => k = x.1) _).set _ _ (.inl rfl)) (show Blk _ x.1 [.pointer (some ⟨rb, 0, none⟩), .int .i64 i, y.next.1, y.wake.1, .bool y.said, .bool y.parked, .bool (!y.said)] 75 from inferInstance)
  rintro w4 ⟨a, ha⟩
  have har := a.hr
  (((apply vL_skip); (case h => ((apply ops_store1); (first | exact norm_eq rfl | ((conv => lhs; whnf) <;> exact rfl)); (first | exact norm_eq rfl | ((conv => lhs; whnf) <;> exact rfl)); (first | rfl | assumption); (first | assumption | infer_instance); (first | decide | exact of_decide_eq_true rfl | (simp; done))))); ((apply vL_val); (case h => ((apply opv_E); exact rfl))); ((apply vL_val); (case h => ((apply opv_fieldAddr); exact rfl))); ((apply vL_skip); (case h => ((apply ops_store1); (first | exact norm_eq rfl | ((conv => lhs; whnf) <;> exact rfl)); (first | exact norm_eq rfl | ((conv => lhs; whnf) <;> exact rfl)); (first | rfl | assumption); (first | assumption | infer_instance); (first | decide | exact of_decide_eq_true rfl | (simp; done))))); apply vL_nil; apply seqP_normal; apply vC_seq; apply vC_region; ((apply vL_val); (case h => ((apply opv_E); exact rfl))); apply vL_nil; apply seqP_normal; apply vC_ret)
  (apply ret1; (case h1 => (first | exact norm_eq rfl | ((conv => lhs; whnf) <;> exact rfl))))
  obtain ⟨b, hb⟩ := a.self (now' := none) (rest' := 0) (w' := (w4.setRow rb [.pointer (some ⟨sb2, 0, none⟩), tv2, .pointer none, .int .u64 rest2].toArray).setRow rb [.pointer (some ⟨sb2, 0, none⟩), tv2, .pointer none, .int .u64 0].toArray) (fun b hb => by cases hb) (((Fr.refl (fun k => k = rb) _).set _ _ (.inl rfl)).set _ _ (.inl rfl)) (show Blk _ rb [.pointer (some ⟨sb2, 0, none⟩), tv2, .pointer none, .int .u64 0] 82 from inferInstance)
  exact ⟨rfl, w3, Z2, sb2, qb2, lv2, tv2, ready2, ts2, y, hH, hy, b, ha.trans hb⟩
end
end Go.Proofs.Ytaeckjhipmcddaa
