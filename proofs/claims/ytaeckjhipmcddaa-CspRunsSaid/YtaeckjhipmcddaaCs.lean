/- Layer 15: a turn, the walk. -/
import Derived.Test.YtaeckjhipmcddaaCr
set_option maxRecDepth 100000
namespace Go.Proofs.Ytaeckjhipmcddaa
open Go Go.Eng
theorem wake_keep {S : AS} {i : Nat} {t : AT} (h : S.tasks[i]? = some t) (h3 : t.st ≠ 3) (id why : Int) : (S.wake id why).1.tasks[i]? = some t ∧ (S.wake id why).1.ev = S.ev := by
  unfold AS.wake
  split
  · split
    · rename_i u hu
      split
      · rename_i e3
        refine ⟨?_, rfl⟩
        show (S.tasks.set _ _)[i]? = _
        rw [List.getElem?_set, if_neg (fun e => by subst e; rw [h] at hu; cases hu; exact h3 e3)]
        exact h
      · exact ⟨h, rfl⟩
    · exact ⟨h, rfl⟩
  · exact ⟨h, rfl⟩
theorem spawn_keep {S : AS} {i : Nat} {t : AT} (h : S.tasks[i]? = some t) (p : Nat) : (S.spawn p).1.tasks[i]? = some t ∧ (S.spawn p).1.ev = S.ev := by
  unfold AS.spawn
  split
  · exact ⟨h, rfl⟩
  · exact ⟨by show (S.tasks ++ _)[i]? = _; rw [List.getElem?_append_left (List.getElem?_eq_some_iff.1 h).1]; exact h, rfl⟩
theorem tn_again {X K : Nat → Prop} {w : World} {wb rb sb qb : Nat} {lv tv wt we vp : Value} {rest : Int} {ts : List (Nat × TK)} {S : AS} {tb wx tx px ax db prog pos : Nat} {dd : Int × Int × Int} {i : Nat} {y : TK} (t : Tn X K w wb rb sb qb lv tv wt we vp rest none ts S tb wx tx px ax db prog pos dd) (hy : ts[i]? = some (tb, y)) (h1 : y.said = true) (a : AOkR S none) (f : FuncId) (cap : Array Value) :
    Rets Try.prog 45 #[pt tb, .func (.func f) #[] cap] w fun u w' => w = w' ∧ u = .int .i64 151 := by
  have hlen := a.len
  have hfew := a.few
  have hm : mayE false (some tb) (tb, y) = 151 := by unfold mayE; rw [if_neg (by simp), if_pos rfl, h1]; rfl
  refine (t_yield t.L.rt hy f cap (by omega)).mono fun u w' ⟨hu, h⟩ => ?_
  rw [hm] at hu h
  rcases h with ⟨_, h⟩ | ⟨h, _⟩
  · exact ⟨h, hu⟩
  · cases h
theorem w_turn {X K : Nat → Prop} {w : World} {wb rb sb qb : Nat} {lv tv wt we vp : Value} {rest : Int} {ts : List (Nat × TK)} {S : AS} {i : Nat} {x : Nat × TK} (P : List (OV × List (Int × Int × Int))) (z : Pz X w.heap vp P)
    (hx : ts[i]? = some x) (s : Lw X K w wb rb sb qb lv tv wt we vp (some x.1) rest S.line ts S.ev) (T : TsOk w.heap K wb (some i) ts S.tasks) (a : AOkR S (some i)) (h1 : x.2.said = false) (h2 : x.2.parked = false) (h3 : x.2.over = false) {prog pos : Nat} (why : Int)
    (hta : S.tasks[i]? = some ⟨prog, pos + 1, 0, 2⟩) (hprog : prog < P.length) (hP6 : P.length ≤ 6) (hPb : ∀ y ∈ P, ∀ q ∈ y.2, q.2.1 ≤ 9223372036854775807) (hev : S.ev.length ≤ 100000) (htl : ts.length ≤ 100000) (hpos : pos ≤ 100000) (hrest : 0 ≤ rest ∧ rest ≤ 18446744073709551615) :
    Rets Try.prog 64 #[pt wb, pt x.1, .int .i64 prog, .int .i64 pos, .int .i64 why] w fun _ w' => Turned X K w w' wb rb vp i x.1 (AS.act (P.map (·.2)) (S.note i pos why) i rest (doAt (P.map (·.2)) prog pos)) := by
  obtain ⟨va, vc, rfl⟩ := z.hP.len
  refine rets_of Try.func64 rfl Try.ntmps64 rfl rfl (by kernel_rfl) ?_
  (apply vC_seq; apply vC_region; (iterate 4 (((apply vL_val); (case h => ((apply opw_box1); (first | exact norm_eq rfl | ((conv => lhs; whnf) <;> exact rfl)); (first | rfl | assumption)))))); apply vL_nil; apply seqP_normal; apply vC_seq; apply vC_region; ((apply vL_val); (case h => ((apply opv_loadb1); exact rfl; exact rfl; (first | assumption | infer_instance); exact rfl))))
  refine vL_gen (fun w' => Fr No w w' ∧ w'.heap.size = w.heap.size + 4 ∧ Blk w'.heap w.heap.size [pt wb] 54 ∧ Blk w'.heap (w.alloc (.cells #[pt wb] 54)).heap.size [pt x.1] 64 ∧ Blk w'.heap ((w.alloc (.cells #[pt wb] 54)).alloc (.cells #[pt x.1] 64)).heap.size [.int .i64 prog] 3 ∧ Blk w'.heap (((w.alloc (.cells #[pt wb] 54)).alloc (.cells #[pt x.1] 64)).alloc (.cells #[.int .i64 prog] 3)).heap.size [.int .i64 pos] 3) ⟨by (repeat (first | exact Fr.refl _ _ | assumption | with_reducible apply Fr.allocSet | with_reducible apply Fr.alloc | with_reducible apply Fr.drewN | with_reducible apply Fr.drew | ((with_reducible apply Fr.set); rotate_left; (right; ((try simp only [alloc_size]); omega))) | (refine Fr.trans ?_ (by assumption)))), by simp, inferInstance, inferInstance, inferInstance, inferInstance⟩ ?_
  rintro w1 ⟨hf1, hs1, bw, bt, bp, ba⟩
  have gp : w.heap.size ≤ ((w.alloc (.cells #[pt wb] 54)).alloc (.cells #[pt x.1] 64)).heap.size := by simp only [alloc_size]; omega
  have gt : w.heap.size ≤ (w.alloc (.cells #[pt wb] 54)).heap.size := by simp only [alloc_size]; omega
  have ga : w.heap.size ≤ (((w.alloc (.cells #[pt wb] 54)).alloc (.cells #[pt x.1] 64)).alloc (.cells #[.int .i64 prog] 3)).heap.size := by simp only [alloc_size]; omega
  generalize (((w.alloc (.cells #[pt wb] 54)).alloc (.cells #[pt x.1] 64)).alloc (.cells #[.int .i64 prog] 3)).heap.size = ax at *
  generalize ((w.alloc (.cells #[pt wb] 54)).alloc (.cells #[pt x.1] 64)).heap.size = px at *
  generalize (w.alloc (.cells #[pt wb] 54)).heap.size = tx at *
  obtain ⟨K1, hKd⟩ : ∃ K1 : Nat → Prop, ∀ k, K1 k ↔ (K k ∨ k = w.heap.size ∨ k = tx ∨ k = px ∨ k = ax) := ⟨_, fun _ => Iff.rfl⟩
  have s1 : Lw X K1 w1 wb rb sb qb lv tv wt we (.slice va P.length vc) (some x.1) rest S.line ts S.ev := s.box hf1 (fun k hk => by
    rcases (hKd k).1 hk with h | rfl | rfl | rfl | rfl
    · exact .inl h
    · exact .inr ⟨Nat.le_refl _, bw.lt⟩
    · exact .inr ⟨gt, bt.lt⟩
    · exact .inr ⟨gp, bp.lt⟩
    · exact .inr ⟨ga, ba.lt⟩)
  have hKK : ∀ k, K k → K1 k := fun k h => (hKd k).2 (.inl h)
  have T1 := T.fr (K' := K1) hf1 (fun _ _ h => h) hKK
  have B1 : Bxs w1.heap K1 wb x.1 prog w.heap.size tx px := ⟨(hKd _).2 (.inr (.inl rfl)), (hKd _).2 (.inr (.inr (.inl rfl))), (hKd _).2 (.inr (.inr (.inr (.inl rfl)))), bw, bt, bp⟩
  have I1 : Bxi w1.heap K1 ax pos := ⟨(hKd _).2 (.inr (.inr (.inr (.inr rfl)))), ba⟩
  have z1 := z.frN hf1
  have hb1 := s1.rt.tk i x hx
  have bt1 := B1.bt
  have bw1 := B1.bw
  have bp1 := B1.bp
  have ba1 := I1.b
  skip
  refine vL_callF rfl (t_id hb1) rfl ?_
  rintro _ _ ⟨rfl, rfl⟩
  (((apply vL_val); (case h => ((apply opv_E); exact rfl))); apply vL_nil; apply seqP_normal; apply vC_seq; apply vC_region; ((apply vL_val); (case h => ((apply opv_loadb1); exact rfl; exact rfl; (first | assumption | infer_instance); exact rfl))); ((apply vL_val); (case h => ((apply opv_E); exact rfl))); ((apply vL_val); (case h => ((apply opv_loadb1); exact rfl; exact rfl; (first | assumption | infer_instance); exact rfl))); ((apply vL_val); (case h => ((apply opv_E); exact rfl))))
  refine vL_callF rfl (w_note s1 i pos why (by omega)) rfl ?_
  rintro _ w2 ⟨we2, s2, F2⟩
  have hno : ∀ k, K1 k → ¬ LF X K1 k := fun k h h' => h'.2 h
  have T2 := T1.fr F2 hno (fun k h => h)
  have B2 := B1.fr F2 hno (fun k h => h)
  have I2 := I1.fr F2 hno (fun k h => h)
  have z2 := z1.fr F2
  have bt2 := B2.bt
  have bw2 := B2.bw
  have bp2 := B2.bp
  have ba2 := I2.b
  (apply vL_nil; apply seqP_normal; apply vC_seq; apply vC_region; ((apply vL_val); (case h => ((apply opv_buildS); exact rfl; (first | exact (rfl : _ = some []) | exact (rfl : _ = some [_]) | exact (rfl : _ = some [_, _]) | exact (rfl : _ = some [_, _, _]) | exact (rfl : _ = some [_, _, _, _]) | exact (rfl : _ = some [_, _, _, _, _]) | exact (rfl : _ = some [_, _, _, _, _, _]) | exact (rfl : _ = some [_, _, _, _, _, _, _]) | exact (rfl : _ = some [_, _, _, _, _, _, _, _]) | exact (rfl : _ = some [_, _, _, _, _, _, _, _, _]) | exact (rfl : _ = some [_, _, _, _, _, _, _, _, _, _]) | exact (rfl : _ = some [_, _, _, _, _, _, _, _, _, _, _]) | exact (rfl : _ = some [_, _, _, _, _, _, _, _, _, _, _, _]) | exact (rfl : _ = some [_, _, _, _, _, _, _, _, _, _, _, _, _]) | exact (rfl : _ = some [_, _, _, _, _, _, _, _, _, _, _, _, _, _]) | exact (rfl : _ = some [_, _, _, _, _, _, _, _, _, _, _, _, _, _, _]) | exact (rfl : _ = some [_, _, _, _, _, _, _, _, _, _, _, _, _, _, _, _]))))); ((apply vL_val); (case h => (apply opw_alloc))); ((apply vL_skip); (case h => ((apply ops_storen); (first | exact norm_eq rfl | ((conv => lhs; whnf) <;> exact rfl)); (first | exact norm_eq rfl | ((conv => lhs; whnf) <;> exact rfl)); exact rfl; (first | exact (fun u hu => EncOk.one _ u hu) | (intro u hu; simp at hu; rcases hu with rfl | rfl <;> (first | rfl | assumption))); (first | assumption | infer_instance); (first | decide | exact of_decide_eq_true rfl | (simp; done))))); apply vL_nil; apply seqP_normal; (iterate 2 (apply vC_seq)))
  refine vC_gen (fun w' => Fr No w2 w' ∧ w2.heap.size < w'.heap.size ∧ Blk w'.heap w2.heap.size [.int .i64 0, .int .i64 0, .int .i64 0] 90) ⟨by (repeat (first | exact Fr.refl _ _ | assumption | with_reducible apply Fr.allocSet | with_reducible apply Fr.alloc | with_reducible apply Fr.drewN | with_reducible apply Fr.drew | ((with_reducible apply Fr.set); rotate_left; (right; ((try simp only [alloc_size]); omega))) | (refine Fr.trans ?_ (by assumption)))), by simp, inferInstance⟩ ?_
  rintro w3 ⟨hf3, hlt3, bd3⟩
  have z3 := z2.frN hf3
  obtain ⟨d, hd⟩ : ∃ d, P[prog]? = some d := ⟨P[prog], by simp [hprog]⟩
  have hd' : P[((prog : Nat) : Int).toNat]? = some d := by rw [Int.toNat_natCast]; exact hd
  have hdone := d.1.2
  have hP3 := z3.hP
  have hPd3 := z3.hPi d (List.mem_of_getElem? hd)
  have hPs := hP3.small
  have hPds := hPd3.small
  have hw3 := s2.hw.frN hf3
  have bt3 := B2.bt.frN hf3
  have bw3 := B2.bw.frN hf3
  have bp3 := B2.bp.frN hf3
  have ba3 := I2.b.frN hf3
  have o1 := s2.ow
  have o2 := s2.oe
  have o3 := s2.op
  have hdo : doAt (P.map (·.2)) prog pos = (d.2[pos]?).getD (0, 0, 0) := by unfold doAt; rw [List.getElem?_map, hd]; rfl
  (with_reducible apply vC_drawQ); ((iterate 2 (((apply vQ_op); (case hi => exact rfl); (case hf => kernel_rfl); (case hS => (first | exact Dr.refl _ | assumption | exact ⟨_, rfl⟩)); (case hy => (intro j; ((apply opv_loadb1); exact rfl; exact rfl; (first | assumption | infer_instance); exact rfl)))))); ((apply vQ_op); (case hi => exact rfl); (case hf => kernel_rfl); (case hS => (first | exact Dr.refl _ | assumption | exact ⟨_, rfl⟩)); (case hy => (intro j; ((apply opv_E); exact rfl)))); ((apply vQ_op); (case hi => exact rfl); (case hf => kernel_rfl); (case hS => (first | exact Dr.refl _ | assumption | exact ⟨_, rfl⟩)); (case hy => (intro j; ((apply opv_fieldAddr); exact rfl)))); (iterate 2 (((apply vQ_op); (case hi => exact rfl); (case hf => kernel_rfl); (case hS => (first | exact Dr.refl _ | assumption | exact ⟨_, rfl⟩)); (case hy => (intro j; ((apply opv_loadb1); exact rfl; exact rfl; (first | assumption | infer_instance); exact rfl)))))); ((apply vQ_op); (case hi => exact rfl); (case hf => kernel_rfl); (case hS => (first | exact Dr.refl _ | assumption | exact ⟨_, rfl⟩)); (case hy => (intro j; ((apply opv_indexAddr); (first | exact norm_eq rfl | ((conv => lhs; whnf) <;> exact rfl)); exact rfl; (first | assumption | infer_instance); (first | omega | (simp only [List.length_map]; omega)); (first | omega | (simp only [List.length_map]; omega)))))); ((apply vQ_op); (case hi => exact rfl); (case hf => kernel_rfl); (case hS => (first | exact Dr.refl _ | assumption | exact ⟨_, rfl⟩)); (case hy => (intro j; ((apply opv_ld_el); exact rfl; exact rfl; (first | assumption | infer_instance); assumption; exact rfl)))); ((apply vQ_op); (case hi => exact rfl); (case hf => kernel_rfl); (case hS => (first | exact Dr.refl _ | assumption | exact ⟨_, rfl⟩)); (case hy => (intro j; ((apply opv_len); (first | exact norm_eq rfl | ((conv => lhs; whnf) <;> exact rfl)); (first | assumption | infer_instance))))); ((apply vQ_op); (case hi => exact rfl); (case hf => kernel_rfl); (case hS => (first | exact Dr.refl _ | assumption | exact ⟨_, rfl⟩)); (case hy => (intro j; ((apply opv_E); exact rfl)))); ((apply vQ_end); (case hi => exact rfl); (case hf => kernel_rfl); (case hS => (first | exact Dr.refl _ | assumption | exact ⟨_, rfl⟩))))
  with_reducible apply seqP_normal
  generalize hdd : doAt (P.map (·.2)) prog pos = dd at *
  refine vC_meet 4393751543808 (fun w' => Fr No w2 w' ∧ w2.heap.size < w'.heap.size ∧ Blk w'.heap w2.heap.size (eE dd) 90) ?_ ?_
  · by_cases hpl : pos < d.2.length
    · obtain ⟨q, hq⟩ : ∃ q, d.2[pos]? = some q := ⟨d.2[pos], by simp [hpl]⟩
      have hq' : d.2[((pos : Nat) : Int).toNat]? = some q := by rw [Int.toNat_natCast]; exact hq
      have hdq : dd = q := by rw [hdo, hq]; rfl
      refine vC_condT rfl (decide_eq_true (by omega)) ?_
      have bwq := B2.bw
      have bpq := B2.bp
      have baq := I2.b
      have hwq := s2.hw
      have hPq := z2.hP
      have hPdq := z2.hPi d (List.mem_of_getElem? hd)
      refine vC_draw' (fun wf => Fr No w2 wf) hf3.drew.drew ?_
      ((apply (tk 0)); (case hi => exact rfl); (case hf => kernel_rfl); (case hS => (repeat (first | exact Fr.refl _ _ | assumption | with_reducible apply Fr.allocSet | with_reducible apply Fr.alloc | with_reducible apply Fr.drewN | with_reducible apply Fr.drew | ((with_reducible apply Fr.set); rotate_left; (right; ((try simp only [alloc_size]); omega))) | (refine Fr.trans ?_ (by assumption))))); (case hy => (intro wf hwf; haveI := From.mk hwf; (((apply opv_loadb1); exact rfl; exact rfl; (first | assumption | infer_instance); exact rfl)))))
      ((apply (tk 1)); (case hi => exact rfl); (case hf => kernel_rfl); (case hS => (repeat (first | exact Fr.refl _ _ | assumption | with_reducible apply Fr.allocSet | with_reducible apply Fr.alloc | with_reducible apply Fr.drewN | with_reducible apply Fr.drew | ((with_reducible apply Fr.set); rotate_left; (right; ((try simp only [alloc_size]); omega))) | (refine Fr.trans ?_ (by assumption))))); (case hy => (intro wf hwf; haveI := From.mk hwf; (((apply opv_E); exact rfl)))))
      ((apply (tk 2)); (case hi => exact rfl); (case hf => kernel_rfl); (case hS => (repeat (first | exact Fr.refl _ _ | assumption | with_reducible apply Fr.allocSet | with_reducible apply Fr.alloc | with_reducible apply Fr.drewN | with_reducible apply Fr.drew | ((with_reducible apply Fr.set); rotate_left; (right; ((try simp only [alloc_size]); omega))) | (refine Fr.trans ?_ (by assumption))))); (case hy => (intro wf hwf; haveI := From.mk hwf; (((apply opv_fieldAddr); exact rfl)))))
      ((apply (tk 3)); (case hi => exact rfl); (case hf => kernel_rfl); (case hS => (repeat (first | exact Fr.refl _ _ | assumption | with_reducible apply Fr.allocSet | with_reducible apply Fr.alloc | with_reducible apply Fr.drewN | with_reducible apply Fr.drew | ((with_reducible apply Fr.set); rotate_left; (right; ((try simp only [alloc_size]); omega))) | (refine Fr.trans ?_ (by assumption))))); (case hy => (intro wf hwf; haveI := From.mk hwf; (((apply opv_loadb1); exact rfl; exact rfl; (first | assumption | infer_instance); exact rfl)))))
      ((apply (tk 4)); (case hi => exact rfl); (case hf => kernel_rfl); (case hS => (repeat (first | exact Fr.refl _ _ | assumption | with_reducible apply Fr.allocSet | with_reducible apply Fr.alloc | with_reducible apply Fr.drewN | with_reducible apply Fr.drew | ((with_reducible apply Fr.set); rotate_left; (right; ((try simp only [alloc_size]); omega))) | (refine Fr.trans ?_ (by assumption))))); (case hy => (intro wf hwf; haveI := From.mk hwf; (((apply opv_loadb1); exact rfl; exact rfl; (first | assumption | infer_instance); exact rfl)))))
      ((apply (tk 5)); (case hi => exact rfl); (case hf => kernel_rfl); (case hS => (repeat (first | exact Fr.refl _ _ | assumption | with_reducible apply Fr.allocSet | with_reducible apply Fr.alloc | with_reducible apply Fr.drewN | with_reducible apply Fr.drew | ((with_reducible apply Fr.set); rotate_left; (right; ((try simp only [alloc_size]); omega))) | (refine Fr.trans ?_ (by assumption))))); (case hy => (intro wf hwf; haveI := From.mk hwf; (((apply opv_indexAddr); (first | exact norm_eq rfl | ((conv => lhs; whnf) <;> exact rfl)); exact rfl; (first | assumption | infer_instance); (first | omega | (simp only [List.length_map]; omega)); (first | omega | (simp only [List.length_map]; omega)))))))
      ((apply (tk 6)); (case hi => exact rfl); (case hf => kernel_rfl); (case hS => (repeat (first | exact Fr.refl _ _ | assumption | with_reducible apply Fr.allocSet | with_reducible apply Fr.alloc | with_reducible apply Fr.drewN | with_reducible apply Fr.drew | ((with_reducible apply Fr.set); rotate_left; (right; ((try simp only [alloc_size]); omega))) | (refine Fr.trans ?_ (by assumption))))); (case hy => (intro wf hwf; haveI := From.mk hwf; (((apply opv_ld_el); exact rfl; exact rfl; (first | assumption | infer_instance); assumption; exact rfl)))))
      ((apply (tk 7)); (case hi => exact rfl); (case hf => kernel_rfl); (case hS => (repeat (first | exact Fr.refl _ _ | assumption | with_reducible apply Fr.allocSet | with_reducible apply Fr.alloc | with_reducible apply Fr.drewN | with_reducible apply Fr.drew | ((with_reducible apply Fr.set); rotate_left; (right; ((try simp only [alloc_size]); omega))) | (refine Fr.trans ?_ (by assumption))))); (case hy => (intro wf hwf; haveI := From.mk hwf; (((apply opv_loadb1); exact rfl; exact rfl; (first | assumption | infer_instance); exact rfl)))))
      ((apply (tk 8)); (case hi => exact rfl); (case hf => kernel_rfl); (case hS => (repeat (first | exact Fr.refl _ _ | assumption | with_reducible apply Fr.allocSet | with_reducible apply Fr.alloc | with_reducible apply Fr.drewN | with_reducible apply Fr.drew | ((with_reducible apply Fr.set); rotate_left; (right; ((try simp only [alloc_size]); omega))) | (refine Fr.trans ?_ (by assumption))))); (case hy => (intro wf hwf; haveI := From.mk hwf; (((apply opv_indexAddr); (first | exact norm_eq rfl | ((conv => lhs; whnf) <;> exact rfl)); exact rfl; (first | assumption | infer_instance); (first | omega | (simp only [List.length_map]; omega)); (first | omega | (simp only [List.length_map]; omega)))))))
      ((apply (tk 9)); (case hi => exact rfl); (case hf => kernel_rfl); (case hS => (repeat (first | exact Fr.refl _ _ | assumption | with_reducible apply Fr.allocSet | with_reducible apply Fr.alloc | with_reducible apply Fr.drewN | with_reducible apply Fr.drew | ((with_reducible apply Fr.set); rotate_left; (right; ((try simp only [alloc_size]); omega))) | (refine Fr.trans ?_ (by assumption))))); (case hy => (intro wf hwf; haveI := From.mk hwf; (((apply opv_ld_eln); exact rfl; exact rfl; (first | assumption | infer_instance); assumption)))))
      refine vA_only 10 rfl (by kernel_rfl) hf3.drew.drew (fun J hJ => ?_)
      (((apply vL_skip); (case h => ((apply ops_storen); (first | exact norm_eq rfl | ((conv => lhs; whnf) <;> exact rfl)); (first | exact norm_eq rfl | ((conv => lhs; whnf) <;> exact rfl)); exact rfl; (first | exact (fun u hu => EncOk.one _ u hu) | (intro u hu; simp at hu; rcases hu with rfl | rfl <;> (first | rfl | assumption))); (first | assumption | infer_instance); (first | decide | exact of_decide_eq_true rfl | (simp; done))))); apply vL_nil)
      refine ⟨rfl, hJ _ _ ?_⟩
      refine vA_done (by kernel_rfl) (hf3.drew.drew.set _ _ (.inr (Nat.le_refl _))) ?_
      refine ⟨rfl, by ((repeat (first | (with_reducible exact same_mask _ _ _) | with_reducible apply same_updN | ((with_reducible refine same_updO ?_ ?_); rotate_left; exact rfl) | ((with_reducible refine same_upd ?_ ?_); rotate_left; exact rfl) | ((with_reducible refine same_maskIn ?_ ?_); rotate_left; exact rfl))); exact fun _ _ => rfl), hf3.drew.drew.set _ _ (.inr (Nat.le_refl _)), by rw [setRow_size]; exact hlt3, ?_⟩
      rw [hdq]
      exact Blk.as (Blk.set (inferInstance : Blk w3.drew.drew.heap w2.heap.size _ _)) rfl
    · have hdq : dd = (0, 0, 0) := by rw [hdo, List.getElem?_eq_none (by omega)]; rfl
      refine vC_condF rfl (decide_eq_false (by omega)) ?_
      (apply vC_skip)
      refine ⟨rfl, fun _ _ => rfl, hf3.drew, hlt3, ?_⟩
      rw [hdq]
      exact (show Blk w3.drew.heap w2.heap.size _ _ from inferInstance)
  rintro junk4 w4 ⟨hf4, hlt4, bd4⟩
  first | with_reducible apply vC_seq | with_reducible apply vC_region | with_reducible apply seqP_normal | with_reducible apply vC_block | with_reducible apply vC_ret | with_reducible apply vC_skip | with_reducible apply vC_exit | with_reducible apply seqP_ret | with_reducible apply seqP_exit | with_reducible apply blockP_normal | with_reducible apply blockP_ret | with_reducible apply blockP_exit | ((with_reducible apply blockP_pass); exact rfl) | with_reducible apply loopP_normal | with_reducible apply vL_ac | with_reducible apply vL_an | with_reducible apply loopP_ret | with_reducible apply loopP_exit | ((with_reducible apply vC_cond_true); exact rfl) | ((with_reducible apply vC_cond_false); exact rfl) | with_reducible apply vC_scope | with_reducible apply gotoP_normal | with_reducible apply gotoP_ret | with_reducible apply gotoP_exit | with_reducible apply vC_label
  obtain ⟨K4, hKe⟩ : ∃ K4 : Nat → Prop, ∀ k, K4 k ↔ (K1 k ∨ k = w2.heap.size) := ⟨_, fun _ => Iff.rfl⟩
  have hno4 : ∀ k, K1 k → K4 k := fun k h => (hKe k).2 (.inl h)
  have t4 : Tn X K4 w4 wb rb sb qb lv tv wt we2 (.slice va P.length vc) rest (some i) ts (S.note i pos why) x.1 w.heap.size tx px ax w2.heap.size prog pos dd :=
    ⟨s2.box hf4 (fun k hk => ((hKe k).1 hk).imp id (fun h => ⟨Nat.le_of_eq h.symm, by rw [h]; exact hlt4⟩)), T2.fr hf4 (fun _ _ h => h) hno4, B2.fr hf4 (fun _ _ h => h) hno4, I2.fr hf4 (fun _ _ h => h) hno4, (hKe _).2 (.inr rfl), bd4⟩
  have a4 := a.note i pos why
  have hta4 : (S.note i pos why).tasks[i]? = some ⟨prog, pos + 1, 0, 2⟩ := hta
  have hev4 : (S.note i pos why).ev.length ≤ 100001 := by
    show (S.ev ++ [_]).length ≤ _
    simp; omega
  have FF : Fr (LF X K) w w4 := (hf1.no_any.trans' F2 (fun k hk => .inl ⟨hk.1, fun h => hk.2 (hKK k h)⟩)).trans hf4.no_any
  have hX4 : KX w K K4 := ⟨fun k h => hno4 k (hKK k h), fun k hk => by
    rcases (hKe k).1 hk with h | rfl
    · rcases (hKd k).1 h with h | rfl | rfl | rfl | rfl
      · exact .inl h
      · exact .inr (Nat.le_refl _)
      · exact .inr gt
      · exact .inr gp
      · exact .inr ga
    · exact .inr (Nat.le_trans hf1.size F2.size)⟩
  have hK4 := hX4.1
  have hml : (ts.map (·.1)).length = ts.length := List.length_map ..
  have hda : dd.2.1 ≤ 9223372036854775807 := by
    rw [hdo]
    by_cases hpl : pos < d.2.length
    · rw [List.getElem?_eq_getElem hpl]
      exact hPb d (List.mem_of_getElem? hd) _ (List.getElem_mem hpl)
    · rw [List.getElem?_eq_none (by omega)]; decide
  clear hdo hdd hd hd' hPd3 hP3 hw3 bt3 bw3 bp3 ba3 o1 o2 o3 s2 T2 B2 I2 bt2 bw2 bp2 ba2 s1 T1 B1 I1 bt1 bw1 bp1 ba1 hb1 F2 hf4 hlt4 bd4 s T hta a bw bt bp ba hno
  generalize hS1 : S.note i pos why = S1 at *
  clear hS1 hKK hno4 hKe hKd
  generalize w2.heap.size = db at *
  generalize w.heap.size = wx at *
  have hLF : ∀ k, LF X K4 k → LF X K k ∨ w.heap.size ≤ k := fun k hk => .inl ⟨hk.1, fun h => hk.2 (hK4 k h)⟩
  have bw4 := t4.B.bw
  have bt4 := t4.B.bt
  have bp4 := t4.B.bp
  have ba4 := t4.I.b
  have bd4 := t4.d
  have hw4 := t4.L.hw
  rw [eE] at bd4
  (apply vC_seq; apply vC_region; ((apply vL_val); (case h => ((apply opv_makeFunc); exact rfl))); ((apply vL_val); (case h => ((apply opv_E); exact rfl))); apply vL_nil; apply seqP_normal; apply vC_seq; apply vC_region; ((apply vL_val); (case h => ((apply opv_fieldAddr); exact rfl))); ((apply vL_val); (case h => ((apply opv_loadb1); exact rfl; exact rfl; (first | assumption | infer_instance); exact rfl))); apply vL_nil; apply seqP_normal; apply vC_block; apply vC_seq; apply vC_region; (iterate 2 (((apply vL_val); (case h => ((apply opv_E); exact rfl))))); apply vL_nil; apply seqP_normal)
  by_cases k1 : dd.1 = 1
  · have e1 : AS.act (P.map (·.2)) S1 i rest dd = S1.ready i := by unfold AS.act; rw [if_pos k1]
    rw [e1]
    ((refine vC_cond_dec rfl (fun _ => ?_) (fun h => by omega)); apply vC_region; ((apply vL_val); (case h => ((apply opv_loadb1); exact rfl; exact rfl; (first | assumption | infer_instance); exact rfl))); ((apply vL_val); (case h => ((apply opv_E); exact rfl))))
    refine vL_callF rfl (tn_yield t4 hx a4 h1 h2 h3 hta4) rfl ?_
    rintro _ w5 ⟨rfl, sb5, qb5, lv5, tv5, wt5, we5, ts5, y5, t5, hy5, y1, y2, F5⟩
    (apply vL_nil; apply blockP_normal)
    (first | apply ret0 | apply ret0n)
    exact t5.turned (FF.trans' F5 hLF) hy5 hX4 y1 y2
  by_cases k2 : dd.1 = 2
  · have e2 : AS.act (P.map (·.2)) S1 i rest dd = S1.setT i ⟨prog, pos + 1, 0, 3⟩ := by unfold AS.act; rw [if_neg k1, if_pos k2, hta4]
    rw [e2]
    ((refine vC_cond_dec rfl (fun h => by omega) (fun _ => ?_)); apply vC_seq; apply vC_region; (iterate 2 (((apply vL_val); (case h => ((apply opv_E); exact rfl))))); apply vL_nil; apply seqP_normal; (refine vC_cond_dec rfl (fun _ => ?_) (fun h => by omega)); apply vC_region; ((apply vL_val); (case h => ((apply opv_loadb1); exact rfl; exact rfl; (first | assumption | infer_instance); exact rfl))); ((apply vL_val); (case h => ((apply opv_makeFunc); exact rfl))))
    refine vL_callF rfl (tn_park t4 hx h1 h3 hta4) rfl ?_
    rintro _ w5 ⟨rfl, sb5, qb5, lv5, tv5, wt5, we5, ts5, y5, t5, hy5, y1, y2, F5⟩
    (apply vL_nil; apply blockP_normal)
    (first | apply ret0 | apply ret0n)
    exact t5.turned (FF.trans' F5 hLF) hy5 hX4 y1 y2
  by_cases k3 : dd.1 = 3
  · have e3 : AS.act (P.map (·.2)) S1 i rest dd = ((S1.wake dd.2.1 dd.2.2).1.note i (-2) (S1.wake dd.2.1 dd.2.2).2).ready i := by unfold AS.act; rw [if_neg k1, if_neg k2, if_pos k3]
    rw [e3]
    have hwt4 := t4.L.hwt
    by_cases hin : 0 ≤ dd.2.1 ∧ dd.2.1 < ts.length
    · obtain ⟨g0, g1⟩ := hin
      obtain ⟨j, hj⟩ : ∃ j : Nat, dd.2.1 = j := ⟨dd.2.1.toNat, by omega⟩
      obtain ⟨y, hy⟩ : ∃ y, ts[j]? = some y := ⟨ts[j]'(by omega), List.getElem?_eq_getElem _⟩
      obtain ⟨b, hb⟩ : ∃ b, S1.tasks[j]? = some b := ⟨S1.tasks[j]'(by rw [← t4.T.1]; omega), List.getElem?_eq_getElem _⟩
      have hyb : y.2.parked = decide (b.st = 3) ∧ y.2.over = decide (b.st = 0) := by
        by_cases e : i = j
        · subst e
          rw [hx] at hy; rw [hta4] at hb; cases hy; cases hb
          exact ⟨h2, h3⟩
        · have := t4.T.2 j y b (fun h => e (Option.some.inj h).symm) hy hb
          exact ⟨this.parked, this.over⟩
      have hyp : (ts.map (·.1))[(dd.2.1).toNat]? = some y.1 := by rw [hj, Int.toNat_natCast, List.getElem?_map, hy]; rfl
      ((refine vC_cond_dec rfl (fun h => by omega) (fun _ => ?_)); apply vC_seq; apply vC_region; (iterate 2 (((apply vL_val); (case h => ((apply opv_E); exact rfl))))); apply vL_nil; apply seqP_normal; (refine vC_cond_dec rfl (fun h => by omega) (fun _ => ?_)); apply vC_seq; apply vC_region; (iterate 2 (((apply vL_val); (case h => ((apply opv_E); exact rfl))))); apply vL_nil; apply seqP_normal; (refine vC_cond_dec rfl (fun _ => ?_) (fun h => by omega)); apply vC_seq; apply vC_region; ((apply vL_val); (case h => ((apply opv_E); exact rfl))); apply vL_nil; apply seqP_normal; (iterate 2 (apply vC_seq)))
      (with_reducible apply vC_drawQ); (((apply vQ_op); (case hi => exact rfl); (case hf => kernel_rfl); (case hS => (first | exact Dr.refl _ | assumption | exact ⟨_, rfl⟩)); (case hy => (intro j; ((apply opv_fieldAddr); exact rfl)))); ((apply vQ_op); (case hi => exact rfl); (case hf => kernel_rfl); (case hS => (first | exact Dr.refl _ | assumption | exact ⟨_, rfl⟩)); (case hy => (intro j; ((apply opv_loadb1); exact rfl; exact rfl; (first | assumption | infer_instance); exact rfl)))); (iterate 2 (((apply vQ_op); (case hi => exact rfl); (case hf => kernel_rfl); (case hS => (first | exact Dr.refl _ | assumption | exact ⟨_, rfl⟩)); (case hy => (intro j; ((apply opv_E); exact rfl)))))); (refine vQ_gT rfl rfl rfl (by omega) ?_); ((apply vQ_wanted); (case hi => exact rfl); (case hg => exact rfl); (case hf => kernel_rfl); (case hS => (first | exact Dr.refl _ | assumption | exact ⟨_, rfl⟩)); (case hy => (intro j; ((apply opv_fieldAddr); exact rfl)))); (iterate 2 (((apply vQ_wanted); (case hi => exact rfl); (case hg => exact rfl); (case hf => kernel_rfl); (case hS => (first | exact Dr.refl _ | assumption | exact ⟨_, rfl⟩)); (case hy => (intro j; ((apply opv_loadb1); exact rfl; exact rfl; (first | assumption | infer_instance); exact rfl)))))); ((apply vQ_wanted); (case hi => exact rfl); (case hg => exact rfl); (case hf => kernel_rfl); (case hS => (first | exact Dr.refl _ | assumption | exact ⟨_, rfl⟩)); (case hy => (intro j; ((apply opv_E); exact rfl)))); ((apply vQ_wanted); (case hi => exact rfl); (case hg => exact rfl); (case hf => kernel_rfl); (case hS => (first | exact Dr.refl _ | assumption | exact ⟨_, rfl⟩)); (case hy => (intro j; ((apply opv_fieldAddr); exact rfl)))); ((apply vQ_wanted); (case hi => exact rfl); (case hg => exact rfl); (case hf => kernel_rfl); (case hS => (first | exact Dr.refl _ | assumption | exact ⟨_, rfl⟩)); (case hy => (intro j; ((apply opv_loadb1); exact rfl; exact rfl; (first | assumption | infer_instance); exact rfl)))); ((apply vQ_wanted); (case hi => exact rfl); (case hg => exact rfl); (case hf => kernel_rfl); (case hS => (first | exact Dr.refl _ | assumption | exact ⟨_, rfl⟩)); (case hy => (intro j; ((apply opv_len); (first | exact norm_eq rfl | ((conv => lhs; whnf) <;> exact rfl)); (first | assumption | infer_instance))))); ((apply vQ_wanted); (case hi => exact rfl); (case hg => exact rfl); (case hf => kernel_rfl); (case hS => (first | exact Dr.refl _ | assumption | exact ⟨_, rfl⟩)); (case hy => (intro j; ((apply opv_E); exact rfl)))); ((apply vQ_op); (case hi => exact rfl); (case hf => kernel_rfl); (case hS => (first | exact Dr.refl _ | assumption | exact ⟨_, rfl⟩)); (case hy => (intro j; ((apply opv_E); exact rfl)))); ((apply vQ_end); (case hi => exact rfl); (case hf => kernel_rfl); (case hS => (first | exact Dr.refl _ | assumption | exact ⟨_, rfl⟩))))
      (apply seqP_normal; (refine vC_cond_dec rfl (fun _ => ?_) (fun h => by omega)))
      refine vC_gen (fun w' => Tn X K4 w' wb rb sb qb lv tv wt we2 (.slice va P.length vc) rest (some i) ts S1 x.1 wx tx px ax db prog pos dd ∧ Fr (LF X K) w w') ⟨t4.frN (by (repeat (first | exact Fr.refl _ _ | assumption | with_reducible apply Fr.allocSet | with_reducible apply Fr.alloc | with_reducible apply Fr.drewN | with_reducible apply Fr.drew | ((with_reducible apply Fr.set); rotate_left; (right; ((try simp only [alloc_size]); omega))) | (refine Fr.trans ?_ (by assumption))))), FF.trans (by (repeat (first | exact Fr.refl _ _ | assumption | with_reducible apply Fr.allocSet | with_reducible apply Fr.alloc | with_reducible apply Fr.drewN | with_reducible apply Fr.drew | ((with_reducible apply Fr.set); rotate_left; (right; ((try simp only [alloc_size]); omega))) | (refine Fr.trans ?_ (by assumption)))))⟩ ?_
      clear bw4 bt4 bp4 ba4 bd4 hw4 hwt4 FF t4
      rintro w5 ⟨t5, FF⟩
      have bw5 := t5.B.bw
      have bd5 := t5.d
      have hw5 := t5.L.hw
      have hwt5 := t5.L.hwt
      rw [eE] at bd5
      refine vC_draw' ((fun wf => Blk wf.heap wx [pt wb] 54 ∧ Blk wf.heap db [.int .i64 dd.1, .int .i64 dd.2.1, .int .i64 dd.2.2] 90 ∧ Blk wf.heap wb [.pointer (some ⟨rb, 0, none⟩), .slice va P.length vc, wt, we2] 60 ∧ Own wf.heap 64 1 ptE wt (ts.map (·.1)))) (by (first | exact trivial | assumption | infer_instance | (refine ⟨?_, ?_, ?_, ?_⟩ <;> (first | assumption | infer_instance)) | ((repeat (first | exact Fr.refl _ _ | assumption | with_reducible apply Fr.allocSet | with_reducible apply Fr.alloc | with_reducible apply Fr.drewN | with_reducible apply Fr.drew | ((with_reducible apply Fr.set); rotate_left; (right; ((try simp only [alloc_size]); omega))) | (refine Fr.trans ?_ (by assumption)))); done))) ?_
      ((apply (tk 0)); (case hi => exact rfl); (case hf => kernel_rfl); (case hS => (first | exact trivial | assumption | infer_instance | (refine ⟨?_, ?_, ?_, ?_⟩ <;> (first | assumption | infer_instance)) | ((repeat (first | exact Fr.refl _ _ | assumption | with_reducible apply Fr.allocSet | with_reducible apply Fr.alloc | with_reducible apply Fr.drewN | with_reducible apply Fr.drew | ((with_reducible apply Fr.set); rotate_left; (right; ((try simp only [alloc_size]); omega))) | (refine Fr.trans ?_ (by assumption)))); done))); (case hy => (rintro wf ⟨hwa, hwb, hwc, hwd⟩; (((apply opv_loadb1); exact rfl; exact rfl; (first | assumption | infer_instance); exact rfl)))))
      ((apply (tk 1)); (case hi => exact rfl); (case hf => kernel_rfl); (case hS => (first | exact trivial | assumption | infer_instance | (refine ⟨?_, ?_, ?_, ?_⟩ <;> (first | assumption | infer_instance)) | ((repeat (first | exact Fr.refl _ _ | assumption | with_reducible apply Fr.allocSet | with_reducible apply Fr.alloc | with_reducible apply Fr.drewN | with_reducible apply Fr.drew | ((with_reducible apply Fr.set); rotate_left; (right; ((try simp only [alloc_size]); omega))) | (refine Fr.trans ?_ (by assumption)))); done))); (case hy => (rintro wf ⟨hwa, hwb, hwc, hwd⟩; (((apply opv_E); exact rfl)))))
      ((apply (tk 2)); (case hi => exact rfl); (case hf => kernel_rfl); (case hS => (first | exact trivial | assumption | infer_instance | (refine ⟨?_, ?_, ?_, ?_⟩ <;> (first | assumption | infer_instance)) | ((repeat (first | exact Fr.refl _ _ | assumption | with_reducible apply Fr.allocSet | with_reducible apply Fr.alloc | with_reducible apply Fr.drewN | with_reducible apply Fr.drew | ((with_reducible apply Fr.set); rotate_left; (right; ((try simp only [alloc_size]); omega))) | (refine Fr.trans ?_ (by assumption)))); done))); (case hy => (rintro wf ⟨hwa, hwb, hwc, hwd⟩; (((apply opv_fieldAddr); exact rfl)))))
      ((apply (tk 3)); (case hi => exact rfl); (case hf => kernel_rfl); (case hS => (first | exact trivial | assumption | infer_instance | (refine ⟨?_, ?_, ?_, ?_⟩ <;> (first | assumption | infer_instance)) | ((repeat (first | exact Fr.refl _ _ | assumption | with_reducible apply Fr.allocSet | with_reducible apply Fr.alloc | with_reducible apply Fr.drewN | with_reducible apply Fr.drew | ((with_reducible apply Fr.set); rotate_left; (right; ((try simp only [alloc_size]); omega))) | (refine Fr.trans ?_ (by assumption)))); done))); (case hy => (rintro wf ⟨hwa, hwb, hwc, hwd⟩; (((apply opv_loadb1); exact rfl; exact rfl; (first | assumption | infer_instance); exact rfl)))))
      ((apply (tk 4)); (case hi => exact rfl); (case hf => kernel_rfl); (case hS => (first | exact trivial | assumption | infer_instance | (refine ⟨?_, ?_, ?_, ?_⟩ <;> (first | assumption | infer_instance)) | ((repeat (first | exact Fr.refl _ _ | assumption | with_reducible apply Fr.allocSet | with_reducible apply Fr.alloc | with_reducible apply Fr.drewN | with_reducible apply Fr.drew | ((with_reducible apply Fr.set); rotate_left; (right; ((try simp only [alloc_size]); omega))) | (refine Fr.trans ?_ (by assumption)))); done))); (case hy => (rintro wf ⟨hwa, hwb, hwc, hwd⟩; (((apply opv_fieldAddr); exact rfl)))))
      ((apply (tk 5)); (case hi => exact rfl); (case hf => kernel_rfl); (case hS => (first | exact trivial | assumption | infer_instance | (refine ⟨?_, ?_, ?_, ?_⟩ <;> (first | assumption | infer_instance)) | ((repeat (first | exact Fr.refl _ _ | assumption | with_reducible apply Fr.allocSet | with_reducible apply Fr.alloc | with_reducible apply Fr.drewN | with_reducible apply Fr.drew | ((with_reducible apply Fr.set); rotate_left; (right; ((try simp only [alloc_size]); omega))) | (refine Fr.trans ?_ (by assumption)))); done))); (case hy => (rintro wf ⟨hwa, hwb, hwc, hwd⟩; (((apply opv_loadb1); exact rfl; exact rfl; (first | assumption | infer_instance); exact rfl)))))
      ((apply (tk 6)); (case hi => exact rfl); (case hf => kernel_rfl); (case hS => (first | exact trivial | assumption | infer_instance | (refine ⟨?_, ?_, ?_, ?_⟩ <;> (first | assumption | infer_instance)) | ((repeat (first | exact Fr.refl _ _ | assumption | with_reducible apply Fr.allocSet | with_reducible apply Fr.alloc | with_reducible apply Fr.drewN | with_reducible apply Fr.drew | ((with_reducible apply Fr.set); rotate_left; (right; ((try simp only [alloc_size]); omega))) | (refine Fr.trans ?_ (by assumption)))); done))); (case hy => (rintro wf ⟨hwa, hwb, hwc, hwd⟩; (((apply opv_indexAddr); (first | exact norm_eq rfl | ((conv => lhs; whnf) <;> exact rfl)); exact rfl; (first | assumption | infer_instance); (first | omega | (simp only [List.length_map]; omega)); (first | omega | (simp only [List.length_map]; omega)))))))
      ((apply (tk 7)); (case hi => exact rfl); (case hf => kernel_rfl); (case hS => (first | exact trivial | assumption | infer_instance | (refine ⟨?_, ?_, ?_, ?_⟩ <;> (first | assumption | infer_instance)) | ((repeat (first | exact Fr.refl _ _ | assumption | with_reducible apply Fr.allocSet | with_reducible apply Fr.alloc | with_reducible apply Fr.drewN | with_reducible apply Fr.drew | ((with_reducible apply Fr.set); rotate_left; (right; ((try simp only [alloc_size]); omega))) | (refine Fr.trans ?_ (by assumption)))); done))); (case hy => (rintro wf ⟨hwa, hwb, hwc, hwd⟩; (((apply opv_ld_el); exact rfl; exact rfl; (first | assumption | infer_instance); assumption; exact rfl)))))
      ((apply (tk 8)); (case hi => exact rfl); (case hf => kernel_rfl); (case hS => (first | exact trivial | assumption | infer_instance | (refine ⟨?_, ?_, ?_, ?_⟩ <;> (first | assumption | infer_instance)) | ((repeat (first | exact Fr.refl _ _ | assumption | with_reducible apply Fr.allocSet | with_reducible apply Fr.alloc | with_reducible apply Fr.drewN | with_reducible apply Fr.drew | ((with_reducible apply Fr.set); rotate_left; (right; ((try simp only [alloc_size]); omega))) | (refine Fr.trans ?_ (by assumption)))); done))); (case hy => (rintro wf ⟨hwa, hwb, hwc, hwd⟩; (((apply opv_fieldAddr); exact rfl)))))
      ((apply (tk 9)); (case hi => exact rfl); (case hf => kernel_rfl); (case hS => (first | exact trivial | assumption | infer_instance | (refine ⟨?_, ?_, ?_, ?_⟩ <;> (first | assumption | infer_instance)) | ((repeat (first | exact Fr.refl _ _ | assumption | with_reducible apply Fr.allocSet | with_reducible apply Fr.alloc | with_reducible apply Fr.drewN | with_reducible apply Fr.drew | ((with_reducible apply Fr.set); rotate_left; (right; ((try simp only [alloc_size]); omega))) | (refine Fr.trans ?_ (by assumption)))); done))); (case hy => (rintro wf ⟨hwa, hwb, hwc, hwd⟩; (((apply opv_loadb1); exact rfl; exact rfl; (first | assumption | infer_instance); exact rfl)))))
      refine tkc 10 rfl (by kernel_rfl) (by (first | exact trivial | assumption | infer_instance | (refine ⟨?_, ?_, ?_, ?_⟩ <;> (first | assumption | infer_instance)) | ((repeat (first | exact Fr.refl _ _ | assumption | with_reducible apply Fr.allocSet | with_reducible apply Fr.alloc | with_reducible apply Fr.drewN | with_reducible apply Fr.drew | ((with_reducible apply Fr.set); rotate_left; (right; ((try simp only [alloc_size]); omega))) | (refine Fr.trans ?_ (by assumption)))); done))) rfl (tn_wake (t5.frN (Fr.refl No _).drew) hy hb dd.2.2 a4 hyb.1 hyb.2) rfl ?_
      rintro _ w6 ⟨rfl, K6, lv6, ts6, t6, hK6, F6, hm6, hr6⟩
      rw [← hj] at t6
      have bw6 := t6.B.bw
      have bd6 := t6.d
      have hw6 := t6.L.hw
      have hwt6 := t6.L.hwt
      rw [eE] at bd6
      rw [hm6] at hwt6
      ((apply (tk 11)); (case hi => exact rfl); (case hf => kernel_rfl); (case hS => (first | exact trivial | assumption | infer_instance | (refine ⟨?_, ?_, ?_, ?_⟩ <;> (first | assumption | infer_instance)) | ((repeat (first | exact Fr.refl _ _ | assumption | with_reducible apply Fr.allocSet | with_reducible apply Fr.alloc | with_reducible apply Fr.drewN | with_reducible apply Fr.drew | ((with_reducible apply Fr.set); rotate_left; (right; ((try simp only [alloc_size]); omega))) | (refine Fr.trans ?_ (by assumption)))); done))); (case hy => (rintro wf ⟨hwa, hwb, hwc, hwd⟩; (((apply opv_E); exact rfl)))))
      refine vA_done (by kernel_rfl) (by (first | exact trivial | assumption | infer_instance | (refine ⟨?_, ?_, ?_, ?_⟩ <;> (first | assumption | infer_instance)) | ((repeat (first | exact Fr.refl _ _ | assumption | with_reducible apply Fr.allocSet | with_reducible apply Fr.alloc | with_reducible apply Fr.drewN | with_reducible apply Fr.drew | ((with_reducible apply Fr.set); rotate_left; (right; ((try simp only [alloc_size]); omega))) | (refine Fr.trans ?_ (by assumption)))); done))) ?_
      (apply seqP_normal; apply vC_seq; apply vC_region; ((apply vL_val); (case h => ((apply opv_loadb1); exact rfl; exact rfl; (first | assumption | infer_instance); exact rfl))); (iterate 2 (((apply vL_val); (case h => ((apply opv_E); exact rfl))))))
      clear t5 bw5 bd5 hw5 hwt5
      have FF6 : Fr (LF X K) w w6 := FF.trans' (Fr.from_drew F6) hLF
      have hx6 : ts6[i]? = some x := by rw [hr6 i rfl]; exact hx
      have a6 := a4.wake dd.2.1 dd.2.2
      obtain ⟨hta6, hev6⟩ := wake_keep hta4 (by simp) dd.2.1 dd.2.2
      have hX46 : KX w K K6 := hX4.trans hK6 FF.size
      have bt6 := t6.B.bt
      have hel6 : (S1.wake dd.2.1 dd.2.2).1.ev.length ≤ 100001 := by rw [hev6]; exact hev4
      rw [← hj]
      generalize S1.wake dd.2.1 dd.2.2 = r6 at *
      clear FF
      have FF := FF6
      skip
      refine vL_callF rfl (tn_note t6 i (-2) (r6.2) (by omega)) rfl ?_
      rintro _ w7 ⟨we7, t7, F7⟩
      have bw7 := t7.B.bw
      have bt7 := t7.B.bt
      (apply vL_nil; apply seqP_normal; apply vC_region; ((apply vL_val); (case h => ((apply opv_loadb1); exact rfl; exact rfl; (first | assumption | infer_instance); exact rfl))); ((apply vL_val); (case h => ((apply opv_E); exact rfl))))
      refine vL_callF rfl (tn_yield t7 hx6 (a6.note _ _ _) h1 h2 h3 hta6) rfl ?_
      rintro _ w8 ⟨rfl, sb8, qb8, lv8, tv8, wt8, we8, ts8, y8, t8, hy8, y1, y2, F8⟩
      (apply vL_nil; apply blockP_normal)
      (first | apply ret0 | apply ret0n)
      have hLF6 : ∀ k, LF X K6 k → LF X K k ∨ w.heap.size ≤ k := fun k hk => .inl ⟨hk.1, fun h => hk.2 (hX46.1 k h)⟩
      exact t8.turned ((FF.trans' F7 hLF6).trans' F8 hLF6) hy8 hX46 y1 y2
    · have e5 : S1.wake dd.2.1 dd.2.2 = (S1, 152) := by
        unfold AS.wake
        split
        · rename_i g0
          have : S1.tasks.length ≤ dd.2.1.toNat := by rw [← t4.T.1]; omega
          rw [List.getElem?_eq_none this]
        · rfl
      rw [e5]
      by_cases g0 : 0 ≤ dd.2.1
      · ((refine vC_cond_dec rfl (fun h => by omega) (fun _ => ?_)); apply vC_seq; apply vC_region; (iterate 2 (((apply vL_val); (case h => ((apply opv_E); exact rfl))))); apply vL_nil; apply seqP_normal; (refine vC_cond_dec rfl (fun h => by omega) (fun _ => ?_)); apply vC_seq; apply vC_region; (iterate 2 (((apply vL_val); (case h => ((apply opv_E); exact rfl))))); apply vL_nil; apply seqP_normal; (refine vC_cond_dec rfl (fun _ => ?_) (fun h => by omega)); apply vC_seq; apply vC_region; ((apply vL_val); (case h => ((apply opv_E); exact rfl))); apply vL_nil; apply seqP_normal; (iterate 2 (apply vC_seq)))
        (with_reducible apply vC_drawQ); (((apply vQ_op); (case hi => exact rfl); (case hf => kernel_rfl); (case hS => (first | exact Dr.refl _ | assumption | exact ⟨_, rfl⟩)); (case hy => (intro j; ((apply opv_fieldAddr); exact rfl)))); ((apply vQ_op); (case hi => exact rfl); (case hf => kernel_rfl); (case hS => (first | exact Dr.refl _ | assumption | exact ⟨_, rfl⟩)); (case hy => (intro j; ((apply opv_loadb1); exact rfl; exact rfl; (first | assumption | infer_instance); exact rfl)))); (iterate 2 (((apply vQ_op); (case hi => exact rfl); (case hf => kernel_rfl); (case hS => (first | exact Dr.refl _ | assumption | exact ⟨_, rfl⟩)); (case hy => (intro j; ((apply opv_E); exact rfl)))))); (refine vQ_gT rfl rfl rfl (by omega) ?_); ((apply vQ_wanted); (case hi => exact rfl); (case hg => exact rfl); (case hf => kernel_rfl); (case hS => (first | exact Dr.refl _ | assumption | exact ⟨_, rfl⟩)); (case hy => (intro j; ((apply opv_fieldAddr); exact rfl)))); (iterate 2 (((apply vQ_wanted); (case hi => exact rfl); (case hg => exact rfl); (case hf => kernel_rfl); (case hS => (first | exact Dr.refl _ | assumption | exact ⟨_, rfl⟩)); (case hy => (intro j; ((apply opv_loadb1); exact rfl; exact rfl; (first | assumption | infer_instance); exact rfl)))))); ((apply vQ_wanted); (case hi => exact rfl); (case hg => exact rfl); (case hf => kernel_rfl); (case hS => (first | exact Dr.refl _ | assumption | exact ⟨_, rfl⟩)); (case hy => (intro j; ((apply opv_E); exact rfl)))); ((apply vQ_wanted); (case hi => exact rfl); (case hg => exact rfl); (case hf => kernel_rfl); (case hS => (first | exact Dr.refl _ | assumption | exact ⟨_, rfl⟩)); (case hy => (intro j; ((apply opv_fieldAddr); exact rfl)))); ((apply vQ_wanted); (case hi => exact rfl); (case hg => exact rfl); (case hf => kernel_rfl); (case hS => (first | exact Dr.refl _ | assumption | exact ⟨_, rfl⟩)); (case hy => (intro j; ((apply opv_loadb1); exact rfl; exact rfl; (first | assumption | infer_instance); exact rfl)))); ((apply vQ_wanted); (case hi => exact rfl); (case hg => exact rfl); (case hf => kernel_rfl); (case hS => (first | exact Dr.refl _ | assumption | exact ⟨_, rfl⟩)); (case hy => (intro j; ((apply opv_len); (first | exact norm_eq rfl | ((conv => lhs; whnf) <;> exact rfl)); (first | assumption | infer_instance))))); ((apply vQ_wanted); (case hi => exact rfl); (case hg => exact rfl); (case hf => kernel_rfl); (case hS => (first | exact Dr.refl _ | assumption | exact ⟨_, rfl⟩)); (case hy => (intro j; ((apply opv_E); exact rfl)))); ((apply vQ_op); (case hi => exact rfl); (case hf => kernel_rfl); (case hS => (first | exact Dr.refl _ | assumption | exact ⟨_, rfl⟩)); (case hy => (intro j; ((apply opv_E); exact rfl)))); ((apply vQ_end); (case hi => exact rfl); (case hf => kernel_rfl); (case hS => (first | exact Dr.refl _ | assumption | exact ⟨_, rfl⟩))))
        (apply seqP_normal; (refine vC_cond_dec rfl (fun h => by omega) (fun _ => ?_)); apply vC_skip; apply seqP_normal; apply vC_seq; apply vC_region; ((apply vL_val); (case h => ((apply opv_loadb1); exact rfl; exact rfl; (first | assumption | infer_instance); exact rfl))); (iterate 2 (((apply vL_val); (case h => ((apply opv_E); exact rfl))))))
        have t6 := t4.frN (show Fr No w4 w4.drew by (repeat (first | exact Fr.refl _ _ | assumption | with_reducible apply Fr.allocSet | with_reducible apply Fr.alloc | with_reducible apply Fr.drewN | with_reducible apply Fr.drew | ((with_reducible apply Fr.set); rotate_left; (right; ((try simp only [alloc_size]); omega))) | (refine Fr.trans ?_ (by assumption)))))
        have hx6 := hx
        have a6 := a4
        have hta6 := hta4
        have hX46 := hX4
        obtain ⟨K6, hK6e⟩ : ∃ K6, K6 = K4 := ⟨_, rfl⟩
        rw [← hK6e] at t6 hX46
        have FF : Fr (LF X K) w w4.drew := FF.trans (by (repeat (first | exact Fr.refl _ _ | assumption | with_reducible apply Fr.allocSet | with_reducible apply Fr.alloc | with_reducible apply Fr.drewN | with_reducible apply Fr.drew | ((with_reducible apply Fr.set); rotate_left; (right; ((try simp only [alloc_size]); omega))) | (refine Fr.trans ?_ (by assumption)))))
        have bt6 := t6.B.bt
        have bw6 := t6.B.bw
        have bp6 := t6.B.bp
        have ba6 := t6.I.b
        clear t4 bw4 bt4 bp4 ba4
        refine vL_callF rfl (tn_note t6 i (-2) (152) (by omega)) rfl ?_
        rintro _ w7 ⟨we7, t7, F7⟩
        have bw7 := t7.B.bw
        have bt7 := t7.B.bt
        (apply vL_nil; apply seqP_normal; apply vC_region; ((apply vL_val); (case h => ((apply opv_loadb1); exact rfl; exact rfl; (first | assumption | infer_instance); exact rfl))); ((apply vL_val); (case h => ((apply opv_E); exact rfl))))
        refine vL_callF rfl (tn_yield t7 hx6 (a6.note _ _ _) h1 h2 h3 hta6) rfl ?_
        rintro _ w8 ⟨rfl, sb8, qb8, lv8, tv8, wt8, we8, ts8, y8, t8, hy8, y1, y2, F8⟩
        (apply vL_nil; apply blockP_normal)
        (first | apply ret0 | apply ret0n)
        have hLF6 : ∀ k, LF X K6 k → LF X K k ∨ w.heap.size ≤ k := fun k hk => .inl ⟨hk.1, fun h => hk.2 (hX46.1 k h)⟩
        exact t8.turned ((FF.trans' F7 hLF6).trans' F8 hLF6) hy8 hX46 y1 y2
      · ((refine vC_cond_dec rfl (fun h => by omega) (fun _ => ?_)); apply vC_seq; apply vC_region; (iterate 2 (((apply vL_val); (case h => ((apply opv_E); exact rfl))))); apply vL_nil; apply seqP_normal; (refine vC_cond_dec rfl (fun h => by omega) (fun _ => ?_)); apply vC_seq; apply vC_region; (iterate 2 (((apply vL_val); (case h => ((apply opv_E); exact rfl))))); apply vL_nil; apply seqP_normal; (refine vC_cond_dec rfl (fun _ => ?_) (fun h => by omega)); apply vC_seq; apply vC_region; ((apply vL_val); (case h => ((apply opv_E); exact rfl))); apply vL_nil; apply seqP_normal; (iterate 2 (apply vC_seq)))
        (with_reducible apply vC_drawQ); (((apply vQ_op); (case hi => exact rfl); (case hf => kernel_rfl); (case hS => (first | exact Dr.refl _ | assumption | exact ⟨_, rfl⟩)); (case hy => (intro j; ((apply opv_fieldAddr); exact rfl)))); ((apply vQ_op); (case hi => exact rfl); (case hf => kernel_rfl); (case hS => (first | exact Dr.refl _ | assumption | exact ⟨_, rfl⟩)); (case hy => (intro j; ((apply opv_loadb1); exact rfl; exact rfl; (first | assumption | infer_instance); exact rfl)))); (iterate 2 (((apply vQ_op); (case hi => exact rfl); (case hf => kernel_rfl); (case hS => (first | exact Dr.refl _ | assumption | exact ⟨_, rfl⟩)); (case hy => (intro j; ((apply opv_E); exact rfl)))))); (refine vQ_gF rfl rfl rfl (by omega) ?_); (iterate 8 (((apply vQ_unwanted); (case hi => exact rfl); (case hg => exact rfl); (case hne => exact rfl); (case hf => kernel_rfl); (case hS => (first | exact Dr.refl _ | assumption | exact ⟨_, rfl⟩))))); ((apply vQ_op); (case hi => exact rfl); (case hf => kernel_rfl); (case hS => (first | exact Dr.refl _ | assumption | exact ⟨_, rfl⟩)); (case hy => (intro j; ((apply opv_E); exact rfl)))); ((apply vQ_end); (case hi => exact rfl); (case hf => kernel_rfl); (case hS => (first | exact Dr.refl _ | assumption | exact ⟨_, rfl⟩))))
        (apply seqP_normal; ((apply vC_cond_false); exact rfl); apply vC_skip; apply seqP_normal; apply vC_seq; apply vC_region; ((apply vL_val); (case h => ((apply opv_loadb1); exact rfl; exact rfl; (first | assumption | infer_instance); exact rfl))); (iterate 2 (((apply vL_val); (case h => ((apply opv_E); exact rfl))))))
        have t6 := t4.frN (show Fr No w4 w4.drew by (repeat (first | exact Fr.refl _ _ | assumption | with_reducible apply Fr.allocSet | with_reducible apply Fr.alloc | with_reducible apply Fr.drewN | with_reducible apply Fr.drew | ((with_reducible apply Fr.set); rotate_left; (right; ((try simp only [alloc_size]); omega))) | (refine Fr.trans ?_ (by assumption)))))
        have hx6 := hx
        have a6 := a4
        have hta6 := hta4
        have hX46 := hX4
        obtain ⟨K6, hK6e⟩ : ∃ K6, K6 = K4 := ⟨_, rfl⟩
        rw [← hK6e] at t6 hX46
        have FF : Fr (LF X K) w w4.drew := FF.trans (by (repeat (first | exact Fr.refl _ _ | assumption | with_reducible apply Fr.allocSet | with_reducible apply Fr.alloc | with_reducible apply Fr.drewN | with_reducible apply Fr.drew | ((with_reducible apply Fr.set); rotate_left; (right; ((try simp only [alloc_size]); omega))) | (refine Fr.trans ?_ (by assumption)))))
        have bt6 := t6.B.bt
        have bw6 := t6.B.bw
        have bp6 := t6.B.bp
        have ba6 := t6.I.b
        clear t4 bw4 bt4 bp4 ba4
        refine vL_callF rfl (tn_note t6 i (-2) (152) (by omega)) rfl ?_
        rintro _ w7 ⟨we7, t7, F7⟩
        have bw7 := t7.B.bw
        have bt7 := t7.B.bt
        (apply vL_nil; apply seqP_normal; apply vC_region; ((apply vL_val); (case h => ((apply opv_loadb1); exact rfl; exact rfl; (first | assumption | infer_instance); exact rfl))); ((apply vL_val); (case h => ((apply opv_E); exact rfl))))
        refine vL_callF rfl (tn_yield t7 hx6 (a6.note _ _ _) h1 h2 h3 hta6) rfl ?_
        rintro _ w8 ⟨rfl, sb8, qb8, lv8, tv8, wt8, we8, ts8, y8, t8, hy8, y1, y2, F8⟩
        (apply vL_nil; apply blockP_normal)
        (first | apply ret0 | apply ret0n)
        have hLF6 : ∀ k, LF X K6 k → LF X K k ∨ w.heap.size ≤ k := fun k hk => .inl ⟨hk.1, fun h => hk.2 (hX46.1 k h)⟩
        exact t8.turned ((FF.trans' F7 hLF6).trans' F8 hLF6) hy8 hX46 y1 y2
  by_cases k4 : dd.1 = 4
  · have e4 : AS.act (P.map (·.2)) S1 i rest dd = ((S1.spawn (pickN dd.2.1 P.length)).1.note i (-3) (S1.spawn (pickN dd.2.1 P.length)).2).ready i := by unfold AS.act; rw [if_neg k1, if_neg k2, if_neg k3, if_pos k4, List.length_map]
    rw [e4]
    have hpk : dd.2.1 % (P.length : Int) = ((pickN dd.2.1 P.length : Nat) : Int) := (Int.toNat_of_nonneg (Int.emod_nonneg _ (by omega))).symm
    have hE4 : ∃ u v, Blk w4.drew.heap wb [.pointer (some ⟨rb, 0, none⟩), .slice va P.length vc, u, v] 60 := ⟨_, _, inferInstance⟩
    have t4d := t4.frN (show Fr No w4 w4.drew by (repeat (first | exact Fr.refl _ _ | assumption | with_reducible apply Fr.allocSet | with_reducible apply Fr.alloc | with_reducible apply Fr.drewN | with_reducible apply Fr.drew | ((with_reducible apply Fr.set); rotate_left; (right; ((try simp only [alloc_size]); omega))) | (refine Fr.trans ?_ (by assumption)))))
    ((refine vC_cond_dec rfl (fun h => by omega) (fun _ => ?_)); apply vC_seq; apply vC_region; (iterate 2 (((apply vL_val); (case h => ((apply opv_E); exact rfl))))); apply vL_nil; apply seqP_normal; (refine vC_cond_dec rfl (fun h => by omega) (fun _ => ?_)); apply vC_seq; apply vC_region; (iterate 2 (((apply vL_val); (case h => ((apply opv_E); exact rfl))))); apply vL_nil; apply seqP_normal; (refine vC_cond_dec rfl (fun h => by omega) (fun _ => ?_)); apply vC_seq; apply vC_region; (iterate 2 (((apply vL_val); (case h => ((apply opv_E); exact rfl))))); apply vL_nil; apply seqP_normal; (refine vC_cond_dec rfl (fun _ => ?_) (fun h => by omega)); apply vC_seq)
    refine vC_draw' ((fun wf => Blk wf.heap wx [pt wb] 54 ∧ Blk wf.heap db [.int .i64 dd.1, .int .i64 dd.2.1, .int .i64 dd.2.2] 90 ∧ (∃ u v, Blk wf.heap wb [.pointer (some ⟨rb, 0, none⟩), .slice va P.length vc, u, v] 60))) (by (first | exact trivial | assumption | infer_instance | (refine ⟨?_, ?_, ?_⟩ <;> (first | assumption | infer_instance)) | ((repeat (first | exact Fr.refl _ _ | assumption | with_reducible apply Fr.allocSet | with_reducible apply Fr.alloc | with_reducible apply Fr.drewN | with_reducible apply Fr.drew | ((with_reducible apply Fr.set); rotate_left; (right; ((try simp only [alloc_size]); omega))) | (refine Fr.trans ?_ (by assumption)))); done))) ?_
    ((apply (tk 0)); (case hi => exact rfl); (case hf => kernel_rfl); (case hS => (first | exact trivial | assumption | infer_instance | (refine ⟨?_, ?_, ?_⟩ <;> (first | assumption | infer_instance)) | ((repeat (first | exact Fr.refl _ _ | assumption | with_reducible apply Fr.allocSet | with_reducible apply Fr.alloc | with_reducible apply Fr.drewN | with_reducible apply Fr.drew | ((with_reducible apply Fr.set); rotate_left; (right; ((try simp only [alloc_size]); omega))) | (refine Fr.trans ?_ (by assumption)))); done))); (case hy => (rintro wf ⟨hwa, hwb, hwc⟩; (((apply opv_loadb1); exact rfl; exact rfl; (first | assumption | infer_instance); exact rfl)))))
    ((apply (tk 1)); (case hi => exact rfl); (case hf => kernel_rfl); (case hS => (first | exact trivial | assumption | infer_instance | (refine ⟨?_, ?_, ?_⟩ <;> (first | assumption | infer_instance)) | ((repeat (first | exact Fr.refl _ _ | assumption | with_reducible apply Fr.allocSet | with_reducible apply Fr.alloc | with_reducible apply Fr.drewN | with_reducible apply Fr.drew | ((with_reducible apply Fr.set); rotate_left; (right; ((try simp only [alloc_size]); omega))) | (refine Fr.trans ?_ (by assumption)))); done))); (case hy => (rintro wf ⟨hwa, hwb, hwc⟩; (((apply opv_E); exact rfl)))))
    ((apply (tk 2)); (case hi => exact rfl); (case hf => kernel_rfl); (case hS => (first | exact trivial | assumption | infer_instance | (refine ⟨?_, ?_, ?_⟩ <;> (first | assumption | infer_instance)) | ((repeat (first | exact Fr.refl _ _ | assumption | with_reducible apply Fr.allocSet | with_reducible apply Fr.alloc | with_reducible apply Fr.drewN | with_reducible apply Fr.drew | ((with_reducible apply Fr.set); rotate_left; (right; ((try simp only [alloc_size]); omega))) | (refine Fr.trans ?_ (by assumption)))); done))); (case hy => (rintro wf ⟨hwa, hwb, hwc⟩; (((apply opv_loadb1); exact rfl; exact rfl; (first | assumption | infer_instance); exact rfl)))))
    ((apply (tk 3)); (case hi => exact rfl); (case hf => kernel_rfl); (case hS => (first | exact trivial | assumption | infer_instance | (refine ⟨?_, ?_, ?_⟩ <;> (first | assumption | infer_instance)) | ((repeat (first | exact Fr.refl _ _ | assumption | with_reducible apply Fr.allocSet | with_reducible apply Fr.alloc | with_reducible apply Fr.drewN | with_reducible apply Fr.drew | ((with_reducible apply Fr.set); rotate_left; (right; ((try simp only [alloc_size]); omega))) | (refine Fr.trans ?_ (by assumption)))); done))); (case hy => (rintro wf ⟨hwa, hwb, hwc⟩; (((apply opv_fieldAddr); exact rfl)))))
    ((apply (tk 4)); (case hi => exact rfl); (case hf => kernel_rfl); (case hS => (first | exact trivial | assumption | infer_instance | (refine ⟨?_, ?_, ?_⟩ <;> (first | assumption | infer_instance)) | ((repeat (first | exact Fr.refl _ _ | assumption | with_reducible apply Fr.allocSet | with_reducible apply Fr.alloc | with_reducible apply Fr.drewN | with_reducible apply Fr.drew | ((with_reducible apply Fr.set); rotate_left; (right; ((try simp only [alloc_size]); omega))) | (refine Fr.trans ?_ (by assumption)))); done))); (case hy => (rintro wf ⟨hwa, hwb, hwc⟩; (((apply opv_loadb1); exact rfl; exact rfl; (first | assumption | infer_instance); exact rfl)))))
    ((apply (tk 5)); (case hi => exact rfl); (case hf => kernel_rfl); (case hS => (first | exact trivial | assumption | infer_instance | (refine ⟨?_, ?_, ?_⟩ <;> (first | assumption | infer_instance)) | ((repeat (first | exact Fr.refl _ _ | assumption | with_reducible apply Fr.allocSet | with_reducible apply Fr.alloc | with_reducible apply Fr.drewN | with_reducible apply Fr.drew | ((with_reducible apply Fr.set); rotate_left; (right; ((try simp only [alloc_size]); omega))) | (refine Fr.trans ?_ (by assumption)))); done))); (case hy => (rintro wf ⟨hwa, hwb, hwc⟩; (((apply opv_loadb1); exact rfl; exact rfl; (first | assumption | infer_instance); exact rfl)))))
    ((apply (tk 6)); (case hi => exact rfl); (case hf => kernel_rfl); (case hS => (first | exact trivial | assumption | infer_instance | (refine ⟨?_, ?_, ?_⟩ <;> (first | assumption | infer_instance)) | ((repeat (first | exact Fr.refl _ _ | assumption | with_reducible apply Fr.allocSet | with_reducible apply Fr.alloc | with_reducible apply Fr.drewN | with_reducible apply Fr.drew | ((with_reducible apply Fr.set); rotate_left; (right; ((try simp only [alloc_size]); omega))) | (refine Fr.trans ?_ (by assumption)))); done))); (case hy => (rintro wf ⟨hwa, hwb, hwc⟩; (((apply opv_E); exact rfl)))))
    ((apply (tk 7)); (case hi => exact rfl); (case hf => kernel_rfl); (case hS => (first | exact trivial | assumption | infer_instance | (refine ⟨?_, ?_, ?_⟩ <;> (first | assumption | infer_instance)) | ((repeat (first | exact Fr.refl _ _ | assumption | with_reducible apply Fr.allocSet | with_reducible apply Fr.alloc | with_reducible apply Fr.drewN | with_reducible apply Fr.drew | ((with_reducible apply Fr.set); rotate_left; (right; ((try simp only [alloc_size]); omega))) | (refine Fr.trans ?_ (by assumption)))); done))); (case hy => (rintro wf ⟨hwa, hwb, hwc⟩; (((apply opv_fieldAddr); exact rfl)))))
    (apply (tk 8)); (case hi => exact rfl); (case hf => kernel_rfl); (case hS => (first | exact trivial | assumption | infer_instance | (refine ⟨?_, ?_, ?_⟩ <;> (first | assumption | infer_instance)) | ((repeat (first | exact Fr.refl _ _ | assumption | with_reducible apply Fr.allocSet | with_reducible apply Fr.alloc | with_reducible apply Fr.drewN | with_reducible apply Fr.drew | ((with_reducible apply Fr.set); rotate_left; (right; ((try simp only [alloc_size]); omega))) | (refine Fr.trans ?_ (by assumption)))); done))); (case hy => (rintro wf ⟨hwa, hwb, u, v, hwc⟩; (((apply opv_loadb1); exact rfl; exact rfl; (first | assumption | infer_instance); exact rfl))))
    ((apply (tk 9)); (case hi => exact rfl); (case hf => kernel_rfl); (case hS => (first | exact trivial | assumption | infer_instance | (refine ⟨?_, ?_, ?_⟩ <;> (first | assumption | infer_instance)) | ((repeat (first | exact Fr.refl _ _ | assumption | with_reducible apply Fr.allocSet | with_reducible apply Fr.alloc | with_reducible apply Fr.drewN | with_reducible apply Fr.drew | ((with_reducible apply Fr.set); rotate_left; (right; ((try simp only [alloc_size]); omega))) | (refine Fr.trans ?_ (by assumption)))); done))); (case hy => (rintro wf ⟨hwa, hwb, hwc⟩; (((apply opv_lenc); exact rfl)))))
    refine tkc 10 rfl (by kernel_rfl) (by (first | exact trivial | assumption | infer_instance | (refine ⟨?_, ?_, ?_⟩ <;> (first | assumption | infer_instance)) | ((repeat (first | exact Fr.refl _ _ | assumption | with_reducible apply Fr.allocSet | with_reducible apply Fr.alloc | with_reducible apply Fr.drewN | with_reducible apply Fr.drew | ((with_reducible apply Fr.set); rotate_left; (right; ((try simp only [alloc_size]); omega))) | (refine Fr.trans ?_ (by assumption)))); done))) rfl ((pick_exact dd.2.1 P.length _ (by omega) (by omega)).mono (R' := fun u w' => w4.drew = w' ∧ u = .int .i64 ((pickN dd.2.1 P.length : Nat) : Int)) (fun u w' ⟨g1, g2⟩ => ⟨g1, by rw [g2, hpk]⟩)) rfl ?_
    rintro _ _ ⟨rfl, rfl⟩
    refine tkc 11 rfl (by kernel_rfl) (by (first | exact trivial | assumption | infer_instance | (refine ⟨?_, ?_, ?_⟩ <;> (first | assumption | infer_instance)) | ((repeat (first | exact Fr.refl _ _ | assumption | with_reducible apply Fr.allocSet | with_reducible apply Fr.alloc | with_reducible apply Fr.drewN | with_reducible apply Fr.drew | ((with_reducible apply Fr.set); rotate_left; (right; ((try simp only [alloc_size]); omega))) | (refine Fr.trans ?_ (by assumption)))); done))) rfl (tn_spawn t4d a4 (pickN dd.2.1 P.length) (by omega) (fun j y hj hy => by cases hj; rw [hx] at hy; cases hy; exact h3)) rfl ?_
    rintro _ w6 ⟨rfl, K6, lv6, tv6, wt6, ts6, t6, hK6, F6, hr6⟩
    have FF6 : Fr (LF X K) w w6 := FF.trans' (Fr.from_drew F6) hLF
    have hx6 : ts6[i]? = some x := by rw [hr6 i (List.getElem?_eq_some_iff.1 hx).1]; exact hx
    have a6 := a4.spawn (pickN dd.2.1 P.length)
    obtain ⟨hta6, hev6⟩ := spawn_keep hta4 (pickN dd.2.1 P.length)
    have hX46 : KX w K K6 := hX4.trans hK6 FF.size
    have hel6 : (S1.spawn (pickN dd.2.1 P.length)).1.ev.length ≤ 100001 := by rw [hev6]; exact hev4
    generalize S1.spawn (pickN dd.2.1 P.length) = r6 at *
    have bw6 := t6.B.bw
    have bd6 := t6.d
    rw [eE] at bd6
    have hE6 : ∃ u v, Blk w6.heap wb [.pointer (some ⟨rb, 0, none⟩), .slice va P.length vc, u, v] 60 := ⟨_, _, t6.L.hw⟩
    refine tkc 12 rfl (by kernel_rfl) (by (first | exact trivial | assumption | infer_instance | (refine ⟨?_, ?_, ?_⟩ <;> (first | assumption | infer_instance)) | ((repeat (first | exact Fr.refl _ _ | assumption | with_reducible apply Fr.allocSet | with_reducible apply Fr.alloc | with_reducible apply Fr.drewN | with_reducible apply Fr.drew | ((with_reducible apply Fr.set); rotate_left; (right; ((try simp only [alloc_size]); omega))) | (refine Fr.trans ?_ (by assumption)))); done))) rfl (tn_note t6 i (-3) r6.2 (by omega)) rfl ?_
    rintro _ w7 ⟨we7, t7, F7⟩
    have bw7 := t7.B.bw
    have bd7 := t7.d
    rw [eE] at bd7
    have hE7 : ∃ u v, Blk w7.heap wb [.pointer (some ⟨rb, 0, none⟩), .slice va P.length vc, u, v] 60 := ⟨_, _, t7.L.hw⟩
    refine vA_done (by kernel_rfl) (by (first | exact trivial | assumption | infer_instance | (refine ⟨?_, ?_, ?_⟩ <;> (first | assumption | infer_instance)) | ((repeat (first | exact Fr.refl _ _ | assumption | with_reducible apply Fr.allocSet | with_reducible apply Fr.alloc | with_reducible apply Fr.drewN | with_reducible apply Fr.drew | ((with_reducible apply Fr.set); rotate_left; (right; ((try simp only [alloc_size]); omega))) | (refine Fr.trans ?_ (by assumption)))); done))) ?_
    clear bw4 bt4 bp4 ba4 bd4 hw4 t4 t4d hE4 FF bw6 bd6 hE6
    have bt7 := t7.B.bt
    (apply seqP_normal; apply vC_region; ((apply vL_val); (case h => ((apply opv_loadb1); exact rfl; exact rfl; (first | assumption | infer_instance); exact rfl))); ((apply vL_val); (case h => ((apply opv_E); exact rfl))))
    refine vL_callF rfl (tn_yield t7 hx6 (a6.note _ _ _) h1 h2 h3 hta6) rfl ?_
    rintro _ w8 ⟨rfl, sb8, qb8, lv8, tv8, wt8, we8, ts8, y8, t8, hy8, y1, y2, F8⟩
    (apply vL_nil; apply blockP_normal)
    (first | apply ret0 | apply ret0n)
    have hLF6 : ∀ k, LF X K6 k → LF X K k ∨ w.heap.size ≤ k := fun k hk => .inl ⟨hk.1, fun h => hk.2 (hX46.1 k h)⟩
    exact t8.turned ((FF6.trans' F7 hLF6).trans' F8 hLF6) hy8 hX46 y1 y2
  by_cases k5 : dd.1 = 5
  · have e5 : AS.act (P.map (·.2)) S1 i rest dd = (S1.ready i).note i (-1) 151 := by unfold AS.act; rw [if_neg k1, if_neg k2, if_neg k3, if_neg k4, if_pos k5]
    rw [e5]
    ((refine vC_cond_dec rfl (fun h => by omega) (fun _ => ?_)); apply vC_seq; apply vC_region; (iterate 2 (((apply vL_val); (case h => ((apply opv_E); exact rfl))))); apply vL_nil; apply seqP_normal; (refine vC_cond_dec rfl (fun h => by omega) (fun _ => ?_)); apply vC_seq; apply vC_region; (iterate 2 (((apply vL_val); (case h => ((apply opv_E); exact rfl))))); apply vL_nil; apply seqP_normal; (refine vC_cond_dec rfl (fun h => by omega) (fun _ => ?_)); apply vC_seq; apply vC_region; (iterate 2 (((apply vL_val); (case h => ((apply opv_E); exact rfl))))); apply vL_nil; apply seqP_normal; (refine vC_cond_dec rfl (fun h => by omega) (fun _ => ?_)); apply vC_seq; apply vC_region; (iterate 2 (((apply vL_val); (case h => ((apply opv_E); exact rfl))))); apply vL_nil; apply seqP_normal; (refine vC_cond_dec rfl (fun _ => ?_) (fun h => by omega)); apply vC_seq; apply vC_region; ((apply vL_val); (case h => ((apply opv_loadb1); exact rfl; exact rfl; (first | assumption | infer_instance); exact rfl))); ((apply vL_val); (case h => ((apply opv_E); exact rfl))))
    refine vL_callF rfl (tn_yield t4 hx a4 h1 h2 h3 hta4) rfl ?_
    rintro _ w5 ⟨rfl, sb5, qb5, lv5, tv5, wt5, we5, ts5, y5, t5, hy5, y1, y2, F5⟩
    have bw5 := t5.B.bw
    have bt5 := t5.B.bt
    have t5d := t5.frN (show Fr No w5 w5.drew by (repeat (first | exact Fr.refl _ _ | assumption | with_reducible apply Fr.allocSet | with_reducible apply Fr.alloc | with_reducible apply Fr.drewN | with_reducible apply Fr.drew | ((with_reducible apply Fr.set); rotate_left; (right; ((try simp only [alloc_size]); omega))) | (refine Fr.trans ?_ (by assumption)))))
    have F5d := FF.trans' F5 hLF
    have hev5 : (S1.ready i).ev = S1.ev := by unfold AS.ready; rw [hta4]
    clear bw4 bt4 bp4 ba4 bd4 hw4 t4 FF
    (apply vL_nil; apply seqP_normal)
    refine vC_draw' ((fun wf => Blk wf.heap wx [pt wb] 54 ∧ Blk wf.heap tx [pt x.1] 64)) (by (first | exact trivial | assumption | infer_instance | (refine ⟨?_, ?_⟩ <;> (first | assumption | infer_instance)) | ((repeat (first | exact Fr.refl _ _ | assumption | with_reducible apply Fr.allocSet | with_reducible apply Fr.alloc | with_reducible apply Fr.drewN | with_reducible apply Fr.drew | ((with_reducible apply Fr.set); rotate_left; (right; ((try simp only [alloc_size]); omega))) | (refine Fr.trans ?_ (by assumption)))); done))) ?_
    ((apply (tk 0)); (case hi => exact rfl); (case hf => kernel_rfl); (case hS => (first | exact trivial | assumption | infer_instance | (refine ⟨?_, ?_⟩ <;> (first | assumption | infer_instance)) | ((repeat (first | exact Fr.refl _ _ | assumption | with_reducible apply Fr.allocSet | with_reducible apply Fr.alloc | with_reducible apply Fr.drewN | with_reducible apply Fr.drew | ((with_reducible apply Fr.set); rotate_left; (right; ((try simp only [alloc_size]); omega))) | (refine Fr.trans ?_ (by assumption)))); done))); (case hy => (rintro wf ⟨hwa, hwb⟩; (((apply opv_loadb1); exact rfl; exact rfl; (first | assumption | infer_instance); exact rfl)))))
    ((apply (tk 1)); (case hi => exact rfl); (case hf => kernel_rfl); (case hS => (first | exact trivial | assumption | infer_instance | (refine ⟨?_, ?_⟩ <;> (first | assumption | infer_instance)) | ((repeat (first | exact Fr.refl _ _ | assumption | with_reducible apply Fr.allocSet | with_reducible apply Fr.alloc | with_reducible apply Fr.drewN | with_reducible apply Fr.drew | ((with_reducible apply Fr.set); rotate_left; (right; ((try simp only [alloc_size]); omega))) | (refine Fr.trans ?_ (by assumption)))); done))); (case hy => (rintro wf ⟨hwa, hwb⟩; (((apply opv_E); exact rfl)))))
    ((apply (tk 2)); (case hi => exact rfl); (case hf => kernel_rfl); (case hS => (first | exact trivial | assumption | infer_instance | (refine ⟨?_, ?_⟩ <;> (first | assumption | infer_instance)) | ((repeat (first | exact Fr.refl _ _ | assumption | with_reducible apply Fr.allocSet | with_reducible apply Fr.alloc | with_reducible apply Fr.drewN | with_reducible apply Fr.drew | ((with_reducible apply Fr.set); rotate_left; (right; ((try simp only [alloc_size]); omega))) | (refine Fr.trans ?_ (by assumption)))); done))); (case hy => (rintro wf ⟨hwa, hwb⟩; (((apply opv_loadb1); exact rfl; exact rfl; (first | assumption | infer_instance); exact rfl)))))
    ((apply (tk 3)); (case hi => exact rfl); (case hf => kernel_rfl); (case hS => (first | exact trivial | assumption | infer_instance | (refine ⟨?_, ?_⟩ <;> (first | assumption | infer_instance)) | ((repeat (first | exact Fr.refl _ _ | assumption | with_reducible apply Fr.allocSet | with_reducible apply Fr.alloc | with_reducible apply Fr.drewN | with_reducible apply Fr.drew | ((with_reducible apply Fr.set); rotate_left; (right; ((try simp only [alloc_size]); omega))) | (refine Fr.trans ?_ (by assumption)))); done))); (case hy => (rintro wf ⟨hwa, hwb⟩; (((apply opv_E); exact rfl)))))
    refine tkc 4 rfl (by kernel_rfl) (by (first | exact trivial | assumption | infer_instance | (refine ⟨?_, ?_⟩ <;> (first | assumption | infer_instance)) | ((repeat (first | exact Fr.refl _ _ | assumption | with_reducible apply Fr.allocSet | with_reducible apply Fr.alloc | with_reducible apply Fr.drewN | with_reducible apply Fr.drew | ((with_reducible apply Fr.set); rotate_left; (right; ((try simp only [alloc_size]); omega))) | (refine Fr.trans ?_ (by assumption)))); done))) rfl (tn_again t5d hy5 y1 a4.ready _ _) rfl ?_
    rintro _ _ ⟨rfl, rfl⟩
    refine tkc 5 rfl (by kernel_rfl) (by (first | exact trivial | assumption | infer_instance | (refine ⟨?_, ?_⟩ <;> (first | assumption | infer_instance)) | ((repeat (first | exact Fr.refl _ _ | assumption | with_reducible apply Fr.allocSet | with_reducible apply Fr.alloc | with_reducible apply Fr.drewN | with_reducible apply Fr.drew | ((with_reducible apply Fr.set); rotate_left; (right; ((try simp only [alloc_size]); omega))) | (refine Fr.trans ?_ (by assumption)))); done))) rfl (tn_note t5d i (-1) 151 (by rw [hev5]; omega)) rfl ?_
    rintro _ w7 ⟨we7, t7, F7⟩
    have bw7 := t7.B.bw
    have bt7 := t7.B.bt
    refine vA_done (by kernel_rfl) (by (first | exact trivial | assumption | infer_instance | (refine ⟨?_, ?_⟩ <;> (first | assumption | infer_instance)) | ((repeat (first | exact Fr.refl _ _ | assumption | with_reducible apply Fr.allocSet | with_reducible apply Fr.alloc | with_reducible apply Fr.drewN | with_reducible apply Fr.drew | ((with_reducible apply Fr.set); rotate_left; (right; ((try simp only [alloc_size]); omega))) | (refine Fr.trans ?_ (by assumption)))); done))) ?_
    (apply blockP_normal)
    (first | apply ret0 | apply ret0n)
    exact t7.turned (F5d.trans' (Fr.from_drew F7) hLF) hy5 hX4 y1 y2
  by_cases k6 : dd.1 = 6
  · have e6 : AS.act (P.map (·.2)) S1 i rest dd = (S1.note i (-4) (if 0 < dd.2.1 then rest % dd.2.1 else 0)).ready i := by unfold AS.act; rw [if_neg k1, if_neg k2, if_neg k3, if_neg k4, if_neg k5, if_pos k6]
    rw [e6]
    have hE4 : ∃ u v, Blk w4.drew.heap wb [.pointer (some ⟨rb, 0, none⟩), .slice va P.length vc, u, v] 60 := ⟨_, _, inferInstance⟩
    have t4d := t4.frN (show Fr No w4 w4.drew by (repeat (first | exact Fr.refl _ _ | assumption | with_reducible apply Fr.allocSet | with_reducible apply Fr.alloc | with_reducible apply Fr.drewN | with_reducible apply Fr.drew | ((with_reducible apply Fr.set); rotate_left; (right; ((try simp only [alloc_size]); omega))) | (refine Fr.trans ?_ (by assumption)))))
    ((refine vC_cond_dec rfl (fun h => by omega) (fun _ => ?_)); apply vC_seq; apply vC_region; (iterate 2 (((apply vL_val); (case h => ((apply opv_E); exact rfl))))); apply vL_nil; apply seqP_normal; (refine vC_cond_dec rfl (fun h => by omega) (fun _ => ?_)); apply vC_seq; apply vC_region; (iterate 2 (((apply vL_val); (case h => ((apply opv_E); exact rfl))))); apply vL_nil; apply seqP_normal; (refine vC_cond_dec rfl (fun h => by omega) (fun _ => ?_)); apply vC_seq; apply vC_region; (iterate 2 (((apply vL_val); (case h => ((apply opv_E); exact rfl))))); apply vL_nil; apply seqP_normal; (refine vC_cond_dec rfl (fun h => by omega) (fun _ => ?_)); apply vC_seq; apply vC_region; (iterate 2 (((apply vL_val); (case h => ((apply opv_E); exact rfl))))); apply vL_nil; apply seqP_normal; (refine vC_cond_dec rfl (fun h => by omega) (fun _ => ?_)); apply vC_seq; apply vC_region; (iterate 2 (((apply vL_val); (case h => ((apply opv_E); exact rfl))))); apply vL_nil; apply seqP_normal; (refine vC_cond_dec rfl (fun _ => ?_) (fun h => by omega)); apply vC_seq)
    refine vC_draw' ((fun wf => Blk wf.heap wx [pt wb] 54 ∧ Blk wf.heap db [.int .i64 dd.1, .int .i64 dd.2.1, .int .i64 dd.2.2] 90 ∧ (∃ u v, Blk wf.heap wb [.pointer (some ⟨rb, 0, none⟩), .slice va P.length vc, u, v] 60))) (by (first | exact trivial | assumption | infer_instance | (refine ⟨?_, ?_, ?_⟩ <;> (first | assumption | infer_instance)) | ((repeat (first | exact Fr.refl _ _ | assumption | with_reducible apply Fr.allocSet | with_reducible apply Fr.alloc | with_reducible apply Fr.drewN | with_reducible apply Fr.drew | ((with_reducible apply Fr.set); rotate_left; (right; ((try simp only [alloc_size]); omega))) | (refine Fr.trans ?_ (by assumption)))); done))) ?_
    ((apply (tk 0)); (case hi => exact rfl); (case hf => kernel_rfl); (case hS => (first | exact trivial | assumption | infer_instance | (refine ⟨?_, ?_, ?_⟩ <;> (first | assumption | infer_instance)) | ((repeat (first | exact Fr.refl _ _ | assumption | with_reducible apply Fr.allocSet | with_reducible apply Fr.alloc | with_reducible apply Fr.drewN | with_reducible apply Fr.drew | ((with_reducible apply Fr.set); rotate_left; (right; ((try simp only [alloc_size]); omega))) | (refine Fr.trans ?_ (by assumption)))); done))); (case hy => (rintro wf ⟨hwa, hwb, hwc⟩; (((apply opv_loadb1); exact rfl; exact rfl; (first | assumption | infer_instance); exact rfl)))))
    ((apply (tk 1)); (case hi => exact rfl); (case hf => kernel_rfl); (case hS => (first | exact trivial | assumption | infer_instance | (refine ⟨?_, ?_, ?_⟩ <;> (first | assumption | infer_instance)) | ((repeat (first | exact Fr.refl _ _ | assumption | with_reducible apply Fr.allocSet | with_reducible apply Fr.alloc | with_reducible apply Fr.drewN | with_reducible apply Fr.drew | ((with_reducible apply Fr.set); rotate_left; (right; ((try simp only [alloc_size]); omega))) | (refine Fr.trans ?_ (by assumption)))); done))); (case hy => (rintro wf ⟨hwa, hwb, hwc⟩; (((apply opv_E); exact rfl)))))
    ((apply (tk 2)); (case hi => exact rfl); (case hf => kernel_rfl); (case hS => (first | exact trivial | assumption | infer_instance | (refine ⟨?_, ?_, ?_⟩ <;> (first | assumption | infer_instance)) | ((repeat (first | exact Fr.refl _ _ | assumption | with_reducible apply Fr.allocSet | with_reducible apply Fr.alloc | with_reducible apply Fr.drewN | with_reducible apply Fr.drew | ((with_reducible apply Fr.set); rotate_left; (right; ((try simp only [alloc_size]); omega))) | (refine Fr.trans ?_ (by assumption)))); done))); (case hy => (rintro wf ⟨hwa, hwb, hwc⟩; (((apply opv_loadb1); exact rfl; exact rfl; (first | assumption | infer_instance); exact rfl)))))
    ((apply (tk 3)); (case hi => exact rfl); (case hf => kernel_rfl); (case hS => (first | exact trivial | assumption | infer_instance | (refine ⟨?_, ?_, ?_⟩ <;> (first | assumption | infer_instance)) | ((repeat (first | exact Fr.refl _ _ | assumption | with_reducible apply Fr.allocSet | with_reducible apply Fr.alloc | with_reducible apply Fr.drewN | with_reducible apply Fr.drew | ((with_reducible apply Fr.set); rotate_left; (right; ((try simp only [alloc_size]); omega))) | (refine Fr.trans ?_ (by assumption)))); done))); (case hy => (rintro wf ⟨hwa, hwb, hwc⟩; (((apply opv_E); exact rfl)))))
    ((apply (tk 4)); (case hi => exact rfl); (case hf => kernel_rfl); (case hS => (first | exact trivial | assumption | infer_instance | (refine ⟨?_, ?_, ?_⟩ <;> (first | assumption | infer_instance)) | ((repeat (first | exact Fr.refl _ _ | assumption | with_reducible apply Fr.allocSet | with_reducible apply Fr.alloc | with_reducible apply Fr.drewN | with_reducible apply Fr.drew | ((with_reducible apply Fr.set); rotate_left; (right; ((try simp only [alloc_size]); omega))) | (refine Fr.trans ?_ (by assumption)))); done))); (case hy => (rintro wf ⟨hwa, hwb, hwc⟩; (((apply opv_fieldAddr); exact rfl)))))
    (apply (tk 5)); (case hi => exact rfl); (case hf => kernel_rfl); (case hS => (first | exact trivial | assumption | infer_instance | (refine ⟨?_, ?_, ?_⟩ <;> (first | assumption | infer_instance)) | ((repeat (first | exact Fr.refl _ _ | assumption | with_reducible apply Fr.allocSet | with_reducible apply Fr.alloc | with_reducible apply Fr.drewN | with_reducible apply Fr.drew | ((with_reducible apply Fr.set); rotate_left; (right; ((try simp only [alloc_size]); omega))) | (refine Fr.trans ?_ (by assumption)))); done))); (case hy => (rintro wf ⟨hwa, hwb, u, v, hwc⟩; (((apply opv_loadb1); exact rfl; exact rfl; (first | assumption | infer_instance); exact rfl))))
    ((apply (tk 6)); (case hi => exact rfl); (case hf => kernel_rfl); (case hS => (first | exact trivial | assumption | infer_instance | (refine ⟨?_, ?_, ?_⟩ <;> (first | assumption | infer_instance)) | ((repeat (first | exact Fr.refl _ _ | assumption | with_reducible apply Fr.allocSet | with_reducible apply Fr.alloc | with_reducible apply Fr.drewN | with_reducible apply Fr.drew | ((with_reducible apply Fr.set); rotate_left; (right; ((try simp only [alloc_size]); omega))) | (refine Fr.trans ?_ (by assumption)))); done))); (case hy => (rintro wf ⟨hwa, hwb, hwc⟩; (((apply opv_fieldAddr); exact rfl)))))
    ((apply (tk 7)); (case hi => exact rfl); (case hf => kernel_rfl); (case hS => (first | exact trivial | assumption | infer_instance | (refine ⟨?_, ?_, ?_⟩ <;> (first | assumption | infer_instance)) | ((repeat (first | exact Fr.refl _ _ | assumption | with_reducible apply Fr.allocSet | with_reducible apply Fr.alloc | with_reducible apply Fr.drewN | with_reducible apply Fr.drew | ((with_reducible apply Fr.set); rotate_left; (right; ((try simp only [alloc_size]); omega))) | (refine Fr.trans ?_ (by assumption)))); done))); (case hy => (rintro wf ⟨hwa, hwb, hwc⟩; (((apply opv_loadb1); exact rfl; exact rfl; (first | assumption | infer_instance); exact rfl)))))
    refine tkc 8 rfl (by kernel_rfl) (by (first | exact trivial | assumption | infer_instance | (refine ⟨?_, ?_, ?_⟩ <;> (first | assumption | infer_instance)) | ((repeat (first | exact Fr.refl _ _ | assumption | with_reducible apply Fr.allocSet | with_reducible apply Fr.alloc | with_reducible apply Fr.drewN | with_reducible apply Fr.drew | ((with_reducible apply Fr.set); rotate_left; (right; ((try simp only [alloc_size]); omega))) | (refine Fr.trans ?_ (by assumption)))); done))) rfl (tn_choice t4d dd.2.1 hrest hda) rfl ?_
    rintro _ w6 ⟨rfl, rest6, t6, F6⟩
    have FF6 : Fr (LF X K) w w6 := FF.trans' (Fr.from_drew F6) hLF
    have hx6 := hx
    have a6 := a4
    have hta6 := hta4
    obtain ⟨K6, hK6e⟩ : ∃ K6, K6 = K4 := ⟨_, rfl⟩
    have hX46 := hX4
    have bw6 := t6.B.bw
    have bd6 := t6.d
    rw [eE] at bd6
    have hE6 : ∃ u v, Blk w6.heap wb [.pointer (some ⟨rb, 0, none⟩), .slice va P.length vc, u, v] 60 := ⟨_, _, t6.L.hw⟩
    refine tkc 9 rfl (by kernel_rfl) (by (first | exact trivial | assumption | infer_instance | (refine ⟨?_, ?_, ?_⟩ <;> (first | assumption | infer_instance)) | ((repeat (first | exact Fr.refl _ _ | assumption | with_reducible apply Fr.allocSet | with_reducible apply Fr.alloc | with_reducible apply Fr.drewN | with_reducible apply Fr.drew | ((with_reducible apply Fr.set); rotate_left; (right; ((try simp only [alloc_size]); omega))) | (refine Fr.trans ?_ (by assumption)))); done))) rfl (tn_note t6 i (-4) (if 0 < dd.2.1 then rest % dd.2.1 else 0) (by omega)) rfl ?_
    rintro _ w7 ⟨we7, t7, F7⟩
    have bw7 := t7.B.bw
    have bd7 := t7.d
    rw [eE] at bd7
    have hE7 : ∃ u v, Blk w7.heap wb [.pointer (some ⟨rb, 0, none⟩), .slice va P.length vc, u, v] 60 := ⟨_, _, t7.L.hw⟩
    refine vA_done (by kernel_rfl) (by (first | exact trivial | assumption | infer_instance | (refine ⟨?_, ?_, ?_⟩ <;> (first | assumption | infer_instance)) | ((repeat (first | exact Fr.refl _ _ | assumption | with_reducible apply Fr.allocSet | with_reducible apply Fr.alloc | with_reducible apply Fr.drewN | with_reducible apply Fr.drew | ((with_reducible apply Fr.set); rotate_left; (right; ((try simp only [alloc_size]); omega))) | (refine Fr.trans ?_ (by assumption)))); done))) ?_
    rw [← hK6e] at t7 F7 hX46
    clear bw4 bt4 bp4 ba4 bd4 hw4 t4 t4d hE4 FF bw6 bd6 hE6
    have bt7 := t7.B.bt
    (apply seqP_normal; apply vC_region; ((apply vL_val); (case h => ((apply opv_loadb1); exact rfl; exact rfl; (first | assumption | infer_instance); exact rfl))); ((apply vL_val); (case h => ((apply opv_E); exact rfl))))
    refine vL_callF rfl (tn_yield t7 hx6 (a6.note _ _ _) h1 h2 h3 hta6) rfl ?_
    rintro _ w8 ⟨rfl, sb8, qb8, lv8, tv8, wt8, we8, ts8, y8, t8, hy8, y1, y2, F8⟩
    (apply vL_nil; apply blockP_normal)
    (first | apply ret0 | apply ret0n)
    have hLF6 : ∀ k, LF X K6 k → LF X K k ∨ w.heap.size ≤ k := fun k hk => .inl ⟨hk.1, fun h => hk.2 (hX46.1 k h)⟩
    exact t8.turned ((FF6.trans' F7 hLF6).trans' F8 hLF6) hy8 hX46 y1 y2
  by_cases k7 : dd.1 = 7
  · have e7 : AS.act (P.map (·.2)) S1 i rest dd = (S1.note i (-5) 152).ready i := by unfold AS.act; rw [if_neg k1, if_neg k2, if_neg k3, if_neg k4, if_neg k5, if_neg k6, if_pos k7]
    rw [e7]
    have t4d := t4.frN (show Fr No w4 w4.drew by (repeat (first | exact Fr.refl _ _ | assumption | with_reducible apply Fr.allocSet | with_reducible apply Fr.alloc | with_reducible apply Fr.drewN | with_reducible apply Fr.drew | ((with_reducible apply Fr.set); rotate_left; (right; ((try simp only [alloc_size]); omega))) | (refine Fr.trans ?_ (by assumption)))))
    have hwk : S1.wake i dd.2.2 = (S1, 152) := by
      unfold AS.wake
      rw [if_pos (by omega), Int.toNat_natCast, hta4]
      rfl
    ((refine vC_cond_dec rfl (fun h => by omega) (fun _ => ?_)); apply vC_seq; apply vC_region; (iterate 2 (((apply vL_val); (case h => ((apply opv_E); exact rfl))))); apply vL_nil; apply seqP_normal; (refine vC_cond_dec rfl (fun h => by omega) (fun _ => ?_)); apply vC_seq; apply vC_region; (iterate 2 (((apply vL_val); (case h => ((apply opv_E); exact rfl))))); apply vL_nil; apply seqP_normal; (refine vC_cond_dec rfl (fun h => by omega) (fun _ => ?_)); apply vC_seq; apply vC_region; (iterate 2 (((apply vL_val); (case h => ((apply opv_E); exact rfl))))); apply vL_nil; apply seqP_normal; (refine vC_cond_dec rfl (fun h => by omega) (fun _ => ?_)); apply vC_seq; apply vC_region; (iterate 2 (((apply vL_val); (case h => ((apply opv_E); exact rfl))))); apply vL_nil; apply seqP_normal; (refine vC_cond_dec rfl (fun h => by omega) (fun _ => ?_)); apply vC_seq; apply vC_region; (iterate 2 (((apply vL_val); (case h => ((apply opv_E); exact rfl))))); apply vL_nil; apply seqP_normal; (refine vC_cond_dec rfl (fun h => by omega) (fun _ => ?_)); apply vC_seq; apply vC_region; (iterate 2 (((apply vL_val); (case h => ((apply opv_E); exact rfl))))); apply vL_nil; apply seqP_normal; (refine vC_cond_dec rfl (fun _ => ?_) (fun h => by omega)); apply vC_seq)
    refine vC_draw' ((fun wf => Blk wf.heap wx [pt wb] 54 ∧ Blk wf.heap tx [pt x.1] 64 ∧ Blk wf.heap db [.int .i64 dd.1, .int .i64 dd.2.1, .int .i64 dd.2.2] 90)) (by (first | exact trivial | assumption | infer_instance | (refine ⟨?_, ?_, ?_⟩ <;> (first | assumption | infer_instance)) | ((repeat (first | exact Fr.refl _ _ | assumption | with_reducible apply Fr.allocSet | with_reducible apply Fr.alloc | with_reducible apply Fr.drewN | with_reducible apply Fr.drew | ((with_reducible apply Fr.set); rotate_left; (right; ((try simp only [alloc_size]); omega))) | (refine Fr.trans ?_ (by assumption)))); done))) ?_
    ((apply (tk 0)); (case hi => exact rfl); (case hf => kernel_rfl); (case hS => (first | exact trivial | assumption | infer_instance | (refine ⟨?_, ?_, ?_⟩ <;> (first | assumption | infer_instance)) | ((repeat (first | exact Fr.refl _ _ | assumption | with_reducible apply Fr.allocSet | with_reducible apply Fr.alloc | with_reducible apply Fr.drewN | with_reducible apply Fr.drew | ((with_reducible apply Fr.set); rotate_left; (right; ((try simp only [alloc_size]); omega))) | (refine Fr.trans ?_ (by assumption)))); done))); (case hy => (rintro wf ⟨hwa, hwb, hwc⟩; (((apply opv_loadb1); exact rfl; exact rfl; (first | assumption | infer_instance); exact rfl)))))
    ((apply (tk 1)); (case hi => exact rfl); (case hf => kernel_rfl); (case hS => (first | exact trivial | assumption | infer_instance | (refine ⟨?_, ?_, ?_⟩ <;> (first | assumption | infer_instance)) | ((repeat (first | exact Fr.refl _ _ | assumption | with_reducible apply Fr.allocSet | with_reducible apply Fr.alloc | with_reducible apply Fr.drewN | with_reducible apply Fr.drew | ((with_reducible apply Fr.set); rotate_left; (right; ((try simp only [alloc_size]); omega))) | (refine Fr.trans ?_ (by assumption)))); done))); (case hy => (rintro wf ⟨hwa, hwb, hwc⟩; (((apply opv_E); exact rfl)))))
    ((apply (tk 2)); (case hi => exact rfl); (case hf => kernel_rfl); (case hS => (first | exact trivial | assumption | infer_instance | (refine ⟨?_, ?_, ?_⟩ <;> (first | assumption | infer_instance)) | ((repeat (first | exact Fr.refl _ _ | assumption | with_reducible apply Fr.allocSet | with_reducible apply Fr.alloc | with_reducible apply Fr.drewN | with_reducible apply Fr.drew | ((with_reducible apply Fr.set); rotate_left; (right; ((try simp only [alloc_size]); omega))) | (refine Fr.trans ?_ (by assumption)))); done))); (case hy => (rintro wf ⟨hwa, hwb, hwc⟩; (((apply opv_loadb1); exact rfl; exact rfl; (first | assumption | infer_instance); exact rfl)))))
    ((apply (tk 3)); (case hi => exact rfl); (case hf => kernel_rfl); (case hS => (first | exact trivial | assumption | infer_instance | (refine ⟨?_, ?_, ?_⟩ <;> (first | assumption | infer_instance)) | ((repeat (first | exact Fr.refl _ _ | assumption | with_reducible apply Fr.allocSet | with_reducible apply Fr.alloc | with_reducible apply Fr.drewN | with_reducible apply Fr.drew | ((with_reducible apply Fr.set); rotate_left; (right; ((try simp only [alloc_size]); omega))) | (refine Fr.trans ?_ (by assumption)))); done))); (case hy => (rintro wf ⟨hwa, hwb, hwc⟩; (((apply opv_fieldAddr); exact rfl)))))
    ((apply (tk 4)); (case hi => exact rfl); (case hf => kernel_rfl); (case hS => (first | exact trivial | assumption | infer_instance | (refine ⟨?_, ?_, ?_⟩ <;> (first | assumption | infer_instance)) | ((repeat (first | exact Fr.refl _ _ | assumption | with_reducible apply Fr.allocSet | with_reducible apply Fr.alloc | with_reducible apply Fr.drewN | with_reducible apply Fr.drew | ((with_reducible apply Fr.set); rotate_left; (right; ((try simp only [alloc_size]); omega))) | (refine Fr.trans ?_ (by assumption)))); done))); (case hy => (rintro wf ⟨hwa, hwb, hwc⟩; (((apply opv_loadb1); exact rfl; exact rfl; (first | assumption | infer_instance); exact rfl)))))
    refine tkc 5 rfl (by kernel_rfl) (by (first | exact trivial | assumption | infer_instance | (refine ⟨?_, ?_, ?_⟩ <;> (first | assumption | infer_instance)) | ((repeat (first | exact Fr.refl _ _ | assumption | with_reducible apply Fr.allocSet | with_reducible apply Fr.alloc | with_reducible apply Fr.drewN | with_reducible apply Fr.drew | ((with_reducible apply Fr.set); rotate_left; (right; ((try simp only [alloc_size]); omega))) | (refine Fr.trans ?_ (by assumption)))); done))) rfl (tn_wake t4d hx hta4 dd.2.2 a4 h2 h3) rfl ?_
    rw [hwk]
    rintro _ w6 ⟨rfl, K6, lv6, ts6, t6, hK6, F6, hm6, hr6⟩
    have FF6 : Fr (LF X K) w w6 := FF.trans' (Fr.from_drew F6) hLF
    have hx6 : ts6[i]? = some x := by rw [hr6 i rfl]; exact hx
    have a6 := a4
    have hta6 := hta4
    have hX46 : KX w K K6 := hX4.trans hK6 FF.size
    have bw6 := t6.B.bw
    have bt6 := t6.B.bt
    have bd6 := t6.d
    rw [eE] at bd6
    refine tkc 6 rfl (by kernel_rfl) (by (first | exact trivial | assumption | infer_instance | (refine ⟨?_, ?_, ?_⟩ <;> (first | assumption | infer_instance)) | ((repeat (first | exact Fr.refl _ _ | assumption | with_reducible apply Fr.allocSet | with_reducible apply Fr.alloc | with_reducible apply Fr.drewN | with_reducible apply Fr.drew | ((with_reducible apply Fr.set); rotate_left; (right; ((try simp only [alloc_size]); omega))) | (refine Fr.trans ?_ (by assumption)))); done))) rfl (tn_note t6 i (-5) 152 (show S1.ev.length ≤ _ by omega)) rfl ?_
    rintro _ w7 ⟨we7, t7, F7⟩
    have bw7 := t7.B.bw
    have bt7 := t7.B.bt
    have bd7 := t7.d
    rw [eE] at bd7
    refine vA_done (by kernel_rfl) (by (first | exact trivial | assumption | infer_instance | (refine ⟨?_, ?_, ?_⟩ <;> (first | assumption | infer_instance)) | ((repeat (first | exact Fr.refl _ _ | assumption | with_reducible apply Fr.allocSet | with_reducible apply Fr.alloc | with_reducible apply Fr.drewN | with_reducible apply Fr.drew | ((with_reducible apply Fr.set); rotate_left; (right; ((try simp only [alloc_size]); omega))) | (refine Fr.trans ?_ (by assumption)))); done))) ?_
    clear bw4 bt4 bp4 ba4 bd4 hw4 t4 t4d FF bw6 bd6
    have bt7 := t7.B.bt
    (apply seqP_normal; apply vC_region; ((apply vL_val); (case h => ((apply opv_loadb1); exact rfl; exact rfl; (first | assumption | infer_instance); exact rfl))); ((apply vL_val); (case h => ((apply opv_E); exact rfl))))
    refine vL_callF rfl (tn_yield t7 hx6 (a6.note _ _ _) h1 h2 h3 hta6) rfl ?_
    rintro _ w8 ⟨rfl, sb8, qb8, lv8, tv8, wt8, we8, ts8, y8, t8, hy8, y1, y2, F8⟩
    (apply vL_nil; apply blockP_normal)
    (first | apply ret0 | apply ret0n)
    have hLF6 : ∀ k, LF X K6 k → LF X K k ∨ w.heap.size ≤ k := fun k hk => .inl ⟨hk.1, fun h => hk.2 (hX46.1 k h)⟩
    exact t8.turned ((FF6.trans' F7 hLF6).trans' F8 hLF6) hy8 hX46 y1 y2
  have e8 : AS.act (P.map (·.2)) S1 i rest dd = S1.setT i ⟨prog, pos + 1, 0, 0⟩ := by unfold AS.act; rw [if_neg k1, if_neg k2, if_neg k3, if_neg k4, if_neg k5, if_neg k6, if_neg k7, hta4]
  rw [e8]
  ((refine vC_cond_dec rfl (fun h => by omega) (fun _ => ?_)); apply vC_seq; apply vC_region; (iterate 2 (((apply vL_val); (case h => ((apply opv_E); exact rfl))))); apply vL_nil; apply seqP_normal; (refine vC_cond_dec rfl (fun h => by omega) (fun _ => ?_)); apply vC_seq; apply vC_region; (iterate 2 (((apply vL_val); (case h => ((apply opv_E); exact rfl))))); apply vL_nil; apply seqP_normal; (refine vC_cond_dec rfl (fun h => by omega) (fun _ => ?_)); apply vC_seq; apply vC_region; (iterate 2 (((apply vL_val); (case h => ((apply opv_E); exact rfl))))); apply vL_nil; apply seqP_normal; (refine vC_cond_dec rfl (fun h => by omega) (fun _ => ?_)); apply vC_seq; apply vC_region; (iterate 2 (((apply vL_val); (case h => ((apply opv_E); exact rfl))))); apply vL_nil; apply seqP_normal; (refine vC_cond_dec rfl (fun h => by omega) (fun _ => ?_)); apply vC_seq; apply vC_region; (iterate 2 (((apply vL_val); (case h => ((apply opv_E); exact rfl))))); apply vL_nil; apply seqP_normal; (refine vC_cond_dec rfl (fun h => by omega) (fun _ => ?_)); apply vC_seq; apply vC_region; (iterate 2 (((apply vL_val); (case h => ((apply opv_E); exact rfl))))); apply vL_nil; apply seqP_normal; (refine vC_cond_dec rfl (fun h => by omega) (fun _ => ?_)); apply vC_skip; apply blockP_normal)
  (first | apply ret0 | apply ret0n)
  exact t4.over FF hx hX4 h1 h3 h2 hta4
end Go.Proofs.Ytaeckjhipmcddaa
