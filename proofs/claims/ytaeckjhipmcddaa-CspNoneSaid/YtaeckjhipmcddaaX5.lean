/- Layer 15: the document's machine takes a step.
Layer 15: the law's world beside the document's. -/
import Derived.Test.YtaeckjhipmcddaaX4
set_option maxRecDepth 100000
namespace Go.Proofs.Ytaeckjhipmcddaa
open Go Go.Eng
theorem RfTo.off {w w' : World} {qb : Nat} {vp vt vl ve vt' vl' ve' : Value} {S' : AS} (r : RfTo w w' qb vp vt vl ve vt' vl' ve' S') {b : Nat} (hb : b < w.heap.size) (hn : ¬ RfB qb vt vl ve b) : ¬ RfB qb vt' vl' ve' b := fun h => by
  rcases r.fl b h with h1 | h1
  · exact hn h1
  · omega
theorem f_step {X : Nat → Prop} {w : World} {qb : Nat} {vp vt vl ve : Value} {S : AS} {n : Nat} {P : List (OV × List (Int × Int × Int))} (s : Rf w qb vp vt vl ve S) (g : Pg X w.heap vp P) (hXd : ∀ k, X k → ¬ RfB qb vt vl ve k) (a : AOkR S none) (b : AIn P.length n S) (hn : n ≤ 10000) (p : Int) (hp : 0 ≤ p ∧ p ≤ 18446744073709551615) :
    Rets Try.prog 31 #[pt qb, .int .u64 p] w fun u w' => (S.step (P.map (·.2)) p = none ∧ u = .bool false ∧ RfTo w w' qb vp vt vl ve vt vl ve S) ∨
      ∃ S' vt' vl' ve', S.step (P.map (·.2)) p = some S' ∧ u = .bool true ∧ RfTo w w' qb vp vt vl ve vt' vl' ve' S' := by
  have hlen := a.len
  have hfew := a.few
  have hle : S.line.length ≤ 256 := by omega
  have hel := b.ev
  have htl := b.tl
  have hq := s.hq
  have g1 := s.op
  have g2 := s.ot
  have g3 := s.oe
  have g4 := s.ol
  refine rets_of Try.func31 rfl Try.ntmps31 rfl rfl (by kernel_rfl) ?_
  (apply vC_seq; apply vC_region; ((apply vL_val); (case h => ((apply opv_E); exact rfl))); apply vL_nil; apply seqP_normal; apply vC_seq; apply vC_region; (iterate 2 (((apply vL_val); (case h => ((apply opv_E); exact rfl))))); ((apply vL_val); (case h => ((apply opv_fieldAddr); exact rfl))); ((apply vL_val); (case h => ((apply opv_loadb1); exact rfl; exact rfl; (first | assumption | infer_instance); exact rfl))); ((apply vL_val); (case h => ((apply opv_E); exact rfl))))
  refine vL_callF rfl (pick14 vl S.line p w s.hl s.ol hle hp) rfl ?_
  rintro _ w1 (⟨hnil, rfl, rfl⟩ | ⟨z, vl1, hz, rfl, hf1, ho1, hfr1, hone1⟩)
  · have hst : S.step (P.map (·.2)) p = none := by unfold AS.step; rw [hnil]; rfl
    obtain ⟨la, lb, lc, rfl⟩ := s.hl.isSlice
    ((iterate 9 (((apply vL_val); (case h => ((apply opv_E); exact rfl))))); apply vL_nil; apply seqP_normal; (iterate 2 (apply vC_seq)); apply vC_region; ((apply vL_val); (case h => ((apply opv_E); exact rfl))); ((apply vL_val); (case h => ((apply opv_not); exact rfl))); apply vL_nil; apply seqP_normal; ((apply vC_cond_true); exact rfl); apply vC_seq; apply vC_region; ((apply vL_val); (case h => ((apply opv_E); exact rfl))); apply vL_nil; apply seqP_normal; apply vC_ret; apply seqP_ret)
    (apply ret1; (case h1 => (first | exact norm_eq rfl | ((conv => lhs; whnf) <;> exact rfl))))
    exact .inl ⟨hst, rfl, s.same (Fr.refl _ _)⟩
  cases hst : S.step (P.map (·.2)) p with
  | none =>
    rw [step_none hst a] at hz
    simp at hz
  | some S' =>
  obtain ⟨i, t, h1, h2, h3, h4, hS'⟩ := step_some hst a
  have h1' := h1
  rw [hz] at h1
  obtain rfl : z = (i : Int) := Option.some.inj h1
  have htp := b.tp t (List.mem_of_getElem? h2)
  have hi := (List.getElem?_eq_some_iff.1 h2).1
  have hm := S.tasks.length
  obtain ⟨la, lb, lc, hvl1⟩ := ho1.isSlice
  subst hvl1
  have s1 := s.frN hf1
  have hq1 := s1.hq
  ((iterate 9 (((apply vL_val); (case h => ((apply opv_E); exact rfl))))); apply vL_nil; apply seqP_normal; (iterate 2 (apply vC_seq)); apply vC_region; ((apply vL_val); (case h => ((apply opv_E); exact rfl))); ((apply vL_val); (case h => ((apply opv_not); exact rfl))); apply vL_nil; apply seqP_normal; ((apply vC_cond_false); exact rfl); apply vC_skip; apply seqP_normal; apply vC_seq; apply vC_region; (iterate 3 (((apply vL_val); (case h => ((apply opv_E); exact rfl))))); ((apply vL_val); (case h => ((apply opv_fieldAddr); exact rfl))); ((apply vL_skip); (case h => ((apply ops_store1); (first | exact norm_eq rfl | ((conv => lhs; whnf) <;> exact rfl)); (first | exact norm_eq rfl | ((conv => lhs; whnf) <;> exact rfl)); (first | rfl | assumption); (first | assumption | infer_instance); (first | decide | exact of_decide_eq_true rfl | (simp; done))))); apply vL_nil; apply seqP_normal; apply vC_seq; apply vC_region; (iterate 2 (((apply vL_val); (case h => ((apply opv_E); exact rfl))))); ((apply vL_val); (case h => ((apply opv_fieldAddr); exact rfl))); ((apply vL_val); (case h => ((apply opv_loadb1); exact rfl; exact rfl; (first | assumption | infer_instance); exact rfl))); ((apply vL_val); (case h => ((apply opv_E); exact rfl))))
  generalize hvl1 : Value.slice la lb lc = vl1 at *
  have r1 : RfTo w (w1.setRow qb [vp, vt, vl1, ve].toArray) qb vp vt vl ve vt vl1 ve { S with line := without S.line (p % (S.line.length : Int)) } := by
    refine ⟨hf1.no_any.trans ((Fr.refl _ w1).set _ _ (.inl (.inl rfl))), ⟨show Blk _ qb [vp, vt, vl1, ve] 69 from inferInstance, s1.ht.set (Own.ne_blk s1.ht hq1 (by decide)), ho1.set (Own.ne_blk ho1 hq1 (by decide)), s1.he.set (Own.ne_blk s1.he hq1 (by decide)), s.op, s.ot, hone1, s.oe⟩, fun k hk => ?_⟩
    rcases hk with h | h | h | h
    · exact .inl (.inl h)
    · exact .inl (.inr (.inl h))
    · exact .inr (hfr1 k h)
    · exact .inl (.inr (.inr (.inr h)))
  have ht1 : S.tasks[((i : Nat) : Int).toNat]? = some t := by rw [Int.toNat_natCast]; exact h2
  refine vL_gen (fun w' => RfTo w w' qb vp vt vl ve vt vl1 ve { S with line := without S.line (p % (S.line.length : Int)) }) r1 ?_
  clear r1 hq1 s1 ho1 hf1 hfr1 hz
  intro w2 r2
  have hq2 := r2.rf.hq
  have ht2 := r2.rf.ht
  have hlt2 : ((i : Nat) : Int) < ((S.tasks.length : Nat) : Int) := by omega
  have hn2 : ∀ b c T, Blk w2.heap b c T → b < w2.heap.size := fun b c T h => h.lt
  (((apply vL_val); (case h => ((apply opv_indexAddr); (first | exact norm_eq rfl | ((conv => lhs; whnf) <;> exact rfl)); exact rfl; (first | assumption | infer_instance); (first | omega | (simp only [List.length_map]; omega)); (first | omega | (simp only [List.length_map]; omega))))); ((apply vL_val); (case h => ((apply opv_ld_eln); exact rfl; exact rfl; (first | assumption | infer_instance); assumption))); ((apply vL_val); (case h => (apply opw_alloc))); ((apply vL_skip); (case h => ((apply ops_storen); (first | exact norm_eq rfl | ((conv => lhs; whnf) <;> exact rfl)); (first | exact norm_eq rfl | ((conv => lhs; whnf) <;> exact rfl)); exact rfl; (first | exact (fun u hu => EncOk.one _ u hu) | (intro u hu; simp at hu; rcases hu with rfl | rfl <;> (first | rfl | assumption))); (first | assumption | infer_instance); (first | decide | exact of_decide_eq_true rfl | (simp; done))))); apply vL_nil; apply seqP_normal; apply vC_seq; apply vC_region; (iterate 2 (((apply vL_val); (case h => ((apply opv_E); exact rfl))))); ((apply vL_val); (case h => ((apply opv_fieldAddr); exact rfl))); ((apply vL_val); (case h => ((apply opv_loadb1); exact rfl; exact rfl; (first | assumption | infer_instance); exact rfl))); ((apply vL_val); (case h => ((apply opv_fieldAddr); exact rfl))); ((apply vL_val); (case h => ((apply opv_loadb1); exact rfl; exact rfl; (first | assumption | infer_instance); exact rfl))))
  refine vL_gen (fun w' => RfTo w w' qb vp vt vl ve vt vl1 ve { S with line := without S.line (p % (S.line.length : Int)) } ∧ Blk w'.heap w2.heap.size (atE t) 94 ∧ ¬ RfB qb vt vl1 ve w2.heap.size) ⟨r2.then (by (repeat (first | exact Fr.refl _ _ | assumption | with_reducible apply Fr.allocSet | with_reducible apply Fr.alloc | with_reducible apply Fr.drewN | with_reducible apply Fr.drew | ((with_reducible apply Fr.set); rotate_left; (right; ((try simp only [alloc_size]); omega))) | (refine Fr.trans ?_ (by assumption))))), Blk.as inferInstance rfl, fun h => by have := r2.rf.lt _ h; omega⟩ ?_
  rintro w3 ⟨r3, bt3, nt3⟩
  generalize w2.heap.size = tb at *
  clear hq2 ht2 hn2 r2
  rw [atE] at bt3
  skip
  refine vL_callF rfl (f_note r3.rf i t.pos t.why (show S.ev.length ≤ _ by omega)) rfl ?_
  rintro _ w4 ⟨ve4, q4⟩
  have r4 := r3.trans q4
  have bt4 := bt3.fr q4.fr nt3
  clear nt3 bt3 q4 r3
  (apply vL_nil; apply seqP_normal; apply vC_seq; apply vC_region; ((apply vL_val); (case h => ((apply opv_buildS); exact rfl; (first | exact (rfl : _ = some []) | exact (rfl : _ = some [_]) | exact (rfl : _ = some [_, _]) | exact (rfl : _ = some [_, _, _]) | exact (rfl : _ = some [_, _, _, _]) | exact (rfl : _ = some [_, _, _, _, _]) | exact (rfl : _ = some [_, _, _, _, _, _]) | exact (rfl : _ = some [_, _, _, _, _, _, _]) | exact (rfl : _ = some [_, _, _, _, _, _, _, _]) | exact (rfl : _ = some [_, _, _, _, _, _, _, _, _]) | exact (rfl : _ = some [_, _, _, _, _, _, _, _, _, _]) | exact (rfl : _ = some [_, _, _, _, _, _, _, _, _, _, _]) | exact (rfl : _ = some [_, _, _, _, _, _, _, _, _, _, _, _]) | exact (rfl : _ = some [_, _, _, _, _, _, _, _, _, _, _, _, _]) | exact (rfl : _ = some [_, _, _, _, _, _, _, _, _, _, _, _, _, _]) | exact (rfl : _ = some [_, _, _, _, _, _, _, _, _, _, _, _, _, _, _]) | exact (rfl : _ = some [_, _, _, _, _, _, _, _, _, _, _, _, _, _, _, _]))))); ((apply vL_val); (case h => (apply opw_alloc))); ((apply vL_skip); (case h => ((apply ops_storen); (first | exact norm_eq rfl | ((conv => lhs; whnf) <;> exact rfl)); (first | exact norm_eq rfl | ((conv => lhs; whnf) <;> exact rfl)); exact rfl; (first | exact (fun u hu => EncOk.one _ u hu) | (intro u hu; simp at hu; rcases hu with rfl | rfl <;> (first | rfl | assumption))); (first | assumption | infer_instance); (first | decide | exact of_decide_eq_true rfl | (simp; done))))); apply vL_nil; apply seqP_normal; (iterate 2 (apply vC_seq)))
  refine vC_gen (fun w' => RfTo w w' qb vp vt vl ve vt vl1 ve4 (({ S with line := without S.line (p % (S.line.length : Int)) } : AS).note i t.pos t.why) ∧ Blk w'.heap tb (atE t) 94 ∧ w4.heap.size < w'.heap.size ∧ Fr No w4 w' ∧ Blk w'.heap w4.heap.size [.int .i64 0, .int .i64 0, .int .i64 0] 90) ⟨r4.then (by (repeat (first | exact Fr.refl _ _ | assumption | with_reducible apply Fr.allocSet | with_reducible apply Fr.alloc | with_reducible apply Fr.drewN | with_reducible apply Fr.drew | ((with_reducible apply Fr.set); rotate_left; (right; ((try simp only [alloc_size]); omega))) | (refine Fr.trans ?_ (by assumption))))), Blk.as (inferInstance : Blk _ tb [.int .i64 t.prog, .int .i64 t.pos, .int .i64 t.st, .int .i64 t.why] _) rfl, by simp, by (repeat (first | exact Fr.refl _ _ | assumption | with_reducible apply Fr.allocSet | with_reducible apply Fr.alloc | with_reducible apply Fr.drewN | with_reducible apply Fr.drew | ((with_reducible apply Fr.set); rotate_left; (right; ((try simp only [alloc_size]); omega))) | (refine Fr.trans ?_ (by assumption)))), inferInstance⟩ ?_
  rintro w5 ⟨r5, bt5, hlt5, hf5, bd5⟩
  have nd5 : ¬ RfB qb vt vl1 ve4 w4.heap.size := fun h => by have := r4.rf.lt _ h; omega
  have g4 := g.frF r4.fr hXd
  have g5 := g4.frN hf5
  obtain ⟨d, hd⟩ : ∃ d, P[t.prog]? = some d := ⟨P[t.prog]'htp.1, List.getElem?_eq_getElem htp.1⟩
  have hd' : P[((t.prog : Nat) : Int).toNat]? = some d := by rw [Int.toNat_natCast]; exact hd
  have hdone := d.1.2
  have hP5 := g5.z.hP
  have hPd5 := g5.z.hPi d (List.mem_of_getElem? hd)
  have hPs := hP5.small
  have hPds := hPd5.small
  have hq5 := r5.rf.hq
  have hdo : doAt (P.map (·.2)) t.prog t.pos = (d.2[t.pos]?).getD (0, 0, 0) := by unfold doAt; rw [List.getElem?_map, hd]; rfl
  have hda : ((d.2[t.pos]?).getD (0, 0, 0)).2.1 ≤ 9223372036854775807 := by
    by_cases hpl : t.pos < d.2.length
    · rw [List.getElem?_eq_getElem hpl]
      exact g.hPb d (List.mem_of_getElem? hd) _ (List.getElem_mem hpl)
    · rw [List.getElem?_eq_none (by omega)]; decide
  rw [atE] at bt5
  (with_reducible apply vC_drawQ); (((apply vQ_op); (case hi => exact rfl); (case hf => kernel_rfl); (case hS => (first | exact Dr.refl _ | assumption | exact ⟨_, rfl⟩)); (case hy => (intro j; ((apply opv_fieldAddr); exact rfl)))); ((apply vQ_op); (case hi => exact rfl); (case hf => kernel_rfl); (case hS => (first | exact Dr.refl _ | assumption | exact ⟨_, rfl⟩)); (case hy => (intro j; ((apply opv_loadb1); exact rfl; exact rfl; (first | assumption | infer_instance); exact rfl)))); (iterate 2 (((apply vQ_op); (case hi => exact rfl); (case hf => kernel_rfl); (case hS => (first | exact Dr.refl _ | assumption | exact ⟨_, rfl⟩)); (case hy => (intro j; ((apply opv_E); exact rfl)))))); ((apply vQ_op); (case hi => exact rfl); (case hf => kernel_rfl); (case hS => (first | exact Dr.refl _ | assumption | exact ⟨_, rfl⟩)); (case hy => (intro j; ((apply opv_fieldAddr); exact rfl)))); ((apply vQ_op); (case hi => exact rfl); (case hf => kernel_rfl); (case hS => (first | exact Dr.refl _ | assumption | exact ⟨_, rfl⟩)); (case hy => (intro j; ((apply opv_loadb1); exact rfl; exact rfl; (first | assumption | infer_instance); exact rfl)))); ((apply vQ_op); (case hi => exact rfl); (case hf => kernel_rfl); (case hS => (first | exact Dr.refl _ | assumption | exact ⟨_, rfl⟩)); (case hy => (intro j; ((apply opv_fieldAddr); exact rfl)))); ((apply vQ_op); (case hi => exact rfl); (case hf => kernel_rfl); (case hS => (first | exact Dr.refl _ | assumption | exact ⟨_, rfl⟩)); (case hy => (intro j; ((apply opv_loadb1); exact rfl; exact rfl; (first | assumption | infer_instance); exact rfl)))); ((apply vQ_op); (case hi => exact rfl); (case hf => kernel_rfl); (case hS => (first | exact Dr.refl _ | assumption | exact ⟨_, rfl⟩)); (case hy => (intro j; ((apply opv_indexAddr); (first | exact norm_eq rfl | ((conv => lhs; whnf) <;> exact rfl)); exact rfl; (first | assumption | infer_instance); (first | omega | (simp only [List.length_map]; omega)); (first | omega | (simp only [List.length_map]; omega)))))); ((apply vQ_op); (case hi => exact rfl); (case hf => kernel_rfl); (case hS => (first | exact Dr.refl _ | assumption | exact ⟨_, rfl⟩)); (case hy => (intro j; ((apply opv_ld_el); exact rfl; exact rfl; (first | assumption | infer_instance); assumption; exact rfl)))); ((apply vQ_op); (case hi => exact rfl); (case hf => kernel_rfl); (case hS => (first | exact Dr.refl _ | assumption | exact ⟨_, rfl⟩)); (case hy => (intro j; ((apply opv_len); (first | exact norm_eq rfl | ((conv => lhs; whnf) <;> exact rfl)); (first | assumption | infer_instance))))); ((apply vQ_op); (case hi => exact rfl); (case hf => kernel_rfl); (case hS => (first | exact Dr.refl _ | assumption | exact ⟨_, rfl⟩)); (case hy => (intro j; ((apply opv_E); exact rfl)))); ((apply vQ_end); (case hi => exact rfl); (case hf => kernel_rfl); (case hS => (first | exact Dr.refl _ | assumption | exact ⟨_, rfl⟩))))
  with_reducible apply seqP_normal
  generalize hdd : doAt (P.map (·.2)) t.prog t.pos = dd at *
  rw [← hdo] at hda
  refine vC_meet 590151695170629795840 (fun w' => Fr No w4 w' ∧ Blk w'.heap w4.heap.size (eE dd) 90) ?_ ?_
  · by_cases hpl : t.pos < d.2.length
    · obtain ⟨q, hq⟩ : ∃ q, d.2[t.pos]? = some q := ⟨d.2[t.pos], by simp [hpl]⟩
      have hq' : d.2[((t.pos : Nat) : Int).toNat]? = some q := by rw [Int.toNat_natCast]; exact hq
      have hdq : dd = q := by rw [hdo, hq]; rfl
      refine vC_condT rfl (decide_eq_true (by omega)) ?_
      have hqq := r4.rf.hq
      have btq : Blk w4.heap tb [.int .i64 t.prog, .int .i64 t.pos, .int .i64 t.st, .int .i64 t.why] 94 := bt4
      have hPq := g4.z.hP
      have hPdq := g4.z.hPi d (List.mem_of_getElem? hd)
      refine vC_draw' (fun wf => Fr No w4 wf) hf5.drew.drew ?_
      ((apply (tk 0)); (case hi => exact rfl); (case hf => kernel_rfl); (case hS => (repeat (first | exact Fr.refl _ _ | assumption | with_reducible apply Fr.allocSet | with_reducible apply Fr.alloc | with_reducible apply Fr.drewN | with_reducible apply Fr.drew | ((with_reducible apply Fr.set); rotate_left; (right; ((try simp only [alloc_size]); omega))) | (refine Fr.trans ?_ (by assumption))))); (case hy => (intro wf hwf; haveI := From.mk hwf; (((apply opv_E); exact rfl)))))
      ((apply (tk 1)); (case hi => exact rfl); (case hf => kernel_rfl); (case hS => (repeat (first | exact Fr.refl _ _ | assumption | with_reducible apply Fr.allocSet | with_reducible apply Fr.alloc | with_reducible apply Fr.drewN | with_reducible apply Fr.drew | ((with_reducible apply Fr.set); rotate_left; (right; ((try simp only [alloc_size]); omega))) | (refine Fr.trans ?_ (by assumption))))); (case hy => (intro wf hwf; haveI := From.mk hwf; (((apply opv_E); exact rfl)))))
      ((apply (tk 2)); (case hi => exact rfl); (case hf => kernel_rfl); (case hS => (repeat (first | exact Fr.refl _ _ | assumption | with_reducible apply Fr.allocSet | with_reducible apply Fr.alloc | with_reducible apply Fr.drewN | with_reducible apply Fr.drew | ((with_reducible apply Fr.set); rotate_left; (right; ((try simp only [alloc_size]); omega))) | (refine Fr.trans ?_ (by assumption))))); (case hy => (intro wf hwf; haveI := From.mk hwf; (((apply opv_fieldAddr); exact rfl)))))
      ((apply (tk 3)); (case hi => exact rfl); (case hf => kernel_rfl); (case hS => (repeat (first | exact Fr.refl _ _ | assumption | with_reducible apply Fr.allocSet | with_reducible apply Fr.alloc | with_reducible apply Fr.drewN | with_reducible apply Fr.drew | ((with_reducible apply Fr.set); rotate_left; (right; ((try simp only [alloc_size]); omega))) | (refine Fr.trans ?_ (by assumption))))); (case hy => (intro wf hwf; haveI := From.mk hwf; (((apply opv_loadb1); exact rfl; exact rfl; (first | assumption | infer_instance); exact rfl)))))
      ((apply (tk 4)); (case hi => exact rfl); (case hf => kernel_rfl); (case hS => (repeat (first | exact Fr.refl _ _ | assumption | with_reducible apply Fr.allocSet | with_reducible apply Fr.alloc | with_reducible apply Fr.drewN | with_reducible apply Fr.drew | ((with_reducible apply Fr.set); rotate_left; (right; ((try simp only [alloc_size]); omega))) | (refine Fr.trans ?_ (by assumption))))); (case hy => (intro wf hwf; haveI := From.mk hwf; (((apply opv_fieldAddr); exact rfl)))))
      ((apply (tk 5)); (case hi => exact rfl); (case hf => kernel_rfl); (case hS => (repeat (first | exact Fr.refl _ _ | assumption | with_reducible apply Fr.allocSet | with_reducible apply Fr.alloc | with_reducible apply Fr.drewN | with_reducible apply Fr.drew | ((with_reducible apply Fr.set); rotate_left; (right; ((try simp only [alloc_size]); omega))) | (refine Fr.trans ?_ (by assumption))))); (case hy => (intro wf hwf; haveI := From.mk hwf; (((apply opv_loadb1); exact rfl; exact rfl; (first | assumption | infer_instance); exact rfl)))))
      ((apply (tk 6)); (case hi => exact rfl); (case hf => kernel_rfl); (case hS => (repeat (first | exact Fr.refl _ _ | assumption | with_reducible apply Fr.allocSet | with_reducible apply Fr.alloc | with_reducible apply Fr.drewN | with_reducible apply Fr.drew | ((with_reducible apply Fr.set); rotate_left; (right; ((try simp only [alloc_size]); omega))) | (refine Fr.trans ?_ (by assumption))))); (case hy => (intro wf hwf; haveI := From.mk hwf; (((apply opv_indexAddr); (first | exact norm_eq rfl | ((conv => lhs; whnf) <;> exact rfl)); exact rfl; (first | assumption | infer_instance); (first | omega | (simp only [List.length_map]; omega)); (first | omega | (simp only [List.length_map]; omega)))))))
      ((apply (tk 7)); (case hi => exact rfl); (case hf => kernel_rfl); (case hS => (repeat (first | exact Fr.refl _ _ | assumption | with_reducible apply Fr.allocSet | with_reducible apply Fr.alloc | with_reducible apply Fr.drewN | with_reducible apply Fr.drew | ((with_reducible apply Fr.set); rotate_left; (right; ((try simp only [alloc_size]); omega))) | (refine Fr.trans ?_ (by assumption))))); (case hy => (intro wf hwf; haveI := From.mk hwf; (((apply opv_ld_el); exact rfl; exact rfl; (first | assumption | infer_instance); assumption; exact rfl)))))
      ((apply (tk 8)); (case hi => exact rfl); (case hf => kernel_rfl); (case hS => (repeat (first | exact Fr.refl _ _ | assumption | with_reducible apply Fr.allocSet | with_reducible apply Fr.alloc | with_reducible apply Fr.drewN | with_reducible apply Fr.drew | ((with_reducible apply Fr.set); rotate_left; (right; ((try simp only [alloc_size]); omega))) | (refine Fr.trans ?_ (by assumption))))); (case hy => (intro wf hwf; haveI := From.mk hwf; (((apply opv_fieldAddr); exact rfl)))))
      ((apply (tk 9)); (case hi => exact rfl); (case hf => kernel_rfl); (case hS => (repeat (first | exact Fr.refl _ _ | assumption | with_reducible apply Fr.allocSet | with_reducible apply Fr.alloc | with_reducible apply Fr.drewN | with_reducible apply Fr.drew | ((with_reducible apply Fr.set); rotate_left; (right; ((try simp only [alloc_size]); omega))) | (refine Fr.trans ?_ (by assumption))))); (case hy => (intro wf hwf; haveI := From.mk hwf; (((apply opv_loadb1); exact rfl; exact rfl; (first | assumption | infer_instance); exact rfl)))))
      ((apply (tk 10)); (case hi => exact rfl); (case hf => kernel_rfl); (case hS => (repeat (first | exact Fr.refl _ _ | assumption | with_reducible apply Fr.allocSet | with_reducible apply Fr.alloc | with_reducible apply Fr.drewN | with_reducible apply Fr.drew | ((with_reducible apply Fr.set); rotate_left; (right; ((try simp only [alloc_size]); omega))) | (refine Fr.trans ?_ (by assumption))))); (case hy => (intro wf hwf; haveI := From.mk hwf; (((apply opv_indexAddr); (first | exact norm_eq rfl | ((conv => lhs; whnf) <;> exact rfl)); exact rfl; (first | assumption | infer_instance); (first | omega | (simp only [List.length_map]; omega)); (first | omega | (simp only [List.length_map]; omega)))))))
      ((apply (tk 11)); (case hi => exact rfl); (case hf => kernel_rfl); (case hS => (repeat (first | exact Fr.refl _ _ | assumption | with_reducible apply Fr.allocSet | with_reducible apply Fr.alloc | with_reducible apply Fr.drewN | with_reducible apply Fr.drew | ((with_reducible apply Fr.set); rotate_left; (right; ((try simp only [alloc_size]); omega))) | (refine Fr.trans ?_ (by assumption))))); (case hy => (intro wf hwf; haveI := From.mk hwf; (((apply opv_ld_eln); exact rfl; exact rfl; (first | assumption | infer_instance); assumption)))))
      refine vA_only 12 rfl (by kernel_rfl) hf5.drew.drew (fun J hJ => ?_)
      (((apply vL_skip); (case h => ((apply ops_storen); (first | exact norm_eq rfl | ((conv => lhs; whnf) <;> exact rfl)); (first | exact norm_eq rfl | ((conv => lhs; whnf) <;> exact rfl)); exact rfl; (first | exact (fun u hu => EncOk.one _ u hu) | (intro u hu; simp at hu; rcases hu with rfl | rfl <;> (first | rfl | assumption))); (first | assumption | infer_instance); (first | decide | exact of_decide_eq_true rfl | (simp; done))))); apply vL_nil)
      refine ⟨rfl, hJ _ _ ?_⟩
      refine vA_done (by kernel_rfl) (hf5.drew.drew.set _ _ (.inr (Nat.le_refl _))) ?_
      refine ⟨rfl, by ((repeat (first | (with_reducible exact same_mask _ _ _) | with_reducible apply same_updN | ((with_reducible refine same_updO ?_ ?_); rotate_left; exact rfl) | ((with_reducible refine same_upd ?_ ?_); rotate_left; exact rfl) | ((with_reducible refine same_maskIn ?_ ?_); rotate_left; exact rfl))); exact fun _ _ => rfl), hf5.drew.drew.set _ _ (.inr (Nat.le_refl _)), ?_⟩
      rw [hdq]
      exact Blk.as (Blk.set (inferInstance : Blk w5.drew.drew.heap w4.heap.size _ _)) rfl
    · have hdq : dd = (0, 0, 0) := by rw [hdo, List.getElem?_eq_none (by omega)]; rfl
      refine vC_condF rfl (decide_eq_false (by omega)) ?_
      (apply vC_skip)
      refine ⟨rfl, fun _ _ => rfl, hf5.drew, ?_⟩
      rw [hdq]
      exact (show Blk w5.drew.heap w4.heap.size _ _ from inferInstance)
  rintro junk6 w6 ⟨hf6, bd6⟩
  have r6 := r4.then hf6
  generalize w4.heap.size = db at *
  clear hd hd' hPd5 hP5 g5 g4 hq5 bt5 bd5 hlt5 hf5 r5 r4 hf6 bt4 hdone hPs hPds hdo hdd
  first | with_reducible apply vC_seq | with_reducible apply vC_region | with_reducible apply seqP_normal | with_reducible apply vC_block | with_reducible apply vC_ret | with_reducible apply vC_skip | with_reducible apply vC_exit | with_reducible apply seqP_ret | with_reducible apply seqP_exit | with_reducible apply blockP_normal | with_reducible apply blockP_ret | with_reducible apply blockP_exit | ((with_reducible apply blockP_pass); exact rfl) | with_reducible apply loopP_normal | with_reducible apply vL_ac | with_reducible apply vL_an | with_reducible apply loopP_ret | with_reducible apply loopP_exit | ((with_reducible apply vC_cond_true); exact rfl) | ((with_reducible apply vC_cond_false); exact rfl) | with_reducible apply vC_scope | with_reducible apply gotoP_normal | with_reducible apply gotoP_ret | with_reducible apply gotoP_exit | with_reducible apply vC_label
  have hq6 := r6.rf.hq
  have ht6 : Own w6.heap 94 4 atE vt S.tasks := r6.rf.ht
  (apply vC_seq; apply vC_region; (iterate 2 (((apply vL_val); (case h => ((apply opv_E); exact rfl))))); ((apply vL_val); (case h => ((apply opv_fieldAddr); exact rfl))); ((apply vL_val); (case h => ((apply opv_loadb1); exact rfl; exact rfl; (first | assumption | infer_instance); exact rfl))); ((apply vL_val); (case h => ((apply opv_E); exact rfl))); ((apply vL_val); (case h => ((apply opv_indexAddr); (first | exact norm_eq rfl | ((conv => lhs; whnf) <;> exact rfl)); exact rfl; (first | assumption | infer_instance); (first | omega | (simp only [List.length_map]; omega)); (first | omega | (simp only [List.length_map]; omega))))); ((apply vL_val); (case h => ((apply opv_fieldAddr); exact rfl))); ((apply vL_val); (case h => ((apply opv_ld_el); exact rfl; exact rfl; (first | assumption | infer_instance); assumption; exact rfl))); ((apply vL_val); (case h => ((apply opv_add); exact rfl; exact rfl; (first | omega | (simp only [List.length_map]; omega))))); ((apply vL_val); (case h => ((apply opv_indexAddr); (first | exact norm_eq rfl | ((conv => lhs; whnf) <;> exact rfl)); exact rfl; (first | assumption | infer_instance); (first | omega | (simp only [List.length_map]; omega)); (first | omega | (simp only [List.length_map]; omega))))); ((apply vL_val); (case h => ((apply opv_fieldAddr); exact rfl))))
  refine vL_storeElF (enc := atE) (xs := S.tasks) (i := ((i : Nat) : Int)) (j := 1) (x0 := t) { t with pos := t.pos + 1 } rfl rfl h2 rfl rfl (by decide) ht6 ?_
  intro w7 ho7 hf7
  have r7 := r6.trans (r6.rf.toRow hf7 ho7)
  have bd7 := bd6.fr (r6.rf.toRow hf7 ho7).fr nd5
  clear r6 hq6 ht6 bd6 ho7 hf7
  have hq7 := r7.rf.hq
  have ht7 : Own w7.heap 94 4 atE vt (S.tasks.set i { t with pos := t.pos + 1 }) := r7.rf.ht
  have hl7 : ((i : Nat) : Int) < (((S.tasks.set i { t with pos := t.pos + 1 }).length : Nat) : Int) := by rw [List.length_set]; omega
  (apply vL_nil; apply seqP_normal; apply vC_seq; apply vC_region; (iterate 2 (((apply vL_val); (case h => ((apply opv_E); exact rfl))))); ((apply vL_val); (case h => ((apply opv_fieldAddr); exact rfl))); ((apply vL_val); (case h => ((apply opv_loadb1); exact rfl; exact rfl; (first | assumption | infer_instance); exact rfl))); ((apply vL_val); (case h => ((apply opv_E); exact rfl))); ((apply vL_val); (case h => ((apply opv_indexAddr); (first | exact norm_eq rfl | ((conv => lhs; whnf) <;> exact rfl)); exact rfl; (first | assumption | infer_instance); (first | omega | (simp only [List.length_map]; omega)); (first | omega | (simp only [List.length_map]; omega))))); ((apply vL_val); (case h => ((apply opv_fieldAddr); exact rfl))))
  refine vL_storeElF (enc := atE) (xs := S.tasks.set i { t with pos := t.pos + 1 }) (i := ((i : Nat) : Int)) (j := 3) (x0 := { t with pos := t.pos + 1 }) { t with pos := t.pos + 1, why := 0 } rfl rfl (set_at h2) rfl rfl (by decide) ht7 ?_
  intro w8 ho8 hf8
  replace ho8 : Own w8.heap 94 4 atE vt ((S.tasks.set i { t with pos := t.pos + 1 }).set i { t with pos := t.pos + 1, why := 0 }) := ho8
  rw [List.set_set] at ho8
  have r8 := r7.trans (r7.rf.toRow hf8 ho8)
  have bd8 := bd7.fr (r7.rf.toRow hf8 ho8).fr nd5
  clear r7 hq7 ht7 bd7 ho8 hf8 hl7
  have hq8 := r8.rf.hq
  have ht8 : Own w8.heap 94 4 atE vt (S.tasks.set i { t with pos := t.pos + 1, why := 0 }) := r8.rf.ht
  have hl8 : ((i : Nat) : Int) < (((S.tasks.set i { t with pos := t.pos + 1, why := 0 }).length : Nat) : Int) := by rw [List.length_set]; omega
  (apply vL_nil; apply seqP_normal; apply vC_seq; apply vC_region; (iterate 2 (((apply vL_val); (case h => ((apply opv_E); exact rfl))))); ((apply vL_val); (case h => ((apply opv_fieldAddr); exact rfl))); ((apply vL_val); (case h => ((apply opv_loadb1); exact rfl; exact rfl; (first | assumption | infer_instance); exact rfl))); ((apply vL_val); (case h => ((apply opv_E); exact rfl))); ((apply vL_val); (case h => ((apply opv_indexAddr); (first | exact norm_eq rfl | ((conv => lhs; whnf) <;> exact rfl)); exact rfl; (first | assumption | infer_instance); (first | omega | (simp only [List.length_map]; omega)); (first | omega | (simp only [List.length_map]; omega))))); ((apply vL_val); (case h => ((apply opv_fieldAddr); exact rfl))))
  refine vL_storeElF (enc := atE) (xs := S.tasks.set i { t with pos := t.pos + 1, why := 0 }) (i := ((i : Nat) : Int)) (j := 2) (x0 := { t with pos := t.pos + 1, why := 0 }) { t with pos := t.pos + 1, why := 0, st := 2 } rfl rfl (set_at h2) rfl rfl (by decide) ht8 ?_
  intro w9 ho9 hf9
  replace ho9 : Own w9.heap 94 4 atE vt ((S.tasks.set i { t with pos := t.pos + 1, why := 0 }).set i { t with pos := t.pos + 1, why := 0, st := 2 }) := ho9
  rw [List.set_set] at ho9
  have r9 := r8.trans (r8.rf.toRow hf9 ho9)
  have bd9 := bd8.fr (r8.rf.toRow hf9 ho9).fr nd5
  clear r8 hq8 ht8 bd8 ho9 hf9 hl8
  have a9 := a.take h1' h2 (t.pos + 1) 0
  have hta : ((({ S with line := without S.line (p % (S.line.length : Int)) } : AS).setT i ⟨t.prog, t.pos + 1, 0, 2⟩).note i t.pos t.why).tasks[i]? = some ⟨t.prog, t.pos + 1, 0, 2⟩ := set_at h2
  rw [toNat_emod h4] at a9
  replace r9 : RfTo w w9 qb vp vt vl ve vt vl1 ve4 ((({ S with line := without S.line (p % (S.line.length : Int)) } : AS).setT i ⟨t.prog, t.pos + 1, 0, 2⟩).note i t.pos t.why) := r9
  replace a9 : AOkR ((({ S with line := without S.line (p % (S.line.length : Int)) } : AS).setT i ⟨t.prog, t.pos + 1, 0, 2⟩).note i t.pos t.why) (some i) := a9.note i t.pos t.why
  have hev9 : ((({ S with line := without S.line (p % (S.line.length : Int)) } : AS).setT i ⟨t.prog, t.pos + 1, 0, 2⟩).note i t.pos t.why).ev.length ≤ 100001 := by
    show (S.ev ++ [_]).length ≤ _
    simp; omega
  have hlw9 : ((({ S with line := without S.line (p % (S.line.length : Int)) } : AS).setT i ⟨t.prog, t.pos + 1, 0, 2⟩).note i t.pos t.why).tasks.length ≤ 100001 := by
    show (S.tasks.set i _).length ≤ _
    rw [List.length_set]; omega
  generalize ((({ S with line := without S.line (p % (S.line.length : Int)) } : AS).setT i ⟨t.prog, t.pos + 1, 0, 2⟩).note i t.pos t.why) = S9 at *
  have hl9 := a9.len
  have hf9 := a9.few
  have hll9 : S9.line.length ≤ 256 := by omega
  rw [eE] at bd9
  have hr1 : 0 ≤ p / (S.line.length : Int) := Int.ediv_nonneg hp.1 (by omega)
  have hr2 : p / (S.line.length : Int) ≤ p := Int.ediv_le_self _ hp.1
  generalize p / (S.line.length : Int) = rest at *
  have hq9 := r9.rf.hq
  have ht9 := r9.rf.ht
  have hi9 : i < S9.tasks.length := (List.getElem?_eq_some_iff.1 hta).1
  by_cases k1 : dd.1 = 1
  · have e1 : AS.act (P.map (·.2)) S9 i rest dd = S9.ready i := by unfold AS.act; rw [if_pos k1]
    rw [e1] at hS'
    (apply vL_nil; apply seqP_normal; (iterate 2 (apply vC_seq)); apply vC_region; ((apply vL_val); (case h => ((apply opv_fieldAddr); exact rfl))); ((apply vL_val); (case h => ((apply opv_loadb1); exact rfl; exact rfl; (first | assumption | infer_instance); exact rfl))); apply vL_nil; apply seqP_normal; apply vC_block; (iterate 2 (apply vC_seq)); apply vC_region; (iterate 2 (((apply vL_val); (case h => ((apply opv_E); exact rfl))))); apply vL_nil; apply seqP_normal; (refine vC_cond_dec rfl (fun _ => ?_) (fun h => by omega)); apply vC_skip; apply seqP_normal; (refine vC_cond_dec rfl (fun _ => ?_) (fun h => by omega)); apply vC_seq; apply vC_region; (iterate 2 (((apply vL_val); (case h => ((apply opv_E); exact rfl))))))
    refine vL_callF rfl (f_ready r9.rf i hta (by omega)) rfl ?_
    rintro _ w10 ⟨vl10, q10⟩
    have bd10 := bd9.fr q10.fr nd5
    (apply vL_nil; apply seqP_normal; apply vC_seq; apply vC_region; ((apply vL_val); (case h => ((apply opv_fieldAddr); exact rfl))); ((apply vL_val); (case h => ((apply opv_loadb1); exact rfl; exact rfl; (first | assumption | infer_instance); exact rfl))); ((apply vL_val); (case h => ((apply opv_E); exact rfl))); apply vL_nil; apply seqP_normal; (refine vC_cond_dec rfl (fun h => by omega) (fun _ => ?_)); apply vC_skip; apply blockP_normal; apply seqP_normal; apply vC_seq; apply vC_region; ((apply vL_val); (case h => ((apply opv_E); exact rfl))); apply vL_nil; apply seqP_normal; apply vC_ret)
    (apply ret1; (case h1 => (first | exact norm_eq rfl | ((conv => lhs; whnf) <;> exact rfl))))
    exact .inr ⟨S', _, _, _, rfl, rfl, by rw [hS']; exact r9.trans q10⟩
  by_cases k2 : dd.1 = 2
  · have e2 : AS.act (P.map (·.2)) S9 i rest dd = S9.setT i ⟨t.prog, t.pos + 1, 0, 3⟩ := by unfold AS.act; rw [if_neg k1, if_pos k2, hta]
    rw [e2] at hS'
    (apply vL_nil; apply seqP_normal; (iterate 2 (apply vC_seq)); apply vC_region; ((apply vL_val); (case h => ((apply opv_fieldAddr); exact rfl))); ((apply vL_val); (case h => ((apply opv_loadb1); exact rfl; exact rfl; (first | assumption | infer_instance); exact rfl))); apply vL_nil; apply seqP_normal; apply vC_block; (iterate 2 (apply vC_seq)); apply vC_region; (iterate 2 (((apply vL_val); (case h => ((apply opv_E); exact rfl))))); apply vL_nil; apply seqP_normal; (refine vC_cond_dec rfl (fun h => by omega) (fun _ => ?_)); apply vC_region; (iterate 2 (((apply vL_val); (case h => ((apply opv_E); exact rfl))))); apply vL_nil; apply seqP_normal; (refine vC_cond_dec rfl (fun h => by omega) (fun _ => ?_)); apply vC_seq; apply vC_region; (iterate 2 (((apply vL_val); (case h => ((apply opv_E); exact rfl))))); apply vL_nil; apply seqP_normal; (refine vC_cond_dec rfl (fun _ => ?_) (fun h => by omega)); apply vC_region; (iterate 2 (((apply vL_val); (case h => ((apply opv_E); exact rfl))))); ((apply vL_val); (case h => ((apply opv_fieldAddr); exact rfl))); ((apply vL_val); (case h => ((apply opv_loadb1); exact rfl; exact rfl; (first | assumption | infer_instance); exact rfl))); ((apply vL_val); (case h => ((apply opv_E); exact rfl))); ((apply vL_val); (case h => ((apply opv_indexAddr); (first | exact norm_eq rfl | ((conv => lhs; whnf) <;> exact rfl)); exact rfl; (first | assumption | infer_instance); (first | omega | (simp only [List.length_map]; omega)); (first | omega | (simp only [List.length_map]; omega))))); ((apply vL_val); (case h => ((apply opv_fieldAddr); exact rfl))))
    refine vL_storeElF (enc := atE) (xs := S9.tasks) (i := ((i : Nat) : Int)) (j := 2) (x0 := ⟨t.prog, t.pos + 1, 0, 2⟩) ⟨t.prog, t.pos + 1, 0, 3⟩ rfl rfl hta rfl rfl (by decide) ht9 ?_
    intro w10 ho10 hf10
    have q10 := r9.rf.toRow hf10 ho10
    (apply vL_nil; apply blockP_normal; apply seqP_normal; apply vC_seq; apply vC_region; ((apply vL_val); (case h => ((apply opv_E); exact rfl))); apply vL_nil; apply seqP_normal; apply vC_ret)
    (apply ret1; (case h1 => (first | exact norm_eq rfl | ((conv => lhs; whnf) <;> exact rfl))))
    exact .inr ⟨S', _, _, _, rfl, rfl, by rw [hS']; exact r9.trans q10⟩
  by_cases k3 : dd.1 = 3
  · have e3 : AS.act (P.map (·.2)) S9 i rest dd = ((S9.wake dd.2.1 dd.2.2).1.note i (-2) (S9.wake dd.2.1 dd.2.2).2).ready i := by unfold AS.act; rw [if_neg k1, if_neg k2, if_pos k3]
    rw [e3] at hS'
    (apply vL_nil; apply seqP_normal; (iterate 2 (apply vC_seq)); apply vC_region; ((apply vL_val); (case h => ((apply opv_fieldAddr); exact rfl))); ((apply vL_val); (case h => ((apply opv_loadb1); exact rfl; exact rfl; (first | assumption | infer_instance); exact rfl))); apply vL_nil; apply seqP_normal; apply vC_block; (iterate 2 (apply vC_seq)); apply vC_region; (iterate 2 (((apply vL_val); (case h => ((apply opv_E); exact rfl))))); apply vL_nil; apply seqP_normal; (refine vC_cond_dec rfl (fun h => by omega) (fun _ => ?_)); apply vC_region; (iterate 2 (((apply vL_val); (case h => ((apply opv_E); exact rfl))))); apply vL_nil; apply seqP_normal; (refine vC_cond_dec rfl (fun h => by omega) (fun _ => ?_)); apply vC_seq; apply vC_region; (iterate 2 (((apply vL_val); (case h => ((apply opv_E); exact rfl))))); apply vL_nil; apply seqP_normal; (refine vC_cond_dec rfl (fun h => by omega) (fun _ => ?_)); apply vC_seq; apply vC_region; (iterate 2 (((apply vL_val); (case h => ((apply opv_E); exact rfl))))); apply vL_nil; apply seqP_normal; (refine vC_cond_dec rfl (fun _ => ?_) (fun h => by omega)); apply vC_seq; apply vC_region; (iterate 3 (((apply vL_val); (case h => ((apply opv_E); exact rfl))))); ((apply vL_val); (case h => ((apply opv_fieldAddr); exact rfl))); ((apply vL_val); (case h => ((apply opv_loadb1); exact rfl; exact rfl; (first | assumption | infer_instance); exact rfl))); ((apply vL_val); (case h => ((apply opv_fieldAddr); exact rfl))); ((apply vL_val); (case h => ((apply opv_loadb1); exact rfl; exact rfl; (first | assumption | infer_instance); exact rfl))))
    refine vL_callF rfl (f_wake r9.rf dd.2.1 dd.2.2 (by omega)) rfl ?_
    rintro _ w10 ⟨rfl, vl10, q10⟩
    replace q10 := r9.trans q10
    obtain ⟨hta10, hev10⟩ := wake_keep hta (by simp) dd.2.1 dd.2.2
    have a10 := a9.wake dd.2.1 dd.2.2
    have hll10 : (S9.wake dd.2.1 dd.2.2).1.line.length ≤ 1000000 := by
      have h1 := a10.len
      have h2 := a10.few
      omega
    have hel10 : (S9.wake dd.2.1 dd.2.2).1.ev.length ≤ 1000000 := by rw [hev10]; omega
    generalize S9.wake dd.2.1 dd.2.2 = r10 at *
    skip
    refine vL_callF rfl (f_note q10.rf i (-2) (r10.2) (by omega)) rfl ?_
    rintro _ w11 ⟨ve11, q11⟩
    have r11 := q10.trans q11
    (apply vL_nil; apply seqP_normal; apply vC_region; (iterate 2 (((apply vL_val); (case h => ((apply opv_E); exact rfl))))))
    refine vL_callF rfl (f_ready r11.rf i hta10 hll10) rfl ?_
    rintro _ w12 ⟨vl12, q12⟩
    have r12 := r11.trans q12
    (apply vL_nil; apply blockP_normal; apply seqP_normal; apply vC_seq; apply vC_region; ((apply vL_val); (case h => ((apply opv_E); exact rfl))); apply vL_nil; apply seqP_normal; apply vC_ret)
    (apply ret1; (case h1 => (first | exact norm_eq rfl | ((conv => lhs; whnf) <;> exact rfl))))
    exact .inr ⟨S', _, _, _, rfl, rfl, by rw [hS']; exact r12⟩
  by_cases k4 : dd.1 = 4
  · have e4 : AS.act (P.map (·.2)) S9 i rest dd = ((S9.spawn (pickN dd.2.1 P.length)).1.note i (-3) (S9.spawn (pickN dd.2.1 P.length)).2).ready i := by unfold AS.act; rw [if_neg k1, if_neg k2, if_neg k3, if_pos k4, List.length_map]
    rw [e4] at hS'
    have hpos := g.len
    have hpk : dd.2.1 % (P.length : Int) = ((pickN dd.2.1 P.length : Nat) : Int) := (Int.toNat_of_nonneg (Int.emod_nonneg _ (by omega))).symm
    have hE9 : ∃ a' b' c', Blk w9.drew.heap qb [vp, a', b', c'] 69 := ⟨_, _, _, inferInstance⟩
    obtain ⟨pa, pc, hvp⟩ := g.z.hP.len
    (apply vL_nil; apply seqP_normal; (iterate 2 (apply vC_seq)); apply vC_region; ((apply vL_val); (case h => ((apply opv_fieldAddr); exact rfl))); ((apply vL_val); (case h => ((apply opv_loadb1); exact rfl; exact rfl; (first | assumption | infer_instance); exact rfl))); apply vL_nil; apply seqP_normal; apply vC_block; (iterate 2 (apply vC_seq)); apply vC_region; (iterate 2 (((apply vL_val); (case h => ((apply opv_E); exact rfl))))); apply vL_nil; apply seqP_normal; (refine vC_cond_dec rfl (fun h => by omega) (fun _ => ?_)); apply vC_region; (iterate 2 (((apply vL_val); (case h => ((apply opv_E); exact rfl))))); apply vL_nil; apply seqP_normal; (refine vC_cond_dec rfl (fun h => by omega) (fun _ => ?_)); apply vC_seq; apply vC_region; (iterate 2 (((apply vL_val); (case h => ((apply opv_E); exact rfl))))); apply vL_nil; apply seqP_normal; (refine vC_cond_dec rfl (fun h => by omega) (fun _ => ?_)); apply vC_seq; apply vC_region; (iterate 2 (((apply vL_val); (case h => ((apply opv_E); exact rfl))))); apply vL_nil; apply seqP_normal; (refine vC_cond_dec rfl (fun h => by omega) (fun _ => ?_)); apply vC_seq; apply vC_region; (iterate 2 (((apply vL_val); (case h => ((apply opv_E); exact rfl))))); apply vL_nil; apply seqP_normal; (refine vC_cond_dec rfl (fun _ => ?_) (fun h => by omega)); apply vC_seq; apply vC_region; ((apply vL_val); (case h => ((apply opv_E); exact rfl))); apply vL_nil; apply seqP_normal; (iterate 2 (apply vC_seq)))
    refine vC_draw' ((fun wf => Blk wf.heap db [.int .i64 dd.1, .int .i64 dd.2.1, .int .i64 dd.2.2] 90 ∧ (∃ a' b' c', Blk wf.heap qb [vp, a', b', c'] 69))) (by (first | exact trivial | assumption | infer_instance | (refine ⟨?_, ?_⟩ <;> (first | assumption | infer_instance)) | ((repeat (first | exact Fr.refl _ _ | assumption | with_reducible apply Fr.allocSet | with_reducible apply Fr.alloc | with_reducible apply Fr.drewN | with_reducible apply Fr.drew | ((with_reducible apply Fr.set); rotate_left; (right; ((try simp only [alloc_size]); omega))) | (refine Fr.trans ?_ (by assumption)))); done))) ?_
    ((apply (tk 0)); (case hi => exact rfl); (case hf => kernel_rfl); (case hS => (first | exact trivial | assumption | infer_instance | (refine ⟨?_, ?_⟩ <;> (first | assumption | infer_instance)) | ((repeat (first | exact Fr.refl _ _ | assumption | with_reducible apply Fr.allocSet | with_reducible apply Fr.alloc | with_reducible apply Fr.drewN | with_reducible apply Fr.drew | ((with_reducible apply Fr.set); rotate_left; (right; ((try simp only [alloc_size]); omega))) | (refine Fr.trans ?_ (by assumption)))); done))); (case hy => (rintro wf ⟨hwa, hwb⟩; (((apply opv_E); exact rfl)))))
    ((apply (tk 1)); (case hi => exact rfl); (case hf => kernel_rfl); (case hS => (first | exact trivial | assumption | infer_instance | (refine ⟨?_, ?_⟩ <;> (first | assumption | infer_instance)) | ((repeat (first | exact Fr.refl _ _ | assumption | with_reducible apply Fr.allocSet | with_reducible apply Fr.alloc | with_reducible apply Fr.drewN | with_reducible apply Fr.drew | ((with_reducible apply Fr.set); rotate_left; (right; ((try simp only [alloc_size]); omega))) | (refine Fr.trans ?_ (by assumption)))); done))); (case hy => (rintro wf ⟨hwa, hwb⟩; (((apply opv_fieldAddr); exact rfl)))))
    ((apply (tk 2)); (case hi => exact rfl); (case hf => kernel_rfl); (case hS => (first | exact trivial | assumption | infer_instance | (refine ⟨?_, ?_⟩ <;> (first | assumption | infer_instance)) | ((repeat (first | exact Fr.refl _ _ | assumption | with_reducible apply Fr.allocSet | with_reducible apply Fr.alloc | with_reducible apply Fr.drewN | with_reducible apply Fr.drew | ((with_reducible apply Fr.set); rotate_left; (right; ((try simp only [alloc_size]); omega))) | (refine Fr.trans ?_ (by assumption)))); done))); (case hy => (rintro wf ⟨hwa, hwb⟩; (((apply opv_loadb1); exact rfl; exact rfl; (first | assumption | infer_instance); exact rfl)))))
    ((apply (tk 3)); (case hi => exact rfl); (case hf => kernel_rfl); (case hS => (first | exact trivial | assumption | infer_instance | (refine ⟨?_, ?_⟩ <;> (first | assumption | infer_instance)) | ((repeat (first | exact Fr.refl _ _ | assumption | with_reducible apply Fr.allocSet | with_reducible apply Fr.alloc | with_reducible apply Fr.drewN | with_reducible apply Fr.drew | ((with_reducible apply Fr.set); rotate_left; (right; ((try simp only [alloc_size]); omega))) | (refine Fr.trans ?_ (by assumption)))); done))); (case hy => (rintro wf ⟨hwa, hwb⟩; (((apply opv_E); exact rfl)))))
    ((apply (tk 4)); (case hi => exact rfl); (case hf => kernel_rfl); (case hS => (first | exact trivial | assumption | infer_instance | (refine ⟨?_, ?_⟩ <;> (first | assumption | infer_instance)) | ((repeat (first | exact Fr.refl _ _ | assumption | with_reducible apply Fr.allocSet | with_reducible apply Fr.alloc | with_reducible apply Fr.drewN | with_reducible apply Fr.drew | ((with_reducible apply Fr.set); rotate_left; (right; ((try simp only [alloc_size]); omega))) | (refine Fr.trans ?_ (by assumption)))); done))); (case hy => (rintro wf ⟨hwa, hwb⟩; (((apply opv_E); exact rfl)))))
    ((apply (tk 5)); (case hi => exact rfl); (case hf => kernel_rfl); (case hS => (first | exact trivial | assumption | infer_instance | (refine ⟨?_, ?_⟩ <;> (first | assumption | infer_instance)) | ((repeat (first | exact Fr.refl _ _ | assumption | with_reducible apply Fr.allocSet | with_reducible apply Fr.alloc | with_reducible apply Fr.drewN | with_reducible apply Fr.drew | ((with_reducible apply Fr.set); rotate_left; (right; ((try simp only [alloc_size]); omega))) | (refine Fr.trans ?_ (by assumption)))); done))); (case hy => (rintro wf ⟨hwa, hwb⟩; (((apply opv_fieldAddr); exact rfl)))))
    (apply (tk 6)); (case hi => exact rfl); (case hf => kernel_rfl); (case hS => (first | exact trivial | assumption | infer_instance | (refine ⟨?_, ?_⟩ <;> (first | assumption | infer_instance)) | ((repeat (first | exact Fr.refl _ _ | assumption | with_reducible apply Fr.allocSet | with_reducible apply Fr.alloc | with_reducible apply Fr.drewN | with_reducible apply Fr.drew | ((with_reducible apply Fr.set); rotate_left; (right; ((try simp only [alloc_size]); omega))) | (refine Fr.trans ?_ (by assumption)))); done))); (case hy => (rintro wf ⟨hwa, a', b', c', hwb⟩; (((apply opv_loadb1); exact rfl; exact rfl; (first | assumption | infer_instance); exact rfl))))
    (apply (tk 7)); (case hi => exact rfl); (case hf => kernel_rfl); (case hS => (first | exact trivial | assumption | infer_instance | (refine ⟨?_, ?_⟩ <;> (first | assumption | infer_instance)) | ((repeat (first | exact Fr.refl _ _ | assumption | with_reducible apply Fr.allocSet | with_reducible apply Fr.alloc | with_reducible apply Fr.drewN | with_reducible apply Fr.drew | ((with_reducible apply Fr.set); rotate_left; (right; ((try simp only [alloc_size]); omega))) | (refine Fr.trans ?_ (by assumption)))); done))); (case hy => (rintro wf ⟨hwa, hwb⟩; exact opv_lenc hvp))
    refine tkc 8 rfl (by kernel_rfl) (by (first | exact trivial | assumption | infer_instance | (refine ⟨?_, ?_⟩ <;> (first | assumption | infer_instance)) | ((repeat (first | exact Fr.refl _ _ | assumption | with_reducible apply Fr.allocSet | with_reducible apply Fr.alloc | with_reducible apply Fr.drewN | with_reducible apply Fr.drew | ((with_reducible apply Fr.set); rotate_left; (right; ((try simp only [alloc_size]); omega))) | (refine Fr.trans ?_ (by assumption)))); done))) rfl ((f_pick dd.2.1 P.length _ (by omega) (by omega)).mono (R' := fun u w' => w9.drew = w' ∧ u = .int .i64 ((pickN dd.2.1 P.length : Nat) : Int)) (fun u w' ⟨g1, g2⟩ => ⟨g1, by rw [g2, hpk]⟩)) rfl ?_
    rintro _ _ ⟨rfl, rfl⟩
    refine tkc 9 rfl (by kernel_rfl) (by (first | exact trivial | assumption | infer_instance | (refine ⟨?_, ?_⟩ <;> (first | assumption | infer_instance)) | ((repeat (first | exact Fr.refl _ _ | assumption | with_reducible apply Fr.allocSet | with_reducible apply Fr.alloc | with_reducible apply Fr.drewN | with_reducible apply Fr.drew | ((with_reducible apply Fr.set); rotate_left; (right; ((try simp only [alloc_size]); omega))) | (refine Fr.trans ?_ (by assumption)))); done))) rfl (f_spawn (r9.rf.frN (Fr.refl No _).drew) (pickN dd.2.1 P.length) (by omega) (by omega)) rfl ?_
    rintro _ w10 ⟨rfl, vt10, vl10, q10⟩
    have bd10 := (bd9.frN (Fr.refl No _).drew).fr q10.fr nd5
    have hE10 : ∃ a' b' c', Blk w10.heap qb [vp, a', b', c'] 69 := ⟨_, _, _, q10.rf.hq⟩
    replace q10 := r9.trans (q10.after (Fr.refl No _).drew)
    obtain ⟨hta10, hev10⟩ := spawn_keep hta (pickN dd.2.1 P.length)
    have a10 := a9.spawn (pickN dd.2.1 P.length)
    have hll10 : (S9.spawn (pickN dd.2.1 P.length)).1.line.length ≤ 1000000 := by
      have h1 := a10.len
      have h2 := a10.few
      omega
    have hel10 : (S9.spawn (pickN dd.2.1 P.length)).1.ev.length ≤ 1000000 := by rw [hev10]; omega
    have hres : (S9.spawn (pickN dd.2.1 P.length)).2 = 0 ∨ (S9.spawn (pickN dd.2.1 P.length)).2 = 5 := by
      unfold AS.spawn
      split
      · exact .inr rfl
      · exact .inl rfl
    generalize S9.spawn (pickN dd.2.1 P.length) = r10 at *
    refine vA_done (by kernel_rfl) (by (first | exact trivial | assumption | infer_instance | (refine ⟨?_, ?_⟩ <;> (first | assumption | infer_instance)) | ((repeat (first | exact Fr.refl _ _ | assumption | with_reducible apply Fr.allocSet | with_reducible apply Fr.alloc | with_reducible apply Fr.drewN | with_reducible apply Fr.drew | ((with_reducible apply Fr.set); rotate_left; (right; ((try simp only [alloc_size]); omega))) | (refine Fr.trans ?_ (by assumption)))); done))) ?_
    rcases hres with h0 | h0
    · rw [h0] at hS'
      (apply seqP_normal; (refine vC_cond_dec rfl (fun _ => ?_) (fun h => by omega)); apply vC_region; ((apply vL_val); (case h => ((apply opv_E); exact rfl))); apply vL_nil; apply seqP_normal; apply vC_seq; apply vC_region; (iterate 3 (((apply vL_val); (case h => ((apply opv_E); exact rfl))))))
      refine vL_callF rfl (f_note q10.rf i (-3) (0) (by omega)) rfl ?_
      rintro _ w11 ⟨ve11, q11⟩
      have r11 := q10.trans q11
      (apply vL_nil; apply seqP_normal; apply vC_region; (iterate 2 (((apply vL_val); (case h => ((apply opv_E); exact rfl))))))
      refine vL_callF rfl (f_ready r11.rf i hta10 hll10) rfl ?_
      rintro _ w12 ⟨vl12, q12⟩
      have r12 := r11.trans q12
      (apply vL_nil; apply blockP_normal; apply seqP_normal; apply vC_seq; apply vC_region; ((apply vL_val); (case h => ((apply opv_E); exact rfl))); apply vL_nil; apply seqP_normal; apply vC_ret)
      (apply ret1; (case h1 => (first | exact norm_eq rfl | ((conv => lhs; whnf) <;> exact rfl))))
      exact .inr ⟨S', _, _, _, rfl, rfl, by rw [hS']; exact r12⟩
    · rw [h0] at hS'
      (apply seqP_normal; (refine vC_cond_dec rfl (fun h => by omega) (fun _ => ?_)); apply vC_skip; apply seqP_normal; apply vC_seq; apply vC_region; (iterate 3 (((apply vL_val); (case h => ((apply opv_E); exact rfl))))))
      refine vL_callF rfl (f_note q10.rf i (-3) (5) (by omega)) rfl ?_
      rintro _ w11 ⟨ve11, q11⟩
      have r11 := q10.trans q11
      (apply vL_nil; apply seqP_normal; apply vC_region; (iterate 2 (((apply vL_val); (case h => ((apply opv_E); exact rfl))))))
      refine vL_callF rfl (f_ready r11.rf i hta10 hll10) rfl ?_
      rintro _ w12 ⟨vl12, q12⟩
      have r12 := r11.trans q12
      (apply vL_nil; apply blockP_normal; apply seqP_normal; apply vC_seq; apply vC_region; ((apply vL_val); (case h => ((apply opv_E); exact rfl))); apply vL_nil; apply seqP_normal; apply vC_ret)
      (apply ret1; (case h1 => (first | exact norm_eq rfl | ((conv => lhs; whnf) <;> exact rfl))))
      exact .inr ⟨S', _, _, _, rfl, rfl, by rw [hS']; exact r12⟩
  by_cases k5 : dd.1 = 5
  · have e5 : AS.act (P.map (·.2)) S9 i rest dd = (S9.ready i).note i (-1) 151 := by unfold AS.act; rw [if_neg k1, if_neg k2, if_neg k3, if_neg k4, if_pos k5]
    rw [e5] at hS'
    (apply vL_nil; apply seqP_normal; (iterate 2 (apply vC_seq)); apply vC_region; ((apply vL_val); (case h => ((apply opv_fieldAddr); exact rfl))); ((apply vL_val); (case h => ((apply opv_loadb1); exact rfl; exact rfl; (first | assumption | infer_instance); exact rfl))); apply vL_nil; apply seqP_normal; apply vC_block; (iterate 2 (apply vC_seq)); apply vC_region; (iterate 2 (((apply vL_val); (case h => ((apply opv_E); exact rfl))))); apply vL_nil; apply seqP_normal; (refine vC_cond_dec rfl (fun h => by omega) (fun _ => ?_)); apply vC_region; (iterate 2 (((apply vL_val); (case h => ((apply opv_E); exact rfl))))); apply vL_nil; apply seqP_normal; (refine vC_cond_dec rfl (fun _ => ?_) (fun h => by omega)); apply vC_seq; apply vC_region; (iterate 2 (((apply vL_val); (case h => ((apply opv_E); exact rfl))))))
    refine vL_callF rfl (f_ready r9.rf i hta (by omega)) rfl ?_
    rintro _ w10 ⟨vl10, q10⟩
    have bd10 := bd9.fr q10.fr nd5
    have hev10 : (S9.ready i).ev = S9.ev := by unfold AS.ready; rw [hta]
    (apply vL_nil; apply seqP_normal; apply vC_seq; apply vC_region; ((apply vL_val); (case h => ((apply opv_fieldAddr); exact rfl))); ((apply vL_val); (case h => ((apply opv_loadb1); exact rfl; exact rfl; (first | assumption | infer_instance); exact rfl))); ((apply vL_val); (case h => ((apply opv_E); exact rfl))); apply vL_nil; apply seqP_normal; (refine vC_cond_dec rfl (fun _ => ?_) (fun h => by omega)); apply vC_region; (iterate 2 (((apply vL_val); (case h => ((apply opv_E); exact rfl))))))
    refine vL_callF rfl (f_note q10.rf i (-1) 151 (by rw [hev10]; omega)) rfl ?_
    rintro _ w11 ⟨ve11, q11⟩
    (apply vL_nil; apply blockP_normal; apply seqP_normal; apply vC_seq; apply vC_region; ((apply vL_val); (case h => ((apply opv_E); exact rfl))); apply vL_nil; apply seqP_normal; apply vC_ret)
    (apply ret1; (case h1 => (first | exact norm_eq rfl | ((conv => lhs; whnf) <;> exact rfl))))
    exact .inr ⟨S', _, _, _, rfl, rfl, by rw [hS']; exact (r9.trans q10).trans q11⟩
  have q10 := r9
  have hta10 := hta
  have hll10 : S9.line.length ≤ 1000000 := by omega
  by_cases k6 : dd.1 = 6
  · have e6 : AS.act (P.map (·.2)) S9 i rest dd = (S9.note i (-4) (if 0 < dd.2.1 then rest % dd.2.1 else 0)).ready i := by unfold AS.act; rw [if_neg k1, if_neg k2, if_neg k3, if_neg k4, if_neg k5, if_pos k6]
    rw [e6] at hS'
    by_cases h0 : 0 < dd.2.1
    · rw [if_pos h0] at hS'
      have hm : 0 ≤ rest % dd.2.1 ∧ rest % dd.2.1 < dd.2.1 := ⟨Int.emod_nonneg _ (by omega), Int.emod_lt_of_pos _ (by omega)⟩
      (apply vL_nil; apply seqP_normal; (iterate 2 (apply vC_seq)); apply vC_region; ((apply vL_val); (case h => ((apply opv_fieldAddr); exact rfl))); ((apply vL_val); (case h => ((apply opv_loadb1); exact rfl; exact rfl; (first | assumption | infer_instance); exact rfl))); apply vL_nil; apply seqP_normal; apply vC_block; (iterate 2 (apply vC_seq)); apply vC_region; (iterate 2 (((apply vL_val); (case h => ((apply opv_E); exact rfl))))); apply vL_nil; apply seqP_normal; (refine vC_cond_dec rfl (fun h => by omega) (fun _ => ?_)); apply vC_region; (iterate 2 (((apply vL_val); (case h => ((apply opv_E); exact rfl))))); apply vL_nil; apply seqP_normal; (refine vC_cond_dec rfl (fun h => by omega) (fun _ => ?_)); apply vC_seq; apply vC_region; (iterate 2 (((apply vL_val); (case h => ((apply opv_E); exact rfl))))); apply vL_nil; apply seqP_normal; (refine vC_cond_dec rfl (fun h => by omega) (fun _ => ?_)); apply vC_seq; apply vC_region; (iterate 2 (((apply vL_val); (case h => ((apply opv_E); exact rfl))))); apply vL_nil; apply seqP_normal; (refine vC_cond_dec rfl (fun h => by omega) (fun _ => ?_)); apply vC_seq; apply vC_region; (iterate 2 (((apply vL_val); (case h => ((apply opv_E); exact rfl))))); apply vL_nil; apply seqP_normal; (refine vC_cond_dec rfl (fun h => by omega) (fun _ => ?_)); apply vC_seq; apply vC_region; (iterate 2 (((apply vL_val); (case h => ((apply opv_E); exact rfl))))); apply vL_nil; apply seqP_normal; (refine vC_cond_dec rfl (fun _ => ?_) (fun h => by omega)); apply vC_seq; apply vC_region; ((apply vL_val); (case h => ((apply opv_E); exact rfl))); apply vL_nil; apply seqP_normal; (iterate 2 (apply vC_seq)); apply vC_region; ((apply vL_val); (case h => ((apply opv_fieldAddr); exact rfl))); ((apply vL_val); (case h => ((apply opv_loadb1); exact rfl; exact rfl; (first | assumption | infer_instance); exact rfl))); ((apply vL_val); (case h => ((apply opv_E); exact rfl))); apply vL_nil; apply seqP_normal; (refine vC_cond_dec rfl (fun _ => ?_) (fun h => by omega)); apply vC_region; ((apply vL_val); (case h => ((apply opv_E); exact rfl))); ((apply vL_val); (case h => ((apply opv_fieldAddr); exact rfl))); ((apply vL_val); (case h => ((apply opv_loadb1); exact rfl; exact rfl; (first | assumption | infer_instance); exact rfl))); ((apply vL_val); (case h => ((apply opv_conv_u); exact rfl; (first | omega | (simp only [List.length_map]; omega))))); ((apply vL_val); (case h => ((apply opv_rem); exact rfl; exact rfl; (first | omega | (simp only [List.length_map]; omega)); (first | omega | (simp only [List.length_map]; omega))))); ((apply vL_val); (case h => ((apply opv_conv_i); exact rfl; (first | omega | (simp only [List.length_map]; omega))))); ((apply vL_val); (case h => ((apply opv_E); exact rfl))); apply vL_nil; apply seqP_normal; apply vC_seq; apply vC_region; (iterate 3 (((apply vL_val); (case h => ((apply opv_E); exact rfl))))))
      refine vL_callF rfl (f_note q10.rf i (-4) (rest % dd.2.1) (by omega)) rfl ?_
      rintro _ w11 ⟨ve11, q11⟩
      have r11 := q10.trans q11
      (apply vL_nil; apply seqP_normal; apply vC_region; (iterate 2 (((apply vL_val); (case h => ((apply opv_E); exact rfl))))))
      refine vL_callF rfl (f_ready r11.rf i hta10 hll10) rfl ?_
      rintro _ w12 ⟨vl12, q12⟩
      have r12 := r11.trans q12
      (apply vL_nil; apply blockP_normal; apply seqP_normal; apply vC_seq; apply vC_region; ((apply vL_val); (case h => ((apply opv_E); exact rfl))); apply vL_nil; apply seqP_normal; apply vC_ret)
      (apply ret1; (case h1 => (first | exact norm_eq rfl | ((conv => lhs; whnf) <;> exact rfl))))
      exact .inr ⟨S', _, _, _, rfl, rfl, by rw [hS']; exact r12⟩
    · rw [if_neg h0] at hS'
      (apply vL_nil; apply seqP_normal; (iterate 2 (apply vC_seq)); apply vC_region; ((apply vL_val); (case h => ((apply opv_fieldAddr); exact rfl))); ((apply vL_val); (case h => ((apply opv_loadb1); exact rfl; exact rfl; (first | assumption | infer_instance); exact rfl))); apply vL_nil; apply seqP_normal; apply vC_block; (iterate 2 (apply vC_seq)); apply vC_region; (iterate 2 (((apply vL_val); (case h => ((apply opv_E); exact rfl))))); apply vL_nil; apply seqP_normal; (refine vC_cond_dec rfl (fun h => by omega) (fun _ => ?_)); apply vC_region; (iterate 2 (((apply vL_val); (case h => ((apply opv_E); exact rfl))))); apply vL_nil; apply seqP_normal; (refine vC_cond_dec rfl (fun h => by omega) (fun _ => ?_)); apply vC_seq; apply vC_region; (iterate 2 (((apply vL_val); (case h => ((apply opv_E); exact rfl))))); apply vL_nil; apply seqP_normal; (refine vC_cond_dec rfl (fun h => by omega) (fun _ => ?_)); apply vC_seq; apply vC_region; (iterate 2 (((apply vL_val); (case h => ((apply opv_E); exact rfl))))); apply vL_nil; apply seqP_normal; (refine vC_cond_dec rfl (fun h => by omega) (fun _ => ?_)); apply vC_seq; apply vC_region; (iterate 2 (((apply vL_val); (case h => ((apply opv_E); exact rfl))))); apply vL_nil; apply seqP_normal; (refine vC_cond_dec rfl (fun h => by omega) (fun _ => ?_)); apply vC_seq; apply vC_region; (iterate 2 (((apply vL_val); (case h => ((apply opv_E); exact rfl))))); apply vL_nil; apply seqP_normal; (refine vC_cond_dec rfl (fun _ => ?_) (fun h => by omega)); apply vC_seq; apply vC_region; ((apply vL_val); (case h => ((apply opv_E); exact rfl))); apply vL_nil; apply seqP_normal; (iterate 2 (apply vC_seq)); apply vC_region; ((apply vL_val); (case h => ((apply opv_fieldAddr); exact rfl))); ((apply vL_val); (case h => ((apply opv_loadb1); exact rfl; exact rfl; (first | assumption | infer_instance); exact rfl))); ((apply vL_val); (case h => ((apply opv_E); exact rfl))); apply vL_nil; apply seqP_normal; (refine vC_cond_dec rfl (fun h => by omega) (fun _ => ?_)); apply vC_skip; apply seqP_normal; apply vC_seq; apply vC_region; (iterate 3 (((apply vL_val); (case h => ((apply opv_E); exact rfl))))))
      refine vL_callF rfl (f_note q10.rf i (-4) (0) (by omega)) rfl ?_
      rintro _ w11 ⟨ve11, q11⟩
      have r11 := q10.trans q11
      (apply vL_nil; apply seqP_normal; apply vC_region; (iterate 2 (((apply vL_val); (case h => ((apply opv_E); exact rfl))))))
      refine vL_callF rfl (f_ready r11.rf i hta10 hll10) rfl ?_
      rintro _ w12 ⟨vl12, q12⟩
      have r12 := r11.trans q12
      (apply vL_nil; apply blockP_normal; apply seqP_normal; apply vC_seq; apply vC_region; ((apply vL_val); (case h => ((apply opv_E); exact rfl))); apply vL_nil; apply seqP_normal; apply vC_ret)
      (apply ret1; (case h1 => (first | exact norm_eq rfl | ((conv => lhs; whnf) <;> exact rfl))))
      exact .inr ⟨S', _, _, _, rfl, rfl, by rw [hS']; exact r12⟩
  by_cases k7 : dd.1 = 7
  · have e7 : AS.act (P.map (·.2)) S9 i rest dd = (S9.note i (-5) 152).ready i := by unfold AS.act; rw [if_neg k1, if_neg k2, if_neg k3, if_neg k4, if_neg k5, if_neg k6, if_pos k7]
    rw [e7] at hS'
    (apply vL_nil; apply seqP_normal; (iterate 2 (apply vC_seq)); apply vC_region; ((apply vL_val); (case h => ((apply opv_fieldAddr); exact rfl))); ((apply vL_val); (case h => ((apply opv_loadb1); exact rfl; exact rfl; (first | assumption | infer_instance); exact rfl))); apply vL_nil; apply seqP_normal; apply vC_block; (iterate 2 (apply vC_seq)); apply vC_region; (iterate 2 (((apply vL_val); (case h => ((apply opv_E); exact rfl))))); apply vL_nil; apply seqP_normal; (refine vC_cond_dec rfl (fun h => by omega) (fun _ => ?_)); apply vC_region; (iterate 2 (((apply vL_val); (case h => ((apply opv_E); exact rfl))))); apply vL_nil; apply seqP_normal; (refine vC_cond_dec rfl (fun h => by omega) (fun _ => ?_)); apply vC_seq; apply vC_region; (iterate 2 (((apply vL_val); (case h => ((apply opv_E); exact rfl))))); apply vL_nil; apply seqP_normal; (refine vC_cond_dec rfl (fun h => by omega) (fun _ => ?_)); apply vC_seq; apply vC_region; (iterate 2 (((apply vL_val); (case h => ((apply opv_E); exact rfl))))); apply vL_nil; apply seqP_normal; (refine vC_cond_dec rfl (fun h => by omega) (fun _ => ?_)); apply vC_seq; apply vC_region; (iterate 2 (((apply vL_val); (case h => ((apply opv_E); exact rfl))))); apply vL_nil; apply seqP_normal; (refine vC_cond_dec rfl (fun h => by omega) (fun _ => ?_)); apply vC_seq; apply vC_region; (iterate 2 (((apply vL_val); (case h => ((apply opv_E); exact rfl))))); apply vL_nil; apply seqP_normal; (refine vC_cond_dec rfl (fun h => by omega) (fun _ => ?_)); apply vC_seq; apply vC_region; (iterate 2 (((apply vL_val); (case h => ((apply opv_E); exact rfl))))); apply vL_nil; apply seqP_normal; (refine vC_cond_dec rfl (fun _ => ?_) (fun h => by omega)); apply vC_seq; apply vC_region; (iterate 2 (((apply vL_val); (case h => ((apply opv_E); exact rfl))))))
    refine vL_callF rfl (f_note q10.rf i (-5) (152) (by omega)) rfl ?_
    rintro _ w11 ⟨ve11, q11⟩
    have r11 := q10.trans q11
    (apply vL_nil; apply seqP_normal; apply vC_region; (iterate 2 (((apply vL_val); (case h => ((apply opv_E); exact rfl))))))
    refine vL_callF rfl (f_ready r11.rf i hta10 hll10) rfl ?_
    rintro _ w12 ⟨vl12, q12⟩
    have r12 := r11.trans q12
    (apply vL_nil; apply blockP_normal; apply seqP_normal; apply vC_seq; apply vC_region; ((apply vL_val); (case h => ((apply opv_E); exact rfl))); apply vL_nil; apply seqP_normal; apply vC_ret)
    (apply ret1; (case h1 => (first | exact norm_eq rfl | ((conv => lhs; whnf) <;> exact rfl))))
    exact .inr ⟨S', _, _, _, rfl, rfl, by rw [hS']; exact r12⟩
  have e8 : AS.act (P.map (·.2)) S9 i rest dd = S9.setT i ⟨t.prog, t.pos + 1, 0, 0⟩ := by unfold AS.act; rw [if_neg k1, if_neg k2, if_neg k3, if_neg k4, if_neg k5, if_neg k6, if_neg k7, hta]
  rw [e8] at hS'
  (apply vL_nil; apply seqP_normal; (iterate 2 (apply vC_seq)); apply vC_region; ((apply vL_val); (case h => ((apply opv_fieldAddr); exact rfl))); ((apply vL_val); (case h => ((apply opv_loadb1); exact rfl; exact rfl; (first | assumption | infer_instance); exact rfl))); apply vL_nil; apply seqP_normal; apply vC_block; (iterate 2 (apply vC_seq)); apply vC_region; (iterate 2 (((apply vL_val); (case h => ((apply opv_E); exact rfl))))); apply vL_nil; apply seqP_normal; (refine vC_cond_dec rfl (fun h => by omega) (fun _ => ?_)); apply vC_region; (iterate 2 (((apply vL_val); (case h => ((apply opv_E); exact rfl))))); apply vL_nil; apply seqP_normal; (refine vC_cond_dec rfl (fun h => by omega) (fun _ => ?_)); apply vC_seq; apply vC_region; (iterate 2 (((apply vL_val); (case h => ((apply opv_E); exact rfl))))); apply vL_nil; apply seqP_normal; (refine vC_cond_dec rfl (fun h => by omega) (fun _ => ?_)); apply vC_seq; apply vC_region; (iterate 2 (((apply vL_val); (case h => ((apply opv_E); exact rfl))))); apply vL_nil; apply seqP_normal; (refine vC_cond_dec rfl (fun h => by omega) (fun _ => ?_)); apply vC_seq; apply vC_region; (iterate 2 (((apply vL_val); (case h => ((apply opv_E); exact rfl))))); apply vL_nil; apply seqP_normal; (refine vC_cond_dec rfl (fun h => by omega) (fun _ => ?_)); apply vC_seq; apply vC_region; (iterate 2 (((apply vL_val); (case h => ((apply opv_E); exact rfl))))); apply vL_nil; apply seqP_normal; (refine vC_cond_dec rfl (fun h => by omega) (fun _ => ?_)); apply vC_seq; apply vC_region; (iterate 2 (((apply vL_val); (case h => ((apply opv_E); exact rfl))))); apply vL_nil; apply seqP_normal; (refine vC_cond_dec rfl (fun h => by omega) (fun _ => ?_)); apply vC_region; (iterate 2 (((apply vL_val); (case h => ((apply opv_E); exact rfl))))); ((apply vL_val); (case h => ((apply opv_fieldAddr); exact rfl))); ((apply vL_val); (case h => ((apply opv_loadb1); exact rfl; exact rfl; (first | assumption | infer_instance); exact rfl))); ((apply vL_val); (case h => ((apply opv_E); exact rfl))); ((apply vL_val); (case h => ((apply opv_indexAddr); (first | exact norm_eq rfl | ((conv => lhs; whnf) <;> exact rfl)); exact rfl; (first | assumption | infer_instance); (first | omega | (simp only [List.length_map]; omega)); (first | omega | (simp only [List.length_map]; omega))))); ((apply vL_val); (case h => ((apply opv_fieldAddr); exact rfl))))
  refine vL_storeElF (enc := atE) (xs := S9.tasks) (i := ((i : Nat) : Int)) (j := 2) (x0 := ⟨t.prog, t.pos + 1, 0, 2⟩) ⟨t.prog, t.pos + 1, 0, 0⟩ rfl rfl hta rfl rfl (by decide) ht9 ?_
  intro w11 ho11 hf11
  have q11 := r9.rf.toRow hf11 ho11
  (apply vL_nil; apply blockP_normal; apply seqP_normal; apply vC_seq; apply vC_region; ((apply vL_val); (case h => ((apply opv_E); exact rfl))); apply vL_nil; apply seqP_normal; apply vC_ret)
  (apply ret1; (case h1 => (first | exact norm_eq rfl | ((conv => lhs; whnf) <;> exact rfl))))
  exact .inr ⟨S', _, _, _, rfl, rfl, by rw [hS']; exact r9.trans q11⟩
end Go.Proofs.Ytaeckjhipmcddaa

set_option maxRecDepth 100000
namespace Go.Proofs.Ytaeckjhipmcddaa
open Go Go.Eng
theorem r_new (w : World) : Rets Try.prog 23 #[] w fun u w' => ∃ rb sb qb lv, u = pt rb ∧ Fr No w w' ∧ w.heap.size ≤ rb ∧ Rt (fun k => k < w.heap.size) w' rb sb qb lv (.slice none 0 0) none 0 [] [] := by
  refine rets_of Try.func23 rfl Try.ntmps23 rfl rfl (by kernel_rfl) ?_
  (apply vC_seq; apply vC_region; ((apply vL_val); (case h => ((apply opv_E); exact rfl))); apply vL_nil; apply seqP_normal; apply vC_seq; apply vC_region)
  refine vL_callF rfl (s_new w) rfl ?_
  rintro _ w1 ⟨sb, qb, lv, rfl, s⟩
  (((apply vL_val); (case h => ((apply opv_buildS); exact rfl; (first | exact (rfl : _ = some []) | exact (rfl : _ = some [_]) | exact (rfl : _ = some [_, _]) | exact (rfl : _ = some [_, _, _]) | exact (rfl : _ = some [_, _, _, _]) | exact (rfl : _ = some [_, _, _, _, _]) | exact (rfl : _ = some [_, _, _, _, _, _]) | exact (rfl : _ = some [_, _, _, _, _, _, _]) | exact (rfl : _ = some [_, _, _, _, _, _, _, _]) | exact (rfl : _ = some [_, _, _, _, _, _, _, _, _]) | exact (rfl : _ = some [_, _, _, _, _, _, _, _, _, _]) | exact (rfl : _ = some [_, _, _, _, _, _, _, _, _, _, _]) | exact (rfl : _ = some [_, _, _, _, _, _, _, _, _, _, _, _]) | exact (rfl : _ = some [_, _, _, _, _, _, _, _, _, _, _, _, _]) | exact (rfl : _ = some [_, _, _, _, _, _, _, _, _, _, _, _, _, _]) | exact (rfl : _ = some [_, _, _, _, _, _, _, _, _, _, _, _, _, _, _]) | exact (rfl : _ = some [_, _, _, _, _, _, _, _, _, _, _, _, _, _, _, _]))))); ((apply vL_val); (case h => ((apply opw_boxn); exact rfl))); ((apply vL_val); (case h => ((apply opv_E); exact rfl))); apply vL_nil; apply seqP_normal; apply vC_ret)
  (apply ret1; (case h1 => (first | exact norm_eq rfl | ((conv => lhs; whnf) <;> exact rfl))))
  refine ⟨w1.heap.size, sb, qb, lv, rfl, s.fr.alloc _, s.fr.size, ⟨Blk.as (inferInstance : Blk (w1.alloc _).heap w1.heap.size _ _) rfl, s.sc.frN ((Fr.refl No w1).alloc _), Own.nil _ _ _ _, fun i x hx => by simp at hx, rfl, fun b hb => (by cases hb), fun k hk => ?_, fun k hk => ?_⟩⟩
  · have := s.fr.size; rw [alloc_size]; omega
  · have h1 := s.fr.size
    have h2 := s.fs
    have h3 := s.fb
    rcases hk with rfl | rfl | rfl | h | h | ⟨x, hx, _⟩
    · omega
    · omega
    · omega
    · have := s.fl k h; omega
    · cases h
    · simp at hx
section
variable {X K K' : Nat → Prop} {w w1 w' : World} {wb rb : Nat} {vp : Value} {S S' : AS}
theorem Wq.init {Z : Nat → Prop} {sb qb : Nat} {lv : Value} (R : Rt Z w1 rb sb qb lv (.slice none 0 0) none 0 [] []) (hf : Fr No w1 w) (hw : Blk w.heap wb [pt rb, vp, .slice none 0 0, .slice none 0 0] 60) (hwb : w1.heap.size ≤ wb) (hX : ∀ k, X k → k < w.heap.size ∧ (Z k ∨ w1.heap.size ≤ k) ∧ k ≠ wb) (op : vp.oneCell' = true) : Wq X (fun _ => False) w wb rb vp ⟨[], [], []⟩ := by
  refine ⟨0, [], sb, qb, lv, .slice none 0 0, .slice none 0 0, .slice none 0 0, ⟨hw, Own.nil _ _ _ _, Own.nil _ _ _ _, R.fr hf.no_any (fun k hk => ?_), rfl, rfl, op, fun k hk => ?_⟩, rfl, fun i x a _ hx => by simp at hx⟩
  · rcases hk with h | h | rfl | h | h
    · exact ⟨(hX k h).1, (hX k h).2.1⟩
    · exact h.elim
    · exact ⟨hw.lt, .inr hwb⟩
    · cases h
    · cases h
  · rcases hk with rfl | h | h
    · exact ⟨fun h => (hX _ h).2.2 rfl, fun h => h⟩
    · cases h
    · cases h
/-- what can be seen of it -/
theorem Wq.see (W : Wq X K w wb rb vp S) : ∃ wt we bs, Blk w.heap wb [pt rb, vp, wt, we] 60 ∧ Own w.heap 64 1 ptE wt bs ∧ Own w.heap 62 3 eE we S.ev ∧ wt.oneCell' = true ∧ we.oneCell' = true ∧ vp.oneCell' = true ∧ bs.length = S.tasks.length ∧ ∀ (i : Nat) b a, bs[i]? = some b → S.tasks[i]? = some a → ∃ x : TK, Blk w.heap b (tkL rb i x) 75 ∧ x.over = decide (a.st = 0) := by
  obtain ⟨rest, ts, sb, qb, lv, tv, wt, we, L, T⟩ := W
  refine ⟨wt, we, ts.map (·.1), L.hw, L.hwt, L.hev, L.ow, L.oe, L.op, by rw [List.length_map]; exact T.1, fun i b a hb ha => ?_⟩
  rw [List.getElem?_map] at hb
  cases hx : ts[i]? with
  | none => rw [hx] at hb; cases hb
  | some x =>
    rw [hx] at hb
    cases hb
    exact ⟨x.2, L.rt.tk i x hx, (T.2 i x a (by simp) hx ha).over⟩
theorem Wq.rlt (W : Wq X K w wb rb vp S) : ∃ c T, Blk w.heap rb c T := by
  obtain ⟨rest, ts, sb, qb, lv, tv, wt, we, L, T⟩ := W
  exact ⟨_, _, L.rt.hr⟩
theorem Wq.frN (W : Wq X K w wb rb vp S) (hf : Fr No w w') : Wq X K w' wb rb vp S := by
  obtain ⟨rest, ts, sb, qb, lv, tv, wt, we, L, T⟩ := W
  exact ⟨rest, ts, sb, qb, lv, tv, wt, we, L.frN hf, T.fr hf (fun _ _ h => h) (fun _ h => h)⟩
theorem Wq.other {X' : Nat → Prop} (W : Wq X K w wb rb vp S) {F : Nat → Prop} (hf : Fr F w w') (hFX : ∀ k, F k → X k) (hK : ∀ k, K k → ¬ F k) (hX : ∀ k, X' k → k < w'.heap.size ∧ (X k ∨ w.heap.size ≤ k)) : Wq X' K w' wb rb vp S := by
  obtain ⟨rest, ts, sb, qb, lv, tv, wt, we, L, T⟩ := W
  exact ⟨rest, ts, sb, qb, lv, tv, wt, we, L.other (hf.mono (fun k _ h => hFX k h)) hX, T.fr hf hK (fun _ h => h)⟩
theorem Wq.klt (W : Wq X K w wb rb vp S) : ∀ k, X k ∨ K k → k < w.heap.size := by
  obtain ⟨rest, ts, sb, qb, lv, tv, wt, we, L, T⟩ := W
  exact fun k hk => L.rt.zs k (hk.imp id .inl)
theorem wq_spawn (W : Wq X K w wb rb vp S) (a : AOkR S none) (hlt : S.tasks.length ≤ 1000000) (pg : Nat) :
    Rets Try.prog 24 #[pt wb, .int .i64 pg] w fun u w' => u = .int .i64 (S.spawn pg).2 ∧ ∃ K', Wq X K' w' wb rb vp (S.spawn pg).1 ∧ KX w K K' ∧ Fr (LF X K) w w' := by
  obtain ⟨rest, ts, sb, qb, lv, tv, wt, we, L, T⟩ := W
  have hlen := a.len
  have hfew := a.few
  have hopen := open_eq T (fun i x b hi => by cases hi)
  refine (w_spawn L T pg (by omega) (by rw [T.1]; exact hlt) (fun i hi => by cases hi)).mono fun u w' h => ?_
  rw [hopen] at h
  unfold AS.spawn
  rcases h with ⟨h1, rfl, hf⟩ | ⟨h1, rfl, K', lv', tv', wt', y, L', T', hK, F⟩
  · rw [if_pos (by omega)]
    exact ⟨rfl, K, ⟨rest, ts, sb, qb, lv, tv, wt, we, L.frN hf, T.fr hf (fun _ _ h => h) (fun _ h => h)⟩, KX.refl _ _, hf.no_any⟩
  · rw [if_neg (by omega)]
    have hni : ((S.tasks.length : Nat) : Int) ∉ S.line := fun h => by
      obtain ⟨u, hu, _⟩ := (a.rdy _).1 h
      have := (List.getElem?_eq_some_iff.1 hu).1
      omega
    rw [T.1, readyL_push hni (by omega)] at L'
    exact ⟨rfl, K', ⟨rest, ts ++ [y], sb, qb, lv', tv', wt', we, L', T'⟩, hK, F⟩
theorem wq_ready (W : Wq X K w wb rb vp S) (a : AOkR S none) : Rets Try.prog 27 #[pt rb] w fun u w' => Fr No w w' ∧ Own w'.heap 3 1 iE u S.line ∧ u.oneCell' = true ∧ ∀ b, own u = some b → w.heap.size ≤ b := by
  obtain ⟨rest, ts, sb, qb, lv, tv, wt, we, L, T⟩ := W
  have hlen := a.len
  have hfew := a.few
  exact (r_ready L.rt (by omega)).mono fun u w' ⟨h1, h2, h3, h4⟩ => ⟨h1, h2, h4, h3⟩
theorem parked_eq {h : Array Obj} {ts : List (Nat × TK)} {al : List AT} (T : TsOk h K wb none ts al) : parkedIn ts ts.length = parkedA al al.length := by
  unfold parkedIn parkedA
  rw [T.1]
  congr 1
  apply List.filter_congr
  intro i hi
  have hi' : i < al.length := by simpa using hi
  have h1 : ts[i]? = some (ts[i]'(by rw [T.1]; exact hi')) := List.getElem?_eq_getElem _
  have h2 : al[i]? = some al[i] := List.getElem?_eq_getElem hi'
  rw [h1, h2]
  exact (T.2 i _ _ (by simp) h1 h2).parked
theorem wq_parked (W : Wq X K w wb rb vp S) (hl : S.tasks.length ≤ 1000000) : Rets Try.prog 28 #[pt rb] w fun u w' => Fr No w w' ∧ Own w'.heap 3 1 iE u (parkedA S.tasks S.tasks.length) ∧ u.oneCell' = true ∧ ∀ b, own u = some b → w.heap.size ≤ b := by
  obtain ⟨rest, ts, sb, qb, lv, tv, wt, we, L, T⟩ := W
  refine (r_parked L.rt (by rw [T.1]; exact hl)).mono fun u w' ⟨h1, h2, h3, h4⟩ => ⟨h1, ?_, h4, h3⟩
  rw [parked_eq T] at h2
  exact h2
end
def XF (w0 : World) (qb : Nat) (vt vl ve : Value) (k : Nat) : Prop := k < w0.heap.size ∨ RfB qb vt vl ve k
theorem Pz.mono {X X' : Nat → Prop} {h : Array Obj} {vp : Value} {P : List (OV × List (Int × Int × Int))} (z : Pz X h vp P) (hx : ∀ k, X k → X' k) : Pz X' h vp P := ⟨z.hP, z.hPi, fun b h1 h2 => hx b (z.xp b h1 h2), fun y hy b h1 h2 => hx b (z.xi y hy b h1 h2)⟩
theorem Pg.mono {X X' : Nat → Prop} {h : Array Obj} {vp : Value} {P : List (OV × List (Int × Int × Int))} (g : Pg X h vp P) (hx : ∀ k, X k → X' k) : Pg X' h vp P := ⟨g.z.mono hx, g.hPb, g.len⟩
/-- both worlds; w0: where the law began -/
structure J (w0 w : World) (wb rb qb : Nat) (vp vt vl ve : Value) (K : Nat → Prop) (P : List (OV × List (Int × Int × Int))) (n : Nat) (S1 S2 : AS) : Prop where
  W : Wq (XF w0 qb vt vl ve) K w wb rb vp S1
  F : Rf w qb vp vt vl ve S2
  fresh : ∀ k, RfB qb vt vl ve k → w0.heap.size ≤ k
  dis : ∀ k, K k → ¬ RfB qb vt vl ve k
  G : Pg (fun k => k < w0.heap.size) w.heap vp P
  a1 : AOkR S1 none
  a2 : AOkR S2 none
  b1 : AIn P.length n S1
  b2 : AIn P.length n S2
  fr : Fr No w0 w
section
variable {w0 w w' : World} {wb rb qb : Nat} {vp vt vl ve vt' vl' ve' : Value} {K K' : Nat → Prop} {P : List (OV × List (Int × Int × Int))} {n m : Nat} {S1 S2 S' : AS}
theorem J.frN (j : J w0 w wb rb qb vp vt vl ve K P n S1 S2) (hf : Fr No w w') : J w0 w' wb rb qb vp vt vl ve K P n S1 S2 :=
  ⟨j.W.frN hf, j.F.frN hf, j.fresh, j.dis, j.G.frN hf, j.a1, j.a2, j.b1, j.b2, j.fr.trans hf⟩
theorem J.blk (j : J w0 w wb rb qb vp vt vl ve K P n S1 S2) : ∃ a b, Blk w.heap wb [pt rb, vp, a, b] 60 := by
  obtain ⟨wt, we, bs, h, _⟩ := j.W.see
  exact ⟨wt, we, h⟩
theorem J.mono (j : J w0 w wb rb qb vp vt vl ve K P n S1 S2) (h : n ≤ m) : J w0 w wb rb qb vp vt vl ve K P m S1 S2 := ⟨j.W, j.F, j.fresh, j.dis, j.G, j.a1, j.a2, j.b1.mono h, j.b2.mono h, j.fr⟩
theorem J.lawTo (j : J w0 w wb rb qb vp vt vl ve K P n S1 S2) (W : Wq (XF w0 qb vt vl ve) K' w' wb rb vp S') (hK : KX w K K') (F : Fr (LF (XF w0 qb vt vl ve) K) w w') (a : AOkR S' none) (b : AIn P.length m S') (hm : n ≤ m) : J w0 w' wb rb qb vp vt vl ve K' P m S' S2 :=
  ⟨W, j.F.fr F (fun k hk h => h.1 (.inr hk)), j.fresh, fun k hk hr => by
    rcases hK.2 k hk with h | h
    · exact j.dis k h hr
    · have := j.F.lt k hr; omega, j.G.frF F (fun k hk h => h.1 (.inl hk)), a, j.a2, b, j.b2.mono hm, j.fr.trans' F (fun k hk => .inr (Nat.le_of_not_lt (fun h => hk.1 (.inl h))))⟩
theorem J.refTo (j : J w0 w wb rb qb vp vt vl ve K P n S1 S2) (r : RfTo w w' qb vp vt vl ve vt' vl' ve' S') (a : AOkR S' none) (b : AIn P.length m S') (hm : n ≤ m) : J w0 w' wb rb qb vp vt' vl' ve' K P m S1 S' := by
  have hs := j.fr.size
  have hfr : ∀ k, RfB qb vt' vl' ve' k → w0.heap.size ≤ k := fun k hk => by
    rcases r.fl k hk with h | h
    · exact j.fresh k h
    · omega
  refine ⟨j.W.other r.fr (fun k hk => .inr hk) (fun k hk => j.dis k hk) (fun k hk => ?_), r.rf, hfr, fun k hk hr => ?_, j.G.frF r.fr (fun k hk h => by have := j.fresh k h; omega), j.a1, a, j.b1.mono hm, b, j.fr.trans' r.fr (fun k hk => .inr (j.fresh k hk))⟩
  · rcases hk with h | h
    · exact ⟨by have := r.fr.size; omega, .inl (.inl h)⟩
    · refine ⟨r.rf.lt k h, (r.fl k h).imp .inr id⟩
  · rcases r.fl k hr with h | h
    · exact j.dis k hk h
    · have := j.W.klt k (.inr hk); omega
theorem J.step (j : J w0 w wb rb qb vp vt vl ve K P n S1 S2) (hn : n ≤ 9999) (p : Int) (hp : 0 ≤ p ∧ p ≤ 18446744073709551615) :
    Rets Try.prog 26 #[pt rb, .int .u64 p] w fun u w' => (S1.step (P.map (·.2)) p = none ∧ u = .bool false ∧ w = w') ∨
      ∃ S' K', S1.step (P.map (·.2)) p = some S' ∧ u = .bool true ∧ J w0 w' wb rb qb vp vt vl ve K' P (n + 1) S' S2 :=
  (w_step (j.G.mono (fun k hk => .inl hk)) j.W j.a1 j.b1 (by omega) p hp).mono fun u w' h => h.imp id fun ⟨S', K', h1, h2, h3, h4, h5⟩ =>
    ⟨S', K', h1, h2, j.lawTo h3 h4 h5 (step_ok h1 j.a1) (by have := step_in h1 j.a1 (by rw [List.length_map]; exact j.b1); rwa [List.length_map] at this) (Nat.le_succ _)⟩
theorem J.ref (j : J w0 w wb rb qb vp vt vl ve K P n S1 S2) (hn : n ≤ 9999) (p : Int) (hp : 0 ≤ p ∧ p ≤ 18446744073709551615) :
    Rets Try.prog 31 #[pt qb, .int .u64 p] w fun u w' => (S2.step (P.map (·.2)) p = none ∧ u = .bool false ∧ J w0 w' wb rb qb vp vt vl ve K P n S1 S2) ∨
      ∃ S' vt' vl' ve', S2.step (P.map (·.2)) p = some S' ∧ u = .bool true ∧ J w0 w' wb rb qb vp vt' vl' ve' K P (n + 1) S1 S' :=
  (f_step j.F j.G (fun k hk h => by have := j.fresh k h; omega) j.a2 j.b2 (by omega) p hp).mono fun u w' h => by
    rcases h with ⟨h1, h2, r⟩ | ⟨S', vt', vl', ve', h1, h2, r⟩
    · exact .inl ⟨h1, h2, j.refTo r j.a2 j.b2 (Nat.le_refl _)⟩
    · exact .inr ⟨S', vt', vl', ve', h1, h2, j.refTo r (step_ok h1 j.a2) (by have := step_in h1 j.a2 (by rw [List.length_map]; exact j.b2); rwa [List.length_map] at this) (Nat.le_succ _)⟩
theorem J.spawn (j : J w0 w wb rb qb vp vt vl ve K P n S1 S2) (hn : n ≤ 9999) (ht : S1.tasks.length < 6) {pg : Nat} (hp : pg < P.length) :
    Rets Try.prog 24 #[pt wb, .int .i64 pg] w fun u w' => u = .int .i64 (S1.spawn pg).2 ∧ ∃ K', J w0 w' wb rb qb vp vt vl ve K' P n (S1.spawn pg).1 S2 :=
  (wq_spawn j.W j.a1 (by omega) pg).mono fun u w' ⟨h1, K', h2, h3, h4⟩ => by
    obtain ⟨e1, e2, e3⟩ := j.b1.spawned hp
    exact ⟨h1, K', j.lawTo h2 h3 h4 (j.a1.spawn pg) ⟨by rw [e1]; exact j.b1.ev, by omega, e3⟩ (Nat.le_refl _)⟩
theorem J.rspawn (j : J w0 w wb rb qb vp vt vl ve K P n S1 S2) (hn : n ≤ 9999) (ht : S2.tasks.length < 6) {pg : Nat} (hp : pg < P.length) :
    Rets Try.prog 30 #[pt qb, .int .i64 pg] w fun u w' => u = .bool (decide ((S2.spawn pg).2 = 0)) ∧ ∃ vt' vl', J w0 w' wb rb qb vp vt' vl' ve K P n S1 (S2.spawn pg).1 := by
  have h1 := j.a2.len
  have h2 := j.a2.few
  exact (f_spawn j.F pg (by omega) (by omega)).mono fun u w' ⟨h1, vt', vl', r⟩ => by
    obtain ⟨e1, e2, e3⟩ := j.b2.spawned hp
    exact ⟨h1, vt', vl', j.refTo r (j.a2.spawn pg) ⟨by rw [e1]; exact j.b2.ev, by omega, e3⟩ (Nat.le_refl _)⟩
end
theorem wq_wake {X K : Nat → Prop} {w : World} {wb rb : Nat} {vp : Value} {S : AS} {wt we : Value} {bs : List Nat} {j bb : Nat} {b : AT} (W : Wq X K w wb rb vp S) (a : AOkR S none) (hw : Blk w.heap wb [pt rb, vp, wt, we] 60) (ho : Own w.heap 64 1 ptE wt bs) (hj : bs[j]? = some bb) (hb : S.tasks[j]? = some b) (why : Int) :
    Rets Try.prog 47 #[pt bb, .int .i64 why] w fun u w' => u = .int .i64 (S.wake j why).2 ∧ ∃ K', Wq X K' w' wb rb vp (S.wake j why).1 ∧ KX w K K' ∧ Fr (LF X K) w w' := by
  obtain ⟨rest, ts, sb, qb, lv, tv, wt', we', L, T⟩ := W
  have h1 := (hw.inj L.hw).1
  simp only [List.cons.injEq, true_and, and_true] at h1
  obtain ⟨rfl, rfl⟩ := h1
  have hlen : bs.length = (ts.map (·.1)).length := by
    obtain ⟨a1, c1, e1⟩ := ho.rd.len
    obtain ⟨a2, c2, e2⟩ := L.hwt.rd.len
    rw [e1] at e2
    simp only [Value.slice.injEq] at e2
    exact e2.2.1
  have hjl := (List.getElem?_eq_some_iff.1 hj).1
  rw [hlen, List.length_map] at hjl
  have hy : ts[j]? = some ts[j] := List.getElem?_eq_getElem hjl
  have hm : (ts.map (·.1))[j]? = some ts[j].1 := by rw [List.getElem?_map, hy]; rfl
  have c1 := ho.rd.cells j bb hj 0 (pt bb) rfl
  have c2 := L.hwt.rd.cells j ts[j].1 hm 0 (pt ts[j].1) rfl
  have h2 : bb = ts[j].1 := by
    have h3 := c1.get
    rw [c2.get] at h3
    cases h3; rfl
  subst h2
  have k := T.2 j _ b (by simp) hy hb
  exact (w_wake hy hb why L T a k.parked k.over).mono fun u w' ⟨hu, K', lv', ts', L', T', hK, F, _, _⟩ => ⟨hu, K', ⟨rest, ts', sb, qb, lv', tv, wt, we, L', T'⟩, hK, F⟩
/-- the law's world alone -/
structure Jw (X : Nat → Prop) (w0 w : World) (wb rb : Nat) (vp : Value) (K : Nat → Prop) (P : List (OV × List (Int × Int × Int))) (n : Nat) (S : AS) : Prop where
  W : Wq X K w wb rb vp S
  G : Pg X w.heap vp P
  a : AOkR S none
  b : AIn P.length n S
  fr : Fr No w0 w
  hX : ∀ k, k < w0.heap.size → X k
section
variable {X K K' : Nat → Prop} {w0 w w' : World} {wb rb : Nat} {vp : Value} {P : List (OV × List (Int × Int × Int))} {n m : Nat} {S S' : AS}
theorem Jw.frN (j : Jw X w0 w wb rb vp K P n S) (hf : Fr No w w') : Jw X w0 w' wb rb vp K P n S := ⟨j.W.frN hf, j.G.frN hf, j.a, j.b, j.fr.trans hf, j.hX⟩
theorem Jw.to (j : Jw X w0 w wb rb vp K P n S) (W : Wq X K' w' wb rb vp S') (F : Fr (LF X K) w w') (a : AOkR S' none) (b : AIn P.length m S') : Jw X w0 w' wb rb vp K' P m S' :=
  ⟨W, j.G.fr F, a, b, j.fr.trans' F (fun k hk => .inr (Nat.le_of_not_lt (fun h => hk.1 (j.hX k h)))), j.hX⟩
theorem Jw.step (j : Jw X w0 w wb rb vp K P n S) (hn : n ≤ 9999) (p : Int) (hp : 0 ≤ p ∧ p ≤ 18446744073709551615) :
    Rets Try.prog 26 #[pt rb, .int .u64 p] w fun u w' => (S.step (P.map (·.2)) p = none ∧ u = .bool false ∧ w = w') ∨
      ∃ S' K', S.step (P.map (·.2)) p = some S' ∧ u = .bool true ∧ Jw X w0 w' wb rb vp K' P (n + 1) S' :=
  (w_step j.G j.W j.a j.b (by omega) p hp).mono fun u w' h => h.imp id fun ⟨S', K', h1, h2, h3, h4, h5⟩ =>
    ⟨S', K', h1, h2, j.to h3 h5 (step_ok h1 j.a) (by have := step_in h1 j.a (by rw [List.length_map]; exact j.b); rwa [List.length_map] at this)⟩
theorem Jw.spawn (j : Jw X w0 w wb rb vp K P n S) (hn : n ≤ 9999) (ht : S.tasks.length < 6) {pg : Nat} (hp : pg < P.length) :
    Rets Try.prog 24 #[pt wb, .int .i64 pg] w fun u w' => u = .int .i64 (S.spawn pg).2 ∧ ∃ K', Jw X w0 w' wb rb vp K' P n (S.spawn pg).1 :=
  (wq_spawn j.W j.a (by omega) pg).mono fun u w' ⟨h1, K', h2, h3, h4⟩ => by
    obtain ⟨e1, e2, e3⟩ := j.b.spawned hp
    exact ⟨h1, K', j.to h2 h4 (j.a.spawn pg) ⟨by rw [e1]; exact j.b.ev, by omega, e3⟩⟩
theorem Jw.wake {wt we : Value} {bs : List Nat} {i bb : Nat} {b : AT} (j : Jw X w0 w wb rb vp K P n S) (hw : Blk w.heap wb [pt rb, vp, wt, we] 60) (ho : Own w.heap 64 1 ptE wt bs) (hj : bs[i]? = some bb) (hb : S.tasks[i]? = some b) (why : Int) :
    Rets Try.prog 47 #[pt bb, .int .i64 why] w fun u w' => u = .int .i64 (S.wake i why).2 ∧ ∃ K', Jw X w0 w' wb rb vp K' P n (S.wake i why).1 :=
  (wq_wake j.W j.a hw ho hj hb why).mono fun u w' ⟨h1, K', h2, h3, h4⟩ => by
    obtain ⟨e1, e2, e3⟩ := wake_tp j.b.tp i why
    exact ⟨h1, K', j.to h2 h4 (j.a.wake i why) ⟨by rw [e3]; exact j.b.ev, by rw [e2]; exact j.b.tl, e1⟩⟩
end
theorem AOkR.init : AOkR ⟨[], [], []⟩ none := ⟨List.nodup_nil, fun i => by simp, by simp, by decide, by simp, fun i hi => by cases hi⟩
theorem AIn.init (np : Nat) : AIn np 0 ⟨[], [], []⟩ := ⟨by simp, by simp, by simp⟩
/-- the first k programs have a task each -/
def spN : Nat → AS
  | 0 => ⟨[], [], []⟩
  | k + 1 => ((spN k).spawn k).1
theorem openA_le (l : List AT) : openA l ≤ l.length := List.length_filter_le _ _
theorem spN_len : ∀ k, (spN k).tasks.length ≤ k
  | 0 => Nat.le_refl _
  | k + 1 => by
    have := spN_len k
    unfold spN AS.spawn
    split
    · exact Nat.le_succ_of_le this
    · simp; omega
theorem spN_ok {k : Nat} (h : k ≤ 200) : ((spN k).spawn k).2 = 0 := by
  have h1 := spN_len k
  have h2 := openA_le (spN k).tasks
  unfold AS.spawn
  rw [if_neg (by omega)]
end Go.Proofs.Ytaeckjhipmcddaa
