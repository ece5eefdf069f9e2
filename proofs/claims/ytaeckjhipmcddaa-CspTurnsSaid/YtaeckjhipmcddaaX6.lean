/- Layer 15: the law CspTurns.
Layer 15: the law CspTurns, the walk. -/
import Derived.Test.YtaeckjhipmcddaaX5
import Derived.Test.YtaeckjhipmcddaaEt
import Derived.Test.YtaeckjhipmcddaaDk
import Derived.Test.YtaeckjhipmcddaaEm
set_option maxRecDepth 100000
namespace Go.Proofs.Ytaeckjhipmcddaa
open Go Go.Eng
section
variable {P : Program} {n : Nat} {e : Env} {w : World} {Q : Post}
/-- ways that meet, one slot's value told by R -/
theorem vC_meetV {x : Code} (mm s : Nat) (R : Value → World → Prop) (h : vC P n x e w (fun r e' w' => r = .normal ∧ Same mm e e' ∧ R (e' s) w')) (k : ∀ junk v w', R v w' → Q .normal (upd (mask mm junk e) s v) w') : vC P n x e w Q :=
  vC_mono h fun r e' w' hx => by
    obtain ⟨rfl, hs, hR⟩ := hx
    have := k e' _ w' hR
    rw [mask_same mm e e' hs] at this
    rwa [upd_self _ _ _ rfl] at this
end
theorem Wq.initZ {X : Nat → Prop} {w w1 : World} {wb rb : Nat} {vp : Value} {Z : Nat → Prop} {sb qb : Nat} {lv : Value} (R : Rt Z w1 rb sb qb lv (.slice none 0 0) none 0 [] []) (hf : Fr Z w1 w) (hw : Blk w.heap wb [pt rb, vp, .slice none 0 0, .slice none 0 0] 60) (hwb : w1.heap.size ≤ wb) (hX : ∀ k, X k → k < w.heap.size ∧ (Z k ∨ w1.heap.size ≤ k) ∧ k ≠ wb) (op : vp.oneCell' = true) : Wq X (fun _ => False) w wb rb vp ⟨[], [], []⟩ := by
  refine ⟨0, [], sb, qb, lv, .slice none 0 0, .slice none 0 0, .slice none 0 0, ⟨hw, Own.nil _ _ _ _, Own.nil _ _ _ _, R.fr hf (fun k hk => ?_), rfl, rfl, op, fun k hk => ?_⟩, rfl, fun i x a _ hx => by simp at hx⟩
  · rcases hk with h | h | rfl | h | h
    · exact ⟨(hX k h).1, (hX k h).2.1⟩
    · exact h.elim
    · exact ⟨hw.lt, .inr hwb⟩
    · cases h
    · cases h
  · rcases hk with rfl | h | h
    · exact ⟨fun h => (hX _ h).2.2 rfl, fun h => h⟩
    · cases h
    · cases h
theorem turns15 (w : World) {cb wb rb : Nat} {vp wt we : Value} {ev : List (Int × Int × Int)} (hc : Blk w.heap cb [pt wb] 54) (hw : Blk w.heap wb [pt rb, vp, wt, we] 60) (he : Rd w.heap 3 eE we ev) (h1 : wt.oneCell' = true) (h2 : we.oneCell' = true) (hl : ev.length ≤ 1000000) :
    Rets Try.prog 25 #[pt cb] w fun u w' => u = .int .i64 ((cntE ev : Nat) : Int) ∧ Fr No w w' := by
  have hsm := he.small
  obtain ⟨va, vc, rfl⟩ := he.len
  refine rets_of Try.func25 rfl Try.ntmps25 rfl rfl (by kernel_rfl) ?_
  (apply vC_seq; apply vC_region; ((apply vL_val); (case h => ((apply opv_E); exact rfl))); apply vL_nil; apply seqP_normal; apply vC_seq; apply vC_region; ((apply vL_val); (case h => ((apply opv_E); exact rfl))); apply vL_nil; apply seqP_normal; (iterate 2 (apply vC_seq)); apply vC_region; ((apply vL_val); (case h => ((apply opv_loadb1); exact rfl; exact rfl; (first | assumption | infer_instance); exact rfl))); ((apply vL_val); (case h => ((apply opv_E); exact rfl))); ((apply vL_val); (case h => ((apply opv_fieldAddr); exact rfl))); ((apply vL_val); (case h => ((apply opv_loadb1); exact rfl; exact rfl; (first | assumption | infer_instance); exact rfl))); ((apply vL_val); (case h => ((apply opv_lenc); exact rfl))); ((apply vL_val); (case h => ((apply opv_E); exact rfl))); apply vL_nil; apply seqP_normal; apply vC_block)
  (apply vC_loop2 1047572 10 2 (fun u u2 w' => ∃ k : Nat, u = .int .i64 (k : Int) ∧ u2 = .int .i64 ((cntE (ev.take k) : Nat) : Int) ∧ k ≤ ev.length ∧ Fr No w w') (fun u _ _ => ev.length - (RowKit.intOf u).toNat)); (case h1 => (first | exact norm_eq rfl | ((conv => lhs; whnf) <;> exact rfl))); (case h2 => (first | exact norm_eq rfl | ((conv => lhs; whnf) <;> exact rfl)))
  case h0 => exact ⟨0, rfl, rfl, by omega, Fr.refl _ _⟩
  case round =>
  rintro junk _ _ w1 ⟨k, rfl, rfl, hk, hf1⟩
  have he1 := he.frN hf1
  by_cases hkl : k < ev.length
  · obtain ⟨q, hq⟩ : ∃ q, ev[k]? = some q := ⟨ev[k], List.getElem?_eq_getElem hkl⟩
    have hq' : ev[((k : Nat) : Int).toNat]? = some q := by rw [Int.toNat_natCast]; exact hq
    have hcl : cntE (ev.take k) ≤ k := by
      unfold cntE
      refine Nat.le_trans (List.length_filter_le _ _) ?_
      rw [List.length_take]; omega
    have htk : cntE (ev.take (k + 1)) = if 0 ≤ q.2.1 then cntE (ev.take k) + 1 else cntE (ev.take k) := by rw [take_next hq, cntE_add]
    (apply vC_seq; apply vC_region; ((apply vL_val); (case h => ((apply opv_E); exact rfl))); apply vL_nil; apply seqP_normal; apply vC_seq; (refine vC_cond_dec rfl (fun _ => ?_) (fun h => by omega)); apply vC_skip; apply seqP_normal; apply vC_seq; apply vC_block; apply vC_seq; apply vC_region; ((apply vL_val); (case h => ((apply opv_indexAddr); (first | exact norm_eq rfl | ((conv => lhs; whnf) <;> exact rfl)); exact rfl; (first | assumption | infer_instance); (first | omega | (simp only [List.length_map]; omega)); (first | omega | (simp only [List.length_map]; omega))))); ((apply vL_val); (case h => ((apply opv_ld_eln); exact rfl; exact rfl; (first | assumption | infer_instance); assumption))); ((apply vL_val); (case h => (apply opw_alloc))); ((apply vL_skip); (case h => ((apply ops_storen); (first | exact norm_eq rfl | ((conv => lhs; whnf) <;> exact rfl)); (first | exact norm_eq rfl | ((conv => lhs; whnf) <;> exact rfl)); exact rfl; (first | exact (fun u hu => EncOk.one _ u hu) | (intro u hu; simp at hu; rcases hu with rfl | rfl <;> (first | rfl | assumption))); (first | assumption | infer_instance); (first | decide | exact of_decide_eq_true rfl | (simp; done))))); apply vL_nil; apply seqP_normal; apply vC_seq; apply vC_region; ((apply vL_val); (case h => ((apply opv_fieldAddr); exact rfl))); ((apply vL_val); (case h => ((apply opv_loadb1); exact rfl; exact rfl; (first | assumption | infer_instance); exact rfl))); ((apply vL_val); (case h => ((apply opv_E); exact rfl))); apply vL_nil; apply seqP_normal)
    refine vC_gen (fun w' => Fr No w1 w' ∧ Blk w'.heap w1.heap.size (eE q) 62) ⟨by (repeat (first | exact Fr.refl _ _ | assumption | with_reducible apply Fr.allocSet | with_reducible apply Fr.alloc | with_reducible apply Fr.drewN | with_reducible apply Fr.drew | ((with_reducible apply Fr.set); rotate_left; (right; ((try simp only [alloc_size]); omega))) | (refine Fr.trans ?_ (by assumption)))), Blk.as inferInstance rfl⟩ ?_
    rintro w2 ⟨hf2, hq2⟩
    rw [eE] at hq2
    by_cases h0 : 0 ≤ q.2.1
    · rw [if_pos h0] at htk
      ((refine vC_cond_dec rfl (fun _ => ?_) (fun h => by omega)); apply vC_region; ((apply vL_val); (case h => ((apply opv_E); exact rfl))); ((apply vL_val); (case h => ((apply opv_add); exact rfl; exact rfl; (first | omega | (simp only [List.length_map]; omega))))); ((apply vL_val); (case h => ((apply opv_E); exact rfl))); apply vL_nil; apply blockP_normal; apply seqP_normal; apply vC_region; ((apply vL_val); (case h => ((apply opv_add); exact rfl; exact rfl; (first | omega | (simp only [List.length_map]; omega))))); ((apply vL_val); (case h => ((apply opv_E); exact rfl))); apply vL_nil; apply loopP_normal)
      (with_reducible apply end2); (case hs => (repeat (first | (with_reducible exact same_mask _ _ _) | with_reducible apply same_updN | ((with_reducible refine same_updO ?_ ?_); rotate_left; exact rfl) | ((with_reducible refine same_upd ?_ ?_); rotate_left; exact rfl) | ((with_reducible refine same_maskIn ?_ ?_); rotate_left; exact rfl)))); (case h1 => (first | exact norm_eq rfl | ((conv => lhs; whnf) <;> exact rfl))); (case h2 => (first | exact norm_eq rfl | ((conv => lhs; whnf) <;> exact rfl)))
      · exact ⟨k + 1, rfl, by rw [htk]; rfl, by omega, hf1.trans hf2⟩
      · simp [RowKit.intOf]; omega
    · rw [if_neg h0] at htk
      ((refine vC_cond_dec rfl (fun h => by omega) (fun _ => ?_)); apply vC_skip; apply blockP_normal; apply seqP_normal; apply vC_region; ((apply vL_val); (case h => ((apply opv_add); exact rfl; exact rfl; (first | omega | (simp only [List.length_map]; omega))))); ((apply vL_val); (case h => ((apply opv_E); exact rfl))); apply vL_nil; apply loopP_normal)
      (with_reducible apply end2); (case hs => (repeat (first | (with_reducible exact same_mask _ _ _) | with_reducible apply same_updN | ((with_reducible refine same_updO ?_ ?_); rotate_left; exact rfl) | ((with_reducible refine same_upd ?_ ?_); rotate_left; exact rfl) | ((with_reducible refine same_maskIn ?_ ?_); rotate_left; exact rfl)))); (case h1 => (first | exact norm_eq rfl | ((conv => lhs; whnf) <;> exact rfl))); (case h2 => (first | exact norm_eq rfl | ((conv => lhs; whnf) <;> exact rfl)))
      · exact ⟨k + 1, rfl, by rw [htk], by omega, hf1.trans hf2⟩
      · simp [RowKit.intOf]; omega
  · obtain rfl : k = ev.length := by omega
    rw [List.take_length]
    (apply vC_seq; apply vC_region; ((apply vL_val); (case h => ((apply opv_E); exact rfl))); apply vL_nil; apply seqP_normal; apply vC_seq; (refine vC_cond_dec rfl (fun h => by omega) (fun _ => ?_)); apply vC_exit; apply seqP_exit; apply loopP_exit; apply blockP_exit; apply seqP_normal; apply vC_seq; apply vC_region; (iterate 2 (((apply vL_val); (case h => ((apply opv_E); exact rfl))))); apply vL_nil; apply seqP_normal; apply vC_ret)
    (apply ret1; (case h1 => (first | exact norm_eq rfl | ((conv => lhs; whnf) <;> exact rfl))))
    exact ⟨rfl, hf1⟩
end Go.Proofs.Ytaeckjhipmcddaa

set_option maxRecDepth 100000
namespace Go.Proofs.Ytaeckjhipmcddaa
open Go Go.Eng
section
variable {X K : Nat → Prop} {w0 w w' : World} {wb rb : Nat} {vp : Value} {P : List (OV × List (Int × Int × Int))} {n : Nat} {S : AS}
theorem Jw.stepF (j : Jw X w0 w wb rb vp K P n S) (hn : n ≤ 9999) (p : Int) (hp : 0 ≤ p ∧ p ≤ 18446744073709551615) :
    Rets Try.prog 26 #[pt rb, .int .u64 p] w fun u w' => (S.step (P.map (·.2)) p = none ∧ u = .bool false ∧ w = w') ∨
      ∃ S' K', S.step (P.map (·.2)) p = some S' ∧ u = .bool true ∧ Jw X w0 w' wb rb vp K' P (n + 1) S' ∧ Fr (LF X K) w w' :=
  (w_step j.G j.W j.a j.b (by omega) p hp).mono fun u w' h => h.imp id fun ⟨S', K', h1, h2, h3, h4, h5⟩ =>
    ⟨S', K', h1, h2, j.to h3 h5 (step_ok h1 j.a) (by have := step_in h1 j.a (by rw [List.length_map]; exact j.b); rwa [List.length_map] at this), h5⟩
theorem Jw.spawnF (j : Jw X w0 w wb rb vp K P n S) (hn : n ≤ 9999) (ht : S.tasks.length < 6) {pg : Nat} (hp : pg < P.length) :
    Rets Try.prog 24 #[pt wb, .int .i64 pg] w fun u w' => u = .int .i64 (S.spawn pg).2 ∧ ∃ K', Jw X w0 w' wb rb vp K' P n (S.spawn pg).1 ∧ Fr (LF X K) w w' :=
  (wq_spawn j.W j.a (by omega) pg).mono fun u w' ⟨h1, K', h2, h3, h4⟩ => by
    obtain ⟨e1, e2, e3⟩ := j.b.spawned hp
    exact ⟨h1, K', j.to h2 h4 (j.a.spawn pg) ⟨by rw [e1]; exact j.b.ev, by omega, e3⟩, h4⟩
theorem Jw.mono {m : Nat} (j : Jw X w0 w wb rb vp K P n S) (h : n ≤ m) : Jw X w0 w wb rb vp K P m S := ⟨j.W, j.G, j.a, j.b.mono h, j.fr, j.hX⟩
theorem jw_start {wA w1 w2 : World} {sb qs cb : Nat} {lv : Value} (hA : Fr No w wA) (hf1 : Fr No wA w1) (R : Rt (fun k => k < wA.heap.size) w1 rb sb qs lv (.slice none 0 0) none 0 [] []) (hf : Fr (fun k => k < wA.heap.size ∧ w.heap.size ≤ k) w1 w2)
    (hw : Blk w2.heap wb [pt rb, vp, .slice none 0 0, .slice none 0 0] 60) (hc : cb < w2.heap.size) (hwb : w1.heap.size ≤ wb) (hcb : cb < wA.heap.size ∨ w1.heap.size ≤ cb) (hne : cb ≠ wb) (G : Pg (fun k => k < w.heap.size) w.heap vp P) (op : vp.oneCell' = true) :
    Jw (fun k => k < w.heap.size ∨ k = cb) w w2 wb rb vp (fun _ => False) P 0 ⟨[], [], []⟩ := by
  have h1 := hA.size
  have h2 := hf1.size
  have h3 := hf.size
  have hf02 : Fr No w w2 := (hA.trans hf1).trans' hf (fun k hk => .inr hk.2)
  refine ⟨Wq.initZ R (hf.mono (fun k _ h => h.1)) hw hwb (fun k hk => ?_) op, (G.frN hf02).mono (fun k hk => .inl hk), AOkR.init, AIn.init _, hf02, fun k hk => .inl hk⟩
  rcases hk with h | rfl
  · exact ⟨by omega, .inl (by omega), by omega⟩
  · exact ⟨hc, hcb, hne⟩
end
theorem cturns15 (vp vk : Value) (P : List (OV × List (Int × Int × Int))) (picks : List Int) (w : World) (hP : Rd w.heap 1 oE vp P) (hPi : ∀ y ∈ P, Rd w.heap 3 eE y.1.1 y.2) (hPb : ∀ y ∈ P, ∀ q ∈ y.2, q.2.1 ≤ 9223372036854775807)
    (hk : Rd w.heap 1 uE vk picks) (hkb : ∀ x ∈ picks, 0 ≤ x ∧ x ≤ 18446744073709551615) :
    Rets Try.prog 6 #[vp, vk] w fun u w' => u = .bool true ∧ Fr No w w' := by
  have hPs := hP.small
  have hks := hk.small
  refine rets_of Try.func6 rfl Try.ntmps6 rfl rfl (by kernel_rfl) ?_
  by_cases h0 : P.length = 0
  · (apply vC_seq; apply vC_region; ((apply vL_val); (case h => ((apply opv_E); exact rfl))); apply vL_nil; apply seqP_normal; (iterate 2 (apply vC_seq)); apply vC_region; ((apply vL_val); (case h => ((apply opv_move); ((conv => lhs; whnf) <;> exact rfl)))); ((apply vL_val); (case h => ((apply opv_len); (first | exact norm_eq rfl | ((conv => lhs; whnf) <;> exact rfl)); (first | assumption | infer_instance)))); ((apply vL_val); (case h => ((apply opv_E); exact rfl))); apply vL_nil; apply seqP_normal; (refine vC_cond_dec rfl (fun _ => ?_) (fun h => by omega)); apply vC_seq; apply vC_region)
    refine vL_callF rfl (awake15 w) rfl ?_
    rintro _ w1 ⟨rfl, hf1⟩
    (((apply vL_val); (case h => ((apply opv_E); exact rfl))); apply vL_nil; apply seqP_normal; apply vC_ret; apply seqP_ret)
    (apply ret1; (case h1 => (first | exact norm_eq rfl | ((conv => lhs; whnf) <;> exact rfl))))
    exact ⟨rfl, hf1⟩
  obtain ⟨pc, hvp⟩ := hP.ptr (by omega)
  have hcap : P.length ≤ pc := by
    rcases hP.shape with ⟨h1, _⟩ | ⟨_, _, _, h1, h2⟩
    · rw [h1]; exact Nat.zero_le _
    · rw [hvp] at h1; cases h1; exact h2
  generalize (adr vp).block = pb at hvp
  generalize (adr vp).off = po at hvp
  subst hvp
  have hm6 : 0 ≤ (if (6 : Int) < ((P.length : Nat) : Int) then (6 : Int) else ((P.length : Nat) : Int)) ∧ (if (6 : Int) < ((P.length : Nat) : Int) then (6 : Int) else ((P.length : Nat) : Int)) ≤ ((pc : Nat) : Int) := by split <;> omega
  obtain ⟨N, hN, hN1, hN6, hNl⟩ : ∃ N : Nat, (if (6 : Int) < ((P.length : Nat) : Int) then (6 : Int) else ((P.length : Nat) : Int)) = (N : Int) ∧ 1 ≤ N ∧ N ≤ 6 ∧ N ≤ P.length := by
    split
    · exact ⟨6, rfl, by omega, by omega, by omega⟩
    · exact ⟨P.length, rfl, by omega, by omega, by omega⟩
  have hP6 := hP.take hNl
  generalize hP6e : P.take N = P6 at hP6
  have hl6 : P6.length = N := by rw [← hP6e, List.length_take]; omega
  have hsub : ∀ y ∈ P6, y ∈ P := fun y hy => List.mem_of_mem_take (hP6e ▸ hy)
  have G : Pg (fun k => k < w.heap.size) w.heap (.slice (some ⟨pb, po, none⟩) N pc) P6 := ⟨⟨hP6, fun y hy => hPi y (hsub y hy), fun b hb hne => hP6.lt (by decide) b hb hne, fun y hy b hb hne => (hPi y (hsub y hy)).lt (by decide) b hb hne⟩, fun y hy => hPb y (hsub y hy), by omega⟩
  (apply vC_seq; apply vC_region; ((apply vL_val); (case h => ((apply opv_E); exact rfl))); apply vL_nil; apply seqP_normal; (iterate 2 (apply vC_seq)); apply vC_region; ((apply vL_val); (case h => ((apply opv_E); exact rfl))); ((apply vL_val); (case h => ((apply opv_lenc); exact rfl))); ((apply vL_val); (case h => ((apply opv_E); exact rfl))); apply vL_nil; apply seqP_normal; (refine vC_cond_dec rfl (fun h => by omega) (fun _ => ?_)); apply vC_skip; apply seqP_normal; apply vC_seq)
  refine vC_meetV 534773792 5 (fun v w' => ∃ rb wb cb, v = pt cb ∧ Blk w'.heap cb [pt wb] 54 ∧ Jw (fun k => k < w.heap.size ∨ k = cb) w w' wb rb (.slice (some ⟨pb, po, none⟩) N pc) (fun _ => False) P6 0 ⟨[], [], []⟩) ?_ ?_
  · refine vC_draw (fun _ => True) ?_
    ((apply (tk 1)); (case hi => exact rfl); (case hf => kernel_rfl); (case hS => trivial); (case hy => (intro _ _; (((apply opv_E); exact rfl)))))
    ((apply (tk 2)); (case hi => exact rfl); (case hf => kernel_rfl); (case hS => trivial); (case hy => (intro _ _; (((apply opv_E); exact rfl)))))
    ((apply (tk 3)); (case hi => exact rfl); (case hf => kernel_rfl); (case hS => trivial); (case hy => (intro _ _; (((apply opv_lenc); exact rfl)))))
    ((apply (tk 4)); (case hi => exact rfl); (case hf => kernel_rfl); (case hS => trivial); (case hy => (intro _ _; (((apply opv_min); exact rfl; exact rfl)))))
    ((apply (tk 5)); (case hi => exact rfl); (case hf => kernel_rfl); (case hS => trivial); (case hy => (intro _ _; (((apply opv_slice_hi'); exact rfl; exact rfl; (first | omega | (simp only [List.length_map]; omega)); (first | omega | (simp only [List.length_map]; omega)))))))
    rw [hN, Int.toNat_natCast]
    refine vA_both 0 8 (by kernel_rfl) trivial rfl rfl (fun J hJ => ?_) (fun J hJ => ?_)
    · refine vL_callF rfl (r_new w.drew) rfl ?_
      rintro _ w1 ⟨rb, sb, qs, lv, rfl, hf1, hrb, R⟩
      refine vL_nil ⟨rfl, hJ _ _ ?_⟩
      ((apply (tk 6)); (case hi => exact rfl); (case hf => kernel_rfl); (case hS => trivial); (case hy => (intro _ _; (((apply opv_buildS); exact rfl; (first | exact (rfl : _ = some []) | exact (rfl : _ = some [_]) | exact (rfl : _ = some [_, _]) | exact (rfl : _ = some [_, _, _]) | exact (rfl : _ = some [_, _, _, _]) | exact (rfl : _ = some [_, _, _, _, _]) | exact (rfl : _ = some [_, _, _, _, _, _]) | exact (rfl : _ = some [_, _, _, _, _, _, _]) | exact (rfl : _ = some [_, _, _, _, _, _, _, _]) | exact (rfl : _ = some [_, _, _, _, _, _, _, _, _]) | exact (rfl : _ = some [_, _, _, _, _, _, _, _, _, _]) | exact (rfl : _ = some [_, _, _, _, _, _, _, _, _, _, _]) | exact (rfl : _ = some [_, _, _, _, _, _, _, _, _, _, _, _]) | exact (rfl : _ = some [_, _, _, _, _, _, _, _, _, _, _, _, _]) | exact (rfl : _ = some [_, _, _, _, _, _, _, _, _, _, _, _, _, _]) | exact (rfl : _ = some [_, _, _, _, _, _, _, _, _, _, _, _, _, _, _]) | exact (rfl : _ = some [_, _, _, _, _, _, _, _, _, _, _, _, _, _, _, _])))))))
      have hA : Fr No w w.drew := by (repeat (first | exact Fr.refl _ _ | assumption | with_reducible apply Fr.allocSet | with_reducible apply Fr.alloc | with_reducible apply Fr.drewN | with_reducible apply Fr.drew | ((with_reducible apply Fr.set); rotate_left; (right; ((try simp only [alloc_size]); omega))) | (refine Fr.trans ?_ (by assumption))))
      have hs1 := hf1.size
      refine vA_both 7 8 (by kernel_rfl) trivial rfl rfl (fun J hJ => ?_) (fun J hJ => ?_)
      · (((apply vL_val); (case h => ((apply opw_boxn); exact rfl))); apply vL_nil)
        refine ⟨rfl, hJ _ _ ?_⟩
        refine vA_one 8 (by kernel_rfl) trivial rfl (fun J hJ => ?_)
        (((apply vL_val); (case h => (apply opw_alloc))); apply vL_nil)
        refine ⟨rfl, hJ _ _ ?_⟩
        refine vA_one 9 (by kernel_rfl) trivial rfl (fun J hJ => ?_)
        (((apply vL_skip); (case h => ((apply ops_store1); (first | exact norm_eq rfl | ((conv => lhs; whnf) <;> exact rfl)); (first | exact norm_eq rfl | ((conv => lhs; whnf) <;> exact rfl)); (first | rfl | assumption); (first | assumption | infer_instance); (first | decide | exact of_decide_eq_true rfl | (simp; done))))); apply vL_nil)
        refine ⟨rfl, hJ _ _ ?_⟩
        refine vA_done (by kernel_rfl) trivial ?_
        refine ⟨rfl, by ((repeat (first | (with_reducible exact same_mask _ _ _) | with_reducible apply same_updN | ((with_reducible refine same_updO ?_ ?_); rotate_left; exact rfl) | ((with_reducible refine same_upd ?_ ?_); rotate_left; exact rfl) | ((with_reducible refine same_maskIn ?_ ?_); rotate_left; exact rfl))); exact fun _ _ => rfl), rb, _, _, rfl, Blk.set (inferInstance : Blk _ _ [.pointer none] _), ?_⟩
        exact jw_start hA hf1 R (Fr.no_any (by (repeat (first | exact Fr.refl _ _ | assumption | with_reducible apply Fr.allocSet | with_reducible apply Fr.alloc | with_reducible apply Fr.drewN | with_reducible apply Fr.drew | ((with_reducible apply Fr.set); rotate_left; (right; ((try simp only [alloc_size]); omega))) | (refine Fr.trans ?_ (by assumption)))))) (inferInstance : Blk _ _ _ _) (by simp) (Nat.le_refl _) (.inr (by simp)) (by simp) G rfl
      · (((apply vL_val); (case h => (apply opw_alloc))); apply vL_nil)
        refine ⟨rfl, hJ _ _ ?_⟩
        refine vA_one 7 (by kernel_rfl) trivial rfl (fun J hJ => ?_)
        (((apply vL_val); (case h => ((apply opw_boxn); exact rfl))); apply vL_nil)
        refine ⟨rfl, hJ _ _ ?_⟩
        refine vA_one 9 (by kernel_rfl) trivial rfl (fun J hJ => ?_)
        (((apply vL_skip); (case h => ((apply ops_store1); (first | exact norm_eq rfl | ((conv => lhs; whnf) <;> exact rfl)); (first | exact norm_eq rfl | ((conv => lhs; whnf) <;> exact rfl)); (first | rfl | assumption); (first | assumption | infer_instance); (first | decide | exact of_decide_eq_true rfl | (simp; done))))); apply vL_nil)
        refine ⟨rfl, hJ _ _ ?_⟩
        refine vA_done (by kernel_rfl) trivial ?_
        refine ⟨rfl, by ((repeat (first | (with_reducible exact same_mask _ _ _) | with_reducible apply same_updN | ((with_reducible refine same_updO ?_ ?_); rotate_left; exact rfl) | ((with_reducible refine same_upd ?_ ?_); rotate_left; exact rfl) | ((with_reducible refine same_maskIn ?_ ?_); rotate_left; exact rfl))); exact fun _ _ => rfl), rb, _, _, rfl, Blk.set (inferInstance : Blk _ _ [.pointer none] _), ?_⟩
        haveI hnw : NeB (w1.alloc (.cells [.pointer none].toArray 54)).heap.size w1.heap.size := ⟨by simp⟩
        exact jw_start hA hf1 R (Fr.no_any (by (repeat (first | exact Fr.refl _ _ | assumption | with_reducible apply Fr.allocSet | with_reducible apply Fr.alloc | with_reducible apply Fr.drewN | with_reducible apply Fr.drew | ((with_reducible apply Fr.set); rotate_left; (right; ((try simp only [alloc_size]); omega))) | (refine Fr.trans ?_ (by assumption)))))) (inferInstance : Blk _ _ _ _) (by simp; omega) (by simp) (.inr (Nat.le_refl _)) (by simp) G rfl
    · (((apply vL_val); (case h => (apply opw_alloc))); apply vL_nil)
      refine ⟨rfl, hJ _ _ ?_⟩
      refine vA_one 0 (by kernel_rfl) trivial rfl (fun J hJ => ?_)
      have hc0 : Blk (w.drew.alloc (.cells [.pointer none].toArray 54)).heap w.drew.heap.size [.pointer none] 54 := inferInstance
      refine vL_callF rfl (r_new _) rfl ?_
      rintro _ w1 ⟨rb, sb, qs, lv, rfl, hf1, hrb, R⟩
      have hc1 := hc0.frN hf1
      have hA : Fr No w (w.drew.alloc (.cells [.pointer none].toArray 54)) := by (repeat (first | exact Fr.refl _ _ | assumption | with_reducible apply Fr.allocSet | with_reducible apply Fr.alloc | with_reducible apply Fr.drewN | with_reducible apply Fr.drew | ((with_reducible apply Fr.set); rotate_left; (right; ((try simp only [alloc_size]); omega))) | (refine Fr.trans ?_ (by assumption))))
      have hs1 := hf1.size
      refine vL_nil ⟨rfl, hJ _ _ ?_⟩
      ((apply (tk 6)); (case hi => exact rfl); (case hf => kernel_rfl); (case hS => trivial); (case hy => (intro _ _; (((apply opv_buildS); exact rfl; (first | exact (rfl : _ = some []) | exact (rfl : _ = some [_]) | exact (rfl : _ = some [_, _]) | exact (rfl : _ = some [_, _, _]) | exact (rfl : _ = some [_, _, _, _]) | exact (rfl : _ = some [_, _, _, _, _]) | exact (rfl : _ = some [_, _, _, _, _, _]) | exact (rfl : _ = some [_, _, _, _, _, _, _]) | exact (rfl : _ = some [_, _, _, _, _, _, _, _]) | exact (rfl : _ = some [_, _, _, _, _, _, _, _, _]) | exact (rfl : _ = some [_, _, _, _, _, _, _, _, _, _]) | exact (rfl : _ = some [_, _, _, _, _, _, _, _, _, _, _]) | exact (rfl : _ = some [_, _, _, _, _, _, _, _, _, _, _, _]) | exact (rfl : _ = some [_, _, _, _, _, _, _, _, _, _, _, _, _]) | exact (rfl : _ = some [_, _, _, _, _, _, _, _, _, _, _, _, _, _]) | exact (rfl : _ = some [_, _, _, _, _, _, _, _, _, _, _, _, _, _, _]) | exact (rfl : _ = some [_, _, _, _, _, _, _, _, _, _, _, _, _, _, _, _])))))))
      refine vA_one 7 (by kernel_rfl) trivial rfl (fun J hJ => ?_)
      (((apply vL_val); (case h => ((apply opw_boxn); exact rfl))); apply vL_nil)
      refine ⟨rfl, hJ _ _ ?_⟩
      refine vA_one 9 (by kernel_rfl) trivial rfl (fun J hJ => ?_)
      (((apply vL_skip); (case h => ((apply ops_store1); (first | exact norm_eq rfl | ((conv => lhs; whnf) <;> exact rfl)); (first | exact norm_eq rfl | ((conv => lhs; whnf) <;> exact rfl)); (first | rfl | assumption); (first | assumption | infer_instance); (first | decide | exact of_decide_eq_true rfl | (simp; done))))); apply vL_nil)
      refine ⟨rfl, hJ _ _ ?_⟩
      refine vA_done (by kernel_rfl) trivial ?_
      refine ⟨rfl, by ((repeat (first | (with_reducible exact same_mask _ _ _) | with_reducible apply same_updN | ((with_reducible refine same_updO ?_ ?_); rotate_left; exact rfl) | ((with_reducible refine same_upd ?_ ?_); rotate_left; exact rfl) | ((with_reducible refine same_maskIn ?_ ?_); rotate_left; exact rfl))); exact fun _ _ => rfl), rb, _, _, rfl, Blk.set (inferInstance : Blk _ _ [.pointer none] _), ?_⟩
      haveI hnw : NeB w1.heap.size w.drew.heap.size := ⟨fun h => by have := hc1.lt; omega⟩
      exact jw_start hA hf1 R (((Fr.refl _ w1).alloc _).set _ _ (.inl ⟨by simp, Nat.le_refl _⟩)) (inferInstance : Blk _ _ _ _) (by have := hc1.lt; rw [setRow_size, alloc_size]; omega) (Nat.le_refl _) (.inl (by simp)) (fun h => by have := hc1.lt; omega) G rfl
  rintro junk0 _ w1 ⟨rb, wb, cb, rfl, hcb, j0⟩
  have hXc : ∀ k : Nat, k = cb → (k < w.heap.size ∨ k = cb) := fun k h => .inr h
  generalize hX : (fun k : Nat => k < w.heap.size ∨ k = cb) = X at *
  have hXcb : X cb := by rw [← hX]; exact .inr rfl
  have hkeep : ∀ {K : Nat → Prop} {w1 w2 : World}, Blk w1.heap cb [pt wb] 54 → Fr (LF X K) w1 w2 → Blk w2.heap cb [pt wb] 54 := fun h f => h.fr f (fun h' => h'.1 hXcb)
  clear hX hXc G hP hP6 hPi
  obtain ⟨wt1, we1, bs1, hw1, _⟩ := j0.W.see
  (apply seqP_normal; (iterate 2 (apply vC_seq)); apply vC_region; ((apply vL_val); (case h => ((apply opv_loadb1); exact rfl; exact rfl; (first | assumption | infer_instance); exact rfl))); ((apply vL_val); (case h => ((apply opv_E); exact rfl))); ((apply vL_val); (case h => ((apply opv_fieldAddr); exact rfl))); ((apply vL_val); (case h => ((apply opv_loadb1); exact rfl; exact rfl; (first | assumption | infer_instance); exact rfl))); ((apply vL_val); (case h => ((apply opv_eql_pnil); exact rfl; exact rfl; (simp; done)))); apply vL_nil; apply seqP_normal; ((apply vC_cond_false); exact rfl); apply vC_skip; apply seqP_normal; (iterate 2 (apply vC_seq)); apply vC_region; ((apply vL_val); (case h => ((apply opv_loadb1); exact rfl; exact rfl; (first | assumption | infer_instance); exact rfl))); ((apply vL_val); (case h => ((apply opv_E); exact rfl))); ((apply vL_val); (case h => ((apply opv_fieldAddr); exact rfl))); ((apply vL_val); (case h => ((apply opv_loadb1); exact rfl; exact rfl; (first | assumption | infer_instance); exact rfl))); ((apply vL_val); (case h => ((apply opv_lenc); exact rfl))); ((apply vL_val); (case h => ((apply opv_E); exact rfl))); apply vL_nil; apply seqP_normal; apply vC_block)
  (apply vC_loop1 69818988363840 39 (fun u w' => ∃ (k : Nat) (K : Nat → Prop), u = .int .i64 (k : Int) ∧ k ≤ N ∧ Jw X w w' wb rb (.slice (some ⟨pb, po, none⟩) N pc) K P6 0 (spN k) ∧ Blk w'.heap cb [pt wb] 54 ∧ no2 (spN k) none) (fun u _ => N - (RowKit.intOf u).toNat)); (case h1 => (first | exact norm_eq rfl | ((conv => lhs; whnf) <;> exact rfl)))
  case h0 => exact ⟨0, _, rfl, by omega, j0, hcb, no2.init⟩
  clear j0 hcb hw1
  case round =>
  rintro junk _ w1 ⟨k, K, rfl, hkN, j1, hcb, hno⟩
  by_cases hlt : k < N
  · have hsl := spN_len k
    (apply vC_seq; apply vC_region; ((apply vL_val); (case h => ((apply opv_E); exact rfl))); apply vL_nil; apply seqP_normal; apply vC_seq; (refine vC_cond_dec rfl (fun _ => ?_) (fun h => by omega)); apply vC_skip; apply seqP_normal; apply vC_seq; apply vC_block; apply vC_seq; apply vC_region; (iterate 2 (((apply vL_val); (case h => ((apply opv_E); exact rfl))))); apply vL_nil; apply seqP_normal; apply vC_region; ((apply vL_val); (case h => ((apply opv_loadb1); exact rfl; exact rfl; (first | assumption | infer_instance); exact rfl))); ((apply vL_val); (case h => ((apply opv_E); exact rfl))))
    refine vL_callF rfl (j1.spawnF (by decide) (by omega) (pg := k) (by omega)) rfl ?_
    rintro _ w2 ⟨rfl, K2, j2, hf2⟩
    have hcb2 := hkeep hcb hf2
    (apply vL_nil; apply blockP_normal; apply seqP_normal; apply vC_region; ((apply vL_val); (case h => ((apply opv_add); exact rfl; exact rfl; (first | omega | (simp only [List.length_map]; omega))))); ((apply vL_val); (case h => ((apply opv_E); exact rfl))); apply vL_nil; apply loopP_normal)
    (with_reducible apply end1); (case hs => (repeat (first | (with_reducible exact same_mask _ _ _) | with_reducible apply same_updN | ((with_reducible refine same_updO ?_ ?_); rotate_left; exact rfl) | ((with_reducible refine same_upd ?_ ?_); rotate_left; exact rfl) | ((with_reducible refine same_maskIn ?_ ?_); rotate_left; exact rfl)))); (case h1 => (first | exact norm_eq rfl | ((conv => lhs; whnf) <;> exact rfl)))
    · exact ⟨k + 1, K2, rfl, by omega, j2, hcb2, hno.spawn k⟩
    · simp [RowKit.intOf]; omega
  obtain rfl : N = k := by omega
  (apply vC_seq; apply vC_region; ((apply vL_val); (case h => ((apply opv_E); exact rfl))); apply vL_nil; apply seqP_normal; apply vC_seq; (refine vC_cond_dec rfl (fun h => by omega) (fun _ => ?_)); apply vC_exit; apply seqP_exit; apply loopP_exit; apply blockP_exit; apply seqP_normal; apply vC_seq; apply vC_region; ((apply vL_val); (case h => ((apply opv_makeFunc); exact rfl))); ((apply vL_val); (case h => ((apply opv_E); exact rfl))); apply vL_nil; apply seqP_normal; (iterate 2 (apply vC_seq)); apply vC_region; ((apply vL_val); (case h => ((apply opv_E); exact rfl))); apply vL_nil; apply seqP_normal; apply vC_block)
  (apply vC_loop1 5708990770823839524233143877797839808042753808 8 (fun u w' => ∃ (k : Nat) (K : Nat → Prop) (S : AS), u = .int .i64 (k : Int) ∧ k ≤ picks.length ∧ k ≤ 200 ∧ Jw X w w' wb rb (.slice (some ⟨pb, po, none⟩) N pc) K P6 k S ∧ Blk w'.heap cb [pt wb] 54 ∧ no2 S none) (fun u _ => picks.length - (RowKit.intOf u).toNat)); (case h1 => (first | exact norm_eq rfl | ((conv => lhs; whnf) <;> exact rfl)))
  case h0 => exact ⟨0, K, _, rfl, by omega, by omega, j1, hcb, hno⟩
  clear j1 hcb hno
  case round =>
  rintro junk2 _ w2 ⟨k, K, S, rfl, hkl, hk3, j2, hcb, hno⟩
  first | with_reducible apply vC_seq | with_reducible apply vC_region | with_reducible apply seqP_normal | with_reducible apply vC_block | with_reducible apply vC_ret | with_reducible apply vC_skip | with_reducible apply vC_exit | with_reducible apply seqP_ret | with_reducible apply seqP_exit | with_reducible apply blockP_normal | with_reducible apply blockP_ret | with_reducible apply blockP_exit | ((with_reducible apply blockP_pass); exact rfl) | with_reducible apply loopP_normal | with_reducible apply vL_ac | with_reducible apply vL_an | with_reducible apply loopP_ret | with_reducible apply loopP_exit | ((with_reducible apply vC_cond_true); exact rfl) | ((with_reducible apply vC_cond_false); exact rfl) | with_reducible apply vC_scope | with_reducible apply gotoP_normal | with_reducible apply gotoP_ret | with_reducible apply gotoP_exit | with_reducible apply vC_label
  first | with_reducible apply vC_seq | with_reducible apply vC_region | with_reducible apply seqP_normal | with_reducible apply vC_block | with_reducible apply vC_ret | with_reducible apply vC_skip | with_reducible apply vC_exit | with_reducible apply seqP_ret | with_reducible apply seqP_exit | with_reducible apply blockP_normal | with_reducible apply blockP_ret | with_reducible apply blockP_exit | ((with_reducible apply blockP_pass); exact rfl) | with_reducible apply loopP_normal | with_reducible apply vL_ac | with_reducible apply vL_an | with_reducible apply loopP_ret | with_reducible apply loopP_exit | ((with_reducible apply vC_cond_true); exact rfl) | ((with_reducible apply vC_cond_false); exact rfl) | with_reducible apply vC_scope | with_reducible apply gotoP_normal | with_reducible apply gotoP_ret | with_reducible apply gotoP_exit | with_reducible apply vC_label
  refine vC_meet1 35888059530608640 54 (.bool (decide (k < picks.length ∧ k < 200))) (fun w' => w2 = w') ?_ ?_
  · have hk2 := hk.frN j2.fr
    by_cases c1 : k < picks.length
    · by_cases c2 : k < 200
      · (apply vC_region; ((apply vL_val); (case h => ((apply opv_E); exact rfl))); ((apply vL_val); (case h => ((apply opv_move); ((conv => lhs; whnf) <;> exact rfl)))); ((apply vL_val); (case h => ((apply opv_len); (first | exact norm_eq rfl | ((conv => lhs; whnf) <;> exact rfl)); (first | assumption | infer_instance)))); (iterate 2 (((apply vL_val); (case h => ((apply opv_E); exact rfl))))); (refine vL_and rfl rfl (fun _ => ?_) (fun h => by omega)); ((apply vL_val); (case h => ((apply opv_E); exact rfl))); ((apply vL_wanted); exact rfl); (iterate 2 (((apply vL_val); (case h => ((apply opv_E); exact rfl))))); apply vL_nil)
        exact ⟨rfl, by ((repeat (first | (with_reducible exact same_mask _ _ _) | with_reducible apply same_updN | ((with_reducible refine same_updO ?_ ?_); rotate_left; exact rfl) | ((with_reducible refine same_upd ?_ ?_); rotate_left; exact rfl) | ((with_reducible refine same_maskIn ?_ ?_); rotate_left; exact rfl))); exact fun _ _ => rfl), congrArg Value.bool (decide_eq_decide.2 (by omega)), rfl⟩
      · (apply vC_region; ((apply vL_val); (case h => ((apply opv_E); exact rfl))); ((apply vL_val); (case h => ((apply opv_move); ((conv => lhs; whnf) <;> exact rfl)))); ((apply vL_val); (case h => ((apply opv_len); (first | exact norm_eq rfl | ((conv => lhs; whnf) <;> exact rfl)); (first | assumption | infer_instance)))); (iterate 2 (((apply vL_val); (case h => ((apply opv_E); exact rfl))))); (refine vL_and rfl rfl (fun _ => ?_) (fun h => by omega)); ((apply vL_val); (case h => ((apply opv_E); exact rfl))); ((apply vL_wanted); exact rfl); (iterate 2 (((apply vL_val); (case h => ((apply opv_E); exact rfl))))); apply vL_nil)
        exact ⟨rfl, by ((repeat (first | (with_reducible exact same_mask _ _ _) | with_reducible apply same_updN | ((with_reducible refine same_updO ?_ ?_); rotate_left; exact rfl) | ((with_reducible refine same_upd ?_ ?_); rotate_left; exact rfl) | ((with_reducible refine same_maskIn ?_ ?_); rotate_left; exact rfl))); exact fun _ _ => rfl), congrArg Value.bool (decide_eq_decide.2 (by omega)), rfl⟩
    · (apply vC_region; ((apply vL_val); (case h => ((apply opv_E); exact rfl))); ((apply vL_val); (case h => ((apply opv_move); ((conv => lhs; whnf) <;> exact rfl)))); ((apply vL_val); (case h => ((apply opv_len); (first | exact norm_eq rfl | ((conv => lhs; whnf) <;> exact rfl)); (first | assumption | infer_instance)))); (iterate 2 (((apply vL_val); (case h => ((apply opv_E); exact rfl))))); (refine vL_and rfl rfl (fun h => by omega) (fun _ => ?_)); ((apply vL_unwanted'); exact rfl; exact rfl); ((apply vL_val); (case h => ((apply opv_E); exact rfl))); apply vL_nil)
      exact ⟨rfl, by ((repeat (first | (with_reducible exact same_mask _ _ _) | with_reducible apply same_updN | ((with_reducible refine same_updO ?_ ?_); rotate_left; exact rfl) | ((with_reducible refine same_upd ?_ ?_); rotate_left; exact rfl) | ((with_reducible refine same_maskIn ?_ ?_); rotate_left; exact rfl))); exact fun _ _ => rfl), (congrArg Value.bool (decide_eq_false (by omega))).symm, rfl⟩
  rintro junk3 _ rfl
  first | with_reducible apply vC_seq | with_reducible apply vC_region | with_reducible apply seqP_normal | with_reducible apply vC_block | with_reducible apply vC_ret | with_reducible apply vC_skip | with_reducible apply vC_exit | with_reducible apply seqP_ret | with_reducible apply seqP_exit | with_reducible apply blockP_normal | with_reducible apply blockP_ret | with_reducible apply blockP_exit | ((with_reducible apply blockP_pass); exact rfl) | with_reducible apply loopP_normal | with_reducible apply vL_ac | with_reducible apply vL_an | with_reducible apply loopP_ret | with_reducible apply loopP_exit | ((with_reducible apply vC_cond_true); exact rfl) | ((with_reducible apply vC_cond_false); exact rfl) | with_reducible apply vC_scope | with_reducible apply gotoP_normal | with_reducible apply gotoP_ret | with_reducible apply gotoP_exit | with_reducible apply vC_label
  refine vC_cond_dec rfl (fun hc => ?_) (fun hc => ?_)
  rotate_left
  · (apply vC_exit; apply seqP_exit; apply loopP_exit; apply blockP_exit; apply seqP_normal; apply vC_seq; apply vC_region)
    refine vL_callF rfl (awake15 _) rfl ?_
    rintro _ w3 ⟨rfl, hf3⟩
    (((apply vL_val); (case h => ((apply opv_E); exact rfl))); apply vL_nil; apply seqP_normal; apply vC_ret)
    (apply ret1; (case h1 => (first | exact norm_eq rfl | ((conv => lhs; whnf) <;> exact rfl))))
    exact ⟨rfl, j2.fr.trans hf3⟩
  obtain ⟨hc1, hc2⟩ := hc
  obtain ⟨p, hp⟩ : ∃ p, picks[k]? = some p := ⟨picks[k], List.getElem?_eq_getElem hc1⟩
  have hp' : picks[((k : Nat) : Int).toNat]? = some p := by rw [Int.toNat_natCast]; exact hp
  have hpb := hkb p (List.mem_of_getElem? hp)
  have hel2 := j2.b.ev
  obtain ⟨wt2, we2, bs2, hw2, hwt2, hev2, o1, o2, o3, _⟩ := j2.W.see
  have hce : cntE S.ev ≤ S.ev.length := List.length_filter_le _ _
  (apply vC_skip; apply seqP_normal; apply vC_seq; apply vC_block; apply vC_seq; apply vC_region; ((apply vL_val); (case h => ((apply opv_E); exact rfl))))
  refine vL_callF rfl (turns15 w2 hcb hw2 hev2.rd o1 o2 (by omega)) rfl ?_
  rintro _ w3 ⟨rfl, hf3⟩
  have j3 := j2.frN hf3
  have hcb3 := hcb.frN hf3
  have j3d := j3.frN (show Fr No w3 w3.drew by (repeat (first | exact Fr.refl _ _ | assumption | with_reducible apply Fr.allocSet | with_reducible apply Fr.alloc | with_reducible apply Fr.drewN | with_reducible apply Fr.drew | ((with_reducible apply Fr.set); rotate_left; (right; ((try simp only [alloc_size]); omega))) | (refine Fr.trans ?_ (by assumption)))))
  have hcb3d := hcb3.frN (show Fr No w3 w3.drew by (repeat (first | exact Fr.refl _ _ | assumption | with_reducible apply Fr.allocSet | with_reducible apply Fr.alloc | with_reducible apply Fr.drewN | with_reducible apply Fr.drew | ((with_reducible apply Fr.set); rotate_left; (right; ((try simp only [alloc_size]); omega))) | (refine Fr.trans ?_ (by assumption)))))
  have hE3 : ∃ a b, Blk w3.drew.heap wb [pt rb, (.slice (some ⟨pb, po, none⟩) N pc), a, b] 60 := by
    obtain ⟨a, b, c, h, _⟩ := j3d.W.see
    exact ⟨a, b, h⟩
  have hF3 := j3d.fr
  (((apply vL_val); (case h => ((apply opv_E); exact rfl))); apply vL_nil; apply seqP_normal; apply vC_seq)
  refine vC_draw' ((fun wf => Fr No w wf ∧ Blk wf.heap cb [pt wb] 54 ∧ ∃ a b, Blk wf.heap wb [pt rb, (.slice (some ⟨pb, po, none⟩) N pc), a, b] 60)) (by (first | exact trivial | assumption | infer_instance | (refine ⟨?_, ?_, ?_⟩ <;> (first | assumption | infer_instance)) | ((repeat (first | exact Fr.refl _ _ | assumption | with_reducible apply Fr.allocSet | with_reducible apply Fr.alloc | with_reducible apply Fr.drewN | with_reducible apply Fr.drew | ((with_reducible apply Fr.set); rotate_left; (right; ((try simp only [alloc_size]); omega))) | (refine Fr.trans ?_ (by assumption)))); done))) ?_
  ((apply (tk 0)); (case hi => exact rfl); (case hf => kernel_rfl); (case hS => (first | exact trivial | assumption | infer_instance | (refine ⟨?_, ?_, ?_⟩ <;> (first | assumption | infer_instance)) | ((repeat (first | exact Fr.refl _ _ | assumption | with_reducible apply Fr.allocSet | with_reducible apply Fr.alloc | with_reducible apply Fr.drewN | with_reducible apply Fr.drew | ((with_reducible apply Fr.set); rotate_left; (right; ((try simp only [alloc_size]); omega))) | (refine Fr.trans ?_ (by assumption)))); done))); (case hy => (rintro wf ⟨hwa, hwb, hwc⟩; (((apply opv_loadb1); exact rfl; exact rfl; (first | assumption | infer_instance); exact rfl)))))
  ((apply (tk 1)); (case hi => exact rfl); (case hf => kernel_rfl); (case hS => (first | exact trivial | assumption | infer_instance | (refine ⟨?_, ?_, ?_⟩ <;> (first | assumption | infer_instance)) | ((repeat (first | exact Fr.refl _ _ | assumption | with_reducible apply Fr.allocSet | with_reducible apply Fr.alloc | with_reducible apply Fr.drewN | with_reducible apply Fr.drew | ((with_reducible apply Fr.set); rotate_left; (right; ((try simp only [alloc_size]); omega))) | (refine Fr.trans ?_ (by assumption)))); done))); (case hy => (rintro wf ⟨hwa, hwb, hwc⟩; (((apply opv_E); exact rfl)))))
  ((apply (tk 2)); (case hi => exact rfl); (case hf => kernel_rfl); (case hS => (first | exact trivial | assumption | infer_instance | (refine ⟨?_, ?_, ?_⟩ <;> (first | assumption | infer_instance)) | ((repeat (first | exact Fr.refl _ _ | assumption | with_reducible apply Fr.allocSet | with_reducible apply Fr.alloc | with_reducible apply Fr.drewN | with_reducible apply Fr.drew | ((with_reducible apply Fr.set); rotate_left; (right; ((try simp only [alloc_size]); omega))) | (refine Fr.trans ?_ (by assumption)))); done))); (case hy => (rintro wf ⟨hwa, hwb, hwc⟩; (((apply opv_fieldAddr); exact rfl)))))
  (apply (tk 3)); (case hi => exact rfl); (case hf => kernel_rfl); (case hS => (first | exact trivial | assumption | infer_instance | (refine ⟨?_, ?_, ?_⟩ <;> (first | assumption | infer_instance)) | ((repeat (first | exact Fr.refl _ _ | assumption | with_reducible apply Fr.allocSet | with_reducible apply Fr.alloc | with_reducible apply Fr.drewN | with_reducible apply Fr.drew | ((with_reducible apply Fr.set); rotate_left; (right; ((try simp only [alloc_size]); omega))) | (refine Fr.trans ?_ (by assumption)))); done))); (case hy => (rintro wf ⟨hwa, hwb, a, b, hwc⟩; (((apply opv_loadb1); exact rfl; exact rfl; (first | assumption | infer_instance); exact rfl))))
  ((apply (tk 4)); (case hi => exact rfl); (case hf => kernel_rfl); (case hS => (first | exact trivial | assumption | infer_instance | (refine ⟨?_, ?_, ?_⟩ <;> (first | assumption | infer_instance)) | ((repeat (first | exact Fr.refl _ _ | assumption | with_reducible apply Fr.allocSet | with_reducible apply Fr.alloc | with_reducible apply Fr.drewN | with_reducible apply Fr.drew | ((with_reducible apply Fr.set); rotate_left; (right; ((try simp only [alloc_size]); omega))) | (refine Fr.trans ?_ (by assumption)))); done))); (case hy => (rintro wf ⟨hwa, hwb, hwc⟩; (((apply opv_move); ((conv => lhs; whnf) <;> exact rfl))))))
  ((apply (tk 5)); (case hi => exact rfl); (case hf => kernel_rfl); (case hS => (first | exact trivial | assumption | infer_instance | (refine ⟨?_, ?_, ?_⟩ <;> (first | assumption | infer_instance)) | ((repeat (first | exact Fr.refl _ _ | assumption | with_reducible apply Fr.allocSet | with_reducible apply Fr.alloc | with_reducible apply Fr.drewN | with_reducible apply Fr.drew | ((with_reducible apply Fr.set); rotate_left; (right; ((try simp only [alloc_size]); omega))) | (refine Fr.trans ?_ (by assumption)))); done))); (case hy => (rintro wf ⟨hwa, hwb, hwc⟩; (((apply opv_E); exact rfl)))))
  (apply (tk 6)); (case hi => exact rfl); (case hf => kernel_rfl); (case hS => (first | exact trivial | assumption | infer_instance | (refine ⟨?_, ?_, ?_⟩ <;> (first | assumption | infer_instance)) | ((repeat (first | exact Fr.refl _ _ | assumption | with_reducible apply Fr.allocSet | with_reducible apply Fr.alloc | with_reducible apply Fr.drewN | with_reducible apply Fr.drew | ((with_reducible apply Fr.set); rotate_left; (right; ((try simp only [alloc_size]); omega))) | (refine Fr.trans ?_ (by assumption)))); done))); (case hy => (rintro wf ⟨hwa, hwb, hwc⟩; haveI := From.mk hwa; (((apply opv_indexAddr); (first | exact norm_eq rfl | ((conv => lhs; whnf) <;> exact rfl)); exact rfl; (first | assumption | infer_instance); (first | omega | (simp only [List.length_map]; omega)); (first | omega | (simp only [List.length_map]; omega))))))
  (apply (tk 7)); (case hi => exact rfl); (case hf => kernel_rfl); (case hS => (first | exact trivial | assumption | infer_instance | (refine ⟨?_, ?_, ?_⟩ <;> (first | assumption | infer_instance)) | ((repeat (first | exact Fr.refl _ _ | assumption | with_reducible apply Fr.allocSet | with_reducible apply Fr.alloc | with_reducible apply Fr.drewN | with_reducible apply Fr.drew | ((with_reducible apply Fr.set); rotate_left; (right; ((try simp only [alloc_size]); omega))) | (refine Fr.trans ?_ (by assumption)))); done))); (case hy => (rintro wf ⟨hwa, hwb, hwc⟩; haveI := From.mk hwa; (((apply opv_ld_el); exact rfl; exact rfl; (first | assumption | infer_instance); assumption; exact rfl))))
  refine tkc 8 rfl (by kernel_rfl) (by (first | exact trivial | assumption | infer_instance | (refine ⟨?_, ?_, ?_⟩ <;> (first | assumption | infer_instance)) | ((repeat (first | exact Fr.refl _ _ | assumption | with_reducible apply Fr.allocSet | with_reducible apply Fr.alloc | with_reducible apply Fr.drewN | with_reducible apply Fr.drew | ((with_reducible apply Fr.set); rotate_left; (right; ((try simp only [alloc_size]); omega))) | (refine Fr.trans ?_ (by assumption)))); done))) rfl (j3d.stepF (by omega) p hpb) rfl ?_
  rintro _ w4 (⟨hs, rfl, rfl⟩ | ⟨S4, K4, hs, rfl, j4, hf4⟩)
  · obtain ⟨S4, eS⟩ : ∃ S4, S4 = S := ⟨_, rfl⟩
    obtain ⟨K4, eK⟩ : ∃ K4, K4 = K := ⟨_, rfl⟩
    have j4 := j3d.mono (show k ≤ k + 1 by omega)
    have hcnt : cntE S4.ev = cntE S.ev := by rw [eS]
    have hno4 := hno
    rw [← eS, ← eK] at j4
    rw [← eS] at hno4
    have hcb4 := hcb3d
    clear hE3 hF3 j3d hcb3d eS eK
    generalize w3.drew = w4 at *
    have hE4 : ∃ a b, Blk w4.heap wb [pt rb, .slice (some ⟨pb, po, none⟩) N pc, a, b] 60 := by
      obtain ⟨a, b, c, h, _⟩ := j4.W.see
      exact ⟨a, b, h⟩
    have hF4 := j4.fr
    have hce4 : cntE S4.ev ≤ S4.ev.length := List.length_filter_le _ _
    have hel4 := j4.b.ev
    have htl4 := j4.b.tl
    ((apply (tk 9)); (case hi => exact rfl); (case hf => kernel_rfl); (case hS => (first | exact trivial | assumption | infer_instance | (refine ⟨?_, ?_, ?_⟩ <;> (first | assumption | infer_instance)) | ((repeat (first | exact Fr.refl _ _ | assumption | with_reducible apply Fr.allocSet | with_reducible apply Fr.alloc | with_reducible apply Fr.drewN | with_reducible apply Fr.drew | ((with_reducible apply Fr.set); rotate_left; (right; ((try simp only [alloc_size]); omega))) | (refine Fr.trans ?_ (by assumption)))); done))); (case hy => (rintro wf ⟨hwa, hwb, hwc⟩; (((apply opv_E); exact rfl)))))
    refine vA_done (by kernel_rfl) (by (first | exact trivial | assumption | infer_instance | (refine ⟨?_, ?_, ?_⟩ <;> (first | assumption | infer_instance)) | ((repeat (first | exact Fr.refl _ _ | assumption | with_reducible apply Fr.allocSet | with_reducible apply Fr.alloc | with_reducible apply Fr.drewN | with_reducible apply Fr.drew | ((with_reducible apply Fr.set); rotate_left; (right; ((try simp only [alloc_size]); omega))) | (refine Fr.trans ?_ (by assumption)))); done))) ?_
    obtain ⟨wt4, we4, bs4, hw4, hwt4, hev4, p1, p2, p3, hbl4, hbx4⟩ := j4.W.see
    (apply seqP_normal; (iterate 2 (apply vC_seq)); apply vC_region; ((apply vL_val); (case h => ((apply opv_E); exact rfl))))
    refine vL_callF rfl (turns15 w4 hcb4 hw4 hev4.rd p1 p2 (by omega)) rfl ?_
    rintro _ w5 ⟨rfl, hf5⟩
    (((apply vL_val); (case h => ((apply opv_E); exact rfl))); apply vL_nil; apply seqP_normal; apply vC_seq; apply vC_region; (iterate 2 (((apply vL_val); (case h => ((apply opv_E); exact rfl))))); (iterate 4 (((apply vL_unwanted'); exact rfl; exact rfl))); (iterate 2 (((apply vL_val); (case h => ((apply opv_E); exact rfl))))); ((apply vL_wanted); exact rfl); ((apply vL_val); (case h => ((apply opv_E); exact rfl))); ((apply vL_wanted); exact rfl); ((apply vL_val); (case h => ((apply opv_not); exact rfl))); ((apply vL_wanted); exact rfl); ((apply vL_val); (case h => ((apply opv_E); exact rfl))); ((apply vL_wanted); exact rfl); ((apply vL_val); (case h => ((apply opv_E); exact rfl))); ((apply vL_wanted); exact rfl); ((apply vL_val); (case h => ((apply opv_E); exact rfl))); ((apply vL_wanted); exact rfl); ((apply vL_val); (case h => ((apply opv_E); exact rfl))); ((apply vL_wanted); exact rfl); (iterate 2 (((apply vL_val); (case h => ((apply opv_E); exact rfl))))); apply vL_nil; apply seqP_normal; (refine vC_cond_dec rfl (fun h => by omega) (fun _ => ?_)); apply vC_skip; apply seqP_normal; apply vC_seq; apply vC_region)
    apply vL_val
    (case h => exact opw_makeMap)
    refine vL_gen (fun w' => Fr No w5 w' ∧ Mp w'.heap w5.heap.size ikE Value.bool []) ⟨by (repeat (first | exact Fr.refl _ _ | assumption | with_reducible apply Fr.allocSet | with_reducible apply Fr.alloc | with_reducible apply Fr.drewN | with_reducible apply Fr.drew | ((with_reducible apply Fr.set); rotate_left; (right; ((try simp only [alloc_size]); omega))) | (refine Fr.trans ?_ (by assumption)))), Mp.new ikE Value.bool⟩ ?_
    rintro w6 ⟨hf6, hm6⟩
    have hr6 : w4.heap.size ≤ w5.heap.size := hf5.size
    generalize w5.heap.size = r at *
    have hf46 := hf5.trans hf6
    have j6 := j4.frN hf46
    have hcb6 := hcb4.frN hf46
    have hw6 := hw4.frN hf46
    have j6d := j6.frN (show Fr No w6 w6.drew by (repeat (first | exact Fr.refl _ _ | assumption | with_reducible apply Fr.allocSet | with_reducible apply Fr.alloc | with_reducible apply Fr.drewN | with_reducible apply Fr.drew | ((with_reducible apply Fr.set); rotate_left; (right; ((try simp only [alloc_size]); omega))) | (refine Fr.trans ?_ (by assumption)))))
    clear hf5 hf6 w5
    (((apply vL_val); (case h => ((apply opv_assign); ((conv => lhs; whnf) <;> exact rfl)))); apply vL_nil; apply seqP_normal; (iterate 2 (apply vC_seq)))
    refine vC_draw' (fun wf => Fr No w6 wf) ((Fr.refl No w6).drew) ?_
    ((apply (tk 0)); (case hi => exact rfl); (case hf => kernel_rfl); (case hS => (repeat (first | exact Fr.refl _ _ | assumption | with_reducible apply Fr.allocSet | with_reducible apply Fr.alloc | with_reducible apply Fr.drewN | with_reducible apply Fr.drew | ((with_reducible apply Fr.set); rotate_left; (right; ((try simp only [alloc_size]); omega))) | (refine Fr.trans ?_ (by assumption))))); (case hy => (intro wf hwf; haveI := From.mk hwf; (((apply opv_loadb1); exact rfl; exact rfl; (first | assumption | infer_instance); exact rfl)))))
    ((apply (tk 1)); (case hi => exact rfl); (case hf => kernel_rfl); (case hS => (repeat (first | exact Fr.refl _ _ | assumption | with_reducible apply Fr.allocSet | with_reducible apply Fr.alloc | with_reducible apply Fr.drewN | with_reducible apply Fr.drew | ((with_reducible apply Fr.set); rotate_left; (right; ((try simp only [alloc_size]); omega))) | (refine Fr.trans ?_ (by assumption))))); (case hy => (intro wf hwf; haveI := From.mk hwf; (((apply opv_E); exact rfl)))))
    ((apply (tk 2)); (case hi => exact rfl); (case hf => kernel_rfl); (case hS => (repeat (first | exact Fr.refl _ _ | assumption | with_reducible apply Fr.allocSet | with_reducible apply Fr.alloc | with_reducible apply Fr.drewN | with_reducible apply Fr.drew | ((with_reducible apply Fr.set); rotate_left; (right; ((try simp only [alloc_size]); omega))) | (refine Fr.trans ?_ (by assumption))))); (case hy => (intro wf hwf; haveI := From.mk hwf; (((apply opv_fieldAddr); exact rfl)))))
    ((apply (tk 3)); (case hi => exact rfl); (case hf => kernel_rfl); (case hS => (repeat (first | exact Fr.refl _ _ | assumption | with_reducible apply Fr.allocSet | with_reducible apply Fr.alloc | with_reducible apply Fr.drewN | with_reducible apply Fr.drew | ((with_reducible apply Fr.set); rotate_left; (right; ((try simp only [alloc_size]); omega))) | (refine Fr.trans ?_ (by assumption))))); (case hy => (intro wf hwf; haveI := From.mk hwf; (((apply opv_loadb1); exact rfl; exact rfl; (first | assumption | infer_instance); exact rfl)))))
    ((apply (tk 5)); (case hi => exact rfl); (case hf => kernel_rfl); (case hS => (repeat (first | exact Fr.refl _ _ | assumption | with_reducible apply Fr.allocSet | with_reducible apply Fr.alloc | with_reducible apply Fr.drewN | with_reducible apply Fr.drew | ((with_reducible apply Fr.set); rotate_left; (right; ((try simp only [alloc_size]); omega))) | (refine Fr.trans ?_ (by assumption))))); (case hy => (intro wf hwf; haveI := From.mk hwf; (((apply opv_loadb1); exact rfl; exact rfl; (first | assumption | infer_instance); exact rfl)))))
    ((apply (tk 6)); (case hi => exact rfl); (case hf => kernel_rfl); (case hS => (repeat (first | exact Fr.refl _ _ | assumption | with_reducible apply Fr.allocSet | with_reducible apply Fr.alloc | with_reducible apply Fr.drewN | with_reducible apply Fr.drew | ((with_reducible apply Fr.set); rotate_left; (right; ((try simp only [alloc_size]); omega))) | (refine Fr.trans ?_ (by assumption))))); (case hy => (intro wf hwf; haveI := From.mk hwf; (((apply opv_E); exact rfl)))))
    ((apply (tk 7)); (case hi => exact rfl); (case hf => kernel_rfl); (case hS => (repeat (first | exact Fr.refl _ _ | assumption | with_reducible apply Fr.allocSet | with_reducible apply Fr.alloc | with_reducible apply Fr.drewN | with_reducible apply Fr.drew | ((with_reducible apply Fr.set); rotate_left; (right; ((try simp only [alloc_size]); omega))) | (refine Fr.trans ?_ (by assumption))))); (case hy => (intro wf hwf; haveI := From.mk hwf; (((apply opv_fieldAddr); exact rfl)))))
    ((apply (tk 8)); (case hi => exact rfl); (case hf => kernel_rfl); (case hS => (repeat (first | exact Fr.refl _ _ | assumption | with_reducible apply Fr.allocSet | with_reducible apply Fr.alloc | with_reducible apply Fr.drewN | with_reducible apply Fr.drew | ((with_reducible apply Fr.set); rotate_left; (right; ((try simp only [alloc_size]); omega))) | (refine Fr.trans ?_ (by assumption))))); (case hy => (intro wf hwf; haveI := From.mk hwf; (((apply opv_loadb1); exact rfl; exact rfl; (first | assumption | infer_instance); exact rfl)))))
    ((apply (tk 12)); (case hi => exact rfl); (case hf => kernel_rfl); (case hS => (repeat (first | exact Fr.refl _ _ | assumption | with_reducible apply Fr.allocSet | with_reducible apply Fr.alloc | with_reducible apply Fr.drewN | with_reducible apply Fr.drew | ((with_reducible apply Fr.set); rotate_left; (right; ((try simp only [alloc_size]); omega))) | (refine Fr.trans ?_ (by assumption))))); (case hy => (intro wf hwf; haveI := From.mk hwf; (((apply opv_E); exact rfl)))))
    (refine tkc 4 rfl (by kernel_rfl) (by (repeat (first | exact Fr.refl _ _ | assumption | with_reducible apply Fr.allocSet | with_reducible apply Fr.alloc | with_reducible apply Fr.drewN | with_reducible apply Fr.drew | ((with_reducible apply Fr.set); rotate_left; (right; ((try simp only [alloc_size]); omega))) | (refine Fr.trans ?_ (by assumption))))) rfl (wq_ready j6d.W j6d.a) rfl ?_)
    rintro u7 w7 ⟨hf7, ho7, hone7, hfr7⟩
    obtain ⟨ua, un, uc, rfl⟩ := ho7.isSlice
    have hf67 : Fr No w6 w7 := Fr.trans (Fr.refl No w6).drew hf7
    (refine tkc 9 rfl (by kernel_rfl) (by (repeat (first | exact Fr.refl _ _ | assumption | with_reducible apply Fr.allocSet | with_reducible apply Fr.alloc | with_reducible apply Fr.drewN | with_reducible apply Fr.drew | ((with_reducible apply Fr.set); rotate_left; (right; ((try simp only [alloc_size]); omega))) | (refine Fr.trans ?_ (by assumption))))) rfl (wq_parked (j6.frN hf67).W (by omega)) rfl ?_)
    rintro u8 w8 ⟨hf8, ho8, hone8, hfr8⟩
    obtain ⟨va, vn, vc, rfl⟩ := ho8.isSlice
    have hf68 : Fr No w6 w8 := hf67.trans hf8
    obtain ⟨t1, t2, t3⟩ := told j6.a hno4
    have hpl := parkedA_len S4.tasks S4.tasks.length
    have hll := j6.a.len
    have hlf := j6.a.few
    refine vA_one 10 (by kernel_rfl) (by (repeat (first | exact Fr.refl _ _ | assumption | with_reducible apply Fr.allocSet | with_reducible apply Fr.alloc | with_reducible apply Fr.drewN | with_reducible apply Fr.drew | ((with_reducible apply Fr.set); rotate_left; (right; ((try simp only [alloc_size]); omega))) | (refine Fr.trans ?_ (by assumption))))) rfl (fun J hJ => ?_)
    refine vL_append (enc := iE) (xs := S4.line) (ys := parkedA S4.tasks S4.tasks.length) (T := 3) (sz := 1) (by (first | exact norm_eq rfl | ((conv => lhs; whnf) <;> exact rfl))) (by (first | exact norm_eq rfl | ((conv => lhs; whnf) <;> exact rfl))) (ho7.frN hf8) ho8.rd rfl (by decide) ?_ ?_ ?_
    · simp only [maxLen]; omega
    · omega
    intro v9 w9 ho9 hf9 hfr9 hone9 _
    have hf69 : Fr No w6 w9 := hf68.trans' hf9 (fun i hi => .inr (by have := hfr7 i hi; simpa using this))
    obtain ⟨xa, xc, rfl⟩ := ho9.rd.len
    refine vL_nil ⟨rfl, hJ _ _ ?_⟩
    ((apply (tk 11)); (case hi => exact rfl); (case hf => kernel_rfl); (case hS => (repeat (first | exact Fr.refl _ _ | assumption | with_reducible apply Fr.allocSet | with_reducible apply Fr.alloc | with_reducible apply Fr.drewN | with_reducible apply Fr.drew | ((with_reducible apply Fr.set); rotate_left; (right; ((try simp only [alloc_size]); omega))) | (refine Fr.trans ?_ (by assumption))))); (case hy => (intro wf hwf; haveI := From.mk hwf; (((apply opv_lenc); exact rfl)))))
    refine vA_done (by kernel_rfl) (by (first | exact trivial | ((repeat (first | exact Fr.refl _ _ | assumption | with_reducible apply Fr.allocSet | with_reducible apply Fr.alloc | with_reducible apply Fr.drewN | with_reducible apply Fr.drew | ((with_reducible apply Fr.set); rotate_left; (right; ((try simp only [alloc_size]); omega))) | (refine Fr.trans ?_ (by assumption)))); done))) ?_
    have hm9 := hm6.frN hf69
    have hf49 := hf46.trans hf69
    have hcb9 := hcb4.frN hf49
    have hw9 := hw4.frN hf49
    have hwt9 := hwt4.frN hf49
    have hx9 : ∀ (i : Nat) b a, bs4[i]? = some b → S4.tasks[i]? = some a → ∃ x : TK, Blk w9.heap b (tkL rb i x) 75 ∧ x.over = decide (a.st = 0) := fun i b a hb ha => by
      obtain ⟨x, h1, h2⟩ := hbx4 i b a hb ha
      exact ⟨x, h1.frN hf49, h2⟩
    have hLs : (S4.line ++ parkedA S4.tasks S4.tasks.length).length ≤ 1000000 := by rw [List.length_append]; omega
    generalize (S4.line ++ parkedA S4.tasks S4.tasks.length) = L at *
    clear hf46 hf69 hf68 hf67 hf7 hf8 hf9 ho7 ho8 hfr9 hfr7 hfr8 hm6 hcb6 hw6 j6 j6d hE4
    (apply seqP_normal; apply vC_block)
    (apply vC_loop1 5444517870101190115299879018159939797008 99 (fun u w' => ∃ (q : Nat) (M : List (Int × Bool)), u = .int .i64 (q : Int) ∧ q ≤ L.length ∧ Fr (fun b => b = r) w9 w' ∧ Mp w'.heap r ikE Value.bool M ∧ MSet M (L.take q)) (fun u _ => L.length - (RowKit.intOf u).toNat)); (case h1 => (first | exact norm_eq rfl | ((conv => lhs; whnf) <;> exact rfl)))
    case h0 => exact ⟨0, [], rfl, by omega, Fr.refl _ _, hm9, MSet.nil⟩
    case round =>
    rintro junk5 _ w10 ⟨q, M, rfl, hq, hf10, hm10, ms⟩
    have hcb10 := hcb9.fr hf10 (hm9.ne_blk hcb9)
    have hw10 := hw9.fr hf10 (hm9.ne_blk hw9)
    have hwt10 := hwt9.fr hf10 (fun b hb h => hm9.ne_own hwt9 (h ▸ hb))
    have hv10 := ho9.fr hf10 (fun b hb h => hm9.ne_own ho9 (h ▸ hb))
    by_cases hql : q < L.length
    · obtain ⟨x, hx⟩ : ∃ x, L[q]? = some x := ⟨L[q], List.getElem?_eq_getElem hql⟩
      have hx' : L[((q : Nat) : Int).toNat]? = some x := by rw [Int.toNat_natCast]; exact hx
      obtain ⟨i, t, rfl, ht, hst⟩ := t2 x (List.mem_of_getElem? hx)
      have hil := (List.getElem?_eq_some_iff.1 ht).1
      obtain ⟨bb, hbb⟩ : ∃ bb, bs4[i]? = some bb := ⟨bs4[i]'(by omega), List.getElem?_eq_getElem _⟩
      have hbb' : bs4[((i : Nat) : Int).toNat]? = some bb := by rw [Int.toNat_natCast]; exact hbb
      obtain ⟨y, hy, hov⟩ := hx9 i bb t hbb ht
      have hy10 := hy.fr hf10 (hm9.ne_blk hy)
      have hnin : (i : Int) ∉ L.take q := fun h => by
        obtain ⟨j, hj, e⟩ := List.getElem_of_mem h
        rw [List.length_take] at hj
        rw [List.getElem_take] at e
        have e2 := (List.getElem?_eq_some_iff.1 hx).2
        have := (List.getElem_inj (h₀ := by omega) (h₁ := hql) t1).1 (e.trans e2.symm)
        omega
      have hlk : ((mget M (i : Int)).map Value.bool).getD (.bool false) = .bool false := by
        rw [ms.get]; simp [hnin]
      (apply vC_seq; apply vC_region; ((apply vL_val); (case h => ((apply opv_E); exact rfl))); apply vL_nil; apply seqP_normal; apply vC_seq; (refine vC_cond_dec rfl (fun _ => ?_) (fun h => by omega)); apply vC_skip; apply seqP_normal; apply vC_seq; apply vC_block; apply vC_seq; apply vC_region; ((apply vL_val); (case h => ((apply opv_indexAddr); (first | exact norm_eq rfl | ((conv => lhs; whnf) <;> exact rfl)); exact rfl; (first | assumption | infer_instance); (first | omega | (simp only [List.length_map]; omega)); (first | omega | (simp only [List.length_map]; omega))))); ((apply vL_val); (case h => ((apply opv_ld_el); exact rfl; exact rfl; (first | assumption | infer_instance); assumption; exact rfl))); ((apply vL_val); (case h => ((apply opv_E); exact rfl))); apply vL_nil; apply seqP_normal; (iterate 2 (apply vC_seq)); apply vC_region; ((apply vL_val); (case h => ((apply opv_move); ((conv => lhs; whnf) <;> exact rfl)))); ((apply vL_val); (case h => ((apply opv_E); exact rfl))))
      apply vL_val
      (case h => exact opv_lookup' (kE := ikE) (vE := Value.bool) (key := (i : Int)) rfl rfl hm10 hlk)
      (((apply vL_val); (case h => ((apply opv_E); exact rfl))); ((apply vL_wanted); exact rfl); ((apply vL_val); (case h => ((apply opv_E); exact rfl))); ((apply vL_wanted); exact rfl); (iterate 3 (((apply vL_val); (case h => ((apply opv_E); exact rfl))))); ((apply vL_wanted); exact rfl); ((apply vL_val); (case h => ((apply opv_E); exact rfl))); ((apply vL_wanted); exact rfl); ((apply vL_val); (case h => ((apply opv_loadb1); exact rfl; exact rfl; (first | assumption | infer_instance); exact rfl))); ((apply vL_wanted); exact rfl); ((apply vL_val); (case h => ((apply opv_E); exact rfl))); ((apply vL_wanted); exact rfl); ((apply vL_val); (case h => ((apply opv_fieldAddr); exact rfl))); ((apply vL_wanted); exact rfl); ((apply vL_val); (case h => ((apply opv_loadb1); exact rfl; exact rfl; (first | assumption | infer_instance); exact rfl))); ((apply vL_wanted); exact rfl); ((apply vL_val); (case h => ((apply opv_len); (first | exact norm_eq rfl | ((conv => lhs; whnf) <;> exact rfl)); (first | assumption | infer_instance)))); ((apply vL_wanted); exact rfl); (iterate 3 (((apply vL_val); (case h => ((apply opv_E); exact rfl))))); (refine vL_or rfl rfl (fun _ => ?_) (fun h => by omega)); ((apply vL_val); (case h => ((apply opv_loadb1); exact rfl; exact rfl; (first | assumption | infer_instance); exact rfl))); ((apply vL_wanted); exact rfl); ((apply vL_val); (case h => ((apply opv_E); exact rfl))); ((apply vL_wanted); exact rfl); ((apply vL_val); (case h => ((apply opv_fieldAddr); exact rfl))); ((apply vL_wanted); exact rfl); ((apply vL_val); (case h => ((apply opv_loadb1); exact rfl; exact rfl; (first | assumption | infer_instance); exact rfl))); ((apply vL_wanted); exact rfl); ((apply vL_val); (case h => ((apply opv_E); exact rfl))); ((apply vL_wanted); exact rfl); ((apply vL_val); (case h => ((apply opv_indexAddr); (first | exact norm_eq rfl | ((conv => lhs; whnf) <;> exact rfl)); exact rfl; (first | assumption | infer_instance); (first | omega | (simp only [List.length_map]; omega)); (first | omega | (simp only [List.length_map]; omega))))); ((apply vL_wanted); exact rfl); ((apply vL_val); (case h => ((apply opv_ld_el); exact rfl; exact rfl; (first | assumption | infer_instance); assumption; exact rfl))); ((apply vL_wanted); exact rfl))
      refine vL_callF rfl (t_over hy10) rfl ?_
      rintro _ _ ⟨rfl, rfl⟩
      rw [hov, decide_eq_false hst]
      (((apply vL_val); (case h => ((apply opv_E); exact rfl))); apply vL_nil; apply seqP_normal; ((apply vC_cond_false); exact rfl); apply vC_skip; apply seqP_normal; apply vC_region; ((apply vL_val); (case h => ((apply opv_move); ((conv => lhs; whnf) <;> exact rfl)))); ((apply vL_val); (case h => ((apply opv_E); exact rfl))))
      refine vL_mapUpdate (kE := ikE) (vE := Value.bool) (key := (i : Int)) (val := true) rfl rfl rfl hm10 ?_
      intro w11 hm11 hf11
      (apply vL_nil; apply blockP_normal; apply seqP_normal; apply vC_region; ((apply vL_val); (case h => ((apply opv_add); exact rfl; exact rfl; (first | omega | (simp only [List.length_map]; omega))))); ((apply vL_val); (case h => ((apply opv_E); exact rfl))); apply vL_nil; apply loopP_normal)
      (with_reducible apply end1); (case hs => (repeat (first | (with_reducible exact same_mask _ _ _) | with_reducible apply same_updN | ((with_reducible refine same_updO ?_ ?_); rotate_left; exact rfl) | ((with_reducible refine same_upd ?_ ?_); rotate_left; exact rfl) | ((with_reducible refine same_maskIn ?_ ?_); rotate_left; exact rfl)))); (case h1 => (first | exact norm_eq rfl | ((conv => lhs; whnf) <;> exact rfl)))
      · refine ⟨q + 1, _, rfl, by omega, hf10.trans hf11, hm11, ?_⟩
        rw [take_next hx]
        exact ms.add hnin
      · simp [RowKit.intOf]; omega
    obtain rfl : q = L.length := by omega
    rw [List.take_length] at ms
    (apply vC_seq; apply vC_region; ((apply vL_val); (case h => ((apply opv_E); exact rfl))); apply vL_nil; apply seqP_normal; apply vC_seq; (refine vC_cond_dec rfl (fun h => by omega) (fun _ => ?_)); apply vC_exit; apply seqP_exit; apply loopP_exit; apply blockP_exit; apply seqP_normal; apply vC_seq; apply vC_region; ((apply vL_val); (case h => ((apply opv_loadb1); exact rfl; exact rfl; (first | assumption | infer_instance); exact rfl))); ((apply vL_val); (case h => ((apply opv_E); exact rfl))); ((apply vL_val); (case h => ((apply opv_fieldAddr); exact rfl))); ((apply vL_val); (case h => ((apply opv_loadb1); exact rfl; exact rfl; (first | assumption | infer_instance); exact rfl))); ((apply vL_val); (case h => ((apply opv_len); (first | exact norm_eq rfl | ((conv => lhs; whnf) <;> exact rfl)); (first | assumption | infer_instance)))); ((apply vL_val); (case h => ((apply opv_E); exact rfl))); apply vL_nil; apply seqP_normal; apply vC_block)
    (apply vC_loop1 5708816546251976003739850629998975480206819344 137 (fun u w' => ∃ (q : Nat), u = .int .i64 (q : Int) ∧ q ≤ S4.tasks.length ∧ w10 = w') (fun u _ => S4.tasks.length - (RowKit.intOf u).toNat)); (case h1 => (first | exact norm_eq rfl | ((conv => lhs; whnf) <;> exact rfl)))
    case h0 => exact ⟨0, rfl, by omega, rfl⟩
    case round =>
    rintro junk6 _ _ ⟨q, rfl, hq4, rfl⟩
    by_cases hql : q < S4.tasks.length
    · obtain ⟨t, ht⟩ : ∃ t, S4.tasks[q]? = some t := ⟨S4.tasks[q], List.getElem?_eq_getElem hql⟩
      obtain ⟨bb, hbb⟩ : ∃ bb, bs4[q]? = some bb := ⟨bs4[q]'(by omega), List.getElem?_eq_getElem _⟩
      have hbb' : bs4[((q : Nat) : Int).toNat]? = some bb := by rw [Int.toNat_natCast]; exact hbb
      obtain ⟨y, hy, hov⟩ := hx9 q bb t hbb ht
      have hy10 := hy.fr hf10 (hm9.ne_blk hy)
      (apply vC_seq; apply vC_region; ((apply vL_val); (case h => ((apply opv_E); exact rfl))); apply vL_nil; apply seqP_normal; apply vC_seq; (refine vC_cond_dec rfl (fun _ => ?_) (fun h => by omega)); apply vC_skip; apply seqP_normal; apply vC_seq; apply vC_block; apply vC_seq; apply vC_region; ((apply vL_val); (case h => ((apply opv_E); exact rfl))); ((apply vL_val); (case h => ((apply opv_indexAddr); (first | exact norm_eq rfl | ((conv => lhs; whnf) <;> exact rfl)); exact rfl; (first | assumption | infer_instance); (first | omega | (simp only [List.length_map]; omega)); (first | omega | (simp only [List.length_map]; omega))))); ((apply vL_val); (case h => ((apply opv_ld_el); exact rfl; exact rfl; (first | assumption | infer_instance); assumption; exact rfl))); (iterate 2 (((apply vL_val); (case h => ((apply opv_E); exact rfl))))); apply vL_nil; apply seqP_normal; apply vC_seq; apply vC_region; ((apply vL_val); (case h => ((apply opv_E); exact rfl))))
      refine vL_callF rfl (t_over hy10) rfl ?_
      rintro _ _ ⟨rfl, rfl⟩
      by_cases hst : t.st = 0
      · rw [hov, decide_eq_true hst]
        (((apply vL_val); (case h => ((apply opv_not); exact rfl))); ((apply vL_val); (case h => ((apply opv_E); exact rfl))); (iterate 4 (((apply vL_unwanted'); exact rfl; exact rfl))); ((apply vL_val); (case h => ((apply opv_E); exact rfl))); apply vL_nil; apply seqP_normal; ((apply vC_cond_false); exact rfl); apply vC_skip; apply blockP_normal; apply seqP_normal; apply vC_region; ((apply vL_val); (case h => ((apply opv_add); exact rfl; exact rfl; (first | omega | (simp only [List.length_map]; omega))))); ((apply vL_val); (case h => ((apply opv_E); exact rfl))); apply vL_nil; apply loopP_normal)
        (with_reducible apply end1); (case hs => (repeat (first | (with_reducible exact same_mask _ _ _) | with_reducible apply same_updN | ((with_reducible refine same_updO ?_ ?_); rotate_left; exact rfl) | ((with_reducible refine same_upd ?_ ?_); rotate_left; exact rfl) | ((with_reducible refine same_maskIn ?_ ?_); rotate_left; exact rfl)))); (case h1 => (first | exact norm_eq rfl | ((conv => lhs; whnf) <;> exact rfl)))
        · exact ⟨q + 1, rfl, by omega, rfl⟩
        · simp [RowKit.intOf]; omega
      · have hlk : ((mget M (q : Int)).map Value.bool).getD (.bool false) = .bool true := by
          rw [ms.get]; simp [t3 q t ht hst]
        rw [hov, decide_eq_false hst]
        (((apply vL_val); (case h => ((apply opv_not); exact rfl))); ((apply vL_val); (case h => ((apply opv_E); exact rfl))); ((apply vL_wanted); exact rfl); ((apply vL_val); (case h => ((apply opv_move); ((conv => lhs; whnf) <;> exact rfl)))); ((apply vL_wanted); exact rfl); ((apply vL_val); (case h => ((apply opv_E); exact rfl))); ((apply vL_wanted); exact rfl))
        apply vL_val
        (case h => exact opv_lookup' (kE := ikE) (vE := Value.bool) (key := (q : Int)) rfl rfl hm10 hlk)
        (((apply vL_wanted); exact rfl); ((apply vL_val); (case h => ((apply opv_not); exact rfl))); ((apply vL_val); (case h => ((apply opv_E); exact rfl))); apply vL_nil; apply seqP_normal; ((apply vC_cond_false); exact rfl); apply vC_skip; apply blockP_normal; apply seqP_normal; apply vC_region; ((apply vL_val); (case h => ((apply opv_add); exact rfl; exact rfl; (first | omega | (simp only [List.length_map]; omega))))); ((apply vL_val); (case h => ((apply opv_E); exact rfl))); apply vL_nil; apply loopP_normal)
        (with_reducible apply end1); (case hs => (repeat (first | (with_reducible exact same_mask _ _ _) | with_reducible apply same_updN | ((with_reducible refine same_updO ?_ ?_); rotate_left; exact rfl) | ((with_reducible refine same_upd ?_ ?_); rotate_left; exact rfl) | ((with_reducible refine same_maskIn ?_ ?_); rotate_left; exact rfl)))); (case h1 => (first | exact norm_eq rfl | ((conv => lhs; whnf) <;> exact rfl)))
        · exact ⟨q + 1, rfl, by omega, rfl⟩
        · simp [RowKit.intOf]; omega
    obtain rfl : q = S4.tasks.length := by omega
    have hf410 : Fr No w4 w10 := hf49.trans' hf10 (fun b hb => .inr (by rw [hb]; exact hr6))
    (apply vC_seq; apply vC_region; ((apply vL_val); (case h => ((apply opv_E); exact rfl))); apply vL_nil; apply seqP_normal; apply vC_seq; (refine vC_cond_dec rfl (fun h => by omega) (fun _ => ?_)); apply vC_exit; apply seqP_exit; apply loopP_exit; apply blockP_exit; apply blockP_normal; apply seqP_normal; apply vC_region; ((apply vL_val); (case h => ((apply opv_E); exact rfl))); ((apply vL_val); (case h => ((apply opv_add); exact rfl; exact rfl; (first | omega | (simp only [List.length_map]; omega))))); ((apply vL_val); (case h => ((apply opv_E); exact rfl))); apply vL_nil; apply loopP_normal)
    (with_reducible apply end1); (case hs => (repeat (first | (with_reducible exact same_mask _ _ _) | with_reducible apply same_updN | ((with_reducible refine same_updO ?_ ?_); rotate_left; exact rfl) | ((with_reducible refine same_upd ?_ ?_); rotate_left; exact rfl) | ((with_reducible refine same_maskIn ?_ ?_); rotate_left; exact rfl)))); (case h1 => (first | exact norm_eq rfl | ((conv => lhs; whnf) <;> exact rfl)))
    · exact ⟨k + 1, K4, S4, rfl, by omega, by omega, j4.frN hf410, hcb4.frN hf410, hno4⟩
    · simp [RowKit.intOf]; omega
  · have hcnt := step_cnt hs j3d.a
    have hno4 := step_no2 hs j3d.a hno
    have hcb4 := hkeep hcb3d hf4
    clear hE3 hF3
    have hE4 : ∃ a b, Blk w4.heap wb [pt rb, .slice (some ⟨pb, po, none⟩) N pc, a, b] 60 := by
      obtain ⟨a, b, c, h, _⟩ := j4.W.see
      exact ⟨a, b, h⟩
    have hF4 := j4.fr
    have hce4 : cntE S4.ev ≤ S4.ev.length := List.length_filter_le _ _
    have hel4 := j4.b.ev
    have htl4 := j4.b.tl
    ((apply (tk 9)); (case hi => exact rfl); (case hf => kernel_rfl); (case hS => (first | exact trivial | assumption | infer_instance | (refine ⟨?_, ?_, ?_⟩ <;> (first | assumption | infer_instance)) | ((repeat (first | exact Fr.refl _ _ | assumption | with_reducible apply Fr.allocSet | with_reducible apply Fr.alloc | with_reducible apply Fr.drewN | with_reducible apply Fr.drew | ((with_reducible apply Fr.set); rotate_left; (right; ((try simp only [alloc_size]); omega))) | (refine Fr.trans ?_ (by assumption)))); done))); (case hy => (rintro wf ⟨hwa, hwb, hwc⟩; (((apply opv_E); exact rfl)))))
    refine vA_done (by kernel_rfl) (by (first | exact trivial | assumption | infer_instance | (refine ⟨?_, ?_, ?_⟩ <;> (first | assumption | infer_instance)) | ((repeat (first | exact Fr.refl _ _ | assumption | with_reducible apply Fr.allocSet | with_reducible apply Fr.alloc | with_reducible apply Fr.drewN | with_reducible apply Fr.drew | ((with_reducible apply Fr.set); rotate_left; (right; ((try simp only [alloc_size]); omega))) | (refine Fr.trans ?_ (by assumption)))); done))) ?_
    obtain ⟨wt4, we4, bs4, hw4, hwt4, hev4, p1, p2, p3, hbl4, hbx4⟩ := j4.W.see
    (apply seqP_normal; (iterate 2 (apply vC_seq)); apply vC_region; ((apply vL_val); (case h => ((apply opv_E); exact rfl))))
    refine vL_callF rfl (turns15 w4 hcb4 hw4 hev4.rd p1 p2 (by omega)) rfl ?_
    rintro _ w5 ⟨rfl, hf5⟩
    (((apply vL_val); (case h => ((apply opv_E); exact rfl))); apply vL_nil; apply seqP_normal; apply vC_seq; apply vC_region; (iterate 2 (((apply vL_val); (case h => ((apply opv_E); exact rfl))))); ((apply vL_wanted); exact rfl); ((apply vL_val); (case h => ((apply opv_E); exact rfl))); ((apply vL_wanted); exact rfl); ((apply vL_val); (case h => ((apply opv_E); exact rfl))); ((apply vL_wanted); exact rfl); ((apply vL_val); (case h => ((apply opv_add); exact rfl; exact rfl; (first | omega | (simp only [List.length_map]; omega))))); ((apply vL_wanted); exact rfl); (iterate 3 (((apply vL_val); (case h => ((apply opv_E); exact rfl))))); (refine vL_or rfl rfl (fun _ => ?_) (fun h => by omega)); ((apply vL_val); (case h => ((apply opv_E); exact rfl))); ((apply vL_wanted); exact rfl); ((apply vL_val); (case h => ((apply opv_not); exact rfl))); ((apply vL_wanted); exact rfl); ((apply vL_val); (case h => ((apply opv_E); exact rfl))); (iterate 3 (((apply vL_unwanted'); exact rfl; exact rfl))); ((apply vL_wanted); exact rfl); (iterate 2 (((apply vL_val); (case h => ((apply opv_E); exact rfl))))); apply vL_nil; apply seqP_normal; ((apply vC_cond_false); exact rfl); apply vC_skip; apply seqP_normal; apply vC_seq; apply vC_region)
    apply vL_val
    (case h => exact opw_makeMap)
    refine vL_gen (fun w' => Fr No w5 w' ∧ Mp w'.heap w5.heap.size ikE Value.bool []) ⟨by (repeat (first | exact Fr.refl _ _ | assumption | with_reducible apply Fr.allocSet | with_reducible apply Fr.alloc | with_reducible apply Fr.drewN | with_reducible apply Fr.drew | ((with_reducible apply Fr.set); rotate_left; (right; ((try simp only [alloc_size]); omega))) | (refine Fr.trans ?_ (by assumption)))), Mp.new ikE Value.bool⟩ ?_
    rintro w6 ⟨hf6, hm6⟩
    have hr6 : w4.heap.size ≤ w5.heap.size := hf5.size
    generalize w5.heap.size = r at *
    have hf46 := hf5.trans hf6
    have j6 := j4.frN hf46
    have hcb6 := hcb4.frN hf46
    have hw6 := hw4.frN hf46
    have j6d := j6.frN (show Fr No w6 w6.drew by (repeat (first | exact Fr.refl _ _ | assumption | with_reducible apply Fr.allocSet | with_reducible apply Fr.alloc | with_reducible apply Fr.drewN | with_reducible apply Fr.drew | ((with_reducible apply Fr.set); rotate_left; (right; ((try simp only [alloc_size]); omega))) | (refine Fr.trans ?_ (by assumption)))))
    clear hf5 hf6 w5
    (((apply vL_val); (case h => ((apply opv_assign); ((conv => lhs; whnf) <;> exact rfl)))); apply vL_nil; apply seqP_normal; (iterate 2 (apply vC_seq)))
    refine vC_draw' (fun wf => Fr No w6 wf) ((Fr.refl No w6).drew) ?_
    ((apply (tk 0)); (case hi => exact rfl); (case hf => kernel_rfl); (case hS => (repeat (first | exact Fr.refl _ _ | assumption | with_reducible apply Fr.allocSet | with_reducible apply Fr.alloc | with_reducible apply Fr.drewN | with_reducible apply Fr.drew | ((with_reducible apply Fr.set); rotate_left; (right; ((try simp only [alloc_size]); omega))) | (refine Fr.trans ?_ (by assumption))))); (case hy => (intro wf hwf; haveI := From.mk hwf; (((apply opv_loadb1); exact rfl; exact rfl; (first | assumption | infer_instance); exact rfl)))))
    ((apply (tk 1)); (case hi => exact rfl); (case hf => kernel_rfl); (case hS => (repeat (first | exact Fr.refl _ _ | assumption | with_reducible apply Fr.allocSet | with_reducible apply Fr.alloc | with_reducible apply Fr.drewN | with_reducible apply Fr.drew | ((with_reducible apply Fr.set); rotate_left; (right; ((try simp only [alloc_size]); omega))) | (refine Fr.trans ?_ (by assumption))))); (case hy => (intro wf hwf; haveI := From.mk hwf; (((apply opv_E); exact rfl)))))
    ((apply (tk 2)); (case hi => exact rfl); (case hf => kernel_rfl); (case hS => (repeat (first | exact Fr.refl _ _ | assumption | with_reducible apply Fr.allocSet | with_reducible apply Fr.alloc | with_reducible apply Fr.drewN | with_reducible apply Fr.drew | ((with_reducible apply Fr.set); rotate_left; (right; ((try simp only [alloc_size]); omega))) | (refine Fr.trans ?_ (by assumption))))); (case hy => (intro wf hwf; haveI := From.mk hwf; (((apply opv_fieldAddr); exact rfl)))))
    ((apply (tk 3)); (case hi => exact rfl); (case hf => kernel_rfl); (case hS => (repeat (first | exact Fr.refl _ _ | assumption | with_reducible apply Fr.allocSet | with_reducible apply Fr.alloc | with_reducible apply Fr.drewN | with_reducible apply Fr.drew | ((with_reducible apply Fr.set); rotate_left; (right; ((try simp only [alloc_size]); omega))) | (refine Fr.trans ?_ (by assumption))))); (case hy => (intro wf hwf; haveI := From.mk hwf; (((apply opv_loadb1); exact rfl; exact rfl; (first | assumption | infer_instance); exact rfl)))))
    ((apply (tk 5)); (case hi => exact rfl); (case hf => kernel_rfl); (case hS => (repeat (first | exact Fr.refl _ _ | assumption | with_reducible apply Fr.allocSet | with_reducible apply Fr.alloc | with_reducible apply Fr.drewN | with_reducible apply Fr.drew | ((with_reducible apply Fr.set); rotate_left; (right; ((try simp only [alloc_size]); omega))) | (refine Fr.trans ?_ (by assumption))))); (case hy => (intro wf hwf; haveI := From.mk hwf; (((apply opv_loadb1); exact rfl; exact rfl; (first | assumption | infer_instance); exact rfl)))))
    ((apply (tk 6)); (case hi => exact rfl); (case hf => kernel_rfl); (case hS => (repeat (first | exact Fr.refl _ _ | assumption | with_reducible apply Fr.allocSet | with_reducible apply Fr.alloc | with_reducible apply Fr.drewN | with_reducible apply Fr.drew | ((with_reducible apply Fr.set); rotate_left; (right; ((try simp only [alloc_size]); omega))) | (refine Fr.trans ?_ (by assumption))))); (case hy => (intro wf hwf; haveI := From.mk hwf; (((apply opv_E); exact rfl)))))
    ((apply (tk 7)); (case hi => exact rfl); (case hf => kernel_rfl); (case hS => (repeat (first | exact Fr.refl _ _ | assumption | with_reducible apply Fr.allocSet | with_reducible apply Fr.alloc | with_reducible apply Fr.drewN | with_reducible apply Fr.drew | ((with_reducible apply Fr.set); rotate_left; (right; ((try simp only [alloc_size]); omega))) | (refine Fr.trans ?_ (by assumption))))); (case hy => (intro wf hwf; haveI := From.mk hwf; (((apply opv_fieldAddr); exact rfl)))))
    ((apply (tk 8)); (case hi => exact rfl); (case hf => kernel_rfl); (case hS => (repeat (first | exact Fr.refl _ _ | assumption | with_reducible apply Fr.allocSet | with_reducible apply Fr.alloc | with_reducible apply Fr.drewN | with_reducible apply Fr.drew | ((with_reducible apply Fr.set); rotate_left; (right; ((try simp only [alloc_size]); omega))) | (refine Fr.trans ?_ (by assumption))))); (case hy => (intro wf hwf; haveI := From.mk hwf; (((apply opv_loadb1); exact rfl; exact rfl; (first | assumption | infer_instance); exact rfl)))))
    ((apply (tk 12)); (case hi => exact rfl); (case hf => kernel_rfl); (case hS => (repeat (first | exact Fr.refl _ _ | assumption | with_reducible apply Fr.allocSet | with_reducible apply Fr.alloc | with_reducible apply Fr.drewN | with_reducible apply Fr.drew | ((with_reducible apply Fr.set); rotate_left; (right; ((try simp only [alloc_size]); omega))) | (refine Fr.trans ?_ (by assumption))))); (case hy => (intro wf hwf; haveI := From.mk hwf; (((apply opv_E); exact rfl)))))
    (refine tkc 4 rfl (by kernel_rfl) (by (repeat (first | exact Fr.refl _ _ | assumption | with_reducible apply Fr.allocSet | with_reducible apply Fr.alloc | with_reducible apply Fr.drewN | with_reducible apply Fr.drew | ((with_reducible apply Fr.set); rotate_left; (right; ((try simp only [alloc_size]); omega))) | (refine Fr.trans ?_ (by assumption))))) rfl (wq_ready j6d.W j6d.a) rfl ?_)
    rintro u7 w7 ⟨hf7, ho7, hone7, hfr7⟩
    obtain ⟨ua, un, uc, rfl⟩ := ho7.isSlice
    have hf67 : Fr No w6 w7 := Fr.trans (Fr.refl No w6).drew hf7
    (refine tkc 9 rfl (by kernel_rfl) (by (repeat (first | exact Fr.refl _ _ | assumption | with_reducible apply Fr.allocSet | with_reducible apply Fr.alloc | with_reducible apply Fr.drewN | with_reducible apply Fr.drew | ((with_reducible apply Fr.set); rotate_left; (right; ((try simp only [alloc_size]); omega))) | (refine Fr.trans ?_ (by assumption))))) rfl (wq_parked (j6.frN hf67).W (by omega)) rfl ?_)
    rintro u8 w8 ⟨hf8, ho8, hone8, hfr8⟩
    obtain ⟨va, vn, vc, rfl⟩ := ho8.isSlice
    have hf68 : Fr No w6 w8 := hf67.trans hf8
    obtain ⟨t1, t2, t3⟩ := told j6.a hno4
    have hpl := parkedA_len S4.tasks S4.tasks.length
    have hll := j6.a.len
    have hlf := j6.a.few
    refine vA_one 10 (by kernel_rfl) (by (repeat (first | exact Fr.refl _ _ | assumption | with_reducible apply Fr.allocSet | with_reducible apply Fr.alloc | with_reducible apply Fr.drewN | with_reducible apply Fr.drew | ((with_reducible apply Fr.set); rotate_left; (right; ((try simp only [alloc_size]); omega))) | (refine Fr.trans ?_ (by assumption))))) rfl (fun J hJ => ?_)
    refine vL_append (enc := iE) (xs := S4.line) (ys := parkedA S4.tasks S4.tasks.length) (T := 3) (sz := 1) (by (first | exact norm_eq rfl | ((conv => lhs; whnf) <;> exact rfl))) (by (first | exact norm_eq rfl | ((conv => lhs; whnf) <;> exact rfl))) (ho7.frN hf8) ho8.rd rfl (by decide) ?_ ?_ ?_
    · simp only [maxLen]; omega
    · omega
    intro v9 w9 ho9 hf9 hfr9 hone9 _
    have hf69 : Fr No w6 w9 := hf68.trans' hf9 (fun i hi => .inr (by have := hfr7 i hi; simpa using this))
    obtain ⟨xa, xc, rfl⟩ := ho9.rd.len
    refine vL_nil ⟨rfl, hJ _ _ ?_⟩
    ((apply (tk 11)); (case hi => exact rfl); (case hf => kernel_rfl); (case hS => (repeat (first | exact Fr.refl _ _ | assumption | with_reducible apply Fr.allocSet | with_reducible apply Fr.alloc | with_reducible apply Fr.drewN | with_reducible apply Fr.drew | ((with_reducible apply Fr.set); rotate_left; (right; ((try simp only [alloc_size]); omega))) | (refine Fr.trans ?_ (by assumption))))); (case hy => (intro wf hwf; haveI := From.mk hwf; (((apply opv_lenc); exact rfl)))))
    refine vA_done (by kernel_rfl) (by (first | exact trivial | ((repeat (first | exact Fr.refl _ _ | assumption | with_reducible apply Fr.allocSet | with_reducible apply Fr.alloc | with_reducible apply Fr.drewN | with_reducible apply Fr.drew | ((with_reducible apply Fr.set); rotate_left; (right; ((try simp only [alloc_size]); omega))) | (refine Fr.trans ?_ (by assumption)))); done))) ?_
    have hm9 := hm6.frN hf69
    have hf49 := hf46.trans hf69
    have hcb9 := hcb4.frN hf49
    have hw9 := hw4.frN hf49
    have hwt9 := hwt4.frN hf49
    have hx9 : ∀ (i : Nat) b a, bs4[i]? = some b → S4.tasks[i]? = some a → ∃ x : TK, Blk w9.heap b (tkL rb i x) 75 ∧ x.over = decide (a.st = 0) := fun i b a hb ha => by
      obtain ⟨x, h1, h2⟩ := hbx4 i b a hb ha
      exact ⟨x, h1.frN hf49, h2⟩
    have hLs : (S4.line ++ parkedA S4.tasks S4.tasks.length).length ≤ 1000000 := by rw [List.length_append]; omega
    generalize (S4.line ++ parkedA S4.tasks S4.tasks.length) = L at *
    clear hf46 hf69 hf68 hf67 hf7 hf8 hf9 ho7 ho8 hfr9 hfr7 hfr8 hm6 hcb6 hw6 j6 j6d hE4
    (apply seqP_normal; apply vC_block)
    (apply vC_loop1 5444517870101190115299879018159939797008 99 (fun u w' => ∃ (q : Nat) (M : List (Int × Bool)), u = .int .i64 (q : Int) ∧ q ≤ L.length ∧ Fr (fun b => b = r) w9 w' ∧ Mp w'.heap r ikE Value.bool M ∧ MSet M (L.take q)) (fun u _ => L.length - (RowKit.intOf u).toNat)); (case h1 => (first | exact norm_eq rfl | ((conv => lhs; whnf) <;> exact rfl)))
    case h0 => exact ⟨0, [], rfl, by omega, Fr.refl _ _, hm9, MSet.nil⟩
    case round =>
    rintro junk5 _ w10 ⟨q, M, rfl, hq, hf10, hm10, ms⟩
    have hcb10 := hcb9.fr hf10 (hm9.ne_blk hcb9)
    have hw10 := hw9.fr hf10 (hm9.ne_blk hw9)
    have hwt10 := hwt9.fr hf10 (fun b hb h => hm9.ne_own hwt9 (h ▸ hb))
    have hv10 := ho9.fr hf10 (fun b hb h => hm9.ne_own ho9 (h ▸ hb))
    by_cases hql : q < L.length
    · obtain ⟨x, hx⟩ : ∃ x, L[q]? = some x := ⟨L[q], List.getElem?_eq_getElem hql⟩
      have hx' : L[((q : Nat) : Int).toNat]? = some x := by rw [Int.toNat_natCast]; exact hx
      obtain ⟨i, t, rfl, ht, hst⟩ := t2 x (List.mem_of_getElem? hx)
      have hil := (List.getElem?_eq_some_iff.1 ht).1
      obtain ⟨bb, hbb⟩ : ∃ bb, bs4[i]? = some bb := ⟨bs4[i]'(by omega), List.getElem?_eq_getElem _⟩
      have hbb' : bs4[((i : Nat) : Int).toNat]? = some bb := by rw [Int.toNat_natCast]; exact hbb
      obtain ⟨y, hy, hov⟩ := hx9 i bb t hbb ht
      have hy10 := hy.fr hf10 (hm9.ne_blk hy)
      have hnin : (i : Int) ∉ L.take q := fun h => by
        obtain ⟨j, hj, e⟩ := List.getElem_of_mem h
        rw [List.length_take] at hj
        rw [List.getElem_take] at e
        have e2 := (List.getElem?_eq_some_iff.1 hx).2
        have := (List.getElem_inj (h₀ := by omega) (h₁ := hql) t1).1 (e.trans e2.symm)
        omega
      have hlk : ((mget M (i : Int)).map Value.bool).getD (.bool false) = .bool false := by
        rw [ms.get]; simp [hnin]
      (apply vC_seq; apply vC_region; ((apply vL_val); (case h => ((apply opv_E); exact rfl))); apply vL_nil; apply seqP_normal; apply vC_seq; (refine vC_cond_dec rfl (fun _ => ?_) (fun h => by omega)); apply vC_skip; apply seqP_normal; apply vC_seq; apply vC_block; apply vC_seq; apply vC_region; ((apply vL_val); (case h => ((apply opv_indexAddr); (first | exact norm_eq rfl | ((conv => lhs; whnf) <;> exact rfl)); exact rfl; (first | assumption | infer_instance); (first | omega | (simp only [List.length_map]; omega)); (first | omega | (simp only [List.length_map]; omega))))); ((apply vL_val); (case h => ((apply opv_ld_el); exact rfl; exact rfl; (first | assumption | infer_instance); assumption; exact rfl))); ((apply vL_val); (case h => ((apply opv_E); exact rfl))); apply vL_nil; apply seqP_normal; (iterate 2 (apply vC_seq)); apply vC_region; ((apply vL_val); (case h => ((apply opv_move); ((conv => lhs; whnf) <;> exact rfl)))); ((apply vL_val); (case h => ((apply opv_E); exact rfl))))
      apply vL_val
      (case h => exact opv_lookup' (kE := ikE) (vE := Value.bool) (key := (i : Int)) rfl rfl hm10 hlk)
      (((apply vL_val); (case h => ((apply opv_E); exact rfl))); ((apply vL_wanted); exact rfl); ((apply vL_val); (case h => ((apply opv_E); exact rfl))); ((apply vL_wanted); exact rfl); (iterate 3 (((apply vL_val); (case h => ((apply opv_E); exact rfl))))); ((apply vL_wanted); exact rfl); ((apply vL_val); (case h => ((apply opv_E); exact rfl))); ((apply vL_wanted); exact rfl); ((apply vL_val); (case h => ((apply opv_loadb1); exact rfl; exact rfl; (first | assumption | infer_instance); exact rfl))); ((apply vL_wanted); exact rfl); ((apply vL_val); (case h => ((apply opv_E); exact rfl))); ((apply vL_wanted); exact rfl); ((apply vL_val); (case h => ((apply opv_fieldAddr); exact rfl))); ((apply vL_wanted); exact rfl); ((apply vL_val); (case h => ((apply opv_loadb1); exact rfl; exact rfl; (first | assumption | infer_instance); exact rfl))); ((apply vL_wanted); exact rfl); ((apply vL_val); (case h => ((apply opv_len); (first | exact norm_eq rfl | ((conv => lhs; whnf) <;> exact rfl)); (first | assumption | infer_instance)))); ((apply vL_wanted); exact rfl); (iterate 3 (((apply vL_val); (case h => ((apply opv_E); exact rfl))))); (refine vL_or rfl rfl (fun _ => ?_) (fun h => by omega)); ((apply vL_val); (case h => ((apply opv_loadb1); exact rfl; exact rfl; (first | assumption | infer_instance); exact rfl))); ((apply vL_wanted); exact rfl); ((apply vL_val); (case h => ((apply opv_E); exact rfl))); ((apply vL_wanted); exact rfl); ((apply vL_val); (case h => ((apply opv_fieldAddr); exact rfl))); ((apply vL_wanted); exact rfl); ((apply vL_val); (case h => ((apply opv_loadb1); exact rfl; exact rfl; (first | assumption | infer_instance); exact rfl))); ((apply vL_wanted); exact rfl); ((apply vL_val); (case h => ((apply opv_E); exact rfl))); ((apply vL_wanted); exact rfl); ((apply vL_val); (case h => ((apply opv_indexAddr); (first | exact norm_eq rfl | ((conv => lhs; whnf) <;> exact rfl)); exact rfl; (first | assumption | infer_instance); (first | omega | (simp only [List.length_map]; omega)); (first | omega | (simp only [List.length_map]; omega))))); ((apply vL_wanted); exact rfl); ((apply vL_val); (case h => ((apply opv_ld_el); exact rfl; exact rfl; (first | assumption | infer_instance); assumption; exact rfl))); ((apply vL_wanted); exact rfl))
      refine vL_callF rfl (t_over hy10) rfl ?_
      rintro _ _ ⟨rfl, rfl⟩
      rw [hov, decide_eq_false hst]
      (((apply vL_val); (case h => ((apply opv_E); exact rfl))); apply vL_nil; apply seqP_normal; ((apply vC_cond_false); exact rfl); apply vC_skip; apply seqP_normal; apply vC_region; ((apply vL_val); (case h => ((apply opv_move); ((conv => lhs; whnf) <;> exact rfl)))); ((apply vL_val); (case h => ((apply opv_E); exact rfl))))
      refine vL_mapUpdate (kE := ikE) (vE := Value.bool) (key := (i : Int)) (val := true) rfl rfl rfl hm10 ?_
      intro w11 hm11 hf11
      (apply vL_nil; apply blockP_normal; apply seqP_normal; apply vC_region; ((apply vL_val); (case h => ((apply opv_add); exact rfl; exact rfl; (first | omega | (simp only [List.length_map]; omega))))); ((apply vL_val); (case h => ((apply opv_E); exact rfl))); apply vL_nil; apply loopP_normal)
      (with_reducible apply end1); (case hs => (repeat (first | (with_reducible exact same_mask _ _ _) | with_reducible apply same_updN | ((with_reducible refine same_updO ?_ ?_); rotate_left; exact rfl) | ((with_reducible refine same_upd ?_ ?_); rotate_left; exact rfl) | ((with_reducible refine same_maskIn ?_ ?_); rotate_left; exact rfl)))); (case h1 => (first | exact norm_eq rfl | ((conv => lhs; whnf) <;> exact rfl)))
      · refine ⟨q + 1, _, rfl, by omega, hf10.trans hf11, hm11, ?_⟩
        rw [take_next hx]
        exact ms.add hnin
      · simp [RowKit.intOf]; omega
    obtain rfl : q = L.length := by omega
    rw [List.take_length] at ms
    (apply vC_seq; apply vC_region; ((apply vL_val); (case h => ((apply opv_E); exact rfl))); apply vL_nil; apply seqP_normal; apply vC_seq; (refine vC_cond_dec rfl (fun h => by omega) (fun _ => ?_)); apply vC_exit; apply seqP_exit; apply loopP_exit; apply blockP_exit; apply seqP_normal; apply vC_seq; apply vC_region; ((apply vL_val); (case h => ((apply opv_loadb1); exact rfl; exact rfl; (first | assumption | infer_instance); exact rfl))); ((apply vL_val); (case h => ((apply opv_E); exact rfl))); ((apply vL_val); (case h => ((apply opv_fieldAddr); exact rfl))); ((apply vL_val); (case h => ((apply opv_loadb1); exact rfl; exact rfl; (first | assumption | infer_instance); exact rfl))); ((apply vL_val); (case h => ((apply opv_len); (first | exact norm_eq rfl | ((conv => lhs; whnf) <;> exact rfl)); (first | assumption | infer_instance)))); ((apply vL_val); (case h => ((apply opv_E); exact rfl))); apply vL_nil; apply seqP_normal; apply vC_block)
    (apply vC_loop1 5708816546251976003739850629998975480206819344 137 (fun u w' => ∃ (q : Nat), u = .int .i64 (q : Int) ∧ q ≤ S4.tasks.length ∧ w10 = w') (fun u _ => S4.tasks.length - (RowKit.intOf u).toNat)); (case h1 => (first | exact norm_eq rfl | ((conv => lhs; whnf) <;> exact rfl)))
    case h0 => exact ⟨0, rfl, by omega, rfl⟩
    case round =>
    rintro junk6 _ _ ⟨q, rfl, hq4, rfl⟩
    by_cases hql : q < S4.tasks.length
    · obtain ⟨t, ht⟩ : ∃ t, S4.tasks[q]? = some t := ⟨S4.tasks[q], List.getElem?_eq_getElem hql⟩
      obtain ⟨bb, hbb⟩ : ∃ bb, bs4[q]? = some bb := ⟨bs4[q]'(by omega), List.getElem?_eq_getElem _⟩
      have hbb' : bs4[((q : Nat) : Int).toNat]? = some bb := by rw [Int.toNat_natCast]; exact hbb
      obtain ⟨y, hy, hov⟩ := hx9 q bb t hbb ht
      have hy10 := hy.fr hf10 (hm9.ne_blk hy)
      (apply vC_seq; apply vC_region; ((apply vL_val); (case h => ((apply opv_E); exact rfl))); apply vL_nil; apply seqP_normal; apply vC_seq; (refine vC_cond_dec rfl (fun _ => ?_) (fun h => by omega)); apply vC_skip; apply seqP_normal; apply vC_seq; apply vC_block; apply vC_seq; apply vC_region; ((apply vL_val); (case h => ((apply opv_E); exact rfl))); ((apply vL_val); (case h => ((apply opv_indexAddr); (first | exact norm_eq rfl | ((conv => lhs; whnf) <;> exact rfl)); exact rfl; (first | assumption | infer_instance); (first | omega | (simp only [List.length_map]; omega)); (first | omega | (simp only [List.length_map]; omega))))); ((apply vL_val); (case h => ((apply opv_ld_el); exact rfl; exact rfl; (first | assumption | infer_instance); assumption; exact rfl))); (iterate 2 (((apply vL_val); (case h => ((apply opv_E); exact rfl))))); apply vL_nil; apply seqP_normal; apply vC_seq; apply vC_region; ((apply vL_val); (case h => ((apply opv_E); exact rfl))))
      refine vL_callF rfl (t_over hy10) rfl ?_
      rintro _ _ ⟨rfl, rfl⟩
      by_cases hst : t.st = 0
      · rw [hov, decide_eq_true hst]
        (((apply vL_val); (case h => ((apply opv_not); exact rfl))); ((apply vL_val); (case h => ((apply opv_E); exact rfl))); (iterate 4 (((apply vL_unwanted'); exact rfl; exact rfl))); ((apply vL_val); (case h => ((apply opv_E); exact rfl))); apply vL_nil; apply seqP_normal; ((apply vC_cond_false); exact rfl); apply vC_skip; apply blockP_normal; apply seqP_normal; apply vC_region; ((apply vL_val); (case h => ((apply opv_add); exact rfl; exact rfl; (first | omega | (simp only [List.length_map]; omega))))); ((apply vL_val); (case h => ((apply opv_E); exact rfl))); apply vL_nil; apply loopP_normal)
        (with_reducible apply end1); (case hs => (repeat (first | (with_reducible exact same_mask _ _ _) | with_reducible apply same_updN | ((with_reducible refine same_updO ?_ ?_); rotate_left; exact rfl) | ((with_reducible refine same_upd ?_ ?_); rotate_left; exact rfl) | ((with_reducible refine same_maskIn ?_ ?_); rotate_left; exact rfl)))); (case h1 => (first | exact norm_eq rfl | ((conv => lhs; whnf) <;> exact rfl)))
        · exact ⟨q + 1, rfl, by omega, rfl⟩
        · simp [RowKit.intOf]; omega
      · have hlk : ((mget M (q : Int)).map Value.bool).getD (.bool false) = .bool true := by
          rw [ms.get]; simp [t3 q t ht hst]
        rw [hov, decide_eq_false hst]
        (((apply vL_val); (case h => ((apply opv_not); exact rfl))); ((apply vL_val); (case h => ((apply opv_E); exact rfl))); ((apply vL_wanted); exact rfl); ((apply vL_val); (case h => ((apply opv_move); ((conv => lhs; whnf) <;> exact rfl)))); ((apply vL_wanted); exact rfl); ((apply vL_val); (case h => ((apply opv_E); exact rfl))); ((apply vL_wanted); exact rfl))
        apply vL_val
        (case h => exact opv_lookup' (kE := ikE) (vE := Value.bool) (key := (q : Int)) rfl rfl hm10 hlk)
        (((apply vL_wanted); exact rfl); ((apply vL_val); (case h => ((apply opv_not); exact rfl))); ((apply vL_val); (case h => ((apply opv_E); exact rfl))); apply vL_nil; apply seqP_normal; ((apply vC_cond_false); exact rfl); apply vC_skip; apply blockP_normal; apply seqP_normal; apply vC_region; ((apply vL_val); (case h => ((apply opv_add); exact rfl; exact rfl; (first | omega | (simp only [List.length_map]; omega))))); ((apply vL_val); (case h => ((apply opv_E); exact rfl))); apply vL_nil; apply loopP_normal)
        (with_reducible apply end1); (case hs => (repeat (first | (with_reducible exact same_mask _ _ _) | with_reducible apply same_updN | ((with_reducible refine same_updO ?_ ?_); rotate_left; exact rfl) | ((with_reducible refine same_upd ?_ ?_); rotate_left; exact rfl) | ((with_reducible refine same_maskIn ?_ ?_); rotate_left; exact rfl)))); (case h1 => (first | exact norm_eq rfl | ((conv => lhs; whnf) <;> exact rfl)))
        · exact ⟨q + 1, rfl, by omega, rfl⟩
        · simp [RowKit.intOf]; omega
    obtain rfl : q = S4.tasks.length := by omega
    have hf410 : Fr No w4 w10 := hf49.trans' hf10 (fun b hb => .inr (by rw [hb]; exact hr6))
    (apply vC_seq; apply vC_region; ((apply vL_val); (case h => ((apply opv_E); exact rfl))); apply vL_nil; apply seqP_normal; apply vC_seq; (refine vC_cond_dec rfl (fun h => by omega) (fun _ => ?_)); apply vC_exit; apply seqP_exit; apply loopP_exit; apply blockP_exit; apply blockP_normal; apply seqP_normal; apply vC_region; ((apply vL_val); (case h => ((apply opv_E); exact rfl))); ((apply vL_val); (case h => ((apply opv_add); exact rfl; exact rfl; (first | omega | (simp only [List.length_map]; omega))))); ((apply vL_val); (case h => ((apply opv_E); exact rfl))); apply vL_nil; apply loopP_normal)
    (with_reducible apply end1); (case hs => (repeat (first | (with_reducible exact same_mask _ _ _) | with_reducible apply same_updN | ((with_reducible refine same_updO ?_ ?_); rotate_left; exact rfl) | ((with_reducible refine same_upd ?_ ?_); rotate_left; exact rfl) | ((with_reducible refine same_maskIn ?_ ?_); rotate_left; exact rfl)))); (case h1 => (first | exact norm_eq rfl | ((conv => lhs; whnf) <;> exact rfl)))
    · exact ⟨k + 1, K4, S4, rfl, by omega, by omega, j4.frN hf410, hcb4.frN hf410, hno4⟩
    · simp [RowKit.intOf]; omega
end Go.Proofs.Ytaeckjhipmcddaa
