/- Layer 27: Owner; the chapter's example. -/
import Derived.Test.YtfceebbkjogedaaAe
set_option maxRecDepth 100000
namespace Go.Proofs.Ytfceebbkjogedaa
open Go Go.Eng
theorem index_plc (v : Value) (xs : List (ByteArray × Int)) (y : ByteArray × Int) (w : World) (hr : Rd w.heap 2 tE v xs) :
    Rets Try.prog 92 #[v, .agg (tE y).toArray] w fun u w' => Fr No w w' ∧ ((u = .int .i64 (-1) ∧ y ∉ xs) ∨ ∃ k : Nat, u = .int .i64 k ∧ k < xs.length ∧ xs[k]? = some y) := by
  have hs := hr.small
  refine rets_of Try.func92 rfl Try.ntmps92 rfl rfl (by kernel_rfl) ?_
  (apply vC_seq; apply vC_region; ((apply vL_val); (case h => ((apply opw_boxn); exact rfl))); ((apply vL_val); (case h => ((apply opv_E); exact rfl))); apply vL_nil; apply seqP_normal; (iterate 2 (apply vC_seq)); apply vC_region; ((apply vL_val); (case h => ((apply opv_move); ((conv => lhs; whnf) <;> exact rfl)))); ((apply vL_val); (case h => ((apply opv_len); (first | exact norm_eq rfl | ((conv => lhs; whnf) <;> exact rfl)); (first | assumption | infer_instance)))); ((apply vL_val); (case h => ((apply opv_E); exact rfl))); apply vL_nil; apply seqP_normal; apply vC_block)
  have hby : Blk (w.alloc (.cells (tE y).toArray 70)).heap w.heap.size (tE y) 70 := inferInstance
  (apply vC_loop1 524080 8 (fun u w' => ∃ k : Nat, u = .int .i64 k ∧ k ≤ xs.length ∧ Fr No (w.alloc (.cells (tE y).toArray 70)) w' ∧ ∀ j : Nat, j < k → ∀ x, xs[j]? = some x → x ≠ y) (fun u _ => xs.length - (RowKit.intOf u).toNat)); (case h1 => (first | exact norm_eq rfl | ((conv => lhs; whnf) <;> exact rfl)))
  case h0 => exact ⟨0, rfl, by omega, Fr.refl _ _, by omega⟩
  case round =>
  rintro junk _ w1 ⟨k, rfl, hk, hf, hp⟩
  have hby1 := hby.frN hf
  have hf0 : Fr No w w1 := Fr.trans (by (repeat (first | exact Fr.refl _ _ | assumption | with_reducible apply Fr.allocSet | with_reducible apply Fr.alloc | with_reducible apply Fr.drewN | with_reducible apply Fr.drew | ((with_reducible apply Fr.set); rotate_left; (right; ((try simp only [alloc_size]); omega))) | (refine Fr.trans ?_ (by assumption))))) hf
  have hr1 := hr.frN hf0
  by_cases hk' : k < xs.length
  · obtain ⟨x, hx⟩ : ∃ x, xs[k]? = some x := ⟨xs[k], by simp [hk']⟩
    (apply vC_seq; apply vC_region; ((apply vL_val); (case h => ((apply opv_E); exact rfl))); apply vL_nil; apply seqP_normal; apply vC_seq; (refine vC_cond_dec rfl (fun _ => ?_) (fun h => by omega)); apply vC_skip; apply seqP_normal; apply vC_seq; apply vC_block; apply vC_seq; apply vC_region; (iterate 2 (((apply vL_val); (case h => ((apply opv_E); exact rfl))))); apply vL_nil; apply seqP_normal; apply vC_seq)
    (with_reducible apply vC_drawQ); (((apply vQ_op); (case hi => exact rfl); (case hf => kernel_rfl); (case hS => (first | exact Dr.refl _ | assumption | exact ⟨_, rfl⟩)); (case hy => (intro j; ((apply opv_loadbC); exact rfl; exact rfl; (first | assumption | infer_instance); (first | exact (rfl : _ = [_]) | exact (rfl : _ = [_, _]) | exact (rfl : _ = [_, _, _]) | exact (rfl : _ = [_, _, _, _]) | exact (rfl : _ = [_, _, _, _, _]) | exact (rfl : _ = [_, _, _, _, _, _]) | exact (rfl : _ = [_, _, _, _, _, _, _]) | exact (rfl : _ = [_, _, _, _, _, _, _, _]) | exact (rfl : _ = [_, _, _, _, _, _, _, _, _]) | exact (rfl : _ = [_, _, _, _, _, _, _, _, _, _]) | exact (rfl : _ = [_, _, _, _, _, _, _, _, _, _, _]) | exact (rfl : _ = [_, _, _, _, _, _, _, _, _, _, _, _])); exact rfl)))); ((apply vQ_op); (case hi => exact rfl); (case hf => kernel_rfl); (case hS => (first | exact Dr.refl _ | assumption | exact ⟨_, rfl⟩)); (case hy => (intro j; ((apply opv_move); ((conv => lhs; whnf) <;> exact rfl))))); ((apply vQ_op); (case hi => exact rfl); (case hf => kernel_rfl); (case hS => (first | exact Dr.refl _ | assumption | exact ⟨_, rfl⟩)); (case hy => (intro j; ((apply opv_E); exact rfl)))); ((apply vQ_op); (case hi => exact rfl); (case hf => kernel_rfl); (case hS => (first | exact Dr.refl _ | assumption | exact ⟨_, rfl⟩)); (case hy => (intro j; ((apply opv_indexAddr); (first | exact norm_eq rfl | ((conv => lhs; whnf) <;> exact rfl)); exact rfl; (first | assumption | infer_instance); (first | omega | (simp only [List.length_map]; omega)); (first | omega | (simp only [List.length_map]; omega)))))); ((apply vQ_op); (case hi => exact rfl); (case hf => kernel_rfl); (case hS => (first | exact Dr.refl _ | assumption | exact ⟨_, rfl⟩)); (case hy => (intro j; ((apply opv_ld_eln); exact rfl; exact rfl; (first | assumption | infer_instance); assumption)))); ((apply vQ_op); (case hi => exact rfl); (case hf => kernel_rfl); (case hS => (first | exact Dr.refl _ | assumption | exact ⟨_, rfl⟩)); (case hy => (intro j; ((apply opv_eql_agg); exact rfl; exact rfl; (first | exact ⟨rfl, rfl, trivial⟩ | exact ⟨rfl, trivial⟩ | exact ⟨rfl, rfl, rfl, trivial⟩ | exact ⟨rfl, rfl, rfl, rfl, trivial⟩ | exact ⟨rfl, rfl, rfl, rfl, rfl, trivial⟩); (first | exact ⟨rfl, rfl, trivial⟩ | exact ⟨rfl, trivial⟩ | exact ⟨rfl, rfl, rfl, trivial⟩ | exact ⟨rfl, rfl, rfl, rfl, trivial⟩ | exact ⟨rfl, rfl, rfl, rfl, rfl, trivial⟩))))); ((apply vQ_end); (case hi => exact rfl); (case hf => kernel_rfl); (case hS => (first | exact Dr.refl _ | assumption | exact ⟨_, rfl⟩))))
    refine vC_cond rfl (fun hpx => ?_) (fun hpx => ?_)
    · have hpx := (valsEq_tE y x).symm.trans hpx
      (apply vC_seq; apply vC_region; (iterate 2 (((apply vL_val); (case h => ((apply opv_E); exact rfl))))); apply vL_nil; apply seqP_normal; apply vC_ret; apply blockP_ret; apply seqP_ret; apply loopP_ret; apply blockP_ret; apply seqP_ret)
      (apply ret1; (case h1 => (first | exact norm_eq rfl | ((conv => lhs; whnf) <;> exact rfl))))
      exact ⟨hf0.drew, .inr ⟨k, rfl, hk', by rw [hx]; rw [of_decide_eq_true hpx]⟩⟩
    · have hpx := (valsEq_tE y x).symm.trans hpx
      (apply vC_skip; apply blockP_normal; apply seqP_normal; apply vC_region; ((apply vL_val); (case h => ((apply opv_add); exact rfl; exact rfl; (first | omega | (simp only [List.length_map]; omega))))); ((apply vL_val); (case h => ((apply opv_E); exact rfl))); apply vL_nil; apply loopP_normal)
      (with_reducible apply end1); (case hs => (repeat (first | (with_reducible exact same_mask _ _ _) | with_reducible apply same_updN | ((with_reducible refine same_updO ?_ ?_); rotate_left; exact rfl) | ((with_reducible refine same_upd ?_ ?_); rotate_left; exact rfl) | ((with_reducible refine same_maskIn ?_ ?_); rotate_left; exact rfl)))); (case h1 => (first | exact norm_eq rfl | ((conv => lhs; whnf) <;> exact rfl)))
      · exact ⟨k + 1, rfl, by omega, hf.drew, fun j hj z hz => by
          by_cases e : j = k
          · subst e; rw [hx] at hz; cases hz; exact fun h => of_decide_eq_false hpx h.symm
          · exact hp j (by omega) z hz⟩
      · simp [RowKit.intOf]; omega
  · (apply vC_seq; apply vC_region; ((apply vL_val); (case h => ((apply opv_E); exact rfl))); apply vL_nil; apply seqP_normal; apply vC_seq; (refine vC_cond_dec rfl (fun h => by omega) (fun _ => ?_)); apply vC_exit; apply seqP_exit; apply loopP_exit; apply blockP_exit; apply seqP_normal; apply vC_seq; apply vC_region; ((apply vL_val); (case h => ((apply opv_E); exact rfl))); apply vL_nil; apply seqP_normal; apply vC_ret)
    (apply ret1; (case h1 => (first | exact norm_eq rfl | ((conv => lhs; whnf) <;> exact rfl))))
    refine ⟨hf0, .inl ⟨rfl, fun hy => ?_⟩⟩
    obtain ⟨j, hj, e⟩ := List.getElem_of_mem hy
    exact hp j (by omega) y (by rw [← e]; exact List.getElem?_eq_getElem hj) rfl
theorem contains_plc (v : Value) (xs : List (ByteArray × Int)) (y : ByteArray × Int) (w : World) (hr : Rd w.heap 2 tE v xs) :
    Rets Try.prog 78 #[v, .agg (tE y).toArray] w fun u w' => Fr No w w' ∧ u = .bool (decide (y ∈ xs)) := by
  refine rets_of Try.func78 rfl Try.ntmps78 rfl rfl (by kernel_rfl) ?_
  (apply vC_seq; apply vC_region; ((apply vL_val); (case h => ((apply opw_boxn); exact rfl))); ((apply vL_val); (case h => ((apply opv_E); exact rfl))); apply vL_nil; apply seqP_normal; apply vC_seq; apply vC_region; ((apply vL_val); (case h => ((apply opv_move); ((conv => lhs; whnf) <;> exact rfl)))); ((apply vL_val); (case h => ((apply opv_loadbC); exact rfl; exact rfl; (first | assumption | infer_instance); (first | exact (rfl : _ = [_]) | exact (rfl : _ = [_, _]) | exact (rfl : _ = [_, _, _]) | exact (rfl : _ = [_, _, _, _]) | exact (rfl : _ = [_, _, _, _, _]) | exact (rfl : _ = [_, _, _, _, _, _]) | exact (rfl : _ = [_, _, _, _, _, _, _]) | exact (rfl : _ = [_, _, _, _, _, _, _, _]) | exact (rfl : _ = [_, _, _, _, _, _, _, _, _]) | exact (rfl : _ = [_, _, _, _, _, _, _, _, _, _]) | exact (rfl : _ = [_, _, _, _, _, _, _, _, _, _, _]) | exact (rfl : _ = [_, _, _, _, _, _, _, _, _, _, _, _])); exact rfl))))
  refine vL_callF rfl (index_plc v xs y _ inferInstance) rfl ?_
  rintro _ w1 ⟨hf, ⟨rfl, h⟩ | ⟨k, rfl, hk, h⟩⟩
  · ((iterate 2 (((apply vL_val); (case h => ((apply opv_E); exact rfl))))); apply vL_nil; apply seqP_normal; apply vC_ret)
    (apply ret1; (case h1 => (first | exact norm_eq rfl | ((conv => lhs; whnf) <;> exact rfl))))
    exact ⟨Fr.trans (by (repeat (first | exact Fr.refl _ _ | assumption | with_reducible apply Fr.allocSet | with_reducible apply Fr.alloc | with_reducible apply Fr.drewN | with_reducible apply Fr.drew | ((with_reducible apply Fr.set); rotate_left; (right; ((try simp only [alloc_size]); omega))) | (refine Fr.trans ?_ (by assumption))))) hf, by rw [decide_eq_false h]; rfl⟩
  · ((iterate 2 (((apply vL_val); (case h => ((apply opv_E); exact rfl))))); apply vL_nil; apply seqP_normal; apply vC_ret)
    (apply ret1; (case h1 => (first | exact norm_eq rfl | ((conv => lhs; whnf) <;> exact rfl))))
    exact ⟨Fr.trans (by (repeat (first | exact Fr.refl _ _ | assumption | with_reducible apply Fr.allocSet | with_reducible apply Fr.alloc | with_reducible apply Fr.drewN | with_reducible apply Fr.drew | ((with_reducible apply Fr.set); rotate_left; (right; ((try simp only [alloc_size]); omega))) | (refine Fr.trans ?_ (by assumption))))) hf, by rw [decide_eq_true (List.mem_of_getElem? h), decide_eq_true (by omega)]⟩
theorem owner1 (b : Nat) (x : ByteArray × OV × List (ByteArray × Int)) (y : ByteArray × Int) (w : World) (hb : Blk w.heap b (tE y) 70) (hr : Rd w.heap 2 tE x.2.1.1 x.2.2) :
    Rets Try.prog 77 #[.agg (nE x).toArray, .pointer (some ⟨b, 0, none⟩)] w fun v w' => v = .bool (decide (y ∈ x.2.2)) ∧ Fr No w w' := by
  have hone := x.2.1.2
  refine rets_of Try.func77 rfl Try.ntmps77 rfl rfl (by kernel_rfl) ?_
  (apply vC_seq; apply vC_region; ((apply vL_val); (case h => ((apply opw_boxn); exact rfl))); ((apply vL_val); (case h => ((apply opv_E); exact rfl))); apply vL_nil; apply seqP_normal; apply vC_seq; apply vC_region; ((apply vL_val); (case h => ((apply opv_fieldAddr); exact rfl))); ((apply vL_val); (case h => ((apply opv_loadb1); exact rfl; exact rfl; (first | assumption | infer_instance); exact rfl))); ((apply vL_val); (case h => ((apply opv_loadbC); exact rfl; exact rfl; (first | assumption | infer_instance); (first | exact (rfl : _ = [_]) | exact (rfl : _ = [_, _]) | exact (rfl : _ = [_, _, _]) | exact (rfl : _ = [_, _, _, _]) | exact (rfl : _ = [_, _, _, _, _]) | exact (rfl : _ = [_, _, _, _, _, _]) | exact (rfl : _ = [_, _, _, _, _, _, _]) | exact (rfl : _ = [_, _, _, _, _, _, _, _]) | exact (rfl : _ = [_, _, _, _, _, _, _, _, _]) | exact (rfl : _ = [_, _, _, _, _, _, _, _, _, _]) | exact (rfl : _ = [_, _, _, _, _, _, _, _, _, _, _]) | exact (rfl : _ = [_, _, _, _, _, _, _, _, _, _, _, _])); exact rfl))))
  refine vL_callF rfl (contains_plc x.2.1.1 x.2.2 y _ inferInstance) rfl ?_
  rintro _ w1 ⟨hf, rfl⟩
  (((apply vL_val); (case h => ((apply opv_E); exact rfl))); apply vL_nil; apply seqP_normal; apply vC_ret)
  (apply ret1; (case h1 => (first | exact norm_eq rfl | ((conv => lhs; whnf) <;> exact rfl))))
  exact ⟨rfl, Fr.trans (by (repeat (first | exact Fr.refl _ _ | assumption | with_reducible apply Fr.allocSet | with_reducible apply Fr.alloc | with_reducible apply Fr.drewN | with_reducible apply Fr.drew | ((with_reducible apply Fr.set); rotate_left; (right; ((try simp only [alloc_size]); omega))) | (refine Fr.trans ?_ (by assumption))))) hf⟩
theorem indexFunc_share (fv v : Value) (p : (ByteArray × OV × List (ByteArray × Int)) → Bool) (xs : List (ByteArray × OV × List (ByteArray × Int))) (w : World) (f : FuncId) (cap : List Value) [FnOk Try.prog f] (hr : Rd w.heap 2 nE v xs) (hfv : fv = .func (.func f) #[] cap.toArray)
    (hf : ∀ x w1, x ∈ xs → Fr No w w1 → Rets Try.prog f (Value.agg (nE x).toArray :: cap).toArray w1 fun v w2 => v = .bool (p x) ∧ Fr No w1 w2) :
    Rets Try.prog 76 #[v, fv] w fun u w' => Fr No w w' ∧ ((u = .int .i64 (-1) ∧ ∀ x ∈ xs, p x = false) ∨ ∃ k : Nat, u = .int .i64 k ∧ k < xs.length ∧ (∃ x, xs[k]? = some x ∧ p x = true) ∧ ∀ j, j < k → ∀ x, xs[j]? = some x → p x = false) := by
  subst hfv
  have hs := hr.small
  refine rets_of Try.func76 rfl Try.ntmps76 rfl rfl (by kernel_rfl) ?_
  (apply vC_seq; apply vC_region; ((apply vL_val); (case h => ((apply opv_E); exact rfl))); apply vL_nil; apply seqP_normal; (iterate 2 (apply vC_seq)); apply vC_region; ((apply vL_val); (case h => ((apply opv_move); ((conv => lhs; whnf) <;> exact rfl)))); ((apply vL_val); (case h => ((apply opv_len); (first | exact norm_eq rfl | ((conv => lhs; whnf) <;> exact rfl)); (first | assumption | infer_instance)))); ((apply vL_val); (case h => ((apply opv_E); exact rfl))); apply vL_nil; apply seqP_normal; apply vC_block)
  (apply vC_loop1 524080 8 (fun u w' => ∃ k : Nat, u = .int .i64 k ∧ k ≤ xs.length ∧ Fr No w w' ∧ ∀ j, j < k → ∀ x, xs[j]? = some x → p x = false) (fun u _ => xs.length - (RowKit.intOf u).toNat)); (case h1 => (first | exact norm_eq rfl | ((conv => lhs; whnf) <;> exact rfl)))
  case h0 => exact ⟨0, rfl, by omega, Fr.refl _ _, by omega⟩
  case round =>
  rintro junk _ w1 ⟨k, rfl, hk, hfr, hp⟩
  have hr1 := Rd.frN hfr hr
  (apply vC_seq; apply vC_region; ((apply vL_val); (case h => ((apply opv_E); exact rfl))); apply vL_nil; apply seqP_normal; apply vC_seq)
  refine vC_cond_dec rfl (fun h => ?_) (fun h => ?_)
  · have hk' : k < xs.length := by omega
    obtain ⟨x, hx⟩ : ∃ x, xs[k]? = some x := ⟨xs[k], by simp [hk']⟩
    (apply vC_skip; apply seqP_normal; apply vC_seq; apply vC_block; apply vC_seq; apply vC_region; (iterate 2 (((apply vL_val); (case h => ((apply opv_E); exact rfl))))); apply vL_nil; apply seqP_normal; apply vC_seq; apply vC_region; ((apply vL_val); (case h => ((apply opv_E); exact rfl))); ((apply vL_val); (case h => ((apply opv_move); ((conv => lhs; whnf) <;> exact rfl)))); ((apply vL_val); (case h => ((apply opv_E); exact rfl))); ((apply vL_val); (case h => ((apply opv_indexAddr); (first | exact norm_eq rfl | ((conv => lhs; whnf) <;> exact rfl)); exact rfl; (first | assumption | infer_instance); (first | omega | (simp only [List.length_map]; omega)); (first | omega | (simp only [List.length_map]; omega))))); ((apply vL_val); (case h => ((apply opv_ld_eln); exact rfl; exact rfl; (first | assumption | infer_instance); assumption))))
    refine vL_callF rfl (hf x _ (List.mem_of_getElem? hx) (by (repeat (first | exact Fr.refl _ _ | assumption | with_reducible apply Fr.allocSet | with_reducible apply Fr.alloc | with_reducible apply Fr.drewN | with_reducible apply Fr.drew | ((with_reducible apply Fr.set); rotate_left; (right; ((try simp only [alloc_size]); omega))) | (refine Fr.trans ?_ (by assumption)))))) rfl ?_
    rintro _ w2 ⟨rfl, hfr2⟩
    have hfr3 : Fr No w w2 := Fr.trans (by (repeat (first | exact Fr.refl _ _ | assumption | with_reducible apply Fr.allocSet | with_reducible apply Fr.alloc | with_reducible apply Fr.drewN | with_reducible apply Fr.drew | ((with_reducible apply Fr.set); rotate_left; (right; ((try simp only [alloc_size]); omega))) | (refine Fr.trans ?_ (by assumption))))) hfr2
    (apply vL_nil; apply seqP_normal)
    refine vC_cond rfl (fun hpx => ?_) (fun hpx => ?_)
    · (apply vC_seq; apply vC_region; (iterate 2 (((apply vL_val); (case h => ((apply opv_E); exact rfl))))); apply vL_nil; apply seqP_normal; apply vC_ret; apply blockP_ret; apply seqP_ret; apply loopP_ret; apply blockP_ret; apply seqP_ret)
      (apply ret1; (case h1 => (first | exact norm_eq rfl | ((conv => lhs; whnf) <;> exact rfl))))
      exact ⟨hfr3, .inr ⟨k, rfl, hk', ⟨x, hx, hpx⟩, hp⟩⟩
    · (apply vC_skip; apply blockP_normal; apply seqP_normal; apply vC_region; ((apply vL_val); (case h => ((apply opv_add); exact rfl; exact rfl; (first | omega | (simp only [List.length_map]; omega))))); ((apply vL_val); (case h => ((apply opv_E); exact rfl))); apply vL_nil; apply loopP_normal)
      (with_reducible apply end1); (case hs => (repeat (first | (with_reducible exact same_mask _ _ _) | with_reducible apply same_updN | ((with_reducible refine same_updO ?_ ?_); rotate_left; exact rfl) | ((with_reducible refine same_upd ?_ ?_); rotate_left; exact rfl) | ((with_reducible refine same_maskIn ?_ ?_); rotate_left; exact rfl)))); (case h1 => (first | exact norm_eq rfl | ((conv => lhs; whnf) <;> exact rfl)))
      · exact ⟨k + 1, rfl, by omega, hfr3, fun j hj y hy => by
          by_cases e : j = k
          · subst e; rw [hx] at hy; cases hy; exact hpx
          · exact hp j (by omega) y hy⟩
      · simp [RowKit.intOf]; omega
  · (apply vC_exit; apply seqP_exit; apply loopP_exit; apply blockP_exit; apply seqP_normal; apply vC_seq; apply vC_region; ((apply vL_val); (case h => ((apply opv_E); exact rfl))); apply vL_nil; apply seqP_normal; apply vC_ret)
    (apply ret1; (case h1 => (first | exact norm_eq rfl | ((conv => lhs; whnf) <;> exact rfl))))
    refine ⟨hfr, .inl ⟨rfl, fun x hx => ?_⟩⟩
    obtain ⟨j, hj, rfl⟩ := List.getElem_of_mem hx
    exact hp j (by omega) _ (List.getElem?_eq_getElem hj)

/-- shares that are read -/
structure Shares (h : Array Obj) (v : Value) (shs : List (ByteArray × OV × List (ByteArray × Int))) : Prop where
  rd : Rd h 2 nE v shs
  inner : ∀ x ∈ shs, Rd h 2 tE x.2.1.1 x.2.2
theorem Shares.frN {w w' : World} {v : Value} {shs : List (ByteArray × OV × List (ByteArray × Int))} (s : Shares w.heap v shs) (hf : Fr No w w') : Shares w'.heap v shs := ⟨s.rd.frN hf, fun x hx => (s.inner x hx).frN hf⟩
theorem ShsL.shares {h : Array Obj} {B : Nat} {v : Value} {shs : List (ByteArray × OV × List (ByteArray × Int))} (s : ShsL h B v shs) : Shares h v shs := ⟨s.out.rd, fun x hx => by
  obtain ⟨i, hi, rfl⟩ := List.getElem_of_mem hx
  exact (s.inner i _ (List.getElem?_eq_getElem hi)).rd⟩
def ownerOf (C : List (ByteArray × List (ByteArray × Int))) (p : ByteArray × Int) : Option ByteArray := (C.find? fun x => decide (p ∈ x.2)).map (·.1)
theorem ownerOf_at {C : List (ByteArray × List (ByteArray × Int))} {p : ByteArray × Int} {k : Nat} {x} (hx : C[k]? = some x) (hp : p ∈ x.2) (h : ∀ (j : Nat) y, j < k → C[j]? = some y → p ∉ y.2) : ownerOf C p = some x.1 := by
  unfold ownerOf
  have : C.find? (fun x => decide (p ∈ x.2)) = some x := by
    rw [List.find?_eq_some_iff_getElem]
    have hk := (List.getElem?_eq_some_iff.1 hx)
    refine ⟨by simpa using hp, k, hk.1, hk.2, fun j hj => ?_⟩
    have := h j _ hj (List.getElem?_eq_getElem (Nat.lt_trans hj hk.1))
    simpa using this
  rw [this]; rfl
theorem ownerOf_none {C : List (ByteArray × List (ByteArray × Int))} {p : ByteArray × Int} (h : ∀ x ∈ C, p ∉ x.2) : ownerOf C p = none := by
  unfold ownerOf
  have : C.find? (fun x => decide (p ∈ x.2)) = none := by
    rw [List.find?_eq_none]
    intro x hx
    simpa using h x hx
  rw [this]; rfl
theorem owner27 (v : Value) (shs : List (ByteArray × OV × List (ByteArray × Int))) (p : ByteArray × Int) (w : World) (s : Shares w.heap v shs) :
    Rets Try.prog 49 #[v, .agg (tE p).toArray] w fun u w' => Fr No w w' ∧ u = (match ownerOf (shs.map fun x => (x.1, x.2.2)) p with | some m => .tuple #[.string m, .bool true] | none => .tuple #[.string ⟨#[]⟩, .bool false]) := by
  have hr := s.rd
  have hs := hr.small
  refine rets_of Try.func49 rfl Try.ntmps49 rfl rfl (by kernel_rfl) ?_
  (apply vC_seq; apply vC_region; ((apply vL_val); (case h => ((apply opw_boxn); exact rfl))); (iterate 2 (((apply vL_val); (case h => ((apply opv_E); exact rfl))))); apply vL_nil; apply seqP_normal; apply vC_seq; apply vC_region; ((apply vL_val); (case h => ((apply opv_move); ((conv => lhs; whnf) <;> exact rfl)))); ((apply vL_val); (case h => ((apply opv_makeFunc); exact rfl))))
  have hby : Blk (w.alloc (.cells (tE p).toArray 70)).heap w.heap.size (tE p) 70 := inferInstance
  have hfa : Fr No w (w.alloc (.cells (tE p).toArray 70)) := by (repeat (first | exact Fr.refl _ _ | assumption | with_reducible apply Fr.allocSet | with_reducible apply Fr.alloc | with_reducible apply Fr.drewN | with_reducible apply Fr.drew | ((with_reducible apply Fr.set); rotate_left; (right; ((try simp only [alloc_size]); omega))) | (refine Fr.trans ?_ (by assumption))))
  refine vL_callF rfl (indexFunc_share _ v (fun x => decide (p ∈ x.2.2)) shs _ _ [.pointer (some ⟨w.heap.size, 0, none⟩)] inferInstance rfl (fun x w1 hx hf => owner1 _ x p w1 (hby.frN hf) ((s.inner x hx).frN (hfa.trans hf)))) rfl ?_
  rintro _ w1 ⟨hf1, ⟨rfl, hno⟩ | ⟨k, rfl, hk, ⟨x, hx, hpx⟩, hp⟩⟩
  · (((apply vL_val); (case h => ((apply opv_E); exact rfl))); apply vL_nil; apply seqP_normal; (iterate 2 (apply vC_seq)); apply vC_region; (iterate 2 (((apply vL_val); (case h => ((apply opv_E); exact rfl))))); apply vL_nil; apply seqP_normal; ((apply vC_cond_true); exact rfl); apply vC_seq; apply vC_region; (iterate 2 (((apply vL_val); (case h => ((apply opv_E); exact rfl))))); apply vL_nil; apply seqP_normal; apply vC_ret; apply seqP_ret)
    (apply ret2; (case h1 => (first | exact norm_eq rfl | ((conv => lhs; whnf) <;> exact rfl))); (case h2 => (first | exact norm_eq rfl | ((conv => lhs; whnf) <;> exact rfl))))
    refine ⟨hfa.trans hf1, ?_⟩
    rw [ownerOf_none]
    intro y hy
    obtain ⟨z, hz, rfl⟩ := List.mem_map.1 hy
    exact of_decide_eq_false (hno _ hz)
  · have hr1 := hr.frN (hfa.trans hf1)
    (((apply vL_val); (case h => ((apply opv_E); exact rfl))); apply vL_nil; apply seqP_normal; (iterate 2 (apply vC_seq)); apply vC_region; (iterate 2 (((apply vL_val); (case h => ((apply opv_E); exact rfl))))); apply vL_nil; apply seqP_normal; ((apply vC_cond_false); exact rfl); apply vC_skip; apply seqP_normal; apply vC_seq; apply vC_region; ((apply vL_val); (case h => ((apply opv_move); ((conv => lhs; whnf) <;> exact rfl)))); ((apply vL_val); (case h => ((apply opv_E); exact rfl))); ((apply vL_val); (case h => ((apply opv_indexAddr); (first | exact norm_eq rfl | ((conv => lhs; whnf) <;> exact rfl)); exact rfl; (first | assumption | infer_instance); (first | omega | (simp only [List.length_map]; omega)); (first | omega | (simp only [List.length_map]; omega))))); ((apply vL_val); (case h => ((apply opv_fieldAddr); exact rfl))); ((apply vL_val); (case h => ((apply opv_ld_el); exact rfl; exact rfl; (first | assumption | infer_instance); assumption; exact rfl))); (iterate 2 (((apply vL_val); (case h => ((apply opv_E); exact rfl))))); apply vL_nil; apply seqP_normal; apply vC_ret)
    (apply ret2; (case h1 => (first | exact norm_eq rfl | ((conv => lhs; whnf) <;> exact rfl))); (case h2 => (first | exact norm_eq rfl | ((conv => lhs; whnf) <;> exact rfl))))
    refine ⟨hfa.trans hf1, ?_⟩
    rw [ownerOf_at (k := k) (x := (x.1, x.2.2)) (by simp [hx]) (of_decide_eq_true hpx) (fun j y hj hy => by
      rw [List.getElem?_map] at hy
      cases hz : shs[j]? with
      | none => rw [hz] at hy; cases hy
      | some z => rw [hz] at hy; cases hy; exact of_decide_eq_false (hp j hj z hz))]
end Go.Proofs.Ytfceebbkjogedaa
