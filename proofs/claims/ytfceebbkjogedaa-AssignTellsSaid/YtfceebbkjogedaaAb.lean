/- Layer 27: rising, Right. -/
import Derived.Test.YtfceebbkjogedaaAa
set_option maxRecDepth 100000
namespace Go.Proofs.Ytfceebbkjogedaa
open Go Go.Eng
def ascB : List ByteArray → Bool
  | a :: b :: l => lessB a b && ascB (b :: l)
  | _ => true
def risingB (l : List ByteArray) (most : Nat) : Bool := l.all nameB && ascB l && decide (l.length ≤ most)
theorem ascB_iff : ∀ (l : List ByteArray), ascB l = true ↔ ∀ (i : Nat) a b, l[i]? = some a → l[i + 1]? = some b → lessB a b = true
  | [] => by simp [ascB]
  | [a] => by simp [ascB]
  | a :: b :: l => by
    have ih := ascB_iff (b :: l)
    simp only [ascB, Bool.and_eq_true]
    rw [ih]
    constructor
    · rintro ⟨h1, h2⟩ i x y hx hy
      cases i with
      | zero => simp at hx hy; subst hx; subst hy; exact h1
      | succ i => exact h2 i x y (by simpa using hx) (by simpa using hy)
    · intro h
      exact ⟨h 0 a b rfl rfl, fun i x y hx hy => h (i + 1) x y (by simpa using hx) (by simpa using hy)⟩
theorem risingB_iff {l : List ByteArray} {most : Nat} : risingB l most = true ↔ (∀ (i : Nat) s, l[i]? = some s → nameB s = true) ∧ (∀ (i : Nat) a b, l[i]? = some a → l[i + 1]? = some b → lessB a b = true) ∧ l.length ≤ most := by
  unfold risingB
  simp only [Bool.and_eq_true, decide_eq_true_eq, ascB_iff, List.all_eq_true, and_assoc]
  constructor
  · rintro ⟨h1, h2, h3⟩
    exact ⟨fun i s hs => h1 s (List.mem_of_getElem? hs), h2, h3⟩
  · rintro ⟨h1, h2, h3⟩
    refine ⟨fun s hs => ?_, h2, h3⟩
    obtain ⟨i, hi, rfl⟩ := List.getElem_of_mem hs
    exact h1 i _ (List.getElem?_eq_getElem hi)
theorem false_of {b : Bool} (h : b = true → False) : b = false := by cases b; rfl; exact (h rfl).elim

theorem rising27 (l : List ByteArray) (most : Nat) (n : Int) (fv : Value) (f : FuncId) (cap : List Value) [FnOk Try.prog f] (w : World) (hn : n = l.length) (hfv : fv = .func (.func f) #[] cap.toArray) (hlen : l.length < 9223372036854775808) (hsz : ∀ s ∈ l, s.size ≤ 9223372036854775807)
    (hf : ∀ (i : Int) (s : ByteArray) (w1 : World), 0 ≤ i → i < l.length → l[i.toNat]? = some s → Fr No w w1 → Rets Try.prog f (Value.int .i64 i :: cap).toArray w1 fun v w2 => v = .string s ∧ Fr No w1 w2) :
    Rets Try.prog 80 #[.int .i64 n, .int .i64 most, fv] w fun u w' => Fr No w w' ∧ u = .bool (risingB l most) := by
  subst hfv; subst hn
  have hiff := risingB_iff (l := l) (most := most)
  refine rets_of Try.func80 rfl Try.ntmps80 rfl rfl (by kernel_rfl) ?_
  (apply vC_seq; apply vC_region; ((apply vL_val); (case h => ((apply opv_E); exact rfl))); apply vL_nil; apply seqP_normal; (iterate 2 (apply vC_seq)); apply vC_region; (iterate 2 (((apply vL_val); (case h => ((apply opv_E); exact rfl))))); apply vL_nil; apply seqP_normal; apply vC_block)
  (apply vC_loop1 4294966976 9 (fun u w' => ∃ k : Nat, u = .int .i64 (k : Int) ∧ k ≤ l.length ∧ Fr No w w' ∧ (∀ (i : Nat) s, i < k → l[i]? = some s → nameB s = true) ∧ (∀ (i : Nat) a b, i + 1 < k → l[i]? = some a → l[i + 1]? = some b → lessB a b = true)) (fun u _ => l.length - (RowKit.intOf u).toNat)); (case h1 => (first | exact norm_eq rfl | ((conv => lhs; whnf) <;> exact rfl)))
  case h0 => exact ⟨0, rfl, by omega, Fr.refl _ _, by omega, by omega⟩
  case round =>
  rintro junk _ w1 ⟨k, rfl, hk, hfr, h1, h2⟩
  by_cases hkl : k < l.length
  · obtain ⟨s, hs⟩ : ∃ x, l[k]? = some x := ⟨l[k], by simp [hkl]⟩
    (apply vC_seq; apply vC_region; ((apply vL_val); (case h => ((apply opv_E); exact rfl))); apply vL_nil; apply seqP_normal; apply vC_seq; (refine vC_cond_dec rfl (fun _ => ?_) (fun h => by omega)); apply vC_skip; apply seqP_normal; apply vC_seq; apply vC_block; apply vC_seq; apply vC_region; (iterate 2 (((apply vL_val); (case h => ((apply opv_E); exact rfl))))); apply vL_nil; apply seqP_normal; apply vC_seq; apply vC_region; (iterate 2 (((apply vL_val); (case h => ((apply opv_E); exact rfl))))))
    refine vL_callF rfl (hf k s w1 (by omega) (by omega) hs hfr) rfl ?_
    rintro _ w2 ⟨rfl, hf2⟩
    skip
    refine vL_callF rfl (name27 s w2 (hsz s (List.mem_of_getElem? hs))) rfl ?_
    rintro _ _ ⟨rfl, rfl⟩
    cases hn : nameB s with
    | false =>
      (((apply vL_val); (case h => ((apply opv_not); exact rfl))); ((apply vL_val); (case h => ((apply opv_E); exact rfl))); (iterate 3 (((apply vL_unwanted'); exact rfl; exact rfl))); (iterate 8 (((apply vL_unwanted_none); exact rfl))); ((apply vL_unwanted'); exact rfl; exact rfl); ((apply vL_val); (case h => ((apply opv_E); exact rfl))); apply vL_nil; apply seqP_normal; ((apply vC_cond_true); exact rfl); apply vC_seq; apply vC_region; ((apply vL_val); (case h => ((apply opv_E); exact rfl))); apply vL_nil; apply seqP_normal; apply vC_ret; apply blockP_ret; apply seqP_ret; apply loopP_ret; apply blockP_ret; apply seqP_ret)
      (apply ret1; (case h1 => (first | exact norm_eq rfl | ((conv => lhs; whnf) <;> exact rfl))))
      exact ⟨hfr.trans hf2, congrArg Value.bool (false_of fun h => by have := (hiff.1 h).1 k s hs; rw [hn] at this; cases this).symm⟩
    | true =>
      have hn' : ∀ (i : Nat) s, i < k + 1 → l[i]? = some s → nameB s = true := fun i t hi ht => by
        by_cases e : i = k
        · subst e; rw [hs] at ht; cases ht; exact hn
        · exact h1 i t (by omega) ht
      by_cases hk0 : k = 0
      · subst hk0
        (((apply vL_val); (case h => ((apply opv_not); exact rfl))); ((apply vL_val); (case h => ((apply opv_E); exact rfl))); ((apply vL_wanted); exact rfl); ((apply vL_val); (case h => ((apply opv_E); exact rfl))); ((apply vL_wanted); exact rfl); ((apply vL_val); (case h => ((apply opv_E); exact rfl))); ((apply vL_wanted); exact rfl); ((apply vL_val); (case h => ((apply opv_E); exact rfl))); (iterate 8 (((apply vL_unwanted'); exact rfl; exact rfl))); ((apply vL_wanted); exact rfl); (iterate 2 (((apply vL_val); (case h => ((apply opv_E); exact rfl))))); apply vL_nil; apply seqP_normal; ((apply vC_cond_false); exact rfl); apply vC_skip; apply blockP_normal; apply seqP_normal; apply vC_region; ((apply vL_val); (case h => ((apply opv_add); exact rfl; exact rfl; (first | omega | (simp only [List.length_map]; omega))))); ((apply vL_val); (case h => ((apply opv_E); exact rfl))); apply vL_nil; apply loopP_normal)
        (with_reducible apply end1); (case hs => (repeat (first | (with_reducible exact same_mask _ _ _) | with_reducible apply same_updN | ((with_reducible refine same_updO ?_ ?_); rotate_left; exact rfl) | ((with_reducible refine same_upd ?_ ?_); rotate_left; exact rfl) | ((with_reducible refine same_maskIn ?_ ?_); rotate_left; exact rfl)))); (case h1 => (first | exact norm_eq rfl | ((conv => lhs; whnf) <;> exact rfl)))
        · exact ⟨0 + 1, rfl, by omega, hfr.trans hf2, hn', by omega⟩
        · simp [RowKit.intOf]; omega
      · obtain ⟨r, hr⟩ : ∃ x, l[k - 1]? = some x := ⟨l[k - 1], by rw [List.getElem?_eq_getElem]⟩
        have hr' : l[((k : Int) - 1).toNat]? = some r := by rw [show ((k : Int) - 1).toNat = k - 1 by omega]; exact hr
        (((apply vL_val); (case h => ((apply opv_not); exact rfl))); ((apply vL_val); (case h => ((apply opv_E); exact rfl))); ((apply vL_wanted); exact rfl); ((apply vL_val); (case h => ((apply opv_E); exact rfl))); ((apply vL_wanted); exact rfl); ((apply vL_val); (case h => ((apply opv_E); exact rfl))); ((apply vL_wanted); exact rfl); ((apply vL_val); (case h => ((apply opv_E); exact rfl))); (refine vL_and rfl rfl (fun _ => ?_) (fun h => by omega)); ((apply vL_val); (case h => ((apply opv_E); exact rfl))); ((apply vL_wanted); exact rfl); ((apply vL_val); (case h => ((apply opv_E); exact rfl))); ((apply vL_wanted); exact rfl); ((apply vL_val); (case h => ((apply opv_sub); exact rfl; exact rfl; (first | omega | (simp only [List.length_map]; omega))))); ((apply vL_wanted); exact rfl))
        refine vL_callF rfl (hf ((k : Int) - 1) r w2 (by omega) (by omega) hr' (hfr.trans hf2)) rfl ?_
        rintro _ w3 ⟨rfl, hf3⟩
        (((apply vL_wanted); exact rfl); ((apply vL_val); (case h => ((apply opv_E); exact rfl))); ((apply vL_wanted); exact rfl); ((apply vL_val); (case h => ((apply opv_E); exact rfl))); ((apply vL_wanted); exact rfl))
        refine vL_callF rfl (hf k s w3 (by omega) (by omega) hs ((hfr.trans hf2).trans hf3)) rfl ?_
        rintro _ w4 ⟨rfl, hf4⟩
        have hfin := ((hfr.trans hf2).trans hf3).trans hf4
        have hlk : ∀ v, l[k - 1 + 1]? = some v → v = s := fun v hv => by rw [show k - 1 + 1 = k by omega, hs] at hv; exact (Option.some.inj hv).symm
        (((apply vL_wanted); exact rfl); ((apply vL_val); (case h => ((apply opv_geqS); exact rfl; exact rfl))); ((apply vL_wanted); exact rfl); (iterate 2 (((apply vL_val); (case h => ((apply opv_E); exact rfl))))); apply vL_nil; apply seqP_normal)
        cases hl : lessB r s with
        | false =>
          (((apply vC_cond_true); exact rfl); apply vC_seq; apply vC_region; ((apply vL_val); (case h => ((apply opv_E); exact rfl))); apply vL_nil; apply seqP_normal; apply vC_ret; apply blockP_ret; apply seqP_ret; apply loopP_ret; apply blockP_ret; apply seqP_ret)
          (apply ret1; (case h1 => (first | exact norm_eq rfl | ((conv => lhs; whnf) <;> exact rfl))))
          exact ⟨hfin, congrArg Value.bool (false_of fun h => by have := (hiff.1 h).2.1 (k - 1) r s hr (by rw [show k - 1 + 1 = k by omega]; exact hs); rw [hl] at this; cases this).symm⟩
        | true =>
          (((apply vC_cond_false); exact rfl); apply vC_skip; apply blockP_normal; apply seqP_normal; apply vC_region; ((apply vL_val); (case h => ((apply opv_add); exact rfl; exact rfl; (first | omega | (simp only [List.length_map]; omega))))); ((apply vL_val); (case h => ((apply opv_E); exact rfl))); apply vL_nil; apply loopP_normal)
          (with_reducible apply end1); (case hs => (repeat (first | (with_reducible exact same_mask _ _ _) | with_reducible apply same_updN | ((with_reducible refine same_updO ?_ ?_); rotate_left; exact rfl) | ((with_reducible refine same_upd ?_ ?_); rotate_left; exact rfl) | ((with_reducible refine same_maskIn ?_ ?_); rotate_left; exact rfl)))); (case h1 => (first | exact norm_eq rfl | ((conv => lhs; whnf) <;> exact rfl)))
          · refine ⟨k + 1, rfl, by omega, hfin, hn', fun i a b hi ha hb => ?_⟩
            by_cases e : i = k - 1
            · subst e; rw [hr] at ha; cases ha; rw [hlk b hb]; exact hl
            · exact h2 i a b (by omega) ha hb
          · simp [RowKit.intOf]; omega
  · have e : k = l.length := by omega
    (apply vC_seq; apply vC_region; ((apply vL_val); (case h => ((apply opv_E); exact rfl))); apply vL_nil; apply seqP_normal; apply vC_seq; (refine vC_cond_dec rfl (fun h => by omega) (fun _ => ?_)); apply vC_exit; apply seqP_exit; apply loopP_exit; apply blockP_exit; apply seqP_normal; apply vC_seq; apply vC_region; (iterate 4 (((apply vL_val); (case h => ((apply opv_E); exact rfl))))); apply vL_nil; apply seqP_normal; apply vC_ret)
    (apply ret1; (case h1 => (first | exact norm_eq rfl | ((conv => lhs; whnf) <;> exact rfl))))
    refine ⟨hfr, congrArg Value.bool ?_⟩
    by_cases hm : l.length ≤ most
    · rw [hiff.2 ⟨fun i s hs => h1 i s (by have := (List.getElem?_eq_some_iff.1 hs).1; omega) hs, fun i a b ha hb => h2 i a b (by have := (List.getElem?_eq_some_iff.1 hb).1; omega) ha hb, hm⟩]
      exact decide_eq_true (by omega)
    · rw [false_of fun h => hm (hiff.1 h).2.2]
      exact decide_eq_false (by omega)
end Go.Proofs.Ytfceebbkjogedaa
