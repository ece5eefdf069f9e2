/- Layer 25: what a producer is; May.
Layer 31: the small functions.
Layer 31: waits that are right (one at the most).
Layer 31: clients that are right (with one wait and one sequence at the most).
Layer 31: a wait is sent. -/
import Derived.Test.YtchfaeaagpemlaaT
import Derived.Test.YtchfaeaagpemlaaEv
import Derived.Test.YtchfaeaagpemlaaEs
import Derived.Test.YtchfaeaagpemlaaEt
import Derived.Test.YtchfaeaagpemlaaX1
import Derived.Test.YtchfaeaagpemlaaAa
set_option maxRecDepth 100000
namespace Go.Proofs.Ytchfaeaagpemlaa
open Go Go.Eng
/-- a record's bytes: the slice, how many -/
def byE (y : OV × Nat) : List Value := [y.1.1]
instance encBy : EncOk byE 1 := ⟨by intro x u h; simp [byE] at h; subst h; exact x.1.2, fun _ => rfl⟩
def ByOk (ys : List (OV × Nat)) : Prop := ∀ y ∈ ys, ∃ a c, y.1.1 = .slice a y.2 c ∧ y.2 ≤ 9223372036854775807
def great25 : Int := 4611686018427387904
def mayB (pid ep fi : Int) (ns : List Nat) : Bool := decide ((0 ≤ pid ∧ pid ≤ 4611686018427387904 ∧ 0 ≤ ep ∧ ep ≤ 1073741824 ∧ 0 ≤ fi ∧ fi ≤ 4611686018427387904) ∧ (1 ≤ ns.length ∧ ns.length ≤ 256 ∧ ∀ n ∈ ns, n ≤ 1024) ∧ (0 < pid ∨ ep = 0 ∧ fi = 0))
theorem indexFunc_by (fv v : Value) (p : (OV × Nat) → Bool) (xs : List (OV × Nat)) (w : World) (f : FuncId) (cap : List Value) [FnOk Try.prog f] (hr : Rd w.heap 1 byE v xs) (hfv : fv = .func (.func f) #[] cap.toArray)
    (hf : ∀ x w1, x ∈ xs → Fr No w w1 → Rets Try.prog f (x.1.1 :: cap).toArray w1 fun v w2 => v = .bool (p x) ∧ Fr No w1 w2) :
    Rets Try.prog 52 #[v, fv] w fun u w' => Fr No w w' ∧ ((u = .int .i64 (-1) ∧ ∀ x ∈ xs, p x = false) ∨ ∃ k : Nat, u = .int .i64 k ∧ k < xs.length ∧ (∃ x, xs[k]? = some x ∧ p x = true) ∧ ∀ j, j < k → ∀ x, xs[j]? = some x → p x = false) := by
  subst hfv
  have hs := hr.small
  refine rets_of Try.func52 rfl Try.ntmps52 rfl rfl (by kernel_rfl) ?_
  (apply vC_seq; apply vC_region; ((apply vL_val); (case h => ((apply opv_E); exact rfl))); apply vL_nil; apply seqP_normal; (iterate 2 (apply vC_seq)); apply vC_region; ((apply vL_val); (case h => ((apply opv_move); ((conv => lhs; whnf) <;> exact rfl)))); ((apply vL_val); (case h => ((apply opv_len); ((conv => lhs; whnf) <;> exact rfl); assumption))); ((apply vL_val); (case h => ((apply opv_E); exact rfl))); apply vL_nil; apply seqP_normal; apply vC_block)
  (apply vC_loop1 524080 8 (fun u w' => ∃ k : Nat, u = .int .i64 k ∧ k ≤ xs.length ∧ Fr No w w' ∧ ∀ j, j < k → ∀ x, xs[j]? = some x → p x = false) (fun u _ => xs.length - (RowKit.intOf u).toNat)); (case h1 => (exact norm_eq rfl))
  case h0 => exact ⟨0, rfl, by omega, Fr.refl _ _, by omega⟩
  case round =>
  rintro junk _ w1 ⟨k, rfl, hk, hfr, hp⟩
  have hr1 := Rd.frN hfr hr
  (apply vC_seq; apply vC_region; ((apply vL_val); (case h => ((apply opv_E); exact rfl))); apply vL_nil; apply seqP_normal; apply vC_seq)
  refine vC_cond_dec rfl (fun h => ?_) (fun h => ?_)
  · have hk' : k < xs.length := by omega
    obtain ⟨x, hx⟩ : ∃ x, xs[k]? = some x := ⟨xs[k], by simp [hk']⟩
    (apply vC_skip; apply seqP_normal; apply vC_seq; apply vC_block; apply vC_seq; apply vC_region; (iterate 2 (((apply vL_val); (case h => ((apply opv_E); exact rfl))))); apply vL_nil; apply seqP_normal; apply vC_seq; apply vC_region; ((apply vL_val); (case h => ((apply opv_E); exact rfl))); ((apply vL_val); (case h => ((apply opv_move); ((conv => lhs; whnf) <;> exact rfl)))); ((apply vL_val); (case h => ((apply opv_E); exact rfl))); ((apply vL_val); (case h => ((apply opv_indexAddr); ((conv => lhs; whnf) <;> exact rfl); exact rfl; assumption; (first | omega | (simp only [List.length_map]; omega)); (first | omega | (simp only [List.length_map]; omega))))); ((apply vL_val); (case h => ((apply opv_ld_el); exact rfl; exact rfl; assumption; assumption; exact rfl))))
    refine vL_callF rfl (hf x _ (List.mem_of_getElem? hx) (by (assumption))) rfl ?_
    rintro _ w2 ⟨rfl, hfr2⟩
    have hfr3 : Fr No w w2 := Fr.trans (by (assumption)) hfr2
    (apply vL_nil; apply seqP_normal)
    refine vC_cond rfl (fun hpx => ?_) (fun hpx => ?_)
    · (apply vC_seq; apply vC_region; (iterate 2 (((apply vL_val); (case h => ((apply opv_E); exact rfl))))); apply vL_nil; apply seqP_normal; apply vC_ret; apply blockP_ret; apply seqP_ret; apply loopP_ret; apply blockP_ret; apply seqP_ret)
      (apply ret1; (case h1 => (exact norm_eq rfl)))
      exact ⟨hfr3, .inr ⟨k, rfl, hk', ⟨x, hx, hpx⟩, hp⟩⟩
    · (apply vC_skip; apply blockP_normal; apply seqP_normal; apply vC_region; ((apply vL_val); (case h => ((apply opv_add); exact rfl; exact rfl; (first | omega | (simp only [List.length_map]; omega))))); ((apply vL_val); (case h => ((apply opv_E); exact rfl))); apply vL_nil; apply loopP_normal)
      (with_reducible apply end1); (case hs => ((iterate 11 (((refine same_updO ?_ ?_); rotate_left; exact rfl))); ((refine same_upd ?_ ?_); rotate_left; exact rfl); (exact same_mask _ _ _))); (case h1 => (exact norm_eq rfl))
      · exact ⟨k + 1, rfl, by omega, hfr3, fun j hj y hy => by
          by_cases e : j = k
          · subst e; rw [hx] at hy; cases hy; exact hpx
          · exact hp j (by omega) y hy⟩
      · simp [RowKit.intOf]; omega
  · (apply vC_exit; apply seqP_exit; apply loopP_exit; apply blockP_exit; apply seqP_normal; apply vC_seq; apply vC_region; ((apply vL_val); (case h => ((apply opv_E); exact rfl))); apply vL_nil; apply seqP_normal; apply vC_ret)
    (apply ret1; (case h1 => (exact norm_eq rfl)))
    refine ⟨hfr, .inl ⟨rfl, fun x hx => ?_⟩⟩
    obtain ⟨j, hj, rfl⟩ := List.getElem_of_mem hx
    exact hp j (by omega) _ (List.getElem?_eq_getElem hj)
theorem may1 (y : OV × Nat) (w : World) (hy : ∃ a c, y.1.1 = .slice a y.2 c ∧ y.2 ≤ 9223372036854775807) : Rets Try.prog 42 #[y.1.1] w fun u w' => u = .bool (decide (1024 < y.2)) ∧ Fr No w w' := by
  obtain ⟨a, c, e, h⟩ := hy
  rw [e]
  refine rets_of Try.func42 rfl Try.ntmps42 rfl rfl (by kernel_rfl) ?_
  (apply vC_seq; apply vC_region; ((apply vL_val); (case h => ((apply opv_E); exact rfl))); apply vL_nil; apply seqP_normal; apply vC_seq; apply vC_region; ((apply vL_val); (case h => ((apply opv_E); exact rfl))); ((apply vL_val); (case h => ((apply opv_lenc); exact rfl))); (iterate 2 (((apply vL_val); (case h => ((apply opv_E); exact rfl))))); apply vL_nil; apply seqP_normal; apply vC_ret)
  (apply ret1; (case h1 => (exact norm_eq rfl)))
  refine ⟨?_, Fr.refl _ _⟩
  congr 1
  exact decide_eq_decide.2 (by omega)
theorem containsFunc_by (v : Value) (ys : List (OV × Nat)) (w : World) (hr : Rd w.heap 1 byE v ys) (hy : ByOk ys) :
    Rets Try.prog 43 #[v, .func (.func 42) #[] #[]] w fun u w' => u = .bool (ys.any (fun y => decide (1024 < y.2))) ∧ Fr No w w' := by
  refine rets_of Try.func43 rfl Try.ntmps43 rfl rfl (by kernel_rfl) ?_
  (apply vC_seq; apply vC_region; ((apply vL_val); (case h => ((apply opv_E); exact rfl))); apply vL_nil; apply seqP_normal; apply vC_seq; apply vC_region; ((apply vL_val); (case h => ((apply opv_move); ((conv => lhs; whnf) <;> exact rfl)))); ((apply vL_val); (case h => ((apply opv_E); exact rfl))))
  refine vL_callF rfl (indexFunc_by _ v (fun y => decide (1024 < y.2)) ys w 42 [] hr rfl (fun x w1 hx _ => may1 x w1 (hy x hx))) rfl ?_
  rintro _ w2 ⟨hf, ⟨rfl, h⟩ | ⟨k, rfl, hk, ⟨x, hx, hp⟩, _⟩⟩
  · ((iterate 2 (((apply vL_val); (case h => ((apply opv_E); exact rfl))))); apply vL_nil; apply seqP_normal; apply vC_ret)
    (apply ret1; (case h1 => (exact norm_eq rfl)))
    refine ⟨?_, hf⟩
    rw [show ys.any (fun y => decide (1024 < y.2)) = false from by
      rw [List.any_eq_false]; intro x hx; rw [h x hx]; decide]
    rfl
  · ((iterate 2 (((apply vL_val); (case h => ((apply opv_E); exact rfl))))); apply vL_nil; apply seqP_normal; apply vC_ret)
    (apply ret1; (case h1 => (exact norm_eq rfl)))
    refine ⟨?_, hf⟩
    rw [show ys.any (fun y => decide (1024 < y.2)) = true from List.any_eq_true.2 ⟨x, List.mem_of_getElem? hx, hp⟩, decide_eq_true (by omega)]
theorem may25 (pid ep fi : Int) (rv : OV) (ys : List (OV × Nat)) (w : World) (hr : Rd w.heap 1 byE rv.1 ys) (hy : ByOk ys) :
    Rets Try.prog 31 #[.agg #[.int .i64 pid, .int .i64 ep, .int .i64 fi, rv.1]] w fun u w' => u = .bool (mayB pid ep fi (ys.map (·.2))) ∧ Fr No w w' := by
  have hl : (ys.map (·.2)).length = ys.length := List.length_map ..
  have hs := hr.small
  have hrv := rv.2
  obtain ⟨va, vc, ev⟩ := hr.len
  have f1 : pid < 0 ∨ 4611686018427387904 < pid ∨ ep < 0 ∨ 1073741824 < ep ∨ fi < 0 ∨ 4611686018427387904 < fi ∨ ¬ 1 ≤ ys.length ∨ 256 < ys.length → mayB pid ep fi (ys.map (·.2)) = false := fun h => decide_eq_false (by rw [hl]; omega)
  refine rets_of Try.func31 rfl Try.ntmps31 rfl rfl (by kernel_rfl) ?_
  (apply vC_seq; apply vC_region; ((apply vL_val); (case h => ((apply opw_boxn); exact rfl))); ((apply vL_val); (case h => ((apply opv_E); exact rfl))); apply vL_nil; apply seqP_normal; apply vC_seq; apply vC_region; ((apply vL_val); (case h => ((apply opv_E); exact rfl))); apply vL_nil; apply seqP_normal; (iterate 2 (apply vC_seq)); apply vC_region; ((apply vL_val); (case h => ((apply opv_fieldAddr); exact rfl))); ((apply vL_val); (case h => ((apply opv_loadb1); exact rfl; exact rfl; infer_instance; exact rfl))); (iterate 2 (((apply vL_val); (case h => ((apply opv_E); exact rfl))))))
  rcases (by omega : pid < 0 ∨ (0 ≤ pid ∧ 4611686018427387904 < pid) ∨ (0 ≤ pid ∧ pid ≤ 4611686018427387904 ∧ ep < 0) ∨ (0 ≤ pid ∧ pid ≤ 4611686018427387904 ∧ 0 ≤ ep ∧ 1073741824 < ep) ∨ (0 ≤ pid ∧ pid ≤ 4611686018427387904 ∧ 0 ≤ ep ∧ ep ≤ 1073741824 ∧ fi < 0) ∨ (0 ≤ pid ∧ pid ≤ 4611686018427387904 ∧ 0 ≤ ep ∧ ep ≤ 1073741824 ∧ 0 ≤ fi ∧ 4611686018427387904 < fi) ∨ (0 ≤ pid ∧ pid ≤ 4611686018427387904 ∧ 0 ≤ ep ∧ ep ≤ 1073741824 ∧ 0 ≤ fi ∧ fi ≤ 4611686018427387904)) with h | h | h | h | h | h | h
  · ((refine vL_or rfl rfl (fun h => by omega) (fun _ => ?_)); (iterate 2 (((apply vL_unwanted'); exact rfl; exact rfl))); (iterate 2 (((apply vL_val); (case h => ((apply opv_E); exact rfl))))); (iterate 3 (((apply vL_unwanted'); exact rfl; exact rfl))); (iterate 2 (((apply vL_val); (case h => ((apply opv_E); exact rfl))))); (iterate 3 (((apply vL_unwanted'); exact rfl; exact rfl))); (iterate 2 (((apply vL_val); (case h => ((apply opv_E); exact rfl))))); (iterate 3 (((apply vL_unwanted'); exact rfl; exact rfl))); (iterate 2 (((apply vL_val); (case h => ((apply opv_E); exact rfl))))); (iterate 3 (((apply vL_unwanted'); exact rfl; exact rfl))); ((apply vL_val); (case h => ((apply opv_E); exact rfl))); apply vL_nil; apply seqP_normal; ((apply vC_cond_true); exact rfl); apply vC_seq; apply vC_region; ((apply vL_val); (case h => ((apply opv_E); exact rfl))); apply vL_nil; apply seqP_normal; apply vC_ret; apply seqP_ret)
    (apply ret1; (case h1 => (exact norm_eq rfl)))
    exact ⟨by rw [f1 (by omega)], by (apply Fr.alloc; exact Fr.refl _ _)⟩
  · ((refine vL_or rfl rfl (fun _ => ?_) (fun h => by omega)); ((apply vL_val); (case h => ((apply opv_fieldAddr); exact rfl))); ((apply vL_wanted); exact rfl); ((apply vL_val); (case h => ((apply opv_loadb1); exact rfl; exact rfl; infer_instance; exact rfl))); ((apply vL_wanted); exact rfl); (iterate 3 (((apply vL_val); (case h => ((apply opv_E); exact rfl))))); (refine vL_or rfl rfl (fun h => by omega) (fun _ => ?_)); (iterate 2 (((apply vL_unwanted'); exact rfl; exact rfl))); (iterate 2 (((apply vL_val); (case h => ((apply opv_E); exact rfl))))); (iterate 3 (((apply vL_unwanted'); exact rfl; exact rfl))); (iterate 2 (((apply vL_val); (case h => ((apply opv_E); exact rfl))))); (iterate 3 (((apply vL_unwanted'); exact rfl; exact rfl))); (iterate 2 (((apply vL_val); (case h => ((apply opv_E); exact rfl))))); (iterate 3 (((apply vL_unwanted'); exact rfl; exact rfl))); ((apply vL_val); (case h => ((apply opv_E); exact rfl))); apply vL_nil; apply seqP_normal; ((apply vC_cond_true); exact rfl); apply vC_seq; apply vC_region; ((apply vL_val); (case h => ((apply opv_E); exact rfl))); apply vL_nil; apply seqP_normal; apply vC_ret; apply seqP_ret)
    (apply ret1; (case h1 => (exact norm_eq rfl)))
    exact ⟨by rw [f1 (by omega)], by (apply Fr.alloc; exact Fr.refl _ _)⟩
  · ((refine vL_or rfl rfl (fun _ => ?_) (fun h => by omega)); ((apply vL_val); (case h => ((apply opv_fieldAddr); exact rfl))); ((apply vL_wanted); exact rfl); ((apply vL_val); (case h => ((apply opv_loadb1); exact rfl; exact rfl; infer_instance; exact rfl))); ((apply vL_wanted); exact rfl); (iterate 3 (((apply vL_val); (case h => ((apply opv_E); exact rfl))))); (refine vL_or rfl rfl (fun _ => ?_) (fun h => by omega)); ((apply vL_val); (case h => ((apply opv_fieldAddr); exact rfl))); ((apply vL_wanted); exact rfl); ((apply vL_val); (case h => ((apply opv_loadb1); exact rfl; exact rfl; infer_instance; exact rfl))); ((apply vL_wanted); exact rfl); (iterate 3 (((apply vL_val); (case h => ((apply opv_E); exact rfl))))); (refine vL_or rfl rfl (fun h => by omega) (fun _ => ?_)); (iterate 2 (((apply vL_unwanted'); exact rfl; exact rfl))); (iterate 2 (((apply vL_val); (case h => ((apply opv_E); exact rfl))))); (iterate 3 (((apply vL_unwanted'); exact rfl; exact rfl))); (iterate 2 (((apply vL_val); (case h => ((apply opv_E); exact rfl))))); (iterate 3 (((apply vL_unwanted'); exact rfl; exact rfl))); ((apply vL_val); (case h => ((apply opv_E); exact rfl))); apply vL_nil; apply seqP_normal; ((apply vC_cond_true); exact rfl); apply vC_seq; apply vC_region; ((apply vL_val); (case h => ((apply opv_E); exact rfl))); apply vL_nil; apply seqP_normal; apply vC_ret; apply seqP_ret)
    (apply ret1; (case h1 => (exact norm_eq rfl)))
    exact ⟨by rw [f1 (by omega)], by (apply Fr.alloc; exact Fr.refl _ _)⟩
  · ((refine vL_or rfl rfl (fun _ => ?_) (fun h => by omega)); ((apply vL_val); (case h => ((apply opv_fieldAddr); exact rfl))); ((apply vL_wanted); exact rfl); ((apply vL_val); (case h => ((apply opv_loadb1); exact rfl; exact rfl; infer_instance; exact rfl))); ((apply vL_wanted); exact rfl); (iterate 3 (((apply vL_val); (case h => ((apply opv_E); exact rfl))))); (refine vL_or rfl rfl (fun _ => ?_) (fun h => by omega)); ((apply vL_val); (case h => ((apply opv_fieldAddr); exact rfl))); ((apply vL_wanted); exact rfl); ((apply vL_val); (case h => ((apply opv_loadb1); exact rfl; exact rfl; infer_instance; exact rfl))); ((apply vL_wanted); exact rfl); (iterate 3 (((apply vL_val); (case h => ((apply opv_E); exact rfl))))); (refine vL_or rfl rfl (fun _ => ?_) (fun h => by omega)); ((apply vL_val); (case h => ((apply opv_fieldAddr); exact rfl))); ((apply vL_wanted); exact rfl); ((apply vL_val); (case h => ((apply opv_loadb1); exact rfl; exact rfl; infer_instance; exact rfl))); ((apply vL_wanted); exact rfl); (iterate 3 (((apply vL_val); (case h => ((apply opv_E); exact rfl))))); (refine vL_or rfl rfl (fun h => by omega) (fun _ => ?_)); (iterate 2 (((apply vL_unwanted'); exact rfl; exact rfl))); (iterate 2 (((apply vL_val); (case h => ((apply opv_E); exact rfl))))); (iterate 3 (((apply vL_unwanted'); exact rfl; exact rfl))); ((apply vL_val); (case h => ((apply opv_E); exact rfl))); apply vL_nil; apply seqP_normal; ((apply vC_cond_true); exact rfl); apply vC_seq; apply vC_region; ((apply vL_val); (case h => ((apply opv_E); exact rfl))); apply vL_nil; apply seqP_normal; apply vC_ret; apply seqP_ret)
    (apply ret1; (case h1 => (exact norm_eq rfl)))
    exact ⟨by rw [f1 (by omega)], by (apply Fr.alloc; exact Fr.refl _ _)⟩
  · ((refine vL_or rfl rfl (fun _ => ?_) (fun h => by omega)); ((apply vL_val); (case h => ((apply opv_fieldAddr); exact rfl))); ((apply vL_wanted); exact rfl); ((apply vL_val); (case h => ((apply opv_loadb1); exact rfl; exact rfl; infer_instance; exact rfl))); ((apply vL_wanted); exact rfl); (iterate 3 (((apply vL_val); (case h => ((apply opv_E); exact rfl))))); (refine vL_or rfl rfl (fun _ => ?_) (fun h => by omega)); ((apply vL_val); (case h => ((apply opv_fieldAddr); exact rfl))); ((apply vL_wanted); exact rfl); ((apply vL_val); (case h => ((apply opv_loadb1); exact rfl; exact rfl; infer_instance; exact rfl))); ((apply vL_wanted); exact rfl); (iterate 3 (((apply vL_val); (case h => ((apply opv_E); exact rfl))))); (refine vL_or rfl rfl (fun _ => ?_) (fun h => by omega)); ((apply vL_val); (case h => ((apply opv_fieldAddr); exact rfl))); ((apply vL_wanted); exact rfl); ((apply vL_val); (case h => ((apply opv_loadb1); exact rfl; exact rfl; infer_instance; exact rfl))); ((apply vL_wanted); exact rfl); (iterate 3 (((apply vL_val); (case h => ((apply opv_E); exact rfl))))); (refine vL_or rfl rfl (fun _ => ?_) (fun h => by omega)); ((apply vL_val); (case h => ((apply opv_fieldAddr); exact rfl))); ((apply vL_wanted); exact rfl); ((apply vL_val); (case h => ((apply opv_loadb1); exact rfl; exact rfl; infer_instance; exact rfl))); ((apply vL_wanted); exact rfl); (iterate 3 (((apply vL_val); (case h => ((apply opv_E); exact rfl))))); (refine vL_or rfl rfl (fun h => by omega) (fun _ => ?_)); (iterate 2 (((apply vL_unwanted'); exact rfl; exact rfl))); ((apply vL_val); (case h => ((apply opv_E); exact rfl))); apply vL_nil; apply seqP_normal; ((apply vC_cond_true); exact rfl); apply vC_seq; apply vC_region; ((apply vL_val); (case h => ((apply opv_E); exact rfl))); apply vL_nil; apply seqP_normal; apply vC_ret; apply seqP_ret)
    (apply ret1; (case h1 => (exact norm_eq rfl)))
    exact ⟨by rw [f1 (by omega)], by (apply Fr.alloc; exact Fr.refl _ _)⟩
  · ((refine vL_or rfl rfl (fun _ => ?_) (fun h => by omega)); ((apply vL_val); (case h => ((apply opv_fieldAddr); exact rfl))); ((apply vL_wanted); exact rfl); ((apply vL_val); (case h => ((apply opv_loadb1); exact rfl; exact rfl; infer_instance; exact rfl))); ((apply vL_wanted); exact rfl); (iterate 3 (((apply vL_val); (case h => ((apply opv_E); exact rfl))))); (refine vL_or rfl rfl (fun _ => ?_) (fun h => by omega)); ((apply vL_val); (case h => ((apply opv_fieldAddr); exact rfl))); ((apply vL_wanted); exact rfl); ((apply vL_val); (case h => ((apply opv_loadb1); exact rfl; exact rfl; infer_instance; exact rfl))); ((apply vL_wanted); exact rfl); (iterate 3 (((apply vL_val); (case h => ((apply opv_E); exact rfl))))); (refine vL_or rfl rfl (fun _ => ?_) (fun h => by omega)); ((apply vL_val); (case h => ((apply opv_fieldAddr); exact rfl))); ((apply vL_wanted); exact rfl); ((apply vL_val); (case h => ((apply opv_loadb1); exact rfl; exact rfl; infer_instance; exact rfl))); ((apply vL_wanted); exact rfl); (iterate 3 (((apply vL_val); (case h => ((apply opv_E); exact rfl))))); (refine vL_or rfl rfl (fun _ => ?_) (fun h => by omega)); ((apply vL_val); (case h => ((apply opv_fieldAddr); exact rfl))); ((apply vL_wanted); exact rfl); ((apply vL_val); (case h => ((apply opv_loadb1); exact rfl; exact rfl; infer_instance; exact rfl))); ((apply vL_wanted); exact rfl); (iterate 3 (((apply vL_val); (case h => ((apply opv_E); exact rfl))))); (refine vL_or rfl rfl (fun _ => ?_) (fun h => by omega)); ((apply vL_val); (case h => ((apply opv_fieldAddr); exact rfl))); ((apply vL_wanted); exact rfl); ((apply vL_val); (case h => ((apply opv_loadb1); exact rfl; exact rfl; infer_instance; exact rfl))); ((apply vL_wanted); exact rfl); (iterate 2 (((apply vL_val); (case h => ((apply opv_E); exact rfl))))); apply vL_nil; apply seqP_normal; (refine vC_cond_dec rfl (fun _ => ?_) (fun h => by omega)); apply vC_seq; apply vC_region; ((apply vL_val); (case h => ((apply opv_E); exact rfl))); apply vL_nil; apply seqP_normal; apply vC_ret; apply seqP_ret)
    (apply ret1; (case h1 => (exact norm_eq rfl)))
    exact ⟨by rw [f1 (by omega)], by (apply Fr.alloc; exact Fr.refl _ _)⟩
  refine vL_gen (fun w' => Fr No w w' ∧ Blk w'.heap w.heap.size [.int .i64 pid, .int .i64 ep, .int .i64 fi, rv.1] 32) ⟨by (apply Fr.alloc; exact Fr.refl _ _), inferInstance⟩ ?_
  rintro w1 ⟨hf1, hb⟩
  have hr1 := hr.frN hf1
  ((refine vL_or rfl rfl (fun _ => ?_) (fun h => by omega)); ((apply vL_val); (case h => ((apply opv_fieldAddr); exact rfl))); ((apply vL_wanted); exact rfl); ((apply vL_val); (case h => ((apply opv_loadb1); exact rfl; exact rfl; assumption; exact rfl))); ((apply vL_wanted); exact rfl); (iterate 3 (((apply vL_val); (case h => ((apply opv_E); exact rfl))))); (refine vL_or rfl rfl (fun _ => ?_) (fun h => by omega)); ((apply vL_val); (case h => ((apply opv_fieldAddr); exact rfl))); ((apply vL_wanted); exact rfl); ((apply vL_val); (case h => ((apply opv_loadb1); exact rfl; exact rfl; assumption; exact rfl))); ((apply vL_wanted); exact rfl); (iterate 3 (((apply vL_val); (case h => ((apply opv_E); exact rfl))))); (refine vL_or rfl rfl (fun _ => ?_) (fun h => by omega)); ((apply vL_val); (case h => ((apply opv_fieldAddr); exact rfl))); ((apply vL_wanted); exact rfl); ((apply vL_val); (case h => ((apply opv_loadb1); exact rfl; exact rfl; assumption; exact rfl))); ((apply vL_wanted); exact rfl); (iterate 3 (((apply vL_val); (case h => ((apply opv_E); exact rfl))))); (refine vL_or rfl rfl (fun _ => ?_) (fun h => by omega)); ((apply vL_val); (case h => ((apply opv_fieldAddr); exact rfl))); ((apply vL_wanted); exact rfl); ((apply vL_val); (case h => ((apply opv_loadb1); exact rfl; exact rfl; assumption; exact rfl))); ((apply vL_wanted); exact rfl); (iterate 3 (((apply vL_val); (case h => ((apply opv_E); exact rfl))))); (refine vL_or rfl rfl (fun _ => ?_) (fun h => by omega)); ((apply vL_val); (case h => ((apply opv_fieldAddr); exact rfl))); ((apply vL_wanted); exact rfl); ((apply vL_val); (case h => ((apply opv_loadb1); exact rfl; exact rfl; assumption; exact rfl))); ((apply vL_wanted); exact rfl); (iterate 2 (((apply vL_val); (case h => ((apply opv_E); exact rfl))))); apply vL_nil; apply seqP_normal; (refine vC_cond_dec rfl (fun h => by omega) (fun _ => ?_)); apply vC_skip; apply seqP_normal; apply vC_seq; apply vC_region; ((apply vL_val); (case h => ((apply opv_fieldAddr); exact rfl))); ((apply vL_val); (case h => ((apply opv_loadb1); exact rfl; exact rfl; assumption; exact rfl))); ((apply vL_val); (case h => ((apply opv_len); ((conv => lhs; whnf) <;> exact rfl); assumption))); (iterate 2 (((apply vL_val); (case h => ((apply opv_E); exact rfl))))))
  rcases (by omega : ys.length < 1 ∨ (1 ≤ ys.length ∧ 256 < ys.length) ∨ (1 ≤ ys.length ∧ ys.length ≤ 256)) with h2 | h2 | h2
  · ((refine vL_and rfl rfl (fun h => by omega) (fun _ => ?_)); (iterate 3 (((apply vL_unwanted'); exact rfl; exact rfl))); (iterate 2 (((apply vL_val); (case h => ((apply opv_E); exact rfl))))); (iterate 5 (((apply vL_unwanted'); exact rfl; exact rfl))); (iterate 2 (((apply vL_val); (case h => ((apply opv_E); exact rfl))))); (iterate 4 (((apply vL_unwanted'); exact rfl; exact rfl))); (iterate 8 (((apply vL_unwanted_none); exact rfl))); ((apply vL_unwanted'); exact rfl; exact rfl); (iterate 2 (((apply vL_val); (case h => ((apply opv_E); exact rfl))))); apply vL_nil; apply seqP_normal; apply vC_ret)
    (apply ret1; (case h1 => (exact norm_eq rfl)))
    exact ⟨by rw [f1 (by omega)], hf1⟩
  · ((refine vL_and rfl rfl (fun _ => ?_) (fun h => by omega)); ((apply vL_val); (case h => ((apply opv_fieldAddr); exact rfl))); ((apply vL_wanted); exact rfl); ((apply vL_val); (case h => ((apply opv_loadb1); exact rfl; exact rfl; assumption; exact rfl))); ((apply vL_wanted); exact rfl); ((apply vL_val); (case h => ((apply opv_len); ((conv => lhs; whnf) <;> exact rfl); assumption))); ((apply vL_wanted); exact rfl); (iterate 3 (((apply vL_val); (case h => ((apply opv_E); exact rfl))))); (refine vL_and rfl rfl (fun h => by omega) (fun _ => ?_)); (iterate 4 (((apply vL_unwanted'); exact rfl; exact rfl))); (iterate 2 (((apply vL_val); (case h => ((apply opv_E); exact rfl))))); (iterate 4 (((apply vL_unwanted'); exact rfl; exact rfl))); (iterate 8 (((apply vL_unwanted_none); exact rfl))); ((apply vL_unwanted'); exact rfl; exact rfl); (iterate 2 (((apply vL_val); (case h => ((apply opv_E); exact rfl))))); apply vL_nil; apply seqP_normal; apply vC_ret)
    (apply ret1; (case h1 => (exact norm_eq rfl)))
    exact ⟨by rw [f1 (by omega)], hf1⟩
  ((refine vL_and rfl rfl (fun _ => ?_) (fun h => by omega)); ((apply vL_val); (case h => ((apply opv_fieldAddr); exact rfl))); ((apply vL_wanted); exact rfl); ((apply vL_val); (case h => ((apply opv_loadb1); exact rfl; exact rfl; assumption; exact rfl))); ((apply vL_wanted); exact rfl); ((apply vL_val); (case h => ((apply opv_len); ((conv => lhs; whnf) <;> exact rfl); assumption))); ((apply vL_wanted); exact rfl); (iterate 3 (((apply vL_val); (case h => ((apply opv_E); exact rfl))))); (refine vL_and rfl rfl (fun _ => ?_) (fun h => by omega)); ((apply vL_val); (case h => ((apply opv_fieldAddr); exact rfl))); ((apply vL_wanted); exact rfl); ((apply vL_val); (case h => ((apply opv_loadb1); exact rfl; exact rfl; assumption; exact rfl))); ((apply vL_wanted); exact rfl); ((apply vL_val); (case h => ((apply opv_E); exact rfl))); ((apply vL_wanted); exact rfl))
  refine vL_callF rfl (containsFunc_by rv.1 ys _ hr1 hy) rfl ?_
  rintro _ w2 ⟨rfl, hf2⟩
  have hb2 := hb.frN hf2
  have hfw := hf1.trans hf2
  cases hc : ys.any (fun y => decide (1024 < y.2)) with
  | true =>
    have hbad : mayB pid ep fi (ys.map (·.2)) = false := by
      obtain ⟨y, hy1, hy2⟩ := List.any_eq_true.1 hc
      refine decide_eq_false (fun hm => ?_)
      have := hm.2.1.2.2 y.2 (List.mem_map.2 ⟨y, hy1, rfl⟩)
      have := of_decide_eq_true hy2
      omega
    (((apply vL_wanted); exact rfl); ((apply vL_val); (case h => ((apply opv_not); exact rfl))); (iterate 2 (((apply vL_val); (case h => ((apply opv_E); exact rfl))))); (iterate 4 (((apply vL_unwanted'); exact rfl; exact rfl))); (iterate 8 (((apply vL_unwanted_none); exact rfl))); ((apply vL_unwanted'); exact rfl; exact rfl); (iterate 2 (((apply vL_val); (case h => ((apply opv_E); exact rfl))))); apply vL_nil; apply seqP_normal; apply vC_ret)
    (apply ret1; (case h1 => (exact norm_eq rfl)))
    exact ⟨by rw [hbad], hfw⟩
  | false =>
    have hall : ∀ n ∈ ys.map (·.2), n ≤ 1024 := fun n hn => by
      obtain ⟨y, hy1, rfl⟩ := List.mem_map.1 hn
      have : ¬ (1024 < y.2) := by simpa using List.any_eq_false.1 hc y hy1
      omega
    have f2 : (0 < pid ∨ ep = 0 ∧ fi = 0) → mayB pid ep fi (ys.map (·.2)) = true := fun h3 => decide_eq_true ⟨h, ⟨by omega, by omega, hall⟩, h3⟩
    have f3 : ¬ (0 < pid ∨ ep = 0 ∧ fi = 0) → mayB pid ep fi (ys.map (·.2)) = false := fun h3 => decide_eq_false (fun hm => h3 hm.2.2)
    rcases (by omega : 0 < pid ∨ (pid = 0 ∧ ep ≠ 0) ∨ (pid = 0 ∧ ep = 0 ∧ fi ≠ 0) ∨ (pid = 0 ∧ ep = 0 ∧ fi = 0)) with h3 | h3 | h3 | h3
    · (((apply vL_wanted); exact rfl); ((apply vL_val); (case h => ((apply opv_not); exact rfl))); (iterate 2 (((apply vL_val); (case h => ((apply opv_E); exact rfl))))); ((apply vL_wanted); exact rfl); ((apply vL_val); (case h => ((apply opv_fieldAddr); exact rfl))); ((apply vL_wanted); exact rfl); ((apply vL_val); (case h => ((apply opv_loadb1); exact rfl; exact rfl; assumption; exact rfl))); ((apply vL_wanted); exact rfl); ((apply vL_val); (case h => ((apply opv_E); exact rfl))); ((apply vL_wanted); exact rfl); ((apply vL_val); (case h => ((apply opv_E); exact rfl))); (refine vL_or rfl rfl (fun h => by omega) (fun _ => ?_)); (iterate 3 (((apply vL_unwanted'); exact rfl; exact rfl))); (iterate 3 (((apply vL_unwanted_none); exact rfl))); ((apply vL_unwanted'); exact rfl; exact rfl); ((apply vL_wanted); exact rfl); (iterate 3 (((apply vL_val); (case h => ((apply opv_E); exact rfl))))); apply vL_nil; apply seqP_normal; apply vC_ret)
      (apply ret1; (case h1 => (exact norm_eq rfl)))
      exact ⟨by rw [f2 (by omega)], hfw⟩
    · (((apply vL_wanted); exact rfl); ((apply vL_val); (case h => ((apply opv_not); exact rfl))); (iterate 2 (((apply vL_val); (case h => ((apply opv_E); exact rfl))))); ((apply vL_wanted); exact rfl); ((apply vL_val); (case h => ((apply opv_fieldAddr); exact rfl))); ((apply vL_wanted); exact rfl); ((apply vL_val); (case h => ((apply opv_loadb1); exact rfl; exact rfl; assumption; exact rfl))); ((apply vL_wanted); exact rfl); ((apply vL_val); (case h => ((apply opv_E); exact rfl))); ((apply vL_wanted); exact rfl); ((apply vL_val); (case h => ((apply opv_E); exact rfl))); (refine vL_or rfl rfl (fun _ => ?_) (fun h => by omega)); ((apply vL_val); (case h => ((apply opv_fieldAddr); exact rfl))); ((apply vL_wanted); exact rfl); ((apply vL_val); (case h => ((apply opv_loadb1); exact rfl; exact rfl; assumption; exact rfl))); ((apply vL_wanted); exact rfl); ((apply vL_val); (case h => ((apply opv_E); exact rfl))); ((apply vL_wanted); exact rfl); ((apply vL_val); (case h => ((apply opv_E); exact rfl))); (refine vL_and rfl rfl (fun h => by omega) (fun _ => ?_)); (iterate 2 (((apply vL_unwanted'); exact rfl; exact rfl))); ((apply vL_wanted); exact rfl); ((apply vL_val); (case h => ((apply opv_E); exact rfl))); ((apply vL_wanted); exact rfl); (iterate 3 (((apply vL_val); (case h => ((apply opv_E); exact rfl))))); apply vL_nil; apply seqP_normal; apply vC_ret)
      (apply ret1; (case h1 => (exact norm_eq rfl)))
      exact ⟨by rw [f3 (by omega)], hfw⟩
    · (((apply vL_wanted); exact rfl); ((apply vL_val); (case h => ((apply opv_not); exact rfl))); (iterate 2 (((apply vL_val); (case h => ((apply opv_E); exact rfl))))); ((apply vL_wanted); exact rfl); ((apply vL_val); (case h => ((apply opv_fieldAddr); exact rfl))); ((apply vL_wanted); exact rfl); ((apply vL_val); (case h => ((apply opv_loadb1); exact rfl; exact rfl; assumption; exact rfl))); ((apply vL_wanted); exact rfl); ((apply vL_val); (case h => ((apply opv_E); exact rfl))); ((apply vL_wanted); exact rfl); ((apply vL_val); (case h => ((apply opv_E); exact rfl))); (refine vL_or rfl rfl (fun _ => ?_) (fun h => by omega)); ((apply vL_val); (case h => ((apply opv_fieldAddr); exact rfl))); ((apply vL_wanted); exact rfl); ((apply vL_val); (case h => ((apply opv_loadb1); exact rfl; exact rfl; assumption; exact rfl))); ((apply vL_wanted); exact rfl); ((apply vL_val); (case h => ((apply opv_E); exact rfl))); ((apply vL_wanted); exact rfl); ((apply vL_val); (case h => ((apply opv_E); exact rfl))); (refine vL_and rfl rfl (fun _ => ?_) (fun h => by omega)); ((apply vL_val); (case h => ((apply opv_fieldAddr); exact rfl))); ((apply vL_wanted); exact rfl); ((apply vL_val); (case h => ((apply opv_loadb1); exact rfl; exact rfl; assumption; exact rfl))); ((apply vL_wanted); exact rfl); ((apply vL_val); (case h => ((apply opv_E); exact rfl))); ((apply vL_wanted); exact rfl); ((apply vL_val); (case h => ((apply opv_E); exact rfl))); ((apply vL_wanted); exact rfl); (iterate 3 (((apply vL_val); (case h => ((apply opv_E); exact rfl))))); apply vL_nil; apply seqP_normal; apply vC_ret)
      (apply ret1; (case h1 => (exact norm_eq rfl)))
      exact ⟨by rw [f3 (by omega), decide_eq_false (by omega)], hfw⟩
    · (((apply vL_wanted); exact rfl); ((apply vL_val); (case h => ((apply opv_not); exact rfl))); (iterate 2 (((apply vL_val); (case h => ((apply opv_E); exact rfl))))); ((apply vL_wanted); exact rfl); ((apply vL_val); (case h => ((apply opv_fieldAddr); exact rfl))); ((apply vL_wanted); exact rfl); ((apply vL_val); (case h => ((apply opv_loadb1); exact rfl; exact rfl; assumption; exact rfl))); ((apply vL_wanted); exact rfl); ((apply vL_val); (case h => ((apply opv_E); exact rfl))); ((apply vL_wanted); exact rfl); ((apply vL_val); (case h => ((apply opv_E); exact rfl))); (refine vL_or rfl rfl (fun _ => ?_) (fun h => by omega)); ((apply vL_val); (case h => ((apply opv_fieldAddr); exact rfl))); ((apply vL_wanted); exact rfl); ((apply vL_val); (case h => ((apply opv_loadb1); exact rfl; exact rfl; assumption; exact rfl))); ((apply vL_wanted); exact rfl); ((apply vL_val); (case h => ((apply opv_E); exact rfl))); ((apply vL_wanted); exact rfl); ((apply vL_val); (case h => ((apply opv_E); exact rfl))); (refine vL_and rfl rfl (fun _ => ?_) (fun h => by omega)); ((apply vL_val); (case h => ((apply opv_fieldAddr); exact rfl))); ((apply vL_wanted); exact rfl); ((apply vL_val); (case h => ((apply opv_loadb1); exact rfl; exact rfl; assumption; exact rfl))); ((apply vL_wanted); exact rfl); ((apply vL_val); (case h => ((apply opv_E); exact rfl))); ((apply vL_wanted); exact rfl); ((apply vL_val); (case h => ((apply opv_E); exact rfl))); ((apply vL_wanted); exact rfl); (iterate 3 (((apply vL_val); (case h => ((apply opv_E); exact rfl))))); apply vL_nil; apply seqP_normal; apply vC_ret)
      (apply ret1; (case h1 => (exact norm_eq rfl)))
      exact ⟨by rw [f2 (by omega), decide_eq_true (by omega)], hfw⟩
end Go.Proofs.Ytchfaeaagpemlaa

set_option maxRecDepth 100000
namespace Go.Proofs.Ytchfaeaagpemlaa
open Go Go.Eng
def setAll (e : Env) : List Nat → List Value → Env
  | s :: ss, v :: vs => upd (setAll e ss vs) s v
  | _, _ => e
theorem setAll_self (e : Env) : ∀ ss : List Nat, setAll e ss (ss.map e) = e
  | [] => rfl
  | s :: ss => by
    show upd (setAll e ss (ss.map e)) s (e s) = e
    rw [setAll_self e ss, upd_self _ _ _ rfl]
/-- all slots are forgotten but for those named -/
theorem vC_slots {P : Program} {n : Nat} {e : Env} {w : World} {Q : Post} {c : Code} (ss : List Nat) (A : List Value → World → Prop) (h : A (ss.map e) w) (k : ∀ e' vs w', A vs w' → vC P n c (setAll e' ss vs) w' Q) : vC P n c e w Q := by
  have := k e _ w h
  rwa [setAll_self] at this
theorem vL_slots {P : Program} {n : Nat} {ops l : List Oper} {e : Env} {w : World} {Q : Post} (ss : List Nat) (A : List Value → World → Prop) (h : A (ss.map e) w) (k : ∀ e' vs w', A vs w' → vL P n ops l (setAll e' ss vs) w' Q) : vL P n ops l e w Q := by
  have := k e _ w h
  rwa [setAll_self] at this
def mayPB (t : ByteArray) (p : Int) : Bool := nameB t && decide (0 ≤ p ∧ p < 8)
theorem mayp31 (t : ByteArray) (p : Int) (w : World) (hsz : t.size ≤ 9223372036854775807) : Rets Try.prog 11 #[.agg #[.string t, .int .i64 p]] w fun u w' => u = .bool (mayPB t p) ∧ Fr No w w' := by
  unfold mayPB
  refine rets_of Try.func11 rfl Try.ntmps11 rfl rfl (by kernel_rfl) ?_
  (apply vC_seq; apply vC_region; ((apply vL_val); (case h => ((apply opw_boxn); exact rfl))); ((apply vL_val); (case h => ((apply opv_E); exact rfl))); apply vL_nil; apply seqP_normal; apply vC_seq; apply vC_region; ((apply vL_val); (case h => ((apply opv_fieldAddr); exact rfl))); ((apply vL_val); (case h => ((apply opv_loadb1); exact rfl; exact rfl; infer_instance; exact rfl))))
  refine vL_gen (fun w' => Fr No w w' ∧ Blk w'.heap w.heap.size [.string t, .int .i64 p] 36) ⟨by (apply Fr.alloc; exact Fr.refl _ _), inferInstance⟩ ?_
  rintro w1 ⟨hf1, h1⟩
  generalize w.heap.size = b1 at h1 ⊢
  refine vL_callF rfl (name27 t w1 hsz) rfl ?_
  rintro _ _ ⟨rfl, rfl⟩
  cases nameB t with
  | false =>
    (((apply vL_val); (case h => ((apply opv_E); exact rfl))); (iterate 3 (((apply vL_unwanted'); exact rfl; exact rfl))); (iterate 2 (((apply vL_val); (case h => ((apply opv_E); exact rfl))))); (iterate 3 (((apply vL_unwanted'); exact rfl; exact rfl))); (iterate 2 (((apply vL_val); (case h => ((apply opv_E); exact rfl))))); apply vL_nil; apply seqP_normal; apply vC_ret)
    (apply ret1; (case h1 => (exact norm_eq rfl)))
    exact ⟨rfl, hf1⟩
  | true =>
    rcases (by omega : ¬ 0 ≤ p ∨ (0 ≤ p ∧ p < 8) ∨ (0 ≤ p ∧ ¬ p < 8)) with h | h | h
    · (((apply vL_val); (case h => ((apply opv_E); exact rfl))); ((apply vL_wanted); exact rfl); ((apply vL_val); (case h => ((apply opv_fieldAddr); exact rfl))); ((apply vL_wanted); exact rfl); ((apply vL_val); (case h => ((apply opv_loadb1); exact rfl; exact rfl; assumption; exact rfl))); ((apply vL_wanted); exact rfl); (iterate 3 (((apply vL_val); (case h => ((apply opv_E); exact rfl))))); (refine vL_and rfl rfl (fun h => by omega) (fun _ => ?_)); (iterate 2 (((apply vL_unwanted'); exact rfl; exact rfl))); (iterate 2 (((apply vL_val); (case h => ((apply opv_E); exact rfl))))); apply vL_nil; apply seqP_normal; apply vC_ret)
      (apply ret1; (case h1 => (exact norm_eq rfl)))
      exact ⟨by rw [decide_eq_false (fun h' : 0 ≤ p ∧ p < 8 => h h'.1)]; rfl, hf1⟩
    · (((apply vL_val); (case h => ((apply opv_E); exact rfl))); ((apply vL_wanted); exact rfl); ((apply vL_val); (case h => ((apply opv_fieldAddr); exact rfl))); ((apply vL_wanted); exact rfl); ((apply vL_val); (case h => ((apply opv_loadb1); exact rfl; exact rfl; assumption; exact rfl))); ((apply vL_wanted); exact rfl); (iterate 3 (((apply vL_val); (case h => ((apply opv_E); exact rfl))))); (refine vL_and rfl rfl (fun _ => ?_) (fun h => by omega)); ((apply vL_val); (case h => ((apply opv_fieldAddr); exact rfl))); ((apply vL_wanted); exact rfl); ((apply vL_val); (case h => ((apply opv_loadb1); exact rfl; exact rfl; assumption; exact rfl))); ((apply vL_wanted); exact rfl); (iterate 3 (((apply vL_val); (case h => ((apply opv_E); exact rfl))))); apply vL_nil; apply seqP_normal; apply vC_ret)
      (apply ret1; (case h1 => (exact norm_eq rfl)))
      exact ⟨by rw [decide_eq_true h.2, decide_eq_true h]; rfl, hf1⟩
    · (((apply vL_val); (case h => ((apply opv_E); exact rfl))); ((apply vL_wanted); exact rfl); ((apply vL_val); (case h => ((apply opv_fieldAddr); exact rfl))); ((apply vL_wanted); exact rfl); ((apply vL_val); (case h => ((apply opv_loadb1); exact rfl; exact rfl; assumption; exact rfl))); ((apply vL_wanted); exact rfl); (iterate 3 (((apply vL_val); (case h => ((apply opv_E); exact rfl))))); (refine vL_and rfl rfl (fun _ => ?_) (fun h => by omega)); ((apply vL_val); (case h => ((apply opv_fieldAddr); exact rfl))); ((apply vL_wanted); exact rfl); ((apply vL_val); (case h => ((apply opv_loadb1); exact rfl; exact rfl; assumption; exact rfl))); ((apply vL_wanted); exact rfl); (iterate 3 (((apply vL_val); (case h => ((apply opv_E); exact rfl))))); apply vL_nil; apply seqP_normal; apply vC_ret)
      (apply ret1; (case h1 => (exact norm_eq rfl)))
      exact ⟨by rw [decide_eq_false h.2, decide_eq_false (fun h' : 0 ≤ p ∧ p < 8 => h.2 h'.2)]; rfl, hf1⟩
theorem of31 (r : RQ) (w : World) : Rets Try.prog 30 #[.agg (rqE r).toArray] w fun u w' => u = .agg #[.string r.topic, .int .i64 r.part] ∧ Fr No w w' := by
  have hb0 := r.brv.2
  have ht0 := r.trv.2
  refine rets_of Try.func30 rfl Try.ntmps30 rfl rfl (by kernel_rfl) ?_
  (apply vC_seq; apply vC_region; ((apply vL_val); (case h => ((apply opw_boxn); exact rfl))); ((apply vL_val); (case h => (apply opw_alloc))); apply vL_nil; apply seqP_normal; apply vC_seq; apply vC_region; ((apply vL_val); (case h => ((apply opv_fieldAddr); exact rfl))); ((apply vL_val); (case h => ((apply opv_loadb1); exact rfl; exact rfl; infer_instance; exact rfl))); ((apply vL_val); (case h => ((apply opv_fieldAddr); exact rfl))); ((apply vL_val); (case h => ((apply opv_loadb1); exact rfl; exact rfl; infer_instance; exact rfl))); ((apply vL_val); (case h => ((apply opv_buildS); exact rfl; exact (rfl : _ = some [_, _])))); ((apply vL_skip); (case h => ((apply ops_storen); exact norm_eq rfl; exact norm_eq rfl; exact rfl; (intro u hu; simp at hu; rcases hu with rfl | rfl <;> (first | rfl | assumption)); infer_instance; (first | decide | exact of_decide_eq_true rfl | (simp; done))))); apply vL_nil; apply seqP_normal; apply vC_ret)
  (apply retC1; (case ha => exact rfl); (case hD => exact rfl); (case hb => (infer_instance)); (case hcs => (exact (rfl : _ = [_, _]))); (case hl => exact rfl))
  exact ⟨rfl, by (apply Fr.allocSet; apply Fr.alloc; exact Fr.refl _ _)⟩
def ownB (c : CL) (r : RQ) : Bool := decide (r.k = 1) && !c.stale && decide (r.pid = c.pid) && decide (r.ep = c.ep)
theorem own31 (c : CL) (r : RQ) (w : World) : Rets Try.prog 17 #[.agg (clE c).toArray, .agg (rqE r).toArray] w fun u w' => u = .bool (ownB c r) ∧ Fr No w w' := by
  unfold ownB
  have hb0 := r.brv.2
  have ht0 := r.trv.2
  have hw0 := c.wv.2
  have hs0 := c.sv.2
  obtain ⟨id, br, nx, now, bro, wv, pid, ep, st, sv, ws, ss⟩ := c
  simp only at hw0 hs0 ⊢
  refine rets_of Try.func17 rfl Try.ntmps17 rfl rfl (by kernel_rfl) ?_
  by_cases h1 : r.k = 1
  rotate_left
  · (apply vC_seq; apply vC_region; (iterate 2 (((apply vL_val); (case h => ((apply opw_boxn); exact rfl))))); ((apply vL_val); (case h => ((apply opv_E); exact rfl))); apply vL_nil; apply seqP_normal; apply vC_seq; apply vC_region; ((apply vL_val); (case h => ((apply opv_fieldAddr); exact rfl))); ((apply vL_val); (case h => ((apply opv_loadb1); exact rfl; exact rfl; infer_instance; exact rfl))); (iterate 2 (((apply vL_val); (case h => ((apply opv_E); exact rfl))))); (refine vL_and rfl rfl (fun h => by omega) (fun _ => ?_)); (iterate 2 (((apply vL_unwanted'); exact rfl; exact rfl))); (iterate 2 (((apply vL_val); (case h => ((apply opv_E); exact rfl))))); (iterate 6 (((apply vL_unwanted'); exact rfl; exact rfl))); (iterate 2 (((apply vL_val); (case h => ((apply opv_E); exact rfl))))); (iterate 6 (((apply vL_unwanted'); exact rfl; exact rfl))); (iterate 2 (((apply vL_val); (case h => ((apply opv_E); exact rfl))))); apply vL_nil; apply seqP_normal; apply vC_ret)
    (apply ret1; (case h1 => (exact norm_eq rfl)))
    exact ⟨by rw [decide_eq_false h1]; rfl, by ((iterate 2 (apply Fr.alloc)); exact Fr.refl _ _)⟩
  cases st with
  | true =>
    (apply vC_seq; apply vC_region; (iterate 2 (((apply vL_val); (case h => ((apply opw_boxn); exact rfl))))); ((apply vL_val); (case h => ((apply opv_E); exact rfl))); apply vL_nil; apply seqP_normal; apply vC_seq; apply vC_region; ((apply vL_val); (case h => ((apply opv_fieldAddr); exact rfl))); ((apply vL_val); (case h => ((apply opv_loadb1); exact rfl; exact rfl; infer_instance; exact rfl))); (iterate 2 (((apply vL_val); (case h => ((apply opv_E); exact rfl))))); (refine vL_and rfl rfl (fun _ => ?_) (fun h => by omega)); ((apply vL_val); (case h => ((apply opv_fieldAddr); exact rfl))); ((apply vL_wanted); exact rfl); ((apply vL_val); (case h => ((apply opv_loadb1); exact rfl; exact rfl; infer_instance; exact rfl))); ((apply vL_wanted); exact rfl); ((apply vL_val); (case h => ((apply opv_not); exact rfl))); (iterate 2 (((apply vL_val); (case h => ((apply opv_E); exact rfl))))); (iterate 6 (((apply vL_unwanted'); exact rfl; exact rfl))); (iterate 2 (((apply vL_val); (case h => ((apply opv_E); exact rfl))))); (iterate 6 (((apply vL_unwanted'); exact rfl; exact rfl))); (iterate 2 (((apply vL_val); (case h => ((apply opv_E); exact rfl))))); apply vL_nil; apply seqP_normal; apply vC_ret)
    (apply ret1; (case h1 => (exact norm_eq rfl)))
    exact ⟨by rw [decide_eq_true h1]; rfl, by ((iterate 2 (apply Fr.alloc)); exact Fr.refl _ _)⟩
  | false =>
  by_cases h2 : r.pid = pid
  rotate_left
  · (apply vC_seq; apply vC_region; (iterate 2 (((apply vL_val); (case h => ((apply opw_boxn); exact rfl))))); ((apply vL_val); (case h => ((apply opv_E); exact rfl))); apply vL_nil; apply seqP_normal; apply vC_seq; apply vC_region; ((apply vL_val); (case h => ((apply opv_fieldAddr); exact rfl))); ((apply vL_val); (case h => ((apply opv_loadb1); exact rfl; exact rfl; infer_instance; exact rfl))); (iterate 2 (((apply vL_val); (case h => ((apply opv_E); exact rfl))))); (refine vL_and rfl rfl (fun _ => ?_) (fun h => by omega)); ((apply vL_val); (case h => ((apply opv_fieldAddr); exact rfl))); ((apply vL_wanted); exact rfl); ((apply vL_val); (case h => ((apply opv_loadb1); exact rfl; exact rfl; infer_instance; exact rfl))); ((apply vL_wanted); exact rfl); ((apply vL_val); (case h => ((apply opv_not); exact rfl))); (iterate 2 (((apply vL_val); (case h => ((apply opv_E); exact rfl))))); ((apply vL_wanted); exact rfl); ((apply vL_val); (case h => ((apply opv_fieldAddr); exact rfl))); ((apply vL_wanted); exact rfl); ((apply vL_val); (case h => ((apply opv_fieldAddr); exact rfl))); ((apply vL_wanted); exact rfl); ((apply vL_val); (case h => ((apply opv_loadb1); exact rfl; exact rfl; infer_instance; exact rfl))); ((apply vL_wanted); exact rfl); ((apply vL_val); (case h => ((apply opv_fieldAddr); exact rfl))); ((apply vL_wanted); exact rfl); ((apply vL_val); (case h => ((apply opv_loadb1); exact rfl; exact rfl; infer_instance; exact rfl))); ((apply vL_wanted); exact rfl); (iterate 3 (((apply vL_val); (case h => ((apply opv_E); exact rfl))))); (refine vL_andF rfl rfl (by ((simp only [Bool.not_eq_true', Bool.not_eq_false', Bool.not_not, decide_eq_true_eq, decide_eq_false_iff_not]); omega)) ?_); (iterate 5 (((apply vL_unwanted'); exact rfl; exact rfl))); (iterate 2 (((apply vL_val); (case h => ((apply opv_E); exact rfl))))); apply vL_nil; apply seqP_normal; apply vC_ret)
    (apply ret1; (case h1 => (exact norm_eq rfl)))
    exact ⟨by rw [decide_eq_true h1, decide_eq_false h2]; rfl, by ((iterate 2 (apply Fr.alloc)); exact Fr.refl _ _)⟩
  (apply vC_seq; apply vC_region; (iterate 2 (((apply vL_val); (case h => ((apply opw_boxn); exact rfl))))); ((apply vL_val); (case h => ((apply opv_E); exact rfl))); apply vL_nil; apply seqP_normal; apply vC_seq; apply vC_region; ((apply vL_val); (case h => ((apply opv_fieldAddr); exact rfl))); ((apply vL_val); (case h => ((apply opv_loadb1); exact rfl; exact rfl; infer_instance; exact rfl))); (iterate 2 (((apply vL_val); (case h => ((apply opv_E); exact rfl))))); (refine vL_and rfl rfl (fun _ => ?_) (fun h => by omega)); ((apply vL_val); (case h => ((apply opv_fieldAddr); exact rfl))); ((apply vL_wanted); exact rfl); ((apply vL_val); (case h => ((apply opv_loadb1); exact rfl; exact rfl; infer_instance; exact rfl))); ((apply vL_wanted); exact rfl); ((apply vL_val); (case h => ((apply opv_not); exact rfl))); (iterate 2 (((apply vL_val); (case h => ((apply opv_E); exact rfl))))); ((apply vL_wanted); exact rfl); ((apply vL_val); (case h => ((apply opv_fieldAddr); exact rfl))); ((apply vL_wanted); exact rfl); ((apply vL_val); (case h => ((apply opv_fieldAddr); exact rfl))); ((apply vL_wanted); exact rfl); ((apply vL_val); (case h => ((apply opv_loadb1); exact rfl; exact rfl; infer_instance; exact rfl))); ((apply vL_wanted); exact rfl); ((apply vL_val); (case h => ((apply opv_fieldAddr); exact rfl))); ((apply vL_wanted); exact rfl); ((apply vL_val); (case h => ((apply opv_loadb1); exact rfl; exact rfl; infer_instance; exact rfl))); ((apply vL_wanted); exact rfl); (iterate 3 (((apply vL_val); (case h => ((apply opv_E); exact rfl))))); (refine vL_andT rfl rfl (by ((simp only [Bool.not_eq_true', Bool.not_eq_false', Bool.not_not, decide_eq_true_eq, decide_eq_false_iff_not]); omega)) ?_); ((apply vL_val); (case h => ((apply opv_fieldAddr); exact rfl))); ((apply vL_wanted); exact rfl); ((apply vL_val); (case h => ((apply opv_fieldAddr); exact rfl))); ((apply vL_wanted); exact rfl); ((apply vL_val); (case h => ((apply opv_loadb1); exact rfl; exact rfl; infer_instance; exact rfl))); ((apply vL_wanted); exact rfl); ((apply vL_val); (case h => ((apply opv_fieldAddr); exact rfl))); ((apply vL_wanted); exact rfl); ((apply vL_val); (case h => ((apply opv_loadb1); exact rfl; exact rfl; infer_instance; exact rfl))); ((apply vL_wanted); exact rfl); (iterate 3 (((apply vL_val); (case h => ((apply opv_E); exact rfl))))); apply vL_nil; apply seqP_normal; apply vC_ret)
  (apply ret1; (case h1 => (exact norm_eq rfl)))
  exact ⟨by rw [decide_eq_true h1, decide_eq_true h2]; rfl, by ((iterate 2 (apply Fr.alloc)); exact Fr.refl _ _)⟩
theorem new31 (i b : Int) (w : World) (hi : 1 ≤ i ∧ i ≤ 1048576) (hb : 1 ≤ b ∧ b ≤ 7) : Rets Try.prog 10 #[.int .i64 i, .int .i64 b] w fun u w' => u = .tuple #[.agg #[.int .i64 i, .int .i64 b, .int .i64 1, .int .i64 0, .int .i64 1, .slice none 0 0, .int .i64 0, .int .i64 0, .bool false, .slice none 0 0], .int .i64 0] ∧ Fr No w w' := by
  refine rets_of Try.func10 rfl Try.ntmps10 rfl rfl (by kernel_rfl) ?_
  (apply vC_seq; apply vC_region; ((apply vL_val); (case h => (apply opw_alloc))); ((apply vL_val); (case h => ((apply opv_E); exact rfl))); apply vL_nil; apply seqP_normal; (iterate 2 (apply vC_seq)); apply vC_region; (iterate 3 (((apply vL_val); (case h => ((apply opv_E); exact rfl))))); (refine vL_or rfl rfl (fun _ => ?_) (fun h => by omega)); ((apply vL_val); (case h => ((apply opv_E); exact rfl))); ((apply vL_wanted); exact rfl); (iterate 3 (((apply vL_val); (case h => ((apply opv_E); exact rfl))))); (refine vL_or rfl rfl (fun _ => ?_) (fun h => by omega)); ((apply vL_val); (case h => ((apply opv_E); exact rfl))); ((apply vL_wanted); exact rfl); (iterate 3 (((apply vL_val); (case h => ((apply opv_E); exact rfl))))); (refine vL_or rfl rfl (fun _ => ?_) (fun h => by omega)); ((apply vL_val); (case h => ((apply opv_E); exact rfl))); ((apply vL_wanted); exact rfl); (iterate 2 (((apply vL_val); (case h => ((apply opv_E); exact rfl))))); apply vL_nil; apply seqP_normal; (refine vC_cond_dec rfl (fun h => by omega) (fun _ => ?_)); apply vC_skip; apply seqP_normal; apply vC_seq; apply vC_region; (iterate 2 (((apply vL_val); (case h => ((apply opv_E); exact rfl))))); ((apply vL_val); (case h => ((apply opv_buildS); exact rfl; exact (rfl : _ = some [_, _, _, _, _, _, _, _, _, _])))); ((apply vL_skip); (case h => ((apply ops_storen); exact norm_eq rfl; exact norm_eq rfl; exact rfl; (intro u hu; simp only [List.mem_cons, List.not_mem_nil, or_false] at hu; rcases hu with rfl | rfl | rfl | rfl | rfl | rfl | rfl | rfl | rfl | rfl <;> (first | rfl | assumption)); infer_instance; (first | decide | exact of_decide_eq_true rfl | (simp; done))))); ((apply vL_val); (case h => ((apply opv_E); exact rfl))); apply vL_nil; apply seqP_normal; apply vC_ret)
  (apply retC2; (case ha => exact rfl); (case hD => exact rfl); (case hb => (infer_instance)); (case hcs => (exact (rfl : _ = [_, _, _, _, _, _, _, _, _, _]))); (case hl => exact rfl); (case hu => (exact norm_eq rfl)))
  exact ⟨rfl, by (apply Fr.allocSet; exact Fr.refl _ _)⟩
end Go.Proofs.Ytchfaeaagpemlaa

set_option maxRecDepth 100000
namespace Go.Proofs.Ytchfaeaagpemlaa
open Go Go.Eng
theorem Rd.by25 {h : Array Obj} {v : Value} {ys : List (OV × List Int)} (r : Rd h 1 brE v ys) : Rd h 1 byE v (ys.map (fun y => (y.1, y.2.length))) := by
  refine ⟨?_, by rw [List.length_map]; exact r.small, fun x _ => EncOk.len x, fun i x hx j u hu => ?_⟩
  · have := r.shape
    rw [List.length_map]
    rcases this with ⟨h, h'⟩ | h
    · exact .inl ⟨by rw [h]; rfl, h'⟩
    · exact .inr h
  · rw [List.getElem?_map] at hx
    cases hy : ys[i]? with
    | none => rw [hy] at hx; cases hx
    | some y =>
      rw [hy] at hx
      cases hx
      exact r.cells i y hy j u hu
theorem contains0 (a : Option Addr) (c : Nat) (fv : Value) (w : World) (hfv : fv.oneCell' = true) : Rets Try.prog 32 #[.slice a 0 c, fv] w fun u w' => u = .bool false ∧ w = w' := by
  have hi : Rets Try.prog 19 #[.slice a 0 c, fv] w fun u w' => u = .int .i64 (-1) ∧ w = w' := by
    refine rets_of Try.func19 rfl Try.ntmps19 rfl rfl (by kernel_rfl) ?_
    (apply vC_seq; apply vC_region; ((apply vL_val); (case h => ((apply opv_E); exact rfl))); apply vL_nil; apply seqP_normal; (iterate 2 (apply vC_seq)); apply vC_region; ((apply vL_val); (case h => ((apply opv_E); exact rfl))); ((apply vL_val); (case h => ((apply opv_lenc); exact rfl))); ((apply vL_val); (case h => ((apply opv_E); exact rfl))); apply vL_nil; apply seqP_normal; apply vC_block)
    (apply vC_loop1 524080 8 (fun u w' => u = .int .i64 0 ∧ w = w') (fun _ _ => 0)); (case h1 => (exact norm_eq rfl))
    case h0 => exact ⟨rfl, rfl⟩
    case round =>
    rintro junk _ _ ⟨rfl, rfl⟩
    (apply vC_seq; apply vC_region; ((apply vL_val); (case h => ((apply opv_E); exact rfl))); apply vL_nil; apply seqP_normal; apply vC_seq; ((apply vC_cond_false); exact rfl); apply vC_exit; apply seqP_exit; apply loopP_exit; apply blockP_exit; apply seqP_normal; apply vC_seq; apply vC_region; ((apply vL_val); (case h => ((apply opv_E); exact rfl))); apply vL_nil; apply seqP_normal; apply vC_ret)
    (apply ret1; (case h1 => (exact norm_eq rfl)))
    exact ⟨rfl, rfl⟩
  refine rets_of Try.func32 rfl Try.ntmps32 rfl rfl (by kernel_rfl) ?_
  (apply vC_seq; apply vC_region; ((apply vL_val); (case h => ((apply opv_E); exact rfl))); apply vL_nil; apply seqP_normal; apply vC_seq; apply vC_region; ((apply vL_val); (case h => ((apply opv_E); exact rfl))); ((apply vL_val); (case h => ((apply opv_move); ((conv => lhs; whnf) <;> exact rfl)))))
  refine vL_callF rfl (hi) rfl ?_
  rintro _ _ ⟨rfl, rfl⟩
  ((iterate 2 (((apply vL_val); (case h => ((apply opv_E); exact rfl))))); apply vL_nil; apply seqP_normal; apply vC_ret)
  (apply ret1; (case h1 => (exact norm_eq rfl)))
  exact ⟨rfl, rfl⟩
theorem produces31 (t : ByteArray) (p : Int) (w : World) : Rets Try.prog 33 #[.agg #[.string t, .int .i64 p]] w fun u w' => u = .func (.func 44) #[] #[.pointer (some ⟨w.heap.size, 0, none⟩)] ∧ Fr No w w' ∧ Blk w'.heap w.heap.size [.string t, .int .i64 p] 36 := by
  refine rets_of Try.func33 rfl Try.ntmps33 rfl rfl (by kernel_rfl) ?_
  (apply vC_seq; apply vC_region; ((apply vL_val); (case h => ((apply opw_boxn); exact rfl))); ((apply vL_val); (case h => ((apply opv_E); exact rfl))); apply vL_nil; apply seqP_normal; apply vC_seq; apply vC_region; ((apply vL_val); (case h => ((apply opv_makeFunc); exact rfl))); ((apply vL_val); (case h => ((apply opv_E); exact rfl))); apply vL_nil; apply seqP_normal; apply vC_ret)
  (apply ret1; (case h1 => (exact norm_eq rfl)))
  exact ⟨rfl, by (apply Fr.alloc; exact Fr.refl _ _), inferInstance⟩
def WOk (id next brokers : Int) (x : WT) : Prop := 0 < x.rq.call ∧ x.rq.call < next ∧ x.rq.cl = id ∧ 1 ≤ x.rq.k ∧ x.rq.k ≤ 6 ∧ 0 ≤ x.due ∧ x.due ≤ 1099511627784 ∧ 1 ≤ x.tries ∧ x.tries ≤ 10 ∧ 1 ≤ x.broker ∧ x.broker ≤ brokers ∧ (x.rq.k = 1 → mayPB x.rq.topic x.rq.part = true ∧ 1 ≤ x.rq.pid ∧ mayB x.rq.pid x.rq.ep x.rq.fi (x.rq.brs.map (fun y => y.2.length)) = true ∧ x.rq.topic.size ≤ 1000)
theorem waits31 (c : CL) (w : World) (hr : ClRd w.heap c) (h1 : c.ws.length ≤ 1) (hx : ∀ x ∈ c.ws, WOk c.id c.next c.brokers x) : Rets Try.prog 13 #[.agg (clE c).toArray] w fun u w' => u = .bool true ∧ Fr No w w' := by
  have hw0 := c.wv.2
  have hs0 := c.sv.2
  refine rets_of Try.func13 rfl Try.ntmps13 rfl rfl (by kernel_rfl) ?_
  ((apply vC_seq; apply vC_region)); ((((apply vL_val); (case h => ((apply opw_boxn); exact rfl))); ((apply vL_val); (case h => ((apply opv_E); exact rfl))); apply vL_nil)); with_reducible apply seqP_normal
  ((apply vC_seq; apply vC_region))
  refine vL_gen (fun w' => Fr No w w' ∧ w.heap.size < w'.heap.size ∧ Blk w'.heap w.heap.size (clE c) 25) ⟨by (apply Fr.alloc; exact Fr.refl _ _), by simp, inferInstance⟩ ?_
  rintro w1 ⟨hf1, hz1, hb1⟩
  generalize w.heap.size = b1 at hb1 hz1 ⊢
  have hr1 := hr.1.frN hf1
  (((apply vL_val); (case h => ((apply opv_E); exact rfl))); apply vL_nil; apply seqP_normal; (iterate 2 (apply vC_seq)); apply vC_region; ((apply vL_val); (case h => ((apply opv_fieldAddr); exact rfl))); ((apply vL_val); (case h => ((apply opv_loadb1); exact rfl; exact rfl; assumption; exact rfl))); ((apply vL_val); (case h => ((apply opv_len); ((conv => lhs; whnf) <;> exact rfl); assumption))); ((apply vL_val); (case h => ((apply opv_E); exact rfl))); apply vL_nil; apply seqP_normal; apply vC_block)
  (apply vC_loop2 649037107316853453566312041151612 3 10 (fun u v w' => ∃ (la : Int) (i : Nat), u = .int .i64 la ∧ v = .int .i64 i ∧ i ≤ c.ws.length ∧ (i = 0 → la = 0) ∧ Fr No w w' ∧ Blk w'.heap b1 (clE c) 25) (fun _ v _ => c.ws.length - (RowKit.intOf v).toNat)); (case h1 => (exact norm_eq rfl)); (case h2 => (exact norm_eq rfl))
  case h0 => exact ⟨0, 0, rfl, rfl, Nat.zero_le _, fun _ => rfl, hf1, hb1⟩
  case round =>
  rintro junk _ _ w2 ⟨la, i, rfl, rfl, hi, hla, hf2, hb2⟩
  have hr2 := hr.1.frN hf2
  by_cases hil : i < c.ws.length
  rotate_left
  · (apply vC_seq; apply vC_region; ((apply vL_val); (case h => ((apply opv_E); exact rfl))); apply vL_nil; apply seqP_normal; apply vC_seq; (refine vC_cond_dec rfl (fun h => by omega) (fun _ => ?_)); apply vC_exit; apply seqP_exit; apply loopP_exit; apply blockP_exit; apply seqP_normal; apply vC_seq; apply vC_region; ((apply vL_val); (case h => ((apply opv_fieldAddr); exact rfl))); ((apply vL_val); (case h => ((apply opv_loadb1); exact rfl; exact rfl; assumption; exact rfl))); ((apply vL_val); (case h => ((apply opv_len); ((conv => lhs; whnf) <;> exact rfl); assumption))); (iterate 2 (((apply vL_val); (case h => ((apply opv_E); exact rfl))))); apply vL_nil; apply seqP_normal; apply vC_ret)
    (apply ret1; (case h1 => (exact norm_eq rfl)))
    exact ⟨by rw [decide_eq_true (by omega)], hf2⟩
  have hi0 : i = 0 := by omega
  subst hi0
  obtain ⟨x, hxi⟩ : ∃ x, c.ws[0]? = some x := ⟨c.ws[0], List.getElem?_eq_getElem hil⟩
  have hxi' : c.ws[((0 : Nat) : Int).toNat]? = some x := hxi
  have hxm := List.mem_of_getElem? hxi
  obtain ⟨q1, q2, q3, q4, q5, q6, q7, q8, q9, q10, q11, q12⟩ := hx x hxm
  obtain rfl : la = 0 := hla rfl
  have hbv := x.rq.brv.2
  have htv := x.rq.trv.2
  have hrq := (hr.2.1 x hxm).frN hf2
  ((apply vC_seq; apply vC_region)); ((((apply vL_val); (case h => ((apply opv_E); exact rfl))); apply vL_nil)); with_reducible apply seqP_normal
  ((apply vC_seq))
  refine vC_condT rfl (decide_eq_true (by omega)) ?_
  ((apply vC_skip; apply seqP_normal; apply vC_seq; apply vC_block; apply vC_seq; apply vC_region))
  ((((apply vL_val); (case h => ((apply opv_E); exact rfl))); ((apply vL_val); (case h => ((apply opv_indexAddr); ((conv => lhs; whnf) <;> exact rfl); exact rfl; assumption; (first | omega | (simp only [List.length_map]; omega)); (first | omega | (simp only [List.length_map]; omega))))); ((apply vL_val); (case h => ((apply opv_ld_eln); exact rfl; exact rfl; assumption; assumption))); ((apply vL_val); (case h => (apply opw_alloc))); ((apply vL_val); (case h => ((apply opv_E); exact rfl))); ((apply vL_skip); (case h => ((apply ops_storen); exact norm_eq rfl; exact norm_eq rfl; exact rfl; exact (fun u hu => EncOk.one _ u hu); infer_instance; (first | decide | exact of_decide_eq_true rfl | (simp; done))))); apply vL_nil)); with_reducible apply seqP_normal
  ((apply vC_seq; apply vC_region))
  refine vL_gen (fun w' => Fr No w2 w' ∧ w2.heap.size < w'.heap.size ∧ Blk w'.heap w2.heap.size (wtE x) 42) ⟨by (apply Fr.allocSet; exact Fr.refl _ _), by simp, Blk.as inferInstance rfl⟩ ?_
  rintro w3 ⟨hf3, hz3, h53⟩
  have hb3 := hb2.frN hf3
  generalize w2.heap.size = b5 at hz3 h53 ⊢
  ((((apply vL_val); (case h => ((apply opv_fieldAddr); exact rfl))); ((apply vL_val); (case h => ((apply opv_loadb); exact rfl; exact rfl; assumption; exact rfl))); ((apply vL_val); (case h => (apply opw_alloc))); ((apply vL_skip); (case h => ((apply ops_storen); exact norm_eq rfl; exact norm_eq rfl; exact rfl; exact (fun u hu => EncOk.one _ u (List.mem_of_mem_drop (List.mem_of_mem_take hu))); infer_instance; (first | decide | exact of_decide_eq_true rfl | (simp; done))))); apply vL_nil)); with_reducible apply seqP_normal
  (((iterate 2 (apply vC_seq)); apply vC_region))
  refine vL_gen (fun w' => Fr No w3 w' ∧ w3.heap.size < w'.heap.size ∧ Blk w'.heap w3.heap.size (rqE x.rq) 40) ⟨by (apply Fr.allocSet; exact Fr.refl _ _), by simp, Blk.as inferInstance rfl⟩ ?_
  rintro w4 ⟨hf4, hz4, h64⟩
  have hb4 := hb3.frN hf4
  have h54 := h53.frN hf4
  generalize w3.heap.size = b6 at hz4 h64 ⊢
  have hf24 := hf3.trans hf4
  have hrq4 := hrq.frN hf24
  have hr4 := hr2.frN hf24
  have hfw4 := hf2.trans hf24
  clear hrq hr2 hb3 hb2 h53 hr1 hf1 hf2 hf3 hf4
  (((apply vL_val); (case h => ((apply opv_fieldAddr); exact rfl))); ((apply vL_val); (case h => ((apply opv_loadb1); exact rfl; exact rfl; assumption; exact rfl))); (iterate 3 (((apply vL_val); (case h => ((apply opv_E); exact rfl))))); (refine vL_or rfl rfl (fun _ => ?_) (fun h => by omega)); ((apply vL_val); (case h => ((apply opv_fieldAddr); exact rfl))); ((apply vL_wanted); exact rfl); ((apply vL_val); (case h => ((apply opv_loadb1); exact rfl; exact rfl; assumption; exact rfl))); ((apply vL_wanted); exact rfl); ((apply vL_val); (case h => ((apply opv_fieldAddr); exact rfl))); ((apply vL_wanted); exact rfl); ((apply vL_val); (case h => ((apply opv_loadb1); exact rfl; exact rfl; assumption; exact rfl))); ((apply vL_wanted); exact rfl); (iterate 3 (((apply vL_val); (case h => ((apply opv_E); exact rfl))))); (refine vL_or rfl rfl (fun _ => ?_) (fun h => by omega)); ((apply vL_val); (case h => ((apply opv_fieldAddr); exact rfl))); ((apply vL_wanted); exact rfl); ((apply vL_val); (case h => ((apply opv_loadb1); exact rfl; exact rfl; assumption; exact rfl))); ((apply vL_wanted); exact rfl); ((apply vL_val); (case h => ((apply opv_fieldAddr); exact rfl))); ((apply vL_wanted); exact rfl); ((apply vL_val); (case h => ((apply opv_loadb1); exact rfl; exact rfl; assumption; exact rfl))); ((apply vL_wanted); exact rfl); (iterate 3 (((apply vL_val); (case h => ((apply opv_E); exact rfl))))); (refine vL_or rfl rfl (fun _ => ?_) (fun h => by omega)); ((apply vL_val); (case h => ((apply opv_fieldAddr); exact rfl))); ((apply vL_wanted); exact rfl); ((apply vL_val); (case h => ((apply opv_loadb1); exact rfl; exact rfl; assumption; exact rfl))); ((apply vL_wanted); exact rfl); (iterate 3 (((apply vL_val); (case h => ((apply opv_E); exact rfl))))); (refine vL_or rfl rfl (fun _ => ?_) (fun h => by omega)); ((apply vL_val); (case h => ((apply opv_fieldAddr); exact rfl))); ((apply vL_wanted); exact rfl); ((apply vL_val); (case h => ((apply opv_loadb1); exact rfl; exact rfl; assumption; exact rfl))); ((apply vL_wanted); exact rfl); (iterate 3 (((apply vL_val); (case h => ((apply opv_E); exact rfl))))); (refine vL_or rfl rfl (fun _ => ?_) (fun h => by omega)); ((apply vL_val); (case h => ((apply opv_fieldAddr); exact rfl))); ((apply vL_wanted); exact rfl); ((apply vL_val); (case h => ((apply opv_loadb1); exact rfl; exact rfl; assumption; exact rfl))); ((apply vL_wanted); exact rfl); (iterate 3 (((apply vL_val); (case h => ((apply opv_E); exact rfl))))); (refine vL_or rfl rfl (fun _ => ?_) (fun h => by omega)); ((apply vL_val); (case h => ((apply opv_fieldAddr); exact rfl))); ((apply vL_wanted); exact rfl); ((apply vL_val); (case h => ((apply opv_loadb1); exact rfl; exact rfl; assumption; exact rfl))); ((apply vL_wanted); exact rfl); (iterate 2 (((apply vL_val); (case h => ((apply opv_E); exact rfl))))); apply vL_nil; apply seqP_normal; (refine vC_cond_dec rfl (fun h => by omega) (fun _ => ?_)); apply vC_skip; apply seqP_normal; apply vC_seq; apply vC_region; ((apply vL_val); (case h => ((apply opv_fieldAddr); exact rfl))); ((apply vL_val); (case h => ((apply opv_loadb1); exact rfl; exact rfl; assumption; exact rfl))); ((apply vL_val); (case h => ((apply opv_E); exact rfl))); apply vL_nil; apply seqP_normal; (iterate 2 (apply vC_seq)); apply vC_region; ((apply vL_val); (case h => ((apply opv_fieldAddr); exact rfl))); ((apply vL_val); (case h => ((apply opv_loadb1); exact rfl; exact rfl; assumption; exact rfl))); (iterate 2 (((apply vL_val); (case h => ((apply opv_E); exact rfl))))); (refine vL_or rfl rfl (fun _ => ?_) (fun h => by omega)); ((apply vL_val); (case h => ((apply opv_fieldAddr); exact rfl))); ((apply vL_wanted); exact rfl); ((apply vL_val); (case h => ((apply opv_loadb1); exact rfl; exact rfl; assumption; exact rfl))); ((apply vL_wanted); exact rfl); (iterate 3 (((apply vL_val); (case h => ((apply opv_E); exact rfl))))); (refine vL_or rfl rfl (fun _ => ?_) (fun h => by omega)); ((apply vL_val); (case h => ((apply opv_fieldAddr); exact rfl))); ((apply vL_wanted); exact rfl); ((apply vL_val); (case h => ((apply opv_loadb1); exact rfl; exact rfl; assumption; exact rfl))); ((apply vL_wanted); exact rfl); (iterate 3 (((apply vL_val); (case h => ((apply opv_E); exact rfl))))); (refine vL_or rfl rfl (fun _ => ?_) (fun h => by omega)); ((apply vL_val); (case h => ((apply opv_fieldAddr); exact rfl))); ((apply vL_wanted); exact rfl); ((apply vL_val); (case h => ((apply opv_loadb1); exact rfl; exact rfl; assumption; exact rfl))); ((apply vL_wanted); exact rfl); ((apply vL_val); (case h => ((apply opv_fieldAddr); exact rfl))); ((apply vL_wanted); exact rfl); ((apply vL_val); (case h => ((apply opv_loadb1); exact rfl; exact rfl; assumption; exact rfl))); ((apply vL_wanted); exact rfl); (iterate 2 (((apply vL_val); (case h => ((apply opv_E); exact rfl))))); apply vL_nil; apply seqP_normal; (refine vC_cond_dec rfl (fun h => by omega) (fun _ => ?_)); apply vC_skip; apply seqP_normal; apply vC_seq)
  by_cases hk1 : x.rq.k = 1
  rotate_left
  · (with_reducible apply vC_drawQ); (((apply vQ_op); (case hi => exact rfl); (case hf => kernel_rfl); (case hS => exact Dr.refl _); (case hy => (intro j; ((apply opv_fieldAddr); exact rfl)))); ((apply vQ_op); (case hi => exact rfl); (case hf => kernel_rfl); (case hS => exact Dr.refl _); (case hy => (intro j; ((apply opv_loadb1); exact rfl; exact rfl; assumption; exact rfl)))); (iterate 2 (((apply vQ_op); (case hi => exact rfl); (case hf => kernel_rfl); (case hS => exact Dr.refl _); (case hy => (intro j; ((apply opv_E); exact rfl)))))); (refine vQ_gF rfl rfl rfl (by omega) ?_); (iterate 5 (((apply vQ_unwanted); (case hi => exact rfl); (case hg => exact rfl); (case hne => exact rfl); (case hf => kernel_rfl); (case hS => exact Dr.refl _)))); (iterate 4 (((apply vQ_unwanted_none); (case hi => exact rfl); (case hg => exact rfl); (case hf => kernel_rfl); (case hS => exact Dr.refl _)))); (iterate 2 (((apply vQ_unwanted); (case hi => exact rfl); (case hg => exact rfl); (case hne => exact rfl); (case hf => kernel_rfl); (case hS => exact Dr.refl _)))); (iterate 4 (((apply vQ_unwanted_none); (case hi => exact rfl); (case hg => exact rfl); (case hf => kernel_rfl); (case hS => exact Dr.refl _)))); (iterate 2 (((apply vQ_unwanted); (case hi => exact rfl); (case hg => exact rfl); (case hne => exact rfl); (case hf => kernel_rfl); (case hS => exact Dr.refl _)))); (iterate 8 (((apply vQ_unwanted_none); (case hi => exact rfl); (case hg => exact rfl); (case hf => kernel_rfl); (case hS => exact Dr.refl _)))); ((apply vQ_unwanted); (case hi => exact rfl); (case hg => exact rfl); (case hne => exact rfl); (case hf => kernel_rfl); (case hS => exact Dr.refl _)); ((apply vQ_op); (case hi => exact rfl); (case hf => kernel_rfl); (case hS => exact Dr.refl _); (case hy => (intro j; ((apply opv_E); exact rfl)))); ((apply vQ_end); (case hi => exact rfl); (case hf => kernel_rfl); (case hS => exact Dr.refl _)))
    (apply seqP_normal; ((apply vC_cond_false); exact rfl); apply vC_skip; apply blockP_normal; apply seqP_normal; apply vC_region; ((apply vL_val); (case h => ((apply opv_add); exact rfl; exact rfl; (first | omega | (simp only [List.length_map]; omega))))); ((apply vL_val); (case h => ((apply opv_E); exact rfl))); apply vL_nil; apply loopP_normal)
    (with_reducible apply end2); (case hs => ((iterate 29 (((refine same_updO ?_ ?_); rotate_left; exact rfl))); ((refine same_upd ?_ ?_); rotate_left; exact rfl); (iterate 10 (((refine same_updO ?_ ?_); rotate_left; exact rfl))); ((refine same_upd ?_ ?_); rotate_left; exact rfl); (iterate 5 (((refine same_updO ?_ ?_); rotate_left; exact rfl))); ((refine same_upd ?_ ?_); rotate_left; exact rfl); (iterate 5 (((refine same_updO ?_ ?_); rotate_left; exact rfl))); ((refine same_upd ?_ ?_); rotate_left; exact rfl); (iterate 11 (((refine same_updO ?_ ?_); rotate_left; exact rfl))); ((refine same_upd ?_ ?_); rotate_left; exact rfl); (iterate 5 (((refine same_updO ?_ ?_); rotate_left; exact rfl))); ((refine same_upd ?_ ?_); rotate_left; exact rfl); (iterate 5 (((refine same_updO ?_ ?_); rotate_left; exact rfl))); ((refine same_upd ?_ ?_); rotate_left; exact rfl); (iterate 5 (((refine same_updO ?_ ?_); rotate_left; exact rfl))); ((refine same_upd ?_ ?_); rotate_left; exact rfl); (iterate 7 (((refine same_updO ?_ ?_); rotate_left; exact rfl))); ((refine same_upd ?_ ?_); rotate_left; exact rfl); (iterate 7 (((refine same_updO ?_ ?_); rotate_left; exact rfl))); ((refine same_upd ?_ ?_); rotate_left; exact rfl); (iterate 5 (((refine same_updO ?_ ?_); rotate_left; exact rfl))); apply same_updN; (iterate 3 (((refine same_updO ?_ ?_); rotate_left; exact rfl))); apply same_updN; (iterate 6 (((refine same_updO ?_ ?_); rotate_left; exact rfl))); (iterate 2 (((refine same_upd ?_ ?_); rotate_left; exact rfl))); (exact same_mask _ _ _))); (case h1 => (exact norm_eq rfl)); (case h2 => (exact norm_eq rfl))
    · exact ⟨_, 1, rfl, rfl, by omega, fun h => by omega, hfw4.drew, hb4.frN (Fr.refl No w4).drew⟩
    · simp [RowKit.intOf]; omega
  obtain ⟨m1, m2, m3, m4⟩ := q12 hk1
  have hk1' : (x.rq.k = 1) := hk1
  have hys : ByOk (x.rq.brs.map (fun y => (y.1, y.2.length))) := fun y hy => by
    obtain ⟨z, hz, rfl⟩ := List.mem_map.1 hy
    obtain ⟨a, cc, e⟩ := (hrq4.2.1 z hz).len
    exact ⟨a, cc, e, by have := (hrq4.2.1 z hz).small; simp only; omega⟩
  refine vC_draw' (fun wf => Fr No w4 wf) ((Fr.refl No w4).drew) ?_
  ((apply (tk 0)); (case hi => exact rfl); (case hf => kernel_rfl); (case hS => (apply Fr.drew; exact Fr.refl _ _)); (case hy => (intro wf hwf; haveI := From.mk hwf; (((apply opv_fieldAddr); exact rfl)))))
  ((apply (tk 1)); (case hi => exact rfl); (case hf => kernel_rfl); (case hS => (apply Fr.drew; exact Fr.refl _ _)); (case hy => (intro wf hwf; haveI := From.mk hwf; (((apply opv_loadb1); exact rfl; exact rfl; infer_instance; exact rfl)))))
  ((apply (tk 2)); (case hi => exact rfl); (case hf => kernel_rfl); (case hS => (apply Fr.drew; exact Fr.refl _ _)); (case hy => (intro wf hwf; haveI := From.mk hwf; (((apply opv_E); exact rfl)))))
  ((apply (tk 3)); (case hi => exact rfl); (case hf => kernel_rfl); (case hS => (apply Fr.drew; exact Fr.refl _ _)); (case hy => (intro wf hwf; haveI := From.mk hwf; (((apply opv_E); exact rfl)))))
  refine vA_split 80 rfl (fun _ => ?_) (fun h => absurd hk1 h)
  ((apply (tkw 4)); (case hi => exact rfl); (case hg => exact rfl); (case hf => kernel_rfl); (case hS => (apply Fr.drew; exact Fr.refl _ _)); (case hy => (intro wf hwf; haveI := From.mk hwf; (((apply opv_loadb); exact rfl; exact rfl; infer_instance; exact rfl)))))
  (refine tkcw 5 rfl rfl (by kernel_rfl) (by (apply Fr.drew; exact Fr.refl _ _)) rfl (of31 x.rq _) rfl ?_)
  rintro _ w5 ⟨rfl, hf5⟩
  have hf45 : Fr No w4 w5 := (Fr.refl No w4).drew.trans hf5
  (refine tkcw 6 rfl rfl (by kernel_rfl) (by (assumption)) rfl (mayp31 x.rq.topic x.rq.part _ (by omega)) rfl ?_)
  rintro _ w6 ⟨rfl, hf6⟩
  have hf46 := hf45.trans hf6
  rw [m1]
  ((apply (tkw 7)); (case hi => exact rfl); (case hg => exact rfl); (case hf => kernel_rfl); (case hS => (assumption)); (case hy => (intro wf hwf; haveI := From.mk hwf; (((apply opv_not); exact rfl)))))
  ((apply (tkw 8)); (case hi => exact rfl); (case hg => exact rfl); (case hf => kernel_rfl); (case hS => (assumption)); (case hy => (intro wf hwf; haveI := From.mk hwf; (((apply opv_E); exact rfl)))))
  ((apply (tkw 9)); (case hi => exact rfl); (case hg => exact rfl); (case hf => kernel_rfl); (case hS => (assumption)); (case hy => (intro wf hwf; haveI := From.mk hwf; (((apply opv_fieldAddr); exact rfl)))))
  ((apply (tkw 10)); (case hi => exact rfl); (case hg => exact rfl); (case hf => kernel_rfl); (case hS => (assumption)); (case hy => (intro wf hwf; haveI := From.mk hwf; (((apply opv_fieldAddr); exact rfl)))))
  ((apply (tkw 11)); (case hi => exact rfl); (case hg => exact rfl); (case hf => kernel_rfl); (case hS => (assumption)); (case hy => (intro wf hwf; haveI := From.mk hwf; (((apply opv_loadb1); exact rfl; exact rfl; infer_instance; exact rfl)))))
  ((apply (tkw 12)); (case hi => exact rfl); (case hg => exact rfl); (case hf => kernel_rfl); (case hS => (assumption)); (case hy => (intro wf hwf; haveI := From.mk hwf; (((apply opv_E); exact rfl)))))
  ((apply (tkw 13)); (case hi => exact rfl); (case hg => exact rfl); (case hf => kernel_rfl); (case hS => (assumption)); (case hy => (intro wf hwf; haveI := From.mk hwf; (((apply opv_E); exact rfl)))))
  ((apply (tkw 14)); (case hi => exact rfl); (case hg => exact rfl); (case hf => kernel_rfl); (case hS => (assumption)); (case hy => (intro wf hwf; haveI := From.mk hwf; (((apply opv_E); exact rfl)))))
  refine vA_split 91 rfl (fun h => by omega) (fun _ => ?_)
  ((apply (tkw 15)); (case hi => exact rfl); (case hg => exact rfl); (case hf => kernel_rfl); (case hS => (assumption)); (case hy => (intro wf hwf; haveI := From.mk hwf; (((apply opv_fieldAddr); exact rfl)))))
  ((apply (tkw 16)); (case hi => exact rfl); (case hg => exact rfl); (case hf => kernel_rfl); (case hS => (assumption)); (case hy => (intro wf hwf; haveI := From.mk hwf; (((apply opv_loadbC); exact rfl; exact rfl; infer_instance; exact (rfl : _ = [_, _, _, _]); exact rfl)))))
  (refine tkcw 17 rfl rfl (by kernel_rfl) (by (assumption)) rfl (may25 x.rq.pid x.rq.ep x.rq.fi x.rq.brv (x.rq.brs.map (fun y => (y.1, y.2.length))) _ ((Rd.by25 hrq4.1).frN hf46) hys) rfl ?_)
  rintro _ w7 ⟨rfl, hf7⟩
  have hf47 := hf46.trans hf7
  have m3' : mayB x.rq.pid x.rq.ep x.rq.fi ((x.rq.brs.map (fun y => (y.1, y.2.length))).map (·.2)) = true := by rw [List.map_map]; exact m3
  rw [m3']
  ((apply (tkw 18)); (case hi => exact rfl); (case hg => exact rfl); (case hf => kernel_rfl); (case hS => (assumption)); (case hy => (intro wf hwf; haveI := From.mk hwf; (((apply opv_not); exact rfl)))))
  ((apply (tkw 19)); (case hi => exact rfl); (case hg => exact rfl); (case hf => kernel_rfl); (case hS => (assumption)); (case hy => (intro wf hwf; haveI := From.mk hwf; (((apply opv_E); exact rfl)))))
  ((apply (tkw 20)); (case hi => exact rfl); (case hg => exact rfl); (case hf => kernel_rfl); (case hS => (assumption)); (case hy => (intro wf hwf; haveI := From.mk hwf; (((apply opv_E); exact rfl)))))
  ((apply (tkw 21)); (case hi => exact rfl); (case hg => exact rfl); (case hf => kernel_rfl); (case hS => (assumption)); (case hy => (intro wf hwf; haveI := From.mk hwf; (((apply opv_fieldAddr); exact rfl)))))
  ((apply (tkw 22)); (case hi => exact rfl); (case hg => exact rfl); (case hf => kernel_rfl); (case hS => (assumption)); (case hy => (intro wf hwf; haveI := From.mk hwf; (((apply opv_loadb1); exact rfl; exact rfl; infer_instance; exact rfl)))))
  ((apply (tkw 23)); (case hi => exact rfl); (case hg => exact rfl); (case hf => kernel_rfl); (case hS => (assumption)); (case hy => (intro wf hwf; haveI := From.mk hwf; (((apply opv_E); exact rfl)))))
  obtain ⟨cap, hcap⟩ := hr4.ptr hil
  ((apply (tkw 24)); (case hi => exact rfl); (case hg => exact rfl); (case hf => kernel_rfl); (case hS => (assumption)); (case hy => (intro wf hwf; exact opv_slice_hi' (hx := hcap) (i := 0) rfl (by omega) (by omega))))
  ((apply (tkw 25)); (case hi => exact rfl); (case hg => exact rfl); (case hf => kernel_rfl); (case hS => (assumption)); (case hy => (intro wf hwf; haveI := From.mk hwf; (((apply opv_loadb); exact rfl; exact rfl; infer_instance; exact rfl)))))
  (refine tkcw 26 rfl rfl (by kernel_rfl) (by (assumption)) rfl (of31 x.rq _) rfl ?_)
  rintro _ w8 ⟨rfl, hf8⟩
  have hf48 := hf47.trans hf8
  (refine tkcw 27 rfl rfl (by kernel_rfl) (by (assumption)) rfl (produces31 x.rq.topic x.rq.part _) rfl ?_)
  rintro _ w9 ⟨rfl, hf9, _⟩
  have hf49 := hf48.trans hf9
  (refine tkcw 28 rfl rfl (by kernel_rfl) (by (assumption)) rfl (contains0 _ _ _ _ rfl) rfl ?_)
  rintro _ _ ⟨rfl, rfl⟩
  ((apply (tkw 29)); (case hi => exact rfl); (case hg => exact rfl); (case hf => kernel_rfl); (case hS => (assumption)); (case hy => (intro wf hwf; haveI := From.mk hwf; (((apply opv_E); exact rfl)))))
  ((apply (tk 30)); (case hi => exact rfl); (case hf => kernel_rfl); (case hS => (assumption)); (case hy => (intro wf hwf; haveI := From.mk hwf; (((apply opv_E); exact rfl)))))
  refine vA_done (by kernel_rfl) (by (first | exact trivial | ((assumption); done))) ?_
  (apply seqP_normal; ((apply vC_cond_false); exact rfl); apply vC_skip; apply blockP_normal; apply seqP_normal; apply vC_region; ((apply vL_val); (case h => ((apply opv_add); exact rfl; exact rfl; (first | omega | (simp only [List.length_map]; omega))))); ((apply vL_val); (case h => ((apply opv_E); exact rfl))); apply vL_nil; apply loopP_normal)
  (with_reducible apply end2); (case hs => ((iterate 18 (((refine same_updO ?_ ?_); rotate_left; exact rfl))); ((refine same_upd ?_ ?_); rotate_left; exact rfl); (iterate 11 (((refine same_updO ?_ ?_); rotate_left; exact rfl))); ((refine same_upd ?_ ?_); rotate_left; exact rfl); (iterate 10 (((refine same_updO ?_ ?_); rotate_left; exact rfl))); ((refine same_upd ?_ ?_); rotate_left; exact rfl); (iterate 5 (((refine same_updO ?_ ?_); rotate_left; exact rfl))); ((refine same_upd ?_ ?_); rotate_left; exact rfl); (iterate 5 (((refine same_updO ?_ ?_); rotate_left; exact rfl))); ((refine same_upd ?_ ?_); rotate_left; exact rfl); (iterate 11 (((refine same_updO ?_ ?_); rotate_left; exact rfl))); ((refine same_upd ?_ ?_); rotate_left; exact rfl); (iterate 5 (((refine same_updO ?_ ?_); rotate_left; exact rfl))); ((refine same_upd ?_ ?_); rotate_left; exact rfl); (iterate 5 (((refine same_updO ?_ ?_); rotate_left; exact rfl))); ((refine same_upd ?_ ?_); rotate_left; exact rfl); (iterate 5 (((refine same_updO ?_ ?_); rotate_left; exact rfl))); ((refine same_upd ?_ ?_); rotate_left; exact rfl); (iterate 7 (((refine same_updO ?_ ?_); rotate_left; exact rfl))); ((refine same_upd ?_ ?_); rotate_left; exact rfl); (iterate 7 (((refine same_updO ?_ ?_); rotate_left; exact rfl))); ((refine same_upd ?_ ?_); rotate_left; exact rfl); (iterate 5 (((refine same_updO ?_ ?_); rotate_left; exact rfl))); apply same_updN; (iterate 3 (((refine same_updO ?_ ?_); rotate_left; exact rfl))); apply same_updN; (iterate 6 (((refine same_updO ?_ ?_); rotate_left; exact rfl))); (iterate 2 (((refine same_upd ?_ ?_); rotate_left; exact rfl))); (exact same_mask _ _ _))); (case h1 => (exact norm_eq rfl)); (case h2 => (exact norm_eq rfl))
  · exact ⟨_, 1, rfl, rfl, by omega, fun h => by omega, hfw4.trans hf49, hb4.frN hf49⟩
  · simp [RowKit.intOf]; omega
end Go.Proofs.Ytchfaeaagpemlaa

set_option maxRecDepth 100000
namespace Go.Proofs.Ytchfaeaagpemlaa
open Go Go.Eng
structure R1 (c : CL) : Prop where
  id : 1 ≤ c.id ∧ c.id ≤ 1048576
  br : 1 ≤ c.brokers ∧ c.brokers ≤ 7
  nx : 1 ≤ c.next ∧ c.next ≤ 1099511627776
  now : 0 ≤ c.now ∧ c.now ≤ 1099511627776
  bro : 1 ≤ c.broker ∧ c.broker ≤ c.brokers
  pid : 0 ≤ c.pid ∧ c.pid ≤ 4611686018427387904
  ep : 0 ≤ c.ep ∧ c.ep ≤ 1073741824
  none : c.pid = 0 → c.ep = 0 ∧ c.ss.length = 0
  s1 : c.ss.length ≤ 1
  s : ∀ s ∈ c.ss, mayPB s.topic s.part = true ∧ 1 ≤ s.nx ∧ s.nx ≤ 4611686018427387904 ∧ s.topic.size ≤ 1000
  w1 : c.ws.length ≤ 1
  w : ∀ x ∈ c.ws, WOk c.id c.next c.brokers x
theorem right31 (c : CL) (w : World) (hr : ClRd w.heap c) (R : R1 c) : Rets Try.prog 5 #[.agg (clE c).toArray] w fun u w' => u = .bool true ∧ Fr No w w' := by
  have hw0 := c.wv.2
  have hs0 := c.sv.2
  obtain ⟨i1, i2⟩ := R.id
  obtain ⟨i3, i4⟩ := R.br
  obtain ⟨i5, i6⟩ := R.nx
  obtain ⟨i7, i8⟩ := R.now
  obtain ⟨i9, i10⟩ := R.bro
  obtain ⟨i11, i12⟩ := R.pid
  obtain ⟨i13, i14⟩ := R.ep
  have i15 := R.none
  have i16 := R.s1
  refine rets_of Try.func5 rfl Try.ntmps5 rfl rfl (by kernel_rfl) ?_
  ((apply vC_seq; apply vC_region)); ((((apply vL_val); (case h => ((apply opw_boxn); exact rfl))); ((apply vL_val); (case h => ((apply opv_E); exact rfl))); apply vL_nil)); with_reducible apply seqP_normal
  (((iterate 2 (apply vC_seq)); apply vC_region))
  refine vL_gen (fun w' => Fr No w w' ∧ Blk w'.heap w.heap.size (clE c) 25) ⟨by (apply Fr.alloc; exact Fr.refl _ _), inferInstance⟩ ?_
  rintro w1 ⟨hf1, hb1⟩
  generalize w.heap.size = b1 at hb1 ⊢
  (((apply vL_val); (case h => ((apply opv_fieldAddr); exact rfl))); ((apply vL_val); (case h => ((apply opv_loadb1); exact rfl; exact rfl; assumption; exact rfl))); ((apply vL_val); (case h => ((apply opv_fieldAddr); exact rfl))); ((apply vL_val); (case h => ((apply opv_loadb1); exact rfl; exact rfl; assumption; exact rfl))))
  refine vL_callF rfl (new31 c.id c.brokers w1 ⟨i1, i2⟩ ⟨i3, i4⟩) rfl ?_
  rintro _ w2 ⟨rfl, hf2⟩
  have hb2 := hb1.frN hf2
  have hf12 := hf1.trans hf2
  (((iterate 3 (((apply vL_val); (case h => ((apply opv_E); exact rfl))))); ((apply vL_val); (case h => (apply opw_alloc))); ((apply vL_skip); (case h => ((apply ops_storen); exact norm_eq rfl; exact norm_eq rfl; exact rfl; (intro u hu; simp only [List.mem_cons, List.not_mem_nil, or_false] at hu; rcases hu with rfl | rfl | rfl | rfl | rfl | rfl | rfl | rfl | rfl | rfl <;> (first | rfl | assumption)); infer_instance; (first | decide | exact of_decide_eq_true rfl | (simp; done))))); ((apply vL_val); (case h => ((apply opv_E); exact rfl))); apply vL_nil)); with_reducible apply seqP_normal
  ((apply vC_seq; apply vC_region))
  refine vL_gen (fun w' => Fr No w2 w') (by (apply Fr.allocSet; exact Fr.refl _ _)) ?_
  intro w3 hf3
  have hb3 := hb2.frN hf3
  have hf13 := hf12.trans hf3
  have hrs3 := hr.2.2.frN hf13
  clear hb1 hb2 hf1 hf2 hf3 hf12
  have hsl : (c.ss.length : Int) ≤ 1 := by omega
  have hpe : c.pid = 0 ∨ c.pid ≠ 0 := by omega
  rcases hpe with hp0 | hp0
  rotate_left
  · ((iterate 3 (((apply vL_val); (case h => ((apply opv_E); exact rfl))))); ((apply vL_wanted); exact rfl); ((apply vL_val); (case h => ((apply opv_fieldAddr); exact rfl))); ((apply vL_wanted); exact rfl); ((apply vL_val); (case h => ((apply opv_loadb1); exact rfl; exact rfl; assumption; exact rfl))); ((apply vL_wanted); exact rfl); (iterate 3 (((apply vL_val); (case h => ((apply opv_E); exact rfl))))); (refine vL_or rfl rfl (fun _ => ?_) (fun h => by omega)); ((apply vL_val); (case h => ((apply opv_fieldAddr); exact rfl))); ((apply vL_wanted); exact rfl); ((apply vL_val); (case h => ((apply opv_loadb1); exact rfl; exact rfl; assumption; exact rfl))); ((apply vL_wanted); exact rfl); (iterate 3 (((apply vL_val); (case h => ((apply opv_E); exact rfl))))); (refine vL_or rfl rfl (fun _ => ?_) (fun h => by omega)); ((apply vL_val); (case h => ((apply opv_fieldAddr); exact rfl))); ((apply vL_wanted); exact rfl); ((apply vL_val); (case h => ((apply opv_loadb1); exact rfl; exact rfl; assumption; exact rfl))); ((apply vL_wanted); exact rfl); (iterate 3 (((apply vL_val); (case h => ((apply opv_E); exact rfl))))); (refine vL_or rfl rfl (fun _ => ?_) (fun h => by omega)); ((apply vL_val); (case h => ((apply opv_fieldAddr); exact rfl))); ((apply vL_wanted); exact rfl); ((apply vL_val); (case h => ((apply opv_loadb1); exact rfl; exact rfl; assumption; exact rfl))); ((apply vL_wanted); exact rfl); (iterate 3 (((apply vL_val); (case h => ((apply opv_E); exact rfl))))); (refine vL_or rfl rfl (fun _ => ?_) (fun h => by omega)); ((apply vL_val); (case h => ((apply opv_fieldAddr); exact rfl))); ((apply vL_wanted); exact rfl); ((apply vL_val); (case h => ((apply opv_loadb1); exact rfl; exact rfl; assumption; exact rfl))); ((apply vL_wanted); exact rfl); (iterate 3 (((apply vL_val); (case h => ((apply opv_E); exact rfl))))); (refine vL_or rfl rfl (fun _ => ?_) (fun h => by omega)); ((apply vL_val); (case h => ((apply opv_fieldAddr); exact rfl))); ((apply vL_wanted); exact rfl); ((apply vL_val); (case h => ((apply opv_loadb1); exact rfl; exact rfl; assumption; exact rfl))); ((apply vL_wanted); exact rfl); ((apply vL_val); (case h => ((apply opv_fieldAddr); exact rfl))); ((apply vL_wanted); exact rfl); ((apply vL_val); (case h => ((apply opv_loadb1); exact rfl; exact rfl; assumption; exact rfl))); ((apply vL_wanted); exact rfl); (iterate 2 (((apply vL_val); (case h => ((apply opv_E); exact rfl))))); apply vL_nil; apply seqP_normal; (refine vC_cond_dec rfl (fun h => by omega) (fun _ => ?_)); apply vC_skip; apply seqP_normal; (iterate 2 (apply vC_seq)); apply vC_region; ((apply vL_val); (case h => ((apply opv_fieldAddr); exact rfl))); ((apply vL_val); (case h => ((apply opv_loadb1); exact rfl; exact rfl; assumption; exact rfl))); (iterate 2 (((apply vL_val); (case h => ((apply opv_E); exact rfl))))); (refine vL_or rfl rfl (fun _ => ?_) (fun h => by omega)); ((apply vL_val); (case h => ((apply opv_fieldAddr); exact rfl))); ((apply vL_wanted); exact rfl); ((apply vL_val); (case h => ((apply opv_loadb1); exact rfl; exact rfl; assumption; exact rfl))); ((apply vL_wanted); exact rfl); (iterate 3 (((apply vL_val); (case h => ((apply opv_E); exact rfl))))); (refine vL_or rfl rfl (fun _ => ?_) (fun h => by omega)); ((apply vL_val); (case h => ((apply opv_fieldAddr); exact rfl))); ((apply vL_wanted); exact rfl); ((apply vL_val); (case h => ((apply opv_loadb1); exact rfl; exact rfl; assumption; exact rfl))); ((apply vL_wanted); exact rfl); (iterate 3 (((apply vL_val); (case h => ((apply opv_E); exact rfl))))); (refine vL_or rfl rfl (fun _ => ?_) (fun h => by omega)); ((apply vL_val); (case h => ((apply opv_fieldAddr); exact rfl))); ((apply vL_wanted); exact rfl); ((apply vL_val); (case h => ((apply opv_loadb1); exact rfl; exact rfl; assumption; exact rfl))); ((apply vL_wanted); exact rfl); (iterate 3 (((apply vL_val); (case h => ((apply opv_E); exact rfl))))); (refine vL_or rfl rfl (fun _ => ?_) (fun h => by omega)); ((apply vL_val); (case h => ((apply opv_fieldAddr); exact rfl))); ((apply vL_wanted); exact rfl); ((apply vL_val); (case h => ((apply opv_loadb1); exact rfl; exact rfl; assumption; exact rfl))); ((apply vL_wanted); exact rfl); ((apply vL_val); (case h => ((apply opv_len); ((conv => lhs; whnf) <;> exact rfl); assumption))); ((apply vL_wanted); exact rfl); (iterate 3 (((apply vL_val); (case h => ((apply opv_E); exact rfl))))); (refine vL_or rfl rfl (fun _ => ?_) (fun h => by omega)); ((apply vL_val); (case h => ((apply opv_fieldAddr); exact rfl))); ((apply vL_wanted); exact rfl); ((apply vL_val); (case h => ((apply opv_loadb1); exact rfl; exact rfl; assumption; exact rfl))); ((apply vL_wanted); exact rfl); ((apply vL_val); (case h => ((apply opv_E); exact rfl))); ((apply vL_wanted); exact rfl); ((apply vL_val); (case h => ((apply opv_E); exact rfl))); (refine vL_and rfl rfl (fun h => by omega) (fun _ => ?_)); (iterate 3 (((apply vL_unwanted'); exact rfl; exact rfl))); (iterate 4 (((apply vL_unwanted_none); exact rfl))); ((apply vL_unwanted'); exact rfl; exact rfl); ((apply vL_wanted); exact rfl); (iterate 2 (((apply vL_val); (case h => ((apply opv_E); exact rfl))))); apply vL_nil; apply seqP_normal; ((apply vC_cond_false); exact rfl); apply vC_skip; apply seqP_normal; (iterate 2 (apply vC_seq)); apply vC_region; ((apply vL_val); (case h => ((apply opv_fieldAddr); exact rfl))); ((apply vL_val); (case h => ((apply opv_loadb1); exact rfl; exact rfl; assumption; exact rfl))); ((apply vL_val); (case h => ((apply opv_len); ((conv => lhs; whnf) <;> exact rfl); assumption))); ((apply vL_val); (case h => ((apply opv_E); exact rfl))); apply vL_nil; apply seqP_normal; apply vC_block)
    (apply vC_loop1 680564733836925166769607693763939926116 92 (fun u w' => ∃ i : Nat, u = .int .i64 i ∧ i ≤ c.ss.length ∧ Fr No w w' ∧ Blk w'.heap b1 (clE c) 25) (fun u _ => c.ss.length - (RowKit.intOf u).toNat)); (case h1 => (exact norm_eq rfl))
    case h0 => exact ⟨0, rfl, Nat.zero_le _, hf13, hb3⟩
    case round =>
    rintro junk _ w4 ⟨i, rfl, hi, hf4, hb4⟩
    have hrs4 := hr.2.2.frN hf4
    have hrd4 := hr.frN hf4
    by_cases hil : i < c.ss.length
    rotate_left
    · (apply vC_seq; apply vC_region; ((apply vL_val); (case h => ((apply opv_E); exact rfl))); apply vL_nil; apply seqP_normal; apply vC_seq; (refine vC_cond_dec rfl (fun h => by omega) (fun _ => ?_)); apply vC_exit; apply seqP_exit; apply loopP_exit; apply blockP_exit; apply seqP_normal; apply vC_seq; apply vC_region; ((apply vL_val); (case h => ((apply opv_loadbC); exact rfl; exact rfl; assumption; exact (rfl : _ = [_, _, _, _, _, _, _, _, _, _]); exact rfl))))
      refine vL_callF rfl (waits31 c w4 hrd4 R.w1 R.w) rfl ?_
      rintro _ w5 ⟨rfl, hf5⟩
      (((apply vL_val); (case h => ((apply opv_E); exact rfl))); apply vL_nil; apply seqP_normal; apply vC_ret)
      (apply ret1; (case h1 => (exact norm_eq rfl)))
      exact ⟨rfl, hf4.trans hf5⟩
    have hi0 : i = 0 := by omega
    subst hi0
    obtain ⟨s, hsi⟩ : ∃ s, c.ss[0]? = some s := ⟨c.ss[0], List.getElem?_eq_getElem hil⟩
    have hsi' : c.ss[((0 : Nat) : Int).toNat]? = some s := hsi
    obtain ⟨k1, k2, k3, k4⟩ := R.s s (List.mem_of_getElem? hsi)
    (apply vC_seq; apply vC_region; ((apply vL_val); (case h => ((apply opv_E); exact rfl))); apply vL_nil; apply seqP_normal; apply vC_seq; (refine vC_cond_dec rfl (fun _ => ?_) (fun h => by omega)); apply vC_skip; apply seqP_normal; apply vC_seq; apply vC_block; apply vC_seq; apply vC_region; ((apply vL_val); (case h => ((apply opv_E); exact rfl))); ((apply vL_val); (case h => ((apply opv_indexAddr); ((conv => lhs; whnf) <;> exact rfl); exact rfl; assumption; (first | omega | (simp only [List.length_map]; omega)); (first | omega | (simp only [List.length_map]; omega))))); ((apply vL_val); (case h => ((apply opv_ld_eln); exact rfl; exact rfl; assumption; assumption))); ((apply vL_val); (case h => (apply opw_alloc))); ((apply vL_val); (case h => ((apply opv_E); exact rfl))); ((apply vL_skip); (case h => ((apply ops_storen); exact norm_eq rfl; exact norm_eq rfl; exact rfl; exact (fun u hu => EncOk.one _ u hu); infer_instance; (first | decide | exact of_decide_eq_true rfl | (simp; done))))); apply vL_nil; apply seqP_normal; apply vC_seq)
    refine vC_gen (fun w' => Fr No w4 w' ∧ Blk w'.heap w4.heap.size (sqE s) 65) ⟨by (apply Fr.allocSet; exact Fr.refl _ _), Blk.as inferInstance rfl⟩ ?_
    rintro w5 ⟨hf5, h5⟩
    have hb5 := hb4.frN hf5
    have hf15 := hf4.trans hf5
    generalize w4.heap.size = b5 at h5 ⊢
    refine vC_draw' (fun wf => Fr No w5 wf) ((Fr.refl No w5).drew) ?_
    ((apply (tk 0)); (case hi => exact rfl); (case hf => kernel_rfl); (case hS => (apply Fr.drew; exact Fr.refl _ _)); (case hy => (intro wf hwf; haveI := From.mk hwf; (((apply opv_fieldAddr); exact rfl)))))
    ((apply (tk 1)); (case hi => exact rfl); (case hf => kernel_rfl); (case hS => (apply Fr.drew; exact Fr.refl _ _)); (case hy => (intro wf hwf; haveI := From.mk hwf; (((apply opv_loadbC); exact rfl; exact rfl; infer_instance; exact (rfl : _ = [_, _]); exact rfl)))))
    (refine tkc 2 rfl (by kernel_rfl) (by (apply Fr.drew; exact Fr.refl _ _)) rfl (mayp31 s.topic s.part _ (by omega)) rfl ?_)
    rintro _ w6 ⟨rfl, hf6⟩
    have hf56 : Fr No w5 w6 := (Fr.refl No w5).drew.trans hf6
    rw [k1]
    ((apply (tk 3)); (case hi => exact rfl); (case hf => kernel_rfl); (case hS => (assumption)); (case hy => (intro wf hwf; haveI := From.mk hwf; (((apply opv_not); exact rfl)))))
    ((apply (tk 4)); (case hi => exact rfl); (case hf => kernel_rfl); (case hS => (assumption)); (case hy => (intro wf hwf; haveI := From.mk hwf; (((apply opv_E); exact rfl)))))
    ((apply (tkw 5)); (case hi => exact rfl); (case hg => exact rfl); (case hf => kernel_rfl); (case hS => (assumption)); (case hy => (intro wf hwf; haveI := From.mk hwf; (((apply opv_fieldAddr); exact rfl)))))
    ((apply (tkw 6)); (case hi => exact rfl); (case hg => exact rfl); (case hf => kernel_rfl); (case hS => (assumption)); (case hy => (intro wf hwf; haveI := From.mk hwf; (((apply opv_loadb1); exact rfl; exact rfl; infer_instance; exact rfl)))))
    ((apply (tkw 7)); (case hi => exact rfl); (case hg => exact rfl); (case hf => kernel_rfl); (case hS => (assumption)); (case hy => (intro wf hwf; haveI := From.mk hwf; (((apply opv_E); exact rfl)))))
    ((apply (tk 8)); (case hi => exact rfl); (case hf => kernel_rfl); (case hS => (assumption)); (case hy => (intro wf hwf; haveI := From.mk hwf; (((apply opv_E); exact rfl)))))
    ((apply (tk 9)); (case hi => exact rfl); (case hf => kernel_rfl); (case hS => (assumption)); (case hy => (intro wf hwf; haveI := From.mk hwf; (((apply opv_E); exact rfl)))))
    refine vA_split 106 rfl (fun h => by omega) (fun _ => ?_)
    ((apply (tkw 10)); (case hi => exact rfl); (case hg => exact rfl); (case hf => kernel_rfl); (case hS => (assumption)); (case hy => (intro wf hwf; haveI := From.mk hwf; (((apply opv_fieldAddr); exact rfl)))))
    ((apply (tkw 11)); (case hi => exact rfl); (case hg => exact rfl); (case hf => kernel_rfl); (case hS => (assumption)); (case hy => (intro wf hwf; haveI := From.mk hwf; (((apply opv_loadb1); exact rfl; exact rfl; infer_instance; exact rfl)))))
    ((apply (tkw 12)); (case hi => exact rfl); (case hg => exact rfl); (case hf => kernel_rfl); (case hS => (assumption)); (case hy => (intro wf hwf; haveI := From.mk hwf; (((apply opv_E); exact rfl)))))
    ((apply (tk 13)); (case hi => exact rfl); (case hf => kernel_rfl); (case hS => (assumption)); (case hy => (intro wf hwf; haveI := From.mk hwf; (((apply opv_E); exact rfl)))))
    ((apply (tk 14)); (case hi => exact rfl); (case hf => kernel_rfl); (case hS => (assumption)); (case hy => (intro wf hwf; haveI := From.mk hwf; (((apply opv_E); exact rfl)))))
    refine vA_split 111 rfl (fun h => by omega) (fun _ => ?_)
    ((apply (tkw 15)); (case hi => exact rfl); (case hg => exact rfl); (case hf => kernel_rfl); (case hS => (assumption)); (case hy => (intro wf hwf; haveI := From.mk hwf; (((apply opv_E); exact rfl)))))
    ((apply (tkw 16)); (case hi => exact rfl); (case hg => exact rfl); (case hf => kernel_rfl); (case hS => (assumption)); (case hy => (intro wf hwf; haveI := From.mk hwf; (((apply opv_E); exact rfl)))))
    ((apply (tkw 17)); (case hi => exact rfl); (case hg => exact rfl); (case hf => kernel_rfl); (case hS => (assumption)); (case hy => (intro wf hwf; haveI := From.mk hwf; (((apply opv_E); exact rfl)))))
    refine vA_split 114 rfl (fun h => by omega) (fun _ => ?_)
    refine tku 18 rfl rfl rfl (by kernel_rfl) (by (assumption)) ?_
    refine tku 19 rfl rfl rfl (by kernel_rfl) (by (assumption)) ?_
    refine tku 20 rfl rfl rfl (by kernel_rfl) (by (assumption)) ?_
    refine tku 21 rfl rfl rfl (by kernel_rfl) (by (assumption)) ?_
    refine tku 22 rfl rfl rfl (by kernel_rfl) (by (assumption)) ?_
    refine tku 23 rfl rfl rfl (by kernel_rfl) (by (assumption)) ?_
    refine tku 24 rfl rfl rfl (by kernel_rfl) (by (assumption)) ?_
    refine tku 25 rfl rfl rfl (by kernel_rfl) (by (assumption)) ?_
    refine tku 26 rfl rfl rfl (by kernel_rfl) (by (assumption)) ?_
    refine tku 27 rfl rfl rfl (by kernel_rfl) (by (assumption)) ?_
    refine tku 28 rfl rfl rfl (by kernel_rfl) (by (assumption)) ?_
    ((apply (tkw 29)); (case hi => exact rfl); (case hg => exact rfl); (case hf => kernel_rfl); (case hS => (assumption)); (case hy => (intro wf hwf; haveI := From.mk hwf; (((apply opv_E); exact rfl)))))
    ((apply (tk 30)); (case hi => exact rfl); (case hf => kernel_rfl); (case hS => (assumption)); (case hy => (intro wf hwf; haveI := From.mk hwf; (((apply opv_E); exact rfl)))))
    refine vA_done (by kernel_rfl) (by (first | exact trivial | ((assumption); done))) ?_
    (apply seqP_normal; ((apply vC_cond_false); exact rfl); apply vC_skip; apply blockP_normal; apply seqP_normal; apply vC_region; ((apply vL_val); (case h => ((apply opv_add); exact rfl; exact rfl; (first | omega | (simp only [List.length_map]; omega))))); ((apply vL_val); (case h => ((apply opv_E); exact rfl))); apply vL_nil; apply loopP_normal)
    (with_reducible apply end1); (case hs => ((iterate 15 (((refine same_updO ?_ ?_); rotate_left; exact rfl))); ((refine same_upd ?_ ?_); rotate_left; exact rfl); (iterate 3 (((refine same_updO ?_ ?_); rotate_left; exact rfl))); ((refine same_upd ?_ ?_); rotate_left; exact rfl); (iterate 5 (((refine same_updO ?_ ?_); rotate_left; exact rfl))); ((refine same_upd ?_ ?_); rotate_left; exact rfl); (iterate 10 (((refine same_updO ?_ ?_); rotate_left; exact rfl))); apply same_updN; (iterate 6 (((refine same_updO ?_ ?_); rotate_left; exact rfl))); ((refine same_upd ?_ ?_); rotate_left; exact rfl); (exact same_mask _ _ _))); (case h1 => (exact norm_eq rfl))
    · exact ⟨1, rfl, by omega, hf15.trans hf56, hb5.frN hf56⟩
    · simp [RowKit.intOf]; omega
  · obtain ⟨j1, j2⟩ := i15 hp0
    ((iterate 3 (((apply vL_val); (case h => ((apply opv_E); exact rfl))))); ((apply vL_wanted); exact rfl); ((apply vL_val); (case h => ((apply opv_fieldAddr); exact rfl))); ((apply vL_wanted); exact rfl); ((apply vL_val); (case h => ((apply opv_loadb1); exact rfl; exact rfl; assumption; exact rfl))); ((apply vL_wanted); exact rfl); (iterate 3 (((apply vL_val); (case h => ((apply opv_E); exact rfl))))); (refine vL_or rfl rfl (fun _ => ?_) (fun h => by omega)); ((apply vL_val); (case h => ((apply opv_fieldAddr); exact rfl))); ((apply vL_wanted); exact rfl); ((apply vL_val); (case h => ((apply opv_loadb1); exact rfl; exact rfl; assumption; exact rfl))); ((apply vL_wanted); exact rfl); (iterate 3 (((apply vL_val); (case h => ((apply opv_E); exact rfl))))); (refine vL_or rfl rfl (fun _ => ?_) (fun h => by omega)); ((apply vL_val); (case h => ((apply opv_fieldAddr); exact rfl))); ((apply vL_wanted); exact rfl); ((apply vL_val); (case h => ((apply opv_loadb1); exact rfl; exact rfl; assumption; exact rfl))); ((apply vL_wanted); exact rfl); (iterate 3 (((apply vL_val); (case h => ((apply opv_E); exact rfl))))); (refine vL_or rfl rfl (fun _ => ?_) (fun h => by omega)); ((apply vL_val); (case h => ((apply opv_fieldAddr); exact rfl))); ((apply vL_wanted); exact rfl); ((apply vL_val); (case h => ((apply opv_loadb1); exact rfl; exact rfl; assumption; exact rfl))); ((apply vL_wanted); exact rfl); (iterate 3 (((apply vL_val); (case h => ((apply opv_E); exact rfl))))); (refine vL_or rfl rfl (fun _ => ?_) (fun h => by omega)); ((apply vL_val); (case h => ((apply opv_fieldAddr); exact rfl))); ((apply vL_wanted); exact rfl); ((apply vL_val); (case h => ((apply opv_loadb1); exact rfl; exact rfl; assumption; exact rfl))); ((apply vL_wanted); exact rfl); (iterate 3 (((apply vL_val); (case h => ((apply opv_E); exact rfl))))); (refine vL_or rfl rfl (fun _ => ?_) (fun h => by omega)); ((apply vL_val); (case h => ((apply opv_fieldAddr); exact rfl))); ((apply vL_wanted); exact rfl); ((apply vL_val); (case h => ((apply opv_loadb1); exact rfl; exact rfl; assumption; exact rfl))); ((apply vL_wanted); exact rfl); ((apply vL_val); (case h => ((apply opv_fieldAddr); exact rfl))); ((apply vL_wanted); exact rfl); ((apply vL_val); (case h => ((apply opv_loadb1); exact rfl; exact rfl; assumption; exact rfl))); ((apply vL_wanted); exact rfl); (iterate 2 (((apply vL_val); (case h => ((apply opv_E); exact rfl))))); apply vL_nil; apply seqP_normal; (refine vC_cond_dec rfl (fun h => by omega) (fun _ => ?_)); apply vC_skip; apply seqP_normal; (iterate 2 (apply vC_seq)); apply vC_region; ((apply vL_val); (case h => ((apply opv_fieldAddr); exact rfl))); ((apply vL_val); (case h => ((apply opv_loadb1); exact rfl; exact rfl; assumption; exact rfl))); (iterate 2 (((apply vL_val); (case h => ((apply opv_E); exact rfl))))); (refine vL_or rfl rfl (fun _ => ?_) (fun h => by omega)); ((apply vL_val); (case h => ((apply opv_fieldAddr); exact rfl))); ((apply vL_wanted); exact rfl); ((apply vL_val); (case h => ((apply opv_loadb1); exact rfl; exact rfl; assumption; exact rfl))); ((apply vL_wanted); exact rfl); (iterate 3 (((apply vL_val); (case h => ((apply opv_E); exact rfl))))); (refine vL_or rfl rfl (fun _ => ?_) (fun h => by omega)); ((apply vL_val); (case h => ((apply opv_fieldAddr); exact rfl))); ((apply vL_wanted); exact rfl); ((apply vL_val); (case h => ((apply opv_loadb1); exact rfl; exact rfl; assumption; exact rfl))); ((apply vL_wanted); exact rfl); (iterate 3 (((apply vL_val); (case h => ((apply opv_E); exact rfl))))); (refine vL_or rfl rfl (fun _ => ?_) (fun h => by omega)); ((apply vL_val); (case h => ((apply opv_fieldAddr); exact rfl))); ((apply vL_wanted); exact rfl); ((apply vL_val); (case h => ((apply opv_loadb1); exact rfl; exact rfl; assumption; exact rfl))); ((apply vL_wanted); exact rfl); (iterate 3 (((apply vL_val); (case h => ((apply opv_E); exact rfl))))); (refine vL_or rfl rfl (fun _ => ?_) (fun h => by omega)); ((apply vL_val); (case h => ((apply opv_fieldAddr); exact rfl))); ((apply vL_wanted); exact rfl); ((apply vL_val); (case h => ((apply opv_loadb1); exact rfl; exact rfl; assumption; exact rfl))); ((apply vL_wanted); exact rfl); ((apply vL_val); (case h => ((apply opv_len); ((conv => lhs; whnf) <;> exact rfl); assumption))); ((apply vL_wanted); exact rfl); (iterate 3 (((apply vL_val); (case h => ((apply opv_E); exact rfl))))); (refine vL_or rfl rfl (fun _ => ?_) (fun h => by omega)); ((apply vL_val); (case h => ((apply opv_fieldAddr); exact rfl))); ((apply vL_wanted); exact rfl); ((apply vL_val); (case h => ((apply opv_loadb1); exact rfl; exact rfl; assumption; exact rfl))); ((apply vL_wanted); exact rfl); ((apply vL_val); (case h => ((apply opv_E); exact rfl))); ((apply vL_wanted); exact rfl); ((apply vL_val); (case h => ((apply opv_E); exact rfl))); (refine vL_and rfl rfl (fun _ => ?_) (fun h => by omega)); ((apply vL_val); (case h => ((apply opv_fieldAddr); exact rfl))); ((apply vL_wanted); exact rfl); ((apply vL_val); (case h => ((apply opv_loadb1); exact rfl; exact rfl; assumption; exact rfl))); ((apply vL_wanted); exact rfl); ((apply vL_val); (case h => ((apply opv_E); exact rfl))); ((apply vL_wanted); exact rfl); ((apply vL_val); (case h => ((apply opv_E); exact rfl))); (refine vL_or rfl rfl (fun _ => ?_) (fun h => by omega)); ((apply vL_val); (case h => ((apply opv_fieldAddr); exact rfl))); ((apply vL_wanted); exact rfl); ((apply vL_val); (case h => ((apply opv_loadb1); exact rfl; exact rfl; assumption; exact rfl))); ((apply vL_wanted); exact rfl); ((apply vL_val); (case h => ((apply opv_len); ((conv => lhs; whnf) <;> exact rfl); assumption))); ((apply vL_wanted); exact rfl); ((apply vL_val); (case h => ((apply opv_E); exact rfl))); ((apply vL_wanted); exact rfl); ((apply vL_val); (case h => ((apply opv_E); exact rfl))); ((apply vL_wanted); exact rfl); (iterate 2 (((apply vL_val); (case h => ((apply opv_E); exact rfl))))); apply vL_nil; apply seqP_normal; (refine vC_cond_dec rfl (fun h => by omega) (fun _ => ?_)); apply vC_skip; apply seqP_normal; (iterate 2 (apply vC_seq)); apply vC_region; ((apply vL_val); (case h => ((apply opv_fieldAddr); exact rfl))); ((apply vL_val); (case h => ((apply opv_loadb1); exact rfl; exact rfl; assumption; exact rfl))); ((apply vL_val); (case h => ((apply opv_len); ((conv => lhs; whnf) <;> exact rfl); assumption))); ((apply vL_val); (case h => ((apply opv_E); exact rfl))); apply vL_nil; apply seqP_normal; apply vC_block)
    (apply vC_loop1 680564733836925166769607693763939926116 92 (fun u w' => ∃ i : Nat, u = .int .i64 i ∧ i ≤ c.ss.length ∧ Fr No w w' ∧ Blk w'.heap b1 (clE c) 25) (fun u _ => c.ss.length - (RowKit.intOf u).toNat)); (case h1 => (exact norm_eq rfl))
    case h0 => exact ⟨0, rfl, Nat.zero_le _, hf13, hb3⟩
    case round =>
    rintro junk _ w4 ⟨i, rfl, hi, hf4, hb4⟩
    have hrs4 := hr.2.2.frN hf4
    have hrd4 := hr.frN hf4
    by_cases hil : i < c.ss.length
    rotate_left
    · (apply vC_seq; apply vC_region; ((apply vL_val); (case h => ((apply opv_E); exact rfl))); apply vL_nil; apply seqP_normal; apply vC_seq; (refine vC_cond_dec rfl (fun h => by omega) (fun _ => ?_)); apply vC_exit; apply seqP_exit; apply loopP_exit; apply blockP_exit; apply seqP_normal; apply vC_seq; apply vC_region; ((apply vL_val); (case h => ((apply opv_loadbC); exact rfl; exact rfl; assumption; exact (rfl : _ = [_, _, _, _, _, _, _, _, _, _]); exact rfl))))
      refine vL_callF rfl (waits31 c w4 hrd4 R.w1 R.w) rfl ?_
      rintro _ w5 ⟨rfl, hf5⟩
      (((apply vL_val); (case h => ((apply opv_E); exact rfl))); apply vL_nil; apply seqP_normal; apply vC_ret)
      (apply ret1; (case h1 => (exact norm_eq rfl)))
      exact ⟨rfl, hf4.trans hf5⟩
    have hi0 : i = 0 := by omega
    subst hi0
    obtain ⟨s, hsi⟩ : ∃ s, c.ss[0]? = some s := ⟨c.ss[0], List.getElem?_eq_getElem hil⟩
    have hsi' : c.ss[((0 : Nat) : Int).toNat]? = some s := hsi
    obtain ⟨k1, k2, k3, k4⟩ := R.s s (List.mem_of_getElem? hsi)
    (apply vC_seq; apply vC_region; ((apply vL_val); (case h => ((apply opv_E); exact rfl))); apply vL_nil; apply seqP_normal; apply vC_seq; (refine vC_cond_dec rfl (fun _ => ?_) (fun h => by omega)); apply vC_skip; apply seqP_normal; apply vC_seq; apply vC_block; apply vC_seq; apply vC_region; ((apply vL_val); (case h => ((apply opv_E); exact rfl))); ((apply vL_val); (case h => ((apply opv_indexAddr); ((conv => lhs; whnf) <;> exact rfl); exact rfl; assumption; (first | omega | (simp only [List.length_map]; omega)); (first | omega | (simp only [List.length_map]; omega))))); ((apply vL_val); (case h => ((apply opv_ld_eln); exact rfl; exact rfl; assumption; assumption))); ((apply vL_val); (case h => (apply opw_alloc))); ((apply vL_val); (case h => ((apply opv_E); exact rfl))); ((apply vL_skip); (case h => ((apply ops_storen); exact norm_eq rfl; exact norm_eq rfl; exact rfl; exact (fun u hu => EncOk.one _ u hu); infer_instance; (first | decide | exact of_decide_eq_true rfl | (simp; done))))); apply vL_nil; apply seqP_normal; apply vC_seq)
    refine vC_gen (fun w' => Fr No w4 w' ∧ Blk w'.heap w4.heap.size (sqE s) 65) ⟨by (apply Fr.allocSet; exact Fr.refl _ _), Blk.as inferInstance rfl⟩ ?_
    rintro w5 ⟨hf5, h5⟩
    have hb5 := hb4.frN hf5
    have hf15 := hf4.trans hf5
    generalize w4.heap.size = b5 at h5 ⊢
    refine vC_draw' (fun wf => Fr No w5 wf) ((Fr.refl No w5).drew) ?_
    ((apply (tk 0)); (case hi => exact rfl); (case hf => kernel_rfl); (case hS => (apply Fr.drew; exact Fr.refl _ _)); (case hy => (intro wf hwf; haveI := From.mk hwf; (((apply opv_fieldAddr); exact rfl)))))
    ((apply (tk 1)); (case hi => exact rfl); (case hf => kernel_rfl); (case hS => (apply Fr.drew; exact Fr.refl _ _)); (case hy => (intro wf hwf; haveI := From.mk hwf; (((apply opv_loadbC); exact rfl; exact rfl; infer_instance; exact (rfl : _ = [_, _]); exact rfl)))))
    (refine tkc 2 rfl (by kernel_rfl) (by (apply Fr.drew; exact Fr.refl _ _)) rfl (mayp31 s.topic s.part _ (by omega)) rfl ?_)
    rintro _ w6 ⟨rfl, hf6⟩
    have hf56 : Fr No w5 w6 := (Fr.refl No w5).drew.trans hf6
    rw [k1]
    ((apply (tk 3)); (case hi => exact rfl); (case hf => kernel_rfl); (case hS => (assumption)); (case hy => (intro wf hwf; haveI := From.mk hwf; (((apply opv_not); exact rfl)))))
    ((apply (tk 4)); (case hi => exact rfl); (case hf => kernel_rfl); (case hS => (assumption)); (case hy => (intro wf hwf; haveI := From.mk hwf; (((apply opv_E); exact rfl)))))
    ((apply (tkw 5)); (case hi => exact rfl); (case hg => exact rfl); (case hf => kernel_rfl); (case hS => (assumption)); (case hy => (intro wf hwf; haveI := From.mk hwf; (((apply opv_fieldAddr); exact rfl)))))
    ((apply (tkw 6)); (case hi => exact rfl); (case hg => exact rfl); (case hf => kernel_rfl); (case hS => (assumption)); (case hy => (intro wf hwf; haveI := From.mk hwf; (((apply opv_loadb1); exact rfl; exact rfl; infer_instance; exact rfl)))))
    ((apply (tkw 7)); (case hi => exact rfl); (case hg => exact rfl); (case hf => kernel_rfl); (case hS => (assumption)); (case hy => (intro wf hwf; haveI := From.mk hwf; (((apply opv_E); exact rfl)))))
    ((apply (tk 8)); (case hi => exact rfl); (case hf => kernel_rfl); (case hS => (assumption)); (case hy => (intro wf hwf; haveI := From.mk hwf; (((apply opv_E); exact rfl)))))
    ((apply (tk 9)); (case hi => exact rfl); (case hf => kernel_rfl); (case hS => (assumption)); (case hy => (intro wf hwf; haveI := From.mk hwf; (((apply opv_E); exact rfl)))))
    refine vA_split 106 rfl (fun h => by omega) (fun _ => ?_)
    ((apply (tkw 10)); (case hi => exact rfl); (case hg => exact rfl); (case hf => kernel_rfl); (case hS => (assumption)); (case hy => (intro wf hwf; haveI := From.mk hwf; (((apply opv_fieldAddr); exact rfl)))))
    ((apply (tkw 11)); (case hi => exact rfl); (case hg => exact rfl); (case hf => kernel_rfl); (case hS => (assumption)); (case hy => (intro wf hwf; haveI := From.mk hwf; (((apply opv_loadb1); exact rfl; exact rfl; infer_instance; exact rfl)))))
    ((apply (tkw 12)); (case hi => exact rfl); (case hg => exact rfl); (case hf => kernel_rfl); (case hS => (assumption)); (case hy => (intro wf hwf; haveI := From.mk hwf; (((apply opv_E); exact rfl)))))
    ((apply (tk 13)); (case hi => exact rfl); (case hf => kernel_rfl); (case hS => (assumption)); (case hy => (intro wf hwf; haveI := From.mk hwf; (((apply opv_E); exact rfl)))))
    ((apply (tk 14)); (case hi => exact rfl); (case hf => kernel_rfl); (case hS => (assumption)); (case hy => (intro wf hwf; haveI := From.mk hwf; (((apply opv_E); exact rfl)))))
    refine vA_split 111 rfl (fun h => by omega) (fun _ => ?_)
    ((apply (tkw 15)); (case hi => exact rfl); (case hg => exact rfl); (case hf => kernel_rfl); (case hS => (assumption)); (case hy => (intro wf hwf; haveI := From.mk hwf; (((apply opv_E); exact rfl)))))
    ((apply (tkw 16)); (case hi => exact rfl); (case hg => exact rfl); (case hf => kernel_rfl); (case hS => (assumption)); (case hy => (intro wf hwf; haveI := From.mk hwf; (((apply opv_E); exact rfl)))))
    ((apply (tkw 17)); (case hi => exact rfl); (case hg => exact rfl); (case hf => kernel_rfl); (case hS => (assumption)); (case hy => (intro wf hwf; haveI := From.mk hwf; (((apply opv_E); exact rfl)))))
    refine vA_split 114 rfl (fun h => by omega) (fun _ => ?_)
    refine tku 18 rfl rfl rfl (by kernel_rfl) (by (assumption)) ?_
    refine tku 19 rfl rfl rfl (by kernel_rfl) (by (assumption)) ?_
    refine tku 20 rfl rfl rfl (by kernel_rfl) (by (assumption)) ?_
    refine tku 21 rfl rfl rfl (by kernel_rfl) (by (assumption)) ?_
    refine tku 22 rfl rfl rfl (by kernel_rfl) (by (assumption)) ?_
    refine tku 23 rfl rfl rfl (by kernel_rfl) (by (assumption)) ?_
    refine tku 24 rfl rfl rfl (by kernel_rfl) (by (assumption)) ?_
    refine tku 25 rfl rfl rfl (by kernel_rfl) (by (assumption)) ?_
    refine tku 26 rfl rfl rfl (by kernel_rfl) (by (assumption)) ?_
    refine tku 27 rfl rfl rfl (by kernel_rfl) (by (assumption)) ?_
    refine tku 28 rfl rfl rfl (by kernel_rfl) (by (assumption)) ?_
    ((apply (tkw 29)); (case hi => exact rfl); (case hg => exact rfl); (case hf => kernel_rfl); (case hS => (assumption)); (case hy => (intro wf hwf; haveI := From.mk hwf; (((apply opv_E); exact rfl)))))
    ((apply (tk 30)); (case hi => exact rfl); (case hf => kernel_rfl); (case hS => (assumption)); (case hy => (intro wf hwf; haveI := From.mk hwf; (((apply opv_E); exact rfl)))))
    refine vA_done (by kernel_rfl) (by (first | exact trivial | ((assumption); done))) ?_
    (apply seqP_normal; ((apply vC_cond_false); exact rfl); apply vC_skip; apply blockP_normal; apply seqP_normal; apply vC_region; ((apply vL_val); (case h => ((apply opv_add); exact rfl; exact rfl; (first | omega | (simp only [List.length_map]; omega))))); ((apply vL_val); (case h => ((apply opv_E); exact rfl))); apply vL_nil; apply loopP_normal)
    (with_reducible apply end1); (case hs => ((iterate 15 (((refine same_updO ?_ ?_); rotate_left; exact rfl))); ((refine same_upd ?_ ?_); rotate_left; exact rfl); (iterate 3 (((refine same_updO ?_ ?_); rotate_left; exact rfl))); ((refine same_upd ?_ ?_); rotate_left; exact rfl); (iterate 5 (((refine same_updO ?_ ?_); rotate_left; exact rfl))); ((refine same_upd ?_ ?_); rotate_left; exact rfl); (iterate 10 (((refine same_updO ?_ ?_); rotate_left; exact rfl))); apply same_updN; (iterate 6 (((refine same_updO ?_ ?_); rotate_left; exact rfl))); ((refine same_upd ?_ ?_); rotate_left; exact rfl); (exact same_mask _ _ _))); (case h1 => (exact norm_eq rfl))
    · exact ⟨1, rfl, by omega, hf15.trans hf56, hb5.frN hf56⟩
    · simp [RowKit.intOf]; omega
end Go.Proofs.Ytchfaeaagpemlaa

set_option maxRecDepth 100000
namespace Go.Proofs.Ytchfaeaagpemlaa
open Go Go.Eng
structure SD where
  to : Int
  rq : RQ
def sdE (s : SD) : List Value := [.int .i64 s.to, .int .u8 s.rq.k, .int .i64 s.rq.cl, .int .i64 s.rq.call, .string s.rq.topic, .int .i64 s.rq.part, .int .i64 s.rq.pid, .int .i64 s.rq.ep, .int .i64 s.rq.fi, s.rq.brv.1, .int .i64 s.rq.off, .int .i64 s.rq.most, .int .i64 s.rq.byt, .int .u8 s.rq.mkd, .string s.rq.grp, .string s.rq.nm, .int .i64 s.rq.n, s.rq.trv.1, .string s.rq.ptop, .int .i64 s.rq.ppart, .int .i64 s.rq.moff, .int .i64 s.rq.mnow, .int .i64 s.rq.mcl, .int .i64 s.rq.mcall]
instance encSd : EncOk sdE 24 := ⟨by
  intro x u h
  simp only [sdE, List.mem_cons, List.not_mem_nil, or_false] at h
  rcases h with rfl | rfl | rfl | rfl | rfl | rfl | rfl | rfl | rfl | rfl | rfl | rfl | rfl | rfl | rfl | rfl | rfl | rfl | rfl | rfl | rfl | rfl | rfl | rfl
  · rfl
  · rfl
  · rfl
  · rfl
  · rfl
  · rfl
  · rfl
  · rfl
  · rfl
  · exact x.rq.brv.2
  · rfl
  · rfl
  · rfl
  · rfl
  · rfl
  · rfl
  · rfl
  · exact x.rq.trv.2
  · rfl
  · rfl
  · rfl
  · rfl
  · rfl
  · rfl
  , fun _ => rfl⟩
abbrev sdZ : List Value := [.int .i64 0, .int .u8 0, .int .i64 0, .int .i64 0, .string ⟨#[]⟩, .int .i64 0, .int .i64 0, .int .i64 0, .int .i64 0, .slice none 0 0, .int .i64 0, .int .i64 0, .int .i64 0, .int .u8 0, .string ⟨#[]⟩, .string ⟨#[]⟩, .int .i64 0, .slice none 0 0, .string ⟨#[]⟩, .int .i64 0, .int .i64 0, .int .i64 0, .int .i64 0, .int .i64 0]
theorem blk_ne {h : Array Obj} {a b : Nat} {c c' : List Value} {T T' : TypeId} (h1 : Blk h a c T) (h2 : Blk h b c' T') (hT : T ≠ T') : a ≠ b := fun e => by
  subst e
  have := h1.get.symm.trans h2.get
  injection this with this
  injection this with _ h3
  exact hT h3
theorem send31 (c : CL) (x : WT) (b : Nat) (w : World) (hb : Blk w.heap b (wtE x) 42) (hr : RqRd w.heap x.rq) (hs : RqSz x.rq) (h1 : 1 ≤ x.broker ∧ x.broker ≤ 1000) (h2 : 1 ≤ c.brokers ∧ c.brokers ≤ 1000) :
    Rets Try.prog 18 #[.agg (clE c).toArray, .pointer (some ⟨b, 0, none⟩)] w fun u w' => ∃ r', u = .agg (sdE ⟨x.broker, r'⟩).toArray ∧ r'.nf = x.rq.nf ∧ RqOwn w'.heap r' ∧ Fr (fun k => k = b) w w' ∧ Blk w'.heap b (wtE { x with broker := x.broker % c.brokers + 1 }) 42 := by
  have hw0 := c.wv.2
  have hs0 := c.sv.2
  have hbv := x.rq.brv.2
  have htv := x.rq.trv.2
  refine rets_of Try.func18 rfl Try.ntmps18 rfl rfl (by kernel_rfl) ?_
  ((apply vC_seq; apply vC_region)); ((((apply vL_val); (case h => ((apply opw_boxn); exact rfl))); ((apply vL_val); (case h => (apply opw_alloc))); apply vL_nil)); with_reducible apply seqP_normal
  ((apply vC_seq))
  refine vC_gen (fun w' => Fr No w w' ∧ w.heap.size < w'.heap.size ∧ Blk w'.heap w.heap.size (clE c) 25 ∧ Blk w'.heap (w.alloc (.cells (clE c).toArray 25)).heap.size sdZ 48) ⟨by ((iterate 2 (apply Fr.alloc)); exact Fr.refl _ _), by simp; omega, inferInstance, inferInstance⟩ ?_
  rintro w1 ⟨hf1, hz1, hc1, hd1⟩
  have hne : b ≠ w.heap.size := by have := hb.lt; omega
  have hb1 := hb.frN hf1
  have hdl := hd1.lt
  have e4 : w.heap.size < (w.alloc (.cells (clE c).toArray 25)).heap.size := by rw [alloc_size]; omega
  have hne4 : b ≠ (w.alloc (.cells (clE c).toArray 25)).heap.size := by have := hb.lt; omega
  have hge4 : w.heap.size ≤ (w.alloc (.cells (clE c).toArray 25)).heap.size := by omega
  generalize (w.alloc (.cells (clE c).toArray 25)).heap.size = b4 at hd1 hdl e4 hne4 hge4 ⊢
  obtain ⟨b2, eb2⟩ : ∃ b2, b2 = w.heap.size := ⟨_, rfl⟩
  rw [← eb2] at hc1 hz1 hne e4 ⊢
  refine vC_draw' ((fun wf => Blk wf.heap b (wtE x) 42)) (by (first | exact trivial | assumption | infer_instance | (skip; done))) ?_
  ((apply (tk 0)); (case hi => exact rfl); (case hf => kernel_rfl); (case hS => (first | exact trivial | assumption | infer_instance | (skip; done))); (case hy => (intro wf hwf; (try dsimp only at hwf); (((apply opv_E); exact rfl)))))
  ((apply (tk 1)); (case hi => exact rfl); (case hf => kernel_rfl); (case hS => (first | exact trivial | assumption | infer_instance | (skip; done))); (case hy => (intro wf hwf; (try dsimp only at hwf); (((apply opv_E); exact rfl)))))
  ((apply (tk 2)); (case hi => exact rfl); (case hf => kernel_rfl); (case hS => (first | exact trivial | assumption | infer_instance | (skip; done))); (case hy => (intro wf hwf; (try dsimp only at hwf); (((apply opv_fieldAddr); exact rfl)))))
  ((apply (tk 3)); (case hi => exact rfl); (case hf => kernel_rfl); (case hS => (first | exact trivial | assumption | infer_instance | (skip; done))); (case hy => (intro wf hwf; (try dsimp only at hwf); (((apply opv_loadb1); exact rfl; exact rfl; assumption; exact rfl)))))
  ((apply (tk 4)); (case hi => exact rfl); (case hf => kernel_rfl); (case hS => (first | exact trivial | assumption | infer_instance | (skip; done))); (case hy => (intro wf hwf; (try dsimp only at hwf); (((apply opv_E); exact rfl)))))
  ((apply (tk 5)); (case hi => exact rfl); (case hf => kernel_rfl); (case hS => (first | exact trivial | assumption | infer_instance | (skip; done))); (case hy => (intro wf hwf; (try dsimp only at hwf); (((apply opv_E); exact rfl)))))
  ((apply (tk 6)); (case hi => exact rfl); (case hf => kernel_rfl); (case hS => (first | exact trivial | assumption | infer_instance | (skip; done))); (case hy => (intro wf hwf; (try dsimp only at hwf); (((apply opv_fieldAddr); exact rfl)))))
  ((apply (tk 7)); (case hi => exact rfl); (case hf => kernel_rfl); (case hS => (first | exact trivial | assumption | infer_instance | (skip; done))); (case hy => (intro wf hwf; (try dsimp only at hwf); (((apply opv_loadb); exact rfl; exact rfl; assumption; exact rfl)))))
  have hf1d := hf1.drew
  have hb1d := hb1.frN (Fr.refl No w1).drew
  have hc1d := hc1.frN (Fr.refl No w1).drew
  have hd1d := hd1.frN (Fr.refl No w1).drew
  refine vA_two 8 10 rfl rfl (by kernel_rfl) (by (first | exact trivial | assumption | infer_instance | (skip; done))) (fun K hK => ?_) (fun K hK => ?_)
  · refine vL_callF rfl (cloned31 x.rq _ (hr.frN hf1d) hs) rfl ?_
    rintro _ w2 ⟨r', rfl, hnf, hr2, hf2⟩
    have hrb' := r'.brv.2
    have hrt' := r'.trv.2
    have hb2 := hb1d.frN hf2
    refine vL_nil ⟨rfl, hK _ _ ?_⟩
    ((apply (tk 9)); (case hi => exact rfl); (case hf => kernel_rfl); (case hS => (first | exact trivial | assumption | infer_instance | (skip; done))); (case hy => (intro wf hwf; (try dsimp only at hwf); (((apply opv_buildS); exact rfl; exact (rfl : _ = some [_, _, _, _, _, _, _, _, _, _, _, _, _, _, _, _, _, _, _, _, _, _, _, _]))))))
    refine vA_only 10 rfl (by kernel_rfl) (by (first | exact trivial | assumption | infer_instance | (skip; done))) (fun K hK => ?_)
    (((apply vL_val); (case h => (apply opw_alloc))); apply vL_nil)
    refine ⟨rfl, hK _ _ ?_⟩
    refine vA_only 11 rfl (by kernel_rfl) (by (first | exact trivial | assumption | infer_instance | (skip; done))) (fun K hK => ?_)
    (((apply vL_skip); (case h => ((apply ops_storen); exact norm_eq rfl; exact norm_eq rfl; exact rfl; (intro u hu; simp only [List.mem_cons, List.not_mem_nil, or_false] at hu; rcases hu with rfl | rfl | rfl | rfl | rfl | rfl | rfl | rfl | rfl | rfl | rfl | rfl | rfl | rfl | rfl | rfl | rfl | rfl | rfl | rfl | rfl | rfl | rfl | rfl <;> (first | rfl | assumption)); infer_instance; (first | decide | exact of_decide_eq_true rfl | (simp; done))))); apply vL_nil)
    refine ⟨rfl, hK _ _ ?_⟩
    refine vA_done (by kernel_rfl) (by (first | exact trivial | assumption | infer_instance | (skip; done))) ?_
    ((apply seqP_normal; apply vC_seq))
    refine vC_slots [1, 2, 4, 5] (fun vs w' => ∃ b5, vs = [.pointer (some ⟨b, 0, none⟩), .pointer (some ⟨b2, 0, none⟩), .pointer (some ⟨b4, 0, none⟩), .pointer (some ⟨b5, 0, none⟩)] ∧ Fr No w w' ∧ Blk w'.heap b (wtE x) 42 ∧ Blk w'.heap b2 (clE c) 25 ∧ Blk w'.heap b4 sdZ 48 ∧ Blk w'.heap b5 (sdE ⟨x.broker, r'⟩) 48 ∧ RqOwn w'.heap r') (⟨_, rfl, (hf1d.trans hf2).trans (by (apply Fr.allocSet; exact Fr.refl _ _)), inferInstance, (hc1d.frN hf2).frN (by (apply Fr.allocSet; exact Fr.refl _ _)), (hd1d.frN hf2).frN (by (apply Fr.allocSet; exact Fr.refl _ _)), Blk.as inferInstance rfl, hr2.frN (by (apply Fr.allocSet; exact Fr.refl _ _))⟩) ?_
    rintro e5 _ w5 ⟨b5, rfl, hf5, h5b, h5c, h5d, h5e, h5r⟩
    simp only [setAll]
    haveI kk : NeB b2 b := ⟨Ne.symm hne⟩
    clear hb1 hc1 hd1 hb1d hc1d hd1d
    refine vC_draw' (fun wf => Blk wf.heap b2 (clE c) 25) (by (first | exact trivial | assumption | infer_instance | (skip; done))) ?_
    have h5bd := h5b.frN (Fr.refl No w5).drew
    have h5cd := h5c.frN (Fr.refl No w5).drew
    have h5dd := h5d.frN (Fr.refl No w5).drew
    have h5ed := h5e.frN (Fr.refl No w5).drew
    ((apply (tk 0)); (case hi => exact rfl); (case hf => kernel_rfl); (case hS => (first | exact trivial | assumption | infer_instance | (skip; done))); (case hy => (intro wf hwf; (try dsimp only at hwf); (((apply opv_E); exact rfl)))))
    ((apply (tk 1)); (case hi => exact rfl); (case hf => kernel_rfl); (case hS => (first | exact trivial | assumption | infer_instance | (skip; done))); (case hy => (intro wf hwf; (try dsimp only at hwf); (((apply opv_E); exact rfl)))))
    ((apply (tk 2)); (case hi => exact rfl); (case hf => kernel_rfl); (case hS => (first | exact trivial | assumption | infer_instance | (skip; done))); (case hy => (intro wf hwf; (try dsimp only at hwf); (((apply opv_E); exact rfl)))))
    ((apply (tk 3)); (case hi => exact rfl); (case hf => kernel_rfl); (case hS => (first | exact trivial | assumption | infer_instance | (skip; done))); (case hy => (intro wf hwf; (try dsimp only at hwf); (((apply opv_fieldAddr); exact rfl)))))
    ((apply (tk 5)); (case hi => exact rfl); (case hf => kernel_rfl); (case hS => (first | exact trivial | assumption | infer_instance | (skip; done))); (case hy => (intro wf hwf; (try dsimp only at hwf); (((apply opv_fieldAddr); exact rfl)))))
    ((apply (tk 6)); (case hi => exact rfl); (case hf => kernel_rfl); (case hS => (first | exact trivial | assumption | infer_instance | (skip; done))); (case hy => (intro wf hwf; (try dsimp only at hwf); (((apply opv_loadb1); exact rfl; exact rfl; assumption; exact rfl)))))
    refine vA_only 4 rfl (by kernel_rfl) (by (first | exact trivial | assumption | infer_instance | (skip; done))) (fun K hK => ?_)
    (((apply vL_val); (case h => ((apply opv_loadb1); exact rfl; exact rfl; assumption; exact rfl))); apply vL_nil)
    refine ⟨rfl, hK _ _ ?_⟩
    refine vA_only 7 rfl (by kernel_rfl) (by (first | exact trivial | assumption | infer_instance | (skip; done))) (fun K hK => ?_)
    (apply vL_val; (case h => ((with_reducible apply opv_rem); exact rfl; exact rfl; omega; omega)))
    refine vL_nil ⟨rfl, hK _ _ ?_⟩
    have hmod : 0 ≤ x.broker % c.brokers ∧ x.broker % c.brokers < c.brokers := ⟨Int.emod_nonneg _ (by omega), Int.emod_lt_of_pos _ (by omega)⟩
    ((apply (tk 8)); (case hi => exact rfl); (case hf => kernel_rfl); (case hS => (first | exact trivial | assumption | infer_instance | (skip; done))); (case hy => (intro wf hwf; (try dsimp only at hwf); (((apply opv_add); exact rfl; exact rfl; (first | omega | (simp only [List.length_map]; omega)))))))
    ((apply (tk 9)); (case hi => exact rfl); (case hf => kernel_rfl); (case hS => (first | exact trivial | assumption | infer_instance | (skip; done))); (case hy => (intro wf hwf; (try dsimp only at hwf); (((apply opv_E); exact rfl)))))
    ((apply (tk 10)); (case hi => exact rfl); (case hf => kernel_rfl); (case hS => (first | exact trivial | assumption | infer_instance | (skip; done))); (case hy => (intro wf hwf; (try dsimp only at hwf); (((apply opv_fieldAddr); exact rfl)))))
    refine vA_only 11 rfl (by kernel_rfl) (by (first | exact trivial | assumption | infer_instance | (skip; done))) (fun K hK => ?_)
    (((apply vL_skip); (case h => ((apply ops_store1); exact norm_eq rfl; exact norm_eq rfl; (first | rfl | assumption); assumption; (first | decide | exact of_decide_eq_true rfl | (simp; done))))); apply vL_nil)
    refine ⟨rfl, hK _ _ ?_⟩
    refine vA_done (by kernel_rfl) (by (first | exact trivial | assumption | infer_instance | (skip; done))) ?_
    ((apply seqP_normal; apply vC_seq; apply vC_region))
    refine vL_gen (fun w' => Fr (fun k => k = b) w w' ∧ Blk w'.heap b (wtE { x with broker := x.broker % c.brokers + 1 }) 42 ∧ Blk w'.heap b4 sdZ 48 ∧ Blk w'.heap b5 (sdE ⟨x.broker, r'⟩) 48 ∧ RqOwn w'.heap r') ⟨(hf5.no_any.drew).set _ _ (.inl rfl), Blk.as (Blk.set h5bd) rfl, h5dd.set_ne (blk_ne h5dd h5bd (by decide)), h5ed.set_ne (blk_ne h5ed h5bd (by decide)), (h5r.frN (Fr.refl No w5).drew).frBlk h5bd (by decide) (by decide) (by decide) ((Fr.refl (fun k => k = b) w5.drew).set _ _ (.inl rfl))⟩ ?_
    rintro w6 ⟨hf6, h6b, h6d, h6e, h6r⟩
    (((apply vL_val); (case h => ((apply opv_loadb); exact rfl; exact rfl; assumption; exact rfl))); ((apply vL_skip); (case h => ((apply ops_storen); exact norm_eq rfl; exact norm_eq rfl; exact rfl; exact (fun u hu => EncOk.one _ u (List.mem_of_mem_drop (List.mem_of_mem_take hu))); assumption; (first | decide | exact of_decide_eq_true rfl | (simp; done))))); apply vL_nil; apply seqP_normal; apply vC_ret)
    (apply retC1; (case ha => exact rfl); (case hD => exact rfl); (case hb => exact Blk.set h6d); (case hcs => exact (rfl : _ = sdE ⟨x.broker, r'⟩)); (case hl => exact rfl))
    refine ⟨r', rfl, hnf, h6r.frBlk h6d (by decide) (by decide) (by decide) ((Fr.refl (fun k => k = b4) w6).set _ _ (.inl rfl)), hf6.set _ _ (.inr (by omega)), h6b.set_ne hne4⟩
  · (((apply vL_val); (case h => (apply opw_alloc))); apply vL_nil)
    refine ⟨rfl, hK _ _ ?_⟩
    refine vA_only 8 rfl (by kernel_rfl) (by (first | exact trivial | assumption | infer_instance | (skip; done))) (fun K hK => ?_)
    have hfal : Fr No w1.drew (w1.drew.alloc (.cells sdZ.toArray 48)) := (Fr.refl No _).alloc _
    have hb5n : Blk (w1.drew.alloc (.cells sdZ.toArray 48)).heap w1.drew.heap.size sdZ 48 := Blk.new
    refine vL_callF rfl (cloned31 x.rq _ ((hr.frN hf1d).frN hfal) hs) rfl ?_
    rintro _ w2 ⟨r', rfl, hnf, hr2, hf2⟩
    have hrb' := r'.brv.2
    have hrt' := r'.trv.2
    have hf2' := hfal.trans hf2
    have hb2 := hb1d.frN hf2'
    have hb52 := hb5n.frN hf2
    have hlb := hb1d.lt
    have hlc := hc1d.lt
    have hld := hd1d.lt
    have hsd : w1.heap.size ≤ w1.drew.heap.size := Nat.le_refl _
    generalize w1.drew.heap.size = b5 at hb5n hb52 hlb hlc hld hsd ⊢
    haveI k1 : NeB b b5 := ⟨by omega⟩
    haveI k2 : NeB b2 b5 := ⟨by omega⟩
    haveI k3 : NeB b4 b5 := ⟨by omega⟩
    have hc2 := hc1d.frN hf2'
    have hd2 := hd1d.frN hf2'
    refine vL_nil ⟨rfl, hK _ _ ?_⟩
    ((apply (tk 9)); (case hi => exact rfl); (case hf => kernel_rfl); (case hS => (first | exact trivial | assumption | infer_instance | (skip; done))); (case hy => (intro wf hwf; (try dsimp only at hwf); (((apply opv_buildS); exact rfl; exact (rfl : _ = some [_, _, _, _, _, _, _, _, _, _, _, _, _, _, _, _, _, _, _, _, _, _, _, _]))))))
    refine vA_only 11 rfl (by kernel_rfl) (by (first | exact trivial | assumption | infer_instance | (skip; done))) (fun K hK => ?_)
    (((apply vL_skip); (case h => ((apply ops_storen); exact norm_eq rfl; exact norm_eq rfl; exact rfl; (intro u hu; simp only [List.mem_cons, List.not_mem_nil, or_false] at hu; rcases hu with rfl | rfl | rfl | rfl | rfl | rfl | rfl | rfl | rfl | rfl | rfl | rfl | rfl | rfl | rfl | rfl | rfl | rfl | rfl | rfl | rfl | rfl | rfl | rfl <;> (first | rfl | assumption)); assumption; (first | decide | exact of_decide_eq_true rfl | (simp; done))))); apply vL_nil)
    refine ⟨rfl, hK _ _ ?_⟩
    refine vA_done (by kernel_rfl) (by (first | exact trivial | assumption | infer_instance | (skip; done))) ?_
    ((apply seqP_normal; apply vC_seq))
    refine vC_slots [1, 2, 4, 5] (fun vs w' => ∃ b5, vs = [.pointer (some ⟨b, 0, none⟩), .pointer (some ⟨b2, 0, none⟩), .pointer (some ⟨b4, 0, none⟩), .pointer (some ⟨b5, 0, none⟩)] ∧ Fr No w w' ∧ Blk w'.heap b (wtE x) 42 ∧ Blk w'.heap b2 (clE c) 25 ∧ Blk w'.heap b4 sdZ 48 ∧ Blk w'.heap b5 (sdE ⟨x.broker, r'⟩) 48 ∧ RqOwn w'.heap r') (⟨b5, rfl, (hf1d.trans hf2').set _ _ (.inr (by have := hf1d.size; have := hf1.size; omega)), inferInstance, inferInstance, inferInstance, Blk.as (Blk.set hb52) rfl, hr2.frBlk hb52 (by decide) (by decide) (by decide) ((Fr.refl (fun k => k = b5) w2).set _ _ (.inl rfl))⟩) ?_
    rintro e5 _ w5 ⟨b5, rfl, hf5, h5b, h5c, h5d, h5e, h5r⟩
    simp only [setAll]
    haveI kk : NeB b2 b := ⟨Ne.symm hne⟩
    clear hb1 hc1 hd1 hb1d hc1d hd1d
    refine vC_draw' (fun wf => Blk wf.heap b2 (clE c) 25) (by (first | exact trivial | assumption | infer_instance | (skip; done))) ?_
    have h5bd := h5b.frN (Fr.refl No w5).drew
    have h5cd := h5c.frN (Fr.refl No w5).drew
    have h5dd := h5d.frN (Fr.refl No w5).drew
    have h5ed := h5e.frN (Fr.refl No w5).drew
    ((apply (tk 0)); (case hi => exact rfl); (case hf => kernel_rfl); (case hS => (first | exact trivial | assumption | infer_instance | (skip; done))); (case hy => (intro wf hwf; (try dsimp only at hwf); (((apply opv_E); exact rfl)))))
    ((apply (tk 1)); (case hi => exact rfl); (case hf => kernel_rfl); (case hS => (first | exact trivial | assumption | infer_instance | (skip; done))); (case hy => (intro wf hwf; (try dsimp only at hwf); (((apply opv_E); exact rfl)))))
    ((apply (tk 2)); (case hi => exact rfl); (case hf => kernel_rfl); (case hS => (first | exact trivial | assumption | infer_instance | (skip; done))); (case hy => (intro wf hwf; (try dsimp only at hwf); (((apply opv_E); exact rfl)))))
    ((apply (tk 3)); (case hi => exact rfl); (case hf => kernel_rfl); (case hS => (first | exact trivial | assumption | infer_instance | (skip; done))); (case hy => (intro wf hwf; (try dsimp only at hwf); (((apply opv_fieldAddr); exact rfl)))))
    ((apply (tk 5)); (case hi => exact rfl); (case hf => kernel_rfl); (case hS => (first | exact trivial | assumption | infer_instance | (skip; done))); (case hy => (intro wf hwf; (try dsimp only at hwf); (((apply opv_fieldAddr); exact rfl)))))
    ((apply (tk 6)); (case hi => exact rfl); (case hf => kernel_rfl); (case hS => (first | exact trivial | assumption | infer_instance | (skip; done))); (case hy => (intro wf hwf; (try dsimp only at hwf); (((apply opv_loadb1); exact rfl; exact rfl; assumption; exact rfl)))))
    refine vA_only 4 rfl (by kernel_rfl) (by (first | exact trivial | assumption | infer_instance | (skip; done))) (fun K hK => ?_)
    (((apply vL_val); (case h => ((apply opv_loadb1); exact rfl; exact rfl; assumption; exact rfl))); apply vL_nil)
    refine ⟨rfl, hK _ _ ?_⟩
    refine vA_only 7 rfl (by kernel_rfl) (by (first | exact trivial | assumption | infer_instance | (skip; done))) (fun K hK => ?_)
    (apply vL_val; (case h => ((with_reducible apply opv_rem); exact rfl; exact rfl; omega; omega)))
    refine vL_nil ⟨rfl, hK _ _ ?_⟩
    have hmod : 0 ≤ x.broker % c.brokers ∧ x.broker % c.brokers < c.brokers := ⟨Int.emod_nonneg _ (by omega), Int.emod_lt_of_pos _ (by omega)⟩
    ((apply (tk 8)); (case hi => exact rfl); (case hf => kernel_rfl); (case hS => (first | exact trivial | assumption | infer_instance | (skip; done))); (case hy => (intro wf hwf; (try dsimp only at hwf); (((apply opv_add); exact rfl; exact rfl; (first | omega | (simp only [List.length_map]; omega)))))))
    ((apply (tk 9)); (case hi => exact rfl); (case hf => kernel_rfl); (case hS => (first | exact trivial | assumption | infer_instance | (skip; done))); (case hy => (intro wf hwf; (try dsimp only at hwf); (((apply opv_E); exact rfl)))))
    ((apply (tk 10)); (case hi => exact rfl); (case hf => kernel_rfl); (case hS => (first | exact trivial | assumption | infer_instance | (skip; done))); (case hy => (intro wf hwf; (try dsimp only at hwf); (((apply opv_fieldAddr); exact rfl)))))
    refine vA_only 11 rfl (by kernel_rfl) (by (first | exact trivial | assumption | infer_instance | (skip; done))) (fun K hK => ?_)
    (((apply vL_skip); (case h => ((apply ops_store1); exact norm_eq rfl; exact norm_eq rfl; (first | rfl | assumption); assumption; (first | decide | exact of_decide_eq_true rfl | (simp; done))))); apply vL_nil)
    refine ⟨rfl, hK _ _ ?_⟩
    refine vA_done (by kernel_rfl) (by (first | exact trivial | assumption | infer_instance | (skip; done))) ?_
    ((apply seqP_normal; apply vC_seq; apply vC_region))
    refine vL_gen (fun w' => Fr (fun k => k = b) w w' ∧ Blk w'.heap b (wtE { x with broker := x.broker % c.brokers + 1 }) 42 ∧ Blk w'.heap b4 sdZ 48 ∧ Blk w'.heap b5 (sdE ⟨x.broker, r'⟩) 48 ∧ RqOwn w'.heap r') ⟨(hf5.no_any.drew).set _ _ (.inl rfl), Blk.as (Blk.set h5bd) rfl, h5dd.set_ne (blk_ne h5dd h5bd (by decide)), h5ed.set_ne (blk_ne h5ed h5bd (by decide)), (h5r.frN (Fr.refl No w5).drew).frBlk h5bd (by decide) (by decide) (by decide) ((Fr.refl (fun k => k = b) w5.drew).set _ _ (.inl rfl))⟩ ?_
    rintro w6 ⟨hf6, h6b, h6d, h6e, h6r⟩
    (((apply vL_val); (case h => ((apply opv_loadb); exact rfl; exact rfl; assumption; exact rfl))); ((apply vL_skip); (case h => ((apply ops_storen); exact norm_eq rfl; exact norm_eq rfl; exact rfl; exact (fun u hu => EncOk.one _ u (List.mem_of_mem_drop (List.mem_of_mem_take hu))); assumption; (first | decide | exact of_decide_eq_true rfl | (simp; done))))); apply vL_nil; apply seqP_normal; apply vC_ret)
    (apply retC1; (case ha => exact rfl); (case hD => exact rfl); (case hb => exact Blk.set h6d); (case hcs => exact (rfl : _ = sdE ⟨x.broker, r'⟩)); (case hl => exact rfl))
    refine ⟨r', rfl, hnf, h6r.frBlk h6d (by decide) (by decide) (by decide) ((Fr.refl (fun k => k = b4) w6).set _ _ (.inl rfl)), hf6.set _ _ (.inr (by omega)), h6b.set_ne hne4⟩
end Go.Proofs.Ytchfaeaagpemlaa
