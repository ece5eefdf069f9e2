/- Layer 16: programs that are tame. Layer 16: ChansRun: a step of both machines in memory. Layer 16: ChansRun: the walk. Layer 16: ChansClosed: the walk. Opening the arguments of the rows of layer 16. -/
import Derived.Test.YtbaidcnalkdhgaaGreatVq
import Derived.Test.YtbaidcnalkdhgaaGreatEq
import Derived.Test.YtbaidcnalkdhgaaGreatEo
import Derived.Test.YtbaidcnalkdhgaaGreatRows
import Derived.OpenShut
import Derived.ChangeSame
import Derived.Deep.Strs
set_option maxRecDepth 100000
namespace Go.Proofs.YtbaidcnalkdhgaaGreat
open Go Go.Eng
structure Tame (P : List (OV × List Do5)) (sizes : List Int) : Prop where
  six : P.length ≤ 6
  few : 1 ≤ sizes.length ∧ sizes.length ≤ 6
  size : ∀ x ∈ sizes, 0 ≤ x ∧ x ≤ 64
  ch : ∀ y ∈ P, ∀ (d : Do5), d ∈ y.2 → (0 ≤ d.c ∧ d.c < (sizes.length : Int)) ∧ d.k ≠ 5 ∧ d.k ≤ 7
theorem tame16 (w : World) (vp vs : Value) (P : List (OV × List Do5)) (sizes : List Int) (z : Pz16 w.heap vp P) (hs : Rd w.heap 1 iE vs sizes) (hso : vs.oneCell' = true) :
    Rets Tryz.prog 29 #[vp, vs] w fun u w' => Fr No w w' ∧ ∃ b, u = .bool b ∧ (b = true → Tame P sizes) := by
  have hv1 := z.one
  have hPs := z.hP.small
  have hss := hs.small
  obtain ⟨va, vc, rfl⟩ := z.hP.len
  obtain ⟨sa, sc, rfl⟩ := hs.len
  refine rets_of Tryz.func29 rfl Tryz.ntmps29 rfl rfl (by kernel_rfl) ?_
  have bad : ∀ w', Fr No w w' → Fr No w w' ∧ ∃ b, (Value.bool false) = .bool b ∧ (b = true → Tame P sizes) := fun w' hf => ⟨hf, false, rfl, fun h => by cases h⟩
  by_cases h6 : 6 < P.length
  · ((iterate 23 (first | with_reducible apply vC_seq | with_reducible apply vC_region | with_reducible apply seqP_normal | (refine vE rfl ?_) | (refine vL_val (opv_lenc rfl) ?_) | with_reducible apply vL_nil | ((with_reducible apply vL_unwanted'); exact rfl; exact rfl) | (refine vL_or rfl rfl (fun h => by omega) (fun _ => ?_)))); ((apply vC_cond_true); exact rfl); apply vC_seq; apply vC_region; (refine vE rfl ?_); apply vL_nil; apply seqP_normal; apply vC_ret; apply seqP_ret)
    (apply ret1; (case h1 => (exact norm_eq rfl)))
    exact bad _ (by (exact Fr.refl _ _))
  by_cases h1 : sizes.length < 1
  · (apply vC_seq; apply vC_region; (refine vE rfl ?_); apply vL_nil; apply seqP_normal; (iterate 2 (apply vC_seq)); apply vC_region; (iterate 16 (first | (refine vE rfl ?_) | (refine vL_val (opv_lenc rfl) ?_) | ((with_reducible apply vL_wanted); exact rfl) | ((with_reducible apply vL_unwanted'); exact rfl; exact rfl) | (refine vL_or rfl rfl (fun _ => ?_) (fun h => by omega)) | (refine vL_or rfl rfl (fun h => by omega) (fun _ => ?_)))); apply vL_nil; apply seqP_normal; ((apply vC_cond_true); exact rfl); apply vC_seq; apply vC_region; (refine vE rfl ?_); apply vL_nil; apply seqP_normal; apply vC_ret; apply seqP_ret)
    (apply ret1; (case h1 => (exact norm_eq rfl)))
    exact bad _ (by (exact Fr.refl _ _))
  by_cases h7 : 6 < sizes.length
  · ((iterate 29 (first | with_reducible apply vC_seq | with_reducible apply vC_region | with_reducible apply seqP_normal | (refine vE rfl ?_) | (refine vL_val (opv_lenc rfl) ?_) | with_reducible apply vL_nil | ((with_reducible apply vL_wanted); exact rfl) | (refine vL_or rfl rfl (fun _ => ?_) (fun h => by omega)))); (refine vC_cond_dec rfl (fun _ => ?_) (fun h => by omega)); apply vC_seq; apply vC_region; (refine vE rfl ?_); apply vL_nil; apply seqP_normal; apply vC_ret; apply seqP_ret)
    (apply ret1; (case h1 => (exact norm_eq rfl)))
    exact bad _ (by (exact Fr.refl _ _))
  ((iterate 29 (first | with_reducible apply vC_seq | with_reducible apply vC_region | with_reducible apply seqP_normal | (refine vE rfl ?_) | (refine vL_val (opv_lenc rfl) ?_) | with_reducible apply vL_nil | ((with_reducible apply vL_wanted); exact rfl) | (refine vL_or rfl rfl (fun _ => ?_) (fun h => by omega)))); (refine vC_cond_dec rfl (fun h => by omega) (fun _ => ?_)); apply vC_skip; apply seqP_normal; (iterate 2 (apply vC_seq)); apply vC_region; (refine vE rfl ?_); apply vL_nil; apply seqP_normal; apply vC_block)
  (apply vC_loop1 1099507433520 5 (fun u w' => ∃ k : Nat, u = .int .i64 (k : Int) ∧ k ≤ sizes.length ∧ Fr No w w' ∧ ∀ (j : Nat) x, j < k → sizes[j]? = some x → 0 ≤ x ∧ x ≤ 64) (fun u _ => sizes.length - (RowKit.intOf u).toNat)); (case h1 => (exact norm_eq rfl))
  case h0 => exact ⟨0, rfl, Nat.zero_le _, by (exact Fr.refl _ _), fun j x hj => by omega⟩
  case round =>
  rintro junk _ w1 ⟨k, rfl, hk, hf1, ok⟩
  have hs1 := hs.frN hf1
  by_cases hlt : k < sizes.length
  · obtain ⟨x, hx⟩ : ∃ x, sizes[k]? = some x := ⟨_, List.getElem?_eq_getElem hlt⟩
    have hx' : sizes[((k : Nat) : Int).toNat]? = some x := by rw [Int.toNat_natCast]; exact hx
    by_cases g0 : x < 0
    · ((iterate 2 (apply vC_seq)); apply vC_region; (iterate 2 ((refine vE rfl ?_))); (refine vL_val (opv_lenc rfl) ?_); (refine vE rfl ?_); apply vL_nil; apply seqP_normal; (refine vC_cond_dec rfl (fun _ => ?_) (fun h => by omega)); apply vC_skip; apply seqP_normal; apply vC_seq; apply vC_block; apply vC_seq; apply vC_region; (iterate 2 ((refine vE rfl ?_))); ((apply vL_val); (case h => ((apply opv_indexAddr); exact norm_eq rfl; exact rfl; assumption; (first | omega | (simp only [List.length_map]; omega)); (first | omega | (simp only [List.length_map]; omega))))); ((apply vL_val); (case h => ((apply opv_ld_el); exact rfl; exact rfl; assumption; assumption; exact rfl))); (iterate 2 ((refine vE rfl ?_))); (refine vL_or rfl rfl (fun h => by omega) (fun _ => ?_)); (iterate 4 (((apply vL_unwanted'); exact rfl; exact rfl))); (refine vE rfl ?_); apply vL_nil; apply seqP_normal; ((apply vC_cond_true); exact rfl); apply vC_seq; apply vC_region; (refine vE rfl ?_); apply vL_nil; apply seqP_normal; apply vC_ret; apply blockP_ret; apply seqP_ret; apply loopP_ret; apply blockP_ret; apply seqP_ret)
      (apply ret1; (case h1 => (exact norm_eq rfl)))
      exact bad _ hf1
    by_cases g1 : 64 < x
    · ((iterate 2 (apply vC_seq)); apply vC_region; (iterate 2 ((refine vE rfl ?_))); (refine vL_val (opv_lenc rfl) ?_); (refine vE rfl ?_); apply vL_nil; apply seqP_normal; (refine vC_cond_dec rfl (fun _ => ?_) (fun h => by omega)); apply vC_skip; apply seqP_normal; apply vC_seq; apply vC_block; apply vC_seq; apply vC_region; (iterate 17 (first | (refine vE rfl ?_) | ((with_reducible apply vL_val); (case h => ((with_reducible apply opv_indexAddr); exact norm_eq rfl; exact rfl; assumption; (first | omega | (simp only [List.length_map]; omega)); (first | omega | (simp only [List.length_map]; omega))))) | ((with_reducible apply vL_val); (case h => ((with_reducible apply opv_ld_el); exact rfl; exact rfl; assumption; assumption; exact rfl))) | ((with_reducible apply vL_wanted); exact rfl) | (refine vL_or rfl rfl (fun _ => ?_) (fun h => by omega)))); apply vL_nil; apply seqP_normal; (refine vC_cond_dec rfl (fun _ => ?_) (fun h => by omega)); apply vC_seq; apply vC_region; (refine vE rfl ?_); apply vL_nil; apply seqP_normal; apply vC_ret; apply blockP_ret; apply seqP_ret; apply loopP_ret; apply blockP_ret; apply seqP_ret)
      (apply ret1; (case h1 => (exact norm_eq rfl)))
      exact bad _ hf1
    ((iterate 2 (apply vC_seq)); apply vC_region; (iterate 2 ((refine vE rfl ?_))); (refine vL_val (opv_lenc rfl) ?_); (refine vE rfl ?_); apply vL_nil; apply seqP_normal; (refine vC_cond_dec rfl (fun _ => ?_) (fun h => by omega)); apply vC_skip; apply seqP_normal; apply vC_seq; apply vC_block; apply vC_seq; apply vC_region; (iterate 17 (first | (refine vE rfl ?_) | ((with_reducible apply vL_val); (case h => ((with_reducible apply opv_indexAddr); exact norm_eq rfl; exact rfl; assumption; (first | omega | (simp only [List.length_map]; omega)); (first | omega | (simp only [List.length_map]; omega))))) | ((with_reducible apply vL_val); (case h => ((with_reducible apply opv_ld_el); exact rfl; exact rfl; assumption; assumption; exact rfl))) | ((with_reducible apply vL_wanted); exact rfl) | (refine vL_or rfl rfl (fun _ => ?_) (fun h => by omega)))); apply vL_nil; apply seqP_normal; (refine vC_cond_dec rfl (fun h => by omega) (fun _ => ?_)); apply vC_skip; apply blockP_normal; apply seqP_normal; apply vC_region; (refine vE rfl ?_); ((apply vL_val); (case h => ((apply opv_add); exact rfl; exact rfl; (first | omega | (simp only [List.length_map]; omega))))); (refine vE rfl ?_); apply vL_nil; apply loopP_normal)
    (with_reducible apply end1); (case hs => ((iterate 21 (first | ((with_reducible refine same_updO ?_ ?_); rotate_left; exact rfl) | ((with_reducible refine same_upd ?_ ?_); rotate_left; exact rfl))); (exact same_mask _ _ _))); (case h1 => (exact norm_eq rfl))
    · refine ⟨k + 1, rfl, by omega, hf1, fun j y hj hy => ?_⟩
      by_cases e : j = k
      · subst e; rw [hx] at hy; cases hy; omega
      · exact ok j y (by omega) hy
    · simp [RowKit.intOf]; omega
  have hall : ∀ x ∈ sizes, 0 ≤ x ∧ x ≤ 64 := fun x hx => by
    obtain ⟨j, hj, e⟩ := List.getElem_of_mem hx
    exact ok j x (by omega) (by rw [List.getElem?_eq_getElem hj, e])
  clear ok hs1
  ((iterate 2 (apply vC_seq)); apply vC_region; (iterate 2 ((refine vE rfl ?_))); (refine vL_val (opv_lenc rfl) ?_); (refine vE rfl ?_); apply vL_nil; apply seqP_normal; (refine vC_cond_dec rfl (fun h => by omega) (fun _ => ?_)); apply vC_exit; apply seqP_exit; apply loopP_exit; apply blockP_exit; apply seqP_normal; (iterate 2 (apply vC_seq)); apply vC_region; (refine vE rfl ?_); apply vL_nil; apply seqP_normal; apply vC_block)
  (apply vC_loop1 4835703278457417187197392 6 (fun u w' => ∃ k : Nat, u = .int .i64 (k : Int) ∧ k ≤ P.length ∧ Fr No w w' ∧ ∀ (j : Nat) y, j < k → P[j]? = some y → ∀ (d : Do5), d ∈ y.2 → (0 ≤ d.c ∧ d.c < (sizes.length : Int)) ∧ d.k ≠ 5 ∧ d.k ≤ 7) (fun u _ => P.length - (RowKit.intOf u).toNat)); (case h1 => (exact norm_eq rfl))
  case h0 => exact ⟨0, rfl, Nat.zero_le _, hf1, fun j x hj => by omega⟩
  clear hf1
  case round =>
  rintro junk2 _ w2 ⟨m, rfl, hm, hf2, okp⟩
  by_cases hltm : m < P.length
  · obtain ⟨y, hy⟩ : ∃ y, P[m]? = some y := ⟨_, List.getElem?_eq_getElem hltm⟩
    have hy' : P[((m : Nat) : Int).toNat]? = some y := by rw [Int.toNat_natCast]; exact hy
    have hyone := y.1.2
    ((iterate 2 (apply vC_seq)); apply vC_region; (iterate 2 ((refine vE rfl ?_))); (refine vL_val (opv_lenc rfl) ?_); (refine vE rfl ?_); apply vL_nil; apply seqP_normal; (refine vC_cond_dec rfl (fun _ => ?_) (fun h => by omega)); apply vC_skip; apply seqP_normal; apply vC_seq; apply vC_block; apply vC_seq; apply vC_region; (refine vE rfl ?_); apply vL_nil; apply seqP_normal; apply vC_block)
    (apply vC_loop1 4835703278388147954647440 7 (fun u w' => ∃ k : Nat, u = .int .i64 (k : Int) ∧ k ≤ y.2.length ∧ Fr No w w' ∧ ∀ (j : Nat) d, j < k → y.2[j]? = some d → (0 ≤ d.c ∧ d.c < (sizes.length : Int)) ∧ d.k ≠ 5 ∧ d.k ≤ 7) (fun u _ => y.2.length - (RowKit.intOf u).toNat)); (case h1 => (exact norm_eq rfl))
    case h0 => exact ⟨0, rfl, Nat.zero_le _, hf2, fun j x hj => by omega⟩
    clear hf2
    case round =>
    rintro junk3 _ w3 ⟨q, rfl, hq, hf3, okd⟩
    have hP3 := z.hP.frN hf3
    have hPi3 := (z.hPi y (List.mem_of_getElem? hy)).frN hf3
    have hys := hPi3.small
    by_cases hltq : q < y.2.length
    · obtain ⟨d, hd⟩ : ∃ d, y.2[q]? = some d := ⟨_, List.getElem?_eq_getElem hltq⟩
      have hd' : y.2[((q : Nat) : Int).toNat]? = some d := by rw [Int.toNat_natCast]; exact hd
      have hdone := d.cs.2
      by_cases g0 : d.c < 0
      · ((iterate 2 (apply vC_seq)); apply vC_region; (iterate 3 ((refine vE rfl ?_))); ((apply vL_val); (case h => ((apply opv_indexAddr); exact norm_eq rfl; exact rfl; assumption; (first | omega | (simp only [List.length_map]; omega)); (first | omega | (simp only [List.length_map]; omega))))); ((apply vL_val); (case h => ((apply opv_ld_el); exact rfl; exact rfl; assumption; assumption; exact rfl))); ((apply vL_val); (case h => ((apply opv_len); ((conv => lhs; whnf) <;> exact rfl); assumption))); (refine vE rfl ?_); apply vL_nil; apply seqP_normal; (refine vC_cond_dec rfl (fun _ => ?_) (fun h => by omega)); apply vC_skip; apply seqP_normal; apply vC_seq; apply vC_block; apply vC_seq; apply vC_region; (iterate 2 ((refine vE rfl ?_))); ((apply vL_val); (case h => ((apply opv_indexAddr); exact norm_eq rfl; exact rfl; assumption; (first | omega | (simp only [List.length_map]; omega)); (first | omega | (simp only [List.length_map]; omega))))); ((apply vL_val); (case h => ((apply opv_ld_el); exact rfl; exact rfl; assumption; assumption; exact rfl))); (refine vE rfl ?_); ((apply vL_val); (case h => ((apply opv_indexAddr); ((conv => lhs; whnf) <;> exact rfl); exact rfl; assumption; (first | omega | (simp only [List.length_map]; omega)); (first | omega | (simp only [List.length_map]; omega))))); ((apply vL_val); (case h => ((apply opv_ld_eln); exact rfl; exact rfl; assumption; assumption))); ((apply vL_val); (case h => (apply opw_alloc))); ((apply vL_skip); (case h => ((apply ops_storen); exact norm_eq rfl; exact norm_eq rfl; exact rfl; exact (fun u hu => EncOk.one _ u hu); infer_instance; (first | decide | exact of_decide_eq_true rfl | (simp; done))))); apply vL_nil; apply seqP_normal; apply vC_seq; apply vC_region; (refine vL_val (opv_fieldAddr rfl) ?_); ((apply vL_val); (case h => ((apply opv_loadb1); exact rfl; exact rfl; infer_instance; exact rfl))); (iterate 18 (first | (refine vE rfl ?_) | ((with_reducible apply vL_unwanted'); exact rfl; exact rfl) | (refine vL_or rfl rfl (fun h => by omega) (fun _ => ?_)))); apply vL_nil; apply seqP_normal; ((apply vC_cond_true); exact rfl); apply vC_seq; apply vC_region; (refine vE rfl ?_); apply vL_nil; apply seqP_normal; apply vC_ret; (iterate 9 (first | with_reducible apply seqP_ret | with_reducible apply blockP_ret | with_reducible apply loopP_ret)))
        (apply ret1; (case h1 => (exact norm_eq rfl)))
        exact bad _ (hf3.trans (by (apply Fr.allocSet; exact Fr.refl _ _)))
      by_cases g1 : (sizes.length : Int) ≤ d.c
      · ((iterate 2 (apply vC_seq)); apply vC_region; (iterate 3 ((refine vE rfl ?_))); ((apply vL_val); (case h => ((apply opv_indexAddr); exact norm_eq rfl; exact rfl; assumption; (first | omega | (simp only [List.length_map]; omega)); (first | omega | (simp only [List.length_map]; omega))))); ((apply vL_val); (case h => ((apply opv_ld_el); exact rfl; exact rfl; assumption; assumption; exact rfl))); ((apply vL_val); (case h => ((apply opv_len); ((conv => lhs; whnf) <;> exact rfl); assumption))); (refine vE rfl ?_); apply vL_nil; apply seqP_normal; (refine vC_cond_dec rfl (fun _ => ?_) (fun h => by omega)); apply vC_skip; apply seqP_normal; apply vC_seq; apply vC_block; apply vC_seq; apply vC_region; (iterate 2 ((refine vE rfl ?_))); ((apply vL_val); (case h => ((apply opv_indexAddr); exact norm_eq rfl; exact rfl; assumption; (first | omega | (simp only [List.length_map]; omega)); (first | omega | (simp only [List.length_map]; omega))))); ((apply vL_val); (case h => ((apply opv_ld_el); exact rfl; exact rfl; assumption; assumption; exact rfl))); (refine vE rfl ?_); ((apply vL_val); (case h => ((apply opv_indexAddr); ((conv => lhs; whnf) <;> exact rfl); exact rfl; assumption; (first | omega | (simp only [List.length_map]; omega)); (first | omega | (simp only [List.length_map]; omega))))); ((apply vL_val); (case h => ((apply opv_ld_eln); exact rfl; exact rfl; assumption; assumption))); ((apply vL_val); (case h => (apply opw_alloc))); ((apply vL_skip); (case h => ((apply ops_storen); exact norm_eq rfl; exact norm_eq rfl; exact rfl; exact (fun u hu => EncOk.one _ u hu); infer_instance; (first | decide | exact of_decide_eq_true rfl | (simp; done))))); apply vL_nil; apply seqP_normal; apply vC_seq; apply vC_region; (iterate 25 (first | (refine vE rfl ?_) | ((with_reducible apply vL_val); (case h => ((with_reducible apply opv_loadb1); exact rfl; exact rfl; infer_instance; exact rfl))) | (refine vL_val (opv_fieldAddr rfl) ?_) | (refine vL_val (opv_lenc rfl) ?_) | ((with_reducible apply vL_wanted); exact rfl) | ((with_reducible apply vL_unwanted'); exact rfl; exact rfl) | (refine vL_or rfl rfl (fun _ => ?_) (fun h => by omega)) | (refine vL_or rfl rfl (fun h => by omega) (fun _ => ?_)))); apply vL_nil; apply seqP_normal; ((apply vC_cond_true); exact rfl); apply vC_seq; apply vC_region; (refine vE rfl ?_); apply vL_nil; apply seqP_normal; apply vC_ret; (iterate 9 (first | with_reducible apply seqP_ret | with_reducible apply blockP_ret | with_reducible apply loopP_ret)))
        (apply ret1; (case h1 => (exact norm_eq rfl)))
        exact bad _ (hf3.trans (by (apply Fr.allocSet; exact Fr.refl _ _)))
      by_cases g2 : d.k = 5
      · ((iterate 2 (apply vC_seq)); apply vC_region; (iterate 3 ((refine vE rfl ?_))); ((apply vL_val); (case h => ((apply opv_indexAddr); exact norm_eq rfl; exact rfl; assumption; (first | omega | (simp only [List.length_map]; omega)); (first | omega | (simp only [List.length_map]; omega))))); ((apply vL_val); (case h => ((apply opv_ld_el); exact rfl; exact rfl; assumption; assumption; exact rfl))); ((apply vL_val); (case h => ((apply opv_len); ((conv => lhs; whnf) <;> exact rfl); assumption))); (refine vE rfl ?_); apply vL_nil; apply seqP_normal; (refine vC_cond_dec rfl (fun _ => ?_) (fun h => by omega)); apply vC_skip; apply seqP_normal; apply vC_seq; apply vC_block; apply vC_seq; apply vC_region; (iterate 2 ((refine vE rfl ?_))); ((apply vL_val); (case h => ((apply opv_indexAddr); exact norm_eq rfl; exact rfl; assumption; (first | omega | (simp only [List.length_map]; omega)); (first | omega | (simp only [List.length_map]; omega))))); ((apply vL_val); (case h => ((apply opv_ld_el); exact rfl; exact rfl; assumption; assumption; exact rfl))); (refine vE rfl ?_); ((apply vL_val); (case h => ((apply opv_indexAddr); ((conv => lhs; whnf) <;> exact rfl); exact rfl; assumption; (first | omega | (simp only [List.length_map]; omega)); (first | omega | (simp only [List.length_map]; omega))))); ((apply vL_val); (case h => ((apply opv_ld_eln); exact rfl; exact rfl; assumption; assumption))); ((apply vL_val); (case h => (apply opw_alloc))); ((apply vL_skip); (case h => ((apply ops_storen); exact norm_eq rfl; exact norm_eq rfl; exact rfl; exact (fun u hu => EncOk.one _ u hu); infer_instance; (first | decide | exact of_decide_eq_true rfl | (simp; done))))); apply vL_nil; apply seqP_normal; apply vC_seq; apply vC_region; (iterate 28 (first | (refine vE rfl ?_) | ((with_reducible apply vL_val); (case h => ((with_reducible apply opv_loadb1); exact rfl; exact rfl; infer_instance; exact rfl))) | (refine vL_val (opv_fieldAddr rfl) ?_) | (refine vL_val (opv_lenc rfl) ?_) | ((with_reducible apply vL_wanted); exact rfl) | ((with_reducible apply vL_unwanted'); exact rfl; exact rfl) | (refine vL_or rfl rfl (fun _ => ?_) (fun h => by omega)) | (refine vL_or rfl rfl (fun h => by omega) (fun _ => ?_)))); apply vL_nil; apply seqP_normal; ((apply vC_cond_true); exact rfl); apply vC_seq; apply vC_region; (refine vE rfl ?_); apply vL_nil; apply seqP_normal; apply vC_ret; (iterate 9 (first | with_reducible apply seqP_ret | with_reducible apply blockP_ret | with_reducible apply loopP_ret)))
        (apply ret1; (case h1 => (exact norm_eq rfl)))
        exact bad _ (hf3.trans (by (apply Fr.allocSet; exact Fr.refl _ _)))
      by_cases g3 : 7 < d.k
      · ((iterate 2 (apply vC_seq)); apply vC_region; (iterate 3 ((refine vE rfl ?_))); ((apply vL_val); (case h => ((apply opv_indexAddr); exact norm_eq rfl; exact rfl; assumption; (first | omega | (simp only [List.length_map]; omega)); (first | omega | (simp only [List.length_map]; omega))))); ((apply vL_val); (case h => ((apply opv_ld_el); exact rfl; exact rfl; assumption; assumption; exact rfl))); ((apply vL_val); (case h => ((apply opv_len); ((conv => lhs; whnf) <;> exact rfl); assumption))); (refine vE rfl ?_); apply vL_nil; apply seqP_normal; (refine vC_cond_dec rfl (fun _ => ?_) (fun h => by omega)); apply vC_skip; apply seqP_normal; apply vC_seq; apply vC_block; apply vC_seq; apply vC_region; (iterate 2 ((refine vE rfl ?_))); ((apply vL_val); (case h => ((apply opv_indexAddr); exact norm_eq rfl; exact rfl; assumption; (first | omega | (simp only [List.length_map]; omega)); (first | omega | (simp only [List.length_map]; omega))))); ((apply vL_val); (case h => ((apply opv_ld_el); exact rfl; exact rfl; assumption; assumption; exact rfl))); (refine vE rfl ?_); ((apply vL_val); (case h => ((apply opv_indexAddr); ((conv => lhs; whnf) <;> exact rfl); exact rfl; assumption; (first | omega | (simp only [List.length_map]; omega)); (first | omega | (simp only [List.length_map]; omega))))); ((apply vL_val); (case h => ((apply opv_ld_eln); exact rfl; exact rfl; assumption; assumption))); ((apply vL_val); (case h => (apply opw_alloc))); ((apply vL_skip); (case h => ((apply ops_storen); exact norm_eq rfl; exact norm_eq rfl; exact rfl; exact (fun u hu => EncOk.one _ u hu); infer_instance; (first | decide | exact of_decide_eq_true rfl | (simp; done))))); apply vL_nil; apply seqP_normal; apply vC_seq; apply vC_region; (iterate 31 (first | (refine vE rfl ?_) | ((with_reducible apply vL_val); (case h => ((with_reducible apply opv_loadb1); exact rfl; exact rfl; infer_instance; exact rfl))) | (refine vL_val (opv_fieldAddr rfl) ?_) | (refine vL_val (opv_lenc rfl) ?_) | ((with_reducible apply vL_wanted); exact rfl) | (refine vL_or rfl rfl (fun _ => ?_) (fun h => by omega)))); apply vL_nil; apply seqP_normal; (refine vC_cond_dec rfl (fun _ => ?_) (fun h => by omega)); apply vC_seq; apply vC_region; (refine vE rfl ?_); apply vL_nil; apply seqP_normal; apply vC_ret; (iterate 9 (first | with_reducible apply seqP_ret | with_reducible apply blockP_ret | with_reducible apply loopP_ret)))
        (apply ret1; (case h1 => (exact norm_eq rfl)))
        exact bad _ (hf3.trans (by (apply Fr.allocSet; exact Fr.refl _ _)))
      ((iterate 2 (apply vC_seq)); apply vC_region; (iterate 3 ((refine vE rfl ?_))); ((apply vL_val); (case h => ((apply opv_indexAddr); exact norm_eq rfl; exact rfl; assumption; (first | omega | (simp only [List.length_map]; omega)); (first | omega | (simp only [List.length_map]; omega))))); ((apply vL_val); (case h => ((apply opv_ld_el); exact rfl; exact rfl; assumption; assumption; exact rfl))); ((apply vL_val); (case h => ((apply opv_len); ((conv => lhs; whnf) <;> exact rfl); assumption))); (refine vE rfl ?_); apply vL_nil; apply seqP_normal; (refine vC_cond_dec rfl (fun _ => ?_) (fun h => by omega)); apply vC_skip; apply seqP_normal; apply vC_seq; apply vC_block; apply vC_seq; apply vC_region; (iterate 2 ((refine vE rfl ?_))); ((apply vL_val); (case h => ((apply opv_indexAddr); exact norm_eq rfl; exact rfl; assumption; (first | omega | (simp only [List.length_map]; omega)); (first | omega | (simp only [List.length_map]; omega))))); ((apply vL_val); (case h => ((apply opv_ld_el); exact rfl; exact rfl; assumption; assumption; exact rfl))); (refine vE rfl ?_); ((apply vL_val); (case h => ((apply opv_indexAddr); ((conv => lhs; whnf) <;> exact rfl); exact rfl; assumption; (first | omega | (simp only [List.length_map]; omega)); (first | omega | (simp only [List.length_map]; omega))))); ((apply vL_val); (case h => ((apply opv_ld_eln); exact rfl; exact rfl; assumption; assumption))); ((apply vL_val); (case h => (apply opw_alloc))); ((apply vL_skip); (case h => ((apply ops_storen); exact norm_eq rfl; exact norm_eq rfl; exact rfl; exact (fun u hu => EncOk.one _ u hu); infer_instance; (first | decide | exact of_decide_eq_true rfl | (simp; done))))); apply vL_nil; apply seqP_normal; apply vC_seq; apply vC_region; (iterate 31 (first | (refine vE rfl ?_) | ((with_reducible apply vL_val); (case h => ((with_reducible apply opv_loadb1); exact rfl; exact rfl; infer_instance; exact rfl))) | (refine vL_val (opv_fieldAddr rfl) ?_) | (refine vL_val (opv_lenc rfl) ?_) | ((with_reducible apply vL_wanted); exact rfl) | (refine vL_or rfl rfl (fun _ => ?_) (fun h => by omega)))); apply vL_nil; apply seqP_normal; (refine vC_cond_dec rfl (fun h => by omega) (fun _ => ?_)); apply vC_skip; apply blockP_normal; apply seqP_normal; apply vC_region; (refine vE rfl ?_); ((apply vL_val); (case h => ((apply opv_add); exact rfl; exact rfl; (first | omega | (simp only [List.length_map]; omega))))); (refine vE rfl ?_); apply vL_nil; apply loopP_normal)
      (with_reducible apply end1); (case hs => ((iterate 43 (first | with_reducible apply same_updN | ((with_reducible refine same_updO ?_ ?_); rotate_left; exact rfl) | ((with_reducible refine same_upd ?_ ?_); rotate_left; exact rfl))); (exact same_mask _ _ _))); (case h1 => (exact norm_eq rfl))
      · refine ⟨q + 1, rfl, by omega, hf3.trans (by (apply Fr.allocSet; exact Fr.refl _ _)), fun j x hj hx => ?_⟩
        by_cases e : j = q
        · subst e; rw [hd] at hx; cases hx; exact ⟨⟨by omega, by omega⟩, g2, by omega⟩
        · exact okd j x (by omega) hx
      · simp [RowKit.intOf]; omega
    · ((iterate 2 (apply vC_seq)); apply vC_region; (iterate 3 ((refine vE rfl ?_))); ((apply vL_val); (case h => ((apply opv_indexAddr); exact norm_eq rfl; exact rfl; assumption; (first | omega | (simp only [List.length_map]; omega)); (first | omega | (simp only [List.length_map]; omega))))); ((apply vL_val); (case h => ((apply opv_ld_el); exact rfl; exact rfl; assumption; assumption; exact rfl))); ((apply vL_val); (case h => ((apply opv_len); ((conv => lhs; whnf) <;> exact rfl); assumption))); (refine vE rfl ?_); apply vL_nil; apply seqP_normal; (refine vC_cond_dec rfl (fun h => by omega) (fun _ => ?_)); apply vC_exit; apply seqP_exit; apply loopP_exit; apply blockP_exit; apply blockP_normal; apply seqP_normal; apply vC_region; (refine vE rfl ?_); ((apply vL_val); (case h => ((apply opv_add); exact rfl; exact rfl; (first | omega | (simp only [List.length_map]; omega))))); (refine vE rfl ?_); apply vL_nil; apply loopP_normal)
      (with_reducible apply end1); (case hs => ((iterate 18 (first | ((with_reducible refine same_updO ?_ ?_); rotate_left; exact rfl) | ((with_reducible refine same_upd ?_ ?_); rotate_left; exact rfl) | ((with_reducible refine same_maskIn ?_ ?_); rotate_left; exact rfl))); (exact same_mask _ _ _))); (case h1 => (exact norm_eq rfl))
      · refine ⟨m + 1, rfl, by omega, hf3, fun j x hj hx d hd => ?_⟩
        by_cases e : j = m
        · subst e
          rw [hy] at hx; cases hx
          obtain ⟨i, hi, e⟩ := List.getElem_of_mem hd
          exact okd i d (by omega) (by rw [List.getElem?_eq_getElem hi, e])
        · exact okp j x (by omega) hx d hd
      · simp [RowKit.intOf]; omega
  · ((iterate 2 (apply vC_seq)); apply vC_region; (iterate 2 ((refine vE rfl ?_))); (refine vL_val (opv_lenc rfl) ?_); (refine vE rfl ?_); apply vL_nil; apply seqP_normal; (refine vC_cond_dec rfl (fun h => by omega) (fun _ => ?_)); apply vC_exit; apply seqP_exit; apply loopP_exit; apply blockP_exit; apply seqP_normal; apply vC_seq; apply vC_region; (refine vE rfl ?_); apply vL_nil; apply seqP_normal; apply vC_ret)
    (apply ret1; (case h1 => (exact norm_eq rfl)))
    refine ⟨hf2, true, rfl, fun _ => ⟨by omega, ⟨by omega, by omega⟩, hall, fun y hy d hd => ?_⟩⟩
    obtain ⟨i, hi, e⟩ := List.getElem_of_mem hy
    exact okp i y (by omega) (by rw [List.getElem?_eq_getElem hi, e]) d hd
end Go.Proofs.YtbaidcnalkdhgaaGreat
set_option maxRecDepth 100000
namespace Go.Proofs.YtbaidcnalkdhgaaGreat
open Go Go.Eng
def stepB {σ : Type} (o : Option σ) (s : σ) : Bool × σ := match o with
  | none => (false, s)
  | some t => (true, t)
section
variable {w w0 : World} {F0 : Nat → Prop} {R : Asr} {wb rb qb : Nat} {vp : Value} {cl : List (Nat × Int)} {tl : List Nat} {T : T16} {D : MW}
theorem w16_pinv [Lcl R] (S : At (W16 wb rb vp cl tl T * R) w0 F0 w) : PInv T.1 := by
  obtain ⟨kb, S1⟩ := w16_open S
  obtain ⟨q, hp, _⟩ := pw_open S1
  exact hp.pinv
theorem w16_stepB [Lcl R] {P : List (OV × List Do5)} (p : Pr16 w0 vp P cl) (S : At (W16 wb rb vp cl tl T * R) w0 No w) (I : Inv16 (P.map (·.2)) cl tl T) (hev : T.2.length ≤ 100000) (k : Int) (hk : 0 ≤ k ∧ k ≤ 18446744073709551615) :
    Rets Tryz.prog 24 #[pt rb, .int .u64 k] w fun u w' => u = .bool (stepB (step16 (P.map (·.2)) T k) T).1 ∧ Inv16 (P.map (·.2)) cl tl (stepB (step16 (P.map (·.2)) T k) T).2 ∧ (stepB (step16 (P.map (·.2)) T k) T).2.2.length ≤ T.2.length + 1 ∧ At (W16 wb rb vp cl tl (stepB (step16 (P.map (·.2)) T k) T).2 * R) w0 No w' :=
  (w16_step p S I hev k hk).mono fun u w' h => by
    rcases h with ⟨h1, h2, h3⟩ | ⟨T', h1, h2, h3, h4, h5⟩
    · rw [h1]; exact ⟨h2, I, Nat.le_succ _, h3⟩
    · rw [h1]; exact ⟨h4, h2, Nat.le_of_eq h3, h5⟩
theorem g_stepB [Lcl R] {P : List (OV × List Do5)} {C : Do5 → List Cs} (z : Pz16 w0.heap vp P) (g : GSt P C w0 D) (S1 : At (GwA qb vp D * R) w0 No w) (p : Int) (hp : 0 ≤ p ∧ p ≤ 18446744073709551615) :
    Rets Tryz.prog 49 #[pt qb, .int .u64 p] w fun u w' => u = .bool (stepB (MW.step (P.map (·.2)) C D p) D).1 ∧ At (GwA qb vp (stepB (MW.step (P.map (·.2)) C D p) D).2 * R) w0 No w' :=
  (g_step z g S1 p hp).mono fun u w' h => by
    rcases h with ⟨h1, h2, h3⟩ | ⟨T', h1, h2, h3⟩
    · rw [h1]; exact ⟨h2, h3⟩
    · rw [h1]; exact ⟨h2, h3⟩
theorem sim_stepB {P : List (List Do5)} {C : Do5 → List Cs} (h : Sim T.1 D) (p : PInv T.1) (I : Inv16 P cl tl T) (hD : DInv D) (hev : D.ev = T.2) (hP : ∀ y ∈ P, ∀ (d : Do5), d ∈ y → 0 ≤ d.c ∧ d.c < (cl.length : Int)) (hk : ∀ y ∈ P, ∀ (d : Do5), d ∈ y → d.k ≠ 5 ∧ d.k ≤ 7) (hc : 0 < cl.length) (k : Int) (hp0 : 0 ≤ k ∧ k ≤ 18446744073709551615) :
    (stepB (step16 P T k) T).1 = (stepB (MW.step P C D k) D).1 ∧ Sim (stepB (step16 P T k) T).2.1 (stepB (MW.step P C D k) D).2 ∧ DInv (stepB (MW.step P C D k) D).2 ∧ (stepB (MW.step P C D k) D).2.ev = (stepB (step16 P T k) T).2.2 := by
  rcases sim_step (C := C) h p I hev hP hk hc k hp0.1 with ⟨h1, h2⟩ | ⟨T', D', h1, h2, h3, h4⟩
  · rw [h1, h2]; exact ⟨rfl, h, hD, hev⟩
  · rw [h1, h2]; exact ⟨rfl, h3, (dinv_step hD hp0 h2).1, h4⟩
theorem w16_ready [Lcl R] (S : At (W16 wb rb vp cl tl T * R) w0 F0 w) : Rets Tryz.prog 51 #[pt rb] w fun u w' => Fr No w w' ∧ Own w'.heap 3 1 iE u T.1.line := by
  obtain ⟨kb, S1⟩ := w16_open S
  obtain ⟨q, hp, S2⟩ := pw_open S1
  have hl := hp.line_len
  obtain ⟨F, sb, qb, lv, tv, s, up⟩ := S2.rt
  exact (r_ready s (by omega)).mono fun u w' ⟨hf, ho, hn, h1⟩ => ⟨hf, ho⟩
theorem same16' {κ : Type} {L : LawP κ} {nowi : Option Nat} {kb : List Bx} {S : PS κ} {rest : Int} {j : Nat} {d : C16} [Lcl R] (S1 : At (PWA L rb nowi rest kb S * R) w0 F0 w) (hd : S.cs[j]? = some d) {ba sa ra : Option Addr} {bn sn rn bc sc rc : Nat} {size : Int} {closed : Bool} (h1 : size = d.size) (h2 : bn = d.buf.length) (h3 : sn = d.snd.length) (h4 : rn = d.rcv.length) (h5 : closed = d.closed) :
    Rets Tryz.prog 63 #[pt d.cb, .agg #[.int .i64 size, .slice ba bn bc, .slice sa sn sc, .slice ra rn rc, .bool closed]] w fun u w' => u = .bool true ∧ At (PWA L rb nowi rest kb S * R) w0 F0 w' := by
  subst h1; subst h2; subst h3; subst h4; subst h5
  exact same16 S1 hd
end
end Go.Proofs.YtbaidcnalkdhgaaGreat
set_option maxRecDepth 100000
namespace Go.Proofs.YtbaidcnalkdhgaaGreat
open Go Go.Eng
set_option maxHeartbeats 4000000 in
theorem run16 (w : World) (vp vs vk : Value) (P : List (OV × List Do5)) (sizes picks : List Int) (z : Pz16 w.heap vp P) (hs : Rd w.heap 1 iE vs sizes) (hso : vs.oneCell' = true) (hk : Rd w.heap 1 uE vk picks) (hkb : ∀ x ∈ picks, 0 ≤ x ∧ x ≤ 18446744073709551615) (hko : vk.oneCell' = true) :
    Rets Tryz.prog 10 #[vp, vs, vk] w fun u w' => u = .bool true ∧ Fr No w w' := by
  have hv1 := z.one
  have hks := hk.small
  obtain ⟨ka, kc, rfl⟩ := hk.len
  refine rets_of Tryz.func10 rfl Tryz.ntmps10 rfl rfl (by kernel_rfl) ?_
  (apply vC_seq; apply vC_region; (refine vE rfl ?_); apply vL_nil; apply seqP_normal; (iterate 2 (apply vC_seq)); apply vC_region; (iterate 2 (((apply vL_val); (case h => ((apply opv_move); ((conv => lhs; whnf) <;> exact rfl)))))))
  refine vL_callF rfl (tame16 _ vp _ P sizes z hs hso) rfl ?_
  rintro _ w1 ⟨hf1, b, rfl, hb⟩
  cases b with
  | false =>
    ((refine vL_val (opv_not rfl) ?_); apply vL_nil; apply seqP_normal; ((apply vC_cond_true); exact rfl); apply vC_seq; apply vC_region)
    refine vL_callF rfl (awake16 _) rfl ?_
    rintro _ w2 ⟨rfl, hf2⟩
    ((refine vE rfl ?_); apply vL_nil; apply seqP_normal; apply vC_ret; apply seqP_ret)
    (apply ret1; (case h1 => (exact norm_eq rfl)))
    exact ⟨rfl, hf1.trans hf2⟩
  | true =>
  have ht := hb rfl
  clear hb
  ((refine vL_val (opv_not rfl) ?_); apply vL_nil; apply seqP_normal; ((apply vC_cond_false); exact rfl); apply vC_skip; apply seqP_normal; apply vC_seq; apply vC_region; (iterate 2 (((apply vL_val); (case h => ((apply opv_move); ((conv => lhs; whnf) <;> exact rfl)))))))
  refine vL_callF rfl (begun16 (P := P) (sizes := sizes) (z.frN hf1) ht.six (hs.frN hf1) ht.few.2 ht.size hso) rfl ?_
  rintro _ w3 ⟨wb, qb, rb, cl, tl, kb, rfl, hcl, htl, S3⟩
  have hcll : cl.length = sizes.length := by rw [← hcl, List.length_map]
  have pr : Pr16 w1 vp P cl := ⟨z.frN hf1, ht.six, fun y hy d hd => by rw [hcll]; exact (ht.ch y hy d hd).1, by have := ht.few.1; omega⟩
  have I0 : Inv16 (P.map (·.2)) cl tl (ps0 cl tl, []) := inv16_init (by rw [List.length_map]; exact htl)
  obtain ⟨hsim0, hD0⟩ := sim_init (tl := tl) hcl
  have S4 : At (W16 wb rb vp cl tl (ps0 cl tl, []) * GwA qb vp (rwI (sizes.map row0) tl.length).m) w1 No w3 := by
    rw [← htl] at S3
    have h1 := w16_shut (T := (ps0 cl tl, [])) S3
    have h2 := rwa_gwa (R := W16 wb rb vp cl tl (ps0 cl tl, [])) (h1.ac (star_comm _ _))
    exact h2.ac (star_comm _ _)
  have he0 : (rwI (sizes.map row0) tl.length).m.ev = ([] : List Ev5) := rfl
  clear S3
  have hPk : ∀ y ∈ P.map (·.2), ∀ (d : Do5), d ∈ y → d.k ≠ 5 ∧ d.k ≤ 7 := fun y hy d hd => by
    obtain ⟨y', hy', rfl⟩ := List.mem_map.1 hy
    exact (ht.ch y' hy' d hd).2
  have hPc : ∀ y ∈ P.map (·.2), ∀ (d : Do5), d ∈ y → 0 ≤ d.c ∧ d.c < (cl.length : Int) := fun y hy d hd => by
    obtain ⟨y', hy', rfl⟩ := List.mem_map.1 hy
    exact pr.ch y' hy' d hd
  generalize (rwI (sizes.map row0) tl.length).m = D0 at *
  ((iterate 23 (first | with_reducible apply vC_seq | with_reducible apply vC_region | with_reducible apply seqP_normal | with_reducible apply vC_skip | ((with_reducible apply vC_cond_false); exact rfl) | (refine vE rfl ?_) | ((with_reducible apply vL_val); (case h => ((with_reducible apply opv_eql_pnil); exact rfl; exact rfl; (simp; done)))) | with_reducible apply vL_nil)); apply vC_block)
  (apply vC_loop1 19807040628566084398369211968 9 (fun u w' => ∃ (k : Nat) (T : T16) (D : MW), u = .int .i64 (k : Int) ∧ k ≤ picks.length ∧ k ≤ 300 ∧ T.2.length ≤ k ∧ Inv16 (P.map (·.2)) cl tl T ∧ Sim T.1 D ∧ DInv D ∧ D.ev = T.2 ∧ At (W16 wb rb vp cl tl T * GwA qb vp D) w1 No w') (fun u _ => picks.length - (RowKit.intOf u).toNat)); (case h1 => (exact norm_eq rfl))
  case h0 => exact ⟨0, _, _, rfl, Nat.zero_le _, by decide, Nat.le_refl _, I0, hsim0, hD0, he0, S4⟩
  clear S4 I0 hsim0 hD0 he0
  case round =>
  rintro junk _ w4 ⟨k, T, D, rfl, hkl, hk300, hT, I, hsim, hD, hev, S5⟩
  obtain ⟨cv, tv, ev, h51, h52, h53, h54, h55, h56, h57⟩ := w16_see S5
  have hk5 := hk.frN (hf1.trans S5.fr)
  have hpi := w16_pinv S5
  by_cases hlt : k < picks.length ∧ k < 300
  · obtain ⟨g0, g1⟩ := hlt
    obtain ⟨p, hp⟩ : ∃ p, picks[k]? = some p := ⟨_, List.getElem?_eq_getElem g0⟩
    have hp' : picks[((k : Nat) : Int).toNat]? = some p := by rw [Int.toNat_natCast]; exact hp
    have hpb := hkb p (List.mem_of_getElem? hp)
    have gst := sim_gst (w0 := w1) hsim hpi I hD hev (by omega) pr.six pr.ch (fun y hy d hd => (ht.ch y hy d hd).2) pr.pos
    obtain ⟨eb, hsim', hD', hev'⟩ := sim_stepB (C := fun _ => []) hsim hpi I hD hev hPc hPk pr.pos p hpb
    ((iterate 2 (apply vC_seq)); apply vC_region; (iterate 10 (first | (refine vE rfl ?_) | (refine vL_val (opv_lenc rfl) ?_) | ((with_reducible apply vL_wanted); exact rfl) | (refine vL_and rfl rfl (fun _ => ?_) (fun h => by omega)))); apply vL_nil; apply seqP_normal; (refine vC_cond_dec rfl (fun _ => ?_) (fun h => by omega)); apply vC_skip; apply seqP_normal; apply vC_seq; apply vC_block; (iterate 2 (apply vC_seq)))
    have hE5 : ∃ a b c, Blk w4.heap wb [pt rb, vp, a, b, c, .bool false] 61 := ⟨_, _, _, h51⟩
    refine vC_draw' ((fun wf => (∃ a b c, Blk wf.heap wb [pt rb, vp, a, b, c, .bool false] 61) ∧ Rd wf.heap 1 uE (.slice ka picks.length kc) picks)) (by refine ⟨?_, ?_⟩ <;> first | assumption | infer_instance) ?_
    (refine tkE 0 rfl (by kernel_rfl) (by refine ⟨?_, ?_⟩ <;> first | assumption | infer_instance) rfl ?_)
    (refine tkE 1 rfl (by kernel_rfl) (by refine ⟨?_, ?_⟩ <;> first | assumption | infer_instance) rfl ?_)
    (refine tk 2 rfl (by kernel_rfl) (by refine ⟨?_, ?_⟩ <;> first | assumption | infer_instance) (by rintro wf ⟨hwa, hwb⟩; (((apply opv_fieldAddr); exact rfl))) ?_)
    (apply (tk 3)); (case hi => exact rfl); (case hf => kernel_rfl); (case hS => (first | exact trivial | assumption | infer_instance | (refine ⟨?_, ?_⟩ <;> (first | assumption | infer_instance)) | (skip; done))); (case hy => (rintro wf ⟨⟨a, b, c, hwa⟩, hwb⟩; (((apply opv_loadb1); exact rfl; exact rfl; assumption; exact rfl))))
    (refine tkE 4 rfl (by kernel_rfl) (by refine ⟨?_, ?_⟩ <;> first | assumption | infer_instance) rfl ?_)
    (refine tkE 5 rfl (by kernel_rfl) (by refine ⟨?_, ?_⟩ <;> first | assumption | infer_instance) rfl ?_)
    (refine tk 6 rfl (by kernel_rfl) (by refine ⟨?_, ?_⟩ <;> first | assumption | infer_instance) (by rintro wf ⟨hwa, hwb⟩; (((apply opv_indexAddr); exact norm_eq rfl; exact rfl; assumption; (first | omega | (simp only [List.length_map]; omega)); (first | omega | (simp only [List.length_map]; omega))))) ?_)
    (refine tk 7 rfl (by kernel_rfl) (by refine ⟨?_, ?_⟩ <;> first | assumption | infer_instance) (by rintro wf ⟨hwa, hwb⟩; (((apply opv_ld_el); exact rfl; exact rfl; assumption; assumption; exact rfl))) ?_)
    (refine tkE 9 rfl (by kernel_rfl) (by refine ⟨?_, ?_⟩ <;> first | assumption | infer_instance) rfl ?_)
    (refine tkE 10 rfl (by kernel_rfl) (by refine ⟨?_, ?_⟩ <;> first | assumption | infer_instance) rfl ?_)
    (refine tkE 11 rfl (by kernel_rfl) (by refine ⟨?_, ?_⟩ <;> first | assumption | infer_instance) rfl ?_)
    (refine tk 12 rfl (by kernel_rfl) (by refine ⟨?_, ?_⟩ <;> first | assumption | infer_instance) (by rintro wf ⟨hwa, hwb⟩; (((apply opv_indexAddr); exact norm_eq rfl; exact rfl; assumption; (first | omega | (simp only [List.length_map]; omega)); (first | omega | (simp only [List.length_map]; omega))))) ?_)
    (refine tk 13 rfl (by kernel_rfl) (by refine ⟨?_, ?_⟩ <;> first | assumption | infer_instance) (by rintro wf ⟨hwa, hwb⟩; (((apply opv_ld_el); exact rfl; exact rfl; assumption; assumption; exact rfl))) ?_)
    refine tkc 8 rfl (by kernel_rfl) (by refine ⟨?_, ?_⟩ <;> first | assumption | infer_instance) rfl (w16_stepB pr S5.drew I (by omega) p hpb) rfl ?_
    rintro _ w5 ⟨rfl, I', hT', S6⟩
    obtain ⟨cv6, tv6, ev6, h61, _⟩ := w16_see S6
    have hE6 : ∃ a b c, Blk w5.heap wb [pt rb, vp, a, b, c, .bool false] 61 := ⟨_, _, _, h61⟩
    have hk6 := hk.frN (hf1.trans S6.fr)
    refine tkc 14 rfl (by kernel_rfl) (by refine ⟨?_, ?_⟩ <;> first | assumption | infer_instance) rfl (g_stepB (C := fun _ => []) pr.z gst (S6.ac (star_comm _ _)) p hpb) rfl ?_
    rintro _ w6 ⟨rfl, S7⟩
    rw [eb]
    generalize (stepB (step16 (P.map (·.2)) T p) T).2 = T2 at *
    generalize (stepB (MW.step (P.map (·.2)) (fun _ => []) D p) D).1 = bb at *
    generalize (stepB (MW.step (P.map (·.2)) (fun _ => []) D p) D).2 = D2 at *
    replace S7 := S7.ac (star_comm _ _)
    refine vA_stronger (S' := fun wf => Fr No w6 wf) (fun wf hwf => ?_) ?_
    · obtain ⟨cv7, tv7, ev7, h71, _⟩ := w16_see S7
      exact ⟨⟨_, _, _, h71.frN hwf⟩, (hk.frN (hf1.trans S7.fr)).frN hwf⟩
    obtain ⟨cv7, tv7, ev7, h71, h72, h73, h74, h75, h76, h77⟩ := w16_see S7
    obtain ⟨v7, rows7, hrows7, S8⟩ := gw_open (S7.ac (star_comm _ _))
    have hq7 := gw_blk S8
    rw [gwL] at hq7
    have hli7 := (gw_li S8).1
    have hlo7 := (gw_li S8).2.1
    clear h51 h52 h53 h54 hk5 hE5 hE6 h61 S6 S5 hk6
    (refine tk 15 rfl (by kernel_rfl) (by exact Fr.refl _ _) (by intro wf hwf; haveI := From.mk hwf; (((apply opv_neq_bool); exact rfl; exact rfl))) ?_)
    refine vA_splitD 49 rfl (fun h => absurd rfl h) (fun _ => ?_)
    (refine tkE 16 rfl (by kernel_rfl) (by exact Fr.refl _ _) rfl ?_)
    (refine tkwE 17 rfl rfl (by kernel_rfl) (by exact Fr.refl _ _) rfl ?_)
    (refine tkwE 18 rfl rfl (by kernel_rfl) (by exact Fr.refl _ _) rfl ?_)
    (refine tkw 19 rfl rfl (by kernel_rfl) (by exact Fr.refl _ _) (by intro wf hwf; haveI := From.mk hwf; (((apply opv_fieldAddr); exact rfl))) ?_)
    (refine tkw 20 rfl rfl (by kernel_rfl) (by exact Fr.refl _ _) (by intro wf hwf; haveI := From.mk hwf; (((apply opv_loadb1); exact rfl; exact rfl; infer_instance; exact rfl))) ?_)
    (refine tkE 21 rfl (by kernel_rfl) (by exact Fr.refl _ _) rfl ?_)
    (refine tkE 22 rfl (by kernel_rfl) (by exact Fr.refl _ _) rfl ?_)
    (refine tkwE 23 rfl rfl (by kernel_rfl) (by exact Fr.refl _ _) rfl ?_)
    (refine tkwE 24 rfl rfl (by kernel_rfl) (by exact Fr.refl _ _) rfl ?_)
    (refine tkw 25 rfl rfl (by kernel_rfl) (by exact Fr.refl _ _) (by intro wf hwf; haveI := From.mk hwf; (((apply opv_fieldAddr); exact rfl))) ?_)
    (refine tkw 26 rfl rfl (by kernel_rfl) (by exact Fr.refl _ _) (by intro wf hwf; haveI := From.mk hwf; (((apply opv_loadb1); exact rfl; exact rfl; infer_instance; exact rfl))) ?_)
    (refine tkwE 28 rfl rfl (by kernel_rfl) (by exact Fr.refl _ _) rfl ?_)
    (refine tkwE 29 rfl rfl (by kernel_rfl) (by exact Fr.refl _ _) rfl ?_)
    (refine tkw 30 rfl rfl (by kernel_rfl) (by exact Fr.refl _ _) (by intro wf hwf; haveI := From.mk hwf; (((apply opv_fieldAddr); exact rfl))) ?_)
    (refine tkw 31 rfl rfl (by kernel_rfl) (by exact Fr.refl _ _) (by intro wf hwf; haveI := From.mk hwf; (((apply opv_loadb1); exact rfl; exact rfl; infer_instance; exact rfl))) ?_)
    (refine tkcw 27 rfl rfl (by kernel_rfl) (by (exact Fr.refl _ _)) rfl (w16_ready (S7.frN (by (exact Fr.refl _ _)))) rfl ?_)
    rintro u8 w8 ⟨hf8, ho8⟩
    have g8 : Fr No w6 w8 := by (assumption)
    have e8 : T2.1.line = D2.li := hsim'.li.symm
    (refine tkcw 32 rfl rfl (by kernel_rfl) (by (assumption)) rfl (kit_same_int _ _ T2.1.line D2.li _ ho8.rd (hli7.frN (by (assumption))).rd) rfl ?_)
    rintro _ w9 ⟨⟨k9, rfl⟩, rfl⟩
    (refine tkw 33 rfl rfl (by kernel_rfl) (by apply Fr.drewN; assumption) (by intro wf hwf; haveI := From.mk hwf; (((apply opv_not); exact rfl))) ?_)
    (refine tkE 34 rfl (by kernel_rfl) (by apply Fr.drewN; assumption) rfl ?_)
    refine vA_done (by kernel_rfl) (by (first | exact trivial | ((apply Fr.drewN; assumption); done))) ?_
    have g9 : Fr No w6 (w8.drewN k9) := by (apply Fr.drewN; assumption)
    have S9 := S7.frN g9
    clear hq7 hli7 S8 h71 h72 h73 h74
    generalize w8.drewN k9 = w9 at *
    ((apply seqP_normal))
    refine vC_condF rfl (by rw [e8]; simp) ?_
    (apply vC_skip; apply seqP_normal; apply vC_seq; apply vC_region; (refine vE rfl ?_); apply vL_nil; apply seqP_normal; apply vC_block)
    have hcm : (cl.map (·.1)).length = cl.length := List.length_map _
    have hcl0 : cl.length < 9223372036854775808 := by have := ht.few.2; omega
    (apply vC_loop1 19807040038270274039680336960 10 (fun u w' => ∃ c : Nat, u = .int .i64 (c : Int) ∧ c ≤ cl.length ∧ At (W16 wb rb vp cl tl T2 * GwA qb vp D2) w1 No w') (fun u _ => cl.length - (RowKit.intOf u).toNat)); (case h1 => (exact norm_eq rfl))
    case h0 => exact ⟨0, rfl, Nat.zero_le _, S9⟩
    clear S9 S7
    case round =>
    rintro junk2 _ w10 ⟨c, rfl, hcc, S10⟩
    obtain ⟨kb10, S11⟩ := w16_open S10
    obtain ⟨cv, tv, ev, S12⟩ := wa_open (S11.ac (show _ = WA wb rb vp (cl.map (·.1)) tl T2.2 false * (PWA (L16 wb) rb none 0 kb10 T2.1 * GwA qb vp D2) by ac_rfl))
    obtain ⟨v, rows, hrows, S13⟩ := gw_open (S12.ac (show _ = GwA qb vp D2 * (Pt wb [pt rb, vp, cv, tv, ev, .bool false] 61 * (Ow 28 1 ptE cv (cl.map (·.1)) * (Ow 34 1 ptE tv tl * (Ow 100 5 ev5 ev T2.2 * PWA (L16 wb) rb none 0 kb10 T2.1)))) by ac_rfl))
    have hwb := (S13.ac (show _ = Pt wb [pt rb, vp, cv, tv, ev, .bool false] 61 * (GwP qb vp v rows D2 * (Big (rows.map RrA) * (Ow 28 1 ptE cv (cl.map (·.1)) * (Ow 34 1 ptE tv tl * (Ow 100 5 ev5 ev T2.2 * PWA (L16 wb) rb none 0 kb10 T2.1))))) by ac_rfl)).blk
    have hcv := (S13.ac (show _ = Ow 28 1 ptE cv (cl.map (·.1)) * (Pt wb [pt rb, vp, cv, tv, ev, .bool false] 61 * (GwP qb vp v rows D2 * (Big (rows.map RrA) * (Ow 34 1 ptE tv tl * (Ow 100 5 ev5 ev T2.2 * PWA (L16 wb) rb none 0 kb10 T2.1))))) by ac_rfl)).own.1.rd
    have hq := gw_blk S13
    rw [gwL] at hq
    have hch := (gw_ch S13).1.rd
    by_cases hcl1 : c < cl.length
    · obtain ⟨d, hd⟩ : ∃ d, T2.1.cs[c]? = some d := ⟨_, List.getElem?_eq_getElem (by have := congrArg List.length I'.cs; rw [List.length_map] at this; omega)⟩
      have hcb : (cl.map (·.1))[c]? = some d.cb := by
        rw [← I'.cbs, List.getElem?_map, hd]; rfl
      have hcb' : (cl.map (·.1))[((c : Nat) : Int).toNat]? = some d.cb := by rw [Int.toNat_natCast]; exact hcb
      obtain ⟨m, hm⟩ := hsim'.cget hd
      have sc := hsim'.ch c d m hd hm
      obtain ⟨r, hr, rfl⟩ := rows_get hrows hm
      have hr' : rows[((c : Nat) : Int).toNat]? = some r := by rw [Int.toNat_natCast]; exact hr
      have hlr := (List.getElem?_eq_some_iff.1 hr).1
      have o1 := (row_buf hr S13).rd
      have o2 := (row_snd hr S13).rd
      have o3 := (row_rcv hr S13).rd
      obtain ⟨size, ⟨bv, obv⟩, ⟨sv, osv⟩, ⟨rv, orv⟩, closed, buf, snd, rcv⟩ := r
      simp only [] at o1 o2 o3
      obtain ⟨ba, bc, rfl⟩ := o1.len
      obtain ⟨sa, sc', rfl⟩ := o2.len
      obtain ⟨ra, rc, rfl⟩ := o3.len
      have e1 : size = d.size := sc.size
      have e2 : buf.length = d.buf.length := congrArg List.length sc.buf
      have e3 : snd.length = d.snd.length := sc.snd.1
      have e4 : rcv.length = d.rcv.length := sc.rcv.1
      have e5 : closed = d.closed := sc.closed
      ((iterate 2 (apply vC_seq)); apply vC_region; (iterate 3 ((refine vE rfl ?_))); (refine vL_val (opv_fieldAddr rfl) ?_); ((apply vL_val); (case h => ((apply opv_loadb1); exact rfl; exact rfl; assumption; exact rfl))); ((apply vL_val); (case h => ((apply opv_len); ((conv => lhs; whnf) <;> exact rfl); assumption))); (refine vE rfl ?_); apply vL_nil; apply seqP_normal; (refine vC_cond_dec rfl (fun _ => ?_) (fun h => by omega)); apply vC_skip; apply seqP_normal; apply vC_seq; apply vC_block; apply vC_seq)
      have S14 := (S13.ac (show _ = PWA (L16 wb) rb none 0 kb10 T2.1 * (Pt wb [pt rb, vp, cv, tv, ev, .bool false] 61 * (Ow 28 1 ptE cv (cl.map (·.1)) * (GwP qb vp v rows D2 * (Big (rows.map RrA) * (Ow 34 1 ptE tv tl * Ow 100 5 ev5 ev T2.2))))) by ac_rfl)).drew
      refine vC_draw' ((fun wf => Blk wf.heap wb [pt rb, vp, cv, tv, ev, .bool false] 61 ∧ Rd wf.heap 1 ptE cv (cl.map (·.1)) ∧ Blk wf.heap qb [vp, v.ch, v.at_, v.to, v.ov, v.li, v.ev, v.fi, .int .i64 D2.now, v.tm, .int .i64 D2.made, .int .u64 D2.rest] 97 ∧ Rd wf.heap 5 rrE v.ch rows)) (by refine ⟨?_, ?_, ?_, ?_⟩ <;> first | assumption | infer_instance) ?_
      (refine tkE 0 rfl (by kernel_rfl) (by refine ⟨?_, ?_, ?_, ?_⟩ <;> first | assumption | infer_instance) rfl ?_)
      (refine tkE 1 rfl (by kernel_rfl) (by refine ⟨?_, ?_, ?_, ?_⟩ <;> first | assumption | infer_instance) rfl ?_)
      (refine tk 2 rfl (by kernel_rfl) (by refine ⟨?_, ?_, ?_, ?_⟩ <;> first | assumption | infer_instance) (by rintro wf ⟨hwa, hwb, hwc, hwd⟩; (((apply opv_fieldAddr); exact rfl))) ?_)
      (refine tk 3 rfl (by kernel_rfl) (by refine ⟨?_, ?_, ?_, ?_⟩ <;> first | assumption | infer_instance) (by rintro wf ⟨hwa, hwb, hwc, hwd⟩; (((apply opv_loadb1); exact rfl; exact rfl; assumption; exact rfl))) ?_)
      (refine tkE 4 rfl (by kernel_rfl) (by refine ⟨?_, ?_, ?_, ?_⟩ <;> first | assumption | infer_instance) rfl ?_)
      (refine tk 5 rfl (by kernel_rfl) (by refine ⟨?_, ?_, ?_, ?_⟩ <;> first | assumption | infer_instance) (by rintro wf ⟨hwa, hwb, hwc, hwd⟩; (((apply opv_indexAddr); ((conv => lhs; whnf) <;> exact rfl); exact rfl; assumption; (first | omega | (simp only [List.length_map]; omega)); (first | omega | (simp only [List.length_map]; omega))))) ?_)
      (refine tk 6 rfl (by kernel_rfl) (by refine ⟨?_, ?_, ?_, ?_⟩ <;> first | assumption | infer_instance) (by rintro wf ⟨hwa, hwb, hwc, hwd⟩; (((apply opv_ld_el); exact rfl; exact rfl; assumption; assumption; exact rfl))) ?_)
      (refine tkE 7 rfl (by kernel_rfl) (by refine ⟨?_, ?_, ?_, ?_⟩ <;> first | assumption | infer_instance) rfl ?_)
      (refine tkE 8 rfl (by kernel_rfl) (by refine ⟨?_, ?_, ?_, ?_⟩ <;> first | assumption | infer_instance) rfl ?_)
      (refine tk 9 rfl (by kernel_rfl) (by refine ⟨?_, ?_, ?_, ?_⟩ <;> first | assumption | infer_instance) (by rintro wf ⟨hwa, hwb, hwc, hwd⟩; (((apply opv_fieldAddr); exact rfl))) ?_)
      (refine tk 10 rfl (by kernel_rfl) (by refine ⟨?_, ?_, ?_, ?_⟩ <;> first | assumption | infer_instance) (by rintro wf ⟨hwa, hwb, hwc, hwd⟩; (((apply opv_loadb1); exact rfl; exact rfl; assumption; exact rfl))) ?_)
      (refine tkE 11 rfl (by kernel_rfl) (by refine ⟨?_, ?_, ?_, ?_⟩ <;> first | assumption | infer_instance) rfl ?_)
      (refine tk 12 rfl (by kernel_rfl) (by refine ⟨?_, ?_, ?_, ?_⟩ <;> first | assumption | infer_instance) (by rintro wf ⟨hwa, hwb, hwc, hwd⟩; (((apply opv_indexAddr); ((conv => lhs; whnf) <;> exact rfl); exact rfl; assumption; (first | omega | (simp only [List.length_map]; omega)); (first | omega | (simp only [List.length_map]; omega))))) ?_)
      (refine tk 13 rfl (by kernel_rfl) (by refine ⟨?_, ?_, ?_, ?_⟩ <;> first | assumption | infer_instance) (by rintro wf ⟨hwa, hwb, hwc, hwd⟩; (((apply opv_ld_eln); exact rfl; exact rfl; assumption; assumption))) ?_)
      refine tkc 14 rfl (by kernel_rfl) (by refine ⟨?_, ?_, ?_, ?_⟩ <;> first | assumption | infer_instance) rfl (same16' S14 hd e1 e2 e3 e4 e5) rfl ?_
      rintro _ w11 ⟨rfl, S15⟩
      have S16 := S15.ac (show _ = GwP qb vp v rows D2 * (Big (rows.map RrA) * (Pt wb [pt rb, vp, cv, tv, ev, .bool false] 61 * (Ow 28 1 ptE cv (cl.map (·.1)) * (Ow 34 1 ptE tv tl * (Ow 100 5 ev5 ev T2.2 * PWA (L16 wb) rb none 0 kb10 T2.1))))) by ac_rfl)
      have hwb' := (S16.ac (show _ = Pt wb [pt rb, vp, cv, tv, ev, .bool false] 61 * (GwP qb vp v rows D2 * (Big (rows.map RrA) * (Ow 28 1 ptE cv (cl.map (·.1)) * (Ow 34 1 ptE tv tl * (Ow 100 5 ev5 ev T2.2 * PWA (L16 wb) rb none 0 kb10 T2.1))))) by ac_rfl)).blk
      have hcv' := (S16.ac (show _ = Ow 28 1 ptE cv (cl.map (·.1)) * (Pt wb [pt rb, vp, cv, tv, ev, .bool false] 61 * (GwP qb vp v rows D2 * (Big (rows.map RrA) * (Ow 34 1 ptE tv tl * (Ow 100 5 ev5 ev T2.2 * PWA (L16 wb) rb none 0 kb10 T2.1))))) by ac_rfl)).own.1.rd
      have hq' := gw_blk S16
      rw [gwL] at hq'
      have hch' := (gw_ch S16).1.rd
      (refine tk 15 rfl (by kernel_rfl) (by refine ⟨?_, ?_, ?_, ?_⟩ <;> first | assumption | infer_instance) (by rintro wf ⟨hwa, hwb, hwc, hwd⟩; (((apply opv_not); exact rfl))) ?_)
      refine vA_done (by kernel_rfl) (by refine ⟨?_, ?_, ?_, ?_⟩ <;> first | assumption | infer_instance) ?_
      have S17 := gw_shut hrows S16
      have S18 := wa_shut (S17.ac (show _ = Pt wb [pt rb, vp, cv, tv, ev, .bool false] 61 * (Ow 28 1 ptE cv (cl.map (·.1)) * (Ow 34 1 ptE tv tl * (Ow 100 5 ev5 ev T2.2 * (PWA (L16 wb) rb none 0 kb10 T2.1 * GwA qb vp D2)))) by ac_rfl))
      have S19 := w16_shut (S18.ac (show _ = PWA (L16 wb) rb none 0 kb10 T2.1 * (WA wb rb vp (cl.map (·.1)) tl T2.2 false * GwA qb vp D2) by ac_rfl))
      (apply seqP_normal; ((apply vC_cond_false); exact rfl); apply vC_skip; apply blockP_normal; apply seqP_normal; apply vC_region; (refine vE rfl ?_); ((apply vL_val); (case h => ((apply opv_add); exact rfl; exact rfl; (first | omega | (simp only [List.length_map]; omega))))); (refine vE rfl ?_); apply vL_nil; apply loopP_normal)
      (with_reducible apply end1); (case hs => ((iterate 26 (((refine same_updO ?_ ?_); rotate_left; exact rfl))); ((refine same_upd ?_ ?_); rotate_left; exact rfl); (exact same_mask _ _ _))); (case h1 => (exact norm_eq rfl))
      · exact ⟨c + 1, rfl, by omega, S19⟩
      · simp [RowKit.intOf]; omega
    · ((iterate 2 (apply vC_seq)); apply vC_region; (iterate 3 ((refine vE rfl ?_))); (refine vL_val (opv_fieldAddr rfl) ?_); ((apply vL_val); (case h => ((apply opv_loadb1); exact rfl; exact rfl; assumption; exact rfl))); ((apply vL_val); (case h => ((apply opv_len); ((conv => lhs; whnf) <;> exact rfl); assumption))); (refine vE rfl ?_); apply vL_nil; apply seqP_normal; (refine vC_cond_dec rfl (fun h => by omega) (fun _ => ?_)); apply vC_exit; apply seqP_exit; apply loopP_exit; apply blockP_exit; apply blockP_normal; apply seqP_normal; apply vC_region; (refine vE rfl ?_); ((apply vL_val); (case h => ((apply opv_add); exact rfl; exact rfl; (first | omega | (simp only [List.length_map]; omega))))); (refine vE rfl ?_); apply vL_nil; apply loopP_normal)
      (with_reducible apply end1); (case hs => ((iterate 59 (first | ((with_reducible refine same_updO ?_ ?_); rotate_left; exact rfl) | ((with_reducible refine same_upd ?_ ?_); rotate_left; exact rfl) | ((with_reducible refine same_maskIn ?_ ?_); rotate_left; exact rfl))); (exact same_mask _ _ _))); (case h1 => (exact norm_eq rfl))
      · exact ⟨k + 1, T2, D2, rfl, by omega, by omega, by omega, I', hsim', hD', hev', S10⟩
      · simp [RowKit.intOf]; omega
  · obtain ⟨v, rows, hrows, S6⟩ := gw_open (S5.ac (star_comm _ _))
    have hq := gw_blk S6
    rw [gwL] at hq
    have hevr := (gw_ev S6).1
    rw [hev] at hevr
    repeat (with_reducible apply vC_seq)
    refine vC_meet1 4278190080 31 (.bool false) (fun w' => w' = w4) ?_ ?_
    · by_cases g0 : k < picks.length
      · have g1 : ¬ k < 300 := fun h => hlt ⟨g0, h⟩
        (apply vC_region; (iterate 10 (first | (refine vE rfl ?_) | (refine vL_val (opv_lenc rfl) ?_) | ((with_reducible apply vL_wanted); exact rfl) | (refine vL_and rfl rfl (fun _ => ?_) (fun h => by omega)))); apply vL_nil)
        exact ⟨rfl, by (((iterate 9 (first | ((with_reducible refine same_updO ?_ ?_); rotate_left; exact rfl) | ((with_reducible refine same_upd ?_ ?_); rotate_left; exact rfl)))); exact fun _ _ => rfl), by first | rfl | exact congrArg Value.bool (decide_eq_false (by omega)), rfl⟩
      · (apply vC_region; (iterate 8 (first | (refine vE rfl ?_) | (refine vL_val (opv_lenc rfl) ?_) | ((with_reducible apply vL_unwanted'); exact rfl; exact rfl) | (refine vL_and rfl rfl (fun h => by omega) (fun _ => ?_)))); apply vL_nil)
        exact ⟨rfl, by (((iterate 9 (first | ((with_reducible refine same_updO ?_ ?_); rotate_left; exact rfl) | ((with_reducible refine same_upd ?_ ?_); rotate_left; exact rfl)))); exact fun _ _ => rfl), by first | rfl | exact congrArg Value.bool (decide_eq_false (by omega)), rfl⟩
    rintro junk7 w5 hw5
    subst hw5
    (apply seqP_normal; ((apply vC_cond_false); exact rfl); apply vC_exit; apply seqP_exit; apply loopP_exit; apply blockP_exit; apply seqP_normal; apply vC_seq)
    refine vC_draw' (fun wf => Fr No w5 wf) ((Fr.refl No w5).drew) ?_
    (refine tkE 0 rfl (by kernel_rfl) (by apply Fr.drew; exact Fr.refl _ _) rfl ?_)
    (refine tkE 1 rfl (by kernel_rfl) (by apply Fr.drew; exact Fr.refl _ _) rfl ?_)
    (refine tk 2 rfl (by kernel_rfl) (by apply Fr.drew; exact Fr.refl _ _) (by intro wf hwf; haveI := From.mk hwf; (((apply opv_fieldAddr); exact rfl))) ?_)
    (refine tk 3 rfl (by kernel_rfl) (by apply Fr.drew; exact Fr.refl _ _) (by intro wf hwf; haveI := From.mk hwf; (((apply opv_loadb1); exact rfl; exact rfl; infer_instance; exact rfl))) ?_)
    (refine tkE 4 rfl (by kernel_rfl) (by apply Fr.drew; exact Fr.refl _ _) rfl ?_)
    (refine tkE 5 rfl (by kernel_rfl) (by apply Fr.drew; exact Fr.refl _ _) rfl ?_)
    (refine tk 6 rfl (by kernel_rfl) (by apply Fr.drew; exact Fr.refl _ _) (by intro wf hwf; haveI := From.mk hwf; (((apply opv_fieldAddr); exact rfl))) ?_)
    (refine tk 7 rfl (by kernel_rfl) (by apply Fr.drew; exact Fr.refl _ _) (by intro wf hwf; haveI := From.mk hwf; (((apply opv_loadb1); exact rfl; exact rfl; infer_instance; exact rfl))) ?_)
    (refine tkc 8 rfl (by kernel_rfl) (by (apply Fr.drew; exact Fr.refl _ _)) rfl (same_events16 _ _ T.2 _ (h54.frN (by (apply Fr.drew; exact Fr.refl _ _))).rd (hevr.frN (by (apply Fr.drew; exact Fr.refl _ _))).rd) rfl ?_)
    rintro _ w6 ⟨hf6, rfl⟩
    have g6 : Fr No w5 w6 := Fr.trans (by (apply Fr.drew; exact Fr.refl _ _)) hf6
    clear hf6
    (refine tkE 9 rfl (by kernel_rfl) (by assumption) rfl ?_)
    (refine tkcw 10 rfl rfl (by kernel_rfl) (by (assumption)) rfl (awake16 _) rfl ?_)
    rintro _ w7 ⟨rfl, hf7⟩
    have g7 : Fr No w5 w7 := g6.trans hf7
    clear hf7 g6
    (refine tkE 11 rfl (by kernel_rfl) (by assumption) rfl ?_)
    (refine tkE 12 rfl (by kernel_rfl) (by assumption) rfl ?_)
    refine vA_done (by kernel_rfl) (by (first | exact trivial | ((assumption); done))) ?_
    (apply seqP_normal; apply vC_ret)
    (apply ret1; (case h1 => (exact norm_eq rfl)))
    exact ⟨rfl, (hf1.trans S5.fr).trans g7⟩
end Go.Proofs.YtbaidcnalkdhgaaGreat
set_option maxRecDepth 100000
namespace Go.Proofs.YtbaidcnalkdhgaaGreat
open Go Go.Eng
end Go.Proofs.YtbaidcnalkdhgaaGreat
set_option maxRecDepth 100000
namespace Go.Proofs.YtbaidcnalkdhgaaGreat
open Go Go.Eng Go.ChangeShapes Go.WideShapes Go.ChangeAt Go.RowKit
theorem own_knob : ownKnob Tryz.prog.godebug = none := by kernel_rfl
theorem laid_out : laidOutB Tryz.prog = true := by kernel_rfl
theorem cells_int : Tryz.prog.cellsOf 3 = 1 := by kernel_rfl
theorem cells_bool : Tryz.prog.cellsOf 4 = 1 := by kernel_rfl
theorem cells_u64 : Tryz.prog.cellsOf 43 = 1 := by kernel_rfl
theorem cells_do : Tryz.prog.cellsOf 167 = 5 := by kernel_rfl
theorem cells_dos : Tryz.prog.cellsOf 168 = 1 := by kernel_rfl
theorem cells_cases : Tryz.prog.cellsOf 165 = 1 := by kernel_rfl
section
variable {H : Type} {enc : TypeId × Value → H} {W : World}
theorem trod_struct5 {P : Program} {base : Nat} {spare : Bool} {held : Nat → Bool} {t : TypeId} {f0 f1 f2 f3 f4 : Field} {fuel : Nat} {cs : List Value} {x : DataW H × List MemPlace} (ht : P.underlying t = some (.struct #[f0, f1, f2, f3, f4])) (h : DataW.trod enc P W base held spare fuel t cs = some x) :
    ∃ y0 y1 y2 y3 y4 n, cs.length = P.cellsOf t ∧ DataW.trod enc P W base held spare n f0.type ((cs.drop f0.offset).take (P.cellsOf f0.type)) = some y0 ∧
      DataW.trod enc P W base held spare n f1.type ((cs.drop f1.offset).take (P.cellsOf f1.type)) = some y1 ∧ DataW.trod enc P W base held spare n f2.type ((cs.drop f2.offset).take (P.cellsOf f2.type)) = some y2 ∧
      DataW.trod enc P W base held spare n f3.type ((cs.drop f3.offset).take (P.cellsOf f3.type)) = some y3 ∧ DataW.trod enc P W base held spare n f4.type ((cs.drop f4.offset).take (P.cellsOf f4.type)) = some y4 := by
  obtain ⟨xs, n, _, rfl, hl, hlen, hf⟩ := DataW.trod_struct ht h
  match xs, hlen with
  | [y0, y1, y2, y3, y4], _ => exact ⟨y0, y1, y2, y3, y4, n, hl, by simpa using hf 0 f0 rfl, by simpa using hf 1 f1 rfl, by simpa using hf 2 f2 rfl, by simpa using hf 3 f3 rfl, by simpa using hf 4 f4 rfl⟩
theorem open_u64s {base : Nat} {v : Value} {d : DataW H} {ps : List MemPlace} (hval : Value.okWide Tryz.prog W .any base 24 v) (h : DataW.Trod enc Tryz.prog W 0 (fun _ => true) true 24 v d ps) :
    ∃ xs : List Int, Rd W.heap 1 uE v xs ∧ (∀ x ∈ xs, 0 ≤ x ∧ x ≤ 18446744073709551615) ∧ ((d = .nil ∧ xs = []) ∨ ∃ es spr, d = .slice es spr ∧ es.length = xs.length) :=
  rd_open Tryz.underlying24 cells_u64 (fun _ => rfl) (fun n cs y hy => by
    obtain ⟨a, rfl, _, hw⟩ := DataW.trod_int Tryz.underlying43 hy
    exact ⟨a, rfl, Go.Eng.wf_u64 hw⟩) hval h
theorem open_ints {base : Nat} {v : Value} {d : DataW H} {ps : List MemPlace} (hval : Value.okWide Tryz.prog W .any base 32 v) (h : DataW.Trod enc Tryz.prog W 0 (fun _ => true) true 32 v d ps) :
    ∃ xs : List Int, Rd W.heap 1 iE v xs ∧ (∀ x ∈ xs, -9223372036854775808 ≤ x ∧ x ≤ 9223372036854775807) ∧ ((d = .nil ∧ xs = []) ∨ ∃ es spr, d = .slice es spr ∧ es.length = xs.length) :=
  rd_open Tryz.underlying32 cells_int (fun _ => rfl) (fun n cs y hy => by
    obtain ⟨a, rfl, _, hw⟩ := DataW.trod_int Tryz.underlying3 hy
    exact ⟨a, rfl, Go.Eng.wf_i64 hw⟩) hval h
theorem open_cases {n : Nat} {cs : List Value} {y : DataW H × List MemPlace} (hy : DataW.trod enc Tryz.prog W 0 (fun _ => true) true n 165 cs = some y) : ∃ v : OV, cs = [v.1] := by
  rcases Deep.open_slice Tryz.underlying165 hy with ⟨h1, h2⟩ | ⟨a, len, cap, m, n, D, Pl, h1, _⟩
  · exact ⟨⟨.slice none 0 0, rfl⟩, h1⟩
  · exact ⟨⟨_, rfl⟩, h1⟩
theorem open_progs {base : Nat} {v : Value} {d : DataW H} {ps : List MemPlace} (hval : Value.okWide Tryz.prog W .any base 51 v) (h : DataW.Trod enc Tryz.prog W 0 (fun _ => true) true 51 v d ps) :
    ∃ P : List (OV × List Do5), Pz16 W.heap v P := by
  obtain ⟨a0, len0, cap0, rfl⟩ := okWide_slice Tryz.underlying51 hval
  obtain ⟨fuel, hf⟩ := h
  obtain ⟨v, P, h1, h2, h3⟩ := Go.Eng.rd_openW (enc' := oE) (wf := fun (y : OV × List Do5) => Rd W.heap 5 do5 y.1.1 y.2) Tryz.underlying51 cells_dos (by decide) (fun _ => rfl) (fun n cs y hy => by
    obtain ⟨u, xs, h1, h2, h3⟩ := Go.Eng.rd_openW (enc' := do5) (wf := fun _ => True) Tryz.underlying168 cells_do (by decide) (fun _ => rfl) (fun n cs y hy => by
      obtain ⟨y0, y1, y2, y3, y4, m, hl, g0, g1, g2, g3, g4⟩ := trod_struct5 Tryz.underlying167 hy
      rw [cells_do] at hl
      match cs, hl with
      | [c0, c1, c2, c3, c4], _ =>
        rw [cells_int] at g0 g1 g2
        rw [cells_cases] at g3
        rw [cells_bool] at g4
        obtain ⟨a, h0, _, w0⟩ := DataW.trod_int Tryz.underlying3 g0
        obtain ⟨b, h1, _, w1⟩ := DataW.trod_int Tryz.underlying3 g1
        obtain ⟨c, h2, _, w2⟩ := DataW.trod_int Tryz.underlying3 g2
        obtain ⟨u, h3⟩ := open_cases g3
        obtain ⟨f, h4, _⟩ := DataW.trod_bool Tryz.underlying4 g4
        simp at h0 h1 h2 h3 h4
        subst h0; subst h1; subst h2; subst h3; subst h4
        exact ⟨⟨a, b, c, u, f⟩, rfl, trivial⟩) hy
    exact ⟨(u, xs), h1, h2⟩) hf
  simp [Value.cells] at h1
  rw [h1]
  exact ⟨P, h2, fun y hy => h3 y hy, v.2⟩
end
end Go.Proofs.YtbaidcnalkdhgaaGreat
