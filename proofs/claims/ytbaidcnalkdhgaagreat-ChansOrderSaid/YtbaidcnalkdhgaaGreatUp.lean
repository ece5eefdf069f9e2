/- Layer 16: programs that are tame. Layer 16: ChansClosed: the walk. Layer 16: ChansOrder: the walk. Opening the arguments of the rows of layer 16. Opening the arguments of ChansOrder. -/
import Derived.Test.YtbaidcnalkdhgaaGreatUo
import Derived.Test.YtbaidcnalkdhgaaGreatEo
import Derived.Test.YtbaidcnalkdhgaaGreatRows
import Derived.OpenShut
import Derived.ChangeSame
import Derived.Deep.Strs
set_option maxRecDepth 100000
namespace Go.Proofs.YtbaidcnalkdhgaaGreat
open Go Go.Eng
structure Tame (P : List (OV × List Do5)) (sizes : List Int) : Prop where
  six : P.length ≤ 6
  few : 1 ≤ sizes.length ∧ sizes.length ≤ 6
  size : ∀ x ∈ sizes, 0 ≤ x ∧ x ≤ 64
  ch : ∀ y ∈ P, ∀ (d : Do5), d ∈ y.2 → (0 ≤ d.c ∧ d.c < (sizes.length : Int)) ∧ d.k ≠ 5 ∧ d.k ≤ 7
theorem tame16 (w : World) (vp vs : Value) (P : List (OV × List Do5)) (sizes : List Int) (z : Pz16 w.heap vp P) (hs : Rd w.heap 1 iE vs sizes) (hso : vs.oneCell' = true) :
    Rets Tryz.prog 29 #[vp, vs] w fun u w' => Fr No w w' ∧ ∃ b, u = .bool b ∧ (b = true → Tame P sizes) := by
  have hv1 := z.one
  have hPs := z.hP.small
  have hss := hs.small
  obtain ⟨va, vc, rfl⟩ := z.hP.len
  obtain ⟨sa, sc, rfl⟩ := hs.len
  refine rets_of Tryz.func29 rfl Tryz.ntmps29 rfl rfl (by kernel_rfl) ?_
  have bad : ∀ w', Fr No w w' → Fr No w w' ∧ ∃ b, (Value.bool false) = .bool b ∧ (b = true → Tame P sizes) := fun w' hf => ⟨hf, false, rfl, fun h => by cases h⟩
  by_cases h6 : 6 < P.length
  · ((iterate 23 (first | with_reducible apply vC_seq | with_reducible apply vC_region | with_reducible apply seqP_normal | ((with_reducible apply vL_val); (case h => ((with_reducible apply opv_E); exact rfl))) | ((with_reducible apply vL_val); (case h => ((with_reducible apply opv_lenc); exact rfl))) | with_reducible apply vL_nil | ((with_reducible apply vL_unwanted'); exact rfl; exact rfl) | (refine vL_or rfl rfl (fun h => by omega) (fun _ => ?_)))); ((apply vC_cond_true); exact rfl); apply vC_seq; apply vC_region; ((apply vL_val); (case h => ((apply opv_E); exact rfl))); apply vL_nil; apply seqP_normal; apply vC_ret; apply seqP_ret)
    (apply ret1; (case h1 => (exact norm_eq rfl)))
    exact bad _ (by (exact Fr.refl _ _))
  by_cases h1 : sizes.length < 1
  · (apply vC_seq; apply vC_region; ((apply vL_val); (case h => ((apply opv_E); exact rfl))); apply vL_nil; apply seqP_normal; (iterate 2 (apply vC_seq)); apply vC_region; (iterate 16 (first | ((with_reducible apply vL_val); (case h => ((with_reducible apply opv_E); exact rfl))) | ((with_reducible apply vL_val); (case h => ((with_reducible apply opv_lenc); exact rfl))) | ((with_reducible apply vL_wanted); exact rfl) | ((with_reducible apply vL_unwanted'); exact rfl; exact rfl) | (refine vL_or rfl rfl (fun _ => ?_) (fun h => by omega)) | (refine vL_or rfl rfl (fun h => by omega) (fun _ => ?_)))); apply vL_nil; apply seqP_normal; ((apply vC_cond_true); exact rfl); apply vC_seq; apply vC_region; ((apply vL_val); (case h => ((apply opv_E); exact rfl))); apply vL_nil; apply seqP_normal; apply vC_ret; apply seqP_ret)
    (apply ret1; (case h1 => (exact norm_eq rfl)))
    exact bad _ (by (exact Fr.refl _ _))
  by_cases h7 : 6 < sizes.length
  · ((iterate 29 (first | with_reducible apply vC_seq | with_reducible apply vC_region | with_reducible apply seqP_normal | ((with_reducible apply vL_val); (case h => ((with_reducible apply opv_E); exact rfl))) | ((with_reducible apply vL_val); (case h => ((with_reducible apply opv_lenc); exact rfl))) | with_reducible apply vL_nil | ((with_reducible apply vL_wanted); exact rfl) | (refine vL_or rfl rfl (fun _ => ?_) (fun h => by omega)))); (refine vC_cond_dec rfl (fun _ => ?_) (fun h => by omega)); apply vC_seq; apply vC_region; ((apply vL_val); (case h => ((apply opv_E); exact rfl))); apply vL_nil; apply seqP_normal; apply vC_ret; apply seqP_ret)
    (apply ret1; (case h1 => (exact norm_eq rfl)))
    exact bad _ (by (exact Fr.refl _ _))
  ((iterate 29 (first | with_reducible apply vC_seq | with_reducible apply vC_region | with_reducible apply seqP_normal | ((with_reducible apply vL_val); (case h => ((with_reducible apply opv_E); exact rfl))) | ((with_reducible apply vL_val); (case h => ((with_reducible apply opv_lenc); exact rfl))) | with_reducible apply vL_nil | ((with_reducible apply vL_wanted); exact rfl) | (refine vL_or rfl rfl (fun _ => ?_) (fun h => by omega)))); (refine vC_cond_dec rfl (fun h => by omega) (fun _ => ?_)); apply vC_skip; apply seqP_normal; (iterate 2 (apply vC_seq)); apply vC_region; ((apply vL_val); (case h => ((apply opv_E); exact rfl))); apply vL_nil; apply seqP_normal; apply vC_block)
  (apply vC_loop1 1099507433520 5 (fun u w' => ∃ k : Nat, u = .int .i64 (k : Int) ∧ k ≤ sizes.length ∧ Fr No w w' ∧ ∀ (j : Nat) x, j < k → sizes[j]? = some x → 0 ≤ x ∧ x ≤ 64) (fun u _ => sizes.length - (RowKit.intOf u).toNat)); (case h1 => (exact norm_eq rfl))
  case h0 => exact ⟨0, rfl, Nat.zero_le _, by (exact Fr.refl _ _), fun j x hj => by omega⟩
  case round =>
  rintro junk _ w1 ⟨k, rfl, hk, hf1, ok⟩
  have hs1 := hs.frN hf1
  by_cases hlt : k < sizes.length
  · obtain ⟨x, hx⟩ : ∃ x, sizes[k]? = some x := ⟨_, List.getElem?_eq_getElem hlt⟩
    have hx' : sizes[((k : Nat) : Int).toNat]? = some x := by rw [Int.toNat_natCast]; exact hx
    by_cases g0 : x < 0
    · ((iterate 2 (apply vC_seq)); apply vC_region; (iterate 2 (((apply vL_val); (case h => ((apply opv_E); exact rfl))))); ((apply vL_val); (case h => ((apply opv_lenc); exact rfl))); ((apply vL_val); (case h => ((apply opv_E); exact rfl))); apply vL_nil; apply seqP_normal; (refine vC_cond_dec rfl (fun _ => ?_) (fun h => by omega)); apply vC_skip; apply seqP_normal; apply vC_seq; apply vC_block; apply vC_seq; apply vC_region; (iterate 2 (((apply vL_val); (case h => ((apply opv_E); exact rfl))))); ((apply vL_val); (case h => ((apply opv_indexAddr); exact norm_eq rfl; exact rfl; assumption; (first | omega | (simp only [List.length_map]; omega)); (first | omega | (simp only [List.length_map]; omega))))); ((apply vL_val); (case h => ((apply opv_ld_el); exact rfl; exact rfl; assumption; assumption; exact rfl))); (iterate 2 (((apply vL_val); (case h => ((apply opv_E); exact rfl))))); (refine vL_or rfl rfl (fun h => by omega) (fun _ => ?_)); (iterate 4 (((apply vL_unwanted'); exact rfl; exact rfl))); ((apply vL_val); (case h => ((apply opv_E); exact rfl))); apply vL_nil; apply seqP_normal; ((apply vC_cond_true); exact rfl); apply vC_seq; apply vC_region; ((apply vL_val); (case h => ((apply opv_E); exact rfl))); apply vL_nil; apply seqP_normal; apply vC_ret; apply blockP_ret; apply seqP_ret; apply loopP_ret; apply blockP_ret; apply seqP_ret)
      (apply ret1; (case h1 => (exact norm_eq rfl)))
      exact bad _ hf1
    by_cases g1 : 64 < x
    · ((iterate 2 (apply vC_seq)); apply vC_region; (iterate 2 (((apply vL_val); (case h => ((apply opv_E); exact rfl))))); ((apply vL_val); (case h => ((apply opv_lenc); exact rfl))); ((apply vL_val); (case h => ((apply opv_E); exact rfl))); apply vL_nil; apply seqP_normal; (refine vC_cond_dec rfl (fun _ => ?_) (fun h => by omega)); apply vC_skip; apply seqP_normal; apply vC_seq; apply vC_block; apply vC_seq; apply vC_region; (iterate 17 (first | ((with_reducible apply vL_val); (case h => ((with_reducible apply opv_E); exact rfl))) | ((with_reducible apply vL_val); (case h => ((with_reducible apply opv_indexAddr); exact norm_eq rfl; exact rfl; assumption; (first | omega | (simp only [List.length_map]; omega)); (first | omega | (simp only [List.length_map]; omega))))) | ((with_reducible apply vL_val); (case h => ((with_reducible apply opv_ld_el); exact rfl; exact rfl; assumption; assumption; exact rfl))) | ((with_reducible apply vL_wanted); exact rfl) | (refine vL_or rfl rfl (fun _ => ?_) (fun h => by omega)))); apply vL_nil; apply seqP_normal; (refine vC_cond_dec rfl (fun _ => ?_) (fun h => by omega)); apply vC_seq; apply vC_region; ((apply vL_val); (case h => ((apply opv_E); exact rfl))); apply vL_nil; apply seqP_normal; apply vC_ret; apply blockP_ret; apply seqP_ret; apply loopP_ret; apply blockP_ret; apply seqP_ret)
      (apply ret1; (case h1 => (exact norm_eq rfl)))
      exact bad _ hf1
    ((iterate 2 (apply vC_seq)); apply vC_region; (iterate 2 (((apply vL_val); (case h => ((apply opv_E); exact rfl))))); ((apply vL_val); (case h => ((apply opv_lenc); exact rfl))); ((apply vL_val); (case h => ((apply opv_E); exact rfl))); apply vL_nil; apply seqP_normal; (refine vC_cond_dec rfl (fun _ => ?_) (fun h => by omega)); apply vC_skip; apply seqP_normal; apply vC_seq; apply vC_block; apply vC_seq; apply vC_region; (iterate 17 (first | ((with_reducible apply vL_val); (case h => ((with_reducible apply opv_E); exact rfl))) | ((with_reducible apply vL_val); (case h => ((with_reducible apply opv_indexAddr); exact norm_eq rfl; exact rfl; assumption; (first | omega | (simp only [List.length_map]; omega)); (first | omega | (simp only [List.length_map]; omega))))) | ((with_reducible apply vL_val); (case h => ((with_reducible apply opv_ld_el); exact rfl; exact rfl; assumption; assumption; exact rfl))) | ((with_reducible apply vL_wanted); exact rfl) | (refine vL_or rfl rfl (fun _ => ?_) (fun h => by omega)))); apply vL_nil; apply seqP_normal; (refine vC_cond_dec rfl (fun h => by omega) (fun _ => ?_)); apply vC_skip; apply blockP_normal; apply seqP_normal; apply vC_region; ((apply vL_val); (case h => ((apply opv_E); exact rfl))); ((apply vL_val); (case h => ((apply opv_add); exact rfl; exact rfl; (first | omega | (simp only [List.length_map]; omega))))); ((apply vL_val); (case h => ((apply opv_E); exact rfl))); apply vL_nil; apply loopP_normal)
    (with_reducible apply end1); (case hs => ((iterate 21 (first | ((with_reducible refine same_updO ?_ ?_); rotate_left; exact rfl) | ((with_reducible refine same_upd ?_ ?_); rotate_left; exact rfl))); (exact same_mask _ _ _))); (case h1 => (exact norm_eq rfl))
    · refine ⟨k + 1, rfl, by omega, hf1, fun j y hj hy => ?_⟩
      by_cases e : j = k
      · subst e; rw [hx] at hy; cases hy; omega
      · exact ok j y (by omega) hy
    · simp [RowKit.intOf]; omega
  have hall : ∀ x ∈ sizes, 0 ≤ x ∧ x ≤ 64 := fun x hx => by
    obtain ⟨j, hj, e⟩ := List.getElem_of_mem hx
    exact ok j x (by omega) (by rw [List.getElem?_eq_getElem hj, e])
  clear ok hs1
  ((iterate 2 (apply vC_seq)); apply vC_region; (iterate 2 (((apply vL_val); (case h => ((apply opv_E); exact rfl))))); ((apply vL_val); (case h => ((apply opv_lenc); exact rfl))); ((apply vL_val); (case h => ((apply opv_E); exact rfl))); apply vL_nil; apply seqP_normal; (refine vC_cond_dec rfl (fun h => by omega) (fun _ => ?_)); apply vC_exit; apply seqP_exit; apply loopP_exit; apply blockP_exit; apply seqP_normal; (iterate 2 (apply vC_seq)); apply vC_region; ((apply vL_val); (case h => ((apply opv_E); exact rfl))); apply vL_nil; apply seqP_normal; apply vC_block)
  (apply vC_loop1 4835703278457417187197392 6 (fun u w' => ∃ k : Nat, u = .int .i64 (k : Int) ∧ k ≤ P.length ∧ Fr No w w' ∧ ∀ (j : Nat) y, j < k → P[j]? = some y → ∀ (d : Do5), d ∈ y.2 → (0 ≤ d.c ∧ d.c < (sizes.length : Int)) ∧ d.k ≠ 5 ∧ d.k ≤ 7) (fun u _ => P.length - (RowKit.intOf u).toNat)); (case h1 => (exact norm_eq rfl))
  case h0 => exact ⟨0, rfl, Nat.zero_le _, hf1, fun j x hj => by omega⟩
  clear hf1
  case round =>
  rintro junk2 _ w2 ⟨m, rfl, hm, hf2, okp⟩
  by_cases hltm : m < P.length
  · obtain ⟨y, hy⟩ : ∃ y, P[m]? = some y := ⟨_, List.getElem?_eq_getElem hltm⟩
    have hy' : P[((m : Nat) : Int).toNat]? = some y := by rw [Int.toNat_natCast]; exact hy
    have hyone := y.1.2
    ((iterate 2 (apply vC_seq)); apply vC_region; (iterate 2 (((apply vL_val); (case h => ((apply opv_E); exact rfl))))); ((apply vL_val); (case h => ((apply opv_lenc); exact rfl))); ((apply vL_val); (case h => ((apply opv_E); exact rfl))); apply vL_nil; apply seqP_normal; (refine vC_cond_dec rfl (fun _ => ?_) (fun h => by omega)); apply vC_skip; apply seqP_normal; apply vC_seq; apply vC_block; apply vC_seq; apply vC_region; ((apply vL_val); (case h => ((apply opv_E); exact rfl))); apply vL_nil; apply seqP_normal; apply vC_block)
    (apply vC_loop1 4835703278388147954647440 7 (fun u w' => ∃ k : Nat, u = .int .i64 (k : Int) ∧ k ≤ y.2.length ∧ Fr No w w' ∧ ∀ (j : Nat) d, j < k → y.2[j]? = some d → (0 ≤ d.c ∧ d.c < (sizes.length : Int)) ∧ d.k ≠ 5 ∧ d.k ≤ 7) (fun u _ => y.2.length - (RowKit.intOf u).toNat)); (case h1 => (exact norm_eq rfl))
    case h0 => exact ⟨0, rfl, Nat.zero_le _, hf2, fun j x hj => by omega⟩
    clear hf2
    case round =>
    rintro junk3 _ w3 ⟨q, rfl, hq, hf3, okd⟩
    have hP3 := z.hP.frN hf3
    have hPi3 := (z.hPi y (List.mem_of_getElem? hy)).frN hf3
    have hys := hPi3.small
    by_cases hltq : q < y.2.length
    · obtain ⟨d, hd⟩ : ∃ d, y.2[q]? = some d := ⟨_, List.getElem?_eq_getElem hltq⟩
      have hd' : y.2[((q : Nat) : Int).toNat]? = some d := by rw [Int.toNat_natCast]; exact hd
      have hdone := d.cs.2
      by_cases g0 : d.c < 0
      · ((iterate 2 (apply vC_seq)); apply vC_region; (iterate 3 (((apply vL_val); (case h => ((apply opv_E); exact rfl))))); ((apply vL_val); (case h => ((apply opv_indexAddr); exact norm_eq rfl; exact rfl; assumption; (first | omega | (simp only [List.length_map]; omega)); (first | omega | (simp only [List.length_map]; omega))))); ((apply vL_val); (case h => ((apply opv_ld_el); exact rfl; exact rfl; assumption; assumption; exact rfl))); ((apply vL_val); (case h => ((apply opv_len); ((conv => lhs; whnf) <;> exact rfl); assumption))); ((apply vL_val); (case h => ((apply opv_E); exact rfl))); apply vL_nil; apply seqP_normal; (refine vC_cond_dec rfl (fun _ => ?_) (fun h => by omega)); apply vC_skip; apply seqP_normal; apply vC_seq; apply vC_block; apply vC_seq; apply vC_region; (iterate 2 (((apply vL_val); (case h => ((apply opv_E); exact rfl))))); ((apply vL_val); (case h => ((apply opv_indexAddr); exact norm_eq rfl; exact rfl; assumption; (first | omega | (simp only [List.length_map]; omega)); (first | omega | (simp only [List.length_map]; omega))))); ((apply vL_val); (case h => ((apply opv_ld_el); exact rfl; exact rfl; assumption; assumption; exact rfl))); ((apply vL_val); (case h => ((apply opv_E); exact rfl))); ((apply vL_val); (case h => ((apply opv_indexAddr); ((conv => lhs; whnf) <;> exact rfl); exact rfl; assumption; (first | omega | (simp only [List.length_map]; omega)); (first | omega | (simp only [List.length_map]; omega))))); ((apply vL_val); (case h => ((apply opv_ld_eln); exact rfl; exact rfl; assumption; assumption))); ((apply vL_val); (case h => (apply opw_alloc))); ((apply vL_skip); (case h => ((apply ops_storen); exact norm_eq rfl; exact norm_eq rfl; exact rfl; exact (fun u hu => EncOk.one _ u hu); infer_instance; (first | decide | exact of_decide_eq_true rfl | (simp; done))))); apply vL_nil; apply seqP_normal; apply vC_seq; apply vC_region; ((apply vL_val); (case h => ((apply opv_fieldAddr); exact rfl))); ((apply vL_val); (case h => ((apply opv_loadb1); exact rfl; exact rfl; infer_instance; exact rfl))); (iterate 18 (first | ((with_reducible apply vL_val); (case h => ((with_reducible apply opv_E); exact rfl))) | ((with_reducible apply vL_unwanted'); exact rfl; exact rfl) | (refine vL_or rfl rfl (fun h => by omega) (fun _ => ?_)))); apply vL_nil; apply seqP_normal; ((apply vC_cond_true); exact rfl); apply vC_seq; apply vC_region; ((apply vL_val); (case h => ((apply opv_E); exact rfl))); apply vL_nil; apply seqP_normal; apply vC_ret; (iterate 9 (first | with_reducible apply seqP_ret | with_reducible apply blockP_ret | with_reducible apply loopP_ret)))
        (apply ret1; (case h1 => (exact norm_eq rfl)))
        exact bad _ (hf3.trans (by (apply Fr.allocSet; exact Fr.refl _ _)))
      by_cases g1 : (sizes.length : Int) ≤ d.c
      · ((iterate 2 (apply vC_seq)); apply vC_region; (iterate 3 (((apply vL_val); (case h => ((apply opv_E); exact rfl))))); ((apply vL_val); (case h => ((apply opv_indexAddr); exact norm_eq rfl; exact rfl; assumption; (first | omega | (simp only [List.length_map]; omega)); (first | omega | (simp only [List.length_map]; omega))))); ((apply vL_val); (case h => ((apply opv_ld_el); exact rfl; exact rfl; assumption; assumption; exact rfl))); ((apply vL_val); (case h => ((apply opv_len); ((conv => lhs; whnf) <;> exact rfl); assumption))); ((apply vL_val); (case h => ((apply opv_E); exact rfl))); apply vL_nil; apply seqP_normal; (refine vC_cond_dec rfl (fun _ => ?_) (fun h => by omega)); apply vC_skip; apply seqP_normal; apply vC_seq; apply vC_block; apply vC_seq; apply vC_region; (iterate 2 (((apply vL_val); (case h => ((apply opv_E); exact rfl))))); ((apply vL_val); (case h => ((apply opv_indexAddr); exact norm_eq rfl; exact rfl; assumption; (first | omega | (simp only [List.length_map]; omega)); (first | omega | (simp only [List.length_map]; omega))))); ((apply vL_val); (case h => ((apply opv_ld_el); exact rfl; exact rfl; assumption; assumption; exact rfl))); ((apply vL_val); (case h => ((apply opv_E); exact rfl))); ((apply vL_val); (case h => ((apply opv_indexAddr); ((conv => lhs; whnf) <;> exact rfl); exact rfl; assumption; (first | omega | (simp only [List.length_map]; omega)); (first | omega | (simp only [List.length_map]; omega))))); ((apply vL_val); (case h => ((apply opv_ld_eln); exact rfl; exact rfl; assumption; assumption))); ((apply vL_val); (case h => (apply opw_alloc))); ((apply vL_skip); (case h => ((apply ops_storen); exact norm_eq rfl; exact norm_eq rfl; exact rfl; exact (fun u hu => EncOk.one _ u hu); infer_instance; (first | decide | exact of_decide_eq_true rfl | (simp; done))))); apply vL_nil; apply seqP_normal; apply vC_seq; apply vC_region; (iterate 25 (first | ((with_reducible apply vL_val); (case h => ((with_reducible apply opv_E); exact rfl))) | ((with_reducible apply vL_val); (case h => ((with_reducible apply opv_loadb1); exact rfl; exact rfl; infer_instance; exact rfl))) | ((with_reducible apply vL_val); (case h => ((with_reducible apply opv_fieldAddr); exact rfl))) | ((with_reducible apply vL_val); (case h => ((with_reducible apply opv_lenc); exact rfl))) | ((with_reducible apply vL_wanted); exact rfl) | ((with_reducible apply vL_unwanted'); exact rfl; exact rfl) | (refine vL_or rfl rfl (fun _ => ?_) (fun h => by omega)) | (refine vL_or rfl rfl (fun h => by omega) (fun _ => ?_)))); apply vL_nil; apply seqP_normal; ((apply vC_cond_true); exact rfl); apply vC_seq; apply vC_region; ((apply vL_val); (case h => ((apply opv_E); exact rfl))); apply vL_nil; apply seqP_normal; apply vC_ret; (iterate 9 (first | with_reducible apply seqP_ret | with_reducible apply blockP_ret | with_reducible apply loopP_ret)))
        (apply ret1; (case h1 => (exact norm_eq rfl)))
        exact bad _ (hf3.trans (by (apply Fr.allocSet; exact Fr.refl _ _)))
      by_cases g2 : d.k = 5
      · ((iterate 2 (apply vC_seq)); apply vC_region; (iterate 3 (((apply vL_val); (case h => ((apply opv_E); exact rfl))))); ((apply vL_val); (case h => ((apply opv_indexAddr); exact norm_eq rfl; exact rfl; assumption; (first | omega | (simp only [List.length_map]; omega)); (first | omega | (simp only [List.length_map]; omega))))); ((apply vL_val); (case h => ((apply opv_ld_el); exact rfl; exact rfl; assumption; assumption; exact rfl))); ((apply vL_val); (case h => ((apply opv_len); ((conv => lhs; whnf) <;> exact rfl); assumption))); ((apply vL_val); (case h => ((apply opv_E); exact rfl))); apply vL_nil; apply seqP_normal; (refine vC_cond_dec rfl (fun _ => ?_) (fun h => by omega)); apply vC_skip; apply seqP_normal; apply vC_seq; apply vC_block; apply vC_seq; apply vC_region; (iterate 2 (((apply vL_val); (case h => ((apply opv_E); exact rfl))))); ((apply vL_val); (case h => ((apply opv_indexAddr); exact norm_eq rfl; exact rfl; assumption; (first | omega | (simp only [List.length_map]; omega)); (first | omega | (simp only [List.length_map]; omega))))); ((apply vL_val); (case h => ((apply opv_ld_el); exact rfl; exact rfl; assumption; assumption; exact rfl))); ((apply vL_val); (case h => ((apply opv_E); exact rfl))); ((apply vL_val); (case h => ((apply opv_indexAddr); ((conv => lhs; whnf) <;> exact rfl); exact rfl; assumption; (first | omega | (simp only [List.length_map]; omega)); (first | omega | (simp only [List.length_map]; omega))))); ((apply vL_val); (case h => ((apply opv_ld_eln); exact rfl; exact rfl; assumption; assumption))); ((apply vL_val); (case h => (apply opw_alloc))); ((apply vL_skip); (case h => ((apply ops_storen); exact norm_eq rfl; exact norm_eq rfl; exact rfl; exact (fun u hu => EncOk.one _ u hu); infer_instance; (first | decide | exact of_decide_eq_true rfl | (simp; done))))); apply vL_nil; apply seqP_normal; apply vC_seq; apply vC_region; (iterate 28 (first | ((with_reducible apply vL_val); (case h => ((with_reducible apply opv_E); exact rfl))) | ((with_reducible apply vL_val); (case h => ((with_reducible apply opv_loadb1); exact rfl; exact rfl; infer_instance; exact rfl))) | ((with_reducible apply vL_val); (case h => ((with_reducible apply opv_fieldAddr); exact rfl))) | ((with_reducible apply vL_val); (case h => ((with_reducible apply opv_lenc); exact rfl))) | ((with_reducible apply vL_wanted); exact rfl) | ((with_reducible apply vL_unwanted'); exact rfl; exact rfl) | (refine vL_or rfl rfl (fun _ => ?_) (fun h => by omega)) | (refine vL_or rfl rfl (fun h => by omega) (fun _ => ?_)))); apply vL_nil; apply seqP_normal; ((apply vC_cond_true); exact rfl); apply vC_seq; apply vC_region; ((apply vL_val); (case h => ((apply opv_E); exact rfl))); apply vL_nil; apply seqP_normal; apply vC_ret; (iterate 9 (first | with_reducible apply seqP_ret | with_reducible apply blockP_ret | with_reducible apply loopP_ret)))
        (apply ret1; (case h1 => (exact norm_eq rfl)))
        exact bad _ (hf3.trans (by (apply Fr.allocSet; exact Fr.refl _ _)))
      by_cases g3 : 7 < d.k
      · ((iterate 2 (apply vC_seq)); apply vC_region; (iterate 3 (((apply vL_val); (case h => ((apply opv_E); exact rfl))))); ((apply vL_val); (case h => ((apply opv_indexAddr); exact norm_eq rfl; exact rfl; assumption; (first | omega | (simp only [List.length_map]; omega)); (first | omega | (simp only [List.length_map]; omega))))); ((apply vL_val); (case h => ((apply opv_ld_el); exact rfl; exact rfl; assumption; assumption; exact rfl))); ((apply vL_val); (case h => ((apply opv_len); ((conv => lhs; whnf) <;> exact rfl); assumption))); ((apply vL_val); (case h => ((apply opv_E); exact rfl))); apply vL_nil; apply seqP_normal; (refine vC_cond_dec rfl (fun _ => ?_) (fun h => by omega)); apply vC_skip; apply seqP_normal; apply vC_seq; apply vC_block; apply vC_seq; apply vC_region; (iterate 2 (((apply vL_val); (case h => ((apply opv_E); exact rfl))))); ((apply vL_val); (case h => ((apply opv_indexAddr); exact norm_eq rfl; exact rfl; assumption; (first | omega | (simp only [List.length_map]; omega)); (first | omega | (simp only [List.length_map]; omega))))); ((apply vL_val); (case h => ((apply opv_ld_el); exact rfl; exact rfl; assumption; assumption; exact rfl))); ((apply vL_val); (case h => ((apply opv_E); exact rfl))); ((apply vL_val); (case h => ((apply opv_indexAddr); ((conv => lhs; whnf) <;> exact rfl); exact rfl; assumption; (first | omega | (simp only [List.length_map]; omega)); (first | omega | (simp only [List.length_map]; omega))))); ((apply vL_val); (case h => ((apply opv_ld_eln); exact rfl; exact rfl; assumption; assumption))); ((apply vL_val); (case h => (apply opw_alloc))); ((apply vL_skip); (case h => ((apply ops_storen); exact norm_eq rfl; exact norm_eq rfl; exact rfl; exact (fun u hu => EncOk.one _ u hu); infer_instance; (first | decide | exact of_decide_eq_true rfl | (simp; done))))); apply vL_nil; apply seqP_normal; apply vC_seq; apply vC_region; (iterate 31 (first | ((with_reducible apply vL_val); (case h => ((with_reducible apply opv_E); exact rfl))) | ((with_reducible apply vL_val); (case h => ((with_reducible apply opv_loadb1); exact rfl; exact rfl; infer_instance; exact rfl))) | ((with_reducible apply vL_val); (case h => ((with_reducible apply opv_fieldAddr); exact rfl))) | ((with_reducible apply vL_val); (case h => ((with_reducible apply opv_lenc); exact rfl))) | ((with_reducible apply vL_wanted); exact rfl) | (refine vL_or rfl rfl (fun _ => ?_) (fun h => by omega)))); apply vL_nil; apply seqP_normal; (refine vC_cond_dec rfl (fun _ => ?_) (fun h => by omega)); apply vC_seq; apply vC_region; ((apply vL_val); (case h => ((apply opv_E); exact rfl))); apply vL_nil; apply seqP_normal; apply vC_ret; (iterate 9 (first | with_reducible apply seqP_ret | with_reducible apply blockP_ret | with_reducible apply loopP_ret)))
        (apply ret1; (case h1 => (exact norm_eq rfl)))
        exact bad _ (hf3.trans (by (apply Fr.allocSet; exact Fr.refl _ _)))
      ((iterate 2 (apply vC_seq)); apply vC_region; (iterate 3 (((apply vL_val); (case h => ((apply opv_E); exact rfl))))); ((apply vL_val); (case h => ((apply opv_indexAddr); exact norm_eq rfl; exact rfl; assumption; (first | omega | (simp only [List.length_map]; omega)); (first | omega | (simp only [List.length_map]; omega))))); ((apply vL_val); (case h => ((apply opv_ld_el); exact rfl; exact rfl; assumption; assumption; exact rfl))); ((apply vL_val); (case h => ((apply opv_len); ((conv => lhs; whnf) <;> exact rfl); assumption))); ((apply vL_val); (case h => ((apply opv_E); exact rfl))); apply vL_nil; apply seqP_normal; (refine vC_cond_dec rfl (fun _ => ?_) (fun h => by omega)); apply vC_skip; apply seqP_normal; apply vC_seq; apply vC_block; apply vC_seq; apply vC_region; (iterate 2 (((apply vL_val); (case h => ((apply opv_E); exact rfl))))); ((apply vL_val); (case h => ((apply opv_indexAddr); exact norm_eq rfl; exact rfl; assumption; (first | omega | (simp only [List.length_map]; omega)); (first | omega | (simp only [List.length_map]; omega))))); ((apply vL_val); (case h => ((apply opv_ld_el); exact rfl; exact rfl; assumption; assumption; exact rfl))); ((apply vL_val); (case h => ((apply opv_E); exact rfl))); ((apply vL_val); (case h => ((apply opv_indexAddr); ((conv => lhs; whnf) <;> exact rfl); exact rfl; assumption; (first | omega | (simp only [List.length_map]; omega)); (first | omega | (simp only [List.length_map]; omega))))); ((apply vL_val); (case h => ((apply opv_ld_eln); exact rfl; exact rfl; assumption; assumption))); ((apply vL_val); (case h => (apply opw_alloc))); ((apply vL_skip); (case h => ((apply ops_storen); exact norm_eq rfl; exact norm_eq rfl; exact rfl; exact (fun u hu => EncOk.one _ u hu); infer_instance; (first | decide | exact of_decide_eq_true rfl | (simp; done))))); apply vL_nil; apply seqP_normal; apply vC_seq; apply vC_region; (iterate 31 (first | ((with_reducible apply vL_val); (case h => ((with_reducible apply opv_E); exact rfl))) | ((with_reducible apply vL_val); (case h => ((with_reducible apply opv_loadb1); exact rfl; exact rfl; infer_instance; exact rfl))) | ((with_reducible apply vL_val); (case h => ((with_reducible apply opv_fieldAddr); exact rfl))) | ((with_reducible apply vL_val); (case h => ((with_reducible apply opv_lenc); exact rfl))) | ((with_reducible apply vL_wanted); exact rfl) | (refine vL_or rfl rfl (fun _ => ?_) (fun h => by omega)))); apply vL_nil; apply seqP_normal; (refine vC_cond_dec rfl (fun h => by omega) (fun _ => ?_)); apply vC_skip; apply blockP_normal; apply seqP_normal; apply vC_region; ((apply vL_val); (case h => ((apply opv_E); exact rfl))); ((apply vL_val); (case h => ((apply opv_add); exact rfl; exact rfl; (first | omega | (simp only [List.length_map]; omega))))); ((apply vL_val); (case h => ((apply opv_E); exact rfl))); apply vL_nil; apply loopP_normal)
      (with_reducible apply end1); (case hs => ((iterate 43 (first | with_reducible apply same_updN | ((with_reducible refine same_updO ?_ ?_); rotate_left; exact rfl) | ((with_reducible refine same_upd ?_ ?_); rotate_left; exact rfl))); (exact same_mask _ _ _))); (case h1 => (exact norm_eq rfl))
      · refine ⟨q + 1, rfl, by omega, hf3.trans (by (apply Fr.allocSet; exact Fr.refl _ _)), fun j x hj hx => ?_⟩
        by_cases e : j = q
        · subst e; rw [hd] at hx; cases hx; exact ⟨⟨by omega, by omega⟩, g2, by omega⟩
        · exact okd j x (by omega) hx
      · simp [RowKit.intOf]; omega
    · ((iterate 2 (apply vC_seq)); apply vC_region; (iterate 3 (((apply vL_val); (case h => ((apply opv_E); exact rfl))))); ((apply vL_val); (case h => ((apply opv_indexAddr); exact norm_eq rfl; exact rfl; assumption; (first | omega | (simp only [List.length_map]; omega)); (first | omega | (simp only [List.length_map]; omega))))); ((apply vL_val); (case h => ((apply opv_ld_el); exact rfl; exact rfl; assumption; assumption; exact rfl))); ((apply vL_val); (case h => ((apply opv_len); ((conv => lhs; whnf) <;> exact rfl); assumption))); ((apply vL_val); (case h => ((apply opv_E); exact rfl))); apply vL_nil; apply seqP_normal; (refine vC_cond_dec rfl (fun h => by omega) (fun _ => ?_)); apply vC_exit; apply seqP_exit; apply loopP_exit; apply blockP_exit; apply blockP_normal; apply seqP_normal; apply vC_region; ((apply vL_val); (case h => ((apply opv_E); exact rfl))); ((apply vL_val); (case h => ((apply opv_add); exact rfl; exact rfl; (first | omega | (simp only [List.length_map]; omega))))); ((apply vL_val); (case h => ((apply opv_E); exact rfl))); apply vL_nil; apply loopP_normal)
      (with_reducible apply end1); (case hs => ((iterate 18 (first | ((with_reducible refine same_updO ?_ ?_); rotate_left; exact rfl) | ((with_reducible refine same_upd ?_ ?_); rotate_left; exact rfl) | ((with_reducible refine same_maskIn ?_ ?_); rotate_left; exact rfl))); (exact same_mask _ _ _))); (case h1 => (exact norm_eq rfl))
      · refine ⟨m + 1, rfl, by omega, hf3, fun j x hj hx d hd => ?_⟩
        by_cases e : j = m
        · subst e
          rw [hy] at hx; cases hx
          obtain ⟨i, hi, e⟩ := List.getElem_of_mem hd
          exact okd i d (by omega) (by rw [List.getElem?_eq_getElem hi, e])
        · exact okp j x (by omega) hx d hd
      · simp [RowKit.intOf]; omega
  · ((iterate 2 (apply vC_seq)); apply vC_region; (iterate 2 (((apply vL_val); (case h => ((apply opv_E); exact rfl))))); ((apply vL_val); (case h => ((apply opv_lenc); exact rfl))); ((apply vL_val); (case h => ((apply opv_E); exact rfl))); apply vL_nil; apply seqP_normal; (refine vC_cond_dec rfl (fun h => by omega) (fun _ => ?_)); apply vC_exit; apply seqP_exit; apply loopP_exit; apply blockP_exit; apply seqP_normal; apply vC_seq; apply vC_region; ((apply vL_val); (case h => ((apply opv_E); exact rfl))); apply vL_nil; apply seqP_normal; apply vC_ret)
    (apply ret1; (case h1 => (exact norm_eq rfl)))
    refine ⟨hf2, true, rfl, fun _ => ⟨by omega, ⟨by omega, by omega⟩, hall, fun y hy d hd => ?_⟩⟩
    obtain ⟨i, hi, e⟩ := List.getElem_of_mem hy
    exact okp i y (by omega) (by rw [List.getElem?_eq_getElem hi, e]) d hd
end Go.Proofs.YtbaidcnalkdhgaaGreat
set_option maxRecDepth 100000
namespace Go.Proofs.YtbaidcnalkdhgaaGreat
open Go Go.Eng
theorem now_ps0 (cl : List (Nat × Int)) (tl : List Nat) : NoW (ps0 cl tl) := fun j d hd hc => by
  have hd : (cl.map c16)[j]? = some d := hd
  rw [List.getElem?_map] at hd
  cases h : cl[j]? with
  | none => rw [h] at hd; cases hd
  | some x => rw [h] at hd; cases hd; cases hc
theorem closed16 (w : World) (vp vk : Value) (size : Int) (P : List (OV × List Do5)) (picks : List Int) (z : Pz16 w.heap vp P) (hk : Rd w.heap 1 uE vk picks) (hkb : ∀ x ∈ picks, 0 ≤ x ∧ x ≤ 18446744073709551615) (hko : vk.oneCell' = true) :
    Rets Tryz.prog 4 #[vp, .int .i64 size, vk] w fun u w' => u = .bool true ∧ Fr No w w' := by
  have hv1 := z.one
  have hPs := z.hP.small
  have hks := hk.small
  obtain ⟨va, vc, hvp⟩ := z.hP.len
  obtain ⟨ka, kc, rfl⟩ := hk.len
  refine rets_of Tryz.func4 rfl Tryz.ntmps4 rfl rfl (by kernel_rfl) ?_
  (apply vC_seq; apply vC_region; ((apply vL_val); (case h => ((apply opv_E); exact rfl))); apply vL_nil; apply seqP_normal; (iterate 2 (apply vC_seq)); apply vC_region; ((apply vL_val); (case h => ((apply opv_move); ((conv => lhs; whnf) <;> exact rfl)))); ((apply vL_val); (case h => ((apply opv_E); exact rfl))); ((apply vL_val); (case h => ((apply opw_buildSl); exact rfl; exact rfl; exact rfl; exact (rfl : _ = some [_])))))
  refine vL_callF rfl (tame16 _ vp _ P [size] (z.frN (by (apply Fr.alloc; exact Fr.refl _ _))) (Rd.new1 iE size rfl) rfl) rfl ?_
  rintro _ w1 ⟨hf1, b, rfl, hb⟩
  have hf01 : Fr No w w1 := Fr.trans (by (apply Fr.alloc; exact Fr.refl _ _)) hf1
  cases b with
  | false =>
    (((apply vL_val); (case h => ((apply opv_not); exact rfl))); apply vL_nil; apply seqP_normal; ((apply vC_cond_true); exact rfl); apply vC_seq; apply vC_region)
    refine vL_callF rfl (awake16 _) rfl ?_
    rintro _ w2 ⟨rfl, hf2⟩
    (((apply vL_val); (case h => ((apply opv_E); exact rfl))); apply vL_nil; apply seqP_normal; apply vC_ret; apply seqP_ret)
    (apply ret1; (case h1 => (exact norm_eq rfl)))
    exact ⟨rfl, hf01.trans hf2⟩
  | true =>
  have ht := hb rfl
  clear hb
  have hsb := ht.size size List.mem_cons_self
  (((apply vL_val); (case h => ((apply opv_not); exact rfl))); apply vL_nil; apply seqP_normal; ((apply vC_cond_false); exact rfl); apply vC_skip; apply seqP_normal; apply vC_seq; apply vC_region; ((apply vL_val); (case h => ((apply opv_move); ((conv => lhs; whnf) <;> exact rfl)))); ((apply vL_val); (case h => ((apply opv_E); exact rfl))); ((apply vL_val); (case h => ((apply opw_buildSl); exact rfl; exact rfl; exact rfl; exact (rfl : _ = some [_])))))
  refine vL_callF rfl (begun16 (P := P) (sizes := [size]) (z.frN (by (apply Fr.alloc; assumption))) ht.six (Rd.new1 iE size rfl) (by simp) ht.size rfl) rfl ?_
  rintro _ w3 ⟨wb, qb, rb, cl, tl, kb, rfl, hcl, htl, S3⟩
  obtain ⟨⟨cb, c0⟩, rfl⟩ : ∃ x, cl = [x] := len1 (by have := congrArg List.length hcl; simpa using this)
  obtain rfl : c0 = size := by simpa using hcl
  have hf3 := hf01.trans ((show Fr No w1 _ by (apply Fr.alloc; exact Fr.refl _ _)).trans S3.fr)
  generalize hW2 : w1.alloc (.cells #[.int .i64 c0] 3) = w2 at *
  have hf02 : Fr No w w2 := by rw [← hW2]; exact hf01.trans (by (apply Fr.alloc; exact Fr.refl _ _))
  have pr : Pr16 w2 vp P [(cb, c0)] := ⟨z.frN hf02, ht.six, fun y hy d hd => (ht.ch y hy d hd).1, Nat.one_pos⟩
  have I0 : Inv16 (P.map (·.2)) [(cb, c0)] tl (ps0 [(cb, c0)] tl, []) := inv16_init (by rw [List.length_map]; exact htl)
  have S4 : At (W16 wb rb vp [(cb, c0)] tl (ps0 [(cb, c0)] tl, []) * RwA qb vp (rwI ([c0].map row0) P.length)) w2 No w3 := w16_shut S3
  clear S3
  ((iterate 23 (first | with_reducible apply vC_seq | with_reducible apply vC_region | with_reducible apply seqP_normal | with_reducible apply vC_skip | ((with_reducible apply vC_cond_false); exact rfl) | ((with_reducible apply vL_val); (case h => ((with_reducible apply opv_E); exact rfl))) | ((with_reducible apply vL_val); (case h => ((with_reducible apply opv_eql_pnil); exact rfl; exact rfl; (simp; done)))) | with_reducible apply vL_nil)); apply vC_block)
  (apply vC_loop1 72057456598974976 9 (fun u w' => ∃ (k : Nat) (T : T16), u = .int .i64 (k : Int) ∧ k ≤ picks.length ∧ k ≤ 100 ∧ T.2.length ≤ k ∧ Inv16 (P.map (·.2)) [(cb, c0)] tl T ∧ NoW T.1 ∧ At (W16 wb rb vp [(cb, c0)] tl T * RwA qb vp (rwI ([c0].map row0) P.length)) w2 No w') (fun u _ => 100 - (RowKit.intOf u).toNat)); (case h1 => (exact norm_eq rfl))
  case h0 => exact ⟨0, _, rfl, Nat.zero_le _, by decide, Nat.le_refl _, I0, now_ps0 _ _, S4⟩
  clear S4 I0 hf3
  case round =>
  rintro junk _ w4 ⟨k, T, rfl, hkl, hk100, hT, I, hN, S5⟩
  obtain ⟨cv, tv, ev, h51, h52, h53, h54, h55, h56, h57⟩ := w16_see S5
  have hk5 := hk.frN (hf02.trans S5.fr)
  by_cases hlt : k < picks.length ∧ k < 100
  · obtain ⟨g0, g1⟩ := hlt
    obtain ⟨p, hp⟩ : ∃ p, picks[k]? = some p := ⟨_, List.getElem?_eq_getElem g0⟩
    have hp' : picks[((k : Nat) : Int).toNat]? = some p := by rw [Int.toNat_natCast]; exact hp
    have hpb := hkb p (List.mem_of_getElem? hp)
    ((iterate 2 (apply vC_seq)); apply vC_region; (iterate 10 (first | ((with_reducible apply vL_val); (case h => ((with_reducible apply opv_E); exact rfl))) | ((with_reducible apply vL_val); (case h => ((with_reducible apply opv_lenc); exact rfl))) | ((with_reducible apply vL_wanted); exact rfl) | (refine vL_and rfl rfl (fun _ => ?_) (fun h => by omega)))); apply vL_nil; apply seqP_normal; (refine vC_cond_dec rfl (fun _ => ?_) (fun h => by omega)); apply vC_skip; apply seqP_normal; apply vC_seq; apply vC_block)
    have hE5 : ∃ a b c, Blk w4.heap wb [pt rb, vp, a, b, c, .bool false] 61 := ⟨_, _, _, h51⟩
    refine vC_draw' ((fun wf => (∃ a b c, Blk wf.heap wb [pt rb, vp, a, b, c, .bool false] 61) ∧ Rd wf.heap 1 uE (.slice ka picks.length kc) picks)) (by (first | exact trivial | assumption | infer_instance | (refine ⟨?_, ?_⟩ <;> (first | assumption | infer_instance)) | (skip; done))) ?_
    ((apply (tk 0)); (case hi => exact rfl); (case hf => kernel_rfl); (case hS => (first | exact trivial | assumption | infer_instance | (refine ⟨?_, ?_⟩ <;> (first | assumption | infer_instance)) | (skip; done))); (case hy => (rintro wf ⟨hwa, hwb⟩; (((apply opv_E); exact rfl)))))
    ((apply (tk 1)); (case hi => exact rfl); (case hf => kernel_rfl); (case hS => (first | exact trivial | assumption | infer_instance | (refine ⟨?_, ?_⟩ <;> (first | assumption | infer_instance)) | (skip; done))); (case hy => (rintro wf ⟨hwa, hwb⟩; (((apply opv_E); exact rfl)))))
    ((apply (tk 2)); (case hi => exact rfl); (case hf => kernel_rfl); (case hS => (first | exact trivial | assumption | infer_instance | (refine ⟨?_, ?_⟩ <;> (first | assumption | infer_instance)) | (skip; done))); (case hy => (rintro wf ⟨hwa, hwb⟩; (((apply opv_fieldAddr); exact rfl)))))
    (apply (tk 3)); (case hi => exact rfl); (case hf => kernel_rfl); (case hS => (first | exact trivial | assumption | infer_instance | (refine ⟨?_, ?_⟩ <;> (first | assumption | infer_instance)) | (skip; done))); (case hy => (rintro wf ⟨⟨a, b, c, hwa⟩, hwb⟩; (((apply opv_loadb1); exact rfl; exact rfl; assumption; exact rfl))))
    ((apply (tk 4)); (case hi => exact rfl); (case hf => kernel_rfl); (case hS => (first | exact trivial | assumption | infer_instance | (refine ⟨?_, ?_⟩ <;> (first | assumption | infer_instance)) | (skip; done))); (case hy => (rintro wf ⟨hwa, hwb⟩; (((apply opv_E); exact rfl)))))
    ((apply (tk 5)); (case hi => exact rfl); (case hf => kernel_rfl); (case hS => (first | exact trivial | assumption | infer_instance | (refine ⟨?_, ?_⟩ <;> (first | assumption | infer_instance)) | (skip; done))); (case hy => (rintro wf ⟨hwa, hwb⟩; (((apply opv_E); exact rfl)))))
    ((apply (tk 6)); (case hi => exact rfl); (case hf => kernel_rfl); (case hS => (first | exact trivial | assumption | infer_instance | (refine ⟨?_, ?_⟩ <;> (first | assumption | infer_instance)) | (skip; done))); (case hy => (rintro wf ⟨hwa, hwb⟩; (((apply opv_indexAddr); exact norm_eq rfl; exact rfl; assumption; (first | omega | (simp only [List.length_map]; omega)); (first | omega | (simp only [List.length_map]; omega)))))))
    ((apply (tk 7)); (case hi => exact rfl); (case hf => kernel_rfl); (case hS => (first | exact trivial | assumption | infer_instance | (refine ⟨?_, ?_⟩ <;> (first | assumption | infer_instance)) | (skip; done))); (case hy => (rintro wf ⟨hwa, hwb⟩; (((apply opv_ld_el); exact rfl; exact rfl; assumption; assumption; exact rfl)))))
    refine tkc 8 rfl (by kernel_rfl) (by (first | exact trivial | assumption | infer_instance | (refine ⟨?_, ?_⟩ <;> (first | assumption | infer_instance)) | (skip; done))) rfl (w16_step pr S5.drew I (by omega) p hpb) rfl ?_
    rintro _ w5 h
    have hex : ∃ T', T'.2.length ≤ k + 1 ∧ Inv16 (P.map (·.2)) [(cb, c0)] tl T' ∧ NoW T'.1 ∧ At (W16 wb rb vp [(cb, c0)] tl T' * RwA qb vp (rwI ([c0].map row0) P.length)) w2 No w5 := by
      rcases h with ⟨_, _, h3⟩ | ⟨T', h1, h2, h3, _, h4⟩
      · exact ⟨T, by omega, I, hN, h3⟩
      · exact ⟨T', by omega, h2, hN.step h1, h4⟩
    clear h
    obtain ⟨T', hT', I', hN', S6⟩ := hex
    obtain ⟨cv6, tv6, ev6, h61, _⟩ := w16_see S6
    have hE6 : ∃ a b c, Blk w5.heap wb [pt rb, vp, a, b, c, .bool false] 61 := ⟨_, _, _, h61⟩
    have hk6 := hk.frN (hf02.trans S6.fr)
    refine vA_done (by kernel_rfl) (by (first | exact trivial | assumption | infer_instance | (refine ⟨?_, ?_⟩ <;> (first | assumption | infer_instance)) | (skip; done))) ?_
    (apply blockP_normal; apply seqP_normal; apply vC_region; ((apply vL_val); (case h => ((apply opv_E); exact rfl))); ((apply vL_val); (case h => ((apply opv_add); exact rfl; exact rfl; (first | omega | (simp only [List.length_map]; omega))))); ((apply vL_val); (case h => ((apply opv_E); exact rfl))); apply vL_nil; apply loopP_normal)
    (with_reducible apply end1); (case hs => ((iterate 22 (first | ((with_reducible refine same_updO ?_ ?_); rotate_left; exact rfl) | ((with_reducible refine same_upd ?_ ?_); rotate_left; exact rfl))); (exact same_mask _ _ _))); (case h1 => (exact norm_eq rfl))
    · exact ⟨k + 1, T', rfl, by omega, by omega, hT', I', hN', S6⟩
    · simp [RowKit.intOf]; omega
  · have hc1 : T.1.cs.map C16.cbz = [(cb, c0)] := I.cs
    obtain ⟨d, hd⟩ : ∃ d, T.1.cs = [d] := len1 (by have := congrArg List.length hc1; simpa using this)
    rw [hd] at hc1
    have hdcb : d.cb = cb := by have := List.cons.inj hc1; exact congrArg Prod.fst this.1
    have hd0 : T.1.cs[0]? = some d := by rw [hd]; rfl
    have hcl1 : ([(cb, c0)].map (·.1) : List Nat).length = 1 := rfl
    have hcb : ([(cb, c0)].map (·.1) : List Nat)[(0 : Int).toNat]? = some cb := rfl
    obtain ⟨kb5, S6⟩ := w16_open S5
    obtain ⟨R6, hR6⟩ : ∃ R6, R6 = WA wb rb vp ([(cb, c0)].map (·.1)) tl T.2 false * RwA qb vp (rwI ([c0].map row0) P.length) := ⟨_, rfl⟩
    haveI : Lcl R6 := by rw [hR6]; infer_instance
    rw [← hR6] at S6
    repeat (with_reducible apply vC_seq)
    refine vC_meet1 35046933135360 44 (.bool false) (fun w' => w' = w4) ?_ ?_
    · by_cases g0 : k < picks.length
      · have g1 : ¬ k < 100 := fun h => hlt ⟨g0, h⟩
        (apply vC_region; (iterate 10 (first | ((with_reducible apply vL_val); (case h => ((with_reducible apply opv_E); exact rfl))) | ((with_reducible apply vL_val); (case h => ((with_reducible apply opv_lenc); exact rfl))) | ((with_reducible apply vL_wanted); exact rfl) | (refine vL_and rfl rfl (fun _ => ?_) (fun h => by omega)))); apply vL_nil)
        exact ⟨rfl, by (((iterate 9 (first | ((with_reducible refine same_updO ?_ ?_); rotate_left; exact rfl) | ((with_reducible refine same_upd ?_ ?_); rotate_left; exact rfl)))); exact fun _ _ => rfl), by first | rfl | exact congrArg Value.bool (decide_eq_false (by omega)), rfl⟩
      · (apply vC_region; (iterate 8 (first | ((with_reducible apply vL_val); (case h => ((with_reducible apply opv_E); exact rfl))) | ((with_reducible apply vL_val); (case h => ((with_reducible apply opv_lenc); exact rfl))) | ((with_reducible apply vL_unwanted'); exact rfl; exact rfl) | (refine vL_and rfl rfl (fun h => by omega) (fun _ => ?_)))); apply vL_nil)
        exact ⟨rfl, by (((iterate 9 (first | ((with_reducible refine same_updO ?_ ?_); rotate_left; exact rfl) | ((with_reducible refine same_upd ?_ ?_); rotate_left; exact rfl)))); exact fun _ _ => rfl), by first | rfl | exact congrArg Value.bool (decide_eq_false (by omega)), rfl⟩
    rintro junk7 _ rfl
    (apply seqP_normal; ((apply vC_cond_false); exact rfl); apply vC_exit; apply seqP_exit; apply loopP_exit; apply blockP_exit; apply seqP_normal; apply vC_seq; apply vC_region; (iterate 2 (((apply vL_val); (case h => ((apply opv_E); exact rfl))))); ((apply vL_val); (case h => ((apply opv_fieldAddr); exact rfl))); ((apply vL_val); (case h => ((apply opv_loadb1); exact rfl; exact rfl; assumption; exact rfl))); ((apply vL_val); (case h => ((apply opv_indexAddr); ((conv => lhs; whnf) <;> exact rfl); exact rfl; infer_instance; (first | omega | (simp only [List.length_map]; omega)); (first | omega | (simp only [List.length_map]; omega))))); ((apply vL_val); (case h => ((apply opv_ld_el); exact rfl; exact rfl; infer_instance; assumption; exact rfl))); ((apply vL_val); (case h => ((apply opv_E); exact rfl))); apply vL_nil; apply seqP_normal; apply vC_seq; apply vC_region; ((apply vL_val); (case h => ((apply opv_E); exact rfl))))
    have hbuf : d.buf.length ≤ 64 := by
      obtain ⟨q, hp, _⟩ := pw_open S6
      obtain ⟨c, hc⟩ := hp.cget hd0
      have := (hp.ch 0 c d hc hd0).room
      omega
    have q1 := pw_closed S6 hd0
    have q2 := pw_len S6 hd0
    have q3 := pw_close S6 hd0
    rw [hdcb] at q1 q2 q3
    refine vL_callF rfl (q1) rfl ?_
    rintro _ _ ⟨rfl, rfl⟩
    (((apply vL_val); (case h => ((apply opv_E); exact rfl))))
    refine vL_callF rfl (q2) rfl ?_
    rintro _ _ ⟨rfl, rfl⟩
    ((iterate 2 (((apply vL_val); (case h => ((apply opv_E); exact rfl))))); apply vL_nil; apply seqP_normal; (iterate 2 (apply vC_seq)); apply vC_region; ((apply vL_val); (case h => ((apply opv_E); exact rfl))))
    refine vL_callF rfl (q3) rfl ?_
    rintro _ w6 ⟨rfl, kb6, _, S7⟩
    obtain ⟨d', hd', e1, e2, e3, e4, e5⟩ := close_done hN hd0
    have ht := close_told hd0
    rw [ht]
    have q4 := pw_closed S7 hd'
    rw [e5, hdcb, e1] at q4
    ((((apply vL_val); (case h => ((apply opv_E); exact rfl))); apply vL_nil))
    with_reducible apply seqP_normal
    repeat (with_reducible apply vC_seq)
    refine vC_meet1 150820579546649294012416 76 (.bool false) (fun w' => w' = w6) ?_ ?_
    · generalize d.closed = dc
      cases dc with
      | true =>
        (apply vC_region; (iterate 8 (first | ((with_reducible apply vL_val); (case h => ((with_reducible apply opv_E); exact rfl))) | ((with_reducible apply vL_val); (case h => ((with_reducible apply opv_eql_bool); exact rfl; exact rfl))) | ((with_reducible apply vL_wanted); exact rfl))))
        refine vL_callF rfl (q4) rfl ?_
        rintro _ _ ⟨rfl, rfl⟩
        (((apply vL_wanted); exact rfl); ((apply vL_val); (case h => ((apply opv_not); exact rfl))); ((apply vL_val); (case h => ((apply opv_E); exact rfl))); apply vL_nil)
        exact ⟨rfl, by (((iterate 9 (((refine same_updO ?_ ?_); rotate_left; exact rfl)))); exact fun _ _ => rfl), rfl, rfl⟩
      | false =>
        (apply vC_region; (iterate 8 (first | ((with_reducible apply vL_val); (case h => ((with_reducible apply opv_E); exact rfl))) | ((with_reducible apply vL_val); (case h => ((with_reducible apply opv_eql_bool); exact rfl; exact rfl))) | ((with_reducible apply vL_wanted); exact rfl))))
        refine vL_callF rfl (q4) rfl ?_
        rintro _ _ ⟨rfl, rfl⟩
        (((apply vL_wanted); exact rfl); ((apply vL_val); (case h => ((apply opv_not); exact rfl))); ((apply vL_val); (case h => ((apply opv_E); exact rfl))); apply vL_nil)
        exact ⟨rfl, by (((iterate 9 (((refine same_updO ?_ ?_); rotate_left; exact rfl)))); exact fun _ _ => rfl), rfl, rfl⟩
    rintro junk13 _ rfl
    (apply seqP_normal; ((apply vC_cond_false); exact rfl); apply vC_skip; apply seqP_normal; apply vC_seq; apply vC_region; ((apply vL_val); (case h => ((apply opv_E); exact rfl))))
    have q5 := pw_waits S7 hd'
    rw [e5, hdcb, e2, e3] at q5
    change Rets _ _ _ _ (fun u w' => u = .tuple #[.int .i64 0, .int .i64 0] ∧ _) at q5
    refine vL_callF rfl (q5) rfl ?_
    rintro _ w7 ⟨rfl, S8⟩
    ((iterate 5 (((apply vL_val); (case h => ((apply opv_E); exact rfl))))); apply vL_nil; apply seqP_normal; apply vC_seq; apply vC_region; ((apply vL_val); (case h => ((apply opv_E); exact rfl))))
    have q6 := pw_trysend S8 hd' 1
    rw [e5, hdcb, trySend_closed hd' e1] at q6
    change Rets _ _ _ _ (fun u w' => u = .tuple #[.bool false, .bool true] ∧ _) at q6
    refine vL_callF rfl (q6) rfl ?_
    rintro _ w8 ⟨rfl, kb8, _, S9⟩
    have q7 := pw_len S9 hd'
    rw [e5, hdcb, e4] at q7
    ((iterate 5 (((apply vL_val); (case h => ((apply opv_E); exact rfl))))); apply vL_nil; apply seqP_normal; (iterate 2 (apply vC_seq)); apply vC_region; (iterate 18 (first | ((with_reducible apply vL_val); (case h => ((with_reducible apply opv_E); exact rfl))) | ((with_reducible apply vL_val); (case h => ((with_reducible apply opv_add); exact rfl; exact rfl; (first | omega | (simp only [List.length_map]; omega))))) | ((with_reducible apply vL_val); (case h => ((with_reducible apply opv_not); exact rfl))) | ((with_reducible apply vL_wanted); exact rfl))))
    refine vL_callF rfl (q7) rfl ?_
    rintro _ _ ⟨rfl, rfl⟩
    ((iterate 16 (first | with_reducible apply vC_seq | with_reducible apply vC_region | with_reducible apply seqP_normal | with_reducible apply vC_skip | ((with_reducible apply vL_val); (case h => ((with_reducible apply opv_E); exact rfl))) | with_reducible apply vL_nil | ((with_reducible apply vL_wanted); exact rfl) | (refine vC_cond_dec rfl (fun h => by omega) (fun _ => ?_)))); apply vC_block)
    (apply vC_loop1 2658435709160228094137190173313335360 18 (fun u w' => ∃ (i : Nat) (T' : PS K16) (kb' : List Bx) (dd : C16), u = .int .i64 (i : Int) ∧ i ≤ d.buf.length ∧ T'.cs[0]? = some dd ∧ dd.cb = cb ∧ dd.snd = [] ∧ dd.closed = true ∧ dd.buf = d.buf.drop i ∧ At (PWA (L16 wb) rb none 0 kb' T' * R6) w2 No w') (fun u _ => d.buf.length - (RowKit.intOf u).toNat)); (case h1 => (exact norm_eq rfl))
    case h0 => exact ⟨0, _, _, d', rfl, Nat.zero_le _, hd', by rw [e5, hdcb], e2, e1, by rw [e4]; rfl, S9⟩
    clear S9 S8 S7 S6 S5 q1 q2 q3 q4 q5 q6 q7 hd' e1 e2 e3 e4 e5 h51 h52 h53 h54
    case round =>
    rintro junk18 _ w9 ⟨i, T', kb9, dd, rfl, hi, hdd, f1, f2, f3, f4, S9⟩
    have q8 := pw_tryrecv S9 hdd
    rw [f1, tryRecv_left hdd f2, f3] at q8
    by_cases hil : i < d.buf.length
    · have hne : dd.buf.isEmpty = false := by
        rw [f4]; cases h : d.buf.drop i with
        | nil => have := congrArg List.length h; simp at this; omega
        | cons a b => rfl
      rw [hne] at q8
      change Rets _ _ _ _ (fun u w' => u = .tuple #[.int .i64 (dd.buf.headD 0), .bool true, .bool true] ∧ _) at q8
      ((iterate 2 (apply vC_seq)); apply vC_region; (iterate 3 (((apply vL_val); (case h => ((apply opv_E); exact rfl))))); apply vL_nil; apply seqP_normal; (refine vC_cond_dec rfl (fun _ => ?_) (fun h => by omega)); apply vC_skip; apply seqP_normal; apply vC_seq; apply vC_block; apply vC_seq; apply vC_region; ((apply vL_val); (case h => ((apply opv_E); exact rfl))))
      refine vL_callF rfl (q8) rfl ?_
      rintro _ w10 ⟨rfl, kb10, _, S10⟩
      ((iterate 21 (first | with_reducible apply vC_seq | with_reducible apply vC_region | with_reducible apply seqP_normal | ((with_reducible apply vL_val); (case h => ((with_reducible apply opv_E); exact rfl))) | ((with_reducible apply vL_val); (case h => ((with_reducible apply opv_not); exact rfl))) | with_reducible apply vL_nil | ((with_reducible apply vL_wanted); exact rfl))); ((apply vC_cond_false); exact rfl); apply vC_skip; apply blockP_normal; apply seqP_normal; apply vC_region; ((apply vL_val); (case h => ((apply opv_E); exact rfl))); ((apply vL_val); (case h => ((apply opv_add); exact rfl; exact rfl; (first | omega | (simp only [List.length_map]; omega))))); ((apply vL_val); (case h => ((apply opv_E); exact rfl))); apply vL_nil; apply loopP_normal)
      (with_reducible apply end1); (case hs => ((iterate 21 (((refine same_updO ?_ ?_); rotate_left; exact rfl))); ((refine same_upd ?_ ?_); rotate_left; exact rfl); (exact same_mask _ _ _))); (case h1 => (exact norm_eq rfl))
      · refine ⟨i + 1, _, kb10, { dd with buf := dd.buf.tail, closed := true }, rfl, by omega, ?_, f1, f2, rfl, ?_, S10⟩
        · show (T'.cs.set 0 _)[0]? = _
          rw [List.getElem?_set_self (List.getElem?_eq_some_iff.1 hdd).1]
        · show dd.buf.tail = _
          rw [f4, List.tail_drop]
      · simp [RowKit.intOf]; omega
    · have hne : dd.buf.isEmpty = true := by
        rw [f4, List.drop_eq_nil_of_le (by omega)]; rfl
      rw [hne] at q8
      change Rets _ _ _ _ (fun u w' => u = .tuple #[.int .i64 (dd.buf.headD 0), .bool false, .bool true] ∧ _) at q8
      ((iterate 2 (apply vC_seq)); apply vC_region; (iterate 3 (((apply vL_val); (case h => ((apply opv_E); exact rfl))))); apply vL_nil; apply seqP_normal; (refine vC_cond_dec rfl (fun h => by omega) (fun _ => ?_)); apply vC_exit; apply seqP_exit; apply loopP_exit; apply blockP_exit; apply seqP_normal; apply vC_seq; apply vC_region; ((apply vL_val); (case h => ((apply opv_E); exact rfl))))
      refine vL_callF rfl (q8) rfl ?_
      rintro _ w10 ⟨rfl, kb10, _, S10⟩
      ((iterate 6 (((apply vL_val); (case h => ((apply opv_E); exact rfl))))); apply vL_nil; apply seqP_normal; apply vC_seq; apply vC_region; (iterate 8 (first | ((with_reducible apply vL_val); (case h => ((with_reducible apply opv_E); exact rfl))) | ((with_reducible apply vL_val); (case h => ((with_reducible apply opv_not); exact rfl))) | ((with_reducible apply vL_wanted); exact rfl))))
      refine vL_callF rfl (awake16 _) rfl ?_
      rintro _ w11 ⟨rfl, hf11⟩
      ((iterate 2 (((apply vL_val); (case h => ((apply opv_E); exact rfl))))); apply vL_nil; apply seqP_normal; apply vC_ret)
      (apply ret1; (case h1 => (exact norm_eq rfl)))
      exact ⟨rfl, (hf02.trans S10.fr).trans hf11⟩
end Go.Proofs.YtbaidcnalkdhgaaGreat
set_option maxRecDepth 100000
namespace Go.Proofs.YtbaidcnalkdhgaaGreat
open Go Go.Eng
theorem pick_exact (x n : Int) (w : World) (hn : 1 ≤ n) (hn2 : n ≤ 4611686018427387904) : Rets Tryz.prog 13 #[.int .i64 x, .int .i64 n] w fun u w' => w = w' ∧ u = .int .i64 (x % n) := by
  have h1 : x.tmod n < n := Int.tmod_lt_of_pos x (by omega)
  have h2 : -n < x.tmod n := by
    have h3 := Int.tmod_lt_of_pos (-x) (b := n) (by omega)
    rw [Int.neg_tmod] at h3
    omega
  have h4 : x.tmod n = x - n * x.tdiv n := Int.tmod_def x n
  have key : ∀ k : Int, 0 ≤ x - n * k → x - n * k < n → x - n * k = x % n := fun k ha hb => by
    have := Int.emod_eq_of_lt ha hb
    rw [Int.sub_mul_emod_self_left] at this
    exact this.symm
  refine rets_of Tryz.func13 rfl Tryz.ntmps13 rfl rfl (by kernel_rfl) ?_
  ((iterate 19 (first | with_reducible apply vC_seq | with_reducible apply vC_region | with_reducible apply seqP_normal | with_reducible apply vC_skip | ((with_reducible apply vL_val); (case h => ((with_reducible apply opv_E); exact rfl))) | with_reducible apply vL_nil | (refine vC_cond_dec rfl (fun h => by omega) (fun _ => ?_)))))
  apply vL_val
  (case h => ((with_reducible apply opv_rem_t); exact rfl; exact rfl; omega))
  (((apply vL_val); (case h => ((apply opv_E); exact rfl))); apply vL_nil; apply seqP_normal; (iterate 2 (apply vC_seq)); apply vC_region; (iterate 2 (((apply vL_val); (case h => ((apply opv_E); exact rfl))))); apply vL_nil; apply seqP_normal)
  refine vC_cond_dec rfl (fun hc => ?_) (fun hc => ?_)
  · ((iterate 13 (first | with_reducible apply vC_seq | with_reducible apply vC_region | with_reducible apply seqP_normal | ((with_reducible apply vL_val); (case h => ((with_reducible apply opv_E); exact rfl))) | ((with_reducible apply vL_val); (case h => ((with_reducible apply opv_add); exact rfl; exact rfl; (first | omega | (simp only [List.length_map]; omega))))) | with_reducible apply vL_nil)); apply vC_ret)
    (apply ret1; (case h1 => (exact norm_eq rfl)))
    refine ⟨rfl, congrArg (Value.int .i64) ?_⟩
    have := key (x.tdiv n - 1) (by rw [Int.mul_sub]; omega) (by rw [Int.mul_sub]; omega)
    rw [Int.mul_sub] at this
    omega
  · (apply vC_skip; apply seqP_normal; apply vC_seq; apply vC_region; (iterate 2 (((apply vL_val); (case h => ((apply opv_E); exact rfl))))); apply vL_nil; apply seqP_normal; apply vC_ret)
    (apply ret1; (case h1 => (exact norm_eq rfl)))
    refine ⟨rfl, congrArg (Value.int .i64) ?_⟩
    have := key (x.tdiv n) (by omega) (by omega)
    omega
def boxI (w : World) : Value → Nat
  | .pointer (some p) => match w.heap[p.block]? with
    | some (.cells cs _ _) => (RowKit.intOf (cs[0]?.getD (.bool false))).toNat
    | _ => 0
  | _ => 0
theorem boxI_blk {w : World} {b k T : Nat} (h : Blk w.heap b [.int .i64 (k : Int)] T) : boxI w (pt b) = k := by
  unfold boxI
  show (match w.heap[b]? with | some (.cells cs _ _) => (RowKit.intOf (cs[0]?.getD (.bool false))).toNat | _ => 0) = k
  rw [h.get]
  simp [RowKit.intOf]
theorem setRow_sz (w : World) (b : Nat) (cs : Array Value) : (w.setRow b cs).heap.size = w.heap.size := by
  unfold World.setRow
  simp
theorem pw_addC {κ : Type} {L : LawP κ} {kb : List Bx} {S : PS κ} {nowi : Option Nat} {rb : Nat} {rest : Int} {w0 w : World} {F0 : Nat → Prop} {R : Asr} {cb b0 s0 r0 : Nat} {size : Int} (S1 : At (PWA L rb nowi rest kb S * (ChA_i rb ⟨cb, b0, s0, r0, size, [], [], [], false⟩ * R)) w0 F0 w) (hs : 0 ≤ size ∧ size ≤ 64) : At (PWA L rb nowi rest kb (S.addC ⟨cb, size, [], [], [], false⟩) * R) w0 F0 w := by
  obtain ⟨q, hp, S2⟩ := pw_open S1
  have P := prel_addC hp ⟨cb, b0, s0, r0, size, [], [], [], false⟩ ⟨cb, size, [], [], [], false⟩ rfl rfl ⟨rfl, rfl, rfl, rfl⟩ ⟨rfl, rfl, rfl, rfl⟩ hs
  refine pw_shut P (S2.ac ?_)
  rw [big_map_snoc]
  show _ = RtA rb (nowB S nowi) rest S.line q.ts * _
  ac_rfl
theorem order_begin {w w4 : World} {ib b9 b11 b12 b13 b14 b15 rb cb b0 s0 r0 : Nat} {size : Int} (hs : 0 ≤ size ∧ size ≤ 64) (S : At (Pt ib [.int .i64 0] 3 * (Pt b15 [.func (.func 19) #[] #[pt b13, pt b9, pt b11, pt b15]] 37 * (Pt b14 [.func (.func 16) #[] #[pt b13, pt b9, pt b12, pt b14]] 33 * (Pt b13 [.bool false] 4 * (Pt b12 [.int .i64 0] 3 * (Pt b11 [.slice none 0 0] 32 * (Pt b9 [pt cb] 28 * (ChA_i rb ⟨cb, b0, s0, r0, size, [], [], [], false⟩ * (RtA rb none 0 [] [] * Emp))))))))) w No w4) :
    At (Pt ib [.int .i64 0] 3 * (PWA (LO ⟨b13, b9, b12, b14, b11, b15, cb⟩) rb none 0 (statO ⟨b13, b9, b12, b14, b11, b15, cb⟩) ⟨[], [], [⟨cb, size, [], [], [], false⟩], []⟩ * (MO ⟨b13, b9, b12, b14, b11, b15, cb⟩ [] 0 * Emp))) w No w4 := by
  have h1 := pw_addC (pw_init (κ := KO) (L := LO ⟨b13, b9, b12, b14, b11, b15, cb⟩) (At.nil 3 1 iE S |>.ac (show _ = RtA rb none 0 [] [] * (ChA_i rb ⟨cb, b0, s0, r0, size, [], [], [], false⟩ * (Bxl (statO ⟨b13, b9, b12, b14, b11, b15, cb⟩) * (Pt ib [.int .i64 0] 3 * (Pt b13 [.bool false] 4 * (Pt b12 [.int .i64 0] 3 * (Pt b11 [.slice none 0 0] 32 * Ow 3 1 iE (.slice none 0 0) [])))))) by
    unfold statO
    rw [bxl_cons, bxl_cons, bxl_cons, show Bxl [] = Emp from rfl, star_emp, star_emp]
    unfold fS fR
    dsimp only
    ac_rfl))) hs
  have h2 := pw_boxes (kb := []) (statO ⟨b13, b9, b12, b14, b11, b15, cb⟩) (h1.ac (show _ = Bxl (statO ⟨b13, b9, b12, b14, b11, b15, cb⟩) * (PWA (LO ⟨b13, b9, b12, b14, b11, b15, cb⟩) rb none 0 [] (PS.addC ⟨[], [], [], []⟩ ⟨cb, size, [], [], [], false⟩) * (Pt ib [.int .i64 0] 3 * (Pt b13 [.bool false] 4 * (Pt b12 [.int .i64 0] 3 * (Pt b11 [.slice none 0 0] 32 * Ow 3 1 iE (.slice none 0 0) []))))) by ac_rfl))
  rw [List.append_nil] at h2
  have h3 := mo_got' (b := ⟨b13, b9, b12, b14, b11, b15, cb⟩) (told := 0) (got := []) (gv := .slice none 0 0) (R := Pt ib [.int .i64 0] 3 * Emp) (h2.ac (by rw [star_emp]; dsimp only; ac_rfl))
  exact h3.ac (show _ = Pt ib [.int .i64 0] 3 * (PWA (LO ⟨b13, b9, b12, b14, b11, b15, cb⟩) rb none 0 (statO ⟨b13, b9, b12, b14, b11, b15, cb⟩) ⟨[], [], [⟨cb, size, [], [], [], false⟩], []⟩ * (MO ⟨b13, b9, b12, b14, b11, b15, cb⟩ [] 0 * Emp)) by
    show PWA _ rb none 0 (statO ⟨b13, b9, b12, b14, b11, b15, cb⟩) ⟨[], [], [⟨cb, size, [], [], [], false⟩], []⟩ * _ = _
    ac_rfl)
theorem order16 (w : World) (vk : Value) (a b c : Int) (picks : List Int) (hk : Rd w.heap 1 uE vk picks) (hkb : ∀ x ∈ picks, 0 ≤ x ∧ x ≤ 18446744073709551615) (hko : vk.oneCell' = true) :
    Rets Tryz.prog 3 #[.agg #[.int .i64 a, .int .i64 b, .int .i64 c], vk] w fun u w' => u = .bool true ∧ Fr No w w' := by
  have hks := hk.small
  obtain ⟨ka, kc, rfl⟩ := hk.len
  refine rets_of Tryz.func3 rfl Tryz.ntmps3 rfl rfl (by kernel_rfl) ?_
  (apply vC_seq; apply vC_region; ((apply vL_val); (case h => ((apply opw_boxn); exact rfl))); ((apply vL_val); (case h => ((apply opv_E); exact rfl))); apply vL_nil; apply seqP_normal; apply vC_seq)
  refine vC_draw' ((fun wf => Blk wf.heap w.heap.size [.int .i64 a, .int .i64 b, .int .i64 c] 23)) (by (first | exact trivial | assumption | infer_instance | (skip; done))) ?_
  ((apply (tk 0)); (case hi => exact rfl); (case hf => kernel_rfl); (case hS => (first | exact trivial | assumption | infer_instance | (skip; done))); (case hy => (intro wf hwf; (try dsimp only at hwf); (((apply opv_fieldAddr); exact rfl)))))
  ((apply (tk 1)); (case hi => exact rfl); (case hf => kernel_rfl); (case hS => (first | exact trivial | assumption | infer_instance | (skip; done))); (case hy => (intro wf hwf; (try dsimp only at hwf); (((apply opv_loadb1); exact rfl; exact rfl; assumption; exact rfl)))))
  refine tkp 2 rfl (by kernel_rfl) (by (first | exact trivial | assumption | infer_instance | (skip; done))) rfl (fun wf hwf => pick_exact a 4 wf (by decide) (by decide)) rfl ?_
  ((apply (tk 3)); (case hi => exact rfl); (case hf => kernel_rfl); (case hS => (first | exact trivial | assumption | infer_instance | (skip; done))); (case hy => (intro wf hwf; (try dsimp only at hwf); (((apply opv_add); exact rfl; exact rfl; (first | omega | (simp only [List.length_map]; omega)))))))
  ((apply (tk 4)); (case hi => exact rfl); (case hf => kernel_rfl); (case hS => (first | exact trivial | assumption | infer_instance | (skip; done))); (case hy => (intro wf hwf; (try dsimp only at hwf); (((apply opv_fieldAddr); exact rfl)))))
  ((apply (tk 5)); (case hi => exact rfl); (case hf => kernel_rfl); (case hS => (first | exact trivial | assumption | infer_instance | (skip; done))); (case hy => (intro wf hwf; (try dsimp only at hwf); (((apply opv_loadb1); exact rfl; exact rfl; assumption; exact rfl)))))
  refine tkp 6 rfl (by kernel_rfl) (by (first | exact trivial | assumption | infer_instance | (skip; done))) rfl (fun wf hwf => pick_exact b 4 wf (by decide) (by decide)) rfl ?_
  ((apply (tk 7)); (case hi => exact rfl); (case hf => kernel_rfl); (case hS => (first | exact trivial | assumption | infer_instance | (skip; done))); (case hy => (intro wf hwf; (try dsimp only at hwf); (((apply opv_add); exact rfl; exact rfl; (first | omega | (simp only [List.length_map]; omega)))))))
  ((apply (tk 8)); (case hi => exact rfl); (case hf => kernel_rfl); (case hS => (first | exact trivial | assumption | infer_instance | (skip; done))); (case hy => (intro wf hwf; (try dsimp only at hwf); (((apply opv_fieldAddr); exact rfl)))))
  ((apply (tk 9)); (case hi => exact rfl); (case hf => kernel_rfl); (case hS => (first | exact trivial | assumption | infer_instance | (skip; done))); (case hy => (intro wf hwf; (try dsimp only at hwf); (((apply opv_loadb1); exact rfl; exact rfl; assumption; exact rfl)))))
  refine tkp 10 rfl (by kernel_rfl) (by (first | exact trivial | assumption | infer_instance | (skip; done))) rfl (fun wf hwf => pick_exact c 5 wf (by decide) (by decide)) rfl ?_
  ((apply (tk 11)); (case hi => exact rfl); (case hf => kernel_rfl); (case hS => (first | exact trivial | assumption | infer_instance | (skip; done))); (case hy => (intro wf hwf; (try dsimp only at hwf); (((apply opv_E); exact rfl)))))
  ((apply (tk 12)); (case hi => exact rfl); (case hf => kernel_rfl); (case hS => (first | exact trivial | assumption | infer_instance | (skip; done))); (case hy => (intro wf hwf; (try dsimp only at hwf); (((apply opv_E); exact rfl)))))
  ((apply (tk 13)); (case hi => exact rfl); (case hf => kernel_rfl); (case hS => (first | exact trivial | assumption | infer_instance | (skip; done))); (case hy => (intro wf hwf; (try dsimp only at hwf); (((apply opv_E); exact rfl)))))
  refine vA_done (by kernel_rfl) (by (first | exact trivial | assumption | infer_instance | (skip; done))) ?_
  have hnS : ∃ nS : Nat, 1 ≤ nS ∧ nS ≤ 4 ∧ 1 + a % 4 = (nS : Int) := ⟨(1 + a % 4).toNat, by omega, by omega, by omega⟩
  have hnR : ∃ nR : Nat, 1 ≤ nR ∧ nR ≤ 4 ∧ 1 + b % 4 = (nR : Int) := ⟨(1 + b % 4).toNat, by omega, by omega, by omega⟩
  obtain ⟨nS, hS1, hS4, enS⟩ := hnS
  obtain ⟨nR, hR1, hR4, enR⟩ := hnR
  rw [enS, enR]
  have hsz : 0 ≤ c % 5 ∧ c % 5 ≤ 64 := by omega
  generalize c % 5 = size at hsz ⊢
  (apply seqP_normal; apply vC_seq; apply vC_region)
  refine vL_gen (fun w' => Fr No w w') (show Fr No w _ by (apply Fr.drew; apply Fr.alloc; exact Fr.refl _ _)) ?_
  intro w1 hf1
  refine vL_callF rfl (r_newA (At.of_emp hf1)) rfl ?_
  rintro _ w2 ⟨rb, rfl, S1⟩
  (((apply vL_val); (case h => ((apply opv_E); exact rfl))); apply vL_nil; apply seqP_normal; apply vC_seq; apply vC_region; (iterate 2 (((apply vL_val); (case h => ((apply opv_E); exact rfl))))))
  refine vL_callF rfl (ch_make_i S1 size hsz) rfl ?_
  rintro _ w3 ⟨cb, b0, s0, r0, rfl, S2⟩
  ((iterate 3 (((apply vL_val); (case h => ((apply opv_E); exact rfl))))); ((apply vL_val); (case h => (apply opw_alloc))); ((apply vL_skip); (case h => ((apply ops_store1); exact norm_eq rfl; exact norm_eq rfl; (first | rfl | assumption); infer_instance; (first | decide | exact of_decide_eq_true rfl | (simp; done))))); ((apply vL_val); (case h => ((apply opv_E); exact rfl))); apply vL_nil; apply seqP_normal; (iterate 2 (apply vC_seq)); apply vC_region; (iterate 2 (((apply vL_val); (case h => ((apply opv_E); exact rfl))))); apply vL_nil; apply seqP_normal; ((apply vC_cond_false); exact rfl); apply vC_skip; (iterate 47 (first | with_reducible apply vC_seq | with_reducible apply vC_region | with_reducible apply seqP_normal | ((with_reducible apply vL_val); (case h => ((with_reducible apply opv_makeFunc); exact rfl))) | with_reducible apply vL_nil | ((with_reducible apply vL_val); (case h => (with_reducible apply opw_alloc))) | ((with_reducible apply vL_skip); (case h => ((with_reducible apply ops_store1); exact norm_eq rfl; exact norm_eq rfl; (first | rfl | assumption); infer_instance; (first | decide | exact of_decide_eq_true rfl | (simp; done))))))); apply vC_block)
  have S3 := (S2.alloc (cs := [.pointer none]) (T := 28)).set (cs' := [pt cb])
  have S4 := S3.alloc (cs := [.slice none 0 0]) (T := 32)
  have S5 := (S4.alloc (cs := [.int .i64 0]) (T := 3)).set (cs' := [.int .i64 0])
  have S6 := (S5.alloc (cs := [.bool false]) (T := 4)).set (cs' := [.bool false])
  have S7 := (S6.alloc (cs := [.nilFunc]) (T := 33)).set (cs' := [.func (.func 16) #[] #[pt (w3.heap.size + 1 + 1 + 1), pt w3.heap.size, pt (w3.heap.size + 1 + 1), pt (w3.heap.size + 1 + 1 + 1 + 1)]])
  have S8 := (S7.alloc (cs := [.nilFunc]) (T := 37)).set (cs' := [.func (.func 19) #[] #[pt (w3.heap.size + 1 + 1 + 1), pt w3.heap.size, pt (w3.heap.size + 1), pt (w3.heap.size + 1 + 1 + 1 + 1 + 1)]])
  have S9 := (S8.alloc (cs := [.int .i64 0]) (T := 3)).set (cs' := [.int .i64 0])
  clear S3 S4 S5 S6 S7 S8 S1 S2
  simp only [alloc_size, setRow_sz] at S9 ⊢
  refine vC_gen (fun w' => At _ w No w') S9 ?_
  clear S9
  intro w4 S4
  generalize w3.heap.size + 1 + 1 + 1 + 1 + 1 + 1 = ib at S4 ⊢
  generalize w3.heap.size + 1 + 1 + 1 + 1 + 1 = b15 at S4 ⊢
  generalize w3.heap.size + 1 + 1 + 1 + 1 = b14 at S4 ⊢
  generalize w3.heap.size + 1 + 1 + 1 = b13 at S4 ⊢
  generalize w3.heap.size + 1 + 1 = b12 at S4 ⊢
  generalize w3.heap.size + 1 = b11 at S4 ⊢
  generalize w3.heap.size = b9 at S4 ⊢
  obtain ⟨bo, rfl, rfl, rfl, rfl, rfl, rfl, rfl⟩ : ∃ bo : BO, b13 = bo.bad ∧ b9 = bo.cbx ∧ b12 = bo.told ∧ b14 = bo.snb ∧ b11 = bo.got ∧ b15 = bo.rvb ∧ cb = bo.cb := ⟨⟨b13, b9, b12, b14, b11, b15, cb⟩, rfl, rfl, rfl, rfl, rfl, rfl, rfl⟩
  have S5 : At (Pt ib [.int .i64 0] 3 * (PWA (LO bo) rb none 0 (statO bo) ⟨[], [], [⟨bo.cb, size, [], [], [], false⟩], []⟩ * (MO bo [] 0 * Emp))) w No w4 := order_begin hsz S4
  clear S4
  (apply vC_loop1 143833713099210752 16 (fun u w' => ∃ (k : Nat) (tl : List Nat) (kb : List Bx) (ln : List Int) (ib : Nat), u = pt ib ∧ k ≤ nS ∧ tl.length = k ∧ (∀ x ∈ statO bo, x ∈ kb) ∧ At (Pt ib [.int .i64 (k : Int)] 3 * (PWA (LO bo) rb none 0 kb ⟨stO nS tl, tl, [⟨bo.cb, size, [], [], [], false⟩], ln⟩ * (MO bo [] 0 * Emp))) w No w') (fun u w' => nS - boxI w' u)); (case h1 => (exact norm_eq rfl))
  case h0 => exact ⟨0, [], _, _, ib, rfl, Nat.zero_le _, rfl, fun x hx => hx, S5⟩
  clear S5
  case round =>
  rintro junk1 _ w5 ⟨k, tl, kb, ln, ib1, rfl, hkn, htl, hst, S6⟩
  have eib := S6.blk
  have hb0 := boxI_blk eib
  by_cases hlt : k < nS
  · have S7 := pw_box S6
    clear S6 eib
    have m1 : (ib1, [.int .i64 (k : Int)], 3) ∈ ((ib1, [.int .i64 (k : Int)], 3) :: kb : List Bx) := List.mem_cons_self
    have eib := pw_bx S7 m1
    ((iterate 2 (apply vC_seq)); apply vC_region; ((apply vL_val); (case h => ((apply opv_loadb1); exact rfl; exact rfl; assumption; exact rfl))); (iterate 2 (((apply vL_val); (case h => ((apply opv_E); exact rfl))))); apply vL_nil; apply seqP_normal; (refine vC_cond_dec rfl (fun _ => ?_) (fun h => by omega)); apply vC_skip; apply seqP_normal; apply vC_seq; apply vC_block; apply vC_region; ((apply vL_val); (case h => ((apply opv_E); exact rfl))); ((apply vL_val); (case h => ((apply opv_makeFunc); exact rfl))))
    refine vL_callF rfl (pw_spawn S7 (by show (stO nS tl).length < 200; rw [stO_len]; omega) 23 #[pt bo.snb, pt ib1] (fun tb => kO nS k tb) (fun tb fb tx kb' hk' h1 h2 => ⟨by unfold kO; split <;> rfl, fb, tx, rfl, h2, .inl ⟨by unfold kO; rw [if_pos hlt], ib1, h1, by unfold kO; rw [if_pos hlt]; exact hk' _ m1⟩⟩)) rfl ?_
    rintro _ w6 ⟨tb, rfl, kb', hk', S8⟩
    have eib6 := pw_bx S8 (hk' _ m1)
    have S9 : At (PWA (LO bo) rb none 0 kb' ⟨stO nS (tl ++ [tb]), tl ++ [tb], [⟨bo.cb, size, [], [], [], false⟩], readyL ln (stO nS tl).length⟩ * (MO bo [] 0 * Emp)) w No w6 := by
      rw [stO_snoc, htl]; exact S8
    clear S8 S7
    (apply vL_nil; apply blockP_normal; apply seqP_normal; (iterate 2 (apply vC_seq)); apply vC_region; ((apply vL_val); (case h => ((apply opv_loadb1); exact rfl; exact rfl; assumption; exact rfl))); (iterate 12 (first | with_reducible apply vC_region | with_reducible apply seqP_normal | ((with_reducible apply vL_val); (case h => ((with_reducible apply opv_loadb1); exact rfl; exact rfl; infer_instance; exact rfl))) | ((with_reducible apply vL_val); (case h => ((with_reducible apply opv_add); exact rfl; exact rfl; (first | omega | (simp only [List.length_map]; omega))))) | with_reducible apply vL_nil | ((with_reducible apply vL_val); (case h => (with_reducible apply opw_alloc))) | ((with_reducible apply vL_skip); (case h => ((with_reducible apply ops_store1); exact norm_eq rfl; exact norm_eq rfl; (first | rfl | assumption); infer_instance; (first | decide | exact of_decide_eq_true rfl | (simp; done))))))); apply loopP_normal)
    have S10 := ((S9.alloc (cs := [.int .i64 0]) (T := 3)).set (cs' := [.int .i64 (k : Int)])).set (cs' := [.int .i64 ((k : Int) + 1)])
    (with_reducible apply end1); (case hs => ((iterate 12 (first | with_reducible apply same_updN | ((with_reducible refine same_updO ?_ ?_); rotate_left; exact rfl))); ((refine same_upd ?_ ?_); rotate_left; exact rfl); (exact same_mask _ _ _))); (case h1 => (exact norm_eq rfl))
    · exact ⟨k + 1, tl ++ [tb], kb', _, _, rfl, by omega, by rw [List.length_append, htl]; rfl, fun x hx => hk' x (List.mem_cons_of_mem _ (hst x hx)), by rw [show ((k + 1 : Nat) : Int) = (k : Int) + 1 from rfl]; exact S10⟩
    · have hb2 := boxI_blk (k := k + 1) S10.blk
      rw [hb0]
      exact Nat.lt_of_le_of_lt (Nat.le_of_eq (congrArg (nS - ·) hb2)) (by omega)
  · have hke : k = nS := by omega
    have S7 := pw_box S6
    ((iterate 2 (apply vC_seq)); apply vC_region; ((apply vL_val); (case h => ((apply opv_loadb1); exact rfl; exact rfl; assumption; exact rfl))); (iterate 2 (((apply vL_val); (case h => ((apply opv_E); exact rfl))))); apply vL_nil; apply seqP_normal; (refine vC_cond_dec rfl (fun h => by omega) (fun _ => ?_)); apply vC_exit; apply seqP_exit; apply loopP_exit; apply blockP_exit; apply seqP_normal; (iterate 2 (apply vC_seq)); apply vC_region; ((apply vL_val); (case h => ((apply opv_E); exact rfl))); apply vL_nil; apply seqP_normal; apply vC_block)
    clear S6 eib
    (apply vC_loop1 36749372959343378432 17 (fun u w' => ∃ (j : Nat) (tl : List Nat) (kb : List Bx) (ln : List Int), u = .int .i64 (j : Int) ∧ j ≤ nR ∧ tl.length = nS + j ∧ (∀ x ∈ statO bo, x ∈ kb) ∧ At (PWA (LO bo) rb none 0 kb ⟨stO nS tl, tl, [⟨bo.cb, size, [], [], [], false⟩], ln⟩ * (MO bo [] 0 * Emp)) w No w') (fun u _ => nR - (RowKit.intOf u).toNat)); (case h1 => (exact norm_eq rfl))
    case h0 => exact ⟨0, tl, _, _, rfl, Nat.zero_le _, by omega, fun x hx => List.mem_cons_of_mem _ (hst x hx), S7⟩
    clear S7 hst htl
    case round =>
    rintro junk2 _ w6 ⟨j, tl, kb, ln, rfl, hjn, htl, hst, S6⟩
    have evr := pw_bx S6 (hst (bo.rvb, [fR bo], 37) (by simp [statO]))
    unfold fR at evr
    by_cases hlt : j < nR
    · ((iterate 2 (apply vC_seq)); apply vC_region; (iterate 3 (((apply vL_val); (case h => ((apply opv_E); exact rfl))))); apply vL_nil; apply seqP_normal; (refine vC_cond_dec rfl (fun _ => ?_) (fun h => by omega)); apply vC_skip; apply seqP_normal; apply vC_seq; apply vC_block; apply vC_region; ((apply vL_val); (case h => ((apply opv_E); exact rfl))); ((apply vL_val); (case h => ((apply opv_loadb1); exact rfl; exact rfl; assumption; exact rfl))))
      refine vL_callF rfl (pw_spawn S6 (by show (stO nS tl).length < 200; rw [stO_len]; omega) 19 #[pt bo.bad, pt bo.cbx, pt bo.got, pt bo.rvb] (fun tb => kO nS tl.length tb) (fun tb fb tx kb' hk' h1 h2 => ⟨by unfold kO; split <;> rfl, fb, tx, rfl, h2, .inr ⟨by unfold kO; rw [if_neg (by omega)], h1⟩⟩)) rfl ?_
      rintro _ w7 ⟨tb, rfl, kb', hk', S8⟩
      have S9 : At (PWA (LO bo) rb none 0 kb' ⟨stO nS (tl ++ [tb]), tl ++ [tb], [⟨bo.cb, size, [], [], [], false⟩], readyL ln (stO nS tl).length⟩ * (MO bo [] 0 * Emp)) w No w7 := by
        rw [stO_snoc]; exact S8
      clear S8 S6
      (apply vL_nil; apply blockP_normal; apply seqP_normal; apply vC_region; ((apply vL_val); (case h => ((apply opv_E); exact rfl))); ((apply vL_val); (case h => ((apply opv_add); exact rfl; exact rfl; (first | omega | (simp only [List.length_map]; omega))))); ((apply vL_val); (case h => ((apply opv_E); exact rfl))); apply vL_nil; apply loopP_normal)
      (with_reducible apply end1); (case hs => ((iterate 9 (((refine same_updO ?_ ?_); rotate_left; exact rfl))); ((refine same_upd ?_ ?_); rotate_left; exact rfl); (exact same_mask _ _ _))); (case h1 => (exact norm_eq rfl))
      · exact ⟨j + 1, tl ++ [tb], kb', _, rfl, by omega, by rw [List.length_append, htl]; rfl, fun x hx => hk' x (hst x hx), S9⟩
      · simp [RowKit.intOf]; omega
    · have hje : j = nR := by omega
      subst hje
      ((iterate 2 (apply vC_seq)); apply vC_region; (iterate 3 (((apply vL_val); (case h => ((apply opv_E); exact rfl))))); apply vL_nil; apply seqP_normal; (refine vC_cond_dec rfl (fun h => by omega) (fun _ => ?_)); apply vC_exit; apply seqP_exit; apply loopP_exit; apply blockP_exit; apply seqP_normal; (iterate 2 (apply vC_seq)); apply vC_region; ((apply vL_val); (case h => ((apply opv_E); exact rfl))); apply vL_nil; apply seqP_normal; apply vC_block)
      clear hlt hjn evr
      have I0 := invO_init (size := size) htl hsz.1 bo.cb ln
      (apply vC_loop1 10633823966279326946336968334825488400 18 (fun u w' => ∃ (k : Nat) (T : TO) (acc : List Int) (d : C16), u = .int .i64 (k : Int) ∧ k ≤ picks.length ∧ k ≤ 200 ∧ InvO nS j size T acc d ∧ d.cb = bo.cb ∧ At (WO bo rb T * Emp) w No w') (fun u _ => 200 - (RowKit.intOf u).toNat)); (case h1 => (exact norm_eq rfl))
      case h0 => exact ⟨0, ⟨⟨stO nS tl, tl, [⟨bo.cb, size, [], [], [], false⟩], ln⟩, [], 0⟩, [], _, rfl, Nat.zero_le _, by decide, I0, rfl, wo_shut hst S6⟩
      clear S6 I0 hst htl
      case round =>
      rintro junk3 _ w7 ⟨k, T, acc, d, rfl, hkl, hk2, I, hdc, S7⟩
      have hk7 := hk.frN S7.fr
      by_cases hlt : k < picks.length ∧ k < 200
      · obtain ⟨hlt1, hlt2⟩ := hlt
        obtain ⟨p, hp⟩ : ∃ p, picks[k]? = some p := ⟨_, List.getElem?_eq_getElem hlt1⟩
        have hp' : picks[((k : Nat) : Int).toNat]? = some p := by rw [Int.toNat_natCast]; exact hp
        have hpb := hkb p (List.mem_of_getElem? hp)
        ((iterate 2 (apply vC_seq)); apply vC_region; (iterate 10 (first | ((with_reducible apply vL_val); (case h => ((with_reducible apply opv_E); exact rfl))) | ((with_reducible apply vL_val); (case h => ((with_reducible apply opv_lenc); exact rfl))) | ((with_reducible apply vL_wanted); exact rfl) | (refine vL_and rfl rfl (fun _ => ?_) (fun h => by omega)))); apply vL_nil; apply seqP_normal; (refine vC_cond_dec rfl (fun _ => ?_) (fun h => by omega)); apply vC_skip; apply seqP_normal; apply vC_seq; apply vC_block; apply vC_seq; apply vC_region; (iterate 3 (((apply vL_val); (case h => ((apply opv_E); exact rfl))))); ((apply vL_val); (case h => ((apply opv_indexAddr); exact norm_eq rfl; exact rfl; assumption; (first | omega | (simp only [List.length_map]; omega)); (first | omega | (simp only [List.length_map]; omega))))); ((apply vL_val); (case h => ((apply opv_ld_el); exact rfl; exact rfl; assumption; assumption; exact rfl))))
        obtain ⟨kb7, hst7, S8⟩ := wo_open S7
        refine vL_callF rfl (o_step S8 I hdc hst7 (by omega) p hpb) rfl ?_
        intro u9 w9 h9
        have hex : ∃ (T' : TO) (acc' : List Int) (d' : C16) (kb' : List Bx), InvO nS j size T' acc' d' ∧ d'.cb = bo.cb ∧ (∀ x ∈ statO bo, x ∈ kb') ∧ At (PWA (LO bo) rb none 0 kb' T'.S * (MO bo T'.got T'.told * Emp)) w No w9 := by
          rcases h9 with ⟨_, _, h3, _⟩ | ⟨T', acc', d', _, h2, ⟨_, h4⟩, _, kb', h6, h7⟩
          · subst h3; exact ⟨T, acc, d, kb7, I, hdc, hst7, S8⟩
          · exact ⟨T', acc', d', kb', h2, by rw [h4]; exact hdc, fun x hx => h6 x (hst7 x hx), h7⟩
        clear h9 S8 S7 hst7 I hdc
        obtain ⟨T', acc', d', kb', I', hdc', hst', S9⟩ := hex
        have ec := pw_bx S9 (hst' (bo.cbx, [pt bo.cb], 28) (by simp [statO]))
        have hd0 : T'.S.cs[0]? = some d' := by rw [I'.cs]; rfl
        (apply vL_nil; apply seqP_normal; apply vC_seq; apply vC_region; ((apply vL_val); (case h => ((apply opv_loadb1); exact rfl; exact rfl; assumption; exact rfl))))
        have hw := pw_waits S9 (j := 0) (d := d') hd0
        rw [hdc'] at hw
        refine vL_callF rfl (hw) rfl ?_
        rintro _ w10 ⟨rfl, S10⟩
        clear S9 hw ec
        have ec := pw_bx S10 (hst' (bo.cbx, [pt bo.cb], 28) (by simp [statO]))
        have hlen := pw_len S10 (j := 0) (d := d') hd0
        rw [hdc'] at hlen
        have hroom := I'.room
        have hgl := got_len I'
        obtain ⟨gv, Sg⟩ := mo_got S10
        have eg := Sg.blk
        have og := (Sg.ac (show _ = Ow 3 1 iE gv T'.got * (Pt bo.got [gv] 32 * (PWA (LO bo) rb none 0 kb' T'.S * (Pt bo.bad [.bool false] 4 * (Pt bo.told [.int .i64 T'.told] 3 * Emp)))) by ac_rfl)).own.1
        have eb := (mo_bad S10).blk
        have orr := og.rd
        obtain ⟨ga, gc, rfl⟩ := orr.len
        ((iterate 5 (((apply vL_val); (case h => ((apply opv_E); exact rfl))))); apply vL_nil; apply seqP_normal; apply vC_seq; apply vC_region; ((apply vL_val); (case h => ((apply opv_loadb1); exact rfl; exact rfl; assumption; exact rfl))))
        refine vL_callF rfl (hlen) rfl ?_
        rintro _ _ ⟨rfl, rfl⟩
        by_cases hr : 0 < d'.rcv.length
        · obtain ⟨h1, h2⟩ := I'.i1 (List.ne_nil_of_length_pos hr)
          have hs0 : d'.snd.length = 0 := by rw [h1]; rfl
          have hb0 : d'.buf.length = 0 := by rw [h2]; rfl
          ((iterate 16 (first | ((with_reducible apply vL_val); (case h => ((with_reducible apply opv_E); exact rfl))) | ((with_reducible apply vL_wanted); exact rfl) | (refine vL_and rfl rfl (fun _ => ?_) (fun h => by omega)) | (refine vL_or rfl rfl (fun _ => ?_) (fun h => by omega)))); ((apply vL_val); (case h => ((apply opv_loadb1); exact rfl; exact rfl; assumption; exact rfl))); ((apply vL_wanted); exact rfl))
          refine vL_callF rfl (hlen) rfl ?_
          rintro _ _ ⟨rfl, rfl⟩
          ((iterate 37 (first | ((with_reducible apply vL_val); (case h => ((with_reducible apply opv_E); exact rfl))) | ((with_reducible apply vL_val); (case h => ((with_reducible apply opv_loadb1); exact rfl; exact rfl; assumption; exact rfl))) | ((with_reducible apply vL_val); (case h => ((with_reducible apply opv_lenc); exact rfl))) | ((with_reducible apply vL_val); (case h => ((with_reducible apply opv_mul); exact rfl; exact rfl; (first | omega | (simp only [List.length_map]; omega))))) | ((with_reducible apply vL_wanted); exact rfl) | ((with_reducible apply vL_unwanted'); exact rfl; exact rfl) | (refine vL_and rfl rfl (fun h => by omega) (fun _ => ?_)) | (refine vL_or rfl rfl (fun _ => ?_) (fun h => by omega)))); apply vL_nil; apply seqP_normal; ((apply vC_cond_false); exact rfl); apply vC_skip; apply blockP_normal; apply seqP_normal; apply vC_region; ((apply vL_val); (case h => ((apply opv_E); exact rfl))); ((apply vL_val); (case h => ((apply opv_add); exact rfl; exact rfl; (first | omega | (simp only [List.length_map]; omega))))); ((apply vL_val); (case h => ((apply opv_E); exact rfl))); apply vL_nil; apply loopP_normal)
          (with_reducible apply end1); (case hs => ((iterate 9 (first | ((with_reducible refine same_updO ?_ ?_); rotate_left; exact rfl) | ((with_reducible refine same_upd ?_ ?_); rotate_left; exact rfl))); (iterate 60 (first | ((with_reducible refine same_updO ?_ ?_); rotate_left; exact rfl) | ((with_reducible refine same_upd ?_ ?_); rotate_left; exact rfl))); (exact same_mask _ _ _))); (case h1 => (exact norm_eq rfl))
          · exact ⟨k + 1, T', acc', d', rfl, by omega, by omega, I', hdc', wo_shut hst' S10⟩
          · simp [RowKit.intOf]; omega
        · by_cases hs : 0 < d'.snd.length
          · have h2 := I'.i2 (List.ne_nil_of_length_pos hs)
            ((iterate 26 (first | ((with_reducible apply vL_val); (case h => ((with_reducible apply opv_E); exact rfl))) | ((with_reducible apply vL_wanted); exact rfl) | ((with_reducible apply vL_unwanted'); exact rfl; exact rfl) | ((with_reducible apply vL_unwanted_none); exact rfl) | (refine vL_and rfl rfl (fun h => by omega) (fun _ => ?_)) | (refine vL_or rfl rfl (fun _ => ?_) (fun h => by omega)))); (refine vL_and rfl rfl (fun _ => ?_) (fun h => by omega)); ((apply vL_val); (case h => ((apply opv_loadb1); exact rfl; exact rfl; assumption; exact rfl))); ((apply vL_wanted); exact rfl))
            refine vL_callF rfl (hlen) rfl ?_
            rintro _ _ ⟨rfl, rfl⟩
            ((iterate 23 (first | ((with_reducible apply vL_val); (case h => ((with_reducible apply opv_E); exact rfl))) | ((with_reducible apply vL_val); (case h => ((with_reducible apply opv_loadb1); exact rfl; exact rfl; assumption; exact rfl))) | ((with_reducible apply vL_val); (case h => ((with_reducible apply opv_lenc); exact rfl))) | ((with_reducible apply vL_val); (case h => ((with_reducible apply opv_mul); exact rfl; exact rfl; (first | omega | (simp only [List.length_map]; omega))))) | ((with_reducible apply vL_wanted); exact rfl) | (refine vL_or rfl rfl (fun _ => ?_) (fun h => by omega)))); apply vL_nil; apply seqP_normal; ((apply vC_cond_false); exact rfl); apply vC_skip; apply blockP_normal; apply seqP_normal; apply vC_region; ((apply vL_val); (case h => ((apply opv_E); exact rfl))); ((apply vL_val); (case h => ((apply opv_add); exact rfl; exact rfl; (first | omega | (simp only [List.length_map]; omega))))); ((apply vL_val); (case h => ((apply opv_E); exact rfl))); apply vL_nil; apply loopP_normal)
            (with_reducible apply end1); (case hs => ((iterate 8 (first | ((with_reducible refine same_updO ?_ ?_); rotate_left; exact rfl) | ((with_reducible refine same_upd ?_ ?_); rotate_left; exact rfl))); (iterate 60 (first | ((with_reducible refine same_updO ?_ ?_); rotate_left; exact rfl) | ((with_reducible refine same_upd ?_ ?_); rotate_left; exact rfl))); (exact same_mask _ _ _))); (case h1 => (exact norm_eq rfl))
            · exact ⟨k + 1, T', acc', d', rfl, by omega, by omega, I', hdc', wo_shut hst' S10⟩
            · simp [RowKit.intOf]; omega
          · ((iterate 30 (first | ((with_reducible apply vL_val); (case h => ((with_reducible apply opv_E); exact rfl))) | ((with_reducible apply vL_wanted); exact rfl) | ((with_reducible apply vL_unwanted'); exact rfl; exact rfl) | ((with_reducible apply vL_unwanted_none); exact rfl) | (refine vL_and rfl rfl (fun h => by omega) (fun _ => ?_)) | (refine vL_or rfl rfl (fun _ => ?_) (fun h => by omega)))); (iterate 19 (first | ((with_reducible apply vL_val); (case h => ((with_reducible apply opv_E); exact rfl))) | ((with_reducible apply vL_val); (case h => ((with_reducible apply opv_loadb1); exact rfl; exact rfl; assumption; exact rfl))) | ((with_reducible apply vL_val); (case h => ((with_reducible apply opv_lenc); exact rfl))) | ((with_reducible apply vL_val); (case h => ((with_reducible apply opv_mul); exact rfl; exact rfl; (first | omega | (simp only [List.length_map]; omega))))) | ((with_reducible apply vL_wanted); exact rfl) | (refine vL_or rfl rfl (fun _ => ?_) (fun h => by omega)))); apply vL_nil; apply seqP_normal; ((apply vC_cond_false); exact rfl); apply vC_skip; apply blockP_normal; apply seqP_normal; apply vC_region; ((apply vL_val); (case h => ((apply opv_E); exact rfl))); ((apply vL_val); (case h => ((apply opv_add); exact rfl; exact rfl; (first | omega | (simp only [List.length_map]; omega))))); ((apply vL_val); (case h => ((apply opv_E); exact rfl))); apply vL_nil; apply loopP_normal)
            (with_reducible apply end1); (case hs => ((iterate 5 (((refine same_updO ?_ ?_); rotate_left; exact rfl))); ((refine same_upd ?_ ?_); rotate_left; exact rfl); (iterate 60 (first | ((with_reducible refine same_updO ?_ ?_); rotate_left; exact rfl) | ((with_reducible refine same_upd ?_ ?_); rotate_left; exact rfl))); ((refine same_upd ?_ ?_); rotate_left; exact rfl); (exact same_mask _ _ _))); (case h1 => (exact norm_eq rfl))
            · exact ⟨k + 1, T', acc', d', rfl, by omega, by omega, I', hdc', wo_shut hst' S10⟩
            · simp [RowKit.intOf]; omega
      · repeat (with_reducible apply vC_seq)
        refine vC_meet1 9407839477591871324160 72 (.bool false) (fun w' => w' = w7) ?_ ?_
        · by_cases g0 : k < picks.length
          · have g1 : ¬ k < 200 := fun h => hlt ⟨g0, h⟩
            (apply vC_region; (iterate 10 (first | ((with_reducible apply vL_val); (case h => ((with_reducible apply opv_E); exact rfl))) | ((with_reducible apply vL_val); (case h => ((with_reducible apply opv_lenc); exact rfl))) | ((with_reducible apply vL_wanted); exact rfl) | (refine vL_and rfl rfl (fun _ => ?_) (fun h => by omega)))); apply vL_nil)
            exact ⟨rfl, by (((iterate 9 (first | ((with_reducible refine same_updO ?_ ?_); rotate_left; exact rfl) | ((with_reducible refine same_upd ?_ ?_); rotate_left; exact rfl)))); exact fun _ _ => rfl), by first | rfl | exact congrArg Value.bool (decide_eq_false (by omega)), rfl⟩
          · (apply vC_region; (iterate 8 (first | ((with_reducible apply vL_val); (case h => ((with_reducible apply opv_E); exact rfl))) | ((with_reducible apply vL_val); (case h => ((with_reducible apply opv_lenc); exact rfl))) | ((with_reducible apply vL_unwanted'); exact rfl; exact rfl) | (refine vL_and rfl rfl (fun h => by omega) (fun _ => ?_)))); apply vL_nil)
            exact ⟨rfl, by (((iterate 9 (first | ((with_reducible refine same_updO ?_ ?_); rotate_left; exact rfl) | ((with_reducible refine same_upd ?_ ?_); rotate_left; exact rfl)))); exact fun _ _ => rfl), by first | rfl | exact congrArg Value.bool (decide_eq_false (by omega)), rfl⟩
        rintro junk4 _ rfl
        clear hlt hk2 hkl hk7
        (apply seqP_normal; ((apply vC_cond_false); exact rfl); apply vC_exit; apply seqP_exit; apply loopP_exit; apply blockP_exit; apply seqP_normal; apply vC_seq; apply vC_region; ((apply vL_val); (case h => ((apply opv_E); exact rfl))))
        refine vL_callF rfl (w_runO S7 I hdc (by omega) hR1 (by omega)) rfl ?_
        rintro _ w8 ⟨T8, d8, hF, hcs8, hd8, S8⟩
        clear S7 I hdc
        (apply vL_nil; apply seqP_normal; apply vC_seq; apply vC_region)
        refine vL_val opw_makeMap ?_
        refine vL_gen (fun w' => At (Ma w8.heap.size ikE ivO ([] : List (Int × Int)) * (WO bo rb T8 * Emp)) w No w') (at_newmap S8) ?_
        intro w9 S9
        generalize w8.heap.size = mr at S9 ⊢
        obtain ⟨kb9, hst9, S10⟩ := wo_open (S9.ac (show _ = WO bo rb T8 * (Ma mr ikE ivO ([] : List (Int × Int)) * Emp) by ac_rfl))
        obtain ⟨gv, S11⟩ := mo_got S10
        have eg := S11.blk
        have og := (S11.ac (show _ = Ow 3 1 iE gv T8.got * (Pt bo.got [gv] 32 * (PWA (LO bo) rb none 0 kb9 T8.S * (Pt bo.bad [.bool false] 4 * (Pt bo.told [.int .i64 T8.told] 3 * (Ma mr ikE ivO ([] : List (Int × Int)) * Emp))))) by ac_rfl)).own.1
        have orr := og.rd
        obtain ⟨ga, gc, rfl⟩ := orr.len
        (((apply vL_val); (case h => ((apply opv_assign); ((conv => lhs; whnf) <;> exact rfl)))); apply vL_nil; apply seqP_normal; (iterate 2 (apply vC_seq)); apply vC_region; ((apply vL_val); (case h => ((apply opv_loadb1); exact rfl; exact rfl; assumption; exact rfl))); ((apply vL_val); (case h => ((apply opv_lenc); exact rfl))); ((apply vL_val); (case h => ((apply opv_E); exact rfl))); apply vL_nil; apply seqP_normal; apply vC_block)
        have S12 := S11.ac (show _ = Ma mr ikE ivO ([] : List (Int × Int)) * (Pt bo.got [(.slice ga T8.got.length gc)] 32 * (Ow 3 1 iE (.slice ga T8.got.length gc) T8.got * (PWA (LO bo) rb none 0 kb9 T8.S * (Pt bo.bad [.bool false] 4 * (Pt bo.told [.int .i64 T8.told] 3 * Emp))))) by ac_rfl)
        clear S11 S10 S9 S8 og orr eg
        have hbuf := hF.buf
        have hsix := hF.six
        have hfl := hF.len
        have hft := hF.told
        (apply vC_loop1 713623506070613019590679521350140136431550480 128 (fun u w' => ∃ (p : Nat) (M : List (Int × Int)), u = .int .i64 (p : Int) ∧ p ≤ T8.got.length ∧ MCnt M (T8.got.take p) ∧ At (Ma mr ikE ivO M * (Pt bo.got [(.slice ga T8.got.length gc)] 32 * (Ow 3 1 iE (.slice ga T8.got.length gc) T8.got * (PWA (LO bo) rb none 0 kb9 T8.S * (Pt bo.bad [.bool false] 4 * (Pt bo.told [.int .i64 T8.told] 3 * Emp)))))) w No w') (fun u _ => T8.got.length - (RowKit.intOf u).toNat)); (case h1 => (exact norm_eq rfl))
        case h0 => exact ⟨0, [], rfl, Nat.zero_le _, MCnt.nil, S12⟩
        clear S12
        case round =>
        rintro junk5 _ w10 ⟨p, M, rfl, hp, hM, S13⟩
        have hmp := S13.map
        have og := (S13.ac (show _ = Ow 3 1 iE (.slice ga T8.got.length gc) T8.got * (Ma mr ikE ivO M * (Pt bo.got [(.slice ga T8.got.length gc)] 32 * (PWA (LO bo) rb none 0 kb9 T8.S * (Pt bo.bad [.bool false] 4 * (Pt bo.told [.int .i64 T8.told] 3 * Emp))))) by ac_rfl)).own.1
        have orr := og.rd
        by_cases hlt : p < T8.got.length
        · obtain ⟨v, hv⟩ : ∃ v, T8.got[p]? = some v := ⟨_, List.getElem?_eq_getElem hlt⟩
          have hv' : T8.got[((p : Nat) : Int).toNat]? = some v := by rw [Int.toNat_natCast]; exact hv
          obtain ⟨hv0, hv1⟩ := hF.rng v (List.mem_of_getElem? hv)
          have hord : j = 1 → v % 100 = (cntO (T8.got.take p) (v / 100) : Int) := fun h => hF.ord h p v hv
          have hcnt : cntO (T8.got.take p) (v / 100) ≤ 24 := by
            have a : cntO (T8.got.take p) (v / 100) ≤ (T8.got.take p).length := List.length_filter_le _ _
            rw [List.length_take] at a
            omega
          (apply vC_seq; apply vC_region; ((apply vL_val); (case h => ((apply opv_E); exact rfl))); apply vL_nil; apply seqP_normal; apply vC_seq; (refine vC_cond_dec rfl (fun _ => ?_) (fun h => by omega)); apply vC_skip; apply seqP_normal; apply vC_seq; apply vC_block; apply vC_seq; apply vC_region; ((apply vL_val); (case h => ((apply opv_indexAddr); exact norm_eq rfl; exact rfl; assumption; (first | omega | (simp only [List.length_map]; omega)); (first | omega | (simp only [List.length_map]; omega))))); ((apply vL_val); (case h => ((apply opv_ld_el); exact rfl; exact rfl; assumption; assumption; exact rfl))); ((apply vL_val); (case h => ((apply opv_E); exact rfl))); apply vL_nil; apply seqP_normal; (iterate 2 (apply vC_seq)); apply vC_region; ((apply vL_val); (case h => ((apply opv_E); exact rfl))); ((apply vL_val); (case h => ((apply opv_rem); exact rfl; exact rfl; (first | omega | (simp only [List.length_map]; omega)); (first | omega | (simp only [List.length_map]; omega))))); ((apply vL_val); (case h => ((apply opv_move); ((conv => lhs; whnf) <;> exact rfl)))); ((apply vL_val); (case h => ((apply opv_E); exact rfl))); ((apply vL_val); (case h => ((apply opv_quo); exact rfl; exact rfl; (first | omega | (simp only [List.length_map]; omega)); (first | omega | (simp only [List.length_map]; omega))))))
          refine vL_val (opv_lookup' (kE := ikE) (vE := ivO) (key := v / 100) rfl rfl hmp (hM (v / 100))) ?_
          by_cases heq : v % 100 = (cntO (T8.got.take p) (v / 100) : Int)
          · skip
            ((iterate 2 (((apply vL_val); (case h => ((apply opv_E); exact rfl))))); (refine vL_and rfl rfl (fun h => by omega) (fun _ => ?_)); ((apply vL_unwanted'); exact rfl; exact rfl); ((apply vL_val); (case h => ((apply opv_E); exact rfl))); apply vL_nil; apply seqP_normal; ((apply vC_cond_false); exact rfl); apply vC_skip; apply seqP_normal; apply vC_region; ((apply vL_val); (case h => ((apply opv_move); ((conv => lhs; whnf) <;> exact rfl)))); ((apply vL_val); (case h => ((apply opv_E); exact rfl))); ((apply vL_val); (case h => ((apply opv_quo); exact rfl; exact rfl; (first | omega | (simp only [List.length_map]; omega)); (first | omega | (simp only [List.length_map]; omega))))))
            refine vL_val (opv_lookup' (kE := ikE) (vE := ivO) (key := v / 100) rfl rfl hmp (hM (v / 100))) ?_
            (((apply vL_val); (case h => ((apply opv_add); exact rfl; exact rfl; (first | omega | (simp only [List.length_map]; omega))))))
            refine vL_mapUpdate (kE := ikE) (vE := ivO) (key := v / 100) (val := (cntO (T8.got.take p) (v / 100) : Int) + 1) rfl rfl rfl hmp ?_
            intro w11 hm11 hf11
            have S14 := S13.maTo hf11 hm11
            (apply vL_nil; apply blockP_normal; apply seqP_normal; apply vC_region; ((apply vL_val); (case h => ((apply opv_add); exact rfl; exact rfl; (first | omega | (simp only [List.length_map]; omega))))); ((apply vL_val); (case h => ((apply opv_E); exact rfl))); apply vL_nil; apply loopP_normal)
            (with_reducible apply end1); (case hs => ((iterate 25 (first | with_reducible apply same_updN | ((with_reducible refine same_updO ?_ ?_); rotate_left; exact rfl) | ((with_reducible refine same_upd ?_ ?_); rotate_left; exact rfl))); (exact same_mask _ _ _))); (case h1 => (exact norm_eq rfl))
            · exact ⟨p + 1, _, rfl, by omega, by rw [List.take_add_one, hv]; exact hM.add v, S14⟩
            · simp [RowKit.intOf]; omega
          · have hj1 : ¬ ((j : Int) = 1) := fun h => heq (hord (by omega))
            ((iterate 7 (first | ((with_reducible apply vL_val); (case h => ((with_reducible apply opv_E); exact rfl))) | ((with_reducible apply vL_wanted); exact rfl) | (refine vL_and rfl rfl (fun _ => ?_) (fun h => by omega)))); apply vL_nil; apply seqP_normal; (refine vC_cond_dec rfl (fun h => by omega) (fun _ => ?_)); apply vC_skip; apply seqP_normal; apply vC_region; ((apply vL_val); (case h => ((apply opv_move); ((conv => lhs; whnf) <;> exact rfl)))); ((apply vL_val); (case h => ((apply opv_E); exact rfl))); ((apply vL_val); (case h => ((apply opv_quo); exact rfl; exact rfl; (first | omega | (simp only [List.length_map]; omega)); (first | omega | (simp only [List.length_map]; omega))))))
            refine vL_val (opv_lookup' (kE := ikE) (vE := ivO) (key := v / 100) rfl rfl hmp (hM (v / 100))) ?_
            (((apply vL_val); (case h => ((apply opv_add); exact rfl; exact rfl; (first | omega | (simp only [List.length_map]; omega))))))
            refine vL_mapUpdate (kE := ikE) (vE := ivO) (key := v / 100) (val := (cntO (T8.got.take p) (v / 100) : Int) + 1) rfl rfl rfl hmp ?_
            intro w11 hm11 hf11
            have S14 := S13.maTo hf11 hm11
            (apply vL_nil; apply blockP_normal; apply seqP_normal; apply vC_region; ((apply vL_val); (case h => ((apply opv_add); exact rfl; exact rfl; (first | omega | (simp only [List.length_map]; omega))))); ((apply vL_val); (case h => ((apply opv_E); exact rfl))); apply vL_nil; apply loopP_normal)
            (with_reducible apply end1); (case hs => ((iterate 25 (first | with_reducible apply same_updN | ((with_reducible refine same_updO ?_ ?_); rotate_left; exact rfl) | ((with_reducible refine same_upd ?_ ?_); rotate_left; exact rfl))); (exact same_mask _ _ _))); (case h1 => (exact norm_eq rfl))
            · exact ⟨p + 1, _, rfl, by omega, by rw [List.take_add_one, hv]; exact hM.add v, S14⟩
            · simp [RowKit.intOf]; omega
        · have hpe : p = T8.got.length := by omega
          subst hpe
          rw [List.take_length] at hM
          have hmn : ∀ i : Nat, i < nS → ((mget M (i : Int)).map ivO).getD (.int .i64 0) = .int .i64 6 := fun i hi => by
            rw [hM (i : Int)]
            exact congrArg (fun n : Nat => Value.int .i64 (n : Int)) (hsix i hi)
          (apply vC_seq; apply vC_region; ((apply vL_val); (case h => ((apply opv_E); exact rfl))); apply vL_nil; apply seqP_normal; apply vC_seq; (refine vC_cond_dec rfl (fun h => by omega) (fun _ => ?_)); apply vC_exit; apply seqP_exit; apply loopP_exit; apply blockP_exit; (iterate 12 (first | with_reducible apply vC_seq | with_reducible apply vC_region | with_reducible apply seqP_normal | ((with_reducible apply vL_val); (case h => ((with_reducible apply opv_E); exact rfl))) | with_reducible apply vL_nil)); apply vC_block)
          clear hM hlt hp
          (apply vC_loop2 11691299474800870365688949518745539409679319302160 24 25 (fun u v w' => ∃ i : Nat, u = .int .i64 (6 * (i : Int)) ∧ v = .int .i64 (i : Int) ∧ i ≤ nS ∧ w' = w10) (fun _ v _ => nS - (RowKit.intOf v).toNat)); (case h1 => (exact norm_eq rfl)); (case h2 => (exact norm_eq rfl))
          case h0 => exact ⟨0, rfl, rfl, Nat.zero_le _, rfl⟩
          case round =>
          rintro junk6 _ _ _ ⟨i, rfl, rfl, hi, rfl⟩
          by_cases hlt : i < nS
          · ((iterate 2 (apply vC_seq)); apply vC_region; (iterate 3 (((apply vL_val); (case h => ((apply opv_E); exact rfl))))); apply vL_nil; apply seqP_normal; (refine vC_cond_dec rfl (fun _ => ?_) (fun h => by omega)); apply vC_skip; apply seqP_normal; apply vC_seq; apply vC_block; apply vC_seq; apply vC_region; ((apply vL_val); (case h => ((apply opv_E); exact rfl))); ((apply vL_val); (case h => ((apply opv_move); ((conv => lhs; whnf) <;> exact rfl)))); ((apply vL_val); (case h => ((apply opv_E); exact rfl))))
            refine vL_val (opv_lookup' (kE := ikE) (vE := ivO) (key := (i : Int)) rfl rfl hmp (hmn i hlt)) ?_
            (((apply vL_val); (case h => ((apply opv_add); exact rfl; exact rfl; (first | omega | (simp only [List.length_map]; omega))))); ((apply vL_val); (case h => ((apply opv_E); exact rfl))); apply vL_nil; apply seqP_normal; apply vC_seq; apply vC_region; ((apply vL_val); (case h => ((apply opv_move); ((conv => lhs; whnf) <;> exact rfl)))); ((apply vL_val); (case h => ((apply opv_E); exact rfl))))
            refine vL_val (opv_lookup' (kE := ikE) (vE := ivO) (key := (i : Int)) rfl rfl hmp (hmn i hlt)) ?_
            (((apply vL_val); (case h => ((apply opv_E); exact rfl))); apply vL_nil; apply seqP_normal; ((apply vC_cond_false); exact rfl); apply vC_skip; apply blockP_normal; apply seqP_normal; apply vC_region; ((apply vL_val); (case h => ((apply opv_E); exact rfl))); ((apply vL_val); (case h => ((apply opv_add); exact rfl; exact rfl; (first | omega | (simp only [List.length_map]; omega))))); ((apply vL_val); (case h => ((apply opv_E); exact rfl))); apply vL_nil; apply loopP_normal)
            (with_reducible apply end2); (case hs => ((iterate 16 (((refine same_updO ?_ ?_); rotate_left; exact rfl))); (iterate 2 (((refine same_upd ?_ ?_); rotate_left; exact rfl))); (exact same_mask _ _ _))); (case h1 => (exact norm_eq rfl)); (case h2 => (exact norm_eq rfl))
            · exact ⟨i + 1, by rw [show ((i + 1 : Nat) : Int) = (i : Int) + 1 from rfl]; exact congrArg (Value.int .i64) (by omega), rfl, by omega, rfl⟩
            · simp [RowKit.intOf]; omega
          · have hie : i = nS := by omega
            subst hie
            have S14 := mo_got' (b := bo) (gv := .slice ga T8.got.length gc) (got := T8.got) (told := T8.told) (kb := kb9) (S := T8.S) (rb := rb) (nowi := none) (rest := 0) (R := Ma mr ikE ivO M * Emp) (S13.ac (by ac_rfl))
            have eg := (S13.ac (show _ = Pt bo.got [.slice ga T8.got.length gc] 32 * (Ma mr ikE ivO M * (Ow 3 1 iE (.slice ga T8.got.length gc) T8.got * (PWA (LO bo) rb none 0 kb9 T8.S * (Pt bo.bad [.bool false] 4 * (Pt bo.told [.int .i64 T8.told] 3 * Emp))))) by ac_rfl)).blk
            have et := (mo_told S14).blk
            have ec := pw_bx S14 (hst9 (bo.cbx, [pt bo.cb], 28) (by simp [statO]))
            have hlen := pw_len S14 (j := 0) (d := d8) (by rw [hcs8]; rfl)
            rw [hd8, hbuf] at hlen
            rw [hft] at et
            ((iterate 2 (apply vC_seq)); apply vC_region; (iterate 3 (((apply vL_val); (case h => ((apply opv_E); exact rfl))))); apply vL_nil; apply seqP_normal; (refine vC_cond_dec rfl (fun h => by omega) (fun _ => ?_)); apply vC_exit; apply seqP_exit; apply loopP_exit; apply blockP_exit; apply seqP_normal; apply vC_seq; apply vC_region; (iterate 18 (first | ((with_reducible apply vL_val); (case h => ((with_reducible apply opv_E); exact rfl))) | ((with_reducible apply vL_val); (case h => ((with_reducible apply opv_loadb1); exact rfl; exact rfl; assumption; exact rfl))) | ((with_reducible apply vL_val); (case h => ((with_reducible apply opv_lenc); exact rfl))) | ((with_reducible apply vL_wanted); exact rfl) | (refine vL_and rfl rfl (fun _ => ?_) (fun h => by omega)))))
            refine vL_callF rfl (hlen) rfl ?_
            rintro _ _ ⟨rfl, rfl⟩
            (((apply vL_wanted); exact rfl); (iterate 3 (((apply vL_val); (case h => ((apply opv_E); exact rfl))))); ((apply vL_wanted); exact rfl))
            refine vL_callF rfl (awake16 _) rfl ?_
            rintro _ w12 ⟨rfl, hf12⟩
            have hfin := S14.fr.trans hf12
            ((iterate 2 (((apply vL_val); (case h => ((apply opv_E); exact rfl))))); apply vL_nil; apply seqP_normal; apply vC_ret)
            (apply ret1; (case h1 => (exact norm_eq rfl)))
            exact ⟨rfl, hfin⟩
end Go.Proofs.YtbaidcnalkdhgaaGreat
set_option maxRecDepth 100000
namespace Go.Proofs.YtbaidcnalkdhgaaGreat
open Go Go.Eng Go.ChangeShapes Go.WideShapes Go.ChangeAt Go.RowKit
theorem own_knob : ownKnob Tryz.prog.godebug = none := by kernel_rfl
theorem laid_out : laidOutB Tryz.prog = true := by kernel_rfl
theorem cells_int : Tryz.prog.cellsOf 3 = 1 := by kernel_rfl
theorem cells_bool : Tryz.prog.cellsOf 4 = 1 := by kernel_rfl
theorem cells_u64 : Tryz.prog.cellsOf 43 = 1 := by kernel_rfl
theorem cells_do : Tryz.prog.cellsOf 167 = 5 := by kernel_rfl
theorem cells_dos : Tryz.prog.cellsOf 168 = 1 := by kernel_rfl
theorem cells_cases : Tryz.prog.cellsOf 165 = 1 := by kernel_rfl
section
variable {H : Type} {enc : TypeId × Value → H} {W : World}
theorem trod_struct5 {P : Program} {base : Nat} {spare : Bool} {held : Nat → Bool} {t : TypeId} {f0 f1 f2 f3 f4 : Field} {fuel : Nat} {cs : List Value} {x : DataW H × List MemPlace} (ht : P.underlying t = some (.struct #[f0, f1, f2, f3, f4])) (h : DataW.trod enc P W base held spare fuel t cs = some x) :
    ∃ y0 y1 y2 y3 y4 n, cs.length = P.cellsOf t ∧ DataW.trod enc P W base held spare n f0.type ((cs.drop f0.offset).take (P.cellsOf f0.type)) = some y0 ∧
      DataW.trod enc P W base held spare n f1.type ((cs.drop f1.offset).take (P.cellsOf f1.type)) = some y1 ∧ DataW.trod enc P W base held spare n f2.type ((cs.drop f2.offset).take (P.cellsOf f2.type)) = some y2 ∧
      DataW.trod enc P W base held spare n f3.type ((cs.drop f3.offset).take (P.cellsOf f3.type)) = some y3 ∧ DataW.trod enc P W base held spare n f4.type ((cs.drop f4.offset).take (P.cellsOf f4.type)) = some y4 := by
  obtain ⟨xs, n, _, rfl, hl, hlen, hf⟩ := DataW.trod_struct ht h
  match xs, hlen with
  | [y0, y1, y2, y3, y4], _ => exact ⟨y0, y1, y2, y3, y4, n, hl, by simpa using hf 0 f0 rfl, by simpa using hf 1 f1 rfl, by simpa using hf 2 f2 rfl, by simpa using hf 3 f3 rfl, by simpa using hf 4 f4 rfl⟩
theorem open_u64s {base : Nat} {v : Value} {d : DataW H} {ps : List MemPlace} (hval : Value.okWide Tryz.prog W .any base 24 v) (h : DataW.Trod enc Tryz.prog W 0 (fun _ => true) true 24 v d ps) :
    ∃ xs : List Int, Rd W.heap 1 uE v xs ∧ (∀ x ∈ xs, 0 ≤ x ∧ x ≤ 18446744073709551615) ∧ ((d = .nil ∧ xs = []) ∨ ∃ es spr, d = .slice es spr ∧ es.length = xs.length) :=
  rd_open Tryz.underlying24 cells_u64 (fun _ => rfl) (fun n cs y hy => by
    obtain ⟨a, rfl, _, hw⟩ := DataW.trod_int Tryz.underlying43 hy
    exact ⟨a, rfl, Go.Eng.wf_u64 hw⟩) hval h
theorem open_ints {base : Nat} {v : Value} {d : DataW H} {ps : List MemPlace} (hval : Value.okWide Tryz.prog W .any base 32 v) (h : DataW.Trod enc Tryz.prog W 0 (fun _ => true) true 32 v d ps) :
    ∃ xs : List Int, Rd W.heap 1 iE v xs ∧ (∀ x ∈ xs, -9223372036854775808 ≤ x ∧ x ≤ 9223372036854775807) ∧ ((d = .nil ∧ xs = []) ∨ ∃ es spr, d = .slice es spr ∧ es.length = xs.length) :=
  rd_open Tryz.underlying32 cells_int (fun _ => rfl) (fun n cs y hy => by
    obtain ⟨a, rfl, _, hw⟩ := DataW.trod_int Tryz.underlying3 hy
    exact ⟨a, rfl, Go.Eng.wf_i64 hw⟩) hval h
theorem open_cases {n : Nat} {cs : List Value} {y : DataW H × List MemPlace} (hy : DataW.trod enc Tryz.prog W 0 (fun _ => true) true n 165 cs = some y) : ∃ v : OV, cs = [v.1] := by
  rcases Deep.open_slice Tryz.underlying165 hy with ⟨h1, h2⟩ | ⟨a, len, cap, m, n, D, Pl, h1, _⟩
  · exact ⟨⟨.slice none 0 0, rfl⟩, h1⟩
  · exact ⟨⟨_, rfl⟩, h1⟩
theorem open_progs {base : Nat} {v : Value} {d : DataW H} {ps : List MemPlace} (hval : Value.okWide Tryz.prog W .any base 51 v) (h : DataW.Trod enc Tryz.prog W 0 (fun _ => true) true 51 v d ps) :
    ∃ P : List (OV × List Do5), Pz16 W.heap v P := by
  obtain ⟨a0, len0, cap0, rfl⟩ := okWide_slice Tryz.underlying51 hval
  obtain ⟨fuel, hf⟩ := h
  obtain ⟨v, P, h1, h2, h3⟩ := Go.Eng.rd_openW (enc' := oE) (wf := fun (y : OV × List Do5) => Rd W.heap 5 do5 y.1.1 y.2) Tryz.underlying51 cells_dos (by decide) (fun _ => rfl) (fun n cs y hy => by
    obtain ⟨u, xs, h1, h2, h3⟩ := Go.Eng.rd_openW (enc' := do5) (wf := fun _ => True) Tryz.underlying168 cells_do (by decide) (fun _ => rfl) (fun n cs y hy => by
      obtain ⟨y0, y1, y2, y3, y4, m, hl, g0, g1, g2, g3, g4⟩ := trod_struct5 Tryz.underlying167 hy
      rw [cells_do] at hl
      match cs, hl with
      | [c0, c1, c2, c3, c4], _ =>
        rw [cells_int] at g0 g1 g2
        rw [cells_cases] at g3
        rw [cells_bool] at g4
        obtain ⟨a, h0, _, w0⟩ := DataW.trod_int Tryz.underlying3 g0
        obtain ⟨b, h1, _, w1⟩ := DataW.trod_int Tryz.underlying3 g1
        obtain ⟨c, h2, _, w2⟩ := DataW.trod_int Tryz.underlying3 g2
        obtain ⟨u, h3⟩ := open_cases g3
        obtain ⟨f, h4, _⟩ := DataW.trod_bool Tryz.underlying4 g4
        simp at h0 h1 h2 h3 h4
        subst h0; subst h1; subst h2; subst h3; subst h4
        exact ⟨⟨a, b, c, u, f⟩, rfl, trivial⟩) hy
    exact ⟨(u, xs), h1, h2⟩) hf
  simp [Value.cells] at h1
  rw [h1]
  exact ⟨P, h2, fun y hy => h3 y hy, v.2⟩
end
end Go.Proofs.YtbaidcnalkdhgaaGreat
set_option maxRecDepth 100000
namespace Go.Proofs.YtbaidcnalkdhgaaGreat
open Go Go.Eng Go.ChangeShapes Go.WideShapes Go.ChangeAt Go.RowKit
theorem cells_crowd : Tryz.prog.cellsOf 23 = 3 := by kernel_rfl
section
variable {H : Type} {enc : TypeId × Value → H} {W : World}
theorem trod_struct3' {P : Program} {base : Nat} {spare : Bool} {held : Nat → Bool} {t : TypeId} {f0 f1 f2 : Field} {fuel : Nat} {cs : List Value} {x : DataW H × List MemPlace} (ht : P.underlying t = some (.struct #[f0, f1, f2])) (h : DataW.trod enc P W base held spare fuel t cs = some x) :
    ∃ y0 y1 y2 n, cs.length = P.cellsOf t ∧ DataW.trod enc P W base held spare n f0.type ((cs.drop f0.offset).take (P.cellsOf f0.type)) = some y0 ∧
      DataW.trod enc P W base held spare n f1.type ((cs.drop f1.offset).take (P.cellsOf f1.type)) = some y1 ∧ DataW.trod enc P W base held spare n f2.type ((cs.drop f2.offset).take (P.cellsOf f2.type)) = some y2 := by
  obtain ⟨xs, n, _, rfl, hl, hlen, hf⟩ := DataW.trod_struct ht h
  match xs, hlen with
  | [y0, y1, y2], _ => exact ⟨y0, y1, y2, n, hl, by simpa using hf 0 f0 rfl, by simpa using hf 1 f1 rfl, by simpa using hf 2 f2 rfl⟩
theorem open_crowd {base : Nat} {v : Value} {d : DataW H} {ps : List MemPlace} (hval : Value.okWide Tryz.prog W .any base 23 v) (h : DataW.Trod enc Tryz.prog W 0 (fun _ => true) true 23 v d ps) :
    ∃ a b c : Int, v = .agg #[.int .i64 a, .int .i64 b, .int .i64 c] := by
  obtain ⟨cs, rfl, _⟩ := okWide_struct Tryz.underlying23 hval
  obtain ⟨fuel, hf⟩ := h
  obtain ⟨y0, y1, y2, m, hl, g0, g1, g2⟩ := trod_struct3' Tryz.underlying23 hf
  rw [cells_crowd] at hl
  have e : (Value.agg cs).cells = cs := rfl
  rw [e] at hl g0 g1 g2
  obtain ⟨c0, c1, c2, hc⟩ : ∃ c0 c1 c2, cs.toList = [c0, c1, c2] := by
    match cs.toList, hl with
    | [c0, c1, c2], _ => exact ⟨c0, c1, c2, rfl⟩
  rw [hc, cells_int] at g0 g1 g2
  obtain ⟨a, h0, _⟩ := DataW.trod_int Tryz.underlying3 g0
  obtain ⟨b, h1, _⟩ := DataW.trod_int Tryz.underlying3 g1
  obtain ⟨c, h2, _⟩ := DataW.trod_int Tryz.underlying3 g2
  simp at h0 h1 h2
  subst h0; subst h1; subst h2
  refine ⟨a, b, c, ?_⟩
  rw [← Array.toArray_toList (xs := cs), hc]
end
end Go.Proofs.YtbaidcnalkdhgaaGreat
