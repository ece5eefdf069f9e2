/- Contracts of layer 9: index and its reference, the statements' helpers. -/
import Derived.Test.YtfceebbkjogedaaT
import Derived.Test.YtfceebbkjogedaaEj
set_option maxRecDepth 100000
namespace Go.Proofs.Ytfceebbkjogedaa
open Go Go.Eng

def iE (n : Int) : List Value := [.int .i64 n]
def pE (q : Int × Int) : List Value := [.int .i64 q.1, .int .i64 q.2]
instance encI : EncOk iE 1 := ⟨by intro x u h; simp [iE] at h; rw [h]; rfl, fun _ => rfl⟩
instance encP : EncOk pE 2 := ⟨by intro x u h; simp [pE] at h; rcases h with rfl | rfl <;> rfl, fun _ => rfl⟩

/-! ### the plain functions -/
def badSize (n : Int) : Bool := decide (n < 0 ∨ 1073741824 < n)
def stepB (every : Int) (s : List (Int × Int) × Int × Int) (q : Int × Nat) : List (Int × Int) × Int × Int :=
  if s.2.1 - s.2.2 ≥ every then (s.1 ++ [((q.2 : Int), s.2.1)], s.2.1 + q.1, s.2.1) else (s.1, s.2.1 + q.1, s.2.2)
def buildS (xs : List Int) (every : Int) (k : Nat) : List (Int × Int) × Int × Int := ((xs.take k).zipIdx).foldl (stepB every) ([(0, 0)], 0, 0)
def refuses (xs : List Int) (every : Int) : Bool := decide (every < 1) || decide (65536 < xs.length) || xs.any badSize
def okPair (a b : Int × Int) : Bool := decide (a.1 < b.1) && decide (a.2 ≤ b.2) && decide (b.1 ≤ 4611686018427387904) && decide (b.2 ≤ 4611686018427387904)
def okUpTo (l : List (Int × Int)) (k : Nat) : Prop := ∀ j, j + 1 < k → ∀ a b, l[j]? = some a → l[j + 1]? = some b → okPair a b = true
def rightL (l : List (Int × Int)) : Prop := l[0]? = some (0, 0) ∧ okUpTo l l.length

theorem build1 (n : Int) (w : World) :
    Rets Try.prog 62 #[.int .i64 n] w fun v w' => v = .bool (badSize n) ∧ Fr No w w' := by
  refine rets_of Try.func62 rfl Try.ntmps62 rfl rfl (by kernel_rfl) ?_
  (apply vC_seq; apply vC_region; ((apply vL_val); (case h => ((apply opv_E); exact rfl))); apply vL_nil; apply seqP_normal; apply vC_seq; apply vC_region; (iterate 3 (((apply vL_val); (case h => ((apply opv_E); exact rfl))))))
  refine vL_or rfl rfl (fun h => ?_) (fun h => ?_)
  · (((apply vL_val); (case h => ((apply opv_E); exact rfl))); ((apply vL_wanted); exact rfl); (iterate 3 (((apply vL_val); (case h => ((apply opv_E); exact rfl))))); apply vL_nil; apply seqP_normal; apply vC_ret)
    (apply ret1; (case h1 => (first | exact norm_eq rfl | ((conv => lhs; whnf) <;> exact rfl))))
    refine ⟨?_, Fr.refl _ _⟩
    simp [h, badSize]
  · (((apply vL_unwanted'); exact rfl; exact rfl); (iterate 2 (((apply vL_val); (case h => ((apply opv_E); exact rfl))))); apply vL_nil; apply seqP_normal; apply vC_ret)
    (apply ret1; (case h1 => (first | exact norm_eq rfl | ((conv => lhs; whnf) <;> exact rfl))))
    refine ⟨?_, Fr.refl _ _⟩
    simp [h, badSize]
theorem indexFunc_int (fv v : Value) (p : Int → Bool) (xs : List Int) (w : World) (f : FuncId) (cap : List Value) [FnOk Try.prog f] (hr : Rd w.heap 1 iE v xs) (hfv : fv = .func (.func f) #[] cap.toArray)
    (hf : ∀ x w1, Fr No w w1 → Rets Try.prog f (Value.int .i64 x :: cap).toArray w1 fun v w2 => v = .bool (p x) ∧ Fr No w1 w2) :
    Rets Try.prog 87 #[v, fv] w fun u w' => Fr No w w' ∧ ((u = .int .i64 (-1) ∧ ∀ x ∈ xs, p x = false) ∨ ∃ k : Nat, u = .int .i64 k ∧ k < xs.length ∧ (∃ x, xs[k]? = some x ∧ p x = true) ∧ ∀ j, j < k → ∀ x, xs[j]? = some x → p x = false) := by
  subst hfv
  have hs := hr.small
  refine rets_of Try.func87 rfl Try.ntmps87 rfl rfl (by kernel_rfl) ?_
  (apply vC_seq; apply vC_region; ((apply vL_val); (case h => ((apply opv_E); exact rfl))); apply vL_nil; apply seqP_normal; (iterate 2 (apply vC_seq)); apply vC_region; ((apply vL_val); (case h => ((apply opv_move); ((conv => lhs; whnf) <;> exact rfl)))); ((apply vL_val); (case h => ((apply opv_len); (first | exact norm_eq rfl | ((conv => lhs; whnf) <;> exact rfl)); (first | assumption | infer_instance)))); ((apply vL_val); (case h => ((apply opv_E); exact rfl))); apply vL_nil; apply seqP_normal; apply vC_block)
  (apply vC_loop1 524080 8 (fun u w' => ∃ k : Nat, u = .int .i64 k ∧ k ≤ xs.length ∧ Fr No w w' ∧ ∀ j, j < k → ∀ x, xs[j]? = some x → p x = false) (fun u _ => xs.length - (RowKit.intOf u).toNat)); (case h1 => (first | exact norm_eq rfl | ((conv => lhs; whnf) <;> exact rfl)))
  case h0 => exact ⟨0, rfl, by omega, Fr.refl _ _, by omega⟩
  case round =>
  rintro junk _ w1 ⟨k, rfl, hk, hfr, hp⟩
  have hr1 := Rd.frN hfr hr
  (apply vC_seq; apply vC_region; ((apply vL_val); (case h => ((apply opv_E); exact rfl))); apply vL_nil; apply seqP_normal; apply vC_seq)
  refine vC_cond_dec rfl (fun h => ?_) (fun h => ?_)
  · have hk' : k < xs.length := by omega
    obtain ⟨x, hx⟩ : ∃ x, xs[k]? = some x := ⟨xs[k], by simp [hk']⟩
    (apply vC_skip; apply seqP_normal; apply vC_seq; apply vC_block; apply vC_seq; apply vC_region; (iterate 2 (((apply vL_val); (case h => ((apply opv_E); exact rfl))))); apply vL_nil; apply seqP_normal; apply vC_seq; apply vC_region; ((apply vL_val); (case h => ((apply opv_E); exact rfl))); ((apply vL_val); (case h => ((apply opv_move); ((conv => lhs; whnf) <;> exact rfl)))); ((apply vL_val); (case h => ((apply opv_E); exact rfl))); ((apply vL_val); (case h => ((apply opv_indexAddr); (first | exact norm_eq rfl | ((conv => lhs; whnf) <;> exact rfl)); exact rfl; (first | assumption | infer_instance); (first | omega | (simp only [List.length_map]; omega)); (first | omega | (simp only [List.length_map]; omega))))); ((apply vL_val); (case h => ((apply opv_ld_el); exact rfl; exact rfl; (first | assumption | infer_instance); assumption; exact rfl))))
    refine vL_callF rfl (hf x w1 hfr) rfl ?_
    rintro _ w2 ⟨rfl, hfr2⟩
    have hfr3 := hfr.trans hfr2
    (apply vL_nil; apply seqP_normal)
    refine vC_cond rfl (fun hpx => ?_) (fun hpx => ?_)
    · (apply vC_seq; apply vC_region; (iterate 2 (((apply vL_val); (case h => ((apply opv_E); exact rfl))))); apply vL_nil; apply seqP_normal; apply vC_ret; apply blockP_ret; apply seqP_ret; apply loopP_ret; apply blockP_ret; apply seqP_ret)
      (apply ret1; (case h1 => (first | exact norm_eq rfl | ((conv => lhs; whnf) <;> exact rfl))))
      exact ⟨hfr3, .inr ⟨k, rfl, hk', ⟨x, hx, hpx⟩, hp⟩⟩
    · (apply vC_skip; apply blockP_normal; apply seqP_normal; apply vC_region; ((apply vL_val); (case h => ((apply opv_add); exact rfl; exact rfl; (first | omega | (simp only [List.length_map]; omega))))); ((apply vL_val); (case h => ((apply opv_E); exact rfl))); apply vL_nil; apply loopP_normal)
      (with_reducible apply end1); (case hs => ((repeat (first | with_reducible apply same_updN | ((with_reducible refine same_updO ?_ ?_); rotate_left; exact rfl) | ((with_reducible refine same_upd ?_ ?_); rotate_left; exact rfl))); exact same_mask _ _ _)); (case h1 => (first | exact norm_eq rfl | ((conv => lhs; whnf) <;> exact rfl)))
      · exact ⟨k + 1, rfl, by omega, hfr3, fun j hj y hy => by
          by_cases e : j = k
          · subst e; rw [hx] at hy; cases hy; exact hpx
          · exact hp j (by omega) y hy⟩
      · simp [RowKit.intOf]; omega
  · (apply vC_exit; apply seqP_exit; apply loopP_exit; apply blockP_exit; apply seqP_normal; apply vC_seq; apply vC_region; ((apply vL_val); (case h => ((apply opv_E); exact rfl))); apply vL_nil; apply seqP_normal; apply vC_ret)
    (apply ret1; (case h1 => (first | exact norm_eq rfl | ((conv => lhs; whnf) <;> exact rfl))))
    refine ⟨hfr, .inl ⟨rfl, fun x hx => ?_⟩⟩
    obtain ⟨j, hj, rfl⟩ := List.getElem_of_mem hx
    exact hp j (by omega) _ (List.getElem?_eq_getElem hj)
theorem indexFunc_pair (fv v : Value) (p : (Int × Int) → Bool) (xs : List (Int × Int)) (w : World) (f : FuncId) (cap : List Value) [FnOk Try.prog f] (hr : Rd w.heap 2 pE v xs) (hfv : fv = .func (.func f) #[] cap.toArray)
    (hf : ∀ x w1, Fr No w w1 → Rets Try.prog f (Value.agg (pE x).toArray :: cap).toArray w1 fun v w2 => v = .bool (p x) ∧ Fr No w1 w2) :
    Rets Try.prog 63 #[v, fv] w fun u w' => Fr No w w' ∧ ((u = .int .i64 (-1) ∧ ∀ x ∈ xs, p x = false) ∨ ∃ k : Nat, u = .int .i64 k ∧ k < xs.length ∧ (∃ x, xs[k]? = some x ∧ p x = true) ∧ ∀ j, j < k → ∀ x, xs[j]? = some x → p x = false) := by
  subst hfv
  have hs := hr.small
  refine rets_of Try.func63 rfl Try.ntmps63 rfl rfl (by kernel_rfl) ?_
  (apply vC_seq; apply vC_region; ((apply vL_val); (case h => ((apply opv_E); exact rfl))); apply vL_nil; apply seqP_normal; (iterate 2 (apply vC_seq)); apply vC_region; ((apply vL_val); (case h => ((apply opv_move); ((conv => lhs; whnf) <;> exact rfl)))); ((apply vL_val); (case h => ((apply opv_len); (first | exact norm_eq rfl | ((conv => lhs; whnf) <;> exact rfl)); (first | assumption | infer_instance)))); ((apply vL_val); (case h => ((apply opv_E); exact rfl))); apply vL_nil; apply seqP_normal; apply vC_block)
  (apply vC_loop1 524080 8 (fun u w' => ∃ k : Nat, u = .int .i64 k ∧ k ≤ xs.length ∧ Fr No w w' ∧ ∀ j, j < k → ∀ x, xs[j]? = some x → p x = false) (fun u _ => xs.length - (RowKit.intOf u).toNat)); (case h1 => (first | exact norm_eq rfl | ((conv => lhs; whnf) <;> exact rfl)))
  case h0 => exact ⟨0, rfl, by omega, Fr.refl _ _, by omega⟩
  case round =>
  rintro junk _ w1 ⟨k, rfl, hk, hfr, hp⟩
  have hr1 := Rd.frN hfr hr
  (apply vC_seq; apply vC_region; ((apply vL_val); (case h => ((apply opv_E); exact rfl))); apply vL_nil; apply seqP_normal; apply vC_seq)
  refine vC_cond_dec rfl (fun h => ?_) (fun h => ?_)
  · have hk' : k < xs.length := by omega
    obtain ⟨x, hx⟩ : ∃ x, xs[k]? = some x := ⟨xs[k], by simp [hk']⟩
    (apply vC_skip; apply seqP_normal; apply vC_seq; apply vC_block; apply vC_seq; apply vC_region; (iterate 2 (((apply vL_val); (case h => ((apply opv_E); exact rfl))))); apply vL_nil; apply seqP_normal; apply vC_seq; apply vC_region; ((apply vL_val); (case h => ((apply opv_E); exact rfl))); ((apply vL_val); (case h => ((apply opv_move); ((conv => lhs; whnf) <;> exact rfl)))); ((apply vL_val); (case h => ((apply opv_E); exact rfl))); ((apply vL_val); (case h => ((apply opv_indexAddr); (first | exact norm_eq rfl | ((conv => lhs; whnf) <;> exact rfl)); exact rfl; (first | assumption | infer_instance); (first | omega | (simp only [List.length_map]; omega)); (first | omega | (simp only [List.length_map]; omega))))); ((apply vL_val); (case h => ((apply opv_ld_eln); exact rfl; exact rfl; (first | assumption | infer_instance); assumption))))
    refine vL_callF rfl (hf x w1 hfr) rfl ?_
    rintro _ w2 ⟨rfl, hfr2⟩
    have hfr3 := hfr.trans hfr2
    (apply vL_nil; apply seqP_normal)
    refine vC_cond rfl (fun hpx => ?_) (fun hpx => ?_)
    · (apply vC_seq; apply vC_region; (iterate 2 (((apply vL_val); (case h => ((apply opv_E); exact rfl))))); apply vL_nil; apply seqP_normal; apply vC_ret; apply blockP_ret; apply seqP_ret; apply loopP_ret; apply blockP_ret; apply seqP_ret)
      (apply ret1; (case h1 => (first | exact norm_eq rfl | ((conv => lhs; whnf) <;> exact rfl))))
      exact ⟨hfr3, .inr ⟨k, rfl, hk', ⟨x, hx, hpx⟩, hp⟩⟩
    · (apply vC_skip; apply blockP_normal; apply seqP_normal; apply vC_region; ((apply vL_val); (case h => ((apply opv_add); exact rfl; exact rfl; (first | omega | (simp only [List.length_map]; omega))))); ((apply vL_val); (case h => ((apply opv_E); exact rfl))); apply vL_nil; apply loopP_normal)
      (with_reducible apply end1); (case hs => ((repeat (first | with_reducible apply same_updN | ((with_reducible refine same_updO ?_ ?_); rotate_left; exact rfl) | ((with_reducible refine same_upd ?_ ?_); rotate_left; exact rfl))); exact same_mask _ _ _)); (case h1 => (first | exact norm_eq rfl | ((conv => lhs; whnf) <;> exact rfl)))
      · exact ⟨k + 1, rfl, by omega, hfr3, fun j hj y hy => by
          by_cases e : j = k
          · subst e; rw [hx] at hy; cases hy; exact hpx
          · exact hp j (by omega) y hy⟩
      · simp [RowKit.intOf]; omega
  · (apply vC_exit; apply seqP_exit; apply loopP_exit; apply blockP_exit; apply seqP_normal; apply vC_seq; apply vC_region; ((apply vL_val); (case h => ((apply opv_E); exact rfl))); apply vL_nil; apply seqP_normal; apply vC_ret)
    (apply ret1; (case h1 => (first | exact norm_eq rfl | ((conv => lhs; whnf) <;> exact rfl))))
    refine ⟨hfr, .inl ⟨rfl, fun x hx => ?_⟩⟩
    obtain ⟨j, hj, rfl⟩ := List.getElem_of_mem hx
    exact hp j (by omega) _ (List.getElem?_eq_getElem hj)
theorem containsFunc_int (fv v : Value) (p : Int → Bool) (xs : List Int) (w : World) (f : FuncId) (cap : List Value) [FnOk Try.prog f] (hr : Rd w.heap 1 iE v xs) (hfv : fv = .func (.func f) #[] cap.toArray)
    (hf : ∀ x w1, Fr No w w1 → Rets Try.prog f (Value.int .i64 x :: cap).toArray w1 fun v w2 => v = .bool (p x) ∧ Fr No w1 w2) :
    Rets Try.prog 61 #[v, fv] w fun u w' => Fr No w w' ∧ u = .bool (xs.any p) := by
  have hs := hr.small
  refine rets_of Try.func61 rfl Try.ntmps61 rfl rfl (by kernel_rfl) ?_
  (apply vC_seq; apply vC_region; ((apply vL_val); (case h => ((apply opv_E); exact rfl))); apply vL_nil; apply seqP_normal; apply vC_seq; apply vC_region; (iterate 2 (((apply vL_val); (case h => ((apply opv_move); ((conv => lhs; whnf) <;> exact rfl)))))))
  refine vL_callF rfl (indexFunc_int fv v p xs w f cap hr hfv hf) rfl ?_
  rintro _ w1 ⟨hfr, ⟨rfl, hn⟩ | ⟨k, rfl, hk, ⟨x, hx, hpx⟩, hp⟩⟩
  · ((iterate 2 (((apply vL_val); (case h => ((apply opv_E); exact rfl))))); apply vL_nil; apply seqP_normal; apply vC_ret)
    (apply ret1; (case h1 => (first | exact norm_eq rfl | ((conv => lhs; whnf) <;> exact rfl))))
    have : xs.any p = false := by simp only [List.any_eq_false]; intro x hx; simp [hn x hx]
    rw [this]
    exact ⟨hfr, rfl⟩
  · ((iterate 2 (((apply vL_val); (case h => ((apply opv_E); exact rfl))))); apply vL_nil; apply seqP_normal; apply vC_ret)
    (apply ret1; (case h1 => (first | exact norm_eq rfl | ((conv => lhs; whnf) <;> exact rfl))))
    have : xs.any p = true := List.any_eq_true.2 ⟨x, List.mem_of_getElem? hx, hpx⟩
    rw [this]
    refine ⟨hfr, ?_⟩
    have : (0 : Int) ≤ k := by omega
    simp [this]
end Go.Proofs.Ytfceebbkjogedaa
