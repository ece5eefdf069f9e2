/- Layer 15: waking; choices; what is ready, what is parked.
Layer 15: the parked tasks.
Layer 15: a new task.
Layer 15: a step.
Layer 15: the document's machine, as plain functions.
Layer 15: the law's world.
Layer 15: what a task goes on with.
Layer 15: the law's spawn.
Layer 15: a turn.
Layer 15: laws of the plain machine. -/
import Derived.Test.YtaeckjhipmcddaaX1
set_option maxRecDepth 100000
namespace Go.Proofs.Ytaeckjhipmcddaa
open Go Go.Eng
section
variable {Z : Nat → Prop} {w : World} {rb sb qb : Nat} {lv tv : Value} {now : Option Nat} {rest : Int} {ready : List Int} {ts : List (Nat × TK)}
theorem t_wake (s : Rt Z w rb sb qb lv tv now rest ready ts) {i : Nat} {x} (hx : ts[i]? = some x) (why : Int) (hl : ready.length ≤ 256) :
    Rets Try.prog 47 #[.pointer (some ⟨x.1, 0, none⟩), .int .i64 why] w fun u w' => (x.2.parked = false ∧ u = .int .i64 152 ∧ Fr No w w') ∨
      (x.2.parked = true ∧ u = .int .i64 0 ∧ ∃ lv' fb yb, w.heap.size ≤ fb ∧ w.heap.size ≤ yb ∧ Blk w'.heap fb [x.2.wake.1] 73 ∧ Blk w'.heap yb [.int .i64 why] 3 ∧ Fr (fun k => ¬ Z k) w w' ∧
        Rt (fun k => Z k ∨ k = fb ∨ k = yb) w' rb sb qb lv' tv now rest (readyL ready i) (ts.set i (x.1, { x.2 with next := ⟨.func (.func 74) #[] #[.pointer (some ⟨fb, 0, none⟩), .pointer (some ⟨yb, 0, none⟩)], rfl⟩, parked := false }))) := by
  have hb := s.tk i x hx
  have hw := x.2.wake.2
  refine rets_of Try.func47 rfl Try.ntmps47 rfl rfl (by kernel_rfl) ?_
  (apply vC_seq; apply vC_region; ((apply vL_val); (case h => ((apply opw_box1); (first | exact norm_eq rfl | ((conv => lhs; whnf) <;> exact rfl)); (first | rfl | assumption)))); ((apply vL_val); (case h => ((apply opv_E); exact rfl))); apply vL_nil; apply seqP_normal; apply vC_seq; apply vC_block; apply vC_seq; apply vC_region; ((apply vL_val); (case h => ((apply opv_E); exact rfl))))
  refine vL_gen (fun w' => Fr No w w' ∧ Blk w'.heap w.heap.size [.int .i64 why] 3 ∧ w'.heap.size = w.heap.size + 1) ⟨by (repeat (first | exact Fr.refl _ _ | assumption | with_reducible apply Fr.allocSet | with_reducible apply Fr.alloc | with_reducible apply Fr.drewN | with_reducible apply Fr.drew | ((with_reducible apply Fr.set); rotate_left; (right; ((try simp only [alloc_size]); omega))) | (refine Fr.trans ?_ (by assumption)))), inferInstance, by simp⟩ ?_
  rintro w1 ⟨hf1, hy1, hs1⟩
  have hb1 := hb.frN hf1
  refine vL_callF rfl (t_right hb1) rfl ?_
  rintro _ _ ⟨rfl, rfl⟩
  (((apply vL_val); (case h => ((apply opv_not); exact rfl))); ((apply vL_val); (case h => ((apply opv_E); exact rfl))); apply vL_nil; apply seqP_normal; ((apply vC_cond_false); exact rfl); apply vC_seq; apply vC_region; (iterate 2 (((apply vL_val); (case h => ((apply opv_E); exact rfl))))); ((apply vL_val); (case h => ((apply opv_fieldAddr); exact rfl))); ((apply vL_val); (case h => ((apply opv_loadb1); exact rfl; exact rfl; (first | assumption | infer_instance); exact rfl))); ((apply vL_val); (case h => ((apply opv_not); exact rfl))); ((apply vL_val); (case h => ((apply opv_E); exact rfl))); apply vL_nil; apply seqP_normal)
  cases hp : x.2.parked with
  | false =>
    rw [tkL, hp] at hb1
    (((apply vC_cond_true); exact rfl); apply vC_seq; apply vC_region; ((apply vL_val); (case h => ((apply opv_E); exact rfl))); apply vL_nil; apply seqP_normal; apply vC_ret; apply blockP_ret; apply seqP_ret)
    (apply ret1; (case h1 => (first | exact norm_eq rfl | ((conv => lhs; whnf) <;> exact rfl))))
    exact .inl ⟨rfl, rfl, hf1⟩
  | true =>
    rw [tkL, hp] at hb1
    (((apply vC_cond_false); exact rfl); apply vC_skip; apply blockP_normal; apply seqP_normal; apply vC_seq; apply vC_region; (iterate 2 (((apply vL_val); (case h => ((apply opv_E); exact rfl))))); ((apply vL_val); (case h => ((apply opv_fieldAddr); exact rfl))); ((apply vL_val); (case h => ((apply opv_loadb1); exact rfl; exact rfl; (first | assumption | infer_instance); exact rfl))); ((apply vL_val); (case h => (apply opw_alloc))); ((apply vL_skip); (case h => ((apply ops_store1); (first | exact norm_eq rfl | ((conv => lhs; whnf) <;> exact rfl)); (first | exact norm_eq rfl | ((conv => lhs; whnf) <;> exact rfl)); (first | rfl | assumption); (first | assumption | infer_instance); (first | decide | exact of_decide_eq_true rfl | (simp; done))))); apply vL_nil; apply seqP_normal; apply vC_seq; apply vC_region; ((apply vL_val); (case h => ((apply opv_E); exact rfl))); ((apply vL_val); (case h => ((apply opv_makeFunc); exact rfl))))
    refine vL_gen (fun w' => Fr No w w' ∧ Blk w'.heap w.heap.size [.int .i64 why] 3 ∧ Blk w'.heap w1.heap.size [x.2.wake.1] 73) ⟨hf1.trans (by (repeat (first | exact Fr.refl _ _ | assumption | with_reducible apply Fr.allocSet | with_reducible apply Fr.alloc | with_reducible apply Fr.drewN | with_reducible apply Fr.drew | ((with_reducible apply Fr.set); rotate_left; (right; ((try simp only [alloc_size]); omega))) | (refine Fr.trans ?_ (by assumption))))), inferInstance, inferInstance⟩ ?_
    rintro w2 ⟨hf2, hy2, hk2⟩
    have s2 : Rt (fun k => Z k ∨ k = w1.heap.size ∨ k = w.heap.size) w2 rb sb qb lv tv now rest ready ts := s.fr hf2.no_any (fun k hk => by
      rcases hk with h | rfl | rfl
      · exact ⟨Nat.lt_of_lt_of_le (s.zs k h) hf2.size, .inl h⟩
      · exact ⟨hk2.lt, .inr hf1.size⟩
      · exact ⟨hy2.lt, .inr (Nat.le_refl _)⟩)
    refine vL_callF rfl (t_again s2 hx ⟨.func (.func 74) #[] #[.pointer (some ⟨w1.heap.size, 0, none⟩), .pointer (some ⟨w.heap.size, 0, none⟩)], rfl⟩ hl) rfl ?_
    rintro _ w3 ⟨lv', s3, hz3⟩
    (apply vL_nil; apply seqP_normal; apply vC_seq; apply vC_region; ((apply vL_val); (case h => ((apply opv_E); exact rfl))); apply vL_nil; apply seqP_normal; apply vC_ret)
    (apply ret1; (case h1 => (first | exact norm_eq rfl | ((conv => lhs; whnf) <;> exact rfl))))
    exact .inr ⟨rfl, rfl, lv', w1.heap.size, w.heap.size, hf1.size, Nat.le_refl _, hk2.fr hz3 (fun h => h (.inr (.inl rfl))), hy2.fr hz3 (fun h => h (.inr (.inr rfl))), hf2.no_any.trans (hz3.mono (fun k _ h h' => h (.inl h'))), s3⟩
theorem r_running (s : Rt Z w rb sb qb lv tv now rest ready ts) : Rets Try.prog 41 #[.pointer (some ⟨rb, 0, none⟩)] w fun u w' => w = w' ∧ u = .bool now.isSome := by
  have hr := s.hr
  refine rets_of Try.func41 rfl Try.ntmps41 rfl rfl (by kernel_rfl) ?_
  (apply vC_seq; apply vC_region; ((apply vL_val); (case h => ((apply opv_E); exact rfl))); apply vL_nil; apply seqP_normal; apply vC_seq; apply vC_region; ((apply vL_val); (case h => ((apply opv_E); exact rfl))))
  refine vL_callF rfl (r_right s) rfl ?_
  rintro _ _ ⟨rfl, rfl⟩
  cases hn : now with
  | none =>
    rw [hn] at hr
    (((apply vL_val); (case h => ((apply opv_E); exact rfl))); ((apply vL_wanted); exact rfl); ((apply vL_val); (case h => ((apply opv_E); exact rfl))); ((apply vL_wanted); exact rfl); ((apply vL_val); (case h => ((apply opv_E); exact rfl))); ((apply vL_wanted); exact rfl); ((apply vL_val); (case h => ((apply opv_fieldAddr); exact rfl))); ((apply vL_wanted); exact rfl); ((apply vL_val); (case h => ((apply opv_loadb1); exact rfl; exact rfl; (first | assumption | infer_instance); exact rfl))); ((apply vL_wanted); exact rfl); ((apply vL_val); (case h => ((apply opv_neq_pnil); exact rfl; exact rfl; (simp; done)))); (iterate 2 (((apply vL_val); (case h => ((apply opv_E); exact rfl))))); apply vL_nil; apply seqP_normal; apply vC_ret)
    (apply ret1; (case h1 => (first | exact norm_eq rfl | ((conv => lhs; whnf) <;> exact rfl))))
    exact ⟨rfl, rfl⟩
  | some b =>
    rw [hn] at hr
    (((apply vL_val); (case h => ((apply opv_E); exact rfl))); ((apply vL_wanted); exact rfl); ((apply vL_val); (case h => ((apply opv_E); exact rfl))); ((apply vL_wanted); exact rfl); ((apply vL_val); (case h => ((apply opv_E); exact rfl))); ((apply vL_wanted); exact rfl); ((apply vL_val); (case h => ((apply opv_fieldAddr); exact rfl))); ((apply vL_wanted); exact rfl); ((apply vL_val); (case h => ((apply opv_loadb1); exact rfl; exact rfl; (first | assumption | infer_instance); exact rfl))); ((apply vL_wanted); exact rfl); ((apply vL_val); (case h => ((apply opv_neq_pnil); exact rfl; exact rfl; (simp; done)))); (iterate 2 (((apply vL_val); (case h => ((apply opv_E); exact rfl))))); apply vL_nil; apply seqP_normal; apply vC_ret)
    (apply ret1; (case h1 => (first | exact norm_eq rfl | ((conv => lhs; whnf) <;> exact rfl))))
    exact ⟨rfl, rfl⟩
theorem r_ready (s : Rt Z w rb sb qb lv tv now rest ready ts) (hl : ready.length ≤ 256) : Rets Try.prog 27 #[.pointer (some ⟨rb, 0, none⟩)] w fun u w' => Fr No w w' ∧ Own w'.heap 3 1 iE u ready ∧ (∀ b, own u = some b → w.heap.size ≤ b) ∧ u.oneCell' = true := by
  have hr := s.hr
  refine rets_of Try.func27 rfl Try.ntmps27 rfl rfl (by kernel_rfl) ?_
  (apply vC_seq; apply vC_region; ((apply vL_val); (case h => ((apply opv_E); exact rfl))); apply vL_nil; apply seqP_normal; (iterate 2 (apply vC_seq)); apply vC_region; ((apply vL_val); (case h => ((apply opv_E); exact rfl))))
  refine vL_callF rfl (r_right s) rfl ?_
  rintro _ _ ⟨rfl, rfl⟩
  (((apply vL_val); (case h => ((apply opv_not); exact rfl))); apply vL_nil; apply seqP_normal; ((apply vC_cond_false); exact rfl); apply vC_skip; apply seqP_normal; apply vC_seq; apply vC_region; (iterate 2 (((apply vL_val); (case h => ((apply opv_E); exact rfl))))); ((apply vL_val); (case h => ((apply opv_fieldAddr); exact rfl))); ((apply vL_val); (case h => ((apply opv_loadb1); exact rfl; exact rfl; (first | assumption | infer_instance); exact rfl))))
  refine vL_callF rfl (s_list sb qb lv ready _ s.sc hl) rfl ?_
  rintro v w1 ⟨hf1, ho1, hfr1, hone1⟩
  obtain ⟨va, vn, vc, rfl⟩ := ho1.isSlice
  (((apply vL_val); (case h => ((apply opv_E); exact rfl))); apply vL_nil; apply seqP_normal; apply vC_ret)
  (apply ret1; (case h1 => (first | exact norm_eq rfl | ((conv => lhs; whnf) <;> exact rfl))))
  exact ⟨hf1, ho1, hfr1, rfl⟩
theorem r_choice (s : Rt Z w rb sb qb lv tv now rest ready ts) (n : Int) (hrest : 0 ≤ rest ∧ rest ≤ 18446744073709551615) (hn : n ≤ 9223372036854775807) : Rets Try.prog 52 #[.pointer (some ⟨rb, 0, none⟩), .int .i64 n] w fun u w' =>
    ((now = none ∨ n ≤ 0) ∧ u = .int .i64 0 ∧ w = w') ∨ (now ≠ none ∧ 0 < n ∧ u = .int .i64 (rest % n) ∧ Rt Z w' rb sb qb lv tv now (rest / n) ready ts ∧ Fr (fun k => ¬ Z k) w w') := by
  have hr := s.hr
  refine rets_of Try.func52 rfl Try.ntmps52 rfl rfl (by kernel_rfl) ?_
  (apply vC_seq; apply vC_region; ((apply vL_val); (case h => ((apply opv_E); exact rfl))); apply vL_nil; apply seqP_normal; (iterate 2 (apply vC_seq)); apply vC_region; ((apply vL_val); (case h => ((apply opv_E); exact rfl))))
  refine vL_callF rfl (r_right s) rfl ?_
  rintro _ _ ⟨rfl, rfl⟩
  cases hnow : now with
  | none =>
    rw [hnow] at hr
    (((apply vL_val); (case h => ((apply opv_not); exact rfl))); ((apply vL_val); (case h => ((apply opv_E); exact rfl))); ((apply vL_wanted); exact rfl); ((apply vL_val); (case h => ((apply opv_E); exact rfl))); ((apply vL_wanted); exact rfl); ((apply vL_val); (case h => ((apply opv_E); exact rfl))); ((apply vL_wanted); exact rfl); ((apply vL_val); (case h => ((apply opv_fieldAddr); exact rfl))); ((apply vL_wanted); exact rfl); ((apply vL_val); (case h => ((apply opv_loadb1); exact rfl; exact rfl; (first | assumption | infer_instance); exact rfl))); ((apply vL_wanted); exact rfl); ((apply vL_val); (case h => ((apply opv_eql_pnil); exact rfl; exact rfl; (simp; done)))); (iterate 2 (((apply vL_val); (case h => ((apply opv_E); exact rfl))))); (iterate 2 (((apply vL_unwanted'); exact rfl; exact rfl))); ((apply vL_val); (case h => ((apply opv_E); exact rfl))); apply vL_nil; apply seqP_normal; ((apply vC_cond_true); exact rfl); apply vC_seq; apply vC_region; ((apply vL_val); (case h => ((apply opv_E); exact rfl))); apply vL_nil; apply seqP_normal; apply vC_ret; apply seqP_ret)
    (apply ret1; (case h1 => (first | exact norm_eq rfl | ((conv => lhs; whnf) <;> exact rfl))))
    exact .inl ⟨.inl rfl, rfl, rfl⟩
  | some b =>
    rw [hnow] at hr
    by_cases h0 : n ≤ 0
    · (((apply vL_val); (case h => ((apply opv_not); exact rfl))); ((apply vL_val); (case h => ((apply opv_E); exact rfl))); ((apply vL_wanted); exact rfl); ((apply vL_val); (case h => ((apply opv_E); exact rfl))); ((apply vL_wanted); exact rfl); ((apply vL_val); (case h => ((apply opv_E); exact rfl))); ((apply vL_wanted); exact rfl); ((apply vL_val); (case h => ((apply opv_fieldAddr); exact rfl))); ((apply vL_wanted); exact rfl); ((apply vL_val); (case h => ((apply opv_loadb1); exact rfl; exact rfl; (first | assumption | infer_instance); exact rfl))); ((apply vL_wanted); exact rfl); ((apply vL_val); (case h => ((apply opv_eql_pnil); exact rfl; exact rfl; (simp; done)))); (iterate 2 (((apply vL_val); (case h => ((apply opv_E); exact rfl))))); ((apply vL_wanted); exact rfl); ((apply vL_val); (case h => ((apply opv_E); exact rfl))); ((apply vL_wanted); exact rfl); (iterate 2 (((apply vL_val); (case h => ((apply opv_E); exact rfl))))); apply vL_nil; apply seqP_normal; (refine vC_cond_dec rfl (fun _ => ?_) (fun h => by omega)); apply vC_seq; apply vC_region; ((apply vL_val); (case h => ((apply opv_E); exact rfl))); apply vL_nil; apply seqP_normal; apply vC_ret; apply seqP_ret)
      (apply ret1; (case h1 => (first | exact norm_eq rfl | ((conv => lhs; whnf) <;> exact rfl))))
      exact .inl ⟨.inr h0, rfl, rfl⟩
    · have hm : 0 ≤ rest % n ∧ rest % n < n := ⟨Int.emod_nonneg _ (by omega), Int.emod_lt_of_pos _ (by omega)⟩
      (((apply vL_val); (case h => ((apply opv_not); exact rfl))); ((apply vL_val); (case h => ((apply opv_E); exact rfl))); ((apply vL_wanted); exact rfl); ((apply vL_val); (case h => ((apply opv_E); exact rfl))); ((apply vL_wanted); exact rfl); ((apply vL_val); (case h => ((apply opv_E); exact rfl))); ((apply vL_wanted); exact rfl); ((apply vL_val); (case h => ((apply opv_fieldAddr); exact rfl))); ((apply vL_wanted); exact rfl); ((apply vL_val); (case h => ((apply opv_loadb1); exact rfl; exact rfl; (first | assumption | infer_instance); exact rfl))); ((apply vL_wanted); exact rfl); ((apply vL_val); (case h => ((apply opv_eql_pnil); exact rfl; exact rfl; (simp; done)))); (iterate 2 (((apply vL_val); (case h => ((apply opv_E); exact rfl))))); ((apply vL_wanted); exact rfl); ((apply vL_val); (case h => ((apply opv_E); exact rfl))); ((apply vL_wanted); exact rfl); (iterate 2 (((apply vL_val); (case h => ((apply opv_E); exact rfl))))); apply vL_nil; apply seqP_normal; (refine vC_cond_dec rfl (fun h => by omega) (fun _ => ?_)); apply vC_skip; apply seqP_normal; apply vC_seq; apply vC_region; (iterate 2 (((apply vL_val); (case h => ((apply opv_E); exact rfl))))); ((apply vL_val); (case h => ((apply opv_fieldAddr); exact rfl))); ((apply vL_val); (case h => ((apply opv_loadb1); exact rfl; exact rfl; (first | assumption | infer_instance); exact rfl))); ((apply vL_val); (case h => ((apply opv_E); exact rfl))); ((apply vL_val); (case h => ((apply opv_conv_u); exact rfl; (first | omega | (simp only [List.length_map]; omega))))); ((apply vL_val); (case h => ((apply opv_rem); exact rfl; exact rfl; (first | omega | (simp only [List.length_map]; omega)); (first | omega | (simp only [List.length_map]; omega))))); ((apply vL_val); (case h => ((apply opv_E); exact rfl))); apply vL_nil; apply seqP_normal; apply vC_seq; apply vC_region; (iterate 2 (((apply vL_val); (case h => ((apply opv_E); exact rfl))))); ((apply vL_val); (case h => ((apply opv_fieldAddr); exact rfl))); ((apply vL_val); (case h => ((apply opv_loadb1); exact rfl; exact rfl; (first | assumption | infer_instance); exact rfl))); ((apply vL_val); (case h => ((apply opv_E); exact rfl))); ((apply vL_val); (case h => ((apply opv_conv_u); exact rfl; (first | omega | (simp only [List.length_map]; omega))))); ((apply vL_val); (case h => ((apply opv_quou); exact rfl; exact rfl; (first | omega | (simp only [List.length_map]; omega)); (first | omega | (simp only [List.length_map]; omega))))); ((apply vL_val); (case h => ((apply opv_E); exact rfl))); ((apply vL_val); (case h => ((apply opv_fieldAddr); exact rfl))); ((apply vL_skip); (case h => ((apply ops_store1); (first | exact norm_eq rfl | ((conv => lhs; whnf) <;> exact rfl)); (first | exact norm_eq rfl | ((conv => lhs; whnf) <;> exact rfl)); (first | rfl | assumption); (first | assumption | infer_instance); (first | decide | exact of_decide_eq_true rfl | (simp; done))))); apply vL_nil; apply seqP_normal; apply vC_seq; apply vC_region; ((apply vL_val); (case h => ((apply opv_E); exact rfl))); ((apply vL_val); (case h => ((apply opv_conv_i); exact rfl; (first | omega | (simp only [List.length_map]; omega))))); ((apply vL_val); (case h => ((apply opv_E); exact rfl))); apply vL_nil; apply seqP_normal; apply vC_ret)
      (apply ret1; (case h1 => (first | exact norm_eq rfl | ((conv => lhs; whnf) <;> exact rfl))))
      rw [← hnow]
      exact .inr ⟨by rw [hnow]; simp, by omega, rfl, s.self s.hn ((Fr.refl (fun k => k = rb) w).set _ _ (.inl rfl)) (by rw [hnow]; exact (show Blk _ rb [.pointer (some ⟨sb, 0, none⟩), tv, nowV (some b), .int .u64 (rest / n)] 82 from inferInstance))⟩
end
end Go.Proofs.Ytaeckjhipmcddaa

set_option maxRecDepth 100000
namespace Go.Proofs.Ytaeckjhipmcddaa
open Go Go.Eng
section
variable {Z : Nat → Prop} {w : World} {rb sb qb : Nat} {lv tv : Value} {now : Option Nat} {rest : Int} {ready : List Int} {ts : List (Nat × TK)}
def parkedIn (ts : List (Nat × TK)) (k : Nat) : List Int := ((List.range k).filter fun i => (ts[i]?).elim false (·.2.parked)).map fun (n : Nat) => (n : Int)
theorem parkedIn_next {k : Nat} {x} (hx : ts[k]? = some x) : parkedIn ts (k + 1) = if x.2.parked then parkedIn ts k ++ [(k : Int)] else parkedIn ts k := by
  unfold parkedIn
  rw [List.range_succ, List.filter_append, List.map_append]
  cases h : x.2.parked <;> simp [hx, h]
theorem parkedIn_len (ts : List (Nat × TK)) (k : Nat) : (parkedIn ts k).length ≤ k := by
  unfold parkedIn
  rw [List.length_map]
  exact Nat.le_trans (List.length_filter_le _ _) (by simp)
theorem r_parked (s : Rt Z w rb sb qb lv tv now rest ready ts) (hl : ts.length ≤ 1000000) : Rets Try.prog 28 #[.pointer (some ⟨rb, 0, none⟩)] w fun u w' => Fr No w w' ∧ Own w'.heap 3 1 iE u (parkedIn ts ts.length) ∧ (∀ b, own u = some b → w.heap.size ≤ b) ∧ u.oneCell' = true := by
  have hr := s.hr
  have ht := s.ht
  have hone := s.one
  have hml : (ts.map (·.1)).length = ts.length := List.length_map ..
  refine rets_of Try.func28 rfl Try.ntmps28 rfl rfl (by kernel_rfl) ?_
  (apply vC_seq; apply vC_region; ((apply vL_val); (case h => ((apply opv_E); exact rfl))); apply vL_nil; apply seqP_normal; (iterate 2 (apply vC_seq)); apply vC_region; ((apply vL_val); (case h => ((apply opv_E); exact rfl))))
  refine vL_callF rfl (r_right s) rfl ?_
  rintro _ _ ⟨rfl, rfl⟩
  (((apply vL_val); (case h => ((apply opv_not); exact rfl))); apply vL_nil; apply seqP_normal; ((apply vC_cond_false); exact rfl); apply vC_skip; apply seqP_normal; apply vC_seq; apply vC_region; ((apply vL_val); (case h => ((apply opv_E); exact rfl))); apply vL_nil; apply seqP_normal; (iterate 2 (apply vC_seq)); apply vC_region; (iterate 2 (((apply vL_val); (case h => ((apply opv_E); exact rfl))))); ((apply vL_val); (case h => ((apply opv_fieldAddr); exact rfl))); ((apply vL_val); (case h => ((apply opv_loadb1); exact rfl; exact rfl; (first | assumption | infer_instance); exact rfl))); ((apply vL_val); (case h => ((apply opv_len); (first | exact norm_eq rfl | ((conv => lhs; whnf) <;> exact rfl)); (first | assumption | infer_instance)))); ((apply vL_val); (case h => ((apply opv_E); exact rfl))); apply vL_nil; apply seqP_normal; apply vC_block)
  (apply vC_loop2 1073725480 14 3 (fun u v3 w' => ∃ k : Nat, u = .int .i64 (k : Int) ∧ k ≤ ts.length ∧ Fr No w w' ∧ Own w'.heap 3 1 iE v3 (parkedIn ts k) ∧ (∀ b, own v3 = some b → w.heap.size ≤ b) ∧ v3.oneCell' = true) (fun u _ _ => ts.length - (RowKit.intOf u).toNat)); (case h1 => (first | exact norm_eq rfl | ((conv => lhs; whnf) <;> exact rfl))); (case h2 => (first | exact norm_eq rfl | ((conv => lhs; whnf) <;> exact rfl)))
  case h0 => exact ⟨0, rfl, by omega, Fr.refl _ _, Own.nil _ _ _ _, fun b hb => (by cases hb), rfl⟩
  case round =>
  rintro junk _ v3 w1 ⟨k, rfl, hk, hf1, ho1, hfr1, hone1⟩
  have ht1 := ht.frN hf1
  by_cases hkl : k < ts.length
  · obtain ⟨x, hx⟩ : ∃ x, ts[k]? = some x := ⟨ts[k], by simp [hkl]⟩
    have hg : (ts.map (·.1))[((k : Nat) : Int).toNat]? = some x.1 := by rw [Int.toNat_natCast, List.getElem?_map, hx]; rfl
    have hb := (s.tk k x hx).frN hf1
    have hnx := parkedIn_next hx
    have hpl := parkedIn_len ts k
    rw [tkL] at hb
    (apply vC_seq; apply vC_region; ((apply vL_val); (case h => ((apply opv_E); exact rfl))); apply vL_nil; apply seqP_normal; apply vC_seq; (refine vC_cond_dec rfl (fun _ => ?_) (fun h => by omega)); apply vC_skip; apply seqP_normal; apply vC_seq; apply vC_block; apply vC_seq; apply vC_region; ((apply vL_val); (case h => ((apply opv_indexAddr); (first | exact norm_eq rfl | ((conv => lhs; whnf) <;> exact rfl)); exact rfl; (first | assumption | infer_instance); (first | omega | (simp only [List.length_map]; omega)); (first | omega | (simp only [List.length_map]; omega))))); ((apply vL_val); (case h => ((apply opv_ld_el); exact rfl; exact rfl; (first | assumption | infer_instance); assumption; exact rfl))); ((apply vL_val); (case h => ((apply opv_E); exact rfl))); apply vL_nil; apply seqP_normal; apply vC_seq; apply vC_region; (iterate 2 (((apply vL_val); (case h => ((apply opv_E); exact rfl))))); ((apply vL_val); (case h => ((apply opv_fieldAddr); exact rfl))); ((apply vL_val); (case h => ((apply opv_loadb1); exact rfl; exact rfl; (first | assumption | infer_instance); exact rfl))); apply vL_nil; apply seqP_normal)
    cases hp : x.2.parked with
    | false =>
      rw [hp] at hb hnx
      (((apply vC_cond_false); exact rfl); apply vC_skip; apply blockP_normal; apply seqP_normal; apply vC_region; ((apply vL_val); (case h => ((apply opv_add); exact rfl; exact rfl; (first | omega | (simp only [List.length_map]; omega))))); ((apply vL_val); (case h => ((apply opv_E); exact rfl))); apply vL_nil; apply loopP_normal)
      (with_reducible apply end2); (case hs => (repeat (first | (with_reducible exact same_mask _ _ _) | with_reducible apply same_updN | ((with_reducible refine same_updO ?_ ?_); rotate_left; exact rfl) | ((with_reducible refine same_upd ?_ ?_); rotate_left; exact rfl) | ((with_reducible refine same_maskIn ?_ ?_); rotate_left; exact rfl)))); (case h1 => (first | exact norm_eq rfl | ((conv => lhs; whnf) <;> exact rfl))); (case h2 => (first | exact norm_eq rfl | ((conv => lhs; whnf) <;> exact rfl)))
      · exact ⟨k + 1, rfl, by omega, hf1, by rw [hnx]; exact ho1, hfr1, hone1⟩
      · simp [RowKit.intOf]; omega
    | true =>
      rw [hp] at hb hnx
      (((apply vC_cond_true); exact rfl); apply vC_region; ((apply vL_val); (case h => ((apply opv_move); ((conv => lhs; whnf) <;> exact rfl)))); (iterate 2 (((apply vL_val); (case h => ((apply opv_E); exact rfl))))); ((apply vL_val); (case h => ((apply opv_fieldAddr); exact rfl))); ((apply vL_val); (case h => ((apply opv_loadb1); exact rfl; exact rfl; (first | assumption | infer_instance); exact rfl))); ((apply vL_val); (case h => ((apply opw_buildSl); exact rfl; exact rfl; exact rfl; (first | exact (rfl : _ = some []) | exact (rfl : _ = some [_]) | exact (rfl : _ = some [_, _]) | exact (rfl : _ = some [_, _, _]) | exact (rfl : _ = some [_, _, _, _]) | exact (rfl : _ = some [_, _, _, _, _]) | exact (rfl : _ = some [_, _, _, _, _, _]) | exact (rfl : _ = some [_, _, _, _, _, _, _]) | exact (rfl : _ = some [_, _, _, _, _, _, _, _]) | exact (rfl : _ = some [_, _, _, _, _, _, _, _, _]) | exact (rfl : _ = some [_, _, _, _, _, _, _, _, _, _]) | exact (rfl : _ = some [_, _, _, _, _, _, _, _, _, _, _]) | exact (rfl : _ = some [_, _, _, _, _, _, _, _, _, _, _, _]) | exact (rfl : _ = some [_, _, _, _, _, _, _, _, _, _, _, _, _]) | exact (rfl : _ = some [_, _, _, _, _, _, _, _, _, _, _, _, _, _]) | exact (rfl : _ = some [_, _, _, _, _, _, _, _, _, _, _, _, _, _, _]) | exact (rfl : _ = some [_, _, _, _, _, _, _, _, _, _, _, _, _, _, _, _]))))))
      refine vL_append (enc := iE) (xs := parkedIn ts k) (ys := [(k : Int)]) (by (first | exact norm_eq rfl | ((conv => lhs; whnf) <;> exact rfl))) (by (first | exact norm_eq rfl | ((conv => lhs; whnf) <;> exact rfl))) (Own.alloc ho1) (Rd.new1 _ _ rfl) rfl (by decide) ?_ ?_ ?_
      · simp [maxLen]; omega
      · simp; omega
      intro v' w2 ho2 hf2 hfr2 hone2 _
      have hfB : Fr No w w2 := (hf1.alloc _).trans' hf2 (fun i hi => .inr (hfr1 i hi))
      (((apply vL_val); (case h => ((apply opv_assign); ((conv => lhs; whnf) <;> exact rfl)))); apply vL_nil; apply blockP_normal; apply seqP_normal; apply vC_region; ((apply vL_val); (case h => ((apply opv_add); exact rfl; exact rfl; (first | omega | (simp only [List.length_map]; omega))))); ((apply vL_val); (case h => ((apply opv_E); exact rfl))); apply vL_nil; apply loopP_normal)
      (with_reducible apply end2); (case hs => (repeat (first | (with_reducible exact same_mask _ _ _) | with_reducible apply same_updN | ((with_reducible refine same_updO ?_ ?_); rotate_left; exact rfl) | ((with_reducible refine same_upd ?_ ?_); rotate_left; exact rfl) | ((with_reducible refine same_maskIn ?_ ?_); rotate_left; exact rfl)))); (case h1 => (first | exact norm_eq rfl | ((conv => lhs; whnf) <;> exact rfl))); (case h2 => (first | exact norm_eq rfl | ((conv => lhs; whnf) <;> exact rfl)))
      · refine ⟨k + 1, rfl, by omega, hfB, by rw [hnx]; exact ho2, fun b hb => ?_, hone2⟩
        rcases hfr2 b hb with h | h
        · exact hfr1 b h
        · have := hf1.size; rw [alloc_size] at h; omega
      · simp [RowKit.intOf]; omega
  · have e : k = ts.length := by omega
    subst e
    obtain ⟨va, vn, vc, rfl⟩ := ho1.isSlice
    (apply vC_seq; apply vC_region; ((apply vL_val); (case h => ((apply opv_E); exact rfl))); apply vL_nil; apply seqP_normal; apply vC_seq; (refine vC_cond_dec rfl (fun h => by omega) (fun _ => ?_)); apply vC_exit; apply seqP_exit; apply loopP_exit; apply blockP_exit; apply seqP_normal; apply vC_seq; apply vC_region; (iterate 2 (((apply vL_val); (case h => ((apply opv_E); exact rfl))))); apply vL_nil; apply seqP_normal; apply vC_ret)
    (apply ret1; (case h1 => (first | exact norm_eq rfl | ((conv => lhs; whnf) <;> exact rfl))))
    exact ⟨hf1, ho1, hfr1, rfl⟩
end
end Go.Proofs.Ytaeckjhipmcddaa

set_option maxRecDepth 100000
namespace Go.Proofs.Ytaeckjhipmcddaa
open Go Go.Eng
section
variable {Z Z' : Nat → Prop} {w w' : World} {rb sb qb : Nat} {lv tv : Value} {now : Option Nat} {rest : Int} {ready : List Int} {ts : List (Nat × TK)}
def openIn (ts : List (Nat × TK)) (k : Nat) : Nat := ((ts.take k).filter fun x => !x.2.over).length
theorem openIn_next {k : Nat} {x} (hx : ts[k]? = some x) : openIn ts (k + 1) = if x.2.over then openIn ts k else openIn ts k + 1 := by
  unfold openIn
  rw [take_next hx, List.filter_append]
  cases h : x.2.over <;> simp [h]
theorem openIn_le (ts : List (Nat × TK)) (k : Nat) : openIn ts k ≤ k := by
  unfold openIn
  refine Nat.le_trans (List.length_filter_le _ _) ?_
  rw [List.length_take]
  exact Nat.min_le_left _ _
/-- one task more -/
theorem Rt.push {tv' : Value} {tb : Nat} {y : TK} (s : Rt Z w rb sb qb lv tv now rest ready ts) (hz : Z tb) (hb : Blk w.heap tb (tkL rb ts.length y) 75) (hf : Fr (fun k => own tv = some k ∨ k = rb) w w')
    (hr : Blk w'.heap rb [.pointer (some ⟨sb, 0, none⟩), tv', nowV now, .int .u64 rest] 82) (ho : Own w'.heap 64 1 ptE tv' (ts.map (·.1) ++ [tb])) (hone : tv'.oneCell' = true) (hl : ∀ k, own tv' = some k → own tv = some k ∨ w.heap.size ≤ k)
    (hz' : ∀ k, Z' k → Z k ∧ k ≠ tb) : Rt Z' w' rb sb qb lv tv' now rest ready (ts ++ [(tb, y)]) ∧ Fr (fun k => ¬ Z k) w w' := by
  have n1 : ∀ {b c T}, Blk w.heap b c T → T ≠ 64 → T ≠ 82 → ¬ (own tv = some b ∨ b = rb) := fun hB h1 h2 h => by
    rcases h with h | h
    · exact Own.ne_blk s.ht hB (fun e => h1 e.symm) h
    · exact Blk.ne_type hB s.hr h2 h
  refine ⟨⟨hr, ⟨s.sc.hs.fr hf (n1 s.sc.hs (by decide) (by decide)), s.sc.hb.fr hf (n1 s.sc.hb (by decide) (by decide)), s.sc.ho.fr hf (fun b hb' h => ?_), s.sc.one⟩, by rw [List.map_append]; exact ho, fun i x hx => ?_, hone, fun b hb' => by rw [List.map_append]; exact List.mem_append_left _ (s.hn b hb'), fun k hk => Nat.lt_of_lt_of_le (s.zs k (hz' k hk).1) hf.size, fun k hk hk' => ?_⟩, hf.mono (fun k _ hk => ?_)⟩
  · rcases h with h | h
    · exact Own.ne_own s.sc.ho s.ht (by decide) b hb' h
    · exact Own.ne_blk s.sc.ho s.hr (by decide) (h ▸ hb')
  · by_cases hi : i < ts.length
    · rw [List.getElem?_append_left hi] at hx
      exact (s.tk i x hx).fr hf (n1 (s.tk i x hx) (by decide) (by decide))
    · have hle := (List.getElem?_eq_some_iff.1 hx).1
      have : i = ts.length := by simp at hle; omega
      subst this
      rw [List.getElem?_append_right (Nat.le_refl _), Nat.sub_self] at hx
      cases hx
      exact hb.fr hf (n1 hb (by decide) (by decide))
  · obtain ⟨h1, h2⟩ := hz' k hk'
    rcases hk with rfl | rfl | rfl | h | h | ⟨x, hx, rfl⟩
    · exact s.zn _ (.inl rfl) h1
    · exact s.zn _ (.inr (.inl rfl)) h1
    · exact s.zn _ (.inr (.inr (.inl rfl))) h1
    · exact s.zn _ (.inr (.inr (.inr (.inl h)))) h1
    · rcases hl k h with h3 | h3
      · exact s.zn _ (.inr (.inr (.inr (.inr (.inl h3))))) h1
      · have := s.zs k h1; omega
    · rcases List.mem_append.1 hx with h3 | h3
      · exact s.zn _ (.inr (.inr (.inr (.inr (.inr ⟨x, h3, rfl⟩))))) h1
      · rw [List.mem_singleton] at h3
        subst h3
        exact h2 rfl
  · rcases hk with h | rfl
    · exact s.zn _ (.inr (.inr (.inr (.inr (.inl h)))))
    · exact s.zn _ (.inl rfl)
end
section
variable {Z : Nat → Prop} {w : World} {rb sb qb : Nat} {lv tv : Value} {now : Option Nat} {rest : Int} {ready : List Int} {ts : List (Nat × TK)}
/-- a new task -/
def newT (fb tx : Nat) : TK := ⟨⟨.func (.func 71) #[] #[.pointer (some ⟨fb, 0, none⟩), .pointer (some ⟨tx, 0, none⟩)], rfl⟩, ⟨.nilFunc, rfl⟩, false, false, false⟩
theorem _root_.Go.Eng.Blk.as {h : Array Obj} {b : Nat} {c c' : List Value} {T : TypeId} (hb : Blk h b c T) (e : c = c') : Blk h b c' T := e ▸ hb
theorem r_spawn (s : Rt Z w rb sb qb lv tv now rest ready ts) (g : FuncId) (cap : Array Value) (hl : ready.length ≤ 256) (hlt : ts.length ≤ 1000000) :
    Rets Try.prog 38 #[.pointer (some ⟨rb, 0, none⟩), .func (.func g) #[] cap] w fun u w' => (256 ≤ openIn ts ts.length ∧ u = .tuple #[.pointer none, .int .i64 5] ∧ Fr No w w') ∨
      (openIn ts ts.length < 256 ∧ ∃ tb fb tx lv' tv', u = .tuple #[.pointer (some ⟨tb, 0, none⟩), .int .i64 0] ∧ w.heap.size ≤ tb ∧ w.heap.size ≤ fb ∧ w.heap.size ≤ tx ∧ Blk w'.heap fb [.func (.func g) #[] cap] 78 ∧ Blk w'.heap tx [.pointer (some ⟨tb, 0, none⟩)] 64 ∧ Fr (fun k => ¬ Z k) w w' ∧
        Rt (fun k => Z k ∨ k = fb ∨ k = tx) w' rb sb qb lv' tv' now rest (readyL ready ts.length) (ts ++ [(tb, newT fb tx)])) := by
  refine rets_of Try.func38 rfl Try.ntmps38 rfl rfl (by kernel_rfl) ?_
  (apply vC_seq; apply vC_region; ((apply vL_val); (case h => ((apply opw_box1); (first | exact norm_eq rfl | ((conv => lhs; whnf) <;> exact rfl)); (first | rfl | assumption)))); (iterate 2 (((apply vL_val); (case h => ((apply opv_E); exact rfl))))); apply vL_nil; apply seqP_normal; (iterate 2 (apply vC_seq)); apply vC_region; ((apply vL_val); (case h => ((apply opv_E); exact rfl))))
  refine vL_gen (fun w' => Fr No w w' ∧ Blk w'.heap w.heap.size [.func (.func g) #[] cap] 78) ⟨by (repeat (first | exact Fr.refl _ _ | assumption | with_reducible apply Fr.allocSet | with_reducible apply Fr.alloc | with_reducible apply Fr.drewN | with_reducible apply Fr.drew | ((with_reducible apply Fr.set); rotate_left; (right; ((try simp only [alloc_size]); omega))) | (refine Fr.trans ?_ (by assumption)))), inferInstance⟩ ?_
  rintro w1 ⟨hf1, hfb1⟩
  have s1 := s.frN hf1
  have hr1 := s1.hr
  have ht1 := s1.ht
  have hone := s.one
  have hml : (ts.map (·.1)).length = ts.length := List.length_map ..
  refine vL_callF rfl (r_right s1) rfl ?_
  rintro _ _ ⟨rfl, rfl⟩
  (((apply vL_val); (case h => ((apply opv_not); exact rfl))); ((apply vL_val); (case h => ((apply opv_E); exact rfl))); ((apply vL_wanted); exact rfl); ((apply vL_val); (case h => ((apply opv_loadb1); exact rfl; exact rfl; (first | assumption | infer_instance); exact rfl))); ((apply vL_wanted); exact rfl); ((apply vL_val); (case h => ((apply opv_eql_fnil); exact rfl; exact rfl))); ((apply vL_val); (case h => ((apply opv_E); exact rfl))); apply vL_nil; apply seqP_normal; ((apply vC_cond_false); exact rfl); apply vC_skip; apply seqP_normal; apply vC_seq; apply vC_region; ((apply vL_val); (case h => ((apply opv_E); exact rfl))); apply vL_nil; apply seqP_normal; (iterate 2 (apply vC_seq)); apply vC_region; (iterate 2 (((apply vL_val); (case h => ((apply opv_E); exact rfl))))); ((apply vL_val); (case h => ((apply opv_fieldAddr); exact rfl))); ((apply vL_val); (case h => ((apply opv_loadb1); exact rfl; exact rfl; (first | assumption | infer_instance); exact rfl))); ((apply vL_val); (case h => ((apply opv_len); (first | exact norm_eq rfl | ((conv => lhs; whnf) <;> exact rfl)); (first | assumption | infer_instance)))); ((apply vL_val); (case h => ((apply opv_E); exact rfl))); apply vL_nil; apply seqP_normal; apply vC_block)
  (apply vC_loop2 17175675200 22 6 (fun u u6 w' => ∃ k : Nat, u = .int .i64 (k : Int) ∧ u6 = .int .i64 ((openIn ts k : Nat) : Int) ∧ k ≤ ts.length ∧ w1 = w') (fun u _ _ => ts.length - (RowKit.intOf u).toNat)); (case h1 => (first | exact norm_eq rfl | ((conv => lhs; whnf) <;> exact rfl))); (case h2 => (first | exact norm_eq rfl | ((conv => lhs; whnf) <;> exact rfl)))
  case h0 => exact ⟨0, rfl, rfl, by omega, rfl⟩
  case round =>
  rintro junk _ _ _ ⟨k, rfl, rfl, hk, rfl⟩
  have hol := openIn_le ts k
  by_cases hkl : k < ts.length
  · obtain ⟨x, hx⟩ : ∃ x, ts[k]? = some x := ⟨ts[k], by simp [hkl]⟩
    have hg : (ts.map (·.1))[((k : Nat) : Int).toNat]? = some x.1 := by rw [Int.toNat_natCast, List.getElem?_map, hx]; rfl
    have hb := s1.tk k x hx
    have hnx := openIn_next hx
    rw [tkL] at hb
    (apply vC_seq; apply vC_region; ((apply vL_val); (case h => ((apply opv_E); exact rfl))); apply vL_nil; apply seqP_normal; apply vC_seq; (refine vC_cond_dec rfl (fun _ => ?_) (fun h => by omega)); apply vC_skip; apply seqP_normal; apply vC_seq; apply vC_block; apply vC_seq; apply vC_region; ((apply vL_val); (case h => ((apply opv_indexAddr); (first | exact norm_eq rfl | ((conv => lhs; whnf) <;> exact rfl)); exact rfl; (first | assumption | infer_instance); (first | omega | (simp only [List.length_map]; omega)); (first | omega | (simp only [List.length_map]; omega))))); ((apply vL_val); (case h => ((apply opv_ld_el); exact rfl; exact rfl; (first | assumption | infer_instance); assumption; exact rfl))); ((apply vL_val); (case h => ((apply opv_E); exact rfl))); apply vL_nil; apply seqP_normal; apply vC_seq; apply vC_region; (iterate 2 (((apply vL_val); (case h => ((apply opv_E); exact rfl))))); ((apply vL_val); (case h => ((apply opv_fieldAddr); exact rfl))); ((apply vL_val); (case h => ((apply opv_loadb1); exact rfl; exact rfl; (first | assumption | infer_instance); exact rfl))); ((apply vL_val); (case h => ((apply opv_not); exact rfl))); apply vL_nil; apply seqP_normal)
    cases hp : x.2.over with
    | true =>
      rw [hp] at hb hnx
      (((apply vC_cond_false); exact rfl); apply vC_skip; apply blockP_normal; apply seqP_normal; apply vC_region; ((apply vL_val); (case h => ((apply opv_add); exact rfl; exact rfl; (first | omega | (simp only [List.length_map]; omega))))); ((apply vL_val); (case h => ((apply opv_E); exact rfl))); apply vL_nil; apply loopP_normal)
      (with_reducible apply end2); (case hs => (repeat (first | (with_reducible exact same_mask _ _ _) | with_reducible apply same_updN | ((with_reducible refine same_updO ?_ ?_); rotate_left; exact rfl) | ((with_reducible refine same_upd ?_ ?_); rotate_left; exact rfl) | ((with_reducible refine same_maskIn ?_ ?_); rotate_left; exact rfl)))); (case h1 => (first | exact norm_eq rfl | ((conv => lhs; whnf) <;> exact rfl))); (case h2 => (first | exact norm_eq rfl | ((conv => lhs; whnf) <;> exact rfl)))
      · exact ⟨k + 1, rfl, by rw [hnx]; rfl, by omega, rfl⟩
      · simp [RowKit.intOf]; omega
    | false =>
      rw [hp] at hb hnx
      (((apply vC_cond_true); exact rfl); apply vC_region; ((apply vL_val); (case h => ((apply opv_E); exact rfl))); ((apply vL_val); (case h => ((apply opv_add); exact rfl; exact rfl; (first | omega | (simp only [List.length_map]; omega))))); ((apply vL_val); (case h => ((apply opv_E); exact rfl))); apply vL_nil; apply blockP_normal; apply seqP_normal; apply vC_region; ((apply vL_val); (case h => ((apply opv_add); exact rfl; exact rfl; (first | omega | (simp only [List.length_map]; omega))))); ((apply vL_val); (case h => ((apply opv_E); exact rfl))); apply vL_nil; apply loopP_normal)
      (with_reducible apply end2); (case hs => (repeat (first | (with_reducible exact same_mask _ _ _) | with_reducible apply same_updN | ((with_reducible refine same_updO ?_ ?_); rotate_left; exact rfl) | ((with_reducible refine same_upd ?_ ?_); rotate_left; exact rfl) | ((with_reducible refine same_maskIn ?_ ?_); rotate_left; exact rfl)))); (case h1 => (first | exact norm_eq rfl | ((conv => lhs; whnf) <;> exact rfl))); (case h2 => (first | exact norm_eq rfl | ((conv => lhs; whnf) <;> exact rfl)))
      · exact ⟨k + 1, rfl, by rw [hnx]; rfl, by omega, rfl⟩
      · simp [RowKit.intOf]; omega
  have e : k = ts.length := by omega
  subst e
  by_cases hfull : 256 ≤ openIn ts ts.length
  · (apply vC_seq; apply vC_region; ((apply vL_val); (case h => ((apply opv_E); exact rfl))); apply vL_nil; apply seqP_normal; apply vC_seq; (refine vC_cond_dec rfl (fun h => by omega) (fun _ => ?_)); apply vC_exit; apply seqP_exit; apply loopP_exit; apply blockP_exit; apply seqP_normal; (iterate 2 (apply vC_seq)); apply vC_region; (iterate 2 (((apply vL_val); (case h => ((apply opv_E); exact rfl))))); apply vL_nil; apply seqP_normal; (refine vC_cond_dec rfl (fun _ => ?_) (fun h => by omega)); apply vC_seq; apply vC_region; (iterate 2 (((apply vL_val); (case h => ((apply opv_E); exact rfl))))); apply vL_nil; apply seqP_normal; apply vC_ret; apply seqP_ret)
    (apply ret2; (case h1 => (first | exact norm_eq rfl | ((conv => lhs; whnf) <;> exact rfl))); (case h2 => (first | exact norm_eq rfl | ((conv => lhs; whnf) <;> exact rfl))))
    exact .inl ⟨hfull, rfl, hf1⟩
  (apply vC_seq; apply vC_region; ((apply vL_val); (case h => ((apply opv_E); exact rfl))); apply vL_nil; apply seqP_normal; apply vC_seq; (refine vC_cond_dec rfl (fun h => by omega) (fun _ => ?_)); apply vC_exit; apply seqP_exit; apply loopP_exit; apply blockP_exit; apply seqP_normal; (iterate 2 (apply vC_seq)); apply vC_region; (iterate 2 (((apply vL_val); (case h => ((apply opv_E); exact rfl))))); apply vL_nil; apply seqP_normal; (refine vC_cond_dec rfl (fun h => by omega) (fun _ => ?_)); apply vC_skip; apply seqP_normal; apply vC_seq; apply vC_region; (iterate 3 (((apply vL_val); (case h => ((apply opv_E); exact rfl))))); ((apply vL_val); (case h => ((apply opv_fieldAddr); exact rfl))); ((apply vL_val); (case h => ((apply opv_loadb1); exact rfl; exact rfl; (first | assumption | infer_instance); exact rfl))); ((apply vL_val); (case h => ((apply opv_len); (first | exact norm_eq rfl | ((conv => lhs; whnf) <;> exact rfl)); (first | assumption | infer_instance)))); ((apply vL_val); (case h => ((apply opv_buildS); exact rfl; (first | exact (rfl : _ = some []) | exact (rfl : _ = some [_]) | exact (rfl : _ = some [_, _]) | exact (rfl : _ = some [_, _, _]) | exact (rfl : _ = some [_, _, _, _]) | exact (rfl : _ = some [_, _, _, _, _]) | exact (rfl : _ = some [_, _, _, _, _, _]) | exact (rfl : _ = some [_, _, _, _, _, _, _]) | exact (rfl : _ = some [_, _, _, _, _, _, _, _]) | exact (rfl : _ = some [_, _, _, _, _, _, _, _, _]) | exact (rfl : _ = some [_, _, _, _, _, _, _, _, _, _]) | exact (rfl : _ = some [_, _, _, _, _, _, _, _, _, _, _]) | exact (rfl : _ = some [_, _, _, _, _, _, _, _, _, _, _, _]) | exact (rfl : _ = some [_, _, _, _, _, _, _, _, _, _, _, _, _]) | exact (rfl : _ = some [_, _, _, _, _, _, _, _, _, _, _, _, _, _]) | exact (rfl : _ = some [_, _, _, _, _, _, _, _, _, _, _, _, _, _, _]) | exact (rfl : _ = some [_, _, _, _, _, _, _, _, _, _, _, _, _, _, _, _]))))); ((apply vL_val); (case h => ((apply opw_boxn); exact rfl))); ((apply vL_val); (case h => (apply opw_alloc))); ((apply vL_skip); (case h => ((apply ops_store1); (first | exact norm_eq rfl | ((conv => lhs; whnf) <;> exact rfl)); (first | exact norm_eq rfl | ((conv => lhs; whnf) <;> exact rfl)); (first | rfl | assumption); (first | assumption | infer_instance); (first | decide | exact of_decide_eq_true rfl | (simp; done))))); apply vL_nil; apply seqP_normal; apply vC_seq; apply vC_region; ((apply vL_val); (case h => ((apply opv_loadb1); exact rfl; exact rfl; (first | assumption | infer_instance); exact rfl))); ((apply vL_val); (case h => ((apply opv_makeFunc); exact rfl))); ((apply vL_val); (case h => ((apply opv_E); exact rfl))); ((apply vL_val); (case h => ((apply opv_fieldAddr); exact rfl))); ((apply vL_skip); (case h => ((apply ops_store1); (first | exact norm_eq rfl | ((conv => lhs; whnf) <;> exact rfl)); (first | exact norm_eq rfl | ((conv => lhs; whnf) <;> exact rfl)); (first | rfl | assumption); (first | assumption | infer_instance); (first | decide | exact of_decide_eq_true rfl | (simp; done))))); apply vL_nil; apply seqP_normal; apply vC_seq)
  have hne : w1.heap.size ≠ (w1.alloc (.cells #[.pointer (some ⟨rb, 0, none⟩), .int .i64 ((ts.map (·.1)).length : Nat), .nilFunc, .nilFunc, .bool false, .bool false, .bool false] 75)).heap.size := by rw [alloc_size]; omega
  haveI hn1 : NeB w1.heap.size (w1.alloc (.cells #[.pointer (some ⟨rb, 0, none⟩), .int .i64 ((ts.map (·.1)).length : Nat), .nilFunc, .nilFunc, .bool false, .bool false, .bool false] 75)).heap.size := ⟨hne⟩
  haveI hn2 : NeB (w1.alloc (.cells #[.pointer (some ⟨rb, 0, none⟩), .int .i64 ((ts.map (·.1)).length : Nat), .nilFunc, .nilFunc, .bool false, .bool false, .bool false] 75)).heap.size w1.heap.size := ⟨fun h => hne h.symm⟩
  refine vC_gen (fun w' => Fr No w1 w' ∧ Blk w'.heap w1.heap.size [.pointer (some ⟨rb, 0, none⟩), .int .i64 ((ts.map (·.1)).length : Nat), .func (.func 71) #[] #[.pointer (some ⟨w.heap.size, 0, none⟩), .pointer (some ⟨(w1.alloc (.cells #[.pointer (some ⟨rb, 0, none⟩), .int .i64 ((ts.map (·.1)).length : Nat), .nilFunc, .nilFunc, .bool false, .bool false, .bool false] 75)).heap.size, 0, none⟩)], .nilFunc, .bool false, .bool false, .bool false] 75 ∧ Blk w'.heap (w1.alloc (.cells #[.pointer (some ⟨rb, 0, none⟩), .int .i64 ((ts.map (·.1)).length : Nat), .nilFunc, .nilFunc, .bool false, .bool false, .bool false] 75)).heap.size [.pointer (some ⟨w1.heap.size, 0, none⟩)] 64) ⟨by (repeat (first | exact Fr.refl _ _ | assumption | with_reducible apply Fr.allocSet | with_reducible apply Fr.alloc | with_reducible apply Fr.drewN | with_reducible apply Fr.drew | ((with_reducible apply Fr.set); rotate_left; (right; ((try simp only [alloc_size]); omega))) | (refine Fr.trans ?_ (by assumption)))), Blk.as inferInstance rfl, inferInstance⟩ ?_
  rintro w2 ⟨hf2, htb2, htx2⟩
  have hsz2 : w1.heap.size ≤ (w1.alloc (.cells #[.pointer (some ⟨rb, 0, none⟩), .int .i64 ((ts.map (·.1)).length : Nat), .nilFunc, .nilFunc, .bool false, .bool false, .bool false] 75)).heap.size := by rw [alloc_size]; omega
  clear hn1 hn2
  generalize (w1.alloc (.cells #[.pointer (some ⟨rb, 0, none⟩), .int .i64 ((ts.map (·.1)).length : Nat), .nilFunc, .nilFunc, .bool false, .bool false, .bool false] 75)).heap.size = tx at *
  rw [hml] at htb2
  have hfb2 := hfb1.frN hf2
  have hw1 := hf1.size
  have s2 : Rt (fun k => Z k ∨ k = w.heap.size ∨ k = tx ∨ k = w1.heap.size) w2 rb sb qb lv tv now rest ready ts := s.fr (hf1.trans hf2).no_any (fun k hk => by
    rcases hk with h | rfl | rfl | rfl
    · exact ⟨Nat.lt_of_lt_of_le (s1.zs k h) hf2.size, .inl h⟩
    · exact ⟨hfb2.lt, .inr (Nat.le_refl _)⟩
    · exact ⟨htx2.lt, .inr (Nat.le_trans hw1 hsz2)⟩
    · exact ⟨htb2.lt, .inr hw1⟩)
  have hr2 := s2.hr
  have ht2 := s2.ht
  refine vC_draw' ((fun wf => Blk wf.heap tx [.pointer (some ⟨w1.heap.size, 0, none⟩)] 64)) (by (first | exact trivial | assumption | infer_instance | ((repeat (first | exact Fr.refl _ _ | assumption | with_reducible apply Fr.allocSet | with_reducible apply Fr.alloc | with_reducible apply Fr.drewN | with_reducible apply Fr.drew | ((with_reducible apply Fr.set); rotate_left; (right; ((try simp only [alloc_size]); omega))) | (refine Fr.trans ?_ (by assumption)))); done))) ?_
  ((apply (tk 0)); (case hi => exact rfl); (case hf => kernel_rfl); (case hS => (first | exact trivial | assumption | infer_instance | ((repeat (first | exact Fr.refl _ _ | assumption | with_reducible apply Fr.allocSet | with_reducible apply Fr.alloc | with_reducible apply Fr.drewN | with_reducible apply Fr.drew | ((with_reducible apply Fr.set); rotate_left; (right; ((try simp only [alloc_size]); omega))) | (refine Fr.trans ?_ (by assumption)))); done))); (case hy => (intro wf hwf; (try dsimp only at hwf); (((apply opv_E); exact rfl)))))
  ((apply (tk 1)); (case hi => exact rfl); (case hf => kernel_rfl); (case hS => (first | exact trivial | assumption | infer_instance | ((repeat (first | exact Fr.refl _ _ | assumption | with_reducible apply Fr.allocSet | with_reducible apply Fr.alloc | with_reducible apply Fr.drewN | with_reducible apply Fr.drew | ((with_reducible apply Fr.set); rotate_left; (right; ((try simp only [alloc_size]); omega))) | (refine Fr.trans ?_ (by assumption)))); done))); (case hy => (intro wf hwf; (try dsimp only at hwf); (((apply opv_E); exact rfl)))))
  ((apply (tk 2)); (case hi => exact rfl); (case hf => kernel_rfl); (case hS => (first | exact trivial | assumption | infer_instance | ((repeat (first | exact Fr.refl _ _ | assumption | with_reducible apply Fr.allocSet | with_reducible apply Fr.alloc | with_reducible apply Fr.drewN | with_reducible apply Fr.drew | ((with_reducible apply Fr.set); rotate_left; (right; ((try simp only [alloc_size]); omega))) | (refine Fr.trans ?_ (by assumption)))); done))); (case hy => (intro wf hwf; (try dsimp only at hwf); (((apply opv_E); exact rfl)))))
  ((apply (tk 3)); (case hi => exact rfl); (case hf => kernel_rfl); (case hS => (first | exact trivial | assumption | infer_instance | ((repeat (first | exact Fr.refl _ _ | assumption | with_reducible apply Fr.allocSet | with_reducible apply Fr.alloc | with_reducible apply Fr.drewN | with_reducible apply Fr.drew | ((with_reducible apply Fr.set); rotate_left; (right; ((try simp only [alloc_size]); omega))) | (refine Fr.trans ?_ (by assumption)))); done))); (case hy => (intro wf hwf; (try dsimp only at hwf); (((apply opv_fieldAddr); exact rfl)))))
  ((apply (tk 5)); (case hi => exact rfl); (case hf => kernel_rfl); (case hS => (first | exact trivial | assumption | infer_instance | ((repeat (first | exact Fr.refl _ _ | assumption | with_reducible apply Fr.allocSet | with_reducible apply Fr.alloc | with_reducible apply Fr.drewN | with_reducible apply Fr.drew | ((with_reducible apply Fr.set); rotate_left; (right; ((try simp only [alloc_size]); omega))) | (refine Fr.trans ?_ (by assumption)))); done))); (case hy => (intro wf hwf; (try dsimp only at hwf); (((apply opv_loadb1); exact rfl; exact rfl; (first | assumption | infer_instance); exact rfl)))))
  refine vA_two 4 6 rfl rfl (by kernel_rfl) (by (first | exact trivial | assumption | infer_instance | ((repeat (first | exact Fr.refl _ _ | assumption | with_reducible apply Fr.allocSet | with_reducible apply Fr.alloc | with_reducible apply Fr.drewN | with_reducible apply Fr.drew | ((with_reducible apply Fr.set); rotate_left; (right; ((try simp only [alloc_size]); omega))) | (refine Fr.trans ?_ (by assumption)))); done))) (fun K hK => ?_) (fun K hK => ?_)
  · (((apply vL_val); (case h => ((apply opv_loadb1); exact rfl; exact rfl; (first | assumption | infer_instance); exact rfl))); apply vL_nil)
    refine ⟨rfl, hK _ _ ?_⟩
    refine vA_only 6 rfl (by kernel_rfl) (by (first | exact trivial | assumption | infer_instance | ((repeat (first | exact Fr.refl _ _ | assumption | with_reducible apply Fr.allocSet | with_reducible apply Fr.alloc | with_reducible apply Fr.drewN | with_reducible apply Fr.drew | ((with_reducible apply Fr.set); rotate_left; (right; ((try simp only [alloc_size]); omega))) | (refine Fr.trans ?_ (by assumption)))); done))) (fun K hK => ?_)
    (((apply vL_val); (case h => ((apply opw_buildSl); exact rfl; exact rfl; exact rfl; (first | exact (rfl : _ = some []) | exact (rfl : _ = some [_]) | exact (rfl : _ = some [_, _]) | exact (rfl : _ = some [_, _, _]) | exact (rfl : _ = some [_, _, _, _]) | exact (rfl : _ = some [_, _, _, _, _]) | exact (rfl : _ = some [_, _, _, _, _, _]) | exact (rfl : _ = some [_, _, _, _, _, _, _]) | exact (rfl : _ = some [_, _, _, _, _, _, _, _]) | exact (rfl : _ = some [_, _, _, _, _, _, _, _, _]) | exact (rfl : _ = some [_, _, _, _, _, _, _, _, _, _]) | exact (rfl : _ = some [_, _, _, _, _, _, _, _, _, _, _]) | exact (rfl : _ = some [_, _, _, _, _, _, _, _, _, _, _, _]) | exact (rfl : _ = some [_, _, _, _, _, _, _, _, _, _, _, _, _]) | exact (rfl : _ = some [_, _, _, _, _, _, _, _, _, _, _, _, _, _]) | exact (rfl : _ = some [_, _, _, _, _, _, _, _, _, _, _, _, _, _, _]) | exact (rfl : _ = some [_, _, _, _, _, _, _, _, _, _, _, _, _, _, _, _]))))); apply vL_nil)
    refine ⟨rfl, hK _ _ ?_⟩
    refine vA_only 7 rfl (by kernel_rfl) (by (first | exact trivial | assumption | infer_instance | ((repeat (first | exact Fr.refl _ _ | assumption | with_reducible apply Fr.allocSet | with_reducible apply Fr.alloc | with_reducible apply Fr.drewN | with_reducible apply Fr.drew | ((with_reducible apply Fr.set); rotate_left; (right; ((try simp only [alloc_size]); omega))) | (refine Fr.trans ?_ (by assumption)))); done))) (fun K hK => ?_)
    refine vL_append (enc := ptE) (xs := ts.map (·.1)) (ys := [w1.heap.size]) (T := 64) (sz := 1) (by (first | exact norm_eq rfl | ((conv => lhs; whnf) <;> exact rfl))) (by (first | exact norm_eq rfl | ((conv => lhs; whnf) <;> exact rfl))) (Own.alloc (ht2.frN ((Fr.refl No _).drew))) (Rd.new1 _ _ rfl) rfl (by decide) ?_ ?_ ?_
    · simp [maxLen]; omega
    · simp; omega
    intro tv' w3 ho3 hf3 hfr3 hone3 _
    have hfa : Fr (fun j => own tv = some j) w2 w3 := (((Fr.refl _ w2).drew).alloc _).trans' hf3 (fun i hi => .inl hi)
    have hr3 := hr2.fr hfa (fun h => Own.ne_blk ht2 hr2 (by decide) h)
    have htx3 := htx2.fr hfa (fun h => s2.zn _ (.inr (.inr (.inr (.inr (.inl h))))) (.inr (.inr (.inl rfl))))
    refine vL_nil ⟨rfl, hK _ _ ?_⟩
    ((apply (tk 8)); (case hi => exact rfl); (case hf => kernel_rfl); (case hS => (first | exact trivial | assumption | infer_instance | ((repeat (first | exact Fr.refl _ _ | assumption | with_reducible apply Fr.allocSet | with_reducible apply Fr.alloc | with_reducible apply Fr.drewN | with_reducible apply Fr.drew | ((with_reducible apply Fr.set); rotate_left; (right; ((try simp only [alloc_size]); omega))) | (refine Fr.trans ?_ (by assumption)))); done))); (case hy => (intro wf hwf; (try dsimp only at hwf); (((apply opv_E); exact rfl)))))
    ((apply (tk 9)); (case hi => exact rfl); (case hf => kernel_rfl); (case hS => (first | exact trivial | assumption | infer_instance | ((repeat (first | exact Fr.refl _ _ | assumption | with_reducible apply Fr.allocSet | with_reducible apply Fr.alloc | with_reducible apply Fr.drewN | with_reducible apply Fr.drew | ((with_reducible apply Fr.set); rotate_left; (right; ((try simp only [alloc_size]); omega))) | (refine Fr.trans ?_ (by assumption)))); done))); (case hy => (intro wf hwf; (try dsimp only at hwf); (((apply opv_fieldAddr); exact rfl)))))
    refine vA_only 10 rfl (by kernel_rfl) (by (first | exact trivial | assumption | infer_instance | ((repeat (first | exact Fr.refl _ _ | assumption | with_reducible apply Fr.allocSet | with_reducible apply Fr.alloc | with_reducible apply Fr.drewN | with_reducible apply Fr.drew | ((with_reducible apply Fr.set); rotate_left; (right; ((try simp only [alloc_size]); omega))) | (refine Fr.trans ?_ (by assumption)))); done))) (fun K hK => ?_)
    have hone3' := hone3
    (((apply vL_skip); (case h => ((apply ops_store1); (first | exact norm_eq rfl | ((conv => lhs; whnf) <;> exact rfl)); (first | exact norm_eq rfl | ((conv => lhs; whnf) <;> exact rfl)); (first | rfl | assumption); (first | assumption | infer_instance); (first | decide | exact of_decide_eq_true rfl | (simp; done))))); apply vL_nil)
    refine ⟨rfl, hK _ _ ?_⟩
    obtain ⟨s4, hz4⟩ := s2.push (w' := w3.setRow rb [.pointer (some ⟨sb, 0, none⟩), tv', nowV now, .int .u64 rest].toArray) (Z' := fun k => Z k ∨ k = w.heap.size ∨ k = tx) (tv' := tv') (y := newT w.heap.size tx) (.inr (.inr (.inr rfl))) htb2 ((hfa.mono (fun k _ h => .inl h)).set _ _ (.inl (.inr rfl))) (show Blk _ rb [.pointer (some ⟨sb, 0, none⟩), tv', nowV now, .int .u64 rest] 82 from inferInstance) (ho3.set (Own.ne_blk ho3 hr3 (by decide))) hone3 (fun k hk => (hfr3 k hk).imp id (fun h => by rw [alloc_size] at h; exact Nat.le_trans (Nat.le_succ _) h)) (fun k hk => by
      rcases hk with h | rfl | rfl
      · exact ⟨.inl h, fun e => by have := s.zs k h; omega⟩
      · exact ⟨.inr (.inl rfl), fun e => by have := hfb1.lt; omega⟩
      · exact ⟨.inr (.inr (.inl rfl)), fun e => hne e.symm⟩)
    haveI hnt : NeB tx rb := ⟨Blk.ne_type htx3 hr3 (by decide)⟩
    refine vA_done (by kernel_rfl) (by (first | exact trivial | assumption | infer_instance | ((repeat (first | exact Fr.refl _ _ | assumption | with_reducible apply Fr.allocSet | with_reducible apply Fr.alloc | with_reducible apply Fr.drewN | with_reducible apply Fr.drew | ((with_reducible apply Fr.set); rotate_left; (right; ((try simp only [alloc_size]); omega))) | (refine Fr.trans ?_ (by assumption)))); done))) ?_
    (apply seqP_normal; apply vC_seq)
    refine vC_gen (fun w' => Rt (fun k => Z k ∨ k = w.heap.size ∨ k = tx) w' rb sb qb lv tv' now rest ready (ts ++ [(w1.heap.size, newT w.heap.size tx)]) ∧ Fr (fun k => ¬ (Z k ∨ k = w.heap.size ∨ k = tx ∨ k = w1.heap.size)) w2 w') ⟨s4, hz4⟩ ?_
    clear s4 hz4
    rintro w4 ⟨s4, hz4⟩
    have hr4 := s4.hr
    have htx4 := htx2.fr hz4 (fun h => h (.inr (.inr (.inl rfl))))
    have htb4 := s4.tk ts.length _ (by rw [List.getElem?_append_right (Nat.le_refl _), Nat.sub_self]; rfl)
    rw [tkL, newT] at htb4
    refine vC_draw' ((fun wf => Blk wf.heap tx [.pointer (some ⟨w1.heap.size, 0, none⟩)] 64 ∧ Blk wf.heap rb [.pointer (some ⟨sb, 0, none⟩), tv', nowV now, .int .u64 rest] 82 ∧ Blk wf.heap w1.heap.size [.pointer (some ⟨rb, 0, none⟩), .int .i64 ts.length, .func (.func 71) #[] #[.pointer (some ⟨w.heap.size, 0, none⟩), .pointer (some ⟨tx, 0, none⟩)], .nilFunc, .bool false, .bool false, .bool false] 75)) (by (first | exact trivial | assumption | infer_instance | (refine ⟨?_, ?_, ?_⟩ <;> (first | assumption | infer_instance)) | ((repeat (first | exact Fr.refl _ _ | assumption | with_reducible apply Fr.allocSet | with_reducible apply Fr.alloc | with_reducible apply Fr.drewN | with_reducible apply Fr.drew | ((with_reducible apply Fr.set); rotate_left; (right; ((try simp only [alloc_size]); omega))) | (refine Fr.trans ?_ (by assumption)))); done))) ?_
    ((apply (tk 0)); (case hi => exact rfl); (case hf => kernel_rfl); (case hS => (first | exact trivial | assumption | infer_instance | (refine ⟨?_, ?_, ?_⟩ <;> (first | assumption | infer_instance)) | ((repeat (first | exact Fr.refl _ _ | assumption | with_reducible apply Fr.allocSet | with_reducible apply Fr.alloc | with_reducible apply Fr.drewN | with_reducible apply Fr.drew | ((with_reducible apply Fr.set); rotate_left; (right; ((try simp only [alloc_size]); omega))) | (refine Fr.trans ?_ (by assumption)))); done))); (case hy => (rintro wf ⟨hwa, hwb, hwc⟩; (((apply opv_E); exact rfl)))))
    ((apply (tk 1)); (case hi => exact rfl); (case hf => kernel_rfl); (case hS => (first | exact trivial | assumption | infer_instance | (refine ⟨?_, ?_, ?_⟩ <;> (first | assumption | infer_instance)) | ((repeat (first | exact Fr.refl _ _ | assumption | with_reducible apply Fr.allocSet | with_reducible apply Fr.alloc | with_reducible apply Fr.drewN | with_reducible apply Fr.drew | ((with_reducible apply Fr.set); rotate_left; (right; ((try simp only [alloc_size]); omega))) | (refine Fr.trans ?_ (by assumption)))); done))); (case hy => (rintro wf ⟨hwa, hwb, hwc⟩; (((apply opv_E); exact rfl)))))
    ((apply (tk 2)); (case hi => exact rfl); (case hf => kernel_rfl); (case hS => (first | exact trivial | assumption | infer_instance | (refine ⟨?_, ?_, ?_⟩ <;> (first | assumption | infer_instance)) | ((repeat (first | exact Fr.refl _ _ | assumption | with_reducible apply Fr.allocSet | with_reducible apply Fr.alloc | with_reducible apply Fr.drewN | with_reducible apply Fr.drew | ((with_reducible apply Fr.set); rotate_left; (right; ((try simp only [alloc_size]); omega))) | (refine Fr.trans ?_ (by assumption)))); done))); (case hy => (rintro wf ⟨hwa, hwb, hwc⟩; (((apply opv_fieldAddr); exact rfl)))))
    ((apply (tk 3)); (case hi => exact rfl); (case hf => kernel_rfl); (case hS => (first | exact trivial | assumption | infer_instance | (refine ⟨?_, ?_, ?_⟩ <;> (first | assumption | infer_instance)) | ((repeat (first | exact Fr.refl _ _ | assumption | with_reducible apply Fr.allocSet | with_reducible apply Fr.alloc | with_reducible apply Fr.drewN | with_reducible apply Fr.drew | ((with_reducible apply Fr.set); rotate_left; (right; ((try simp only [alloc_size]); omega))) | (refine Fr.trans ?_ (by assumption)))); done))); (case hy => (rintro wf ⟨hwa, hwb, hwc⟩; (((apply opv_loadb1); exact rfl; exact rfl; (first | assumption | infer_instance); exact rfl)))))
    ((apply (tk 4)); (case hi => exact rfl); (case hf => kernel_rfl); (case hS => (first | exact trivial | assumption | infer_instance | (refine ⟨?_, ?_, ?_⟩ <;> (first | assumption | infer_instance)) | ((repeat (first | exact Fr.refl _ _ | assumption | with_reducible apply Fr.allocSet | with_reducible apply Fr.alloc | with_reducible apply Fr.drewN | with_reducible apply Fr.drew | ((with_reducible apply Fr.set); rotate_left; (right; ((try simp only [alloc_size]); omega))) | (refine Fr.trans ?_ (by assumption)))); done))); (case hy => (rintro wf ⟨hwa, hwb, hwc⟩; (((apply opv_loadb1); exact rfl; exact rfl; (first | assumption | infer_instance); exact rfl)))))
    ((apply (tk 5)); (case hi => exact rfl); (case hf => kernel_rfl); (case hS => (first | exact trivial | assumption | infer_instance | (refine ⟨?_, ?_, ?_⟩ <;> (first | assumption | infer_instance)) | ((repeat (first | exact Fr.refl _ _ | assumption | with_reducible apply Fr.allocSet | with_reducible apply Fr.alloc | with_reducible apply Fr.drewN | with_reducible apply Fr.drew | ((with_reducible apply Fr.set); rotate_left; (right; ((try simp only [alloc_size]); omega))) | (refine Fr.trans ?_ (by assumption)))); done))); (case hy => (rintro wf ⟨hwa, hwb, hwc⟩; (((apply opv_E); exact rfl)))))
    ((apply (tk 6)); (case hi => exact rfl); (case hf => kernel_rfl); (case hS => (first | exact trivial | assumption | infer_instance | (refine ⟨?_, ?_, ?_⟩ <;> (first | assumption | infer_instance)) | ((repeat (first | exact Fr.refl _ _ | assumption | with_reducible apply Fr.allocSet | with_reducible apply Fr.alloc | with_reducible apply Fr.drewN | with_reducible apply Fr.drew | ((with_reducible apply Fr.set); rotate_left; (right; ((try simp only [alloc_size]); omega))) | (refine Fr.trans ?_ (by assumption)))); done))); (case hy => (rintro wf ⟨hwa, hwb, hwc⟩; (((apply opv_fieldAddr); exact rfl)))))
    ((apply (tk 7)); (case hi => exact rfl); (case hf => kernel_rfl); (case hS => (first | exact trivial | assumption | infer_instance | (refine ⟨?_, ?_, ?_⟩ <;> (first | assumption | infer_instance)) | ((repeat (first | exact Fr.refl _ _ | assumption | with_reducible apply Fr.allocSet | with_reducible apply Fr.alloc | with_reducible apply Fr.drewN | with_reducible apply Fr.drew | ((with_reducible apply Fr.set); rotate_left; (right; ((try simp only [alloc_size]); omega))) | (refine Fr.trans ?_ (by assumption)))); done))); (case hy => (rintro wf ⟨hwa, hwb, hwc⟩; (((apply opv_loadb1); exact rfl; exact rfl; (first | assumption | infer_instance); exact rfl)))))
    refine tkc 8 rfl (by kernel_rfl) (by (first | exact trivial | assumption | infer_instance | (refine ⟨?_, ?_, ?_⟩ <;> (first | assumption | infer_instance)) | ((repeat (first | exact Fr.refl _ _ | assumption | with_reducible apply Fr.allocSet | with_reducible apply Fr.alloc | with_reducible apply Fr.drewN | with_reducible apply Fr.drew | ((with_reducible apply Fr.set); rotate_left; (right; ((try simp only [alloc_size]); omega))) | (refine Fr.trans ?_ (by assumption)))); done))) rfl (s_ready sb qb lv ready ts.length _ (s4.sc.frN (Fr.refl No _).drew) hl) rfl ?_
    rintro _ w5 ⟨rfl, lv', hsc⟩
    obtain ⟨s5, hz5⟩ := s4.line (hsc.after (Fr.refl No _).drew)
    have hr5 := s5.hr
    have htx5 := htx4.fr hz5 (fun h => h (.inr (.inr rfl)))
    have htb5 : Blk w5.heap w1.heap.size [.pointer (some ⟨rb, 0, none⟩), .int .i64 ts.length, .func (.func 71) #[] #[.pointer (some ⟨w.heap.size, 0, none⟩), .pointer (some ⟨tx, 0, none⟩)], .nilFunc, .bool false, .bool false, .bool false] 75 := s5.tk ts.length _ (by rw [List.getElem?_append_right (Nat.le_refl _), Nat.sub_self]; rfl)
    refine vA_done (by kernel_rfl) (by (first | exact trivial | assumption | infer_instance | (refine ⟨?_, ?_, ?_⟩ <;> (first | assumption | infer_instance)) | ((repeat (first | exact Fr.refl _ _ | assumption | with_reducible apply Fr.allocSet | with_reducible apply Fr.alloc | with_reducible apply Fr.drewN | with_reducible apply Fr.drew | ((with_reducible apply Fr.set); rotate_left; (right; ((try simp only [alloc_size]); omega))) | (refine Fr.trans ?_ (by assumption)))); done))) ?_
    (apply seqP_normal; apply vC_seq; apply vC_region; ((apply vL_val); (case h => ((apply opv_loadb1); exact rfl; exact rfl; (first | assumption | infer_instance); exact rfl))); (iterate 2 (((apply vL_val); (case h => ((apply opv_E); exact rfl))))); apply vL_nil; apply seqP_normal; apply vC_ret)
    (apply ret2; (case h1 => (first | exact norm_eq rfl | ((conv => lhs; whnf) <;> exact rfl))); (case h2 => (first | exact norm_eq rfl | ((conv => lhs; whnf) <;> exact rfl))))
    exact .inr ⟨by omega, w1.heap.size, w.heap.size, tx, lv', tv', rfl, hw1, Nat.le_refl _, Nat.le_trans hw1 hsz2, (hfb2.fr hz4 (fun h => h (.inr (.inl rfl)))).fr hz5 (fun h => h (.inr (.inl rfl))), htx5, ((hf1.trans hf2).no_any.trans (hz4.mono (fun k _ h h' => h (.inl h')))).trans (hz5.mono (fun k _ h h' => h (.inl h'))), s5⟩
  · (((apply vL_val); (case h => ((apply opw_buildSl); exact rfl; exact rfl; exact rfl; (first | exact (rfl : _ = some []) | exact (rfl : _ = some [_]) | exact (rfl : _ = some [_, _]) | exact (rfl : _ = some [_, _, _]) | exact (rfl : _ = some [_, _, _, _]) | exact (rfl : _ = some [_, _, _, _, _]) | exact (rfl : _ = some [_, _, _, _, _, _]) | exact (rfl : _ = some [_, _, _, _, _, _, _]) | exact (rfl : _ = some [_, _, _, _, _, _, _, _]) | exact (rfl : _ = some [_, _, _, _, _, _, _, _, _]) | exact (rfl : _ = some [_, _, _, _, _, _, _, _, _, _]) | exact (rfl : _ = some [_, _, _, _, _, _, _, _, _, _, _]) | exact (rfl : _ = some [_, _, _, _, _, _, _, _, _, _, _, _]) | exact (rfl : _ = some [_, _, _, _, _, _, _, _, _, _, _, _, _]) | exact (rfl : _ = some [_, _, _, _, _, _, _, _, _, _, _, _, _, _]) | exact (rfl : _ = some [_, _, _, _, _, _, _, _, _, _, _, _, _, _, _]) | exact (rfl : _ = some [_, _, _, _, _, _, _, _, _, _, _, _, _, _, _, _]))))); apply vL_nil)
    refine ⟨rfl, hK _ _ ?_⟩
    refine vA_only 4 rfl (by kernel_rfl) (by (first | exact trivial | assumption | infer_instance | ((repeat (first | exact Fr.refl _ _ | assumption | with_reducible apply Fr.allocSet | with_reducible apply Fr.alloc | with_reducible apply Fr.drewN | with_reducible apply Fr.drew | ((with_reducible apply Fr.set); rotate_left; (right; ((try simp only [alloc_size]); omega))) | (refine Fr.trans ?_ (by assumption)))); done))) (fun K hK => ?_)
    (((apply vL_val); (case h => ((apply opv_loadb1); exact rfl; exact rfl; (first | assumption | infer_instance); exact rfl))); apply vL_nil)
    refine ⟨rfl, hK _ _ ?_⟩
    refine vA_only 7 rfl (by kernel_rfl) (by (first | exact trivial | assumption | infer_instance | ((repeat (first | exact Fr.refl _ _ | assumption | with_reducible apply Fr.allocSet | with_reducible apply Fr.alloc | with_reducible apply Fr.drewN | with_reducible apply Fr.drew | ((with_reducible apply Fr.set); rotate_left; (right; ((try simp only [alloc_size]); omega))) | (refine Fr.trans ?_ (by assumption)))); done))) (fun K hK => ?_)
    refine vL_append (enc := ptE) (xs := ts.map (·.1)) (ys := [w1.heap.size]) (T := 64) (sz := 1) (by (first | exact norm_eq rfl | ((conv => lhs; whnf) <;> exact rfl))) (by (first | exact norm_eq rfl | ((conv => lhs; whnf) <;> exact rfl))) (Own.alloc (ht2.frN ((Fr.refl No _).drew))) (Rd.new1 _ _ rfl) rfl (by decide) ?_ ?_ ?_
    · simp [maxLen]; omega
    · simp; omega
    intro tv' w3 ho3 hf3 hfr3 hone3 _
    have hfa : Fr (fun j => own tv = some j) w2 w3 := (((Fr.refl _ w2).drew).alloc _).trans' hf3 (fun i hi => .inl hi)
    have hr3 := hr2.fr hfa (fun h => Own.ne_blk ht2 hr2 (by decide) h)
    have htx3 := htx2.fr hfa (fun h => s2.zn _ (.inr (.inr (.inr (.inr (.inl h))))) (.inr (.inr (.inl rfl))))
    refine vL_nil ⟨rfl, hK _ _ ?_⟩
    ((apply (tk 8)); (case hi => exact rfl); (case hf => kernel_rfl); (case hS => (first | exact trivial | assumption | infer_instance | ((repeat (first | exact Fr.refl _ _ | assumption | with_reducible apply Fr.allocSet | with_reducible apply Fr.alloc | with_reducible apply Fr.drewN | with_reducible apply Fr.drew | ((with_reducible apply Fr.set); rotate_left; (right; ((try simp only [alloc_size]); omega))) | (refine Fr.trans ?_ (by assumption)))); done))); (case hy => (intro wf hwf; (try dsimp only at hwf); (((apply opv_E); exact rfl)))))
    ((apply (tk 9)); (case hi => exact rfl); (case hf => kernel_rfl); (case hS => (first | exact trivial | assumption | infer_instance | ((repeat (first | exact Fr.refl _ _ | assumption | with_reducible apply Fr.allocSet | with_reducible apply Fr.alloc | with_reducible apply Fr.drewN | with_reducible apply Fr.drew | ((with_reducible apply Fr.set); rotate_left; (right; ((try simp only [alloc_size]); omega))) | (refine Fr.trans ?_ (by assumption)))); done))); (case hy => (intro wf hwf; (try dsimp only at hwf); (((apply opv_fieldAddr); exact rfl)))))
    refine vA_only 10 rfl (by kernel_rfl) (by (first | exact trivial | assumption | infer_instance | ((repeat (first | exact Fr.refl _ _ | assumption | with_reducible apply Fr.allocSet | with_reducible apply Fr.alloc | with_reducible apply Fr.drewN | with_reducible apply Fr.drew | ((with_reducible apply Fr.set); rotate_left; (right; ((try simp only [alloc_size]); omega))) | (refine Fr.trans ?_ (by assumption)))); done))) (fun K hK => ?_)
    have hone3' := hone3
    (((apply vL_skip); (case h => ((apply ops_store1); (first | exact norm_eq rfl | ((conv => lhs; whnf) <;> exact rfl)); (first | exact norm_eq rfl | ((conv => lhs; whnf) <;> exact rfl)); (first | rfl | assumption); (first | assumption | infer_instance); (first | decide | exact of_decide_eq_true rfl | (simp; done))))); apply vL_nil)
    refine ⟨rfl, hK _ _ ?_⟩
    obtain ⟨s4, hz4⟩ := s2.push (w' := w3.setRow rb [.pointer (some ⟨sb, 0, none⟩), tv', nowV now, .int .u64 rest].toArray) (Z' := fun k => Z k ∨ k = w.heap.size ∨ k = tx) (tv' := tv') (y := newT w.heap.size tx) (.inr (.inr (.inr rfl))) htb2 ((hfa.mono (fun k _ h => .inl h)).set _ _ (.inl (.inr rfl))) (show Blk _ rb [.pointer (some ⟨sb, 0, none⟩), tv', nowV now, .int .u64 rest] 82 from inferInstance) (ho3.set (Own.ne_blk ho3 hr3 (by decide))) hone3 (fun k hk => (hfr3 k hk).imp id (fun h => by rw [alloc_size] at h; exact Nat.le_trans (Nat.le_succ _) h)) (fun k hk => by
      rcases hk with h | rfl | rfl
      · exact ⟨.inl h, fun e => by have := s.zs k h; omega⟩
      · exact ⟨.inr (.inl rfl), fun e => by have := hfb1.lt; omega⟩
      · exact ⟨.inr (.inr (.inl rfl)), fun e => hne e.symm⟩)
    haveI hnt : NeB tx rb := ⟨Blk.ne_type htx3 hr3 (by decide)⟩
    refine vA_done (by kernel_rfl) (by (first | exact trivial | assumption | infer_instance | ((repeat (first | exact Fr.refl _ _ | assumption | with_reducible apply Fr.allocSet | with_reducible apply Fr.alloc | with_reducible apply Fr.drewN | with_reducible apply Fr.drew | ((with_reducible apply Fr.set); rotate_left; (right; ((try simp only [alloc_size]); omega))) | (refine Fr.trans ?_ (by assumption)))); done))) ?_
    (apply seqP_normal; apply vC_seq)
    refine vC_gen (fun w' => Rt (fun k => Z k ∨ k = w.heap.size ∨ k = tx) w' rb sb qb lv tv' now rest ready (ts ++ [(w1.heap.size, newT w.heap.size tx)]) ∧ Fr (fun k => ¬ (Z k ∨ k = w.heap.size ∨ k = tx ∨ k = w1.heap.size)) w2 w') ⟨s4, hz4⟩ ?_
    clear s4 hz4
    rintro w4 ⟨s4, hz4⟩
    have hr4 := s4.hr
    have htx4 := htx2.fr hz4 (fun h => h (.inr (.inr (.inl rfl))))
    have htb4 := s4.tk ts.length _ (by rw [List.getElem?_append_right (Nat.le_refl _), Nat.sub_self]; rfl)
    rw [tkL, newT] at htb4
    refine vC_draw' ((fun wf => Blk wf.heap tx [.pointer (some ⟨w1.heap.size, 0, none⟩)] 64 ∧ Blk wf.heap rb [.pointer (some ⟨sb, 0, none⟩), tv', nowV now, .int .u64 rest] 82 ∧ Blk wf.heap w1.heap.size [.pointer (some ⟨rb, 0, none⟩), .int .i64 ts.length, .func (.func 71) #[] #[.pointer (some ⟨w.heap.size, 0, none⟩), .pointer (some ⟨tx, 0, none⟩)], .nilFunc, .bool false, .bool false, .bool false] 75)) (by (first | exact trivial | assumption | infer_instance | (refine ⟨?_, ?_, ?_⟩ <;> (first | assumption | infer_instance)) | ((repeat (first | exact Fr.refl _ _ | assumption | with_reducible apply Fr.allocSet | with_reducible apply Fr.alloc | with_reducible apply Fr.drewN | with_reducible apply Fr.drew | ((with_reducible apply Fr.set); rotate_left; (right; ((try simp only [alloc_size]); omega))) | (refine Fr.trans ?_ (by assumption)))); done))) ?_
    ((apply (tk 0)); (case hi => exact rfl); (case hf => kernel_rfl); (case hS => (first | exact trivial | assumption | infer_instance | (refine ⟨?_, ?_, ?_⟩ <;> (first | assumption | infer_instance)) | ((repeat (first | exact Fr.refl _ _ | assumption | with_reducible apply Fr.allocSet | with_reducible apply Fr.alloc | with_reducible apply Fr.drewN | with_reducible apply Fr.drew | ((with_reducible apply Fr.set); rotate_left; (right; ((try simp only [alloc_size]); omega))) | (refine Fr.trans ?_ (by assumption)))); done))); (case hy => (rintro wf ⟨hwa, hwb, hwc⟩; (((apply opv_E); exact rfl)))))
    ((apply (tk 1)); (case hi => exact rfl); (case hf => kernel_rfl); (case hS => (first | exact trivial | assumption | infer_instance | (refine ⟨?_, ?_, ?_⟩ <;> (first | assumption | infer_instance)) | ((repeat (first | exact Fr.refl _ _ | assumption | with_reducible apply Fr.allocSet | with_reducible apply Fr.alloc | with_reducible apply Fr.drewN | with_reducible apply Fr.drew | ((with_reducible apply Fr.set); rotate_left; (right; ((try simp only [alloc_size]); omega))) | (refine Fr.trans ?_ (by assumption)))); done))); (case hy => (rintro wf ⟨hwa, hwb, hwc⟩; (((apply opv_E); exact rfl)))))
    ((apply (tk 2)); (case hi => exact rfl); (case hf => kernel_rfl); (case hS => (first | exact trivial | assumption | infer_instance | (refine ⟨?_, ?_, ?_⟩ <;> (first | assumption | infer_instance)) | ((repeat (first | exact Fr.refl _ _ | assumption | with_reducible apply Fr.allocSet | with_reducible apply Fr.alloc | with_reducible apply Fr.drewN | with_reducible apply Fr.drew | ((with_reducible apply Fr.set); rotate_left; (right; ((try simp only [alloc_size]); omega))) | (refine Fr.trans ?_ (by assumption)))); done))); (case hy => (rintro wf ⟨hwa, hwb, hwc⟩; (((apply opv_fieldAddr); exact rfl)))))
    ((apply (tk 3)); (case hi => exact rfl); (case hf => kernel_rfl); (case hS => (first | exact trivial | assumption | infer_instance | (refine ⟨?_, ?_, ?_⟩ <;> (first | assumption | infer_instance)) | ((repeat (first | exact Fr.refl _ _ | assumption | with_reducible apply Fr.allocSet | with_reducible apply Fr.alloc | with_reducible apply Fr.drewN | with_reducible apply Fr.drew | ((with_reducible apply Fr.set); rotate_left; (right; ((try simp only [alloc_size]); omega))) | (refine Fr.trans ?_ (by assumption)))); done))); (case hy => (rintro wf ⟨hwa, hwb, hwc⟩; (((apply opv_loadb1); exact rfl; exact rfl; (first | assumption | infer_instance); exact rfl)))))
    ((apply (tk 4)); (case hi => exact rfl); (case hf => kernel_rfl); (case hS => (first | exact trivial | assumption | infer_instance | (refine ⟨?_, ?_, ?_⟩ <;> (first | assumption | infer_instance)) | ((repeat (first | exact Fr.refl _ _ | assumption | with_reducible apply Fr.allocSet | with_reducible apply Fr.alloc | with_reducible apply Fr.drewN | with_reducible apply Fr.drew | ((with_reducible apply Fr.set); rotate_left; (right; ((try simp only [alloc_size]); omega))) | (refine Fr.trans ?_ (by assumption)))); done))); (case hy => (rintro wf ⟨hwa, hwb, hwc⟩; (((apply opv_loadb1); exact rfl; exact rfl; (first | assumption | infer_instance); exact rfl)))))
    ((apply (tk 5)); (case hi => exact rfl); (case hf => kernel_rfl); (case hS => (first | exact trivial | assumption | infer_instance | (refine ⟨?_, ?_, ?_⟩ <;> (first | assumption | infer_instance)) | ((repeat (first | exact Fr.refl _ _ | assumption | with_reducible apply Fr.allocSet | with_reducible apply Fr.alloc | with_reducible apply Fr.drewN | with_reducible apply Fr.drew | ((with_reducible apply Fr.set); rotate_left; (right; ((try simp only [alloc_size]); omega))) | (refine Fr.trans ?_ (by assumption)))); done))); (case hy => (rintro wf ⟨hwa, hwb, hwc⟩; (((apply opv_E); exact rfl)))))
    ((apply (tk 6)); (case hi => exact rfl); (case hf => kernel_rfl); (case hS => (first | exact trivial | assumption | infer_instance | (refine ⟨?_, ?_, ?_⟩ <;> (first | assumption | infer_instance)) | ((repeat (first | exact Fr.refl _ _ | assumption | with_reducible apply Fr.allocSet | with_reducible apply Fr.alloc | with_reducible apply Fr.drewN | with_reducible apply Fr.drew | ((with_reducible apply Fr.set); rotate_left; (right; ((try simp only [alloc_size]); omega))) | (refine Fr.trans ?_ (by assumption)))); done))); (case hy => (rintro wf ⟨hwa, hwb, hwc⟩; (((apply opv_fieldAddr); exact rfl)))))
    ((apply (tk 7)); (case hi => exact rfl); (case hf => kernel_rfl); (case hS => (first | exact trivial | assumption | infer_instance | (refine ⟨?_, ?_, ?_⟩ <;> (first | assumption | infer_instance)) | ((repeat (first | exact Fr.refl _ _ | assumption | with_reducible apply Fr.allocSet | with_reducible apply Fr.alloc | with_reducible apply Fr.drewN | with_reducible apply Fr.drew | ((with_reducible apply Fr.set); rotate_left; (right; ((try simp only [alloc_size]); omega))) | (refine Fr.trans ?_ (by assumption)))); done))); (case hy => (rintro wf ⟨hwa, hwb, hwc⟩; (((apply opv_loadb1); exact rfl; exact rfl; (first | assumption | infer_instance); exact rfl)))))
    refine tkc 8 rfl (by kernel_rfl) (by (first | exact trivial | assumption | infer_instance | (refine ⟨?_, ?_, ?_⟩ <;> (first | assumption | infer_instance)) | ((repeat (first | exact Fr.refl _ _ | assumption | with_reducible apply Fr.allocSet | with_reducible apply Fr.alloc | with_reducible apply Fr.drewN | with_reducible apply Fr.drew | ((with_reducible apply Fr.set); rotate_left; (right; ((try simp only [alloc_size]); omega))) | (refine Fr.trans ?_ (by assumption)))); done))) rfl (s_ready sb qb lv ready ts.length _ (s4.sc.frN (Fr.refl No _).drew) hl) rfl ?_
    rintro _ w5 ⟨rfl, lv', hsc⟩
    obtain ⟨s5, hz5⟩ := s4.line (hsc.after (Fr.refl No _).drew)
    have hr5 := s5.hr
    have htx5 := htx4.fr hz5 (fun h => h (.inr (.inr rfl)))
    have htb5 : Blk w5.heap w1.heap.size [.pointer (some ⟨rb, 0, none⟩), .int .i64 ts.length, .func (.func 71) #[] #[.pointer (some ⟨w.heap.size, 0, none⟩), .pointer (some ⟨tx, 0, none⟩)], .nilFunc, .bool false, .bool false, .bool false] 75 := s5.tk ts.length _ (by rw [List.getElem?_append_right (Nat.le_refl _), Nat.sub_self]; rfl)
    refine vA_done (by kernel_rfl) (by (first | exact trivial | assumption | infer_instance | (refine ⟨?_, ?_, ?_⟩ <;> (first | assumption | infer_instance)) | ((repeat (first | exact Fr.refl _ _ | assumption | with_reducible apply Fr.allocSet | with_reducible apply Fr.alloc | with_reducible apply Fr.drewN | with_reducible apply Fr.drew | ((with_reducible apply Fr.set); rotate_left; (right; ((try simp only [alloc_size]); omega))) | (refine Fr.trans ?_ (by assumption)))); done))) ?_
    (apply seqP_normal; apply vC_seq; apply vC_region; ((apply vL_val); (case h => ((apply opv_loadb1); exact rfl; exact rfl; (first | assumption | infer_instance); exact rfl))); (iterate 2 (((apply vL_val); (case h => ((apply opv_E); exact rfl))))); apply vL_nil; apply seqP_normal; apply vC_ret)
    (apply ret2; (case h1 => (first | exact norm_eq rfl | ((conv => lhs; whnf) <;> exact rfl))); (case h2 => (first | exact norm_eq rfl | ((conv => lhs; whnf) <;> exact rfl))))
    exact .inr ⟨by omega, w1.heap.size, w.heap.size, tx, lv', tv', rfl, hw1, Nat.le_refl _, Nat.le_trans hw1 hsz2, (hfb2.fr hz4 (fun h => h (.inr (.inl rfl)))).fr hz5 (fun h => h (.inr (.inl rfl))), htx5, ((hf1.trans hf2).no_any.trans (hz4.mono (fun k _ h h' => h (.inl h')))).trans (hz5.mono (fun k _ h h' => h (.inl h'))), s5⟩
end
end Go.Proofs.Ytaeckjhipmcddaa

set_option maxRecDepth 100000
namespace Go.Proofs.Ytaeckjhipmcddaa
open Go Go.Eng
section
variable {Z : Nat → Prop} {w : World} {rb sb qb : Nat} {lv tv : Value} {rest : Int} {ready : List Int} {ts : List (Nat × TK)}
theorem r_step_none (s : Rt Z w rb sb qb lv tv none rest [] ts) (p : Int) (hp : 0 ≤ p ∧ p ≤ 18446744073709551615) :
    Rets Try.prog 26 #[.pointer (some ⟨rb, 0, none⟩), .int .u64 p] w fun u w' => w = w' ∧ u = .bool false := by
  have hr := s.hr
  refine rets_of Try.func26 rfl Try.ntmps26 rfl rfl (by kernel_rfl) ?_
  (apply vC_seq; apply vC_region; ((apply vL_val); (case h => ((apply opv_E); exact rfl))); apply vL_nil; apply seqP_normal; (iterate 2 (apply vC_seq)); apply vC_region; ((apply vL_val); (case h => ((apply opv_E); exact rfl))))
  refine vL_callF rfl (r_right s) rfl ?_
  rintro _ _ ⟨rfl, rfl⟩
  (((apply vL_val); (case h => ((apply opv_not); exact rfl))); ((apply vL_val); (case h => ((apply opv_E); exact rfl))); ((apply vL_wanted); exact rfl); ((apply vL_val); (case h => ((apply opv_E); exact rfl))); ((apply vL_wanted); exact rfl); ((apply vL_val); (case h => ((apply opv_E); exact rfl))); ((apply vL_wanted); exact rfl); ((apply vL_val); (case h => ((apply opv_fieldAddr); exact rfl))); ((apply vL_wanted); exact rfl); ((apply vL_val); (case h => ((apply opv_loadb1); exact rfl; exact rfl; (first | assumption | infer_instance); exact rfl))); ((apply vL_wanted); exact rfl); ((apply vL_val); (case h => ((apply opv_neq_pnil); exact rfl; exact rfl; (simp; done)))); ((apply vL_val); (case h => ((apply opv_E); exact rfl))); apply vL_nil; apply seqP_normal; ((apply vC_cond_false); exact rfl); apply vC_skip; apply seqP_normal; apply vC_seq; apply vC_region; (iterate 2 (((apply vL_val); (case h => ((apply opv_E); exact rfl))))); ((apply vL_val); (case h => ((apply opv_fieldAddr); exact rfl))); ((apply vL_val); (case h => ((apply opv_loadb1); exact rfl; exact rfl; (first | assumption | infer_instance); exact rfl))); ((apply vL_val); (case h => ((apply opv_E); exact rfl))))
  refine vL_callF rfl (s_pick sb qb lv [] p w s.sc (by decide) hp) rfl ?_
  rintro _ w1 (⟨_, rfl, rfl⟩ | ⟨z, lv1, hz, rfl, hsc⟩)
  · ((iterate 7 (((apply vL_val); (case h => ((apply opv_E); exact rfl))))); apply vL_nil; apply seqP_normal; (iterate 2 (apply vC_seq)); apply vC_region; ((apply vL_val); (case h => ((apply opv_E); exact rfl))); ((apply vL_val); (case h => ((apply opv_not); exact rfl))); apply vL_nil; apply seqP_normal; ((apply vC_cond_true); exact rfl); apply vC_seq; apply vC_region; ((apply vL_val); (case h => ((apply opv_E); exact rfl))); apply vL_nil; apply seqP_normal; apply vC_ret; apply seqP_ret)
    (apply ret1; (case h1 => (first | exact norm_eq rfl | ((conv => lhs; whnf) <;> exact rfl))))
    exact ⟨rfl, rfl⟩
  · simp at hz
theorem r_step (s : Rt Z w rb sb qb lv tv none rest ready ts) (p : Int) (hp : 0 ≤ p ∧ p ≤ 18446744073709551615) (hl : ready.length ≤ 256) {i : Nat} {x : Nat × TK} (hid : ready[(p % ready.length).toNat]? = some (i : Int)) (hx : ts[i]? = some x)
    {g : FuncId} [FnOk Try.prog g] (cap : List Value) (hnext : x.2.next.1 = .func (.func g) #[] cap.toArray) (H : World → (Nat → Prop) → List Int → List (Nat × TK) → TK → Prop)
    (hcall : ∀ w1 lv1, Rt Z w1 rb sb qb lv1 tv (some x.1) (p / ready.length) (without ready (p % ready.length)) (ts.set i (x.1, { x.2 with next := ⟨.nilFunc, rfl⟩, said := false })) → Fr (fun k => ¬ Z k) w w1 → Rets Try.prog g cap.toArray w1 fun _ w2 =>
      ∃ Z2 sb2 qb2 lv2 tv2 rest2 ready2 ts2 y, Rt Z2 w2 rb sb2 qb2 lv2 tv2 (some x.1) rest2 ready2 ts2 ∧ ts2[i]? = some (x.1, y) ∧ H w2 Z2 ready2 ts2 y) :
    Rets Try.prog 26 #[.pointer (some ⟨rb, 0, none⟩), .int .u64 p] w fun u w' => u = .bool true ∧ ∃ w2 Z2 sb2 qb2 lv2 tv2 ready2 ts2 y, H w2 Z2 ready2 ts2 y ∧ ts2[i]? = some (x.1, y) ∧ Rt Z2 w' rb sb2 qb2 lv2 tv2 none 0 ready2 (ts2.set i (x.1, { y with over := !y.said })) ∧ Fr (fun k => ¬ Z2 k) w2 w' := by
  have hr := s.hr
  refine rets_of Try.func26 rfl Try.ntmps26 rfl rfl (by kernel_rfl) ?_
  (apply vC_seq; apply vC_region; ((apply vL_val); (case h => ((apply opv_E); exact rfl))); apply vL_nil; apply seqP_normal; (iterate 2 (apply vC_seq)); apply vC_region; ((apply vL_val); (case h => ((apply opv_E); exact rfl))))
  refine vL_callF rfl (r_right s) rfl ?_
  rintro _ _ ⟨rfl, rfl⟩
  (((apply vL_val); (case h => ((apply opv_not); exact rfl))); ((apply vL_val); (case h => ((apply opv_E); exact rfl))); ((apply vL_wanted); exact rfl); ((apply vL_val); (case h => ((apply opv_E); exact rfl))); ((apply vL_wanted); exact rfl); ((apply vL_val); (case h => ((apply opv_E); exact rfl))); ((apply vL_wanted); exact rfl); ((apply vL_val); (case h => ((apply opv_fieldAddr); exact rfl))); ((apply vL_wanted); exact rfl); ((apply vL_val); (case h => ((apply opv_loadb1); exact rfl; exact rfl; (first | assumption | infer_instance); exact rfl))); ((apply vL_wanted); exact rfl); ((apply vL_val); (case h => ((apply opv_neq_pnil); exact rfl; exact rfl; (simp; done)))); ((apply vL_val); (case h => ((apply opv_E); exact rfl))); apply vL_nil; apply seqP_normal; ((apply vC_cond_false); exact rfl); apply vC_skip; apply seqP_normal; apply vC_seq; apply vC_region; (iterate 2 (((apply vL_val); (case h => ((apply opv_E); exact rfl))))); ((apply vL_val); (case h => ((apply opv_fieldAddr); exact rfl))); ((apply vL_val); (case h => ((apply opv_loadb1); exact rfl; exact rfl; (first | assumption | infer_instance); exact rfl))); ((apply vL_val); (case h => ((apply opv_E); exact rfl))))
  refine vL_callF rfl (s_pick sb qb lv ready p w s.sc hl hp) rfl ?_
  rintro _ w1 (⟨h, _, _⟩ | ⟨z, lv1, hz, rfl, hsc⟩)
  · rw [h] at hid; simp at hid
  obtain rfl : z = (i : Int) := by rw [hid] at hz; exact (Option.some.inj hz).symm
  generalize p / (ready.length : Int) = rs at *
  obtain ⟨s1, hz1⟩ := s.line hsc
  have hr1 := s1.hr
  have ht1 := s1.ht
  have hml : (ts.map (·.1)).length = ts.length := List.length_map ..
  have hi := (List.getElem?_eq_some_iff.1 hx).1
  have hg : (ts.map (·.1))[((i : Nat) : Int).toNat]? = some x.1 := by rw [Int.toNat_natCast, List.getElem?_map, hx]; rfl
  have hone := x.2.wake.2
  ((iterate 7 (((apply vL_val); (case h => ((apply opv_E); exact rfl))))); apply vL_nil; apply seqP_normal; (iterate 2 (apply vC_seq)); apply vC_region; ((apply vL_val); (case h => ((apply opv_E); exact rfl))); ((apply vL_val); (case h => ((apply opv_not); exact rfl))); apply vL_nil; apply seqP_normal; ((apply vC_cond_false); exact rfl); apply vC_skip; apply seqP_normal; apply vC_seq; apply vC_region; (iterate 2 (((apply vL_val); (case h => ((apply opv_E); exact rfl))))); ((apply vL_val); (case h => ((apply opv_fieldAddr); exact rfl))); ((apply vL_val); (case h => ((apply opv_loadb1); exact rfl; exact rfl; (first | assumption | infer_instance); exact rfl))); ((apply vL_val); (case h => ((apply opv_E); exact rfl))); ((apply vL_val); (case h => ((apply opv_indexAddr); (first | exact norm_eq rfl | ((conv => lhs; whnf) <;> exact rfl)); exact rfl; (first | assumption | infer_instance); (first | omega | (simp only [List.length_map]; omega)); (first | omega | (simp only [List.length_map]; omega))))); ((apply vL_val); (case h => ((apply opv_ld_el); exact rfl; exact rfl; (first | assumption | infer_instance); assumption; exact rfl))); ((apply vL_val); (case h => ((apply opv_E); exact rfl))); apply vL_nil; apply seqP_normal; apply vC_seq; apply vC_region; (iterate 5 (((apply vL_val); (case h => ((apply opv_E); exact rfl))))); ((apply vL_val); (case h => ((apply opv_fieldAddr); exact rfl))); ((apply vL_skip); (case h => ((apply ops_store1); (first | exact norm_eq rfl | ((conv => lhs; whnf) <;> exact rfl)); (first | exact norm_eq rfl | ((conv => lhs; whnf) <;> exact rfl)); (first | rfl | assumption); (first | assumption | infer_instance); (first | decide | exact of_decide_eq_true rfl | (simp; done))))); ((apply vL_val); (case h => ((apply opv_E); exact rfl))); ((apply vL_val); (case h => ((apply opv_fieldAddr); exact rfl))); ((apply vL_skip); (case h => ((apply ops_store1); (first | exact norm_eq rfl | ((conv => lhs; whnf) <;> exact rfl)); (first | exact norm_eq rfl | ((conv => lhs; whnf) <;> exact rfl)); (first | rfl | assumption); (first | assumption | infer_instance); (first | decide | exact of_decide_eq_true rfl | (simp; done))))); apply vL_nil; apply seqP_normal; apply vC_seq; apply vC_region; (iterate 2 (((apply vL_val); (case h => ((apply opv_E); exact rfl))))); ((apply vL_val); (case h => ((apply opv_fieldAddr); exact rfl))))
  refine vL_gen (fun w' => Rt Z w' rb sb qb lv1 tv (some x.1) rs (without ready (p % ready.length)) ts ∧ Fr (fun k => ¬ Z k) w w') ?_ ?_
  · obtain ⟨a, ha⟩ := s1.self (now' := some x.1) (rest' := rs) (w' := (w1.setRow rb [.pointer (some ⟨sb, 0, none⟩), tv, .pointer (some ⟨x.1, 0, none⟩), .int .u64 rest].toArray).setRow rb [.pointer (some ⟨sb, 0, none⟩), tv, .pointer (some ⟨x.1, 0, none⟩), .int .u64 rs].toArray) (fun b hb => by cases hb; exact List.mem_map.2 ⟨x, List.mem_of_getElem? hx, rfl⟩) (((Fr.refl (fun k => k = rb) w1).set _ _ (.inl rfl)).set _ _ (.inl rfl)) (show Blk _ rb [.pointer (some ⟨sb, 0, none⟩), tv, .pointer (some ⟨x.1, 0, none⟩), .int .u64 rs] 82 from inferInstance)
    exact ⟨a, hz1.trans ha⟩
  clear hr1 ht1 s1 hz1 hsc hz
  rintro w1b ⟨s1, hz1⟩
  have hb1 := s1.tk i x hx
  rw [tkL, hnext] at hb1
  (((apply vL_val); (case h => ((apply opv_loadb1); exact rfl; exact rfl; (first | assumption | infer_instance); exact rfl))); ((apply vL_val); (case h => ((apply opv_E); exact rfl))); apply vL_nil; apply seqP_normal; apply vC_seq; apply vC_region; (iterate 3 (((apply vL_val); (case h => ((apply opv_E); exact rfl))))); ((apply vL_val); (case h => ((apply opv_fieldAddr); exact rfl))); ((apply vL_skip); (case h => ((apply ops_store1); (first | exact norm_eq rfl | ((conv => lhs; whnf) <;> exact rfl)); (first | exact norm_eq rfl | ((conv => lhs; whnf) <;> exact rfl)); (first | rfl | assumption); (first | assumption | infer_instance); (first | decide | exact of_decide_eq_true rfl | (simp; done))))); ((apply vL_val); (case h => ((apply opv_E); exact rfl))); ((apply vL_val); (case h => ((apply opv_fieldAddr); exact rfl))); ((apply vL_skip); (case h => ((apply ops_store1); (first | exact norm_eq rfl | ((conv => lhs; whnf) <;> exact rfl)); (first | exact norm_eq rfl | ((conv => lhs; whnf) <;> exact rfl)); (first | rfl | assumption); (first | assumption | infer_instance); (first | decide | exact of_decide_eq_true rfl | (simp; done))))); apply vL_nil; apply seqP_normal; apply vC_seq; apply vC_region; ((apply vL_val); (case h => ((apply opv_E); exact rfl))))
  refine vL_gen (fun w' => Rt Z w' rb sb qb lv1 tv (some x.1) rs (without ready (p % ready.length)) (ts.set i (x.1, { x.2 with next := ⟨.nilFunc, rfl⟩, said := false })) ∧ Fr (fun k => ¬ Z k) w w') ?_ ?_
  · obtain ⟨b, hb⟩ := s1.task (y := { x.2 with next := ⟨.nilFunc, rfl⟩, said := false }) (w' := (w1b.setRow x.1 [.pointer (some ⟨rb, 0, none⟩), .int .i64 i, .nilFunc, x.2.wake.1, .bool x.2.said, .bool x.2.parked, .bool x.2.over].toArray).setRow x.1 [.pointer (some ⟨rb, 0, none⟩), .int .i64 i, .nilFunc, x.2.wake.1, .bool false, .bool x.2.parked, .bool x.2.over].toArray) hx (((Fr.refl (fun k => k = x.1) _).set _ _ (.inl rfl)).set _ _ (.inl rfl)) (show Blk _ x.1 [.pointer (some ⟨rb, 0, none⟩), .int .i64 i, .nilFunc, x.2.wake.1, .bool false, .bool x.2.parked, .bool x.2.over] 75 from inferInstance)
    exact ⟨b, hz1.trans hb⟩
  clear hb1 s1 hz1
  rintro w2 ⟨s2, hz2⟩
  refine vL_callF rfl (hcall w2 lv1 s2 hz2) rfl ?_
  rintro _ w3 ⟨Z2, sb2, qb2, lv2, tv2, rest2, ready2, ts2, y, s3, hy, hH⟩
  have hb3 := s3.tk i _ hy
  have hone3 := y.wake.2
  have hone4 := y.next.2
  rw [tkL] at hb3
  (apply vL_nil; apply seqP_normal; apply vC_seq; apply vC_region; (iterate 3 (((apply vL_val); (case h => ((apply opv_E); exact rfl))))); ((apply vL_val); (case h => ((apply opv_fieldAddr); exact rfl))); ((apply vL_val); (case h => ((apply opv_loadb1); exact rfl; exact rfl; (first | assumption | infer_instance); exact rfl))); ((apply vL_val); (case h => ((apply opv_not); exact rfl))); ((apply vL_val); (case h => ((apply opv_E); exact rfl))); ((apply vL_val); (case h => ((apply opv_fieldAddr); exact rfl))); ((apply vL_skip); (case h => ((apply ops_store1); (first | exact norm_eq rfl | ((conv => lhs; whnf) <;> exact rfl)); (first | exact norm_eq rfl | ((conv => lhs; whnf) <;> exact rfl)); (first | rfl | assumption); (first | assumption | infer_instance); (first | decide | exact of_decide_eq_true rfl | (simp; done))))); apply vL_nil; apply seqP_normal; apply vC_seq; apply vC_region; (iterate 3 (((apply vL_val); (case h => ((apply opv_E); exact rfl))))); ((apply vL_val); (case h => ((apply opv_fieldAddr); exact rfl))))
  refine vL_gen (fun w' => Rt Z2 w' rb sb2 qb2 lv2 tv2 (some x.1) rest2 ready2 (ts2.set i (x.1, { y with over := !y.said })) ∧ Fr (fun k => ¬ Z2 k) w3 w') ?_ ?_
  · exact s3.task (y := { y with over := !y.said }) (w' := w3.setRow x.1 [.pointer (some ⟨rb, 0, none⟩), .int .i64 i, y.next.1, y.wake.1, .bool y.said, .bool y.parked, .bool (!y.said)].toArray) hy ((Fr.refl (fun k => k = x.1) _).set _ _ (.inl rfl)) (show Blk _ x.1 [.pointer (some ⟨rb, 0, none⟩), .int .i64 i, y.next.1, y.wake.1, .bool y.said, .bool y.parked, .bool (!y.said)] 75 from inferInstance)
  rintro w4 ⟨a, ha⟩
  have har := a.hr
  (((apply vL_skip); (case h => ((apply ops_store1); (first | exact norm_eq rfl | ((conv => lhs; whnf) <;> exact rfl)); (first | exact norm_eq rfl | ((conv => lhs; whnf) <;> exact rfl)); (first | rfl | assumption); (first | assumption | infer_instance); (first | decide | exact of_decide_eq_true rfl | (simp; done))))); ((apply vL_val); (case h => ((apply opv_E); exact rfl))); ((apply vL_val); (case h => ((apply opv_fieldAddr); exact rfl))); ((apply vL_skip); (case h => ((apply ops_store1); (first | exact norm_eq rfl | ((conv => lhs; whnf) <;> exact rfl)); (first | exact norm_eq rfl | ((conv => lhs; whnf) <;> exact rfl)); (first | rfl | assumption); (first | assumption | infer_instance); (first | decide | exact of_decide_eq_true rfl | (simp; done))))); apply vL_nil; apply seqP_normal; apply vC_seq; apply vC_region; ((apply vL_val); (case h => ((apply opv_E); exact rfl))); apply vL_nil; apply seqP_normal; apply vC_ret)
  (apply ret1; (case h1 => (first | exact norm_eq rfl | ((conv => lhs; whnf) <;> exact rfl))))
  obtain ⟨b, hb⟩ := a.self (now' := none) (rest' := 0) (w' := (w4.setRow rb [.pointer (some ⟨sb2, 0, none⟩), tv2, .pointer none, .int .u64 rest2].toArray).setRow rb [.pointer (some ⟨sb2, 0, none⟩), tv2, .pointer none, .int .u64 0].toArray) (fun b hb => by cases hb) (((Fr.refl (fun k => k = rb) _).set _ _ (.inl rfl)).set _ _ (.inl rfl)) (show Blk _ rb [.pointer (some ⟨sb2, 0, none⟩), tv2, .pointer none, .int .u64 0] 82 from inferInstance)
  exact ⟨rfl, w3, Z2, sb2, qb2, lv2, tv2, ready2, ts2, y, hH, hy, b, ha.trans hb⟩
end
end Go.Proofs.Ytaeckjhipmcddaa

set_option maxRecDepth 100000
namespace Go.Proofs.Ytaeckjhipmcddaa
open Go Go.Eng
/-- a task: its program, the place of its next turn, why it is woken, its state (0 over, 1 ready, 2 running, 3 parked) -/
structure AT where
  prog : Nat
  pos : Nat
  why : Int
  st : Nat
structure AS where
  tasks : List AT
  line : List Int
  ev : List (Int × Int × Int)
def openA (l : List AT) : Nat := (l.filter fun t => decide (t.st ≠ 0)).length
def AS.note (S : AS) (i : Nat) (what n : Int) : AS := { S with ev := S.ev ++ [((i : Int), what, n)] }
def AS.setT (S : AS) (i : Nat) (t : AT) : AS := { S with tasks := S.tasks.set i t }
def AS.ready (S : AS) (i : Nat) : AS := match S.tasks[i]? with
  | some t => { S with tasks := S.tasks.set i { t with st := 1 }, line := S.line ++ [(i : Int)] }
  | none => S
def AS.spawn (S : AS) (prog : Nat) : AS × Int := if openA S.tasks = 256 then (S, 5) else ({ S with tasks := S.tasks ++ [⟨prog, 0, 0, 1⟩], line := S.line ++ [(S.tasks.length : Int)] }, 0)
def AS.wake (S : AS) (id why : Int) : AS × Int := if 0 ≤ id then match S.tasks[id.toNat]? with
    | some t => if t.st = 3 then ({ S with tasks := S.tasks.set id.toNat { t with st := 1, why := why }, line := S.line ++ [id] }, 0) else (S, 152)
    | none => (S, 152)
  else (S, 152)
def pickN (x : Int) (n : Nat) : Nat := (x % (n : Int)).toNat
def doAt (P : List (List (Int × Int × Int))) (prog pos : Nat) : Int × Int × Int := match P[prog]? with
  | some l => (l[pos]?).getD (0, 0, 0)
  | none => (0, 0, 0)
/-- a turn: task i, which runs (its state is 2, its place is the next one) -/
def AS.act (P : List (List (Int × Int × Int))) (S : AS) (i : Nat) (rest : Int) (d : Int × Int × Int) : AS :=
  if d.1 = 1 then S.ready i
  else if d.1 = 2 then match S.tasks[i]? with
    | some t => S.setT i { t with st := 3 }
    | none => S
  else if d.1 = 3 then let r := S.wake d.2.1 d.2.2; (r.1.note i (-2) r.2).ready i
  else if d.1 = 4 then let r := S.spawn (pickN d.2.1 P.length); (r.1.note i (-3) r.2).ready i
  else if d.1 = 5 then (S.ready i).note i (-1) 151
  else if d.1 = 6 then (S.note i (-4) (if 0 < d.2.1 then rest % d.2.1 else 0)).ready i
  else if d.1 = 7 then (S.note i (-5) 152).ready i
  else match S.tasks[i]? with
    | some t => S.setT i { t with st := 0 }
    | none => S
def AS.step (P : List (List (Int × Int × Int))) (S : AS) (p : Int) : Option AS := match S.line[(p % (S.line.length : Int)).toNat]? with
  | none => none
  | some id => match S.tasks[id.toNat]? with
    | none => none
    | some t => some (AS.act P (({ S with line := without S.line (p % (S.line.length : Int)) } : AS).note id.toNat t.pos t.why |>.setT id.toNat ⟨t.prog, t.pos + 1, 0, 2⟩) id.toNat (p / (S.line.length : Int)) (doAt P t.prog t.pos))
/-- what is always so between turns: the line holds the ready ones, each once -/
structure AOk (S : AS) : Prop where
  nd : S.line.Nodup
  rdy : ∀ (i : Nat), ((i : Int) ∈ S.line ↔ ∃ t, S.tasks[i]? = some t ∧ t.st = 1)
  nn : ∀ x ∈ S.line, 0 ≤ x
  few : openA S.tasks ≤ 256
  sts : ∀ t ∈ S.tasks, t.st ≤ 3
end Go.Proofs.Ytaeckjhipmcddaa

set_option maxRecDepth 100000
namespace Go.Proofs.Ytaeckjhipmcddaa
open Go Go.Eng
def eE (q : Int × Int × Int) : List Value := [.int .i64 q.1, .int .i64 q.2.1, .int .i64 q.2.2]
instance encE : EncOk eE 3 := ⟨by intro x u h; simp [eE] at h; rcases h with rfl | rfl | rfl <;> rfl, fun _ => rfl⟩
def LZ (X K : Nat → Prop) (wb : Nat) (wt we : Value) (k : Nat) : Prop := X k ∨ K k ∨ k = wb ∨ own wt = some k ∨ own we = some k
/-- what is frozen afterwards: what was, and new things -/
def KX (w : World) (K K' : Nat → Prop) : Prop := (∀ k, K k → K' k) ∧ ∀ k, K' k → K k ∨ w.heap.size ≤ k
theorem KX.refl (w : World) (K : Nat → Prop) : KX w K K := ⟨fun _ h => h, fun _ h => .inl h⟩
theorem KX.trans {w w' : World} {K K' K'' : Nat → Prop} (h : KX w K K') (k : KX w' K' K'') (hs : w.heap.size ≤ w'.heap.size) : KX w K K'' := ⟨fun b hb => k.1 b (h.1 b hb), fun b hb => by
  rcases k.2 b hb with h1 | h1
  · exact h.2 b h1
  · exact .inr (Nat.le_trans hs h1)⟩
def LF (X K : Nat → Prop) (k : Nat) : Prop := ¬ X k ∧ ¬ K k
/-- the law's world and its runtime; X: what is foreign to it; K: what it has made and no longer changes -/
structure Lw (X K : Nat → Prop) (w : World) (wb rb sb qb : Nat) (lv tv wt we vp : Value) (now : Option Nat) (rest : Int) (ready : List Int) (ts : List (Nat × TK)) (ev : List (Int × Int × Int)) : Prop where
  hw : Blk w.heap wb [.pointer (some ⟨rb, 0, none⟩), vp, wt, we] 60
  hwt : Own w.heap 64 1 ptE wt (ts.map (·.1))
  hev : Own w.heap 62 3 eE we ev
  rt : Rt (LZ X K wb wt we) w rb sb qb lv tv now rest ready ts
  ow : wt.oneCell' = true
  oe : we.oneCell' = true
  op : vp.oneCell' = true
  zx : ∀ k, (k = wb ∨ own wt = some k ∨ own we = some k) → ¬ X k ∧ ¬ K k
section
variable {X K K' : Nat → Prop} {w w' : World} {wb rb sb qb : Nat} {lv tv wt we vp : Value} {now : Option Nat} {rest : Int} {ready : List Int} {ts : List (Nat × TK)} {ev : List (Int × Int × Int)}
/-- a call of the runtime's -/
theorem Lw.call {sb' qb' : Nat} {lv' tv' : Value} {now' : Option Nat} {rest' : Int} {ready' : List Int} {ts' : List (Nat × TK)} (s : Lw X K w wb rb sb qb lv tv wt we vp now rest ready ts ev) (hf : Fr (fun k => ¬ LZ X K wb wt we k) w w') (hK : ∀ k, K' k → K k ∨ w.heap.size ≤ k)
    (h : Rt (LZ X K' wb wt we) w' rb sb' qb' lv' tv' now' rest' ready' ts') (hts : ts'.map (·.1) = ts.map (·.1)) : Lw X K' w' wb rb sb' qb' lv' tv' wt we vp now' rest' ready' ts' ev ∧ Fr (LF X K) w w' := by
  refine ⟨⟨s.hw.fr hf (fun h => h (.inr (.inr (.inl rfl)))), ?_, s.hev.fr hf (fun b hb h => h (.inr (.inr (.inr (.inr hb))))), h, s.ow, s.oe, s.op, fun k hk => ⟨(s.zx k hk).1, fun h' => ?_⟩⟩, hf.mono (fun k _ hk => ⟨fun h => hk (.inl h), fun h => hk (.inr (.inl h))⟩)⟩
  · rw [hts]
    exact s.hwt.fr hf (fun b hb h => h (.inr (.inr (.inr (.inl hb)))))
  · rcases hK k h' with h1 | h1
    · exact (s.zx k hk).2 h1
    · rcases hk with rfl | hk | hk
      · have := s.hw.lt; omega
      · have := s.hwt.lt k hk; omega
      · have := s.hev.lt k hk; omega
/-- boxes are made -/
theorem Lw.box (s : Lw X K w wb rb sb qb lv tv wt we vp now rest ready ts ev) (hf : Fr No w w') (hK : ∀ k, K' k → K k ∨ (w.heap.size ≤ k ∧ k < w'.heap.size)) : Lw X K' w' wb rb sb qb lv tv wt we vp now rest ready ts ev := by
  have h : Rt (LZ X K' wb wt we) w' rb sb qb lv tv now rest ready ts := s.rt.fr hf.no_any (fun k hk => by
    rcases hk with h | h | h
    · exact ⟨Nat.lt_of_lt_of_le (s.rt.zs k (.inl h)) hf.size, .inl (.inl h)⟩
    · rcases hK k h with h1 | h1
      · exact ⟨Nat.lt_of_lt_of_le (s.rt.zs k (.inr (.inl h1))) hf.size, .inl (.inr (.inl h1))⟩
      · exact ⟨h1.2, .inr h1.1⟩
    · exact ⟨Nat.lt_of_lt_of_le (s.rt.zs k (.inr (.inr h))) hf.size, .inl (.inr (.inr h))⟩)
  exact (s.call hf.no_any (fun k hk => (hK k hk).imp id (·.1)) h rfl).1
/-- what others do -/
theorem Lw.other {X' : Nat → Prop} (s : Lw X K w wb rb sb qb lv tv wt we vp now rest ready ts ev) (hf : Fr X w w') (hX : ∀ k, X' k → k < w'.heap.size ∧ (X k ∨ w.heap.size ≤ k)) : Lw X' K w' wb rb sb qb lv tv wt we vp now rest ready ts ev := by
  have hlt : ∀ k, (k = wb ∨ own wt = some k ∨ own we = some k) → k < w.heap.size := fun k hk => s.rt.zs k (.inr (.inr hk))
  refine ⟨s.hw.fr hf (s.zx wb (.inl rfl)).1, s.hwt.fr hf (fun b hb => (s.zx b (.inr (.inl hb))).1), s.hev.fr hf (fun b hb => (s.zx b (.inr (.inr hb))).1), s.rt.fr (hf.mono (fun k _ h => .inl h)) (fun k hk => ?_), s.ow, s.oe, s.op, fun k hk => ⟨fun h => ?_, (s.zx k hk).2⟩⟩
  · rcases hk with h | h | h
    · exact ⟨(hX k h).1, (hX k h).2.imp .inl id⟩
    · exact ⟨Nat.lt_of_lt_of_le (s.rt.zs k (.inr (.inl h))) hf.size, .inl (.inr (.inl h))⟩
    · exact ⟨Nat.lt_of_lt_of_le (s.rt.zs k (.inr (.inr h))) hf.size, .inl (.inr (.inr h))⟩
  · rcases (hX k h).2 with h1 | h1
    · exact (s.zx k hk).1 h1
    · have := hlt k hk; omega
theorem Lw.frN (s : Lw X K w wb rb sb qb lv tv wt we vp now rest ready ts ev) (hf : Fr No w w') : Lw X K w' wb rb sb qb lv tv wt we vp now rest ready ts ev := s.box hf (fun k hk => .inl hk)
/-- one event more -/
theorem Lw.noted {we' : Value} {ev' : List (Int × Int × Int)} (s : Lw X K w wb rb sb qb lv tv wt we vp now rest ready ts ev) (hf : Fr (fun k => k = wb ∨ own we = some k) w w') (hw : Blk w'.heap wb [.pointer (some ⟨rb, 0, none⟩), vp, wt, we'] 60) (ho : Own w'.heap 62 3 eE we' ev')
    (hl : ∀ k, own we' = some k → own we = some k ∨ w.heap.size ≤ k) (hone : we'.oneCell' = true) : Lw X K w' wb rb sb qb lv tv wt we' vp now rest ready ts ev' ∧ Fr (LF X K) w w' := by
  have hfz : Fr (LZ X K wb wt we) w w' := hf.mono (fun k _ h => by rcases h with h | h; exact .inr (.inr (.inl h)); exact .inr (.inr (.inr (.inr h))))
  refine ⟨⟨hw, s.hwt.fr hf (fun b hb h => ?_), ho, s.rt.fr hfz (fun k hk => ?_), s.ow, hone, s.op, fun k hk => ?_⟩, hf.mono (fun k _ h => ?_)⟩
  · rcases h with h | h
    · exact Own.ne_blk s.hwt s.hw (by decide) (h ▸ hb)
    · exact Own.ne_own s.hwt s.hev (by decide) b hb h
  · rcases hk with h | h | h | h | h
    · exact ⟨Nat.lt_of_lt_of_le (s.rt.zs k (.inl h)) hf.size, .inl (.inl h)⟩
    · exact ⟨Nat.lt_of_lt_of_le (s.rt.zs k (.inr (.inl h))) hf.size, .inl (.inr (.inl h))⟩
    · exact ⟨Nat.lt_of_lt_of_le (s.rt.zs k (.inr (.inr (.inl h)))) hf.size, .inl (.inr (.inr (.inl h)))⟩
    · exact ⟨Nat.lt_of_lt_of_le (s.rt.zs k (.inr (.inr (.inr (.inl h))))) hf.size, .inl (.inr (.inr (.inr (.inl h))))⟩
    · exact ⟨ho.lt k h, (hl k h).imp (fun h => .inr (.inr (.inr (.inr h)))) id⟩
  · rcases hk with h | h | h
    · exact s.zx k (.inl h)
    · exact s.zx k (.inr (.inl h))
    · rcases hl k h with h1 | h1
      · exact s.zx k (.inr (.inr h1))
      · exact ⟨fun hx => by have := s.rt.zs k (.inl hx); omega, fun hx => by have := s.rt.zs k (.inr (.inl hx)); omega⟩
  · rcases h with h | h
    · exact s.zx k (.inl h)
    · exact s.zx k (.inr (.inr h))
theorem w_note (s : Lw X K w wb rb sb qb lv tv wt we vp now rest ready ts ev) (a b c : Int) (hl : ev.length ≤ 1000000) :
    Rets Try.prog 83 #[.pointer (some ⟨wb, 0, none⟩), .int .i64 a, .int .i64 b, .int .i64 c] w fun u w' => ∃ we', Lw X K w' wb rb sb qb lv tv wt we' vp now rest ready ts (ev ++ [(a, b, c)]) ∧ Fr (LF X K) w w' := by
  have hw := s.hw
  have hev := s.hev
  have h1 := s.ow
  have h2 := s.oe
  have h3 := s.op
  refine rets_of Try.func83 rfl Try.ntmps83 rfl rfl (by kernel_rfl) ?_
  (apply vC_region; (iterate 3 (((apply vL_val); (case h => ((apply opv_E); exact rfl))))); ((apply vL_val); (case h => ((apply opv_fieldAddr); exact rfl))); ((apply vL_val); (case h => ((apply opv_loadb1); exact rfl; exact rfl; (first | assumption | infer_instance); exact rfl))); (iterate 3 (((apply vL_val); (case h => ((apply opv_E); exact rfl))))); ((apply vL_val); (case h => ((apply opv_buildS); exact rfl; (first | exact (rfl : _ = some []) | exact (rfl : _ = some [_]) | exact (rfl : _ = some [_, _]) | exact (rfl : _ = some [_, _, _]) | exact (rfl : _ = some [_, _, _, _]) | exact (rfl : _ = some [_, _, _, _, _]) | exact (rfl : _ = some [_, _, _, _, _, _]) | exact (rfl : _ = some [_, _, _, _, _, _, _]) | exact (rfl : _ = some [_, _, _, _, _, _, _, _]) | exact (rfl : _ = some [_, _, _, _, _, _, _, _, _]) | exact (rfl : _ = some [_, _, _, _, _, _, _, _, _, _]) | exact (rfl : _ = some [_, _, _, _, _, _, _, _, _, _, _]) | exact (rfl : _ = some [_, _, _, _, _, _, _, _, _, _, _, _]) | exact (rfl : _ = some [_, _, _, _, _, _, _, _, _, _, _, _, _]) | exact (rfl : _ = some [_, _, _, _, _, _, _, _, _, _, _, _, _, _]) | exact (rfl : _ = some [_, _, _, _, _, _, _, _, _, _, _, _, _, _, _]) | exact (rfl : _ = some [_, _, _, _, _, _, _, _, _, _, _, _, _, _, _, _]))))); ((apply vL_val); (case h => ((apply opw_buildSl); exact rfl; exact rfl; exact rfl; (first | exact (rfl : _ = some []) | exact (rfl : _ = some [_]) | exact (rfl : _ = some [_, _]) | exact (rfl : _ = some [_, _, _]) | exact (rfl : _ = some [_, _, _, _]) | exact (rfl : _ = some [_, _, _, _, _]) | exact (rfl : _ = some [_, _, _, _, _, _]) | exact (rfl : _ = some [_, _, _, _, _, _, _]) | exact (rfl : _ = some [_, _, _, _, _, _, _, _]) | exact (rfl : _ = some [_, _, _, _, _, _, _, _, _]) | exact (rfl : _ = some [_, _, _, _, _, _, _, _, _, _]) | exact (rfl : _ = some [_, _, _, _, _, _, _, _, _, _, _]) | exact (rfl : _ = some [_, _, _, _, _, _, _, _, _, _, _, _]) | exact (rfl : _ = some [_, _, _, _, _, _, _, _, _, _, _, _, _]) | exact (rfl : _ = some [_, _, _, _, _, _, _, _, _, _, _, _, _, _]) | exact (rfl : _ = some [_, _, _, _, _, _, _, _, _, _, _, _, _, _, _]) | exact (rfl : _ = some [_, _, _, _, _, _, _, _, _, _, _, _, _, _, _, _]))))))
  refine vL_append (enc := eE) (xs := ev) (ys := [(a, b, c)]) (T := 62) (sz := 3) (by (first | exact norm_eq rfl | ((conv => lhs; whnf) <;> exact rfl))) (by (first | exact norm_eq rfl | ((conv => lhs; whnf) <;> exact rfl))) (Own.alloc hev) (Rd.new1 _ _ rfl) rfl (by decide) ?_ ?_ ?_
  · simp [maxLen]; omega
  · simp; omega
  intro we' w1 ho1 hf1 hfr1 hone1 _
  have hfa : Fr (fun j => own we = some j) w w1 := ((Fr.refl _ w).alloc _).trans' hf1 (fun i hi => .inl hi)
  have hw1 := hw.fr hfa (fun h => Own.ne_blk hev hw (by decide) h)
  (((apply vL_val); (case h => ((apply opv_E); exact rfl))); ((apply vL_val); (case h => ((apply opv_fieldAddr); exact rfl))); ((apply vL_skip); (case h => ((apply ops_store1); (first | exact norm_eq rfl | ((conv => lhs; whnf) <;> exact rfl)); (first | exact norm_eq rfl | ((conv => lhs; whnf) <;> exact rfl)); (first | rfl | assumption); (first | assumption | infer_instance); (first | decide | exact of_decide_eq_true rfl | (simp; done))))); apply vL_nil)
  (first | apply ret0 | apply ret0n)
  exact ⟨we', s.noted (hfa.mono (fun k _ h => .inr h) |>.set _ _ (.inl (.inl rfl))) (show Blk _ wb [.pointer (some ⟨rb, 0, none⟩), vp, wt, we'] 60 from inferInstance) (ho1.set (Own.ne_blk ho1 hw1 (by decide))) (fun k hk => (hfr1 k hk).imp id (fun h => by rw [alloc_size] at h; omega)) hone1⟩
end
end Go.Proofs.Ytaeckjhipmcddaa

set_option maxRecDepth 100000
namespace Go.Proofs.Ytaeckjhipmcddaa
open Go Go.Eng
abbrev pt (b : Nat) : Value := .pointer (some ⟨b, 0, none⟩)
/-- the boxes of a turn: its world, its task, its program -/
structure Bxs (h : Array Obj) (K : Nat → Prop) (wb tb prog wx tx px : Nat) : Prop where
  kw : K wx
  kt : K tx
  kp : K px
  bw : Blk h wx [pt wb] 54
  bt : Blk h tx [pt tb] 64
  bp : Blk h px [.int .i64 prog] 3
/-- a box of a number -/
structure Bxi (h : Array Obj) (K : Nat → Prop) (b : Nat) (n : Int) : Prop where
  k : K b
  b : Blk h b [.int .i64 n] 3
def RepW (h : Array Obj) (K : Nat → Prop) (wb tb : Nat) (v : Value) (prog pos : Nat) : Prop := ∃ wx tx px ax c : Nat, v = .func (.func 85) #[] #[pt wx, pt tx, pt px, pt ax] ∧ Bxs h K wb tb prog wx tx px ∧ Bxi h K ax c ∧ pos = c + 1
def RepN (h : Array Obj) (K : Nat → Prop) (wb tb : Nat) (v : Value) (prog pos : Nat) (why : Int) : Prop :=
  (∃ fb ty wx px : Nat, v = .func (.func 71) #[] #[pt fb, pt ty] ∧ K fb ∧ K ty ∧ K wx ∧ K px ∧ Blk h fb [.func (.func 63) #[] #[pt wx, pt px]] 78 ∧ Blk h ty [pt tb] 64 ∧ Blk h wx [pt wb] 54 ∧ Blk h px [.int .i64 prog] 3 ∧ pos = 0 ∧ why = 0) ∨
  (∃ wx tx px ax c : Nat, v = .func (.func 84) #[] #[pt wx, pt tx, pt px, pt ax] ∧ Bxs h K wb tb prog wx tx px ∧ Bxi h K ax c ∧ pos = c + 1 ∧ why = 0) ∨
  (∃ (fb yx : Nat) (u : Value), v = .func (.func 74) #[] #[pt fb, pt yx] ∧ K fb ∧ Blk h fb [u] 73 ∧ RepW h K wb tb u prog pos ∧ Bxi h K yx why)
structure TkOk (h : Array Obj) (K : Nat → Prop) (wb : Nat) (x : Nat × TK) (a : AT) : Prop where
  over : x.2.over = decide (a.st = 0)
  parked : x.2.parked = decide (a.st = 3)
  nx : a.st = 1 → RepN h K wb x.1 x.2.next.1 a.prog a.pos a.why
  wk : a.st = 3 → RepW h K wb x.1 x.2.wake.1 a.prog a.pos
section
variable {K K' : Nat → Prop} {F : Nat → Prop} {w w' : World} {wb tb : Nat}
theorem Bxs.fr {prog wx tx px : Nat} (s : Bxs w.heap K wb tb prog wx tx px) (hf : Fr F w w') (hF : ∀ k, K k → ¬ F k) (hK : ∀ k, K k → K' k) : Bxs w'.heap K' wb tb prog wx tx px :=
  ⟨hK _ s.kw, hK _ s.kt, hK _ s.kp, s.bw.fr hf (hF _ s.kw), s.bt.fr hf (hF _ s.kt), s.bp.fr hf (hF _ s.kp)⟩
theorem Bxi.fr {b : Nat} {n : Int} (s : Bxi w.heap K b n) (hf : Fr F w w') (hF : ∀ k, K k → ¬ F k) (hK : ∀ k, K k → K' k) : Bxi w'.heap K' b n := ⟨hK _ s.k, s.b.fr hf (hF _ s.k)⟩
theorem RepW.fr {v : Value} {prog pos : Nat} (s : RepW w.heap K wb tb v prog pos) (hf : Fr F w w') (hF : ∀ k, K k → ¬ F k) (hK : ∀ k, K k → K' k) : RepW w'.heap K' wb tb v prog pos := by
  obtain ⟨wx, tx, px, ax, c, h1, h2, h3, h4⟩ := s
  exact ⟨wx, tx, px, ax, c, h1, h2.fr hf hF hK, h3.fr hf hF hK, h4⟩
theorem RepN.fr {v : Value} {prog pos : Nat} {why : Int} (s : RepN w.heap K wb tb v prog pos why) (hf : Fr F w w') (hF : ∀ k, K k → ¬ F k) (hK : ∀ k, K k → K' k) : RepN w'.heap K' wb tb v prog pos why := by
  rcases s with ⟨fb, ty, wx, px, h1, k1, k2, k3, k4, b1, b2, b3, b4, h2⟩ | ⟨wx, tx, px, ax, c, h1, h2, h3, h4⟩ | ⟨fb, yx, u, h1, k1, b1, h2, h3⟩
  · exact .inl ⟨fb, ty, wx, px, h1, hK _ k1, hK _ k2, hK _ k3, hK _ k4, b1.fr hf (hF _ k1), b2.fr hf (hF _ k2), b3.fr hf (hF _ k3), b4.fr hf (hF _ k4), h2⟩
  · exact .inr (.inl ⟨wx, tx, px, ax, c, h1, h2.fr hf hF hK, h3.fr hf hF hK, h4⟩)
  · exact .inr (.inr ⟨fb, yx, u, h1, hK _ k1, b1.fr hf (hF _ k1), h2.fr hf hF hK, h3.fr hf hF hK⟩)
theorem TkOk.fr {x : Nat × TK} {a : AT} (s : TkOk w.heap K wb x a) (hf : Fr F w w') (hF : ∀ k, K k → ¬ F k) (hK : ∀ k, K k → K' k) : TkOk w'.heap K' wb x a :=
  ⟨s.over, s.parked, fun h => (s.nx h).fr hf hF hK, fun h => (s.wk h).fr hf hF hK⟩
end
/-- all tasks but the running one -/
def TsOk (h : Array Obj) (K : Nat → Prop) (wb : Nat) (run : Option Nat) (ts : List (Nat × TK)) (al : List AT) : Prop := ts.length = al.length ∧ ∀ (i : Nat) x a, some i ≠ run → ts[i]? = some x → al[i]? = some a → TkOk h K wb x a
theorem TsOk.fr {K K' F : Nat → Prop} {w w' : World} {wb : Nat} {run : Option Nat} {ts : List (Nat × TK)} {al : List AT} (s : TsOk w.heap K wb run ts al) (hf : Fr F w w') (hF : ∀ k, K k → ¬ F k) (hK : ∀ k, K k → K' k) : TsOk w'.heap K' wb run ts al :=
  ⟨s.1, fun i x a hr hx ha => (s.2 i x a hr hx ha).fr hf hF hK⟩
end Go.Proofs.Ytaeckjhipmcddaa

set_option maxRecDepth 100000
namespace Go.Proofs.Ytaeckjhipmcddaa
open Go Go.Eng
section
variable {X K K' : Nat → Prop} {w w1 w2 : World} {wb rb sb qb : Nat} {lv tv wt we vp : Value} {now : Option Nat} {rest : Int} {ready : List Int} {ts : List (Nat × TK)} {ev : List (Int × Int × Int)}
theorem Lw.spawned {lv' tv' wt' : Value} {ready' : List Int} {tb : Nat} {y : TK} (s : Lw X K w wb rb sb qb lv tv wt we vp now rest ready ts ev) (hf : Fr (fun k => ¬ LZ X K wb wt we k) w w1) (hK : ∀ k, K' k → K k ∨ w.heap.size ≤ k)
    (h : Rt (LZ X K' wb wt we) w1 rb sb qb lv' tv' now rest ready' (ts ++ [(tb, y)])) (hf2 : Fr (fun k => k = wb ∨ own wt = some k) w1 w2) (hw : Blk w2.heap wb [.pointer (some ⟨rb, 0, none⟩), vp, wt', we] 60)
    (ho : Own w2.heap 64 1 ptE wt' (ts.map (·.1) ++ [tb])) (hl : ∀ k, own wt' = some k → own wt = some k ∨ w1.heap.size ≤ k) (hone : wt'.oneCell' = true) :
    Lw X K' w2 wb rb sb qb lv' tv' wt' we vp now rest ready' (ts ++ [(tb, y)]) ev ∧ Fr (LF X K) w w2 := by
  have hw1 := s.hw.fr hf (fun h => h (.inr (.inr (.inl rfl))))
  have hwt1 := s.hwt.fr hf (fun b hb h => h (.inr (.inr (.inr (.inl hb)))))
  have hev1 := s.hev.fr hf (fun b hb h => h (.inr (.inr (.inr (.inr hb)))))
  have hzx : ∀ k, (k = wb ∨ own wt = some k ∨ own we = some k) → ¬ X k ∧ ¬ K' k := fun k hk => ⟨(s.zx k hk).1, fun h' => by
    rcases hK k h' with h1 | h1
    · exact (s.zx k hk).2 h1
    · have := s.rt.zs k (.inr (.inr hk)); omega⟩
  refine ⟨⟨hw, by rw [List.map_append]; exact ho, hev1.fr hf2 (fun b hb h => ?_), h.fr (hf2.mono (fun k _ h => ?_)) (fun k hk => ?_), hone, s.oe, s.op, fun k hk => ?_⟩, (hf.mono (fun k _ hk => ⟨fun h => hk (.inl h), fun h => hk (.inr (.inl h))⟩)).trans' hf2 (fun k hk => .inl ?_)⟩
  · rcases h with h | h
    · exact Own.ne_blk hev1 hw1 (by decide) (h ▸ hb)
    · exact Own.ne_own hev1 hwt1 (by decide) b hb h
  · rcases h with h | h
    · exact .inr (.inr (.inl h))
    · exact .inr (.inr (.inr (.inl h)))
  · rcases hk with h1 | h1 | h1 | h1 | h1
    · exact ⟨Nat.lt_of_lt_of_le (h.zs k (.inl h1)) hf2.size, .inl (.inl h1)⟩
    · exact ⟨Nat.lt_of_lt_of_le (h.zs k (.inr (.inl h1))) hf2.size, .inl (.inr (.inl h1))⟩
    · exact ⟨Nat.lt_of_lt_of_le (h.zs k (.inr (.inr (.inl h1)))) hf2.size, .inl (.inr (.inr (.inl h1)))⟩
    · exact ⟨ho.lt k h1, (hl k h1).imp (fun h => .inr (.inr (.inr (.inl h)))) id⟩
    · exact ⟨Nat.lt_of_lt_of_le (h.zs k (.inr (.inr (.inr (.inr h1))))) hf2.size, .inl (.inr (.inr (.inr (.inr h1))))⟩
  · rcases hk with h1 | h1 | h1
    · exact hzx k (.inl h1)
    · rcases hl k h1 with h2 | h2
      · exact hzx k (.inr (.inl h2))
      · exact ⟨fun hx => by have := h.zs k (.inl hx); omega, fun hx => by have := h.zs k (.inr (.inl hx)); omega⟩
    · exact hzx k (.inr (.inr h1))
  · rcases hk with h1 | h1
    · exact s.zx k (.inl h1)
    · exact s.zx k (.inr (.inl h1))
theorem w_spawn {run : Option Nat} {al : List AT} (s : Lw X K w wb rb sb qb lv tv wt we vp now rest ready ts ev) (T : TsOk w.heap K wb run ts al) (prog : Nat) (hl : ready.length ≤ 256) (hlt : ts.length ≤ 1000000) (hrun : ∀ i, run = some i → i < ts.length) :
    Rets Try.prog 24 #[.pointer (some ⟨wb, 0, none⟩), .int .i64 prog] w fun u w' => (256 ≤ openIn ts ts.length ∧ u = .int .i64 5 ∧ Fr No w w') ∨
      (openIn ts ts.length < 256 ∧ u = .int .i64 0 ∧ ∃ K' lv' tv' wt' ts', Lw X K' w' wb rb sb qb lv' tv' wt' we vp now rest (readyL ready ts.length) (ts ++ [ts']) ev ∧ TsOk w'.heap K' wb run (ts ++ [ts']) (al ++ [⟨prog, 0, 0, 1⟩]) ∧ KX w K K' ∧ Fr (LF X K) w w') := by
  refine rets_of Try.func24 rfl Try.ntmps24 rfl rfl (by kernel_rfl) ?_
  have hw := s.hw
  (apply vC_seq; apply vC_region; (iterate 2 (((apply vL_val); (case h => ((apply opw_box1); (first | exact norm_eq rfl | ((conv => lhs; whnf) <;> exact rfl)); (first | rfl | assumption)))))); ((apply vL_val); (case h => ((apply opv_E); exact rfl))); apply vL_nil; apply seqP_normal; apply vC_seq; apply vC_region; ((apply vL_val); (case h => ((apply opv_loadb1); exact rfl; exact rfl; (first | assumption | infer_instance); exact rfl))); ((apply vL_val); (case h => ((apply opv_E); exact rfl))); ((apply vL_val); (case h => ((apply opv_fieldAddr); exact rfl))); ((apply vL_val); (case h => ((apply opv_loadb1); exact rfl; exact rfl; (first | assumption | infer_instance); exact rfl))); ((apply vL_val); (case h => ((apply opv_makeFunc); exact rfl))))
  refine vL_gen (fun w' => Fr No w w' ∧ Blk w'.heap w.heap.size [pt wb] 54 ∧ Blk w'.heap (w.alloc (.cells #[.pointer (some ⟨wb, 0, none⟩)] 54)).heap.size [.int .i64 prog] 3) ⟨by (repeat (first | exact Fr.refl _ _ | assumption | with_reducible apply Fr.allocSet | with_reducible apply Fr.alloc | with_reducible apply Fr.drewN | with_reducible apply Fr.drew | ((with_reducible apply Fr.set); rotate_left; (right; ((try simp only [alloc_size]); omega))) | (refine Fr.trans ?_ (by assumption)))), inferInstance, inferInstance⟩ ?_
  rintro w1 ⟨hf1, hbw, hbp⟩
  have hpx : w.heap.size ≤ (w.alloc (.cells #[.pointer (some ⟨wb, 0, none⟩)] 54)).heap.size := by rw [alloc_size]; omega
  generalize (w.alloc (.cells #[.pointer (some ⟨wb, 0, none⟩)] 54)).heap.size = px at *
  have s1 : Lw X (fun k => K k ∨ k = w.heap.size ∨ k = px) w1 wb rb sb qb lv tv wt we vp now rest ready ts ev := s.box hf1 (fun k hk => by
    rcases hk with h | rfl | rfl
    · exact .inl h
    · exact .inr ⟨Nat.le_refl _, hbw.lt⟩
    · exact .inr ⟨hpx, hbp.lt⟩)
  have hw1 := s1.hw
  have h1 := s.ow
  have h2 := s.oe
  have h3 := s.op
  skip
  refine vL_callF rfl (r_spawn s1.rt 63 #[pt w.heap.size, pt px] hl hlt) rfl ?_
  rintro _ w2 (⟨hfull, rfl, hf2⟩ | ⟨hfree, tb, fb, tx, lv', tv', rfl, htb, hfb, htx, bfb, btx, hf2, hrt⟩)
  · ((iterate 5 (((apply vL_val); (case h => ((apply opv_E); exact rfl))))); apply vL_nil; apply seqP_normal; (iterate 2 (apply vC_seq)); apply vC_region; (iterate 2 (((apply vL_val); (case h => ((apply opv_E); exact rfl))))); apply vL_nil; apply seqP_normal; ((apply vC_cond_false); exact rfl); apply vC_skip; apply seqP_normal; apply vC_seq; apply vC_region; (iterate 2 (((apply vL_val); (case h => ((apply opv_E); exact rfl))))); apply vL_nil; apply seqP_normal; apply vC_ret)
    (apply ret1; (case h1 => (first | exact norm_eq rfl | ((conv => lhs; whnf) <;> exact rfl))))
    exact .inl ⟨hfull, rfl, hf1.trans hf2⟩
  have hw2 := hw1.fr hf2 (fun h => h (.inr (.inr (.inl rfl))))
  have hwt2 := s1.hwt.fr hf2 (fun b hb h => h (.inr (.inr (.inr (.inl hb)))))
  have hbw2 := hbw.fr hf2 (fun h => h (.inr (.inl (.inr (.inl rfl)))))
  have hbp2 := hbp.fr hf2 (fun h => h (.inr (.inl (.inr (.inr rfl)))))
  have hml : (ts.map (·.1)).length = ts.length := List.length_map ..
  ((iterate 5 (((apply vL_val); (case h => ((apply opv_E); exact rfl))))); apply vL_nil; apply seqP_normal; (iterate 2 (apply vC_seq)); apply vC_region; (iterate 2 (((apply vL_val); (case h => ((apply opv_E); exact rfl))))); apply vL_nil; apply seqP_normal; ((apply vC_cond_true); exact rfl))
  refine vC_draw' ((fun wf => Blk wf.heap w.heap.size [pt wb] 54)) (by (first | exact trivial | assumption | infer_instance | ((repeat (first | exact Fr.refl _ _ | assumption | with_reducible apply Fr.allocSet | with_reducible apply Fr.alloc | with_reducible apply Fr.drewN | with_reducible apply Fr.drew | ((with_reducible apply Fr.set); rotate_left; (right; ((try simp only [alloc_size]); omega))) | (refine Fr.trans ?_ (by assumption)))); done))) ?_
  ((apply (tk 0)); (case hi => exact rfl); (case hf => kernel_rfl); (case hS => (first | exact trivial | assumption | infer_instance | ((repeat (first | exact Fr.refl _ _ | assumption | with_reducible apply Fr.allocSet | with_reducible apply Fr.alloc | with_reducible apply Fr.drewN | with_reducible apply Fr.drew | ((with_reducible apply Fr.set); rotate_left; (right; ((try simp only [alloc_size]); omega))) | (refine Fr.trans ?_ (by assumption)))); done))); (case hy => (intro wf hwf; (try dsimp only at hwf); (((apply opv_loadb1); exact rfl; exact rfl; (first | assumption | infer_instance); exact rfl)))))
  ((apply (tk 1)); (case hi => exact rfl); (case hf => kernel_rfl); (case hS => (first | exact trivial | assumption | infer_instance | ((repeat (first | exact Fr.refl _ _ | assumption | with_reducible apply Fr.allocSet | with_reducible apply Fr.alloc | with_reducible apply Fr.drewN | with_reducible apply Fr.drew | ((with_reducible apply Fr.set); rotate_left; (right; ((try simp only [alloc_size]); omega))) | (refine Fr.trans ?_ (by assumption)))); done))); (case hy => (intro wf hwf; (try dsimp only at hwf); (((apply opv_loadb1); exact rfl; exact rfl; (first | assumption | infer_instance); exact rfl)))))
  ((apply (tk 2)); (case hi => exact rfl); (case hf => kernel_rfl); (case hS => (first | exact trivial | assumption | infer_instance | ((repeat (first | exact Fr.refl _ _ | assumption | with_reducible apply Fr.allocSet | with_reducible apply Fr.alloc | with_reducible apply Fr.drewN | with_reducible apply Fr.drew | ((with_reducible apply Fr.set); rotate_left; (right; ((try simp only [alloc_size]); omega))) | (refine Fr.trans ?_ (by assumption)))); done))); (case hy => (intro wf hwf; (try dsimp only at hwf); (((apply opv_E); exact rfl)))))
  ((apply (tk 3)); (case hi => exact rfl); (case hf => kernel_rfl); (case hS => (first | exact trivial | assumption | infer_instance | ((repeat (first | exact Fr.refl _ _ | assumption | with_reducible apply Fr.allocSet | with_reducible apply Fr.alloc | with_reducible apply Fr.drewN | with_reducible apply Fr.drew | ((with_reducible apply Fr.set); rotate_left; (right; ((try simp only [alloc_size]); omega))) | (refine Fr.trans ?_ (by assumption)))); done))); (case hy => (intro wf hwf; (try dsimp only at hwf); (((apply opv_fieldAddr); exact rfl)))))
  ((apply (tk 5)); (case hi => exact rfl); (case hf => kernel_rfl); (case hS => (first | exact trivial | assumption | infer_instance | ((repeat (first | exact Fr.refl _ _ | assumption | with_reducible apply Fr.allocSet | with_reducible apply Fr.alloc | with_reducible apply Fr.drewN | with_reducible apply Fr.drew | ((with_reducible apply Fr.set); rotate_left; (right; ((try simp only [alloc_size]); omega))) | (refine Fr.trans ?_ (by assumption)))); done))); (case hy => (intro wf hwf; (try dsimp only at hwf); (((apply opv_E); exact rfl)))))
  refine vA_two 4 6 rfl rfl (by kernel_rfl) (by (first | exact trivial | assumption | infer_instance | ((repeat (first | exact Fr.refl _ _ | assumption | with_reducible apply Fr.allocSet | with_reducible apply Fr.alloc | with_reducible apply Fr.drewN | with_reducible apply Fr.drew | ((with_reducible apply Fr.set); rotate_left; (right; ((try simp only [alloc_size]); omega))) | (refine Fr.trans ?_ (by assumption)))); done))) (fun J hJ => ?_) (fun J hJ => ?_)
  · (((apply vL_val); (case h => ((apply opv_loadb1); exact rfl; exact rfl; (first | assumption | infer_instance); exact rfl))); apply vL_nil)
    refine ⟨rfl, hJ _ _ ?_⟩
    refine vA_only 6 rfl (by kernel_rfl) (by (first | exact trivial | assumption | infer_instance | ((repeat (first | exact Fr.refl _ _ | assumption | with_reducible apply Fr.allocSet | with_reducible apply Fr.alloc | with_reducible apply Fr.drewN | with_reducible apply Fr.drew | ((with_reducible apply Fr.set); rotate_left; (right; ((try simp only [alloc_size]); omega))) | (refine Fr.trans ?_ (by assumption)))); done))) (fun J hJ => ?_)
    (((apply vL_val); (case h => ((apply opw_buildSl); exact rfl; exact rfl; exact rfl; (first | exact (rfl : _ = some []) | exact (rfl : _ = some [_]) | exact (rfl : _ = some [_, _]) | exact (rfl : _ = some [_, _, _]) | exact (rfl : _ = some [_, _, _, _]) | exact (rfl : _ = some [_, _, _, _, _]) | exact (rfl : _ = some [_, _, _, _, _, _]) | exact (rfl : _ = some [_, _, _, _, _, _, _]) | exact (rfl : _ = some [_, _, _, _, _, _, _, _]) | exact (rfl : _ = some [_, _, _, _, _, _, _, _, _]) | exact (rfl : _ = some [_, _, _, _, _, _, _, _, _, _]) | exact (rfl : _ = some [_, _, _, _, _, _, _, _, _, _, _]) | exact (rfl : _ = some [_, _, _, _, _, _, _, _, _, _, _, _]) | exact (rfl : _ = some [_, _, _, _, _, _, _, _, _, _, _, _, _]) | exact (rfl : _ = some [_, _, _, _, _, _, _, _, _, _, _, _, _, _]) | exact (rfl : _ = some [_, _, _, _, _, _, _, _, _, _, _, _, _, _, _]) | exact (rfl : _ = some [_, _, _, _, _, _, _, _, _, _, _, _, _, _, _, _]))))); apply vL_nil)
    refine ⟨rfl, hJ _ _ ?_⟩
    refine vA_only 7 rfl (by kernel_rfl) (by (first | exact trivial | assumption | infer_instance | ((repeat (first | exact Fr.refl _ _ | assumption | with_reducible apply Fr.allocSet | with_reducible apply Fr.alloc | with_reducible apply Fr.drewN | with_reducible apply Fr.drew | ((with_reducible apply Fr.set); rotate_left; (right; ((try simp only [alloc_size]); omega))) | (refine Fr.trans ?_ (by assumption)))); done))) (fun J hJ => ?_)
    refine vL_append (enc := ptE) (xs := ts.map (·.1)) (ys := [tb]) (T := 64) (sz := 1) (by (first | exact norm_eq rfl | ((conv => lhs; whnf) <;> exact rfl))) (by (first | exact norm_eq rfl | ((conv => lhs; whnf) <;> exact rfl))) (Own.alloc (hwt2.frN ((Fr.refl No _).drew))) (Rd.new1 _ _ rfl) rfl (by decide) ?_ ?_ ?_
    · simp [maxLen]; omega
    · simp; omega
    intro wt' w3 ho3 hf3 hfr3 hone3 _
    have hfa : Fr (fun j => own wt = some j) w2 w3 := (((Fr.refl _ w2).drew).alloc _).trans' hf3 (fun i hi => .inl hi)
    have hw3 := hw2.fr hfa (fun h => Own.ne_blk hwt2 hw2 (by decide) h)
    have hbw3 := hbw2.fr hfa (fun h => Own.ne_blk hwt2 hbw2 (by decide) h)
    refine vL_nil ⟨rfl, hJ _ _ ?_⟩
    ((apply (tk 8)); (case hi => exact rfl); (case hf => kernel_rfl); (case hS => (first | exact trivial | assumption | infer_instance | ((repeat (first | exact Fr.refl _ _ | assumption | with_reducible apply Fr.allocSet | with_reducible apply Fr.alloc | with_reducible apply Fr.drewN | with_reducible apply Fr.drew | ((with_reducible apply Fr.set); rotate_left; (right; ((try simp only [alloc_size]); omega))) | (refine Fr.trans ?_ (by assumption)))); done))); (case hy => (intro wf hwf; (try dsimp only at hwf); (((apply opv_E); exact rfl)))))
    ((apply (tk 9)); (case hi => exact rfl); (case hf => kernel_rfl); (case hS => (first | exact trivial | assumption | infer_instance | ((repeat (first | exact Fr.refl _ _ | assumption | with_reducible apply Fr.allocSet | with_reducible apply Fr.alloc | with_reducible apply Fr.drewN | with_reducible apply Fr.drew | ((with_reducible apply Fr.set); rotate_left; (right; ((try simp only [alloc_size]); omega))) | (refine Fr.trans ?_ (by assumption)))); done))); (case hy => (intro wf hwf; (try dsimp only at hwf); (((apply opv_fieldAddr); exact rfl)))))
    refine vA_only 10 rfl (by kernel_rfl) (by (first | exact trivial | assumption | infer_instance | ((repeat (first | exact Fr.refl _ _ | assumption | with_reducible apply Fr.allocSet | with_reducible apply Fr.alloc | with_reducible apply Fr.drewN | with_reducible apply Fr.drew | ((with_reducible apply Fr.set); rotate_left; (right; ((try simp only [alloc_size]); omega))) | (refine Fr.trans ?_ (by assumption)))); done))) (fun J hJ => ?_)
    (((apply vL_skip); (case h => ((apply ops_store1); (first | exact norm_eq rfl | ((conv => lhs; whnf) <;> exact rfl)); (first | exact norm_eq rfl | ((conv => lhs; whnf) <;> exact rfl)); (first | rfl | assumption); (first | assumption | infer_instance); (first | decide | exact of_decide_eq_true rfl | (simp; done))))); apply vL_nil)
    refine ⟨rfl, hJ _ _ ?_⟩
    haveI hnt : NeB w.heap.size wb := ⟨Blk.ne_type hbw3 hw3 (by decide)⟩
    refine vA_done (by kernel_rfl) (by (first | exact trivial | assumption | infer_instance | ((repeat (first | exact Fr.refl _ _ | assumption | with_reducible apply Fr.allocSet | with_reducible apply Fr.alloc | with_reducible apply Fr.drewN | with_reducible apply Fr.drew | ((with_reducible apply Fr.set); rotate_left; (right; ((try simp only [alloc_size]); omega))) | (refine Fr.trans ?_ (by assumption)))); done))) ?_
    (apply seqP_normal; apply vC_seq; apply vC_region; (iterate 2 (((apply vL_val); (case h => ((apply opv_E); exact rfl))))); apply vL_nil; apply seqP_normal; apply vC_ret)
    (apply ret1; (case h1 => (first | exact norm_eq rfl | ((conv => lhs; whnf) <;> exact rfl))))
    have hfW : Fr (fun k => k = wb ∨ own wt = some k) w2 (w3.setRow wb [.pointer (some ⟨rb, 0, none⟩), vp, wt', we].toArray) := (hfa.mono (fun k _ h => .inr h)).set _ _ (.inl (.inl rfl))
    obtain ⟨L, F⟩ := s1.spawned (K' := fun k => (K k ∨ k = w.heap.size ∨ k = px) ∨ k = fb ∨ k = tx) (w1 := w2) (w2 := w3.setRow wb [.pointer (some ⟨rb, 0, none⟩), vp, wt', we].toArray) (wt' := wt') hf2 (fun k hk => by
        rcases hk with h | rfl | rfl
        · exact .inl h
        · exact .inr hfb
        · exact .inr htx) (hrt.re (fun k hk => by
        rcases hk with h | (h | h) | h
        · exact .inl (.inl h)
        · exact .inl (.inr (.inl h))
        · exact .inr h
        · exact .inl (.inr (.inr h)))) hfW (show Blk _ wb [.pointer (some ⟨rb, 0, none⟩), vp, wt', we] 60 from inferInstance) (ho3.set (Own.ne_blk ho3 hw3 (by decide))) (fun k hk => (hfr3 k hk).imp id (fun h => by rw [alloc_size] at h; exact Nat.le_trans (Nat.le_succ _) h)) hone3
    have hno : ∀ k, K k → ¬ LF X K k := fun k h h' => h'.2 h
    have hFW : Fr (LF X K) w (w3.setRow wb [.pointer (some ⟨rb, 0, none⟩), vp, wt', we].toArray) := hf1.no_any.trans' F (fun k hk => .inl ⟨hk.1, fun h => hk.2 (.inl h)⟩)
    have T2 := T.fr (K' := fun k => (K k ∨ k = w.heap.size ∨ k = px) ∨ k = fb ∨ k = tx) hFW hno (fun k h => .inl (.inl h))
    have nwt : ∀ k, own wt = some k → k < w1.heap.size := s1.hwt.lt
    refine .inr ⟨hfree, rfl, fun k => (K k ∨ k = w.heap.size ∨ k = px) ∨ k = fb ∨ k = tx, lv', tv', wt', (tb, newT fb tx), L, ⟨by simp [T.1], fun i x a hr hx ha => ?_⟩, ⟨fun k h => .inl (.inl h), fun k hk => by
        rcases hk with (h | rfl | rfl) | rfl | rfl
        · exact .inl h
        · exact .inr (Nat.le_refl _)
        · exact .inr hpx
        · exact .inr (Nat.le_trans hf1.size hfb)
        · exact .inr (Nat.le_trans hf1.size htx)⟩, hFW⟩
    by_cases hi : i < ts.length
    · rw [List.getElem?_append_left hi] at hx
      rw [List.getElem?_append_left (by rw [← T.1]; exact hi)] at ha
      exact T2.2 i x a hr hx ha
    · have hle := (List.getElem?_eq_some_iff.1 hx).1
      have e : i = ts.length := by simp at hle; omega
      subst e
      rw [List.getElem?_append_right (Nat.le_refl _), Nat.sub_self] at hx
      rw [T.1, List.getElem?_append_right (Nat.le_refl _), Nat.sub_self] at ha
      cases hx
      cases ha
      refine ⟨rfl, rfl, fun _ => .inl ⟨fb, tx, w.heap.size, px, rfl, .inr (.inl rfl), .inr (.inr rfl), .inl (.inr (.inl rfl)), .inl (.inr (.inr rfl)), bfb.fr hfW (fun h => ?_), btx.fr hfW (fun h => ?_), hbw2.fr hfW (fun h => ?_), hbp2.fr hfW (fun h => ?_), rfl, rfl⟩, fun h => by cases h⟩
      · rcases h with h | h
        · exact Blk.ne_type bfb hw2 (by decide) h
        · exact Own.ne_blk hwt2 bfb (by decide) h
      · rcases h with h | h
        · exact Blk.ne_type btx hw2 (by decide) h
        · have := nwt _ h; omega
      · rcases h with h | h
        · exact Blk.ne_type hbw2 hw2 (by decide) h
        · exact Own.ne_blk hwt2 hbw2 (by decide) h
      · rcases h with h | h
        · exact Blk.ne_type hbp2 hw2 (by decide) h
        · exact Own.ne_blk hwt2 hbp2 (by decide) h
  · (((apply vL_val); (case h => ((apply opw_buildSl); exact rfl; exact rfl; exact rfl; (first | exact (rfl : _ = some []) | exact (rfl : _ = some [_]) | exact (rfl : _ = some [_, _]) | exact (rfl : _ = some [_, _, _]) | exact (rfl : _ = some [_, _, _, _]) | exact (rfl : _ = some [_, _, _, _, _]) | exact (rfl : _ = some [_, _, _, _, _, _]) | exact (rfl : _ = some [_, _, _, _, _, _, _]) | exact (rfl : _ = some [_, _, _, _, _, _, _, _]) | exact (rfl : _ = some [_, _, _, _, _, _, _, _, _]) | exact (rfl : _ = some [_, _, _, _, _, _, _, _, _, _]) | exact (rfl : _ = some [_, _, _, _, _, _, _, _, _, _, _]) | exact (rfl : _ = some [_, _, _, _, _, _, _, _, _, _, _, _]) | exact (rfl : _ = some [_, _, _, _, _, _, _, _, _, _, _, _, _]) | exact (rfl : _ = some [_, _, _, _, _, _, _, _, _, _, _, _, _, _]) | exact (rfl : _ = some [_, _, _, _, _, _, _, _, _, _, _, _, _, _, _]) | exact (rfl : _ = some [_, _, _, _, _, _, _, _, _, _, _, _, _, _, _, _]))))); apply vL_nil)
    refine ⟨rfl, hJ _ _ ?_⟩
    refine vA_only 4 rfl (by kernel_rfl) (by (first | exact trivial | assumption | infer_instance | ((repeat (first | exact Fr.refl _ _ | assumption | with_reducible apply Fr.allocSet | with_reducible apply Fr.alloc | with_reducible apply Fr.drewN | with_reducible apply Fr.drew | ((with_reducible apply Fr.set); rotate_left; (right; ((try simp only [alloc_size]); omega))) | (refine Fr.trans ?_ (by assumption)))); done))) (fun J hJ => ?_)
    (((apply vL_val); (case h => ((apply opv_loadb1); exact rfl; exact rfl; (first | assumption | infer_instance); exact rfl))); apply vL_nil)
    refine ⟨rfl, hJ _ _ ?_⟩
    refine vA_only 7 rfl (by kernel_rfl) (by (first | exact trivial | assumption | infer_instance | ((repeat (first | exact Fr.refl _ _ | assumption | with_reducible apply Fr.allocSet | with_reducible apply Fr.alloc | with_reducible apply Fr.drewN | with_reducible apply Fr.drew | ((with_reducible apply Fr.set); rotate_left; (right; ((try simp only [alloc_size]); omega))) | (refine Fr.trans ?_ (by assumption)))); done))) (fun J hJ => ?_)
    refine vL_append (enc := ptE) (xs := ts.map (·.1)) (ys := [tb]) (T := 64) (sz := 1) (by (first | exact norm_eq rfl | ((conv => lhs; whnf) <;> exact rfl))) (by (first | exact norm_eq rfl | ((conv => lhs; whnf) <;> exact rfl))) (Own.alloc (hwt2.frN ((Fr.refl No _).drew))) (Rd.new1 _ _ rfl) rfl (by decide) ?_ ?_ ?_
    · simp [maxLen]; omega
    · simp; omega
    intro wt' w3 ho3 hf3 hfr3 hone3 _
    have hfa : Fr (fun j => own wt = some j) w2 w3 := (((Fr.refl _ w2).drew).alloc _).trans' hf3 (fun i hi => .inl hi)
    have hw3 := hw2.fr hfa (fun h => Own.ne_blk hwt2 hw2 (by decide) h)
    have hbw3 := hbw2.fr hfa (fun h => Own.ne_blk hwt2 hbw2 (by decide) h)
    refine vL_nil ⟨rfl, hJ _ _ ?_⟩
    ((apply (tk 8)); (case hi => exact rfl); (case hf => kernel_rfl); (case hS => (first | exact trivial | assumption | infer_instance | ((repeat (first | exact Fr.refl _ _ | assumption | with_reducible apply Fr.allocSet | with_reducible apply Fr.alloc | with_reducible apply Fr.drewN | with_reducible apply Fr.drew | ((with_reducible apply Fr.set); rotate_left; (right; ((try simp only [alloc_size]); omega))) | (refine Fr.trans ?_ (by assumption)))); done))); (case hy => (intro wf hwf; (try dsimp only at hwf); (((apply opv_E); exact rfl)))))
    ((apply (tk 9)); (case hi => exact rfl); (case hf => kernel_rfl); (case hS => (first | exact trivial | assumption | infer_instance | ((repeat (first | exact Fr.refl _ _ | assumption | with_reducible apply Fr.allocSet | with_reducible apply Fr.alloc | with_reducible apply Fr.drewN | with_reducible apply Fr.drew | ((with_reducible apply Fr.set); rotate_left; (right; ((try simp only [alloc_size]); omega))) | (refine Fr.trans ?_ (by assumption)))); done))); (case hy => (intro wf hwf; (try dsimp only at hwf); (((apply opv_fieldAddr); exact rfl)))))
    refine vA_only 10 rfl (by kernel_rfl) (by (first | exact trivial | assumption | infer_instance | ((repeat (first | exact Fr.refl _ _ | assumption | with_reducible apply Fr.allocSet | with_reducible apply Fr.alloc | with_reducible apply Fr.drewN | with_reducible apply Fr.drew | ((with_reducible apply Fr.set); rotate_left; (right; ((try simp only [alloc_size]); omega))) | (refine Fr.trans ?_ (by assumption)))); done))) (fun J hJ => ?_)
    (((apply vL_skip); (case h => ((apply ops_store1); (first | exact norm_eq rfl | ((conv => lhs; whnf) <;> exact rfl)); (first | exact norm_eq rfl | ((conv => lhs; whnf) <;> exact rfl)); (first | rfl | assumption); (first | assumption | infer_instance); (first | decide | exact of_decide_eq_true rfl | (simp; done))))); apply vL_nil)
    refine ⟨rfl, hJ _ _ ?_⟩
    haveI hnt : NeB w.heap.size wb := ⟨Blk.ne_type hbw3 hw3 (by decide)⟩
    refine vA_done (by kernel_rfl) (by (first | exact trivial | assumption | infer_instance | ((repeat (first | exact Fr.refl _ _ | assumption | with_reducible apply Fr.allocSet | with_reducible apply Fr.alloc | with_reducible apply Fr.drewN | with_reducible apply Fr.drew | ((with_reducible apply Fr.set); rotate_left; (right; ((try simp only [alloc_size]); omega))) | (refine Fr.trans ?_ (by assumption)))); done))) ?_
    (apply seqP_normal; apply vC_seq; apply vC_region; (iterate 2 (((apply vL_val); (case h => ((apply opv_E); exact rfl))))); apply vL_nil; apply seqP_normal; apply vC_ret)
    (apply ret1; (case h1 => (first | exact norm_eq rfl | ((conv => lhs; whnf) <;> exact rfl))))
    have hfW : Fr (fun k => k = wb ∨ own wt = some k) w2 (w3.setRow wb [.pointer (some ⟨rb, 0, none⟩), vp, wt', we].toArray) := (hfa.mono (fun k _ h => .inr h)).set _ _ (.inl (.inl rfl))
    obtain ⟨L, F⟩ := s1.spawned (K' := fun k => (K k ∨ k = w.heap.size ∨ k = px) ∨ k = fb ∨ k = tx) (w1 := w2) (w2 := w3.setRow wb [.pointer (some ⟨rb, 0, none⟩), vp, wt', we].toArray) (wt' := wt') hf2 (fun k hk => by
        rcases hk with h | rfl | rfl
        · exact .inl h
        · exact .inr hfb
        · exact .inr htx) (hrt.re (fun k hk => by
        rcases hk with h | (h | h) | h
        · exact .inl (.inl h)
        · exact .inl (.inr (.inl h))
        · exact .inr h
        · exact .inl (.inr (.inr h)))) hfW (show Blk _ wb [.pointer (some ⟨rb, 0, none⟩), vp, wt', we] 60 from inferInstance) (ho3.set (Own.ne_blk ho3 hw3 (by decide))) (fun k hk => (hfr3 k hk).imp id (fun h => by rw [alloc_size] at h; exact Nat.le_trans (Nat.le_succ _) h)) hone3
    have hno : ∀ k, K k → ¬ LF X K k := fun k h h' => h'.2 h
    have hFW : Fr (LF X K) w (w3.setRow wb [.pointer (some ⟨rb, 0, none⟩), vp, wt', we].toArray) := hf1.no_any.trans' F (fun k hk => .inl ⟨hk.1, fun h => hk.2 (.inl h)⟩)
    have T2 := T.fr (K' := fun k => (K k ∨ k = w.heap.size ∨ k = px) ∨ k = fb ∨ k = tx) hFW hno (fun k h => .inl (.inl h))
    have nwt : ∀ k, own wt = some k → k < w1.heap.size := s1.hwt.lt
    refine .inr ⟨hfree, rfl, fun k => (K k ∨ k = w.heap.size ∨ k = px) ∨ k = fb ∨ k = tx, lv', tv', wt', (tb, newT fb tx), L, ⟨by simp [T.1], fun i x a hr hx ha => ?_⟩, ⟨fun k h => .inl (.inl h), fun k hk => by
        rcases hk with (h | rfl | rfl) | rfl | rfl
        · exact .inl h
        · exact .inr (Nat.le_refl _)
        · exact .inr hpx
        · exact .inr (Nat.le_trans hf1.size hfb)
        · exact .inr (Nat.le_trans hf1.size htx)⟩, hFW⟩
    by_cases hi : i < ts.length
    · rw [List.getElem?_append_left hi] at hx
      rw [List.getElem?_append_left (by rw [← T.1]; exact hi)] at ha
      exact T2.2 i x a hr hx ha
    · have hle := (List.getElem?_eq_some_iff.1 hx).1
      have e : i = ts.length := by simp at hle; omega
      subst e
      rw [List.getElem?_append_right (Nat.le_refl _), Nat.sub_self] at hx
      rw [T.1, List.getElem?_append_right (Nat.le_refl _), Nat.sub_self] at ha
      cases hx
      cases ha
      refine ⟨rfl, rfl, fun _ => .inl ⟨fb, tx, w.heap.size, px, rfl, .inr (.inl rfl), .inr (.inr rfl), .inl (.inr (.inl rfl)), .inl (.inr (.inr rfl)), bfb.fr hfW (fun h => ?_), btx.fr hfW (fun h => ?_), hbw2.fr hfW (fun h => ?_), hbp2.fr hfW (fun h => ?_), rfl, rfl⟩, fun h => by cases h⟩
      · rcases h with h | h
        · exact Blk.ne_type bfb hw2 (by decide) h
        · exact Own.ne_blk hwt2 bfb (by decide) h
      · rcases h with h | h
        · exact Blk.ne_type btx hw2 (by decide) h
        · have := nwt _ h; omega
      · rcases h with h | h
        · exact Blk.ne_type hbw2 hw2 (by decide) h
        · exact Own.ne_blk hwt2 hbw2 (by decide) h
      · rcases h with h | h
        · exact Blk.ne_type hbp2 hw2 (by decide) h
        · exact Own.ne_blk hwt2 hbp2 (by decide) h
end
end Go.Proofs.Ytaeckjhipmcddaa

set_option maxRecDepth 100000
namespace Go.Proofs.Ytaeckjhipmcddaa
open Go Go.Eng
theorem pick_exact (x n : Int) (w : World) (hn : 1 ≤ n) (hn2 : n ≤ 4611686018427387904) : Rets Try.prog 86 #[.int .i64 x, .int .i64 n] w fun u w' => w = w' ∧ u = .int .i64 (x % n) := by
  have h1 : x.tmod n < n := Int.tmod_lt_of_pos x (by omega)
  have h2 : -n < x.tmod n := by
    have h3 := Int.tmod_lt_of_pos (-x) (b := n) (by omega)
    rw [Int.neg_tmod] at h3
    omega
  have h4 : x.tmod n = x - n * x.tdiv n := Int.tmod_def x n
  have key : ∀ k : Int, 0 ≤ x - n * k → x - n * k < n → x - n * k = x % n := fun k ha hb => by
    have := Int.emod_eq_of_lt ha hb
    rw [Int.sub_mul_emod_self_left] at this
    exact this.symm
  refine rets_of Try.func86 rfl Try.ntmps86 rfl rfl (by kernel_rfl) ?_
  (apply vC_seq; apply vC_region; ((apply vL_val); (case h => ((apply opv_E); exact rfl))); apply vL_nil; apply seqP_normal; (iterate 2 (apply vC_seq)); apply vC_region; (iterate 2 (((apply vL_val); (case h => ((apply opv_E); exact rfl))))); apply vL_nil; apply seqP_normal; (refine vC_cond_dec rfl (fun h => by omega) (fun _ => ?_)); apply vC_skip; apply seqP_normal; apply vC_seq; apply vC_region; (iterate 2 (((apply vL_val); (case h => ((apply opv_E); exact rfl))))))
  apply vL_val
  (case h => ((with_reducible apply opv_rem_t); exact rfl; exact rfl; omega))
  (((apply vL_val); (case h => ((apply opv_E); exact rfl))); apply vL_nil; apply seqP_normal; (iterate 2 (apply vC_seq)); apply vC_region; (iterate 2 (((apply vL_val); (case h => ((apply opv_E); exact rfl))))); apply vL_nil; apply seqP_normal)
  refine vC_cond_dec rfl (fun hc => ?_) (fun hc => ?_)
  · (apply vC_region; (iterate 2 (((apply vL_val); (case h => ((apply opv_E); exact rfl))))); ((apply vL_val); (case h => ((apply opv_add); exact rfl; exact rfl; (first | omega | (simp only [List.length_map]; omega))))); ((apply vL_val); (case h => ((apply opv_E); exact rfl))); apply vL_nil; apply seqP_normal; apply vC_seq; apply vC_region; (iterate 2 (((apply vL_val); (case h => ((apply opv_E); exact rfl))))); apply vL_nil; apply seqP_normal; apply vC_ret)
    (apply ret1; (case h1 => (first | exact norm_eq rfl | ((conv => lhs; whnf) <;> exact rfl))))
    refine ⟨rfl, congrArg (Value.int .i64) ?_⟩
    have := key (x.tdiv n - 1) (by rw [Int.mul_sub]; omega) (by rw [Int.mul_sub]; omega)
    rw [Int.mul_sub] at this
    omega
  · (apply vC_skip; apply seqP_normal; apply vC_seq; apply vC_region; (iterate 2 (((apply vL_val); (case h => ((apply opv_E); exact rfl))))); apply vL_nil; apply seqP_normal; apply vC_ret)
    (apply ret1; (case h1 => (first | exact norm_eq rfl | ((conv => lhs; whnf) <;> exact rfl))))
    refine ⟨rfl, congrArg (Value.int .i64) ?_⟩
    have := key (x.tdiv n) (by omega) (by omega)
    omega
end Go.Proofs.Ytaeckjhipmcddaa

set_option maxRecDepth 100000
namespace Go.Proofs.Ytaeckjhipmcddaa
open Go Go.Eng
theorem len_le_of_sub {α : Type} [DecidableEq α] : ∀ {l l' : List α}, l.Nodup → (∀ x ∈ l, x ∈ l') → l.length ≤ l'.length
  | [], _, _, _ => by simp
  | x :: l, l', hn, h => by
    have hx := h x (by simp)
    have h1 := len_le_of_sub (l := l) (l' := l'.erase x) (List.nodup_cons.1 hn).2 (fun y hy => (List.mem_erase_of_ne (fun e => (List.nodup_cons.1 hn).1 (by rw [← e]; exact hy))).2 (h y (by simp [hy])))
    have h2 := List.length_erase_of_mem hx
    have h3 : 0 < l'.length := List.length_pos_of_mem hx
    simp only [List.length_cons]
    omega
/-- what is so while task run runs (or none does) -/
structure AOkR (S : AS) (run : Option Nat) : Prop where
  nd : S.line.Nodup
  rdy : ∀ (i : Nat), ((i : Int) ∈ S.line ↔ ∃ t, S.tasks[i]? = some t ∧ t.st = 1)
  nn : ∀ x ∈ S.line, 0 ≤ x
  few : openA S.tasks ≤ 256
  sts : ∀ t ∈ S.tasks, t.st ≤ 3
  run1 : ∀ i, run = some i → ∃ t, S.tasks[i]? = some t ∧ t.st = 2
theorem range_count {α : Type} (p : α → Bool) : ∀ (l : List α), ((List.range l.length).filter fun i => (l[i]?).elim false p).length = (l.filter p).length
  | [] => rfl
  | x :: l => by
    rw [List.length_cons, List.range_succ_eq_map, List.filter_cons, List.filter_map]
    have e : ((fun i => ((x :: l)[i]?).elim false p) ∘ Nat.succ) = fun i => (l[i]?).elim false p := by funext i; simp
    rw [e]
    have ih := range_count p l
    cases h : p x <;> simp [h, ih]
theorem AOkR.len {S : AS} {run : Option Nat} (a : AOkR S run) : S.line.length + (if run.isSome then 1 else 0) ≤ openA S.tasks := by
  have h1 : (S.line.map Int.toNat).Nodup := by
    refine List.Pairwise.map _ (fun x y hxy => ?_) (List.Pairwise.and_mem.1 a.nd)
    intro e
    have := a.nn x hxy.1
    have := a.nn y hxy.2.1
    exact hxy.2.2 (by omega)
  have hsub : ∀ n ∈ run.toList ++ S.line.map Int.toNat, n ∈ (List.range S.tasks.length).filter fun i => (S.tasks[i]?).elim false (fun t => decide (t.st ≠ 0)) := by
    intro n hn
    have key : ∀ t, S.tasks[n]? = some t → t.st ≠ 0 → n ∈ (List.range S.tasks.length).filter fun i => (S.tasks[i]?).elim false (fun t => decide (t.st ≠ 0)) := fun t ht h0 => by
      rw [List.mem_filter, List.mem_range]
      exact ⟨(List.getElem?_eq_some_iff.1 ht).1, by rw [ht]; simpa using h0⟩
    rcases List.mem_append.1 hn with h | h
    · obtain ⟨t, ht, h2⟩ := a.run1 n (by simpa using h)
      exact key t ht (by omega)
    · obtain ⟨x, hx, rfl⟩ := List.mem_map.1 h
      have h0 := a.nn x hx
      obtain ⟨t, ht, h2⟩ := (a.rdy x.toNat).1 (by rw [Int.toNat_of_nonneg h0]; exact hx)
      exact key t ht (by omega)
  have hnd : (run.toList ++ S.line.map Int.toNat).Nodup := by
    cases run with
    | none => simpa using h1
    | some i =>
      simp only [Option.toList_some, List.cons_append, List.nil_append, List.nodup_cons]
      refine ⟨fun h => ?_, h1⟩
      obtain ⟨x, hx, e⟩ := List.mem_map.1 h
      have h0 := a.nn x hx
      obtain ⟨t, ht, h2⟩ := a.run1 i rfl
      obtain ⟨t', ht', h3⟩ := (a.rdy i).1 (by rw [show (i : Int) = x by omega]; exact hx)
      rw [ht] at ht'
      cases ht'
      omega
  have := len_le_of_sub hnd hsub
  rw [range_count] at this
  unfold openA
  refine Nat.le_trans ?_ this
  cases run <;> simp <;> omega
end Go.Proofs.Ytaeckjhipmcddaa
