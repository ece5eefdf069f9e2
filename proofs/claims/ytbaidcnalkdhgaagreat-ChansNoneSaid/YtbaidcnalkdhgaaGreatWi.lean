/- Layer 15: tasks are made; a step. Layer 15: a runtime as an assertion; its calls in any surroundings. Layer 16: channels and tickets as assertions; who waits in vain is taken out. Layer 16: what can be seen of a channel; a send is tried. Layer 16: a receive is tried. -/
import Derived.Test.YtbaidcnalkdhgaaGreatWd
set_option maxRecDepth 100000
namespace Go.Proofs.YtbaidcnalkdhgaaGreat
open Go Go.Eng
section
variable {Z : Nat → Prop} {w : World} {rb sb qb : Nat} {lv tv : Value} {now : Option Nat} {rest : Int} {ready : List Int} {ts : List (Nat × TK)}
def parkedIn (ts : List (Nat × TK)) (k : Nat) : List Int := ((List.range k).filter fun i => (ts[i]?).elim false (·.2.parked)).map fun (n : Nat) => (n : Int)
theorem parkedIn_next {k : Nat} {x} (hx : ts[k]? = some x) : parkedIn ts (k + 1) = if x.2.parked then parkedIn ts k ++ [(k : Int)] else parkedIn ts k := by
  unfold parkedIn
  rw [List.range_succ, List.filter_append, List.map_append]
  cases h : x.2.parked <;> simp [hx, h]
theorem parkedIn_len (ts : List (Nat × TK)) (k : Nat) : (parkedIn ts k).length ≤ k := by
  unfold parkedIn
  rw [List.length_map]
  exact Nat.le_trans (List.length_filter_le _ _) (by simp)
theorem r_parked (s : Rt Z w rb sb qb lv tv now rest ready ts) (hl : ts.length ≤ 1000000) : Rets Tryz.prog 105 #[.pointer (some ⟨rb, 0, none⟩)] w fun u w' => Fr No w w' ∧ Own w'.heap 3 1 iE u (parkedIn ts ts.length) ∧ (∀ b, own u = some b → w.heap.size ≤ b) ∧ u.oneCell' = true := by
  have hr := s.hr
  have ht := s.ht
  have hone := s.one
  have hml : (ts.map (·.1)).length = ts.length := List.length_map ..
  refine rets_of Tryz.func105 rfl Tryz.ntmps105 rfl rfl (by kernel_rfl) ?_
  (apply vC_seq; apply vC_region; ((apply vL_val); (case h => ((apply opv_E); exact rfl))); apply vL_nil; apply seqP_normal; (iterate 2 (apply vC_seq)); apply vC_region; ((apply vL_val); (case h => ((apply opv_E); exact rfl))))
  refine vL_callF rfl (r_right s) rfl ?_
  rintro _ _ ⟨rfl, rfl⟩
  (((apply vL_val); (case h => ((apply opv_not); exact rfl))); apply vL_nil; apply seqP_normal; ((apply vC_cond_false); exact rfl); apply vC_skip; apply seqP_normal; apply vC_seq; apply vC_region; ((apply vL_val); (case h => ((apply opv_E); exact rfl))); apply vL_nil; apply seqP_normal; (iterate 2 (apply vC_seq)); apply vC_region; (iterate 2 (((apply vL_val); (case h => ((apply opv_E); exact rfl))))); ((apply vL_val); (case h => ((apply opv_fieldAddr); exact rfl))); ((apply vL_val); (case h => ((apply opv_loadb1); exact rfl; exact rfl; assumption; exact rfl))); ((apply vL_val); (case h => ((apply opv_len); ((conv => lhs; whnf) <;> exact rfl); infer_instance))); ((apply vL_val); (case h => ((apply opv_E); exact rfl))); apply vL_nil; apply seqP_normal; apply vC_block)
  (apply vC_loop2 1073725480 14 3 (fun u v3 w' => ∃ k : Nat, u = .int .i64 (k : Int) ∧ k ≤ ts.length ∧ Fr No w w' ∧ Own w'.heap 3 1 iE v3 (parkedIn ts k) ∧ (∀ b, own v3 = some b → w.heap.size ≤ b) ∧ v3.oneCell' = true) (fun u _ _ => ts.length - (RowKit.intOf u).toNat)); (case h1 => (exact norm_eq rfl)); (case h2 => (exact norm_eq rfl))
  case h0 => exact ⟨0, rfl, by omega, Fr.refl _ _, Own.nil _ _ _ _, fun b hb => (by cases hb), rfl⟩
  case round =>
  rintro junk _ v3 w1 ⟨k, rfl, hk, hf1, ho1, hfr1, hone1⟩
  have ht1 := ht.frN hf1
  by_cases hkl : k < ts.length
  · obtain ⟨x, hx⟩ : ∃ x, ts[k]? = some x := ⟨ts[k], by simp [hkl]⟩
    have hg : (ts.map (·.1))[((k : Nat) : Int).toNat]? = some x.1 := by rw [Int.toNat_natCast, List.getElem?_map, hx]; rfl
    have hb := (s.tk k x hx).frN hf1
    have hnx := parkedIn_next hx
    have hpl := parkedIn_len ts k
    rw [tkL] at hb
    (apply vC_seq; apply vC_region; ((apply vL_val); (case h => ((apply opv_E); exact rfl))); apply vL_nil; apply seqP_normal; apply vC_seq; (refine vC_cond_dec rfl (fun _ => ?_) (fun h => by omega)); apply vC_skip; apply seqP_normal; apply vC_seq; apply vC_block; apply vC_seq; apply vC_region; ((apply vL_val); (case h => ((apply opv_indexAddr); ((conv => lhs; whnf) <;> exact rfl); exact rfl; infer_instance; (first | omega | (simp only [List.length_map]; omega)); (first | omega | (simp only [List.length_map]; omega))))); ((apply vL_val); (case h => ((apply opv_ld_el); exact rfl; exact rfl; infer_instance; assumption; exact rfl))); ((apply vL_val); (case h => ((apply opv_E); exact rfl))); apply vL_nil; apply seqP_normal; apply vC_seq; apply vC_region; (iterate 2 (((apply vL_val); (case h => ((apply opv_E); exact rfl))))); ((apply vL_val); (case h => ((apply opv_fieldAddr); exact rfl))); ((apply vL_val); (case h => ((apply opv_loadb1); exact rfl; exact rfl; assumption; exact rfl))); apply vL_nil; apply seqP_normal)
    cases hp : x.2.parked with
    | false =>
      rw [hp] at hb hnx
      (((apply vC_cond_false); exact rfl); apply vC_skip; apply blockP_normal; apply seqP_normal; apply vC_region; ((apply vL_val); (case h => ((apply opv_add); exact rfl; exact rfl; (first | omega | (simp only [List.length_map]; omega))))); ((apply vL_val); (case h => ((apply opv_E); exact rfl))); apply vL_nil; apply loopP_normal)
      (with_reducible apply end2); (case hs => ((iterate 10 (((refine same_updO ?_ ?_); rotate_left; exact rfl))); (iterate 2 (((refine same_upd ?_ ?_); rotate_left; exact rfl))); (exact same_mask _ _ _))); (case h1 => (exact norm_eq rfl)); (case h2 => (((conv => lhs; whnf) <;> exact rfl)))
      · exact ⟨k + 1, rfl, by omega, hf1, by rw [hnx]; exact ho1, hfr1, hone1⟩
      · simp [RowKit.intOf]; omega
    | true =>
      rw [hp] at hb hnx
      (((apply vC_cond_true); exact rfl); apply vC_region; ((apply vL_val); (case h => ((apply opv_move); ((conv => lhs; whnf) <;> exact rfl)))); (iterate 2 (((apply vL_val); (case h => ((apply opv_E); exact rfl))))); ((apply vL_val); (case h => ((apply opv_fieldAddr); exact rfl))); ((apply vL_val); (case h => ((apply opv_loadb1); exact rfl; exact rfl; assumption; exact rfl))); ((apply vL_val); (case h => ((apply opw_buildSl); exact rfl; exact rfl; exact rfl; exact (rfl : _ = some [_])))))
      refine vL_append (enc := iE) (xs := parkedIn ts k) (ys := [(k : Int)]) (by (((conv => lhs; whnf) <;> exact rfl))) (by (exact norm_eq rfl)) (Own.alloc ho1) (Rd.new1 _ _ rfl) rfl (by decide) ?_ ?_ ?_
      · simp [maxLen]; omega
      · simp; omega
      intro v' w2 ho2 hf2 hfr2 hone2 _
      have hfB : Fr No w w2 := (hf1.alloc _).trans' hf2 (fun i hi => .inr (hfr1 i hi))
      (((apply vL_val); (case h => ((apply opv_assign); ((conv => lhs; whnf) <;> exact rfl)))); apply vL_nil; apply blockP_normal; apply seqP_normal; apply vC_region; ((apply vL_val); (case h => ((apply opv_add); exact rfl; exact rfl; (first | omega | (simp only [List.length_map]; omega))))); ((apply vL_val); (case h => ((apply opv_E); exact rfl))); apply vL_nil; apply loopP_normal)
      (with_reducible apply end2); (case hs => ((iterate 18 (((refine same_updO ?_ ?_); rotate_left; exact rfl))); (iterate 2 (((refine same_upd ?_ ?_); rotate_left; exact rfl))); (exact same_mask _ _ _))); (case h1 => (exact norm_eq rfl)); (case h2 => (((conv => lhs; whnf) <;> exact rfl)))
      · refine ⟨k + 1, rfl, by omega, hfB, by rw [hnx]; exact ho2, fun b hb => ?_, hone2⟩
        rcases hfr2 b hb with h | h
        · exact hfr1 b h
        · have := hf1.size; rw [alloc_size] at h; omega
      · simp [RowKit.intOf]; omega
  · have e : k = ts.length := by omega
    subst e
    obtain ⟨va, vn, vc, rfl⟩ := ho1.isSlice
    (apply vC_seq; apply vC_region; ((apply vL_val); (case h => ((apply opv_E); exact rfl))); apply vL_nil; apply seqP_normal; apply vC_seq; (refine vC_cond_dec rfl (fun h => by omega) (fun _ => ?_)); apply vC_exit; apply seqP_exit; apply loopP_exit; apply blockP_exit; apply seqP_normal; apply vC_seq; apply vC_region; (iterate 2 (((apply vL_val); (case h => ((apply opv_E); exact rfl))))); apply vL_nil; apply seqP_normal; apply vC_ret)
    (apply ret1; (case h1 => (exact norm_eq rfl)))
    exact ⟨hf1, ho1, hfr1, rfl⟩
end
section
variable {Z Z' : Nat → Prop} {w w' : World} {rb sb qb : Nat} {lv tv : Value} {now : Option Nat} {rest : Int} {ready : List Int} {ts : List (Nat × TK)}
def openIn (ts : List (Nat × TK)) (k : Nat) : Nat := ((ts.take k).filter fun x => !x.2.over).length
theorem openIn_next {k : Nat} {x} (hx : ts[k]? = some x) : openIn ts (k + 1) = if x.2.over then openIn ts k else openIn ts k + 1 := by
  unfold openIn
  rw [take_next hx, List.filter_append]
  cases h : x.2.over <;> simp [h]
theorem openIn_le (ts : List (Nat × TK)) (k : Nat) : openIn ts k ≤ k := by
  unfold openIn
  refine Nat.le_trans (List.length_filter_le _ _) ?_
  rw [List.length_take]
  exact Nat.min_le_left _ _
/-- one task more -/
theorem Rt.push {tv' : Value} {tb : Nat} {y : TK} (s : Rt Z w rb sb qb lv tv now rest ready ts) (hz : Z tb) (hb : Blk w.heap tb (tkL rb ts.length y) 162) (hf : Fr (fun k => own tv = some k ∨ k = rb) w w')
    (hr : Blk w'.heap rb [.pointer (some ⟨sb, 0, none⟩), tv', nowV now, .int .u64 rest] 108) (ho : Own w'.heap 34 1 ptE tv' (ts.map (·.1) ++ [tb])) (hone : tv'.oneCell' = true) (hl : ∀ k, own tv' = some k → own tv = some k ∨ w.heap.size ≤ k)
    (hz' : ∀ k, Z' k → Z k ∧ k ≠ tb) : Rt Z' w' rb sb qb lv tv' now rest ready (ts ++ [(tb, y)]) ∧ Fr (fun k => ¬ Z k) w w' := by
  have n1 : ∀ {b c T}, Blk w.heap b c T → T ≠ 34 → T ≠ 108 → ¬ (own tv = some b ∨ b = rb) := fun hB h1 h2 h => by
    rcases h with h | h
    · exact Own.ne_blk s.ht hB (fun e => h1 e.symm) h
    · exact Blk.ne_type hB s.hr h2 h
  refine ⟨⟨hr, ⟨s.sc.hs.fr hf (n1 s.sc.hs (by decide) (by decide)), s.sc.hb.fr hf (n1 s.sc.hb (by decide) (by decide)), s.sc.ho.fr hf (fun b hb' h => ?_), s.sc.one⟩, by rw [List.map_append]; exact ho, fun i x hx => ?_, hone, fun b hb' => by rw [List.map_append]; exact List.mem_append_left _ (s.hn b hb'), fun k hk => Nat.lt_of_lt_of_le (s.zs k (hz' k hk).1) hf.size, fun k hk hk' => ?_⟩, hf.mono (fun k _ hk => ?_)⟩
  · rcases h with h | h
    · exact Own.ne_own s.sc.ho s.ht (by decide) b hb' h
    · exact Own.ne_blk s.sc.ho s.hr (by decide) (h ▸ hb')
  · by_cases hi : i < ts.length
    · rw [List.getElem?_append_left hi] at hx
      exact (s.tk i x hx).fr hf (n1 (s.tk i x hx) (by decide) (by decide))
    · have hle := (List.getElem?_eq_some_iff.1 hx).1
      have : i = ts.length := by simp at hle; omega
      subst this
      rw [List.getElem?_append_right (Nat.le_refl _), Nat.sub_self] at hx
      cases hx
      exact hb.fr hf (n1 hb (by decide) (by decide))
  · obtain ⟨h1, h2⟩ := hz' k hk'
    rcases hk with rfl | rfl | rfl | h | h | ⟨x, hx, rfl⟩
    · exact s.zn _ (.inl rfl) h1
    · exact s.zn _ (.inr (.inl rfl)) h1
    · exact s.zn _ (.inr (.inr (.inl rfl))) h1
    · exact s.zn _ (.inr (.inr (.inr (.inl h)))) h1
    · rcases hl k h with h3 | h3
      · exact s.zn _ (.inr (.inr (.inr (.inr (.inl h3))))) h1
      · have := s.zs k h1; omega
    · rcases List.mem_append.1 hx with h3 | h3
      · exact s.zn _ (.inr (.inr (.inr (.inr (.inr ⟨x, h3, rfl⟩))))) h1
      · rw [List.mem_singleton] at h3
        subst h3
        exact h2 rfl
  · rcases hk with h | rfl
    · exact s.zn _ (.inr (.inr (.inr (.inr (.inl h)))))
    · exact s.zn _ (.inl rfl)
end
section
variable {Z : Nat → Prop} {w : World} {rb sb qb : Nat} {lv tv : Value} {now : Option Nat} {rest : Int} {ready : List Int} {ts : List (Nat × TK)}
/-- a new task -/
def newT (fb tx : Nat) : TK := ⟨⟨.func (.func 98) #[] #[.pointer (some ⟨fb, 0, none⟩), .pointer (some ⟨tx, 0, none⟩)], rfl⟩, ⟨.nilFunc, rfl⟩, false, false, false⟩
theorem r_spawn (s : Rt Z w rb sb qb lv tv now rest ready ts) (g : FuncId) (cap : Array Value) (hl : ready.length ≤ 256) (hlt : ts.length ≤ 1000000) :
    Rets Tryz.prog 22 #[.pointer (some ⟨rb, 0, none⟩), .func (.func g) #[] cap] w fun u w' => (256 ≤ openIn ts ts.length ∧ u = .tuple #[.pointer none, .int .i64 5] ∧ Fr No w w') ∨
      (openIn ts ts.length < 256 ∧ ∃ tb fb tx lv' tv', u = .tuple #[.pointer (some ⟨tb, 0, none⟩), .int .i64 0] ∧ w.heap.size ≤ tb ∧ w.heap.size ≤ fb ∧ w.heap.size ≤ tx ∧ Blk w'.heap fb [.func (.func g) #[] cap] 37 ∧ Blk w'.heap tx [.pointer (some ⟨tb, 0, none⟩)] 34 ∧ Fr (fun k => ¬ Z k) w w' ∧
        Rt (fun k => Z k ∨ k = fb ∨ k = tx) w' rb sb qb lv' tv' now rest (readyL ready ts.length) (ts ++ [(tb, newT fb tx)])) := by
  refine rets_of Tryz.func22 rfl Tryz.ntmps22 rfl rfl (by kernel_rfl) ?_
  (apply vC_seq; apply vC_region; ((apply vL_val); (case h => ((apply opw_box1); exact norm_eq rfl; (first | rfl | assumption)))); (iterate 2 (((apply vL_val); (case h => ((apply opv_E); exact rfl))))); apply vL_nil; apply seqP_normal; (iterate 2 (apply vC_seq)); apply vC_region; ((apply vL_val); (case h => ((apply opv_E); exact rfl))))
  refine vL_gen (fun w' => Fr No w w' ∧ Blk w'.heap w.heap.size [.func (.func g) #[] cap] 37) ⟨by (apply Fr.alloc; exact Fr.refl _ _), inferInstance⟩ ?_
  rintro w1 ⟨hf1, hfb1⟩
  have s1 := s.frN hf1
  have hr1 := s1.hr
  have ht1 := s1.ht
  have hone := s.one
  have hml : (ts.map (·.1)).length = ts.length := List.length_map ..
  refine vL_callF rfl (r_right s1) rfl ?_
  rintro _ _ ⟨rfl, rfl⟩
  (((apply vL_val); (case h => ((apply opv_not); exact rfl))); ((apply vL_val); (case h => ((apply opv_E); exact rfl))); ((apply vL_wanted); exact rfl); ((apply vL_val); (case h => ((apply opv_loadb1); exact rfl; exact rfl; assumption; exact rfl))); ((apply vL_wanted); exact rfl); ((apply vL_val); (case h => ((apply opv_eql_fnil); exact rfl; exact rfl))); (iterate 16 (first | with_reducible apply vC_seq | with_reducible apply vC_region | with_reducible apply seqP_normal | with_reducible apply vC_skip | ((with_reducible apply vC_cond_false); exact rfl) | ((with_reducible apply vL_val); (case h => ((with_reducible apply opv_E); exact rfl))) | with_reducible apply vL_nil)); ((apply vL_val); (case h => ((apply opv_fieldAddr); exact rfl))); ((apply vL_val); (case h => ((apply opv_loadb1); exact rfl; exact rfl; assumption; exact rfl))); ((apply vL_val); (case h => ((apply opv_len); ((conv => lhs; whnf) <;> exact rfl); infer_instance))); ((apply vL_val); (case h => ((apply opv_E); exact rfl))); apply vL_nil; apply seqP_normal; apply vC_block)
  (apply vC_loop2 17175675200 22 6 (fun u u6 w' => ∃ k : Nat, u = .int .i64 (k : Int) ∧ u6 = .int .i64 ((openIn ts k : Nat) : Int) ∧ k ≤ ts.length ∧ w1 = w') (fun u _ _ => ts.length - (RowKit.intOf u).toNat)); (case h1 => (exact norm_eq rfl)); (case h2 => (exact norm_eq rfl))
  case h0 => exact ⟨0, rfl, rfl, by omega, rfl⟩
  case round =>
  rintro junk _ _ _ ⟨k, rfl, rfl, hk, rfl⟩
  have hol := openIn_le ts k
  by_cases hkl : k < ts.length
  · obtain ⟨x, hx⟩ : ∃ x, ts[k]? = some x := ⟨ts[k], by simp [hkl]⟩
    have hg : (ts.map (·.1))[((k : Nat) : Int).toNat]? = some x.1 := by rw [Int.toNat_natCast, List.getElem?_map, hx]; rfl
    have hb := s1.tk k x hx
    have hnx := openIn_next hx
    rw [tkL] at hb
    (apply vC_seq; apply vC_region; ((apply vL_val); (case h => ((apply opv_E); exact rfl))); apply vL_nil; apply seqP_normal; apply vC_seq; (refine vC_cond_dec rfl (fun _ => ?_) (fun h => by omega)); apply vC_skip; apply seqP_normal; apply vC_seq; apply vC_block; apply vC_seq; apply vC_region; ((apply vL_val); (case h => ((apply opv_indexAddr); ((conv => lhs; whnf) <;> exact rfl); exact rfl; infer_instance; (first | omega | (simp only [List.length_map]; omega)); (first | omega | (simp only [List.length_map]; omega))))); ((apply vL_val); (case h => ((apply opv_ld_el); exact rfl; exact rfl; infer_instance; assumption; exact rfl))); ((apply vL_val); (case h => ((apply opv_E); exact rfl))); apply vL_nil; apply seqP_normal; apply vC_seq; apply vC_region; (iterate 2 (((apply vL_val); (case h => ((apply opv_E); exact rfl))))); ((apply vL_val); (case h => ((apply opv_fieldAddr); exact rfl))); ((apply vL_val); (case h => ((apply opv_loadb1); exact rfl; exact rfl; assumption; exact rfl))); ((apply vL_val); (case h => ((apply opv_not); exact rfl))); apply vL_nil; apply seqP_normal)
    cases hp : x.2.over with
    | true =>
      rw [hp] at hb hnx
      (((apply vC_cond_false); exact rfl); apply vC_skip; apply blockP_normal; apply seqP_normal; apply vC_region; ((apply vL_val); (case h => ((apply opv_add); exact rfl; exact rfl; (first | omega | (simp only [List.length_map]; omega))))); ((apply vL_val); (case h => ((apply opv_E); exact rfl))); apply vL_nil; apply loopP_normal)
      (with_reducible apply end2); (case hs => ((iterate 11 (((refine same_updO ?_ ?_); rotate_left; exact rfl))); (iterate 2 (((refine same_upd ?_ ?_); rotate_left; exact rfl))); (exact same_mask _ _ _))); (case h1 => (exact norm_eq rfl)); (case h2 => (exact norm_eq rfl))
      · exact ⟨k + 1, rfl, by rw [hnx]; rfl, by omega, rfl⟩
      · simp [RowKit.intOf]; omega
    | false =>
      rw [hp] at hb hnx
      (((apply vC_cond_true); exact rfl); (iterate 11 (first | with_reducible apply vC_region | with_reducible apply seqP_normal | with_reducible apply blockP_normal | ((with_reducible apply vL_val); (case h => ((with_reducible apply opv_E); exact rfl))) | ((with_reducible apply vL_val); (case h => ((with_reducible apply opv_add); exact rfl; exact rfl; (first | omega | (simp only [List.length_map]; omega))))) | with_reducible apply vL_nil)); apply loopP_normal)
      (with_reducible apply end2); (case hs => ((iterate 14 (((refine same_updO ?_ ?_); rotate_left; exact rfl))); (iterate 2 (((refine same_upd ?_ ?_); rotate_left; exact rfl))); (exact same_mask _ _ _))); (case h1 => (exact norm_eq rfl)); (case h2 => (exact norm_eq rfl))
      · exact ⟨k + 1, rfl, by rw [hnx]; rfl, by omega, rfl⟩
      · simp [RowKit.intOf]; omega
  have e : k = ts.length := by omega
  subst e
  by_cases hfull : 256 ≤ openIn ts ts.length
  · (apply vC_seq; apply vC_region; ((apply vL_val); (case h => ((apply opv_E); exact rfl))); apply vL_nil; apply seqP_normal; apply vC_seq; (refine vC_cond_dec rfl (fun h => by omega) (fun _ => ?_)); apply vC_exit; apply seqP_exit; apply loopP_exit; apply blockP_exit; (iterate 15 (first | with_reducible apply vC_seq | with_reducible apply vC_region | with_reducible apply seqP_normal | ((with_reducible apply vL_val); (case h => ((with_reducible apply opv_E); exact rfl))) | with_reducible apply vL_nil | (refine vC_cond_dec rfl (fun _ => ?_) (fun h => by omega)))); apply vC_ret; apply seqP_ret)
    (apply ret2; (case h1 => (exact norm_eq rfl)); (case h2 => (exact norm_eq rfl)))
    exact .inl ⟨hfull, rfl, hf1⟩
  (apply vC_seq; apply vC_region; ((apply vL_val); (case h => ((apply opv_E); exact rfl))); apply vL_nil; apply seqP_normal; apply vC_seq; (refine vC_cond_dec rfl (fun h => by omega) (fun _ => ?_)); apply vC_exit; apply seqP_exit; apply loopP_exit; apply blockP_exit; apply seqP_normal; (iterate 2 (apply vC_seq)); apply vC_region; (iterate 2 (((apply vL_val); (case h => ((apply opv_E); exact rfl))))); apply vL_nil; apply seqP_normal; (refine vC_cond_dec rfl (fun h => by omega) (fun _ => ?_)); apply vC_skip; apply seqP_normal; apply vC_seq; apply vC_region; (iterate 3 (((apply vL_val); (case h => ((apply opv_E); exact rfl))))); ((apply vL_val); (case h => ((apply opv_fieldAddr); exact rfl))); ((apply vL_val); (case h => ((apply opv_loadb1); exact rfl; exact rfl; assumption; exact rfl))); ((apply vL_val); (case h => ((apply opv_len); ((conv => lhs; whnf) <;> exact rfl); infer_instance))); ((apply vL_val); (case h => ((apply opv_buildS); exact rfl; exact (rfl : _ = some [_, _, _, _, _, _, _])))); ((apply vL_val); (case h => ((apply opw_boxn); exact rfl))); ((apply vL_val); (case h => (apply opw_alloc))); ((apply vL_skip); (case h => ((apply ops_store1); exact norm_eq rfl; exact norm_eq rfl; (first | rfl | assumption); infer_instance; (first | decide | exact of_decide_eq_true rfl | (simp; done))))); apply vL_nil; apply seqP_normal; apply vC_seq; apply vC_region; ((apply vL_val); (case h => ((apply opv_loadb1); exact rfl; exact rfl; infer_instance; exact rfl))); ((apply vL_val); (case h => ((apply opv_makeFunc); exact rfl))); ((apply vL_val); (case h => ((apply opv_E); exact rfl))); ((apply vL_val); (case h => ((apply opv_fieldAddr); exact rfl))); ((apply vL_skip); (case h => ((apply ops_store1); exact norm_eq rfl; exact norm_eq rfl; (first | rfl | assumption); infer_instance; (first | decide | exact of_decide_eq_true rfl | (simp; done))))); apply vL_nil; apply seqP_normal; apply vC_seq)
  have hne : w1.heap.size ≠ (w1.alloc (.cells #[.pointer (some ⟨rb, 0, none⟩), .int .i64 ((ts.map (·.1)).length : Nat), .nilFunc, .nilFunc, .bool false, .bool false, .bool false] 162)).heap.size := by rw [alloc_size]; omega
  haveI hn1 : NeB w1.heap.size (w1.alloc (.cells #[.pointer (some ⟨rb, 0, none⟩), .int .i64 ((ts.map (·.1)).length : Nat), .nilFunc, .nilFunc, .bool false, .bool false, .bool false] 162)).heap.size := ⟨hne⟩
  haveI hn2 : NeB (w1.alloc (.cells #[.pointer (some ⟨rb, 0, none⟩), .int .i64 ((ts.map (·.1)).length : Nat), .nilFunc, .nilFunc, .bool false, .bool false, .bool false] 162)).heap.size w1.heap.size := ⟨fun h => hne h.symm⟩
  refine vC_gen (fun w' => Fr No w1 w' ∧ Blk w'.heap w1.heap.size [.pointer (some ⟨rb, 0, none⟩), .int .i64 ((ts.map (·.1)).length : Nat), .func (.func 98) #[] #[.pointer (some ⟨w.heap.size, 0, none⟩), .pointer (some ⟨(w1.alloc (.cells #[.pointer (some ⟨rb, 0, none⟩), .int .i64 ((ts.map (·.1)).length : Nat), .nilFunc, .nilFunc, .bool false, .bool false, .bool false] 162)).heap.size, 0, none⟩)], .nilFunc, .bool false, .bool false, .bool false] 162 ∧ Blk w'.heap (w1.alloc (.cells #[.pointer (some ⟨rb, 0, none⟩), .int .i64 ((ts.map (·.1)).length : Nat), .nilFunc, .nilFunc, .bool false, .bool false, .bool false] 162)).heap.size [.pointer (some ⟨w1.heap.size, 0, none⟩)] 34) ⟨by (((apply Fr.set); rotate_left; (right; ((try simp only [alloc_size]); omega))); apply Fr.allocSet; apply Fr.alloc; exact Fr.refl _ _), Blk.as inferInstance rfl, inferInstance⟩ ?_
  rintro w2 ⟨hf2, htb2, htx2⟩
  have hsz2 : w1.heap.size ≤ (w1.alloc (.cells #[.pointer (some ⟨rb, 0, none⟩), .int .i64 ((ts.map (·.1)).length : Nat), .nilFunc, .nilFunc, .bool false, .bool false, .bool false] 162)).heap.size := by rw [alloc_size]; omega
  clear hn1 hn2
  generalize (w1.alloc (.cells #[.pointer (some ⟨rb, 0, none⟩), .int .i64 ((ts.map (·.1)).length : Nat), .nilFunc, .nilFunc, .bool false, .bool false, .bool false] 162)).heap.size = tx at *
  rw [hml] at htb2
  have hfb2 := hfb1.frN hf2
  have hw1 := hf1.size
  have s2 : Rt (fun k => Z k ∨ k = w.heap.size ∨ k = tx ∨ k = w1.heap.size) w2 rb sb qb lv tv now rest ready ts := s.fr (hf1.trans hf2).no_any (fun k hk => by
    rcases hk with h | rfl | rfl | rfl
    · exact ⟨Nat.lt_of_lt_of_le (s1.zs k h) hf2.size, .inl h⟩
    · exact ⟨hfb2.lt, .inr (Nat.le_refl _)⟩
    · exact ⟨htx2.lt, .inr (Nat.le_trans hw1 hsz2)⟩
    · exact ⟨htb2.lt, .inr hw1⟩)
  have hr2 := s2.hr
  have ht2 := s2.ht
  refine vC_draw' ((fun wf => Blk wf.heap tx [.pointer (some ⟨w1.heap.size, 0, none⟩)] 34)) (by (first | exact trivial | assumption | infer_instance | (skip; done))) ?_
  ((apply (tk 0)); (case hi => exact rfl); (case hf => kernel_rfl); (case hS => (first | exact trivial | assumption | infer_instance | (skip; done))); (case hy => (intro wf hwf; (try dsimp only at hwf); (((apply opv_E); exact rfl)))))
  ((apply (tk 1)); (case hi => exact rfl); (case hf => kernel_rfl); (case hS => (first | exact trivial | assumption | infer_instance | (skip; done))); (case hy => (intro wf hwf; (try dsimp only at hwf); (((apply opv_E); exact rfl)))))
  ((apply (tk 2)); (case hi => exact rfl); (case hf => kernel_rfl); (case hS => (first | exact trivial | assumption | infer_instance | (skip; done))); (case hy => (intro wf hwf; (try dsimp only at hwf); (((apply opv_E); exact rfl)))))
  ((apply (tk 3)); (case hi => exact rfl); (case hf => kernel_rfl); (case hS => (first | exact trivial | assumption | infer_instance | (skip; done))); (case hy => (intro wf hwf; (try dsimp only at hwf); (((apply opv_fieldAddr); exact rfl)))))
  ((apply (tk 5)); (case hi => exact rfl); (case hf => kernel_rfl); (case hS => (first | exact trivial | assumption | infer_instance | (skip; done))); (case hy => (intro wf hwf; (try dsimp only at hwf); (((apply opv_loadb1); exact rfl; exact rfl; assumption; exact rfl)))))
  refine vA_two 4 6 rfl rfl (by kernel_rfl) (by (first | exact trivial | assumption | infer_instance | (skip; done))) (fun K hK => ?_) (fun K hK => ?_)
  · (((apply vL_val); (case h => ((apply opv_loadb1); exact rfl; exact rfl; assumption; exact rfl))); apply vL_nil)
    refine ⟨rfl, hK _ _ ?_⟩
    refine vA_only 6 rfl (by kernel_rfl) (by (first | exact trivial | assumption | infer_instance | (skip; done))) (fun K hK => ?_)
    (((apply vL_val); (case h => ((apply opw_buildSl); exact rfl; exact rfl; exact rfl; exact (rfl : _ = some [_])))); apply vL_nil)
    refine ⟨rfl, hK _ _ ?_⟩
    refine vA_only 7 rfl (by kernel_rfl) (by (first | exact trivial | assumption | infer_instance | (skip; done))) (fun K hK => ?_)
    refine vL_append (enc := ptE) (xs := ts.map (·.1)) (ys := [w1.heap.size]) (T := 34) (sz := 1) (by (((conv => lhs; whnf) <;> exact rfl))) (by (exact norm_eq rfl)) (Own.alloc (ht2.frN ((Fr.refl No _).drew))) (Rd.new1 _ _ rfl) rfl (by decide) ?_ ?_ ?_
    · simp [maxLen]; omega
    · simp; omega
    intro tv' w3 ho3 hf3 hfr3 hone3 _
    have hfa : Fr (fun j => own tv = some j) w2 w3 := (((Fr.refl _ w2).drew).alloc _).trans' hf3 (fun i hi => .inl hi)
    have hr3 := hr2.fr hfa (fun h => Own.ne_blk ht2 hr2 (by decide) h)
    have htx3 := htx2.fr hfa (fun h => s2.zn _ (.inr (.inr (.inr (.inr (.inl h))))) (.inr (.inr (.inl rfl))))
    refine vL_nil ⟨rfl, hK _ _ ?_⟩
    ((apply (tk 8)); (case hi => exact rfl); (case hf => kernel_rfl); (case hS => (first | exact trivial | assumption | infer_instance | (skip; done))); (case hy => (intro wf hwf; (try dsimp only at hwf); (((apply opv_E); exact rfl)))))
    ((apply (tk 9)); (case hi => exact rfl); (case hf => kernel_rfl); (case hS => (first | exact trivial | assumption | infer_instance | (skip; done))); (case hy => (intro wf hwf; (try dsimp only at hwf); (((apply opv_fieldAddr); exact rfl)))))
    refine vA_only 10 rfl (by kernel_rfl) (by (first | exact trivial | assumption | infer_instance | (skip; done))) (fun K hK => ?_)
    have hone3' := hone3
    (((apply vL_skip); (case h => ((apply ops_store1); exact norm_eq rfl; ((conv => lhs; whnf) <;> exact rfl); (first | rfl | assumption); assumption; (first | decide | exact of_decide_eq_true rfl | (simp; done))))); apply vL_nil)
    refine ⟨rfl, hK _ _ ?_⟩
    obtain ⟨s4, hz4⟩ := s2.push (w' := w3.setRow rb [.pointer (some ⟨sb, 0, none⟩), tv', nowV now, .int .u64 rest].toArray) (Z' := fun k => Z k ∨ k = w.heap.size ∨ k = tx) (tv' := tv') (y := newT w.heap.size tx) (.inr (.inr (.inr rfl))) htb2 ((hfa.mono (fun k _ h => .inl h)).set _ _ (.inl (.inr rfl))) (show Blk _ rb [.pointer (some ⟨sb, 0, none⟩), tv', nowV now, .int .u64 rest] 108 from inferInstance) (ho3.set (Own.ne_blk ho3 hr3 (by decide))) hone3 (fun k hk => (hfr3 k hk).imp id (fun h => by rw [alloc_size] at h; exact Nat.le_trans (Nat.le_succ _) h)) (fun k hk => by
      rcases hk with h | rfl | rfl
      · exact ⟨.inl h, fun e => by have := s.zs k h; omega⟩
      · exact ⟨.inr (.inl rfl), fun e => by have := hfb1.lt; omega⟩
      · exact ⟨.inr (.inr (.inl rfl)), fun e => hne e.symm⟩)
    haveI hnt : NeB tx rb := ⟨Blk.ne_type htx3 hr3 (by decide)⟩
    refine vA_done (by kernel_rfl) (by (first | exact trivial | assumption | infer_instance | (skip; done))) ?_
    (apply seqP_normal; apply vC_seq)
    refine vC_gen (fun w' => Rt (fun k => Z k ∨ k = w.heap.size ∨ k = tx) w' rb sb qb lv tv' now rest ready (ts ++ [(w1.heap.size, newT w.heap.size tx)]) ∧ Fr (fun k => ¬ (Z k ∨ k = w.heap.size ∨ k = tx ∨ k = w1.heap.size)) w2 w') ⟨s4, hz4⟩ ?_
    clear s4 hz4
    rintro w4 ⟨s4, hz4⟩
    have hr4 := s4.hr
    have htx4 := htx2.fr hz4 (fun h => h (.inr (.inr (.inl rfl))))
    have htb4 := s4.tk ts.length _ (by rw [List.getElem?_append_right (Nat.le_refl _), Nat.sub_self]; rfl)
    rw [tkL, newT] at htb4
    refine vC_draw' ((fun wf => Blk wf.heap tx [.pointer (some ⟨w1.heap.size, 0, none⟩)] 34 ∧ Blk wf.heap rb [.pointer (some ⟨sb, 0, none⟩), tv', nowV now, .int .u64 rest] 108 ∧ Blk wf.heap w1.heap.size [.pointer (some ⟨rb, 0, none⟩), .int .i64 ts.length, .func (.func 98) #[] #[.pointer (some ⟨w.heap.size, 0, none⟩), .pointer (some ⟨tx, 0, none⟩)], .nilFunc, .bool false, .bool false, .bool false] 162)) (by (first | exact trivial | assumption | infer_instance | (refine ⟨?_, ?_, ?_⟩ <;> (first | assumption | infer_instance)) | (skip; done))) ?_
    ((apply (tk 0)); (case hi => exact rfl); (case hf => kernel_rfl); (case hS => (first | exact trivial | assumption | infer_instance | (refine ⟨?_, ?_, ?_⟩ <;> (first | assumption | infer_instance)) | (skip; done))); (case hy => (rintro wf ⟨hwa, hwb, hwc⟩; (((apply opv_E); exact rfl)))))
    ((apply (tk 1)); (case hi => exact rfl); (case hf => kernel_rfl); (case hS => (first | exact trivial | assumption | infer_instance | (refine ⟨?_, ?_, ?_⟩ <;> (first | assumption | infer_instance)) | (skip; done))); (case hy => (rintro wf ⟨hwa, hwb, hwc⟩; (((apply opv_E); exact rfl)))))
    ((apply (tk 2)); (case hi => exact rfl); (case hf => kernel_rfl); (case hS => (first | exact trivial | assumption | infer_instance | (refine ⟨?_, ?_, ?_⟩ <;> (first | assumption | infer_instance)) | (skip; done))); (case hy => (rintro wf ⟨hwa, hwb, hwc⟩; (((apply opv_fieldAddr); exact rfl)))))
    ((apply (tk 3)); (case hi => exact rfl); (case hf => kernel_rfl); (case hS => (first | exact trivial | assumption | infer_instance | (refine ⟨?_, ?_, ?_⟩ <;> (first | assumption | infer_instance)) | (skip; done))); (case hy => (rintro wf ⟨hwa, hwb, hwc⟩; (((apply opv_loadb1); exact rfl; exact rfl; assumption; exact rfl)))))
    ((apply (tk 4)); (case hi => exact rfl); (case hf => kernel_rfl); (case hS => (first | exact trivial | assumption | infer_instance | (refine ⟨?_, ?_, ?_⟩ <;> (first | assumption | infer_instance)) | (skip; done))); (case hy => (rintro wf ⟨hwa, hwb, hwc⟩; (((apply opv_loadb1); exact rfl; exact rfl; assumption; exact rfl)))))
    ((apply (tk 5)); (case hi => exact rfl); (case hf => kernel_rfl); (case hS => (first | exact trivial | assumption | infer_instance | (refine ⟨?_, ?_, ?_⟩ <;> (first | assumption | infer_instance)) | (skip; done))); (case hy => (rintro wf ⟨hwa, hwb, hwc⟩; (((apply opv_E); exact rfl)))))
    ((apply (tk 6)); (case hi => exact rfl); (case hf => kernel_rfl); (case hS => (first | exact trivial | assumption | infer_instance | (refine ⟨?_, ?_, ?_⟩ <;> (first | assumption | infer_instance)) | (skip; done))); (case hy => (rintro wf ⟨hwa, hwb, hwc⟩; (((apply opv_fieldAddr); exact rfl)))))
    ((apply (tk 7)); (case hi => exact rfl); (case hf => kernel_rfl); (case hS => (first | exact trivial | assumption | infer_instance | (refine ⟨?_, ?_, ?_⟩ <;> (first | assumption | infer_instance)) | (skip; done))); (case hy => (rintro wf ⟨hwa, hwb, hwc⟩; (((apply opv_loadb1); exact rfl; exact rfl; assumption; exact rfl)))))
    refine tkc 8 rfl (by kernel_rfl) (by (first | exact trivial | assumption | infer_instance | (refine ⟨?_, ?_, ?_⟩ <;> (first | assumption | infer_instance)) | (skip; done))) rfl (s_ready sb qb lv ready ts.length _ (s4.sc.frN (Fr.refl No _).drew) hl) rfl ?_
    rintro _ w5 ⟨rfl, lv', hsc⟩
    obtain ⟨s5, hz5⟩ := s4.line (hsc.after (Fr.refl No _).drew)
    have hr5 := s5.hr
    have htx5 := htx4.fr hz5 (fun h => h (.inr (.inr rfl)))
    have htb5 : Blk w5.heap w1.heap.size [.pointer (some ⟨rb, 0, none⟩), .int .i64 ts.length, .func (.func 98) #[] #[.pointer (some ⟨w.heap.size, 0, none⟩), .pointer (some ⟨tx, 0, none⟩)], .nilFunc, .bool false, .bool false, .bool false] 162 := s5.tk ts.length _ (by rw [List.getElem?_append_right (Nat.le_refl _), Nat.sub_self]; rfl)
    refine vA_done (by kernel_rfl) (by (first | exact trivial | assumption | infer_instance | (refine ⟨?_, ?_, ?_⟩ <;> (first | assumption | infer_instance)) | (skip; done))) ?_
    (apply seqP_normal; apply vC_seq; apply vC_region; ((apply vL_val); (case h => ((apply opv_loadb1); exact rfl; exact rfl; assumption; exact rfl))); (iterate 2 (((apply vL_val); (case h => ((apply opv_E); exact rfl))))); apply vL_nil; apply seqP_normal; apply vC_ret)
    (apply ret2; (case h1 => (exact norm_eq rfl)); (case h2 => (exact norm_eq rfl)))
    exact .inr ⟨by omega, w1.heap.size, w.heap.size, tx, lv', tv', rfl, hw1, Nat.le_refl _, Nat.le_trans hw1 hsz2, (hfb2.fr hz4 (fun h => h (.inr (.inl rfl)))).fr hz5 (fun h => h (.inr (.inl rfl))), htx5, ((hf1.trans hf2).no_any.trans (hz4.mono (fun k _ h h' => h (.inl h')))).trans (hz5.mono (fun k _ h h' => h (.inl h'))), s5⟩
  · (((apply vL_val); (case h => ((apply opw_buildSl); exact rfl; exact rfl; exact rfl; exact (rfl : _ = some [_])))); apply vL_nil)
    refine ⟨rfl, hK _ _ ?_⟩
    refine vA_only 4 rfl (by kernel_rfl) (by (first | exact trivial | assumption | infer_instance | (skip; done))) (fun K hK => ?_)
    (((apply vL_val); (case h => ((apply opv_loadb1); exact rfl; exact rfl; infer_instance; exact rfl))); apply vL_nil)
    refine ⟨rfl, hK _ _ ?_⟩
    refine vA_only 7 rfl (by kernel_rfl) (by (first | exact trivial | assumption | infer_instance | (skip; done))) (fun K hK => ?_)
    refine vL_append (enc := ptE) (xs := ts.map (·.1)) (ys := [w1.heap.size]) (T := 34) (sz := 1) (by (((conv => lhs; whnf) <;> exact rfl))) (by (exact norm_eq rfl)) (Own.alloc (ht2.frN ((Fr.refl No _).drew))) (Rd.new1 _ _ rfl) rfl (by decide) ?_ ?_ ?_
    · simp [maxLen]; omega
    · simp; omega
    intro tv' w3 ho3 hf3 hfr3 hone3 _
    have hfa : Fr (fun j => own tv = some j) w2 w3 := (((Fr.refl _ w2).drew).alloc _).trans' hf3 (fun i hi => .inl hi)
    have hr3 := hr2.fr hfa (fun h => Own.ne_blk ht2 hr2 (by decide) h)
    have htx3 := htx2.fr hfa (fun h => s2.zn _ (.inr (.inr (.inr (.inr (.inl h))))) (.inr (.inr (.inl rfl))))
    refine vL_nil ⟨rfl, hK _ _ ?_⟩
    ((apply (tk 8)); (case hi => exact rfl); (case hf => kernel_rfl); (case hS => (first | exact trivial | assumption | infer_instance | (skip; done))); (case hy => (intro wf hwf; (try dsimp only at hwf); (((apply opv_E); exact rfl)))))
    ((apply (tk 9)); (case hi => exact rfl); (case hf => kernel_rfl); (case hS => (first | exact trivial | assumption | infer_instance | (skip; done))); (case hy => (intro wf hwf; (try dsimp only at hwf); (((apply opv_fieldAddr); exact rfl)))))
    refine vA_only 10 rfl (by kernel_rfl) (by (first | exact trivial | assumption | infer_instance | (skip; done))) (fun K hK => ?_)
    have hone3' := hone3
    (((apply vL_skip); (case h => ((apply ops_store1); exact norm_eq rfl; ((conv => lhs; whnf) <;> exact rfl); (first | rfl | assumption); assumption; (first | decide | exact of_decide_eq_true rfl | (simp; done))))); apply vL_nil)
    refine ⟨rfl, hK _ _ ?_⟩
    obtain ⟨s4, hz4⟩ := s2.push (w' := w3.setRow rb [.pointer (some ⟨sb, 0, none⟩), tv', nowV now, .int .u64 rest].toArray) (Z' := fun k => Z k ∨ k = w.heap.size ∨ k = tx) (tv' := tv') (y := newT w.heap.size tx) (.inr (.inr (.inr rfl))) htb2 ((hfa.mono (fun k _ h => .inl h)).set _ _ (.inl (.inr rfl))) (show Blk _ rb [.pointer (some ⟨sb, 0, none⟩), tv', nowV now, .int .u64 rest] 108 from inferInstance) (ho3.set (Own.ne_blk ho3 hr3 (by decide))) hone3 (fun k hk => (hfr3 k hk).imp id (fun h => by rw [alloc_size] at h; exact Nat.le_trans (Nat.le_succ _) h)) (fun k hk => by
      rcases hk with h | rfl | rfl
      · exact ⟨.inl h, fun e => by have := s.zs k h; omega⟩
      · exact ⟨.inr (.inl rfl), fun e => by have := hfb1.lt; omega⟩
      · exact ⟨.inr (.inr (.inl rfl)), fun e => hne e.symm⟩)
    haveI hnt : NeB tx rb := ⟨Blk.ne_type htx3 hr3 (by decide)⟩
    refine vA_done (by kernel_rfl) (by (first | exact trivial | assumption | infer_instance | (skip; done))) ?_
    (apply seqP_normal; apply vC_seq)
    refine vC_gen (fun w' => Rt (fun k => Z k ∨ k = w.heap.size ∨ k = tx) w' rb sb qb lv tv' now rest ready (ts ++ [(w1.heap.size, newT w.heap.size tx)]) ∧ Fr (fun k => ¬ (Z k ∨ k = w.heap.size ∨ k = tx ∨ k = w1.heap.size)) w2 w') ⟨s4, hz4⟩ ?_
    clear s4 hz4
    rintro w4 ⟨s4, hz4⟩
    have hr4 := s4.hr
    have htx4 := htx2.fr hz4 (fun h => h (.inr (.inr (.inl rfl))))
    have htb4 := s4.tk ts.length _ (by rw [List.getElem?_append_right (Nat.le_refl _), Nat.sub_self]; rfl)
    rw [tkL, newT] at htb4
    refine vC_draw' ((fun wf => Blk wf.heap tx [.pointer (some ⟨w1.heap.size, 0, none⟩)] 34 ∧ Blk wf.heap rb [.pointer (some ⟨sb, 0, none⟩), tv', nowV now, .int .u64 rest] 108 ∧ Blk wf.heap w1.heap.size [.pointer (some ⟨rb, 0, none⟩), .int .i64 ts.length, .func (.func 98) #[] #[.pointer (some ⟨w.heap.size, 0, none⟩), .pointer (some ⟨tx, 0, none⟩)], .nilFunc, .bool false, .bool false, .bool false] 162)) (by (first | exact trivial | assumption | infer_instance | (refine ⟨?_, ?_, ?_⟩ <;> (first | assumption | infer_instance)) | (skip; done))) ?_
    ((apply (tk 0)); (case hi => exact rfl); (case hf => kernel_rfl); (case hS => (first | exact trivial | assumption | infer_instance | (refine ⟨?_, ?_, ?_⟩ <;> (first | assumption | infer_instance)) | (skip; done))); (case hy => (rintro wf ⟨hwa, hwb, hwc⟩; (((apply opv_E); exact rfl)))))
    ((apply (tk 1)); (case hi => exact rfl); (case hf => kernel_rfl); (case hS => (first | exact trivial | assumption | infer_instance | (refine ⟨?_, ?_, ?_⟩ <;> (first | assumption | infer_instance)) | (skip; done))); (case hy => (rintro wf ⟨hwa, hwb, hwc⟩; (((apply opv_E); exact rfl)))))
    ((apply (tk 2)); (case hi => exact rfl); (case hf => kernel_rfl); (case hS => (first | exact trivial | assumption | infer_instance | (refine ⟨?_, ?_, ?_⟩ <;> (first | assumption | infer_instance)) | (skip; done))); (case hy => (rintro wf ⟨hwa, hwb, hwc⟩; (((apply opv_fieldAddr); exact rfl)))))
    ((apply (tk 3)); (case hi => exact rfl); (case hf => kernel_rfl); (case hS => (first | exact trivial | assumption | infer_instance | (refine ⟨?_, ?_, ?_⟩ <;> (first | assumption | infer_instance)) | (skip; done))); (case hy => (rintro wf ⟨hwa, hwb, hwc⟩; (((apply opv_loadb1); exact rfl; exact rfl; assumption; exact rfl)))))
    ((apply (tk 4)); (case hi => exact rfl); (case hf => kernel_rfl); (case hS => (first | exact trivial | assumption | infer_instance | (refine ⟨?_, ?_, ?_⟩ <;> (first | assumption | infer_instance)) | (skip; done))); (case hy => (rintro wf ⟨hwa, hwb, hwc⟩; (((apply opv_loadb1); exact rfl; exact rfl; assumption; exact rfl)))))
    ((apply (tk 5)); (case hi => exact rfl); (case hf => kernel_rfl); (case hS => (first | exact trivial | assumption | infer_instance | (refine ⟨?_, ?_, ?_⟩ <;> (first | assumption | infer_instance)) | (skip; done))); (case hy => (rintro wf ⟨hwa, hwb, hwc⟩; (((apply opv_E); exact rfl)))))
    ((apply (tk 6)); (case hi => exact rfl); (case hf => kernel_rfl); (case hS => (first | exact trivial | assumption | infer_instance | (refine ⟨?_, ?_, ?_⟩ <;> (first | assumption | infer_instance)) | (skip; done))); (case hy => (rintro wf ⟨hwa, hwb, hwc⟩; (((apply opv_fieldAddr); exact rfl)))))
    ((apply (tk 7)); (case hi => exact rfl); (case hf => kernel_rfl); (case hS => (first | exact trivial | assumption | infer_instance | (refine ⟨?_, ?_, ?_⟩ <;> (first | assumption | infer_instance)) | (skip; done))); (case hy => (rintro wf ⟨hwa, hwb, hwc⟩; (((apply opv_loadb1); exact rfl; exact rfl; assumption; exact rfl)))))
    refine tkc 8 rfl (by kernel_rfl) (by (first | exact trivial | assumption | infer_instance | (refine ⟨?_, ?_, ?_⟩ <;> (first | assumption | infer_instance)) | (skip; done))) rfl (s_ready sb qb lv ready ts.length _ (s4.sc.frN (Fr.refl No _).drew) hl) rfl ?_
    rintro _ w5 ⟨rfl, lv', hsc⟩
    obtain ⟨s5, hz5⟩ := s4.line (hsc.after (Fr.refl No _).drew)
    have hr5 := s5.hr
    have htx5 := htx4.fr hz5 (fun h => h (.inr (.inr rfl)))
    have htb5 : Blk w5.heap w1.heap.size [.pointer (some ⟨rb, 0, none⟩), .int .i64 ts.length, .func (.func 98) #[] #[.pointer (some ⟨w.heap.size, 0, none⟩), .pointer (some ⟨tx, 0, none⟩)], .nilFunc, .bool false, .bool false, .bool false] 162 := s5.tk ts.length _ (by rw [List.getElem?_append_right (Nat.le_refl _), Nat.sub_self]; rfl)
    refine vA_done (by kernel_rfl) (by (first | exact trivial | assumption | infer_instance | (refine ⟨?_, ?_, ?_⟩ <;> (first | assumption | infer_instance)) | (skip; done))) ?_
    (apply seqP_normal; apply vC_seq; apply vC_region; ((apply vL_val); (case h => ((apply opv_loadb1); exact rfl; exact rfl; assumption; exact rfl))); (iterate 2 (((apply vL_val); (case h => ((apply opv_E); exact rfl))))); apply vL_nil; apply seqP_normal; apply vC_ret)
    (apply ret2; (case h1 => (exact norm_eq rfl)); (case h2 => (exact norm_eq rfl)))
    exact .inr ⟨by omega, w1.heap.size, w.heap.size, tx, lv', tv', rfl, hw1, Nat.le_refl _, Nat.le_trans hw1 hsz2, (hfb2.fr hz4 (fun h => h (.inr (.inl rfl)))).fr hz5 (fun h => h (.inr (.inl rfl))), htx5, ((hf1.trans hf2).no_any.trans (hz4.mono (fun k _ h h' => h (.inl h')))).trans (hz5.mono (fun k _ h h' => h (.inl h'))), s5⟩
end
section
variable {Z : Nat → Prop} {w : World} {rb sb qb : Nat} {lv tv : Value} {rest : Int} {ready : List Int} {ts : List (Nat × TK)}
theorem r_step_none (s : Rt Z w rb sb qb lv tv none rest [] ts) (p : Int) (hp : 0 ≤ p ∧ p ≤ 18446744073709551615) :
    Rets Tryz.prog 24 #[.pointer (some ⟨rb, 0, none⟩), .int .u64 p] w fun u w' => w = w' ∧ u = .bool false := by
  have hr := s.hr
  refine rets_of Tryz.func24 rfl Tryz.ntmps24 rfl rfl (by kernel_rfl) ?_
  (apply vC_seq; apply vC_region; ((apply vL_val); (case h => ((apply opv_E); exact rfl))); apply vL_nil; apply seqP_normal; (iterate 2 (apply vC_seq)); apply vC_region; ((apply vL_val); (case h => ((apply opv_E); exact rfl))))
  refine vL_callF rfl (r_right s) rfl ?_
  rintro _ _ ⟨rfl, rfl⟩
  (((apply vL_val); (case h => ((apply opv_not); exact rfl))); (iterate 12 (first | ((with_reducible apply vL_val); (case h => ((with_reducible apply opv_E); exact rfl))) | ((with_reducible apply vL_val); (case h => ((with_reducible apply opv_loadb1); exact rfl; exact rfl; assumption; exact rfl))) | ((with_reducible apply vL_val); (case h => ((with_reducible apply opv_fieldAddr); exact rfl))) | ((with_reducible apply vL_val); (case h => ((with_reducible apply opv_neq_pnil); exact rfl; exact rfl; (simp; done)))) | ((with_reducible apply vL_wanted); exact rfl))); apply vL_nil; apply seqP_normal; ((apply vC_cond_false); exact rfl); apply vC_skip; apply seqP_normal; apply vC_seq; apply vC_region; (iterate 2 (((apply vL_val); (case h => ((apply opv_E); exact rfl))))); ((apply vL_val); (case h => ((apply opv_fieldAddr); exact rfl))); ((apply vL_val); (case h => ((apply opv_loadb1); exact rfl; exact rfl; assumption; exact rfl))); ((apply vL_val); (case h => ((apply opv_E); exact rfl))))
  refine vL_callF rfl (s_pick sb qb lv [] p w s.sc (by decide) hp) rfl ?_
  rintro _ w1 (⟨_, rfl, rfl⟩ | ⟨z, lv1, hz, rfl, hsc⟩)
  · ((iterate 22 (first | with_reducible apply vC_seq | with_reducible apply vC_region | with_reducible apply seqP_normal | ((with_reducible apply vC_cond_true); exact rfl) | ((with_reducible apply vL_val); (case h => ((with_reducible apply opv_E); exact rfl))) | ((with_reducible apply vL_val); (case h => ((with_reducible apply opv_not); exact rfl))) | with_reducible apply vL_nil)); apply vC_ret; apply seqP_ret)
    (apply ret1; (case h1 => (exact norm_eq rfl)))
    exact ⟨rfl, rfl⟩
  · simp at hz
theorem r_step (s : Rt Z w rb sb qb lv tv none rest ready ts) (p : Int) (hp : 0 ≤ p ∧ p ≤ 18446744073709551615) (hl : ready.length ≤ 256) {i : Nat} {x : Nat × TK} (hid : ready[(p % ready.length).toNat]? = some (i : Int)) (hx : ts[i]? = some x)
    {g : FuncId} [FnOk Tryz.prog g] (cap : List Value) (hnext : x.2.next.1 = .func (.func g) #[] cap.toArray) (H : World → (Nat → Prop) → List Int → List (Nat × TK) → TK → Prop)
    (hcall : ∀ w1 lv1, Rt Z w1 rb sb qb lv1 tv (some x.1) (p / ready.length) (without ready (p % ready.length)) (ts.set i (x.1, { x.2 with next := ⟨.nilFunc, rfl⟩, said := false })) → Fr (fun k => ¬ Z k) w w1 → Rets Tryz.prog g cap.toArray w1 fun _ w2 =>
      ∃ Z2 sb2 qb2 lv2 tv2 rest2 ready2 ts2 y, Rt Z2 w2 rb sb2 qb2 lv2 tv2 (some x.1) rest2 ready2 ts2 ∧ ts2[i]? = some (x.1, y) ∧ H w2 Z2 ready2 ts2 y) :
    Rets Tryz.prog 24 #[.pointer (some ⟨rb, 0, none⟩), .int .u64 p] w fun u w' => u = .bool true ∧ ∃ w2 Z2 sb2 qb2 lv2 tv2 ready2 ts2 y, H w2 Z2 ready2 ts2 y ∧ ts2[i]? = some (x.1, y) ∧ Rt Z2 w' rb sb2 qb2 lv2 tv2 none 0 ready2 (ts2.set i (x.1, { y with over := !y.said })) ∧ Fr (fun k => ¬ Z2 k) w2 w' := by
  have hr := s.hr
  refine rets_of Tryz.func24 rfl Tryz.ntmps24 rfl rfl (by kernel_rfl) ?_
  (apply vC_seq; apply vC_region; ((apply vL_val); (case h => ((apply opv_E); exact rfl))); apply vL_nil; apply seqP_normal; (iterate 2 (apply vC_seq)); apply vC_region; ((apply vL_val); (case h => ((apply opv_E); exact rfl))))
  refine vL_callF rfl (r_right s) rfl ?_
  rintro _ _ ⟨rfl, rfl⟩
  (((apply vL_val); (case h => ((apply opv_not); exact rfl))); (iterate 12 (first | ((with_reducible apply vL_val); (case h => ((with_reducible apply opv_E); exact rfl))) | ((with_reducible apply vL_val); (case h => ((with_reducible apply opv_loadb1); exact rfl; exact rfl; assumption; exact rfl))) | ((with_reducible apply vL_val); (case h => ((with_reducible apply opv_fieldAddr); exact rfl))) | ((with_reducible apply vL_val); (case h => ((with_reducible apply opv_neq_pnil); exact rfl; exact rfl; (simp; done)))) | ((with_reducible apply vL_wanted); exact rfl))); apply vL_nil; apply seqP_normal; ((apply vC_cond_false); exact rfl); apply vC_skip; apply seqP_normal; apply vC_seq; apply vC_region; (iterate 2 (((apply vL_val); (case h => ((apply opv_E); exact rfl))))); ((apply vL_val); (case h => ((apply opv_fieldAddr); exact rfl))); ((apply vL_val); (case h => ((apply opv_loadb1); exact rfl; exact rfl; assumption; exact rfl))); ((apply vL_val); (case h => ((apply opv_E); exact rfl))))
  refine vL_callF rfl (s_pick sb qb lv ready p w s.sc hl hp) rfl ?_
  rintro _ w1 (⟨h, _, _⟩ | ⟨z, lv1, hz, rfl, hsc⟩)
  · rw [h] at hid; simp at hid
  obtain rfl : z = (i : Int) := by rw [hid] at hz; exact (Option.some.inj hz).symm
  generalize p / (ready.length : Int) = rs at *
  obtain ⟨s1, hz1⟩ := s.line hsc
  have hr1 := s1.hr
  have ht1 := s1.ht
  have hml : (ts.map (·.1)).length = ts.length := List.length_map ..
  have hi := (List.getElem?_eq_some_iff.1 hx).1
  have hg : (ts.map (·.1))[((i : Nat) : Int).toNat]? = some x.1 := by rw [Int.toNat_natCast, List.getElem?_map, hx]; rfl
  have hone := x.2.wake.2
  ((iterate 23 (first | with_reducible apply vC_seq | with_reducible apply vC_region | with_reducible apply seqP_normal | with_reducible apply vC_skip | ((with_reducible apply vC_cond_false); exact rfl) | ((with_reducible apply vL_val); (case h => ((with_reducible apply opv_E); exact rfl))) | ((with_reducible apply vL_val); (case h => ((with_reducible apply opv_not); exact rfl))) | with_reducible apply vL_nil)); ((apply vL_val); (case h => ((apply opv_fieldAddr); exact rfl))); ((apply vL_val); (case h => ((apply opv_loadb1); exact rfl; exact rfl; assumption; exact rfl))); ((apply vL_val); (case h => ((apply opv_E); exact rfl))); ((apply vL_val); (case h => ((apply opv_indexAddr); ((conv => lhs; whnf) <;> exact rfl); exact rfl; infer_instance; (first | omega | (simp only [List.length_map]; omega)); (first | omega | (simp only [List.length_map]; omega))))); ((apply vL_val); (case h => ((apply opv_ld_el); exact rfl; exact rfl; infer_instance; assumption; exact rfl))); (iterate 22 (first | with_reducible apply vC_seq | with_reducible apply vC_region | with_reducible apply seqP_normal | ((with_reducible apply vL_val); (case h => ((with_reducible apply opv_E); exact rfl))) | ((with_reducible apply vL_val); (case h => ((with_reducible apply opv_fieldAddr); exact rfl))) | with_reducible apply vL_nil | ((with_reducible apply vL_skip); (case h => ((with_reducible apply ops_store1); exact norm_eq rfl; exact norm_eq rfl; (first | rfl | assumption); assumption; (first | decide | exact of_decide_eq_true rfl | (simp; done))))) | ((with_reducible apply vL_skip); (case h => ((with_reducible apply ops_store1); exact norm_eq rfl; exact norm_eq rfl; (first | rfl | assumption); infer_instance; (first | decide | exact of_decide_eq_true rfl | (simp; done))))))))
  refine vL_gen (fun w' => Rt Z w' rb sb qb lv1 tv (some x.1) rs (without ready (p % ready.length)) ts ∧ Fr (fun k => ¬ Z k) w w') ?_ ?_
  · obtain ⟨a, ha⟩ := s1.self (now' := some x.1) (rest' := rs) (w' := (w1.setRow rb [.pointer (some ⟨sb, 0, none⟩), tv, .pointer (some ⟨x.1, 0, none⟩), .int .u64 rest].toArray).setRow rb [.pointer (some ⟨sb, 0, none⟩), tv, .pointer (some ⟨x.1, 0, none⟩), .int .u64 rs].toArray) (fun b hb => by cases hb; exact List.mem_map.2 ⟨x, List.mem_of_getElem? hx, rfl⟩) (((Fr.refl (fun k => k = rb) w1).set _ _ (.inl rfl)).set _ _ (.inl rfl)) (show Blk _ rb [.pointer (some ⟨sb, 0, none⟩), tv, .pointer (some ⟨x.1, 0, none⟩), .int .u64 rs] 108 from inferInstance)
    exact ⟨a, hz1.trans ha⟩
  clear hr1 ht1 s1 hz1 hsc hz
  rintro w1b ⟨s1, hz1⟩
  have hb1 := s1.tk i x hx
  rw [tkL, hnext] at hb1
  (((apply vL_val); (case h => ((apply opv_loadb1); exact rfl; exact rfl; assumption; exact rfl))); (iterate 18 (first | with_reducible apply vC_seq | with_reducible apply vC_region | with_reducible apply seqP_normal | ((with_reducible apply vL_val); (case h => ((with_reducible apply opv_E); exact rfl))) | ((with_reducible apply vL_val); (case h => ((with_reducible apply opv_fieldAddr); exact rfl))) | with_reducible apply vL_nil | ((with_reducible apply vL_skip); (case h => ((with_reducible apply ops_store1); exact norm_eq rfl; exact norm_eq rfl; (first | rfl | assumption); assumption; (first | decide | exact of_decide_eq_true rfl | (simp; done))))) | ((with_reducible apply vL_skip); (case h => ((with_reducible apply ops_store1); exact norm_eq rfl; exact norm_eq rfl; (first | rfl | assumption); infer_instance; (first | decide | exact of_decide_eq_true rfl | (simp; done))))))))
  refine vL_gen (fun w' => Rt Z w' rb sb qb lv1 tv (some x.1) rs (without ready (p % ready.length)) (ts.set i (x.1, { x.2 with next := ⟨.nilFunc, rfl⟩, said := false })) ∧ Fr (fun k => ¬ Z k) w w') ?_ ?_
  · obtain ⟨b, hb⟩ := s1.task (y := { x.2 with next := ⟨.nilFunc, rfl⟩, said := false }) (w' := (w1b.setRow x.1 [.pointer (some ⟨rb, 0, none⟩), .int .i64 i, .nilFunc, x.2.wake.1, .bool x.2.said, .bool x.2.parked, .bool x.2.over].toArray).setRow x.1 [.pointer (some ⟨rb, 0, none⟩), .int .i64 i, .nilFunc, x.2.wake.1, .bool false, .bool x.2.parked, .bool x.2.over].toArray) hx (((Fr.refl (fun k => k = x.1) _).set _ _ (.inl rfl)).set _ _ (.inl rfl)) (show Blk _ x.1 [.pointer (some ⟨rb, 0, none⟩), .int .i64 i, .nilFunc, x.2.wake.1, .bool false, .bool x.2.parked, .bool x.2.over] 162 from inferInstance)
    exact ⟨b, hz1.trans hb⟩
  clear hb1 s1 hz1
  rintro w2 ⟨s2, hz2⟩
  refine vL_callF rfl (hcall w2 lv1 s2 hz2) rfl ?_
  rintro _ w3 ⟨Z2, sb2, qb2, lv2, tv2, rest2, ready2, ts2, y, s3, hy, hH⟩
  have hb3 := s3.tk i _ hy
  have hone3 := y.wake.2
  have hone4 := y.next.2
  rw [tkL] at hb3
  (apply vL_nil; apply seqP_normal; apply vC_seq; apply vC_region; (iterate 3 (((apply vL_val); (case h => ((apply opv_E); exact rfl))))); ((apply vL_val); (case h => ((apply opv_fieldAddr); exact rfl))); ((apply vL_val); (case h => ((apply opv_loadb1); exact rfl; exact rfl; assumption; exact rfl))); ((apply vL_val); (case h => ((apply opv_not); exact rfl))); ((apply vL_val); (case h => ((apply opv_E); exact rfl))); ((apply vL_val); (case h => ((apply opv_fieldAddr); exact rfl))); ((apply vL_skip); (case h => ((apply ops_store1); exact norm_eq rfl; exact norm_eq rfl; (first | rfl | assumption); assumption; (first | decide | exact of_decide_eq_true rfl | (simp; done))))); apply vL_nil; apply seqP_normal; apply vC_seq; apply vC_region; (iterate 3 (((apply vL_val); (case h => ((apply opv_E); exact rfl))))); ((apply vL_val); (case h => ((apply opv_fieldAddr); exact rfl))))
  refine vL_gen (fun w' => Rt Z2 w' rb sb2 qb2 lv2 tv2 (some x.1) rest2 ready2 (ts2.set i (x.1, { y with over := !y.said })) ∧ Fr (fun k => ¬ Z2 k) w3 w') ?_ ?_
  · exact s3.task (y := { y with over := !y.said }) (w' := w3.setRow x.1 [.pointer (some ⟨rb, 0, none⟩), .int .i64 i, y.next.1, y.wake.1, .bool y.said, .bool y.parked, .bool (!y.said)].toArray) hy ((Fr.refl (fun k => k = x.1) _).set _ _ (.inl rfl)) (show Blk _ x.1 [.pointer (some ⟨rb, 0, none⟩), .int .i64 i, y.next.1, y.wake.1, .bool y.said, .bool y.parked, .bool (!y.said)] 162 from inferInstance)
  rintro w4 ⟨a, ha⟩
  have har := a.hr
  (((apply vL_skip); (case h => ((apply ops_store1); exact norm_eq rfl; exact norm_eq rfl; (first | rfl | assumption); assumption; (first | decide | exact of_decide_eq_true rfl | (simp; done))))); ((apply vL_val); (case h => ((apply opv_E); exact rfl))); ((apply vL_val); (case h => ((apply opv_fieldAddr); exact rfl))); ((apply vL_skip); (case h => ((apply ops_store1); exact norm_eq rfl; exact norm_eq rfl; (first | rfl | assumption); infer_instance; (first | decide | exact of_decide_eq_true rfl | (simp; done))))); apply vL_nil; apply seqP_normal; apply vC_seq; apply vC_region; ((apply vL_val); (case h => ((apply opv_E); exact rfl))); apply vL_nil; apply seqP_normal; apply vC_ret)
  (apply ret1; (case h1 => (exact norm_eq rfl)))
  obtain ⟨b, hb⟩ := a.self (now' := none) (rest' := 0) (w' := (w4.setRow rb [.pointer (some ⟨sb2, 0, none⟩), tv2, .pointer none, .int .u64 rest2].toArray).setRow rb [.pointer (some ⟨sb2, 0, none⟩), tv2, .pointer none, .int .u64 0].toArray) (fun b hb => by cases hb) (((Fr.refl (fun k => k = rb) _).set _ _ (.inl rfl)).set _ _ (.inl rfl)) (show Blk _ rb [.pointer (some ⟨sb2, 0, none⟩), tv2, .pointer none, .int .u64 0] 108 from inferInstance)
  exact ⟨rfl, w3, Z2, sb2, qb2, lv2, tv2, ready2, ts2, y, hH, hy, b, ha.trans hb⟩
end
end Go.Proofs.YtbaidcnalkdhgaaGreat
set_option maxRecDepth 100000
namespace Go.Proofs.YtbaidcnalkdhgaaGreat
open Go Go.Eng
def RtA (rb : Nat) (now : Option Nat) (rest : Int) (ready : List Int) (ts : List (Nat × TK)) : Asr := fun h F => ∃ (w : World) (sb qb : Nat) (lv tv : Value), w.heap = h ∧ Rt No w rb sb qb lv tv now rest ready ts ∧ F = RtB rb sb qb lv tv ts
section
variable {Z : Nat → Prop} {w w' w0 : World} {F F0 : Nat → Prop} {rb sb qb : Nat} {lv tv : Value} {now : Option Nat} {rest : Int} {ready : List Int} {ts : List (Nat × TK)} {R : Asr}
theorem Rt.heap (e : w.heap = w'.heap) (s : Rt Z w rb sb qb lv tv now rest ready ts) : Rt Z w' rb sb qb lv tv now rest ready ts :=
  ⟨e ▸ s.hr, ⟨e ▸ s.sc.hs, e ▸ s.sc.hb, e ▸ s.sc.ho, s.sc.one⟩, e ▸ s.ht, fun i x hx => e ▸ s.tk i x hx, s.one, s.hn, fun k hk => e ▸ s.zs k hk, s.zn⟩
theorem Rt.zto {Z' : Nat → Prop} (s : Rt Z w rb sb qb lv tv now rest ready ts) (h1 : ∀ k, Z' k → k < w.heap.size) (h2 : ∀ k, RtB rb sb qb lv tv ts k → ¬ Z' k) : Rt Z' w rb sb qb lv tv now rest ready ts :=
  ⟨s.hr, s.sc, s.ht, s.tk, s.one, s.hn, h1, h2⟩
instance instLclRtA (rb : Nat) (now : Option Nat) (rest : Int) (ready : List Int) (ts : List (Nat × TK)) : Lcl (RtA rb now rest ready ts) := ⟨by
  rintro h F ⟨w, sb, qb, lv, tv, rfl, s, rfl⟩ k hk
  exact s.lt k hk, by
  rintro w1 w2 F G ⟨w, sb, qb, lv, tv, e, s, rfl⟩ hf hn
  have s1 := s.heap e
  have s2 : Rt (fun k => k < w1.heap.size ∧ G k) w1 rb sb qb lv tv now rest ready ts := s1.zto (fun k h => h.1) (fun k h1 h2 => hn k h1 h2.2)
  exact ⟨w2, sb, qb, lv, tv, rfl, s2.fr (hf.mono (fun k hk h => ⟨hk, h⟩)) (fun k h => h.elim), rfl⟩⟩
/-- what is foreign to a piece of memory -/
def Zo (w : World) (F : Nat → Prop) (k : Nat) : Prop := k < w.heap.size ∧ ¬ F k
theorem RtA.mk {rb' sb' qb' : Nat} {lv' tv' : Value} {now' : Option Nat} {rest' : Int} {ready' : List Int} {ts' : List (Nat × TK)} (s : Rt (Zo w F) w' rb' sb' qb' lv' tv' now' rest' ready' ts') (hf : Fr (fun k => ¬ Zo w F k) w w') : At (RtA rb' now' rest' ready' ts') w F w' := by
  refine ⟨RtB rb' sb' qb' lv' tv' ts', ⟨w', sb', qb', lv', tv', rfl, s.re (fun k h => h.elim), rfl⟩, hf.mono (fun k hk h => Classical.byContradiction fun h' => h ⟨hk, h'⟩), fun k hk => ?_⟩
  have := s.zn k hk
  by_cases h : F k
  · exact .inl h
  · exact .inr (Classical.byContradiction fun h' => this ⟨by omega, h⟩)
theorem RtA.mk2 {rb' sb' qb' : Nat} {lv' tv' : Value} {now' : Option Nat} {rest' : Int} {ready' : List Int} {ts' : List (Nat × TK)} {B : Asr} {FB : Nat → Prop} (b : B w'.heap FB) (hB : ∀ k, FB k → w.heap.size ≤ k) (s : Rt (fun k => Zo w F k ∨ FB k) w' rb' sb' qb' lv' tv' now' rest' ready' ts') (hf : Fr (fun k => ¬ Zo w F k) w w') : At (RtA rb' now' rest' ready' ts' * B) w F w' := by
  refine ⟨_, ⟨RtB rb' sb' qb' lv' tv' ts', FB, ⟨w', sb', qb', lv', tv', rfl, s.re (fun k h => h.elim), rfl⟩, b, fun k h1 h2 => s.zn k h1 (.inr h2), rfl⟩, hf.mono (fun k hk h => Classical.byContradiction fun h' => h ⟨hk, h'⟩), fun k hk => ?_⟩
  rcases hk with hk | hk
  · have := s.zn k hk
    by_cases h : F k
    · exact .inl h
    · exact .inr (Classical.byContradiction fun h' => this (.inl ⟨by omega, h⟩))
  · exact .inr (hB k hk)
theorem _root_.Go.Eng.At.rt [Lcl R] (S : At (RtA rb now rest ready ts * R) w0 F0 w) : ∃ (F : Nat → Prop) (sb qb : Nat) (lv tv : Value), Rt (Zo w F) w rb sb qb lv tv now rest ready ts ∧ ∀ B w', At B w F w' → At (B * R) w0 F0 w' := by
  obtain ⟨_, ⟨F1, F2, ⟨w1, sb, qb, lv, tv, e, s, rfl⟩, r, d, rfl⟩, hf, hn⟩ := S.out
  refine ⟨_, sb, qb, lv, tv, (s.heap e).zto (fun k h => h.1) (fun k h1 h2 => h2.2 h1), fun B w' hB => at_step r d hf hn hB⟩
theorem _root_.Go.Eng.At.task [Lcl R] (S : At (RtA rb now rest ready ts * R) w0 F0 w) {i : Nat} {x : Nat × TK} (hx : ts[i]? = some x) : Blk w.heap x.1 (tkL rb i x.2) 162 := by
  obtain ⟨F, sb, qb, lv, tv, s, _⟩ := S.rt
  exact s.tk i x hx
theorem _root_.Go.Eng.At.inj [Lcl R] (S : At (RtA rb now rest ready ts * R) w0 F0 w) {i j : Nat} {x y : Nat × TK} (hx : ts[i]? = some x) (hy : ts[j]? = some y) (h : x.1 = y.1) : i = j := by
  obtain ⟨F, sb, qb, lv, tv, s, _⟩ := S.rt
  exact s.inj hx hy h
theorem rightA [Lcl R] (S : At (RtA rb now rest ready ts * R) w0 F0 w) : Rets Tryz.prog 97 #[pt rb] w fun u w' => w = w' ∧ u = .bool true := by
  obtain ⟨F, sb, qb, lv, tv, s, _⟩ := S.rt
  exact r_right s
theorem runtimeA [Lcl R] (S : At (RtA rb now rest ready ts * R) w0 F0 w) {i : Nat} {x : Nat × TK} (hx : ts[i]? = some x) : Rets Tryz.prog 134 #[pt x.1] w fun u w' => w = w' ∧ u = pt rb := t_runtime (S.task hx)
theorem idA [Lcl R] (S : At (RtA rb now rest ready ts * R) w0 F0 w) {i : Nat} {x : Nat × TK} (hx : ts[i]? = some x) : Rets Tryz.prog 165 #[pt x.1] w fun u w' => w = w' ∧ u = .int .i64 i := t_id (S.task hx)
theorem yieldA [Lcl R] (S : At (RtA rb now rest ready ts * R) w0 F0 w) {i : Nat} {x} (hx : ts[i]? = some x) (f : FuncId) (cap : Array Value) (hl : ready.length ≤ 256) (hm : mayE false now x = 0) :
    Rets Tryz.prog 168 #[pt x.1, .func (.func f) #[] cap] w fun u w' => u = .int .i64 0 ∧ At (RtA rb now rest (readyL ready i) (ts.set i (x.1, { x.2 with next := ⟨.func (.func f) #[] cap, rfl⟩, said := true, parked := false })) * R) w0 F0 w' := by
  obtain ⟨F, sb, qb, lv, tv, s, up⟩ := S.rt
  refine (t_yield s hx f cap hl).mono fun u w' ⟨hu, h⟩ => ?_
  rw [hm] at hu h
  rcases h with ⟨h, _⟩ | ⟨_, lv', s', hf'⟩
  · exact absurd rfl h
  · exact ⟨hu, up _ _ (RtA.mk s' hf')⟩
theorem yieldEA [Lcl R] (S : At (RtA rb now rest ready ts * R) w0 F0 w) {i : Nat} {x} (hx : ts[i]? = some x) (f : FuncId) (cap : Array Value) (hl : ready.length ≤ 256) (hm : mayE false now x ≠ 0) :
    Rets Tryz.prog 168 #[pt x.1, .func (.func f) #[] cap] w fun u w' => u = .int .i64 (mayE false now x) ∧ w = w' := by
  obtain ⟨F, sb, qb, lv, tv, s, up⟩ := S.rt
  refine (t_yield s hx f cap hl).mono fun u w' ⟨hu, h⟩ => ?_
  rcases h with ⟨_, h⟩ | ⟨h, _⟩
  · exact ⟨hu, h⟩
  · exact absurd h hm
theorem parkA [Lcl R] (S : At (RtA rb now rest ready ts * R) w0 F0 w) {i : Nat} {x} (hx : ts[i]? = some x) (f : FuncId) (cap : Array Value) (hm : mayE false now x = 0) :
    Rets Tryz.prog 89 #[pt x.1, .func (.func f) #[] cap] w fun u w' => u = .int .i64 0 ∧ At (RtA rb now rest ready (ts.set i (x.1, { x.2 with wake := ⟨.func (.func f) #[] cap, rfl⟩, said := true, parked := true })) * R) w0 F0 w' := by
  obtain ⟨F, sb, qb, lv, tv, s, up⟩ := S.rt
  refine (t_park s hx f cap).mono fun u w' ⟨hu, h⟩ => ?_
  rw [hm] at hu h
  rcases h with ⟨h, _⟩ | ⟨_, s', hf'⟩
  · exact absurd rfl h
  · exact ⟨hu, up _ _ (RtA.mk s' hf')⟩
theorem parkEA [Lcl R] (S : At (RtA rb now rest ready ts * R) w0 F0 w) {i : Nat} {x} (hx : ts[i]? = some x) (f : FuncId) (cap : Array Value) (hm : mayE false now x ≠ 0) :
    Rets Tryz.prog 89 #[pt x.1, .func (.func f) #[] cap] w fun u w' => u = .int .i64 (mayE false now x) ∧ w = w' := by
  obtain ⟨F, sb, qb, lv, tv, s, up⟩ := S.rt
  refine (t_park s hx f cap).mono fun u w' ⟨hu, h⟩ => ?_
  rcases h with ⟨_, h⟩ | ⟨h, _⟩
  · exact ⟨hu, h⟩
  · exact absurd h hm
theorem wakeA [Lcl R] (S : At (RtA rb now rest ready ts * R) w0 F0 w) {i : Nat} {x} (hx : ts[i]? = some x) (why : Int) (hl : ready.length ≤ 256) (hp : x.2.parked = true) :
    Rets Tryz.prog 91 #[pt x.1, .int .i64 why] w fun u w' => u = .int .i64 0 ∧ ∃ fb yb, At (RtA rb now rest (readyL ready i) (ts.set i (x.1, { x.2 with next := ⟨.func (.func 156) #[] #[pt fb, pt yb], rfl⟩, parked := false })) * (Pt fb [x.2.wake.1] 135 * (Pt yb [.int .i64 why] 3 * R))) w0 F0 w' := by
  obtain ⟨F, sb, qb, lv, tv, s, up⟩ := S.rt
  refine (t_wake s hx why hl).mono fun u w' h => ?_
  rcases h with ⟨h, _⟩ | ⟨_, hu, lv', fb, yb, hfb, hyb, b1, b2, hf', s'⟩
  · rw [hp] at h; cases h
  · refine ⟨hu, fb, yb, ?_⟩
    have h1 : (Pt fb [x.2.wake.1] 135 * Pt yb [.int .i64 why] 3) w'.heap (fun k => k = fb ∨ k = yb) := ⟨_, _, ⟨b1, rfl⟩, ⟨b2, rfl⟩, fun k e1 e2 => by subst e1; exact Blk.ne_type b1 b2 (by decide) e2, rfl⟩
    have := up _ _ (RtA.mk2 h1 (fun k hk => by rcases hk with rfl | rfl; exact hfb; exact hyb) s' hf')
    exact this.ac (by ac_rfl)
theorem wakeEA [Lcl R] (S : At (RtA rb now rest ready ts * R) w0 F0 w) {i : Nat} {x} (hx : ts[i]? = some x) (why : Int) (hl : ready.length ≤ 256) (hp : x.2.parked = false) :
    Rets Tryz.prog 91 #[pt x.1, .int .i64 why] w fun u w' => u = .int .i64 152 ∧ At (RtA rb now rest ready ts * R) w0 F0 w' := by
  obtain ⟨F, sb, qb, lv, tv, s, up⟩ := S.rt
  refine (t_wake s hx why hl).mono fun u w' h => ?_
  rcases h with ⟨_, hu, hf'⟩ | ⟨h, _⟩
  · exact ⟨hu, S.frN hf'⟩
  · rw [hp] at h; cases h
theorem readyA [Lcl R] (S : At (RtA rb now rest ready ts * R) w0 F0 w) (hl : ready.length ≤ 256) : Rets Tryz.prog 51 #[pt rb] w fun u w' => At (Ow 3 1 iE u ready * (RtA rb now rest ready ts * R)) w0 F0 w' := by
  obtain ⟨F, sb, qb, lv, tv, s, up⟩ := S.rt
  refine (r_ready s hl).mono fun u w' ⟨hf, ho, hn, h1⟩ => ?_
  exact S.gain hf ⟨_, ⟨ho, h1, rfl⟩, hn⟩
theorem parkedA [Lcl R] (S : At (RtA rb now rest ready ts * R) w0 F0 w) (hl : ts.length ≤ 1000000) : Rets Tryz.prog 105 #[pt rb] w fun u w' => At (Ow 3 1 iE u (parkedIn ts ts.length) * (RtA rb now rest ready ts * R)) w0 F0 w' := by
  obtain ⟨F, sb, qb, lv, tv, s, up⟩ := S.rt
  refine (r_parked s hl).mono fun u w' ⟨hf, ho, hn, h1⟩ => ?_
  exact S.gain hf ⟨_, ⟨ho, h1, rfl⟩, hn⟩
theorem spawnA [Lcl R] (S : At (RtA rb now rest ready ts * R) w0 F0 w) (g : FuncId) (cap : Array Value) (hl : ready.length ≤ 256) (hlt : ts.length ≤ 1000000) (ho : openIn ts ts.length < 256) :
    Rets Tryz.prog 22 #[pt rb, .func (.func g) #[] cap] w fun u w' => ∃ tb fb tx, u = .tuple #[pt tb, .int .i64 0] ∧
      At (RtA rb now rest (readyL ready ts.length) (ts ++ [(tb, newT fb tx)]) * (Pt fb [.func (.func g) #[] cap] 37 * (Pt tx [pt tb] 34 * R))) w0 F0 w' := by
  obtain ⟨F, sb, qb, lv, tv, s, up⟩ := S.rt
  refine (r_spawn s g cap hl hlt).mono fun u w' h => ?_
  rcases h with ⟨h, _⟩ | ⟨_, tb, fb, tx, lv', tv', hu, h1, h2, h3, b1, b2, hf', s'⟩
  · omega
  · refine ⟨tb, fb, tx, hu, ?_⟩
    have h5 : (Pt fb [.func (.func g) #[] cap] 37 * Pt tx [pt tb] 34) w'.heap (fun k => k = fb ∨ k = tx) := ⟨_, _, ⟨b1, rfl⟩, ⟨b2, rfl⟩, fun k e1 e2 => by subst e1; exact Blk.ne_type b1 b2 (by decide) e2, rfl⟩
    have := up _ _ (RtA.mk2 h5 (fun k hk => by rcases hk with rfl | rfl; exact h2; exact h3) s' hf')
    exact this.ac (by ac_rfl)
theorem stepNA [Lcl R] (S : At (RtA rb none rest [] ts * R) w0 F0 w) (p : Int) (hp : 0 ≤ p ∧ p ≤ 18446744073709551615) : Rets Tryz.prog 24 #[pt rb, .int .u64 p] w fun u w' => w = w' ∧ u = .bool false := by
  obtain ⟨F, sb, qb, lv, tv, s, up⟩ := S.rt
  exact r_step_none s p hp
theorem stepA [Lcl R] (S : At (RtA rb none rest ready ts * R) w0 F0 w) (p : Int) (hp : 0 ≤ p ∧ p ≤ 18446744073709551615) (hl : ready.length ≤ 256) {i : Nat} {x : Nat × TK} (hid : ready[(p % ready.length).toNat]? = some (i : Int)) (hx : ts[i]? = some x)
    {g : FuncId} [FnOk Tryz.prog g] (cap : List Value) (hnext : x.2.next.1 = .func (.func g) #[] cap.toArray) {σ : Type} (H : σ → Asr) (rest2 : σ → Int) (ready2 : σ → List Int) (ts2 : σ → List (Nat × TK)) (y : σ → TK) [∀ q, Lcl (H q)]
    (hcall : ∀ w1, At (RtA rb (some x.1) (p / ready.length) (without ready (p % ready.length)) (ts.set i (x.1, { x.2 with next := ⟨.nilFunc, rfl⟩, said := false })) * R) w0 F0 w1 → Rets Tryz.prog g cap.toArray w1 fun _ w2 => ∃ q : σ, At (RtA rb (some x.1) (rest2 q) (ready2 q) (ts2 q) * H q) w0 F0 w2 ∧ (ts2 q)[i]? = some (x.1, y q)) :
    Rets Tryz.prog 24 #[pt rb, .int .u64 p] w fun u w' => u = .bool true ∧ ∃ q : σ, At (RtA rb none 0 (ready2 q) ((ts2 q).set i (x.1, { y q with over := !(y q).said })) * H q) w0 F0 w' ∧ (ts2 q)[i]? = some (x.1, y q) := by
  obtain ⟨F, sb, qb, lv, tv, s, up⟩ := S.rt
  refine (r_step s p hp hl hid hx cap hnext (fun w2 Z2 ready2' ts2' y' => ∃ q : σ, At (RtA rb (some x.1) (rest2 q) (ready2 q) (ts2 q) * H q) w0 F0 w2 ∧ ready2' = ready2 q ∧ ts2' = ts2 q ∧ y' = y q ∧ ∃ F2, Z2 = Zo w2 F2 ∧ ∀ B w', At B w2 F2 w' → At (B * H q) w0 F0 w') (fun w1 lv1 s1 hf1 => ?_)).mono fun u w' h => ?_
  · refine (hcall w1 (up _ _ (RtA.mk s1 hf1))).mono fun _ w2 hq => ?_
    obtain ⟨q, S2, hy⟩ := hq
    obtain ⟨F2, sb2, qb2, lv2, tv2, s2, up2⟩ := S2.rt
    exact ⟨Zo w2 F2, sb2, qb2, lv2, tv2, rest2 q, ready2 q, ts2 q, y q, s2, hy, q, S2, rfl, rfl, rfl, F2, rfl, up2⟩
  · obtain ⟨hu, w2, Z2, sb2, qb2, lv2, tv2, ready2', ts2', y', ⟨q, S2, rfl, rfl, rfl, F2, rfl, up2⟩, hy, s3, hf3⟩ := h
    exact ⟨hu, q, up2 _ _ (RtA.mk s3 hf3), hy⟩
end
end Go.Proofs.YtbaidcnalkdhgaaGreat
set_option maxRecDepth 100000
namespace Go.Proofs.YtbaidcnalkdhgaaGreat
open Go Go.Eng
/-- a queue -/
def QA {α : Type} (Q T sz : Nat) (enc : α → List Value) (qb : Nat) (xs : List α) : Asr := Ex fun v : Value => Pt qb [.bool true, v] Q * Ow T sz enc v xs
instance instLclQA {α : Type} (Q T sz : Nat) (enc : α → List Value) (qb : Nat) (xs : List α) : Lcl (QA Q T sz enc qb xs) := by unfold QA; infer_instance
theorem _root_.Go.Eng.At.qa {α : Type} {Q T sz : Nat} {enc : α → List Value} {qb : Nat} {xs : List α} {R : Asr} {w0 w : World} {F0 : Nat → Prop} [Lcl R] (S : At (QA Q T sz enc qb xs * R) w0 F0 w) : ∃ v, Blk w.heap qb [.bool true, v] Q ∧ Own w.heap T sz enc v xs ∧ v.oneCell' = true ∧
    ∀ lv' xs' w', Fr (fun k => k = qb ∨ own v = some k) w w' → Blk w'.heap qb [.bool true, lv'] Q → Own w'.heap T sz enc lv' xs' → lv'.oneCell' = true → (∀ k, own lv' = some k → own v = some k ∨ w.heap.size ≤ k) → At (QA Q T sz enc qb xs' * R) w0 F0 w' := by
  obtain ⟨v, S⟩ := S.ex
  obtain ⟨_, ⟨_, F2, ⟨F3, F4, ⟨hb, rfl⟩, ⟨ho, h1, rfl⟩, d1, rfl⟩, r, d, rfl⟩, hf, hn⟩ := S.out
  refine ⟨v, hb, ho, h1, fun lv' xs' w' hf' hb' ho' hone hl => ?_⟩
  refine at_step (F1 := fun k => k = qb ∨ own v = some k) r d hf hn ?_
  refine ⟨_, ⟨lv', _, _, ⟨hb', rfl⟩, ⟨ho', hone, rfl⟩, fun k e h => ?_, rfl⟩, hf', fun k hk => ?_⟩
  · subst e
    rcases hl k h with h2 | h2
    · exact d1 k rfl h2
    · have := hb.lt; omega
  · rcases hk with h | h
    · exact .inl (.inl h)
    · exact (hl k h).imp .inr id
/-- a ticket -/
structure TKT where
  b : Nat
  fire : OV
  fired : Bool
def TkA (t : TKT) : Asr := Pt t.b [t.fire.1, .bool t.fired] 175
instance instLclTkA (t : TKT) : Lcl (TkA t) := by unfold TkA; infer_instance
def TksA (ts : List TKT) : Asr := Big (ts.map TkA)
instance instLclTksA (ts : List TKT) : Lcl (TksA ts) := by unfold TksA; infer_instance
def isF (ts : List TKT) (k : Nat) : Bool := ts.any fun t => decide (t.b = k) && t.fired
section
variable {w w' w0 : World} {F F0 : Nat → Prop} {ts : List TKT} {R R' : Asr}
theorem tks_pick {i : Nat} {t : TKT} (h : ts[i]? = some t) : TksA ts = TkA t * TksA (ts.eraseIdx i) := big_map_pick TkA h
theorem tks_put {i : Nat} (t : TKT) (h : i < ts.length) : TksA (ts.set i t) = TkA t * TksA (ts.eraseIdx i) := big_map_put TkA t h
theorem _root_.Go.Eng.At.tk (S : At (TksA ts * R) w0 F0 w) {t : TKT} (ht : t ∈ ts) : Blk w.heap t.b [t.fire.1, .bool t.fired] 175 := by
  obtain ⟨i, hi, e⟩ := List.getElem_of_mem ht
  have h : ts[i]? = some t := by rw [List.getElem?_eq_getElem hi, e]
  exact (S.ac (show _ = TkA t * (TksA (ts.eraseIdx i) * R) by rw [tks_pick h, star_assoc])).blk
theorem _root_.Go.Eng.At.tk' (S : At (TksA ts * R * R') w0 F0 w) {t : TKT} (ht : t ∈ ts) : Blk w.heap t.b [t.fire.1, .bool t.fired] 175 := (S.ac (star_assoc _ _ _)).tk ht
/-- tickets of one block are one ticket -/
theorem _root_.Go.Eng.At.tkF (S : At (TksA ts * R * R') w0 F0 w) : ∀ t ∈ ts, isF ts t.b = t.fired := fun t ht => by
  unfold isF
  cases hf : t.fired with
  | true => exact List.any_eq_true.2 ⟨t, ht, by simp [hf]⟩
  | false =>
    refine List.any_eq_false.2 (fun u hu => ?_)
    by_cases e : u.b = t.b
    · have h1 := S.tk' hu
      have h2 := S.tk' ht
      rw [e] at h1
      have h3 := (h1.inj h2).1
      simp only [List.cons.injEq, Value.bool.injEq, and_true] at h3
      simp [h3.2, hf]
    · simp [e]
end
/-- a channel -/
structure CH where
  cb : Nat
  bq : Nat
  sq : Nat
  rq : Nat
  size : Int
  buf : List Int
  snd : List SE
  rcv : List RE
  closed : Bool
def CH.cleaned (c : CH) (ts : List TKT) : CH := { c with snd := c.snd.filter fun x => !isF ts x.k, rcv := c.rcv.filter fun x => !isF ts x.k }
def chL_i (rb : Nat) (c : CH) : List Value := [pt rb, .int .i64 c.size, pt c.bq, pt c.sq, pt c.rq, .bool c.closed]
def ChA_i (rb : Nat) (c : CH) : Asr := Pt c.cb (chL_i rb c) 148 * (QA 223 3 1 iE c.bq c.buf * (QA 226 154 3 seE c.sq c.snd * QA 229 157 2 reE c.rq c.rcv))
instance instLclChA_i (rb : Nat) (c : CH) : Lcl (ChA_i rb c) := by unfold ChA_i; infer_instance
section
variable {w w' w0 : World} {F F0 : Nat → Prop} {rb : Nat} {c : CH} {ts : List TKT} {R : Asr}
theorem ch_blk_i [Lcl R] (S : At (ChA_i rb c * R) w0 F0 w) : Blk w.heap c.cb (chL_i rb c) 148 :=
  (S.ac (show _ = Pt c.cb (chL_i rb c) 148 * ((QA 223 3 1 iE c.bq c.buf * (QA 226 154 3 seE c.sq c.snd * QA 229 157 2 reE c.rq c.rcv)) * R) by unfold ChA_i; ac_rfl)).blk
theorem ch_buf_i [Lcl R] (S : At (ChA_i rb c * R) w0 F0 w) : ∃ v, Blk w.heap c.bq [.bool true, v] 223 ∧ Own w.heap 3 1 iE v c.buf ∧ v.oneCell' = true ∧ ∀ lv' xs' w', Fr (fun k => k = c.bq ∨ own v = some k) w w' → Blk w'.heap c.bq [.bool true, lv'] 223 → Own w'.heap 3 1 iE lv' xs' → lv'.oneCell' = true → (∀ k, own lv' = some k → own v = some k ∨ w.heap.size ≤ k) → At (ChA_i rb { c with buf := xs' } * R) w0 F0 w' := by
  obtain ⟨v, h1, h2, h3, h4⟩ := (S.ac (show _ = QA 223 3 1 iE c.bq c.buf * (Pt c.cb (chL_i rb c) 148 * (QA 226 154 3 seE c.sq c.snd * QA 229 157 2 reE c.rq c.rcv) * R) by unfold ChA_i; ac_rfl)).qa
  exact ⟨v, h1, h2, h3, fun lv' xs' w' a b d e f => (h4 lv' xs' w' a b d e f).ac (by unfold ChA_i chL_i; ac_rfl)⟩
theorem ch_snd_i [Lcl R] (S : At (ChA_i rb c * R) w0 F0 w) : ∃ v, Blk w.heap c.sq [.bool true, v] 226 ∧ Own w.heap 154 3 seE v c.snd ∧ v.oneCell' = true ∧ ∀ lv' xs' w', Fr (fun k => k = c.sq ∨ own v = some k) w w' → Blk w'.heap c.sq [.bool true, lv'] 226 → Own w'.heap 154 3 seE lv' xs' → lv'.oneCell' = true → (∀ k, own lv' = some k → own v = some k ∨ w.heap.size ≤ k) → At (ChA_i rb { c with snd := xs' } * R) w0 F0 w' := by
  obtain ⟨v, h1, h2, h3, h4⟩ := (S.ac (show _ = QA 226 154 3 seE c.sq c.snd * (Pt c.cb (chL_i rb c) 148 * (QA 223 3 1 iE c.bq c.buf * QA 229 157 2 reE c.rq c.rcv) * R) by unfold ChA_i; ac_rfl)).qa
  exact ⟨v, h1, h2, h3, fun lv' xs' w' a b d e f => (h4 lv' xs' w' a b d e f).ac (by unfold ChA_i chL_i; ac_rfl)⟩
theorem ch_rcv_i [Lcl R] (S : At (ChA_i rb c * R) w0 F0 w) : ∃ v, Blk w.heap c.rq [.bool true, v] 229 ∧ Own w.heap 157 2 reE v c.rcv ∧ v.oneCell' = true ∧ ∀ lv' xs' w', Fr (fun k => k = c.rq ∨ own v = some k) w w' → Blk w'.heap c.rq [.bool true, lv'] 229 → Own w'.heap 157 2 reE lv' xs' → lv'.oneCell' = true → (∀ k, own lv' = some k → own v = some k ∨ w.heap.size ≤ k) → At (ChA_i rb { c with rcv := xs' } * R) w0 F0 w' := by
  obtain ⟨v, h1, h2, h3, h4⟩ := (S.ac (show _ = QA 229 157 2 reE c.rq c.rcv * (Pt c.cb (chL_i rb c) 148 * (QA 223 3 1 iE c.bq c.buf * QA 226 154 3 seE c.sq c.snd) * R) by unfold ChA_i; ac_rfl)).qa
  exact ⟨v, h1, h2, h3, fun lv' xs' w' a b d e f => (h4 lv' xs' w' a b d e f).ac (by unfold ChA_i chL_i; ac_rfl)⟩
theorem ch_right_i (w : World) (c : CH) (rb : Nat) (hb : Blk w.heap c.cb (chL_i rb c) 148) : Rets Tryz.prog 87 #[pt c.cb] w fun u w' => w = w' ∧ u = .bool true := by
  rw [chL_i] at hb
  refine rets_of Tryz.func87 rfl Tryz.ntmps87 rfl rfl (by kernel_rfl) ?_
  (apply vC_seq; apply vC_region; ((apply vL_val); (case h => ((apply opv_E); exact rfl))); apply vL_nil; apply seqP_normal; apply vC_seq; apply vC_region; (iterate 15 (first | ((with_reducible apply vL_val); (case h => ((with_reducible apply opv_E); exact rfl))) | ((with_reducible apply vL_val); (case h => ((with_reducible apply opv_loadb1); exact rfl; exact rfl; assumption; exact rfl))) | ((with_reducible apply vL_val); (case h => ((with_reducible apply opv_fieldAddr); exact rfl))) | ((with_reducible apply vL_val); (case h => ((with_reducible apply opv_neq_pnil); exact rfl; exact rfl; (simp; done)))) | ((with_reducible apply vL_wanted); exact rfl))); apply vL_nil; apply seqP_normal; apply vC_ret)
  (apply ret1; (case h1 => (exact norm_eq rfl)))
  exact ⟨rfl, rfl⟩
theorem clean1_i (x : SE) (t : TKT) (w : World) (hb : Blk w.heap t.b [t.fire.1, .bool t.fired] 175) (hx : x.k = t.b) : Rets Tryz.prog 160 #[.agg (seE x).toArray] w fun u w' => u = .bool t.fired ∧ Fr No w w' := by
  have hxf := x.f.2
  refine rets_of Tryz.func160 rfl Tryz.ntmps160 rfl rfl (by kernel_rfl) ?_
  ((apply vC_seq; apply vC_region)); ((((apply vL_val); (case h => ((apply opw_boxn); exact rfl))); ((apply vL_val); (case h => ((apply opv_E); exact rfl))); apply vL_nil)); with_reducible apply seqP_normal
  ((apply vC_seq; apply vC_region))
  refine vL_gen (fun w' => Fr No w w' ∧ Blk w'.heap w.heap.size (seE x) 154) ⟨by (apply Fr.alloc; exact Fr.refl _ _), Blk.as inferInstance rfl⟩ ?_
  rintro w1 ⟨hf1, h1⟩
  generalize w.heap.size = b1 at h1 ⊢
  have hb1 := hb.frN hf1
  rw [seE, hx] at h1
  ((iterate 6 (first | ((with_reducible apply vL_val); (case h => ((with_reducible apply opv_E); exact rfl))) | ((with_reducible apply vL_val); (case h => ((with_reducible apply opv_loadb1); exact rfl; exact rfl; assumption; exact rfl))) | ((with_reducible apply vL_val); (case h => ((with_reducible apply opv_fieldAddr); exact rfl))))); apply vL_nil; apply seqP_normal; apply vC_ret)
  (apply ret1; (case h1 => (exact norm_eq rfl)))
  exact ⟨rfl, hf1⟩
theorem clean2_i (x : RE) (t : TKT) (w : World) (hb : Blk w.heap t.b [t.fire.1, .bool t.fired] 175) (hx : x.k = t.b) : Rets Tryz.prog 161 #[.agg (reE x).toArray] w fun u w' => u = .bool t.fired ∧ Fr No w w' := by
  have hxf := x.f.2
  refine rets_of Tryz.func161 rfl Tryz.ntmps161 rfl rfl (by kernel_rfl) ?_
  ((apply vC_seq; apply vC_region)); ((((apply vL_val); (case h => ((apply opw_boxn); exact rfl))); ((apply vL_val); (case h => ((apply opv_E); exact rfl))); apply vL_nil)); with_reducible apply seqP_normal
  ((apply vC_seq; apply vC_region))
  refine vL_gen (fun w' => Fr No w w' ∧ Blk w'.heap w.heap.size (reE x) 157) ⟨by (apply Fr.alloc; exact Fr.refl _ _), Blk.as inferInstance rfl⟩ ?_
  rintro w1 ⟨hf1, h1⟩
  generalize w.heap.size = b1 at h1 ⊢
  have hb1 := hb.frN hf1
  rw [reE, hx] at h1
  ((iterate 6 (first | ((with_reducible apply vL_val); (case h => ((with_reducible apply opv_E); exact rfl))) | ((with_reducible apply vL_val); (case h => ((with_reducible apply opv_loadb1); exact rfl; exact rfl; assumption; exact rfl))) | ((with_reducible apply vL_val); (case h => ((with_reducible apply opv_fieldAddr); exact rfl))))); apply vL_nil; apply seqP_normal; apply vC_ret)
  (apply ret1; (case h1 => (exact norm_eq rfl)))
  exact ⟨rfl, hf1⟩
theorem ch_clean_i [Lcl R] (S : At (ChA_i rb c * (TksA ts * R)) w0 F0 w) (h1 : ∀ x ∈ c.snd, ∃ t ∈ ts, x.k = t.b) (h2 : ∀ x ∈ c.rcv, ∃ t ∈ ts, x.k = t.b) :
    Rets Tryz.prog 101 #[pt c.cb] w fun u w' => At (ChA_i rb (c.cleaned ts) * (TksA ts * R)) w0 F0 w' := by
  have hcb := ch_blk_i S
  obtain ⟨v1, b1, o1, n1, up1⟩ := ch_snd_i S
  have htk : ∀ t ∈ ts, Blk w.heap t.b [t.fire.1, .bool t.fired] 175 := fun t ht => S.swap.tk' ht
  have hfin := S.swap.tkF
  rw [chL_i] at hcb
  refine rets_of Tryz.func101 rfl Tryz.ntmps101 rfl rfl (by kernel_rfl) ?_
  (apply vC_seq; apply vC_region; (iterate 2 (((apply vL_val); (case h => ((apply opv_E); exact rfl))))); ((apply vL_val); (case h => ((apply opv_fieldAddr); exact rfl))); ((apply vL_val); (case h => ((apply opv_loadb1); exact rfl; exact rfl; assumption; exact rfl))))
  refine vL_callF rfl (q_drop_snd c.sq v1 (fun x => isF ts x.k) c.snd w 160 [] b1 o1 n1 (fun x w1 hx hf => by
    obtain ⟨t, ht, e⟩ := h1 x hx
    have hb := (htk t ht).fr hf (fun h => Own.ne_blk o1 (htk t ht) (by decide) h)
    rw [e, hfin t ht]
    exact clean1_i x t w1 hb e)) rfl ?_
  rintro _ w1 ⟨lv1, hf1, hb1, ho1, hown1, hone1, rfl⟩
  have S1 := up1 _ _ _ hf1 hb1 ho1 hone1 (fun k hk => .inl (by rw [← hown1]; exact hk))
  have hcb1 := ch_blk_i S1
  obtain ⟨v2, b2, o2, n2, up2⟩ := ch_rcv_i S1
  have htk1 : ∀ t ∈ ts, Blk w1.heap t.b [t.fire.1, .bool t.fired] 175 := fun t ht => S1.swap.tk' ht
  rw [chL_i] at hcb1
  (apply vL_nil; apply seqP_normal; apply vC_region; (iterate 2 (((apply vL_val); (case h => ((apply opv_E); exact rfl))))); ((apply vL_val); (case h => ((apply opv_fieldAddr); exact rfl))); ((apply vL_val); (case h => ((apply opv_loadb1); exact rfl; exact rfl; assumption; exact rfl))))
  refine vL_callF rfl (q_drop_rcv c.rq v2 (fun x => isF ts x.k) c.rcv w1 161 [] b2 o2 n2 (fun x w2 hx hf => by
    obtain ⟨t, ht, e⟩ := h2 x hx
    have hb := (htk1 t ht).fr hf (fun h => Own.ne_blk o2 (htk1 t ht) (by decide) h)
    rw [e, hfin t ht]
    exact clean2_i x t w2 hb e)) rfl ?_
  rintro _ w2 ⟨lv2, hf2, hb2, ho2, hown2, hone2, rfl⟩
  have S2 := up2 _ _ _ hf2 hb2 ho2 hone2 (fun k hk => .inl (by rw [← hown2]; exact hk))
  (apply vL_nil)
  (first | apply ret0 | apply ret0n)
  exact S2
end
end Go.Proofs.YtbaidcnalkdhgaaGreat
set_option maxRecDepth 100000
namespace Go.Proofs.YtbaidcnalkdhgaaGreat
open Go Go.Eng
section
variable {w w' w0 : World} {F F0 : Nat → Prop} {rb : Nat} {c : CH} {ts : List TKT} {R : Asr}
theorem ch_len_i [Lcl R] (S : At (ChA_i rb c * R) w0 F0 w) : Rets Tryz.prog 26 #[pt c.cb] w fun u w' => w = w' ∧ u = .int .i64 c.buf.length := by
  have hcb := ch_blk_i S
  have hr := ch_right_i w c rb hcb
  obtain ⟨v1, b1, o1, n1, up1⟩ := ch_buf_i S
  rw [chL_i] at hcb
  refine rets_of Tryz.func26 rfl Tryz.ntmps26 rfl rfl (by kernel_rfl) ?_
  (apply vC_seq; apply vC_region; ((apply vL_val); (case h => ((apply opv_E); exact rfl))); apply vL_nil; apply seqP_normal; (iterate 2 (apply vC_seq)); apply vC_region; ((apply vL_val); (case h => ((apply opv_E); exact rfl))))
  refine vL_callF rfl (hr) rfl ?_
  rintro _ _ ⟨rfl, rfl⟩
  (((apply vL_val); (case h => ((apply opv_not); exact rfl))); apply vL_nil; apply seqP_normal; ((apply vC_cond_false); exact rfl); apply vC_skip; apply seqP_normal; apply vC_seq; apply vC_region; (iterate 2 (((apply vL_val); (case h => ((apply opv_E); exact rfl))))); ((apply vL_val); (case h => ((apply opv_fieldAddr); exact rfl))); ((apply vL_val); (case h => ((apply opv_loadb1); exact rfl; exact rfl; assumption; exact rfl))))
  refine vL_callF rfl (q_len_int c.bq v1 c.buf w b1 o1) rfl ?_
  rintro _ _ ⟨rfl, rfl⟩
  (((apply vL_val); (case h => ((apply opv_E); exact rfl))); apply vL_nil; apply seqP_normal; apply vC_ret)
  (apply ret1; (case h1 => (exact norm_eq rfl)))
  exact ⟨rfl, rfl⟩
theorem ch_cap_i [Lcl R] (S : At (ChA_i rb c * R) w0 F0 w) : Rets Tryz.prog 81 #[pt c.cb] w fun u w' => w = w' ∧ u = .int .i64 c.size := by
  have hcb := ch_blk_i S
  have hr := ch_right_i w c rb hcb
  rw [chL_i] at hcb
  refine rets_of Tryz.func81 rfl Tryz.ntmps81 rfl rfl (by kernel_rfl) ?_
  (apply vC_seq; apply vC_region; ((apply vL_val); (case h => ((apply opv_E); exact rfl))); apply vL_nil; apply seqP_normal; (iterate 2 (apply vC_seq)); apply vC_region; ((apply vL_val); (case h => ((apply opv_E); exact rfl))))
  refine vL_callF rfl (hr) rfl ?_
  rintro _ _ ⟨rfl, rfl⟩
  (((apply vL_val); (case h => ((apply opv_not); exact rfl))); apply vL_nil; apply seqP_normal; ((apply vC_cond_false); exact rfl); apply vC_skip; apply seqP_normal; apply vC_seq; apply vC_region; (iterate 2 (((apply vL_val); (case h => ((apply opv_E); exact rfl))))); ((apply vL_val); (case h => ((apply opv_fieldAddr); exact rfl))); ((apply vL_val); (case h => ((apply opv_loadb1); exact rfl; exact rfl; assumption; exact rfl))); ((apply vL_val); (case h => ((apply opv_E); exact rfl))); apply vL_nil; apply seqP_normal; apply vC_ret)
  (apply ret1; (case h1 => (exact norm_eq rfl)))
  exact ⟨rfl, rfl⟩
theorem ch_closed_i [Lcl R] (S : At (ChA_i rb c * R) w0 F0 w) : Rets Tryz.prog 31 #[pt c.cb] w fun u w' => w = w' ∧ u = .bool c.closed := by
  have hcb := ch_blk_i S
  have hr := ch_right_i w c rb hcb
  rw [chL_i] at hcb
  refine rets_of Tryz.func31 rfl Tryz.ntmps31 rfl rfl (by kernel_rfl) ?_
  (apply vC_seq; apply vC_region; ((apply vL_val); (case h => ((apply opv_E); exact rfl))); apply vL_nil; apply seqP_normal; apply vC_seq; apply vC_region; ((apply vL_val); (case h => ((apply opv_E); exact rfl))))
  refine vL_callF rfl (hr) rfl ?_
  rintro _ _ ⟨rfl, rfl⟩
  ((iterate 11 (first | ((with_reducible apply vL_val); (case h => ((with_reducible apply opv_E); exact rfl))) | ((with_reducible apply vL_val); (case h => ((with_reducible apply opv_loadb1); exact rfl; exact rfl; assumption; exact rfl))) | ((with_reducible apply vL_val); (case h => ((with_reducible apply opv_fieldAddr); exact rfl))) | ((with_reducible apply vL_wanted); exact rfl))); apply vL_nil; apply seqP_normal; apply vC_ret)
  (apply ret1; (case h1 => (exact norm_eq rfl)))
  exact ⟨rfl, rfl⟩
theorem ch_runtime_i [Lcl R] (S : At (ChA_i rb c * R) w0 F0 w) : Rets Tryz.prog 80 #[pt c.cb] w fun u w' => w = w' ∧ u = pt rb := by
  have hcb := ch_blk_i S
  have hr := ch_right_i w c rb hcb
  rw [chL_i] at hcb
  refine rets_of Tryz.func80 rfl Tryz.ntmps80 rfl rfl (by kernel_rfl) ?_
  (apply vC_seq; apply vC_region; ((apply vL_val); (case h => ((apply opv_E); exact rfl))); apply vL_nil; apply seqP_normal; (iterate 2 (apply vC_seq)); apply vC_region; ((apply vL_val); (case h => ((apply opv_E); exact rfl))))
  refine vL_callF rfl (hr) rfl ?_
  rintro _ _ ⟨rfl, rfl⟩
  (((apply vL_val); (case h => ((apply opv_not); exact rfl))); apply vL_nil; apply seqP_normal; ((apply vC_cond_false); exact rfl); apply vC_skip; apply seqP_normal; apply vC_seq; apply vC_region; (iterate 2 (((apply vL_val); (case h => ((apply opv_E); exact rfl))))); ((apply vL_val); (case h => ((apply opv_fieldAddr); exact rfl))); ((apply vL_val); (case h => ((apply opv_loadb1); exact rfl; exact rfl; assumption; exact rfl))); ((apply vL_val); (case h => ((apply opv_E); exact rfl))); apply vL_nil; apply seqP_normal; apply vC_ret)
  (apply ret1; (case h1 => (exact norm_eq rfl)))
  exact ⟨rfl, rfl⟩
theorem tk_fire [Lcl R] {i : Nat} {t : TKT} (S : At (TksA ts * R) w0 F0 w) (ht : ts[i]? = some t) : At (TksA (ts.set i { t with fired := true }) * R) w0 F0 (w.setRow t.b [t.fire.1, .bool true].toArray) := by
  have hi := (List.getElem?_eq_some_iff.1 ht).1
  have S1 : At (Pt t.b [t.fire.1, .bool t.fired] 175 * (TksA (ts.eraseIdx i) * R)) w0 F0 w := S.ac (by rw [tks_pick ht, star_assoc]; rfl)
  exact (S1.set (cs' := [t.fire.1, .bool true])).ac (by rw [tks_put _ hi, star_assoc]; rfl)
theorem ch_trysend_i [Lcl R] {B : Value → Asr} (v : Int) (h1 : ∀ x ∈ c.snd, ∃ t ∈ ts, x.k = t.b) (h2 : ∀ x ∈ c.rcv, ∃ t ∈ ts, x.k = t.b) (hbig : c.buf.length ≤ 1000)
    (hc : c.closed = true → ∀ h F, (ChA_i rb (c.cleaned ts) * (TksA ts * R)) h F → B (.tuple #[.bool false, .bool true]) h F)
    (hr : c.closed = false → ∀ x r, (c.cleaned ts).rcv = x :: r → ∃ (i : Nat) (t : TKT) (g g2 : FuncId) (cap cap2 : List Value) (Mid End : Asr), ts[i]? = some t ∧ x.k = t.b ∧ Nonempty (FnOk Tryz.prog g) ∧ Nonempty (FnOk Tryz.prog g2) ∧ x.f.1 = .func (.func g) #[] cap.toArray ∧ t.fire.1 = .func (.func g2) #[] cap2.toArray ∧
      Sp Tryz.prog g (.int .i64 v :: .bool true :: cap).toArray (ChA_i rb { c.cleaned ts with rcv := r } * (TksA (ts.set i { t with fired := true }) * R)) (fun _ => Mid) ∧ (∀ h F, Mid h F → Blk h t.b [t.fire.1, .bool true] 175) ∧ Sp Tryz.prog g2 cap2.toArray Mid (fun _ => End) ∧ ∀ h F, End h F → B (.tuple #[.bool true, .bool true]) h F)
    (hf : c.closed = false → (c.cleaned ts).rcv = [] → (c.buf.length : Int) = c.size → ∀ h F, (ChA_i rb (c.cleaned ts) * (TksA ts * R)) h F → B (.tuple #[.bool false, .bool false]) h F)
    (hb : c.closed = false → (c.cleaned ts).rcv = [] → (c.buf.length : Int) ≠ c.size → ∀ h F, (ChA_i rb { c.cleaned ts with buf := c.buf ++ [v] } * (TksA ts * R)) h F → B (.tuple #[.bool true, .bool true]) h F) :
    Sp Tryz.prog 33 #[pt c.cb, .int .i64 v] (ChA_i rb c * (TksA ts * R)) B := by
  intro w F hA
  have S : At (ChA_i rb c * (TksA ts * R)) w F w := At.init hA
  have hr0 := ch_right_i w c rb (ch_blk_i S)
  refine rets_of Tryz.func33 rfl Tryz.ntmps33 rfl rfl (by kernel_rfl) ?_
  (apply vC_seq; apply vC_region; (iterate 2 (((apply vL_val); (case h => ((apply opv_E); exact rfl))))); apply vL_nil; apply seqP_normal; (iterate 2 (apply vC_seq)); apply vC_region; ((apply vL_val); (case h => ((apply opv_E); exact rfl))))
  refine vL_callF rfl (hr0) rfl ?_
  rintro _ _ ⟨rfl, rfl⟩
  (((apply vL_val); (case h => ((apply opv_not); exact rfl))); apply vL_nil; apply seqP_normal; ((apply vC_cond_false); exact rfl); apply vC_skip; apply seqP_normal; apply vC_seq; apply vC_region; ((apply vL_val); (case h => ((apply opv_E); exact rfl))))
  refine vL_callF rfl (ch_clean_i S h1 h2) rfl ?_
  intro _ w1 S1
  have hcb1 := ch_blk_i S1
  rw [chL_i] at hcb1
  have ecl : (c.cleaned ts).closed = c.closed := rfl
  have esz : (c.cleaned ts).size = c.size := rfl
  have ebf : (c.cleaned ts).buf = c.buf := rfl
  generalize hcc : c.cleaned ts = d at *
  have ecb : d.cb = c.cb := by rw [← hcc]; rfl
  rw [ecb, ecl] at hcb1
  cases hcl : c.closed with
  | true =>
    rw [hcl] at hcb1
    (apply vL_nil; apply seqP_normal; (iterate 2 (apply vC_seq)); apply vC_region; (iterate 2 (((apply vL_val); (case h => ((apply opv_E); exact rfl))))); ((apply vL_val); (case h => ((apply opv_fieldAddr); exact rfl))); ((apply vL_val); (case h => ((apply opv_loadb1); exact rfl; exact rfl; assumption; exact rfl))); apply vL_nil; apply seqP_normal; ((apply vC_cond_true); exact rfl); apply vC_seq; apply vC_region; (iterate 2 (((apply vL_val); (case h => ((apply opv_E); exact rfl))))); apply vL_nil; apply seqP_normal; apply vC_ret; apply seqP_ret)
    (apply ret2; (case h1 => (exact norm_eq rfl)); (case h2 => (exact norm_eq rfl)))
    exact S1.weak (hc hcl)
  | false =>
  rw [hcl] at hcb1
  obtain ⟨v2, b2, o2, n2, up2⟩ := ch_rcv_i S1
  (apply vL_nil; apply seqP_normal; (iterate 2 (apply vC_seq)); apply vC_region; (iterate 2 (((apply vL_val); (case h => ((apply opv_E); exact rfl))))); ((apply vL_val); (case h => ((apply opv_fieldAddr); exact rfl))); ((apply vL_val); (case h => ((apply opv_loadb1); exact rfl; exact rfl; assumption; exact rfl))); apply vL_nil; apply seqP_normal; ((apply vC_cond_false); exact rfl); apply vC_skip; apply seqP_normal; (iterate 2 (apply vC_seq)); apply vC_region; (iterate 2 (((apply vL_val); (case h => ((apply opv_E); exact rfl))))); ((apply vL_val); (case h => ((apply opv_fieldAddr); exact rfl))); ((apply vL_val); (case h => ((apply opv_loadb1); exact rfl; exact rfl; assumption; exact rfl))))
  refine vL_callF rfl (q_pop_rcv d.rq v2 d.rcv w1 b2 o2 n2) rfl ?_
  rintro _ w2 ⟨lv', xs', hf2, hb2, ho2, hown2, hone2, ⟨x, hx, rfl⟩ | ⟨hx, rfl, rfl⟩⟩
  · have S2 := up2 _ _ _ hf2 hb2 ho2 hone2 (fun k hk => .inl (by rw [← hown2]; exact hk))
    obtain ⟨i, t, g, g2, cap, cap2, Mid, End, ht, hxk, ⟨hg⟩, ⟨hg2⟩, hfv, hfire, spg, hmid, spf, hB⟩ := hr hcl x xs' hx
    have hxf := x.f.2
    (((iterate 3 (((apply vL_val); (case h => ((apply opv_E); exact rfl))))); ((apply vL_val); (case h => (apply opw_alloc))); ((apply vL_skip); (case h => ((apply ops_storen); exact norm_eq rfl; exact norm_eq rfl; exact rfl; exact (fun u hu => EncOk.one _ u hu); infer_instance; (first | decide | exact of_decide_eq_true rfl | (simp; done))))); ((apply vL_val); (case h => ((apply opv_E); exact rfl))); apply vL_nil)); with_reducible apply seqP_normal
    ((apply vC_seq; apply vC_region))
    refine vL_gen (fun w' => At (Pt w2.heap.size (reE x) 157 * (ChA_i rb { d with rcv := xs' } * (TksA ts * R))) w F w') (S2.new (by (apply Fr.allocSet; exact Fr.refl _ _)) (Blk.as inferInstance rfl) (Nat.le_refl _)) ?_
    intro w3 S3
    generalize w2.heap.size = b6 at S3 ⊢
    have h6 := S3.blk
    have htb := (S3.ac (show _ = TksA ts * (Pt b6 (reE x) 157 * (ChA_i rb { d with rcv := xs' } * R)) by ac_rfl)).tk (List.mem_of_getElem? ht)
    rw [reE, hxk, hfv] at h6
    have ne6 : b6 ≠ t.b := Blk.ne_type h6 htb (by decide)
    haveI : NeB b6 t.b := ⟨ne6⟩
    have htf := t.fire.2
    (((apply vL_val); (case h => ((apply opv_E); exact rfl))); apply vL_nil; apply seqP_normal; ((apply vC_cond_true); exact rfl); apply vC_seq; apply vC_region; ((apply vL_val); (case h => ((apply opv_fieldAddr); exact rfl))); ((apply vL_val); (case h => ((apply opv_loadb1); exact rfl; exact rfl; assumption; exact rfl))); ((apply vL_val); (case h => ((apply opv_E); exact rfl))); ((apply vL_val); (case h => ((apply opv_fieldAddr); exact rfl))); ((apply vL_skip); (case h => ((apply ops_store1); exact norm_eq rfl; exact norm_eq rfl; (first | rfl | assumption); assumption; (first | decide | exact of_decide_eq_true rfl | (simp; done))))); apply vL_nil; apply seqP_normal; apply vC_seq; apply vC_region; ((apply vL_val); (case h => ((apply opv_fieldAddr); exact rfl))); ((apply vL_val); (case h => ((apply opv_loadb1); exact rfl; exact rfl; infer_instance; exact rfl))); ((apply vL_val); (case h => ((apply opv_E); exact rfl))))
    refine vL_gen (fun w' => At (ChA_i rb { d with rcv := xs' } * (TksA (ts.set i { t with fired := true }) * R) * Pt b6 (reE x) 157) w F w') ((tk_fire (S3.ac (show _ = TksA ts * (Pt b6 (reE x) 157 * (ChA_i rb { d with rcv := xs' } * R)) by ac_rfl)) ht).ac (by ac_rfl)) ?_
    intro w4 S4
    have h64 := S4.swap.blk
    rw [reE, hxk, hfv] at h64
    clear h6 htb S3 S2 S1 hcb1 b2 o2 up2 hb2 ho2
    haveI := hg
    haveI := hg2
    skip
    refine vL_callF rfl (spg.at S4) rfl ?_
    intro _ w5 S5
    have h65 := S5.swap.blk
    rw [reE, hxk, hfv] at h65
    obtain ⟨F5, m5⟩ := S5.get
    have htb5 := hmid _ _ m5
    rw [hfire] at htb5
    (apply vL_nil; apply seqP_normal; apply vC_seq; apply vC_region; (iterate 5 (first | ((with_reducible apply vL_val); (case h => ((with_reducible apply opv_E); exact rfl))) | ((with_reducible apply vL_val); (case h => ((with_reducible apply opv_loadb1); exact rfl; exact rfl; assumption; exact rfl))) | ((with_reducible apply vL_val); (case h => ((with_reducible apply opv_fieldAddr); exact rfl))))))
    refine vL_callF rfl (spf.at S5) rfl ?_
    intro _ w6 S6
    (apply vL_nil; apply seqP_normal; apply vC_seq; apply vC_region; (iterate 2 (((apply vL_val); (case h => ((apply opv_E); exact rfl))))); apply vL_nil; apply seqP_normal; apply vC_ret; apply seqP_ret)
    (apply ret2; (case h1 => (exact norm_eq rfl)); (case h2 => (exact norm_eq rfl)))
    exact S6.swap.drop.weak hB
  · have S2 := up2 _ _ _ hf2 hb2 ho2 hone2 (fun k hk => .inl (by rw [← hown2]; exact hk))
    have ed : ({ d with rcv := [] } : CH) = d := by
      cases d; simp only at hx; rw [hx]
    rw [ed] at S2
    (((iterate 3 (((apply vL_val); (case h => ((apply opv_E); exact rfl))))); ((apply vL_val); (case h => (apply opw_alloc))); ((apply vL_skip); (case h => ((apply ops_storen); exact norm_eq rfl; exact norm_eq rfl; exact rfl; (intro u hu; simp at hu; rcases hu with rfl | rfl <;> (first | rfl | assumption)); infer_instance; (first | decide | exact of_decide_eq_true rfl | (simp; done))))); ((apply vL_val); (case h => ((apply opv_E); exact rfl))); apply vL_nil)); with_reducible apply seqP_normal
    ((apply vC_seq; apply vC_region))
    refine vL_gen (fun w' => At (ChA_i rb d * (TksA ts * R)) w F w') (S2.frN (by (apply Fr.allocSet; exact Fr.refl _ _))) ?_
    intro w3 S3
    have hcb3 := ch_blk_i S3
    rw [chL_i, ecb, ecl, hcl, esz] at hcb3
    obtain ⟨v3, b3, o3, n3, up3⟩ := ch_buf_i S3
    rw [ebf] at o3
    (((apply vL_val); (case h => ((apply opv_E); exact rfl))); apply vL_nil; apply seqP_normal; ((apply vC_cond_false); exact rfl); apply vC_skip; apply seqP_normal; (iterate 2 (apply vC_seq)))
    refine vC_draw' (fun wf => Fr No w3 wf) ((Fr.refl No w3).drew) ?_
    ((apply (tk 0)); (case hi => exact rfl); (case hf => kernel_rfl); (case hS => (apply Fr.drew; exact Fr.refl _ _)); (case hy => (intro wf hwf; haveI := From.mk hwf; (((apply opv_E); exact rfl)))))
    ((apply (tk 1)); (case hi => exact rfl); (case hf => kernel_rfl); (case hS => (apply Fr.drew; exact Fr.refl _ _)); (case hy => (intro wf hwf; haveI := From.mk hwf; (((apply opv_E); exact rfl)))))
    ((apply (tk 2)); (case hi => exact rfl); (case hf => kernel_rfl); (case hS => (apply Fr.drew; exact Fr.refl _ _)); (case hy => (intro wf hwf; haveI := From.mk hwf; (((apply opv_fieldAddr); exact rfl)))))
    ((apply (tk 3)); (case hi => exact rfl); (case hf => kernel_rfl); (case hS => (apply Fr.drew; exact Fr.refl _ _)); (case hy => (intro wf hwf; haveI := From.mk hwf; (((apply opv_loadb1); exact rfl; exact rfl; infer_instance; exact rfl)))))
    ((apply (tk 5)); (case hi => exact rfl); (case hf => kernel_rfl); (case hS => (apply Fr.drew; exact Fr.refl _ _)); (case hy => (intro wf hwf; haveI := From.mk hwf; (((apply opv_E); exact rfl)))))
    ((apply (tk 6)); (case hi => exact rfl); (case hf => kernel_rfl); (case hS => (apply Fr.drew; exact Fr.refl _ _)); (case hy => (intro wf hwf; haveI := From.mk hwf; (((apply opv_E); exact rfl)))))
    ((apply (tk 7)); (case hi => exact rfl); (case hf => kernel_rfl); (case hS => (apply Fr.drew; exact Fr.refl _ _)); (case hy => (intro wf hwf; haveI := From.mk hwf; (((apply opv_fieldAddr); exact rfl)))))
    ((apply (tk 8)); (case hi => exact rfl); (case hf => kernel_rfl); (case hS => (apply Fr.drew; exact Fr.refl _ _)); (case hy => (intro wf hwf; haveI := From.mk hwf; (((apply opv_loadb1); exact rfl; exact rfl; infer_instance; exact rfl)))))
    (refine tkc 4 rfl (by kernel_rfl) (by (apply Fr.drew; exact Fr.refl _ _)) rfl (q_len_int d.bq v3 c.buf _ inferInstance inferInstance) rfl ?_)
    rintro _ _ ⟨rfl, rfl⟩
    ((apply (tk 9)); (case hi => exact rfl); (case hf => kernel_rfl); (case hS => (apply Fr.drew; exact Fr.refl _ _)); (case hy => (intro wf hwf; haveI := From.mk hwf; (((apply opv_E); exact rfl)))))
    refine vA_done (by kernel_rfl) (by (first | exact trivial | ((apply Fr.drew; exact Fr.refl _ _); done))) ?_
    refine vC_gen (fun w' => At (ChA_i rb d * (TksA ts * R)) w F w') (S3.frN (by (apply Fr.drew; exact Fr.refl _ _))) ?_
    clear S3 b3 o3 n3 up3 hcb3 S2 S1 hcb1 b2 o2 up2 hb2 ho2
    intro w4 S4
    have hcb4 := ch_blk_i S4
    rw [chL_i, ecb] at hcb4
    by_cases hl : (c.buf.length : Int) = c.size
    · ((refine vC_cond_dec rfl (fun _ => ?_) (fun h => by omega)); apply vC_seq; apply vC_region; (iterate 2 (((apply vL_val); (case h => ((apply opv_E); exact rfl))))); apply vL_nil; apply seqP_normal; apply vC_ret; apply seqP_ret)
      (apply ret2; (case h1 => (exact norm_eq rfl)); (case h2 => (exact norm_eq rfl)))
      exact S4.weak (hf hcl hx hl)
    obtain ⟨v4, b4, o4, n4, up4⟩ := ch_buf_i S4
    rw [ebf] at o4
    ((refine vC_cond_dec rfl (fun h => by omega) (fun _ => ?_)); apply vC_skip; apply seqP_normal; apply vC_seq; apply vC_region; (iterate 2 (((apply vL_val); (case h => ((apply opv_E); exact rfl))))); ((apply vL_val); (case h => ((apply opv_fieldAddr); exact rfl))); ((apply vL_val); (case h => ((apply opv_loadb1); exact rfl; exact rfl; assumption; exact rfl))); ((apply vL_val); (case h => ((apply opv_E); exact rfl))))
    refine vL_callF rfl (q_push_int d.bq v4 v c.buf w4 b4 o4 (by omega)) rfl ?_
    rintro _ w5 ⟨lv5, hf5, hb5, ho5, hl5, hone5⟩
    have S5 := up4 _ _ _ hf5 hb5 ho5 hone5 hl5
    (apply vL_nil; apply seqP_normal; apply vC_seq; apply vC_region; (iterate 2 (((apply vL_val); (case h => ((apply opv_E); exact rfl))))); apply vL_nil; apply seqP_normal; apply vC_ret)
    (apply ret2; (case h1 => (exact norm_eq rfl)); (case h2 => (exact norm_eq rfl)))
    exact S5.weak (hb hcl hx hl)
end
end Go.Proofs.YtbaidcnalkdhgaaGreat
set_option maxRecDepth 100000
namespace Go.Proofs.YtbaidcnalkdhgaaGreat
open Go Go.Eng
def rbuf : List Int → Int → List Int
  | [], _ => []
  | _ :: bs, y => bs ++ [y]
def rval : List Int → Int → Int
  | [], y => y
  | v :: _, _ => v
section
variable {w w' w0 : World} {F F0 : Nat → Prop} {rb : Nat} {c : CH} {ts : List TKT} {R : Asr}
theorem ch_tryrecv_i [Lcl R] {B : Value → Asr} (h1 : ∀ x ∈ c.snd, ∃ t ∈ ts, x.k = t.b) (h2 : ∀ x ∈ c.rcv, ∃ t ∈ ts, x.k = t.b) (hbig : c.buf.length ≤ 1000)
    (hr : ∀ x r, (c.cleaned ts).snd = x :: r → ∃ (i : Nat) (t : TKT) (g g2 : FuncId) (cap cap2 : List Value) (Mid End : Asr), ts[i]? = some t ∧ x.k = t.b ∧ Nonempty (FnOk Tryz.prog g) ∧ Nonempty (FnOk Tryz.prog g2) ∧ x.f.1 = .func (.func g) #[] cap.toArray ∧ t.fire.1 = .func (.func g2) #[] cap2.toArray ∧
      Sp Tryz.prog g (.bool true :: cap).toArray (ChA_i rb { c.cleaned ts with buf := rbuf c.buf x.v, snd := r } * (TksA (ts.set i { t with fired := true }) * R)) (fun _ => Mid) ∧ (∀ h F, Mid h F → Blk h t.b [t.fire.1, .bool true] 175) ∧ Sp Tryz.prog g2 cap2.toArray Mid (fun _ => End) ∧ ∀ h F, End h F → B (.tuple #[.int .i64 (rval c.buf x.v), .bool true, .bool true]) h F)
    (hb : (c.cleaned ts).snd = [] → ∀ h F, (ChA_i rb { c.cleaned ts with buf := c.buf.tail } * (TksA ts * R)) h F → B (.tuple #[.int .i64 (c.buf.headD 0), .bool (!c.buf.isEmpty), .bool (!c.buf.isEmpty || c.closed)]) h F) :
    Sp Tryz.prog 34 #[pt c.cb] (ChA_i rb c * (TksA ts * R)) B := by
  intro w F hA
  have S : At (ChA_i rb c * (TksA ts * R)) w F w := At.init hA
  have hr0 := ch_right_i w c rb (ch_blk_i S)
  refine rets_of Tryz.func34 rfl Tryz.ntmps34 rfl rfl (by kernel_rfl) ?_
  ((iterate 16 (first | with_reducible apply vC_seq | with_reducible apply vC_region | with_reducible apply seqP_normal | ((with_reducible apply vL_val); (case h => ((with_reducible apply opv_E); exact rfl))) | with_reducible apply vL_nil)))
  refine vL_callF rfl (hr0) rfl ?_
  rintro _ _ ⟨rfl, rfl⟩
  (((apply vL_val); (case h => ((apply opv_not); exact rfl))); apply vL_nil; apply seqP_normal; ((apply vC_cond_false); exact rfl); apply vC_skip; apply seqP_normal; apply vC_seq; apply vC_region; ((apply vL_val); (case h => ((apply opv_E); exact rfl))))
  refine vL_callF rfl (ch_clean_i S h1 h2) rfl ?_
  intro _ w1 S1
  have hcb1 := ch_blk_i S1
  rw [chL_i] at hcb1
  have ecl : (c.cleaned ts).closed = c.closed := rfl
  have ebf : (c.cleaned ts).buf = c.buf := rfl
  generalize hcc : c.cleaned ts = d at *
  have ecb : d.cb = c.cb := by rw [← hcc]; rfl
  rw [ecb, ecl] at hcb1
  obtain ⟨v2, b2, o2, n2, up2⟩ := ch_buf_i S1
  rw [ebf] at o2
  (apply vL_nil; apply seqP_normal; apply vC_seq; apply vC_region; (iterate 2 (((apply vL_val); (case h => ((apply opv_E); exact rfl))))); ((apply vL_val); (case h => ((apply opv_fieldAddr); exact rfl))); ((apply vL_val); (case h => ((apply opv_loadb1); exact rfl; exact rfl; assumption; exact rfl))))
  refine vL_callF rfl (q_pop_int d.bq v2 c.buf w1 b2 o2 n2) rfl ?_
  rintro u2 w2 ⟨lv', xs', hf2, hb2, ho2, hown2, hone2, hcase⟩
  have S2 := up2 _ _ _ hf2 hb2 ho2 hone2 (fun k hk => .inl (by rw [← hown2]; exact hk))
  have hcb2 := ch_blk_i S2
  rw [chL_i] at hcb2
  simp only [ecb, ecl] at hcb2
  obtain ⟨v3, b3, o3, n3, up3⟩ := ch_snd_i S2
  have hu2 : u2 = .tuple #[.int .i64 (c.buf.headD 0), .bool (!c.buf.isEmpty)] ∧ xs' = c.buf.tail := by
    rcases hcase with ⟨y, e, rfl⟩ | ⟨e, rfl, rfl⟩
    · rw [e]; exact ⟨rfl, rfl⟩
    · rw [e]; exact ⟨rfl, rfl⟩
  obtain ⟨rfl, rfl⟩ := hu2
  clear hcase S1 hcb1 b2 o2 n2 up2 hb2 ho2
  ((iterate 5 (((apply vL_val); (case h => ((apply opv_E); exact rfl))))); apply vL_nil; apply seqP_normal; apply vC_seq; apply vC_region; (iterate 2 (((apply vL_val); (case h => ((apply opv_E); exact rfl))))); ((apply vL_val); (case h => ((apply opv_fieldAddr); exact rfl))); ((apply vL_val); (case h => ((apply opv_loadb1); exact rfl; exact rfl; assumption; exact rfl))))
  refine vL_callF rfl (q_pop_snd d.sq v3 d.snd w2 b3 o3 n3) rfl ?_
  rintro _ w3 ⟨lv3, ss, hf3, hb3, ho3, hown3, hone3, ⟨x, hx, rfl⟩ | ⟨hx, rfl, rfl⟩⟩
  · have S3 := up3 _ _ _ hf3 hb3 ho3 hone3 (fun k hk => .inl (by rw [← hown3]; exact hk))
    obtain ⟨i, t, g, g2, cap, cap2, Mid, End, ht, hxk, ⟨hg⟩, ⟨hg2⟩, hfv, hfire, spg, hmid, spf, hB⟩ := hr x ss hx
    have hxf := x.f.2
    have htf := t.fire.2
    haveI := hg
    haveI := hg2
    (((iterate 3 (((apply vL_val); (case h => ((apply opv_E); exact rfl))))); ((apply vL_val); (case h => (apply opw_alloc))); ((apply vL_skip); (case h => ((apply ops_storen); exact norm_eq rfl; exact norm_eq rfl; exact rfl; exact (fun u hu => EncOk.one _ u hu); infer_instance; (first | decide | exact of_decide_eq_true rfl | (simp; done))))); ((apply vL_val); (case h => ((apply opv_E); exact rfl))); apply vL_nil)); with_reducible apply seqP_normal
    ((apply vC_seq; apply vC_block; apply vC_seq; apply vC_region))
    refine vL_gen (fun w' => At (Pt w3.heap.size (seE x) 154 * (ChA_i rb { d with buf := c.buf.tail, snd := ss } * (TksA ts * R))) w F w') (S3.new (by (apply Fr.allocSet; exact Fr.refl _ _)) (Blk.as inferInstance rfl) (Nat.le_refl _)) ?_
    intro w4 S4
    generalize w3.heap.size = b8 at S4 ⊢
    have h8 := S4.blk
    rw [seE, hxk, hfv] at h8
    clear S3 S2 b3 o3 n3 up3 hb3 ho3 hcb2
    cases hbf : c.buf with
    | nil =>
      rw [hbf] at S4 spg hB
      have Sx : At (ChA_i rb { d with buf := [], snd := ss } * (Pt b8 (seE x) 154 * (TksA ts * R))) w F w4 := S4.ac (by ac_rfl)
      clear S4
      have htb := (Sx.ac (show _ = TksA ts * (Pt b8 (seE x) 154 * (ChA_i rb { d with buf := [], snd := ss } * R)) by ac_rfl)).tk (List.mem_of_getElem? ht)
      have ne8 : b8 ≠ t.b := Blk.ne_type h8 htb (by decide)
      haveI : NeB b8 t.b := ⟨ne8⟩
      ((iterate 5 (first | ((with_reducible apply vL_val); (case h => ((with_reducible apply opv_E); exact rfl))) | ((with_reducible apply vL_unwanted'); exact rfl; exact rfl))); apply vL_nil; apply seqP_normal; ((apply vC_cond_false); exact rfl); apply vC_seq; apply vC_region; (iterate 2 (((apply vL_val); (case h => ((apply opv_E); exact rfl))))); apply vL_nil; apply seqP_normal; ((apply vC_cond_true); exact rfl); apply vC_region; ((apply vL_val); (case h => ((apply opv_fieldAddr); exact rfl))); ((apply vL_val); (case h => ((apply opv_loadb1); exact rfl; exact rfl; assumption; exact rfl))); (iterate 2 (((apply vL_val); (case h => ((apply opv_E); exact rfl))))); apply vL_nil; apply blockP_normal; apply seqP_normal; (iterate 2 (apply vC_seq)); apply vC_region; ((apply vL_val); (case h => ((apply opv_E); exact rfl))); apply vL_nil; apply seqP_normal; ((apply vC_cond_true); exact rfl); apply vC_seq; apply vC_region; ((apply vL_val); (case h => ((apply opv_fieldAddr); exact rfl))); ((apply vL_val); (case h => ((apply opv_loadb1); exact rfl; exact rfl; assumption; exact rfl))); ((apply vL_val); (case h => ((apply opv_E); exact rfl))); ((apply vL_val); (case h => ((apply opv_fieldAddr); exact rfl))); ((apply vL_skip); (case h => ((apply ops_store1); exact norm_eq rfl; exact norm_eq rfl; (first | rfl | assumption); assumption; (first | decide | exact of_decide_eq_true rfl | (simp; done))))); apply vL_nil; apply seqP_normal; apply vC_seq; apply vC_region; ((apply vL_val); (case h => ((apply opv_fieldAddr); exact rfl))); ((apply vL_val); (case h => ((apply opv_loadb1); exact rfl; exact rfl; infer_instance; exact rfl))))
      refine vL_gen (fun w' => At (ChA_i rb { d with buf := [], snd := ss } * (TksA (ts.set i { t with fired := true }) * R) * Pt b8 (seE x) 154) w F w') ((tk_fire (Sx.ac (show _ = TksA ts * (Pt b8 (seE x) 154 * (ChA_i rb { d with buf := [], snd := ss } * R)) by ac_rfl)) ht).ac (by ac_rfl)) ?_
      intro w6 S6
      have h86 := S6.swap.blk
      rw [seE, hxk, hfv] at h86
      clear htb Sx
      skip
      refine vL_callF rfl (spg.at S6) rfl ?_
      intro _ w7 S7
      have h87 := S7.swap.blk
      rw [seE, hxk, hfv] at h87
      obtain ⟨F7, m7⟩ := S7.get
      have htb7 := hmid _ _ m7
      rw [hfire] at htb7
      (apply vL_nil; apply seqP_normal; apply vC_region; (iterate 5 (first | ((with_reducible apply vL_val); (case h => ((with_reducible apply opv_E); exact rfl))) | ((with_reducible apply vL_val); (case h => ((with_reducible apply opv_loadb1); exact rfl; exact rfl; assumption; exact rfl))) | ((with_reducible apply vL_val); (case h => ((with_reducible apply opv_fieldAddr); exact rfl))))))
      refine vL_callF rfl (spf.at S7) rfl ?_
      intro _ w8 S8
      (apply vL_nil; apply seqP_normal; apply vC_seq)
      (with_reducible apply vC_drawQ); ((iterate 12 (first | ((with_reducible apply vQ_op); (case hi => exact rfl); (case hf => kernel_rfl); (case hS => exact Dr.refl _); (case hy => (intro j; ((with_reducible apply opv_E); exact rfl)))) | ((with_reducible apply vQ_unwanted); (case hi => exact rfl); (case hg => exact rfl); (case hne => exact rfl); (case hf => kernel_rfl); (case hS => exact Dr.refl _)))); ((apply vQ_end); (case hi => exact rfl); (case hf => kernel_rfl); (case hS => exact Dr.refl _)))
      (apply seqP_normal; apply vC_ret)
      (apply ret3; (case h1 => (exact norm_eq rfl)); (case h2 => (exact norm_eq rfl)); (case h3 => (exact norm_eq rfl)))
      exact S8.drew.swap.drop.weak hB
    | cons y bs =>
      rw [hbf] at S4 spg hB
      have hbl : bs.length + 1 ≤ 1000 := by rw [hbf] at hbig; simpa using hbig
      have S4' : At (ChA_i rb { d with buf := bs, snd := ss } * (Pt b8 (seE x) 154 * (TksA ts * R))) w F w4 := S4.ac (by ac_rfl)
      clear S4
      have hcb4 := ch_blk_i S4'
      rw [chL_i] at hcb4
      simp only [ecb, ecl] at hcb4
      ((iterate 6 (first | ((with_reducible apply vL_val); (case h => ((with_reducible apply opv_E); exact rfl))) | ((with_reducible apply vL_wanted); exact rfl))); apply vL_nil; apply seqP_normal; ((apply vC_cond_true); exact rfl))
      refine vC_draw' ((fun wf => Blk wf.heap c.cb [pt rb, .int .i64 d.size, pt d.bq, pt d.sq, pt d.rq, .bool c.closed] 148 ∧ Blk wf.heap b8 [pt t.b, .int .i64 x.v, .func (.func g) #[] cap.toArray] 154)) (by (first | exact trivial | assumption | infer_instance | (refine ⟨?_, ?_⟩ <;> (first | assumption | infer_instance)) | (skip; done))) ?_
      ((apply (tk 0)); (case hi => exact rfl); (case hf => kernel_rfl); (case hS => (first | exact trivial | assumption | infer_instance | (refine ⟨?_, ?_⟩ <;> (first | assumption | infer_instance)) | (skip; done))); (case hy => (rintro wf ⟨hwa, hwb⟩; (((apply opv_E); exact rfl)))))
      ((apply (tk 1)); (case hi => exact rfl); (case hf => kernel_rfl); (case hS => (first | exact trivial | assumption | infer_instance | (refine ⟨?_, ?_⟩ <;> (first | assumption | infer_instance)) | (skip; done))); (case hy => (rintro wf ⟨hwa, hwb⟩; (((apply opv_E); exact rfl)))))
      ((apply (tk 2)); (case hi => exact rfl); (case hf => kernel_rfl); (case hS => (first | exact trivial | assumption | infer_instance | (refine ⟨?_, ?_⟩ <;> (first | assumption | infer_instance)) | (skip; done))); (case hy => (rintro wf ⟨hwa, hwb⟩; (((apply opv_fieldAddr); exact rfl)))))
      ((apply (tk 3)); (case hi => exact rfl); (case hf => kernel_rfl); (case hS => (first | exact trivial | assumption | infer_instance | (refine ⟨?_, ?_⟩ <;> (first | assumption | infer_instance)) | (skip; done))); (case hy => (rintro wf ⟨hwa, hwb⟩; (((apply opv_loadb1); exact rfl; exact rfl; assumption; exact rfl)))))
      ((apply (tk 4)); (case hi => exact rfl); (case hf => kernel_rfl); (case hS => (first | exact trivial | assumption | infer_instance | (refine ⟨?_, ?_⟩ <;> (first | assumption | infer_instance)) | (skip; done))); (case hy => (rintro wf ⟨hwa, hwb⟩; (((apply opv_fieldAddr); exact rfl)))))
      ((apply (tk 5)); (case hi => exact rfl); (case hf => kernel_rfl); (case hS => (first | exact trivial | assumption | infer_instance | (refine ⟨?_, ?_⟩ <;> (first | assumption | infer_instance)) | (skip; done))); (case hy => (rintro wf ⟨hwa, hwb⟩; (((apply opv_loadb1); exact rfl; exact rfl; assumption; exact rfl)))))
      have S4d := S4'.drew
      obtain ⟨v5, b5, o5, n5, up5⟩ := ch_buf_i S4d
      refine tkc 6 rfl (by kernel_rfl) (by (first | exact trivial | assumption | infer_instance | (refine ⟨?_, ?_⟩ <;> (first | assumption | infer_instance)) | (skip; done))) rfl (q_push_int d.bq v5 x.v bs _ b5 o5 (by omega)) rfl ?_
      rintro _ w5 ⟨lv5, hf5, hb5, ho5, hl5, hone5⟩
      have Sx := up5 _ _ _ hf5 hb5 ho5 hone5 hl5
      have hcb5 := ch_blk_i Sx
      rw [chL_i] at hcb5
      simp only [ecb, ecl] at hcb5
      have h85 := (Sx.ac (show _ = Pt b8 (seE x) 154 * (ChA_i rb { d with buf := bs ++ [x.v], snd := ss } * (TksA ts * R)) by ac_rfl)).blk
      rw [seE, hxk, hfv] at h85
      clear S4' S4d b5 o5 n5 up5 hcb4 h8 hf5 hb5 ho5 hl5
      refine vA_done (by kernel_rfl) (by (first | exact trivial | assumption | infer_instance | (refine ⟨?_, ?_⟩ <;> (first | assumption | infer_instance)) | (skip; done))) ?_
      have htb := (Sx.ac (show _ = TksA ts * (Pt b8 (seE x) 154 * (ChA_i rb { d with buf := bs ++ [x.v], snd := ss } * R)) by ac_rfl)).tk (List.mem_of_getElem? ht)
      have ne8 : b8 ≠ t.b := Blk.ne_type h85 htb (by decide)
      haveI : NeB b8 t.b := ⟨ne8⟩
      (apply blockP_normal; apply seqP_normal; (iterate 2 (apply vC_seq)); apply vC_region; ((apply vL_val); (case h => ((apply opv_E); exact rfl))); apply vL_nil; apply seqP_normal; ((apply vC_cond_true); exact rfl); apply vC_seq; apply vC_region; ((apply vL_val); (case h => ((apply opv_fieldAddr); exact rfl))); ((apply vL_val); (case h => ((apply opv_loadb1); exact rfl; exact rfl; assumption; exact rfl))); ((apply vL_val); (case h => ((apply opv_E); exact rfl))); ((apply vL_val); (case h => ((apply opv_fieldAddr); exact rfl))); ((apply vL_skip); (case h => ((apply ops_store1); exact norm_eq rfl; exact norm_eq rfl; (first | rfl | assumption); assumption; (first | decide | exact of_decide_eq_true rfl | (simp; done))))); apply vL_nil; apply seqP_normal; apply vC_seq; apply vC_region; ((apply vL_val); (case h => ((apply opv_fieldAddr); exact rfl))); ((apply vL_val); (case h => ((apply opv_loadb1); exact rfl; exact rfl; infer_instance; exact rfl))))
      refine vL_gen (fun w' => At (ChA_i rb { d with buf := bs ++ [x.v], snd := ss } * (TksA (ts.set i { t with fired := true }) * R) * Pt b8 (seE x) 154) w F w') ((tk_fire (Sx.ac (show _ = TksA ts * (Pt b8 (seE x) 154 * (ChA_i rb { d with buf := bs ++ [x.v], snd := ss } * R)) by ac_rfl)) ht).ac (by ac_rfl)) ?_
      intro w6 S6
      have h86 := S6.swap.blk
      rw [seE, hxk, hfv] at h86
      clear htb Sx
      skip
      refine vL_callF rfl (spg.at S6) rfl ?_
      intro _ w7 S7
      have h87 := S7.swap.blk
      rw [seE, hxk, hfv] at h87
      obtain ⟨F7, m7⟩ := S7.get
      have htb7 := hmid _ _ m7
      rw [hfire] at htb7
      (apply vL_nil; apply seqP_normal; apply vC_region; (iterate 5 (first | ((with_reducible apply vL_val); (case h => ((with_reducible apply opv_E); exact rfl))) | ((with_reducible apply vL_val); (case h => ((with_reducible apply opv_loadb1); exact rfl; exact rfl; assumption; exact rfl))) | ((with_reducible apply vL_val); (case h => ((with_reducible apply opv_fieldAddr); exact rfl))))))
      refine vL_callF rfl (spf.at S7) rfl ?_
      intro _ w8 S8
      (apply vL_nil; apply seqP_normal; apply vC_seq)
      (with_reducible apply vC_drawQ); ((iterate 12 (first | ((with_reducible apply vQ_op); (case hi => exact rfl); (case hf => kernel_rfl); (case hS => exact Dr.refl _); (case hy => (intro j; ((with_reducible apply opv_E); exact rfl)))) | ((with_reducible apply vQ_unwanted); (case hi => exact rfl); (case hg => exact rfl); (case hne => exact rfl); (case hf => kernel_rfl); (case hS => exact Dr.refl _)))); ((apply vQ_end); (case hi => exact rfl); (case hf => kernel_rfl); (case hS => exact Dr.refl _)))
      (apply seqP_normal; apply vC_ret)
      (apply ret3; (case h1 => (exact norm_eq rfl)); (case h2 => (exact norm_eq rfl)); (case h3 => (exact norm_eq rfl)))
      exact S8.drew.swap.drop.weak hB
  · have S3 := up3 _ _ _ hf3 hb3 ho3 hone3 (fun k hk => .inl (by rw [← hown3]; exact hk))
    have ed : ({ d with buf := c.buf.tail, snd := [] } : CH) = { d with buf := c.buf.tail } := by
      cases d; simp only at hx; rw [hx]
    have S3 : At (ChA_i rb { d with buf := c.buf.tail } * (TksA ts * R)) w F w3 := by rw [← ed]; exact S3
    (((iterate 3 (((apply vL_val); (case h => ((apply opv_E); exact rfl))))); ((apply vL_val); (case h => (apply opw_alloc))); ((apply vL_skip); (case h => ((apply ops_storen); exact norm_eq rfl; exact norm_eq rfl; exact rfl; (intro u hu; simp at hu; rcases hu with rfl | rfl | rfl <;> (first | rfl | assumption)); infer_instance; (first | decide | exact of_decide_eq_true rfl | (simp; done))))); ((apply vL_val); (case h => ((apply opv_E); exact rfl))); apply vL_nil)); with_reducible apply seqP_normal
    ((apply vC_seq; apply vC_block; apply vC_seq; apply vC_region))
    refine vL_gen (fun w' => At (ChA_i rb { d with buf := c.buf.tail } * (TksA ts * R)) w F w') (S3.frN (by (apply Fr.allocSet; exact Fr.refl _ _))) ?_
    clear S3 S2 b3 o3 n3 up3 hb3 ho3 hcb2
    intro w4 S4
    have hcb4 := ch_blk_i S4
    rw [chL_i] at hcb4
    simp only [ecb, ecl] at hcb4
    have hB := hb hx
    cases hbf : c.buf with
    | nil =>
      rw [hbf] at hB
      ((iterate 2 (((apply vL_val); (case h => ((apply opv_E); exact rfl))))); ((apply vL_unwanted'); exact rfl; exact rfl); (iterate 25 (first | with_reducible apply vC_seq | with_reducible apply vC_region | with_reducible apply seqP_normal | with_reducible apply vC_skip | with_reducible apply blockP_normal | ((with_reducible apply vC_cond_false); exact rfl) | ((with_reducible apply vL_val); (case h => ((with_reducible apply opv_E); exact rfl))) | with_reducible apply vL_nil)))
      refine vC_draw' (fun wf => Fr No w4 wf) ((Fr.refl No w4).drew) ?_
      ((apply (tk 0)); (case hi => exact rfl); (case hf => kernel_rfl); (case hS => (apply Fr.drew; exact Fr.refl _ _)); (case hy => (intro wf hwf; haveI := From.mk hwf; (((apply opv_E); exact rfl)))))
      ((apply (tk 1)); (case hi => exact rfl); (case hf => kernel_rfl); (case hS => (apply Fr.drew; exact Fr.refl _ _)); (case hy => (intro wf hwf; haveI := From.mk hwf; (((apply opv_E); exact rfl)))))
      ((apply (tk 2)); (case hi => exact rfl); (case hf => kernel_rfl); (case hS => (apply Fr.drew; exact Fr.refl _ _)); (case hy => (intro wf hwf; haveI := From.mk hwf; (((apply opv_E); exact rfl)))))
      ((apply (tk 3)); (case hi => exact rfl); (case hf => kernel_rfl); (case hS => (apply Fr.drew; exact Fr.refl _ _)); (case hy => (intro wf hwf; haveI := From.mk hwf; (((apply opv_E); exact rfl)))))
      ((apply (tkw 4)); (case hi => exact rfl); (case hg => exact rfl); (case hf => kernel_rfl); (case hS => (apply Fr.drew; exact Fr.refl _ _)); (case hy => (intro wf hwf; haveI := From.mk hwf; (((apply opv_E); exact rfl)))))
      ((apply (tkw 5)); (case hi => exact rfl); (case hg => exact rfl); (case hf => kernel_rfl); (case hS => (apply Fr.drew; exact Fr.refl _ _)); (case hy => (intro wf hwf; haveI := From.mk hwf; (((apply opv_E); exact rfl)))))
      ((apply (tkw 6)); (case hi => exact rfl); (case hg => exact rfl); (case hf => kernel_rfl); (case hS => (apply Fr.drew; exact Fr.refl _ _)); (case hy => (intro wf hwf; haveI := From.mk hwf; (((apply opv_fieldAddr); exact rfl)))))
      ((apply (tkw 7)); (case hi => exact rfl); (case hg => exact rfl); (case hf => kernel_rfl); (case hS => (apply Fr.drew; exact Fr.refl _ _)); (case hy => (intro wf hwf; haveI := From.mk hwf; (((apply opv_loadb1); exact rfl; exact rfl; infer_instance; exact rfl)))))
      ((apply (tk 8)); (case hi => exact rfl); (case hf => kernel_rfl); (case hS => (apply Fr.drew; exact Fr.refl _ _)); (case hy => (intro wf hwf; haveI := From.mk hwf; (((apply opv_E); exact rfl)))))
      ((apply (tk 9)); (case hi => exact rfl); (case hf => kernel_rfl); (case hS => (apply Fr.drew; exact Fr.refl _ _)); (case hy => (intro wf hwf; haveI := From.mk hwf; (((apply opv_E); exact rfl)))))
      ((apply (tk 10)); (case hi => exact rfl); (case hf => kernel_rfl); (case hS => (apply Fr.drew; exact Fr.refl _ _)); (case hy => (intro wf hwf; haveI := From.mk hwf; (((apply opv_E); exact rfl)))))
      ((apply (tk 11)); (case hi => exact rfl); (case hf => kernel_rfl); (case hS => (apply Fr.drew; exact Fr.refl _ _)); (case hy => (intro wf hwf; haveI := From.mk hwf; (((apply opv_E); exact rfl)))))
      refine vA_done (by kernel_rfl) (by (first | exact trivial | ((apply Fr.drew; exact Fr.refl _ _); done))) ?_
      (apply seqP_normal; apply vC_ret)
      (apply ret3; (case h1 => (exact norm_eq rfl)); (case h2 => (exact norm_eq rfl)); (case h3 => (exact norm_eq rfl)))
      rw [hbf] at S4
      exact (S4.frN (by (apply Fr.drew; exact Fr.refl _ _))).weak hB
    | cons y bs =>
      rw [hbf] at hB
      ((iterate 2 (((apply vL_val); (case h => ((apply opv_E); exact rfl))))); ((apply vL_wanted); exact rfl); (iterate 26 (first | with_reducible apply vC_seq | with_reducible apply vC_region | with_reducible apply seqP_normal | with_reducible apply vC_skip | with_reducible apply blockP_normal | ((with_reducible apply vC_cond_false); exact rfl) | ((with_reducible apply vL_val); (case h => ((with_reducible apply opv_E); exact rfl))) | with_reducible apply vL_nil)))
      (with_reducible apply vC_drawQ); ((iterate 12 (first | ((with_reducible apply vQ_op); (case hi => exact rfl); (case hf => kernel_rfl); (case hS => exact Dr.refl _); (case hy => (intro j; ((with_reducible apply opv_E); exact rfl)))) | ((with_reducible apply vQ_unwanted); (case hi => exact rfl); (case hg => exact rfl); (case hne => exact rfl); (case hf => kernel_rfl); (case hS => exact Dr.refl _)))); ((apply vQ_end); (case hi => exact rfl); (case hf => kernel_rfl); (case hS => exact Dr.refl _)))
      (apply seqP_normal; apply vC_ret)
      (apply ret3; (case h1 => (exact norm_eq rfl)); (case h2 => (exact norm_eq rfl)); (case h3 => (exact norm_eq rfl)))
      rw [hbf] at S4
      exact (S4.frN (by (apply Fr.drew; exact Fr.refl _ _))).weak hB
end
end Go.Proofs.YtbaidcnalkdhgaaGreat
