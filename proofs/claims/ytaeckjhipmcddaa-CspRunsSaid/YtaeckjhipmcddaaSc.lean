/- The scheduler's calls. -/
import Derived.Test.YtaeckjhipmcddaaSb
set_option maxRecDepth 100000
namespace Go.Proofs.Ytaeckjhipmcddaa
open Go Go.Eng
/-- a scheduler's line -/
structure Sc (w : World) (sb b : Nat) (lv : Value) (xs : List Int) : Prop where
  hs : Blk w.heap sb [.pointer (some ⟨b, 0, none⟩)] 45
  hb : Blk w.heap b [.bool true, lv] 101
  ho : Own w.heap 3 1 iE lv xs
  one : lv.oneCell' = true
theorem Sc.frN {w w' : World} {sb b : Nat} {lv : Value} {xs : List Int} (s : Sc w sb b lv xs) (hf : Fr No w w') : Sc w' sb b lv xs := ⟨s.hs.frN hf, s.hb.frN hf, s.ho.frN hf, s.one⟩
/-- .. after a call -/
structure ScTo (w w' : World) (sb b : Nat) (lv lv' : Value) (xs' : List Int) : Prop where
  fr : Fr (fun k => k = b ∨ own lv = some k) w w'
  sc : Sc w' sb b lv' xs'
  fl : ∀ k, own lv' = some k → own lv = some k ∨ w.heap.size ≤ k
theorem Sc.to {w w' : World} {sb b : Nat} {lv lv' : Value} {xs xs' : List Int} (s : Sc w sb b lv xs) (hf : Fr (fun k => k = b ∨ own lv = some k) w w') (hb : Blk w'.heap b [.bool true, lv'] 101) (ho : Own w'.heap 3 1 iE lv' xs') (hl : ∀ k, own lv' = some k → own lv = some k ∨ w.heap.size ≤ k) (hone : lv'.oneCell' = true) : ScTo w w' sb b lv lv' xs' :=
  ⟨hf, ⟨ob_keep_int hf s.hb s.ho s.hs (by decide) (by decide), hb, ho, hone⟩, hl⟩
theorem Sc.toN {w w' : World} {sb b : Nat} {lv : Value} {xs : List Int} (s : Sc w sb b lv xs) (hf : Fr No w w') : ScTo w w' sb b lv lv xs := ⟨hf.no_any, s.frN hf, fun _ h => .inl h⟩
theorem ScTo.after {w w1 w' : World} {sb b : Nat} {lv lv' : Value} {xs' : List Int} (h : ScTo w1 w' sb b lv lv' xs') (hf : Fr No w w1) : ScTo w w' sb b lv lv' xs' :=
  ⟨hf.no_any.trans h.fr, h.sc, fun k hk => (h.fl k hk).imp id (fun h1 => Nat.le_trans hf.size h1)⟩
structure Ss (w0 w : World) (sb b : Nat) (lv : Value) (xs : List Int) : Prop where
  fr : Fr No w0 w
  sc : Sc w sb b lv xs
  fs : w0.heap.size ≤ sb
  fb : w0.heap.size ≤ b
  fl : ∀ k, own lv = some k → w0.heap.size ≤ k
theorem Ss.to {w0 w w' : World} {sb b : Nat} {lv lv' : Value} {xs xs' : List Int} (s : Ss w0 w sb b lv xs) (h : ScTo w w' sb b lv lv' xs') : Ss w0 w' sb b lv' xs' :=
  ⟨s.fr.trans' h.fr (fun k hk => .inr (by rcases hk with rfl | hk; exact s.fb; exact s.fl k hk)), h.sc, s.fs, s.fb, fun k hk => by
    rcases h.fl k hk with h1 | h1
    · exact s.fl k h1
    · have := s.fr.size; omega⟩
theorem Ss.frN {w0 w w' : World} {sb b : Nat} {lv : Value} {xs : List Int} (s : Ss w0 w sb b lv xs) (hf : Fr No w w') : Ss w0 w' sb b lv xs := s.to (s.sc.toN hf)

def readyE (xs : List Int) (id : Int) : Int := if id < 0 then 2 else if id ∈ xs then 151 else if xs.length = 256 then 5 else 0
def readyL (xs : List Int) (id : Int) : List Int := if id < 0 then xs else if id ∈ xs then xs else if xs.length = 256 then xs else xs ++ [id]
theorem readyL_len {xs : List Int} {id : Int} (h : xs.length ≤ 256) : (readyL xs id).length ≤ 256 := by
  unfold readyL
  split
  · exact h
  · split
    · exact h
    · split
      · exact h
      · simp; omega

theorem s_new (w : World) : Rets Try.prog 10 #[] w fun u w' => ∃ sb b lv, u = .pointer (some ⟨sb, 0, none⟩) ∧ Ss w w' sb b lv [] := by
  refine rets_of Try.func10 rfl Try.ntmps10 rfl rfl (by kernel_rfl) ?_
  (apply vC_seq; apply vC_region; ((apply vL_val); (case h => ((apply opv_E); exact rfl))); apply vL_nil; apply seqP_normal; apply vC_seq; apply vC_region)
  refine vL_callF rfl (q_of_int _ [] w (Rd.nil _ _ _) (by decide)) rfl ?_
  rintro _ w1 ⟨hf1, b, lv, rfl, hb0, hb, ho, hl, hone⟩
  (((apply vL_val); (case h => ((apply opv_buildS); exact rfl; (first | exact (rfl : _ = some []) | exact (rfl : _ = some [_]) | exact (rfl : _ = some [_, _]) | exact (rfl : _ = some [_, _, _]) | exact (rfl : _ = some [_, _, _, _]) | exact (rfl : _ = some [_, _, _, _, _]) | exact (rfl : _ = some [_, _, _, _, _, _]) | exact (rfl : _ = some [_, _, _, _, _, _, _]) | exact (rfl : _ = some [_, _, _, _, _, _, _, _]) | exact (rfl : _ = some [_, _, _, _, _, _, _, _, _]) | exact (rfl : _ = some [_, _, _, _, _, _, _, _, _, _]) | exact (rfl : _ = some [_, _, _, _, _, _, _, _, _, _, _]) | exact (rfl : _ = some [_, _, _, _, _, _, _, _, _, _, _, _]) | exact (rfl : _ = some [_, _, _, _, _, _, _, _, _, _, _, _, _]) | exact (rfl : _ = some [_, _, _, _, _, _, _, _, _, _, _, _, _, _]) | exact (rfl : _ = some [_, _, _, _, _, _, _, _, _, _, _, _, _, _, _]) | exact (rfl : _ = some [_, _, _, _, _, _, _, _, _, _, _, _, _, _, _, _]))))); ((apply vL_val); (case h => ((apply opw_boxn); exact rfl))); ((apply vL_val); (case h => ((apply opv_E); exact rfl))); apply vL_nil; apply seqP_normal; apply vC_ret)
  (apply ret1; (case h1 => (first | exact norm_eq rfl | ((conv => lhs; whnf) <;> exact rfl))))
  exact ⟨_, b, lv, rfl, hf1.alloc _, ⟨inferInstance, inferInstance, inferInstance, hone⟩, hf1.size, hb0, hl⟩
theorem s_list (sb b : Nat) (lv : Value) (xs : List Int) (w : World) (s : Sc w sb b lv xs) (hbig : xs.length ≤ 256) :
    Rets Try.prog 18 #[.pointer (some ⟨sb, 0, none⟩)] w fun u w' => Fr No w w' ∧ Own w'.heap 3 1 iE u xs ∧ (∀ b, own u = some b → w.heap.size ≤ b) ∧ u.oneCell' = true := by
  have hs := s.hs
  refine rets_of Try.func18 rfl Try.ntmps18 rfl rfl (by kernel_rfl) ?_
  (apply vC_seq; apply vC_region; ((apply vL_val); (case h => ((apply opv_E); exact rfl))); apply vL_nil; apply seqP_normal; (iterate 2 (apply vC_seq)); apply vC_region; ((apply vL_val); (case h => ((apply opv_E); exact rfl))); ((apply vL_val); (case h => ((apply opv_eql_pnil); exact rfl; exact rfl; (simp; done)))); apply vL_nil; apply seqP_normal; ((apply vC_cond_false); exact rfl); apply vC_skip; apply seqP_normal; apply vC_seq; apply vC_region; (iterate 2 (((apply vL_val); (case h => ((apply opv_E); exact rfl))))); ((apply vL_val); (case h => ((apply opv_fieldAddr); exact rfl))); ((apply vL_val); (case h => ((apply opv_loadb1); exact rfl; exact rfl; (first | assumption | infer_instance); exact rfl))))
  refine vL_callF rfl (q_list_int b lv xs w s.hb s.ho (by omega)) rfl ?_
  rintro u w1 ⟨hf1, ho1, hfresh1, hone⟩
  (((apply vL_val); (case h => ((apply opv_assign); ((conv => lhs; whnf) <;> exact rfl)))); apply vL_nil; apply seqP_normal; apply vC_ret)
  (apply ret1; (case h1 => (first | exact norm_eq rfl | ((conv => lhs; whnf) <;> exact rfl))))
  exact ⟨hf1, ho1, hfresh1, hone⟩
theorem s_len (sb b : Nat) (lv : Value) (xs : List Int) (w : World) (s : Sc w sb b lv xs) :
    Rets Try.prog 19 #[.pointer (some ⟨sb, 0, none⟩)] w fun u w' => w = w' ∧ u = .int .i64 xs.length := by
  have hs := s.hs
  refine rets_of Try.func19 rfl Try.ntmps19 rfl rfl (by kernel_rfl) ?_
  (apply vC_seq; apply vC_region; ((apply vL_val); (case h => ((apply opv_E); exact rfl))); apply vL_nil; apply seqP_normal; (iterate 2 (apply vC_seq)); apply vC_region; ((apply vL_val); (case h => ((apply opv_E); exact rfl))); ((apply vL_val); (case h => ((apply opv_eql_pnil); exact rfl; exact rfl; (simp; done)))); apply vL_nil; apply seqP_normal; ((apply vC_cond_false); exact rfl); apply vC_skip; apply seqP_normal; apply vC_seq; apply vC_region; (iterate 2 (((apply vL_val); (case h => ((apply opv_E); exact rfl))))); ((apply vL_val); (case h => ((apply opv_fieldAddr); exact rfl))); ((apply vL_val); (case h => ((apply opv_loadb1); exact rfl; exact rfl; (first | assumption | infer_instance); exact rfl))))
  refine vL_callF rfl (q_len_int b lv xs w s.hb s.ho) rfl ?_
  rintro _ _ ⟨rfl, rfl⟩
  (((apply vL_val); (case h => ((apply opv_E); exact rfl))); apply vL_nil; apply seqP_normal; apply vC_ret)
  (apply ret1; (case h1 => (first | exact norm_eq rfl | ((conv => lhs; whnf) <;> exact rfl))))
  exact ⟨rfl, rfl⟩
theorem s_ready (sb b : Nat) (lv : Value) (xs : List Int) (id : Int) (w : World) (s : Sc w sb b lv xs) (hbig : xs.length ≤ 256) :
    Rets Try.prog 12 #[.pointer (some ⟨sb, 0, none⟩), .int .i64 id] w fun u w' => u = .int .i64 (readyE xs id) ∧ ∃ lv', ScTo w w' sb b lv lv' (readyL xs id) := by
  have hs := s.hs
  unfold readyE readyL
  refine rets_of Try.func12 rfl Try.ntmps12 rfl rfl (by kernel_rfl) ?_
  (apply vC_seq; apply vC_region; ((apply vL_val); (case h => ((apply opv_E); exact rfl))); apply vL_nil; apply seqP_normal; apply vC_seq; apply vC_block; apply vC_seq; apply vC_region; ((apply vL_val); (case h => ((apply opv_E); exact rfl))); ((apply vL_val); (case h => ((apply opv_eql_pnil); exact rfl; exact rfl; (simp; done)))); ((apply vL_val); (case h => ((apply opv_E); exact rfl))); ((apply vL_wanted); exact rfl); ((apply vL_val); (case h => ((apply opv_E); exact rfl))); ((apply vL_wanted); exact rfl); ((apply vL_val); (case h => ((apply opv_E); exact rfl))); ((apply vL_wanted); exact rfl); ((apply vL_val); (case h => ((apply opv_fieldAddr); exact rfl))); ((apply vL_wanted); exact rfl); ((apply vL_val); (case h => ((apply opv_loadb1); exact rfl; exact rfl; (first | assumption | infer_instance); exact rfl))); ((apply vL_wanted); exact rfl); ((apply vL_val); (case h => ((apply opv_eql_pnil); exact rfl; exact rfl; (simp; done)))); (iterate 2 (((apply vL_val); (case h => ((apply opv_E); exact rfl))))); apply vL_nil; apply seqP_normal; ((apply vC_cond_false); exact rfl); apply vC_seq; apply vC_region; (iterate 3 (((apply vL_val); (case h => ((apply opv_E); exact rfl))))); apply vL_nil; apply seqP_normal)
  refine vC_cond_dec rfl (fun h0 => ?_) (fun h0 => ?_)
  · (apply vC_seq; apply vC_region; ((apply vL_val); (case h => ((apply opv_E); exact rfl))); apply vL_nil; apply seqP_normal; apply vC_ret; apply blockP_ret; apply seqP_ret)
    (apply ret1; (case h1 => (first | exact norm_eq rfl | ((conv => lhs; whnf) <;> exact rfl))))
    rw [if_pos h0, if_pos h0]
    exact ⟨rfl, lv, s.toN (Fr.refl _ _)⟩
  rw [if_neg h0, if_neg h0]
  (apply vC_seq; apply vC_region; ((apply vL_val); (case h => ((apply opv_E); exact rfl))))
  refine vL_callF rfl (s_list sb b lv xs w s hbig) rfl ?_
  rintro u w1 ⟨hf1, ho1, hfresh1, hone⟩
  (((apply vL_val); (case h => ((apply opv_E); exact rfl))))
  refine vL_callF rfl (contains_int u xs id w1 ho1.rd) rfl ?_
  rintro _ _ ⟨rfl, rfl⟩
  (((apply vL_val); (case h => ((apply opv_E); exact rfl))); apply vL_nil; apply seqP_normal)
  refine vC_cond_dec rfl (fun h1 => ?_) (fun h1 => ?_)
  · (apply vC_seq; apply vC_region; ((apply vL_val); (case h => ((apply opv_E); exact rfl))); apply vL_nil; apply seqP_normal; apply vC_ret; apply blockP_ret; apply seqP_ret)
    (apply ret1; (case h1 => (first | exact norm_eq rfl | ((conv => lhs; whnf) <;> exact rfl))))
    rw [if_pos h1, if_pos h1]
    exact ⟨rfl, lv, s.toN hf1⟩
  rw [if_neg h1, if_neg h1]
  have s1 := s.frN hf1
  have hs1 := s1.hs
  (apply vC_seq; apply vC_region; ((apply vL_val); (case h => ((apply opv_E); exact rfl))))
  refine vL_callF rfl (s_len sb b lv xs w1 s1) rfl ?_
  rintro _ _ ⟨rfl, rfl⟩
  ((iterate 2 (((apply vL_val); (case h => ((apply opv_E); exact rfl))))); apply vL_nil; apply seqP_normal)
  refine vC_cond_dec rfl (fun h2 => ?_) (fun h2 => ?_)
  · (apply vC_seq; apply vC_region; ((apply vL_val); (case h => ((apply opv_E); exact rfl))); apply vL_nil; apply seqP_normal; apply vC_ret; apply blockP_ret; apply seqP_ret)
    (apply ret1; (case h1 => (first | exact norm_eq rfl | ((conv => lhs; whnf) <;> exact rfl))))
    rw [if_pos (by omega), if_pos (by omega)]
    exact ⟨rfl, lv, s.toN hf1⟩
  rw [if_neg (by omega), if_neg (by omega)]
  (apply vC_skip; apply blockP_normal; apply seqP_normal; apply vC_seq; apply vC_region; (iterate 2 (((apply vL_val); (case h => ((apply opv_E); exact rfl))))); ((apply vL_val); (case h => ((apply opv_fieldAddr); exact rfl))); ((apply vL_val); (case h => ((apply opv_loadb1); exact rfl; exact rfl; (first | assumption | infer_instance); exact rfl))); ((apply vL_val); (case h => ((apply opv_E); exact rfl))))
  refine vL_callF rfl (q_push_int b lv id xs w1 s1.hb s1.ho (by omega)) rfl ?_
  rintro _ w2 ⟨lv2, hf, hb, ho, hl, hone2⟩
  (apply vL_nil; apply seqP_normal; apply vC_seq; apply vC_region; ((apply vL_val); (case h => ((apply opv_E); exact rfl))); apply vL_nil; apply seqP_normal; apply vC_ret)
  (apply ret1; (case h1 => (first | exact norm_eq rfl | ((conv => lhs; whnf) <;> exact rfl))))
  exact ⟨rfl, lv2, (s1.to hf hb ho hl hone2).after hf1⟩
theorem s_pick (sb b : Nat) (lv : Value) (xs : List Int) (p : Int) (w : World) (s : Sc w sb b lv xs) (hbig : xs.length ≤ 256) (hp : 0 ≤ p ∧ p ≤ 18446744073709551615) :
    Rets Try.prog 14 #[.pointer (some ⟨sb, 0, none⟩), .int .u64 p] w fun u w' =>
      (xs = [] ∧ u = .tuple #[.int .i64 0, .int .u64 0, .bool false] ∧ w = w') ∨
      ∃ (x : Int) (lv' : Value), xs[(p % xs.length).toNat]? = some x ∧ u = .tuple #[.int .i64 x, .int .u64 (p / xs.length), .bool true] ∧ ScTo w w' sb b lv lv' (without xs (p % xs.length)) := by
  have hs := s.hs
  refine rets_of Try.func14 rfl Try.ntmps14 rfl rfl (by kernel_rfl) ?_
  (apply vC_seq; apply vC_region; (iterate 3 (((apply vL_val); (case h => ((apply opv_E); exact rfl))))); apply vL_nil; apply seqP_normal; apply vC_seq; apply vC_region; ((apply vL_val); (case h => ((apply opv_E); exact rfl))))
  refine vL_callF rfl (s_len sb b lv xs w s) rfl ?_
  rintro _ _ ⟨rfl, rfl⟩
  (((apply vL_val); (case h => ((apply opv_conv_u); exact rfl; (first | omega | (simp only [List.length_map]; omega))))); ((apply vL_val); (case h => ((apply opv_E); exact rfl))); apply vL_nil; apply seqP_normal; (iterate 2 (apply vC_seq)); apply vC_region; (iterate 2 (((apply vL_val); (case h => ((apply opv_E); exact rfl))))); apply vL_nil; apply seqP_normal)
  refine vC_cond_dec rfl (fun h0 => ?_) (fun h0 => ?_)
  · (apply vC_seq; apply vC_region; (iterate 3 (((apply vL_val); (case h => ((apply opv_E); exact rfl))))); apply vL_nil; apply seqP_normal; apply vC_ret; apply seqP_ret)
    (apply ret3; (case h1 => (first | exact norm_eq rfl | ((conv => lhs; whnf) <;> exact rfl))); (case h2 => (first | exact norm_eq rfl | ((conv => lhs; whnf) <;> exact rfl))); (case h3 => (first | exact norm_eq rfl | ((conv => lhs; whnf) <;> exact rfl))))
    exact .inl ⟨List.eq_nil_of_length_eq_zero (by omega), rfl, rfl⟩
  (apply vC_skip; apply seqP_normal; apply vC_seq)
  have hm0 := Int.emod_nonneg p (b := (xs.length : Int)) (by omega)
  have hm1 := Int.emod_lt_of_pos p (b := (xs.length : Int)) (by omega)
  refine vC_draw' ((fun wf => Blk wf.heap sb [.pointer (some ⟨b, 0, none⟩)] 45)) (by (first | exact trivial | assumption | infer_instance | ((repeat (first | exact Fr.refl _ _ | assumption | with_reducible apply Fr.allocSet | with_reducible apply Fr.alloc | with_reducible apply Fr.drewN | with_reducible apply Fr.drew | ((with_reducible apply Fr.set); rotate_left; (right; ((try simp only [alloc_size]); omega))) | (refine Fr.trans ?_ (by assumption)))); done))) ?_
  ((apply (tk 0)); (case hi => exact rfl); (case hf => kernel_rfl); (case hS => (first | exact trivial | assumption | infer_instance | ((repeat (first | exact Fr.refl _ _ | assumption | with_reducible apply Fr.allocSet | with_reducible apply Fr.alloc | with_reducible apply Fr.drewN | with_reducible apply Fr.drew | ((with_reducible apply Fr.set); rotate_left; (right; ((try simp only [alloc_size]); omega))) | (refine Fr.trans ?_ (by assumption)))); done))); (case hy => (intro wf hwf; (try dsimp only at hwf); (((apply opv_E); exact rfl)))))
  ((apply (tk 1)); (case hi => exact rfl); (case hf => kernel_rfl); (case hS => (first | exact trivial | assumption | infer_instance | ((repeat (first | exact Fr.refl _ _ | assumption | with_reducible apply Fr.allocSet | with_reducible apply Fr.alloc | with_reducible apply Fr.drewN | with_reducible apply Fr.drew | ((with_reducible apply Fr.set); rotate_left; (right; ((try simp only [alloc_size]); omega))) | (refine Fr.trans ?_ (by assumption)))); done))); (case hy => (intro wf hwf; (try dsimp only at hwf); (((apply opv_E); exact rfl)))))
  ((apply (tk 2)); (case hi => exact rfl); (case hf => kernel_rfl); (case hS => (first | exact trivial | assumption | infer_instance | ((repeat (first | exact Fr.refl _ _ | assumption | with_reducible apply Fr.allocSet | with_reducible apply Fr.alloc | with_reducible apply Fr.drewN | with_reducible apply Fr.drew | ((with_reducible apply Fr.set); rotate_left; (right; ((try simp only [alloc_size]); omega))) | (refine Fr.trans ?_ (by assumption)))); done))); (case hy => (intro wf hwf; (try dsimp only at hwf); (((apply opv_fieldAddr); exact rfl)))))
  ((apply (tk 3)); (case hi => exact rfl); (case hf => kernel_rfl); (case hS => (first | exact trivial | assumption | infer_instance | ((repeat (first | exact Fr.refl _ _ | assumption | with_reducible apply Fr.allocSet | with_reducible apply Fr.alloc | with_reducible apply Fr.drewN | with_reducible apply Fr.drew | ((with_reducible apply Fr.set); rotate_left; (right; ((try simp only [alloc_size]); omega))) | (refine Fr.trans ?_ (by assumption)))); done))); (case hy => (intro wf hwf; (try dsimp only at hwf); (((apply opv_loadb1); exact rfl; exact rfl; (first | assumption | infer_instance); exact rfl)))))
  ((apply (tk 4)); (case hi => exact rfl); (case hf => kernel_rfl); (case hS => (first | exact trivial | assumption | infer_instance | ((repeat (first | exact Fr.refl _ _ | assumption | with_reducible apply Fr.allocSet | with_reducible apply Fr.alloc | with_reducible apply Fr.drewN | with_reducible apply Fr.drew | ((with_reducible apply Fr.set); rotate_left; (right; ((try simp only [alloc_size]); omega))) | (refine Fr.trans ?_ (by assumption)))); done))); (case hy => (intro wf hwf; (try dsimp only at hwf); (((apply opv_E); exact rfl)))))
  ((apply (tk 5)); (case hi => exact rfl); (case hf => kernel_rfl); (case hS => (first | exact trivial | assumption | infer_instance | ((repeat (first | exact Fr.refl _ _ | assumption | with_reducible apply Fr.allocSet | with_reducible apply Fr.alloc | with_reducible apply Fr.drewN | with_reducible apply Fr.drew | ((with_reducible apply Fr.set); rotate_left; (right; ((try simp only [alloc_size]); omega))) | (refine Fr.trans ?_ (by assumption)))); done))); (case hy => (intro wf hwf; (try dsimp only at hwf); (((apply opv_E); exact rfl)))))
  ((apply (tk 6)); (case hi => exact rfl); (case hf => kernel_rfl); (case hS => (first | exact trivial | assumption | infer_instance | ((repeat (first | exact Fr.refl _ _ | assumption | with_reducible apply Fr.allocSet | with_reducible apply Fr.alloc | with_reducible apply Fr.drewN | with_reducible apply Fr.drew | ((with_reducible apply Fr.set); rotate_left; (right; ((try simp only [alloc_size]); omega))) | (refine Fr.trans ?_ (by assumption)))); done))); (case hy => (intro wf hwf; (try dsimp only at hwf); (((apply opv_rem); exact rfl; exact rfl; (first | omega | (simp only [List.length_map]; omega)); (first | omega | (simp only [List.length_map]; omega)))))))
  ((apply (tk 7)); (case hi => exact rfl); (case hf => kernel_rfl); (case hS => (first | exact trivial | assumption | infer_instance | ((repeat (first | exact Fr.refl _ _ | assumption | with_reducible apply Fr.allocSet | with_reducible apply Fr.alloc | with_reducible apply Fr.drewN | with_reducible apply Fr.drew | ((with_reducible apply Fr.set); rotate_left; (right; ((try simp only [alloc_size]); omega))) | (refine Fr.trans ?_ (by assumption)))); done))); (case hy => (intro wf hwf; (try dsimp only at hwf); (((apply opv_conv_i); exact rfl; (first | omega | (simp only [List.length_map]; omega)))))))
  (refine tkc 8 rfl (by kernel_rfl) (by (first | exact trivial | assumption | infer_instance | ((repeat (first | exact Fr.refl _ _ | assumption | with_reducible apply Fr.allocSet | with_reducible apply Fr.alloc | with_reducible apply Fr.drewN | with_reducible apply Fr.drew | ((with_reducible apply Fr.set); rotate_left; (right; ((try simp only [alloc_size]); omega))) | (refine Fr.trans ?_ (by assumption)))); done))) rfl (q_take_int b lv (p % xs.length) xs _ (s.hb.frN ((Fr.refl No w).drew)) (s.ho.frN ((Fr.refl No w).drew)) s.one) rfl ?_)
  rintro _ w1 ⟨lv1, xs1, hf, hb, ho, hl, hone, ⟨x, _, hx, rfl, rfl⟩ | ⟨hbad, _⟩⟩
  rotate_left
  · omega
  have s1 := (s.frN ((Fr.refl No w).drew)).to hf hb ho (fun k hk => .inl (hl ▸ hk)) hone
  have hs1 := s1.sc.hs
  ((apply (tk 9)); (case hi => exact rfl); (case hf => kernel_rfl); (case hS => (first | exact trivial | assumption | infer_instance | ((repeat (first | exact Fr.refl _ _ | assumption | with_reducible apply Fr.allocSet | with_reducible apply Fr.alloc | with_reducible apply Fr.drewN | with_reducible apply Fr.drew | ((with_reducible apply Fr.set); rotate_left; (right; ((try simp only [alloc_size]); omega))) | (refine Fr.trans ?_ (by assumption)))); done))); (case hy => (intro wf hwf; (try dsimp only at hwf); (((apply opv_E); exact rfl)))))
  ((apply (tk 10)); (case hi => exact rfl); (case hf => kernel_rfl); (case hS => (first | exact trivial | assumption | infer_instance | ((repeat (first | exact Fr.refl _ _ | assumption | with_reducible apply Fr.allocSet | with_reducible apply Fr.alloc | with_reducible apply Fr.drewN | with_reducible apply Fr.drew | ((with_reducible apply Fr.set); rotate_left; (right; ((try simp only [alloc_size]); omega))) | (refine Fr.trans ?_ (by assumption)))); done))); (case hy => (intro wf hwf; (try dsimp only at hwf); (((apply opv_E); exact rfl)))))
  ((apply (tk 11)); (case hi => exact rfl); (case hf => kernel_rfl); (case hS => (first | exact trivial | assumption | infer_instance | ((repeat (first | exact Fr.refl _ _ | assumption | with_reducible apply Fr.allocSet | with_reducible apply Fr.alloc | with_reducible apply Fr.drewN | with_reducible apply Fr.drew | ((with_reducible apply Fr.set); rotate_left; (right; ((try simp only [alloc_size]); omega))) | (refine Fr.trans ?_ (by assumption)))); done))); (case hy => (intro wf hwf; (try dsimp only at hwf); (((apply opv_E); exact rfl)))))
  ((apply (tk 12)); (case hi => exact rfl); (case hf => kernel_rfl); (case hS => (first | exact trivial | assumption | infer_instance | ((repeat (first | exact Fr.refl _ _ | assumption | with_reducible apply Fr.allocSet | with_reducible apply Fr.alloc | with_reducible apply Fr.drewN | with_reducible apply Fr.drew | ((with_reducible apply Fr.set); rotate_left; (right; ((try simp only [alloc_size]); omega))) | (refine Fr.trans ?_ (by assumption)))); done))); (case hy => (intro wf hwf; (try dsimp only at hwf); (((apply opv_E); exact rfl)))))
  ((apply (tk 13)); (case hi => exact rfl); (case hf => kernel_rfl); (case hS => (first | exact trivial | assumption | infer_instance | ((repeat (first | exact Fr.refl _ _ | assumption | with_reducible apply Fr.allocSet | with_reducible apply Fr.alloc | with_reducible apply Fr.drewN | with_reducible apply Fr.drew | ((with_reducible apply Fr.set); rotate_left; (right; ((try simp only [alloc_size]); omega))) | (refine Fr.trans ?_ (by assumption)))); done))); (case hy => (intro wf hwf; (try dsimp only at hwf); (((apply opv_E); exact rfl)))))
  refine vA_done (by kernel_rfl) (by (first | exact trivial | assumption | infer_instance | ((repeat (first | exact Fr.refl _ _ | assumption | with_reducible apply Fr.allocSet | with_reducible apply Fr.alloc | with_reducible apply Fr.drewN | with_reducible apply Fr.drew | ((with_reducible apply Fr.set); rotate_left; (right; ((try simp only [alloc_size]); omega))) | (refine Fr.trans ?_ (by assumption)))); done))) ?_
  (apply seqP_normal; apply vC_seq)
  (with_reducible apply vC_drawQ); ((iterate 3 (((apply vQ_op); (case hi => exact rfl); (case hf => kernel_rfl); (case hS => (first | exact Dr.refl _ | assumption | exact ⟨_, rfl⟩)); (case hy => (intro j; ((apply opv_E); exact rfl)))))); ((apply vQ_op); (case hi => exact rfl); (case hf => kernel_rfl); (case hS => (first | exact Dr.refl _ | assumption | exact ⟨_, rfl⟩)); (case hy => (intro j; ((apply opv_quou); exact rfl; exact rfl; (first | omega | (simp only [List.length_map]; omega)); (first | omega | (simp only [List.length_map]; omega)))))); (iterate 4 (((apply vQ_op); (case hi => exact rfl); (case hf => kernel_rfl); (case hS => (first | exact Dr.refl _ | assumption | exact ⟨_, rfl⟩)); (case hy => (intro j; ((apply opv_E); exact rfl)))))); ((apply vQ_end); (case hi => exact rfl); (case hf => kernel_rfl); (case hS => (first | exact Dr.refl _ | assumption | exact ⟨_, rfl⟩))))
  (apply seqP_normal; apply vC_ret)
  (apply ret3; (case h1 => (first | exact norm_eq rfl | ((conv => lhs; whnf) <;> exact rfl))); (case h2 => (first | exact norm_eq rfl | ((conv => lhs; whnf) <;> exact rfl))); (case h3 => (first | exact norm_eq rfl | ((conv => lhs; whnf) <;> exact rfl))))
  refine .inr ⟨x, lv1, hx, rfl, ?_⟩
  have e : without xs (p % xs.length) = xs.take (p % xs.length).toNat ++ xs.drop ((p % xs.length).toNat + 1) := by rw [without, if_neg (by omega)]
  rw [e]
  exact ⟨(Fr.refl _ _).drew.trans s1.fr |>.drew, s1.sc.frN ((Fr.refl _ _).drew), fun k hk => s1.fl k hk⟩
theorem gone1 (gb : Nat) (g x : Int) (w : World) (hg : Blk w.heap gb [.int .i64 g] 3) : Rets Try.prog 60 #[.int .i64 x, .pointer (some ⟨gb, 0, none⟩)] w fun v w' => v = .bool (decide (x = g)) ∧ Fr No w w' := by
  refine rets_of Try.func60 rfl Try.ntmps60 rfl rfl (by kernel_rfl) ?_
  (apply vC_seq; apply vC_region; ((apply vL_val); (case h => ((apply opv_E); exact rfl))); apply vL_nil; apply seqP_normal; apply vC_seq; apply vC_region; ((apply vL_val); (case h => ((apply opv_E); exact rfl))); ((apply vL_val); (case h => ((apply opv_loadb1); exact rfl; exact rfl; (first | assumption | infer_instance); exact rfl))); (iterate 2 (((apply vL_val); (case h => ((apply opv_E); exact rfl))))); apply vL_nil; apply seqP_normal; apply vC_ret)
  (apply ret1; (case h1 => (first | exact norm_eq rfl | ((conv => lhs; whnf) <;> exact rfl))))
  exact ⟨rfl, Fr.refl _ _⟩
theorem s_gone (sb b : Nat) (lv : Value) (xs : List Int) (g : Int) (w : World) (s : Sc w sb b lv xs) (hbig : xs.length ≤ 256) :
    Rets Try.prog 16 #[.pointer (some ⟨sb, 0, none⟩), .int .i64 g] w fun u w' => u = .bool (decide ((xs.filter fun x => !decide (x = g)).length < xs.length)) ∧ ∃ lv', ScTo w w' sb b lv lv' (xs.filter fun x => !decide (x = g)) := by
  have hs := s.hs
  refine rets_of Try.func16 rfl Try.ntmps16 rfl rfl (by kernel_rfl) ?_
  (apply vC_seq; apply vC_region; ((apply vL_val); (case h => ((apply opw_box1); (first | exact norm_eq rfl | ((conv => lhs; whnf) <;> exact rfl)); (first | rfl | assumption)))); ((apply vL_val); (case h => ((apply opv_E); exact rfl))); apply vL_nil; apply seqP_normal; (iterate 2 (apply vC_seq)); apply vC_region; ((apply vL_val); (case h => ((apply opv_E); exact rfl))); ((apply vL_val); (case h => ((apply opv_eql_pnil); exact rfl; exact rfl; (simp; done)))); apply vL_nil; apply seqP_normal; ((apply vC_cond_false); exact rfl); apply vC_skip; apply seqP_normal; apply vC_seq; apply vC_region; (iterate 2 (((apply vL_val); (case h => ((apply opv_E); exact rfl))))); ((apply vL_val); (case h => ((apply opv_fieldAddr); exact rfl))); ((apply vL_val); (case h => ((apply opv_loadb1); exact rfl; exact rfl; (first | assumption | infer_instance); exact rfl))); ((apply vL_val); (case h => ((apply opv_makeFunc); exact rfl))))
  have s0 := s.frN ((Fr.refl No w).alloc (.cells [Value.int .i64 g].toArray 3))
  have hne : own lv ≠ some w.heap.size := fun h => by have := s.ho.lt _ h; omega
  have hnb : b ≠ w.heap.size := fun h => by have := s.hb.lt; omega
  refine vL_callF rfl (q_drop b lv (fun x => decide (x = g)) xs _ _ [.pointer (some ⟨w.heap.size, 0, none⟩)] s0.hb s0.ho s0.one (fun x w1 hf => gone1 _ g x w1 (Blk.fr hf Blk.new (fun h => hne h)))) rfl ?_
  rintro _ w1 ⟨lv1, hf, hb, ho, hl, hone, rfl⟩
  have s1 := (s0.to hf hb ho (fun k hk => .inl (hl ▸ hk)) hone).after ((Fr.refl No w).alloc _)
  ((iterate 2 (((apply vL_val); (case h => ((apply opv_E); exact rfl))))); apply vL_nil; apply seqP_normal; apply vC_ret)
  (apply ret1; (case h1 => (first | exact norm_eq rfl | ((conv => lhs; whnf) <;> exact rfl))))
  refine ⟨congrArg Value.bool (decide_eq_decide.2 ?_), lv1, s1⟩
  omega
end Go.Proofs.Ytaeckjhipmcddaa
