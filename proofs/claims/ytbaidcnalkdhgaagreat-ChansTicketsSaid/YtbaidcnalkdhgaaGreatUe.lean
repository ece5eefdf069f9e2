/- Layer 16: ChansTickets: the walk. Opening the argument of ChansTickets. -/
import Derived.Test.YtbaidcnalkdhgaaGreatUc
import Derived.Test.YtbaidcnalkdhgaaGreatEz
set_option maxRecDepth 100000
namespace Go.Proofs.YtbaidcnalkdhgaaGreat
open Go Go.Eng
theorem pick_exact (x n : Int) (w : World) (hn : 1 ≤ n) (hn2 : n ≤ 4611686018427387904) : Rets Tryz.prog 13 #[.int .i64 x, .int .i64 n] w fun u w' => w = w' ∧ u = .int .i64 (x % n) := by
  have h1 : x.tmod n < n := Int.tmod_lt_of_pos x (by omega)
  have h2 : -n < x.tmod n := by
    have h3 := Int.tmod_lt_of_pos (-x) (b := n) (by omega)
    rw [Int.neg_tmod] at h3
    omega
  have h4 : x.tmod n = x - n * x.tdiv n := Int.tmod_def x n
  have key : ∀ k : Int, 0 ≤ x - n * k → x - n * k < n → x - n * k = x % n := fun k ha hb => by
    have := Int.emod_eq_of_lt ha hb
    rw [Int.sub_mul_emod_self_left] at this
    exact this.symm
  refine rets_of Tryz.func13 rfl Tryz.ntmps13 rfl rfl (by kernel_rfl) ?_
  ((iterate 19 (first | with_reducible apply vC_seq | with_reducible apply vC_region | with_reducible apply seqP_normal | with_reducible apply vC_skip | ((with_reducible apply vL_val); (case h => ((with_reducible apply opv_E); exact rfl))) | with_reducible apply vL_nil | (refine vC_cond_dec rfl (fun h => by omega) (fun _ => ?_)))))
  apply vL_val
  (case h => ((with_reducible apply opv_rem_t); exact rfl; exact rfl; omega))
  (((apply vL_val); (case h => ((apply opv_E); exact rfl))); apply vL_nil; apply seqP_normal; (iterate 2 (apply vC_seq)); apply vC_region; (iterate 2 (((apply vL_val); (case h => ((apply opv_E); exact rfl))))); apply vL_nil; apply seqP_normal)
  refine vC_cond_dec rfl (fun hc => ?_) (fun hc => ?_)
  · ((iterate 13 (first | with_reducible apply vC_seq | with_reducible apply vC_region | with_reducible apply seqP_normal | ((with_reducible apply vL_val); (case h => ((with_reducible apply opv_E); exact rfl))) | ((with_reducible apply vL_val); (case h => ((with_reducible apply opv_add); exact rfl; exact rfl; (first | omega | (simp only [List.length_map]; omega))))) | with_reducible apply vL_nil)); apply vC_ret)
    (apply ret1; (case h1 => (exact norm_eq rfl)))
    refine ⟨rfl, congrArg (Value.int .i64) ?_⟩
    have := key (x.tdiv n - 1) (by rw [Int.mul_sub]; omega) (by rw [Int.mul_sub]; omega)
    rw [Int.mul_sub] at this
    omega
  · (apply vC_skip; apply seqP_normal; apply vC_seq; apply vC_region; (iterate 2 (((apply vL_val); (case h => ((apply opv_E); exact rfl))))); apply vL_nil; apply seqP_normal; apply vC_ret)
    (apply ret1; (case h1 => (exact norm_eq rfl)))
    refine ⟨rfl, congrArg (Value.int .i64) ?_⟩
    have := key (x.tdiv n) (by omega) (by omega)
    omega
def e3 (q : Int × Int × Int) : List Value := [.int .i64 q.1, .int .i64 q.2.1, .int .i64 q.2.2]
instance encE3 : EncOk e3 3 := ⟨by intro x u h; simp [e3] at h; rcases h with rfl | rfl | rfl <;> rfl, fun _ => rfl⟩
def nilP : Value := .pointer none
theorem tta_bx {rb fb tb : Nat} {kb : List Bx} {T : T4} {C D : CH} {R : Asr} {w0 w : World} {F0 : Nat → Prop} {b : Nat} {cs : List Value} {Ty : TypeId} (S : At (TtA rb fb tb kb T C D R) w0 F0 w) (h : (b, cs, Ty) ∈ kb) : Blk w.heap b cs Ty :=
  (S.ac (show _ = Bxl kb * (ChA_i rb C * (TksA (t4L fb T) * (ChA_i rb D * (Pt fb (gE (t4N T.fs)) 70 * (Pt tb (gE (t4N T.fs)) 70 * R))))) by unfold TtA TtR; ac_rfl)).bx h
def k4 (b : Nat → Nat) (j : Nat) : List Value := (List.range 4).map fun i => if i < j then pt (b i) else nilP
theorem k4_len (b : Nat → Nat) (j : Nat) : (k4 b j).length = 4 := by simp [k4]
theorem k4_get {b : Nat → Nat} {i j : Nat} (hi : i < j) (h4 : i < 4) : (k4 b j)[i]? = some (pt (b i)) := by
  unfold k4; rw [List.getElem?_map, List.getElem?_range h4]; simp [hi]
theorem k4_set {b : Nat → Nat} {j : Nat} (x : Nat) (h4 : j < 4) : (k4 b j).set j (pt x) = k4 (fun i => if i = j then x else b i) (j + 1) := by
  refine List.ext_getElem? fun i => ?_
  by_cases hi : i < 4
  · unfold k4
    rw [List.getElem?_map, List.getElem?_range hi]
    by_cases e : i = j
    · subst e
      rw [List.getElem?_set_self (by simp; omega)]
      simp
    · rw [List.getElem?_set_ne (Ne.symm e), List.getElem?_map, List.getElem?_range hi]
      by_cases h : i < j
      · simp [h, show i < j + 1 by omega, e]
      · simp [h, show ¬ i < j + 1 by omega]
  · rw [List.getElem?_eq_none (by simp [k4]; omega), List.getElem?_eq_none (by simp [k4]; omega)]
def t4J (fb : Nat) (b ib : Nat → Nat) (j : Nat) : List TKT := (List.range j).map (t4T fb ⟨b, ib, fun _ => false⟩)
def bx4 (ib : Nat → Nat) (j : Nat) : List Bx := (List.range j).map fun i => (ib i, [.int .i64 (i : Int)], 3)
theorem t4J_snoc (fb : Nat) (b ib : Nat → Nat) (j x p : Nat) : t4J fb b ib j ++ [⟨x, ⟨.func (.func 36) #[] #[pt fb, pt p], rfl⟩, false⟩] = t4J fb (fun i => if i = j then x else b i) (fun i => if i = j then p else ib i) (j + 1) := by
  unfold t4J
  rw [List.range_succ, List.map_append]
  congr 1
  · refine List.map_congr_left fun i hi => ?_
    have : i ≠ j := by have := List.mem_range.1 hi; omega
    simp [t4T, this]
  · simp [t4T]
theorem bx4_snoc (ib : Nat → Nat) (j p : Nat) : Bxl (bx4 (fun i => if i = j then p else ib i) (j + 1)) = Pt p [.int .i64 (j : Int)] 3 * Bxl (bx4 ib j) := by
  have e : bx4 (fun i => if i = j then p else ib i) (j + 1) = bx4 ib j ++ [(p, [.int .i64 (j : Int)], 3)] := by
    unfold bx4
    rw [List.range_succ, List.map_append]
    congr 1
    · refine List.map_congr_left fun i hi => ?_
      have : i ≠ j := by have := List.mem_range.1 hi; omega
      simp [this]
    · simp
  rw [e]
  exact big_map_snoc (fun x : Nat × List Value × TypeId => Pt x.1 x.2.1 x.2.2) _ _
theorem tickets16 (w : World) (vo : Value) (ops : List (Int × Int × Int)) (hg : Rd w.heap 3 e3 vo ops) (hgo : vo.oneCell' = true) :
    Rets Tryz.prog 5 #[vo] w fun u w' => u = .bool true ∧ Fr No w w' := by
  have hgs := hg.small
  obtain ⟨oa, oc, rfl⟩ := hg.len
  refine rets_of Tryz.func5 rfl Tryz.ntmps5 rfl rfl (by kernel_rfl) ?_
  (apply vC_seq; apply vC_region; ((apply vL_val); (case h => ((apply opv_E); exact rfl))); apply vL_nil; apply seqP_normal; apply vC_seq; apply vC_region)
  refine vL_callF rfl (r_newA (At.of_emp (Fr.refl No w))) rfl ?_
  rintro _ w1 ⟨rb, rfl, S1⟩
  (((apply vL_val); (case h => ((apply opv_E); exact rfl))); apply vL_nil; apply seqP_normal; apply vC_seq; apply vC_region; ((apply vL_val); (case h => (apply opw_alloc))); apply vL_nil; apply seqP_normal; (iterate 2 (apply vC_seq)); apply vC_region; ((apply vL_val); (case h => ((apply opv_E); exact rfl))); apply vL_nil; apply seqP_normal; apply vC_block)
  refine vC_gen (fun w' => At (Pt w1.heap.size [nilP, nilP] 69 * (RtA rb none 0 [] [] * Emp)) w No w') S1.alloc ?_
  intro w2 S2
  generalize w1.heap.size = ca at S2 ⊢
  (apply vC_loop1 68717379812 21 (fun u w' => (u = .int .i64 0 ∧ At (Pt ca [nilP, nilP] 69 * (RtA rb none 0 [] [] * Emp)) w No w') ∨ (∃ c0 b0 s0 r0, u = .int .i64 1 ∧ At (Pt ca [pt c0, nilP] 69 * (ChA_i rb ⟨c0, b0, s0, r0, 0, [], [], [], false⟩ * (RtA rb none 0 [] [] * Emp))) w No w') ∨ (∃ c0 b0 s0 r0 c1 b1 s1 r1, u = .int .i64 2 ∧ At (Pt ca [pt c0, pt c1] 69 * (ChA_i rb ⟨c0, b0, s0, r0, 0, [], [], [], false⟩ * (ChA_i rb ⟨c1, b1, s1, r1, 1, [], [], [], false⟩ * (RtA rb none 0 [] [] * Emp)))) w No w')) (fun u _ => 2 - (RowKit.intOf u).toNat)); (case h1 => (exact norm_eq rfl))
  case h0 => exact .inl ⟨rfl, S2⟩
  clear S2
  case round =>
  rintro junk _ w3 (⟨rfl, S3⟩ | ⟨c0, b0, s0, r0, rfl, S3⟩ | ⟨c0, b0, s0, r0, c1, b1, s1, r1, rfl, S3⟩)
  · ((iterate 21 (first | with_reducible apply vC_seq | with_reducible apply vC_region | with_reducible apply seqP_normal | with_reducible apply vC_block | with_reducible apply vC_skip | ((with_reducible apply vC_cond_true); exact rfl) | ((with_reducible apply vL_val); (case h => ((with_reducible apply opv_E); exact rfl))) | with_reducible apply vL_nil)))
    refine vL_callF rfl (ch_make_i (S3.ac (show _ = RtA rb none 0 [] [] * Pt ca [nilP, nilP] 69 by rw [star_emp]; ac_rfl)) 0 (by decide)) rfl ?_
    rintro _ w4 ⟨c0, b0, s0, r0, rfl, S4⟩
    have S5 := S4.ac (show _ = Pt ca [nilP, nilP] 69 * (ChA_i rb ⟨c0, b0, s0, r0, 0, [], [], [], false⟩ * (RtA rb none 0 [] [] * Emp)) by rw [star_emp]; ac_rfl)
    have hca := S5.blk
    ((iterate 20 (first | with_reducible apply vC_seq | with_reducible apply vC_region | with_reducible apply seqP_normal | with_reducible apply vC_skip | ((with_reducible apply vC_cond_false); exact rfl) | ((with_reducible apply vL_val); (case h => ((with_reducible apply opv_E); exact rfl))) | with_reducible apply vL_nil)); ((apply vL_val); (case h => ((apply opv_indexAddr_arr); exact rfl; exact rfl; (first | omega | (simp only [List.length_map]; omega)); (first | omega | (simp only [List.length_map]; omega))))); ((apply vL_skip); (case h => ((apply ops_store1); exact norm_eq rfl; exact norm_eq rfl; (first | rfl | assumption); assumption; (first | decide | exact of_decide_eq_true rfl | (simp; done))))); apply vL_nil; apply blockP_normal; apply seqP_normal; apply vC_region; ((apply vL_val); (case h => ((apply opv_add); exact rfl; exact rfl; (first | omega | (simp only [List.length_map]; omega))))); ((apply vL_val); (case h => ((apply opv_E); exact rfl))); apply vL_nil; apply loopP_normal)
    (with_reducible apply end1); (case hs => ((iterate 19 (first | with_reducible apply same_updN | ((with_reducible refine same_updO ?_ ?_); rotate_left; exact rfl))); ((refine same_upd ?_ ?_); rotate_left; exact rfl); (exact same_mask _ _ _))); (case h1 => (exact norm_eq rfl))
    · exact .inr (.inl ⟨c0, b0, s0, r0, rfl, S5.put ((Fr.refl _ w4).set _ _ (.inl rfl)) (Blk.as inferInstance rfl)⟩)
    · decide
  · ((iterate 21 (first | with_reducible apply vC_seq | with_reducible apply vC_region | with_reducible apply seqP_normal | with_reducible apply vC_block | with_reducible apply vC_skip | ((with_reducible apply vC_cond_true); exact rfl) | ((with_reducible apply vL_val); (case h => ((with_reducible apply opv_E); exact rfl))) | with_reducible apply vL_nil)))
    refine vL_callF rfl (ch_make_i (S3.ac (show _ = RtA rb none 0 [] [] * (Pt ca [pt c0, nilP] 69 * ChA_i rb ⟨c0, b0, s0, r0, 0, [], [], [], false⟩) by rw [star_emp]; ac_rfl)) 1 (by decide)) rfl ?_
    rintro _ w4 ⟨c1, b1, s1, r1, rfl, S4⟩
    have S5 := S4.ac (show _ = Pt ca [pt c0, nilP] 69 * (ChA_i rb ⟨c0, b0, s0, r0, 0, [], [], [], false⟩ * (ChA_i rb ⟨c1, b1, s1, r1, 1, [], [], [], false⟩ * (RtA rb none 0 [] [] * Emp))) by rw [star_emp]; ac_rfl)
    have hca := S5.blk
    ((iterate 20 (first | with_reducible apply vC_seq | with_reducible apply vC_region | with_reducible apply seqP_normal | with_reducible apply vC_skip | ((with_reducible apply vC_cond_false); exact rfl) | ((with_reducible apply vL_val); (case h => ((with_reducible apply opv_E); exact rfl))) | with_reducible apply vL_nil)); ((apply vL_val); (case h => ((apply opv_indexAddr_arr); exact rfl; exact rfl; (first | omega | (simp only [List.length_map]; omega)); (first | omega | (simp only [List.length_map]; omega))))); ((apply vL_skip); (case h => ((apply ops_store1); exact norm_eq rfl; exact norm_eq rfl; (first | rfl | assumption); assumption; (first | decide | exact of_decide_eq_true rfl | (simp; done))))); apply vL_nil; apply blockP_normal; apply seqP_normal; apply vC_region; ((apply vL_val); (case h => ((apply opv_add); exact rfl; exact rfl; (first | omega | (simp only [List.length_map]; omega))))); ((apply vL_val); (case h => ((apply opv_E); exact rfl))); apply vL_nil; apply loopP_normal)
    (with_reducible apply end1); (case hs => ((iterate 19 (first | with_reducible apply same_updN | ((with_reducible refine same_updO ?_ ?_); rotate_left; exact rfl))); ((refine same_upd ?_ ?_); rotate_left; exact rfl); (exact same_mask _ _ _))); (case h1 => (exact norm_eq rfl))
    · exact .inr (.inr ⟨c0, b0, s0, r0, c1, b1, s1, r1, rfl, S5.put ((Fr.refl _ w4).set _ _ (.inl rfl)) (Blk.as inferInstance rfl)⟩)
    · decide
  · (apply vC_seq; apply vC_region; ((apply vL_val); (case h => ((apply opv_E); exact rfl))); apply vL_nil; apply seqP_normal; apply vC_seq; ((apply vC_cond_false); exact rfl); apply vC_exit; apply seqP_exit; apply loopP_exit; apply blockP_exit; (iterate 15 (first | with_reducible apply vC_seq | with_reducible apply vC_region | with_reducible apply seqP_normal | with_reducible apply vL_nil | ((with_reducible apply vL_val); (case h => (with_reducible apply opw_alloc))))); ((apply vL_val); (case h => ((apply opv_E); exact rfl))); apply vL_nil; apply seqP_normal; apply vC_block)
    refine vC_gen (fun w' => At (Pt ((w3.alloc (.cells #[.int .i64 0, .int .i64 0, .int .i64 0, .int .i64 0] 70)).alloc (.cells #[.int .i64 0, .int .i64 0, .int .i64 0, .int .i64 0] 70)).heap.size (k4 (fun _ => 0) 0) 72 * (Pt (w3.alloc (.cells #[.int .i64 0, .int .i64 0, .int .i64 0, .int .i64 0] 70)).heap.size (gE [0, 0, 0, 0]) 70 * (Pt w3.heap.size (gE (t4N fun _ => false)) 70 * (Pt ca [pt c0, pt c1] 69 * (ChA_i rb ⟨c0, b0, s0, r0, 0, [], [], [], false⟩ * (ChA_i rb ⟨c1, b1, s1, r1, 1, [], [], [], false⟩ * (RtA rb none 0 [] [] * Emp))))))) w No w') S3.alloc.alloc.alloc ?_
    clear S3
    intro w4 S4
    generalize ((w3.alloc (.cells #[.int .i64 0, .int .i64 0, .int .i64 0, .int .i64 0] 70)).alloc (.cells #[.int .i64 0, .int .i64 0, .int .i64 0, .int .i64 0] 70)).heap.size = ka at S4 ⊢
    generalize (w3.alloc (.cells #[.int .i64 0, .int .i64 0, .int .i64 0, .int .i64 0] 70)).heap.size = gb at S4 ⊢
    generalize w3.heap.size = fb at S4 ⊢
    obtain ⟨R1, hR1⟩ : ∃ R1, R1 = Pt gb (gE [0, 0, 0, 0]) 70 * (Pt fb (gE (t4N fun _ => false)) 70 * (Pt ca [pt c0, pt c1] 69 * (ChA_i rb ⟨c0, b0, s0, r0, 0, [], [], [], false⟩ * (ChA_i rb ⟨c1, b1, s1, r1, 1, [], [], [], false⟩ * RtA rb none 0 [] [])))) := ⟨_, rfl⟩
    haveI : Lcl R1 := by rw [hR1]; infer_instance
    have S5 : At (Pt ka (k4 (fun _ => 0) 0) 72 * (TksA (t4J fb (fun _ => 0) (fun _ => 0) 0) * (Bxl (bx4 (fun _ => 0) 0) * R1))) w No w4 := S4.ac (by
      rw [hR1, star_emp, show TksA (t4J fb (fun _ => 0) (fun _ => 0) 0) = Emp from rfl, show Bxl (bx4 (fun _ => 0) 0) = Emp from rfl, emp_star, emp_star])
    clear S4
    (apply vC_loop1 281406257235972 36 (fun u w' => ∃ (j : Nat) (b ib : Nat → Nat), u = .int .i64 (j : Int) ∧ j ≤ 4 ∧ At (Pt ka (k4 b j) 72 * (TksA (t4J fb b ib j) * (Bxl (bx4 ib j) * R1))) w No w') (fun u _ => 4 - (RowKit.intOf u).toNat)); (case h1 => (exact norm_eq rfl))
    case h0 => exact ⟨0, _, _, rfl, Nat.zero_le _, S5⟩
    clear S5
    case round =>
    rintro junk2 _ w5 ⟨j, b, ib, rfl, hj, S6⟩
    by_cases hlt : j < 4
    · have hka := S6.blk
      have hkl := k4_len b j
      (apply vC_seq; apply vC_region; ((apply vL_val); (case h => ((apply opv_E); exact rfl))); apply vL_nil; apply seqP_normal; apply vC_seq; (refine vC_cond_dec rfl (fun _ => ?_) (fun h => by omega)); apply vC_skip; apply seqP_normal; apply vC_seq; apply vC_block; apply vC_seq; apply vC_region; ((apply vL_val); (case h => ((apply opv_E); exact rfl))); ((apply vL_val); (case h => (apply opw_alloc))); ((apply vL_skip); (case h => ((apply ops_store1); exact norm_eq rfl; exact norm_eq rfl; (first | rfl | assumption); infer_instance; (first | decide | exact of_decide_eq_true rfl | (simp; done))))); apply vL_nil; apply seqP_normal; apply vC_seq)
      have S7 := S6.new (b := w5.heap.size) (cs := [.int .i64 (j : Int)]) (T := 3) (w' := (w5.alloc (.cells #[.int .i64 0] 3)).setRow w5.heap.size (([.int .i64 0] : List Value).set 0 (.int .i64 (j : Int))).toArray) (by (apply Fr.allocSet; exact Fr.refl _ _)) (Blk.as inferInstance rfl) (Nat.le_refl _)
      refine vC_gen (fun w' => At (Pt w5.heap.size [.int .i64 (j : Int)] 3 * (Pt ka (k4 b j) 72 * (TksA (t4J fb b ib j) * (Bxl (bx4 ib j) * R1)))) w No w') S7 ?_
      clear S7 S6 hka
      intro w6 S7
      generalize w5.heap.size = pb at S7 ⊢
      have hpb := S7.blk
      refine vC_meet0 8246337208320 (fun w' => ∃ x : Nat, At (Pt pb [.int .i64 (j : Int)] 3 * (Pt ka (k4 (fun i => if i = j then x else b i) (j + 1)) 72 * (TksA (t4J fb (fun i => if i = j then x else b i) (fun i => if i = j then pb else ib i) (j + 1)) * (Bxl (bx4 ib j) * R1)))) w No w') ?_ ?_
      · refine vC_draw' ((fun wf => Blk wf.heap pb [.int .i64 (j : Int)] 3)) (by (first | exact trivial | assumption | infer_instance | (skip; done))) ?_
        ((apply (tk 0)); (case hi => exact rfl); (case hf => kernel_rfl); (case hS => (first | exact trivial | assumption | infer_instance | (skip; done))); (case hy => (intro wf hwf; (try dsimp only at hwf); (((apply opv_loadb1); exact rfl; exact rfl; assumption; exact rfl)))))
        ((apply (tk 1)); (case hi => exact rfl); (case hf => kernel_rfl); (case hS => (first | exact trivial | assumption | infer_instance | (skip; done))); (case hy => (intro wf hwf; (try dsimp only at hwf); (((apply opv_makeFunc); exact rfl)))))
        refine tkc 2 rfl (by kernel_rfl) (by (first | exact trivial | assumption | infer_instance | (skip; done))) rfl (tk_new (S7.drew.ac (show _ = TksA (t4J fb b ib j) * (Pt pb [.int .i64 (j : Int)] 3 * (Pt ka (k4 b j) 72 * (Bxl (bx4 ib j) * R1))) by ac_rfl)) 36 #[pt fb, pt pb]) rfl ?_
        rintro _ w7 ⟨x, rfl, S8⟩
        have S9 := S8.ac (show _ = Pt ka (k4 b j) 72 * (Pt pb [.int .i64 (j : Int)] 3 * (TksA (t4J fb b ib j ++ [⟨x, ⟨.func (.func 36) #[] #[pt fb, pt pb], rfl⟩, false⟩]) * (Bxl (bx4 ib j) * R1))) by ac_rfl)
        have hka7 := S9.blk
        have hpb7 := (S9.swap.ac (star_assoc _ _ _)).blk
        ((apply (tk 3)); (case hi => exact rfl); (case hf => kernel_rfl); (case hS => (first | exact trivial | assumption | infer_instance | (skip; done))); (case hy => (intro wf hwf; (try dsimp only at hwf); (((apply opv_indexAddr_arr); exact rfl; exact rfl; (first | omega | (simp only [List.length_map]; omega)); (first | omega | (simp only [List.length_map]; omega)))))))
        refine vA_only 4 rfl (by kernel_rfl) (by (first | exact trivial | assumption | infer_instance | (skip; done))) (fun K hK => ?_)
        refine vL_skip (ops_store1 rfl rfl rfl hka7 (by rw [hkl]; show 0 + ((j : Nat) : Int).toNat * 1 < 4; omega)) (vL_nil ⟨rfl, hK _ _ ?_⟩)
        have e0 : 0 + ((j : Nat) : Int).toNat * 1 = j := by omega
        have S10 := S9.put (w' := w7.setRow ka ((k4 b j).set (0 + ((j : Nat) : Int).toNat * 1) (pt x)).toArray) (cs' := k4 (fun i => if i = j then x else b i) (j + 1)) ((Fr.refl _ w7).set _ _ (.inl rfl)) (Blk.as (Blk.set hka7) (by rw [e0, k4_set x hlt]))
        have hpb8 := (S10.swap.ac (star_assoc _ _ _)).blk
        refine vA_done (by kernel_rfl) (by (first | exact trivial | assumption | infer_instance | (skip; done))) ?_
        refine ⟨rfl, by ((apply same_updN; (iterate 4 (((refine same_updO ?_ ?_); rotate_left; exact rfl))); apply same_updN); exact fun _ _ => rfl), x, S10.ac ?_⟩
        rw [t4J_snoc]
        ac_rfl
      clear S7 hpb
      rintro junk16 w7 ⟨x, S8⟩
      have hpb := S8.blk
      have hka := (S8.swap.ac (star_assoc _ _ _)).blk
      have hkl2 := k4_len (fun i => if i = j then x else b i) (j + 1)
      have hkg : (k4 (fun i => if i = j then x else b i) (j + 1))[0 + ((j : Nat) : Int).toNat * 1]? = some (pt x) := by
        rw [show 0 + ((j : Nat) : Int).toNat * 1 = j by omega, k4_get (by omega) hlt]
        simp
      (apply seqP_normal; apply vC_seq; apply vC_region; ((apply vL_val); (case h => ((apply opv_loadb1); exact rfl; exact rfl; assumption; exact rfl))); ((apply vL_val); (case h => ((apply opv_indexAddr_arr); exact rfl; exact rfl; (first | omega | (simp only [List.length_map]; omega)); (first | omega | (simp only [List.length_map]; omega))))))
      refine vL_val (opv_loadb1 rfl rfl hka hkg) ?_
      (((apply vL_val); (case h => ((apply opv_eql_pnil); exact rfl; exact rfl; (simp; done)))); apply vL_nil; apply seqP_normal; ((apply vC_cond_false); exact rfl); apply vC_skip; apply blockP_normal; apply seqP_normal; apply vC_region; ((apply vL_val); (case h => ((apply opv_add); exact rfl; exact rfl; (first | omega | (simp only [List.length_map]; omega))))); ((apply vL_val); (case h => ((apply opv_E); exact rfl))); apply vL_nil; apply loopP_normal)
      (with_reducible apply end1); (case hs => ((iterate 6 (((refine same_updO ?_ ?_); rotate_left; exact rfl))); ((refine same_maskIn ?_ ?_); rotate_left; exact rfl); apply same_updN; (iterate 3 (((refine same_updO ?_ ?_); rotate_left; exact rfl))); ((refine same_upd ?_ ?_); rotate_left; exact rfl); (exact same_mask _ _ _))); (case h1 => (exact norm_eq rfl))
      · refine ⟨j + 1, fun i => if i = j then x else b i, fun i => if i = j then pb else ib i, rfl, by omega, S8.ac ?_⟩
        rw [bx4_snoc]
        ac_rfl
      · simp [RowKit.intOf]; omega
    · (apply vC_seq; apply vC_region; ((apply vL_val); (case h => ((apply opv_E); exact rfl))); apply vL_nil; apply seqP_normal; apply vC_seq; (refine vC_cond_dec rfl (fun h => by omega) (fun _ => ?_)); apply vC_exit; apply seqP_exit; apply loopP_exit; apply blockP_exit; apply seqP_normal; apply vC_seq; apply vC_region; ((apply vL_val); (case h => ((apply opv_buildA); exact rfl; exact (rfl : _ = some [_, _, _, _])))); ((apply vL_val); (case h => (apply opw_alloc))); ((apply vL_skip); (case h => ((apply ops_storen); exact norm_eq rfl; exact norm_eq rfl; exact rfl; (intro u hu; simp at hu; rcases hu with rfl | rfl <;> (first | rfl | assumption)); infer_instance; (first | decide | exact of_decide_eq_true rfl | (simp; done))))); apply vL_nil; apply seqP_normal; (iterate 2 (apply vC_seq)); apply vC_region; ((apply vL_val); (case h => ((apply opv_E); exact rfl))); apply vL_nil; apply seqP_normal; apply vC_block)
      obtain rfl : j = 4 := by omega
      obtain ⟨R3, hR3⟩ : ∃ R3, R3 = Pt ca [pt c0, pt c1] 69 * (Pt ka (k4 b 4) 72 * RtA rb none 0 [] []) := ⟨_, rfl⟩
      haveI : Lcl R3 := by rw [hR3]; infer_instance
      refine vC_gen (fun w' => At (Pt w5.heap.size (gE (t4N fun _ => false)) 70 * (Pt ka (k4 b 4) 72 * (TksA (t4J fb b ib 4) * (Bxl (bx4 ib 4) * R1)))) w No w') (S6.new (by (apply Fr.allocSet; exact Fr.refl _ _)) (Blk.as inferInstance rfl) (Nat.le_refl _)) ?_
      clear S6
      intro w6 S6
      generalize w5.heap.size = tb at S6 ⊢
      have hinj0 := tks_tn (S6.ac (show _ = TksA (t4L fb ⟨b, ib, fun _ => false⟩) * (Pt tb (gE (t4N fun _ => false)) 70 * (Pt ka (k4 b 4) 72 * (Bxl (bx4 ib 4) * R1))) by rw [show t4J fb b ib 4 = t4L fb ⟨b, ib, fun _ => false⟩ from rfl]; ac_rfl))
      have hT0 : T4ok (bx4 ib 4) ⟨b, ib, fun _ => false⟩ := ⟨fun i j hi hj he => hinj0 i j _ _ (t4L_get hi) (t4L_get hj) he, fun j hj => List.mem_map.2 ⟨j, List.mem_range.2 hj, rfl⟩⟩
      have S7 : At (TtA rb fb tb (bx4 ib 4) ⟨b, ib, fun _ => false⟩ ⟨c0, b0, s0, r0, 0, [], [], [], false⟩ ⟨c1, b1, s1, r1, 1, [], [], [], false⟩ (Pt gb (gE [0, 0, 0, 0]) 70 * R3)) w No w6 := S6.ac (by
        rw [hR1, hR3]; unfold TtA TtR
        rw [show t4J fb b ib 4 = t4L fb ⟨b, ib, fun _ => false⟩ from rfl]
        ac_rfl)
      clear S6 hinj0
      (apply vC_loop1 23384026197294446691258957323460527751544968306692 13 (fun u w' => ∃ (k : Nat) (fs : Nat → Bool) (kb : List Bx) (C D : CH) (g : List Int), u = .int .i64 (k : Int) ∧ k ≤ ops.length ∧ k ≤ 60 ∧ C.cb = c0 ∧ D.cb = c1 ∧ T4ok kb ⟨b, ib, fs⟩ ∧ TtC kb tb b k C ∧ TtC kb tb b k D ∧ g.length = 4 ∧ (∀ x ∈ g, 0 ≤ x ∧ x ≤ (k : Int)) ∧ At (TtA rb fb tb kb ⟨b, ib, fs⟩ C D (Pt gb (gE g) 70 * R3)) w No w') (fun u _ => 60 - (RowKit.intOf u).toNat)); (case h1 => (exact norm_eq rfl))
      case h0 => exact ⟨0, _, _, _, _, [0, 0, 0, 0], rfl, Nat.zero_le _, by decide, rfl, rfl, hT0, ⟨fun x hx => (by cases hx), fun x hx => (by cases hx), Nat.le_refl _, Nat.le_refl _, Int.le_refl _, (show (0 : Int) ≤ 1 by decide)⟩, ⟨fun x hx => (by cases hx), fun x hx => (by cases hx), Nat.le_refl _, Nat.le_refl _, (show (([] : List Int).length : Int) ≤ 1 by decide), Int.le_refl _⟩, rfl, by decide, S7⟩
      clear S7 hT0
      case round =>
      rintro junk3 _ w7 ⟨k, fs, kb, C, D, g, rfl, hk, hk60, hC, hD, hT, hc, hd, hgl, hgb, S8⟩
      by_cases hcc : k < ops.length ∧ k < 60
      · obtain ⟨g0, g1⟩ := hcc
        obtain ⟨⟨p, q, r⟩, hx⟩ : ∃ x, ops[k]? = some x := ⟨_, List.getElem?_eq_getElem g0⟩
        have hx' : ops[((k : Nat) : Int).toNat]? = some (p, q, r) := by rw [Int.toNat_natCast]; exact hx
        have hg7 := hg.frN S8.fr
        ((iterate 2 (apply vC_seq)); apply vC_region; (iterate 10 (first | ((with_reducible apply vL_val); (case h => ((with_reducible apply opv_E); exact rfl))) | ((with_reducible apply vL_val); (case h => ((with_reducible apply opv_lenc); exact rfl))) | ((with_reducible apply vL_wanted); exact rfl) | (refine vL_and rfl rfl (fun _ => ?_) (fun h => by omega)))); apply vL_nil; apply seqP_normal; (refine vC_cond_dec rfl (fun _ => ?_) (fun h => by omega)); apply vC_skip; apply seqP_normal; apply vC_seq; apply vC_block; apply vC_seq; apply vC_region; (iterate 2 (((apply vL_val); (case h => ((apply opv_E); exact rfl))))); ((apply vL_val); (case h => ((apply opv_indexAddr); exact norm_eq rfl; exact rfl; assumption; (first | omega | (simp only [List.length_map]; omega)); (first | omega | (simp only [List.length_map]; omega))))); ((apply vL_val); (case h => ((apply opv_ld_eln); exact rfl; exact rfl; assumption; assumption))); ((apply vL_val); (case h => (apply opw_alloc))); ((apply vL_skip); (case h => ((apply ops_storen); exact norm_eq rfl; exact norm_eq rfl; exact rfl; exact (fun u hu => EncOk.one _ u hu); infer_instance; (first | decide | exact of_decide_eq_true rfl | (simp; done))))); apply vL_nil; apply seqP_normal; apply vC_seq)
        refine vC_gen (fun w' => At (Pt w7.heap.size [.int .i64 p, .int .i64 q, .int .i64 r] 74 * TtA rb fb tb kb ⟨b, ib, fs⟩ C D (Pt gb (gE g) 70 * R3)) w No w') (S8.new (by (apply Fr.allocSet; exact Fr.refl _ _)) (Blk.as inferInstance rfl) (Nat.le_refl _)) ?_
        clear S8 hg7
        intro w8 S8
        generalize w7.heap.size = ob at S8 ⊢
        have hr4 : 0 ≤ r % 4 ∧ r % 4 < 4 := ⟨Int.emod_nonneg _ (by decide), Int.emod_lt_of_pos _ (by decide)⟩
        have hq2 : q % 2 = 0 ∨ q % 2 = 1 := by have h1 := Int.emod_nonneg q (show (2 : Int) ≠ 0 by decide); have h2 := Int.emod_lt_of_pos q (show (0 : Int) < 2 by decide); omega
        obtain ⟨j, hj⟩ : ∃ j : Nat, r % 4 = j := ⟨(r % 4).toNat, by omega⟩
        have hj4 : j < 4 := by omega
        have pk4 : ∀ w', Rets Tryz.prog 13 #[.int .i64 r, .int .i64 4] w' fun u w'' => w' = w'' ∧ u = .int .i64 (j : Int) := fun w' => (pick_exact r 4 w' (by decide) (by decide)).mono fun u w'' ⟨a, c⟩ => ⟨a, by rw [c, hj]⟩
        have hob := S8.blk
        have hca := (S8.ac (show _ = Pt ca [pt c0, pt c1] 69 * (Pt ka (k4 b 4) 72 * (RtA rb none 0 [] [] * (Pt ob [.int .i64 p, .int .i64 q, .int .i64 r] 74 * TtA rb fb tb kb ⟨b, ib, fs⟩ C D (Pt gb (gE g) 70)))) by rw [hR3]; unfold TtA TtR; ac_rfl)).blk
        refine vC_meetV2 2351959869397967929344 15 16 (fun v u w' => ∃ (X Y : CH) (nb : Nat), v = pt X.cb ∧ u = pt nb ∧ ((X = C ∧ Y = D) ∨ (X = D ∧ Y = C)) ∧ At (Pt nb [.int .i64 (j : Int)] 3 * (Pt ob [.int .i64 p, .int .i64 q, .int .i64 r] 74 * TtA rb fb tb kb ⟨b, ib, fs⟩ X Y (Pt gb (gE g) 70 * R3))) w No w') ?_ ?_
        · rcases hq2 with hq | hq
          · have pk2 : ∀ w', Rets Tryz.prog 13 #[.int .i64 q, .int .i64 2] w' fun u w'' => w' = w'' ∧ u = .int .i64 0 := fun w' => (pick_exact q 2 w' (by decide) (by decide)).mono fun u w'' ⟨a, c⟩ => ⟨a, by rw [c, hq]⟩
            refine vC_draw' ((fun wf => Blk wf.heap ob [.int .i64 p, .int .i64 q, .int .i64 r] 74 ∧ Blk wf.heap ca [pt c0, pt c1] 69)) (by (first | exact trivial | assumption | infer_instance | (refine ⟨?_, ?_⟩ <;> (first | assumption | infer_instance)) | (skip; done))) ?_
            ((apply (tk 0)); (case hi => exact rfl); (case hf => kernel_rfl); (case hS => (first | exact trivial | assumption | infer_instance | (refine ⟨?_, ?_⟩ <;> (first | assumption | infer_instance)) | (skip; done))); (case hy => (rintro wf ⟨hwa, hwb⟩; (((apply opv_indexAddr_arr); exact rfl; exact rfl; (first | omega | (simp only [List.length_map]; omega)); (first | omega | (simp only [List.length_map]; omega)))))))
            ((apply (tk 1)); (case hi => exact rfl); (case hf => kernel_rfl); (case hS => (first | exact trivial | assumption | infer_instance | (refine ⟨?_, ?_⟩ <;> (first | assumption | infer_instance)) | (skip; done))); (case hy => (rintro wf ⟨hwa, hwb⟩; (((apply opv_loadb1); exact rfl; exact rfl; assumption; exact rfl)))))
            refine tkp 2 rfl (by kernel_rfl) (by (first | exact trivial | assumption | infer_instance | (refine ⟨?_, ?_⟩ <;> (first | assumption | infer_instance)) | (skip; done))) rfl (fun wf _ => pk2 wf) rfl ?_
            ((apply (tk 3)); (case hi => exact rfl); (case hf => kernel_rfl); (case hS => (first | exact trivial | assumption | infer_instance | (refine ⟨?_, ?_⟩ <;> (first | assumption | infer_instance)) | (skip; done))); (case hy => (rintro wf ⟨hwa, hwb⟩; (((apply opv_indexAddr_arr); exact rfl; exact rfl; (first | omega | (simp only [List.length_map]; omega)); (first | omega | (simp only [List.length_map]; omega)))))))
            ((apply (tk 4)); (case hi => exact rfl); (case hf => kernel_rfl); (case hS => (first | exact trivial | assumption | infer_instance | (refine ⟨?_, ?_⟩ <;> (first | assumption | infer_instance)) | (skip; done))); (case hy => (rintro wf ⟨hwa, hwb⟩; (((apply opv_loadb1); exact rfl; exact rfl; assumption; exact rfl)))))
            ((apply (tk 5)); (case hi => exact rfl); (case hf => kernel_rfl); (case hS => (first | exact trivial | assumption | infer_instance | (refine ⟨?_, ?_⟩ <;> (first | assumption | infer_instance)) | (skip; done))); (case hy => (rintro wf ⟨hwa, hwb⟩; (((apply opv_indexAddr_arr); exact rfl; exact rfl; (first | omega | (simp only [List.length_map]; omega)); (first | omega | (simp only [List.length_map]; omega)))))))
            ((apply (tk 6)); (case hi => exact rfl); (case hf => kernel_rfl); (case hS => (first | exact trivial | assumption | infer_instance | (refine ⟨?_, ?_⟩ <;> (first | assumption | infer_instance)) | (skip; done))); (case hy => (rintro wf ⟨hwa, hwb⟩; (((apply opv_loadb1); exact rfl; exact rfl; assumption; exact rfl)))))
            refine tkp 7 rfl (by kernel_rfl) (by (first | exact trivial | assumption | infer_instance | (refine ⟨?_, ?_⟩ <;> (first | assumption | infer_instance)) | (skip; done))) rfl (fun wf _ => pk4 wf) rfl ?_
            refine vA_only 8 rfl (by kernel_rfl) (by (first | exact trivial | assumption | infer_instance | (refine ⟨?_, ?_⟩ <;> (first | assumption | infer_instance)) | (skip; done))) (fun K hK => ?_)
            (((apply vL_val); (case h => (apply opw_alloc))); apply vL_nil)
            refine ⟨rfl, hK _ _ ?_⟩
            ((apply (tk 9)); (case hi => exact rfl); (case hf => kernel_rfl); (case hS => (first | exact trivial | assumption | infer_instance | (refine ⟨?_, ?_⟩ <;> (first | assumption | infer_instance)) | (skip; done))); (case hy => (rintro wf ⟨hwa, hwb⟩; (((apply opv_E); exact rfl)))))
            refine vA_only 10 rfl (by kernel_rfl) (by (first | exact trivial | assumption | infer_instance | (refine ⟨?_, ?_⟩ <;> (first | assumption | infer_instance)) | (skip; done))) (fun K hK => ?_)
            (((apply vL_skip); (case h => ((apply ops_store1); exact norm_eq rfl; exact norm_eq rfl; (first | rfl | assumption); infer_instance; (first | decide | exact of_decide_eq_true rfl | (simp; done))))); apply vL_nil)
            refine ⟨rfl, hK _ _ ?_⟩
            refine vA_done (by kernel_rfl) (by (first | exact trivial | assumption | infer_instance | (refine ⟨?_, ?_⟩ <;> (first | assumption | infer_instance)) | (skip; done))) ?_
            have S9 := S8.drew.alloc (cs := [.int .i64 0]) (T := 3) |>.set (cs' := [.int .i64 (j : Int)])
            exact ⟨rfl, by ((apply same_updN; (iterate 10 (((refine same_updO ?_ ?_); rotate_left; exact rfl))); apply same_updN); exact fun _ _ => rfl), C, D, w8.drew.heap.size, congrArg pt hC.symm, rfl, .inl ⟨rfl, rfl⟩, S9⟩
          · have pk2 : ∀ w', Rets Tryz.prog 13 #[.int .i64 q, .int .i64 2] w' fun u w'' => w' = w'' ∧ u = .int .i64 1 := fun w' => (pick_exact q 2 w' (by decide) (by decide)).mono fun u w'' ⟨a, c⟩ => ⟨a, by rw [c, hq]⟩
            refine vC_draw' ((fun wf => Blk wf.heap ob [.int .i64 p, .int .i64 q, .int .i64 r] 74 ∧ Blk wf.heap ca [pt c0, pt c1] 69)) (by (first | exact trivial | assumption | infer_instance | (refine ⟨?_, ?_⟩ <;> (first | assumption | infer_instance)) | (skip; done))) ?_
            ((apply (tk 0)); (case hi => exact rfl); (case hf => kernel_rfl); (case hS => (first | exact trivial | assumption | infer_instance | (refine ⟨?_, ?_⟩ <;> (first | assumption | infer_instance)) | (skip; done))); (case hy => (rintro wf ⟨hwa, hwb⟩; (((apply opv_indexAddr_arr); exact rfl; exact rfl; (first | omega | (simp only [List.length_map]; omega)); (first | omega | (simp only [List.length_map]; omega)))))))
            ((apply (tk 1)); (case hi => exact rfl); (case hf => kernel_rfl); (case hS => (first | exact trivial | assumption | infer_instance | (refine ⟨?_, ?_⟩ <;> (first | assumption | infer_instance)) | (skip; done))); (case hy => (rintro wf ⟨hwa, hwb⟩; (((apply opv_loadb1); exact rfl; exact rfl; assumption; exact rfl)))))
            refine tkp 2 rfl (by kernel_rfl) (by (first | exact trivial | assumption | infer_instance | (refine ⟨?_, ?_⟩ <;> (first | assumption | infer_instance)) | (skip; done))) rfl (fun wf _ => pk2 wf) rfl ?_
            ((apply (tk 3)); (case hi => exact rfl); (case hf => kernel_rfl); (case hS => (first | exact trivial | assumption | infer_instance | (refine ⟨?_, ?_⟩ <;> (first | assumption | infer_instance)) | (skip; done))); (case hy => (rintro wf ⟨hwa, hwb⟩; (((apply opv_indexAddr_arr); exact rfl; exact rfl; (first | omega | (simp only [List.length_map]; omega)); (first | omega | (simp only [List.length_map]; omega)))))))
            ((apply (tk 4)); (case hi => exact rfl); (case hf => kernel_rfl); (case hS => (first | exact trivial | assumption | infer_instance | (refine ⟨?_, ?_⟩ <;> (first | assumption | infer_instance)) | (skip; done))); (case hy => (rintro wf ⟨hwa, hwb⟩; (((apply opv_loadb1); exact rfl; exact rfl; assumption; exact rfl)))))
            ((apply (tk 5)); (case hi => exact rfl); (case hf => kernel_rfl); (case hS => (first | exact trivial | assumption | infer_instance | (refine ⟨?_, ?_⟩ <;> (first | assumption | infer_instance)) | (skip; done))); (case hy => (rintro wf ⟨hwa, hwb⟩; (((apply opv_indexAddr_arr); exact rfl; exact rfl; (first | omega | (simp only [List.length_map]; omega)); (first | omega | (simp only [List.length_map]; omega)))))))
            ((apply (tk 6)); (case hi => exact rfl); (case hf => kernel_rfl); (case hS => (first | exact trivial | assumption | infer_instance | (refine ⟨?_, ?_⟩ <;> (first | assumption | infer_instance)) | (skip; done))); (case hy => (rintro wf ⟨hwa, hwb⟩; (((apply opv_loadb1); exact rfl; exact rfl; assumption; exact rfl)))))
            refine tkp 7 rfl (by kernel_rfl) (by (first | exact trivial | assumption | infer_instance | (refine ⟨?_, ?_⟩ <;> (first | assumption | infer_instance)) | (skip; done))) rfl (fun wf _ => pk4 wf) rfl ?_
            refine vA_only 8 rfl (by kernel_rfl) (by (first | exact trivial | assumption | infer_instance | (refine ⟨?_, ?_⟩ <;> (first | assumption | infer_instance)) | (skip; done))) (fun K hK => ?_)
            (((apply vL_val); (case h => (apply opw_alloc))); apply vL_nil)
            refine ⟨rfl, hK _ _ ?_⟩
            ((apply (tk 9)); (case hi => exact rfl); (case hf => kernel_rfl); (case hS => (first | exact trivial | assumption | infer_instance | (refine ⟨?_, ?_⟩ <;> (first | assumption | infer_instance)) | (skip; done))); (case hy => (rintro wf ⟨hwa, hwb⟩; (((apply opv_E); exact rfl)))))
            refine vA_only 10 rfl (by kernel_rfl) (by (first | exact trivial | assumption | infer_instance | (refine ⟨?_, ?_⟩ <;> (first | assumption | infer_instance)) | (skip; done))) (fun K hK => ?_)
            (((apply vL_skip); (case h => ((apply ops_store1); exact norm_eq rfl; exact norm_eq rfl; (first | rfl | assumption); infer_instance; (first | decide | exact of_decide_eq_true rfl | (simp; done))))); apply vL_nil)
            refine ⟨rfl, hK _ _ ?_⟩
            refine vA_done (by kernel_rfl) (by (first | exact trivial | assumption | infer_instance | (refine ⟨?_, ?_⟩ <;> (first | assumption | infer_instance)) | (skip; done))) ?_
            have S9 := S8.drew.alloc (cs := [.int .i64 0]) (T := 3) |>.set (cs' := [.int .i64 (j : Int)])
            exact ⟨rfl, by ((apply same_updN; (iterate 10 (((refine same_updO ?_ ?_); rotate_left; exact rfl))); apply same_updN); exact fun _ _ => rfl), D, C, w8.drew.heap.size, congrArg pt hD.symm, rfl, .inr ⟨rfl, rfl⟩, (S9.ac (by unfold TtA TtR; ac_rfl))⟩
        clear hca hob S8
        rintro junk25 _ _ w9 ⟨X, Y, nb, rfl, rfl, hXY, S9⟩
        have hob := (S9.swap.ac (star_assoc _ _ _)).blk
        have hnb := S9.blk
        (apply seqP_normal; (iterate 2 (apply vC_seq)); apply vC_region; ((apply vL_val); (case h => ((apply opv_indexAddr_arr); exact rfl; exact rfl; (first | omega | (simp only [List.length_map]; omega)); (first | omega | (simp only [List.length_map]; omega))))); ((apply vL_val); (case h => ((apply opv_loadb1); exact rfl; exact rfl; assumption; exact rfl))))
        refine vL_callF rfl (pick_exact p 6 w9 (by decide) (by decide)) rfl ?_
        rintro _ _ ⟨rfl, rfl⟩
        (repeat (first | ((with_reducible apply vL_val); (case h => first | ((with_reducible apply opv_E); exact rfl) | ((with_reducible apply opv_loadb1); exact rfl; exact rfl; (first | assumption | infer_instance); exact rfl) | ((with_reducible apply opv_fieldAddr); exact rfl) | ((with_reducible apply opv_move); ((conv => lhs; whnf) <;> exact rfl)) | ((with_reducible apply opv_assign); ((conv => lhs; whnf) <;> exact rfl)) | ((with_reducible apply opv_add); exact rfl; exact rfl; (first | omega | (simp only [List.length_map]; omega))) | ((with_reducible apply opv_sub); exact rfl; exact rfl; (first | omega | (simp only [List.length_map]; omega))) | ((with_reducible apply opv_indexAddr); (first | exact norm_eq rfl | ((conv => lhs; whnf) <;> exact rfl)); exact rfl; (first | assumption | infer_instance); (first | omega | (simp only [List.length_map]; omega)); (first | omega | (simp only [List.length_map]; omega))) | ((with_reducible apply opv_fieldAddr_ea); exact rfl) | ((with_reducible apply opv_ld_el); exact rfl; exact rfl; (first | assumption | infer_instance); assumption; exact rfl) | ((with_reducible apply opv_ld_eln); exact rfl; exact rfl; (first | assumption | infer_instance); assumption) | ((with_reducible apply opv_lenc); exact rfl) | ((with_reducible apply opv_len); (first | exact norm_eq rfl | ((conv => lhs; whnf) <;> exact rfl)); (first | assumption | infer_instance)) | ((with_reducible apply opv_not_d); exact rfl) | ((with_reducible apply opv_not); exact rfl) | ((with_reducible apply opv_loadbC); exact rfl; exact rfl; (first | assumption | infer_instance); (first | exact (rfl : _ = [_]) | exact (rfl : _ = [_, _]) | exact (rfl : _ = [_, _, _]) | exact (rfl : _ = [_, _, _, _]) | exact (rfl : _ = [_, _, _, _, _]) | exact (rfl : _ = [_, _, _, _, _, _]) | exact (rfl : _ = [_, _, _, _, _, _, _]) | exact (rfl : _ = [_, _, _, _, _, _, _, _]) | exact (rfl : _ = [_, _, _, _, _, _, _, _, _]) | exact (rfl : _ = [_, _, _, _, _, _, _, _, _, _]) | exact (rfl : _ = [_, _, _, _, _, _, _, _, _, _, _]) | exact (rfl : _ = [_, _, _, _, _, _, _, _, _, _, _, _])); exact rfl) | ((with_reducible apply opv_loadb); exact rfl; exact rfl; (first | assumption | infer_instance); exact rfl) | ((with_reducible apply opv_makeFunc); exact rfl) | ((with_reducible apply opv_eql_pnil); exact rfl; exact rfl; (simp; done)) | ((with_reducible apply opv_neq_pnil); exact rfl; exact rfl; (simp; done)) | ((with_reducible apply opv_indexAddr_arr); exact rfl; exact rfl; (first | omega | (simp only [List.length_map]; omega)); (first | omega | (simp only [List.length_map]; omega))) | ((with_reducible apply opv_indexAddr_ea); exact rfl; exact rfl; (first | omega | (simp only [List.length_map]; omega)); (first | omega | (simp only [List.length_map]; omega))) | ((with_reducible apply opv_len_str); exact rfl) | ((with_reducible apply opv_eql_str); exact rfl; exact rfl) | ((with_reducible apply opv_neq_str); exact rfl; exact rfl) | ((with_reducible apply opv_eql_bool); exact rfl; exact rfl) | ((with_reducible apply opv_neq_bool); exact rfl; exact rfl) | ((with_reducible apply opv_eql_agg); exact rfl; exact rfl; (first | exact ⟨rfl, rfl, trivial⟩ | exact ⟨rfl, trivial⟩ | exact ⟨rfl, rfl, rfl, trivial⟩ | exact ⟨rfl, rfl, rfl, rfl, trivial⟩ | exact ⟨rfl, rfl, rfl, rfl, rfl, trivial⟩); (first | exact ⟨rfl, rfl, trivial⟩ | exact ⟨rfl, trivial⟩ | exact ⟨rfl, rfl, rfl, trivial⟩ | exact ⟨rfl, rfl, rfl, rfl, trivial⟩ | exact ⟨rfl, rfl, rfl, rfl, rfl, trivial⟩)) | ((with_reducible apply opv_neq_agg); exact rfl; exact rfl; (first | exact ⟨rfl, rfl, trivial⟩ | exact ⟨rfl, trivial⟩ | exact ⟨rfl, rfl, rfl, trivial⟩ | exact ⟨rfl, rfl, rfl, rfl, trivial⟩ | exact ⟨rfl, rfl, rfl, rfl, rfl, trivial⟩); (first | exact ⟨rfl, rfl, trivial⟩ | exact ⟨rfl, trivial⟩ | exact ⟨rfl, rfl, rfl, trivial⟩ | exact ⟨rfl, rfl, rfl, rfl, trivial⟩ | exact ⟨rfl, rfl, rfl, rfl, rfl, trivial⟩)) | ((with_reducible apply opv_extract); (first | exact norm_eq rfl | ((conv => lhs; whnf) <;> exact rfl)); exact rfl) | ((with_reducible apply opv_field1); exact rfl; exact rfl) | ((with_reducible apply opv_fieldn); exact rfl) | ((with_reducible apply opv_mul); exact rfl; exact rfl; (first | omega | (simp only [List.length_map]; omega))) | ((with_reducible apply opv_neg); exact rfl; (first | omega | (simp only [List.length_map]; omega))) | ((with_reducible apply opv_rem); exact rfl; exact rfl; (first | omega | (simp only [List.length_map]; omega)); (first | omega | (simp only [List.length_map]; omega))) | ((with_reducible apply opv_quo); exact rfl; exact rfl; (first | omega | (simp only [List.length_map]; omega)); (first | omega | (simp only [List.length_map]; omega))) | ((with_reducible apply opv_quou); exact rfl; exact rfl; (first | omega | (simp only [List.length_map]; omega)); (first | omega | (simp only [List.length_map]; omega))) | ((with_reducible apply opv_buildA); exact rfl; (first | exact (rfl : _ = some []) | exact (rfl : _ = some [_]) | exact (rfl : _ = some [_, _]) | exact (rfl : _ = some [_, _, _]) | exact (rfl : _ = some [_, _, _, _]) | exact (rfl : _ = some [_, _, _, _, _]) | exact (rfl : _ = some [_, _, _, _, _, _]) | exact (rfl : _ = some [_, _, _, _, _, _, _]) | exact (rfl : _ = some [_, _, _, _, _, _, _, _]) | exact (rfl : _ = some [_, _, _, _, _, _, _, _, _]) | exact (rfl : _ = some [_, _, _, _, _, _, _, _, _, _]) | exact (rfl : _ = some [_, _, _, _, _, _, _, _, _, _, _]) | exact (rfl : _ = some [_, _, _, _, _, _, _, _, _, _, _, _]) | exact (rfl : _ = some [_, _, _, _, _, _, _, _, _, _, _, _, _]) | exact (rfl : _ = some [_, _, _, _, _, _, _, _, _, _, _, _, _, _]) | exact (rfl : _ = some [_, _, _, _, _, _, _, _, _, _, _, _, _, _, _]) | exact (rfl : _ = some [_, _, _, _, _, _, _, _, _, _, _, _, _, _, _, _]) | exact (rfl : _ = some [_, _, _, _, _, _, _, _, _, _, _, _, _, _, _, _, _, _, _, _, _, _, _]) | exact (rfl : _ = some [_, _, _, _, _, _, _, _, _, _, _, _, _, _, _, _, _, _, _, _, _, _, _, _]) | exact (rfl : _ = some [_, _, _, _, _, _, _, _, _, _, _, _, _, _, _, _, _, _, _, _, _, _, _, _, _, _]) | exact (rfl : _ = some [_, _, _, _, _, _, _, _, _, _, _, _, _, _, _, _, _, _]))) | ((with_reducible apply opv_buildS); exact rfl; (first | exact (rfl : _ = some []) | exact (rfl : _ = some [_]) | exact (rfl : _ = some [_, _]) | exact (rfl : _ = some [_, _, _]) | exact (rfl : _ = some [_, _, _, _]) | exact (rfl : _ = some [_, _, _, _, _]) | exact (rfl : _ = some [_, _, _, _, _, _]) | exact (rfl : _ = some [_, _, _, _, _, _, _]) | exact (rfl : _ = some [_, _, _, _, _, _, _, _]) | exact (rfl : _ = some [_, _, _, _, _, _, _, _, _]) | exact (rfl : _ = some [_, _, _, _, _, _, _, _, _, _]) | exact (rfl : _ = some [_, _, _, _, _, _, _, _, _, _, _]) | exact (rfl : _ = some [_, _, _, _, _, _, _, _, _, _, _, _]) | exact (rfl : _ = some [_, _, _, _, _, _, _, _, _, _, _, _, _]) | exact (rfl : _ = some [_, _, _, _, _, _, _, _, _, _, _, _, _, _]) | exact (rfl : _ = some [_, _, _, _, _, _, _, _, _, _, _, _, _, _, _]) | exact (rfl : _ = some [_, _, _, _, _, _, _, _, _, _, _, _, _, _, _, _]) | exact (rfl : _ = some [_, _, _, _, _, _, _, _, _, _, _, _, _, _, _, _, _, _, _, _, _, _, _]) | exact (rfl : _ = some [_, _, _, _, _, _, _, _, _, _, _, _, _, _, _, _, _, _, _, _, _, _, _, _]) | exact (rfl : _ = some [_, _, _, _, _, _, _, _, _, _, _, _, _, _, _, _, _, _, _, _, _, _, _, _, _, _]) | exact (rfl : _ = some [_, _, _, _, _, _, _, _, _, _, _, _, _, _, _, _, _, _]))) | ((with_reducible apply opv_eql_snil); exact rfl; exact rfl) | ((with_reducible apply opv_eql_fnil); exact rfl; exact rfl) | ((with_reducible apply opv_eql_fnil2); exact rfl; exact rfl) | ((with_reducible apply opv_slice_hi'); exact rfl; exact rfl; (first | omega | (simp only [List.length_map]; omega)); (first | omega | (simp only [List.length_map]; omega))) | ((with_reducible apply opv_slice_lo'); exact rfl; exact rfl; (first | omega | (simp only [List.length_map]; omega)); (first | omega | (simp only [List.length_map]; omega))) | ((with_reducible apply opv_slice_lh'); exact rfl; exact rfl; exact rfl; (first | omega | (simp only [List.length_map]; omega)); (first | omega | (simp only [List.length_map]; omega)); (first | omega | (simp only [List.length_map]; omega))) | ((with_reducible apply opv_slice3); exact rfl; exact rfl; exact rfl; exact rfl; (first | omega | (simp only [List.length_map]; omega)); (first | omega | (simp only [List.length_map]; omega)); (first | omega | (simp only [List.length_map]; omega)); (first | omega | (simp only [List.length_map]; omega))) | ((with_reducible apply opv_conv_u); exact rfl; (first | omega | (simp only [List.length_map]; omega))) | ((with_reducible apply opv_conv_i); exact rfl; (first | omega | (simp only [List.length_map]; omega))) | ((with_reducible apply opv_index_str); exact rfl; exact rfl; (first | omega | (simp only [List.length_map]; omega)); assumption) | ((with_reducible apply opv_geqS); exact rfl; exact rfl) | ((with_reducible apply opv_lssS); exact rfl; exact rfl) | ((with_reducible apply opv_leqS); exact rfl; exact rfl) | ((with_reducible apply opv_min); exact rfl; exact rfl) | ((with_reducible apply opv_max); exact rfl; exact rfl) | ((with_reducible apply opv_eql_ptr); exact rfl; exact rfl; exact rfl; (first | assumption | infer_instance); (first | assumption | infer_instance)) | ((with_reducible apply opv_neq_ptr); exact rfl; exact rfl; exact rfl; (first | assumption | infer_instance); (first | assumption | infer_instance)))) | with_reducible apply vL_nil | first | ((with_reducible apply vL_wanted); exact rfl) | ((with_reducible apply vL_unwanted'); exact rfl; exact rfl) | ((with_reducible apply vL_unwanted_none); exact rfl) | ((with_reducible apply vL_val); (case h => first | ((with_reducible apply opw_box1); (first | exact norm_eq rfl | ((conv => lhs; whnf) <;> exact rfl)); (first | rfl | assumption)) | ((with_reducible apply opw_boxn); exact rfl) | (with_reducible apply opw_alloc) | ((with_reducible apply opw_buildSl); exact rfl; exact rfl; exact rfl; (first | exact (rfl : _ = some []) | exact (rfl : _ = some [_]) | exact (rfl : _ = some [_, _]) | exact (rfl : _ = some [_, _, _]) | exact (rfl : _ = some [_, _, _, _]) | exact (rfl : _ = some [_, _, _, _, _]) | exact (rfl : _ = some [_, _, _, _, _, _]) | exact (rfl : _ = some [_, _, _, _, _, _, _]) | exact (rfl : _ = some [_, _, _, _, _, _, _, _]) | exact (rfl : _ = some [_, _, _, _, _, _, _, _, _]) | exact (rfl : _ = some [_, _, _, _, _, _, _, _, _, _]) | exact (rfl : _ = some [_, _, _, _, _, _, _, _, _, _, _]) | exact (rfl : _ = some [_, _, _, _, _, _, _, _, _, _, _, _]) | exact (rfl : _ = some [_, _, _, _, _, _, _, _, _, _, _, _, _]) | exact (rfl : _ = some [_, _, _, _, _, _, _, _, _, _, _, _, _, _]) | exact (rfl : _ = some [_, _, _, _, _, _, _, _, _, _, _, _, _, _, _]) | exact (rfl : _ = some [_, _, _, _, _, _, _, _, _, _, _, _, _, _, _, _]) | exact (rfl : _ = some [_, _, _, _, _, _, _, _, _, _, _, _, _, _, _, _, _, _, _, _, _, _, _]) | exact (rfl : _ = some [_, _, _, _, _, _, _, _, _, _, _, _, _, _, _, _, _, _, _, _, _, _, _, _]) | exact (rfl : _ = some [_, _, _, _, _, _, _, _, _, _, _, _, _, _, _, _, _, _, _, _, _, _, _, _, _, _]) | exact (rfl : _ = some [_, _, _, _, _, _, _, _, _, _, _, _, _, _, _, _, _, _]))) | ((with_reducible apply opw_makeSlice); exact rfl; exact rfl; exact rfl; decide; (first | omega | (simp only [List.length_map]; omega)); (first | decide | (first | omega | (simp only [List.length_map]; omega))); (first | omega | (simp only [List.length_map]; omega))))) | ((with_reducible apply vL_skip); (case h => first | ((with_reducible apply ops_store1); (first | exact norm_eq rfl | ((conv => lhs; whnf) <;> exact rfl)); (first | exact norm_eq rfl | ((conv => lhs; whnf) <;> exact rfl)); (first | rfl | assumption); (first | assumption | infer_instance); (first | decide | exact of_decide_eq_true rfl | (simp; done))) | ((with_reducible apply ops_storen); (first | exact norm_eq rfl | ((conv => lhs; whnf) <;> exact rfl)); (first | exact norm_eq rfl | ((conv => lhs; whnf) <;> exact rfl)); exact rfl; (first | exact (fun u hu => EncOk.one _ u hu) | (intro u hu; simp at hu; rcases hu with rfl | rfl <;> (first | rfl | assumption)) | (intro u hu; simp at hu; rcases hu with rfl | rfl | rfl <;> (first | rfl | assumption)) | (intro u hu; simp at hu; rcases hu with rfl | rfl | rfl | rfl <;> (first | rfl | assumption)) | exact (fun u hu => EncOk.one _ u (List.mem_of_mem_drop (List.mem_of_mem_take hu))) | (intro u hu; simp only [List.mem_cons, List.not_mem_nil, or_false] at hu; rcases hu with rfl | rfl | rfl | rfl | rfl | rfl | rfl | rfl | rfl | rfl <;> (first | rfl | assumption)) | (intro u hu; simp only [List.mem_cons, List.not_mem_nil, or_false] at hu; rcases hu with rfl | rfl | rfl | rfl | rfl | rfl | rfl | rfl | rfl | rfl | rfl | rfl | rfl | rfl | rfl | rfl | rfl | rfl | rfl | rfl | rfl | rfl | rfl <;> (first | rfl | assumption)) | (intro u hu; simp only [List.mem_cons, List.not_mem_nil, or_false] at hu; rcases hu with rfl | rfl | rfl | rfl | rfl | rfl | rfl | rfl | rfl | rfl | rfl | rfl | rfl | rfl | rfl | rfl | rfl | rfl | rfl | rfl | rfl | rfl | rfl | rfl <;> (first | rfl | assumption)) | (intro u hu; simp only [List.mem_cons, List.not_mem_nil, or_false] at hu; rcases hu with rfl | rfl | rfl | rfl | rfl | rfl | rfl | rfl | rfl | rfl | rfl | rfl | rfl | rfl | rfl | rfl | rfl | rfl | rfl | rfl | rfl | rfl | rfl | rfl | rfl | rfl <;> (first | rfl | assumption))); (first | assumption | infer_instance); (first | decide | exact of_decide_eq_true rfl | (simp; done)))))))
        with_reducible apply seqP_normal
        generalize hkb : ((nb, [.int .i64 (j : Int)], 3) :: (ob, [.int .i64 p, .int .i64 q, .int .i64 r], 74) :: kb : List Bx) = kb2
        have S10 : At (TtA rb fb tb kb2 ⟨b, ib, fs⟩ X Y (Pt gb (gE g) 70 * R3)) w No w9 := by
          rw [← hkb]
          have h1 : At (Pt ob [.int .i64 p, .int .i64 q, .int .i64 r] 74 * (Pt nb [.int .i64 (j : Int)] 3 * TtA rb fb tb kb ⟨b, ib, fs⟩ X Y (Pt gb (gE g) 70 * R3))) w No w9 := S9.ac (by rw [← star_assoc, ← star_assoc, star_comm (Pt nb _ _)])
          have h2 : At (Pt nb [.int .i64 (j : Int)] 3 * TtA rb fb tb ((ob, [.int .i64 p, .int .i64 q, .int .i64 r], 74) :: kb) ⟨b, ib, fs⟩ X Y (Pt gb (gE g) 70 * R3)) w No w9 := h1.ac (by unfold TtA TtR; rw [bxl_cons]; ac_rfl)
          exact tta_box h2
        have hsub : ∀ b ∈ kb, b ∈ kb2 := fun b hb => by rw [← hkb]; exact List.mem_cons_of_mem _ (List.mem_cons_of_mem _ hb)
        have mn : (nb, [.int .i64 (j : Int)], 3) ∈ kb2 := by rw [← hkb]; simp
        have mo : (ob, [.int .i64 p, .int .i64 q, .int .i64 r], 74) ∈ kb2 := by rw [← hkb]; simp
        clear S9 hkb
        have hT2 := hT.bx hsub
        have hc2 := TtC.bx (T := ⟨b, ib, fs⟩) hc hsub
        have hd2 := TtC.bx (T := ⟨b, ib, fs⟩) hd hsub
        have hX2 : TtC kb2 tb b k X ∧ TtC kb2 tb b k Y ∧ ((X.cb = c0 ∧ Y.cb = c1) ∨ (X.cb = c1 ∧ Y.cb = c0)) := by
          rcases hXY with ⟨rfl, rfl⟩ | ⟨rfl, rfl⟩
          · exact ⟨hc2, hd2, .inl ⟨hC, hD⟩⟩
          · exact ⟨hd2, hc2, .inr ⟨hD, hC⟩⟩
        obtain ⟨hX3, hY3, hcb3⟩ := hX2
        have see : ∀ {kb : List Bx} {T : T4} {X Y : CH} {g : List Int} {w' : World}, At (TtA rb fb tb kb T X Y (Pt gb (gE g) 70 * R3)) w No w' → Blk w'.heap gb (gE g) 70 ∧ Blk w'.heap ca [pt c0, pt c1] 69 ∧ Blk w'.heap ka (k4 b 4) 72 := fun {kb T X Y g w'} h => by
          rw [hR3] at h
          exact ⟨(h.ac (show _ = Pt gb (gE g) 70 * TtA rb fb tb kb T X Y (Pt ca [pt c0, pt c1] 69 * (Pt ka (k4 b 4) 72 * RtA rb none 0 [] [])) by unfold TtA TtR; ac_rfl)).blk, (h.ac (show _ = Pt ca [pt c0, pt c1] 69 * TtA rb fb tb kb T X Y (Pt gb (gE g) 70 * (Pt ka (k4 b 4) 72 * RtA rb none 0 [] [])) by unfold TtA TtR; ac_rfl)).blk, (h.ac (show _ = Pt ka (k4 b 4) 72 * TtA rb fb tb kb T X Y (Pt gb (gE g) 70 * (Pt ca [pt c0, pt c1] 69 * RtA rb none 0 [] [])) by unfold TtA TtR; ac_rfl)).blk⟩
        obtain ⟨vg, vca, vka⟩ := see S10
        have vn := tta_bx S10 mn
        have vo := tta_bx S10 mo
        obtain ⟨gj, hgj⟩ : ∃ x, g[j]? = some x := ⟨_, List.getElem?_eq_getElem (by omega)⟩
        have hgjb := hgb gj (List.mem_of_getElem? hgj)
        have e0 : 0 + ((j : Nat) : Int).toNat * 1 = j := by omega
        have lgj : (gE g)[0 + ((j : Nat) : Int).toNat * 1]? = some (.int .i64 gj) := by rw [e0]; unfold gE; rw [List.getElem?_map, hgj]; rfl
        have lkj : (k4 b 4)[0 + ((j : Nat) : Int).toNat * 1]? = some (pt (b j)) := by rw [e0]; exact k4_get hj4 hj4
        have hgb' : ∀ x ∈ g, 0 ≤ x ∧ x ≤ ((k + 1 : Nat) : Int) := fun x hx => by have := hgb x hx; omega
        refine vC_meet0 178405961588244985132266856715255413467381760 (fun w' => ∃ (fs' : Nat → Bool) (X' Y' : CH) (g' : List Int), TtC kb2 tb b (k + 1) X' ∧ TtC kb2 tb b (k + 1) Y' ∧ ((X'.cb = c0 ∧ Y'.cb = c1) ∨ (X'.cb = c1 ∧ Y'.cb = c0)) ∧ g'.length = 4 ∧ (∀ x ∈ g', 0 ≤ x ∧ x ≤ ((k + 1 : Nat) : Int)) ∧ At (TtA rb fb tb kb2 ⟨b, ib, fs'⟩ X' Y' (Pt gb (gE g') 70 * R3)) w No w') ?_ ?_
        · by_cases k0 : p % 6 = 0
          · by_cases hz : gj = 0
            · (apply vC_block; apply vC_seq; apply vC_region; (iterate 2 (((apply vL_val); (case h => ((apply opv_E); exact rfl))))); apply vL_nil; apply seqP_normal; (refine vC_cond_dec rfl (fun _ => ?_) (fun h => by omega)); apply vC_seq; apply vC_region; ((apply vL_val); (case h => ((apply opv_loadb1); exact rfl; exact rfl; assumption; exact rfl))); ((apply vL_val); (case h => ((apply opv_indexAddr_arr); exact rfl; exact rfl; (first | omega | (simp only [List.length_map]; omega)); (first | omega | (simp only [List.length_map]; omega))))))
              refine vL_val (opv_loadb1 rfl rfl vg lgj) ?_
              (((apply vL_val); (case h => ((apply opv_E); exact rfl))); apply vL_nil; apply seqP_normal; (refine vC_cond_dec rfl (fun _ => ?_) (fun h => by omega)); apply vC_region; (iterate 2 (((apply vL_val); (case h => ((apply opv_E); exact rfl))))); ((apply vL_val); (case h => ((apply opv_loadb1); exact rfl; exact rfl; assumption; exact rfl))); ((apply vL_val); (case h => ((apply opv_indexAddr_arr); exact rfl; exact rfl; (first | omega | (simp only [List.length_map]; omega)); (first | omega | (simp only [List.length_map]; omega))))))
              refine vL_val (opv_loadb1 rfl rfl vka lkj) ?_
              (((apply vL_val); (case h => ((apply opv_makeFunc); exact rfl))))
              refine vL_callF rfl (tt_waitsend (T := ⟨b, ib, fs⟩) (by omega) hX3 S10 hj4 mn (k : Int)) rfl ?_
              rintro _ w10 ⟨X', h1, h2, S11⟩
              (apply vL_nil; apply blockP_normal)
              exact ⟨rfl, by (((iterate 13 (((refine same_updO ?_ ?_); rotate_left; exact rfl)))); exact fun _ _ => rfl), fs, X', Y, g, h1, hY3.up (T := ⟨b, ib, fs⟩) (Nat.le_succ k), by rw [h2]; exact hcb3, hgl, hgb', S11⟩
            · (apply vC_block; apply vC_seq; apply vC_region; (iterate 2 (((apply vL_val); (case h => ((apply opv_E); exact rfl))))); apply vL_nil; apply seqP_normal; (refine vC_cond_dec rfl (fun _ => ?_) (fun h => by omega)); apply vC_seq; apply vC_region; ((apply vL_val); (case h => ((apply opv_loadb1); exact rfl; exact rfl; assumption; exact rfl))); ((apply vL_val); (case h => ((apply opv_indexAddr_arr); exact rfl; exact rfl; (first | omega | (simp only [List.length_map]; omega)); (first | omega | (simp only [List.length_map]; omega))))))
              refine vL_val (opv_loadb1 rfl rfl vg lgj) ?_
              (((apply vL_val); (case h => ((apply opv_E); exact rfl))); apply vL_nil; apply seqP_normal; (refine vC_cond_dec rfl (fun h => by omega) (fun _ => ?_)); apply vC_skip; apply blockP_normal)
              exact ⟨rfl, by (((iterate 6 (((refine same_updO ?_ ?_); rotate_left; exact rfl)))); exact fun _ _ => rfl), fs, X, Y, g, hX3.up (T := ⟨b, ib, fs⟩) (Nat.le_succ k), hY3.up (T := ⟨b, ib, fs⟩) (Nat.le_succ k), hcb3, hgl, hgb', S10⟩
          by_cases k1 : p % 6 = 1
          · by_cases hz : gj = 0
            · (apply vC_block; (iterate 16 (first | with_reducible apply vC_seq | with_reducible apply vC_region | with_reducible apply seqP_normal | ((with_reducible apply vL_val); (case h => ((with_reducible apply opv_E); exact rfl))) | with_reducible apply vL_nil | (refine vC_cond_dec rfl (fun _ => ?_) (fun h => by omega)) | (refine vC_cond_dec rfl (fun h => by omega) (fun _ => ?_)))); ((apply vL_val); (case h => ((apply opv_loadb1); exact rfl; exact rfl; assumption; exact rfl))); ((apply vL_val); (case h => ((apply opv_indexAddr_arr); exact rfl; exact rfl; (first | omega | (simp only [List.length_map]; omega)); (first | omega | (simp only [List.length_map]; omega))))))
              refine vL_val (opv_loadb1 rfl rfl vg lgj) ?_
              (((apply vL_val); (case h => ((apply opv_E); exact rfl))); apply vL_nil; apply seqP_normal; (refine vC_cond_dec rfl (fun _ => ?_) (fun h => by omega)); apply vC_region; ((apply vL_val); (case h => ((apply opv_E); exact rfl))); ((apply vL_val); (case h => ((apply opv_loadb1); exact rfl; exact rfl; assumption; exact rfl))); ((apply vL_val); (case h => ((apply opv_indexAddr_arr); exact rfl; exact rfl; (first | omega | (simp only [List.length_map]; omega)); (first | omega | (simp only [List.length_map]; omega))))))
              refine vL_val (opv_loadb1 rfl rfl vka lkj) ?_
              (((apply vL_val); (case h => ((apply opv_makeFunc); exact rfl))))
              refine vL_callF rfl (tt_waitrecv (T := ⟨b, ib, fs⟩) (by omega) hX3 S10 hj4 mn) rfl ?_
              rintro _ w10 ⟨X', h1, h2, S11⟩
              (apply vL_nil; apply blockP_normal)
              exact ⟨rfl, by (((iterate 14 (((refine same_updO ?_ ?_); rotate_left; exact rfl)))); exact fun _ _ => rfl), fs, X', Y, g, h1, hY3.up (T := ⟨b, ib, fs⟩) (Nat.le_succ k), by rw [h2]; exact hcb3, hgl, hgb', S11⟩
            · (apply vC_block; (iterate 16 (first | with_reducible apply vC_seq | with_reducible apply vC_region | with_reducible apply seqP_normal | ((with_reducible apply vL_val); (case h => ((with_reducible apply opv_E); exact rfl))) | with_reducible apply vL_nil | (refine vC_cond_dec rfl (fun _ => ?_) (fun h => by omega)) | (refine vC_cond_dec rfl (fun h => by omega) (fun _ => ?_)))); ((apply vL_val); (case h => ((apply opv_loadb1); exact rfl; exact rfl; assumption; exact rfl))); ((apply vL_val); (case h => ((apply opv_indexAddr_arr); exact rfl; exact rfl; (first | omega | (simp only [List.length_map]; omega)); (first | omega | (simp only [List.length_map]; omega))))))
              refine vL_val (opv_loadb1 rfl rfl vg lgj) ?_
              (((apply vL_val); (case h => ((apply opv_E); exact rfl))); apply vL_nil; apply seqP_normal; (refine vC_cond_dec rfl (fun h => by omega) (fun _ => ?_)); apply vC_skip; apply blockP_normal)
              exact ⟨rfl, by (((iterate 8 (((refine same_updO ?_ ?_); rotate_left; exact rfl)))); exact fun _ _ => rfl), fs, X, Y, g, hX3.up (T := ⟨b, ib, fs⟩) (Nat.le_succ k), hY3.up (T := ⟨b, ib, fs⟩) (Nat.le_succ k), hcb3, hgl, hgb', S10⟩
          by_cases k2 : p % 6 = 2
          · (apply vC_block; (iterate 24 (first | with_reducible apply vC_seq | with_reducible apply vC_region | with_reducible apply seqP_normal | ((with_reducible apply vL_val); (case h => ((with_reducible apply opv_E); exact rfl))) | with_reducible apply vL_nil | (refine vC_cond_dec rfl (fun _ => ?_) (fun h => by omega)) | (refine vC_cond_dec rfl (fun h => by omega) (fun _ => ?_)))))
            refine vL_callF rfl (tt_trysend' hT2 hX3 S10 (k : Int)) rfl ?_
            rintro _ w10 ⟨fs', X', h1, h2, S11⟩
            (apply vL_nil; apply blockP_normal)
            exact ⟨rfl, by (((iterate 9 (((refine same_updO ?_ ?_); rotate_left; exact rfl)))); exact fun _ _ => rfl), fs', X', Y, g, TtC.up (T := ⟨b, ib, fs⟩) h1 (Nat.le_succ k), hY3.up (T := ⟨b, ib, fs⟩) (Nat.le_succ k), by rw [h2]; exact hcb3, hgl, hgb', S11⟩
          by_cases k3 : p % 6 = 3
          · (apply vC_block; (iterate 30 (first | with_reducible apply vC_seq | with_reducible apply vC_region | with_reducible apply seqP_normal | ((with_reducible apply vL_val); (case h => ((with_reducible apply opv_E); exact rfl))) | with_reducible apply vL_nil | (refine vC_cond_dec rfl (fun _ => ?_) (fun h => by omega)) | (refine vC_cond_dec rfl (fun h => by omega) (fun _ => ?_)))))
            refine vL_callF rfl (tt_tryrecv' hT2 hX3 S10) rfl ?_
            rintro _ w10 ⟨fs', X', h1, h2, S11⟩
            (apply vL_nil; apply blockP_normal)
            exact ⟨rfl, by (((iterate 10 (((refine same_updO ?_ ?_); rotate_left; exact rfl)))); exact fun _ _ => rfl), fs', X', Y, g, TtC.up (T := ⟨b, ib, fs⟩) h1 (Nat.le_succ k), hY3.up (T := ⟨b, ib, fs⟩) (Nat.le_succ k), by rw [h2]; exact hcb3, hgl, hgb', S11⟩
          by_cases k4' : p % 6 = 4
          · have S11 : ∃ U V : CH, U.cb = c0 ∧ V.cb = c1 ∧ TtC kb2 tb b k U ∧ TtC kb2 tb b k V ∧ At (TtA rb fb tb kb2 ⟨b, ib, fs⟩ U V (Pt gb (gE g) 70 * R3)) w No w9 := by
              rcases hcb3 with ⟨h1, h2⟩ | ⟨h1, h2⟩
              · exact ⟨X, Y, h1, h2, hX3, hY3, S10⟩
              · exact ⟨Y, X, h2, h1, hY3, hX3, tta_swap S10⟩
            obtain ⟨U, V, hU, hV, hUc, hVc, S11⟩ := S11
            (apply vC_block; (iterate 36 (first | with_reducible apply vC_seq | with_reducible apply vC_region | with_reducible apply seqP_normal | ((with_reducible apply vL_val); (case h => ((with_reducible apply opv_E); exact rfl))) | with_reducible apply vL_nil | (refine vC_cond_dec rfl (fun _ => ?_) (fun h => by omega)) | (refine vC_cond_dec rfl (fun h => by omega) (fun _ => ?_)))))
            refine vC_draw' ((fun wf => Blk wf.heap nb [.int .i64 (j : Int)] 3 ∧ Blk wf.heap ca [pt c0, pt c1] 69 ∧ Blk wf.heap ka (k4 b 4) 72)) (by (first | exact trivial | assumption | infer_instance | (refine ⟨?_, ?_, ?_⟩ <;> (first | assumption | infer_instance)) | (skip; done))) ?_
            ((apply (tk 0)); (case hi => exact rfl); (case hf => kernel_rfl); (case hS => (first | exact trivial | assumption | infer_instance | (refine ⟨?_, ?_, ?_⟩ <;> (first | assumption | infer_instance)) | (skip; done))); (case hy => (rintro wf ⟨hwa, hwb, hwc⟩; (((apply opv_indexAddr_arr); exact rfl; exact rfl; (first | omega | (simp only [List.length_map]; omega)); (first | omega | (simp only [List.length_map]; omega)))))))
            ((apply (tk 1)); (case hi => exact rfl); (case hf => kernel_rfl); (case hS => (first | exact trivial | assumption | infer_instance | (refine ⟨?_, ?_, ?_⟩ <;> (first | assumption | infer_instance)) | (skip; done))); (case hy => (rintro wf ⟨hwa, hwb, hwc⟩; (((apply opv_loadb1); exact rfl; exact rfl; assumption; exact rfl)))))
            ((apply (tk 2)); (case hi => exact rfl); (case hf => kernel_rfl); (case hS => (first | exact trivial | assumption | infer_instance | (refine ⟨?_, ?_, ?_⟩ <;> (first | assumption | infer_instance)) | (skip; done))); (case hy => (rintro wf ⟨hwa, hwb, hwc⟩; (((apply opv_loadb1); exact rfl; exact rfl; assumption; exact rfl)))))
            ((apply (tk 3)); (case hi => exact rfl); (case hf => kernel_rfl); (case hS => (first | exact trivial | assumption | infer_instance | (refine ⟨?_, ?_, ?_⟩ <;> (first | assumption | infer_instance)) | (skip; done))); (case hy => (rintro wf ⟨hwa, hwb, hwc⟩; (((apply opv_indexAddr_arr); exact rfl; exact rfl; (first | omega | (simp only [List.length_map]; omega)); (first | omega | (simp only [List.length_map]; omega)))))))
            (apply (tk 4)); (case hi => exact rfl); (case hf => kernel_rfl); (case hS => (first | exact trivial | assumption | infer_instance | (refine ⟨?_, ?_, ?_⟩ <;> (first | assumption | infer_instance)) | (skip; done))); (case hy => (rintro wf ⟨hwa, hwb, hwc⟩; exact opv_loadb1 rfl rfl hwc lkj))
            have q1 := tt_forget (T := ⟨b, ib, fs⟩) (by omega) hUc S11.drew hj4
            rw [hU] at q1
            refine tkc 5 rfl (by kernel_rfl) (by (first | exact trivial | assumption | infer_instance | (refine ⟨?_, ?_, ?_⟩ <;> (first | assumption | infer_instance)) | (skip; done))) rfl q1 rfl ?_
            rintro _ w10 ⟨U', h1, h2, S12⟩
            obtain ⟨vg2, vca2, vka2⟩ := see S12
            have vn2 := tta_bx S12 mn
            refine vA_done (by kernel_rfl) (by (first | exact trivial | assumption | infer_instance | (refine ⟨?_, ?_, ?_⟩ <;> (first | assumption | infer_instance)) | (skip; done))) ?_
            (apply seqP_normal; apply vC_seq)
            refine vC_draw' ((fun wf => Blk wf.heap nb [.int .i64 (j : Int)] 3 ∧ Blk wf.heap ca [pt c0, pt c1] 69 ∧ Blk wf.heap ka (k4 b 4) 72)) (by (first | exact trivial | assumption | infer_instance | (refine ⟨?_, ?_, ?_⟩ <;> (first | assumption | infer_instance)) | (skip; done))) ?_
            ((apply (tk 0)); (case hi => exact rfl); (case hf => kernel_rfl); (case hS => (first | exact trivial | assumption | infer_instance | (refine ⟨?_, ?_, ?_⟩ <;> (first | assumption | infer_instance)) | (skip; done))); (case hy => (rintro wf ⟨hwa, hwb, hwc⟩; (((apply opv_indexAddr_arr); exact rfl; exact rfl; (first | omega | (simp only [List.length_map]; omega)); (first | omega | (simp only [List.length_map]; omega)))))))
            ((apply (tk 1)); (case hi => exact rfl); (case hf => kernel_rfl); (case hS => (first | exact trivial | assumption | infer_instance | (refine ⟨?_, ?_, ?_⟩ <;> (first | assumption | infer_instance)) | (skip; done))); (case hy => (rintro wf ⟨hwa, hwb, hwc⟩; (((apply opv_loadb1); exact rfl; exact rfl; assumption; exact rfl)))))
            ((apply (tk 2)); (case hi => exact rfl); (case hf => kernel_rfl); (case hS => (first | exact trivial | assumption | infer_instance | (refine ⟨?_, ?_, ?_⟩ <;> (first | assumption | infer_instance)) | (skip; done))); (case hy => (rintro wf ⟨hwa, hwb, hwc⟩; (((apply opv_loadb1); exact rfl; exact rfl; assumption; exact rfl)))))
            ((apply (tk 3)); (case hi => exact rfl); (case hf => kernel_rfl); (case hS => (first | exact trivial | assumption | infer_instance | (refine ⟨?_, ?_, ?_⟩ <;> (first | assumption | infer_instance)) | (skip; done))); (case hy => (rintro wf ⟨hwa, hwb, hwc⟩; (((apply opv_indexAddr_arr); exact rfl; exact rfl; (first | omega | (simp only [List.length_map]; omega)); (first | omega | (simp only [List.length_map]; omega)))))))
            (apply (tk 4)); (case hi => exact rfl); (case hf => kernel_rfl); (case hS => (first | exact trivial | assumption | infer_instance | (refine ⟨?_, ?_, ?_⟩ <;> (first | assumption | infer_instance)) | (skip; done))); (case hy => (rintro wf ⟨hwa, hwb, hwc⟩; exact opv_loadb1 rfl rfl hwc lkj))
            have q2 := tt_forget (T := ⟨b, ib, fs⟩) (by omega) hVc (tta_swap S12).drew hj4
            rw [hV] at q2
            refine tkc 5 rfl (by kernel_rfl) (by (first | exact trivial | assumption | infer_instance | (refine ⟨?_, ?_, ?_⟩ <;> (first | assumption | infer_instance)) | (skip; done))) rfl q2 rfl ?_
            rintro _ w11 ⟨V', h3, h4, S13⟩
            obtain ⟨vg3, vca3, vka3⟩ := see S13
            have vn3 := tta_bx S13 mn
            refine vA_done (by kernel_rfl) (by (first | exact trivial | assumption | infer_instance | (refine ⟨?_, ?_, ?_⟩ <;> (first | assumption | infer_instance)) | (skip; done))) ?_
            clear vg vca vka vn vo vg2 vca2 vka2 vn2 q1 q2 S12 S11 S10
            (apply seqP_normal; apply vC_seq; apply vC_region; ((apply vL_val); (case h => ((apply opv_loadb1); exact rfl; exact rfl; assumption; exact rfl))); ((apply vL_val); (case h => ((apply opv_indexAddr_arr); exact rfl; exact rfl; (first | omega | (simp only [List.length_map]; omega)); (first | omega | (simp only [List.length_map]; omega))))))
            refine vL_val (opv_loadb1 rfl rfl vg3 lgj) ?_
            (((apply vL_val); (case h => ((apply opv_add); exact rfl; exact rfl; (first | omega | (simp only [List.length_map]; omega))))); ((apply vL_val); (case h => ((apply opv_indexAddr_arr); exact rfl; exact rfl; (first | omega | (simp only [List.length_map]; omega)); (first | omega | (simp only [List.length_map]; omega))))))
            have hgel : (gE g).length = 4 := by unfold gE; rw [List.length_map, hgl]
            refine vL_skip (ops_store1 rfl rfl rfl vg3 (by rw [hgel]; show 0 + ((j : Nat) : Int).toNat * 1 < 4; omega)) ?_
            have S14 : At (TtA rb fb tb kb2 ⟨b, ib, fs⟩ V' U' (Pt gb (gE (g.set j (gj + 1))) 70 * R3)) w No (w11.setRow gb ((gE g).set (0 + ((j : Nat) : Int).toNat * 1) (.int .i64 (gj + 1))).toArray) := by
              have h5 := (S13.ac (show _ = Pt gb (gE g) 70 * TtA rb fb tb kb2 ⟨b, ib, fs⟩ V' U' R3 by unfold TtA TtR; ac_rfl)).put (cs' := gE (g.set j (gj + 1))) (w' := w11.setRow gb ((gE g).set (0 + ((j : Nat) : Int).toNat * 1) (.int .i64 (gj + 1))).toArray) ((Fr.refl _ w11).set _ _ (.inl rfl)) (Blk.as (Blk.set vg3) (by rw [e0]; unfold gE; rw [List.map_set]))
              exact h5.ac (by unfold TtA TtR; ac_rfl)
            refine vL_gen (fun w' => At (TtA rb fb tb kb2 ⟨b, ib, fs⟩ V' U' (Pt gb (gE (g.set j (gj + 1))) 70 * R3)) w No w') S14 ?_
            clear S14 S13 vg3 vca3 vka3 vn3
            intro w12 S14
            obtain ⟨vg4, vca4, vka4⟩ := see S14
            (apply vL_nil; apply seqP_normal; apply vC_seq; apply vC_region; ((apply vL_val); (case h => ((apply opv_indexAddr_arr); exact rfl; exact rfl; (first | omega | (simp only [List.length_map]; omega)); (first | omega | (simp only [List.length_map]; omega))))); ((apply vL_val); (case h => ((apply opv_loadb1); exact rfl; exact rfl; assumption; exact rfl))))
            have q3 := tt_waits (T := ⟨b, ib, fs⟩) h1 (tta_swap S14)
            rw [h2] at q3
            refine vL_callF rfl (q3) rfl ?_
            rintro _ w13 ⟨x1, x2, rfl, U2, h5, h6, S15⟩
            ((iterate 19 (first | with_reducible apply vC_seq | with_reducible apply vC_region | with_reducible apply seqP_normal | ((with_reducible apply vL_val); (case h => ((with_reducible apply opv_E); exact rfl))) | with_reducible apply vL_nil | ((with_reducible apply vL_wanted); exact rfl))); ((apply vC_cond_false); exact rfl); apply vC_skip; apply blockP_normal)
            exact ⟨rfl, by (((iterate 42 (first | with_reducible apply same_updN | ((with_reducible refine same_updO ?_ ?_); rotate_left; exact rfl)))); exact fun _ _ => rfl), fs, U2, V', _, TtC.up (T := ⟨b, ib, fs⟩) h5 (Nat.le_succ k), TtC.up (T := ⟨b, ib, fs⟩) h3 (Nat.le_succ k), .inl ⟨h6, h4⟩, by rw [List.length_set, hgl], fun x hx => by
              rcases List.mem_or_eq_of_mem_set hx with hx | rfl
              · exact hgb' x hx
              · omega, S15⟩
          by_cases k5 : p % 6 = 5
          · (apply vC_block; (iterate 44 (first | with_reducible apply vC_seq | with_reducible apply vC_region | with_reducible apply seqP_normal | ((with_reducible apply vL_val); (case h => ((with_reducible apply opv_E); exact rfl))) | with_reducible apply vL_nil | (refine vC_cond_dec rfl (fun _ => ?_) (fun h => by omega)) | (refine vC_cond_dec rfl (fun h => by omega) (fun _ => ?_)))); ((apply vL_val); (case h => ((apply opv_indexAddr_arr); exact rfl; exact rfl; (first | omega | (simp only [List.length_map]; omega)); (first | omega | (simp only [List.length_map]; omega))))); ((apply vL_val); (case h => ((apply opv_loadb1); exact rfl; exact rfl; assumption; exact rfl))))
            apply vL_val
            (case h => ((with_reducible apply opv_rem_t); exact rfl; exact rfl; omega))
            by_cases hz : r.tmod 7 = 0
            · (((apply vL_val); (case h => ((apply opv_E); exact rfl))); apply vL_nil; apply seqP_normal; (refine vC_cond_dec rfl (fun _ => ?_) (fun h => by omega)); apply vC_region; ((apply vL_val); (case h => ((apply opv_E); exact rfl))))
              refine vL_callF rfl (tt_close' hT2 hX3 S10) rfl ?_
              rintro _ w10 ⟨fs', X', h1, h2, S11⟩
              (apply vL_nil; apply blockP_normal)
              exact ⟨rfl, by (((iterate 18 (((refine same_updO ?_ ?_); rotate_left; exact rfl)))); exact fun _ _ => rfl), fs', X', Y, g, TtC.up (T := ⟨b, ib, fs⟩) h1 (Nat.le_succ k), hY3.up (T := ⟨b, ib, fs⟩) (Nat.le_succ k), by rw [h2]; exact hcb3, hgl, hgb', S11⟩
            · (((apply vL_val); (case h => ((apply opv_E); exact rfl))); apply vL_nil; apply seqP_normal; (refine vC_cond_dec rfl (fun h => by omega) (fun _ => ?_)); apply vC_skip; apply blockP_normal)
              exact ⟨rfl, by (((iterate 16 (((refine same_updO ?_ ?_); rotate_left; exact rfl)))); exact fun _ _ => rfl), fs, X, Y, g, hX3.up (T := ⟨b, ib, fs⟩) (Nat.le_succ k), hY3.up (T := ⟨b, ib, fs⟩) (Nat.le_succ k), hcb3, hgl, hgb', S10⟩
          have h1 := Int.emod_nonneg p (show (6 : Int) ≠ 0 by decide)
          have h2 := Int.emod_lt_of_pos p (show (0 : Int) < 6 by decide)
          omega
        clear S10 vg vca vka vn vo
        rintro junk26 w10 ⟨fs', X', Y', g', h1, h2, h3, h4, h5, S11⟩
        have vf := (S11.ac (show _ = Pt fb (gE (t4N fs')) 70 * (ChA_i rb X' * (TksA (t4L fb ⟨b, ib, fs'⟩) * (ChA_i rb Y' * (Pt tb (gE (t4N fs')) 70 * (Bxl kb2 * (Pt gb (gE g') 70 * R3)))))) by unfold TtA TtR; ac_rfl)).blk
        have vt := (S11.ac (show _ = Pt tb (gE (t4N fs')) 70 * (ChA_i rb X' * (TksA (t4L fb ⟨b, ib, fs'⟩) * (ChA_i rb Y' * (Pt fb (gE (t4N fs')) 70 * (Bxl kb2 * (Pt gb (gE g') 70 * R3)))))) by unfold TtA TtR; ac_rfl)).blk
        (apply seqP_normal; apply vC_seq; apply vC_region; ((apply vL_val); (case h => ((apply opv_E); exact rfl))); apply vL_nil; apply seqP_normal; apply vC_block)
        (apply vC_loop1 23383847791332858446273825037714347127602873368580 147 (fun u w' => ∃ i : Nat, u = .int .i64 (i : Int) ∧ i ≤ 4 ∧ ∃ dn, w' = w10.drewN dn) (fun u _ => 4 - (RowKit.intOf u).toNat)); (case h1 => (exact norm_eq rfl))
        case h0 => exact ⟨0, rfl, Nat.zero_le _, 0, rfl⟩
        case round =>
        rintro junk147 _ _ ⟨i, rfl, hi, dn, rfl⟩
        by_cases hi4 : i < 4
        · obtain ⟨x, hx1, hx2⟩ : ∃ x : Int, (t4N fs')[i]? = some x ∧ (x = 0 ∨ x = 1) := by
            unfold t4N
            rw [List.getElem?_map, List.getElem?_range hi4]
            cases hfi : fs' i
            · exact ⟨0, by simp [hfi], .inl rfl⟩
            · exact ⟨1, by simp [hfi], .inr rfl⟩
          have lx : (gE (t4N fs'))[0 + ((i : Nat) : Int).toNat * 1]? = some (.int .i64 x) := by
            rw [show 0 + ((i : Nat) : Int).toNat * 1 = i by omega]; unfold gE; rw [List.getElem?_map, hx1]; rfl
          have vf2 : Blk (w10.drewN dn).heap fb (gE (t4N fs')) 70 := vf
          have vt2 : Blk (w10.drewN dn).heap tb (gE (t4N fs')) 70 := vt
          rcases hx2 with rfl | rfl
          · (apply vC_seq; apply vC_region; ((apply vL_val); (case h => ((apply opv_E); exact rfl))); apply vL_nil; apply seqP_normal; apply vC_seq; (refine vC_cond_dec rfl (fun _ => ?_) (fun h => by omega)); apply vC_skip; apply seqP_normal; apply vC_seq; apply vC_block; apply vC_seq; apply vC_region; (iterate 2 (((apply vL_val); (case h => ((apply opv_E); exact rfl))))); apply vL_nil; apply seqP_normal; apply vC_seq)
            refine vC_draw' ((fun wf => Blk wf.heap fb (gE (t4N fs')) 70 ∧ Blk wf.heap tb (gE (t4N fs')) 70)) (by (first | exact trivial | assumption | infer_instance | (refine ⟨?_, ?_⟩ <;> (first | assumption | infer_instance)) | (skip; done))) ?_
            ((apply (tk 0)); (case hi => exact rfl); (case hf => kernel_rfl); (case hS => (first | exact trivial | assumption | infer_instance | (refine ⟨?_, ?_⟩ <;> (first | assumption | infer_instance)) | (skip; done))); (case hy => (rintro wf ⟨hwa, hwb⟩; (((apply opv_E); exact rfl)))))
            ((apply (tk 1)); (case hi => exact rfl); (case hf => kernel_rfl); (case hS => (first | exact trivial | assumption | infer_instance | (refine ⟨?_, ?_⟩ <;> (first | assumption | infer_instance)) | (skip; done))); (case hy => (rintro wf ⟨hwa, hwb⟩; (((apply opv_indexAddr_arr); exact rfl; exact rfl; (first | omega | (simp only [List.length_map]; omega)); (first | omega | (simp only [List.length_map]; omega)))))))
            (apply (tk 2)); (case hi => exact rfl); (case hf => kernel_rfl); (case hS => (first | exact trivial | assumption | infer_instance | (refine ⟨?_, ?_⟩ <;> (first | assumption | infer_instance)) | (skip; done))); (case hy => (rintro wf ⟨hwa, hwb⟩; exact opv_loadb1 rfl rfl hwa lx))
            ((apply (tk 3)); (case hi => exact rfl); (case hf => kernel_rfl); (case hS => (first | exact trivial | assumption | infer_instance | (refine ⟨?_, ?_⟩ <;> (first | assumption | infer_instance)) | (skip; done))); (case hy => (rintro wf ⟨hwa, hwb⟩; (((apply opv_E); exact rfl)))))
            ((apply (tk 4)); (case hi => exact rfl); (case hf => kernel_rfl); (case hS => (first | exact trivial | assumption | infer_instance | (refine ⟨?_, ?_⟩ <;> (first | assumption | infer_instance)) | (skip; done))); (case hy => (rintro wf ⟨hwa, hwb⟩; (((apply opv_E); exact rfl)))))
            ((apply (tkw 5)); (case hi => exact rfl); (case hg => exact rfl); (case hf => kernel_rfl); (case hS => (first | exact trivial | assumption | infer_instance | (refine ⟨?_, ?_⟩ <;> (first | assumption | infer_instance)) | (skip; done))); (case hy => (rintro wf ⟨hwa, hwb⟩; (((apply opv_E); exact rfl)))))
            ((apply (tkw 6)); (case hi => exact rfl); (case hg => exact rfl); (case hf => kernel_rfl); (case hS => (first | exact trivial | assumption | infer_instance | (refine ⟨?_, ?_⟩ <;> (first | assumption | infer_instance)) | (skip; done))); (case hy => (rintro wf ⟨hwa, hwb⟩; (((apply opv_indexAddr_arr); exact rfl; exact rfl; (first | omega | (simp only [List.length_map]; omega)); (first | omega | (simp only [List.length_map]; omega)))))))
            (apply (tkw 7)); (case hi => exact rfl); (case hg => exact rfl); (case hf => kernel_rfl); (case hS => (first | exact trivial | assumption | infer_instance | (refine ⟨?_, ?_⟩ <;> (first | assumption | infer_instance)) | (skip; done))); (case hy => (rintro wf ⟨hwa, hwb⟩; exact opv_loadb1 rfl rfl hwb lx))
            ((apply (tkw 8)); (case hi => exact rfl); (case hg => exact rfl); (case hf => kernel_rfl); (case hS => (first | exact trivial | assumption | infer_instance | (refine ⟨?_, ?_⟩ <;> (first | assumption | infer_instance)) | (skip; done))); (case hy => (rintro wf ⟨hwa, hwb⟩; (((apply opv_E); exact rfl)))))
            ((apply (tkw 9)); (case hi => exact rfl); (case hg => exact rfl); (case hf => kernel_rfl); (case hS => (first | exact trivial | assumption | infer_instance | (refine ⟨?_, ?_⟩ <;> (first | assumption | infer_instance)) | (skip; done))); (case hy => (rintro wf ⟨hwa, hwb⟩; (((apply opv_indexAddr_arr); exact rfl; exact rfl; (first | omega | (simp only [List.length_map]; omega)); (first | omega | (simp only [List.length_map]; omega)))))))
            (apply (tkw 10)); (case hi => exact rfl); (case hg => exact rfl); (case hf => kernel_rfl); (case hS => (first | exact trivial | assumption | infer_instance | (refine ⟨?_, ?_⟩ <;> (first | assumption | infer_instance)) | (skip; done))); (case hy => (rintro wf ⟨hwa, hwb⟩; exact opv_loadb1 rfl rfl hwa lx))
            ((apply (tkw 11)); (case hi => exact rfl); (case hg => exact rfl); (case hf => kernel_rfl); (case hS => (first | exact trivial | assumption | infer_instance | (refine ⟨?_, ?_⟩ <;> (first | assumption | infer_instance)) | (skip; done))); (case hy => (rintro wf ⟨hwa, hwb⟩; (((apply opv_E); exact rfl)))))
            ((apply (tk 12)); (case hi => exact rfl); (case hf => kernel_rfl); (case hS => (first | exact trivial | assumption | infer_instance | (refine ⟨?_, ?_⟩ <;> (first | assumption | infer_instance)) | (skip; done))); (case hy => (rintro wf ⟨hwa, hwb⟩; (((apply opv_E); exact rfl)))))
            refine vA_done (by kernel_rfl) (by (first | exact trivial | assumption | infer_instance | (refine ⟨?_, ?_⟩ <;> (first | assumption | infer_instance)) | (skip; done))) ?_
            (apply seqP_normal; ((apply vC_cond_false); exact rfl); apply vC_skip; apply blockP_normal; apply seqP_normal; apply vC_region; ((apply vL_val); (case h => ((apply opv_add); exact rfl; exact rfl; (first | omega | (simp only [List.length_map]; omega))))); ((apply vL_val); (case h => ((apply opv_E); exact rfl))); apply vL_nil; apply loopP_normal)
            (with_reducible apply end1); (case hs => ((iterate 18 (((refine same_updO ?_ ?_); rotate_left; exact rfl))); ((refine same_upd ?_ ?_); rotate_left; exact rfl); (exact same_mask _ _ _))); (case h1 => (exact norm_eq rfl))
            · exact ⟨i + 1, rfl, by omega, dn + 1, rfl⟩
            · simp [RowKit.intOf]; omega
          · (apply vC_seq; apply vC_region; ((apply vL_val); (case h => ((apply opv_E); exact rfl))); apply vL_nil; apply seqP_normal; apply vC_seq; (refine vC_cond_dec rfl (fun _ => ?_) (fun h => by omega)); apply vC_skip; apply seqP_normal; apply vC_seq; apply vC_block; apply vC_seq; apply vC_region; (iterate 2 (((apply vL_val); (case h => ((apply opv_E); exact rfl))))); apply vL_nil; apply seqP_normal; apply vC_seq)
            refine vC_draw' ((fun wf => Blk wf.heap fb (gE (t4N fs')) 70 ∧ Blk wf.heap tb (gE (t4N fs')) 70)) (by (first | exact trivial | assumption | infer_instance | (refine ⟨?_, ?_⟩ <;> (first | assumption | infer_instance)) | (skip; done))) ?_
            ((apply (tk 0)); (case hi => exact rfl); (case hf => kernel_rfl); (case hS => (first | exact trivial | assumption | infer_instance | (refine ⟨?_, ?_⟩ <;> (first | assumption | infer_instance)) | (skip; done))); (case hy => (rintro wf ⟨hwa, hwb⟩; (((apply opv_E); exact rfl)))))
            ((apply (tk 1)); (case hi => exact rfl); (case hf => kernel_rfl); (case hS => (first | exact trivial | assumption | infer_instance | (refine ⟨?_, ?_⟩ <;> (first | assumption | infer_instance)) | (skip; done))); (case hy => (rintro wf ⟨hwa, hwb⟩; (((apply opv_indexAddr_arr); exact rfl; exact rfl; (first | omega | (simp only [List.length_map]; omega)); (first | omega | (simp only [List.length_map]; omega)))))))
            (apply (tk 2)); (case hi => exact rfl); (case hf => kernel_rfl); (case hS => (first | exact trivial | assumption | infer_instance | (refine ⟨?_, ?_⟩ <;> (first | assumption | infer_instance)) | (skip; done))); (case hy => (rintro wf ⟨hwa, hwb⟩; exact opv_loadb1 rfl rfl hwa lx))
            ((apply (tk 3)); (case hi => exact rfl); (case hf => kernel_rfl); (case hS => (first | exact trivial | assumption | infer_instance | (refine ⟨?_, ?_⟩ <;> (first | assumption | infer_instance)) | (skip; done))); (case hy => (rintro wf ⟨hwa, hwb⟩; (((apply opv_E); exact rfl)))))
            ((apply (tk 4)); (case hi => exact rfl); (case hf => kernel_rfl); (case hS => (first | exact trivial | assumption | infer_instance | (refine ⟨?_, ?_⟩ <;> (first | assumption | infer_instance)) | (skip; done))); (case hy => (rintro wf ⟨hwa, hwb⟩; (((apply opv_E); exact rfl)))))
            ((apply (tkw 5)); (case hi => exact rfl); (case hg => exact rfl); (case hf => kernel_rfl); (case hS => (first | exact trivial | assumption | infer_instance | (refine ⟨?_, ?_⟩ <;> (first | assumption | infer_instance)) | (skip; done))); (case hy => (rintro wf ⟨hwa, hwb⟩; (((apply opv_E); exact rfl)))))
            ((apply (tkw 6)); (case hi => exact rfl); (case hg => exact rfl); (case hf => kernel_rfl); (case hS => (first | exact trivial | assumption | infer_instance | (refine ⟨?_, ?_⟩ <;> (first | assumption | infer_instance)) | (skip; done))); (case hy => (rintro wf ⟨hwa, hwb⟩; (((apply opv_indexAddr_arr); exact rfl; exact rfl; (first | omega | (simp only [List.length_map]; omega)); (first | omega | (simp only [List.length_map]; omega)))))))
            (apply (tkw 7)); (case hi => exact rfl); (case hg => exact rfl); (case hf => kernel_rfl); (case hS => (first | exact trivial | assumption | infer_instance | (refine ⟨?_, ?_⟩ <;> (first | assumption | infer_instance)) | (skip; done))); (case hy => (rintro wf ⟨hwa, hwb⟩; exact opv_loadb1 rfl rfl hwb lx))
            ((apply (tkw 8)); (case hi => exact rfl); (case hg => exact rfl); (case hf => kernel_rfl); (case hS => (first | exact trivial | assumption | infer_instance | (refine ⟨?_, ?_⟩ <;> (first | assumption | infer_instance)) | (skip; done))); (case hy => (rintro wf ⟨hwa, hwb⟩; (((apply opv_E); exact rfl)))))
            ((apply (tkw 9)); (case hi => exact rfl); (case hg => exact rfl); (case hf => kernel_rfl); (case hS => (first | exact trivial | assumption | infer_instance | (refine ⟨?_, ?_⟩ <;> (first | assumption | infer_instance)) | (skip; done))); (case hy => (rintro wf ⟨hwa, hwb⟩; (((apply opv_indexAddr_arr); exact rfl; exact rfl; (first | omega | (simp only [List.length_map]; omega)); (first | omega | (simp only [List.length_map]; omega)))))))
            (apply (tkw 10)); (case hi => exact rfl); (case hg => exact rfl); (case hf => kernel_rfl); (case hS => (first | exact trivial | assumption | infer_instance | (refine ⟨?_, ?_⟩ <;> (first | assumption | infer_instance)) | (skip; done))); (case hy => (rintro wf ⟨hwa, hwb⟩; exact opv_loadb1 rfl rfl hwa lx))
            ((apply (tkw 11)); (case hi => exact rfl); (case hg => exact rfl); (case hf => kernel_rfl); (case hS => (first | exact trivial | assumption | infer_instance | (refine ⟨?_, ?_⟩ <;> (first | assumption | infer_instance)) | (skip; done))); (case hy => (rintro wf ⟨hwa, hwb⟩; (((apply opv_E); exact rfl)))))
            ((apply (tk 12)); (case hi => exact rfl); (case hf => kernel_rfl); (case hS => (first | exact trivial | assumption | infer_instance | (refine ⟨?_, ?_⟩ <;> (first | assumption | infer_instance)) | (skip; done))); (case hy => (rintro wf ⟨hwa, hwb⟩; (((apply opv_E); exact rfl)))))
            refine vA_done (by kernel_rfl) (by (first | exact trivial | assumption | infer_instance | (refine ⟨?_, ?_⟩ <;> (first | assumption | infer_instance)) | (skip; done))) ?_
            (apply seqP_normal; ((apply vC_cond_false); exact rfl); apply vC_skip; apply blockP_normal; apply seqP_normal; apply vC_region; ((apply vL_val); (case h => ((apply opv_add); exact rfl; exact rfl; (first | omega | (simp only [List.length_map]; omega))))); ((apply vL_val); (case h => ((apply opv_E); exact rfl))); apply vL_nil; apply loopP_normal)
            (with_reducible apply end1); (case hs => ((iterate 18 (((refine same_updO ?_ ?_); rotate_left; exact rfl))); ((refine same_upd ?_ ?_); rotate_left; exact rfl); (exact same_mask _ _ _))); (case h1 => (exact norm_eq rfl))
            · exact ⟨i + 1, rfl, by omega, dn + 1, rfl⟩
            · simp [RowKit.intOf]; omega
        · (apply vC_seq; apply vC_region; ((apply vL_val); (case h => ((apply opv_E); exact rfl))); apply vL_nil; apply seqP_normal; apply vC_seq; (refine vC_cond_dec rfl (fun h => by omega) (fun _ => ?_)); apply vC_exit; apply seqP_exit; apply loopP_exit; apply blockP_exit; apply blockP_normal; apply seqP_normal; apply vC_region; ((apply vL_val); (case h => ((apply opv_E); exact rfl))); ((apply vL_val); (case h => ((apply opv_add); exact rfl; exact rfl; (first | omega | (simp only [List.length_map]; omega))))); ((apply vL_val); (case h => ((apply opv_E); exact rfl))); apply vL_nil; apply loopP_normal)
          (with_reducible apply end1); (case hs => ((iterate 30 (first | with_reducible apply same_updN | ((with_reducible refine same_updO ?_ ?_); rotate_left; exact rfl) | ((with_reducible refine same_upd ?_ ?_); rotate_left; exact rfl) | ((with_reducible refine same_maskIn ?_ ?_); rotate_left; exact rfl))); (exact same_mask _ _ _))); (case h1 => (exact norm_eq rfl))
          · have hfin : ∃ U V : CH, U.cb = c0 ∧ V.cb = c1 ∧ TtC kb2 tb b (k + 1) U ∧ TtC kb2 tb b (k + 1) V ∧ At (TtA rb fb tb kb2 ⟨b, ib, fs'⟩ U V (Pt gb (gE g') 70 * R3)) w No (w10.drewN dn) := by
              rcases h3 with ⟨e1, e2⟩ | ⟨e1, e2⟩
              · exact ⟨X', Y', e1, e2, h1, h2, S11.drewN dn⟩
              · exact ⟨Y', X', e2, e1, h2, h1, (tta_swap S11).drewN dn⟩
            obtain ⟨U, V, hU, hV, hUc, hVc, S12⟩ := hfin
            exact ⟨k + 1, fs', kb2, U, V, g', rfl, by omega, by omega, hU, hV, ⟨hT2.inj, hT2.box⟩, hUc, hVc, h4, h5, S12⟩
          · simp [RowKit.intOf]; omega
      · repeat (with_reducible apply vC_seq)
        refine vC_meet1 143552238122434560 56 (.bool false) (fun w' => w' = w7) ?_ ?_
        · by_cases g0 : k < ops.length
          · have g1 : ¬ k < 60 := fun h => hcc ⟨g0, h⟩
            (apply vC_region; (iterate 10 (first | ((with_reducible apply vL_val); (case h => ((with_reducible apply opv_E); exact rfl))) | ((with_reducible apply vL_val); (case h => ((with_reducible apply opv_lenc); exact rfl))) | ((with_reducible apply vL_wanted); exact rfl) | (refine vL_and rfl rfl (fun _ => ?_) (fun h => by omega)))); apply vL_nil)
            exact ⟨rfl, by (((iterate 9 (first | ((with_reducible refine same_updO ?_ ?_); rotate_left; exact rfl) | ((with_reducible refine same_upd ?_ ?_); rotate_left; exact rfl)))); exact fun _ _ => rfl), by first | rfl | exact congrArg Value.bool (decide_eq_false (by omega)), rfl⟩
          · (apply vC_region; (iterate 8 (first | ((with_reducible apply vL_val); (case h => ((with_reducible apply opv_E); exact rfl))) | ((with_reducible apply vL_val); (case h => ((with_reducible apply opv_lenc); exact rfl))) | ((with_reducible apply vL_unwanted'); exact rfl; exact rfl) | (refine vL_and rfl rfl (fun h => by omega) (fun _ => ?_)))); apply vL_nil)
            exact ⟨rfl, by (((iterate 9 (first | ((with_reducible refine same_updO ?_ ?_); rotate_left; exact rfl) | ((with_reducible refine same_upd ?_ ?_); rotate_left; exact rfl)))); exact fun _ _ => rfl), rfl, rfl⟩
        rintro junk22 _ rfl
        (apply seqP_normal; ((apply vC_cond_false); exact rfl); apply vC_exit; apply seqP_exit; apply loopP_exit; apply blockP_exit; apply seqP_normal; apply vC_seq; apply vC_region)
        refine vL_callF rfl (awake16 _) rfl ?_
        rintro _ w9 ⟨rfl, hf9⟩
        (((apply vL_val); (case h => ((apply opv_E); exact rfl))); apply vL_nil; apply seqP_normal; apply vC_ret)
        (apply ret1; (case h1 => (exact norm_eq rfl)))
        exact ⟨rfl, S8.fr.trans hf9⟩
end Go.Proofs.YtbaidcnalkdhgaaGreat
set_option maxRecDepth 100000
namespace Go.Proofs.YtbaidcnalkdhgaaGreat
open Go Go.Eng Go.ChangeShapes Go.WideShapes Go.ChangeAt Go.RowKit
theorem cells_a3 : Tryz.prog.cellsOf 74 = 3 := by kernel_rfl
section
variable {H : Type} {enc : TypeId × Value → H} {W : World}
theorem open_a3s {base : Nat} {v : Value} {d : DataW H} {ps : List MemPlace} (hval : Value.okWide Tryz.prog W .any base 68 v) (h : DataW.Trod enc Tryz.prog W 0 (fun _ => true) true 68 v d ps) :
    ∃ xs : List (Int × Int × Int), Rd W.heap 3 e3 v xs := by
  obtain ⟨a0, len0, cap0, rfl⟩ := okWide_slice Tryz.underlying68 hval
  obtain ⟨fuel, hf⟩ := h
  obtain ⟨v, P, h1, h2, h3⟩ := Go.Eng.rd_openW (enc' := e3) (wf := fun _ => True) Tryz.underlying68 cells_a3 (by decide) (fun _ => rfl) (fun n cs y hy => by
    obtain ⟨ys, m, _, _, hcl, hl, hf⟩ := Go.DataW.trod_array Tryz.underlying74 hy
    rw [cells_a3] at hcl
    match cs, hcl, ys, hl with
    | [c0, c1, c2], _, [y0, y1, y2], _ =>
      have g0 := hf 0 (by decide)
      have g1 := hf 1 (by decide)
      have g2 := hf 2 (by decide)
      rw [cells_int] at g0 g1 g2
      obtain ⟨a, h0, _⟩ := DataW.trod_int Tryz.underlying3 g0
      obtain ⟨b, h1, _⟩ := DataW.trod_int Tryz.underlying3 g1
      obtain ⟨c, h2, _⟩ := DataW.trod_int Tryz.underlying3 g2
      simp at h0 h1 h2
      subst h0; subst h1; subst h2
      exact ⟨(a, b, c), rfl, trivial⟩) hf
  simp [Value.cells] at h1
  rw [h1]
  exact ⟨P, h2⟩
end
end Go.Proofs.YtbaidcnalkdhgaaGreat
