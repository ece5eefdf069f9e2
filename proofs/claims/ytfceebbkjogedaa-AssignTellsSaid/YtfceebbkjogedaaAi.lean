/- Layer 27: the law AssignFair. -/
import Derived.Test.YtfceebbkjogedaaAg
import Derived.Test.YtfceebbkjogedaaAh
set_option maxRecDepth 100000
namespace Go.Proofs.Ytfceebbkjogedaa
open Go Go.Eng
theorem filt_prefix {C : List (ByteArray × Int)} {nm : ByteArray} {a c : Nat} (h : C.filter (fun p => decide (p.1 = nm)) = (List.range' a c).map fun (p : Nat) => (nm, (p : Int))) {k : Nat} {x : ByteArray × Int} (hx : C[k]? = some x) (hn : x.1 = nm) :
    x.2 = ((a + ((C.take k).filter (fun p => decide (p.1 = nm))).length : Nat) : Int) ∧ ((C.take k).filter (fun p => decide (p.1 = nm))).length < c := by
  have e := List.take_append_drop k C
  have hk := (List.getElem?_eq_some_iff.1 hx).1
  have hd : C.drop k = x :: C.drop (k + 1) := by rw [List.drop_eq_getElem_cons hk, (List.getElem?_eq_some_iff.1 hx).2]
  have hf : C.filter (fun p => decide (p.1 = nm)) = (C.take k).filter (fun p => decide (p.1 = nm)) ++ x :: (C.drop (k + 1)).filter (fun p => decide (p.1 = nm)) := by
    conv => lhs; rw [← e, List.filter_append, hd, List.filter_cons_of_pos (by simpa using hn)]
  generalize (C.take k).filter (fun p => decide (p.1 = nm)) = F at *
  have hg := congrArg (·[F.length]?) (hf.symm.trans h)
  simp only [List.getElem?_append_right (Nat.le_refl _), Nat.sub_self, List.getElem?_cons_zero, List.getElem?_map] at hg
  cases hr : (List.range' a c)[F.length]? with
  | none => rw [hr] at hg; cases hg
  | some y =>
    rw [hr] at hg
    obtain ⟨h1, h2⟩ := List.getElem?_eq_some_iff.1 hr
    rw [List.getElem_range'] at h2
    simp only [Option.map_some, Option.some.injEq] at hg
    rw [hg]
    simp only [List.length_range'] at h1
    refine ⟨by simp; omega, h1⟩
theorem filter_nextT {nm : ByteArray} {xs : List (ByteArray × Int)} {j : Nat} {x : ByteArray × Int} (hx : xs[j]? = some x) : ((xs.take (j + 1)).filter (fun p => decide (p.1 = nm))).length = if x.1 = nm then ((xs.take j).filter (fun p => decide (p.1 = nm))).length + 1 else ((xs.take j).filter (fun p => decide (p.1 = nm))).length := by
  rw [take_next hx, List.filter_append]
  by_cases h : x.1 = nm
  · simp [h]
  · simp [h]

theorem fair27 (vt vs : Value) (ts : List (ByteArray × Int)) (subs : List (ByteArray × OV × List ByteArray)) (w : World) (ht : Rd w.heap 2 tE vt ts) (hs : Subs w.heap vs subs) (hts : ∀ t ∈ ts, t.1.size ≤ 9223372036854775807) :
    Rets Try.prog 11 #[vt, vs] w fun u w' => u = .bool true ∧ Fr No w w' := by
  have hsm1 := ht.small
  have hsm2 := hs.rd.small
  have hrd := hs.rd
  obtain ⟨ta, tc, rfl⟩ := ht.len
  obtain ⟨sa, sc, rfl⟩ := hrd.len
  refine rets_of Try.func11 rfl Try.ntmps11 rfl rfl (by kernel_rfl) ?_
  (apply vC_seq; apply vC_region; ((apply vL_val); (case h => ((apply opv_E); exact rfl))); apply vL_nil; apply seqP_normal; apply vC_seq; apply vC_region; (iterate 2 (((apply vL_val); (case h => ((apply opv_E); exact rfl))))))
  refine vL_callF rfl (range27 _ _ ts subs w ht hs hts) rfl ?_
  rintro _ w1 ⟨hf1, ⟨_, rfl⟩ | ⟨hR, v, shs, rfl, S, hC⟩⟩
  · ((iterate 5 (((apply vL_val); (case h => ((apply opv_E); exact rfl))))); apply vL_nil; apply seqP_normal; (iterate 2 (apply vC_seq)); apply vC_region; (iterate 2 (((apply vL_val); (case h => ((apply opv_E); exact rfl))))); apply vL_nil; apply seqP_normal; ((apply vC_cond_true); exact rfl); apply vC_seq; apply vC_region)
    refine vL_callF rfl (awake27 _) rfl ?_
    rintro _ w2 ⟨rfl, hf2⟩
    (((apply vL_val); (case h => ((apply opv_E); exact rfl))); apply vL_nil; apply seqP_normal; apply vC_ret; apply seqP_ret)
    (apply ret1; (case h1 => (first | exact norm_eq rfl | ((conv => lhs; whnf) <;> exact rfl))))
    exact ⟨rfl, hf1.trans hf2⟩
  have hR := rightP.1 hR
  have hlen := rangeS_len hC
  have S1 := S.shares
  have hrs := S1.rd
  obtain ⟨va, vc, rfl⟩ := hrs.len
  ((iterate 5 (((apply vL_val); (case h => ((apply opv_E); exact rfl))))); apply vL_nil; apply seqP_normal; (iterate 2 (apply vC_seq)); apply vC_region; (iterate 2 (((apply vL_val); (case h => ((apply opv_E); exact rfl))))); apply vL_nil; apply seqP_normal; ((apply vC_cond_false); exact rfl); apply vC_skip; apply seqP_normal; (iterate 2 (apply vC_seq)); apply vC_region; ((apply vL_val); (case h => ((apply opv_E); exact rfl))); ((apply vL_val); (case h => ((apply opv_lenc); exact rfl))); ((apply vL_val); (case h => ((apply opv_E); exact rfl))); ((apply vL_val); (case h => ((apply opv_lenc); exact rfl))); ((apply vL_val); (case h => ((apply opv_E); exact rfl))); apply vL_nil; apply seqP_normal; (refine vC_cond_dec rfl (fun h => by omega) (fun _ => ?_)); apply vC_skip; apply seqP_normal; (iterate 2 (apply vC_seq)); apply vC_region; ((apply vL_val); (case h => ((apply opv_E); exact rfl))); ((apply vL_val); (case h => ((apply opv_lenc); exact rfl))); ((apply vL_val); (case h => ((apply opv_E); exact rfl))); apply vL_nil; apply seqP_normal; apply vC_block)
  (apply vC_loop1 633825300114114700713992249104 35 (fun u w' => ∃ k : Nat, u = .int .i64 (k : Int) ∧ k ≤ ts.length ∧ Fr No w1 w') (fun u _ => ts.length - (RowKit.intOf u).toNat)); (case h1 => (first | exact norm_eq rfl | ((conv => lhs; whnf) <;> exact rfl)))
  case h0 => exact ⟨0, rfl, by omega, Fr.refl _ _⟩
  case round =>
  rintro junk _ w2 ⟨k, rfl, hk, hf2⟩
  have ht2 := ht.frN (hf1.trans hf2)
  by_cases hkl : k < ts.length
  rotate_left
  · (apply vC_seq; apply vC_region; ((apply vL_val); (case h => ((apply opv_E); exact rfl))); apply vL_nil; apply seqP_normal; apply vC_seq; (refine vC_cond_dec rfl (fun h => by omega) (fun _ => ?_)); apply vC_exit; apply seqP_exit; apply loopP_exit; apply blockP_exit; apply seqP_normal; apply vC_seq; apply vC_region)
    refine vL_callF rfl (awake27 _) rfl ?_
    rintro _ w3 ⟨rfl, hf3⟩
    (((apply vL_val); (case h => ((apply opv_E); exact rfl))); apply vL_nil; apply seqP_normal; apply vC_ret)
    (apply ret1; (case h1 => (first | exact norm_eq rfl | ((conv => lhs; whnf) <;> exact rfl))))
    exact ⟨rfl, (hf1.trans hf2).trans hf3⟩
  obtain ⟨⟨nm, pn⟩, hx⟩ : ∃ x, ts[k]? = some x := ⟨ts[k], by simp [hkl]⟩
  have htm := List.mem_of_getElem? hx
  have hpn := hR.parts _ htm
  dsimp only at hpn
  have hrd2 := hs.rd.frN (hf1.trans hf2)
  (apply vC_seq; apply vC_region; ((apply vL_val); (case h => ((apply opv_E); exact rfl))); apply vL_nil; apply seqP_normal; apply vC_seq; (refine vC_cond_dec rfl (fun _ => ?_) (fun h => by omega)); apply vC_skip; apply seqP_normal; apply vC_seq; apply vC_block; apply vC_seq; apply vC_region; ((apply vL_val); (case h => ((apply opv_indexAddr); (first | exact norm_eq rfl | ((conv => lhs; whnf) <;> exact rfl)); exact rfl; (first | assumption | infer_instance); (first | omega | (simp only [List.length_map]; omega)); (first | omega | (simp only [List.length_map]; omega))))); ((apply vL_val); (case h => ((apply opv_ld_eln); exact rfl; exact rfl; (first | assumption | infer_instance); assumption))); ((apply vL_val); (case h => (apply opw_alloc))); ((apply vL_skip); (case h => ((apply ops_storen); (first | exact norm_eq rfl | ((conv => lhs; whnf) <;> exact rfl)); (first | exact norm_eq rfl | ((conv => lhs; whnf) <;> exact rfl)); exact rfl; (first | exact (fun u hu => EncOk.one _ u hu) | (intro u hu; simp at hu; rcases hu with rfl | rfl <;> rfl)); (first | assumption | infer_instance); (first | decide | exact of_decide_eq_true rfl | (simp; done))))); apply vL_nil; apply seqP_normal; apply vC_seq; apply vC_region; (iterate 2 (((apply vL_val); (case h => ((apply opv_E); exact rfl))))); apply vL_nil; apply seqP_normal; (iterate 2 (apply vC_seq)); apply vC_region; ((apply vL_val); (case h => ((apply opv_E); exact rfl))); ((apply vL_val); (case h => ((apply opv_lenc); exact rfl))); ((apply vL_val); (case h => ((apply opv_E); exact rfl))); apply vL_nil; apply seqP_normal; apply vC_block)
  refine vC_gen (fun w' => Fr No w1 w' ∧ Blk w'.heap w2.heap.size [.string nm, .int .i64 pn] 91) ⟨hf2.trans (by (repeat (first | exact Fr.refl _ _ | assumption | with_reducible apply Fr.allocSet | with_reducible apply Fr.alloc | with_reducible apply Fr.drewN | with_reducible apply Fr.drew | ((with_reducible apply Fr.set); rotate_left; (right; ((try simp only [alloc_size]); omega))) | (refine Fr.trans ?_ (by assumption))))), inferInstance⟩ ?_
  rintro w3 ⟨hf3, htb⟩
  generalize w2.heap.size = tb at *
  generalize hn0 : pn.toNat / (whoN subs nm subs.length).length = n0
  have hn0b : n0 ≤ 8 := by rw [← hn0]; exact Nat.le_trans (Nat.div_le_self _ _) (by omega)
  (apply vC_loop3 19807040628566082199363116560 41 9 10 (fun u u9 u10 w' => ∃ (j : Nat) (least most : Int), u = .int .i64 (j : Int) ∧ j ≤ subs.length ∧ u9 = .int .i64 least ∧ u10 = .int .i64 most ∧ n0 ≤ least ∧ least ≤ 99 ∧ 0 ≤ most ∧ most ≤ n0 + 1 ∧ Fr No w3 w') (fun u _ _ _ => subs.length - (RowKit.intOf u).toNat)); (case h1 => (first | exact norm_eq rfl | ((conv => lhs; whnf) <;> exact rfl))); (case h2 => (first | exact norm_eq rfl | ((conv => lhs; whnf) <;> exact rfl))); (case h3 => (first | exact norm_eq rfl | ((conv => lhs; whnf) <;> exact rfl)))
  case h0 => exact ⟨0, 99, 0, rfl, by omega, rfl, rfl, by omega, by omega, by omega, by omega, Fr.refl _ _⟩
  case round =>
  rintro junk2 _ _ _ w4 ⟨j, least, most, rfl, hj, rfl, rfl, hle, hle9, hmo, hmo9, hf4⟩
  have hf14 := hf3.trans hf4
  have htb4 := htb.frN hf4
  have hs4 := hs.frN (hf1.trans hf14)
  have hrd4 := hs4.rd
  have S4 := S1.frN hf14
  have hrs4 := S4.rd
  by_cases hjl : j < subs.length
  rotate_left
  · (apply vC_seq; apply vC_region; ((apply vL_val); (case h => ((apply opv_E); exact rfl))); apply vL_nil; apply seqP_normal; apply vC_seq; (refine vC_cond_dec rfl (fun h => by omega) (fun _ => ?_)); apply vC_exit; apply seqP_exit; apply loopP_exit; apply blockP_exit; apply seqP_normal; apply vC_seq; apply vC_region; (iterate 2 (((apply vL_val); (case h => ((apply opv_E); exact rfl))))); ((apply vL_val); (case h => ((apply opv_add); exact rfl; exact rfl; (first | omega | (simp only [List.length_map]; omega))))); ((apply vL_val); (case h => ((apply opv_E); exact rfl))); apply vL_nil; apply seqP_normal; (refine vC_cond_dec rfl (fun h => by omega) (fun _ => ?_)); apply vC_skip; apply blockP_normal; apply seqP_normal; apply vC_region; ((apply vL_val); (case h => ((apply opv_add); exact rfl; exact rfl; (first | omega | (simp only [List.length_map]; omega))))); ((apply vL_val); (case h => ((apply opv_E); exact rfl))); apply vL_nil; apply loopP_normal)
    (with_reducible apply end1); (case hs => (repeat (first | (with_reducible exact same_mask _ _ _) | with_reducible apply same_updN | ((with_reducible refine same_updO ?_ ?_); rotate_left; exact rfl) | ((with_reducible refine same_upd ?_ ?_); rotate_left; exact rfl) | ((with_reducible refine same_maskIn ?_ ?_); rotate_left; exact rfl)))); (case h1 => (first | exact norm_eq rfl | ((conv => lhs; whnf) <;> exact rfl)))
    · exact ⟨k + 1, rfl, by omega, hf14⟩
    · simp [RowKit.intOf]; omega
  obtain ⟨x, hxs⟩ : ∃ x, subs[j]? = some x := ⟨subs[j], by simp [hjl]⟩
  obtain ⟨y, hys⟩ : ∃ y, shs[j]? = some y := ⟨shs[j]'(by omega), List.getElem?_eq_getElem _⟩
  have hxm := List.mem_of_getElem? hxs
  have hin := hs4.inner x hxm
  have hone := x.2.1.2
  obtain ⟨_, hyc⟩ := rangeS_get hC hys hxs
  have hiny := S4.inner y (List.mem_of_getElem? hys)
  have honey := y.2.1.2
  (apply vC_seq; apply vC_region; ((apply vL_val); (case h => ((apply opv_E); exact rfl))); apply vL_nil; apply seqP_normal; apply vC_seq; (refine vC_cond_dec rfl (fun _ => ?_) (fun h => by omega)); apply vC_skip; apply seqP_normal; apply vC_seq; apply vC_block; apply vC_seq; apply vC_region; ((apply vL_val); (case h => ((apply opv_E); exact rfl))); ((apply vL_val); (case h => ((apply opv_indexAddr); (first | exact norm_eq rfl | ((conv => lhs; whnf) <;> exact rfl)); exact rfl; (first | assumption | infer_instance); (first | omega | (simp only [List.length_map]; omega)); (first | omega | (simp only [List.length_map]; omega))))); ((apply vL_val); (case h => ((apply opv_ld_eln); exact rfl; exact rfl; (first | assumption | infer_instance); assumption))); ((apply vL_val); (case h => (apply opw_alloc))); ((apply vL_val); (case h => ((apply opv_E); exact rfl))); ((apply vL_skip); (case h => ((apply ops_storen); (first | exact norm_eq rfl | ((conv => lhs; whnf) <;> exact rfl)); (first | exact norm_eq rfl | ((conv => lhs; whnf) <;> exact rfl)); exact rfl; (first | exact (fun u hu => EncOk.one _ u hu) | (intro u hu; simp at hu; rcases hu with rfl | rfl <;> rfl)); (first | assumption | infer_instance); (first | decide | exact of_decide_eq_true rfl | (simp; done))))); apply vL_nil; apply seqP_normal; apply vC_seq; apply vC_region; ((apply vL_val); (case h => ((apply opv_fieldAddr); exact rfl))); ((apply vL_val); (case h => ((apply opv_loadb1); exact rfl; exact rfl; (first | assumption | infer_instance); exact rfl))); ((apply vL_val); (case h => ((apply opv_len); (first | exact norm_eq rfl | ((conv => lhs; whnf) <;> exact rfl)); (first | assumption | infer_instance)))); ((apply vL_val); (case h => ((apply opv_E); exact rfl))); apply vL_nil; apply seqP_normal; apply vC_block)
  refine vC_gen (fun w' => Fr No w4 w' ∧ Blk w'.heap w4.heap.size [.string x.1, x.2.1.1] 84) ⟨by (repeat (first | exact Fr.refl _ _ | assumption | with_reducible apply Fr.allocSet | with_reducible apply Fr.alloc | with_reducible apply Fr.drewN | with_reducible apply Fr.drew | ((with_reducible apply Fr.set); rotate_left; (right; ((try simp only [alloc_size]); omega))) | (refine Fr.trans ?_ (by assumption)))), inferInstance⟩ ?_
  rintro w5 ⟨hf5, hxb⟩
  generalize w4.heap.size = xb at *
  have hin5 := hin.frN hf5
  have hinsm := hin.small
  skip
  (apply vC_loop3 9903520314282479249239950864 49 9 10 (fun u u9 u10 w' => ∃ (j : Nat) (least most : Int), u = .int .i64 (j : Int) ∧ j ≤ x.2.2.length ∧ u9 = .int .i64 least ∧ u10 = .int .i64 most ∧ n0 ≤ least ∧ least ≤ 99 ∧ 0 ≤ most ∧ most ≤ n0 + 1 ∧ Fr No w5 w') (fun u _ _ _ => x.2.2.length - (RowKit.intOf u).toNat)); (case h1 => (first | exact norm_eq rfl | ((conv => lhs; whnf) <;> exact rfl))); (case h2 => (first | exact norm_eq rfl | ((conv => lhs; whnf) <;> exact rfl))); (case h3 => (first | exact norm_eq rfl | ((conv => lhs; whnf) <;> exact rfl)))
  case h0 => exact ⟨0, least, most, rfl, by omega, rfl, rfl, hle, hle9, hmo, hmo9, Fr.refl _ _⟩
  clear hle hle9 hmo hmo9
  case round =>
  rintro junk3 _ _ _ w6 ⟨i, least, most, rfl, hi, rfl, rfl, hle, hle9, hmo, hmo9, hf6⟩
  have hin6 := hin5.frN hf6
  have htb6 := htb4.frN (hf5.trans hf6)
  have hrs6 := hrs4.frN (hf5.trans hf6)
  have hiny6 := hiny.frN (hf5.trans hf6)
  by_cases hil : i < x.2.2.length
  rotate_left
  · (apply vC_seq; apply vC_region; ((apply vL_val); (case h => ((apply opv_E); exact rfl))); apply vL_nil; apply seqP_normal; apply vC_seq; (refine vC_cond_dec rfl (fun h => by omega) (fun _ => ?_)); apply vC_exit; apply seqP_exit; apply loopP_exit; apply blockP_exit; apply blockP_normal; apply seqP_normal; apply vC_region; ((apply vL_val); (case h => ((apply opv_add); exact rfl; exact rfl; (first | omega | (simp only [List.length_map]; omega))))); ((apply vL_val); (case h => ((apply opv_E); exact rfl))); apply vL_nil; apply loopP_normal)
    (with_reducible apply end3); (case hs => (repeat (first | (with_reducible exact same_mask _ _ _) | with_reducible apply same_updN | ((with_reducible refine same_updO ?_ ?_); rotate_left; exact rfl) | ((with_reducible refine same_upd ?_ ?_); rotate_left; exact rfl) | ((with_reducible refine same_maskIn ?_ ?_); rotate_left; exact rfl)))); (case h1 => (first | exact norm_eq rfl | ((conv => lhs; whnf) <;> exact rfl))); (case h2 => (first | exact norm_eq rfl | ((conv => lhs; whnf) <;> exact rfl))); (case h3 => (first | exact norm_eq rfl | ((conv => lhs; whnf) <;> exact rfl)))
    · exact ⟨j + 1, least, most, rfl, by omega, rfl, rfl, hle, hle9, hmo, hmo9, (hf4.trans hf5).trans hf6⟩
    · simp [RowKit.intOf]; omega
  obtain ⟨tp, htp⟩ : ∃ y, x.2.2[i]? = some y := ⟨x.2.2[i], by simp [hil]⟩
  (apply vC_seq; apply vC_region; ((apply vL_val); (case h => ((apply opv_E); exact rfl))); apply vL_nil; apply seqP_normal; apply vC_seq; (refine vC_cond_dec rfl (fun _ => ?_) (fun h => by omega)); apply vC_skip; apply seqP_normal; apply vC_seq; apply vC_block; apply vC_seq; apply vC_region; ((apply vL_val); (case h => ((apply opv_indexAddr); (first | exact norm_eq rfl | ((conv => lhs; whnf) <;> exact rfl)); exact rfl; (first | assumption | infer_instance); (first | omega | (simp only [List.length_map]; omega)); (first | omega | (simp only [List.length_map]; omega))))); ((apply vL_val); (case h => ((apply opv_ld_el); exact rfl; exact rfl; (first | assumption | infer_instance); assumption; exact rfl))); ((apply vL_val); (case h => ((apply opv_E); exact rfl))); apply vL_nil; apply seqP_normal; (iterate 2 (apply vC_seq)); apply vC_region; ((apply vL_val); (case h => ((apply opv_E); exact rfl))); ((apply vL_val); (case h => ((apply opv_fieldAddr); exact rfl))); ((apply vL_val); (case h => ((apply opv_loadb1); exact rfl; exact rfl; (first | assumption | infer_instance); exact rfl))); ((apply vL_val); (case h => ((apply opv_neq_str); exact rfl; exact rfl))); apply vL_nil; apply seqP_normal)
  refine vC_cond_dec rfl (fun hne => ?_) (fun hne => ?_)
  · (apply vC_exit; apply seqP_exit; apply blockP_exit; apply seqP_normal; apply vC_region; ((apply vL_val); (case h => ((apply opv_add); exact rfl; exact rfl; (first | omega | (simp only [List.length_map]; omega))))); ((apply vL_val); (case h => ((apply opv_E); exact rfl))); apply vL_nil; apply loopP_normal)
    (with_reducible apply end3); (case hs => (repeat (first | (with_reducible exact same_mask _ _ _) | with_reducible apply same_updN | ((with_reducible refine same_updO ?_ ?_); rotate_left; exact rfl) | ((with_reducible refine same_upd ?_ ?_); rotate_left; exact rfl) | ((with_reducible refine same_maskIn ?_ ?_); rotate_left; exact rfl)))); (case h1 => (first | exact norm_eq rfl | ((conv => lhs; whnf) <;> exact rfl))); (case h2 => (first | exact norm_eq rfl | ((conv => lhs; whnf) <;> exact rfl))); (case h3 => (first | exact norm_eq rfl | ((conv => lhs; whnf) <;> exact rfl)))
    · exact ⟨i + 1, least, most, rfl, by omega, rfl, rfl, hle, hle9, hmo, hmo9, hf6⟩
    · simp [RowKit.intOf]; omega
  have hw : nm ∈ x.2.2 := by
    have : tp = nm := by simpa using hne
    rw [← this]; exact List.mem_of_getElem? htp
  obtain ⟨a, c, jj, _, _, hc, hiv, hac⟩ := share_iv hR hxs htm hw
  dsimp only at hc hac
  rw [hn0] at hc
  have hfl : y.2.2.filter (fun p => decide (p.1 = nm)) = (List.range' a c).map fun (p : Nat) => (nm, (p : Int)) := by
    rw [hyc, ← hiv]
    exact filter_plc (asc_nodup (risingB_asc hR.names)) htm
  have hysm := hiny.small
  (apply vC_skip; apply seqP_normal; apply vC_seq; apply vC_region; (iterate 2 (((apply vL_val); (case h => ((apply opv_E); exact rfl))))); apply vL_nil; apply seqP_normal; (iterate 2 (apply vC_seq)); apply vC_region; (iterate 2 (((apply vL_val); (case h => ((apply opv_E); exact rfl))))); ((apply vL_val); (case h => ((apply opv_indexAddr); (first | exact norm_eq rfl | ((conv => lhs; whnf) <;> exact rfl)); exact rfl; (first | assumption | infer_instance); (first | omega | (simp only [List.length_map]; omega)); (first | omega | (simp only [List.length_map]; omega))))); ((apply vL_val); (case h => ((apply opv_fieldAddr); exact rfl))); ((apply vL_val); (case h => ((apply opv_ld_el); exact rfl; exact rfl; (first | assumption | infer_instance); assumption; exact rfl))); ((apply vL_val); (case h => ((apply opv_len); (first | exact norm_eq rfl | ((conv => lhs; whnf) <;> exact rfl)); (first | assumption | infer_instance)))); ((apply vL_val); (case h => ((apply opv_E); exact rfl))); apply vL_nil; apply seqP_normal; apply vC_block)
  (apply vC_loop3 77371243231964230326779920 63 15 16 (fun u u15 u16 w' => ∃ (e n : Nat) (last : Int), u = .int .i64 (e : Int) ∧ e ≤ y.2.2.length ∧ u15 = .int .i64 (n : Int) ∧ u16 = .int .i64 last ∧ n = ((y.2.2.take e).filter (fun p => decide (p.1 = nm))).length ∧ n ≤ c ∧ (0 < n → last + 1 = ((a + n : Nat) : Int)) ∧ -1 ≤ last ∧ last ≤ 8 ∧ Fr No w6 w') (fun u _ _ _ => y.2.2.length - (RowKit.intOf u).toNat)); (case h1 => (first | exact norm_eq rfl | ((conv => lhs; whnf) <;> exact rfl))); (case h2 => (first | exact norm_eq rfl | ((conv => lhs; whnf) <;> exact rfl))); (case h3 => (first | exact norm_eq rfl | ((conv => lhs; whnf) <;> exact rfl)))
  case h0 => exact ⟨0, 0, -1, rfl, by omega, rfl, rfl, by simp, by omega, by omega, by omega, by omega, Fr.refl _ _⟩
  case round =>
  rintro junk4 _ _ _ w7 ⟨e, n, last, rfl, he, rfl, rfl, hn, hnc, hlast, hl1, hl2, hf7⟩
  have htb7 := htb6.frN hf7
  have hiny7 := hiny6.frN hf7
  by_cases hel : e < y.2.2.length
  · obtain ⟨⟨pt, pp⟩, hpl⟩ : ∃ z, y.2.2[e]? = some z := ⟨y.2.2[e], by simp [hel]⟩
    have hnx := filter_nextT (nm := nm) hpl
    (apply vC_seq; apply vC_region; ((apply vL_val); (case h => ((apply opv_E); exact rfl))); apply vL_nil; apply seqP_normal; apply vC_seq; (refine vC_cond_dec rfl (fun _ => ?_) (fun h => by omega)); apply vC_skip; apply seqP_normal; apply vC_seq; apply vC_block; apply vC_seq; apply vC_region; ((apply vL_val); (case h => ((apply opv_indexAddr); (first | exact norm_eq rfl | ((conv => lhs; whnf) <;> exact rfl)); exact rfl; (first | assumption | infer_instance); (first | omega | (simp only [List.length_map]; omega)); (first | omega | (simp only [List.length_map]; omega))))); ((apply vL_val); (case h => ((apply opv_ld_eln); exact rfl; exact rfl; (first | assumption | infer_instance); assumption))); ((apply vL_val); (case h => (apply opw_alloc))); ((apply vL_skip); (case h => ((apply ops_storen); (first | exact norm_eq rfl | ((conv => lhs; whnf) <;> exact rfl)); (first | exact norm_eq rfl | ((conv => lhs; whnf) <;> exact rfl)); exact rfl; (first | exact (fun u hu => EncOk.one _ u hu) | (intro u hu; simp at hu; rcases hu with rfl | rfl <;> rfl)); (first | assumption | infer_instance); (first | decide | exact of_decide_eq_true rfl | (simp; done))))); apply vL_nil; apply seqP_normal; (iterate 2 (apply vC_seq)); apply vC_region; ((apply vL_val); (case h => ((apply opv_fieldAddr); exact rfl))); ((apply vL_val); (case h => ((apply opv_loadb1); exact rfl; exact rfl; (first | assumption | infer_instance); exact rfl))); ((apply vL_val); (case h => ((apply opv_fieldAddr); exact rfl))); ((apply vL_val); (case h => ((apply opv_loadb1); exact rfl; exact rfl; (first | assumption | infer_instance); exact rfl))); ((apply vL_val); (case h => ((apply opv_neq_str); exact rfl; exact rfl))); apply vL_nil; apply seqP_normal)
    refine vC_cond_dec rfl (fun hne2 => ?_) (fun hne2 => ?_)
    · rw [if_neg hne2, ← hn] at hnx
      (apply vC_exit; apply seqP_exit; apply blockP_exit; apply seqP_normal; apply vC_region; ((apply vL_val); (case h => ((apply opv_add); exact rfl; exact rfl; (first | omega | (simp only [List.length_map]; omega))))); ((apply vL_val); (case h => ((apply opv_E); exact rfl))); apply vL_nil; apply loopP_normal)
      (with_reducible apply end3); (case hs => (repeat (first | (with_reducible exact same_mask _ _ _) | with_reducible apply same_updN | ((with_reducible refine same_updO ?_ ?_); rotate_left; exact rfl) | ((with_reducible refine same_upd ?_ ?_); rotate_left; exact rfl) | ((with_reducible refine same_maskIn ?_ ?_); rotate_left; exact rfl)))); (case h1 => (first | exact norm_eq rfl | ((conv => lhs; whnf) <;> exact rfl))); (case h2 => (first | exact norm_eq rfl | ((conv => lhs; whnf) <;> exact rfl))); (case h3 => (first | exact norm_eq rfl | ((conv => lhs; whnf) <;> exact rfl)))
      · exact ⟨e + 1, n, last, rfl, by omega, rfl, rfl, hnx.symm, hnc, hlast, hl1, hl2, hf7.trans (by (repeat (first | exact Fr.refl _ _ | assumption | with_reducible apply Fr.allocSet | with_reducible apply Fr.alloc | with_reducible apply Fr.drewN | with_reducible apply Fr.drew | ((with_reducible apply Fr.set); rotate_left; (right; ((try simp only [alloc_size]); omega))) | (refine Fr.trans ?_ (by assumption)))))⟩
      · simp [RowKit.intOf]; omega
    · have hpt : pt = nm := by simpa using hne2
      obtain ⟨hpp, hlt⟩ := filt_prefix hfl hpl hpt
      dsimp only at hpp
      rw [← hn] at hpp hlt
      rw [if_pos hpt, ← hn] at hnx
      have hanq := hac n hlt
      rcases Nat.eq_zero_or_pos n with hz | hz
      · (apply vC_skip; apply seqP_normal; (iterate 2 (apply vC_seq)); apply vC_region; (iterate 3 (((apply vL_val); (case h => ((apply opv_E); exact rfl))))); (refine vL_and rfl rfl (fun h => by omega) (fun _ => ?_)); (iterate 4 (((apply vL_unwanted'); exact rfl; exact rfl))); ((apply vL_val); (case h => ((apply opv_E); exact rfl))); apply vL_nil; apply seqP_normal; ((apply vC_cond_false); exact rfl); apply vC_skip; apply seqP_normal)
        (with_reducible apply vC_drawQ); (((apply vQ_op); (case hi => exact rfl); (case hf => kernel_rfl); (case hS => (first | exact Dr.refl _ | assumption | exact ⟨_, rfl⟩)); (case hy => (intro j; ((apply opv_E); exact rfl)))); ((apply vQ_op); (case hi => exact rfl); (case hf => kernel_rfl); (case hS => (first | exact Dr.refl _ | assumption | exact ⟨_, rfl⟩)); (case hy => (intro j; ((apply opv_add); exact rfl; exact rfl; (first | omega | (simp only [List.length_map]; omega)))))); ((apply vQ_op); (case hi => exact rfl); (case hf => kernel_rfl); (case hS => (first | exact Dr.refl _ | assumption | exact ⟨_, rfl⟩)); (case hy => (intro j; ((apply opv_fieldAddr); exact rfl)))); ((apply vQ_op); (case hi => exact rfl); (case hf => kernel_rfl); (case hS => (first | exact Dr.refl _ | assumption | exact ⟨_, rfl⟩)); (case hy => (intro j; ((apply opv_loadb1); exact rfl; exact rfl; (first | assumption | infer_instance); exact rfl)))); (iterate 2 (((apply vQ_op); (case hi => exact rfl); (case hf => kernel_rfl); (case hS => (first | exact Dr.refl _ | assumption | exact ⟨_, rfl⟩)); (case hy => (intro j; ((apply opv_E); exact rfl)))))); ((apply vQ_end); (case hi => exact rfl); (case hf => kernel_rfl); (case hS => (first | exact Dr.refl _ | assumption | exact ⟨_, rfl⟩))))
        (apply blockP_normal; apply seqP_normal; apply vC_region; ((apply vL_val); (case h => ((apply opv_add); exact rfl; exact rfl; (first | omega | (simp only [List.length_map]; omega))))); ((apply vL_val); (case h => ((apply opv_E); exact rfl))); apply vL_nil; apply loopP_normal)
        (with_reducible apply end3); (case hs => (repeat (first | (with_reducible exact same_mask _ _ _) | with_reducible apply same_updN | ((with_reducible refine same_updO ?_ ?_); rotate_left; exact rfl) | ((with_reducible refine same_upd ?_ ?_); rotate_left; exact rfl) | ((with_reducible refine same_maskIn ?_ ?_); rotate_left; exact rfl)))); (case h1 => (first | exact norm_eq rfl | ((conv => lhs; whnf) <;> exact rfl))); (case h2 => (first | exact norm_eq rfl | ((conv => lhs; whnf) <;> exact rfl))); (case h3 => (first | exact norm_eq rfl | ((conv => lhs; whnf) <;> exact rfl)))
        · exact ⟨e + 1, n + 1, pp, rfl, by omega, rfl, rfl, hnx.symm, by omega, by omega, by omega, by omega, hf7.trans (by (repeat (first | exact Fr.refl _ _ | assumption | with_reducible apply Fr.allocSet | with_reducible apply Fr.alloc | with_reducible apply Fr.drewN | with_reducible apply Fr.drew | ((with_reducible apply Fr.set); rotate_left; (right; ((try simp only [alloc_size]); omega))) | (refine Fr.trans ?_ (by assumption)))))⟩
        · simp [RowKit.intOf]; omega
      · have hl := hlast hz
        (apply vC_skip; apply seqP_normal; (iterate 2 (apply vC_seq)); apply vC_region; (iterate 3 (((apply vL_val); (case h => ((apply opv_E); exact rfl))))); (refine vL_and rfl rfl (fun _ => ?_) (fun h => by omega)); ((apply vL_val); (case h => ((apply opv_fieldAddr); exact rfl))); ((apply vL_wanted); exact rfl); ((apply vL_val); (case h => ((apply opv_loadb1); exact rfl; exact rfl; (first | assumption | infer_instance); exact rfl))); ((apply vL_wanted); exact rfl); ((apply vL_val); (case h => ((apply opv_E); exact rfl))); ((apply vL_wanted); exact rfl); ((apply vL_val); (case h => ((apply opv_add); exact rfl; exact rfl; (first | omega | (simp only [List.length_map]; omega))))); ((apply vL_wanted); exact rfl); (iterate 2 (((apply vL_val); (case h => ((apply opv_E); exact rfl))))); apply vL_nil; apply seqP_normal; (refine vC_cond_dec rfl (fun h => by omega) (fun _ => ?_)); apply vC_skip; apply seqP_normal)
        (with_reducible apply vC_drawQ); (((apply vQ_op); (case hi => exact rfl); (case hf => kernel_rfl); (case hS => (first | exact Dr.refl _ | assumption | exact ⟨_, rfl⟩)); (case hy => (intro j; ((apply opv_E); exact rfl)))); ((apply vQ_op); (case hi => exact rfl); (case hf => kernel_rfl); (case hS => (first | exact Dr.refl _ | assumption | exact ⟨_, rfl⟩)); (case hy => (intro j; ((apply opv_add); exact rfl; exact rfl; (first | omega | (simp only [List.length_map]; omega)))))); ((apply vQ_op); (case hi => exact rfl); (case hf => kernel_rfl); (case hS => (first | exact Dr.refl _ | assumption | exact ⟨_, rfl⟩)); (case hy => (intro j; ((apply opv_fieldAddr); exact rfl)))); ((apply vQ_op); (case hi => exact rfl); (case hf => kernel_rfl); (case hS => (first | exact Dr.refl _ | assumption | exact ⟨_, rfl⟩)); (case hy => (intro j; ((apply opv_loadb1); exact rfl; exact rfl; (first | assumption | infer_instance); exact rfl)))); (iterate 2 (((apply vQ_op); (case hi => exact rfl); (case hf => kernel_rfl); (case hS => (first | exact Dr.refl _ | assumption | exact ⟨_, rfl⟩)); (case hy => (intro j; ((apply opv_E); exact rfl)))))); ((apply vQ_end); (case hi => exact rfl); (case hf => kernel_rfl); (case hS => (first | exact Dr.refl _ | assumption | exact ⟨_, rfl⟩))))
        (apply blockP_normal; apply seqP_normal; apply vC_region; ((apply vL_val); (case h => ((apply opv_add); exact rfl; exact rfl; (first | omega | (simp only [List.length_map]; omega))))); ((apply vL_val); (case h => ((apply opv_E); exact rfl))); apply vL_nil; apply loopP_normal)
        (with_reducible apply end3); (case hs => (repeat (first | (with_reducible exact same_mask _ _ _) | with_reducible apply same_updN | ((with_reducible refine same_updO ?_ ?_); rotate_left; exact rfl) | ((with_reducible refine same_upd ?_ ?_); rotate_left; exact rfl) | ((with_reducible refine same_maskIn ?_ ?_); rotate_left; exact rfl)))); (case h1 => (first | exact norm_eq rfl | ((conv => lhs; whnf) <;> exact rfl))); (case h2 => (first | exact norm_eq rfl | ((conv => lhs; whnf) <;> exact rfl))); (case h3 => (first | exact norm_eq rfl | ((conv => lhs; whnf) <;> exact rfl)))
        · exact ⟨e + 1, n + 1, pp, rfl, by omega, rfl, rfl, hnx.symm, by omega, by omega, by omega, by omega, hf7.trans (by (repeat (first | exact Fr.refl _ _ | assumption | with_reducible apply Fr.allocSet | with_reducible apply Fr.alloc | with_reducible apply Fr.drewN | with_reducible apply Fr.drew | ((with_reducible apply Fr.set); rotate_left; (right; ((try simp only [alloc_size]); omega))) | (refine Fr.trans ?_ (by assumption)))))⟩
        · simp [RowKit.intOf]; omega
  have he' : e = y.2.2.length := by omega
  rw [he', List.take_length, hfl] at hn
  simp only [List.length_map, List.length_range'] at hn
  (apply vC_seq; apply vC_region; ((apply vL_val); (case h => ((apply opv_E); exact rfl))); apply vL_nil; apply seqP_normal; apply vC_seq; (refine vC_cond_dec rfl (fun h => by omega) (fun _ => ?_)); apply vC_exit; apply seqP_exit; apply loopP_exit; apply blockP_exit; apply seqP_normal; apply vC_region; (iterate 2 (((apply vL_val); (case h => ((apply opv_E); exact rfl))))); ((apply vL_val); (case h => ((apply opv_min); exact rfl; exact rfl))); (iterate 2 (((apply vL_val); (case h => ((apply opv_E); exact rfl))))); ((apply vL_val); (case h => ((apply opv_max); exact rfl; exact rfl))); (iterate 2 (((apply vL_val); (case h => ((apply opv_E); exact rfl))))); apply vL_nil; apply blockP_normal; apply seqP_normal; apply vC_region; ((apply vL_val); (case h => ((apply opv_add); exact rfl; exact rfl; (first | omega | (simp only [List.length_map]; omega))))); ((apply vL_val); (case h => ((apply opv_E); exact rfl))); apply vL_nil; apply loopP_normal)
  (with_reducible apply end3); (case hs => (repeat (first | (with_reducible exact same_mask _ _ _) | with_reducible apply same_updN | ((with_reducible refine same_updO ?_ ?_); rotate_left; exact rfl) | ((with_reducible refine same_upd ?_ ?_); rotate_left; exact rfl) | ((with_reducible refine same_maskIn ?_ ?_); rotate_left; exact rfl)))); (case h1 => (first | exact norm_eq rfl | ((conv => lhs; whnf) <;> exact rfl))); (case h2 => (first | exact norm_eq rfl | ((conv => lhs; whnf) <;> exact rfl))); (case h3 => (first | exact norm_eq rfl | ((conv => lhs; whnf) <;> exact rfl)))
  · refine ⟨i + 1, _, _, rfl, by omega, rfl, rfl, ?_, ?_, ?_, ?_, hf6.trans hf7⟩
    · split <;> omega
    · split <;> omega
    · split <;> omega
    · split <;> omega
  · simp [RowKit.intOf]; omega
end Go.Proofs.Ytfceebbkjogedaa
