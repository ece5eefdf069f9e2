/- Layer 27: Right. -/
import Derived.Test.YtfceebbkjogedaaAb
set_option maxRecDepth 100000
namespace Go.Proofs.Ytfceebbkjogedaa
open Go Go.Eng
/-- members and the topics they want -/
structure Subs (h : Array Obj) (v : Value) (subs : List (ByteArray × OV × List ByteArray)) : Prop where
  rd : Rd h 2 nE v subs
  inner : ∀ x ∈ subs, Rd h 1 sE x.2.1.1 x.2.2
  small : ∀ x ∈ subs, x.1.size ≤ 9223372036854775807 ∧ ∀ s ∈ x.2.2, s.size ≤ 9223372036854775807
theorem Subs.frN {w w' : World} {v : Value} {subs : List (ByteArray × OV × List ByteArray)} (s : Subs w.heap v subs) (hf : Fr No w w') : Subs w'.heap v subs := ⟨s.rd.frN hf, fun x hx => (s.inner x hx).frN hf, s.small⟩
def rightB (ts : List (ByteArray × Int)) (subs : List (ByteArray × OV × List ByteArray)) : Bool :=
  (ts.all fun t => decide (1 ≤ t.2) && decide (t.2 ≤ 8)) && (subs.all fun s => risingB s.2.2 16) && risingB (ts.map (·.1)) 16 && risingB (subs.map (·.1)) 16

theorem right1 (b : Nat) (m : ByteArray) (sl : Value) (l : List ByteArray) (i : Int) (s : ByteArray) (w : World) (hb : Blk w.heap b [.string m, sl] 84) (hr : Rd w.heap 1 sE sl l) (h0 : 0 ≤ i) (h1 : i < l.length) (hs : l[i.toNat]? = some s) :
    Rets Try.prog 81 #[.int .i64 i, .pointer (some ⟨b, 0, none⟩)] w fun v w' => v = .string s ∧ Fr No w w' := by
  have hsm := hr.small
  refine rets_of Try.func81 rfl Try.ntmps81 rfl rfl (by kernel_rfl) ?_
  (apply vC_seq; apply vC_region; ((apply vL_val); (case h => ((apply opv_E); exact rfl))); apply vL_nil; apply seqP_normal; apply vC_seq; apply vC_region; ((apply vL_val); (case h => ((apply opv_fieldAddr); exact rfl))); ((apply vL_val); (case h => ((apply opv_loadb1); exact rfl; exact rfl; (first | assumption | infer_instance); exact rfl))); ((apply vL_val); (case h => ((apply opv_E); exact rfl))); ((apply vL_val); (case h => ((apply opv_indexAddr); (first | exact norm_eq rfl | ((conv => lhs; whnf) <;> exact rfl)); exact rfl; (first | assumption | infer_instance); (first | omega | (simp only [List.length_map]; omega)); (first | omega | (simp only [List.length_map]; omega))))); ((apply vL_val); (case h => ((apply opv_ld_el); exact rfl; exact rfl; (first | assumption | infer_instance); assumption; exact rfl))); ((apply vL_val); (case h => ((apply opv_E); exact rfl))); apply vL_nil; apply seqP_normal; apply vC_ret)
  (apply ret1; (case h1 => (first | exact norm_eq rfl | ((conv => lhs; whnf) <;> exact rfl))))
  exact ⟨rfl, Fr.refl _ _⟩
theorem right2 (b : Nat) (vt : Value) (ts : List (ByteArray × Int)) (i : Int) (s : ByteArray) (w : World) (hb : Blk w.heap b [vt] 67) (hr : Rd w.heap 2 tE vt ts) (h0 : 0 ≤ i) (h1 : i < ts.length) (hs : (ts.map (·.1))[i.toNat]? = some s) :
    Rets Try.prog 82 #[.int .i64 i, .pointer (some ⟨b, 0, none⟩)] w fun v w' => v = .string s ∧ Fr No w w' := by
  have hsm := hr.small
  obtain ⟨x, hx⟩ : ∃ x, ts[i.toNat]? = some x := ⟨ts[i.toNat]'(by omega), List.getElem?_eq_getElem _⟩
  obtain rfl : x.1 = s := by simpa [hx] using hs
  refine rets_of Try.func82 rfl Try.ntmps82 rfl rfl (by kernel_rfl) ?_
  (apply vC_seq; apply vC_region; ((apply vL_val); (case h => ((apply opv_E); exact rfl))); apply vL_nil; apply seqP_normal; apply vC_seq; apply vC_region; ((apply vL_val); (case h => ((apply opv_loadb1); exact rfl; exact rfl; (first | assumption | infer_instance); exact rfl))); ((apply vL_val); (case h => ((apply opv_E); exact rfl))); ((apply vL_val); (case h => ((apply opv_indexAddr); (first | exact norm_eq rfl | ((conv => lhs; whnf) <;> exact rfl)); exact rfl; (first | assumption | infer_instance); (first | omega | (simp only [List.length_map]; omega)); (first | omega | (simp only [List.length_map]; omega))))); ((apply vL_val); (case h => ((apply opv_fieldAddr); exact rfl))); ((apply vL_val); (case h => ((apply opv_ld_el); exact rfl; exact rfl; (first | assumption | infer_instance); assumption; exact rfl))); ((apply vL_val); (case h => ((apply opv_E); exact rfl))); apply vL_nil; apply seqP_normal; apply vC_ret)
  (apply ret1; (case h1 => (first | exact norm_eq rfl | ((conv => lhs; whnf) <;> exact rfl))))
  exact ⟨rfl, Fr.refl _ _⟩
theorem right3 (b : Nat) (vs : Value) (subs : List (ByteArray × OV × List ByteArray)) (i : Int) (s : ByteArray) (w : World) (hb : Blk w.heap b [vs] 68) (hr : Rd w.heap 2 nE vs subs) (h0 : 0 ≤ i) (h1 : i < subs.length) (hs : (subs.map (·.1))[i.toNat]? = some s) :
    Rets Try.prog 83 #[.int .i64 i, .pointer (some ⟨b, 0, none⟩)] w fun v w' => v = .string s ∧ Fr No w w' := by
  have hsm := hr.small
  obtain ⟨x, hx⟩ : ∃ x, subs[i.toNat]? = some x := ⟨subs[i.toNat]'(by omega), List.getElem?_eq_getElem _⟩
  obtain rfl : x.1 = s := by simpa [hx] using hs
  refine rets_of Try.func83 rfl Try.ntmps83 rfl rfl (by kernel_rfl) ?_
  (apply vC_seq; apply vC_region; ((apply vL_val); (case h => ((apply opv_E); exact rfl))); apply vL_nil; apply seqP_normal; apply vC_seq; apply vC_region; ((apply vL_val); (case h => ((apply opv_loadb1); exact rfl; exact rfl; (first | assumption | infer_instance); exact rfl))); ((apply vL_val); (case h => ((apply opv_E); exact rfl))); ((apply vL_val); (case h => ((apply opv_indexAddr); (first | exact norm_eq rfl | ((conv => lhs; whnf) <;> exact rfl)); exact rfl; (first | assumption | infer_instance); (first | omega | (simp only [List.length_map]; omega)); (first | omega | (simp only [List.length_map]; omega))))); ((apply vL_val); (case h => ((apply opv_fieldAddr); exact rfl))); ((apply vL_val); (case h => ((apply opv_ld_el); exact rfl; exact rfl; (first | assumption | infer_instance); assumption; exact rfl))); ((apply vL_val); (case h => ((apply opv_E); exact rfl))); apply vL_nil; apply seqP_normal; apply vC_ret)
  (apply ret1; (case h1 => (first | exact norm_eq rfl | ((conv => lhs; whnf) <;> exact rfl))))
  exact ⟨rfl, Fr.refl _ _⟩

theorem right27 (vt vs : Value) (ts : List (ByteArray × Int)) (subs : List (ByteArray × OV × List ByteArray)) (w : World) (ht : Rd w.heap 2 tE vt ts) (hs : Subs w.heap vs subs) (hts : ∀ t ∈ ts, t.1.size ≤ 9223372036854775807) :
    Rets Try.prog 52 #[vt, vs] w fun u w' => Fr No w w' ∧ u = .bool (rightB ts subs) := by
  have hrd := hs.rd
  have hsm1 := ht.small
  have hsm2 := hrd.small
  obtain ⟨ta, tc, rfl⟩ := ht.len
  obtain ⟨sa, sc, rfl⟩ := hrd.len
  have hiff : rightB ts subs = true ↔ (∀ t ∈ ts, 1 ≤ t.2 ∧ t.2 ≤ 8) ∧ (∀ s ∈ subs, risingB s.2.2 16 = true) ∧ risingB (ts.map (·.1)) 16 = true ∧ risingB (subs.map (·.1)) 16 = true := by
    unfold rightB
    simp only [Bool.and_eq_true, decide_eq_true_eq, List.all_eq_true, and_assoc]
  refine rets_of Try.func52 rfl Try.ntmps52 rfl rfl (by kernel_rfl) ?_
  (apply vC_seq; apply vC_region; (iterate 2 (((apply vL_val); (case h => ((apply opw_box1); (first | exact norm_eq rfl | ((conv => lhs; whnf) <;> exact rfl)); (first | rfl | assumption)))))); ((apply vL_val); (case h => ((apply opv_E); exact rfl))); apply vL_nil; apply seqP_normal; (iterate 2 (apply vC_seq)); apply vC_region; ((apply vL_val); (case h => ((apply opv_loadb1); exact rfl; exact rfl; (first | assumption | infer_instance); exact rfl))); ((apply vL_val); (case h => ((apply opv_lenc); exact rfl))); ((apply vL_val); (case h => ((apply opv_E); exact rfl))); apply vL_nil; apply seqP_normal; apply vC_block)
  refine vC_gen (fun w' => Fr No w w' ∧ Blk w'.heap w.heap.size [.slice ta ts.length tc] 67 ∧ Blk w'.heap (w.alloc (.cells [.slice ta ts.length tc].toArray 67)).heap.size [.slice sa subs.length sc] 68) ⟨by (repeat (first | exact Fr.refl _ _ | assumption | with_reducible apply Fr.allocSet | with_reducible apply Fr.alloc | with_reducible apply Fr.drewN | with_reducible apply Fr.drew | ((with_reducible apply Fr.set); rotate_left; (right; ((try simp only [alloc_size]); omega))) | (refine Fr.trans ?_ (by assumption)))), inferInstance, inferInstance⟩ ?_
  rintro w1 ⟨hf1, hbt, hbs⟩
  generalize (w.alloc (.cells [.slice ta ts.length tc].toArray 67)).heap.size = b3 at *
  generalize w.heap.size = b2 at *
  skip
  (apply vC_loop1 16775248 11 (fun u w' => ∃ k : Nat, u = .int .i64 (k : Int) ∧ k ≤ ts.length ∧ Fr No w1 w' ∧ ∀ (i : Nat) t, i < k → ts[i]? = some t → 1 ≤ t.2 ∧ t.2 ≤ 8) (fun u _ => ts.length - (RowKit.intOf u).toNat)); (case h1 => (first | exact norm_eq rfl | ((conv => lhs; whnf) <;> exact rfl)))
  case h0 => exact ⟨0, rfl, by omega, Fr.refl _ _, by omega⟩
  case round =>
  rintro junk _ w2 ⟨k, rfl, hk, hf2, hp⟩
  have hbt2 := hbt.frN hf2
  have hbs2 := hbs.frN hf2
  have ht2 := ht.frN (hf1.trans hf2)
  by_cases hkl : k < ts.length
  · obtain ⟨⟨nm, pn⟩, hx⟩ : ∃ x, ts[k]? = some x := ⟨ts[k], by simp [hkl]⟩
    rcases (by omega : (1 ≤ pn ∧ pn ≤ 8) ∨ pn < 1 ∨ 8 < pn) with hq | hq | hq
    · (apply vC_seq; apply vC_region; ((apply vL_val); (case h => ((apply opv_E); exact rfl))); apply vL_nil; apply seqP_normal; apply vC_seq; (refine vC_cond_dec rfl (fun _ => ?_) (fun h => by omega)); apply vC_skip; apply seqP_normal; apply vC_seq; apply vC_block; apply vC_seq; apply vC_region; ((apply vL_val); (case h => ((apply opv_indexAddr); (first | exact norm_eq rfl | ((conv => lhs; whnf) <;> exact rfl)); exact rfl; (first | assumption | infer_instance); (first | omega | (simp only [List.length_map]; omega)); (first | omega | (simp only [List.length_map]; omega))))); ((apply vL_val); (case h => ((apply opv_ld_eln); exact rfl; exact rfl; (first | assumption | infer_instance); assumption))); ((apply vL_val); (case h => (apply opw_alloc))); ((apply vL_skip); (case h => ((apply ops_storen); (first | exact norm_eq rfl | ((conv => lhs; whnf) <;> exact rfl)); (first | exact norm_eq rfl | ((conv => lhs; whnf) <;> exact rfl)); exact rfl; (first | exact (fun u hu => EncOk.one _ u hu) | (intro u hu; simp at hu; rcases hu with rfl | rfl <;> rfl)); (first | assumption | infer_instance); (first | decide | exact of_decide_eq_true rfl | (simp; done))))); apply vL_nil; apply seqP_normal; apply vC_seq; apply vC_region; ((apply vL_val); (case h => ((apply opv_fieldAddr); exact rfl))); ((apply vL_val); (case h => ((apply opv_loadb1); exact rfl; exact rfl; (first | assumption | infer_instance); exact rfl))); (iterate 2 (((apply vL_val); (case h => ((apply opv_E); exact rfl))))); (refine vL_or rfl rfl (fun _ => ?_) (fun h => by omega)); ((apply vL_val); (case h => ((apply opv_fieldAddr); exact rfl))); ((apply vL_wanted); exact rfl); ((apply vL_val); (case h => ((apply opv_loadb1); exact rfl; exact rfl; (first | assumption | infer_instance); exact rfl))); ((apply vL_wanted); exact rfl); (iterate 2 (((apply vL_val); (case h => ((apply opv_E); exact rfl))))); apply vL_nil; apply seqP_normal; (refine vC_cond_dec rfl (fun h => by omega) (fun _ => ?_)); apply vC_skip; apply blockP_normal; apply seqP_normal; apply vC_region; ((apply vL_val); (case h => ((apply opv_add); exact rfl; exact rfl; (first | omega | (simp only [List.length_map]; omega))))); ((apply vL_val); (case h => ((apply opv_E); exact rfl))); apply vL_nil; apply loopP_normal)
      (with_reducible apply end1); (case hs => (repeat (first | (with_reducible exact same_mask _ _ _) | with_reducible apply same_updN | ((with_reducible refine same_updO ?_ ?_); rotate_left; exact rfl) | ((with_reducible refine same_upd ?_ ?_); rotate_left; exact rfl) | ((with_reducible refine same_maskIn ?_ ?_); rotate_left; exact rfl)))); (case h1 => (first | exact norm_eq rfl | ((conv => lhs; whnf) <;> exact rfl)))
      · refine ⟨k + 1, rfl, by omega, by (repeat (first | exact Fr.refl _ _ | assumption | with_reducible apply Fr.allocSet | with_reducible apply Fr.alloc | with_reducible apply Fr.drewN | with_reducible apply Fr.drew | ((with_reducible apply Fr.set); rotate_left; (right; ((try simp only [alloc_size]); omega))) | (refine Fr.trans ?_ (by assumption)))), fun i t hi hti => ?_⟩
        by_cases e : i = k
        · subst e; rw [hx] at hti; cases hti; exact hq
        · exact hp i t (by omega) hti
      · simp [RowKit.intOf]; omega
    all_goals
      have hbad : rightB ts subs = false := false_of fun h => by
        have := (hiff.1 h).1 _ (List.mem_of_getElem? hx)
        dsimp only at this
        omega
      rw [hbad]
    · (apply vC_seq; apply vC_region; ((apply vL_val); (case h => ((apply opv_E); exact rfl))); apply vL_nil; apply seqP_normal; apply vC_seq; (refine vC_cond_dec rfl (fun _ => ?_) (fun h => by omega)); apply vC_skip; apply seqP_normal; apply vC_seq; apply vC_block; apply vC_seq; apply vC_region; ((apply vL_val); (case h => ((apply opv_indexAddr); (first | exact norm_eq rfl | ((conv => lhs; whnf) <;> exact rfl)); exact rfl; (first | assumption | infer_instance); (first | omega | (simp only [List.length_map]; omega)); (first | omega | (simp only [List.length_map]; omega))))); ((apply vL_val); (case h => ((apply opv_ld_eln); exact rfl; exact rfl; (first | assumption | infer_instance); assumption))); ((apply vL_val); (case h => (apply opw_alloc))); ((apply vL_skip); (case h => ((apply ops_storen); (first | exact norm_eq rfl | ((conv => lhs; whnf) <;> exact rfl)); (first | exact norm_eq rfl | ((conv => lhs; whnf) <;> exact rfl)); exact rfl; (first | exact (fun u hu => EncOk.one _ u hu) | (intro u hu; simp at hu; rcases hu with rfl | rfl <;> rfl)); (first | assumption | infer_instance); (first | decide | exact of_decide_eq_true rfl | (simp; done))))); apply vL_nil; apply seqP_normal; apply vC_seq; apply vC_region; ((apply vL_val); (case h => ((apply opv_fieldAddr); exact rfl))); ((apply vL_val); (case h => ((apply opv_loadb1); exact rfl; exact rfl; (first | assumption | infer_instance); exact rfl))); (iterate 2 (((apply vL_val); (case h => ((apply opv_E); exact rfl))))); (refine vL_or rfl rfl (fun h => by omega) (fun _ => ?_)); (iterate 2 (((apply vL_unwanted'); exact rfl; exact rfl))); ((apply vL_val); (case h => ((apply opv_E); exact rfl))); apply vL_nil; apply seqP_normal; ((apply vC_cond_true); exact rfl); apply vC_seq; apply vC_region; ((apply vL_val); (case h => ((apply opv_E); exact rfl))); apply vL_nil; apply seqP_normal; apply vC_ret; apply blockP_ret; apply seqP_ret; apply loopP_ret; apply blockP_ret; apply seqP_ret)
      (apply ret1; (case h1 => (first | exact norm_eq rfl | ((conv => lhs; whnf) <;> exact rfl))))
      exact ⟨hf1.trans (by (repeat (first | exact Fr.refl _ _ | assumption | with_reducible apply Fr.allocSet | with_reducible apply Fr.alloc | with_reducible apply Fr.drewN | with_reducible apply Fr.drew | ((with_reducible apply Fr.set); rotate_left; (right; ((try simp only [alloc_size]); omega))) | (refine Fr.trans ?_ (by assumption))))), rfl⟩
    · (apply vC_seq; apply vC_region; ((apply vL_val); (case h => ((apply opv_E); exact rfl))); apply vL_nil; apply seqP_normal; apply vC_seq; (refine vC_cond_dec rfl (fun _ => ?_) (fun h => by omega)); apply vC_skip; apply seqP_normal; apply vC_seq; apply vC_block; apply vC_seq; apply vC_region; ((apply vL_val); (case h => ((apply opv_indexAddr); (first | exact norm_eq rfl | ((conv => lhs; whnf) <;> exact rfl)); exact rfl; (first | assumption | infer_instance); (first | omega | (simp only [List.length_map]; omega)); (first | omega | (simp only [List.length_map]; omega))))); ((apply vL_val); (case h => ((apply opv_ld_eln); exact rfl; exact rfl; (first | assumption | infer_instance); assumption))); ((apply vL_val); (case h => (apply opw_alloc))); ((apply vL_skip); (case h => ((apply ops_storen); (first | exact norm_eq rfl | ((conv => lhs; whnf) <;> exact rfl)); (first | exact norm_eq rfl | ((conv => lhs; whnf) <;> exact rfl)); exact rfl; (first | exact (fun u hu => EncOk.one _ u hu) | (intro u hu; simp at hu; rcases hu with rfl | rfl <;> rfl)); (first | assumption | infer_instance); (first | decide | exact of_decide_eq_true rfl | (simp; done))))); apply vL_nil; apply seqP_normal; apply vC_seq; apply vC_region; ((apply vL_val); (case h => ((apply opv_fieldAddr); exact rfl))); ((apply vL_val); (case h => ((apply opv_loadb1); exact rfl; exact rfl; (first | assumption | infer_instance); exact rfl))); (iterate 2 (((apply vL_val); (case h => ((apply opv_E); exact rfl))))); (refine vL_or rfl rfl (fun _ => ?_) (fun h => by omega)); ((apply vL_val); (case h => ((apply opv_fieldAddr); exact rfl))); ((apply vL_wanted); exact rfl); ((apply vL_val); (case h => ((apply opv_loadb1); exact rfl; exact rfl; (first | assumption | infer_instance); exact rfl))); ((apply vL_wanted); exact rfl); (iterate 2 (((apply vL_val); (case h => ((apply opv_E); exact rfl))))); apply vL_nil; apply seqP_normal; (refine vC_cond_dec rfl (fun _ => ?_) (fun h => by omega)); apply vC_seq; apply vC_region; ((apply vL_val); (case h => ((apply opv_E); exact rfl))); apply vL_nil; apply seqP_normal; apply vC_ret; apply blockP_ret; apply seqP_ret; apply loopP_ret; apply blockP_ret; apply seqP_ret)
      (apply ret1; (case h1 => (first | exact norm_eq rfl | ((conv => lhs; whnf) <;> exact rfl))))
      exact ⟨hf1.trans (by (repeat (first | exact Fr.refl _ _ | assumption | with_reducible apply Fr.allocSet | with_reducible apply Fr.alloc | with_reducible apply Fr.drewN | with_reducible apply Fr.drew | ((with_reducible apply Fr.set); rotate_left; (right; ((try simp only [alloc_size]); omega))) | (refine Fr.trans ?_ (by assumption))))), rfl⟩
  have hp1 : ∀ t ∈ ts, 1 ≤ t.2 ∧ t.2 ≤ 8 := fun t hm => by
    obtain ⟨i, hi, rfl⟩ := List.getElem_of_mem hm
    exact hp i _ (by omega) (List.getElem?_eq_getElem hi)
  (apply vC_seq; apply vC_region; ((apply vL_val); (case h => ((apply opv_E); exact rfl))); apply vL_nil; apply seqP_normal; apply vC_seq; (refine vC_cond_dec rfl (fun h => by omega) (fun _ => ?_)); apply vC_exit; apply seqP_exit; apply loopP_exit; apply blockP_exit; apply seqP_normal; (iterate 2 (apply vC_seq)); apply vC_region; ((apply vL_val); (case h => ((apply opv_loadb1); exact rfl; exact rfl; (first | assumption | infer_instance); exact rfl))); ((apply vL_val); (case h => ((apply opv_lenc); exact rfl))); ((apply vL_val); (case h => ((apply opv_E); exact rfl))); apply vL_nil; apply seqP_normal; apply vC_block)
  (apply vC_loop1 137371844880 26 (fun u w' => ∃ k : Nat, u = .int .i64 (k : Int) ∧ k ≤ subs.length ∧ Fr No w2 w' ∧ ∀ (i : Nat) t, i < k → subs[i]? = some t → risingB t.2.2 16 = true) (fun u _ => subs.length - (RowKit.intOf u).toNat)); (case h1 => (first | exact norm_eq rfl | ((conv => lhs; whnf) <;> exact rfl)))
  case h0 => exact ⟨0, rfl, by omega, Fr.refl _ _, by omega⟩
  case round =>
  rintro junk2 _ w3 ⟨j, rfl, hj, hf3, hp2⟩
  have hbt3 := hbt2.frN hf3
  have hbs3 := hbs2.frN hf3
  have hf03 : Fr No w w3 := (hf1.trans hf2).trans hf3
  have ht3 := ht.frN hf03
  have hs3 := hs.frN hf03
  have hrd3 := hs3.rd
  by_cases hjl : j < subs.length
  · obtain ⟨x, hx⟩ : ∃ x, subs[j]? = some x := ⟨subs[j], by simp [hjl]⟩
    have hm := List.mem_of_getElem? hx
    have hin := hs3.inner x hm
    have hone := x.2.1.2
    have hinsm := hin.small
    (apply vC_seq; apply vC_region; ((apply vL_val); (case h => ((apply opv_E); exact rfl))); apply vL_nil; apply seqP_normal; apply vC_seq; (refine vC_cond_dec rfl (fun _ => ?_) (fun h => by omega)); apply vC_skip; apply seqP_normal; apply vC_seq; apply vC_block; apply vC_seq; apply vC_region; ((apply vL_val); (case h => ((apply opv_indexAddr); (first | exact norm_eq rfl | ((conv => lhs; whnf) <;> exact rfl)); exact rfl; (first | assumption | infer_instance); (first | omega | (simp only [List.length_map]; omega)); (first | omega | (simp only [List.length_map]; omega))))); ((apply vL_val); (case h => ((apply opv_ld_eln); exact rfl; exact rfl; (first | assumption | infer_instance); assumption))); ((apply vL_val); (case h => (apply opw_alloc))); ((apply vL_skip); (case h => ((apply ops_storen); (first | exact norm_eq rfl | ((conv => lhs; whnf) <;> exact rfl)); (first | exact norm_eq rfl | ((conv => lhs; whnf) <;> exact rfl)); exact rfl; (first | exact (fun u hu => EncOk.one _ u hu) | (intro u hu; simp at hu; rcases hu with rfl | rfl <;> rfl)); (first | assumption | infer_instance); (first | decide | exact of_decide_eq_true rfl | (simp; done))))); apply vL_nil; apply seqP_normal; apply vC_seq; apply vC_region; ((apply vL_val); (case h => ((apply opv_fieldAddr); exact rfl))); ((apply vL_val); (case h => ((apply opv_loadb1); exact rfl; exact rfl; (first | assumption | infer_instance); exact rfl))); ((apply vL_val); (case h => ((apply opv_len); (first | exact norm_eq rfl | ((conv => lhs; whnf) <;> exact rfl)); (first | assumption | infer_instance)))); ((apply vL_val); (case h => ((apply opv_makeFunc); exact rfl))))
    have hblk : Blk ((w3.alloc (.cells [.string ⟨#[]⟩, .slice none 0 0].toArray 84)).setRow w3.heap.size [.string x.1, x.2.1.1].toArray).heap w3.heap.size [.string x.1, x.2.1.1] 84 := inferInstance
    have hin4 : Rd ((w3.alloc (.cells [.string ⟨#[]⟩, .slice none 0 0].toArray 84)).setRow w3.heap.size [.string x.1, x.2.1.1].toArray).heap 1 sE x.2.1.1 x.2.2 := inferInstance
    refine vL_callF rfl (rising27 x.2.2 16 _ _ _ [.pointer (some ⟨w3.heap.size, 0, none⟩)] _ rfl rfl hinsm (fun s hs' => (hs.small x hm).2 s hs') (fun i s w4 h0 h1 hi hf => right1 _ _ _ _ i s w4 (hblk.frN hf) (hin4.frN hf) h0 h1 hi)) rfl ?_
    rintro _ w4 ⟨hf4, rfl⟩
    have hf34 : Fr No w3 w4 := Fr.trans (by (repeat (first | exact Fr.refl _ _ | assumption | with_reducible apply Fr.allocSet | with_reducible apply Fr.alloc | with_reducible apply Fr.drewN | with_reducible apply Fr.drew | ((with_reducible apply Fr.set); rotate_left; (right; ((try simp only [alloc_size]); omega))) | (refine Fr.trans ?_ (by assumption))))) hf4
    cases hb : risingB x.2.2 16 with
    | false =>
      (((apply vL_val); (case h => ((apply opv_not); exact rfl))); apply vL_nil; apply seqP_normal; ((apply vC_cond_true); exact rfl); apply vC_seq; apply vC_region; ((apply vL_val); (case h => ((apply opv_E); exact rfl))); apply vL_nil; apply seqP_normal; apply vC_ret; apply blockP_ret; apply seqP_ret; apply loopP_ret; apply blockP_ret; apply seqP_ret)
      (apply ret1; (case h1 => (first | exact norm_eq rfl | ((conv => lhs; whnf) <;> exact rfl))))
      exact ⟨hf03.trans hf34, congrArg Value.bool (false_of fun h => by have := (hiff.1 h).2.1 x hm; rw [hb] at this; cases this).symm⟩
    | true =>
      (((apply vL_val); (case h => ((apply opv_not); exact rfl))); apply vL_nil; apply seqP_normal; ((apply vC_cond_false); exact rfl); apply vC_skip; apply blockP_normal; apply seqP_normal; apply vC_region; ((apply vL_val); (case h => ((apply opv_add); exact rfl; exact rfl; (first | omega | (simp only [List.length_map]; omega))))); ((apply vL_val); (case h => ((apply opv_E); exact rfl))); apply vL_nil; apply loopP_normal)
      (with_reducible apply end1); (case hs => (repeat (first | (with_reducible exact same_mask _ _ _) | with_reducible apply same_updN | ((with_reducible refine same_updO ?_ ?_); rotate_left; exact rfl) | ((with_reducible refine same_upd ?_ ?_); rotate_left; exact rfl) | ((with_reducible refine same_maskIn ?_ ?_); rotate_left; exact rfl)))); (case h1 => (first | exact norm_eq rfl | ((conv => lhs; whnf) <;> exact rfl)))
      · refine ⟨j + 1, rfl, by omega, hf3.trans hf34, fun i t hi hti => ?_⟩
        by_cases e : i = j
        · subst e; rw [hx] at hti; cases hti; exact hb
        · exact hp2 i t (by omega) hti
      · simp [RowKit.intOf]; omega
  have hp3 : ∀ t ∈ subs, risingB t.2.2 16 = true := fun t hm => by
    obtain ⟨i, hi, rfl⟩ := List.getElem_of_mem hm
    exact hp2 i _ (by omega) (List.getElem?_eq_getElem hi)
  (apply vC_seq; apply vC_region; ((apply vL_val); (case h => ((apply opv_E); exact rfl))); apply vL_nil; apply seqP_normal; apply vC_seq; (refine vC_cond_dec rfl (fun h => by omega) (fun _ => ?_)); apply vC_exit; apply seqP_exit; apply loopP_exit; apply blockP_exit; apply seqP_normal; apply vC_seq; apply vC_region; ((apply vL_val); (case h => ((apply opv_loadb1); exact rfl; exact rfl; (first | assumption | infer_instance); exact rfl))); ((apply vL_val); (case h => ((apply opv_lenc); exact rfl))); ((apply vL_val); (case h => ((apply opv_makeFunc); exact rfl))))
  refine vL_callF rfl (rising27 (ts.map (·.1)) 16 ts.length _ _ [.pointer (some ⟨b2, 0, none⟩)] _ (by simp) rfl (by simpa using hsm1) (fun s hs' => by simp at hs'; obtain ⟨p, hp'⟩ := hs'; exact hts _ hp') (fun i s w4 h0 h1 hi hf => right2 _ _ ts i s w4 (hbt3.frN hf) (ht3.frN hf) h0 (by simpa using h1) hi)) rfl ?_
  rintro _ w4 ⟨hf4, rfl⟩
  cases hb : risingB (ts.map (·.1)) 16 with
  | false =>
    (((apply vL_val); (case h => ((apply opv_E); exact rfl))); (iterate 4 (((apply vL_unwanted'); exact rfl; exact rfl))); (iterate 2 (((apply vL_val); (case h => ((apply opv_E); exact rfl))))); apply vL_nil; apply seqP_normal; apply vC_ret)
    (apply ret1; (case h1 => (first | exact norm_eq rfl | ((conv => lhs; whnf) <;> exact rfl))))
    exact ⟨hf03.trans hf4, congrArg Value.bool (false_of fun h => by have := (hiff.1 h).2.2.1; rw [hb] at this; cases this).symm⟩
  | true =>
    have hbs4 := hbs3.frN hf4
    have hrd4 := hrd3.frN hf4
    (((apply vL_val); (case h => ((apply opv_E); exact rfl))); ((apply vL_wanted); exact rfl); ((apply vL_val); (case h => ((apply opv_loadb1); exact rfl; exact rfl; (first | assumption | infer_instance); exact rfl))); ((apply vL_wanted); exact rfl); ((apply vL_val); (case h => ((apply opv_lenc); exact rfl))); ((apply vL_wanted); exact rfl); ((apply vL_val); (case h => ((apply opv_makeFunc); exact rfl))); ((apply vL_wanted); exact rfl))
    refine vL_callF rfl (rising27 (subs.map (·.1)) 16 subs.length _ _ [.pointer (some ⟨b3, 0, none⟩)] _ (by simp) rfl (by simpa using hsm2) (fun s hs' => by simp at hs'; obtain ⟨p, q, hq, hp'⟩ := hs'; exact (hs.small _ hp').1) (fun i s w5 h0 h1 hi hf => right3 _ _ subs i s w5 (hbs4.frN hf) (hrd4.frN hf) h0 (by simpa using h1) hi)) rfl ?_
    rintro _ w5 ⟨hf5, rfl⟩
    ((iterate 2 (((apply vL_val); (case h => ((apply opv_E); exact rfl))))); apply vL_nil; apply seqP_normal; apply vC_ret)
    (apply ret1; (case h1 => (first | exact norm_eq rfl | ((conv => lhs; whnf) <;> exact rfl))))
    refine ⟨(hf03.trans hf4).trans hf5, congrArg Value.bool ?_⟩
    cases hb2 : risingB (subs.map (·.1)) 16 with
    | false => exact (false_of fun h => by have := (hiff.1 h).2.2.2; rw [hb2] at this; cases this).symm
    | true => exact (hiff.2 ⟨hp1, hp3, hb, hb2⟩).symm
end Go.Proofs.Ytfceebbkjogedaa
