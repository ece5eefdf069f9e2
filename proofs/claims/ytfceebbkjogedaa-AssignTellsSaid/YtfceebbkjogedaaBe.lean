/- Layer 27: the document's Range. -/
import Derived.Test.YtfceebbkjogedaaBd
import Derived.Test.YtfceebbkjogedaaAk
set_option maxRecDepth 100000
namespace Go.Proofs.Ytfceebbkjogedaa
open Go Go.Eng
section
variable {P : Program} {e : Env} {w : World} {d : Option Nat} {ty : TypeId} {p : String} {af : Array Edge}
theorem opv_indexAddrR {α : Type} {x ix : Operand} {t E sz by' : Nat} {z : List Value} {k : IntKind} {i : Int} {enc : α → List Value} {v : Value} {xs : List α} {h : Array Obj} [TUnd P t (.slice E)] [TInfo P E sz by' z] (hx : ev e x = v) (hi : ev e ix = .int k i) (r : Rd h sz enc v xs) (h0 : 0 ≤ i) (h1 : i < xs.length) :
    OpV P ⟨d, .indexAddr t x ix, ty, p, af, none⟩ e w (.pointer (some (ea v sz i 0))) w := by
  have hu := run_underlying (TUnd.out (P := P) (t := t)) w
  obtain ⟨c, hv⟩ := r.ptr (by omega)
  simp only [OpV, execOp, Instr.indexAt, hx, hi]
  rw [hv]
  simp [asIntOf, hu, h0, h1, run_sizeOf' (P := P) (t := E), add_off, ea, adr]
end
theorem cut_next (q m j : Nat) : cutP q m (j + 1) = cutP q m j + (q / m + if j < q % m then 1 else 0) := by
  unfold cutP
  rw [Nat.succ_mul]
  split <;> omega
theorem sz_eq (q m j : Nat) : szP q m j = q / m + if j < q % m then 1 else 0 := by
  unfold szP
  rw [cut_next, Nat.add_sub_cancel_left]
theorem cut_bd {q m r : Nat} (hq : q ≤ 8) (hr : r ≤ 16) : cutP q m r ≤ 144 := by
  unfold cutP
  have h1 : q / m ≤ 8 := Nat.le_trans (Nat.div_le_self _ _) hq
  have h2 := Nat.mul_le_mul hr h1
  have := Nat.min_le_left r (q % m)
  omega
theorem who_at {subs : List (ByteArray × OV × List ByteArray)} {t : ByteArray} {j : Nat} {s} (hs : subs[j]? = some s) (ht : t ∈ s.2.2) : (whoN subs t subs.length)[(whoN subs t j).length]? = some j := by
  have hm : j ∈ whoN subs t subs.length := (mem_who hs).2 ht
  obtain ⟨r, hr⟩ := List.getElem?_of_mem hm
  have := (who_rank hr).1
  rw [← this]; exact hr
theorem ShsL.push {w w2 : World} {B : Nat} {v v' : Value} {shs : List (ByteArray × OV × List (ByteArray × Int))} {m : ByteArray} (s : ShsL w.heap B v shs) (hf : Fr (fun k => own v = some k) w w2)
    (ho : Own w2.heap 89 2 nE v' (shs ++ [(m, ⟨.slice none 0 0, rfl⟩, [])])) (hfr : ∀ b, own v' = some b → own v = some b ∨ w.heap.size ≤ b) (hB : B ≤ w.heap.size) : ShsL w2.heap B v' (shs ++ [(m, ⟨.slice none 0 0, rfl⟩, [])]) := by
  have hget : ∀ (i : Nat) x, (shs ++ [(m, (⟨.slice none 0 0, rfl⟩ : OV), ([] : List (ByteArray × Int)))])[i]? = some x → shs[i]? = some x ∨ x = (m, ⟨.slice none 0 0, rfl⟩, []) := fun i x hx => by
    by_cases h : i < shs.length
    · rw [List.getElem?_append_left h] at hx; exact .inl hx
    · rw [List.getElem?_append_right (by omega)] at hx
      have := List.mem_of_getElem? hx
      simp at this; exact .inr this
  refine ⟨ho, fun i x hx => ?_, fun i j x y hij hx hy b hb hb' => ?_, fun i x hx b hb => ?_, fun b hb => ?_⟩
  · rcases hget i x hx with h | rfl
    · exact (s.inner i x h).fr hf (fun b hb h' => Own.ne_own (s.inner i x h) s.out (by decide) b hb h')
    · exact Own.nil _ _ _ _
  · rcases hget i x hx with h | rfl
    · rcases hget j y hy with h' | rfl
      · exact s.dis i j x y hij h h' b hb hb'
      · cases hb'
    · cases hb
  · rcases hget i x hx with h | rfl
    · exact s.frI i x h b hb
    · cases hb
  · rcases hfr b hb with h | h
    · exact s.frO b h
    · omega

theorem range_ref (vt vs : Value) (ts : List (ByteArray × Int)) (subs : List (ByteArray × OV × List ByteArray)) (w : World) (ht : Rd w.heap 2 tE vt ts) (hs : Subs w.heap vs subs) (hts : ∀ t ∈ ts, t.1.size ≤ 9223372036854775807) :
    Rets Try.prog 48 #[vt, vs] w fun u w' => Fr No w w' ∧ ((rightB ts subs = false ∧ u = .tuple #[.slice none 0 0, .int .i64 2]) ∨
      (rightB ts subs = true ∧ ∃ v shs, u = .tuple #[v, .int .i64 0] ∧ ShsL w'.heap w.heap.size v shs ∧ shs.map (fun x => (x.1, x.2.2)) = rangeS ts subs)) := by
  have hrd := hs.rd
  have hsm1 := ht.small
  have hsm2 := hrd.small
  obtain ⟨ta, tc, rfl⟩ := ht.len
  obtain ⟨sa, sc, rfl⟩ := hrd.len
  refine rets_of Try.func48 rfl Try.ntmps48 rfl rfl (by kernel_rfl) ?_
  (apply vC_seq; apply vC_region; (iterate 2 (((apply vL_val); (case h => ((apply opv_E); exact rfl))))); apply vL_nil; apply seqP_normal; (iterate 2 (apply vC_seq)); apply vC_region; (iterate 2 (((apply vL_val); (case h => ((apply opv_E); exact rfl))))))
  refine vL_callF rfl (right_ref _ _ ts subs w ht hs hts) rfl ?_
  rintro _ w1 ⟨hd1, rfl⟩
  have hf1 : Fr No w w1 := hd1.fr
  cases hR : rightB ts subs with
  | false =>
    (((apply vL_val); (case h => ((apply opv_not); exact rfl))); apply vL_nil; apply seqP_normal; ((apply vC_cond_true); exact rfl); apply vC_seq; apply vC_region; (iterate 2 (((apply vL_val); (case h => ((apply opv_E); exact rfl))))); apply vL_nil; apply seqP_normal; apply vC_ret; apply seqP_ret)
    (apply ret2; (case h1 => (first | exact norm_eq rfl | ((conv => lhs; whnf) <;> exact rfl))); (case h2 => (first | exact norm_eq rfl | ((conv => lhs; whnf) <;> exact rfl))))
    exact ⟨hf1, .inl ⟨rfl, rfl⟩⟩
  | true =>
  have r := rightP.1 hR
  have hiff := hR
  unfold rightB at hiff
  simp only [Bool.and_eq_true, decide_eq_true_eq, List.all_eq_true, and_assoc] at hiff
  obtain ⟨hpn, _, _, _⟩ := hiff
  obtain ⟨hl1, hl2⟩ := r.lens
  (((apply vL_val); (case h => ((apply opv_not); exact rfl))); apply vL_nil; apply seqP_normal; ((apply vC_cond_false); exact rfl); apply vC_skip; apply seqP_normal; apply vC_seq; apply vC_region; ((apply vL_val); (case h => ((apply opv_E); exact rfl))); apply vL_nil; apply seqP_normal; (iterate 2 (apply vC_seq)); apply vC_region; ((apply vL_val); (case h => ((apply opv_E); exact rfl))); apply vL_nil; apply seqP_normal; apply vC_block)
  (apply vC_loop2 34358689984 7 6 (fun u v6 w' => ∃ (k : Nat) (l : List (ByteArray × OV × List (ByteArray × Int))), u = .int .i64 (k : Int) ∧ k ≤ subs.length ∧ Fr No w w' ∧ v6.oneCell' = true ∧ ShsL w'.heap w.heap.size v6 l ∧ l.map (fun x => (x.1, x.2.2)) = (subs.take k).map (fun s => (s.1, []))) (fun u _ _ => subs.length - (RowKit.intOf u).toNat)); (case h1 => (first | exact norm_eq rfl | ((conv => lhs; whnf) <;> exact rfl))); (case h2 => (first | exact norm_eq rfl | ((conv => lhs; whnf) <;> exact rfl)))
  case h0 => exact ⟨0, [], rfl, by omega, hf1, rfl, ⟨Own.nil _ _ _ _, by simp, by simp, by simp, fun b hb => (by cases hb)⟩, rfl⟩
  case round =>
  rintro junk _ v6 w2 ⟨k, shs, rfl, hk, hf2, hone6, S2, hC2⟩
  have hrd2 := hrd.frN hf2
  have hll : shs.length = k := by have := congrArg List.length hC2; simp at this; omega
  by_cases hkl : k < subs.length
  · obtain ⟨x, hx⟩ : ∃ x, subs[k]? = some x := ⟨subs[k], by simp [hkl]⟩
    ((iterate 2 (apply vC_seq)); apply vC_region; (iterate 2 (((apply vL_val); (case h => ((apply opv_E); exact rfl))))); ((apply vL_val); (case h => ((apply opv_lenc); exact rfl))); ((apply vL_val); (case h => ((apply opv_E); exact rfl))); apply vL_nil; apply seqP_normal; (refine vC_cond_dec rfl (fun _ => ?_) (fun h => by omega)); apply vC_skip; apply seqP_normal; apply vC_seq; apply vC_block; apply vC_region; ((apply vL_val); (case h => ((apply opv_move); ((conv => lhs; whnf) <;> exact rfl)))); (iterate 2 (((apply vL_val); (case h => ((apply opv_E); exact rfl))))); ((apply vL_val); (case h => ((apply opv_indexAddr); (first | exact norm_eq rfl | ((conv => lhs; whnf) <;> exact rfl)); exact rfl; (first | assumption | infer_instance); (first | omega | (simp only [List.length_map]; omega)); (first | omega | (simp only [List.length_map]; omega))))); ((apply vL_val); (case h => ((apply opv_fieldAddr); exact rfl))); ((apply vL_val); (case h => ((apply opv_ld_el); exact rfl; exact rfl; (first | assumption | infer_instance); assumption; exact rfl))); ((apply vL_val); (case h => ((apply opv_buildS); exact rfl; (first | exact (rfl : _ = some []) | exact (rfl : _ = some [_]) | exact (rfl : _ = some [_, _]) | exact (rfl : _ = some [_, _, _]) | exact (rfl : _ = some [_, _, _, _]) | exact (rfl : _ = some [_, _, _, _, _]) | exact (rfl : _ = some [_, _, _, _, _, _]) | exact (rfl : _ = some [_, _, _, _, _, _, _]) | exact (rfl : _ = some [_, _, _, _, _, _, _, _]) | exact (rfl : _ = some [_, _, _, _, _, _, _, _, _]) | exact (rfl : _ = some [_, _, _, _, _, _, _, _, _, _]) | exact (rfl : _ = some [_, _, _, _, _, _, _, _, _, _, _]) | exact (rfl : _ = some [_, _, _, _, _, _, _, _, _, _, _, _]) | exact (rfl : _ = some [_, _, _, _, _, _, _, _, _, _, _, _, _]) | exact (rfl : _ = some [_, _, _, _, _, _, _, _, _, _, _, _, _, _]) | exact (rfl : _ = some [_, _, _, _, _, _, _, _, _, _, _, _, _, _, _]) | exact (rfl : _ = some [_, _, _, _, _, _, _, _, _, _, _, _, _, _, _, _]))))); ((apply vL_val); (case h => ((apply opw_buildSl); exact rfl; exact rfl; exact rfl; (first | exact (rfl : _ = some []) | exact (rfl : _ = some [_]) | exact (rfl : _ = some [_, _]) | exact (rfl : _ = some [_, _, _]) | exact (rfl : _ = some [_, _, _, _]) | exact (rfl : _ = some [_, _, _, _, _]) | exact (rfl : _ = some [_, _, _, _, _, _]) | exact (rfl : _ = some [_, _, _, _, _, _, _]) | exact (rfl : _ = some [_, _, _, _, _, _, _, _]) | exact (rfl : _ = some [_, _, _, _, _, _, _, _, _]) | exact (rfl : _ = some [_, _, _, _, _, _, _, _, _, _]) | exact (rfl : _ = some [_, _, _, _, _, _, _, _, _, _, _]) | exact (rfl : _ = some [_, _, _, _, _, _, _, _, _, _, _, _]) | exact (rfl : _ = some [_, _, _, _, _, _, _, _, _, _, _, _, _]) | exact (rfl : _ = some [_, _, _, _, _, _, _, _, _, _, _, _, _, _]) | exact (rfl : _ = some [_, _, _, _, _, _, _, _, _, _, _, _, _, _, _]) | exact (rfl : _ = some [_, _, _, _, _, _, _, _, _, _, _, _, _, _, _, _]))))))
    refine vL_append (enc := nE) (xs := shs) (ys := [(x.1, ⟨.slice none 0 0, rfl⟩, [])]) (T := 89) (sz := 2) (by (first | exact norm_eq rfl | ((conv => lhs; whnf) <;> exact rfl))) (by (first | exact norm_eq rfl | ((conv => lhs; whnf) <;> exact rfl))) (Own.alloc S2.out) (Rd.new1 _ _ rfl) rfl (by decide) ?_ ?_ ?_
    · simp [maxLen]; omega
    · simp; omega
    intro v' w3 ho3 hf3 hfr3 hone3 _
    have hfa : Fr (fun j => own v6 = some j) w2 w3 := ((Fr.refl _ w2).alloc _).trans' hf3 (fun i hi => .inl hi)
    have S3 := S2.push hfa ho3 (fun b hb => (hfr3 b hb).imp id (fun h => by rw [alloc_size] at h; omega)) hf2.size
    (((apply vL_val); (case h => ((apply opv_assign); ((conv => lhs; whnf) <;> exact rfl)))); apply vL_nil; apply blockP_normal; apply seqP_normal; apply vC_region; ((apply vL_val); (case h => ((apply opv_E); exact rfl))); ((apply vL_val); (case h => ((apply opv_add); exact rfl; exact rfl; (first | omega | (simp only [List.length_map]; omega))))); ((apply vL_val); (case h => ((apply opv_E); exact rfl))); apply vL_nil; apply loopP_normal)
    (with_reducible apply end2); (case hs => (repeat (first | (with_reducible exact same_mask _ _ _) | with_reducible apply same_updN | ((with_reducible refine same_updO ?_ ?_); rotate_left; exact rfl) | ((with_reducible refine same_upd ?_ ?_); rotate_left; exact rfl) | ((with_reducible refine same_maskIn ?_ ?_); rotate_left; exact rfl)))); (case h1 => (first | exact norm_eq rfl | ((conv => lhs; whnf) <;> exact rfl))); (case h2 => (first | exact norm_eq rfl | ((conv => lhs; whnf) <;> exact rfl)))
    · refine ⟨k + 1, _, rfl, by omega, hf2.trans' hfa (fun i hi => .inr (S2.frO i hi)), hone3, S3, ?_⟩
      rw [List.map_append, hC2, take_next hx, List.map_append]; rfl
    · simp [RowKit.intOf]; omega
  have e : k = subs.length := by omega
  subst e
  rw [List.take_length] at hC2
  have hC3 : shs.map (fun x => (x.1, x.2.2)) = rangeC subs fun i => (ts.take 0).flatMap (plc subs i) := by
    rw [hC2]
    apply List.ext_getElem?
    intro i
    rw [List.getElem?_map]
    cases hi : subs[i]? with
    | none => rw [List.getElem?_eq_none (by rw [rangeC_len]; exact List.getElem?_eq_none_iff.1 hi)]; rfl
    | some z => rw [rangeC_get hi]; simp
  clear hC2 hll hkl hk
  ((iterate 2 (apply vC_seq)); apply vC_region; (iterate 2 (((apply vL_val); (case h => ((apply opv_E); exact rfl))))); ((apply vL_val); (case h => ((apply opv_lenc); exact rfl))); ((apply vL_val); (case h => ((apply opv_E); exact rfl))); apply vL_nil; apply seqP_normal; (refine vC_cond_dec rfl (fun h => by omega) (fun _ => ?_)); apply vC_exit; apply seqP_exit; apply loopP_exit; apply blockP_exit; apply seqP_normal; (iterate 2 (apply vC_seq)); apply vC_region; ((apply vL_val); (case h => ((apply opv_E); exact rfl))); apply vL_nil; apply seqP_normal; apply vC_block)
  (apply vC_loop1 2658455991569831745807614086201016064 8 (fun u w' => ∃ (k : Nat) (shs : List (ByteArray × OV × List (ByteArray × Int))), u = .int .i64 (k : Int) ∧ k ≤ ts.length ∧ Fr No w w' ∧ ShsL w'.heap w.heap.size v6 shs ∧ shs.map (fun x => (x.1, x.2.2)) = rangeC subs fun i => (ts.take k).flatMap (plc subs i)) (fun u _ => ts.length - (RowKit.intOf u).toNat)); (case h1 => (first | exact norm_eq rfl | ((conv => lhs; whnf) <;> exact rfl)))
  case h0 => exact ⟨0, shs, rfl, by omega, hf2, S2, hC3⟩
  clear hf2 S2 hC3 hrd2 hf1
  case round =>
  rintro junk2 _ w3 ⟨k, shs, rfl, hk, hf3, S3, hC3⟩
  have ht3 := ht.frN hf3
  have hs3 := hs.frN hf3
  have hrd3 := hs3.rd
  by_cases hkl : k < ts.length
  · obtain ⟨⟨nm, pn⟩, hx⟩ : ∃ x, ts[k]? = some x := ⟨ts[k], by simp [hkl]⟩
    have hpq := hpn _ (List.mem_of_getElem? hx)
    dsimp only at hpq
    obtain ⟨q, rfl⟩ : ∃ q : Nat, pn = q := ⟨pn.toNat, by omega⟩
    ((iterate 2 (apply vC_seq)); apply vC_region; (iterate 2 (((apply vL_val); (case h => ((apply opv_E); exact rfl))))); ((apply vL_val); (case h => ((apply opv_lenc); exact rfl))); ((apply vL_val); (case h => ((apply opv_E); exact rfl))); apply vL_nil; apply seqP_normal; (refine vC_cond_dec rfl (fun _ => ?_) (fun h => by omega)); apply vC_skip; apply seqP_normal; apply vC_seq; apply vC_block; apply vC_seq; apply vC_region; ((apply vL_val); (case h => ((apply opv_E); exact rfl))); apply vL_nil; apply seqP_normal; (iterate 2 (apply vC_seq)); apply vC_region; ((apply vL_val); (case h => ((apply opv_E); exact rfl))); apply vL_nil; apply seqP_normal; apply vC_block)
    (apply vC_loop2 576458553280169472 10 9 (fun u u9 w' => ∃ (j : Nat), u = .int .i64 (j : Int) ∧ u9 = .int .i64 ((whoN subs nm j).length : Nat) ∧ j ≤ subs.length ∧ Fr No w3 w') (fun u _ _ => subs.length - (RowKit.intOf u).toNat)); (case h1 => (first | exact norm_eq rfl | ((conv => lhs; whnf) <;> exact rfl))); (case h2 => (first | exact norm_eq rfl | ((conv => lhs; whnf) <;> exact rfl)))
    case h0 => exact ⟨0, rfl, rfl, by omega, Fr.refl _ _⟩
    case round =>
    rintro junk3 _ _ w5 ⟨j, rfl, rfl, hj, hf5⟩
    have ht5 := ht3.frN hf5
    have hs5 := hs3.frN hf5
    have hrd5 := hs5.rd
    have hwn := whoN_len subs nm j
    by_cases hjl : j < subs.length
    · obtain ⟨x, hxs⟩ : ∃ x, subs[j]? = some x := ⟨subs[j], by simp [hjl]⟩
      have hin := hs5.inner x (List.mem_of_getElem? hxs)
      have hone := x.2.1.2
      have hnext := whoN_next (t := nm) hxs
      ((iterate 2 (apply vC_seq)); apply vC_region; (iterate 2 (((apply vL_val); (case h => ((apply opv_E); exact rfl))))); ((apply vL_val); (case h => ((apply opv_lenc); exact rfl))); ((apply vL_val); (case h => ((apply opv_E); exact rfl))); apply vL_nil; apply seqP_normal; (refine vC_cond_dec rfl (fun _ => ?_) (fun h => by omega)); apply vC_skip; apply seqP_normal; apply vC_seq; apply vC_block; apply vC_seq)
      refine vC_draw' (fun wf => Fr No w5 wf) ((Fr.refl No w5).drew) ?_
      ((apply (tk 0)); (case hi => exact rfl); (case hf => kernel_rfl); (case hS => (repeat (first | exact Fr.refl _ _ | assumption | with_reducible apply Fr.allocSet | with_reducible apply Fr.alloc | with_reducible apply Fr.drewN | with_reducible apply Fr.drew | ((with_reducible apply Fr.set); rotate_left; (right; ((try simp only [alloc_size]); omega))) | (refine Fr.trans ?_ (by assumption))))); (case hy => (intro wf hwf; haveI := From.mk hwf; (((apply opv_E); exact rfl)))))
      ((apply (tk 1)); (case hi => exact rfl); (case hf => kernel_rfl); (case hS => (repeat (first | exact Fr.refl _ _ | assumption | with_reducible apply Fr.allocSet | with_reducible apply Fr.alloc | with_reducible apply Fr.drewN | with_reducible apply Fr.drew | ((with_reducible apply Fr.set); rotate_left; (right; ((try simp only [alloc_size]); omega))) | (refine Fr.trans ?_ (by assumption))))); (case hy => (intro wf hwf; haveI := From.mk hwf; (((apply opv_E); exact rfl)))))
      ((apply (tk 2)); (case hi => exact rfl); (case hf => kernel_rfl); (case hS => (repeat (first | exact Fr.refl _ _ | assumption | with_reducible apply Fr.allocSet | with_reducible apply Fr.alloc | with_reducible apply Fr.drewN | with_reducible apply Fr.drew | ((with_reducible apply Fr.set); rotate_left; (right; ((try simp only [alloc_size]); omega))) | (refine Fr.trans ?_ (by assumption))))); (case hy => (intro wf hwf; haveI := From.mk hwf; (((apply opv_indexAddr); (first | exact norm_eq rfl | ((conv => lhs; whnf) <;> exact rfl)); exact rfl; (first | assumption | infer_instance); (first | omega | (simp only [List.length_map]; omega)); (first | omega | (simp only [List.length_map]; omega)))))))
      ((apply (tk 3)); (case hi => exact rfl); (case hf => kernel_rfl); (case hS => (repeat (first | exact Fr.refl _ _ | assumption | with_reducible apply Fr.allocSet | with_reducible apply Fr.alloc | with_reducible apply Fr.drewN | with_reducible apply Fr.drew | ((with_reducible apply Fr.set); rotate_left; (right; ((try simp only [alloc_size]); omega))) | (refine Fr.trans ?_ (by assumption))))); (case hy => (intro wf hwf; haveI := From.mk hwf; (((apply opv_ld_eln); exact rfl; exact rfl; (first | assumption | infer_instance); assumption)))))
      ((apply (tk 4)); (case hi => exact rfl); (case hf => kernel_rfl); (case hS => (repeat (first | exact Fr.refl _ _ | assumption | with_reducible apply Fr.allocSet | with_reducible apply Fr.alloc | with_reducible apply Fr.drewN | with_reducible apply Fr.drew | ((with_reducible apply Fr.set); rotate_left; (right; ((try simp only [alloc_size]); omega))) | (refine Fr.trans ?_ (by assumption))))); (case hy => (intro wf hwf; haveI := From.mk hwf; (((apply opv_E); exact rfl)))))
      ((apply (tk 5)); (case hi => exact rfl); (case hf => kernel_rfl); (case hS => (repeat (first | exact Fr.refl _ _ | assumption | with_reducible apply Fr.allocSet | with_reducible apply Fr.alloc | with_reducible apply Fr.drewN | with_reducible apply Fr.drew | ((with_reducible apply Fr.set); rotate_left; (right; ((try simp only [alloc_size]); omega))) | (refine Fr.trans ?_ (by assumption))))); (case hy => (intro wf hwf; haveI := From.mk hwf; (((apply opv_E); exact rfl)))))
      ((apply (tk 6)); (case hi => exact rfl); (case hf => kernel_rfl); (case hS => (repeat (first | exact Fr.refl _ _ | assumption | with_reducible apply Fr.allocSet | with_reducible apply Fr.alloc | with_reducible apply Fr.drewN | with_reducible apply Fr.drew | ((with_reducible apply Fr.set); rotate_left; (right; ((try simp only [alloc_size]); omega))) | (refine Fr.trans ?_ (by assumption))))); (case hy => (intro wf hwf; haveI := From.mk hwf; (((apply opv_indexAddr); (first | exact norm_eq rfl | ((conv => lhs; whnf) <;> exact rfl)); exact rfl; (first | assumption | infer_instance); (first | omega | (simp only [List.length_map]; omega)); (first | omega | (simp only [List.length_map]; omega)))))))
      ((apply (tk 7)); (case hi => exact rfl); (case hf => kernel_rfl); (case hS => (repeat (first | exact Fr.refl _ _ | assumption | with_reducible apply Fr.allocSet | with_reducible apply Fr.alloc | with_reducible apply Fr.drewN | with_reducible apply Fr.drew | ((with_reducible apply Fr.set); rotate_left; (right; ((try simp only [alloc_size]); omega))) | (refine Fr.trans ?_ (by assumption))))); (case hy => (intro wf hwf; haveI := From.mk hwf; (((apply opv_fieldAddr); exact rfl)))))
      ((apply (tk 8)); (case hi => exact rfl); (case hf => kernel_rfl); (case hS => (repeat (first | exact Fr.refl _ _ | assumption | with_reducible apply Fr.allocSet | with_reducible apply Fr.alloc | with_reducible apply Fr.drewN | with_reducible apply Fr.drew | ((with_reducible apply Fr.set); rotate_left; (right; ((try simp only [alloc_size]); omega))) | (refine Fr.trans ?_ (by assumption))))); (case hy => (intro wf hwf; haveI := From.mk hwf; (((apply opv_ld_el); exact rfl; exact rfl; (first | assumption | infer_instance); assumption; exact rfl)))))
      (refine tkc 9 rfl (by kernel_rfl) (by (repeat (first | exact Fr.refl _ _ | assumption | with_reducible apply Fr.allocSet | with_reducible apply Fr.alloc | with_reducible apply Fr.drewN | with_reducible apply Fr.drew | ((with_reducible apply Fr.set); rotate_left; (right; ((try simp only [alloc_size]); omega))) | (refine Fr.trans ?_ (by assumption))))) rfl (wants_ref x nm _ (hin.frN (Fr.refl No _).drew)) rfl ?_)
      rintro _ w6 ⟨hf6, rfl⟩
      have hf56 : Fr No w5 w6 := ((Fr.refl No _).drew).trans hf6
      refine vA_done (by kernel_rfl) (by (first | exact trivial | ((repeat (first | exact Fr.refl _ _ | assumption | with_reducible apply Fr.allocSet | with_reducible apply Fr.alloc | with_reducible apply Fr.drewN | with_reducible apply Fr.drew | ((with_reducible apply Fr.set); rotate_left; (right; ((try simp only [alloc_size]); omega))) | (refine Fr.trans ?_ (by assumption)))); done))) ?_
      by_cases hc : nm ∈ x.2.2
      · rw [if_pos hc] at hnext
        refine vC_condT rfl (decide_eq_true hc) ?_
        (apply vC_region; ((apply vL_val); (case h => ((apply opv_E); exact rfl))); ((apply vL_val); (case h => ((apply opv_add); exact rfl; exact rfl; (first | omega | (simp only [List.length_map]; omega))))); ((apply vL_val); (case h => ((apply opv_E); exact rfl))); apply vL_nil; apply blockP_normal; apply seqP_normal; apply vC_region; ((apply vL_val); (case h => ((apply opv_E); exact rfl))); ((apply vL_val); (case h => ((apply opv_add); exact rfl; exact rfl; (first | omega | (simp only [List.length_map]; omega))))); ((apply vL_val); (case h => ((apply opv_E); exact rfl))); apply vL_nil; apply loopP_normal)
        (with_reducible apply end2); (case hs => (repeat (first | (with_reducible exact same_mask _ _ _) | with_reducible apply same_updN | ((with_reducible refine same_updO ?_ ?_); rotate_left; exact rfl) | ((with_reducible refine same_upd ?_ ?_); rotate_left; exact rfl) | ((with_reducible refine same_maskIn ?_ ?_); rotate_left; exact rfl)))); (case h1 => (first | exact norm_eq rfl | ((conv => lhs; whnf) <;> exact rfl))); (case h2 => (first | exact norm_eq rfl | ((conv => lhs; whnf) <;> exact rfl)))
        · exact ⟨j + 1, rfl, by rw [hnext]; simp, by omega, hf5.trans hf56⟩
        · simp [RowKit.intOf]; omega
      · rw [if_neg hc] at hnext
        refine vC_condF rfl (decide_eq_false hc) ?_
        (apply vC_skip; apply blockP_normal; apply seqP_normal; apply vC_region; ((apply vL_val); (case h => ((apply opv_E); exact rfl))); ((apply vL_val); (case h => ((apply opv_add); exact rfl; exact rfl; (first | omega | (simp only [List.length_map]; omega))))); ((apply vL_val); (case h => ((apply opv_E); exact rfl))); apply vL_nil; apply loopP_normal)
        (with_reducible apply end2); (case hs => (repeat (first | (with_reducible exact same_mask _ _ _) | with_reducible apply same_updN | ((with_reducible refine same_updO ?_ ?_); rotate_left; exact rfl) | ((with_reducible refine same_upd ?_ ?_); rotate_left; exact rfl) | ((with_reducible refine same_maskIn ?_ ?_); rotate_left; exact rfl)))); (case h1 => (first | exact norm_eq rfl | ((conv => lhs; whnf) <;> exact rfl))); (case h2 => (first | exact norm_eq rfl | ((conv => lhs; whnf) <;> exact rfl)))
        · exact ⟨j + 1, rfl, by rw [hnext], by omega, hf5.trans hf56⟩
        · simp [RowKit.intOf]; omega
    have ej : j = subs.length := by omega
    subst ej
    have S5 := S3.frN hf5
    have hf05 := hf3.trans hf5
    have hm16 : (whoN subs nm subs.length).length ≤ 16 := Nat.le_trans (whoN_len subs nm subs.length) hl2
    have hq9 : q < 9 := by omega
    have hcl : ∀ i, ((ts.take k).flatMap (plc subs i)).length ≤ 8 * k := fun i => by
      have : ∀ (l : List (ByteArray × Int)), (∀ t ∈ l, t.2 ≤ 8) → (l.flatMap (plc subs i)).length ≤ 8 * l.length := by
        intro l
        induction l with
        | nil => intro _; simp
        | cons t l ih =>
          intro h
          have h1 := ih (fun t ht => h t (by simp [ht]))
          have h2 := plcTo_len (whoN subs t.1 subs.length) t.1 t.2.toNat i t.2.toNat
          have h3 := h t (by simp)
          rw [List.flatMap_cons, List.length_append, List.length_cons]
          unfold plc at h1 ⊢
          omega
      have h := this (ts.take k) (fun t ht => (hpn t (List.mem_of_mem_take ht)).2)
      rw [List.length_take] at h
      have := Nat.min_le_left k ts.length
      exact Nat.le_trans h (Nat.mul_le_mul_left 8 this)
    ((iterate 2 (apply vC_seq)); apply vC_region; (iterate 2 (((apply vL_val); (case h => ((apply opv_E); exact rfl))))); ((apply vL_val); (case h => ((apply opv_lenc); exact rfl))); ((apply vL_val); (case h => ((apply opv_E); exact rfl))); apply vL_nil; apply seqP_normal; (refine vC_cond_dec rfl (fun h => by omega) (fun _ => ?_)); apply vC_exit; apply seqP_exit; apply loopP_exit; apply blockP_exit; apply seqP_normal; apply vC_seq; apply vC_region; (iterate 2 (((apply vL_val); (case h => ((apply opv_E); exact rfl))))); apply vL_nil; apply seqP_normal; apply vC_seq; apply vC_region; ((apply vL_val); (case h => ((apply opv_E); exact rfl))); apply vL_nil; apply seqP_normal; apply vC_block)
    (apply vC_loop3 2658455991569831745231153368257329152 13 11 12 (fun u u11 u12 w' => ∃ (j : Nat) (shs : List (ByteArray × OV × List (ByteArray × Int))), u = .int .i64 (j : Int) ∧ u11 = .int .i64 ((cutP q (whoN subs nm subs.length).length (whoN subs nm j).length : Nat) : Int) ∧ u12 = .int .i64 (((whoN subs nm j).length : Nat) : Int) ∧ j ≤ subs.length ∧ Fr No w w' ∧ ShsL w'.heap w.heap.size v6 shs ∧ shs.map (fun x => (x.1, x.2.2)) = rangeC subs fun i => (ts.take k).flatMap (plc subs i) ++ if i < j then plc subs i (nm, (q : Int)) else []) (fun u _ _ _ => subs.length - (RowKit.intOf u).toNat)); (case h1 => (first | exact norm_eq rfl | ((conv => lhs; whnf) <;> exact rfl))); (case h2 => (first | exact norm_eq rfl | ((conv => lhs; whnf) <;> exact rfl))); (case h3 => (first | exact norm_eq rfl | ((conv => lhs; whnf) <;> exact rfl)))
    case h0 => exact ⟨0, shs, rfl, by simp [cutP, whoN], rfl, by omega, hf05, S5, by rw [hC3]; simp⟩
    clear hf5 S5 hf05 hrd5 ht5 hs5 hwn hjl hj S3 hC3 hf3 ht3 hs3 hrd3
    case round =>
    rintro junk4 _ _ _ w4 ⟨j, shs, rfl, rfl, rfl, hj, hf4, S4, hC4⟩
    have ht4 := ht.frN hf4
    have hs4 := hs.frN hf4
    have hrd4 := hs4.rd
    have hwn := whoN_len subs nm j
    by_cases hjl : j < subs.length
    · obtain ⟨x, hxs⟩ : ∃ x, subs[j]? = some x := ⟨subs[j], by simp [hjl]⟩
      have hin := hs4.inner x (List.mem_of_getElem? hxs)
      have hone := x.2.1.2
      have hnext := whoN_next (t := nm) hxs
      ((iterate 2 (apply vC_seq)); apply vC_region; (iterate 2 (((apply vL_val); (case h => ((apply opv_E); exact rfl))))); ((apply vL_val); (case h => ((apply opv_lenc); exact rfl))); ((apply vL_val); (case h => ((apply opv_E); exact rfl))); apply vL_nil; apply seqP_normal; (refine vC_cond_dec rfl (fun _ => ?_) (fun h => by omega)); apply vC_skip; apply seqP_normal; apply vC_seq; apply vC_block; (iterate 2 (apply vC_seq)))
      refine vC_draw' (fun wf => Fr No w4 wf) ((Fr.refl No w4).drew) ?_
      ((apply (tk 0)); (case hi => exact rfl); (case hf => kernel_rfl); (case hS => (repeat (first | exact Fr.refl _ _ | assumption | with_reducible apply Fr.allocSet | with_reducible apply Fr.alloc | with_reducible apply Fr.drewN | with_reducible apply Fr.drew | ((with_reducible apply Fr.set); rotate_left; (right; ((try simp only [alloc_size]); omega))) | (refine Fr.trans ?_ (by assumption))))); (case hy => (intro wf hwf; haveI := From.mk hwf; (((apply opv_E); exact rfl)))))
      ((apply (tk 1)); (case hi => exact rfl); (case hf => kernel_rfl); (case hS => (repeat (first | exact Fr.refl _ _ | assumption | with_reducible apply Fr.allocSet | with_reducible apply Fr.alloc | with_reducible apply Fr.drewN | with_reducible apply Fr.drew | ((with_reducible apply Fr.set); rotate_left; (right; ((try simp only [alloc_size]); omega))) | (refine Fr.trans ?_ (by assumption))))); (case hy => (intro wf hwf; haveI := From.mk hwf; (((apply opv_E); exact rfl)))))
      ((apply (tk 2)); (case hi => exact rfl); (case hf => kernel_rfl); (case hS => (repeat (first | exact Fr.refl _ _ | assumption | with_reducible apply Fr.allocSet | with_reducible apply Fr.alloc | with_reducible apply Fr.drewN | with_reducible apply Fr.drew | ((with_reducible apply Fr.set); rotate_left; (right; ((try simp only [alloc_size]); omega))) | (refine Fr.trans ?_ (by assumption))))); (case hy => (intro wf hwf; haveI := From.mk hwf; (((apply opv_indexAddr); (first | exact norm_eq rfl | ((conv => lhs; whnf) <;> exact rfl)); exact rfl; (first | assumption | infer_instance); (first | omega | (simp only [List.length_map]; omega)); (first | omega | (simp only [List.length_map]; omega)))))))
      ((apply (tk 3)); (case hi => exact rfl); (case hf => kernel_rfl); (case hS => (repeat (first | exact Fr.refl _ _ | assumption | with_reducible apply Fr.allocSet | with_reducible apply Fr.alloc | with_reducible apply Fr.drewN | with_reducible apply Fr.drew | ((with_reducible apply Fr.set); rotate_left; (right; ((try simp only [alloc_size]); omega))) | (refine Fr.trans ?_ (by assumption))))); (case hy => (intro wf hwf; haveI := From.mk hwf; (((apply opv_ld_eln); exact rfl; exact rfl; (first | assumption | infer_instance); assumption)))))
      ((apply (tk 4)); (case hi => exact rfl); (case hf => kernel_rfl); (case hS => (repeat (first | exact Fr.refl _ _ | assumption | with_reducible apply Fr.allocSet | with_reducible apply Fr.alloc | with_reducible apply Fr.drewN | with_reducible apply Fr.drew | ((with_reducible apply Fr.set); rotate_left; (right; ((try simp only [alloc_size]); omega))) | (refine Fr.trans ?_ (by assumption))))); (case hy => (intro wf hwf; haveI := From.mk hwf; (((apply opv_E); exact rfl)))))
      ((apply (tk 5)); (case hi => exact rfl); (case hf => kernel_rfl); (case hS => (repeat (first | exact Fr.refl _ _ | assumption | with_reducible apply Fr.allocSet | with_reducible apply Fr.alloc | with_reducible apply Fr.drewN | with_reducible apply Fr.drew | ((with_reducible apply Fr.set); rotate_left; (right; ((try simp only [alloc_size]); omega))) | (refine Fr.trans ?_ (by assumption))))); (case hy => (intro wf hwf; haveI := From.mk hwf; (((apply opv_E); exact rfl)))))
      ((apply (tk 6)); (case hi => exact rfl); (case hf => kernel_rfl); (case hS => (repeat (first | exact Fr.refl _ _ | assumption | with_reducible apply Fr.allocSet | with_reducible apply Fr.alloc | with_reducible apply Fr.drewN | with_reducible apply Fr.drew | ((with_reducible apply Fr.set); rotate_left; (right; ((try simp only [alloc_size]); omega))) | (refine Fr.trans ?_ (by assumption))))); (case hy => (intro wf hwf; haveI := From.mk hwf; (((apply opv_indexAddr); (first | exact norm_eq rfl | ((conv => lhs; whnf) <;> exact rfl)); exact rfl; (first | assumption | infer_instance); (first | omega | (simp only [List.length_map]; omega)); (first | omega | (simp only [List.length_map]; omega)))))))
      ((apply (tk 7)); (case hi => exact rfl); (case hf => kernel_rfl); (case hS => (repeat (first | exact Fr.refl _ _ | assumption | with_reducible apply Fr.allocSet | with_reducible apply Fr.alloc | with_reducible apply Fr.drewN | with_reducible apply Fr.drew | ((with_reducible apply Fr.set); rotate_left; (right; ((try simp only [alloc_size]); omega))) | (refine Fr.trans ?_ (by assumption))))); (case hy => (intro wf hwf; haveI := From.mk hwf; (((apply opv_fieldAddr); exact rfl)))))
      ((apply (tk 8)); (case hi => exact rfl); (case hf => kernel_rfl); (case hS => (repeat (first | exact Fr.refl _ _ | assumption | with_reducible apply Fr.allocSet | with_reducible apply Fr.alloc | with_reducible apply Fr.drewN | with_reducible apply Fr.drew | ((with_reducible apply Fr.set); rotate_left; (right; ((try simp only [alloc_size]); omega))) | (refine Fr.trans ?_ (by assumption))))); (case hy => (intro wf hwf; haveI := From.mk hwf; (((apply opv_ld_el); exact rfl; exact rfl; (first | assumption | infer_instance); assumption; exact rfl)))))
      (refine tkc 9 rfl (by kernel_rfl) (by (repeat (first | exact Fr.refl _ _ | assumption | with_reducible apply Fr.allocSet | with_reducible apply Fr.alloc | with_reducible apply Fr.drewN | with_reducible apply Fr.drew | ((with_reducible apply Fr.set); rotate_left; (right; ((try simp only [alloc_size]); omega))) | (refine Fr.trans ?_ (by assumption))))) rfl (wants_ref x nm _ (hin.frN (Fr.refl No _).drew)) rfl ?_)
      rintro _ w6 ⟨hf6, rfl⟩
      have hf46 : Fr No w4 w6 := ((Fr.refl No _).drew).trans hf6
      ((apply (tk 10)); (case hi => exact rfl); (case hf => kernel_rfl); (case hS => (repeat (first | exact Fr.refl _ _ | assumption | with_reducible apply Fr.allocSet | with_reducible apply Fr.alloc | with_reducible apply Fr.drewN | with_reducible apply Fr.drew | ((with_reducible apply Fr.set); rotate_left; (right; ((try simp only [alloc_size]); omega))) | (refine Fr.trans ?_ (by assumption))))); (case hy => (intro wf hwf; haveI := From.mk hwf; (((apply opv_not); exact rfl)))))
      refine vA_done (by kernel_rfl) (by (first | exact trivial | ((repeat (first | exact Fr.refl _ _ | assumption | with_reducible apply Fr.allocSet | with_reducible apply Fr.alloc | with_reducible apply Fr.drewN | with_reducible apply Fr.drew | ((with_reducible apply Fr.set); rotate_left; (right; ((try simp only [alloc_size]); omega))) | (refine Fr.trans ?_ (by assumption)))); done))) ?_
      have S6 := S4.frN hf46
      have hf06 := hf4.trans hf46
      clear hf4 S4 ht4 hs4 hrd4 hin hf6 hf46
      have ht6 := ht.frN hf06
      have hs6 := hs.frN hf06
      have hrd6 := hs6.rd
      by_cases hc : nm ∈ x.2.2
      · rw [if_pos hc] at hnext
        have hat := who_at hxs hc
        have hrm := (List.getElem?_eq_some_iff.1 hat).1
        have hnl : (whoN subs nm (j + 1)).length = (whoN subs nm j).length + 1 := by rw [hnext]; simp
        have hiv : plc subs j (nm, (q : Int)) = (List.range' (cutP q (whoN subs nm subs.length).length (whoN subs nm j).length) (szP q (whoN subs nm subs.length).length (whoN subs nm j).length)).map fun (p : Nat) => (nm, (p : Int)) := plcTo_iv (whoN_nodup _ _ _) hq9 (Nat.lt_succ_of_le hm16) hat
        have hcb := cut_bd (q := q) (m := (whoN subs nm subs.length).length) (r := (whoN subs nm j).length) (by omega) (by omega)
        have hcn := cut_next q (whoN subs nm subs.length).length (whoN subs nm j).length
        have hsz := sz_eq q (whoN subs nm subs.length).length (whoN subs nm j).length
        have hdb : q / (whoN subs nm subs.length).length ≤ q := Nat.div_le_self _ _
        clear hat hnext
        refine vC_condF rfl (by simp [hc]) ?_
        (apply vC_skip; apply seqP_normal; apply vC_seq; apply vC_region; (iterate 2 (((apply vL_val); (case h => ((apply opv_E); exact rfl))))); ((apply vL_val); (case h => ((apply opv_indexAddr); (first | exact norm_eq rfl | ((conv => lhs; whnf) <;> exact rfl)); exact rfl; (first | assumption | infer_instance); (first | omega | (simp only [List.length_map]; omega)); (first | omega | (simp only [List.length_map]; omega))))); ((apply vL_val); (case h => ((apply opv_fieldAddr); exact rfl))); ((apply vL_val); (case h => ((apply opv_ld_el); exact rfl; exact rfl; (first | assumption | infer_instance); assumption; exact rfl))); ((apply vL_val); (case h => ((apply opv_E); exact rfl))); ((apply vL_val); (case h => ((apply opv_quo); exact rfl; exact rfl; (first | omega | (simp only [List.length_map]; omega)); (first | omega | (simp only [List.length_map]; omega))))); ((apply vL_val); (case h => ((apply opv_E); exact rfl))); apply vL_nil; apply seqP_normal; (iterate 2 (apply vC_seq)); apply vC_region; (iterate 3 (((apply vL_val); (case h => ((apply opv_E); exact rfl))))); ((apply vL_val); (case h => ((apply opv_indexAddr); (first | exact norm_eq rfl | ((conv => lhs; whnf) <;> exact rfl)); exact rfl; (first | assumption | infer_instance); (first | omega | (simp only [List.length_map]; omega)); (first | omega | (simp only [List.length_map]; omega))))); ((apply vL_val); (case h => ((apply opv_fieldAddr); exact rfl))); ((apply vL_val); (case h => ((apply opv_ld_el); exact rfl; exact rfl; (first | assumption | infer_instance); assumption; exact rfl))); ((apply vL_val); (case h => ((apply opv_E); exact rfl))); ((apply vL_val); (case h => ((apply opv_rem); exact rfl; exact rfl; (first | omega | (simp only [List.length_map]; omega)); (first | omega | (simp only [List.length_map]; omega))))); ((apply vL_val); (case h => ((apply opv_E); exact rfl))); apply vL_nil; apply seqP_normal)
        rw [show (q : Int) / ((whoN subs nm subs.length).length : Int) = ((q / (whoN subs nm subs.length).length : Nat) : Int) from rfl, show (q : Int) % ((whoN subs nm subs.length).length : Int) = ((q % (whoN subs nm subs.length).length : Nat) : Int) from rfl]
        generalize q / (whoN subs nm subs.length).length = dq at *
        generalize q % (whoN subs nm subs.length).length = rq at *
        generalize cutP q (whoN subs nm subs.length).length (whoN subs nm j).length = cz at *
        generalize szP q (whoN subs nm subs.length).length (whoN subs nm j).length = sz at *
        by_cases hq : (whoN subs nm j).length < rq
        · rw [if_pos hq] at hsz hcn
          ((refine vC_cond_dec rfl (fun _ => ?_) (fun h => by omega)); apply vC_region; ((apply vL_val); (case h => ((apply opv_E); exact rfl))); ((apply vL_val); (case h => ((apply opv_add); exact rfl; exact rfl; (first | omega | (simp only [List.length_map]; omega))))); ((apply vL_val); (case h => ((apply opv_E); exact rfl))); apply vL_nil; apply seqP_normal; (iterate 2 (apply vC_seq)); apply vC_region; ((apply vL_val); (case h => ((apply opv_E); exact rfl))); apply vL_nil; apply seqP_normal; apply vC_block)
          rw [show ((dq : Nat) : Int) + 1 = ((sz : Nat) : Int) by omega]
          (apply vC_loop2 664613978085417307885819131754219520 15 11 (fun u u11 w' => ∃ (n : Nat) (shs : List (ByteArray × OV × List (ByteArray × Int))), u = .int .i64 (n : Int) ∧ u11 = .int .i64 ((cz + n : Nat) : Int) ∧ n ≤ sz ∧ Fr No w w' ∧ ShsL w'.heap w.heap.size v6 shs ∧ shs.map (fun x => (x.1, x.2.2)) = rangeC subs fun i => if i = j then (ts.take k).flatMap (plc subs j) ++ (List.range' cz n).map (fun p : Nat => (nm, (p : Int))) else (ts.take k).flatMap (plc subs i) ++ if i < j then plc subs i (nm, (q : Int)) else []) (fun u _ _ => sz - (RowKit.intOf u).toNat)); (case h1 => (first | exact norm_eq rfl | ((conv => lhs; whnf) <;> exact rfl))); (case h2 => (first | exact norm_eq rfl | ((conv => lhs; whnf) <;> exact rfl)))
          case h0 =>
            refine ⟨0, shs, rfl, rfl, by omega, hf06, S6, ?_⟩
            rw [hC4]
            congr 1
            funext i
            by_cases h : i = j
            · subst h; rw [if_pos rfl, if_neg (by omega)]; simp
            · rw [if_neg h]
          clear hC4 S6 hf06 ht6 hs6 hrd6
          case round =>
          rintro junk5 _ _ w4 ⟨n, shs, rfl, rfl, hn, hf4, S4, hC4⟩
          have ht4 := ht.frN hf4
          have hB4 := hf4.size
          by_cases hnl' : n < sz
          · have hlenS : shs.length = subs.length := by have := congrArg List.length hC4; simpa [rangeC] using this
            obtain ⟨x0, hx0⟩ : ∃ x, shs[j]? = some x := ⟨shs[j]'(by omega), List.getElem?_eq_getElem _⟩
            have hx0' : shs[((j : Nat) : Int).toNat]? = some x0 := hx0
            have hone0 := x0.2.1.2
            have hin0 := S4.inner j x0 hx0
            have hout4 := S4.out
            have hr4 := S4.out.rd
            have h1 : (shs.map fun x => (x.1, x.2.2))[j]? = some (x0.1, x0.2.2) := by simp [hx0]
            rw [hC4, rangeC_get hxs] at h1
            simp only [Option.some.injEq, Prod.mk.injEq, if_true] at h1
            have hxlen : x0.2.2.length ≤ 8 * k + n := by
              rw [← h1.2, List.length_append, List.length_map, List.length_range']
              have := hcl j
              omega
            ((iterate 2 (apply vC_seq)); apply vC_region; (iterate 3 (((apply vL_val); (case h => ((apply opv_E); exact rfl))))); apply vL_nil; apply seqP_normal; (refine vC_cond_dec rfl (fun _ => ?_) (fun h => by omega)); apply vC_skip; apply seqP_normal; apply vC_seq; apply vC_block; apply vC_seq)
            refine vC_draw' ((fun wf => Fr No w wf)) (by (first | exact trivial | assumption | infer_instance | ((repeat (first | exact Fr.refl _ _ | assumption | with_reducible apply Fr.allocSet | with_reducible apply Fr.alloc | with_reducible apply Fr.drewN | with_reducible apply Fr.drew | ((with_reducible apply Fr.set); rotate_left; (right; ((try simp only [alloc_size]); omega))) | (refine Fr.trans ?_ (by assumption)))); done))) ?_
            ((apply (tk 0)); (case hi => exact rfl); (case hf => kernel_rfl); (case hS => (repeat (first | exact Fr.refl _ _ | assumption | with_reducible apply Fr.allocSet | with_reducible apply Fr.alloc | with_reducible apply Fr.drewN | with_reducible apply Fr.drew | ((with_reducible apply Fr.set); rotate_left; (right; ((try simp only [alloc_size]); omega))) | (refine Fr.trans ?_ (by assumption))))); (case hy => (intro wf hwf; haveI := From.mk hwf; (((apply opv_move); ((conv => lhs; whnf) <;> exact rfl))))))
            ((apply (tk 1)); (case hi => exact rfl); (case hf => kernel_rfl); (case hS => (repeat (first | exact Fr.refl _ _ | assumption | with_reducible apply Fr.allocSet | with_reducible apply Fr.alloc | with_reducible apply Fr.drewN | with_reducible apply Fr.drew | ((with_reducible apply Fr.set); rotate_left; (right; ((try simp only [alloc_size]); omega))) | (refine Fr.trans ?_ (by assumption))))); (case hy => (intro wf hwf; haveI := From.mk hwf; (((apply opv_E); exact rfl)))))
            ((apply (tk 2)); (case hi => exact rfl); (case hf => kernel_rfl); (case hS => (repeat (first | exact Fr.refl _ _ | assumption | with_reducible apply Fr.allocSet | with_reducible apply Fr.alloc | with_reducible apply Fr.drewN | with_reducible apply Fr.drew | ((with_reducible apply Fr.set); rotate_left; (right; ((try simp only [alloc_size]); omega))) | (refine Fr.trans ?_ (by assumption))))); (case hy => (intro wf hwf; haveI := From.mk hwf; (((apply opv_move); ((conv => lhs; whnf) <;> exact rfl))))))
            ((apply (tk 3)); (case hi => exact rfl); (case hf => kernel_rfl); (case hS => (repeat (first | exact Fr.refl _ _ | assumption | with_reducible apply Fr.allocSet | with_reducible apply Fr.alloc | with_reducible apply Fr.drewN | with_reducible apply Fr.drew | ((with_reducible apply Fr.set); rotate_left; (right; ((try simp only [alloc_size]); omega))) | (refine Fr.trans ?_ (by assumption))))); (case hy => (intro wf hwf; haveI := From.mk hwf; (((apply opv_E); exact rfl)))))
            ((apply (tk 4)); (case hi => exact rfl); (case hf => kernel_rfl); (case hS => (repeat (first | exact Fr.refl _ _ | assumption | with_reducible apply Fr.allocSet | with_reducible apply Fr.alloc | with_reducible apply Fr.drewN | with_reducible apply Fr.drew | ((with_reducible apply Fr.set); rotate_left; (right; ((try simp only [alloc_size]); omega))) | (refine Fr.trans ?_ (by assumption))))); (case hy => (intro wf hwf; exact opv_indexAddrR rfl rfl hr4 (by omega) (by omega))))
            ((apply (tk 5)); (case hi => exact rfl); (case hf => kernel_rfl); (case hS => (repeat (first | exact Fr.refl _ _ | assumption | with_reducible apply Fr.allocSet | with_reducible apply Fr.alloc | with_reducible apply Fr.drewN | with_reducible apply Fr.drew | ((with_reducible apply Fr.set); rotate_left; (right; ((try simp only [alloc_size]); omega))) | (refine Fr.trans ?_ (by assumption))))); (case hy => (intro wf hwf; haveI := From.mk hwf; (((apply opv_fieldAddr); exact rfl)))))
            ((apply (tk 7)); (case hi => exact rfl); (case hf => kernel_rfl); (case hS => (repeat (first | exact Fr.refl _ _ | assumption | with_reducible apply Fr.allocSet | with_reducible apply Fr.alloc | with_reducible apply Fr.drewN | with_reducible apply Fr.drew | ((with_reducible apply Fr.set); rotate_left; (right; ((try simp only [alloc_size]); omega))) | (refine Fr.trans ?_ (by assumption))))); (case hy => (intro wf hwf; haveI := From.mk hwf; (((apply opv_E); exact rfl)))))
            ((apply (tk 8)); (case hi => exact rfl); (case hf => kernel_rfl); (case hS => (repeat (first | exact Fr.refl _ _ | assumption | with_reducible apply Fr.allocSet | with_reducible apply Fr.alloc | with_reducible apply Fr.drewN | with_reducible apply Fr.drew | ((with_reducible apply Fr.set); rotate_left; (right; ((try simp only [alloc_size]); omega))) | (refine Fr.trans ?_ (by assumption))))); (case hy => (intro wf hwf; haveI := From.mk hwf; (((apply opv_E); exact rfl)))))
            ((apply (tk 9)); (case hi => exact rfl); (case hf => kernel_rfl); (case hS => (repeat (first | exact Fr.refl _ _ | assumption | with_reducible apply Fr.allocSet | with_reducible apply Fr.alloc | with_reducible apply Fr.drewN | with_reducible apply Fr.drew | ((with_reducible apply Fr.set); rotate_left; (right; ((try simp only [alloc_size]); omega))) | (refine Fr.trans ?_ (by assumption))))); (case hy => (intro wf hwf; haveI := From.mk hwf; (((apply opv_indexAddr); (first | exact norm_eq rfl | ((conv => lhs; whnf) <;> exact rfl)); exact rfl; (first | assumption | infer_instance); (first | omega | (simp only [List.length_map]; omega)); (first | omega | (simp only [List.length_map]; omega)))))))
            ((apply (tk 10)); (case hi => exact rfl); (case hf => kernel_rfl); (case hS => (repeat (first | exact Fr.refl _ _ | assumption | with_reducible apply Fr.allocSet | with_reducible apply Fr.alloc | with_reducible apply Fr.drewN | with_reducible apply Fr.drew | ((with_reducible apply Fr.set); rotate_left; (right; ((try simp only [alloc_size]); omega))) | (refine Fr.trans ?_ (by assumption))))); (case hy => (intro wf hwf; haveI := From.mk hwf; (((apply opv_fieldAddr); exact rfl)))))
            ((apply (tk 11)); (case hi => exact rfl); (case hf => kernel_rfl); (case hS => (repeat (first | exact Fr.refl _ _ | assumption | with_reducible apply Fr.allocSet | with_reducible apply Fr.alloc | with_reducible apply Fr.drewN | with_reducible apply Fr.drew | ((with_reducible apply Fr.set); rotate_left; (right; ((try simp only [alloc_size]); omega))) | (refine Fr.trans ?_ (by assumption))))); (case hy => (intro wf hwf; haveI := From.mk hwf; (((apply opv_ld_el); exact rfl; exact rfl; (first | assumption | infer_instance); assumption; exact rfl)))))
            ((apply (tk 12)); (case hi => exact rfl); (case hf => kernel_rfl); (case hS => (repeat (first | exact Fr.refl _ _ | assumption | with_reducible apply Fr.allocSet | with_reducible apply Fr.alloc | with_reducible apply Fr.drewN | with_reducible apply Fr.drew | ((with_reducible apply Fr.set); rotate_left; (right; ((try simp only [alloc_size]); omega))) | (refine Fr.trans ?_ (by assumption))))); (case hy => (intro wf hwf; haveI := From.mk hwf; (((apply opv_E); exact rfl)))))
            ((apply (tk 13)); (case hi => exact rfl); (case hf => kernel_rfl); (case hS => (repeat (first | exact Fr.refl _ _ | assumption | with_reducible apply Fr.allocSet | with_reducible apply Fr.alloc | with_reducible apply Fr.drewN | with_reducible apply Fr.drew | ((with_reducible apply Fr.set); rotate_left; (right; ((try simp only [alloc_size]); omega))) | (refine Fr.trans ?_ (by assumption))))); (case hy => (intro wf hwf; haveI := From.mk hwf; (((apply opv_buildS); exact rfl; (first | exact (rfl : _ = some []) | exact (rfl : _ = some [_]) | exact (rfl : _ = some [_, _]) | exact (rfl : _ = some [_, _, _]) | exact (rfl : _ = some [_, _, _, _]) | exact (rfl : _ = some [_, _, _, _, _]) | exact (rfl : _ = some [_, _, _, _, _, _]) | exact (rfl : _ = some [_, _, _, _, _, _, _]) | exact (rfl : _ = some [_, _, _, _, _, _, _, _]) | exact (rfl : _ = some [_, _, _, _, _, _, _, _, _]) | exact (rfl : _ = some [_, _, _, _, _, _, _, _, _, _]) | exact (rfl : _ = some [_, _, _, _, _, _, _, _, _, _, _]) | exact (rfl : _ = some [_, _, _, _, _, _, _, _, _, _, _, _]) | exact (rfl : _ = some [_, _, _, _, _, _, _, _, _, _, _, _, _]) | exact (rfl : _ = some [_, _, _, _, _, _, _, _, _, _, _, _, _, _]) | exact (rfl : _ = some [_, _, _, _, _, _, _, _, _, _, _, _, _, _, _]) | exact (rfl : _ = some [_, _, _, _, _, _, _, _, _, _, _, _, _, _, _, _])))))))
            have hbd : 0 ≤ ((cz + n : Nat) : Int) ∧ ((cz + n : Nat) : Int) ≤ 200 := by omega
            refine vA_two 6 14 rfl rfl (by kernel_rfl) (by (repeat (first | exact Fr.refl _ _ | assumption | with_reducible apply Fr.allocSet | with_reducible apply Fr.alloc | with_reducible apply Fr.drewN | with_reducible apply Fr.drew | ((with_reducible apply Fr.set); rotate_left; (right; ((try simp only [alloc_size]); omega))) | (refine Fr.trans ?_ (by assumption))))) (fun K hK => ?_) (fun K hK => ?_)
            · (((apply vL_val); (case h => ((apply opv_ld_el); exact rfl; exact rfl; (first | assumption | infer_instance); assumption; exact rfl))); apply vL_nil)
              refine ⟨rfl, hK _ _ ?_⟩
              refine vA_only 14 rfl (by kernel_rfl) (by (repeat (first | exact Fr.refl _ _ | assumption | with_reducible apply Fr.allocSet | with_reducible apply Fr.alloc | with_reducible apply Fr.drewN | with_reducible apply Fr.drew | ((with_reducible apply Fr.set); rotate_left; (right; ((try simp only [alloc_size]); omega))) | (refine Fr.trans ?_ (by assumption))))) (fun K hK => ?_)
              (((apply vL_val); (case h => ((apply opw_buildSl); exact rfl; exact rfl; exact rfl; (first | exact (rfl : _ = some []) | exact (rfl : _ = some [_]) | exact (rfl : _ = some [_, _]) | exact (rfl : _ = some [_, _, _]) | exact (rfl : _ = some [_, _, _, _]) | exact (rfl : _ = some [_, _, _, _, _]) | exact (rfl : _ = some [_, _, _, _, _, _]) | exact (rfl : _ = some [_, _, _, _, _, _, _]) | exact (rfl : _ = some [_, _, _, _, _, _, _, _]) | exact (rfl : _ = some [_, _, _, _, _, _, _, _, _]) | exact (rfl : _ = some [_, _, _, _, _, _, _, _, _, _]) | exact (rfl : _ = some [_, _, _, _, _, _, _, _, _, _, _]) | exact (rfl : _ = some [_, _, _, _, _, _, _, _, _, _, _, _]) | exact (rfl : _ = some [_, _, _, _, _, _, _, _, _, _, _, _, _]) | exact (rfl : _ = some [_, _, _, _, _, _, _, _, _, _, _, _, _, _]) | exact (rfl : _ = some [_, _, _, _, _, _, _, _, _, _, _, _, _, _, _]) | exact (rfl : _ = some [_, _, _, _, _, _, _, _, _, _, _, _, _, _, _, _]))))); apply vL_nil)
              refine ⟨rfl, hK _ _ ?_⟩
              refine vA_only 15 rfl (by kernel_rfl) (by (repeat (first | exact Fr.refl _ _ | assumption | with_reducible apply Fr.allocSet | with_reducible apply Fr.alloc | with_reducible apply Fr.drewN | with_reducible apply Fr.drew | ((with_reducible apply Fr.set); rotate_left; (right; ((try simp only [alloc_size]); omega))) | (refine Fr.trans ?_ (by assumption))))) (fun K hK => ?_)
              refine vL_append (enc := tE) (xs := x0.2.2) (ys := [(nm, ((cz + n : Nat) : Int))]) (T := 70) (sz := 2) (by (first | exact norm_eq rfl | ((conv => lhs; whnf) <;> exact rfl))) (by (first | exact norm_eq rfl | ((conv => lhs; whnf) <;> exact rfl))) (Own.alloc (hin0.frN ((Fr.refl No _).drew))) (Rd.new1 _ _ rfl) rfl (by decide) ?_ ?_ ?_
              · simp [maxLen]; omega
              · simp; omega
              intro v' w5 ho5 hf5 hfr5 hone5 _
              have hfa : Fr (fun j => own x0.2.1.1 = some j) w4 w5 := (((Fr.refl _ w4).drew).alloc _).trans' hf5 (fun i hi => .inl hi)
              have hout5 := hout4.fr hfa (fun b hb h => Own.ne_own hout4 hin0 (by decide) b hb h)
              have hf05 : Fr No w w5 := hf4.trans' hfa (fun i hi => .inr (S4.frI j x0 hx0 i hi))
              refine vL_nil ⟨rfl, hK _ _ ?_⟩
              ((apply (tk 16)); (case hi => exact rfl); (case hf => kernel_rfl); (case hS => (repeat (first | exact Fr.refl _ _ | assumption | with_reducible apply Fr.allocSet | with_reducible apply Fr.alloc | with_reducible apply Fr.drewN | with_reducible apply Fr.drew | ((with_reducible apply Fr.set); rotate_left; (right; ((try simp only [alloc_size]); omega))) | (refine Fr.trans ?_ (by assumption))))); (case hy => (intro wf hwf; exact opv_indexAddrR rfl rfl hr4 (by omega) (by omega))))
              ((apply (tk 17)); (case hi => exact rfl); (case hf => kernel_rfl); (case hS => (repeat (first | exact Fr.refl _ _ | assumption | with_reducible apply Fr.allocSet | with_reducible apply Fr.alloc | with_reducible apply Fr.drewN | with_reducible apply Fr.drew | ((with_reducible apply Fr.set); rotate_left; (right; ((try simp only [alloc_size]); omega))) | (refine Fr.trans ?_ (by assumption))))); (case hy => (intro wf hwf; haveI := From.mk hwf; (((apply opv_fieldAddr); exact rfl)))))
              refine vA_only 18 rfl (by kernel_rfl) (by (repeat (first | exact Fr.refl _ _ | assumption | with_reducible apply Fr.allocSet | with_reducible apply Fr.alloc | with_reducible apply Fr.drewN | with_reducible apply Fr.drew | ((with_reducible apply Fr.set); rotate_left; (right; ((try simp only [alloc_size]); omega))) | (refine Fr.trans ?_ (by assumption))))) (fun K hK => ?_)
              refine vL_storeElF (x0 := x0) (j := 1) (x0.1, ⟨v', hone5⟩, x0.2.2 ++ [(nm, ((cz + n : Nat) : Int))]) (by (first | exact norm_eq rfl | ((conv => lhs; whnf) <;> exact rfl))) (by (first | exact norm_eq rfl | ((conv => lhs; whnf) <;> exact rfl))) hx0' rfl hone5 (by decide) hout5 ?_
              intro w6 ho6 hf6
              have S6 := S4.upd hx0 hfa ho5 (fun k hk => (hfr5 k hk).imp id (fun h => by rw [alloc_size] at h; exact Nat.le_trans (Nat.le_succ _) h)) hB4 hone5 hf6 ho6
              have hf06 : Fr No w w6 := hf05.trans' hf6 (fun i hi => .inr (S4.frO i hi))
              refine vL_nil ⟨rfl, hK _ _ ?_⟩
              refine vA_done (by kernel_rfl) (by (first | exact trivial | ((repeat (first | exact Fr.refl _ _ | assumption | with_reducible apply Fr.allocSet | with_reducible apply Fr.alloc | with_reducible apply Fr.drewN | with_reducible apply Fr.drew | ((with_reducible apply Fr.set); rotate_left; (right; ((try simp only [alloc_size]); omega))) | (refine Fr.trans ?_ (by assumption)))); done))) ?_
              (apply seqP_normal; apply vC_region; ((apply vL_val); (case h => ((apply opv_E); exact rfl))); ((apply vL_val); (case h => ((apply opv_add); exact rfl; exact rfl; (first | omega | (simp only [List.length_map]; omega))))); ((apply vL_val); (case h => ((apply opv_E); exact rfl))); apply vL_nil; apply blockP_normal; apply seqP_normal; apply vC_region; ((apply vL_val); (case h => ((apply opv_E); exact rfl))); ((apply vL_val); (case h => ((apply opv_add); exact rfl; exact rfl; (first | omega | (simp only [List.length_map]; omega))))); ((apply vL_val); (case h => ((apply opv_E); exact rfl))); apply vL_nil; apply loopP_normal)
              (with_reducible apply end2); (case hs => (repeat (first | (with_reducible exact same_mask _ _ _) | with_reducible apply same_updN | ((with_reducible refine same_updO ?_ ?_); rotate_left; exact rfl) | ((with_reducible refine same_upd ?_ ?_); rotate_left; exact rfl) | ((with_reducible refine same_maskIn ?_ ?_); rotate_left; exact rfl)))); (case h1 => (first | exact norm_eq rfl | ((conv => lhs; whnf) <;> exact rfl))); (case h2 => (first | exact norm_eq rfl | ((conv => lhs; whnf) <;> exact rfl)))
              · refine ⟨n + 1, _, rfl, rfl, by omega, hf06, S6, ?_⟩
                rw [List.map_set, hC4, ← h1.1, ← h1.2]
                have e : ((ts.take k).flatMap (plc subs j) ++ (List.range' cz n).map (fun p : Nat => (nm, (p : Int)))) ++ [(nm, ((cz + n : Nat) : Int))] = (ts.take k).flatMap (plc subs j) ++ (List.range' cz (n + 1)).map (fun p : Nat => (nm, (p : Int))) := by rw [List.range'_1_concat, List.map_append, List.append_assoc]; rfl
                rw [e]
                have h2 := rangeC_set (c := fun i => if i = j then (ts.take k).flatMap (plc subs j) ++ (List.range' cz n).map (fun p : Nat => (nm, (p : Int))) else (ts.take k).flatMap (plc subs i) ++ if i < j then plc subs i (nm, (q : Int)) else []) (c' := fun i => if i = j then (ts.take k).flatMap (plc subs j) ++ (List.range' cz (n + 1)).map (fun p : Nat => (nm, (p : Int))) else (ts.take k).flatMap (plc subs i) ++ if i < j then plc subs i (nm, (q : Int)) else []) hxs (fun i hi => by simp only [if_neg hi])
                simp only [if_true] at h2
                exact h2
              · simp [RowKit.intOf]; omega
            · (((apply vL_val); (case h => ((apply opw_buildSl); exact rfl; exact rfl; exact rfl; (first | exact (rfl : _ = some []) | exact (rfl : _ = some [_]) | exact (rfl : _ = some [_, _]) | exact (rfl : _ = some [_, _, _]) | exact (rfl : _ = some [_, _, _, _]) | exact (rfl : _ = some [_, _, _, _, _]) | exact (rfl : _ = some [_, _, _, _, _, _]) | exact (rfl : _ = some [_, _, _, _, _, _, _]) | exact (rfl : _ = some [_, _, _, _, _, _, _, _]) | exact (rfl : _ = some [_, _, _, _, _, _, _, _, _]) | exact (rfl : _ = some [_, _, _, _, _, _, _, _, _, _]) | exact (rfl : _ = some [_, _, _, _, _, _, _, _, _, _, _]) | exact (rfl : _ = some [_, _, _, _, _, _, _, _, _, _, _, _]) | exact (rfl : _ = some [_, _, _, _, _, _, _, _, _, _, _, _, _]) | exact (rfl : _ = some [_, _, _, _, _, _, _, _, _, _, _, _, _, _]) | exact (rfl : _ = some [_, _, _, _, _, _, _, _, _, _, _, _, _, _, _]) | exact (rfl : _ = some [_, _, _, _, _, _, _, _, _, _, _, _, _, _, _, _]))))); apply vL_nil)
              refine ⟨rfl, hK _ _ ?_⟩
              refine vA_only 6 rfl (by kernel_rfl) (by (repeat (first | exact Fr.refl _ _ | assumption | with_reducible apply Fr.allocSet | with_reducible apply Fr.alloc | with_reducible apply Fr.drewN | with_reducible apply Fr.drew | ((with_reducible apply Fr.set); rotate_left; (right; ((try simp only [alloc_size]); omega))) | (refine Fr.trans ?_ (by assumption))))) (fun K hK => ?_)
              have hh : Rd (w4.drew.alloc (Obj.cells #[Value.string nm, Value.int IntKind.i64 ((cz + n : Nat) : Int)] 70)).heap 2 nE v6 shs := inferInstance
              refine vL_val (opv_ld_el rfl rfl hh hx0' rfl) (vL_nil ⟨rfl, hK _ _ ?_⟩)
              refine vA_only 15 rfl (by kernel_rfl) (by (repeat (first | exact Fr.refl _ _ | assumption | with_reducible apply Fr.allocSet | with_reducible apply Fr.alloc | with_reducible apply Fr.drewN | with_reducible apply Fr.drew | ((with_reducible apply Fr.set); rotate_left; (right; ((try simp only [alloc_size]); omega))) | (refine Fr.trans ?_ (by assumption))))) (fun K hK => ?_)
              refine vL_append (enc := tE) (xs := x0.2.2) (ys := [(nm, ((cz + n : Nat) : Int))]) (T := 70) (sz := 2) (by (first | exact norm_eq rfl | ((conv => lhs; whnf) <;> exact rfl))) (by (first | exact norm_eq rfl | ((conv => lhs; whnf) <;> exact rfl))) (Own.alloc (hin0.frN ((Fr.refl No _).drew))) (Rd.new1 _ _ rfl) rfl (by decide) ?_ ?_ ?_
              · simp [maxLen]; omega
              · simp; omega
              intro v' w5 ho5 hf5 hfr5 hone5 _
              have hfa : Fr (fun j => own x0.2.1.1 = some j) w4 w5 := (((Fr.refl _ w4).drew).alloc _).trans' hf5 (fun i hi => .inl hi)
              have hout5 := hout4.fr hfa (fun b hb h => Own.ne_own hout4 hin0 (by decide) b hb h)
              have hf05 : Fr No w w5 := hf4.trans' hfa (fun i hi => .inr (S4.frI j x0 hx0 i hi))
              refine vL_nil ⟨rfl, hK _ _ ?_⟩
              ((apply (tk 16)); (case hi => exact rfl); (case hf => kernel_rfl); (case hS => (repeat (first | exact Fr.refl _ _ | assumption | with_reducible apply Fr.allocSet | with_reducible apply Fr.alloc | with_reducible apply Fr.drewN | with_reducible apply Fr.drew | ((with_reducible apply Fr.set); rotate_left; (right; ((try simp only [alloc_size]); omega))) | (refine Fr.trans ?_ (by assumption))))); (case hy => (intro wf hwf; exact opv_indexAddrR rfl rfl hr4 (by omega) (by omega))))
              ((apply (tk 17)); (case hi => exact rfl); (case hf => kernel_rfl); (case hS => (repeat (first | exact Fr.refl _ _ | assumption | with_reducible apply Fr.allocSet | with_reducible apply Fr.alloc | with_reducible apply Fr.drewN | with_reducible apply Fr.drew | ((with_reducible apply Fr.set); rotate_left; (right; ((try simp only [alloc_size]); omega))) | (refine Fr.trans ?_ (by assumption))))); (case hy => (intro wf hwf; haveI := From.mk hwf; (((apply opv_fieldAddr); exact rfl)))))
              refine vA_only 18 rfl (by kernel_rfl) (by (repeat (first | exact Fr.refl _ _ | assumption | with_reducible apply Fr.allocSet | with_reducible apply Fr.alloc | with_reducible apply Fr.drewN | with_reducible apply Fr.drew | ((with_reducible apply Fr.set); rotate_left; (right; ((try simp only [alloc_size]); omega))) | (refine Fr.trans ?_ (by assumption))))) (fun K hK => ?_)
              refine vL_storeElF (x0 := x0) (j := 1) (x0.1, ⟨v', hone5⟩, x0.2.2 ++ [(nm, ((cz + n : Nat) : Int))]) (by (first | exact norm_eq rfl | ((conv => lhs; whnf) <;> exact rfl))) (by (first | exact norm_eq rfl | ((conv => lhs; whnf) <;> exact rfl))) hx0' rfl hone5 (by decide) hout5 ?_
              intro w6 ho6 hf6
              have S6 := S4.upd hx0 hfa ho5 (fun k hk => (hfr5 k hk).imp id (fun h => by rw [alloc_size] at h; exact Nat.le_trans (Nat.le_succ _) h)) hB4 hone5 hf6 ho6
              have hf06 : Fr No w w6 := hf05.trans' hf6 (fun i hi => .inr (S4.frO i hi))
              refine vL_nil ⟨rfl, hK _ _ ?_⟩
              refine vA_done (by kernel_rfl) (by (first | exact trivial | ((repeat (first | exact Fr.refl _ _ | assumption | with_reducible apply Fr.allocSet | with_reducible apply Fr.alloc | with_reducible apply Fr.drewN | with_reducible apply Fr.drew | ((with_reducible apply Fr.set); rotate_left; (right; ((try simp only [alloc_size]); omega))) | (refine Fr.trans ?_ (by assumption)))); done))) ?_
              (apply seqP_normal; apply vC_region; ((apply vL_val); (case h => ((apply opv_E); exact rfl))); ((apply vL_val); (case h => ((apply opv_add); exact rfl; exact rfl; (first | omega | (simp only [List.length_map]; omega))))); ((apply vL_val); (case h => ((apply opv_E); exact rfl))); apply vL_nil; apply blockP_normal; apply seqP_normal; apply vC_region; ((apply vL_val); (case h => ((apply opv_E); exact rfl))); ((apply vL_val); (case h => ((apply opv_add); exact rfl; exact rfl; (first | omega | (simp only [List.length_map]; omega))))); ((apply vL_val); (case h => ((apply opv_E); exact rfl))); apply vL_nil; apply loopP_normal)
              (with_reducible apply end2); (case hs => (repeat (first | (with_reducible exact same_mask _ _ _) | with_reducible apply same_updN | ((with_reducible refine same_updO ?_ ?_); rotate_left; exact rfl) | ((with_reducible refine same_upd ?_ ?_); rotate_left; exact rfl) | ((with_reducible refine same_maskIn ?_ ?_); rotate_left; exact rfl)))); (case h1 => (first | exact norm_eq rfl | ((conv => lhs; whnf) <;> exact rfl))); (case h2 => (first | exact norm_eq rfl | ((conv => lhs; whnf) <;> exact rfl)))
              · refine ⟨n + 1, _, rfl, rfl, by omega, hf06, S6, ?_⟩
                rw [List.map_set, hC4, ← h1.1, ← h1.2]
                have e : ((ts.take k).flatMap (plc subs j) ++ (List.range' cz n).map (fun p : Nat => (nm, (p : Int)))) ++ [(nm, ((cz + n : Nat) : Int))] = (ts.take k).flatMap (plc subs j) ++ (List.range' cz (n + 1)).map (fun p : Nat => (nm, (p : Int))) := by rw [List.range'_1_concat, List.map_append, List.append_assoc]; rfl
                rw [e]
                have h2 := rangeC_set (c := fun i => if i = j then (ts.take k).flatMap (plc subs j) ++ (List.range' cz n).map (fun p : Nat => (nm, (p : Int))) else (ts.take k).flatMap (plc subs i) ++ if i < j then plc subs i (nm, (q : Int)) else []) (c' := fun i => if i = j then (ts.take k).flatMap (plc subs j) ++ (List.range' cz (n + 1)).map (fun p : Nat => (nm, (p : Int))) else (ts.take k).flatMap (plc subs i) ++ if i < j then plc subs i (nm, (q : Int)) else []) hxs (fun i hi => by simp only [if_neg hi])
                simp only [if_true] at h2
                exact h2
              · simp [RowKit.intOf]; omega
          · have en : n = sz := by omega
            subst en
            ((iterate 2 (apply vC_seq)); apply vC_region; (iterate 3 (((apply vL_val); (case h => ((apply opv_E); exact rfl))))); apply vL_nil; apply seqP_normal; (refine vC_cond_dec rfl (fun h => by omega) (fun _ => ?_)); apply vC_exit; apply seqP_exit; apply loopP_exit; apply blockP_exit; apply seqP_normal; apply vC_region; ((apply vL_val); (case h => ((apply opv_E); exact rfl))); ((apply vL_val); (case h => ((apply opv_add); exact rfl; exact rfl; (first | omega | (simp only [List.length_map]; omega))))); ((apply vL_val); (case h => ((apply opv_E); exact rfl))); apply vL_nil; apply blockP_normal; apply seqP_normal; apply vC_region; ((apply vL_val); (case h => ((apply opv_E); exact rfl))); ((apply vL_val); (case h => ((apply opv_add); exact rfl; exact rfl; (first | omega | (simp only [List.length_map]; omega))))); ((apply vL_val); (case h => ((apply opv_E); exact rfl))); apply vL_nil; apply loopP_normal)
            (with_reducible apply end3); (case hs => (repeat (first | (with_reducible exact same_mask _ _ _) | with_reducible apply same_updN | ((with_reducible refine same_updO ?_ ?_); rotate_left; exact rfl) | ((with_reducible refine same_upd ?_ ?_); rotate_left; exact rfl) | ((with_reducible refine same_maskIn ?_ ?_); rotate_left; exact rfl)))); (case h1 => (first | exact norm_eq rfl | ((conv => lhs; whnf) <;> exact rfl))); (case h2 => (first | exact norm_eq rfl | ((conv => lhs; whnf) <;> exact rfl))); (case h3 => (first | exact norm_eq rfl | ((conv => lhs; whnf) <;> exact rfl)))
            · refine ⟨j + 1, shs, rfl, by rw [hnl, hcn, hsz], by rw [hnl]; rfl, by omega, hf4, S4, ?_⟩
              rw [hC4]
              congr 1
              funext i
              by_cases h : i = j
              · subst h; rw [if_pos rfl, if_pos (by omega), hiv]
              · rw [if_neg h]
                by_cases h' : i < j
                · rw [if_pos h', if_pos (by omega)]
                · rw [if_neg h', if_neg (by omega)]
            · simp [RowKit.intOf]; omega
        · rw [if_neg hq] at hsz hcn
          ((refine vC_cond_dec rfl (fun h => by omega) (fun _ => ?_)); apply vC_skip; apply seqP_normal; (iterate 2 (apply vC_seq)); apply vC_region; ((apply vL_val); (case h => ((apply opv_E); exact rfl))); apply vL_nil; apply seqP_normal; apply vC_block)
          rw [show ((dq : Nat) : Int) = ((sz : Nat) : Int) by omega]
          (apply vC_loop2 664613978085417307885819131754219520 15 11 (fun u u11 w' => ∃ (n : Nat) (shs : List (ByteArray × OV × List (ByteArray × Int))), u = .int .i64 (n : Int) ∧ u11 = .int .i64 ((cz + n : Nat) : Int) ∧ n ≤ sz ∧ Fr No w w' ∧ ShsL w'.heap w.heap.size v6 shs ∧ shs.map (fun x => (x.1, x.2.2)) = rangeC subs fun i => if i = j then (ts.take k).flatMap (plc subs j) ++ (List.range' cz n).map (fun p : Nat => (nm, (p : Int))) else (ts.take k).flatMap (plc subs i) ++ if i < j then plc subs i (nm, (q : Int)) else []) (fun u _ _ => sz - (RowKit.intOf u).toNat)); (case h1 => (first | exact norm_eq rfl | ((conv => lhs; whnf) <;> exact rfl))); (case h2 => (first | exact norm_eq rfl | ((conv => lhs; whnf) <;> exact rfl)))
          case h0 =>
            refine ⟨0, shs, rfl, rfl, by omega, hf06, S6, ?_⟩
            rw [hC4]
            congr 1
            funext i
            by_cases h : i = j
            · subst h; rw [if_pos rfl, if_neg (by omega)]; simp
            · rw [if_neg h]
          clear hC4 S6 hf06 ht6 hs6 hrd6
          case round =>
          rintro junk5 _ _ w4 ⟨n, shs, rfl, rfl, hn, hf4, S4, hC4⟩
          have ht4 := ht.frN hf4
          have hB4 := hf4.size
          by_cases hnl' : n < sz
          · have hlenS : shs.length = subs.length := by have := congrArg List.length hC4; simpa [rangeC] using this
            obtain ⟨x0, hx0⟩ : ∃ x, shs[j]? = some x := ⟨shs[j]'(by omega), List.getElem?_eq_getElem _⟩
            have hx0' : shs[((j : Nat) : Int).toNat]? = some x0 := hx0
            have hone0 := x0.2.1.2
            have hin0 := S4.inner j x0 hx0
            have hout4 := S4.out
            have hr4 := S4.out.rd
            have h1 : (shs.map fun x => (x.1, x.2.2))[j]? = some (x0.1, x0.2.2) := by simp [hx0]
            rw [hC4, rangeC_get hxs] at h1
            simp only [Option.some.injEq, Prod.mk.injEq, if_true] at h1
            have hxlen : x0.2.2.length ≤ 8 * k + n := by
              rw [← h1.2, List.length_append, List.length_map, List.length_range']
              have := hcl j
              omega
            ((iterate 2 (apply vC_seq)); apply vC_region; (iterate 3 (((apply vL_val); (case h => ((apply opv_E); exact rfl))))); apply vL_nil; apply seqP_normal; (refine vC_cond_dec rfl (fun _ => ?_) (fun h => by omega)); apply vC_skip; apply seqP_normal; apply vC_seq; apply vC_block; apply vC_seq)
            refine vC_draw' ((fun wf => Fr No w wf)) (by (first | exact trivial | assumption | infer_instance | ((repeat (first | exact Fr.refl _ _ | assumption | with_reducible apply Fr.allocSet | with_reducible apply Fr.alloc | with_reducible apply Fr.drewN | with_reducible apply Fr.drew | ((with_reducible apply Fr.set); rotate_left; (right; ((try simp only [alloc_size]); omega))) | (refine Fr.trans ?_ (by assumption)))); done))) ?_
            ((apply (tk 0)); (case hi => exact rfl); (case hf => kernel_rfl); (case hS => (repeat (first | exact Fr.refl _ _ | assumption | with_reducible apply Fr.allocSet | with_reducible apply Fr.alloc | with_reducible apply Fr.drewN | with_reducible apply Fr.drew | ((with_reducible apply Fr.set); rotate_left; (right; ((try simp only [alloc_size]); omega))) | (refine Fr.trans ?_ (by assumption))))); (case hy => (intro wf hwf; haveI := From.mk hwf; (((apply opv_move); ((conv => lhs; whnf) <;> exact rfl))))))
            ((apply (tk 1)); (case hi => exact rfl); (case hf => kernel_rfl); (case hS => (repeat (first | exact Fr.refl _ _ | assumption | with_reducible apply Fr.allocSet | with_reducible apply Fr.alloc | with_reducible apply Fr.drewN | with_reducible apply Fr.drew | ((with_reducible apply Fr.set); rotate_left; (right; ((try simp only [alloc_size]); omega))) | (refine Fr.trans ?_ (by assumption))))); (case hy => (intro wf hwf; haveI := From.mk hwf; (((apply opv_E); exact rfl)))))
            ((apply (tk 2)); (case hi => exact rfl); (case hf => kernel_rfl); (case hS => (repeat (first | exact Fr.refl _ _ | assumption | with_reducible apply Fr.allocSet | with_reducible apply Fr.alloc | with_reducible apply Fr.drewN | with_reducible apply Fr.drew | ((with_reducible apply Fr.set); rotate_left; (right; ((try simp only [alloc_size]); omega))) | (refine Fr.trans ?_ (by assumption))))); (case hy => (intro wf hwf; haveI := From.mk hwf; (((apply opv_move); ((conv => lhs; whnf) <;> exact rfl))))))
            ((apply (tk 3)); (case hi => exact rfl); (case hf => kernel_rfl); (case hS => (repeat (first | exact Fr.refl _ _ | assumption | with_reducible apply Fr.allocSet | with_reducible apply Fr.alloc | with_reducible apply Fr.drewN | with_reducible apply Fr.drew | ((with_reducible apply Fr.set); rotate_left; (right; ((try simp only [alloc_size]); omega))) | (refine Fr.trans ?_ (by assumption))))); (case hy => (intro wf hwf; haveI := From.mk hwf; (((apply opv_E); exact rfl)))))
            ((apply (tk 4)); (case hi => exact rfl); (case hf => kernel_rfl); (case hS => (repeat (first | exact Fr.refl _ _ | assumption | with_reducible apply Fr.allocSet | with_reducible apply Fr.alloc | with_reducible apply Fr.drewN | with_reducible apply Fr.drew | ((with_reducible apply Fr.set); rotate_left; (right; ((try simp only [alloc_size]); omega))) | (refine Fr.trans ?_ (by assumption))))); (case hy => (intro wf hwf; exact opv_indexAddrR rfl rfl hr4 (by omega) (by omega))))
            ((apply (tk 5)); (case hi => exact rfl); (case hf => kernel_rfl); (case hS => (repeat (first | exact Fr.refl _ _ | assumption | with_reducible apply Fr.allocSet | with_reducible apply Fr.alloc | with_reducible apply Fr.drewN | with_reducible apply Fr.drew | ((with_reducible apply Fr.set); rotate_left; (right; ((try simp only [alloc_size]); omega))) | (refine Fr.trans ?_ (by assumption))))); (case hy => (intro wf hwf; haveI := From.mk hwf; (((apply opv_fieldAddr); exact rfl)))))
            ((apply (tk 7)); (case hi => exact rfl); (case hf => kernel_rfl); (case hS => (repeat (first | exact Fr.refl _ _ | assumption | with_reducible apply Fr.allocSet | with_reducible apply Fr.alloc | with_reducible apply Fr.drewN | with_reducible apply Fr.drew | ((with_reducible apply Fr.set); rotate_left; (right; ((try simp only [alloc_size]); omega))) | (refine Fr.trans ?_ (by assumption))))); (case hy => (intro wf hwf; haveI := From.mk hwf; (((apply opv_E); exact rfl)))))
            ((apply (tk 8)); (case hi => exact rfl); (case hf => kernel_rfl); (case hS => (repeat (first | exact Fr.refl _ _ | assumption | with_reducible apply Fr.allocSet | with_reducible apply Fr.alloc | with_reducible apply Fr.drewN | with_reducible apply Fr.drew | ((with_reducible apply Fr.set); rotate_left; (right; ((try simp only [alloc_size]); omega))) | (refine Fr.trans ?_ (by assumption))))); (case hy => (intro wf hwf; haveI := From.mk hwf; (((apply opv_E); exact rfl)))))
            ((apply (tk 9)); (case hi => exact rfl); (case hf => kernel_rfl); (case hS => (repeat (first | exact Fr.refl _ _ | assumption | with_reducible apply Fr.allocSet | with_reducible apply Fr.alloc | with_reducible apply Fr.drewN | with_reducible apply Fr.drew | ((with_reducible apply Fr.set); rotate_left; (right; ((try simp only [alloc_size]); omega))) | (refine Fr.trans ?_ (by assumption))))); (case hy => (intro wf hwf; haveI := From.mk hwf; (((apply opv_indexAddr); (first | exact norm_eq rfl | ((conv => lhs; whnf) <;> exact rfl)); exact rfl; (first | assumption | infer_instance); (first | omega | (simp only [List.length_map]; omega)); (first | omega | (simp only [List.length_map]; omega)))))))
            ((apply (tk 10)); (case hi => exact rfl); (case hf => kernel_rfl); (case hS => (repeat (first | exact Fr.refl _ _ | assumption | with_reducible apply Fr.allocSet | with_reducible apply Fr.alloc | with_reducible apply Fr.drewN | with_reducible apply Fr.drew | ((with_reducible apply Fr.set); rotate_left; (right; ((try simp only [alloc_size]); omega))) | (refine Fr.trans ?_ (by assumption))))); (case hy => (intro wf hwf; haveI := From.mk hwf; (((apply opv_fieldAddr); exact rfl)))))
            ((apply (tk 11)); (case hi => exact rfl); (case hf => kernel_rfl); (case hS => (repeat (first | exact Fr.refl _ _ | assumption | with_reducible apply Fr.allocSet | with_reducible apply Fr.alloc | with_reducible apply Fr.drewN | with_reducible apply Fr.drew | ((with_reducible apply Fr.set); rotate_left; (right; ((try simp only [alloc_size]); omega))) | (refine Fr.trans ?_ (by assumption))))); (case hy => (intro wf hwf; haveI := From.mk hwf; (((apply opv_ld_el); exact rfl; exact rfl; (first | assumption | infer_instance); assumption; exact rfl)))))
            ((apply (tk 12)); (case hi => exact rfl); (case hf => kernel_rfl); (case hS => (repeat (first | exact Fr.refl _ _ | assumption | with_reducible apply Fr.allocSet | with_reducible apply Fr.alloc | with_reducible apply Fr.drewN | with_reducible apply Fr.drew | ((with_reducible apply Fr.set); rotate_left; (right; ((try simp only [alloc_size]); omega))) | (refine Fr.trans ?_ (by assumption))))); (case hy => (intro wf hwf; haveI := From.mk hwf; (((apply opv_E); exact rfl)))))
            ((apply (tk 13)); (case hi => exact rfl); (case hf => kernel_rfl); (case hS => (repeat (first | exact Fr.refl _ _ | assumption | with_reducible apply Fr.allocSet | with_reducible apply Fr.alloc | with_reducible apply Fr.drewN | with_reducible apply Fr.drew | ((with_reducible apply Fr.set); rotate_left; (right; ((try simp only [alloc_size]); omega))) | (refine Fr.trans ?_ (by assumption))))); (case hy => (intro wf hwf; haveI := From.mk hwf; (((apply opv_buildS); exact rfl; (first | exact (rfl : _ = some []) | exact (rfl : _ = some [_]) | exact (rfl : _ = some [_, _]) | exact (rfl : _ = some [_, _, _]) | exact (rfl : _ = some [_, _, _, _]) | exact (rfl : _ = some [_, _, _, _, _]) | exact (rfl : _ = some [_, _, _, _, _, _]) | exact (rfl : _ = some [_, _, _, _, _, _, _]) | exact (rfl : _ = some [_, _, _, _, _, _, _, _]) | exact (rfl : _ = some [_, _, _, _, _, _, _, _, _]) | exact (rfl : _ = some [_, _, _, _, _, _, _, _, _, _]) | exact (rfl : _ = some [_, _, _, _, _, _, _, _, _, _, _]) | exact (rfl : _ = some [_, _, _, _, _, _, _, _, _, _, _, _]) | exact (rfl : _ = some [_, _, _, _, _, _, _, _, _, _, _, _, _]) | exact (rfl : _ = some [_, _, _, _, _, _, _, _, _, _, _, _, _, _]) | exact (rfl : _ = some [_, _, _, _, _, _, _, _, _, _, _, _, _, _, _]) | exact (rfl : _ = some [_, _, _, _, _, _, _, _, _, _, _, _, _, _, _, _])))))))
            have hbd : 0 ≤ ((cz + n : Nat) : Int) ∧ ((cz + n : Nat) : Int) ≤ 200 := by omega
            refine vA_two 6 14 rfl rfl (by kernel_rfl) (by (repeat (first | exact Fr.refl _ _ | assumption | with_reducible apply Fr.allocSet | with_reducible apply Fr.alloc | with_reducible apply Fr.drewN | with_reducible apply Fr.drew | ((with_reducible apply Fr.set); rotate_left; (right; ((try simp only [alloc_size]); omega))) | (refine Fr.trans ?_ (by assumption))))) (fun K hK => ?_) (fun K hK => ?_)
            · (((apply vL_val); (case h => ((apply opv_ld_el); exact rfl; exact rfl; (first | assumption | infer_instance); assumption; exact rfl))); apply vL_nil)
              refine ⟨rfl, hK _ _ ?_⟩
              refine vA_only 14 rfl (by kernel_rfl) (by (repeat (first | exact Fr.refl _ _ | assumption | with_reducible apply Fr.allocSet | with_reducible apply Fr.alloc | with_reducible apply Fr.drewN | with_reducible apply Fr.drew | ((with_reducible apply Fr.set); rotate_left; (right; ((try simp only [alloc_size]); omega))) | (refine Fr.trans ?_ (by assumption))))) (fun K hK => ?_)
              (((apply vL_val); (case h => ((apply opw_buildSl); exact rfl; exact rfl; exact rfl; (first | exact (rfl : _ = some []) | exact (rfl : _ = some [_]) | exact (rfl : _ = some [_, _]) | exact (rfl : _ = some [_, _, _]) | exact (rfl : _ = some [_, _, _, _]) | exact (rfl : _ = some [_, _, _, _, _]) | exact (rfl : _ = some [_, _, _, _, _, _]) | exact (rfl : _ = some [_, _, _, _, _, _, _]) | exact (rfl : _ = some [_, _, _, _, _, _, _, _]) | exact (rfl : _ = some [_, _, _, _, _, _, _, _, _]) | exact (rfl : _ = some [_, _, _, _, _, _, _, _, _, _]) | exact (rfl : _ = some [_, _, _, _, _, _, _, _, _, _, _]) | exact (rfl : _ = some [_, _, _, _, _, _, _, _, _, _, _, _]) | exact (rfl : _ = some [_, _, _, _, _, _, _, _, _, _, _, _, _]) | exact (rfl : _ = some [_, _, _, _, _, _, _, _, _, _, _, _, _, _]) | exact (rfl : _ = some [_, _, _, _, _, _, _, _, _, _, _, _, _, _, _]) | exact (rfl : _ = some [_, _, _, _, _, _, _, _, _, _, _, _, _, _, _, _]))))); apply vL_nil)
              refine ⟨rfl, hK _ _ ?_⟩
              refine vA_only 15 rfl (by kernel_rfl) (by (repeat (first | exact Fr.refl _ _ | assumption | with_reducible apply Fr.allocSet | with_reducible apply Fr.alloc | with_reducible apply Fr.drewN | with_reducible apply Fr.drew | ((with_reducible apply Fr.set); rotate_left; (right; ((try simp only [alloc_size]); omega))) | (refine Fr.trans ?_ (by assumption))))) (fun K hK => ?_)
              refine vL_append (enc := tE) (xs := x0.2.2) (ys := [(nm, ((cz + n : Nat) : Int))]) (T := 70) (sz := 2) (by (first | exact norm_eq rfl | ((conv => lhs; whnf) <;> exact rfl))) (by (first | exact norm_eq rfl | ((conv => lhs; whnf) <;> exact rfl))) (Own.alloc (hin0.frN ((Fr.refl No _).drew))) (Rd.new1 _ _ rfl) rfl (by decide) ?_ ?_ ?_
              · simp [maxLen]; omega
              · simp; omega
              intro v' w5 ho5 hf5 hfr5 hone5 _
              have hfa : Fr (fun j => own x0.2.1.1 = some j) w4 w5 := (((Fr.refl _ w4).drew).alloc _).trans' hf5 (fun i hi => .inl hi)
              have hout5 := hout4.fr hfa (fun b hb h => Own.ne_own hout4 hin0 (by decide) b hb h)
              have hf05 : Fr No w w5 := hf4.trans' hfa (fun i hi => .inr (S4.frI j x0 hx0 i hi))
              refine vL_nil ⟨rfl, hK _ _ ?_⟩
              ((apply (tk 16)); (case hi => exact rfl); (case hf => kernel_rfl); (case hS => (repeat (first | exact Fr.refl _ _ | assumption | with_reducible apply Fr.allocSet | with_reducible apply Fr.alloc | with_reducible apply Fr.drewN | with_reducible apply Fr.drew | ((with_reducible apply Fr.set); rotate_left; (right; ((try simp only [alloc_size]); omega))) | (refine Fr.trans ?_ (by assumption))))); (case hy => (intro wf hwf; exact opv_indexAddrR rfl rfl hr4 (by omega) (by omega))))
              ((apply (tk 17)); (case hi => exact rfl); (case hf => kernel_rfl); (case hS => (repeat (first | exact Fr.refl _ _ | assumption | with_reducible apply Fr.allocSet | with_reducible apply Fr.alloc | with_reducible apply Fr.drewN | with_reducible apply Fr.drew | ((with_reducible apply Fr.set); rotate_left; (right; ((try simp only [alloc_size]); omega))) | (refine Fr.trans ?_ (by assumption))))); (case hy => (intro wf hwf; haveI := From.mk hwf; (((apply opv_fieldAddr); exact rfl)))))
              refine vA_only 18 rfl (by kernel_rfl) (by (repeat (first | exact Fr.refl _ _ | assumption | with_reducible apply Fr.allocSet | with_reducible apply Fr.alloc | with_reducible apply Fr.drewN | with_reducible apply Fr.drew | ((with_reducible apply Fr.set); rotate_left; (right; ((try simp only [alloc_size]); omega))) | (refine Fr.trans ?_ (by assumption))))) (fun K hK => ?_)
              refine vL_storeElF (x0 := x0) (j := 1) (x0.1, ⟨v', hone5⟩, x0.2.2 ++ [(nm, ((cz + n : Nat) : Int))]) (by (first | exact norm_eq rfl | ((conv => lhs; whnf) <;> exact rfl))) (by (first | exact norm_eq rfl | ((conv => lhs; whnf) <;> exact rfl))) hx0' rfl hone5 (by decide) hout5 ?_
              intro w6 ho6 hf6
              have S6 := S4.upd hx0 hfa ho5 (fun k hk => (hfr5 k hk).imp id (fun h => by rw [alloc_size] at h; exact Nat.le_trans (Nat.le_succ _) h)) hB4 hone5 hf6 ho6
              have hf06 : Fr No w w6 := hf05.trans' hf6 (fun i hi => .inr (S4.frO i hi))
              refine vL_nil ⟨rfl, hK _ _ ?_⟩
              refine vA_done (by kernel_rfl) (by (first | exact trivial | ((repeat (first | exact Fr.refl _ _ | assumption | with_reducible apply Fr.allocSet | with_reducible apply Fr.alloc | with_reducible apply Fr.drewN | with_reducible apply Fr.drew | ((with_reducible apply Fr.set); rotate_left; (right; ((try simp only [alloc_size]); omega))) | (refine Fr.trans ?_ (by assumption)))); done))) ?_
              (apply seqP_normal; apply vC_region; ((apply vL_val); (case h => ((apply opv_E); exact rfl))); ((apply vL_val); (case h => ((apply opv_add); exact rfl; exact rfl; (first | omega | (simp only [List.length_map]; omega))))); ((apply vL_val); (case h => ((apply opv_E); exact rfl))); apply vL_nil; apply blockP_normal; apply seqP_normal; apply vC_region; ((apply vL_val); (case h => ((apply opv_E); exact rfl))); ((apply vL_val); (case h => ((apply opv_add); exact rfl; exact rfl; (first | omega | (simp only [List.length_map]; omega))))); ((apply vL_val); (case h => ((apply opv_E); exact rfl))); apply vL_nil; apply loopP_normal)
              (with_reducible apply end2); (case hs => (repeat (first | (with_reducible exact same_mask _ _ _) | with_reducible apply same_updN | ((with_reducible refine same_updO ?_ ?_); rotate_left; exact rfl) | ((with_reducible refine same_upd ?_ ?_); rotate_left; exact rfl) | ((with_reducible refine same_maskIn ?_ ?_); rotate_left; exact rfl)))); (case h1 => (first | exact norm_eq rfl | ((conv => lhs; whnf) <;> exact rfl))); (case h2 => (first | exact norm_eq rfl | ((conv => lhs; whnf) <;> exact rfl)))
              · refine ⟨n + 1, _, rfl, rfl, by omega, hf06, S6, ?_⟩
                rw [List.map_set, hC4, ← h1.1, ← h1.2]
                have e : ((ts.take k).flatMap (plc subs j) ++ (List.range' cz n).map (fun p : Nat => (nm, (p : Int)))) ++ [(nm, ((cz + n : Nat) : Int))] = (ts.take k).flatMap (plc subs j) ++ (List.range' cz (n + 1)).map (fun p : Nat => (nm, (p : Int))) := by rw [List.range'_1_concat, List.map_append, List.append_assoc]; rfl
                rw [e]
                have h2 := rangeC_set (c := fun i => if i = j then (ts.take k).flatMap (plc subs j) ++ (List.range' cz n).map (fun p : Nat => (nm, (p : Int))) else (ts.take k).flatMap (plc subs i) ++ if i < j then plc subs i (nm, (q : Int)) else []) (c' := fun i => if i = j then (ts.take k).flatMap (plc subs j) ++ (List.range' cz (n + 1)).map (fun p : Nat => (nm, (p : Int))) else (ts.take k).flatMap (plc subs i) ++ if i < j then plc subs i (nm, (q : Int)) else []) hxs (fun i hi => by simp only [if_neg hi])
                simp only [if_true] at h2
                exact h2
              · simp [RowKit.intOf]; omega
            · (((apply vL_val); (case h => ((apply opw_buildSl); exact rfl; exact rfl; exact rfl; (first | exact (rfl : _ = some []) | exact (rfl : _ = some [_]) | exact (rfl : _ = some [_, _]) | exact (rfl : _ = some [_, _, _]) | exact (rfl : _ = some [_, _, _, _]) | exact (rfl : _ = some [_, _, _, _, _]) | exact (rfl : _ = some [_, _, _, _, _, _]) | exact (rfl : _ = some [_, _, _, _, _, _, _]) | exact (rfl : _ = some [_, _, _, _, _, _, _, _]) | exact (rfl : _ = some [_, _, _, _, _, _, _, _, _]) | exact (rfl : _ = some [_, _, _, _, _, _, _, _, _, _]) | exact (rfl : _ = some [_, _, _, _, _, _, _, _, _, _, _]) | exact (rfl : _ = some [_, _, _, _, _, _, _, _, _, _, _, _]) | exact (rfl : _ = some [_, _, _, _, _, _, _, _, _, _, _, _, _]) | exact (rfl : _ = some [_, _, _, _, _, _, _, _, _, _, _, _, _, _]) | exact (rfl : _ = some [_, _, _, _, _, _, _, _, _, _, _, _, _, _, _]) | exact (rfl : _ = some [_, _, _, _, _, _, _, _, _, _, _, _, _, _, _, _]))))); apply vL_nil)
              refine ⟨rfl, hK _ _ ?_⟩
              refine vA_only 6 rfl (by kernel_rfl) (by (repeat (first | exact Fr.refl _ _ | assumption | with_reducible apply Fr.allocSet | with_reducible apply Fr.alloc | with_reducible apply Fr.drewN | with_reducible apply Fr.drew | ((with_reducible apply Fr.set); rotate_left; (right; ((try simp only [alloc_size]); omega))) | (refine Fr.trans ?_ (by assumption))))) (fun K hK => ?_)
              have hh : Rd (w4.drew.alloc (Obj.cells #[Value.string nm, Value.int IntKind.i64 ((cz + n : Nat) : Int)] 70)).heap 2 nE v6 shs := inferInstance
              refine vL_val (opv_ld_el rfl rfl hh hx0' rfl) (vL_nil ⟨rfl, hK _ _ ?_⟩)
              refine vA_only 15 rfl (by kernel_rfl) (by (repeat (first | exact Fr.refl _ _ | assumption | with_reducible apply Fr.allocSet | with_reducible apply Fr.alloc | with_reducible apply Fr.drewN | with_reducible apply Fr.drew | ((with_reducible apply Fr.set); rotate_left; (right; ((try simp only [alloc_size]); omega))) | (refine Fr.trans ?_ (by assumption))))) (fun K hK => ?_)
              refine vL_append (enc := tE) (xs := x0.2.2) (ys := [(nm, ((cz + n : Nat) : Int))]) (T := 70) (sz := 2) (by (first | exact norm_eq rfl | ((conv => lhs; whnf) <;> exact rfl))) (by (first | exact norm_eq rfl | ((conv => lhs; whnf) <;> exact rfl))) (Own.alloc (hin0.frN ((Fr.refl No _).drew))) (Rd.new1 _ _ rfl) rfl (by decide) ?_ ?_ ?_
              · simp [maxLen]; omega
              · simp; omega
              intro v' w5 ho5 hf5 hfr5 hone5 _
              have hfa : Fr (fun j => own x0.2.1.1 = some j) w4 w5 := (((Fr.refl _ w4).drew).alloc _).trans' hf5 (fun i hi => .inl hi)
              have hout5 := hout4.fr hfa (fun b hb h => Own.ne_own hout4 hin0 (by decide) b hb h)
              have hf05 : Fr No w w5 := hf4.trans' hfa (fun i hi => .inr (S4.frI j x0 hx0 i hi))
              refine vL_nil ⟨rfl, hK _ _ ?_⟩
              ((apply (tk 16)); (case hi => exact rfl); (case hf => kernel_rfl); (case hS => (repeat (first | exact Fr.refl _ _ | assumption | with_reducible apply Fr.allocSet | with_reducible apply Fr.alloc | with_reducible apply Fr.drewN | with_reducible apply Fr.drew | ((with_reducible apply Fr.set); rotate_left; (right; ((try simp only [alloc_size]); omega))) | (refine Fr.trans ?_ (by assumption))))); (case hy => (intro wf hwf; exact opv_indexAddrR rfl rfl hr4 (by omega) (by omega))))
              ((apply (tk 17)); (case hi => exact rfl); (case hf => kernel_rfl); (case hS => (repeat (first | exact Fr.refl _ _ | assumption | with_reducible apply Fr.allocSet | with_reducible apply Fr.alloc | with_reducible apply Fr.drewN | with_reducible apply Fr.drew | ((with_reducible apply Fr.set); rotate_left; (right; ((try simp only [alloc_size]); omega))) | (refine Fr.trans ?_ (by assumption))))); (case hy => (intro wf hwf; haveI := From.mk hwf; (((apply opv_fieldAddr); exact rfl)))))
              refine vA_only 18 rfl (by kernel_rfl) (by (repeat (first | exact Fr.refl _ _ | assumption | with_reducible apply Fr.allocSet | with_reducible apply Fr.alloc | with_reducible apply Fr.drewN | with_reducible apply Fr.drew | ((with_reducible apply Fr.set); rotate_left; (right; ((try simp only [alloc_size]); omega))) | (refine Fr.trans ?_ (by assumption))))) (fun K hK => ?_)
              refine vL_storeElF (x0 := x0) (j := 1) (x0.1, ⟨v', hone5⟩, x0.2.2 ++ [(nm, ((cz + n : Nat) : Int))]) (by (first | exact norm_eq rfl | ((conv => lhs; whnf) <;> exact rfl))) (by (first | exact norm_eq rfl | ((conv => lhs; whnf) <;> exact rfl))) hx0' rfl hone5 (by decide) hout5 ?_
              intro w6 ho6 hf6
              have S6 := S4.upd hx0 hfa ho5 (fun k hk => (hfr5 k hk).imp id (fun h => by rw [alloc_size] at h; exact Nat.le_trans (Nat.le_succ _) h)) hB4 hone5 hf6 ho6
              have hf06 : Fr No w w6 := hf05.trans' hf6 (fun i hi => .inr (S4.frO i hi))
              refine vL_nil ⟨rfl, hK _ _ ?_⟩
              refine vA_done (by kernel_rfl) (by (first | exact trivial | ((repeat (first | exact Fr.refl _ _ | assumption | with_reducible apply Fr.allocSet | with_reducible apply Fr.alloc | with_reducible apply Fr.drewN | with_reducible apply Fr.drew | ((with_reducible apply Fr.set); rotate_left; (right; ((try simp only [alloc_size]); omega))) | (refine Fr.trans ?_ (by assumption)))); done))) ?_
              (apply seqP_normal; apply vC_region; ((apply vL_val); (case h => ((apply opv_E); exact rfl))); ((apply vL_val); (case h => ((apply opv_add); exact rfl; exact rfl; (first | omega | (simp only [List.length_map]; omega))))); ((apply vL_val); (case h => ((apply opv_E); exact rfl))); apply vL_nil; apply blockP_normal; apply seqP_normal; apply vC_region; ((apply vL_val); (case h => ((apply opv_E); exact rfl))); ((apply vL_val); (case h => ((apply opv_add); exact rfl; exact rfl; (first | omega | (simp only [List.length_map]; omega))))); ((apply vL_val); (case h => ((apply opv_E); exact rfl))); apply vL_nil; apply loopP_normal)
              (with_reducible apply end2); (case hs => (repeat (first | (with_reducible exact same_mask _ _ _) | with_reducible apply same_updN | ((with_reducible refine same_updO ?_ ?_); rotate_left; exact rfl) | ((with_reducible refine same_upd ?_ ?_); rotate_left; exact rfl) | ((with_reducible refine same_maskIn ?_ ?_); rotate_left; exact rfl)))); (case h1 => (first | exact norm_eq rfl | ((conv => lhs; whnf) <;> exact rfl))); (case h2 => (first | exact norm_eq rfl | ((conv => lhs; whnf) <;> exact rfl)))
              · refine ⟨n + 1, _, rfl, rfl, by omega, hf06, S6, ?_⟩
                rw [List.map_set, hC4, ← h1.1, ← h1.2]
                have e : ((ts.take k).flatMap (plc subs j) ++ (List.range' cz n).map (fun p : Nat => (nm, (p : Int)))) ++ [(nm, ((cz + n : Nat) : Int))] = (ts.take k).flatMap (plc subs j) ++ (List.range' cz (n + 1)).map (fun p : Nat => (nm, (p : Int))) := by rw [List.range'_1_concat, List.map_append, List.append_assoc]; rfl
                rw [e]
                have h2 := rangeC_set (c := fun i => if i = j then (ts.take k).flatMap (plc subs j) ++ (List.range' cz n).map (fun p : Nat => (nm, (p : Int))) else (ts.take k).flatMap (plc subs i) ++ if i < j then plc subs i (nm, (q : Int)) else []) (c' := fun i => if i = j then (ts.take k).flatMap (plc subs j) ++ (List.range' cz (n + 1)).map (fun p : Nat => (nm, (p : Int))) else (ts.take k).flatMap (plc subs i) ++ if i < j then plc subs i (nm, (q : Int)) else []) hxs (fun i hi => by simp only [if_neg hi])
                simp only [if_true] at h2
                exact h2
              · simp [RowKit.intOf]; omega
          · have en : n = sz := by omega
            subst en
            ((iterate 2 (apply vC_seq)); apply vC_region; (iterate 3 (((apply vL_val); (case h => ((apply opv_E); exact rfl))))); apply vL_nil; apply seqP_normal; (refine vC_cond_dec rfl (fun h => by omega) (fun _ => ?_)); apply vC_exit; apply seqP_exit; apply loopP_exit; apply blockP_exit; apply seqP_normal; apply vC_region; ((apply vL_val); (case h => ((apply opv_E); exact rfl))); ((apply vL_val); (case h => ((apply opv_add); exact rfl; exact rfl; (first | omega | (simp only [List.length_map]; omega))))); ((apply vL_val); (case h => ((apply opv_E); exact rfl))); apply vL_nil; apply blockP_normal; apply seqP_normal; apply vC_region; ((apply vL_val); (case h => ((apply opv_E); exact rfl))); ((apply vL_val); (case h => ((apply opv_add); exact rfl; exact rfl; (first | omega | (simp only [List.length_map]; omega))))); ((apply vL_val); (case h => ((apply opv_E); exact rfl))); apply vL_nil; apply loopP_normal)
            (with_reducible apply end3); (case hs => (repeat (first | (with_reducible exact same_mask _ _ _) | with_reducible apply same_updN | ((with_reducible refine same_updO ?_ ?_); rotate_left; exact rfl) | ((with_reducible refine same_upd ?_ ?_); rotate_left; exact rfl) | ((with_reducible refine same_maskIn ?_ ?_); rotate_left; exact rfl)))); (case h1 => (first | exact norm_eq rfl | ((conv => lhs; whnf) <;> exact rfl))); (case h2 => (first | exact norm_eq rfl | ((conv => lhs; whnf) <;> exact rfl))); (case h3 => (first | exact norm_eq rfl | ((conv => lhs; whnf) <;> exact rfl)))
            · refine ⟨j + 1, shs, rfl, by rw [hnl, hcn, hsz], by rw [hnl]; rfl, by omega, hf4, S4, ?_⟩
              rw [hC4]
              congr 1
              funext i
              by_cases h : i = j
              · subst h; rw [if_pos rfl, if_pos (by omega), hiv]
              · rw [if_neg h]
                by_cases h' : i < j
                · rw [if_pos h', if_pos (by omega)]
                · rw [if_neg h', if_neg (by omega)]
            · simp [RowKit.intOf]; omega
      · rw [if_neg hc] at hnext
        have hno : plc subs j (nm, (q : Int)) = [] := plcTo_none (fun h => hc ((mem_who hxs).1 h))
        refine vC_condT rfl (by simp [hc]) ?_
        (apply vC_exit; apply seqP_exit; apply blockP_exit; apply seqP_normal; apply vC_region; ((apply vL_val); (case h => ((apply opv_E); exact rfl))); ((apply vL_val); (case h => ((apply opv_add); exact rfl; exact rfl; (first | omega | (simp only [List.length_map]; omega))))); ((apply vL_val); (case h => ((apply opv_E); exact rfl))); apply vL_nil; apply loopP_normal)
        (with_reducible apply end3); (case hs => (repeat (first | (with_reducible exact same_mask _ _ _) | with_reducible apply same_updN | ((with_reducible refine same_updO ?_ ?_); rotate_left; exact rfl) | ((with_reducible refine same_upd ?_ ?_); rotate_left; exact rfl) | ((with_reducible refine same_maskIn ?_ ?_); rotate_left; exact rfl)))); (case h1 => (first | exact norm_eq rfl | ((conv => lhs; whnf) <;> exact rfl))); (case h2 => (first | exact norm_eq rfl | ((conv => lhs; whnf) <;> exact rfl))); (case h3 => (first | exact norm_eq rfl | ((conv => lhs; whnf) <;> exact rfl)))
        · refine ⟨j + 1, shs, rfl, by rw [hnext], by rw [hnext], by omega, hf06, S6, ?_⟩
          rw [hC4]
          congr 1
          funext i
          by_cases h : i = j
          · subst h; rw [if_neg (by omega), if_pos (by omega), hno]
          · by_cases h' : i < j
            · rw [if_pos h', if_pos (by omega)]
            · rw [if_neg h', if_neg (by omega)]
        · simp [RowKit.intOf]; omega
    have ej : j = subs.length := by omega
    subst ej
    ((iterate 2 (apply vC_seq)); apply vC_region; (iterate 2 (((apply vL_val); (case h => ((apply opv_E); exact rfl))))); ((apply vL_val); (case h => ((apply opv_lenc); exact rfl))); ((apply vL_val); (case h => ((apply opv_E); exact rfl))); apply vL_nil; apply seqP_normal; (refine vC_cond_dec rfl (fun h => by omega) (fun _ => ?_)); apply vC_exit; apply seqP_exit; apply loopP_exit; apply blockP_exit; apply blockP_normal; apply seqP_normal; apply vC_region; ((apply vL_val); (case h => ((apply opv_E); exact rfl))); ((apply vL_val); (case h => ((apply opv_add); exact rfl; exact rfl; (first | omega | (simp only [List.length_map]; omega))))); ((apply vL_val); (case h => ((apply opv_E); exact rfl))); apply vL_nil; apply loopP_normal)
    (with_reducible apply end1); (case hs => (repeat (first | (with_reducible exact same_mask _ _ _) | with_reducible apply same_updN | ((with_reducible refine same_updO ?_ ?_); rotate_left; exact rfl) | ((with_reducible refine same_upd ?_ ?_); rotate_left; exact rfl) | ((with_reducible refine same_maskIn ?_ ?_); rotate_left; exact rfl)))); (case h1 => (first | exact norm_eq rfl | ((conv => lhs; whnf) <;> exact rfl)))
    · refine ⟨k + 1, shs, rfl, by omega, hf4, S4, ?_⟩
      rw [hC4, take_next hx]
      congr 1
      funext i
      rw [List.flatMap_append]
      congr 1
      by_cases h : i < subs.length
      · rw [if_pos h]; simp
      · rw [if_neg h]
        have : plc subs i (nm, (q : Int)) = [] := plcTo_none (fun h' => h (whoN_lt h'))
        simp [this]
    · simp [RowKit.intOf]; omega
  · have ek : k = ts.length := by omega
    subst ek
    obtain ⟨va, vn, vc, rfl⟩ := S3.out.isSlice
    ((iterate 2 (apply vC_seq)); apply vC_region; (iterate 2 (((apply vL_val); (case h => ((apply opv_E); exact rfl))))); ((apply vL_val); (case h => ((apply opv_lenc); exact rfl))); ((apply vL_val); (case h => ((apply opv_E); exact rfl))); apply vL_nil; apply seqP_normal; (refine vC_cond_dec rfl (fun h => by omega) (fun _ => ?_)); apply vC_exit; apply seqP_exit; apply loopP_exit; apply blockP_exit; apply seqP_normal; apply vC_seq; apply vC_region; (iterate 3 (((apply vL_val); (case h => ((apply opv_E); exact rfl))))); apply vL_nil; apply seqP_normal; apply vC_ret)
    (apply ret2; (case h1 => (first | exact norm_eq rfl | ((conv => lhs; whnf) <;> exact rfl))); (case h2 => (first | exact norm_eq rfl | ((conv => lhs; whnf) <;> exact rfl))))
    rw [List.take_length] at hC3
    exact ⟨hf3, .inr ⟨rfl, _, shs, rfl, S3, hC3⟩⟩
end Go.Proofs.Ytfceebbkjogedaa
