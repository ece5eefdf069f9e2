/- Layer 16: who waits at a channel; their queues. Layer 16: who waits at a channel: those let go, lists. -/
import Derived.Test.YtbaidcnalkdhgaaGreatT
import Derived.Test.YtbaidcnalkdhgaaGreatEw
import Derived.Test.YtbaidcnalkdhgaaGreatEs
import Derived.Test.YtbaidcnalkdhgaaGreatEx
import Derived.Test.YtbaidcnalkdhgaaGreatEq
set_option maxRecDepth 100000
namespace Go.Proofs.YtbaidcnalkdhgaaGreat
open Go Go.Eng
abbrev pt (b : Nat) : Value := .pointer (some ⟨b, 0, none⟩)
/-- a sender, a receiver: its ticket, what it is told by -/
structure SE where
  k : Nat
  v : Int
  f : OV
structure RE where
  k : Nat
  f : OV
def seE (x : SE) : List Value := [pt x.k, .int .i64 x.v, x.f.1]
def reE (x : RE) : List Value := [pt x.k, x.f.1]
instance encSe : EncOk seE 3 := ⟨by intro x u h; simp only [seE, List.mem_cons, List.not_mem_nil, or_false] at h; rcases h with rfl | rfl | rfl; rfl; rfl; exact x.f.2, fun _ => rfl⟩
instance encRe : EncOk reE 2 := ⟨by intro x u h; simp only [reE, List.mem_cons, List.not_mem_nil, or_false] at h; rcases h with rfl | rfl; rfl; exact x.f.2, fun _ => rfl⟩
theorem deleteN_snd (v : Value) (xs : List SE) (i : Nat) (w : World) (hi : i < xs.length) (ho : Own w.heap 154 3 seE v xs) :
    Rets Tryz.prog 215 #[v, .int .i64 i, .int .i64 ((i : Int) + 1)] w fun u w' => Fr (fun k => own v = some k) w w' ∧ Own w'.heap 154 3 seE u (xs.take i ++ xs.drop (i + 1)) ∧ own u = own v ∧ u.oneCell' = true := by
  have hs := ho.rd.small
  rcases ho.shape with ⟨_, rfl⟩ | ⟨g, cap, cs, rfl, hb, hn, hm, hl, ht⟩
  · simp at hi
  have hl1 : (xs.take i).length = i := by simp; omega
  have hl2 : (xs.drop (i + 1)).length = xs.length - (i + 1) := by simp
  have hm' : cap ≤ 9223372036854775807 := by unfold maxLen at hm; omega
  have hf1 : ((xs.take i ++ xs.drop (i + 1)).flatMap seE).length = (i + (xs.length - (i + 1))) * 3 := by rw [flatMap_len _ (fun x _ => EncOk.len x)]; simp; omega
  have hf2 : ((xs.drop (i + 1)).flatMap seE).length = (xs.length - (i + 1)) * 3 := by rw [flatMap_len _ (fun x _ => EncOk.len x)]; simp
  have htk : cs.take (i * 3) = (xs.take i).flatMap seE := by rw [flatMap_take xs i ho.size, ← ht, List.take_take]; congr 1; omega
  have hrep : ∀ m : Nat, ((List.replicate m [Value.pointer none, Value.int .i64 0, Value.nilFunc]).flatten).length = m * 3 := fun m => by simp
  refine rets_of Tryz.func215 rfl Tryz.ntmps215 rfl rfl (by kernel_rfl) ?_
  ((iterate 23 (first | with_reducible apply vC_seq | with_reducible apply vC_region | with_reducible apply seqP_normal | (refine vE rfl ?_) | (refine vL_val (opv_lenc rfl) ?_) | ((with_reducible apply vL_val); (case h => ((with_reducible apply opv_slice3); exact rfl; exact rfl; exact rfl; exact rfl; (first | omega | (simp only [List.length_map]; omega)); (first | omega | (simp only [List.length_map]; omega)); (first | omega | (simp only [List.length_map]; omega)); (first | omega | (simp only [List.length_map]; omega))))) | with_reducible apply vL_nil)))
  refine vC_cond_dec rfl (fun h => by omega) (fun h => ?_)
  (apply vC_skip; apply seqP_normal; apply vC_seq; apply vC_region; (refine vE rfl ?_); (refine vL_val (opv_lenc rfl) ?_); (refine vE rfl ?_); apply vL_nil; apply seqP_normal; apply vC_seq)
  refine vC_draw' (fun _ => True) trivial ?_
  (refine tkE 0 rfl (by kernel_rfl) (by trivial) rfl ?_)
  (refine tkE 1 rfl (by kernel_rfl) (by trivial) rfl ?_)
  (refine tk 2 rfl (by kernel_rfl) (by trivial) (by intro _ _; (((apply opv_slice_hi'); exact rfl; exact rfl; (first | omega | (simp only [List.length_map]; omega)); (first | omega | (simp only [List.length_map]; omega))))) ?_)
  (refine tkE 3 rfl (by kernel_rfl) (by trivial) rfl ?_)
  (refine tkE 4 rfl (by kernel_rfl) (by trivial) rfl ?_)
  (refine tk 5 rfl (by kernel_rfl) (by trivial) (by intro _ _; (((apply opv_slice_lo'); exact rfl; exact rfl; (first | omega | (simp only [List.length_map]; omega)); (first | omega | (simp only [List.length_map]; omega))))) ?_)
  have et : ((i : Int) + 1).toNat = i + 1 := by omega
  refine tkv 6 rfl (by kernel_rfl) trivial (opw_append_room (enc := seE) (xs := xs.take i) (ys := xs.drop ((i : Int) + 1).toNat) (cs := cs) (by (exact norm_eq rfl)) (by (exact norm_eq rfl)) (by rw [hl1]; omega) (by rw [et, hl2]) hb hl (Rd.dropIf ho.rd (by omega)) (by rw [hl1, et, hl2]; omega)) ?_
  rw [et, hl1, hl2]
  (refine tkE 7 rfl (by kernel_rfl) (by trivial) rfl ?_)
  refine vA_done (by kernel_rfl) trivial ?_
  have hb2 := Blk.set (w := w.drew) (b := g) (c := cs) (T := 154) (c' := cs.take (i * 3) ++ (xs.drop (i + 1)).flatMap seE ++ cs.drop (i * 3 + (xs.length - (i + 1)) * 3)) hb
  (apply seqP_normal; apply vC_seq; apply vC_region; (iterate 2 ((refine vE rfl ?_))); (refine vL_val (opv_lenc rfl) ?_); (refine vE rfl ?_); ((apply vL_val); (case h => ((apply opv_slice_lh'); exact rfl; exact rfl; exact rfl; (first | omega | (simp only [List.length_map]; omega)); (first | omega | (simp only [List.length_map]; omega)); (first | omega | (simp only [List.length_map]; omega))))))
  apply vL_val
  (case h => (refine opw_clearN (sz := 3) (z := [Value.pointer none, Value.int .i64 0, Value.nilFunc]) (by (exact norm_eq rfl)) rfl (by decide) (by decide) hb2 ?_; rw [if_neg (by omega)]; simp only [List.length_append, List.length_take, List.length_drop, hf2]; omega))
  (apply vL_nil; apply seqP_normal; apply vC_seq; apply vC_region; (iterate 2 ((refine vE rfl ?_))); apply vL_nil; apply seqP_normal; apply vC_ret)
  (apply ret1; (case h1 => (exact norm_eq rfl)))
  refine ⟨?_, ?_, rfl, rfl⟩
  · exact Fr.set (Fr.set (Fr.drew (Fr.refl (fun k => own (Value.slice (some ⟨g, 0, none⟩) xs.length cap) = some k) w)) g _ (.inl rfl)) g _ (.inl rfl)
  · refine ⟨fun x _ => EncOk.len x, .inr ⟨g, cap, _, ?_, Blk.set hb2, ?_, hm, ?_, ?_⟩⟩
    · rw [List.length_append, hl1, hl2]
    · rw [List.length_append, hl1, hl2]; omega
    · rw [if_neg (by omega)]; simp only [List.length_append, List.length_take, List.length_drop, hrep, hf2]; omega
    · rw [if_neg (by omega)]
      have hpre : (cs.take (i * 3) ++ (xs.drop (i + 1)).flatMap seE) = (xs.take i ++ xs.drop (i + 1)).flatMap seE := by rw [List.flatMap_append, htk]
      rw [hpre]
      have hlen : (xs.take i ++ xs.drop (i + 1)).length * 3 = (i + (xs.length - (i + 1))) * 3 := by rw [List.length_append, hl1, hl2]
      rw [hlen, List.append_assoc (List.take _ _)]
      rw [show 0 + ((i + (xs.length - (i + 1)) : Nat) : Int).toNat * 3 = (i + (xs.length - (i + 1))) * 3 by omega]
      rw [List.take_append_of_le_length (l₁ := List.take _ _) (by simp only [List.length_append, List.length_take, hf1]; omega), List.take_take, Nat.min_self, List.take_left' hf1]
theorem deleteN_rcv (v : Value) (xs : List RE) (i : Nat) (w : World) (hi : i < xs.length) (ho : Own w.heap 157 2 reE v xs) :
    Rets Tryz.prog 213 #[v, .int .i64 i, .int .i64 ((i : Int) + 1)] w fun u w' => Fr (fun k => own v = some k) w w' ∧ Own w'.heap 157 2 reE u (xs.take i ++ xs.drop (i + 1)) ∧ own u = own v ∧ u.oneCell' = true := by
  have hs := ho.rd.small
  rcases ho.shape with ⟨_, rfl⟩ | ⟨g, cap, cs, rfl, hb, hn, hm, hl, ht⟩
  · simp at hi
  have hl1 : (xs.take i).length = i := by simp; omega
  have hl2 : (xs.drop (i + 1)).length = xs.length - (i + 1) := by simp
  have hm' : cap ≤ 9223372036854775807 := by unfold maxLen at hm; omega
  have hf1 : ((xs.take i ++ xs.drop (i + 1)).flatMap reE).length = (i + (xs.length - (i + 1))) * 2 := by rw [flatMap_len _ (fun x _ => EncOk.len x)]; simp; omega
  have hf2 : ((xs.drop (i + 1)).flatMap reE).length = (xs.length - (i + 1)) * 2 := by rw [flatMap_len _ (fun x _ => EncOk.len x)]; simp
  have htk : cs.take (i * 2) = (xs.take i).flatMap reE := by rw [flatMap_take xs i ho.size, ← ht, List.take_take]; congr 1; omega
  have hrep : ∀ m : Nat, ((List.replicate m [Value.pointer none, Value.nilFunc]).flatten).length = m * 2 := fun m => by simp
  refine rets_of Tryz.func213 rfl Tryz.ntmps213 rfl rfl (by kernel_rfl) ?_
  ((iterate 23 (first | with_reducible apply vC_seq | with_reducible apply vC_region | with_reducible apply seqP_normal | (refine vE rfl ?_) | (refine vL_val (opv_lenc rfl) ?_) | ((with_reducible apply vL_val); (case h => ((with_reducible apply opv_slice3); exact rfl; exact rfl; exact rfl; exact rfl; (first | omega | (simp only [List.length_map]; omega)); (first | omega | (simp only [List.length_map]; omega)); (first | omega | (simp only [List.length_map]; omega)); (first | omega | (simp only [List.length_map]; omega))))) | with_reducible apply vL_nil)))
  refine vC_cond_dec rfl (fun h => by omega) (fun h => ?_)
  (apply vC_skip; apply seqP_normal; apply vC_seq; apply vC_region; (refine vE rfl ?_); (refine vL_val (opv_lenc rfl) ?_); (refine vE rfl ?_); apply vL_nil; apply seqP_normal; apply vC_seq)
  refine vC_draw' (fun _ => True) trivial ?_
  (refine tkE 0 rfl (by kernel_rfl) (by trivial) rfl ?_)
  (refine tkE 1 rfl (by kernel_rfl) (by trivial) rfl ?_)
  (refine tk 2 rfl (by kernel_rfl) (by trivial) (by intro _ _; (((apply opv_slice_hi'); exact rfl; exact rfl; (first | omega | (simp only [List.length_map]; omega)); (first | omega | (simp only [List.length_map]; omega))))) ?_)
  (refine tkE 3 rfl (by kernel_rfl) (by trivial) rfl ?_)
  (refine tkE 4 rfl (by kernel_rfl) (by trivial) rfl ?_)
  (refine tk 5 rfl (by kernel_rfl) (by trivial) (by intro _ _; (((apply opv_slice_lo'); exact rfl; exact rfl; (first | omega | (simp only [List.length_map]; omega)); (first | omega | (simp only [List.length_map]; omega))))) ?_)
  have et : ((i : Int) + 1).toNat = i + 1 := by omega
  refine tkv 6 rfl (by kernel_rfl) trivial (opw_append_room (enc := reE) (xs := xs.take i) (ys := xs.drop ((i : Int) + 1).toNat) (cs := cs) (by (exact norm_eq rfl)) (by (exact norm_eq rfl)) (by rw [hl1]; omega) (by rw [et, hl2]) hb hl (Rd.dropIf ho.rd (by omega)) (by rw [hl1, et, hl2]; omega)) ?_
  rw [et, hl1, hl2]
  (refine tkE 7 rfl (by kernel_rfl) (by trivial) rfl ?_)
  refine vA_done (by kernel_rfl) trivial ?_
  have hb2 := Blk.set (w := w.drew) (b := g) (c := cs) (T := 157) (c' := cs.take (i * 2) ++ (xs.drop (i + 1)).flatMap reE ++ cs.drop (i * 2 + (xs.length - (i + 1)) * 2)) hb
  (apply seqP_normal; apply vC_seq; apply vC_region; (iterate 2 ((refine vE rfl ?_))); (refine vL_val (opv_lenc rfl) ?_); (refine vE rfl ?_); ((apply vL_val); (case h => ((apply opv_slice_lh'); exact rfl; exact rfl; exact rfl; (first | omega | (simp only [List.length_map]; omega)); (first | omega | (simp only [List.length_map]; omega)); (first | omega | (simp only [List.length_map]; omega))))))
  apply vL_val
  (case h => (refine opw_clearN (sz := 2) (z := [Value.pointer none, Value.nilFunc]) (by (exact norm_eq rfl)) rfl (by decide) (by decide) hb2 ?_; rw [if_neg (by omega)]; simp only [List.length_append, List.length_take, List.length_drop, hf2]; omega))
  (apply vL_nil; apply seqP_normal; apply vC_seq; apply vC_region; (iterate 2 ((refine vE rfl ?_))); apply vL_nil; apply seqP_normal; apply vC_ret)
  (apply ret1; (case h1 => (exact norm_eq rfl)))
  refine ⟨?_, ?_, rfl, rfl⟩
  · exact Fr.set (Fr.set (Fr.drew (Fr.refl (fun k => own (Value.slice (some ⟨g, 0, none⟩) xs.length cap) = some k) w)) g _ (.inl rfl)) g _ (.inl rfl)
  · refine ⟨fun x _ => EncOk.len x, .inr ⟨g, cap, _, ?_, Blk.set hb2, ?_, hm, ?_, ?_⟩⟩
    · rw [List.length_append, hl1, hl2]
    · rw [List.length_append, hl1, hl2]; omega
    · rw [if_neg (by omega)]; simp only [List.length_append, List.length_take, List.length_drop, hrep, hf2]; omega
    · rw [if_neg (by omega)]
      have hpre : (cs.take (i * 2) ++ (xs.drop (i + 1)).flatMap reE) = (xs.take i ++ xs.drop (i + 1)).flatMap reE := by rw [List.flatMap_append, htk]
      rw [hpre]
      have hlen : (xs.take i ++ xs.drop (i + 1)).length * 2 = (i + (xs.length - (i + 1))) * 2 := by rw [List.length_append, hl1, hl2]
      rw [hlen, List.append_assoc (List.take _ _)]
      rw [show 0 + ((i + (xs.length - (i + 1)) : Nat) : Int).toNat * 2 = (i + (xs.length - (i + 1))) * 2 by omega]
      rw [List.take_append_of_le_length (l₁ := List.take _ _) (by simp only [List.length_append, List.length_take, hf1]; omega), List.take_take, Nat.min_self, List.take_left' hf1]
theorem q_right_snd (b : Nat) (m : Bool) (lv : Value) (w : World) (hb : Blk w.heap b [.bool m, lv] 226) :
    Rets Tryz.prog 162 #[pt b] w fun u w' => w = w' ∧ u = .bool m := by
  refine rets_of Tryz.func162 rfl Tryz.ntmps162 rfl rfl (by kernel_rfl) ?_
  (apply vC_seq; apply vC_region; (refine vE rfl ?_); apply vL_nil; apply seqP_normal; apply vC_seq; apply vC_region; (iterate 13 (first | (refine vE rfl ?_) | ((with_reducible apply vL_val); (case h => ((with_reducible apply opv_loadb1); exact rfl; exact rfl; assumption; exact rfl))) | (refine vL_val (opv_fieldAddr rfl) ?_) | ((with_reducible apply vL_val); (case h => ((with_reducible apply opv_neq_pnil); exact rfl; exact rfl; (simp; done)))) | ((with_reducible apply vL_wanted); exact rfl))); apply vL_nil; apply seqP_normal; apply vC_ret)
  (apply ret1; (case h1 => (exact norm_eq rfl)))
  exact ⟨rfl, rfl⟩
theorem q_of0_snd (w : World) :
    Rets Tryz.prog 85 #[.slice none 0 0] w fun u w' => Fr No w w' ∧ ∃ b, u = pt b ∧ w.heap.size ≤ b ∧ Blk w'.heap b [.bool true, .slice none 0 0] 226 := by
  have hc : Rets Tryz.prog 151 #[.slice none 0 0] w fun u w' => w = w' ∧ u = .slice none 0 0 := by
    refine rets_of Tryz.func151 rfl Tryz.ntmps151 rfl rfl (by kernel_rfl) ?_
    ((iterate 18 (first | with_reducible apply vC_seq | with_reducible apply vC_region | with_reducible apply seqP_normal | ((with_reducible apply vC_cond_true); exact rfl) | (refine vE rfl ?_) | (refine vL_val (opv_eql_snil rfl rfl) ?_) | with_reducible apply vL_nil)); apply vC_ret; apply seqP_ret)
    (apply ret1; (case h1 => (exact norm_eq rfl)))
    exact ⟨rfl, rfl⟩
  refine rets_of Tryz.func85 rfl Tryz.ntmps85 rfl rfl (by kernel_rfl) ?_
  (apply vC_seq; apply vC_region; (refine vE rfl ?_); apply vL_nil; apply seqP_normal; apply vC_seq; apply vC_region; (refine vE rfl ?_))
  refine vL_callF rfl (hc) rfl ?_
  rintro _ _ ⟨rfl, rfl⟩
  (((apply vL_val); (case h => ((apply opv_buildS); exact rfl; exact (rfl : _ = some [_, _])))); (refine vL_val (opw_boxn rfl) ?_); (refine vE rfl ?_); apply vL_nil; apply seqP_normal; apply vC_ret)
  (apply ret1; (case h1 => (exact norm_eq rfl)))
  exact ⟨(Fr.refl No w).alloc _, _, rfl, Nat.le_refl _, inferInstance⟩
theorem q_len_snd (b : Nat) (lv : Value) (xs : List SE) (w : World) (hb : Blk w.heap b [.bool true, lv] 226) (ho : Own w.heap 154 3 seE lv xs) :
    Rets Tryz.prog 102 #[pt b] w fun u w' => w = w' ∧ u = .int .i64 xs.length := by
  refine rets_of Tryz.func102 rfl Tryz.ntmps102 rfl rfl (by kernel_rfl) ?_
  (apply vC_seq; apply vC_region; (refine vE rfl ?_); apply vL_nil; apply seqP_normal; (iterate 2 (apply vC_seq)); apply vC_region; (refine vE rfl ?_))
  refine vL_callF rfl (q_right_snd b true lv w hb) rfl ?_
  rintro _ _ ⟨rfl, rfl⟩
  ((refine vL_val (opv_not rfl) ?_); apply vL_nil; apply seqP_normal; ((apply vC_cond_false); exact rfl); apply vC_skip; apply seqP_normal; apply vC_seq; apply vC_region; (iterate 2 ((refine vE rfl ?_))); (refine vL_val (opv_fieldAddr rfl) ?_); ((apply vL_val); (case h => ((apply opv_loadb1); exact rfl; exact rfl; assumption; exact rfl))); ((apply vL_val); (case h => ((apply opv_len); ((conv => lhs; whnf) <;> exact rfl); infer_instance))); (refine vE rfl ?_); apply vL_nil; apply seqP_normal; apply vC_ret)
  (apply ret1; (case h1 => (exact norm_eq rfl)))
  exact ⟨rfl, rfl⟩
theorem q_at0_snd (b : Nat) (lv : Value) (xs : List SE) (w : World) (hb : Blk w.heap b [.bool true, lv] 226) (ho : Own w.heap 154 3 seE lv xs) (hone : lv.oneCell' = true) :
    Rets Tryz.prog 214 #[pt b, .int .i64 0] w fun u w' => Fr No w w' ∧ ((∃ x r, xs = x :: r ∧ u = .tuple #[.agg (seE x).toArray, .bool true]) ∨ (xs = [] ∧ u = .tuple #[.agg #[.pointer none, .int .i64 0, .nilFunc], .bool false])) := by
  refine rets_of Tryz.func214 rfl Tryz.ntmps214 rfl rfl (by kernel_rfl) ?_
  ((apply vC_seq; apply vC_region)); ((((apply vL_val); (case h => (apply opw_alloc))); (refine vE rfl ?_); apply vL_nil)); with_reducible apply seqP_normal
  (((iterate 2 (apply vC_seq)); apply vC_region))
  refine vL_gen (fun w' => Fr No w w' ∧ Blk w'.heap w.heap.size [.pointer none, .int .i64 0, .nilFunc] 154) ⟨by (apply Fr.alloc; exact Fr.refl _ _), inferInstance⟩ ?_
  rintro w1 ⟨hf1, h1⟩
  obtain ⟨b4, hb4⟩ : ∃ b4, b4 = w.heap.size := ⟨_, rfl⟩
  rw [← hb4] at h1 ⊢
  have hb1 := hb.frN hf1
  have ho1 := ho.frN hf1
  ((refine vE rfl ?_))
  refine vL_callF rfl (q_right_snd b true lv w1 hb1) rfl ?_
  rintro _ _ ⟨rfl, rfl⟩
  cases xs with
  | nil =>
    ((refine vL_val (opv_not rfl) ?_); (iterate 22 (first | (refine vE rfl ?_) | ((with_reducible apply vL_val); (case h => ((with_reducible apply opv_loadb1); exact rfl; exact rfl; assumption; exact rfl))) | (refine vL_val (opv_fieldAddr rfl) ?_) | ((with_reducible apply vL_val); (case h => ((with_reducible apply opv_len); ((conv => lhs; whnf) <;> exact rfl); infer_instance))) | ((with_reducible apply vL_wanted); exact rfl))); apply vL_nil; apply seqP_normal; ((apply vC_cond_true); exact rfl); apply vC_seq; apply vC_region; ((apply vL_val); (case h => (apply opw_alloc))); apply vL_nil; apply seqP_normal; apply vC_seq; apply vC_region; ((apply vL_val); (case h => ((apply opv_loadbC); exact rfl; exact rfl; infer_instance; exact (rfl : _ = [_, _, _]); exact rfl))); ((apply vL_skip); (case h => ((apply ops_storen); exact norm_eq rfl; exact norm_eq rfl; exact rfl; (intro u hu; simp at hu; rcases hu with rfl | rfl | rfl <;> (first | rfl | assumption)); infer_instance; (first | decide | exact of_decide_eq_true rfl | (simp; done))))); (refine vE rfl ?_); apply vL_nil; apply seqP_normal; apply vC_ret; apply seqP_ret)
    (apply retC2; (case ha => exact rfl); (case hD => exact rfl); (case hb => (infer_instance)); (case hcs => (exact (rfl : _ = [_, _, _]))); (case hl => exact rfl); (case hu => (exact norm_eq rfl)))
    exact ⟨by (((apply Fr.set); rotate_left; (right; ((try simp only [alloc_size]); omega))); apply Fr.alloc; assumption), .inr ⟨rfl, rfl⟩⟩
  | cons x r =>
    have hxi : (x :: r)[(0 : Int).toNat]? = some x := rfl
    have hlen : (0 : Int) < ((x :: r).length : Int) := by rw [List.length_cons]; omega
    ((refine vL_val (opv_not rfl) ?_); (iterate 22 (first | (refine vE rfl ?_) | ((with_reducible apply vL_val); (case h => ((with_reducible apply opv_loadb1); exact rfl; exact rfl; assumption; exact rfl))) | (refine vL_val (opv_fieldAddr rfl) ?_) | ((with_reducible apply vL_val); (case h => ((with_reducible apply opv_len); ((conv => lhs; whnf) <;> exact rfl); infer_instance))) | ((with_reducible apply vL_wanted); exact rfl))); apply vL_nil; apply seqP_normal; ((apply vC_cond_false); exact rfl); apply vC_skip; apply seqP_normal; apply vC_seq; apply vC_region; (iterate 2 ((refine vE rfl ?_))); (refine vL_val (opv_fieldAddr rfl) ?_); ((apply vL_val); (case h => ((apply opv_loadb1); exact rfl; exact rfl; assumption; exact rfl))); (refine vE rfl ?_); ((apply vL_val); (case h => ((apply opv_indexAddr); ((conv => lhs; whnf) <;> exact rfl); exact rfl; infer_instance; (first | omega | (simp only [List.length_map]; omega)); (first | omega | (simp only [List.length_map]; omega))))); ((apply vL_val); (case h => ((apply opv_ld_eln); exact rfl; exact rfl; infer_instance; assumption))); ((apply vL_skip); (case h => ((apply ops_storen); exact norm_eq rfl; exact norm_eq rfl; exact rfl; exact (fun u hu => EncOk.one _ u hu); assumption; (first | decide | exact of_decide_eq_true rfl | (simp; done))))); (refine vE rfl ?_); apply vL_nil; apply seqP_normal; apply vC_ret)
    (apply retC2; (case ha => exact rfl); (case hD => exact rfl); (case hb => (infer_instance)); (case hcs => (exact (rfl : _ = [_, _, _]))); (case hl => exact rfl); (case hu => (exact norm_eq rfl)))
    exact ⟨by (((apply Fr.set); rotate_left; (right; ((try simp only [alloc_size]); omega))); assumption), .inl ⟨x, r, rfl, rfl⟩⟩
theorem q_take0_snd (b : Nat) (lv : Value) (xs : List SE) (w : World) (hb : Blk w.heap b [.bool true, lv] 226) (ho : Own w.heap 154 3 seE lv xs) (hone : lv.oneCell' = true) :
    Rets Tryz.prog 176 #[pt b, .int .i64 0] w fun u w' => ∃ lv' xs', Fr (fun k => k = b ∨ own lv = some k) w w' ∧ Blk w'.heap b [.bool true, lv'] 226 ∧ Own w'.heap 154 3 seE lv' xs' ∧ own lv' = own lv ∧ lv'.oneCell' = true ∧
      ((∃ x, xs = x :: xs' ∧ u = .tuple #[.agg (seE x).toArray, .bool true]) ∨ (xs = [] ∧ xs' = [] ∧ u = .tuple #[.agg #[.pointer none, .int .i64 0, .nilFunc], .bool false])) := by
  have hs := ho.rd.small
  have hol := ho.lt
  refine rets_of Tryz.func176 rfl Tryz.ntmps176 rfl rfl (by kernel_rfl) ?_
  ((apply vC_seq; apply vC_region)); ((((apply vL_val); (case h => (apply opw_alloc))); (refine vE rfl ?_); apply vL_nil)); with_reducible apply seqP_normal
  ((apply vC_seq; apply vC_region))
  refine vL_gen (fun w' => Fr No w w' ∧ Blk w'.heap w.heap.size [.pointer none, .int .i64 0, .nilFunc] 154) ⟨by (apply Fr.alloc; exact Fr.refl _ _), inferInstance⟩ ?_
  rintro w1 ⟨hf1, h1⟩
  obtain ⟨b4, hb4⟩ : ∃ b4, b4 = w.heap.size := ⟨_, rfl⟩
  rw [← hb4] at h1 ⊢
  have hb1 := hb.frN hf1
  have ho1 := ho.frN hf1
  ((iterate 2 ((refine vE rfl ?_))))
  refine vL_callF rfl (q_at0_snd b lv xs w1 hb1 ho1 hone) rfl ?_
  rintro _ w2 ⟨hf2, ⟨x, r, rfl, rfl⟩ | ⟨rfl, rfl⟩⟩
  · have hxf := x.f.2
    have hb2 := hb1.frN hf2
    have ho2 := ho1.frN hf2
    have h2 := h1.frN hf2
    have hfw2 := hf1.trans hf2
    (((iterate 3 ((refine vE rfl ?_))); ((apply vL_val); (case h => (apply opw_alloc))); ((apply vL_skip); (case h => ((apply ops_storen); exact norm_eq rfl; exact norm_eq rfl; exact rfl; exact (fun u hu => EncOk.one _ u hu); infer_instance; (first | decide | exact of_decide_eq_true rfl | (simp; done))))); (refine vE rfl ?_); apply vL_nil)); with_reducible apply seqP_normal
    (((iterate 2 (apply vC_seq)); apply vC_region))
    refine vL_gen (fun w' => Fr No w2 w' ∧ Blk w'.heap w2.heap.size (seE x) 154) ⟨by (apply Fr.allocSet; exact Fr.refl _ _), Blk.as inferInstance rfl⟩ ?_
    rintro w3 ⟨hf3, h3⟩
    have hb3 := hb2.frN hf3
    have ho3 := ho2.frN hf3
    have h43 := h2.frN hf3
    have hfw3 := hfw2.trans hf3
    have hsz2 := hfw2.size
    generalize w2.heap.size = b6 at h3 hsz2 ⊢
    have hne : own lv ≠ some b := Own.ne_blk ho3 hb3 (by decide)
    ((refine vE rfl ?_); apply vL_nil; apply seqP_normal; ((apply vC_cond_true); exact rfl); apply vC_region; (iterate 3 ((refine vE rfl ?_))); (refine vL_val (opv_fieldAddr rfl) ?_); ((apply vL_val); (case h => ((apply opv_loadb1); exact rfl; exact rfl; assumption; exact rfl))); (iterate 2 ((refine vE rfl ?_))); ((apply vL_val); (case h => ((apply opv_add); exact rfl; exact rfl; (first | omega | (simp only [List.length_map]; omega))))))
    refine vL_callF rfl (deleteN_snd lv (x :: r) 0 w3 (by simp) ho3) rfl ?_
    rintro v' w4 ⟨hf4, ho4, hown, hone4⟩
    have hb4' : Blk w4.heap b [.bool true, lv] 226 := Blk.fr hf4 hb3 hne
    have h44 := h43.fr hf4 (fun h => by have := hol _ h; omega)
    have h64 := h3.fr hf4 (fun h => by have := hol _ h; omega)
    have hne4 : own v' ≠ some b := by rw [hown]; exact hne
    haveI : OffB v' b := ⟨hne4⟩
    have nb4 : b4 ≠ b := by have := hb.lt; omega
    haveI n1 : NeB b4 b := ⟨nb4⟩
    haveI n2 : NeB b6 b := ⟨Blk.ne_type h64 hb4' (by decide)⟩
    ((refine vE rfl ?_); (refine vL_val (opv_fieldAddr rfl) ?_); ((apply vL_skip); (case h => ((apply ops_store1); exact norm_eq rfl; ((conv => lhs; whnf) <;> exact rfl); (first | rfl | assumption); assumption; (first | decide | exact of_decide_eq_true rfl | (simp; done))))); apply vL_nil; apply seqP_normal; apply vC_seq; apply vC_region; ((apply vL_val); (case h => ((apply opv_loadbC); exact rfl; exact rfl; infer_instance; exact (rfl : _ = [_, _, _]); exact rfl))); (refine vE rfl ?_); ((apply vL_skip); (case h => ((apply ops_storen); exact norm_eq rfl; exact norm_eq rfl; exact rfl; (intro u hu; simp at hu; rcases hu with rfl | rfl | rfl <;> (first | rfl | assumption)); infer_instance; (first | decide | exact of_decide_eq_true rfl | (simp; done))))); (refine vE rfl ?_); apply vL_nil; apply seqP_normal; apply vC_ret)
    (apply retC2; (case ha => exact rfl); (case hD => exact rfl); (case hb => exact Blk.set (h44.set_ne nb4)); (case hcs => exact (rfl : _ = seE x)); (case hl => exact rfl); (case hu => (exact norm_eq rfl)))
    refine ⟨v', r, ((hfw3.no_any.trans (hf4.mono (fun k _ h => .inr h))).set _ _ (.inl (.inl rfl))).set _ _ (.inr (by omega)), ?_, ?_, hown, hone4, .inl ⟨x, rfl, rfl⟩⟩
    · exact (Blk.set hb4').set_ne (Ne.symm nb4)
    · exact (ho4.set hne4).set (fun h => by rw [hown] at h; have := hol _ h; omega)
  · have hb2 := hb1.frN hf2
    have ho2 := ho1.frN hf2
    have h2 := h1.frN hf2
    have hfw2 := hf1.trans hf2
    (((iterate 3 ((refine vE rfl ?_))); ((apply vL_val); (case h => (apply opw_alloc))); ((apply vL_skip); (case h => ((apply ops_storen); exact norm_eq rfl; exact norm_eq rfl; exact rfl; (intro u hu; simp at hu; rcases hu with rfl | rfl | rfl <;> (first | rfl | assumption)); infer_instance; (first | decide | exact of_decide_eq_true rfl | (simp; done))))); (refine vE rfl ?_); apply vL_nil)); with_reducible apply seqP_normal
    (((iterate 2 (apply vC_seq)); apply vC_region))
    refine vL_gen (fun w' => Fr No w2 w' ∧ Blk w'.heap w2.heap.size [.pointer none, .int .i64 0, .nilFunc] 154) ⟨by (apply Fr.allocSet; exact Fr.refl _ _), Blk.as inferInstance rfl⟩ ?_
    rintro w3 ⟨hf3, h3⟩
    have hb3 := hb2.frN hf3
    have ho3 := ho2.frN hf3
    have h43 := h2.frN hf3
    have hfw3 := hfw2.trans hf3
    generalize w2.heap.size = b6 at h3 ⊢
    have nb4 : b4 ≠ b := by have := hb.lt; omega
    ((refine vE rfl ?_); apply vL_nil; apply seqP_normal; ((apply vC_cond_false); exact rfl); apply vC_skip; apply seqP_normal; apply vC_seq; apply vC_region; ((apply vL_val); (case h => ((apply opv_loadbC); exact rfl; exact rfl; assumption; exact (rfl : _ = [_, _, _]); exact rfl))); (refine vE rfl ?_); ((apply vL_skip); (case h => ((apply ops_storen); exact norm_eq rfl; exact norm_eq rfl; exact rfl; (intro u hu; simp at hu; rcases hu with rfl | rfl | rfl <;> (first | rfl | assumption)); assumption; (first | decide | exact of_decide_eq_true rfl | (simp; done))))); (refine vE rfl ?_); apply vL_nil; apply seqP_normal; apply vC_ret)
    (apply retC2; (case ha => exact rfl); (case hD => exact rfl); (case hb => (infer_instance)); (case hcs => (exact (rfl : _ = [_, _, _]))); (case hl => exact rfl); (case hu => (exact norm_eq rfl)))
    exact ⟨lv, [], hfw3.no_any.set _ _ (.inr (by omega)), hb3.set_ne (Ne.symm nb4), ho3.set (fun h => by have := hol _ h; omega), rfl, hone, .inr ⟨rfl, rfl, rfl⟩⟩
theorem q_pop_snd (b : Nat) (lv : Value) (xs : List SE) (w : World) (hb : Blk w.heap b [.bool true, lv] 226) (ho : Own w.heap 154 3 seE lv xs) (hone : lv.oneCell' = true) :
    Rets Tryz.prog 111 #[pt b] w fun u w' => ∃ lv' xs', Fr (fun k => k = b ∨ own lv = some k) w w' ∧ Blk w'.heap b [.bool true, lv'] 226 ∧ Own w'.heap 154 3 seE lv' xs' ∧ own lv' = own lv ∧ lv'.oneCell' = true ∧
      ((∃ x, xs = x :: xs' ∧ u = .tuple #[.agg (seE x).toArray, .bool true]) ∨ (xs = [] ∧ xs' = [] ∧ u = .tuple #[.agg #[.pointer none, .int .i64 0, .nilFunc], .bool false])) := by
  have hol := ho.lt
  refine rets_of Tryz.func111 rfl Tryz.ntmps111 rfl rfl (by kernel_rfl) ?_
  ((apply vC_seq; apply vC_region)); ((((apply vL_val); (case h => (apply opw_alloc))); (refine vE rfl ?_); apply vL_nil)); with_reducible apply seqP_normal
  ((apply vC_seq; apply vC_region))
  refine vL_gen (fun w' => Fr No w w' ∧ Blk w'.heap w.heap.size [.pointer none, .int .i64 0, .nilFunc] 154) ⟨by (apply Fr.alloc; exact Fr.refl _ _), inferInstance⟩ ?_
  rintro w1 ⟨hf1, h1⟩
  obtain ⟨b4, hb4⟩ : ∃ b4, b4 = w.heap.size := ⟨_, rfl⟩
  rw [← hb4] at h1 ⊢
  have hb1 := hb.frN hf1
  have ho1 := ho.frN hf1
  ((refine vE rfl ?_))
  refine vL_callF rfl (q_take0_snd b lv xs w1 hb1 ho1 hone) rfl ?_
  have nb4 : b4 ≠ b := by have := hb.lt; omega
  rintro _ w2 ⟨lv', xs', hf2, hb2, ho2, hown, hone2, ⟨x, rfl, rfl⟩ | ⟨rfl, rfl, rfl⟩⟩
  · have hxf := x.f.2
    have h2 := h1.fr hf2 (fun h => by rcases h with h | h; exact nb4 h; have := hol _ h; omega)
    ((iterate 2 ((refine vE rfl ?_))); ((apply vL_skip); (case h => ((apply ops_storen); exact norm_eq rfl; exact norm_eq rfl; exact rfl; exact (fun u hu => EncOk.one _ u hu); assumption; (first | decide | exact of_decide_eq_true rfl | (simp; done))))); (refine vE rfl ?_); apply vL_nil; apply seqP_normal; apply vC_ret)
    (apply retC2; (case ha => exact rfl); (case hD => exact rfl); (case hb => exact Blk.set h2); (case hcs => exact (rfl : _ = seE x)); (case hl => exact rfl); (case hu => (exact norm_eq rfl)))
    exact ⟨lv', xs', (hf1.no_any.trans hf2).set _ _ (.inr (by omega)), hb2.set_ne (Ne.symm nb4), ho2.set (fun h => by rw [hown] at h; have := hol _ h; omega), hown, hone2, .inl ⟨x, rfl, rfl⟩⟩
  · have h2 := h1.fr hf2 (fun h => by rcases h with h | h; exact nb4 h; have := hol _ h; omega)
    ((iterate 2 ((refine vE rfl ?_))); ((apply vL_skip); (case h => ((apply ops_storen); exact norm_eq rfl; exact norm_eq rfl; exact rfl; (intro u hu; simp at hu; rcases hu with rfl | rfl | rfl <;> (first | rfl | assumption)); assumption; (first | decide | exact of_decide_eq_true rfl | (simp; done))))); (refine vE rfl ?_); apply vL_nil; apply seqP_normal; apply vC_ret)
    (apply retC2; (case ha => exact rfl); (case hD => exact rfl); (case hb => (infer_instance)); (case hcs => (exact (rfl : _ = [_, _, _]))); (case hl => exact rfl); (case hu => (exact norm_eq rfl)))
    exact ⟨lv', [], (hf1.no_any.trans hf2).set _ _ (.inr (by omega)), hb2.set_ne (Ne.symm nb4), ho2.set (fun h => by rw [hown] at h; have := hol _ h; omega), hown, hone2, .inr ⟨rfl, rfl, rfl⟩⟩
theorem q_push_snd (b : Nat) (lv : Value) (x : SE) (xs : List SE) (w : World) (hb : Blk w.heap b [.bool true, lv] 226) (ho : Own w.heap 154 3 seE lv xs) (hbig : (xs.length + 1) * 24 ≤ 140737488355328) :
    Rets Tryz.prog 117 #[pt b, .agg (seE x).toArray] w fun u w' => ∃ lv', Fr (fun k => k = b ∨ own lv = some k) w w' ∧ Blk w'.heap b [.bool true, lv'] 226 ∧ Own w'.heap 154 3 seE lv' (xs ++ [x]) ∧ (∀ k, own lv' = some k → own lv = some k ∨ w.heap.size ≤ k) ∧ lv'.oneCell' = true := by
  have hol := ho.lt
  have hxf := x.f.2
  refine rets_of Tryz.func117 rfl Tryz.ntmps117 rfl rfl (by kernel_rfl) ?_
  ((apply vC_seq; apply vC_region)); (((refine vL_val (opw_boxn rfl) ?_); apply vL_nil)); with_reducible apply seqP_normal
  ((apply vC_seq; apply vC_region))
  refine vL_gen (fun w' => Fr No w w' ∧ Blk w'.heap w.heap.size (seE x) 154) ⟨by (apply Fr.alloc; exact Fr.refl _ _), Blk.as inferInstance rfl⟩ ?_
  rintro w1 ⟨hf1, h1⟩
  obtain ⟨b3, hb3⟩ : ∃ b3, b3 = w.heap.size := ⟨_, rfl⟩
  rw [← hb3] at h1 ⊢
  have hb1 := hb.frN hf1
  have ho1 := ho.frN hf1
  have nb3 : b3 ≠ b := by have := hb.lt; omega
  ((refine vE rfl ?_))
  refine vL_callF rfl (q_right_snd b true lv w1 hb1) rfl ?_
  rintro _ _ ⟨rfl, rfl⟩
  (apply vL_nil; apply seqP_normal; ((apply vC_cond_true); exact rfl))
  refine vC_draw' ((fun wf => Blk wf.heap b3 (seE x) 154)) (by first | assumption | infer_instance) ?_
  (refine tkE 0 rfl (by kernel_rfl) (by first | assumption | infer_instance) rfl ?_)
  (refine tkE 1 rfl (by kernel_rfl) (by first | assumption | infer_instance) rfl ?_)
  (refine tkE 2 rfl (by kernel_rfl) (by first | assumption | infer_instance) rfl ?_)
  (refine tk 3 rfl (by kernel_rfl) (by first | assumption | infer_instance) (by intro wf hwf; (try dsimp only at hwf); (((apply opv_fieldAddr); exact rfl))) ?_)
  (refine tk 5 rfl (by kernel_rfl) (by first | assumption | infer_instance) (by intro wf hwf; (try dsimp only at hwf); (((apply opv_loadbC); exact rfl; exact rfl; assumption; exact (rfl : _ = [_, _, _]); exact rfl))) ?_)
  have hb1d := hb1.frN (Fr.refl No w1).drew
  have ho1d := ho1.frN (Fr.refl No w1).drew
  have hf1d := hf1.drew
  refine vA_two 4 6 rfl rfl (by kernel_rfl) (by first | assumption | infer_instance) (fun K hK => ?_) (fun K hK => ?_)
  · (((apply vL_val); (case h => ((apply opv_loadb1); exact rfl; exact rfl; assumption; exact rfl))); apply vL_nil)
    refine ⟨rfl, hK _ _ ?_⟩
    refine vA_only 6 rfl (by kernel_rfl) (by first | assumption | infer_instance) (fun K hK => ?_)
    (((apply vL_val); (case h => ((apply opw_buildSl); exact rfl; exact rfl; exact rfl; exact (rfl : _ = some [_, _, _])))); apply vL_nil)
    refine ⟨rfl, hK _ _ ?_⟩
    refine vA_only 7 rfl (by kernel_rfl) (by first | assumption | infer_instance) (fun K hK => ?_)
    refine vL_append (enc := seE) (xs := xs) (ys := [x]) (T := 154) (sz := 3) (by (((conv => lhs; whnf) <;> exact rfl))) (by (exact norm_eq rfl)) (Own.alloc ho1d) (Rd.new1 _ _ rfl) rfl (by decide) ?_ ?_ ?_
    · simp [maxLen]; omega
    · simp; omega
    intro v' w2 ho2 hf2 hfr2 hone2 _
    have hfa : Fr (fun j => own lv = some j) w1.drew w2 := ((Fr.refl _ w1.drew).alloc _).trans' hf2 (fun i hi => .inl hi)
    have hne : own lv ≠ some b := Own.ne_blk ho hb (by decide)
    have hb2 : Blk w2.heap b [.bool true, lv] 226 := Blk.fr hfa hb1d hne
    have hne2 : own v' ≠ some b := Own.ne_blk ho2 hb2 (by decide)
    have h12 : Blk w2.heap b3 (seE x) 154 := (h1.frN (Fr.refl No w1).drew).fr hfa (fun h => by have := hol _ h; omega)
    haveI : NeB b3 b := ⟨nb3⟩
    have hone2' := hone2
    refine vL_nil ⟨rfl, hK _ _ ?_⟩
    (refine tkE 8 rfl (by kernel_rfl) (by first | assumption | infer_instance) rfl ?_)
    (refine tk 9 rfl (by kernel_rfl) (by first | assumption | infer_instance) (by intro wf hwf; (try dsimp only at hwf); (((apply opv_fieldAddr); exact rfl))) ?_)
    refine vA_only 10 rfl (by kernel_rfl) (by first | assumption | infer_instance) (fun K hK => ?_)
    (((apply vL_skip); (case h => ((apply ops_store1); exact norm_eq rfl; ((conv => lhs; whnf) <;> exact rfl); (first | rfl | assumption); assumption; (first | decide | exact of_decide_eq_true rfl | (simp; done))))); apply vL_nil)
    refine ⟨rfl, hK _ _ ?_⟩
    refine vA_done (by kernel_rfl) (by first | assumption | infer_instance) ?_
    skip
    (first | apply ret0 | apply ret0n)
    refine ⟨v', ?_, inferInstance, ho2.set hne2, fun k hk => ?_, hone2⟩
    · exact ((hf1d.no_any.trans (hfa.mono (fun k _ h => .inr h)))).set _ _ (.inl (.inl rfl))
    · rcases hfr2 k hk with h | h
      · exact .inl h
      · rw [alloc_size] at h; exact .inr (by have := hf1.size; have h2 : w1.drew.heap.size = w1.heap.size := rfl; omega)
  · (((apply vL_val); (case h => ((apply opw_buildSl); exact rfl; exact rfl; exact rfl; exact (rfl : _ = some [_, _, _])))); apply vL_nil)
    refine ⟨rfl, hK _ _ ?_⟩
    refine vA_only 4 rfl (by kernel_rfl) (by first | assumption | infer_instance) (fun K hK => ?_)
    (((apply vL_val); (case h => ((apply opv_loadb1); exact rfl; exact rfl; infer_instance; exact rfl))); apply vL_nil)
    refine ⟨rfl, hK _ _ ?_⟩
    refine vA_only 7 rfl (by kernel_rfl) (by first | assumption | infer_instance) (fun K hK => ?_)
    refine vL_append (enc := seE) (xs := xs) (ys := [x]) (T := 154) (sz := 3) (by (((conv => lhs; whnf) <;> exact rfl))) (by (exact norm_eq rfl)) (Own.alloc ho1d) (Rd.new1 _ _ rfl) rfl (by decide) ?_ ?_ ?_
    · simp [maxLen]; omega
    · simp; omega
    intro v' w2 ho2 hf2 hfr2 hone2 _
    have hfa : Fr (fun j => own lv = some j) w1.drew w2 := ((Fr.refl _ w1.drew).alloc _).trans' hf2 (fun i hi => .inl hi)
    have hne : own lv ≠ some b := Own.ne_blk ho hb (by decide)
    have hb2 : Blk w2.heap b [.bool true, lv] 226 := Blk.fr hfa hb1d hne
    have hne2 : own v' ≠ some b := Own.ne_blk ho2 hb2 (by decide)
    have h12 : Blk w2.heap b3 (seE x) 154 := (h1.frN (Fr.refl No w1).drew).fr hfa (fun h => by have := hol _ h; omega)
    haveI : NeB b3 b := ⟨nb3⟩
    have hone2' := hone2
    refine vL_nil ⟨rfl, hK _ _ ?_⟩
    (refine tkE 8 rfl (by kernel_rfl) (by first | assumption | infer_instance) rfl ?_)
    (refine tk 9 rfl (by kernel_rfl) (by first | assumption | infer_instance) (by intro wf hwf; (try dsimp only at hwf); (((apply opv_fieldAddr); exact rfl))) ?_)
    refine vA_only 10 rfl (by kernel_rfl) (by first | assumption | infer_instance) (fun K hK => ?_)
    (((apply vL_skip); (case h => ((apply ops_store1); exact norm_eq rfl; ((conv => lhs; whnf) <;> exact rfl); (first | rfl | assumption); assumption; (first | decide | exact of_decide_eq_true rfl | (simp; done))))); apply vL_nil)
    refine ⟨rfl, hK _ _ ?_⟩
    refine vA_done (by kernel_rfl) (by first | assumption | infer_instance) ?_
    skip
    (first | apply ret0 | apply ret0n)
    refine ⟨v', ?_, inferInstance, ho2.set hne2, fun k hk => ?_, hone2⟩
    · exact ((hf1d.no_any.trans (hfa.mono (fun k _ h => .inr h)))).set _ _ (.inl (.inl rfl))
    · rcases hfr2 k hk with h | h
      · exact .inl h
      · rw [alloc_size] at h; exact .inr (by have := hf1.size; have h2 : w1.drew.heap.size = w1.heap.size := rfl; omega)
theorem q_right_rcv (b : Nat) (m : Bool) (lv : Value) (w : World) (hb : Blk w.heap b [.bool m, lv] 229) :
    Rets Tryz.prog 163 #[pt b] w fun u w' => w = w' ∧ u = .bool m := by
  refine rets_of Tryz.func163 rfl Tryz.ntmps163 rfl rfl (by kernel_rfl) ?_
  (apply vC_seq; apply vC_region; (refine vE rfl ?_); apply vL_nil; apply seqP_normal; apply vC_seq; apply vC_region; (iterate 13 (first | (refine vE rfl ?_) | ((with_reducible apply vL_val); (case h => ((with_reducible apply opv_loadb1); exact rfl; exact rfl; assumption; exact rfl))) | (refine vL_val (opv_fieldAddr rfl) ?_) | ((with_reducible apply vL_val); (case h => ((with_reducible apply opv_neq_pnil); exact rfl; exact rfl; (simp; done)))) | ((with_reducible apply vL_wanted); exact rfl))); apply vL_nil; apply seqP_normal; apply vC_ret)
  (apply ret1; (case h1 => (exact norm_eq rfl)))
  exact ⟨rfl, rfl⟩
theorem q_of0_rcv (w : World) :
    Rets Tryz.prog 86 #[.slice none 0 0] w fun u w' => Fr No w w' ∧ ∃ b, u = pt b ∧ w.heap.size ≤ b ∧ Blk w'.heap b [.bool true, .slice none 0 0] 229 := by
  have hc : Rets Tryz.prog 152 #[.slice none 0 0] w fun u w' => w = w' ∧ u = .slice none 0 0 := by
    refine rets_of Tryz.func152 rfl Tryz.ntmps152 rfl rfl (by kernel_rfl) ?_
    ((iterate 18 (first | with_reducible apply vC_seq | with_reducible apply vC_region | with_reducible apply seqP_normal | ((with_reducible apply vC_cond_true); exact rfl) | (refine vE rfl ?_) | (refine vL_val (opv_eql_snil rfl rfl) ?_) | with_reducible apply vL_nil)); apply vC_ret; apply seqP_ret)
    (apply ret1; (case h1 => (exact norm_eq rfl)))
    exact ⟨rfl, rfl⟩
  refine rets_of Tryz.func86 rfl Tryz.ntmps86 rfl rfl (by kernel_rfl) ?_
  (apply vC_seq; apply vC_region; (refine vE rfl ?_); apply vL_nil; apply seqP_normal; apply vC_seq; apply vC_region; (refine vE rfl ?_))
  refine vL_callF rfl (hc) rfl ?_
  rintro _ _ ⟨rfl, rfl⟩
  (((apply vL_val); (case h => ((apply opv_buildS); exact rfl; exact (rfl : _ = some [_, _])))); (refine vL_val (opw_boxn rfl) ?_); (refine vE rfl ?_); apply vL_nil; apply seqP_normal; apply vC_ret)
  (apply ret1; (case h1 => (exact norm_eq rfl)))
  exact ⟨(Fr.refl No w).alloc _, _, rfl, Nat.le_refl _, inferInstance⟩
theorem q_len_rcv (b : Nat) (lv : Value) (xs : List RE) (w : World) (hb : Blk w.heap b [.bool true, lv] 229) (ho : Own w.heap 157 2 reE lv xs) :
    Rets Tryz.prog 103 #[pt b] w fun u w' => w = w' ∧ u = .int .i64 xs.length := by
  refine rets_of Tryz.func103 rfl Tryz.ntmps103 rfl rfl (by kernel_rfl) ?_
  (apply vC_seq; apply vC_region; (refine vE rfl ?_); apply vL_nil; apply seqP_normal; (iterate 2 (apply vC_seq)); apply vC_region; (refine vE rfl ?_))
  refine vL_callF rfl (q_right_rcv b true lv w hb) rfl ?_
  rintro _ _ ⟨rfl, rfl⟩
  ((refine vL_val (opv_not rfl) ?_); apply vL_nil; apply seqP_normal; ((apply vC_cond_false); exact rfl); apply vC_skip; apply seqP_normal; apply vC_seq; apply vC_region; (iterate 2 ((refine vE rfl ?_))); (refine vL_val (opv_fieldAddr rfl) ?_); ((apply vL_val); (case h => ((apply opv_loadb1); exact rfl; exact rfl; assumption; exact rfl))); ((apply vL_val); (case h => ((apply opv_len); ((conv => lhs; whnf) <;> exact rfl); infer_instance))); (refine vE rfl ?_); apply vL_nil; apply seqP_normal; apply vC_ret)
  (apply ret1; (case h1 => (exact norm_eq rfl)))
  exact ⟨rfl, rfl⟩
theorem q_at0_rcv (b : Nat) (lv : Value) (xs : List RE) (w : World) (hb : Blk w.heap b [.bool true, lv] 229) (ho : Own w.heap 157 2 reE lv xs) (hone : lv.oneCell' = true) :
    Rets Tryz.prog 212 #[pt b, .int .i64 0] w fun u w' => Fr No w w' ∧ ((∃ x r, xs = x :: r ∧ u = .tuple #[.agg (reE x).toArray, .bool true]) ∨ (xs = [] ∧ u = .tuple #[.agg #[.pointer none, .nilFunc], .bool false])) := by
  refine rets_of Tryz.func212 rfl Tryz.ntmps212 rfl rfl (by kernel_rfl) ?_
  ((apply vC_seq; apply vC_region)); ((((apply vL_val); (case h => (apply opw_alloc))); (refine vE rfl ?_); apply vL_nil)); with_reducible apply seqP_normal
  (((iterate 2 (apply vC_seq)); apply vC_region))
  refine vL_gen (fun w' => Fr No w w' ∧ Blk w'.heap w.heap.size [.pointer none, .nilFunc] 157) ⟨by (apply Fr.alloc; exact Fr.refl _ _), inferInstance⟩ ?_
  rintro w1 ⟨hf1, h1⟩
  obtain ⟨b4, hb4⟩ : ∃ b4, b4 = w.heap.size := ⟨_, rfl⟩
  rw [← hb4] at h1 ⊢
  have hb1 := hb.frN hf1
  have ho1 := ho.frN hf1
  ((refine vE rfl ?_))
  refine vL_callF rfl (q_right_rcv b true lv w1 hb1) rfl ?_
  rintro _ _ ⟨rfl, rfl⟩
  cases xs with
  | nil =>
    ((refine vL_val (opv_not rfl) ?_); (iterate 22 (first | (refine vE rfl ?_) | ((with_reducible apply vL_val); (case h => ((with_reducible apply opv_loadb1); exact rfl; exact rfl; assumption; exact rfl))) | (refine vL_val (opv_fieldAddr rfl) ?_) | ((with_reducible apply vL_val); (case h => ((with_reducible apply opv_len); ((conv => lhs; whnf) <;> exact rfl); infer_instance))) | ((with_reducible apply vL_wanted); exact rfl))); apply vL_nil; apply seqP_normal; ((apply vC_cond_true); exact rfl); apply vC_seq; apply vC_region; ((apply vL_val); (case h => (apply opw_alloc))); apply vL_nil; apply seqP_normal; apply vC_seq; apply vC_region; ((apply vL_val); (case h => ((apply opv_loadbC); exact rfl; exact rfl; infer_instance; exact (rfl : _ = [_, _]); exact rfl))); ((apply vL_skip); (case h => ((apply ops_storen); exact norm_eq rfl; exact norm_eq rfl; exact rfl; (intro u hu; simp at hu; rcases hu with rfl | rfl <;> (first | rfl | assumption)); infer_instance; (first | decide | exact of_decide_eq_true rfl | (simp; done))))); (refine vE rfl ?_); apply vL_nil; apply seqP_normal; apply vC_ret; apply seqP_ret)
    (apply retC2; (case ha => exact rfl); (case hD => exact rfl); (case hb => (infer_instance)); (case hcs => (exact (rfl : _ = [_, _]))); (case hl => exact rfl); (case hu => (exact norm_eq rfl)))
    exact ⟨by (((apply Fr.set); rotate_left; (right; ((try simp only [alloc_size]); omega))); apply Fr.alloc; assumption), .inr ⟨rfl, rfl⟩⟩
  | cons x r =>
    have hxi : (x :: r)[(0 : Int).toNat]? = some x := rfl
    have hlen : (0 : Int) < ((x :: r).length : Int) := by rw [List.length_cons]; omega
    ((refine vL_val (opv_not rfl) ?_); (iterate 22 (first | (refine vE rfl ?_) | ((with_reducible apply vL_val); (case h => ((with_reducible apply opv_loadb1); exact rfl; exact rfl; assumption; exact rfl))) | (refine vL_val (opv_fieldAddr rfl) ?_) | ((with_reducible apply vL_val); (case h => ((with_reducible apply opv_len); ((conv => lhs; whnf) <;> exact rfl); infer_instance))) | ((with_reducible apply vL_wanted); exact rfl))); apply vL_nil; apply seqP_normal; ((apply vC_cond_false); exact rfl); apply vC_skip; apply seqP_normal; apply vC_seq; apply vC_region; (iterate 2 ((refine vE rfl ?_))); (refine vL_val (opv_fieldAddr rfl) ?_); ((apply vL_val); (case h => ((apply opv_loadb1); exact rfl; exact rfl; assumption; exact rfl))); (refine vE rfl ?_); ((apply vL_val); (case h => ((apply opv_indexAddr); ((conv => lhs; whnf) <;> exact rfl); exact rfl; infer_instance; (first | omega | (simp only [List.length_map]; omega)); (first | omega | (simp only [List.length_map]; omega))))); ((apply vL_val); (case h => ((apply opv_ld_eln); exact rfl; exact rfl; infer_instance; assumption))); ((apply vL_skip); (case h => ((apply ops_storen); exact norm_eq rfl; exact norm_eq rfl; exact rfl; exact (fun u hu => EncOk.one _ u hu); assumption; (first | decide | exact of_decide_eq_true rfl | (simp; done))))); (refine vE rfl ?_); apply vL_nil; apply seqP_normal; apply vC_ret)
    (apply retC2; (case ha => exact rfl); (case hD => exact rfl); (case hb => (infer_instance)); (case hcs => (exact (rfl : _ = [_, _]))); (case hl => exact rfl); (case hu => (exact norm_eq rfl)))
    exact ⟨by (((apply Fr.set); rotate_left; (right; ((try simp only [alloc_size]); omega))); assumption), .inl ⟨x, r, rfl, rfl⟩⟩
theorem q_take0_rcv (b : Nat) (lv : Value) (xs : List RE) (w : World) (hb : Blk w.heap b [.bool true, lv] 229) (ho : Own w.heap 157 2 reE lv xs) (hone : lv.oneCell' = true) :
    Rets Tryz.prog 175 #[pt b, .int .i64 0] w fun u w' => ∃ lv' xs', Fr (fun k => k = b ∨ own lv = some k) w w' ∧ Blk w'.heap b [.bool true, lv'] 229 ∧ Own w'.heap 157 2 reE lv' xs' ∧ own lv' = own lv ∧ lv'.oneCell' = true ∧
      ((∃ x, xs = x :: xs' ∧ u = .tuple #[.agg (reE x).toArray, .bool true]) ∨ (xs = [] ∧ xs' = [] ∧ u = .tuple #[.agg #[.pointer none, .nilFunc], .bool false])) := by
  have hs := ho.rd.small
  have hol := ho.lt
  refine rets_of Tryz.func175 rfl Tryz.ntmps175 rfl rfl (by kernel_rfl) ?_
  ((apply vC_seq; apply vC_region)); ((((apply vL_val); (case h => (apply opw_alloc))); (refine vE rfl ?_); apply vL_nil)); with_reducible apply seqP_normal
  ((apply vC_seq; apply vC_region))
  refine vL_gen (fun w' => Fr No w w' ∧ Blk w'.heap w.heap.size [.pointer none, .nilFunc] 157) ⟨by (apply Fr.alloc; exact Fr.refl _ _), inferInstance⟩ ?_
  rintro w1 ⟨hf1, h1⟩
  obtain ⟨b4, hb4⟩ : ∃ b4, b4 = w.heap.size := ⟨_, rfl⟩
  rw [← hb4] at h1 ⊢
  have hb1 := hb.frN hf1
  have ho1 := ho.frN hf1
  ((iterate 2 ((refine vE rfl ?_))))
  refine vL_callF rfl (q_at0_rcv b lv xs w1 hb1 ho1 hone) rfl ?_
  rintro _ w2 ⟨hf2, ⟨x, r, rfl, rfl⟩ | ⟨rfl, rfl⟩⟩
  · have hxf := x.f.2
    have hb2 := hb1.frN hf2
    have ho2 := ho1.frN hf2
    have h2 := h1.frN hf2
    have hfw2 := hf1.trans hf2
    (((iterate 3 ((refine vE rfl ?_))); ((apply vL_val); (case h => (apply opw_alloc))); ((apply vL_skip); (case h => ((apply ops_storen); exact norm_eq rfl; exact norm_eq rfl; exact rfl; exact (fun u hu => EncOk.one _ u hu); infer_instance; (first | decide | exact of_decide_eq_true rfl | (simp; done))))); (refine vE rfl ?_); apply vL_nil)); with_reducible apply seqP_normal
    (((iterate 2 (apply vC_seq)); apply vC_region))
    refine vL_gen (fun w' => Fr No w2 w' ∧ Blk w'.heap w2.heap.size (reE x) 157) ⟨by (apply Fr.allocSet; exact Fr.refl _ _), Blk.as inferInstance rfl⟩ ?_
    rintro w3 ⟨hf3, h3⟩
    have hb3 := hb2.frN hf3
    have ho3 := ho2.frN hf3
    have h43 := h2.frN hf3
    have hfw3 := hfw2.trans hf3
    have hsz2 := hfw2.size
    generalize w2.heap.size = b6 at h3 hsz2 ⊢
    have hne : own lv ≠ some b := Own.ne_blk ho3 hb3 (by decide)
    ((refine vE rfl ?_); apply vL_nil; apply seqP_normal; ((apply vC_cond_true); exact rfl); apply vC_region; (iterate 3 ((refine vE rfl ?_))); (refine vL_val (opv_fieldAddr rfl) ?_); ((apply vL_val); (case h => ((apply opv_loadb1); exact rfl; exact rfl; assumption; exact rfl))); (iterate 2 ((refine vE rfl ?_))); ((apply vL_val); (case h => ((apply opv_add); exact rfl; exact rfl; (first | omega | (simp only [List.length_map]; omega))))))
    refine vL_callF rfl (deleteN_rcv lv (x :: r) 0 w3 (by simp) ho3) rfl ?_
    rintro v' w4 ⟨hf4, ho4, hown, hone4⟩
    have hb4' : Blk w4.heap b [.bool true, lv] 229 := Blk.fr hf4 hb3 hne
    have h44 := h43.fr hf4 (fun h => by have := hol _ h; omega)
    have h64 := h3.fr hf4 (fun h => by have := hol _ h; omega)
    have hne4 : own v' ≠ some b := by rw [hown]; exact hne
    haveI : OffB v' b := ⟨hne4⟩
    have nb4 : b4 ≠ b := by have := hb.lt; omega
    haveI n1 : NeB b4 b := ⟨nb4⟩
    haveI n2 : NeB b6 b := ⟨Blk.ne_type h64 hb4' (by decide)⟩
    ((refine vE rfl ?_); (refine vL_val (opv_fieldAddr rfl) ?_); ((apply vL_skip); (case h => ((apply ops_store1); exact norm_eq rfl; ((conv => lhs; whnf) <;> exact rfl); (first | rfl | assumption); assumption; (first | decide | exact of_decide_eq_true rfl | (simp; done))))); apply vL_nil; apply seqP_normal; apply vC_seq; apply vC_region; ((apply vL_val); (case h => ((apply opv_loadbC); exact rfl; exact rfl; infer_instance; exact (rfl : _ = [_, _]); exact rfl))); (refine vE rfl ?_); ((apply vL_skip); (case h => ((apply ops_storen); exact norm_eq rfl; exact norm_eq rfl; exact rfl; (intro u hu; simp at hu; rcases hu with rfl | rfl <;> (first | rfl | assumption)); infer_instance; (first | decide | exact of_decide_eq_true rfl | (simp; done))))); (refine vE rfl ?_); apply vL_nil; apply seqP_normal; apply vC_ret)
    (apply retC2; (case ha => exact rfl); (case hD => exact rfl); (case hb => exact Blk.set (h44.set_ne nb4)); (case hcs => exact (rfl : _ = reE x)); (case hl => exact rfl); (case hu => (exact norm_eq rfl)))
    refine ⟨v', r, ((hfw3.no_any.trans (hf4.mono (fun k _ h => .inr h))).set _ _ (.inl (.inl rfl))).set _ _ (.inr (by omega)), ?_, ?_, hown, hone4, .inl ⟨x, rfl, rfl⟩⟩
    · exact (Blk.set hb4').set_ne (Ne.symm nb4)
    · exact (ho4.set hne4).set (fun h => by rw [hown] at h; have := hol _ h; omega)
  · have hb2 := hb1.frN hf2
    have ho2 := ho1.frN hf2
    have h2 := h1.frN hf2
    have hfw2 := hf1.trans hf2
    (((iterate 3 ((refine vE rfl ?_))); ((apply vL_val); (case h => (apply opw_alloc))); ((apply vL_skip); (case h => ((apply ops_storen); exact norm_eq rfl; exact norm_eq rfl; exact rfl; (intro u hu; simp at hu; rcases hu with rfl | rfl <;> (first | rfl | assumption)); infer_instance; (first | decide | exact of_decide_eq_true rfl | (simp; done))))); (refine vE rfl ?_); apply vL_nil)); with_reducible apply seqP_normal
    (((iterate 2 (apply vC_seq)); apply vC_region))
    refine vL_gen (fun w' => Fr No w2 w' ∧ Blk w'.heap w2.heap.size [.pointer none, .nilFunc] 157) ⟨by (apply Fr.allocSet; exact Fr.refl _ _), Blk.as inferInstance rfl⟩ ?_
    rintro w3 ⟨hf3, h3⟩
    have hb3 := hb2.frN hf3
    have ho3 := ho2.frN hf3
    have h43 := h2.frN hf3
    have hfw3 := hfw2.trans hf3
    generalize w2.heap.size = b6 at h3 ⊢
    have nb4 : b4 ≠ b := by have := hb.lt; omega
    ((refine vE rfl ?_); apply vL_nil; apply seqP_normal; ((apply vC_cond_false); exact rfl); apply vC_skip; apply seqP_normal; apply vC_seq; apply vC_region; ((apply vL_val); (case h => ((apply opv_loadbC); exact rfl; exact rfl; assumption; exact (rfl : _ = [_, _]); exact rfl))); (refine vE rfl ?_); ((apply vL_skip); (case h => ((apply ops_storen); exact norm_eq rfl; exact norm_eq rfl; exact rfl; (intro u hu; simp at hu; rcases hu with rfl | rfl <;> (first | rfl | assumption)); assumption; (first | decide | exact of_decide_eq_true rfl | (simp; done))))); (refine vE rfl ?_); apply vL_nil; apply seqP_normal; apply vC_ret)
    (apply retC2; (case ha => exact rfl); (case hD => exact rfl); (case hb => (infer_instance)); (case hcs => (exact (rfl : _ = [_, _]))); (case hl => exact rfl); (case hu => (exact norm_eq rfl)))
    exact ⟨lv, [], hfw3.no_any.set _ _ (.inr (by omega)), hb3.set_ne (Ne.symm nb4), ho3.set (fun h => by have := hol _ h; omega), rfl, hone, .inr ⟨rfl, rfl, rfl⟩⟩
theorem q_pop_rcv (b : Nat) (lv : Value) (xs : List RE) (w : World) (hb : Blk w.heap b [.bool true, lv] 229) (ho : Own w.heap 157 2 reE lv xs) (hone : lv.oneCell' = true) :
    Rets Tryz.prog 110 #[pt b] w fun u w' => ∃ lv' xs', Fr (fun k => k = b ∨ own lv = some k) w w' ∧ Blk w'.heap b [.bool true, lv'] 229 ∧ Own w'.heap 157 2 reE lv' xs' ∧ own lv' = own lv ∧ lv'.oneCell' = true ∧
      ((∃ x, xs = x :: xs' ∧ u = .tuple #[.agg (reE x).toArray, .bool true]) ∨ (xs = [] ∧ xs' = [] ∧ u = .tuple #[.agg #[.pointer none, .nilFunc], .bool false])) := by
  have hol := ho.lt
  refine rets_of Tryz.func110 rfl Tryz.ntmps110 rfl rfl (by kernel_rfl) ?_
  ((apply vC_seq; apply vC_region)); ((((apply vL_val); (case h => (apply opw_alloc))); (refine vE rfl ?_); apply vL_nil)); with_reducible apply seqP_normal
  ((apply vC_seq; apply vC_region))
  refine vL_gen (fun w' => Fr No w w' ∧ Blk w'.heap w.heap.size [.pointer none, .nilFunc] 157) ⟨by (apply Fr.alloc; exact Fr.refl _ _), inferInstance⟩ ?_
  rintro w1 ⟨hf1, h1⟩
  obtain ⟨b4, hb4⟩ : ∃ b4, b4 = w.heap.size := ⟨_, rfl⟩
  rw [← hb4] at h1 ⊢
  have hb1 := hb.frN hf1
  have ho1 := ho.frN hf1
  ((refine vE rfl ?_))
  refine vL_callF rfl (q_take0_rcv b lv xs w1 hb1 ho1 hone) rfl ?_
  have nb4 : b4 ≠ b := by have := hb.lt; omega
  rintro _ w2 ⟨lv', xs', hf2, hb2, ho2, hown, hone2, ⟨x, rfl, rfl⟩ | ⟨rfl, rfl, rfl⟩⟩
  · have hxf := x.f.2
    have h2 := h1.fr hf2 (fun h => by rcases h with h | h; exact nb4 h; have := hol _ h; omega)
    ((iterate 2 ((refine vE rfl ?_))); ((apply vL_skip); (case h => ((apply ops_storen); exact norm_eq rfl; exact norm_eq rfl; exact rfl; exact (fun u hu => EncOk.one _ u hu); assumption; (first | decide | exact of_decide_eq_true rfl | (simp; done))))); (refine vE rfl ?_); apply vL_nil; apply seqP_normal; apply vC_ret)
    (apply retC2; (case ha => exact rfl); (case hD => exact rfl); (case hb => exact Blk.set h2); (case hcs => exact (rfl : _ = reE x)); (case hl => exact rfl); (case hu => (exact norm_eq rfl)))
    exact ⟨lv', xs', (hf1.no_any.trans hf2).set _ _ (.inr (by omega)), hb2.set_ne (Ne.symm nb4), ho2.set (fun h => by rw [hown] at h; have := hol _ h; omega), hown, hone2, .inl ⟨x, rfl, rfl⟩⟩
  · have h2 := h1.fr hf2 (fun h => by rcases h with h | h; exact nb4 h; have := hol _ h; omega)
    ((iterate 2 ((refine vE rfl ?_))); ((apply vL_skip); (case h => ((apply ops_storen); exact norm_eq rfl; exact norm_eq rfl; exact rfl; (intro u hu; simp at hu; rcases hu with rfl | rfl <;> (first | rfl | assumption)); assumption; (first | decide | exact of_decide_eq_true rfl | (simp; done))))); (refine vE rfl ?_); apply vL_nil; apply seqP_normal; apply vC_ret)
    (apply retC2; (case ha => exact rfl); (case hD => exact rfl); (case hb => (infer_instance)); (case hcs => (exact (rfl : _ = [_, _]))); (case hl => exact rfl); (case hu => (exact norm_eq rfl)))
    exact ⟨lv', [], (hf1.no_any.trans hf2).set _ _ (.inr (by omega)), hb2.set_ne (Ne.symm nb4), ho2.set (fun h => by rw [hown] at h; have := hol _ h; omega), hown, hone2, .inr ⟨rfl, rfl, rfl⟩⟩
theorem q_push_rcv (b : Nat) (lv : Value) (x : RE) (xs : List RE) (w : World) (hb : Blk w.heap b [.bool true, lv] 229) (ho : Own w.heap 157 2 reE lv xs) (hbig : (xs.length + 1) * 16 ≤ 140737488355328) :
    Rets Tryz.prog 121 #[pt b, .agg (reE x).toArray] w fun u w' => ∃ lv', Fr (fun k => k = b ∨ own lv = some k) w w' ∧ Blk w'.heap b [.bool true, lv'] 229 ∧ Own w'.heap 157 2 reE lv' (xs ++ [x]) ∧ (∀ k, own lv' = some k → own lv = some k ∨ w.heap.size ≤ k) ∧ lv'.oneCell' = true := by
  have hol := ho.lt
  have hxf := x.f.2
  refine rets_of Tryz.func121 rfl Tryz.ntmps121 rfl rfl (by kernel_rfl) ?_
  ((apply vC_seq; apply vC_region)); (((refine vL_val (opw_boxn rfl) ?_); apply vL_nil)); with_reducible apply seqP_normal
  ((apply vC_seq; apply vC_region))
  refine vL_gen (fun w' => Fr No w w' ∧ Blk w'.heap w.heap.size (reE x) 157) ⟨by (apply Fr.alloc; exact Fr.refl _ _), Blk.as inferInstance rfl⟩ ?_
  rintro w1 ⟨hf1, h1⟩
  obtain ⟨b3, hb3⟩ : ∃ b3, b3 = w.heap.size := ⟨_, rfl⟩
  rw [← hb3] at h1 ⊢
  have hb1 := hb.frN hf1
  have ho1 := ho.frN hf1
  have nb3 : b3 ≠ b := by have := hb.lt; omega
  ((refine vE rfl ?_))
  refine vL_callF rfl (q_right_rcv b true lv w1 hb1) rfl ?_
  rintro _ _ ⟨rfl, rfl⟩
  (apply vL_nil; apply seqP_normal; ((apply vC_cond_true); exact rfl))
  refine vC_draw' ((fun wf => Blk wf.heap b3 (reE x) 157)) (by first | assumption | infer_instance) ?_
  (refine tkE 0 rfl (by kernel_rfl) (by first | assumption | infer_instance) rfl ?_)
  (refine tkE 1 rfl (by kernel_rfl) (by first | assumption | infer_instance) rfl ?_)
  (refine tkE 2 rfl (by kernel_rfl) (by first | assumption | infer_instance) rfl ?_)
  (refine tk 3 rfl (by kernel_rfl) (by first | assumption | infer_instance) (by intro wf hwf; (try dsimp only at hwf); (((apply opv_fieldAddr); exact rfl))) ?_)
  (refine tk 5 rfl (by kernel_rfl) (by first | assumption | infer_instance) (by intro wf hwf; (try dsimp only at hwf); (((apply opv_loadbC); exact rfl; exact rfl; assumption; exact (rfl : _ = [_, _]); exact rfl))) ?_)
  have hb1d := hb1.frN (Fr.refl No w1).drew
  have ho1d := ho1.frN (Fr.refl No w1).drew
  have hf1d := hf1.drew
  refine vA_two 4 6 rfl rfl (by kernel_rfl) (by first | assumption | infer_instance) (fun K hK => ?_) (fun K hK => ?_)
  · (((apply vL_val); (case h => ((apply opv_loadb1); exact rfl; exact rfl; assumption; exact rfl))); apply vL_nil)
    refine ⟨rfl, hK _ _ ?_⟩
    refine vA_only 6 rfl (by kernel_rfl) (by first | assumption | infer_instance) (fun K hK => ?_)
    (((apply vL_val); (case h => ((apply opw_buildSl); exact rfl; exact rfl; exact rfl; exact (rfl : _ = some [_, _])))); apply vL_nil)
    refine ⟨rfl, hK _ _ ?_⟩
    refine vA_only 7 rfl (by kernel_rfl) (by first | assumption | infer_instance) (fun K hK => ?_)
    refine vL_append (enc := reE) (xs := xs) (ys := [x]) (T := 157) (sz := 2) (by (((conv => lhs; whnf) <;> exact rfl))) (by (exact norm_eq rfl)) (Own.alloc ho1d) (Rd.new1 _ _ rfl) rfl (by decide) ?_ ?_ ?_
    · simp [maxLen]; omega
    · simp; omega
    intro v' w2 ho2 hf2 hfr2 hone2 _
    have hfa : Fr (fun j => own lv = some j) w1.drew w2 := ((Fr.refl _ w1.drew).alloc _).trans' hf2 (fun i hi => .inl hi)
    have hne : own lv ≠ some b := Own.ne_blk ho hb (by decide)
    have hb2 : Blk w2.heap b [.bool true, lv] 229 := Blk.fr hfa hb1d hne
    have hne2 : own v' ≠ some b := Own.ne_blk ho2 hb2 (by decide)
    have h12 : Blk w2.heap b3 (reE x) 157 := (h1.frN (Fr.refl No w1).drew).fr hfa (fun h => by have := hol _ h; omega)
    haveI : NeB b3 b := ⟨nb3⟩
    have hone2' := hone2
    refine vL_nil ⟨rfl, hK _ _ ?_⟩
    (refine tkE 8 rfl (by kernel_rfl) (by first | assumption | infer_instance) rfl ?_)
    (refine tk 9 rfl (by kernel_rfl) (by first | assumption | infer_instance) (by intro wf hwf; (try dsimp only at hwf); (((apply opv_fieldAddr); exact rfl))) ?_)
    refine vA_only 10 rfl (by kernel_rfl) (by first | assumption | infer_instance) (fun K hK => ?_)
    (((apply vL_skip); (case h => ((apply ops_store1); exact norm_eq rfl; ((conv => lhs; whnf) <;> exact rfl); (first | rfl | assumption); assumption; (first | decide | exact of_decide_eq_true rfl | (simp; done))))); apply vL_nil)
    refine ⟨rfl, hK _ _ ?_⟩
    refine vA_done (by kernel_rfl) (by first | assumption | infer_instance) ?_
    skip
    (first | apply ret0 | apply ret0n)
    refine ⟨v', ?_, inferInstance, ho2.set hne2, fun k hk => ?_, hone2⟩
    · exact ((hf1d.no_any.trans (hfa.mono (fun k _ h => .inr h)))).set _ _ (.inl (.inl rfl))
    · rcases hfr2 k hk with h | h
      · exact .inl h
      · rw [alloc_size] at h; exact .inr (by have := hf1.size; have h2 : w1.drew.heap.size = w1.heap.size := rfl; omega)
  · (((apply vL_val); (case h => ((apply opw_buildSl); exact rfl; exact rfl; exact rfl; exact (rfl : _ = some [_, _])))); apply vL_nil)
    refine ⟨rfl, hK _ _ ?_⟩
    refine vA_only 4 rfl (by kernel_rfl) (by first | assumption | infer_instance) (fun K hK => ?_)
    (((apply vL_val); (case h => ((apply opv_loadb1); exact rfl; exact rfl; infer_instance; exact rfl))); apply vL_nil)
    refine ⟨rfl, hK _ _ ?_⟩
    refine vA_only 7 rfl (by kernel_rfl) (by first | assumption | infer_instance) (fun K hK => ?_)
    refine vL_append (enc := reE) (xs := xs) (ys := [x]) (T := 157) (sz := 2) (by (((conv => lhs; whnf) <;> exact rfl))) (by (exact norm_eq rfl)) (Own.alloc ho1d) (Rd.new1 _ _ rfl) rfl (by decide) ?_ ?_ ?_
    · simp [maxLen]; omega
    · simp; omega
    intro v' w2 ho2 hf2 hfr2 hone2 _
    have hfa : Fr (fun j => own lv = some j) w1.drew w2 := ((Fr.refl _ w1.drew).alloc _).trans' hf2 (fun i hi => .inl hi)
    have hne : own lv ≠ some b := Own.ne_blk ho hb (by decide)
    have hb2 : Blk w2.heap b [.bool true, lv] 229 := Blk.fr hfa hb1d hne
    have hne2 : own v' ≠ some b := Own.ne_blk ho2 hb2 (by decide)
    have h12 : Blk w2.heap b3 (reE x) 157 := (h1.frN (Fr.refl No w1).drew).fr hfa (fun h => by have := hol _ h; omega)
    haveI : NeB b3 b := ⟨nb3⟩
    have hone2' := hone2
    refine vL_nil ⟨rfl, hK _ _ ?_⟩
    (refine tkE 8 rfl (by kernel_rfl) (by first | assumption | infer_instance) rfl ?_)
    (refine tk 9 rfl (by kernel_rfl) (by first | assumption | infer_instance) (by intro wf hwf; (try dsimp only at hwf); (((apply opv_fieldAddr); exact rfl))) ?_)
    refine vA_only 10 rfl (by kernel_rfl) (by first | assumption | infer_instance) (fun K hK => ?_)
    (((apply vL_skip); (case h => ((apply ops_store1); exact norm_eq rfl; ((conv => lhs; whnf) <;> exact rfl); (first | rfl | assumption); assumption; (first | decide | exact of_decide_eq_true rfl | (simp; done))))); apply vL_nil)
    refine ⟨rfl, hK _ _ ?_⟩
    refine vA_done (by kernel_rfl) (by first | assumption | infer_instance) ?_
    skip
    (first | apply ret0 | apply ret0n)
    refine ⟨v', ?_, inferInstance, ho2.set hne2, fun k hk => ?_, hone2⟩
    · exact ((hf1d.no_any.trans (hfa.mono (fun k _ h => .inr h)))).set _ _ (.inl (.inl rfl))
    · rcases hfr2 k hk with h | h
      · exact .inl h
      · rw [alloc_size] at h; exact .inr (by have := hf1.size; have h2 : w1.drew.heap.size = w1.heap.size := rfl; omega)
end Go.Proofs.YtbaidcnalkdhgaaGreat
set_option maxRecDepth 100000
namespace Go.Proofs.YtbaidcnalkdhgaaGreat
open Go Go.Eng
theorem filter_next {α : Type} {p : α → Bool} {xs : List α} {j : Nat} {x : α} (hx : xs[j]? = some x) : (xs.take (j + 1)).filter p = if p x then (xs.take j).filter p ++ [x] else (xs.take j).filter p := by
  have hj := (List.getElem?_eq_some_iff.1 hx).1
  rw [List.take_succ_eq_append_getElem hj, (List.getElem?_eq_some_iff.1 hx).2, List.filter_append]
  split <;> simp_all
theorem indexFunc_snd (fv v : Value) (p : SE → Bool) (xs : List SE) (w : World) (f : FuncId) (cap : List Value) [FnOk Tryz.prog f] (hr : Rd w.heap 3 seE v xs) (hfv : fv = .func (.func f) #[] cap.toArray)
    (hf : ∀ x w1, x ∈ xs → Fr No w w1 → Rets Tryz.prog f (Value.agg (seE x).toArray :: cap).toArray w1 fun v w2 => v = .bool (p x) ∧ Fr No w1 w2) :
    Rets Tryz.prog 178 #[v, fv] w fun u w' => Fr No w w' ∧ ((u = .int .i64 (-1) ∧ ∀ x ∈ xs, p x = false) ∨ ∃ k : Nat, u = .int .i64 k ∧ k < xs.length ∧ (∃ x, xs[k]? = some x ∧ p x = true) ∧ ∀ j, j < k → ∀ x, xs[j]? = some x → p x = false) := by
  subst hfv
  have hs := hr.small
  refine rets_of Tryz.func178 rfl Tryz.ntmps178 rfl rfl (by kernel_rfl) ?_
  (apply vC_seq; apply vC_region; (refine vE rfl ?_); apply vL_nil; apply seqP_normal; (iterate 2 (apply vC_seq)); apply vC_region; ((apply vL_val); (case h => ((apply opv_move); ((conv => lhs; whnf) <;> exact rfl)))); ((apply vL_val); (case h => ((apply opv_len); ((conv => lhs; whnf) <;> exact rfl); assumption))); (refine vE rfl ?_); apply vL_nil; apply seqP_normal; apply vC_block)
  (apply vC_loop1 524080 8 (fun u w' => ∃ k : Nat, u = .int .i64 k ∧ k ≤ xs.length ∧ Fr No w w' ∧ ∀ j, j < k → ∀ x, xs[j]? = some x → p x = false) (fun u _ => xs.length - (RowKit.intOf u).toNat)); (case h1 => (exact norm_eq rfl))
  case h0 => exact ⟨0, rfl, by omega, Fr.refl _ _, by omega⟩
  case round =>
  rintro junk _ w1 ⟨k, rfl, hk, hfr, hp⟩
  have hr1 := Rd.frN hfr hr
  (apply vC_seq; apply vC_region; (refine vE rfl ?_); apply vL_nil; apply seqP_normal; apply vC_seq)
  refine vC_cond_dec rfl (fun h => ?_) (fun h => ?_)
  · have hk' : k < xs.length := by omega
    obtain ⟨x, hx⟩ : ∃ x, xs[k]? = some x := ⟨xs[k], by simp [hk']⟩
    (apply vC_skip; apply seqP_normal; apply vC_seq; apply vC_block; apply vC_seq; apply vC_region; (iterate 2 ((refine vE rfl ?_))); apply vL_nil; apply seqP_normal; apply vC_seq; apply vC_region; (refine vE rfl ?_); ((apply vL_val); (case h => ((apply opv_move); ((conv => lhs; whnf) <;> exact rfl)))); (refine vE rfl ?_); ((apply vL_val); (case h => ((apply opv_indexAddr); ((conv => lhs; whnf) <;> exact rfl); exact rfl; assumption; (first | omega | (simp only [List.length_map]; omega)); (first | omega | (simp only [List.length_map]; omega))))); ((apply vL_val); (case h => ((apply opv_ld_eln); exact rfl; exact rfl; assumption; assumption))))
    refine vL_callF rfl (hf x _ (List.mem_of_getElem? hx) (by (assumption))) rfl ?_
    rintro _ w2 ⟨rfl, hfr2⟩
    have hfr3 : Fr No w w2 := Fr.trans (by (assumption)) hfr2
    (apply vL_nil; apply seqP_normal)
    refine vC_cond rfl (fun hpx => ?_) (fun hpx => ?_)
    · (apply vC_seq; apply vC_region; (iterate 2 ((refine vE rfl ?_))); apply vL_nil; apply seqP_normal; apply vC_ret; apply blockP_ret; apply seqP_ret; apply loopP_ret; apply blockP_ret; apply seqP_ret)
      (apply ret1; (case h1 => (exact norm_eq rfl)))
      exact ⟨hfr3, .inr ⟨k, rfl, hk', ⟨x, hx, hpx⟩, hp⟩⟩
    · (apply vC_skip; apply blockP_normal; apply seqP_normal; apply vC_region; ((apply vL_val); (case h => ((apply opv_add); exact rfl; exact rfl; (first | omega | (simp only [List.length_map]; omega))))); (refine vE rfl ?_); apply vL_nil; apply loopP_normal)
      (with_reducible apply end1); (case hs => ((iterate 11 (((refine same_updO ?_ ?_); rotate_left; exact rfl))); ((refine same_upd ?_ ?_); rotate_left; exact rfl); (exact same_mask _ _ _))); (case h1 => (exact norm_eq rfl))
      · exact ⟨k + 1, rfl, by omega, hfr3, fun j hj y hy => by
          by_cases e : j = k
          · subst e; rw [hx] at hy; cases hy; exact hpx
          · exact hp j (by omega) y hy⟩
      · simp [RowKit.intOf]; omega
  · (apply vC_exit; apply seqP_exit; apply loopP_exit; apply blockP_exit; apply seqP_normal; apply vC_seq; apply vC_region; (refine vE rfl ?_); apply vL_nil; apply seqP_normal; apply vC_ret)
    (apply ret1; (case h1 => (exact norm_eq rfl)))
    refine ⟨hfr, .inl ⟨rfl, fun x hx => ?_⟩⟩
    obtain ⟨j, hj, rfl⟩ := List.getElem_of_mem hx
    exact hp j (by omega) _ (List.getElem?_eq_getElem hj)
theorem deleteFunc_snd (fv v : Value) (p : SE → Bool) (xs : List SE) (w : World) (f : FuncId) (cap : List Value) [FnOk Tryz.prog f] (ho : Own w.heap 154 3 seE v xs) (hone : v.oneCell' = true) (hfv : fv = .func (.func f) #[] cap.toArray)
    (hf : ∀ x w1, x ∈ xs → Fr (fun k => own v = some k) w w1 → Rets Tryz.prog f (Value.agg (seE x).toArray :: cap).toArray w1 fun v w2 => v = .bool (p x) ∧ Fr No w1 w2) :
    Rets Tryz.prog 179 #[v, fv] w fun u w' => Fr (fun k => own v = some k) w w' ∧ Own w'.heap 154 3 seE u (xs.filter fun x => !p x) ∧ own u = own v ∧ u.oneCell' = true := by
  have hs := ho.rd.small
  have hol := ho.lt
  refine rets_of Tryz.func179 rfl Tryz.ntmps179 rfl rfl (by kernel_rfl) ?_
  (apply vC_seq; apply vC_region; (refine vE rfl ?_); apply vL_nil; apply seqP_normal; apply vC_seq; apply vC_region; (iterate 2 (((apply vL_val); (case h => ((apply opv_move); ((conv => lhs; whnf) <;> exact rfl)))))))
  refine vL_callF rfl (indexFunc_snd fv v p xs w f cap ho.rd hfv (fun x w1 hx h => hf x w1 hx h.no_any)) rfl ?_
  subst hfv
  rintro _ w1 ⟨hf1, ⟨rfl, hno⟩ | ⟨k, rfl, hk, ⟨x0, hx0, hpx0⟩, hp⟩⟩
  · have F1 : From w1 _ := ⟨hf1⟩
    ((refine vE rfl ?_); apply vL_nil; apply seqP_normal; (iterate 2 (apply vC_seq)); apply vC_region; (iterate 2 ((refine vE rfl ?_))); apply vL_nil; apply seqP_normal; ((apply vC_cond_true); exact rfl); apply vC_seq; apply vC_region; ((apply vL_val); (case h => ((apply opv_move); ((conv => lhs; whnf) <;> exact rfl)))); ((apply vL_val); (case h => ((apply opv_assign); ((conv => lhs; whnf) <;> exact rfl)))); apply vL_nil; apply seqP_normal; apply vC_ret; apply seqP_ret)
    (apply ret1; (case h1 => (((conv => lhs; whnf) <;> exact rfl))))
    refine ⟨hf1.mono (fun k _ h => h.elim), ?_, rfl, hone⟩
    have : xs.filter (fun x => !p x) = xs := by
      rw [List.filter_eq_self]
      intro x hx
      simp [hno x hx]
    rw [this]
    exact ho.frN hf1
  have ho1 := ho.frN hf1
  ((iterate 21 (first | with_reducible apply vC_seq | with_reducible apply vC_region | with_reducible apply seqP_normal | with_reducible apply vC_skip | ((with_reducible apply vC_cond_false); exact rfl) | (refine vE rfl ?_) | ((with_reducible apply vL_val); (case h => ((with_reducible apply opv_add); exact rfl; exact rfl; (first | omega | (simp only [List.length_map]; omega))))) | with_reducible apply vL_nil)); apply vC_block)
  (apply vC_loop3 68719411424 6 5 7 (fun u v5 _ w' => ∃ (i j : Nat) (cur : List SE), u = .int .i64 (j : Int) ∧ v5 = .int .i64 (i : Int) ∧ i < j ∧ j ≤ xs.length ∧ Own w'.heap 154 3 seE v cur ∧ cur.length = xs.length ∧ cur.take i = (xs.take j).filter (fun x => !p x) ∧ cur.drop j = xs.drop j ∧ Fr (fun k => own v = some k) w w') (fun u _ _ _ => xs.length - (RowKit.intOf u).toNat)); (case h1 => (exact norm_eq rfl)); (case h2 => (exact norm_eq rfl)); (case h3 => (exact norm_eq rfl))
  case h0 =>
    refine ⟨k, k + 1, xs, rfl, rfl, by omega, by omega, ho1, rfl, ?_, rfl, hf1.mono (fun k _ h => h.elim)⟩
    rw [filter_next hx0]
    simp only [hpx0, Bool.not_true, Bool.false_eq_true, if_false]
    symm
    rw [List.filter_eq_self]
    intro x hx
    obtain ⟨j, hj, rfl⟩ := List.getElem_of_mem hx
    simp at hj
    have := hp j (by omega) (xs[j]'(by omega)) (List.getElem?_eq_getElem _)
    simp [this]
  case round =>
  rintro junk _ _ v7 w2 ⟨i, j, cur, rfl, rfl, hij, hj, ho2, hcl, hct, hcd, hf2⟩
  have hsz2 := hf2.size
  (((iterate 2 (apply vC_seq)); apply vC_region)); (((refine vE rfl ?_); ((apply vL_val); (case h => ((apply opv_move); ((conv => lhs; whnf) <;> exact rfl)))); ((apply vL_val); (case h => ((apply opv_len); ((conv => lhs; whnf) <;> exact rfl); infer_instance))); (refine vE rfl ?_); apply vL_nil)); with_reducible apply seqP_normal
  (skip)
  refine vC_cond_dec rfl (fun hc => ?_) (fun hc => ?_)
  · have hj' : j < xs.length := by omega
    obtain ⟨x, hx⟩ : ∃ x, xs[j]? = some x := ⟨xs[j], by simp [hj']⟩
    have hcx : cur[j]? = some x := by
      have h1 : (cur.drop j)[0]? = (xs.drop j)[0]? := by rw [hcd]
      simpa [hx] using h1
    have hcx' : cur[((j : Nat) : Int).toNat]? = some x := hcx
    obtain ⟨y, hy⟩ : ∃ y, cur[i]? = some y := ⟨cur[i]'(by omega), List.getElem?_eq_getElem _⟩
    have hy' : cur[((i : Nat) : Int).toNat]? = some y := hy
    have hxf := x.f.2
    ((apply vC_skip; apply seqP_normal; apply vC_seq; apply vC_block; apply vC_seq; apply vC_region))
    ((((apply vL_val); (case h => ((apply opv_move); ((conv => lhs; whnf) <;> exact rfl)))); (refine vE rfl ?_); ((apply vL_val); (case h => ((apply opv_indexAddr); ((conv => lhs; whnf) <;> exact rfl); exact rfl; infer_instance; (first | omega | (simp only [List.length_map]; omega)); (first | omega | (simp only [List.length_map]; omega))))); ((apply vL_val); (case h => ((apply opv_ld_eln); exact rfl; exact rfl; infer_instance; assumption))); ((apply vL_val); (case h => (apply opw_alloc))); ((apply vL_skip); (case h => ((apply ops_storen); exact norm_eq rfl; exact norm_eq rfl; exact rfl; exact (fun u hu => EncOk.one _ u hu); infer_instance; (first | decide | exact of_decide_eq_true rfl | (simp; done))))); apply vL_nil)); with_reducible apply seqP_normal
    ((apply vC_seq; apply vC_region))
    refine vL_gen (fun w' => Fr No w2 w' ∧ Blk w'.heap w2.heap.size (seE x) 154) ⟨by (apply Fr.allocSet; exact Fr.refl _ _), Blk.as inferInstance rfl⟩ ?_
    rintro w3 ⟨hf3, h73⟩
    obtain ⟨b7, hb7⟩ : ∃ b7, b7 = w2.heap.size := ⟨_, rfl⟩
    rw [← hb7] at h73 ⊢
    have ho3 := ho2.frN hf3
    have hf23 : Fr (fun k => own v = some k) w w3 := hf2.trans (hf3.mono (fun k _ h => h.elim))
    ((refine vE rfl ?_); ((apply vL_val); (case h => ((apply opv_loadbC); exact rfl; exact rfl; assumption; exact (rfl : _ = [_, _, _]); exact rfl))))
    refine vL_callF rfl (hf x w3 (List.mem_of_getElem? hx) hf23) rfl ?_
    rintro _ w4 ⟨rfl, hf4⟩
    have hf24 : Fr (fun k => own v = some k) w w4 := hf23.trans (hf4.mono (fun k _ h => h.elim))
    have ho4 := ho3.frN hf4
    have h74 := h73.frN hf4
    (((refine vL_val (opv_not rfl) ?_); apply vL_nil)); with_reducible apply seqP_normal
    (skip)
    cases hpx : p x with
    | false =>
      (((apply vC_cond_true); exact rfl); apply vC_seq; apply vC_region; ((apply vL_val); (case h => ((apply opv_move); ((conv => lhs; whnf) <;> exact rfl)))); (refine vE rfl ?_); ((apply vL_val); (case h => ((apply opv_loadbC); exact rfl; exact rfl; assumption; exact (rfl : _ = [_, _, _]); exact rfl))); ((apply vL_val); (case h => ((apply opv_indexAddr); ((conv => lhs; whnf) <;> exact rfl); exact rfl; infer_instance; (first | omega | (simp only [List.length_map]; omega)); (first | omega | (simp only [List.length_map]; omega))))))
      refine vL_storeElS (enc := seE) (xs := cur) (x0 := y) (j := 0) (m := 3) (us := seE x) x rfl rfl hy' rfl (fun u hu => EncOk.one _ u hu) rfl (by decide) ho4 ?_
      intro w5 ho5 hf5
      ((iterate 14 (first | with_reducible apply vC_region | with_reducible apply seqP_normal | with_reducible apply blockP_normal | (refine vE rfl ?_) | ((with_reducible apply vL_val); (case h => ((with_reducible apply opv_add); exact rfl; exact rfl; (first | omega | (simp only [List.length_map]; omega))))) | with_reducible apply vL_nil)); apply loopP_normal)
      (with_reducible apply end3); (case hs => ((iterate 24 (first | with_reducible apply same_updN | ((with_reducible refine same_updO ?_ ?_); rotate_left; exact rfl))); (iterate 3 (((refine same_upd ?_ ?_); rotate_left; exact rfl))); (exact same_mask _ _ _))); (case h1 => (exact norm_eq rfl)); (case h2 => (exact norm_eq rfl)); (case h3 => (exact norm_eq rfl))
      · refine ⟨i + 1, j + 1, cur.set i x, rfl, rfl, by omega, by omega, ho5, by simp [hcl], ?_, ?_, hf24.trans hf5⟩
        · rw [filter_next hx, if_pos (by simpa using hpx), ← hct]
          rw [List.take_succ_eq_append_getElem (by simp; omega)]
          simp [List.take_set_of_le]
        · rw [List.drop_set_of_lt (by omega)]
          rw [← List.drop_drop, ← List.drop_drop, hcd]
      · simp [RowKit.intOf]; omega
    | true =>
      (((apply vC_cond_false); exact rfl); apply vC_skip; apply blockP_normal; apply seqP_normal; apply vC_region; (refine vE rfl ?_); ((apply vL_val); (case h => ((apply opv_add); exact rfl; exact rfl; (first | omega | (simp only [List.length_map]; omega))))); (refine vE rfl ?_); apply vL_nil; apply loopP_normal)
      (with_reducible apply end3); (case hs => ((iterate 17 (first | with_reducible apply same_updN | ((with_reducible refine same_updO ?_ ?_); rotate_left; exact rfl))); (iterate 3 (((refine same_upd ?_ ?_); rotate_left; exact rfl))); (exact same_mask _ _ _))); (case h1 => (exact norm_eq rfl)); (case h2 => (exact norm_eq rfl)); (case h3 => (exact norm_eq rfl))
      · refine ⟨i, j + 1, cur, rfl, rfl, by omega, by omega, ho4, hcl, ?_, ?_, hf24⟩
        · rw [filter_next hx, if_neg (by simp [hpx]), ← hct]
        · rw [← List.drop_drop, ← List.drop_drop, hcd]
      · simp [RowKit.intOf]; omega
  have ej : j = xs.length := by omega
  subst ej
  rw [List.take_length] at hct
  have hrep : ∀ m : Nat, ((List.replicate m [Value.pointer none, Value.int .i64 0, Value.nilFunc]).flatten).length = m * 3 := fun m => by simp
  rcases ho2.shape with ⟨_, rfl⟩ | ⟨g, cap', cs, rfl, hb, hn, hm, hl, ht⟩
  · simp at hcl; omega
  have hm' : cap' ≤ 9223372036854775807 := by unfold maxLen at hm; omega
  have hlen : (xs.filter fun x => !p x).length = i := by rw [← hct]; simp; omega
  (apply vC_exit; apply seqP_exit; apply loopP_exit; apply blockP_exit; apply seqP_normal; apply vC_seq; apply vC_region; (iterate 2 ((refine vE rfl ?_))); ((apply vL_val); (case h => ((apply opv_slice_lo'); exact rfl; exact rfl; (first | omega | (simp only [List.length_map]; omega)); (first | omega | (simp only [List.length_map]; omega))))))
  apply vL_val
  (case h => (refine opw_clearN (sz := 3) (z := [Value.pointer none, Value.int .i64 0, Value.nilFunc]) (by (exact norm_eq rfl)) rfl (by decide) (by decide) hb ?_; rw [if_neg (by omega)]; omega))
  (apply vL_nil; apply seqP_normal; apply vC_seq; apply vC_region; (iterate 2 ((refine vE rfl ?_))); ((apply vL_val); (case h => ((apply opv_slice_hi'); exact rfl; exact rfl; (first | omega | (simp only [List.length_map]; omega)); (first | omega | (simp only [List.length_map]; omega))))); (refine vE rfl ?_); apply vL_nil; apply seqP_normal; apply vC_ret)
  (apply ret1; (case h1 => (exact norm_eq rfl)))
  refine ⟨hf2.set g _ (.inl rfl), ?_, rfl, rfl⟩
  refine ⟨fun x _ => EncOk.len x, .inr ⟨g, cap', _, ?_, Blk.set hb, ?_, hm, ?_, ?_⟩⟩
  · rw [hlen]; rfl
  · rw [hlen]; omega
  · rw [if_neg (by omega)]; simp only [List.length_append, List.length_take, List.length_drop, hrep]; omega
  · rw [if_neg (by omega), hlen, List.append_assoc]
    rw [show 0 + (i : Int).toNat * 3 = i * 3 by omega]
    rw [List.take_append_of_le_length (by simp; omega), List.take_take, Nat.min_eq_left (by omega), ← hct, flatMap_take cur i ho2.size, ← ht, List.take_take]
    congr 1
    omega
theorem q_drop_snd (b : Nat) (lv : Value) (p : SE → Bool) (xs : List SE) (w : World) (f : FuncId) (cap : List Value) [FnOk Tryz.prog f] (hb : Blk w.heap b [.bool true, lv] 226) (ho : Own w.heap 154 3 seE lv xs) (hone : lv.oneCell' = true)
    (hf : ∀ x w1, x ∈ xs → Fr (fun k => own lv = some k) w w1 → Rets Tryz.prog f (Value.agg (seE x).toArray :: cap).toArray w1 fun v w2 => v = .bool (p x) ∧ Fr No w1 w2) :
    Rets Tryz.prog 122 #[pt b, .func (.func f) #[] cap.toArray] w fun u w' => ∃ lv', Fr (fun k => k = b ∨ own lv = some k) w w' ∧ Blk w'.heap b [.bool true, lv'] 226 ∧ Own w'.heap 154 3 seE lv' (xs.filter fun x => !p x) ∧ own lv' = own lv ∧ lv'.oneCell' = true ∧
      u = .int .i64 ((xs.length : Int) - ((xs.filter fun x => !p x).length : Nat)) := by
  have hs := ho.rd.small
  have hfl := List.length_filter_le (fun x => !p x) xs
  refine rets_of Tryz.func122 rfl Tryz.ntmps122 rfl rfl (by kernel_rfl) ?_
  (apply vC_seq; apply vC_region; (refine vE rfl ?_); apply vL_nil; apply seqP_normal; (iterate 2 (apply vC_seq)); apply vC_region; (refine vE rfl ?_))
  refine vL_callF rfl (q_right_snd b true lv w hb) rfl ?_
  rintro _ _ ⟨rfl, rfl⟩
  ((refine vL_val (opv_not rfl) ?_); (iterate 6 (first | (refine vE rfl ?_) | (refine vL_val (opv_eql_fnil rfl rfl) ?_) | ((with_reducible apply vL_wanted); exact rfl))); apply vL_nil; apply seqP_normal; ((apply vC_cond_false); exact rfl); apply vC_skip; (iterate 19 (first | with_reducible apply vC_seq | with_reducible apply vC_region | with_reducible apply seqP_normal | (refine vE rfl ?_) | ((with_reducible apply vL_val); (case h => ((with_reducible apply opv_loadb1); exact rfl; exact rfl; assumption; exact rfl))) | (refine vL_val (opv_fieldAddr rfl) ?_) | ((with_reducible apply vL_val); (case h => ((with_reducible apply opv_len); ((conv => lhs; whnf) <;> exact rfl); infer_instance))) | with_reducible apply vL_nil)))
  refine vL_callF rfl (deleteFunc_snd _ lv p xs w f cap ho hone rfl hf) rfl ?_
  rintro v' w1 ⟨hf1, ho1, hown, hone1⟩
  have hne : own lv ≠ some b := Own.ne_blk ho hb (by decide)
  have hb1 : Blk w1.heap b [.bool true, lv] 226 := Blk.fr hf1 hb hne
  haveI : OffB v' b := ⟨by rw [hown]; exact hne⟩
  ((refine vE rfl ?_); (refine vL_val (opv_fieldAddr rfl) ?_); ((apply vL_skip); (case h => ((apply ops_store1); exact norm_eq rfl; ((conv => lhs; whnf) <;> exact rfl); (first | rfl | assumption); assumption; (first | decide | exact of_decide_eq_true rfl | (simp; done))))); apply vL_nil; apply seqP_normal; apply vC_seq; apply vC_region; (iterate 3 ((refine vE rfl ?_))); (refine vL_val (opv_fieldAddr rfl) ?_); ((apply vL_val); (case h => ((apply opv_loadb1); exact rfl; exact rfl; infer_instance; exact rfl))); ((apply vL_val); (case h => ((apply opv_len); ((conv => lhs; whnf) <;> exact rfl); infer_instance))); ((apply vL_val); (case h => ((apply opv_sub); exact rfl; exact rfl; (first | omega | (simp only [List.length_map]; omega))))); (refine vE rfl ?_); apply vL_nil; apply seqP_normal; apply vC_ret)
  (apply ret1; (case h1 => (exact norm_eq rfl)))
  have h1 : Fr (fun k => k = b ∨ own lv = some k) w w1 := hf1.mono (fun k _ h => .inr h)
  exact ⟨v', h1.set _ _ (.inl (.inl rfl)), inferInstance, (inferInstance : Own (w1.setRow b _).heap _ _ _ v' _), hown, hone1, rfl⟩
theorem clone_snd (v : Value) (xs : List SE) (w : World) (hr : Rd w.heap 3 seE v xs) (hbig : xs.length * 24 ≤ 140737488355328) :
    Rets Tryz.prog 151 #[v] w fun u w' => Fr No w w' ∧ Own w'.heap 154 3 seE u xs ∧ (∀ b, own u = some b → w.heap.size ≤ b) ∧ u.oneCell' = true := by
  have hs := hr.small
  refine rets_of Tryz.func151 rfl Tryz.ntmps151 rfl rfl (by kernel_rfl) ?_
  rcases hr.shape with ⟨rfl, none | a, rfl⟩ | ⟨b, o, c, rfl, hc⟩
  · ((iterate 18 (first | with_reducible apply vC_seq | with_reducible apply vC_region | with_reducible apply seqP_normal | ((with_reducible apply vC_cond_true); exact rfl) | (refine vE rfl ?_) | (refine vL_val (opv_eql_snil rfl rfl) ?_) | with_reducible apply vL_nil)); apply vC_ret; apply seqP_ret)
    (apply ret1; (case h1 => (exact norm_eq rfl)))
    exact ⟨Fr.refl _ _, Own.nil _ _ _ _, fun b hb => (by cases hb), rfl⟩
  · (apply vC_seq; apply vC_region; (refine vE rfl ?_); apply vL_nil; apply seqP_normal; (iterate 2 (apply vC_seq)); apply vC_region; (refine vE rfl ?_); (refine vL_val (opv_eql_snil rfl rfl) ?_); apply vL_nil; apply seqP_normal; ((apply vC_cond_false); exact rfl); apply vC_skip; apply seqP_normal; apply vC_seq; apply vC_region; ((apply vL_val); (case h => ((apply opw_buildSl); exact rfl; exact rfl; exact rfl; exact (rfl : _ = some [])))); (refine vE rfl ?_))
    refine vL_append (enc := seE) (xs := []) (ys := []) (T := 154) (sz := 3) (by (exact norm_eq rfl)) (by (exact norm_eq rfl)) (Own.newN seE [] rfl rfl (by decide)) inferInstance rfl (by decide) ?_ ?_ ?_
    · simp [maxLen]
    · simp
    intro v' w2 ho hf hfresh hone _
    (((apply vL_val); (case h => ((apply opv_assign); ((conv => lhs; whnf) <;> exact rfl)))); apply vL_nil; apply seqP_normal; apply vC_ret)
    (apply ret1; (case h1 => (((conv => lhs; whnf) <;> exact rfl))))
    refine ⟨((Fr.refl No w).alloc _).trans' hf (fun k hk => .inr (by cases hk; exact Nat.le_refl _)), ho, fun b hb => ?_, hone⟩
    rcases hfresh b hb with h | h
    · cases h; exact Nat.le_refl _
    · rw [alloc_size] at h; omega
  · (apply vC_seq; apply vC_region; (refine vE rfl ?_); apply vL_nil; apply seqP_normal; (iterate 2 (apply vC_seq)); apply vC_region; (refine vE rfl ?_); (refine vL_val (opv_eql_snil rfl rfl) ?_); apply vL_nil; apply seqP_normal; ((apply vC_cond_false); exact rfl); apply vC_skip; apply seqP_normal; apply vC_seq; apply vC_region; ((apply vL_val); (case h => ((apply opw_buildSl); exact rfl; exact rfl; exact rfl; exact (rfl : _ = some [])))); (refine vE rfl ?_))
    refine vL_append (enc := seE) (xs := []) (ys := xs) (T := 154) (sz := 3) (by (exact norm_eq rfl)) (by (exact norm_eq rfl)) (Own.newN seE [] rfl rfl (by decide)) inferInstance rfl (by decide) ?_ ?_ ?_
    · simp [maxLen]; omega
    · simpa using hbig
    intro v' w2 ho hf hfresh hone _
    (((apply vL_val); (case h => ((apply opv_assign); ((conv => lhs; whnf) <;> exact rfl)))); apply vL_nil; apply seqP_normal; apply vC_ret)
    (apply ret1; (case h1 => (((conv => lhs; whnf) <;> exact rfl))))
    refine ⟨((Fr.refl No w).alloc _).trans' hf (fun k hk => .inr (by cases hk; exact Nat.le_refl _)), ho, fun b hb => ?_, hone⟩
    rcases hfresh b hb with h | h
    · cases h; exact Nat.le_refl _
    · rw [alloc_size] at h; omega
theorem q_list_snd (b : Nat) (lv : Value) (xs : List SE) (w : World) (hb : Blk w.heap b [.bool true, lv] 226) (ho : Own w.heap 154 3 seE lv xs) (hbig : xs.length * 24 ≤ 140737488355328) :
    Rets Tryz.prog 119 #[pt b] w fun u w' => Fr No w w' ∧ Own w'.heap 154 3 seE u xs ∧ (∀ b, own u = some b → w.heap.size ≤ b) ∧ u.oneCell' = true := by
  refine rets_of Tryz.func119 rfl Tryz.ntmps119 rfl rfl (by kernel_rfl) ?_
  (apply vC_seq; apply vC_region; (refine vE rfl ?_); apply vL_nil; apply seqP_normal; (iterate 2 (apply vC_seq)); apply vC_region; (refine vE rfl ?_))
  refine vL_callF rfl (q_right_snd b true lv w hb) rfl ?_
  rintro _ _ ⟨rfl, rfl⟩
  ((refine vL_val (opv_not rfl) ?_); apply vL_nil; apply seqP_normal; ((apply vC_cond_false); exact rfl); apply vC_skip; apply seqP_normal; apply vC_seq; apply vC_region; (iterate 2 ((refine vE rfl ?_))); (refine vL_val (opv_fieldAddr rfl) ?_); ((apply vL_val); (case h => ((apply opv_loadb1); exact rfl; exact rfl; assumption; exact rfl))))
  refine vL_callF rfl (clone_snd lv xs w ho.rd hbig) rfl ?_
  rintro u w1 ⟨hf1, ho1, hfresh1, hone⟩
  (((apply vL_val); (case h => ((apply opv_assign); ((conv => lhs; whnf) <;> exact rfl)))); apply vL_nil; apply seqP_normal; apply vC_ret)
  (apply ret1; (case h1 => (((conv => lhs; whnf) <;> exact rfl))))
  exact ⟨hf1, ho1, hfresh1, hone⟩
theorem containsFunc_snd (fv v : Value) (p : SE → Bool) (xs : List SE) (w : World) (f : FuncId) (cap : List Value) [FnOk Tryz.prog f] (hr : Rd w.heap 3 seE v xs) (hone : v.oneCell' = true) (hfv : fv = .func (.func f) #[] cap.toArray)
    (hf : ∀ x w1, x ∈ xs → Fr No w w1 → Rets Tryz.prog f (Value.agg (seE x).toArray :: cap).toArray w1 fun v w2 => v = .bool (p x) ∧ Fr No w1 w2) :
    Rets Tryz.prog 118 #[v, fv] w fun u w' => u = .bool (xs.any p) ∧ Fr No w w' := by
  subst hfv
  refine rets_of Tryz.func118 rfl Tryz.ntmps118 rfl rfl (by kernel_rfl) ?_
  (apply vC_seq; apply vC_region; (refine vE rfl ?_); apply vL_nil; apply seqP_normal; apply vC_seq; apply vC_region; ((apply vL_val); (case h => ((apply opv_move); ((conv => lhs; whnf) <;> exact rfl)))); (refine vE rfl ?_))
  refine vL_callF rfl (indexFunc_snd _ v p xs w f cap hr rfl hf) rfl ?_
  rintro _ w2 ⟨hf2, ⟨rfl, h⟩ | ⟨k, rfl, hk, ⟨y, hy, hp⟩, _⟩⟩
  · ((iterate 2 ((refine vE rfl ?_))); apply vL_nil; apply seqP_normal; apply vC_ret)
    (apply ret1; (case h1 => (exact norm_eq rfl)))
    refine ⟨congrArg Value.bool ?_, hf2⟩
    rw [decide_eq_false (by omega)]
    exact (List.any_eq_false.2 (fun y hy => by rw [h y hy]; decide)).symm
  · ((iterate 2 ((refine vE rfl ?_))); apply vL_nil; apply seqP_normal; apply vC_ret)
    (apply ret1; (case h1 => (exact norm_eq rfl)))
    refine ⟨congrArg Value.bool ?_, hf2⟩
    rw [decide_eq_true (by omega)]
    exact (List.any_eq_true.2 ⟨y, List.mem_of_getElem? hy, hp⟩).symm
theorem indexFunc_rcv (fv v : Value) (p : RE → Bool) (xs : List RE) (w : World) (f : FuncId) (cap : List Value) [FnOk Tryz.prog f] (hr : Rd w.heap 2 reE v xs) (hfv : fv = .func (.func f) #[] cap.toArray)
    (hf : ∀ x w1, x ∈ xs → Fr No w w1 → Rets Tryz.prog f (Value.agg (reE x).toArray :: cap).toArray w1 fun v w2 => v = .bool (p x) ∧ Fr No w1 w2) :
    Rets Tryz.prog 177 #[v, fv] w fun u w' => Fr No w w' ∧ ((u = .int .i64 (-1) ∧ ∀ x ∈ xs, p x = false) ∨ ∃ k : Nat, u = .int .i64 k ∧ k < xs.length ∧ (∃ x, xs[k]? = some x ∧ p x = true) ∧ ∀ j, j < k → ∀ x, xs[j]? = some x → p x = false) := by
  subst hfv
  have hs := hr.small
  refine rets_of Tryz.func177 rfl Tryz.ntmps177 rfl rfl (by kernel_rfl) ?_
  (apply vC_seq; apply vC_region; (refine vE rfl ?_); apply vL_nil; apply seqP_normal; (iterate 2 (apply vC_seq)); apply vC_region; ((apply vL_val); (case h => ((apply opv_move); ((conv => lhs; whnf) <;> exact rfl)))); ((apply vL_val); (case h => ((apply opv_len); ((conv => lhs; whnf) <;> exact rfl); assumption))); (refine vE rfl ?_); apply vL_nil; apply seqP_normal; apply vC_block)
  (apply vC_loop1 524080 8 (fun u w' => ∃ k : Nat, u = .int .i64 k ∧ k ≤ xs.length ∧ Fr No w w' ∧ ∀ j, j < k → ∀ x, xs[j]? = some x → p x = false) (fun u _ => xs.length - (RowKit.intOf u).toNat)); (case h1 => (exact norm_eq rfl))
  case h0 => exact ⟨0, rfl, by omega, Fr.refl _ _, by omega⟩
  case round =>
  rintro junk _ w1 ⟨k, rfl, hk, hfr, hp⟩
  have hr1 := Rd.frN hfr hr
  (apply vC_seq; apply vC_region; (refine vE rfl ?_); apply vL_nil; apply seqP_normal; apply vC_seq)
  refine vC_cond_dec rfl (fun h => ?_) (fun h => ?_)
  · have hk' : k < xs.length := by omega
    obtain ⟨x, hx⟩ : ∃ x, xs[k]? = some x := ⟨xs[k], by simp [hk']⟩
    (apply vC_skip; apply seqP_normal; apply vC_seq; apply vC_block; apply vC_seq; apply vC_region; (iterate 2 ((refine vE rfl ?_))); apply vL_nil; apply seqP_normal; apply vC_seq; apply vC_region; (refine vE rfl ?_); ((apply vL_val); (case h => ((apply opv_move); ((conv => lhs; whnf) <;> exact rfl)))); (refine vE rfl ?_); ((apply vL_val); (case h => ((apply opv_indexAddr); ((conv => lhs; whnf) <;> exact rfl); exact rfl; assumption; (first | omega | (simp only [List.length_map]; omega)); (first | omega | (simp only [List.length_map]; omega))))); ((apply vL_val); (case h => ((apply opv_ld_eln); exact rfl; exact rfl; assumption; assumption))))
    refine vL_callF rfl (hf x _ (List.mem_of_getElem? hx) (by (assumption))) rfl ?_
    rintro _ w2 ⟨rfl, hfr2⟩
    have hfr3 : Fr No w w2 := Fr.trans (by (assumption)) hfr2
    (apply vL_nil; apply seqP_normal)
    refine vC_cond rfl (fun hpx => ?_) (fun hpx => ?_)
    · (apply vC_seq; apply vC_region; (iterate 2 ((refine vE rfl ?_))); apply vL_nil; apply seqP_normal; apply vC_ret; apply blockP_ret; apply seqP_ret; apply loopP_ret; apply blockP_ret; apply seqP_ret)
      (apply ret1; (case h1 => (exact norm_eq rfl)))
      exact ⟨hfr3, .inr ⟨k, rfl, hk', ⟨x, hx, hpx⟩, hp⟩⟩
    · (apply vC_skip; apply blockP_normal; apply seqP_normal; apply vC_region; ((apply vL_val); (case h => ((apply opv_add); exact rfl; exact rfl; (first | omega | (simp only [List.length_map]; omega))))); (refine vE rfl ?_); apply vL_nil; apply loopP_normal)
      (with_reducible apply end1); (case hs => ((iterate 11 (((refine same_updO ?_ ?_); rotate_left; exact rfl))); ((refine same_upd ?_ ?_); rotate_left; exact rfl); (exact same_mask _ _ _))); (case h1 => (exact norm_eq rfl))
      · exact ⟨k + 1, rfl, by omega, hfr3, fun j hj y hy => by
          by_cases e : j = k
          · subst e; rw [hx] at hy; cases hy; exact hpx
          · exact hp j (by omega) y hy⟩
      · simp [RowKit.intOf]; omega
  · (apply vC_exit; apply seqP_exit; apply loopP_exit; apply blockP_exit; apply seqP_normal; apply vC_seq; apply vC_region; (refine vE rfl ?_); apply vL_nil; apply seqP_normal; apply vC_ret)
    (apply ret1; (case h1 => (exact norm_eq rfl)))
    refine ⟨hfr, .inl ⟨rfl, fun x hx => ?_⟩⟩
    obtain ⟨j, hj, rfl⟩ := List.getElem_of_mem hx
    exact hp j (by omega) _ (List.getElem?_eq_getElem hj)
theorem deleteFunc_rcv (fv v : Value) (p : RE → Bool) (xs : List RE) (w : World) (f : FuncId) (cap : List Value) [FnOk Tryz.prog f] (ho : Own w.heap 157 2 reE v xs) (hone : v.oneCell' = true) (hfv : fv = .func (.func f) #[] cap.toArray)
    (hf : ∀ x w1, x ∈ xs → Fr (fun k => own v = some k) w w1 → Rets Tryz.prog f (Value.agg (reE x).toArray :: cap).toArray w1 fun v w2 => v = .bool (p x) ∧ Fr No w1 w2) :
    Rets Tryz.prog 180 #[v, fv] w fun u w' => Fr (fun k => own v = some k) w w' ∧ Own w'.heap 157 2 reE u (xs.filter fun x => !p x) ∧ own u = own v ∧ u.oneCell' = true := by
  have hs := ho.rd.small
  have hol := ho.lt
  refine rets_of Tryz.func180 rfl Tryz.ntmps180 rfl rfl (by kernel_rfl) ?_
  (apply vC_seq; apply vC_region; (refine vE rfl ?_); apply vL_nil; apply seqP_normal; apply vC_seq; apply vC_region; (iterate 2 (((apply vL_val); (case h => ((apply opv_move); ((conv => lhs; whnf) <;> exact rfl)))))))
  refine vL_callF rfl (indexFunc_rcv fv v p xs w f cap ho.rd hfv (fun x w1 hx h => hf x w1 hx h.no_any)) rfl ?_
  subst hfv
  rintro _ w1 ⟨hf1, ⟨rfl, hno⟩ | ⟨k, rfl, hk, ⟨x0, hx0, hpx0⟩, hp⟩⟩
  · have F1 : From w1 _ := ⟨hf1⟩
    ((refine vE rfl ?_); apply vL_nil; apply seqP_normal; (iterate 2 (apply vC_seq)); apply vC_region; (iterate 2 ((refine vE rfl ?_))); apply vL_nil; apply seqP_normal; ((apply vC_cond_true); exact rfl); apply vC_seq; apply vC_region; ((apply vL_val); (case h => ((apply opv_move); ((conv => lhs; whnf) <;> exact rfl)))); ((apply vL_val); (case h => ((apply opv_assign); ((conv => lhs; whnf) <;> exact rfl)))); apply vL_nil; apply seqP_normal; apply vC_ret; apply seqP_ret)
    (apply ret1; (case h1 => (((conv => lhs; whnf) <;> exact rfl))))
    refine ⟨hf1.mono (fun k _ h => h.elim), ?_, rfl, hone⟩
    have : xs.filter (fun x => !p x) = xs := by
      rw [List.filter_eq_self]
      intro x hx
      simp [hno x hx]
    rw [this]
    exact ho.frN hf1
  have ho1 := ho.frN hf1
  ((iterate 21 (first | with_reducible apply vC_seq | with_reducible apply vC_region | with_reducible apply seqP_normal | with_reducible apply vC_skip | ((with_reducible apply vC_cond_false); exact rfl) | (refine vE rfl ?_) | ((with_reducible apply vL_val); (case h => ((with_reducible apply opv_add); exact rfl; exact rfl; (first | omega | (simp only [List.length_map]; omega))))) | with_reducible apply vL_nil)); apply vC_block)
  (apply vC_loop3 68719411424 6 5 7 (fun u v5 _ w' => ∃ (i j : Nat) (cur : List RE), u = .int .i64 (j : Int) ∧ v5 = .int .i64 (i : Int) ∧ i < j ∧ j ≤ xs.length ∧ Own w'.heap 157 2 reE v cur ∧ cur.length = xs.length ∧ cur.take i = (xs.take j).filter (fun x => !p x) ∧ cur.drop j = xs.drop j ∧ Fr (fun k => own v = some k) w w') (fun u _ _ _ => xs.length - (RowKit.intOf u).toNat)); (case h1 => (exact norm_eq rfl)); (case h2 => (exact norm_eq rfl)); (case h3 => (exact norm_eq rfl))
  case h0 =>
    refine ⟨k, k + 1, xs, rfl, rfl, by omega, by omega, ho1, rfl, ?_, rfl, hf1.mono (fun k _ h => h.elim)⟩
    rw [filter_next hx0]
    simp only [hpx0, Bool.not_true, Bool.false_eq_true, if_false]
    symm
    rw [List.filter_eq_self]
    intro x hx
    obtain ⟨j, hj, rfl⟩ := List.getElem_of_mem hx
    simp at hj
    have := hp j (by omega) (xs[j]'(by omega)) (List.getElem?_eq_getElem _)
    simp [this]
  case round =>
  rintro junk _ _ v7 w2 ⟨i, j, cur, rfl, rfl, hij, hj, ho2, hcl, hct, hcd, hf2⟩
  have hsz2 := hf2.size
  (((iterate 2 (apply vC_seq)); apply vC_region)); (((refine vE rfl ?_); ((apply vL_val); (case h => ((apply opv_move); ((conv => lhs; whnf) <;> exact rfl)))); ((apply vL_val); (case h => ((apply opv_len); ((conv => lhs; whnf) <;> exact rfl); infer_instance))); (refine vE rfl ?_); apply vL_nil)); with_reducible apply seqP_normal
  (skip)
  refine vC_cond_dec rfl (fun hc => ?_) (fun hc => ?_)
  · have hj' : j < xs.length := by omega
    obtain ⟨x, hx⟩ : ∃ x, xs[j]? = some x := ⟨xs[j], by simp [hj']⟩
    have hcx : cur[j]? = some x := by
      have h1 : (cur.drop j)[0]? = (xs.drop j)[0]? := by rw [hcd]
      simpa [hx] using h1
    have hcx' : cur[((j : Nat) : Int).toNat]? = some x := hcx
    obtain ⟨y, hy⟩ : ∃ y, cur[i]? = some y := ⟨cur[i]'(by omega), List.getElem?_eq_getElem _⟩
    have hy' : cur[((i : Nat) : Int).toNat]? = some y := hy
    have hxf := x.f.2
    ((apply vC_skip; apply seqP_normal; apply vC_seq; apply vC_block; apply vC_seq; apply vC_region))
    ((((apply vL_val); (case h => ((apply opv_move); ((conv => lhs; whnf) <;> exact rfl)))); (refine vE rfl ?_); ((apply vL_val); (case h => ((apply opv_indexAddr); ((conv => lhs; whnf) <;> exact rfl); exact rfl; infer_instance; (first | omega | (simp only [List.length_map]; omega)); (first | omega | (simp only [List.length_map]; omega))))); ((apply vL_val); (case h => ((apply opv_ld_eln); exact rfl; exact rfl; infer_instance; assumption))); ((apply vL_val); (case h => (apply opw_alloc))); ((apply vL_skip); (case h => ((apply ops_storen); exact norm_eq rfl; exact norm_eq rfl; exact rfl; exact (fun u hu => EncOk.one _ u hu); infer_instance; (first | decide | exact of_decide_eq_true rfl | (simp; done))))); apply vL_nil)); with_reducible apply seqP_normal
    ((apply vC_seq; apply vC_region))
    refine vL_gen (fun w' => Fr No w2 w' ∧ Blk w'.heap w2.heap.size (reE x) 157) ⟨by (apply Fr.allocSet; exact Fr.refl _ _), Blk.as inferInstance rfl⟩ ?_
    rintro w3 ⟨hf3, h73⟩
    obtain ⟨b7, hb7⟩ : ∃ b7, b7 = w2.heap.size := ⟨_, rfl⟩
    rw [← hb7] at h73 ⊢
    have ho3 := ho2.frN hf3
    have hf23 : Fr (fun k => own v = some k) w w3 := hf2.trans (hf3.mono (fun k _ h => h.elim))
    ((refine vE rfl ?_); ((apply vL_val); (case h => ((apply opv_loadbC); exact rfl; exact rfl; assumption; exact (rfl : _ = [_, _]); exact rfl))))
    refine vL_callF rfl (hf x w3 (List.mem_of_getElem? hx) hf23) rfl ?_
    rintro _ w4 ⟨rfl, hf4⟩
    have hf24 : Fr (fun k => own v = some k) w w4 := hf23.trans (hf4.mono (fun k _ h => h.elim))
    have ho4 := ho3.frN hf4
    have h74 := h73.frN hf4
    (((refine vL_val (opv_not rfl) ?_); apply vL_nil)); with_reducible apply seqP_normal
    (skip)
    cases hpx : p x with
    | false =>
      (((apply vC_cond_true); exact rfl); apply vC_seq; apply vC_region; ((apply vL_val); (case h => ((apply opv_move); ((conv => lhs; whnf) <;> exact rfl)))); (refine vE rfl ?_); ((apply vL_val); (case h => ((apply opv_loadbC); exact rfl; exact rfl; assumption; exact (rfl : _ = [_, _]); exact rfl))); ((apply vL_val); (case h => ((apply opv_indexAddr); ((conv => lhs; whnf) <;> exact rfl); exact rfl; infer_instance; (first | omega | (simp only [List.length_map]; omega)); (first | omega | (simp only [List.length_map]; omega))))))
      refine vL_storeElS (enc := reE) (xs := cur) (x0 := y) (j := 0) (m := 2) (us := reE x) x rfl rfl hy' rfl (fun u hu => EncOk.one _ u hu) rfl (by decide) ho4 ?_
      intro w5 ho5 hf5
      ((iterate 14 (first | with_reducible apply vC_region | with_reducible apply seqP_normal | with_reducible apply blockP_normal | (refine vE rfl ?_) | ((with_reducible apply vL_val); (case h => ((with_reducible apply opv_add); exact rfl; exact rfl; (first | omega | (simp only [List.length_map]; omega))))) | with_reducible apply vL_nil)); apply loopP_normal)
      (with_reducible apply end3); (case hs => ((iterate 24 (first | with_reducible apply same_updN | ((with_reducible refine same_updO ?_ ?_); rotate_left; exact rfl))); (iterate 3 (((refine same_upd ?_ ?_); rotate_left; exact rfl))); (exact same_mask _ _ _))); (case h1 => (exact norm_eq rfl)); (case h2 => (exact norm_eq rfl)); (case h3 => (exact norm_eq rfl))
      · refine ⟨i + 1, j + 1, cur.set i x, rfl, rfl, by omega, by omega, ho5, by simp [hcl], ?_, ?_, hf24.trans hf5⟩
        · rw [filter_next hx, if_pos (by simpa using hpx), ← hct]
          rw [List.take_succ_eq_append_getElem (by simp; omega)]
          simp [List.take_set_of_le]
        · rw [List.drop_set_of_lt (by omega)]
          rw [← List.drop_drop, ← List.drop_drop, hcd]
      · simp [RowKit.intOf]; omega
    | true =>
      (((apply vC_cond_false); exact rfl); apply vC_skip; apply blockP_normal; apply seqP_normal; apply vC_region; (refine vE rfl ?_); ((apply vL_val); (case h => ((apply opv_add); exact rfl; exact rfl; (first | omega | (simp only [List.length_map]; omega))))); (refine vE rfl ?_); apply vL_nil; apply loopP_normal)
      (with_reducible apply end3); (case hs => ((iterate 17 (first | with_reducible apply same_updN | ((with_reducible refine same_updO ?_ ?_); rotate_left; exact rfl))); (iterate 3 (((refine same_upd ?_ ?_); rotate_left; exact rfl))); (exact same_mask _ _ _))); (case h1 => (exact norm_eq rfl)); (case h2 => (exact norm_eq rfl)); (case h3 => (exact norm_eq rfl))
      · refine ⟨i, j + 1, cur, rfl, rfl, by omega, by omega, ho4, hcl, ?_, ?_, hf24⟩
        · rw [filter_next hx, if_neg (by simp [hpx]), ← hct]
        · rw [← List.drop_drop, ← List.drop_drop, hcd]
      · simp [RowKit.intOf]; omega
  have ej : j = xs.length := by omega
  subst ej
  rw [List.take_length] at hct
  have hrep : ∀ m : Nat, ((List.replicate m [Value.pointer none, Value.nilFunc]).flatten).length = m * 2 := fun m => by simp
  rcases ho2.shape with ⟨_, rfl⟩ | ⟨g, cap', cs, rfl, hb, hn, hm, hl, ht⟩
  · simp at hcl; omega
  have hm' : cap' ≤ 9223372036854775807 := by unfold maxLen at hm; omega
  have hlen : (xs.filter fun x => !p x).length = i := by rw [← hct]; simp; omega
  (apply vC_exit; apply seqP_exit; apply loopP_exit; apply blockP_exit; apply seqP_normal; apply vC_seq; apply vC_region; (iterate 2 ((refine vE rfl ?_))); ((apply vL_val); (case h => ((apply opv_slice_lo'); exact rfl; exact rfl; (first | omega | (simp only [List.length_map]; omega)); (first | omega | (simp only [List.length_map]; omega))))))
  apply vL_val
  (case h => (refine opw_clearN (sz := 2) (z := [Value.pointer none, Value.nilFunc]) (by (exact norm_eq rfl)) rfl (by decide) (by decide) hb ?_; rw [if_neg (by omega)]; omega))
  (apply vL_nil; apply seqP_normal; apply vC_seq; apply vC_region; (iterate 2 ((refine vE rfl ?_))); ((apply vL_val); (case h => ((apply opv_slice_hi'); exact rfl; exact rfl; (first | omega | (simp only [List.length_map]; omega)); (first | omega | (simp only [List.length_map]; omega))))); (refine vE rfl ?_); apply vL_nil; apply seqP_normal; apply vC_ret)
  (apply ret1; (case h1 => (exact norm_eq rfl)))
  refine ⟨hf2.set g _ (.inl rfl), ?_, rfl, rfl⟩
  refine ⟨fun x _ => EncOk.len x, .inr ⟨g, cap', _, ?_, Blk.set hb, ?_, hm, ?_, ?_⟩⟩
  · rw [hlen]; rfl
  · rw [hlen]; omega
  · rw [if_neg (by omega)]; simp only [List.length_append, List.length_take, List.length_drop, hrep]; omega
  · rw [if_neg (by omega), hlen, List.append_assoc]
    rw [show 0 + (i : Int).toNat * 2 = i * 2 by omega]
    rw [List.take_append_of_le_length (by simp; omega), List.take_take, Nat.min_eq_left (by omega), ← hct, flatMap_take cur i ho2.size, ← ht, List.take_take]
    congr 1
    omega
theorem q_drop_rcv (b : Nat) (lv : Value) (p : RE → Bool) (xs : List RE) (w : World) (f : FuncId) (cap : List Value) [FnOk Tryz.prog f] (hb : Blk w.heap b [.bool true, lv] 229) (ho : Own w.heap 157 2 reE lv xs) (hone : lv.oneCell' = true)
    (hf : ∀ x w1, x ∈ xs → Fr (fun k => own lv = some k) w w1 → Rets Tryz.prog f (Value.agg (reE x).toArray :: cap).toArray w1 fun v w2 => v = .bool (p x) ∧ Fr No w1 w2) :
    Rets Tryz.prog 124 #[pt b, .func (.func f) #[] cap.toArray] w fun u w' => ∃ lv', Fr (fun k => k = b ∨ own lv = some k) w w' ∧ Blk w'.heap b [.bool true, lv'] 229 ∧ Own w'.heap 157 2 reE lv' (xs.filter fun x => !p x) ∧ own lv' = own lv ∧ lv'.oneCell' = true ∧
      u = .int .i64 ((xs.length : Int) - ((xs.filter fun x => !p x).length : Nat)) := by
  have hs := ho.rd.small
  have hfl := List.length_filter_le (fun x => !p x) xs
  refine rets_of Tryz.func124 rfl Tryz.ntmps124 rfl rfl (by kernel_rfl) ?_
  (apply vC_seq; apply vC_region; (refine vE rfl ?_); apply vL_nil; apply seqP_normal; (iterate 2 (apply vC_seq)); apply vC_region; (refine vE rfl ?_))
  refine vL_callF rfl (q_right_rcv b true lv w hb) rfl ?_
  rintro _ _ ⟨rfl, rfl⟩
  ((refine vL_val (opv_not rfl) ?_); (iterate 6 (first | (refine vE rfl ?_) | (refine vL_val (opv_eql_fnil rfl rfl) ?_) | ((with_reducible apply vL_wanted); exact rfl))); apply vL_nil; apply seqP_normal; ((apply vC_cond_false); exact rfl); apply vC_skip; (iterate 19 (first | with_reducible apply vC_seq | with_reducible apply vC_region | with_reducible apply seqP_normal | (refine vE rfl ?_) | ((with_reducible apply vL_val); (case h => ((with_reducible apply opv_loadb1); exact rfl; exact rfl; assumption; exact rfl))) | (refine vL_val (opv_fieldAddr rfl) ?_) | ((with_reducible apply vL_val); (case h => ((with_reducible apply opv_len); ((conv => lhs; whnf) <;> exact rfl); infer_instance))) | with_reducible apply vL_nil)))
  refine vL_callF rfl (deleteFunc_rcv _ lv p xs w f cap ho hone rfl hf) rfl ?_
  rintro v' w1 ⟨hf1, ho1, hown, hone1⟩
  have hne : own lv ≠ some b := Own.ne_blk ho hb (by decide)
  have hb1 : Blk w1.heap b [.bool true, lv] 229 := Blk.fr hf1 hb hne
  haveI : OffB v' b := ⟨by rw [hown]; exact hne⟩
  ((refine vE rfl ?_); (refine vL_val (opv_fieldAddr rfl) ?_); ((apply vL_skip); (case h => ((apply ops_store1); exact norm_eq rfl; ((conv => lhs; whnf) <;> exact rfl); (first | rfl | assumption); assumption; (first | decide | exact of_decide_eq_true rfl | (simp; done))))); apply vL_nil; apply seqP_normal; apply vC_seq; apply vC_region; (iterate 3 ((refine vE rfl ?_))); (refine vL_val (opv_fieldAddr rfl) ?_); ((apply vL_val); (case h => ((apply opv_loadb1); exact rfl; exact rfl; infer_instance; exact rfl))); ((apply vL_val); (case h => ((apply opv_len); ((conv => lhs; whnf) <;> exact rfl); infer_instance))); ((apply vL_val); (case h => ((apply opv_sub); exact rfl; exact rfl; (first | omega | (simp only [List.length_map]; omega))))); (refine vE rfl ?_); apply vL_nil; apply seqP_normal; apply vC_ret)
  (apply ret1; (case h1 => (exact norm_eq rfl)))
  have h1 : Fr (fun k => k = b ∨ own lv = some k) w w1 := hf1.mono (fun k _ h => .inr h)
  exact ⟨v', h1.set _ _ (.inl (.inl rfl)), inferInstance, (inferInstance : Own (w1.setRow b _).heap _ _ _ v' _), hown, hone1, rfl⟩
theorem clone_rcv (v : Value) (xs : List RE) (w : World) (hr : Rd w.heap 2 reE v xs) (hbig : xs.length * 16 ≤ 140737488355328) :
    Rets Tryz.prog 152 #[v] w fun u w' => Fr No w w' ∧ Own w'.heap 157 2 reE u xs ∧ (∀ b, own u = some b → w.heap.size ≤ b) ∧ u.oneCell' = true := by
  have hs := hr.small
  refine rets_of Tryz.func152 rfl Tryz.ntmps152 rfl rfl (by kernel_rfl) ?_
  rcases hr.shape with ⟨rfl, none | a, rfl⟩ | ⟨b, o, c, rfl, hc⟩
  · ((iterate 18 (first | with_reducible apply vC_seq | with_reducible apply vC_region | with_reducible apply seqP_normal | ((with_reducible apply vC_cond_true); exact rfl) | (refine vE rfl ?_) | (refine vL_val (opv_eql_snil rfl rfl) ?_) | with_reducible apply vL_nil)); apply vC_ret; apply seqP_ret)
    (apply ret1; (case h1 => (exact norm_eq rfl)))
    exact ⟨Fr.refl _ _, Own.nil _ _ _ _, fun b hb => (by cases hb), rfl⟩
  · (apply vC_seq; apply vC_region; (refine vE rfl ?_); apply vL_nil; apply seqP_normal; (iterate 2 (apply vC_seq)); apply vC_region; (refine vE rfl ?_); (refine vL_val (opv_eql_snil rfl rfl) ?_); apply vL_nil; apply seqP_normal; ((apply vC_cond_false); exact rfl); apply vC_skip; apply seqP_normal; apply vC_seq; apply vC_region; ((apply vL_val); (case h => ((apply opw_buildSl); exact rfl; exact rfl; exact rfl; exact (rfl : _ = some [])))); (refine vE rfl ?_))
    refine vL_append (enc := reE) (xs := []) (ys := []) (T := 157) (sz := 2) (by (exact norm_eq rfl)) (by (exact norm_eq rfl)) (Own.newN reE [] rfl rfl (by decide)) inferInstance rfl (by decide) ?_ ?_ ?_
    · simp [maxLen]
    · simp
    intro v' w2 ho hf hfresh hone _
    (((apply vL_val); (case h => ((apply opv_assign); ((conv => lhs; whnf) <;> exact rfl)))); apply vL_nil; apply seqP_normal; apply vC_ret)
    (apply ret1; (case h1 => (((conv => lhs; whnf) <;> exact rfl))))
    refine ⟨((Fr.refl No w).alloc _).trans' hf (fun k hk => .inr (by cases hk; exact Nat.le_refl _)), ho, fun b hb => ?_, hone⟩
    rcases hfresh b hb with h | h
    · cases h; exact Nat.le_refl _
    · rw [alloc_size] at h; omega
  · (apply vC_seq; apply vC_region; (refine vE rfl ?_); apply vL_nil; apply seqP_normal; (iterate 2 (apply vC_seq)); apply vC_region; (refine vE rfl ?_); (refine vL_val (opv_eql_snil rfl rfl) ?_); apply vL_nil; apply seqP_normal; ((apply vC_cond_false); exact rfl); apply vC_skip; apply seqP_normal; apply vC_seq; apply vC_region; ((apply vL_val); (case h => ((apply opw_buildSl); exact rfl; exact rfl; exact rfl; exact (rfl : _ = some [])))); (refine vE rfl ?_))
    refine vL_append (enc := reE) (xs := []) (ys := xs) (T := 157) (sz := 2) (by (exact norm_eq rfl)) (by (exact norm_eq rfl)) (Own.newN reE [] rfl rfl (by decide)) inferInstance rfl (by decide) ?_ ?_ ?_
    · simp [maxLen]; omega
    · simpa using hbig
    intro v' w2 ho hf hfresh hone _
    (((apply vL_val); (case h => ((apply opv_assign); ((conv => lhs; whnf) <;> exact rfl)))); apply vL_nil; apply seqP_normal; apply vC_ret)
    (apply ret1; (case h1 => (((conv => lhs; whnf) <;> exact rfl))))
    refine ⟨((Fr.refl No w).alloc _).trans' hf (fun k hk => .inr (by cases hk; exact Nat.le_refl _)), ho, fun b hb => ?_, hone⟩
    rcases hfresh b hb with h | h
    · cases h; exact Nat.le_refl _
    · rw [alloc_size] at h; omega
theorem q_list_rcv (b : Nat) (lv : Value) (xs : List RE) (w : World) (hb : Blk w.heap b [.bool true, lv] 229) (ho : Own w.heap 157 2 reE lv xs) (hbig : xs.length * 16 ≤ 140737488355328) :
    Rets Tryz.prog 115 #[pt b] w fun u w' => Fr No w w' ∧ Own w'.heap 157 2 reE u xs ∧ (∀ b, own u = some b → w.heap.size ≤ b) ∧ u.oneCell' = true := by
  refine rets_of Tryz.func115 rfl Tryz.ntmps115 rfl rfl (by kernel_rfl) ?_
  (apply vC_seq; apply vC_region; (refine vE rfl ?_); apply vL_nil; apply seqP_normal; (iterate 2 (apply vC_seq)); apply vC_region; (refine vE rfl ?_))
  refine vL_callF rfl (q_right_rcv b true lv w hb) rfl ?_
  rintro _ _ ⟨rfl, rfl⟩
  ((refine vL_val (opv_not rfl) ?_); apply vL_nil; apply seqP_normal; ((apply vC_cond_false); exact rfl); apply vC_skip; apply seqP_normal; apply vC_seq; apply vC_region; (iterate 2 ((refine vE rfl ?_))); (refine vL_val (opv_fieldAddr rfl) ?_); ((apply vL_val); (case h => ((apply opv_loadb1); exact rfl; exact rfl; assumption; exact rfl))))
  refine vL_callF rfl (clone_rcv lv xs w ho.rd hbig) rfl ?_
  rintro u w1 ⟨hf1, ho1, hfresh1, hone⟩
  (((apply vL_val); (case h => ((apply opv_assign); ((conv => lhs; whnf) <;> exact rfl)))); apply vL_nil; apply seqP_normal; apply vC_ret)
  (apply ret1; (case h1 => (((conv => lhs; whnf) <;> exact rfl))))
  exact ⟨hf1, ho1, hfresh1, hone⟩
theorem containsFunc_rcv (fv v : Value) (p : RE → Bool) (xs : List RE) (w : World) (f : FuncId) (cap : List Value) [FnOk Tryz.prog f] (hr : Rd w.heap 2 reE v xs) (hone : v.oneCell' = true) (hfv : fv = .func (.func f) #[] cap.toArray)
    (hf : ∀ x w1, x ∈ xs → Fr No w w1 → Rets Tryz.prog f (Value.agg (reE x).toArray :: cap).toArray w1 fun v w2 => v = .bool (p x) ∧ Fr No w1 w2) :
    Rets Tryz.prog 114 #[v, fv] w fun u w' => u = .bool (xs.any p) ∧ Fr No w w' := by
  subst hfv
  refine rets_of Tryz.func114 rfl Tryz.ntmps114 rfl rfl (by kernel_rfl) ?_
  (apply vC_seq; apply vC_region; (refine vE rfl ?_); apply vL_nil; apply seqP_normal; apply vC_seq; apply vC_region; ((apply vL_val); (case h => ((apply opv_move); ((conv => lhs; whnf) <;> exact rfl)))); (refine vE rfl ?_))
  refine vL_callF rfl (indexFunc_rcv _ v p xs w f cap hr rfl hf) rfl ?_
  rintro _ w2 ⟨hf2, ⟨rfl, h⟩ | ⟨k, rfl, hk, ⟨y, hy, hp⟩, _⟩⟩
  · ((iterate 2 ((refine vE rfl ?_))); apply vL_nil; apply seqP_normal; apply vC_ret)
    (apply ret1; (case h1 => (exact norm_eq rfl)))
    refine ⟨congrArg Value.bool ?_, hf2⟩
    rw [decide_eq_false (by omega)]
    exact (List.any_eq_false.2 (fun y hy => by rw [h y hy]; decide)).symm
  · ((iterate 2 ((refine vE rfl ?_))); apply vL_nil; apply seqP_normal; apply vC_ret)
    (apply ret1; (case h1 => (exact norm_eq rfl)))
    refine ⟨congrArg Value.bool ?_, hf2⟩
    rw [decide_eq_true (by omega)]
    exact (List.any_eq_true.2 ⟨y, List.mem_of_getElem? hy, hp⟩).symm
end Go.Proofs.YtbaidcnalkdhgaaGreat
