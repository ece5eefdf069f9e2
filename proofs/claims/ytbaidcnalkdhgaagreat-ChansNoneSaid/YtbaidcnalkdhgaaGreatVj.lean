/- Layer 16: a turn of the law's world: the walk. Layer 16: the law's machine: what all its acts keep. Layer 16: a step of the law's world. Layers 15, 16: New; the plain world that is empty; lists that grow. Layers 15, 16: many steps, of any machine. -/
import Derived.Test.YtbaidcnalkdhgaaGreatVe
import Derived.Test.YtbaidcnalkdhgaaGreatEz
set_option maxRecDepth 100000
namespace Go.Proofs.YtbaidcnalkdhgaaGreat
open Go Go.Eng
structure Pz16 (h : Array Obj) (vp : Value) (P : List (OV × List Do5)) : Prop where
  hP : Rd h 1 oE vp P
  hPi : ∀ y ∈ P, Rd h 5 do5 y.1.1 y.2
  one : vp.oneCell' = true
theorem Pz16.frN {w w' : World} {vp : Value} {P : List (OV × List Do5)} (z : Pz16 w.heap vp P) (hf : Fr No w w') : Pz16 w'.heap vp P :=
  ⟨z.hP.frN hf, fun y hy => (z.hPi y hy).frN hf, z.one⟩
def k16 (tb prog pos : Nat) (x : To) : K16 := ⟨tb, prog, pos + 1, x⟩
def act16 (S : PS K16) (i tb prog pos : Nat) (d : Do5) : PS K16 :=
  if d.k = 1 then S.yield i (k16 tb prog pos ⟨0, 0, false⟩)
  else if d.k = 2 then S.send i d.c.toNat d.v (k16 tb prog pos ⟨0, 0, false⟩)
  else if d.k = 3 then S.recv i d.c.toNat (k16 tb prog pos ⟨0, 0, false⟩)
  else if d.k = 4 then (S.close d.c.toNat).1.yield i (k16 tb prog pos ⟨0, 0, (S.close d.c.toNat).2⟩)
  else if d.k = 6 then (S.trySend d.c.toNat d.v).1.yield i (k16 tb prog pos ⟨0, 0, (S.trySend d.c.toNat d.v).2.1⟩)
  else if d.k = 7 then (S.tryRecv d.c.toNat).1.yield i (k16 tb prog pos ⟨if (S.tryRecv d.c.toNat).2.2.2 then 0 else 1, (S.tryRecv d.c.toNat).2.1, (S.tryRecv d.c.toNat).2.2.1⟩)
  else S
section
variable {κ : Type} {S : PS κ} {i : Nat} {s : St κ}
theorem allR_keep (l : List Nat) : ∀ {S : PS κ}, S.sts[i]? = some s → s.waits = false → (S.allR l).sts[i]? = some s ∧ (S.allR l).tbs = S.tbs := by
  induction l with
  | nil => exact fun h _ => ⟨h, rfl⟩
  | cons m r ih =>
    intro S h hw
    obtain ⟨h1, h2⟩ := ih (S := S.wokeR m 0 false) (wokeR_keep h hw) hw
    exact ⟨h1, h2.trans (wokeR_tbs _ _ _ _)⟩
theorem allS_keep (l : List Nat) : ∀ {S : PS κ}, S.sts[i]? = some s → s.waits = false → (S.allS l).sts[i]? = some s ∧ (S.allS l).tbs = S.tbs := by
  induction l with
  | nil => exact fun h _ => ⟨h, rfl⟩
  | cons m r ih =>
    intro S h hw
    obtain ⟨h1, h2⟩ := ih (S := S.wokeS m false) (wokeS_keep h hw) hw
    exact ⟨h1, h2.trans (wokeS_tbs _ _ _)⟩
theorem close_keep (j : Nat) (h : S.sts[i]? = some s) (hw : s.waits = false) : (S.close j).1.sts[i]? = some s ∧ (S.close j).1.tbs = S.tbs := by
  unfold PS.close
  split
  · exact ⟨h, rfl⟩
  · rename_i d hd
    split
    · exact ⟨h, rfl⟩
    · unfold PS.ends
      obtain ⟨h1, h2⟩ := allR_keep (i := i) (s := s) d.rcv (S := S.setC j { d with closed := true, snd := [], rcv := [] }) h hw
      obtain ⟨h3, h4⟩ := allS_keep (i := i) (s := s) d.snd h1 hw
      exact ⟨h3, h4.trans h2⟩
end
theorem trySend_can {κ : Type} (S : PS κ) (j : Nat) (v : Int) (h : (S.trySend j v).2.1 = true) : (S.trySend j v).2.2 = true := by
  unfold PS.trySend at h ⊢
  split
  · rename_i hd; simp only [hd] at h; cases h
  · rename_i d hd
    simp only [hd] at h
    split
    · rfl
    · rename_i hc
      rw [if_neg hc] at h
      split
      · rfl
      · rename_i hr
        rw [hr] at h
        simp only [] at h
        split
        · rename_i hb; rw [if_pos hb] at h; cases h
        · rfl
theorem pw_boxes {κ : Type} {L : LawP κ} {rb : Nat} {nowi : Option Nat} {rest : Int} {S : PS κ} {w0 w : World} {F0 : Nat → Prop} : ∀ (l : List Bx) {kb : List Bx} {R : Asr}, At (Bxl l * (PWA L rb nowi rest kb S * R)) w0 F0 w → At (PWA L rb nowi rest (l ++ kb) S * R) w0 F0 w
  | [], kb, R, h => h.ac (by rw [show Bxl [] = Emp from rfl, emp_star]; rfl)
  | (b, cs, T) :: l, kb, R, h => by
    have h1 := pw_boxes l (kb := kb) (R := Pt b cs T * R) (h.ac (by rw [bxl_cons]; ac_rfl))
    exact pw_box (h1.ac (by ac_rfl))
section
variable {w w0 : World} {R : Asr} {wb rb tb i : Nat} {rest : Int} {kb : List Bx} {S : PS K16} {vp : Value} {tl : List Nat} {el : List Ev5}
theorem pw_tb {κ : Type} {L : LawP κ} {S : PS κ} {w0 w : World} {F0 : Nat → Prop} {nowi : Option Nat} [Lcl R] (S1 : At (PWA L rb nowi rest kb S * R) w0 F0 w) (ht : S.tbs[i]? = some tb) : ∃ x, Blk w.heap tb (tkL rb i x) 162 := by
  obtain ⟨q, hp, S2⟩ := pw_open S1
  rw [hp.tbs, List.getElem?_map] at ht
  cases hx : q.ts[i]? with
  | none => rw [hx] at ht; cases ht
  | some x =>
    rw [hx] at ht
    cases ht
    exact ⟨x.2, S2.task hx⟩
theorem w_turn [Lcl R] {P : List (OV × List Do5)} (z : Pz16 w0.heap vp P) (hP6 : P.length ≤ 6) (S1 : At (PWA (L16 wb) rb (some i) rest kb S * (WA wb rb vp (S.cs.map (·.cb)) tl el false * R)) w0 No w) (hi : S.sts[i]? = some .run) (ht : S.tbs[i]? = some tb) {prog pos : Nat} {d : OV × List Do5} (hd : P[prog]? = some d) (x : To)
    (hdo : ∀ y ∈ d.2, 0 ≤ y.c ∧ y.c < S.cs.length) (hev : el.length ≤ 100000) (hpos : pos ≤ 100000) :
    Rets Tryz.prog 108 #[pt wb, pt tb, .int .i64 prog, .int .i64 pos, toV x] w fun _ w' => ∃ kb', (∀ b ∈ kb, b ∈ kb') ∧ At (PWA (L16 wb) rb (some i) rest kb' (act16 S i tb prog pos ((d.2[pos]?).getD do0)) * (WA wb rb vp (S.cs.map (·.cb)) tl (el ++ [⟨i, pos, x.c, x.v, x.ok⟩]) false * R)) w0 No w' := by
  unfold toV
  refine rets_of Tryz.func108 rfl Tryz.ntmps108 rfl rfl (by kernel_rfl) ?_
  ((apply vC_seq; apply vC_region)); (((iterate 4 (((apply vL_val); (case h => ((apply opw_box1); exact norm_eq rfl; (first | rfl | assumption)))))); ((apply vL_val); (case h => ((apply opw_boxn); exact rfl))); apply vL_nil)); with_reducible apply seqP_normal
  ((apply vC_seq))
  refine vC_gen (fun w' => At (Pt ((((w.alloc (.cells #[pt wb] 53)).alloc (.cells #[pt tb] 34)).alloc (.cells #[.int .i64 prog] 3)).alloc (.cells #[.int .i64 pos] 3)).heap.size [.int .i64 x.c, .int .i64 x.v, .bool x.ok] 171 * (Pt (((w.alloc (.cells #[pt wb] 53)).alloc (.cells #[pt tb] 34)).alloc (.cells #[.int .i64 prog] 3)).heap.size [.int .i64 pos] 3 * (Pt ((w.alloc (.cells #[pt wb] 53)).alloc (.cells #[pt tb] 34)).heap.size [.int .i64 prog] 3 * (Pt (w.alloc (.cells #[pt wb] 53)).heap.size [pt tb] 34 * (Pt w.heap.size [pt wb] 53 * (PWA (L16 wb) rb (some i) rest kb S * (WA wb rb vp (S.cs.map (·.cb)) tl el false * R))))))) w0 No w') S1.alloc.alloc.alloc.alloc.alloc ?_
  intro w1 S2
  generalize ((((w.alloc (.cells #[pt wb] 53)).alloc (.cells #[pt tb] 34)).alloc (.cells #[.int .i64 prog] 3)).alloc (.cells #[.int .i64 pos] 3)).heap.size = b9 at S2 ⊢
  generalize (((w.alloc (.cells #[pt wb] 53)).alloc (.cells #[pt tb] 34)).alloc (.cells #[.int .i64 prog] 3)).heap.size = b8 at S2 ⊢
  generalize ((w.alloc (.cells #[pt wb] 53)).alloc (.cells #[pt tb] 34)).heap.size = b7 at S2 ⊢
  generalize (w.alloc (.cells #[pt wb] 53)).heap.size = b6 at S2 ⊢
  generalize w.heap.size = b5 at S2 ⊢
  have S3 := pw_boxes (L := L16 wb) (rb := rb) (nowi := some i) (rest := rest) (S := S) (kb := kb) (R := WA wb rb vp (S.cs.map (·.cb)) tl el false * R) [(b9, [.int .i64 x.c, .int .i64 x.v, .bool x.ok], 171), (b8, [.int .i64 pos], 3), (b7, [.int .i64 prog], 3), (b6, [pt tb], 34), (b5, [pt wb], 53)] (S2.ac (by
    rw [bxl_cons, bxl_cons, bxl_cons, bxl_cons, bxl_cons, show Bxl [] = Emp from rfl, star_emp]
    ac_rfl))
  clear S2 S1
  generalize hk0 : ([(b9, [.int .i64 x.c, .int .i64 x.v, .bool x.ok], 171), (b8, [.int .i64 pos], 3), (b7, [.int .i64 prog], 3), (b6, [pt tb], 34), (b5, [pt wb], 53)] ++ kb : List Bx) = k1 at S3
  have hkk : ∀ b ∈ kb, b ∈ k1 := fun b hb => by rw [← hk0]; exact List.mem_append_right _ hb
  have m9 : (b9, [.int .i64 x.c, .int .i64 x.v, .bool x.ok], 171) ∈ k1 := by rw [← hk0]; simp
  have m8 : (b8, [.int .i64 pos], 3) ∈ k1 := by rw [← hk0]; simp
  have m7 : (b7, [.int .i64 prog], 3) ∈ k1 := by rw [← hk0]; simp
  have m6 : (b6, [pt tb], 34) ∈ k1 := by rw [← hk0]; simp
  have m5 : (b5, [pt wb], 53) ∈ k1 := by rw [← hk0]; simp
  clear hk0
  obtain ⟨cv, tv, ev, S4⟩ := wa_open (S3.ac (show _ = WA wb rb vp (S.cs.map (·.cb)) tl el false * (PWA (L16 wb) rb (some i) rest k1 S * R) by ac_rfl))
  have e9 := pw_bx S3 m9
  have e8 := pw_bx S3 m8
  have e7 := pw_bx S3 m7
  have e6 := pw_bx S3 m6
  have e5 := pw_bx S3 m5
  have hwb := S4.blk
  obtain ⟨tkx, hid⟩ := pw_tb S3 ht
  have evf := (S4.ac (show _ = Ow 100 5 ev5 ev el * (Pt wb [pt rb, vp, cv, tv, ev, .bool false] 61 * (Ow 28 1 ptE cv (S.cs.map (·.cb)) * (Ow 34 1 ptE tv tl * (PWA (L16 wb) rb (some i) rest k1 S * R)))) by ac_rfl)).own
  generalize hX : (⟨i, pos, x.c, x.v, x.ok⟩ : Ev5) = nw
  have S5 := S4.ac (show _ = Ow 100 5 ev5 ev el * (Pt wb [pt rb, vp, cv, tv, ev, .bool false] 61 * (Ow 28 1 ptE cv (S.cs.map (·.cb)) * (Ow 34 1 ptE tv tl * (PWA (L16 wb) rb (some i) rest k1 S * R)))) by ac_rfl)
  refine vC_meet0 274877382656 (fun w' => ∃ ev', At (Ow 100 5 ev5 ev' (el ++ [nw]) * (Pt wb [pt rb, vp, cv, tv, ev', .bool false] 61 * (Ow 28 1 ptE cv (S.cs.map (·.cb)) * (Ow 34 1 ptE tv tl * (PWA (L16 wb) rb (some i) rest k1 S * R))))) w0 No w') ?_ ?_
  · refine vC_draw' ((fun wf => Blk wf.heap b5 [pt wb] 53 ∧ Blk wf.heap b6 [pt tb] 34 ∧ Blk wf.heap b8 [.int .i64 pos] 3 ∧ Blk wf.heap b9 [.int .i64 x.c, .int .i64 x.v, .bool x.ok] 171 ∧ Blk wf.heap tb (tkL rb i tkx) 162)) (by (first | exact trivial | assumption | infer_instance | (refine ⟨?_, ?_, ?_, ?_, ?_⟩ <;> (first | assumption | infer_instance)) | (skip; done))) ?_
    ((apply (tk 0)); (case hi => exact rfl); (case hf => kernel_rfl); (case hS => (first | exact trivial | assumption | infer_instance | (refine ⟨?_, ?_, ?_, ?_, ?_⟩ <;> (first | assumption | infer_instance)) | (skip; done))); (case hy => (rintro wf ⟨hwa, hwb, hwc, hwd, hwe⟩; (((apply opv_loadb1); exact rfl; exact rfl; assumption; exact rfl)))))
    ((apply (tk 1)); (case hi => exact rfl); (case hf => kernel_rfl); (case hS => (first | exact trivial | assumption | infer_instance | (refine ⟨?_, ?_, ?_, ?_, ?_⟩ <;> (first | assumption | infer_instance)) | (skip; done))); (case hy => (rintro wf ⟨hwa, hwb, hwc, hwd, hwe⟩; (((apply opv_loadb1); exact rfl; exact rfl; assumption; exact rfl)))))
    ((apply (tk 2)); (case hi => exact rfl); (case hf => kernel_rfl); (case hS => (first | exact trivial | assumption | infer_instance | (refine ⟨?_, ?_, ?_, ?_, ?_⟩ <;> (first | assumption | infer_instance)) | (skip; done))); (case hy => (rintro wf ⟨hwa, hwb, hwc, hwd, hwe⟩; (((apply opv_E); exact rfl)))))
    ((apply (tk 3)); (case hi => exact rfl); (case hf => kernel_rfl); (case hS => (first | exact trivial | assumption | infer_instance | (refine ⟨?_, ?_, ?_, ?_, ?_⟩ <;> (first | assumption | infer_instance)) | (skip; done))); (case hy => (rintro wf ⟨hwa, hwb, hwc, hwd, hwe⟩; (((apply opv_fieldAddr); exact rfl)))))
    ((apply (tk 5)); (case hi => exact rfl); (case hf => kernel_rfl); (case hS => (first | exact trivial | assumption | infer_instance | (refine ⟨?_, ?_, ?_, ?_, ?_⟩ <;> (first | assumption | infer_instance)) | (skip; done))); (case hy => (rintro wf ⟨hwa, hwb, hwc, hwd, hwe⟩; (((apply opv_loadb1); exact rfl; exact rfl; assumption; exact rfl)))))
    (refine tkp 6 rfl (by kernel_rfl) (by (first | exact trivial | assumption | infer_instance | (refine ⟨?_, ?_, ?_, ?_, ?_⟩ <;> (first | assumption | infer_instance)) | (skip; done))) rfl (fun wf hwf => (by obtain ⟨hwa, hwb, hwc, hwd, hwe⟩ := hwf; exact (t_id hwe))) rfl ?_)
    ((apply (tk 7)); (case hi => exact rfl); (case hf => kernel_rfl); (case hS => (first | exact trivial | assumption | infer_instance | (refine ⟨?_, ?_, ?_, ?_, ?_⟩ <;> (first | assumption | infer_instance)) | (skip; done))); (case hy => (rintro wf ⟨hwa, hwb, hwc, hwd, hwe⟩; (((apply opv_loadb1); exact rfl; exact rfl; assumption; exact rfl)))))
    ((apply (tk 8)); (case hi => exact rfl); (case hf => kernel_rfl); (case hS => (first | exact trivial | assumption | infer_instance | (refine ⟨?_, ?_, ?_, ?_, ?_⟩ <;> (first | assumption | infer_instance)) | (skip; done))); (case hy => (rintro wf ⟨hwa, hwb, hwc, hwd, hwe⟩; (((apply opv_fieldAddr); exact rfl)))))
    ((apply (tk 9)); (case hi => exact rfl); (case hf => kernel_rfl); (case hS => (first | exact trivial | assumption | infer_instance | (refine ⟨?_, ?_, ?_, ?_, ?_⟩ <;> (first | assumption | infer_instance)) | (skip; done))); (case hy => (rintro wf ⟨hwa, hwb, hwc, hwd, hwe⟩; (((apply opv_loadb1); exact rfl; exact rfl; assumption; exact rfl)))))
    ((apply (tk 10)); (case hi => exact rfl); (case hf => kernel_rfl); (case hS => (first | exact trivial | assumption | infer_instance | (refine ⟨?_, ?_, ?_, ?_, ?_⟩ <;> (first | assumption | infer_instance)) | (skip; done))); (case hy => (rintro wf ⟨hwa, hwb, hwc, hwd, hwe⟩; (((apply opv_fieldAddr); exact rfl)))))
    ((apply (tk 11)); (case hi => exact rfl); (case hf => kernel_rfl); (case hS => (first | exact trivial | assumption | infer_instance | (refine ⟨?_, ?_, ?_, ?_, ?_⟩ <;> (first | assumption | infer_instance)) | (skip; done))); (case hy => (rintro wf ⟨hwa, hwb, hwc, hwd, hwe⟩; (((apply opv_loadb1); exact rfl; exact rfl; assumption; exact rfl)))))
    ((apply (tk 12)); (case hi => exact rfl); (case hf => kernel_rfl); (case hS => (first | exact trivial | assumption | infer_instance | (refine ⟨?_, ?_, ?_, ?_, ?_⟩ <;> (first | assumption | infer_instance)) | (skip; done))); (case hy => (rintro wf ⟨hwa, hwb, hwc, hwd, hwe⟩; (((apply opv_fieldAddr); exact rfl)))))
    ((apply (tk 13)); (case hi => exact rfl); (case hf => kernel_rfl); (case hS => (first | exact trivial | assumption | infer_instance | (refine ⟨?_, ?_, ?_, ?_, ?_⟩ <;> (first | assumption | infer_instance)) | (skip; done))); (case hy => (rintro wf ⟨hwa, hwb, hwc, hwd, hwe⟩; (((apply opv_loadb1); exact rfl; exact rfl; assumption; exact rfl)))))
    ((apply (tk 14)); (case hi => exact rfl); (case hf => kernel_rfl); (case hS => (first | exact trivial | assumption | infer_instance | (refine ⟨?_, ?_, ?_, ?_, ?_⟩ <;> (first | assumption | infer_instance)) | (skip; done))); (case hy => (rintro wf ⟨hwa, hwb, hwc, hwd, hwe⟩; (((apply opv_buildS); exact rfl; exact (rfl : _ = some [_, _, _, _, _]))))))
    refine vA_two 4 15 rfl rfl (by kernel_rfl) (by (first | exact trivial | assumption | infer_instance | (refine ⟨?_, ?_, ?_, ?_, ?_⟩ <;> (first | assumption | infer_instance)) | (skip; done))) (fun K hK => ?_) (fun K hK => ?_)
    · (((apply vL_val); (case h => ((apply opv_loadb1); exact rfl; exact rfl; assumption; exact rfl))); apply vL_nil)
      refine ⟨rfl, hK _ _ ?_⟩
      refine vA_only 15 rfl (by kernel_rfl) (by (first | exact trivial | assumption | infer_instance | (refine ⟨?_, ?_, ?_, ?_, ?_⟩ <;> (first | assumption | infer_instance)) | (skip; done))) (fun K hK => ?_)
      (((apply vL_val); (case h => ((apply opw_buildSl); exact rfl; exact rfl; exact rfl; exact (rfl : _ = some [_, _, _, _, _])))); apply vL_nil)
      refine ⟨rfl, hK _ _ ?_⟩
      refine vA_only 16 rfl (by kernel_rfl) (by (first | exact trivial | assumption | infer_instance | (refine ⟨?_, ?_, ?_, ?_, ?_⟩ <;> (first | assumption | infer_instance)) | (skip; done))) (fun K hK => ?_)
      refine vL_append (enc := ev5) (xs := el) (ys := [nw]) (T := 100) (sz := 5) (by (((conv => lhs; whnf) <;> exact rfl))) (by (exact norm_eq rfl)) (Own.alloc (evf.1.frN ((Fr.refl No _).drew))) (by rw [← hX]; exact Rd.new1 _ _ rfl) rfl (by decide) ?_ ?_ ?_
      · simp [maxLen]; omega
      · simp; omega
      intro ev' w7 ho7 hf7 hfr7 hone7 _
      have hfa : Fr (fun j => own ev = some j) w1 w7 := (((Fr.refl _ w1).drew).alloc _).trans' hf7 (fun i hi => .inl hi)
      have S6 := S5.owTo hfa ho7 hone7 (fun k hk => (hfr7 k hk).imp id (fun h => by rw [alloc_size] at h; exact Nat.le_trans (Nat.le_succ _) h))
      have S7 := S6.ac (show _ = PWA (L16 wb) rb (some i) rest k1 S * (Ow 100 5 ev5 ev' (el ++ [nw]) * (Pt wb [pt rb, vp, cv, tv, ev, .bool false] 61 * (Ow 28 1 ptE cv (S.cs.map (·.cb)) * (Ow 34 1 ptE tv tl * R)))) by ac_rfl)
      have e95 := pw_bx S7 m9
      have e85 := pw_bx S7 m8
      have e65 := pw_bx S7 m6
      have e55 := pw_bx S7 m5
      have hid5 := hid.fr hfa (fun h => Own.ne_blk evf.1 hid (by decide) h)
      have hwb5 := S6.swap.ac (star_assoc _ _ _) |>.blk
      refine vL_nil ⟨rfl, hK _ _ ?_⟩
      ((apply (tk 17)); (case hi => exact rfl); (case hf => kernel_rfl); (case hS => (first | exact trivial | assumption | infer_instance | (refine ⟨?_, ?_, ?_, ?_, ?_⟩ <;> (first | assumption | infer_instance)) | (skip; done))); (case hy => (rintro wf ⟨hwa, hwb, hwc, hwd, hwe⟩; (((apply opv_E); exact rfl)))))
      ((apply (tk 18)); (case hi => exact rfl); (case hf => kernel_rfl); (case hS => (first | exact trivial | assumption | infer_instance | (refine ⟨?_, ?_, ?_, ?_, ?_⟩ <;> (first | assumption | infer_instance)) | (skip; done))); (case hy => (rintro wf ⟨hwa, hwb, hwc, hwd, hwe⟩; (((apply opv_fieldAddr); exact rfl)))))
      refine vA_only 19 rfl (by kernel_rfl) (by (first | exact trivial | assumption | infer_instance | (refine ⟨?_, ?_, ?_, ?_, ?_⟩ <;> (first | assumption | infer_instance)) | (skip; done))) (fun K hK => ?_)
      (((apply vL_skip); (case h => ((apply ops_store1); exact norm_eq rfl; ((conv => lhs; whnf) <;> exact rfl); (first | rfl | assumption); assumption; (first | decide | exact of_decide_eq_true rfl | (simp; done))))); apply vL_nil)
      refine ⟨rfl, hK _ _ ?_⟩
      have S8 := ((S6.ac (show _ = Pt wb [pt rb, vp, cv, tv, ev, .bool false] 61 * (Ow 100 5 ev5 ev' (el ++ [nw]) * (Ow 28 1 ptE cv (S.cs.map (·.cb)) * (Ow 34 1 ptE tv tl * (PWA (L16 wb) rb (some i) rest k1 S * R)))) by ac_rfl)).set (cs' := [pt rb, vp, cv, tv, ev', .bool false]))
      have S9 := S8.ac (show _ = PWA (L16 wb) rb (some i) rest k1 S * (Ow 100 5 ev5 ev' (el ++ [nw]) * (Pt wb [pt rb, vp, cv, tv, ev', .bool false] 61 * (Ow 28 1 ptE cv (S.cs.map (·.cb)) * (Ow 34 1 ptE tv tl * R)))) by ac_rfl)
      have e96 := pw_bx S9 m9
      have e86 := pw_bx S9 m8
      have e66 := pw_bx S9 m6
      have e56 := pw_bx S9 m5
      have hid6 := hid5.fr (F := fun k => k = wb) ((Fr.refl _ w7).set wb ([pt rb, vp, cv, tv, ev', .bool false] : List Value).toArray (.inl rfl)) (Blk.ne_type hid5 hwb5 (by decide))
      refine vA_done (by kernel_rfl) (by (first | exact trivial | assumption | infer_instance | (refine ⟨?_, ?_, ?_, ?_, ?_⟩ <;> (first | assumption | infer_instance)) | (skip; done))) ?_
      refine ⟨rfl, by ((apply same_updN; (iterate 19 (((refine same_updO ?_ ?_); rotate_left; exact rfl)))); exact fun _ _ => rfl), ev', S8.ac (by ac_rfl)⟩
    · (((apply vL_val); (case h => ((apply opw_buildSl); exact rfl; exact rfl; exact rfl; exact (rfl : _ = some [_, _, _, _, _])))); apply vL_nil)
      refine ⟨rfl, hK _ _ ?_⟩
      refine vA_only 4 rfl (by kernel_rfl) (by (first | exact trivial | assumption | infer_instance | (refine ⟨?_, ?_, ?_, ?_, ?_⟩ <;> (first | assumption | infer_instance)) | (skip; done))) (fun K hK => ?_)
      (((apply vL_val); (case h => ((apply opv_loadb1); exact rfl; exact rfl; infer_instance; exact rfl))); apply vL_nil)
      refine ⟨rfl, hK _ _ ?_⟩
      refine vA_only 16 rfl (by kernel_rfl) (by (first | exact trivial | assumption | infer_instance | (refine ⟨?_, ?_, ?_, ?_, ?_⟩ <;> (first | assumption | infer_instance)) | (skip; done))) (fun K hK => ?_)
      refine vL_append (enc := ev5) (xs := el) (ys := [nw]) (T := 100) (sz := 5) (by (((conv => lhs; whnf) <;> exact rfl))) (by (exact norm_eq rfl)) (Own.alloc (evf.1.frN ((Fr.refl No _).drew))) (by rw [← hX]; exact Rd.new1 _ _ rfl) rfl (by decide) ?_ ?_ ?_
      · simp [maxLen]; omega
      · simp; omega
      intro ev' w7 ho7 hf7 hfr7 hone7 _
      have hfa : Fr (fun j => own ev = some j) w1 w7 := (((Fr.refl _ w1).drew).alloc _).trans' hf7 (fun i hi => .inl hi)
      have S6 := S5.owTo hfa ho7 hone7 (fun k hk => (hfr7 k hk).imp id (fun h => by rw [alloc_size] at h; exact Nat.le_trans (Nat.le_succ _) h))
      have S7 := S6.ac (show _ = PWA (L16 wb) rb (some i) rest k1 S * (Ow 100 5 ev5 ev' (el ++ [nw]) * (Pt wb [pt rb, vp, cv, tv, ev, .bool false] 61 * (Ow 28 1 ptE cv (S.cs.map (·.cb)) * (Ow 34 1 ptE tv tl * R)))) by ac_rfl)
      have e95 := pw_bx S7 m9
      have e85 := pw_bx S7 m8
      have e65 := pw_bx S7 m6
      have e55 := pw_bx S7 m5
      have hid5 := hid.fr hfa (fun h => Own.ne_blk evf.1 hid (by decide) h)
      have hwb5 := S6.swap.ac (star_assoc _ _ _) |>.blk
      refine vL_nil ⟨rfl, hK _ _ ?_⟩
      ((apply (tk 17)); (case hi => exact rfl); (case hf => kernel_rfl); (case hS => (first | exact trivial | assumption | infer_instance | (refine ⟨?_, ?_, ?_, ?_, ?_⟩ <;> (first | assumption | infer_instance)) | (skip; done))); (case hy => (rintro wf ⟨hwa, hwb, hwc, hwd, hwe⟩; (((apply opv_E); exact rfl)))))
      ((apply (tk 18)); (case hi => exact rfl); (case hf => kernel_rfl); (case hS => (first | exact trivial | assumption | infer_instance | (refine ⟨?_, ?_, ?_, ?_, ?_⟩ <;> (first | assumption | infer_instance)) | (skip; done))); (case hy => (rintro wf ⟨hwa, hwb, hwc, hwd, hwe⟩; (((apply opv_fieldAddr); exact rfl)))))
      refine vA_only 19 rfl (by kernel_rfl) (by (first | exact trivial | assumption | infer_instance | (refine ⟨?_, ?_, ?_, ?_, ?_⟩ <;> (first | assumption | infer_instance)) | (skip; done))) (fun K hK => ?_)
      (((apply vL_skip); (case h => ((apply ops_store1); exact norm_eq rfl; ((conv => lhs; whnf) <;> exact rfl); (first | rfl | assumption); assumption; (first | decide | exact of_decide_eq_true rfl | (simp; done))))); apply vL_nil)
      refine ⟨rfl, hK _ _ ?_⟩
      have S8 := ((S6.ac (show _ = Pt wb [pt rb, vp, cv, tv, ev, .bool false] 61 * (Ow 100 5 ev5 ev' (el ++ [nw]) * (Ow 28 1 ptE cv (S.cs.map (·.cb)) * (Ow 34 1 ptE tv tl * (PWA (L16 wb) rb (some i) rest k1 S * R)))) by ac_rfl)).set (cs' := [pt rb, vp, cv, tv, ev', .bool false]))
      have S9 := S8.ac (show _ = PWA (L16 wb) rb (some i) rest k1 S * (Ow 100 5 ev5 ev' (el ++ [nw]) * (Pt wb [pt rb, vp, cv, tv, ev', .bool false] 61 * (Ow 28 1 ptE cv (S.cs.map (·.cb)) * (Ow 34 1 ptE tv tl * R)))) by ac_rfl)
      have e96 := pw_bx S9 m9
      have e86 := pw_bx S9 m8
      have e66 := pw_bx S9 m6
      have e56 := pw_bx S9 m5
      have hid6 := hid5.fr (F := fun k => k = wb) ((Fr.refl _ w7).set wb ([pt rb, vp, cv, tv, ev', .bool false] : List Value).toArray (.inl rfl)) (Blk.ne_type hid5 hwb5 (by decide))
      refine vA_done (by kernel_rfl) (by (first | exact trivial | assumption | infer_instance | (refine ⟨?_, ?_, ?_, ?_, ?_⟩ <;> (first | assumption | infer_instance)) | (skip; done))) ?_
      refine ⟨rfl, by ((apply same_updN; (iterate 19 (((refine same_updO ?_ ?_); rotate_left; exact rfl)))); exact fun _ _ => rfl), ev', S8.ac (by ac_rfl)⟩
  rintro junk1 w2 ⟨ev', S6⟩
  clear S5 S4 S3 e9 e8 e7 e6 e5 hwb hid evf
  have S7 := S6.ac (show _ = PWA (L16 wb) rb (some i) rest k1 S * (Pt wb [pt rb, vp, cv, tv, ev', .bool false] 61 * (Ow 28 1 ptE cv (S.cs.map (·.cb)) * (Ow 34 1 ptE tv tl * (Ow 100 5 ev5 ev' (el ++ [nw]) * R)))) by ac_rfl)
  clear S6
  obtain ⟨R1, hR1⟩ : ∃ R1, R1 = Pt wb [pt rb, vp, cv, tv, ev', .bool false] 61 * (Ow 28 1 ptE cv (S.cs.map (·.cb)) * (Ow 34 1 ptE tv tl * (Ow 100 5 ev5 ev' (el ++ [nw]) * R))) := ⟨_, rfl⟩
  rw [← hR1] at S7
  haveI hRl : Lcl R1 := by rw [hR1]; infer_instance
  have see : ∀ {kb : List Bx} {T : PS K16} {w : World}, At (PWA (L16 wb) rb (some i) rest kb T * R1) w0 No w → Blk w.heap wb [pt rb, vp, cv, tv, ev', .bool false] 61 ∧ Own w.heap 28 1 ptE cv (S.cs.map (·.cb)) ∧ cv.oneCell' = true := fun {kb T w} h => by
    rw [hR1] at h
    have h1 := h.ac (show _ = Pt wb [pt rb, vp, cv, tv, ev', .bool false] 61 * (Ow 28 1 ptE cv (S.cs.map (·.cb)) * (Ow 34 1 ptE tv tl * (Ow 100 5 ev5 ev' (el ++ [nw]) * (PWA (L16 wb) rb (some i) rest kb T * R)))) by ac_rfl)
    exact ⟨h1.blk, (h1.ac (show _ = Ow 28 1 ptE cv (S.cs.map (·.cb)) * (Pt wb [pt rb, vp, cv, tv, ev', .bool false] 61 * (Ow 34 1 ptE tv tl * (Ow 100 5 ev5 ev' (el ++ [nw]) * (PWA (L16 wb) rb (some i) rest kb T * R)))) by ac_rfl)).own⟩
  have shut : ∀ {kb : List Bx} {T : PS K16} {w : World}, At (PWA (L16 wb) rb (some i) rest kb T * R1) w0 No w → At (WA wb rb vp (S.cs.map (·.cb)) tl (el ++ [nw]) false * (PWA (L16 wb) rb (some i) rest kb T * R)) w0 No w := fun {kb T w} h => by
    rw [hR1] at h
    exact wa_shut (h.ac (show _ = Pt wb [pt rb, vp, cv, tv, ev', .bool false] 61 * (Ow 28 1 ptE cv (S.cs.map (·.cb)) * (Ow 34 1 ptE tv tl * (Ow 100 5 ev5 ev' (el ++ [nw]) * (PWA (L16 wb) rb (some i) rest kb T * R)))) by ac_rfl))
  (apply seqP_normal; apply vC_seq; apply vC_region; ((apply vL_val); (case h => ((apply opv_buildS); exact rfl; exact (rfl : _ = some [_, _, _, _, _])))); ((apply vL_val); (case h => (apply opw_alloc))); ((apply vL_skip); (case h => ((apply ops_storen); exact norm_eq rfl; exact norm_eq rfl; exact rfl; (intro u hu; simp at hu; rcases hu with rfl | rfl | rfl <;> (first | rfl | assumption)); infer_instance; (first | decide | exact of_decide_eq_true rfl | (simp; done))))); apply vL_nil; apply seqP_normal; (iterate 2 (apply vC_seq)))
  refine vC_gen (fun w' => Fr No w2 w' ∧ w2.heap.size < w'.heap.size ∧ Blk w'.heap w2.heap.size (do5 do0) 167) ⟨by (apply Fr.allocSet; exact Fr.refl _ _), by simp, Blk.as inferInstance rfl⟩ ?_
  rintro w3 ⟨hf3, hlt3, bd3⟩
  have hP3 := (z.frN (S7.fr.trans hf3)).hP
  have hPd3 := (z.frN (S7.fr.trans hf3)).hPi d (List.mem_of_getElem? hd)
  have hd' : P[((prog : Nat) : Int).toNat]? = some d := by rw [Int.toNat_natCast]; exact hd
  have hdone := d.1.2
  have hPs := hP3.small
  have hPds := hPd3.small
  have hprog := (List.getElem?_eq_some_iff.1 hd).1
  have hw3 := (see S7).1.frN hf3
  have e53 := (pw_bx S7 m5).frN hf3
  have e73 := (pw_bx S7 m7).frN hf3
  have e83 := (pw_bx S7 m8).frN hf3
  have o1 := z.one
  (with_reducible apply vC_drawQ); ((iterate 10 (first | ((with_reducible apply vQ_op); (case hi => exact rfl); (case hf => kernel_rfl); (case hS => exact Dr.refl _); (case hy => (intro j; ((with_reducible apply opv_E); exact rfl)))) | ((with_reducible apply vQ_op); (case hi => exact rfl); (case hf => kernel_rfl); (case hS => exact Dr.refl _); (case hy => (intro j; ((with_reducible apply opv_loadb1); exact rfl; exact rfl; assumption; exact rfl)))) | ((with_reducible apply vQ_op); (case hi => exact rfl); (case hf => kernel_rfl); (case hS => exact Dr.refl _); (case hy => (intro j; ((with_reducible apply opv_fieldAddr); exact rfl)))) | ((with_reducible apply vQ_op); (case hi => exact rfl); (case hf => kernel_rfl); (case hS => exact Dr.refl _); (case hy => (intro j; ((with_reducible apply opv_indexAddr); ((conv => lhs; whnf) <;> exact rfl); exact rfl; assumption; (first | omega | (simp only [List.length_map]; omega)); (first | omega | (simp only [List.length_map]; omega)))))) | ((with_reducible apply vQ_op); (case hi => exact rfl); (case hf => kernel_rfl); (case hS => exact Dr.refl _); (case hy => (intro j; ((with_reducible apply opv_ld_el); exact rfl; exact rfl; assumption; assumption; exact rfl)))) | ((with_reducible apply vQ_op); (case hi => exact rfl); (case hf => kernel_rfl); (case hS => exact Dr.refl _); (case hy => (intro j; ((with_reducible apply opv_len); ((conv => lhs; whnf) <;> exact rfl); assumption)))))); ((apply vQ_end); (case hi => exact rfl); (case hf => kernel_rfl); (case hS => exact Dr.refl _)))
  with_reducible apply seqP_normal
  generalize hdd : (d.2[pos]?).getD do0 = dd
  refine vC_meet0 575897802350002176 (fun w' => Fr No w2 w' ∧ w2.heap.size < w'.heap.size ∧ Blk w'.heap w2.heap.size (do5 dd) 167) ?_ ?_
  · by_cases hpl : pos < d.2.length
    · obtain ⟨q, hq⟩ : ∃ q, d.2[pos]? = some q := ⟨d.2[pos], by simp [hpl]⟩
      have hq' : d.2[((pos : Nat) : Int).toNat]? = some q := by rw [Int.toNat_natCast]; exact hq
      have hdq : dd = q := by rw [← hdd, hq]; rfl
      refine vC_condT rfl (decide_eq_true (by omega)) ?_
      have e5q := pw_bx S7 m5
      have e7q := pw_bx S7 m7
      have e8q := pw_bx S7 m8
      have hwq := (see S7).1
      have hPq := (z.frN S7.fr).hP
      have hPdq := (z.frN S7.fr).hPi d (List.mem_of_getElem? hd)
      have hq2 := q.cs.2
      refine vC_draw' (fun wf => Fr No w2 wf) hf3.drew.drew ?_
      ((apply (tk 0)); (case hi => exact rfl); (case hf => kernel_rfl); (case hS => ((iterate 2 (apply Fr.drew)); assumption)); (case hy => (intro wf hwf; haveI := From.mk hwf; (((apply opv_loadb1); exact rfl; exact rfl; infer_instance; exact rfl)))))
      ((apply (tk 1)); (case hi => exact rfl); (case hf => kernel_rfl); (case hS => ((iterate 2 (apply Fr.drew)); assumption)); (case hy => (intro wf hwf; haveI := From.mk hwf; (((apply opv_E); exact rfl)))))
      ((apply (tk 2)); (case hi => exact rfl); (case hf => kernel_rfl); (case hS => ((iterate 2 (apply Fr.drew)); assumption)); (case hy => (intro wf hwf; haveI := From.mk hwf; (((apply opv_fieldAddr); exact rfl)))))
      ((apply (tk 3)); (case hi => exact rfl); (case hf => kernel_rfl); (case hS => ((iterate 2 (apply Fr.drew)); assumption)); (case hy => (intro wf hwf; haveI := From.mk hwf; (((apply opv_loadb1); exact rfl; exact rfl; infer_instance; exact rfl)))))
      ((apply (tk 4)); (case hi => exact rfl); (case hf => kernel_rfl); (case hS => ((iterate 2 (apply Fr.drew)); assumption)); (case hy => (intro wf hwf; haveI := From.mk hwf; (((apply opv_loadb1); exact rfl; exact rfl; infer_instance; exact rfl)))))
      ((apply (tk 5)); (case hi => exact rfl); (case hf => kernel_rfl); (case hS => ((iterate 2 (apply Fr.drew)); assumption)); (case hy => (intro wf hwf; haveI := From.mk hwf; (((apply opv_indexAddr); ((conv => lhs; whnf) <;> exact rfl); exact rfl; infer_instance; (first | omega | (simp only [List.length_map]; omega)); (first | omega | (simp only [List.length_map]; omega)))))))
      ((apply (tk 6)); (case hi => exact rfl); (case hf => kernel_rfl); (case hS => ((iterate 2 (apply Fr.drew)); assumption)); (case hy => (intro wf hwf; haveI := From.mk hwf; (((apply opv_ld_el); exact rfl; exact rfl; infer_instance; assumption; exact rfl)))))
      ((apply (tk 7)); (case hi => exact rfl); (case hf => kernel_rfl); (case hS => ((iterate 2 (apply Fr.drew)); assumption)); (case hy => (intro wf hwf; haveI := From.mk hwf; (((apply opv_loadb1); exact rfl; exact rfl; infer_instance; exact rfl)))))
      ((apply (tk 8)); (case hi => exact rfl); (case hf => kernel_rfl); (case hS => ((iterate 2 (apply Fr.drew)); assumption)); (case hy => (intro wf hwf; haveI := From.mk hwf; (((apply opv_indexAddr); ((conv => lhs; whnf) <;> exact rfl); exact rfl; infer_instance; (first | omega | (simp only [List.length_map]; omega)); (first | omega | (simp only [List.length_map]; omega)))))))
      ((apply (tk 9)); (case hi => exact rfl); (case hf => kernel_rfl); (case hS => ((iterate 2 (apply Fr.drew)); assumption)); (case hy => (intro wf hwf; haveI := From.mk hwf; (((apply opv_ld_eln); exact rfl; exact rfl; infer_instance; assumption)))))
      refine vA_only 10 rfl (by kernel_rfl) hf3.drew.drew (fun J hJ => ?_)
      (((apply vL_skip); (case h => ((apply ops_storen); exact norm_eq rfl; exact norm_eq rfl; exact rfl; exact (fun u hu => EncOk.one _ u hu); assumption; (first | decide | exact of_decide_eq_true rfl | (simp; done))))); apply vL_nil)
      refine ⟨rfl, hJ _ _ ?_⟩
      refine vA_done (by kernel_rfl) (hf3.drew.drew.set _ _ (.inr (Nat.le_refl _))) ?_
      refine ⟨rfl, by ((apply same_updN; (iterate 10 (((refine same_updO ?_ ?_); rotate_left; exact rfl)))); exact fun _ _ => rfl), hf3.drew.drew.set _ _ (.inr (Nat.le_refl _)), by rw [setRow_size]; exact hlt3, ?_⟩
      rw [hdq]
      exact Blk.as (Blk.set (show Blk w3.drew.drew.heap w2.heap.size _ _ from bd3)) rfl
    · have hdq : dd = do0 := by rw [← hdd, List.getElem?_eq_none (by omega)]; rfl
      refine vC_condF rfl (decide_eq_false (by omega)) ?_
      (apply vC_skip)
      refine ⟨rfl, fun _ _ => rfl, hf3.drew, hlt3, ?_⟩
      rw [hdq]
      exact bd3
  rintro junk4 w4 ⟨hf4, hlt4, bd4⟩
  first | with_reducible apply vC_seq | with_reducible apply vC_region | with_reducible apply seqP_normal | with_reducible apply vC_block | with_reducible apply vC_ret | with_reducible apply vC_skip | with_reducible apply vC_exit | with_reducible apply seqP_ret | with_reducible apply seqP_exit | with_reducible apply blockP_normal | with_reducible apply blockP_ret | with_reducible apply blockP_exit | ((with_reducible apply blockP_pass); exact rfl) | with_reducible apply loopP_normal | with_reducible apply vL_ac | with_reducible apply vL_an | with_reducible apply loopP_ret | with_reducible apply loopP_exit | ((with_reducible apply vC_cond_true); exact rfl) | ((with_reducible apply vC_cond_false); exact rfl) | with_reducible apply vC_scope | with_reducible apply gotoP_normal | with_reducible apply gotoP_ret | with_reducible apply gotoP_exit | with_reducible apply vC_label
  have S8 : At (Pt w2.heap.size (do5 dd) 167 * (PWA (L16 wb) rb (some i) rest k1 S * R1)) w0 No w4 := S7.new hf4 bd4 (Nat.le_refl _)
  have S9 := pw_box S8
  clear bd4 hlt4 hf4 S8 S7 hf3 hlt3 bd3 hP3 hPd3 hw3 e53 e73 e83
  generalize w2.heap.size = b10 at *
  have nx0 : (do5 dd).length = 5 := rfl
  ((apply vC_seq; apply vC_region)); ((((apply vL_val); (case h => ((apply opv_makeFunc); exact rfl))); ((apply vL_val); (case h => (apply opw_alloc))); ((apply vL_skip); (case h => ((apply ops_store1); exact norm_eq rfl; exact norm_eq rfl; (first | rfl | assumption); infer_instance; (first | decide | exact of_decide_eq_true rfl | (simp; done))))); apply vL_nil)); with_reducible apply seqP_normal
  refine vC_gen (fun w' => At (Pt w4.heap.size [.func (.func 166) #[] #[pt b5, pt b6, pt b7, pt b8]] 234 * (PWA (L16 wb) rb (some i) rest ((b10, do5 dd, 167) :: k1) S * R1)) w0 No w') (S9.new (by (apply Fr.allocSet; exact Fr.refl _ _)) (Blk.as inferInstance rfl) (Nat.le_refl _)) ?_
  intro w5 S10
  have S11 := pw_box S10
  clear S10 S9
  generalize w4.heap.size = b11 at *
  generalize hk2e : ((b11, [.func (.func 166) #[] #[pt b5, pt b6, pt b7, pt b8]], 234) :: (b10, do5 dd, 167) :: k1 : List Bx) = k2 at S11
  have up2 : ∀ b ∈ k1, b ∈ k2 := fun b hb => by rw [← hk2e]; exact List.mem_cons_of_mem _ (List.mem_cons_of_mem _ hb)
  have m10 : (b10, do5 dd, 167) ∈ k2 := by rw [← hk2e]; simp
  have m11 : (b11, [.func (.func 166) #[] #[pt b5, pt b6, pt b7, pt b8]], 234) ∈ k2 := by rw [← hk2e]; simp
  clear hk2e
  replace hkk : ∀ b ∈ kb, b ∈ k2 := fun b hb => up2 b (hkk b hb)
  replace m9 := up2 _ m9
  replace m8 := up2 _ m8
  replace m7 := up2 _ m7
  replace m6 := up2 _ m6
  replace m5 := up2 _ m5
  clear up2
  have nx : ∀ (x : To) (kb' : List Bx), (∀ b ∈ k2, b ∈ kb') → Nx wb (k16 tb prog pos x) kb' b11 := fun x kb' h => ⟨b5, b6, b7, b8, h _ m11, h _ m5, h _ m6, h _ m7, by rw [show (((k16 tb prog pos x).pos : Nat) : Int) - 1 = pos by show ((pos + 1 : Nat) : Int) - 1 = pos; omega]; exact h _ m8, Nat.le_add_left 1 pos⟩
  have hdc : dd.k ≠ 0 → 0 ≤ dd.c ∧ dd.c < S.cs.length := fun hk => by
    by_cases hpl : pos < d.2.length
    · rw [List.getElem?_eq_getElem hpl] at hdd
      exact hdo dd (by rw [← hdd]; exact List.getElem_mem hpl)
    · rw [List.getElem?_eq_none (by omega)] at hdd
      exact absurd (by rw [← hdd]; rfl) hk
  have e5a := pw_bx S11 m5
  have e6a := pw_bx S11 m6
  have e10 := pw_bx S11 m10
  rw [do5] at e10
  have hid : ∀ b ∈ k2, b ∈ k2 := fun _ h => h
  (apply vC_seq; apply vC_region; ((apply vL_val); (case h => ((apply opv_fieldAddr); exact rfl))); ((apply vL_val); (case h => ((apply opv_loadb1); exact rfl; exact rfl; assumption; exact rfl))); apply vL_nil; apply seqP_normal; apply vC_block; apply vC_seq; apply vC_region; (iterate 2 (((apply vL_val); (case h => ((apply opv_E); exact rfl))))); apply vL_nil; apply seqP_normal)
  by_cases c1 : dd.k = 1
  · have e1 : act16 S i tb prog pos dd = S.yield i (k16 tb prog pos ⟨0, 0, false⟩) := by unfold act16; rw [if_pos c1]
    rw [e1]
    ((refine vC_cond_dec rfl (fun _ => ?_) (fun h => by omega)))
    refine vC_draw' ((fun wf => Blk wf.heap b5 [pt wb] 53 ∧ Blk wf.heap b6 [pt tb] 34)) (by (first | exact trivial | assumption | infer_instance | (refine ⟨?_, ?_⟩ <;> (first | assumption | infer_instance)) | (skip; done))) ?_
    ((apply (tk 0)); (case hi => exact rfl); (case hf => kernel_rfl); (case hS => (first | exact trivial | assumption | infer_instance | (refine ⟨?_, ?_⟩ <;> (first | assumption | infer_instance)) | (skip; done))); (case hy => (rintro wf ⟨hwa, hwb⟩; (((apply opv_loadb1); exact rfl; exact rfl; assumption; exact rfl)))))
    ((apply (tk 1)); (case hi => exact rfl); (case hf => kernel_rfl); (case hS => (first | exact trivial | assumption | infer_instance | (refine ⟨?_, ?_⟩ <;> (first | assumption | infer_instance)) | (skip; done))); (case hy => (rintro wf ⟨hwa, hwb⟩; (((apply opv_loadb1); exact rfl; exact rfl; assumption; exact rfl)))))
    ((apply (tk 2)); (case hi => exact rfl); (case hf => kernel_rfl); (case hS => (first | exact trivial | assumption | infer_instance | (refine ⟨?_, ?_⟩ <;> (first | assumption | infer_instance)) | (skip; done))); (case hy => (rintro wf ⟨hwa, hwb⟩; (((apply opv_makeFunc); exact rfl)))))
    refine tkc 3 rfl (by kernel_rfl) (by (first | exact trivial | assumption | infer_instance | (refine ⟨?_, ?_⟩ <;> (first | assumption | infer_instance)) | (skip; done))) rfl (pw_yield (S11.drew) (hi) (ht) _ _ (k16 tb prog pos ⟨0, 0, false⟩) ⟨rfl, .y2 b11 (nx _ _ hid) rfl⟩) rfl ?_
    rintro _ w8 ⟨rfl, S18⟩
    have e5z := pw_bx S18 (hid _ m5)
    have e6z := pw_bx S18 (hid _ m6)
    refine tkc 4 rfl (by kernel_rfl) (by (first | exact trivial | assumption | infer_instance | (refine ⟨?_, ?_⟩ <;> (first | assumption | infer_instance)) | (skip; done))) rfl (w_need (shut S18)) rfl ?_
    rintro _ w9 S19
    have S20 := S19.ac (show _ = PWA (L16 wb) rb (some i) rest k2 (S.yield i (k16 tb prog pos ⟨0, 0, false⟩)) * (WA wb rb vp (S.cs.map (·.cb)) tl (el ++ [nw]) false * R) by ac_rfl)
    have e5y := pw_bx S20 (hid _ m5)
    have e6y := pw_bx S20 (hid _ m6)
    refine vA_done (by kernel_rfl) (by (first | exact trivial | assumption | infer_instance | (refine ⟨?_, ?_⟩ <;> (first | assumption | infer_instance)) | (skip; done))) ?_
    (apply blockP_normal)
    (first | apply ret0 | apply ret0n)
    exact ⟨k2, fun b hb => hid b (hkk b hb), S20⟩
  by_cases c2 : dd.k = 2
  · have e1 : act16 S i tb prog pos dd = S.send i dd.c.toNat dd.v (k16 tb prog pos ⟨0, 0, false⟩) := by unfold act16; rw [if_neg c1, if_pos c2]
    rw [e1]
    obtain ⟨hc0, hc1⟩ := hdc (by omega)
    obtain ⟨dch, hdch⟩ : ∃ y, S.cs[dd.c.toNat]? = some y := ⟨_, List.getElem?_eq_getElem (by omega)⟩
    have hcl : (S.cs.map (·.cb))[dd.c.toNat]? = some dch.cb := by rw [List.getElem?_map, hdch]; rfl
    have hlen : (S.cs.map (·.cb)).length = S.cs.length := List.length_map ..
    have sa := see S11
    have saw := sa.1
    have sao := sa.2.1
    have sao1 := sa.2.2
    have sar := sao.rd
    ((refine vC_cond_dec rfl (fun h => by omega) (fun _ => ?_)); apply vC_seq; apply vC_region; (iterate 2 (((apply vL_val); (case h => ((apply opv_E); exact rfl))))); apply vL_nil; apply seqP_normal; (refine vC_cond_dec rfl (fun _ => ?_) (fun h => by omega)))
    refine vC_draw' ((fun wf => Blk wf.heap b5 [pt wb] 53 ∧ Blk wf.heap b6 [pt tb] 34 ∧ Blk wf.heap b10 [.int .i64 dd.k, .int .i64 dd.c, .int .i64 dd.v, dd.cs.1, .bool dd.df] 167 ∧ Blk wf.heap wb [pt rb, vp, cv, tv, ev', .bool false] 61 ∧ Own wf.heap 28 1 ptE cv (S.cs.map (·.cb)))) (by (first | exact trivial | assumption | infer_instance | (refine ⟨?_, ?_, ?_, ?_, ?_⟩ <;> (first | assumption | infer_instance)) | (skip; done))) ?_
    ((apply (tk 0)); (case hi => exact rfl); (case hf => kernel_rfl); (case hS => (first | exact trivial | assumption | infer_instance | (refine ⟨?_, ?_, ?_, ?_, ?_⟩ <;> (first | assumption | infer_instance)) | (skip; done))); (case hy => (rintro wf ⟨hwa, hwb, hwc, hwd, hwe⟩; (((apply opv_loadb1); exact rfl; exact rfl; assumption; exact rfl)))))
    ((apply (tk 1)); (case hi => exact rfl); (case hf => kernel_rfl); (case hS => (first | exact trivial | assumption | infer_instance | (refine ⟨?_, ?_, ?_, ?_, ?_⟩ <;> (first | assumption | infer_instance)) | (skip; done))); (case hy => (rintro wf ⟨hwa, hwb, hwc, hwd, hwe⟩; (((apply opv_loadb1); exact rfl; exact rfl; assumption; exact rfl)))))
    ((apply (tk 2)); (case hi => exact rfl); (case hf => kernel_rfl); (case hS => (first | exact trivial | assumption | infer_instance | (refine ⟨?_, ?_, ?_, ?_, ?_⟩ <;> (first | assumption | infer_instance)) | (skip; done))); (case hy => (rintro wf ⟨hwa, hwb, hwc, hwd, hwe⟩; (((apply opv_loadb1); exact rfl; exact rfl; assumption; exact rfl)))))
    ((apply (tk 3)); (case hi => exact rfl); (case hf => kernel_rfl); (case hS => (first | exact trivial | assumption | infer_instance | (refine ⟨?_, ?_, ?_, ?_, ?_⟩ <;> (first | assumption | infer_instance)) | (skip; done))); (case hy => (rintro wf ⟨hwa, hwb, hwc, hwd, hwe⟩; (((apply opv_E); exact rfl)))))
    ((apply (tk 4)); (case hi => exact rfl); (case hf => kernel_rfl); (case hS => (first | exact trivial | assumption | infer_instance | (refine ⟨?_, ?_, ?_, ?_, ?_⟩ <;> (first | assumption | infer_instance)) | (skip; done))); (case hy => (rintro wf ⟨hwa, hwb, hwc, hwd, hwe⟩; (((apply opv_fieldAddr); exact rfl)))))
    ((apply (tk 5)); (case hi => exact rfl); (case hf => kernel_rfl); (case hS => (first | exact trivial | assumption | infer_instance | (refine ⟨?_, ?_, ?_, ?_, ?_⟩ <;> (first | assumption | infer_instance)) | (skip; done))); (case hy => (rintro wf ⟨hwa, hwb, hwc, hwd, hwe⟩; (((apply opv_loadb1); exact rfl; exact rfl; assumption; exact rfl)))))
    ((apply (tk 6)); (case hi => exact rfl); (case hf => kernel_rfl); (case hS => (first | exact trivial | assumption | infer_instance | (refine ⟨?_, ?_, ?_, ?_, ?_⟩ <;> (first | assumption | infer_instance)) | (skip; done))); (case hy => (rintro wf ⟨hwa, hwb, hwc, hwd, hwe⟩; (((apply opv_fieldAddr); exact rfl)))))
    ((apply (tk 7)); (case hi => exact rfl); (case hf => kernel_rfl); (case hS => (first | exact trivial | assumption | infer_instance | (refine ⟨?_, ?_, ?_, ?_, ?_⟩ <;> (first | assumption | infer_instance)) | (skip; done))); (case hy => (rintro wf ⟨hwa, hwb, hwc, hwd, hwe⟩; (((apply opv_loadb1); exact rfl; exact rfl; assumption; exact rfl)))))
    ((apply (tk 8)); (case hi => exact rfl); (case hf => kernel_rfl); (case hS => (first | exact trivial | assumption | infer_instance | (refine ⟨?_, ?_, ?_, ?_, ?_⟩ <;> (first | assumption | infer_instance)) | (skip; done))); (case hy => (rintro wf ⟨hwa, hwb, hwc, hwd, hwe⟩; (((apply opv_indexAddr); ((conv => lhs; whnf) <;> exact rfl); exact rfl; infer_instance; (first | omega | (simp only [List.length_map]; omega)); (first | omega | (simp only [List.length_map]; omega)))))))
    ((apply (tk 9)); (case hi => exact rfl); (case hf => kernel_rfl); (case hS => (first | exact trivial | assumption | infer_instance | (refine ⟨?_, ?_, ?_, ?_, ?_⟩ <;> (first | assumption | infer_instance)) | (skip; done))); (case hy => (rintro wf ⟨hwa, hwb, hwc, hwd, hwe⟩; (((apply opv_ld_el); exact rfl; exact rfl; infer_instance; assumption; exact rfl)))))
    ((apply (tk 10)); (case hi => exact rfl); (case hf => kernel_rfl); (case hS => (first | exact trivial | assumption | infer_instance | (refine ⟨?_, ?_, ?_, ?_, ?_⟩ <;> (first | assumption | infer_instance)) | (skip; done))); (case hy => (rintro wf ⟨hwa, hwb, hwc, hwd, hwe⟩; (((apply opv_fieldAddr); exact rfl)))))
    ((apply (tk 11)); (case hi => exact rfl); (case hf => kernel_rfl); (case hS => (first | exact trivial | assumption | infer_instance | (refine ⟨?_, ?_, ?_, ?_, ?_⟩ <;> (first | assumption | infer_instance)) | (skip; done))); (case hy => (rintro wf ⟨hwa, hwb, hwc, hwd, hwe⟩; (((apply opv_loadb1); exact rfl; exact rfl; assumption; exact rfl)))))
    ((apply (tk 12)); (case hi => exact rfl); (case hf => kernel_rfl); (case hS => (first | exact trivial | assumption | infer_instance | (refine ⟨?_, ?_, ?_, ?_, ?_⟩ <;> (first | assumption | infer_instance)) | (skip; done))); (case hy => (rintro wf ⟨hwa, hwb, hwc, hwd, hwe⟩; (((apply opv_makeFunc); exact rfl)))))
    refine tkc 13 rfl (by kernel_rfl) (by (first | exact trivial | assumption | infer_instance | (refine ⟨?_, ?_, ?_, ?_, ?_⟩ <;> (first | assumption | infer_instance)) | (skip; done))) rfl (pw_send S11.drew hi ht hdch dd.v _ [pt b11] (k16 tb prog pos ⟨0, 0, false⟩) ⟨b11, nx _ _ hid, rfl⟩) rfl ?_
    rintro _ w8 ⟨rfl, k3, h3, S18⟩
    have e5z := pw_bx S18 (h3 _ m5)
    have e6z := pw_bx S18 (h3 _ m6)
    have e10z := pw_bx S18 (h3 _ m10)
    rw [do5] at e10z
    have sz := see S18
    have szw := sz.1
    have szo := sz.2.1
    refine tkc 14 rfl (by kernel_rfl) (by (first | exact trivial | assumption | infer_instance | (refine ⟨?_, ?_, ?_, ?_, ?_⟩ <;> (first | assumption | infer_instance)) | (skip; done))) rfl (w_needP ((S18.swap.ac (by rw [hR1])).ac (star_assoc _ _ _)) o1) rfl ?_
    rintro _ w9 S19
    have S20 := (S19.ac (star_assoc _ _ _).symm).swap
    rw [← hR1] at S20
    have sy := see S20
    have syw := sy.1
    have syo := sy.2.1
    have e5y := pw_bx S20 (h3 _ m5)
    have e6y := pw_bx S20 (h3 _ m6)
    have e10y := pw_bx S20 (h3 _ m10)
    rw [do5] at e10y
    refine vA_done (by kernel_rfl) (by (first | exact trivial | assumption | infer_instance | (refine ⟨?_, ?_, ?_, ?_, ?_⟩ <;> (first | assumption | infer_instance)) | (skip; done))) ?_
    (apply blockP_normal)
    (first | apply ret0 | apply ret0n)
    exact ⟨k3, fun b hb => h3 b (hkk b hb), (shut S20).ac (by ac_rfl)⟩
  by_cases c3 : dd.k = 3
  · have e1 : act16 S i tb prog pos dd = S.recv i dd.c.toNat (k16 tb prog pos ⟨0, 0, false⟩) := by unfold act16; rw [if_neg c1, if_neg c2, if_pos c3]
    rw [e1]
    obtain ⟨hc0, hc1⟩ := hdc (by omega)
    obtain ⟨dch, hdch⟩ : ∃ y, S.cs[dd.c.toNat]? = some y := ⟨_, List.getElem?_eq_getElem (by omega)⟩
    have hcl : (S.cs.map (·.cb))[dd.c.toNat]? = some dch.cb := by rw [List.getElem?_map, hdch]; rfl
    have hlen : (S.cs.map (·.cb)).length = S.cs.length := List.length_map ..
    have sa := see S11
    have saw := sa.1
    have sao := sa.2.1
    have sao1 := sa.2.2
    have sar := sao.rd
    ((iterate 14 (first | with_reducible apply vC_seq | with_reducible apply vC_region | with_reducible apply seqP_normal | ((with_reducible apply vL_val); (case h => ((with_reducible apply opv_E); exact rfl))) | with_reducible apply vL_nil | (refine vC_cond_dec rfl (fun h => by omega) (fun _ => ?_)))); (refine vC_cond_dec rfl (fun _ => ?_) (fun h => by omega)))
    refine vC_draw' ((fun wf => Blk wf.heap b5 [pt wb] 53 ∧ Blk wf.heap b6 [pt tb] 34 ∧ Blk wf.heap b10 [.int .i64 dd.k, .int .i64 dd.c, .int .i64 dd.v, dd.cs.1, .bool dd.df] 167 ∧ Blk wf.heap wb [pt rb, vp, cv, tv, ev', .bool false] 61 ∧ Own wf.heap 28 1 ptE cv (S.cs.map (·.cb)))) (by (first | exact trivial | assumption | infer_instance | (refine ⟨?_, ?_, ?_, ?_, ?_⟩ <;> (first | assumption | infer_instance)) | (skip; done))) ?_
    ((apply (tk 0)); (case hi => exact rfl); (case hf => kernel_rfl); (case hS => (first | exact trivial | assumption | infer_instance | (refine ⟨?_, ?_, ?_, ?_, ?_⟩ <;> (first | assumption | infer_instance)) | (skip; done))); (case hy => (rintro wf ⟨hwa, hwb, hwc, hwd, hwe⟩; (((apply opv_loadb1); exact rfl; exact rfl; assumption; exact rfl)))))
    ((apply (tk 1)); (case hi => exact rfl); (case hf => kernel_rfl); (case hS => (first | exact trivial | assumption | infer_instance | (refine ⟨?_, ?_, ?_, ?_, ?_⟩ <;> (first | assumption | infer_instance)) | (skip; done))); (case hy => (rintro wf ⟨hwa, hwb, hwc, hwd, hwe⟩; (((apply opv_loadb1); exact rfl; exact rfl; assumption; exact rfl)))))
    ((apply (tk 2)); (case hi => exact rfl); (case hf => kernel_rfl); (case hS => (first | exact trivial | assumption | infer_instance | (refine ⟨?_, ?_, ?_, ?_, ?_⟩ <;> (first | assumption | infer_instance)) | (skip; done))); (case hy => (rintro wf ⟨hwa, hwb, hwc, hwd, hwe⟩; (((apply opv_loadb1); exact rfl; exact rfl; assumption; exact rfl)))))
    ((apply (tk 3)); (case hi => exact rfl); (case hf => kernel_rfl); (case hS => (first | exact trivial | assumption | infer_instance | (refine ⟨?_, ?_, ?_, ?_, ?_⟩ <;> (first | assumption | infer_instance)) | (skip; done))); (case hy => (rintro wf ⟨hwa, hwb, hwc, hwd, hwe⟩; (((apply opv_E); exact rfl)))))
    ((apply (tk 4)); (case hi => exact rfl); (case hf => kernel_rfl); (case hS => (first | exact trivial | assumption | infer_instance | (refine ⟨?_, ?_, ?_, ?_, ?_⟩ <;> (first | assumption | infer_instance)) | (skip; done))); (case hy => (rintro wf ⟨hwa, hwb, hwc, hwd, hwe⟩; (((apply opv_fieldAddr); exact rfl)))))
    ((apply (tk 5)); (case hi => exact rfl); (case hf => kernel_rfl); (case hS => (first | exact trivial | assumption | infer_instance | (refine ⟨?_, ?_, ?_, ?_, ?_⟩ <;> (first | assumption | infer_instance)) | (skip; done))); (case hy => (rintro wf ⟨hwa, hwb, hwc, hwd, hwe⟩; (((apply opv_loadb1); exact rfl; exact rfl; assumption; exact rfl)))))
    ((apply (tk 6)); (case hi => exact rfl); (case hf => kernel_rfl); (case hS => (first | exact trivial | assumption | infer_instance | (refine ⟨?_, ?_, ?_, ?_, ?_⟩ <;> (first | assumption | infer_instance)) | (skip; done))); (case hy => (rintro wf ⟨hwa, hwb, hwc, hwd, hwe⟩; (((apply opv_fieldAddr); exact rfl)))))
    ((apply (tk 7)); (case hi => exact rfl); (case hf => kernel_rfl); (case hS => (first | exact trivial | assumption | infer_instance | (refine ⟨?_, ?_, ?_, ?_, ?_⟩ <;> (first | assumption | infer_instance)) | (skip; done))); (case hy => (rintro wf ⟨hwa, hwb, hwc, hwd, hwe⟩; (((apply opv_loadb1); exact rfl; exact rfl; assumption; exact rfl)))))
    ((apply (tk 8)); (case hi => exact rfl); (case hf => kernel_rfl); (case hS => (first | exact trivial | assumption | infer_instance | (refine ⟨?_, ?_, ?_, ?_, ?_⟩ <;> (first | assumption | infer_instance)) | (skip; done))); (case hy => (rintro wf ⟨hwa, hwb, hwc, hwd, hwe⟩; (((apply opv_indexAddr); ((conv => lhs; whnf) <;> exact rfl); exact rfl; infer_instance; (first | omega | (simp only [List.length_map]; omega)); (first | omega | (simp only [List.length_map]; omega)))))))
    ((apply (tk 9)); (case hi => exact rfl); (case hf => kernel_rfl); (case hS => (first | exact trivial | assumption | infer_instance | (refine ⟨?_, ?_, ?_, ?_, ?_⟩ <;> (first | assumption | infer_instance)) | (skip; done))); (case hy => (rintro wf ⟨hwa, hwb, hwc, hwd, hwe⟩; (((apply opv_ld_el); exact rfl; exact rfl; infer_instance; assumption; exact rfl)))))
    ((apply (tk 10)); (case hi => exact rfl); (case hf => kernel_rfl); (case hS => (first | exact trivial | assumption | infer_instance | (refine ⟨?_, ?_, ?_, ?_, ?_⟩ <;> (first | assumption | infer_instance)) | (skip; done))); (case hy => (rintro wf ⟨hwa, hwb, hwc, hwd, hwe⟩; (((apply opv_makeFunc); exact rfl)))))
    refine tkc 11 rfl (by kernel_rfl) (by (first | exact trivial | assumption | infer_instance | (refine ⟨?_, ?_, ?_, ?_, ?_⟩ <;> (first | assumption | infer_instance)) | (skip; done))) rfl (pw_recv S11.drew hi ht hdch _ [pt b11] (k16 tb prog pos ⟨0, 0, false⟩) ⟨b11, nx _ _ hid, rfl⟩) rfl ?_
    rintro _ w8 ⟨rfl, k3, h3, S18⟩
    have e5z := pw_bx S18 (h3 _ m5)
    have e6z := pw_bx S18 (h3 _ m6)
    have e10z := pw_bx S18 (h3 _ m10)
    rw [do5] at e10z
    have sz := see S18
    have szw := sz.1
    have szo := sz.2.1
    refine tkc 12 rfl (by kernel_rfl) (by (first | exact trivial | assumption | infer_instance | (refine ⟨?_, ?_, ?_, ?_, ?_⟩ <;> (first | assumption | infer_instance)) | (skip; done))) rfl (w_needP ((S18.swap.ac (by rw [hR1])).ac (star_assoc _ _ _)) o1) rfl ?_
    rintro _ w9 S19
    have S20 := (S19.ac (star_assoc _ _ _).symm).swap
    rw [← hR1] at S20
    have sy := see S20
    have syw := sy.1
    have syo := sy.2.1
    have e5y := pw_bx S20 (h3 _ m5)
    have e6y := pw_bx S20 (h3 _ m6)
    have e10y := pw_bx S20 (h3 _ m10)
    rw [do5] at e10y
    refine vA_done (by kernel_rfl) (by (first | exact trivial | assumption | infer_instance | (refine ⟨?_, ?_, ?_, ?_, ?_⟩ <;> (first | assumption | infer_instance)) | (skip; done))) ?_
    (apply blockP_normal)
    (first | apply ret0 | apply ret0n)
    exact ⟨k3, fun b hb => h3 b (hkk b hb), (shut S20).ac (by ac_rfl)⟩
  by_cases c4 : dd.k = 4
  · have e1 : act16 S i tb prog pos dd = (S.close dd.c.toNat).1.yield i (k16 tb prog pos ⟨0, 0, (S.close dd.c.toNat).2⟩) := by unfold act16; rw [if_neg c1, if_neg c2, if_neg c3, if_pos c4]
    rw [e1]
    obtain ⟨hc0, hc1⟩ := hdc (by omega)
    obtain ⟨dch, hdch⟩ : ∃ y, S.cs[dd.c.toNat]? = some y := ⟨_, List.getElem?_eq_getElem (by omega)⟩
    have hcl : (S.cs.map (·.cb))[dd.c.toNat]? = some dch.cb := by rw [List.getElem?_map, hdch]; rfl
    have hlen : (S.cs.map (·.cb)).length = S.cs.length := List.length_map ..
    have sa := see S11
    have saw := sa.1
    have sao := sa.2.1
    have sao1 := sa.2.2
    have sar := sao.rd
    ((iterate 23 (first | with_reducible apply vC_seq | with_reducible apply vC_region | with_reducible apply seqP_normal | ((with_reducible apply vL_val); (case h => ((with_reducible apply opv_E); exact rfl))) | with_reducible apply vL_nil | (refine vC_cond_dec rfl (fun _ => ?_) (fun h => by omega)) | (refine vC_cond_dec rfl (fun h => by omega) (fun _ => ?_)))))
    refine vC_meetV 5182155653733001793318522703581184 12 (fun v w' => ∃ eb kb', v = pt eb ∧ (∀ b ∈ k2, b ∈ kb') ∧ At (Pt eb [.int .i64 (if (S.close dd.c.toNat).2 then 0 else 150)] 29 * (PWA (L16 wb) rb (some i) rest kb' (S.close dd.c.toNat).1 * R1)) w0 No w') ?_ ?_
    · refine vC_draw' ((fun wf => Blk wf.heap b5 [pt wb] 53 ∧ Blk wf.heap b6 [pt tb] 34 ∧ Blk wf.heap b10 [.int .i64 dd.k, .int .i64 dd.c, .int .i64 dd.v, dd.cs.1, .bool dd.df] 167 ∧ Blk wf.heap wb [pt rb, vp, cv, tv, ev', .bool false] 61 ∧ Own wf.heap 28 1 ptE cv (S.cs.map (·.cb)))) (by (first | exact trivial | assumption | infer_instance | (refine ⟨?_, ?_, ?_, ?_, ?_⟩ <;> (first | assumption | infer_instance)) | (skip; done))) ?_
      ((apply (tk 0)); (case hi => exact rfl); (case hf => kernel_rfl); (case hS => (first | exact trivial | assumption | infer_instance | (refine ⟨?_, ?_, ?_, ?_, ?_⟩ <;> (first | assumption | infer_instance)) | (skip; done))); (case hy => (rintro wf ⟨hwa, hwb, hwc, hwd, hwe⟩; (((apply opv_loadb1); exact rfl; exact rfl; assumption; exact rfl)))))
      ((apply (tk 1)); (case hi => exact rfl); (case hf => kernel_rfl); (case hS => (first | exact trivial | assumption | infer_instance | (refine ⟨?_, ?_, ?_, ?_, ?_⟩ <;> (first | assumption | infer_instance)) | (skip; done))); (case hy => (rintro wf ⟨hwa, hwb, hwc, hwd, hwe⟩; (((apply opv_E); exact rfl)))))
      ((apply (tk 2)); (case hi => exact rfl); (case hf => kernel_rfl); (case hS => (first | exact trivial | assumption | infer_instance | (refine ⟨?_, ?_, ?_, ?_, ?_⟩ <;> (first | assumption | infer_instance)) | (skip; done))); (case hy => (rintro wf ⟨hwa, hwb, hwc, hwd, hwe⟩; (((apply opv_fieldAddr); exact rfl)))))
      ((apply (tk 3)); (case hi => exact rfl); (case hf => kernel_rfl); (case hS => (first | exact trivial | assumption | infer_instance | (refine ⟨?_, ?_, ?_, ?_, ?_⟩ <;> (first | assumption | infer_instance)) | (skip; done))); (case hy => (rintro wf ⟨hwa, hwb, hwc, hwd, hwe⟩; (((apply opv_loadb1); exact rfl; exact rfl; assumption; exact rfl)))))
      ((apply (tk 4)); (case hi => exact rfl); (case hf => kernel_rfl); (case hS => (first | exact trivial | assumption | infer_instance | (refine ⟨?_, ?_, ?_, ?_, ?_⟩ <;> (first | assumption | infer_instance)) | (skip; done))); (case hy => (rintro wf ⟨hwa, hwb, hwc, hwd, hwe⟩; (((apply opv_fieldAddr); exact rfl)))))
      ((apply (tk 5)); (case hi => exact rfl); (case hf => kernel_rfl); (case hS => (first | exact trivial | assumption | infer_instance | (refine ⟨?_, ?_, ?_, ?_, ?_⟩ <;> (first | assumption | infer_instance)) | (skip; done))); (case hy => (rintro wf ⟨hwa, hwb, hwc, hwd, hwe⟩; (((apply opv_loadb1); exact rfl; exact rfl; assumption; exact rfl)))))
      ((apply (tk 6)); (case hi => exact rfl); (case hf => kernel_rfl); (case hS => (first | exact trivial | assumption | infer_instance | (refine ⟨?_, ?_, ?_, ?_, ?_⟩ <;> (first | assumption | infer_instance)) | (skip; done))); (case hy => (rintro wf ⟨hwa, hwb, hwc, hwd, hwe⟩; (((apply opv_indexAddr); ((conv => lhs; whnf) <;> exact rfl); exact rfl; infer_instance; (first | omega | (simp only [List.length_map]; omega)); (first | omega | (simp only [List.length_map]; omega)))))))
      ((apply (tk 7)); (case hi => exact rfl); (case hf => kernel_rfl); (case hS => (first | exact trivial | assumption | infer_instance | (refine ⟨?_, ?_, ?_, ?_, ?_⟩ <;> (first | assumption | infer_instance)) | (skip; done))); (case hy => (rintro wf ⟨hwa, hwb, hwc, hwd, hwe⟩; (((apply opv_ld_el); exact rfl; exact rfl; infer_instance; assumption; exact rfl)))))
      refine vA_two 8 9 rfl rfl (by kernel_rfl) (by (first | exact trivial | assumption | infer_instance | (refine ⟨?_, ?_, ?_, ?_, ?_⟩ <;> (first | assumption | infer_instance)) | (skip; done))) (fun K hK => ?_) (fun K hK => ?_)
      · refine vL_callF rfl (pw_close S11.drew hdch) rfl ?_
        rintro _ w8 ⟨rfl, k3, h3, S18⟩
        have e5z := pw_bx S18 (h3 _ m5)
        have e6z := pw_bx S18 (h3 _ m6)
        have e10z := pw_bx S18 (h3 _ m10)
        rw [do5] at e10z
        have sz := see S18
        have szw := sz.1
        have szo := sz.2.1
        refine vL_nil ⟨rfl, hK _ _ ?_⟩
        refine vA_only 9 rfl (by kernel_rfl) (by (first | exact trivial | assumption | infer_instance | (refine ⟨?_, ?_, ?_, ?_, ?_⟩ <;> (first | assumption | infer_instance)) | (skip; done))) (fun K hK => ?_)
        (((apply vL_val); (case h => (apply opw_alloc))); apply vL_nil)
        refine ⟨rfl, hK _ _ ?_⟩
        refine vA_only 10 rfl (by kernel_rfl) (by (first | exact trivial | assumption | infer_instance | (refine ⟨?_, ?_, ?_, ?_, ?_⟩ <;> (first | assumption | infer_instance)) | (skip; done))) (fun K hK => ?_)
        (((apply vL_skip); (case h => ((apply ops_store1); exact norm_eq rfl; exact norm_eq rfl; (first | rfl | assumption); infer_instance; (first | decide | exact of_decide_eq_true rfl | (simp; done))))); apply vL_nil)
        refine ⟨rfl, hK _ _ ?_⟩
        refine vA_done (by kernel_rfl) (by (first | exact trivial | assumption | infer_instance | (refine ⟨?_, ?_, ?_, ?_, ?_⟩ <;> (first | assumption | infer_instance)) | (skip; done))) ?_
        exact ⟨rfl, by ((apply same_updN; (iterate 10 (((refine same_updO ?_ ?_); rotate_left; exact rfl)))); exact fun _ _ => rfl), _, k3, rfl, h3, S18.alloc.set⟩
      · (((apply vL_val); (case h => (apply opw_alloc))); apply vL_nil)
        refine ⟨rfl, hK _ _ ?_⟩
        have S17 := (S11.drew.alloc (cs := [.int .i64 0]) (T := 29)).ac (show _ = PWA (L16 wb) rb (some i) rest k2 S * (Pt w5.drew.heap.size [.int .i64 0] 29 * R1) by ac_rfl)
        refine tkc 8 rfl (by kernel_rfl) (by (first | exact trivial | assumption | infer_instance | (refine ⟨?_, ?_, ?_, ?_, ?_⟩ <;> (first | assumption | infer_instance)) | (skip; done))) rfl (pw_close S17 hdch) rfl ?_
        rintro _ w8 ⟨rfl, k3, h3, S19⟩
        have S20 := S19.ac (show _ = Pt w5.drew.heap.size [.int .i64 0] 29 * (PWA (L16 wb) rb (some i) rest k3 (S.close dd.c.toNat).1 * R1) by ac_rfl)
        have hbE := S20.blk
        have S18 := S20.drop
        generalize w5.drew.heap.size = bE at *
        have e5z := pw_bx S18 (h3 _ m5)
        have e6z := pw_bx S18 (h3 _ m6)
        have e10z := pw_bx S18 (h3 _ m10)
        rw [do5] at e10z
        have sz := see S18
        have szw := sz.1
        have szo := sz.2.1
        refine vA_only 10 rfl (by kernel_rfl) (by (first | exact trivial | assumption | infer_instance | (refine ⟨?_, ?_, ?_, ?_, ?_⟩ <;> (first | assumption | infer_instance)) | (skip; done))) (fun K hK => ?_)
        (((apply vL_skip); (case h => ((apply ops_store1); exact norm_eq rfl; exact norm_eq rfl; (first | rfl | assumption); assumption; (first | decide | exact of_decide_eq_true rfl | (simp; done))))); apply vL_nil)
        refine ⟨rfl, hK _ _ ?_⟩
        have S21 := S20.set (cs' := [.int .i64 (if (S.close dd.c.toNat).2 then 0 else 150)])
        have S18 := S21.drop
        have e5z := pw_bx S18 (h3 _ m5)
        have e6z := pw_bx S18 (h3 _ m6)
        have e10z := pw_bx S18 (h3 _ m10)
        rw [do5] at e10z
        have sz := see S18
        have szw := sz.1
        have szo := sz.2.1
        refine vA_done (by kernel_rfl) (by (first | exact trivial | assumption | infer_instance | (refine ⟨?_, ?_, ?_, ?_, ?_⟩ <;> (first | assumption | infer_instance)) | (skip; done))) ?_
        exact ⟨rfl, by ((apply same_updN; (iterate 10 (((refine same_updO ?_ ?_); rotate_left; exact rfl)))); exact fun _ _ => rfl), _, k3, rfl, h3, S21⟩
    rintro junk8 _ w6 ⟨eb, k3, rfl, h3, S12⟩
    have S13 := pw_box S12
    have mE : (eb, [.int .i64 (if (S.close dd.c.toNat).2 then 0 else 150)], 29) ∈ ((eb, [.int .i64 (if (S.close dd.c.toNat).2 then 0 else 150)], 29) :: k3 : List Bx) := List.mem_cons_self
    have h4 : ∀ b ∈ k2, b ∈ ((eb, [.int .i64 (if (S.close dd.c.toNat).2 then 0 else 150)], 29) :: k3 : List Bx) := fun b hb => List.mem_cons_of_mem _ (h3 b hb)
    generalize ((eb, [.int .i64 (if (S.close dd.c.toNat).2 then 0 else 150)], 29) :: k3 : List Bx) = k4 at S13 mE h4
    have hck := close_keep dd.c.toNat hi (rfl : (St.run : St K16).waits = false)
    have ht3 : (S.close dd.c.toNat).1.tbs[i]? = some tb := by rw [hck.2]; exact ht
    have hte : (⟨0, 0, (S.close dd.c.toNat).2⟩ : To) = ⟨0, 0, decide ((if (S.close dd.c.toNat).2 then (0 : Int) else 150) = 0)⟩ := by cases (S.close dd.c.toNat).2 <;> rfl
    have e5b := pw_bx S13 (h4 _ m5)
    have e6b := pw_bx S13 (h4 _ m6)
    first | with_reducible apply vC_seq | with_reducible apply vC_region | with_reducible apply seqP_normal | with_reducible apply vC_block | with_reducible apply vC_ret | with_reducible apply vC_skip | with_reducible apply vC_exit | with_reducible apply seqP_ret | with_reducible apply seqP_exit | with_reducible apply blockP_normal | with_reducible apply blockP_ret | with_reducible apply blockP_exit | ((with_reducible apply blockP_pass); exact rfl) | with_reducible apply loopP_normal | with_reducible apply vL_ac | with_reducible apply vL_an | with_reducible apply loopP_ret | with_reducible apply loopP_exit | ((with_reducible apply vC_cond_true); exact rfl) | ((with_reducible apply vC_cond_false); exact rfl) | with_reducible apply vC_scope | with_reducible apply gotoP_normal | with_reducible apply gotoP_ret | with_reducible apply gotoP_exit | with_reducible apply vC_label
    refine vC_draw' ((fun wf => Blk wf.heap b5 [pt wb] 53 ∧ Blk wf.heap b6 [pt tb] 34)) (by (first | exact trivial | assumption | infer_instance | (refine ⟨?_, ?_⟩ <;> (first | assumption | infer_instance)) | (skip; done))) ?_
    ((apply (tk 0)); (case hi => exact rfl); (case hf => kernel_rfl); (case hS => (first | exact trivial | assumption | infer_instance | (refine ⟨?_, ?_⟩ <;> (first | assumption | infer_instance)) | (skip; done))); (case hy => (rintro wf ⟨hwa, hwb⟩; (((apply opv_loadb1); exact rfl; exact rfl; assumption; exact rfl)))))
    ((apply (tk 1)); (case hi => exact rfl); (case hf => kernel_rfl); (case hS => (first | exact trivial | assumption | infer_instance | (refine ⟨?_, ?_⟩ <;> (first | assumption | infer_instance)) | (skip; done))); (case hy => (rintro wf ⟨hwa, hwb⟩; (((apply opv_loadb1); exact rfl; exact rfl; assumption; exact rfl)))))
    ((apply (tk 2)); (case hi => exact rfl); (case hf => kernel_rfl); (case hS => (first | exact trivial | assumption | infer_instance | (refine ⟨?_, ?_⟩ <;> (first | assumption | infer_instance)) | (skip; done))); (case hy => (rintro wf ⟨hwa, hwb⟩; (((apply opv_makeFunc); exact rfl)))))
    refine tkc 3 rfl (by kernel_rfl) (by (first | exact trivial | assumption | infer_instance | (refine ⟨?_, ?_⟩ <;> (first | assumption | infer_instance)) | (skip; done))) rfl (pw_yield (S13.drew) (hck.1) (ht3) _ _ (k16 tb prog pos ⟨0, 0, (S.close dd.c.toNat).2⟩) ⟨rfl, .y5 b11 eb _ (nx _ _ h4) mE hte⟩) rfl ?_
    rintro _ w8 ⟨rfl, S18⟩
    have e5z := pw_bx S18 (h4 _ m5)
    have e6z := pw_bx S18 (h4 _ m6)
    refine tkc 4 rfl (by kernel_rfl) (by (first | exact trivial | assumption | infer_instance | (refine ⟨?_, ?_⟩ <;> (first | assumption | infer_instance)) | (skip; done))) rfl (w_need (shut S18)) rfl ?_
    rintro _ w9 S19
    have S20 := S19.ac (show _ = PWA (L16 wb) rb (some i) rest k4 ((S.close dd.c.toNat).1.yield i (k16 tb prog pos ⟨0, 0, (S.close dd.c.toNat).2⟩)) * (WA wb rb vp (S.cs.map (·.cb)) tl (el ++ [nw]) false * R) by ac_rfl)
    have e5y := pw_bx S20 (h4 _ m5)
    have e6y := pw_bx S20 (h4 _ m6)
    refine vA_done (by kernel_rfl) (by (first | exact trivial | assumption | infer_instance | (refine ⟨?_, ?_⟩ <;> (first | assumption | infer_instance)) | (skip; done))) ?_
    (apply blockP_normal)
    (first | apply ret0 | apply ret0n)
    exact ⟨k4, fun b hb => h4 b (hkk b hb), S20⟩
  by_cases c6 : dd.k = 6
  · have e1 : act16 S i tb prog pos dd = (S.trySend dd.c.toNat dd.v).1.yield i (k16 tb prog pos ⟨0, 0, (S.trySend dd.c.toNat dd.v).2.1⟩) := by unfold act16; rw [if_neg c1, if_neg c2, if_neg c3, if_neg c4, if_pos c6]
    rw [e1]
    obtain ⟨hc0, hc1⟩ := hdc (by omega)
    obtain ⟨dch, hdch⟩ : ∃ y, S.cs[dd.c.toNat]? = some y := ⟨_, List.getElem?_eq_getElem (by omega)⟩
    have hcl : (S.cs.map (·.cb))[dd.c.toNat]? = some dch.cb := by rw [List.getElem?_map, hdch]; rfl
    have hlen : (S.cs.map (·.cb)).length = S.cs.length := List.length_map ..
    have sa := see S11
    have saw := sa.1
    have sao := sa.2.1
    have sao1 := sa.2.2
    have sar := sao.rd
    ((iterate 30 (first | with_reducible apply vC_seq | with_reducible apply vC_region | with_reducible apply seqP_normal | ((with_reducible apply vL_val); (case h => ((with_reducible apply opv_E); exact rfl))) | with_reducible apply vL_nil | (refine vC_cond_dec rfl (fun _ => ?_) (fun h => by omega)) | (refine vC_cond_dec rfl (fun h => by omega) (fun _ => ?_)))))
    refine vC_meetV2 10888371127472138372891535534286442618880 13 14 (fun v u w' => ∃ ob kb', v = pt ob ∧ u = .bool (S.trySend dd.c.toNat dd.v).2.2 ∧ (∀ b ∈ k2, b ∈ kb') ∧ At (Pt ob [.bool (S.trySend dd.c.toNat dd.v).2.1] 4 * (PWA (L16 wb) rb (some i) rest kb' (S.trySend dd.c.toNat dd.v).1 * R1)) w0 No w') ?_ ?_
    · refine vC_draw' ((fun wf => Blk wf.heap b5 [pt wb] 53 ∧ Blk wf.heap b6 [pt tb] 34 ∧ Blk wf.heap b10 [.int .i64 dd.k, .int .i64 dd.c, .int .i64 dd.v, dd.cs.1, .bool dd.df] 167 ∧ Blk wf.heap wb [pt rb, vp, cv, tv, ev', .bool false] 61 ∧ Own wf.heap 28 1 ptE cv (S.cs.map (·.cb)))) (by (first | exact trivial | assumption | infer_instance | (refine ⟨?_, ?_, ?_, ?_, ?_⟩ <;> (first | assumption | infer_instance)) | (skip; done))) ?_
      ((apply (tk 0)); (case hi => exact rfl); (case hf => kernel_rfl); (case hS => (first | exact trivial | assumption | infer_instance | (refine ⟨?_, ?_, ?_, ?_, ?_⟩ <;> (first | assumption | infer_instance)) | (skip; done))); (case hy => (rintro wf ⟨hwa, hwb, hwc, hwd, hwe⟩; (((apply opv_loadb1); exact rfl; exact rfl; assumption; exact rfl)))))
      ((apply (tk 1)); (case hi => exact rfl); (case hf => kernel_rfl); (case hS => (first | exact trivial | assumption | infer_instance | (refine ⟨?_, ?_, ?_, ?_, ?_⟩ <;> (first | assumption | infer_instance)) | (skip; done))); (case hy => (rintro wf ⟨hwa, hwb, hwc, hwd, hwe⟩; (((apply opv_E); exact rfl)))))
      ((apply (tk 2)); (case hi => exact rfl); (case hf => kernel_rfl); (case hS => (first | exact trivial | assumption | infer_instance | (refine ⟨?_, ?_, ?_, ?_, ?_⟩ <;> (first | assumption | infer_instance)) | (skip; done))); (case hy => (rintro wf ⟨hwa, hwb, hwc, hwd, hwe⟩; (((apply opv_fieldAddr); exact rfl)))))
      ((apply (tk 3)); (case hi => exact rfl); (case hf => kernel_rfl); (case hS => (first | exact trivial | assumption | infer_instance | (refine ⟨?_, ?_, ?_, ?_, ?_⟩ <;> (first | assumption | infer_instance)) | (skip; done))); (case hy => (rintro wf ⟨hwa, hwb, hwc, hwd, hwe⟩; (((apply opv_loadb1); exact rfl; exact rfl; assumption; exact rfl)))))
      ((apply (tk 4)); (case hi => exact rfl); (case hf => kernel_rfl); (case hS => (first | exact trivial | assumption | infer_instance | (refine ⟨?_, ?_, ?_, ?_, ?_⟩ <;> (first | assumption | infer_instance)) | (skip; done))); (case hy => (rintro wf ⟨hwa, hwb, hwc, hwd, hwe⟩; (((apply opv_fieldAddr); exact rfl)))))
      ((apply (tk 5)); (case hi => exact rfl); (case hf => kernel_rfl); (case hS => (first | exact trivial | assumption | infer_instance | (refine ⟨?_, ?_, ?_, ?_, ?_⟩ <;> (first | assumption | infer_instance)) | (skip; done))); (case hy => (rintro wf ⟨hwa, hwb, hwc, hwd, hwe⟩; (((apply opv_loadb1); exact rfl; exact rfl; assumption; exact rfl)))))
      ((apply (tk 6)); (case hi => exact rfl); (case hf => kernel_rfl); (case hS => (first | exact trivial | assumption | infer_instance | (refine ⟨?_, ?_, ?_, ?_, ?_⟩ <;> (first | assumption | infer_instance)) | (skip; done))); (case hy => (rintro wf ⟨hwa, hwb, hwc, hwd, hwe⟩; (((apply opv_indexAddr); ((conv => lhs; whnf) <;> exact rfl); exact rfl; infer_instance; (first | omega | (simp only [List.length_map]; omega)); (first | omega | (simp only [List.length_map]; omega)))))))
      ((apply (tk 7)); (case hi => exact rfl); (case hf => kernel_rfl); (case hS => (first | exact trivial | assumption | infer_instance | (refine ⟨?_, ?_, ?_, ?_, ?_⟩ <;> (first | assumption | infer_instance)) | (skip; done))); (case hy => (rintro wf ⟨hwa, hwb, hwc, hwd, hwe⟩; (((apply opv_ld_el); exact rfl; exact rfl; infer_instance; assumption; exact rfl)))))
      ((apply (tk 8)); (case hi => exact rfl); (case hf => kernel_rfl); (case hS => (first | exact trivial | assumption | infer_instance | (refine ⟨?_, ?_, ?_, ?_, ?_⟩ <;> (first | assumption | infer_instance)) | (skip; done))); (case hy => (rintro wf ⟨hwa, hwb, hwc, hwd, hwe⟩; (((apply opv_fieldAddr); exact rfl)))))
      ((apply (tk 9)); (case hi => exact rfl); (case hf => kernel_rfl); (case hS => (first | exact trivial | assumption | infer_instance | (refine ⟨?_, ?_, ?_, ?_, ?_⟩ <;> (first | assumption | infer_instance)) | (skip; done))); (case hy => (rintro wf ⟨hwa, hwb, hwc, hwd, hwe⟩; (((apply opv_loadb1); exact rfl; exact rfl; assumption; exact rfl)))))
      refine vA_two 10 14 rfl rfl (by kernel_rfl) (by (first | exact trivial | assumption | infer_instance | (refine ⟨?_, ?_, ?_, ?_, ?_⟩ <;> (first | assumption | infer_instance)) | (skip; done))) (fun K hK => ?_) (fun K hK => ?_)
      · refine vL_callF rfl (pw_trysend S11.drew hdch dd.v) rfl ?_
        rintro _ w8 ⟨rfl, k3, h3, S18⟩
        have e5z := pw_bx S18 (h3 _ m5)
        have e6z := pw_bx S18 (h3 _ m6)
        have e10z := pw_bx S18 (h3 _ m10)
        rw [do5] at e10z
        have sz := see S18
        have szw := sz.1
        have szo := sz.2.1
        refine vL_nil ⟨rfl, hK _ _ ?_⟩
        ((apply (tk 11)); (case hi => exact rfl); (case hf => kernel_rfl); (case hS => (first | exact trivial | assumption | infer_instance | (refine ⟨?_, ?_, ?_, ?_, ?_⟩ <;> (first | assumption | infer_instance)) | (skip; done))); (case hy => (rintro wf ⟨hwa, hwb, hwc, hwd, hwe⟩; (((apply opv_E); exact rfl)))))
        ((apply (tk 12)); (case hi => exact rfl); (case hf => kernel_rfl); (case hS => (first | exact trivial | assumption | infer_instance | (refine ⟨?_, ?_, ?_, ?_, ?_⟩ <;> (first | assumption | infer_instance)) | (skip; done))); (case hy => (rintro wf ⟨hwa, hwb, hwc, hwd, hwe⟩; (((apply opv_E); exact rfl)))))
        ((apply (tk 13)); (case hi => exact rfl); (case hf => kernel_rfl); (case hS => (first | exact trivial | assumption | infer_instance | (refine ⟨?_, ?_, ?_, ?_, ?_⟩ <;> (first | assumption | infer_instance)) | (skip; done))); (case hy => (rintro wf ⟨hwa, hwb, hwc, hwd, hwe⟩; (((apply opv_E); exact rfl)))))
        refine vA_only 14 rfl (by kernel_rfl) (by (first | exact trivial | assumption | infer_instance | (refine ⟨?_, ?_, ?_, ?_, ?_⟩ <;> (first | assumption | infer_instance)) | (skip; done))) (fun K hK => ?_)
        (((apply vL_val); (case h => (apply opw_alloc))); apply vL_nil)
        refine ⟨rfl, hK _ _ ?_⟩
        refine vA_only 15 rfl (by kernel_rfl) (by (first | exact trivial | assumption | infer_instance | (refine ⟨?_, ?_, ?_, ?_, ?_⟩ <;> (first | assumption | infer_instance)) | (skip; done))) (fun K hK => ?_)
        (((apply vL_skip); (case h => ((apply ops_store1); exact norm_eq rfl; exact norm_eq rfl; (first | rfl | assumption); infer_instance; (first | decide | exact of_decide_eq_true rfl | (simp; done))))); apply vL_nil)
        refine ⟨rfl, hK _ _ ?_⟩
        ((apply (tk 16)); (case hi => exact rfl); (case hf => kernel_rfl); (case hS => (first | exact trivial | assumption | infer_instance | (refine ⟨?_, ?_, ?_, ?_, ?_⟩ <;> (first | assumption | infer_instance)) | (skip; done))); (case hy => (rintro wf ⟨hwa, hwb, hwc, hwd, hwe⟩; (((apply opv_E); exact rfl)))))
        refine vA_done (by kernel_rfl) (by (first | exact trivial | assumption | infer_instance | (refine ⟨?_, ?_, ?_, ?_, ?_⟩ <;> (first | assumption | infer_instance)) | (skip; done))) ?_
        exact ⟨rfl, by ((((refine same_updO ?_ ?_); rotate_left; exact rfl); apply same_updN; (iterate 15 (((refine same_updO ?_ ?_); rotate_left; exact rfl)))); exact fun _ _ => rfl), _, k3, rfl, rfl, h3, S18.alloc.set⟩
      · (((apply vL_val); (case h => (apply opw_alloc))); apply vL_nil)
        refine ⟨rfl, hK _ _ ?_⟩
        have S17 := (S11.drew.alloc (cs := [.bool false]) (T := 4)).ac (show _ = PWA (L16 wb) rb (some i) rest k2 S * (Pt w5.drew.heap.size [.bool false] 4 * R1) by ac_rfl)
        refine tkc 10 rfl (by kernel_rfl) (by (first | exact trivial | assumption | infer_instance | (refine ⟨?_, ?_, ?_, ?_, ?_⟩ <;> (first | assumption | infer_instance)) | (skip; done))) rfl (pw_trysend S17 hdch dd.v) rfl ?_
        rintro _ w8 ⟨rfl, k3, h3, S19⟩
        have S20 := S19.ac (show _ = Pt w5.drew.heap.size [.bool false] 4 * (PWA (L16 wb) rb (some i) rest k3 (S.trySend dd.c.toNat dd.v).1 * R1) by ac_rfl)
        have hbE := S20.blk
        have S18 := S20.drop
        generalize w5.drew.heap.size = bE at *
        have e5z := pw_bx S18 (h3 _ m5)
        have e6z := pw_bx S18 (h3 _ m6)
        have e10z := pw_bx S18 (h3 _ m10)
        rw [do5] at e10z
        have sz := see S18
        have szw := sz.1
        have szo := sz.2.1
        ((apply (tk 11)); (case hi => exact rfl); (case hf => kernel_rfl); (case hS => (first | exact trivial | assumption | infer_instance | (refine ⟨?_, ?_, ?_, ?_, ?_⟩ <;> (first | assumption | infer_instance)) | (skip; done))); (case hy => (rintro wf ⟨hwa, hwb, hwc, hwd, hwe⟩; (((apply opv_E); exact rfl)))))
        ((apply (tk 12)); (case hi => exact rfl); (case hf => kernel_rfl); (case hS => (first | exact trivial | assumption | infer_instance | (refine ⟨?_, ?_, ?_, ?_, ?_⟩ <;> (first | assumption | infer_instance)) | (skip; done))); (case hy => (rintro wf ⟨hwa, hwb, hwc, hwd, hwe⟩; (((apply opv_E); exact rfl)))))
        ((apply (tk 13)); (case hi => exact rfl); (case hf => kernel_rfl); (case hS => (first | exact trivial | assumption | infer_instance | (refine ⟨?_, ?_, ?_, ?_, ?_⟩ <;> (first | assumption | infer_instance)) | (skip; done))); (case hy => (rintro wf ⟨hwa, hwb, hwc, hwd, hwe⟩; (((apply opv_E); exact rfl)))))
        refine vA_only 15 rfl (by kernel_rfl) (by (first | exact trivial | assumption | infer_instance | (refine ⟨?_, ?_, ?_, ?_, ?_⟩ <;> (first | assumption | infer_instance)) | (skip; done))) (fun K hK => ?_)
        (((apply vL_skip); (case h => ((apply ops_store1); exact norm_eq rfl; exact norm_eq rfl; (first | rfl | assumption); assumption; (first | decide | exact of_decide_eq_true rfl | (simp; done))))); apply vL_nil)
        refine ⟨rfl, hK _ _ ?_⟩
        have S21 := S20.set (cs' := [.bool (S.trySend dd.c.toNat dd.v).2.1])
        have S18 := S21.drop
        have e5z := pw_bx S18 (h3 _ m5)
        have e6z := pw_bx S18 (h3 _ m6)
        have e10z := pw_bx S18 (h3 _ m10)
        rw [do5] at e10z
        have sz := see S18
        have szw := sz.1
        have szo := sz.2.1
        ((apply (tk 16)); (case hi => exact rfl); (case hf => kernel_rfl); (case hS => (first | exact trivial | assumption | infer_instance | (refine ⟨?_, ?_, ?_, ?_, ?_⟩ <;> (first | assumption | infer_instance)) | (skip; done))); (case hy => (rintro wf ⟨hwa, hwb, hwc, hwd, hwe⟩; (((apply opv_E); exact rfl)))))
        refine vA_done (by kernel_rfl) (by (first | exact trivial | assumption | infer_instance | (refine ⟨?_, ?_, ?_, ?_, ?_⟩ <;> (first | assumption | infer_instance)) | (skip; done))) ?_
        exact ⟨rfl, by ((((refine same_updO ?_ ?_); rotate_left; exact rfl); apply same_updN; (iterate 15 (((refine same_updO ?_ ?_); rotate_left; exact rfl)))); exact fun _ _ => rfl), _, k3, rfl, rfl, h3, S21⟩
    rintro junk8 _ _ w6 ⟨ob, k3, rfl, rfl, h3, S12⟩
    have hcan : (S.trySend dd.c.toNat dd.v).2.1 = true → (S.trySend dd.c.toNat dd.v).2.2 = true := trySend_can _ _ _
    have htr := trySend_keep (j := dd.c.toNat) (v := dd.v) hi (rfl : (St.run : St K16).waits = false)
    have ht3 : (S.trySend dd.c.toNat dd.v).1.tbs[i]? = some tb := by rw [trySend_tbs]; exact ht
    have S13 := pw_box S12
    have mE : (ob, [.bool (S.trySend dd.c.toNat dd.v).2.1], 4) ∈ ((ob, [.bool (S.trySend dd.c.toNat dd.v).2.1], 4) :: k3 : List Bx) := List.mem_cons_self
    have h4 : ∀ b ∈ k2, b ∈ ((ob, [.bool (S.trySend dd.c.toNat dd.v).2.1], 4) :: k3 : List Bx) := fun b hb => List.mem_cons_of_mem _ (h3 b hb)
    generalize ((ob, [.bool (S.trySend dd.c.toNat dd.v).2.1], 4) :: k3 : List Bx) = k4 at S13 mE h4
    have e5b := pw_bx S13 (h4 _ m5)
    have e6b := pw_bx S13 (h4 _ m6)
    have eob := pw_bx S13 mE
    have sb := (see S13).1
    clear S12
    generalize hts : S.trySend dd.c.toNat dd.v = rr at *
    obtain ⟨S', okk, can⟩ := rr
    simp only [] at *
    (apply seqP_normal; apply vC_seq)
    refine vC_meet0 178395072552503515101454918193749075465076736 (fun w' => At (PWA (L16 wb) rb (some i) rest k4 S' * R1) w0 No w') ?_ ?_
    · refine vC_draw' ((fun wf => Blk wf.heap b5 [pt wb] 53 ∧ Blk wf.heap ob [.bool okk] 4 ∧ Blk wf.heap wb [pt rb, vp, cv, tv, ev', .bool false] 61)) (by (first | exact trivial | assumption | infer_instance | (refine ⟨?_, ?_, ?_⟩ <;> (first | assumption | infer_instance)) | (skip; done))) ?_
      ((apply (tk 0)); (case hi => exact rfl); (case hf => kernel_rfl); (case hS => (first | exact trivial | assumption | infer_instance | (refine ⟨?_, ?_, ?_⟩ <;> (first | assumption | infer_instance)) | (skip; done))); (case hy => (rintro wf ⟨hwa, hwb, hwc⟩; (((apply opv_loadb1); exact rfl; exact rfl; assumption; exact rfl)))))
      ((apply (tk 1)); (case hi => exact rfl); (case hf => kernel_rfl); (case hS => (first | exact trivial | assumption | infer_instance | (refine ⟨?_, ?_, ?_⟩ <;> (first | assumption | infer_instance)) | (skip; done))); (case hy => (rintro wf ⟨hwa, hwb, hwc⟩; (((apply opv_loadb1); exact rfl; exact rfl; assumption; exact rfl)))))
      ((apply (tk 2)); (case hi => exact rfl); (case hf => kernel_rfl); (case hS => (first | exact trivial | assumption | infer_instance | (refine ⟨?_, ?_, ?_⟩ <;> (first | assumption | infer_instance)) | (skip; done))); (case hy => (rintro wf ⟨hwa, hwb, hwc⟩; (((apply opv_E); exact rfl)))))
      ((apply (tk 3)); (case hi => exact rfl); (case hf => kernel_rfl); (case hS => (first | exact trivial | assumption | infer_instance | (refine ⟨?_, ?_, ?_⟩ <;> (first | assumption | infer_instance)) | (skip; done))); (case hy => (rintro wf ⟨hwa, hwb, hwc⟩; (((apply opv_fieldAddr); exact rfl)))))
      ((apply (tk 4)); (case hi => exact rfl); (case hf => kernel_rfl); (case hS => (first | exact trivial | assumption | infer_instance | (refine ⟨?_, ?_, ?_⟩ <;> (first | assumption | infer_instance)) | (skip; done))); (case hy => (rintro wf ⟨hwa, hwb, hwc⟩; (((apply opv_loadb1); exact rfl; exact rfl; assumption; exact rfl)))))
      ((apply (tk 5)); (case hi => exact rfl); (case hf => kernel_rfl); (case hS => (first | exact trivial | assumption | infer_instance | (refine ⟨?_, ?_, ?_⟩ <;> (first | assumption | infer_instance)) | (skip; done))); (case hy => (rintro wf ⟨hwa, hwb, hwc⟩; (((apply opv_E); exact rfl)))))
      ((apply (tkw 6)); (case hi => exact rfl); (case hg => exact rfl); (case hf => kernel_rfl); (case hS => (first | exact trivial | assumption | infer_instance | (refine ⟨?_, ?_, ?_⟩ <;> (first | assumption | infer_instance)) | (skip; done))); (case hy => (rintro wf ⟨hwa, hwb, hwc⟩; (((apply opv_loadb1); exact rfl; exact rfl; assumption; exact rfl)))))
      ((apply (tkw 7)); (case hi => exact rfl); (case hg => exact rfl); (case hf => kernel_rfl); (case hS => (first | exact trivial | assumption | infer_instance | (refine ⟨?_, ?_, ?_⟩ <;> (first | assumption | infer_instance)) | (skip; done))); (case hy => (rintro wf ⟨hwa, hwb, hwc⟩; (((apply opv_E); exact rfl)))))
      cases okk with
      | true =>
        obtain rfl := hcan rfl
        ((apply (tkw 8)); (case hi => exact rfl); (case hg => exact rfl); (case hf => kernel_rfl); (case hS => (first | exact trivial | assumption | infer_instance | (refine ⟨?_, ?_, ?_⟩ <;> (first | assumption | infer_instance)) | (skip; done))); (case hy => (rintro wf ⟨hwa, hwb, hwc⟩; (((apply opv_E); exact rfl)))))
        ((apply (tkw 9)); (case hi => exact rfl); (case hg => exact rfl); (case hf => kernel_rfl); (case hS => (first | exact trivial | assumption | infer_instance | (refine ⟨?_, ?_, ?_⟩ <;> (first | assumption | infer_instance)) | (skip; done))); (case hy => (rintro wf ⟨hwa, hwb, hwc⟩; (((apply opv_not); exact rfl)))))
        ((apply (tkw 10)); (case hi => exact rfl); (case hg => exact rfl); (case hf => kernel_rfl); (case hS => (first | exact trivial | assumption | infer_instance | (refine ⟨?_, ?_, ?_⟩ <;> (first | assumption | infer_instance)) | (skip; done))); (case hy => (rintro wf ⟨hwa, hwb, hwc⟩; (((apply opv_E); exact rfl)))))
        ((apply (tk 11)); (case hi => exact rfl); (case hf => kernel_rfl); (case hS => (first | exact trivial | assumption | infer_instance | (refine ⟨?_, ?_, ?_⟩ <;> (first | assumption | infer_instance)) | (skip; done))); (case hy => (rintro wf ⟨hwa, hwb, hwc⟩; (((apply opv_E); exact rfl)))))
        ((apply (tk 12)); (case hi => exact rfl); (case hf => kernel_rfl); (case hS => (first | exact trivial | assumption | infer_instance | (refine ⟨?_, ?_, ?_⟩ <;> (first | assumption | infer_instance)) | (skip; done))); (case hy => (rintro wf ⟨hwa, hwb, hwc⟩; (((apply opv_E); exact rfl)))))
        ((apply (tk 13)); (case hi => exact rfl); (case hf => kernel_rfl); (case hS => (first | exact trivial | assumption | infer_instance | (refine ⟨?_, ?_, ?_⟩ <;> (first | assumption | infer_instance)) | (skip; done))); (case hy => (rintro wf ⟨hwa, hwb, hwc⟩; (((apply opv_fieldAddr); exact rfl)))))
        refine vA_only 14 rfl (by kernel_rfl) (by (first | exact trivial | assumption | infer_instance | (refine ⟨?_, ?_, ?_⟩ <;> (first | assumption | infer_instance)) | (skip; done))) (fun K hK => ?_)
        (((apply vL_skip); (case h => ((apply ops_store1); exact norm_eq rfl; exact norm_eq rfl; (first | rfl | assumption); assumption; (first | decide | exact of_decide_eq_true rfl | (simp; done))))); apply vL_nil)
        refine ⟨rfl, hK _ _ ?_⟩
        have S14 := (((S13.drew.swap.ac (by rw [hR1])).ac (star_assoc _ _ _)).set (cs' := [pt rb, vp, cv, tv, ev', .bool false])).ac (star_assoc _ _ _).symm |>.swap
        rw [← hR1] at S14
        have e5c := pw_bx S14 (h4 _ m5)
        have eoc := pw_bx S14 mE
        have sbc := (see S14).1
        refine vA_done (by kernel_rfl) (by (first | exact trivial | assumption | infer_instance | (refine ⟨?_, ?_, ?_⟩ <;> (first | assumption | infer_instance)) | (skip; done))) ?_
        exact ⟨rfl, by ((apply same_updN; (iterate 14 (((refine same_updO ?_ ?_); rotate_left; exact rfl)))); exact fun _ _ => rfl), S14⟩
      | false =>
        (refine tku 8 rfl rfl rfl (by kernel_rfl) (by (first | exact trivial | assumption | infer_instance | (refine ⟨?_, ?_, ?_⟩ <;> (first | assumption | infer_instance)) | (skip; done))) ?_)
        (refine tku 9 rfl rfl rfl (by kernel_rfl) (by (first | exact trivial | assumption | infer_instance | (refine ⟨?_, ?_, ?_⟩ <;> (first | assumption | infer_instance)) | (skip; done))) ?_)
        ((apply (tkw 10)); (case hi => exact rfl); (case hg => exact rfl); (case hf => kernel_rfl); (case hS => (first | exact trivial | assumption | infer_instance | (refine ⟨?_, ?_, ?_⟩ <;> (first | assumption | infer_instance)) | (skip; done))); (case hy => (rintro wf ⟨hwa, hwb, hwc⟩; (((apply opv_E); exact rfl)))))
        ((apply (tk 11)); (case hi => exact rfl); (case hf => kernel_rfl); (case hS => (first | exact trivial | assumption | infer_instance | (refine ⟨?_, ?_, ?_⟩ <;> (first | assumption | infer_instance)) | (skip; done))); (case hy => (rintro wf ⟨hwa, hwb, hwc⟩; (((apply opv_E); exact rfl)))))
        ((apply (tk 12)); (case hi => exact rfl); (case hf => kernel_rfl); (case hS => (first | exact trivial | assumption | infer_instance | (refine ⟨?_, ?_, ?_⟩ <;> (first | assumption | infer_instance)) | (skip; done))); (case hy => (rintro wf ⟨hwa, hwb, hwc⟩; (((apply opv_E); exact rfl)))))
        ((apply (tk 13)); (case hi => exact rfl); (case hf => kernel_rfl); (case hS => (first | exact trivial | assumption | infer_instance | (refine ⟨?_, ?_, ?_⟩ <;> (first | assumption | infer_instance)) | (skip; done))); (case hy => (rintro wf ⟨hwa, hwb, hwc⟩; (((apply opv_fieldAddr); exact rfl)))))
        refine vA_only 14 rfl (by kernel_rfl) (by (first | exact trivial | assumption | infer_instance | (refine ⟨?_, ?_, ?_⟩ <;> (first | assumption | infer_instance)) | (skip; done))) (fun K hK => ?_)
        (((apply vL_skip); (case h => ((apply ops_store1); exact norm_eq rfl; exact norm_eq rfl; (first | rfl | assumption); assumption; (first | decide | exact of_decide_eq_true rfl | (simp; done))))); apply vL_nil)
        refine ⟨rfl, hK _ _ ?_⟩
        have S14 := (((S13.drew.swap.ac (by rw [hR1])).ac (star_assoc _ _ _)).set (cs' := [pt rb, vp, cv, tv, ev', .bool false])).ac (star_assoc _ _ _).symm |>.swap
        rw [← hR1] at S14
        have e5c := pw_bx S14 (h4 _ m5)
        have eoc := pw_bx S14 mE
        have sbc := (see S14).1
        refine vA_done (by kernel_rfl) (by (first | exact trivial | assumption | infer_instance | (refine ⟨?_, ?_, ?_⟩ <;> (first | assumption | infer_instance)) | (skip; done))) ?_
        exact ⟨rfl, by ((apply same_updN; (iterate 14 (((refine same_updO ?_ ?_); rotate_left; exact rfl)))); exact fun _ _ => rfl), S14⟩
    clear e5b e6b eob sb S13
    rintro junk9 w6 S13
    have e5b := pw_bx S13 (h4 _ m5)
    have e6b := pw_bx S13 (h4 _ m6)
    first | with_reducible apply vC_seq | with_reducible apply vC_region | with_reducible apply seqP_normal | with_reducible apply vC_block | with_reducible apply vC_ret | with_reducible apply vC_skip | with_reducible apply vC_exit | with_reducible apply seqP_ret | with_reducible apply seqP_exit | with_reducible apply blockP_normal | with_reducible apply blockP_ret | with_reducible apply blockP_exit | ((with_reducible apply blockP_pass); exact rfl) | with_reducible apply loopP_normal | with_reducible apply vL_ac | with_reducible apply vL_an | with_reducible apply loopP_ret | with_reducible apply loopP_exit | ((with_reducible apply vC_cond_true); exact rfl) | ((with_reducible apply vC_cond_false); exact rfl) | with_reducible apply vC_scope | with_reducible apply gotoP_normal | with_reducible apply gotoP_ret | with_reducible apply gotoP_exit | with_reducible apply vC_label
    refine vC_draw' ((fun wf => Blk wf.heap b5 [pt wb] 53 ∧ Blk wf.heap b6 [pt tb] 34)) (by (first | exact trivial | assumption | infer_instance | (refine ⟨?_, ?_⟩ <;> (first | assumption | infer_instance)) | (skip; done))) ?_
    ((apply (tk 0)); (case hi => exact rfl); (case hf => kernel_rfl); (case hS => (first | exact trivial | assumption | infer_instance | (refine ⟨?_, ?_⟩ <;> (first | assumption | infer_instance)) | (skip; done))); (case hy => (rintro wf ⟨hwa, hwb⟩; (((apply opv_loadb1); exact rfl; exact rfl; assumption; exact rfl)))))
    ((apply (tk 1)); (case hi => exact rfl); (case hf => kernel_rfl); (case hS => (first | exact trivial | assumption | infer_instance | (refine ⟨?_, ?_⟩ <;> (first | assumption | infer_instance)) | (skip; done))); (case hy => (rintro wf ⟨hwa, hwb⟩; (((apply opv_loadb1); exact rfl; exact rfl; assumption; exact rfl)))))
    ((apply (tk 2)); (case hi => exact rfl); (case hf => kernel_rfl); (case hS => (first | exact trivial | assumption | infer_instance | (refine ⟨?_, ?_⟩ <;> (first | assumption | infer_instance)) | (skip; done))); (case hy => (rintro wf ⟨hwa, hwb⟩; (((apply opv_makeFunc); exact rfl)))))
    refine tkc 3 rfl (by kernel_rfl) (by (first | exact trivial | assumption | infer_instance | (refine ⟨?_, ?_⟩ <;> (first | assumption | infer_instance)) | (skip; done))) rfl (pw_yield (S13.drew) (htr) (ht3) _ _ (k16 tb prog pos ⟨0, 0, okk⟩) ⟨rfl, .y6 b11 ob okk (nx _ _ h4) mE rfl⟩) rfl ?_
    rintro _ w8 ⟨rfl, S18⟩
    have e5z := pw_bx S18 (h4 _ m5)
    have e6z := pw_bx S18 (h4 _ m6)
    refine tkc 4 rfl (by kernel_rfl) (by (first | exact trivial | assumption | infer_instance | (refine ⟨?_, ?_⟩ <;> (first | assumption | infer_instance)) | (skip; done))) rfl (w_need (shut S18)) rfl ?_
    rintro _ w9 S19
    have S20 := S19.ac (show _ = PWA (L16 wb) rb (some i) rest k4 (S'.yield i (k16 tb prog pos ⟨0, 0, okk⟩)) * (WA wb rb vp (S.cs.map (·.cb)) tl (el ++ [nw]) false * R) by ac_rfl)
    have e5y := pw_bx S20 (h4 _ m5)
    have e6y := pw_bx S20 (h4 _ m6)
    refine vA_done (by kernel_rfl) (by (first | exact trivial | assumption | infer_instance | (refine ⟨?_, ?_⟩ <;> (first | assumption | infer_instance)) | (skip; done))) ?_
    (apply blockP_normal)
    (first | apply ret0 | apply ret0n)
    exact ⟨k4, fun b hb => h4 b (hkk b hb), S20⟩
  by_cases c7 : dd.k = 7
  · have e1 : act16 S i tb prog pos dd = (S.tryRecv dd.c.toNat).1.yield i (k16 tb prog pos ⟨if (S.tryRecv dd.c.toNat).2.2.2 then 0 else 1, (S.tryRecv dd.c.toNat).2.1, (S.tryRecv dd.c.toNat).2.2.1⟩) := by unfold act16; rw [if_neg c1, if_neg c2, if_neg c3, if_neg c4, if_neg c6, if_pos c7]
    rw [e1]
    obtain ⟨hc0, hc1⟩ := hdc (by omega)
    obtain ⟨dch, hdch⟩ : ∃ y, S.cs[dd.c.toNat]? = some y := ⟨_, List.getElem?_eq_getElem (by omega)⟩
    have hcl : (S.cs.map (·.cb))[dd.c.toNat]? = some dch.cb := by rw [List.getElem?_map, hdch]; rfl
    have hlen : (S.cs.map (·.cb)).length = S.cs.length := List.length_map ..
    have sa := see S11
    have saw := sa.1
    have sao := sa.2.1
    have sao1 := sa.2.2
    have sar := sao.rd
    ((iterate 37 (first | with_reducible apply vC_seq | with_reducible apply vC_region | with_reducible apply seqP_normal | ((with_reducible apply vL_val); (case h => ((with_reducible apply opv_E); exact rfl))) | with_reducible apply vL_nil | (refine vC_cond_dec rfl (fun _ => ?_) (fun h => by omega)) | (refine vC_cond_dec rfl (fun h => by omega) (fun _ => ?_)))))
    refine vC_draw' ((fun wf => Blk wf.heap b5 [pt wb] 53 ∧ Blk wf.heap b6 [pt tb] 34 ∧ Blk wf.heap b10 [.int .i64 dd.k, .int .i64 dd.c, .int .i64 dd.v, dd.cs.1, .bool dd.df] 167 ∧ Blk wf.heap wb [pt rb, vp, cv, tv, ev', .bool false] 61 ∧ Own wf.heap 28 1 ptE cv (S.cs.map (·.cb)))) (by (first | exact trivial | assumption | infer_instance | (refine ⟨?_, ?_, ?_, ?_, ?_⟩ <;> (first | assumption | infer_instance)) | (skip; done))) ?_
    ((apply (tk 0)); (case hi => exact rfl); (case hf => kernel_rfl); (case hS => (first | exact trivial | assumption | infer_instance | (refine ⟨?_, ?_, ?_, ?_, ?_⟩ <;> (first | assumption | infer_instance)) | (skip; done))); (case hy => (rintro wf ⟨hwa, hwb, hwc, hwd, hwe⟩; (((apply opv_loadb1); exact rfl; exact rfl; assumption; exact rfl)))))
    ((apply (tk 1)); (case hi => exact rfl); (case hf => kernel_rfl); (case hS => (first | exact trivial | assumption | infer_instance | (refine ⟨?_, ?_, ?_, ?_, ?_⟩ <;> (first | assumption | infer_instance)) | (skip; done))); (case hy => (rintro wf ⟨hwa, hwb, hwc, hwd, hwe⟩; (((apply opv_E); exact rfl)))))
    ((apply (tk 2)); (case hi => exact rfl); (case hf => kernel_rfl); (case hS => (first | exact trivial | assumption | infer_instance | (refine ⟨?_, ?_, ?_, ?_, ?_⟩ <;> (first | assumption | infer_instance)) | (skip; done))); (case hy => (rintro wf ⟨hwa, hwb, hwc, hwd, hwe⟩; (((apply opv_fieldAddr); exact rfl)))))
    ((apply (tk 3)); (case hi => exact rfl); (case hf => kernel_rfl); (case hS => (first | exact trivial | assumption | infer_instance | (refine ⟨?_, ?_, ?_, ?_, ?_⟩ <;> (first | assumption | infer_instance)) | (skip; done))); (case hy => (rintro wf ⟨hwa, hwb, hwc, hwd, hwe⟩; (((apply opv_loadb1); exact rfl; exact rfl; assumption; exact rfl)))))
    ((apply (tk 4)); (case hi => exact rfl); (case hf => kernel_rfl); (case hS => (first | exact trivial | assumption | infer_instance | (refine ⟨?_, ?_, ?_, ?_, ?_⟩ <;> (first | assumption | infer_instance)) | (skip; done))); (case hy => (rintro wf ⟨hwa, hwb, hwc, hwd, hwe⟩; (((apply opv_fieldAddr); exact rfl)))))
    ((apply (tk 5)); (case hi => exact rfl); (case hf => kernel_rfl); (case hS => (first | exact trivial | assumption | infer_instance | (refine ⟨?_, ?_, ?_, ?_, ?_⟩ <;> (first | assumption | infer_instance)) | (skip; done))); (case hy => (rintro wf ⟨hwa, hwb, hwc, hwd, hwe⟩; (((apply opv_loadb1); exact rfl; exact rfl; assumption; exact rfl)))))
    ((apply (tk 6)); (case hi => exact rfl); (case hf => kernel_rfl); (case hS => (first | exact trivial | assumption | infer_instance | (refine ⟨?_, ?_, ?_, ?_, ?_⟩ <;> (first | assumption | infer_instance)) | (skip; done))); (case hy => (rintro wf ⟨hwa, hwb, hwc, hwd, hwe⟩; (((apply opv_indexAddr); ((conv => lhs; whnf) <;> exact rfl); exact rfl; infer_instance; (first | omega | (simp only [List.length_map]; omega)); (first | omega | (simp only [List.length_map]; omega)))))))
    ((apply (tk 7)); (case hi => exact rfl); (case hf => kernel_rfl); (case hS => (first | exact trivial | assumption | infer_instance | (refine ⟨?_, ?_, ?_, ?_, ?_⟩ <;> (first | assumption | infer_instance)) | (skip; done))); (case hy => (rintro wf ⟨hwa, hwb, hwc, hwd, hwe⟩; (((apply opv_ld_el); exact rfl; exact rfl; infer_instance; assumption; exact rfl)))))
    refine tkc 8 rfl (by kernel_rfl) (by (first | exact trivial | assumption | infer_instance | (refine ⟨?_, ?_, ?_, ?_, ?_⟩ <;> (first | assumption | infer_instance)) | (skip; done))) rfl (pw_tryrecv S11.drew hdch) rfl ?_
    rintro _ w8 ⟨rfl, k3, h3, S18⟩
    have e5z := pw_bx S18 (h3 _ m5)
    have e6z := pw_bx S18 (h3 _ m6)
    have e10z := pw_bx S18 (h3 _ m10)
    rw [do5] at e10z
    have sz := see S18
    have szw := sz.1
    have szo := sz.2.1
    ((apply (tk 9)); (case hi => exact rfl); (case hf => kernel_rfl); (case hS => (first | exact trivial | assumption | infer_instance | (refine ⟨?_, ?_, ?_, ?_, ?_⟩ <;> (first | assumption | infer_instance)) | (skip; done))); (case hy => (rintro wf ⟨hwa, hwb, hwc, hwd, hwe⟩; (((apply opv_E); exact rfl)))))
    ((apply (tk 10)); (case hi => exact rfl); (case hf => kernel_rfl); (case hS => (first | exact trivial | assumption | infer_instance | (refine ⟨?_, ?_, ?_, ?_, ?_⟩ <;> (first | assumption | infer_instance)) | (skip; done))); (case hy => (rintro wf ⟨hwa, hwb, hwc, hwd, hwe⟩; (((apply opv_E); exact rfl)))))
    ((apply (tk 11)); (case hi => exact rfl); (case hf => kernel_rfl); (case hS => (first | exact trivial | assumption | infer_instance | (refine ⟨?_, ?_, ?_, ?_, ?_⟩ <;> (first | assumption | infer_instance)) | (skip; done))); (case hy => (rintro wf ⟨hwa, hwb, hwc, hwd, hwe⟩; (((apply opv_E); exact rfl)))))
    ((apply (tk 12)); (case hi => exact rfl); (case hf => kernel_rfl); (case hS => (first | exact trivial | assumption | infer_instance | (refine ⟨?_, ?_, ?_, ?_, ?_⟩ <;> (first | assumption | infer_instance)) | (skip; done))); (case hy => (rintro wf ⟨hwa, hwb, hwc, hwd, hwe⟩; (((apply opv_E); exact rfl)))))
    ((apply (tk 13)); (case hi => exact rfl); (case hf => kernel_rfl); (case hS => (first | exact trivial | assumption | infer_instance | (refine ⟨?_, ?_, ?_, ?_, ?_⟩ <;> (first | assumption | infer_instance)) | (skip; done))); (case hy => (rintro wf ⟨hwa, hwb, hwc, hwd, hwe⟩; (((apply opv_E); exact rfl)))))
    ((apply (tk 14)); (case hi => exact rfl); (case hf => kernel_rfl); (case hS => (first | exact trivial | assumption | infer_instance | (refine ⟨?_, ?_, ?_, ?_, ?_⟩ <;> (first | assumption | infer_instance)) | (skip; done))); (case hy => (rintro wf ⟨hwa, hwb, hwc, hwd, hwe⟩; (((apply opv_E); exact rfl)))))
    ((apply (tk 15)); (case hi => exact rfl); (case hf => kernel_rfl); (case hS => (first | exact trivial | assumption | infer_instance | (refine ⟨?_, ?_, ?_, ?_, ?_⟩ <;> (first | assumption | infer_instance)) | (skip; done))); (case hy => (rintro wf ⟨hwa, hwb, hwc, hwd, hwe⟩; (((apply opv_E); exact rfl)))))
    refine vA_done (by kernel_rfl) (by (first | exact trivial | assumption | infer_instance | (refine ⟨?_, ?_, ?_, ?_, ?_⟩ <;> (first | assumption | infer_instance)) | (skip; done))) ?_
    have htr := tryRecv_keep (j := dd.c.toNat) hi (rfl : (St.run : St K16).waits = false)
    have ht3 : (S.tryRecv dd.c.toNat).1.tbs[i]? = some tb := by rw [tryRecv_tbs]; exact ht
    generalize hts : S.tryRecv dd.c.toNat = rr at *
    obtain ⟨S', vv, okk, can⟩ := rr
    simp only [] at *
    clear e5z e6z e10z sz szw szo
    cases can with
    | true =>
      (apply seqP_normal; apply vC_seq; apply vC_region; (iterate 2 (((apply vL_val); (case h => ((apply opv_E); exact rfl))))); ((apply vL_val); (case h => ((apply opv_buildS); exact rfl; exact (rfl : _ = some [_, _, _])))); ((apply vL_val); (case h => (apply opw_alloc))); ((apply vL_skip); (case h => ((apply ops_storen); exact norm_eq rfl; exact norm_eq rfl; exact rfl; (intro u hu; simp at hu; rcases hu with rfl | rfl | rfl <;> (first | rfl | assumption)); infer_instance; (first | decide | exact of_decide_eq_true rfl | (simp; done))))); apply vL_nil; apply seqP_normal; (iterate 2 (apply vC_seq)); apply vC_region; ((apply vL_val); (case h => ((apply opv_E); exact rfl))); ((apply vL_val); (case h => ((apply opv_not); exact rfl))); apply vL_nil; apply seqP_normal; ((apply vC_cond_false); exact rfl); apply vC_skip; apply seqP_normal)
      refine vC_gen (fun w' => At (Pt w8.heap.size [.int .i64 0, .int .i64 vv, .bool okk] 171 * (PWA (L16 wb) rb (some i) rest k3 S' * R1)) w0 No w') (S18.new (by (apply Fr.allocSet; exact Fr.refl _ _)) (Blk.as inferInstance rfl) (Nat.le_refl _)) ?_
      intro w6 S12
      have S13 := pw_box S12
      have mE : (w8.heap.size, [.int .i64 0, .int .i64 vv, .bool okk], 171) ∈ ((w8.heap.size, [.int .i64 0, .int .i64 vv, .bool okk], 171) :: k3 : List Bx) := List.mem_cons_self
      have h4 : ∀ b ∈ k2, b ∈ ((w8.heap.size, [.int .i64 0, .int .i64 vv, .bool okk], 171) :: k3 : List Bx) := fun b hb => List.mem_cons_of_mem _ (h3 b hb)
      generalize ((w8.heap.size, [.int .i64 0, .int .i64 vv, .bool okk], 171) :: k3 : List Bx) = k4 at S13 mE h4
      generalize w8.heap.size = ob at *
      have e5b := pw_bx S13 (h4 _ m5)
      have e6b := pw_bx S13 (h4 _ m6)
      refine vC_draw' ((fun wf => Blk wf.heap b5 [pt wb] 53 ∧ Blk wf.heap b6 [pt tb] 34)) (by (first | exact trivial | assumption | infer_instance | (refine ⟨?_, ?_⟩ <;> (first | assumption | infer_instance)) | (skip; done))) ?_
      ((apply (tk 0)); (case hi => exact rfl); (case hf => kernel_rfl); (case hS => (first | exact trivial | assumption | infer_instance | (refine ⟨?_, ?_⟩ <;> (first | assumption | infer_instance)) | (skip; done))); (case hy => (rintro wf ⟨hwa, hwb⟩; (((apply opv_loadb1); exact rfl; exact rfl; assumption; exact rfl)))))
      ((apply (tk 1)); (case hi => exact rfl); (case hf => kernel_rfl); (case hS => (first | exact trivial | assumption | infer_instance | (refine ⟨?_, ?_⟩ <;> (first | assumption | infer_instance)) | (skip; done))); (case hy => (rintro wf ⟨hwa, hwb⟩; (((apply opv_loadb1); exact rfl; exact rfl; assumption; exact rfl)))))
      ((apply (tk 2)); (case hi => exact rfl); (case hf => kernel_rfl); (case hS => (first | exact trivial | assumption | infer_instance | (refine ⟨?_, ?_⟩ <;> (first | assumption | infer_instance)) | (skip; done))); (case hy => (rintro wf ⟨hwa, hwb⟩; (((apply opv_makeFunc); exact rfl)))))
      refine tkc 3 rfl (by kernel_rfl) (by (first | exact trivial | assumption | infer_instance | (refine ⟨?_, ?_⟩ <;> (first | assumption | infer_instance)) | (skip; done))) rfl (pw_yield (S13.drew) (htr) (ht3) _ _ (k16 tb prog pos ⟨0, vv, okk⟩) ⟨rfl, .y7 b11 ob (nx _ _ h4) mE⟩) rfl ?_
      rintro _ w8 ⟨rfl, S18⟩
      have e5z := pw_bx S18 (h4 _ m5)
      have e6z := pw_bx S18 (h4 _ m6)
      refine tkc 4 rfl (by kernel_rfl) (by (first | exact trivial | assumption | infer_instance | (refine ⟨?_, ?_⟩ <;> (first | assumption | infer_instance)) | (skip; done))) rfl (w_need (shut S18)) rfl ?_
      rintro _ w9 S19
      have S20 := S19.ac (show _ = PWA (L16 wb) rb (some i) rest k4 (S'.yield i (k16 tb prog pos ⟨0, vv, okk⟩)) * (WA wb rb vp (S.cs.map (·.cb)) tl (el ++ [nw]) false * R) by ac_rfl)
      have e5y := pw_bx S20 (h4 _ m5)
      have e6y := pw_bx S20 (h4 _ m6)
      refine vA_done (by kernel_rfl) (by (first | exact trivial | assumption | infer_instance | (refine ⟨?_, ?_⟩ <;> (first | assumption | infer_instance)) | (skip; done))) ?_
      (apply blockP_normal)
      (first | apply ret0 | apply ret0n)
      exact ⟨k4, fun b hb => h4 b (hkk b hb), S20⟩
    | false =>
      (apply seqP_normal; apply vC_seq; apply vC_region; (iterate 2 (((apply vL_val); (case h => ((apply opv_E); exact rfl))))); ((apply vL_val); (case h => ((apply opv_buildS); exact rfl; exact (rfl : _ = some [_, _, _])))); ((apply vL_val); (case h => (apply opw_alloc))); ((apply vL_skip); (case h => ((apply ops_storen); exact norm_eq rfl; exact norm_eq rfl; exact rfl; (intro u hu; simp at hu; rcases hu with rfl | rfl | rfl <;> (first | rfl | assumption)); infer_instance; (first | decide | exact of_decide_eq_true rfl | (simp; done))))); apply vL_nil; apply seqP_normal; (iterate 2 (apply vC_seq)); apply vC_region; ((apply vL_val); (case h => ((apply opv_E); exact rfl))); ((apply vL_val); (case h => ((apply opv_not); exact rfl))); apply vL_nil; apply seqP_normal; ((apply vC_cond_true); exact rfl); apply vC_region; ((apply vL_val); (case h => ((apply opv_fieldAddr); exact rfl))); ((apply vL_skip); (case h => ((apply ops_store1); exact norm_eq rfl; exact norm_eq rfl; (first | rfl | assumption); infer_instance; (first | decide | exact of_decide_eq_true rfl | (simp; done))))); apply vL_nil; apply seqP_normal)
      refine vC_gen (fun w' => At (Pt w8.heap.size [.int .i64 1, .int .i64 vv, .bool okk] 171 * (PWA (L16 wb) rb (some i) rest k3 S' * R1)) w0 No w') (S18.new (by (((apply Fr.set); rotate_left; (right; ((try simp only [alloc_size]); omega))); apply Fr.allocSet; exact Fr.refl _ _)) (Blk.as inferInstance rfl) (Nat.le_refl _)) ?_
      intro w6 S12
      have S13 := pw_box S12
      have mE : (w8.heap.size, [.int .i64 1, .int .i64 vv, .bool okk], 171) ∈ ((w8.heap.size, [.int .i64 1, .int .i64 vv, .bool okk], 171) :: k3 : List Bx) := List.mem_cons_self
      have h4 : ∀ b ∈ k2, b ∈ ((w8.heap.size, [.int .i64 1, .int .i64 vv, .bool okk], 171) :: k3 : List Bx) := fun b hb => List.mem_cons_of_mem _ (h3 b hb)
      generalize ((w8.heap.size, [.int .i64 1, .int .i64 vv, .bool okk], 171) :: k3 : List Bx) = k4 at S13 mE h4
      generalize w8.heap.size = ob at *
      have e5b := pw_bx S13 (h4 _ m5)
      have e6b := pw_bx S13 (h4 _ m6)
      refine vC_draw' ((fun wf => Blk wf.heap b5 [pt wb] 53 ∧ Blk wf.heap b6 [pt tb] 34)) (by (first | exact trivial | assumption | infer_instance | (refine ⟨?_, ?_⟩ <;> (first | assumption | infer_instance)) | (skip; done))) ?_
      ((apply (tk 0)); (case hi => exact rfl); (case hf => kernel_rfl); (case hS => (first | exact trivial | assumption | infer_instance | (refine ⟨?_, ?_⟩ <;> (first | assumption | infer_instance)) | (skip; done))); (case hy => (rintro wf ⟨hwa, hwb⟩; (((apply opv_loadb1); exact rfl; exact rfl; assumption; exact rfl)))))
      ((apply (tk 1)); (case hi => exact rfl); (case hf => kernel_rfl); (case hS => (first | exact trivial | assumption | infer_instance | (refine ⟨?_, ?_⟩ <;> (first | assumption | infer_instance)) | (skip; done))); (case hy => (rintro wf ⟨hwa, hwb⟩; (((apply opv_loadb1); exact rfl; exact rfl; assumption; exact rfl)))))
      ((apply (tk 2)); (case hi => exact rfl); (case hf => kernel_rfl); (case hS => (first | exact trivial | assumption | infer_instance | (refine ⟨?_, ?_⟩ <;> (first | assumption | infer_instance)) | (skip; done))); (case hy => (rintro wf ⟨hwa, hwb⟩; (((apply opv_makeFunc); exact rfl)))))
      refine tkc 3 rfl (by kernel_rfl) (by (first | exact trivial | assumption | infer_instance | (refine ⟨?_, ?_⟩ <;> (first | assumption | infer_instance)) | (skip; done))) rfl (pw_yield (S13.drew) (htr) (ht3) _ _ (k16 tb prog pos ⟨1, vv, okk⟩) ⟨rfl, .y7 b11 ob (nx _ _ h4) mE⟩) rfl ?_
      rintro _ w8 ⟨rfl, S18⟩
      have e5z := pw_bx S18 (h4 _ m5)
      have e6z := pw_bx S18 (h4 _ m6)
      refine tkc 4 rfl (by kernel_rfl) (by (first | exact trivial | assumption | infer_instance | (refine ⟨?_, ?_⟩ <;> (first | assumption | infer_instance)) | (skip; done))) rfl (w_need (shut S18)) rfl ?_
      rintro _ w9 S19
      have S20 := S19.ac (show _ = PWA (L16 wb) rb (some i) rest k4 (S'.yield i (k16 tb prog pos ⟨1, vv, okk⟩)) * (WA wb rb vp (S.cs.map (·.cb)) tl (el ++ [nw]) false * R) by ac_rfl)
      have e5y := pw_bx S20 (h4 _ m5)
      have e6y := pw_bx S20 (h4 _ m6)
      refine vA_done (by kernel_rfl) (by (first | exact trivial | assumption | infer_instance | (refine ⟨?_, ?_⟩ <;> (first | assumption | infer_instance)) | (skip; done))) ?_
      (apply blockP_normal)
      (first | apply ret0 | apply ret0n)
      exact ⟨k4, fun b hb => h4 b (hkk b hb), S20⟩
  have e1 : act16 S i tb prog pos dd = S := by unfold act16; rw [if_neg c1, if_neg c2, if_neg c3, if_neg c4, if_neg c6, if_neg c7]
  rw [e1]
  ((iterate 36 (first | with_reducible apply vC_seq | with_reducible apply vC_region | with_reducible apply seqP_normal | ((with_reducible apply vL_val); (case h => ((with_reducible apply opv_E); exact rfl))) | with_reducible apply vL_nil | (refine vC_cond_dec rfl (fun h => by omega) (fun _ => ?_)))); apply vC_skip; apply blockP_normal)
  (first | apply ret0 | apply ret0n)
  exact ⟨k2, hkk, (shut S11).ac (by ac_rfl)⟩
end
end Go.Proofs.YtbaidcnalkdhgaaGreat
set_option maxRecDepth 100000
namespace Go.Proofs.YtbaidcnalkdhgaaGreat
open Go Go.Eng
section
variable {κ : Type}
/-- with what a task goes on -/
def St.key : St κ → Option κ
  | .over => none
  | .run => none
  | .mS k _ _ => some k
  | .mR k _ _ _ => some k
  | .rdyS k _ => some k
  | .rdyR k _ _ => some k
  | .rdyY k => some k
  | .wS k _ _ => some k
  | .wR k _ => some k
  | .wX k => some k
def C16.cbz (d : C16) : Nat × Int := (d.cb, d.size)
/-- the same tasks and channels; who goes on with what -/
structure KpS (S T : PS κ) : Prop where
  tbs : T.tbs = S.tbs
  key : T.sts.map St.key = S.sts.map St.key
  cs : T.cs.map C16.cbz = S.cs.map C16.cbz
structure KpI (i : Nat) (o : Option κ) (S T : PS κ) : Prop where
  tbs : T.tbs = S.tbs
  key : T.sts.map St.key = (S.sts.map St.key).set i o
  cs : T.cs.map C16.cbz = S.cs.map C16.cbz
variable {S T U : PS κ} {i j m : Nat} {o o' : Option κ}
theorem KpS.refl (S : PS κ) : KpS S S := ⟨rfl, rfl, rfl⟩
theorem KpS.trans (h : KpS S T) (k : KpS T U) : KpS S U := ⟨k.tbs.trans h.tbs, k.key.trans h.key, k.cs.trans h.cs⟩
theorem KpS.to (h : KpS S T) (k : KpI i o T U) : KpI i o S U := ⟨k.tbs.trans h.tbs, k.key.trans (by rw [h.key]), k.cs.trans h.cs⟩
theorem KpI.then (h : KpI i o S T) (k : KpS T U) : KpI i o S U := ⟨k.tbs.trans h.tbs, k.key.trans h.key, k.cs.trans h.cs⟩
theorem KpI.to (h : KpI i o S T) (k : KpI i o' T U) : KpI i o' S U := ⟨k.tbs.trans h.tbs, k.key.trans (by rw [h.key, List.set_set]), k.cs.trans h.cs⟩
theorem kp_set (s : St κ) (c : List C16) (l : List Int) (hc : c = S.cs) : KpI i s.key S ⟨S.sts.set i s, S.tbs, c, l⟩ := ⟨rfl, by simp only [List.map_set], by rw [hc]⟩
theorem kp_setC {d d' : C16} (hd : S.cs[j]? = some d) (h1 : d'.cbz = d.cbz) : KpS S (S.setC j d') := ⟨rfl, rfl, by
  show (S.cs.set j d').map C16.cbz = _
  rw [List.map_set, h1]
  exact set_same (by rw [List.getElem?_map, hd]; rfl)⟩
theorem kp_woke {s s' : St κ} {l : List Int} (hs : S.sts[m]? = some s) (hk : s'.key = s.key) : KpS S ⟨S.sts.set m s', S.tbs, S.cs, l⟩ := ⟨rfl, by
  show (S.sts.set m s').map St.key = _
  rw [List.map_set, hk]
  exact set_same (by rw [List.getElem?_map, hs]; rfl), rfl⟩
theorem wokeS_kp (S : PS κ) (m : Nat) (ok : Bool) : KpS S (S.wokeS m ok) := by
  unfold PS.wokeS
  split
  · rename_i h; exact kp_woke h rfl
  · exact .refl _
theorem wokeR_kp (S : PS κ) (m : Nat) (v : Int) (ok : Bool) : KpS S (S.wokeR m v ok) := by
  unfold PS.wokeR
  split
  · rename_i h; exact kp_woke h rfl
  · exact .refl _
theorem trySend_kp (S : PS κ) (j : Nat) (v : Int) : KpS S (S.trySend j v).1 := by
  unfold PS.trySend
  split
  · exact .refl _
  · rename_i d hd
    split
    · exact .refl _
    · split
      · rename_i m r _
        exact (kp_setC (d' := { d with rcv := r }) hd rfl).trans (wokeR_kp _ _ _ _)
      · split
        · exact .refl _
        · exact kp_setC hd rfl
theorem tryRecv_kp (S : PS κ) (j : Nat) : KpS S (S.tryRecv j).1 := by
  unfold PS.tryRecv
  split
  · exact .refl _
  · rename_i d hd
    split
    · rename_i m r _
      exact (kp_setC (d' := { d with buf := rbuf d.buf (S.valS m), snd := r }) hd rfl).trans (wokeS_kp _ _ _)
    · exact kp_setC hd rfl
theorem allR_kp (l : List Nat) : ∀ (S : PS κ), KpS S (S.allR l) := by
  induction l with
  | nil => exact fun S => .refl S
  | cons m r ih => exact fun S => (wokeR_kp S m 0 false).trans (ih _)
theorem allS_kp (l : List Nat) : ∀ (S : PS κ), KpS S (S.allS l) := by
  induction l with
  | nil => exact fun S => .refl S
  | cons m r ih => exact fun S => (wokeS_kp S m false).trans (ih _)
theorem close_kp (S : PS κ) (j : Nat) : KpS S (S.close j).1 := by
  unfold PS.close
  split
  · exact .refl _
  · rename_i d hd
    split
    · exact .refl _
    · unfold PS.ends
      exact ((kp_setC (d' := { d with closed := true, snd := [], rcv := [] }) hd rfl).trans (allR_kp _ _)).trans (allS_kp _ _)
theorem send_kp (S : PS κ) (i j : Nat) (v : Int) (k : κ) (hj : j < S.cs.length) : KpI i (some k) S (S.send i j v k) := by
  unfold PS.send
  simp only []
  split
  · exact (trySend_kp S j v).to (kp_set (St.rdyS k _) _ _ rfl)
  · rw [List.getElem?_eq_getElem hj]
    simp only []
    refine ⟨rfl, by simp only [List.map_set]; rfl, ?_⟩
    exact (kp_setC (S := S) (d' := { S.cs[j] with snd := S.cs[j].snd ++ [i] }) (List.getElem?_eq_getElem hj) rfl).cs
theorem recv_kp (S : PS κ) (i j : Nat) (k : κ) (hj : j < S.cs.length) : KpI i (some k) S (S.recv i j k) := by
  unfold PS.recv
  simp only []
  split
  · exact (tryRecv_kp S j).to (kp_set (St.rdyR k _ _) _ _ rfl)
  · rw [List.getElem?_eq_getElem hj]
    simp only []
    refine ⟨rfl, by simp only [List.map_set]; rfl, ?_⟩
    exact (kp_setC (S := S) (d' := { S.cs[j] with rcv := S.cs[j].rcv ++ [i] }) (List.getElem?_eq_getElem hj) rfl).cs
theorem yield_kp (S : PS κ) (i : Nat) (k : κ) : KpI i (some k) S (S.yield i k) := kp_set (St.rdyY k) _ _ rfl
theorem start_kp (S : PS κ) (i : Nat) (z : Int) : KpI i none S (S.start i z) := kp_set St.run _ _ rfl
theorem endTurn_kp (S : PS κ) (i : Nat) : KpS S (S.endTurn i) := by
  unfold PS.endTurn
  split
  · rename_i h; exact kp_woke h rfl
  · exact .refl _
theorem KpS.csl (h : KpS S T) : T.cs.length = S.cs.length := by
  have := congrArg List.length h.cs
  simpa using this
theorem KpI.csl (h : KpI i o S T) : T.cs.length = S.cs.length := by
  have := congrArg List.length h.cs
  simpa using this
theorem KpI.stl (h : KpI i o S T) : T.sts.length = S.sts.length := by
  have := congrArg List.length h.key
  simpa using this
theorem KpS.stl (h : KpS S T) : T.sts.length = S.sts.length := by
  have := congrArg List.length h.key
  simpa using this
theorem KpS.cbs (h : KpS S T) : T.cs.map (·.cb) = S.cs.map (·.cb) := by
  have := congrArg (List.map Prod.fst) h.cs
  simpa [List.map_map, Function.comp_def, C16.cbz] using this
theorem KpI.cbs (h : KpI i o S T) : T.cs.map (·.cb) = S.cs.map (·.cb) := by
  have := congrArg (List.map Prod.fst) h.cs
  simpa [List.map_map, Function.comp_def, C16.cbz] using this
end
theorem act16_kp (S : PS K16) (i tb prog pos : Nat) (d : Do5) (hd : 0 ≤ d.c ∧ d.c < S.cs.length) (hn : (S.sts.map St.key)[i]? = some none) : ∃ o, (o = none ∨ ∃ x, o = some (k16 tb prog pos x)) ∧ KpI i o S (act16 S i tb prog pos d) := by
  have hj : d.c.toNat < S.cs.length := by omega
  unfold act16
  split
  · exact ⟨_, .inr ⟨_, rfl⟩, yield_kp _ _ _⟩
  split
  · exact ⟨_, .inr ⟨_, rfl⟩, send_kp _ _ _ _ _ hj⟩
  split
  · exact ⟨_, .inr ⟨_, rfl⟩, recv_kp _ _ _ _ hj⟩
  split
  · exact ⟨_, .inr ⟨_, rfl⟩, (close_kp _ _).to (yield_kp _ _ _)⟩
  split
  · exact ⟨_, .inr ⟨_, rfl⟩, (trySend_kp _ _ _).to (yield_kp _ _ _)⟩
  split
  · exact ⟨_, .inr ⟨_, rfl⟩, (tryRecv_kp _ _).to (yield_kp _ _ _)⟩
  · exact ⟨none, .inl rfl, rfl, (set_same hn).symm, rfl⟩
/-- a turn -/
def St.told : St K16 → To
  | .rdyS _ ok => ⟨0, 0, ok⟩
  | .rdyR _ v ok => ⟨0, v, ok⟩
  | .rdyY k => k.told
  | _ => ⟨0, 0, false⟩
def doAt16 (P : List (List Do5)) (prog pos : Nat) : Do5 := match P[prog]? with
  | none => do0
  | some d => (d[pos]?).getD do0
abbrev T16 := PS K16 × List Ev5
def turn16 (P : List (List Do5)) (T : T16) (i : Nat) (k : K16) (x : To) (z : Int) : T16 :=
  ((act16 (T.1.start i z) i k.tb k.prog k.pos (doAt16 P k.prog k.pos)).endTurn i, T.2 ++ [⟨i, k.pos, x.c, x.v, x.ok⟩])
def step16 (P : List (List Do5)) (T : T16) (p : Int) : Option T16 := match T.1.line[(p % T.1.line.length).toNat]? with
  | none => none
  | some z => match T.1.sts[z.toNat]? with
    | none => none
    | some s => match s.key with
      | none => none
      | some k => some (turn16 P T z.toNat k s.told (p % T.1.line.length))
structure Inv16 (P : List (List Do5)) (cl : List (Nat × Int)) (tl : List Nat) (T : T16) : Prop where
  cs : T.1.cs.map C16.cbz = cl
  tbs : T.1.tbs = tl
  len : T.1.sts.length = P.length
  lent : tl.length = P.length
  key : ∀ (i : Nat) k, (T.1.sts.map St.key)[i]? = some (some k) → tl[i]? = some k.tb ∧ k.prog = i ∧ k.pos ≤ T.2.length
theorem Inv16.turn {P : List (List Do5)} {cl : List (Nat × Int)} {tl : List Nat} {T : T16} (h : Inv16 P cl tl T) {i : Nat} {s : St K16} {k : K16} (hs : T.1.sts[i]? = some s) (hk : s.key = some k) (hP : ∀ y ∈ P, ∀ d ∈ y, 0 ≤ d.c ∧ d.c < cl.length) (hc : 0 < cl.length) (x : To) (z : Int) : Inv16 P cl tl (turn16 P T i k x z) := by
  have hcl : T.1.cs.length = cl.length := by rw [← h.cs, List.length_map]
  obtain ⟨e1, e2, e3⟩ := h.key i k (by rw [List.getElem?_map, hs]; exact congrArg some hk)
  have hil := (List.getElem?_eq_some_iff.1 hs).1
  have k1 := start_kp T.1 i z
  have hd : 0 ≤ (doAt16 P k.prog k.pos).c ∧ (doAt16 P k.prog k.pos).c < (T.1.start i z).cs.length := by
    rw [k1.csl, hcl]
    unfold doAt16
    split
    · exact ⟨Int.le_refl _, by show (0 : Int) < _; omega⟩
    · rename_i y hy
      cases hq : y[k.pos]? with
      | none => exact ⟨Int.le_refl _, by show (0 : Int) < _; omega⟩
      | some q => exact hP y (List.mem_of_getElem? hy) q (List.mem_of_getElem? hq)
  obtain ⟨o, ho, k2⟩ := act16_kp (T.1.start i z) i k.tb k.prog k.pos _ hd (by
    rw [k1.key, List.getElem?_set_self (by simpa using hil)])
  have k3 := (k1.to k2).then (endTurn_kp _ i)
  refine ⟨k3.cs.trans h.cs, k3.tbs.trans h.tbs, k3.stl.trans h.len, h.lent, fun j k' hk' => ?_⟩
  have hl : (turn16 P T i k x z).2.length = T.2.length + 1 := by unfold turn16; simp
  rw [hl]
  have hk' : ((turn16 P T i k x z).1.sts.map St.key)[j]? = some (some k') := hk'
  rw [show (turn16 P T i k x z).1.sts.map St.key = _ from k3.key] at hk'
  by_cases e : j = i
  · subst e
    rw [List.getElem?_set_self (by simpa using hil)] at hk'
    have hk' := Option.some.inj hk'
    rcases ho with ho | ⟨y, ho⟩
    · rw [ho] at hk'; cases hk'
    · rw [ho] at hk'
      cases hk'
      exact ⟨e1, e2, by show k.pos + 1 ≤ _; omega⟩
  · rw [List.getElem?_set_ne (Ne.symm e)] at hk'
    obtain ⟨f1, f2, f3⟩ := h.key j k' hk'
    exact ⟨f1, f2, by omega⟩
end Go.Proofs.YtbaidcnalkdhgaaGreat
set_option maxRecDepth 100000
namespace Go.Proofs.YtbaidcnalkdhgaaGreat
open Go Go.Eng
theorem Nx.bx {wb nb : Nat} {k : K16} {kb : List Bx} {w1 : World} (n : Nx wb k kb nb) (hbx : ∀ b cs T, (b, cs, T) ∈ kb → Blk w1.heap b cs T) (hpos : k.pos ≤ 100000) : ∃ b5 b6 b7 b8, NxB w1 wb k.tb nb b5 b6 b7 b8 k.prog k.pos := by
  obtain ⟨b5, b6, b7, b8, h1, h2, h3, h4, h5, h6⟩ := n
  exact ⟨b5, b6, b7, b8, hbx _ _ _ h1, hbx _ _ _ h2, hbx _ _ _ h3, hbx _ _ _ h4, hbx _ _ _ h5, by omega⟩
theorem cl16_calls {wb : Nat} {kb : List Bx} {s : St K16} {k : K16} {f : Value} (hf : (L16 wb).cl k.tb kb f s) (hk : s.key = some k) (hpos : k.pos ≤ 100000) :
    ∃ (g : FuncId) (cap : List Value), f = .func (.func g) #[] cap.toArray ∧ Nonempty (FnOk Tryz.prog g) ∧ ∀ (w1 : World) (Q : World → Prop), (∀ b cs T, (b, cs, T) ∈ kb → Blk w1.heap b cs T) → TurnC wb k.tb k.prog k.pos s.told w1 Q → Rets Tryz.prog g (s.args ++ cap).toArray w1 fun _ w' => Q w' := by
  cases s with
  | rdyS k' ok =>
    cases hk
    obtain ⟨nb, n, rfl⟩ := hf
    refine ⟨_, [pt nb], rfl, ⟨inferInstance⟩, fun w1 Q hbx h => ?_⟩
    obtain ⟨b5, b6, b7, b8, nb'⟩ := n.bx hbx hpos
    exact turn3_calls nb' h
  | rdyR k' v ok =>
    cases hk
    obtain ⟨nb, n, rfl⟩ := hf
    refine ⟨_, [pt nb], rfl, ⟨inferInstance⟩, fun w1 Q hbx h => ?_⟩
    obtain ⟨b5, b6, b7, b8, nb'⟩ := n.bx hbx hpos
    exact turn4_calls nb' h
  | rdyY k' =>
    cases hk
    obtain ⟨_, y⟩ := hf
    cases y with
    | born fb tx wx px h1 h2 h3 h4 h5 h6 =>
      refine ⟨_, [pt fb, pt tx], rfl, ⟨inferInstance⟩, fun w1 Q hbx h => ?_⟩
      have h : TurnC wb k.tb k.prog 0 ⟨0, 0, false⟩ w1 Q := by
        have h' : TurnC wb k.tb k.prog k.pos k.told w1 Q := h
        rw [h5, h6] at h'
        exact h'
      exact spawn1_calls (cap := [pt wx, pt px]) (hbx _ _ _ h1) (hbx _ _ _ h2) (begun1_calls (hbx _ _ _ h3) (hbx _ _ _ h4) h)
    | y2 nb n h1 =>
      refine ⟨_, [pt nb], rfl, ⟨inferInstance⟩, fun w1 Q hbx h => ?_⟩
      obtain ⟨b5, b6, b7, b8, nb'⟩ := n.bx hbx hpos
      have h' : TurnC wb k.tb k.prog k.pos k.told w1 Q := h
      rw [h1] at h'
      exact turn2_calls nb' h'
    | y5 nb eb e n h1 h2 =>
      refine ⟨_, [pt nb, pt eb], rfl, ⟨inferInstance⟩, fun w1 Q hbx h => ?_⟩
      obtain ⟨b5, b6, b7, b8, nb'⟩ := n.bx hbx hpos
      have h' : TurnC wb k.tb k.prog k.pos k.told w1 Q := h
      rw [h2] at h'
      exact turn5_calls nb' (hbx _ _ _ h1) h'
    | y6 nb ob ok n h1 h2 =>
      refine ⟨_, [pt nb, pt ob], rfl, ⟨inferInstance⟩, fun w1 Q hbx h => ?_⟩
      obtain ⟨b5, b6, b7, b8, nb'⟩ := n.bx hbx hpos
      have h' : TurnC wb k.tb k.prog k.pos k.told w1 Q := h
      rw [h2] at h'
      exact turn6_calls nb' (hbx _ _ _ h1) h'
    | y7 nb ob n h1 =>
      refine ⟨_, [pt nb, pt ob], rfl, ⟨inferInstance⟩, fun w1 Q hbx h => ?_⟩
      obtain ⟨b5, b6, b7, b8, nb'⟩ := n.bx hbx hpos
      exact turn7_calls nb' (hbx _ _ _ h1) h
  | over => cases hf
  | run => cases hf
  | mS _ _ _ => cases hf
  | mR _ _ _ _ => cases hf
  | wS _ _ _ => cases hf
  | wR _ _ => cases hf
  | wX _ => cases hf
section
variable {w w0 : World} {R : Asr} {wb rb : Nat} {kb : List Bx} {vp : Value} {cl : List (Nat × Int)} {tl : List Nat} {T : T16}
theorem Inv16.cbs {P : List (List Do5)} (I : Inv16 P cl tl T) : T.1.cs.map (·.cb) = cl.map (·.1) := by
  rw [← I.cs, List.map_map]; rfl
theorem w_step [Lcl R] {P : List (OV × List Do5)} (z : Pz16 w0.heap vp P) (hP6 : P.length ≤ 6) (S1 : At (PWA (L16 wb) rb none 0 kb T.1 * (WA wb rb vp (cl.map (·.1)) tl T.2 false * R)) w0 No w) (I : Inv16 (P.map (·.2)) cl tl T)
    (hPc : ∀ y ∈ P, ∀ d ∈ y.2, 0 ≤ d.c ∧ d.c < cl.length) (hc : 0 < cl.length) (hev : T.2.length ≤ 100000) (p : Int) (hp0 : 0 ≤ p ∧ p ≤ 18446744073709551615) :
    Rets Tryz.prog 24 #[pt rb, .int .u64 p] w fun u w' => (T.1.line = [] ∧ step16 (P.map (·.2)) T p = none ∧ w = w' ∧ u = .bool false) ∨ (∃ T', step16 (P.map (·.2)) T p = some T' ∧ Inv16 (P.map (·.2)) cl tl T' ∧ T'.2.length = T.2.length + 1 ∧ u = .bool true ∧ ∃ kb', (∀ b ∈ kb, b ∈ kb') ∧ At (PWA (L16 wb) rb none 0 kb' T'.1 * (WA wb rb vp (cl.map (·.1)) tl T'.2 false * R)) w0 No w') := by
  by_cases hl : T.1.line = []
  · refine (pw_step0 S1 p hp0 hl).mono fun u w' ⟨h1, h2⟩ => .inl ⟨hl, ?_, h1, h2⟩
    unfold step16; rw [hl]; rfl
  obtain ⟨q, hp, S2⟩ := pw_open S1
  have hlen : 0 < T.1.line.length := List.length_pos_iff.2 hl
  have hz0 : 0 ≤ p % (T.1.line.length : Int) := Int.emod_nonneg _ (by omega)
  have hz1 : p % (T.1.line.length : Int) < T.1.line.length := Int.emod_lt_of_pos _ (by omega)
  obtain ⟨y, hy⟩ : ∃ y, T.1.line[(p % (T.1.line.length : Int)).toNat]? = some y := ⟨_, List.getElem?_eq_getElem (by omega)⟩
  have hy0 := hp.nn y (List.mem_of_getElem? hy)
  obtain ⟨i, rfl⟩ : ∃ i : Nat, y = i := ⟨y.toNat, by omega⟩
  obtain ⟨s, hs, hr⟩ := (hp.rdy i).1 (List.mem_of_getElem? hy)
  obtain ⟨k, hk⟩ : ∃ k, s.key = some k := by cases s <;> first | exact ⟨_, rfl⟩ | (cases hr; done)
  obtain ⟨e1, e2, e3⟩ := I.key i k (by rw [List.getElem?_map, hs]; exact congrArg some hk)
  have ht : T.1.tbs[i]? = some k.tb := by rw [I.tbs]; exact e1
  have hil := (List.getElem?_eq_some_iff.1 hs).1
  have hiP : i < P.length := by have := I.len; rw [List.length_map] at this; omega
  obtain ⟨d, hd⟩ : ∃ d, P[k.prog]? = some d := ⟨P[i], by rw [e2]; exact List.getElem?_eq_getElem hiP⟩
  have hst : step16 (P.map (·.2)) T p = some (turn16 (P.map (·.2)) T i k s.told (p % T.1.line.length)) := by
    unfold step16; rw [hy]; simp only [Int.toNat_natCast]; rw [hs]; simp only []; rw [hk]
  have hdo : doAt16 (P.map (·.2)) k.prog k.pos = (d.2[k.pos]?).getD do0 := by unfold doAt16; rw [List.getElem?_map, hd]; rfl
  have hPc' : ∀ y ∈ P.map (·.2), ∀ (d : Do5), d ∈ y → 0 ≤ d.c ∧ d.c < (cl.length : Int) := fun y hy d hd => by
    obtain ⟨y', hy', rfl⟩ := List.mem_map.1 hy
    exact hPc y' hy' d hd
  have I' := I.turn hs hk hPc' hc s.told (p % T.1.line.length)
  have hcl : T.1.cs.length = cl.length := by rw [← I.cs, List.length_map]
  have hcb := I.cbs
  have k1 := start_kp T.1 i (p % T.1.line.length)
  have hdb : 0 ≤ (doAt16 (P.map (·.2)) k.prog k.pos).c ∧ (doAt16 (P.map (·.2)) k.prog k.pos).c < (T.1.start i (p % T.1.line.length)).cs.length := by
    rw [k1.csl, hcl, hdo]
    cases hq : d.2[k.pos]? with
    | none => exact ⟨Int.le_refl _, by show (0 : Int) < _; omega⟩
    | some q => exact hPc d (List.mem_of_getElem? hd) q (List.mem_of_getElem? hq)
  obtain ⟨o, _, k2⟩ := act16_kp (T.1.start i (p % T.1.line.length)) i k.tb k.prog k.pos _ hdb (by
    rw [k1.key, List.getElem?_set_self (by simpa using hil)])
  refine (pw_step (R := WA wb rb vp (cl.map (·.1)) tl T.2 false * R) S1 p hp0 hy hs ht (σ := {kb' : List Bx // ∀ b ∈ kb, b ∈ kb'}) (fun _ => act16 (T.1.start i (p % T.1.line.length)) i k.tb k.prog k.pos (doAt16 (P.map (·.2)) k.prog k.pos)) (fun a => a.1) (fun _ => WA wb rb vp (cl.map (·.1)) tl (turn16 (P.map (·.2)) T i k s.told (p % T.1.line.length)).2 false * R) (fun f hf => ?_)).mono fun u w' ⟨h1, a, h2⟩ => .inr ⟨_, hst, I', by unfold turn16; simp, h1, a.1, a.2, h2⟩
  obtain ⟨g, cap, e, hok, hc'⟩ := cl16_calls hf hk (by omega)
  refine ⟨g, cap, e, hok, fun w1 h => hc' w1 _ (fun b cs T hb => pw_bx h hb) (fun w' hf' => ?_)⟩
  have h2 := h.frN hf'
  rw [← hcb] at h2
  have hh : (T.1.start i (p % T.1.line.length)).cs.map (·.cb) = T.1.cs.map (·.cb) := rfl
  rw [← hh] at h2
  refine (w_turn z hP6 h2 (by show (T.1.sts.set i .run)[i]? = _; rw [List.getElem?_set_self hil]) ht hd s.told (fun y hy => ?_) hev (by omega)).mono fun _ w2 ⟨kb', hkb, h3⟩ => ⟨⟨kb', hkb⟩, ?_, ?_⟩
  · have := hPc d (List.mem_of_getElem? hd) y hy
    rw [k1.csl, hcl]; exact this
  · rw [k2.tbs]; exact ht
  · rw [hh, hcb] at h3
    rw [hdo]
    exact h3
end
end Go.Proofs.YtbaidcnalkdhgaaGreat
set_option maxRecDepth 100000
namespace Go.Proofs.YtbaidcnalkdhgaaGreat
open Go Go.Eng
theorem r_new (w : World) : Rets Tryz.prog 14 #[] w fun u w' => ∃ rb sb qb lv, u = pt rb ∧ Fr No w w' ∧ Rt (fun k => k < w.heap.size) w' rb sb qb lv (.slice none 0 0) none 0 [] [] := by
  refine rets_of Tryz.func14 rfl Tryz.ntmps14 rfl rfl (by kernel_rfl) ?_
  (apply vC_seq; apply vC_region; ((apply vL_val); (case h => ((apply opv_E); exact rfl))); apply vL_nil; apply seqP_normal; apply vC_seq; apply vC_region)
  refine vL_callF rfl (s_new w) rfl ?_
  rintro _ w1 ⟨sb, qb, lv, rfl, s⟩
  (((apply vL_val); (case h => ((apply opv_buildS); exact rfl; exact (rfl : _ = some [_, _, _, _])))); ((apply vL_val); (case h => ((apply opw_boxn); exact rfl))); ((apply vL_val); (case h => ((apply opv_E); exact rfl))); apply vL_nil; apply seqP_normal; apply vC_ret)
  (apply ret1; (case h1 => (exact norm_eq rfl)))
  refine ⟨w1.heap.size, sb, qb, lv, rfl, s.fr.alloc _, ⟨Blk.as (inferInstance : Blk (w1.alloc _).heap w1.heap.size _ _) rfl, s.sc.frN ((Fr.refl No w1).alloc _), Own.nil _ _ _ _, fun i x hx => by simp at hx, rfl, fun b hb => (by cases hb), fun k hk => ?_, fun k hk => ?_⟩⟩
  · have := s.fr.size; rw [alloc_size]; omega
  · have h1 := s.fr.size
    have h2 := s.fs
    have h3 := s.fb
    rcases hk with rfl | rfl | rfl | h | h | ⟨x, hx, _⟩
    · omega
    · omega
    · omega
    · have := s.fl k h; omega
    · cases h
    · simp at hx
section
variable {w w0 : World} {F0 : Nat → Prop} {R : Asr} {rb : Nat}
theorem r_newA [Lcl R] (S : At R w0 F0 w) : Rets Tryz.prog 14 #[] w fun u w' => ∃ rb, u = pt rb ∧ At (RtA rb none 0 [] [] * R) w0 F0 w' :=
  (r_new w).mono fun u w' ⟨rb, sb, qb, lv, hu, hf, s⟩ => ⟨rb, hu, S.gain hf ⟨_, ⟨w', sb, qb, lv, _, rfl, s.zto (fun _ h => h.elim) (fun _ _ h => h), rfl⟩, fun k hk => Nat.le_of_not_lt (s.zn k hk)⟩⟩
variable {κ : Type} {L : LawP κ}
theorem prel_nil {kb : List Bx} : PRel L ⟨[], [], [], []⟩ none kb ⟨[], [], [], []⟩ := by
  refine ⟨rfl, rfl, rfl, rfl, Nat.zero_le _, ?_, ?_, ?_, ?_, ?_, List.nodup_nil, ?_, ?_, ?_, ?_, ?_⟩
  · intro i x g s h; cases h
  · intro i x s h; cases h
  · intro i s h; cases h
  · intro i h; cases h
  · intro j c d h; cases h
  · intro z h; cases h
  · intro i
    constructor
    · intro h; cases h
    · rintro ⟨s, h, _⟩; cases h
  · intro i j t u h; cases h
  · intro i m g g' s s' n h; cases h
  · intro i s h; cases h
theorem pw_init (S1 : At (RtA rb none 0 [] [] * R) w0 F0 w) : At (PWA L rb none 0 [] ⟨[], [], [], []⟩ * R) w0 F0 w := by
  refine pw_shut prel_nil (S1.ac ?_)
  show _ = RtA rb none 0 [] [] * (Emp * (Emp * (Emp * (Emp * R))))
  rw [emp_star, emp_star, emp_star, emp_star]
theorem pw_new [Lcl R] (S : At R w0 F0 w) : Rets Tryz.prog 14 #[] w fun u w' => ∃ rb, u = pt rb ∧ At (PWA L rb none 0 [] ⟨[], [], [], []⟩ * R) w0 F0 w' :=
  (r_newA S).mono fun u w' ⟨rb, hu, h⟩ => ⟨rb, hu, pw_init h⟩
end
end Go.Proofs.YtbaidcnalkdhgaaGreat
set_option maxRecDepth 100000
namespace Go.Proofs.YtbaidcnalkdhgaaGreat
open Go Go.Eng
/-- the picks round and round -/
def pkA (picks : List Int) (k : Nat) : Int := if picks.length = 0 then 0 else (picks[k % picks.length]?).getD 0
theorem pkA_bounds {picks : List Int} (hkb : ∀ x ∈ picks, 0 ≤ x ∧ x ≤ 18446744073709551615) (k : Nat) : 0 ≤ pkA picks k ∧ pkA picks k ≤ 18446744073709551615 := by
  unfold pkA
  split
  · omega
  · rename_i h
    have hm := Nat.mod_lt k (show 0 < picks.length by omega)
    rw [List.getElem?_eq_getElem hm]
    exact hkb _ (List.getElem_mem hm)
theorem pkA_at {picks : List Int} (h : picks.length ≠ 0) (k : Nat) : picks[((k : Int) % ((picks.length : Nat) : Int)).toNat]? = some (pkA picks k) := by
  have hm := Nat.mod_lt k (show 0 < picks.length by omega)
  unfold pkA
  rw [if_neg h, show ((k : Int) % ((picks.length : Nat) : Int)).toNat = k % picks.length by rw [← Int.natCast_emod]; rfl, List.getElem?_eq_getElem hm]
  rfl
def runF {σ : Type} (st : σ → Int → Option σ) (picks : List Int) : Nat → Nat → σ → Nat × σ
  | 0, n, s => (n, s)
  | f + 1, n, s => match st s (pkA picks n) with
    | none => (n, s)
    | some s' => runF st picks f (n + 1) s'
theorem runF_none {σ : Type} {st : σ → Int → Option σ} {picks : List Int} {f n : Nat} {s : σ} (h : st s (pkA picks n) = none) : runF st picks f n s = (n, s) := by
  cases f with
  | zero => rfl
  | succ f => rw [runF, h]
theorem runF_some {σ : Type} {st : σ → Int → Option σ} {picks : List Int} {f n : Nat} {s s' : σ} (h : st s (pkA picks n) = some s') : runF st picks (f + 1) n s = runF st picks f (n + 1) s' := by
  rw [runF, h]
theorem run_gen {σ : Type} (I : σ → Asr) (st : σ → Int → Option σ) (G : Nat → σ → Prop) {R : Asr} {w0 w : World} {F0 : Nat → Prop} {rb : Nat} {vk : Value} {picks : List Int} (most : Int) (hmost : most ≤ 1000000)
    (hstep : ∀ (n : Nat) s p w, (n : Int) < most → G n s → 0 ≤ p ∧ p ≤ 18446744073709551615 → At (I s * R) w0 F0 w → Rets Tryz.prog 24 #[pt rb, .int .u64 p] w fun u w' => (st s p = none ∧ u = .bool false ∧ At (I s * R) w0 F0 w') ∨ ∃ s', st s p = some s' ∧ G (n + 1) s' ∧ u = .bool true ∧ At (I s' * R) w0 F0 w')
    (hrd : ∀ s w, At (I s * R) w0 F0 w → Rd w.heap 1 uE vk picks) (hkb : ∀ x ∈ picks, 0 ≤ x ∧ x ≤ 18446744073709551615) (s0 : σ) (hG : G 0 s0) (S : At (I s0 * R) w0 F0 w) :
    Rets Tryz.prog 27 #[pt rb, vk, .int .i64 most] w fun u w' => ∃ n s', runF st picks most.toNat 0 s0 = (n, s') ∧ u = .int .i64 (n : Int) ∧ G n s' ∧ At (I s' * R) w0 F0 w' := by
  have hk := hrd s0 w S
  have hks := hk.small
  refine rets_of Tryz.func27 rfl Tryz.ntmps27 rfl rfl (by kernel_rfl) ?_
  (apply vC_seq; apply vC_region; ((apply vL_val); (case h => ((apply opv_E); exact rfl))); apply vL_nil; apply seqP_normal; apply vC_seq; apply vC_region; ((apply vL_val); (case h => ((apply opv_E); exact rfl))); apply vL_nil; apply seqP_normal; apply vC_seq; apply vC_block)
  clear hk
  (apply vC_loop1 268435328 7 (fun u w' => ∃ (k : Nat) (s : σ), u = .int .i64 (k : Int) ∧ runF st picks most.toNat 0 s0 = runF st picks (most.toNat - k) k s ∧ G k s ∧ (k : Int) ≤ max most 0 ∧ At (I s * R) w0 F0 w') (fun u _ => (most - RowKit.intOf u).toNat)); (case h1 => (exact norm_eq rfl))
  case h0 => exact ⟨0, s0, rfl, rfl, hG, by omega, S⟩
  clear S hG
  case round =>
  rintro junk _ w1 ⟨k, s, rfl, hst, hg, hkm, S1⟩
  have hk1 := hrd s w1 S1
  have hpb := pkA_bounds hkb k
  by_cases hlt : (k : Int) < most
  · obtain ⟨f, hf⟩ : ∃ f, most.toNat - k = f + 1 := ⟨most.toNat - k - 1, by omega⟩
    have hf2 : most.toNat - (k + 1) = f := by omega
    by_cases h0 : picks.length = 0
    · have e0 : pkA picks k = 0 := by unfold pkA; rw [if_pos h0]
      ((iterate 20 (first | with_reducible apply vC_seq | with_reducible apply vC_region | with_reducible apply seqP_normal | with_reducible apply vC_block | with_reducible apply vC_skip | ((with_reducible apply vL_val); (case h => ((with_reducible apply opv_E); exact rfl))) | with_reducible apply vL_nil | (refine vC_cond_dec rfl (fun _ => ?_) (fun h => by omega)))); ((apply vL_val); (case h => ((apply opv_move); ((conv => lhs; whnf) <;> exact rfl)))); ((apply vL_val); (case h => ((apply opv_len); ((conv => lhs; whnf) <;> exact rfl); assumption))); ((apply vL_val); (case h => ((apply opv_E); exact rfl))); apply vL_nil; apply seqP_normal; (refine vC_cond_dec rfl (fun h => by omega) (fun _ => ?_)); apply vC_skip; apply seqP_normal; (iterate 2 (apply vC_seq)); apply vC_region; (iterate 2 (((apply vL_val); (case h => ((apply opv_E); exact rfl))))))
      rw [← e0]
      refine vL_callF rfl (hstep k s (pkA picks k) w1 hlt hg hpb S1) rfl ?_
      rintro _ w2 (⟨hs, rfl, S2⟩ | ⟨s2, hs, hg2, rfl, S2⟩)
      · (((apply vL_val); (case h => ((apply opv_not); exact rfl))); apply vL_nil; apply seqP_normal; ((apply vC_cond_true); exact rfl); apply vC_exit; apply seqP_exit; ((apply blockP_pass); exact rfl); apply loopP_exit; apply blockP_exit; apply seqP_normal; apply vC_seq; apply vC_region; (iterate 2 (((apply vL_val); (case h => ((apply opv_E); exact rfl))))); apply vL_nil; apply seqP_normal; apply vC_ret)
        (apply ret1; (case h1 => (exact norm_eq rfl)))
        exact ⟨k, s, by rw [hst, runF_none hs], rfl, hg, S2⟩
      · (((apply vL_val); (case h => ((apply opv_not); exact rfl))); apply vL_nil; apply seqP_normal; ((apply vC_cond_false); exact rfl); apply vC_skip; apply seqP_normal; apply vC_region; ((apply vL_val); (case h => ((apply opv_E); exact rfl))); ((apply vL_val); (case h => ((apply opv_add); exact rfl; exact rfl; (first | omega | (simp only [List.length_map]; omega))))); ((apply vL_val); (case h => ((apply opv_E); exact rfl))); apply vL_nil; apply blockP_normal; apply loopP_normal)
        (with_reducible apply end1); (case hs => ((iterate 14 (((refine same_updO ?_ ?_); rotate_left; exact rfl))); ((refine same_upd ?_ ?_); rotate_left; exact rfl); (exact same_mask _ _ _))); (case h1 => (exact norm_eq rfl))
        · exact ⟨k + 1, s2, rfl, by rw [hst, hf, runF_some hs, hf2], hg2, by omega, S2⟩
        · simp [RowKit.intOf]; omega
    · have hx := pkA_at h0 k
      have hm0 := Int.emod_nonneg (k : Int) (b := ((picks.length : Nat) : Int)) (by omega)
      have hm1 := Int.emod_lt_of_pos (k : Int) (b := ((picks.length : Nat) : Int)) (by omega)
      ((iterate 2 (apply vC_seq)); apply vC_region; (iterate 3 (((apply vL_val); (case h => ((apply opv_E); exact rfl))))); apply vL_nil; apply seqP_normal; (refine vC_cond_dec rfl (fun _ => ?_) (fun h => by omega)); apply vC_skip; apply seqP_normal; apply vC_block; (iterate 19 (first | with_reducible apply vC_seq | with_reducible apply vC_region | with_reducible apply seqP_normal | ((with_reducible apply vL_val); (case h => ((with_reducible apply opv_E); exact rfl))) | ((with_reducible apply vL_val); (case h => ((with_reducible apply opv_move); ((conv => lhs; whnf) <;> exact rfl)))) | ((with_reducible apply vL_val); (case h => ((with_reducible apply opv_len); ((conv => lhs; whnf) <;> exact rfl); assumption))) | with_reducible apply vL_nil | (refine vC_cond_dec rfl (fun _ => ?_) (fun h => by omega)))); ((apply vL_val); (case h => ((apply opv_rem); exact rfl; exact rfl; (first | omega | (simp only [List.length_map]; omega)); (first | omega | (simp only [List.length_map]; omega))))); ((apply vL_val); (case h => ((apply opv_indexAddr); ((conv => lhs; whnf) <;> exact rfl); exact rfl; assumption; (first | omega | (simp only [List.length_map]; omega)); (first | omega | (simp only [List.length_map]; omega))))); ((apply vL_val); (case h => ((apply opv_ld_el); exact rfl; exact rfl; assumption; assumption; exact rfl))); ((apply vL_val); (case h => ((apply opv_E); exact rfl))); apply vL_nil; apply seqP_normal; (iterate 2 (apply vC_seq)); apply vC_region; (iterate 2 (((apply vL_val); (case h => ((apply opv_E); exact rfl))))))
      refine vL_callF rfl (hstep k s (pkA picks k) w1 hlt hg hpb S1) rfl ?_
      rintro _ w2 (⟨hs, rfl, S2⟩ | ⟨s2, hs, hg2, rfl, S2⟩)
      · (((apply vL_val); (case h => ((apply opv_not); exact rfl))); apply vL_nil; apply seqP_normal; ((apply vC_cond_true); exact rfl); apply vC_exit; apply seqP_exit; ((apply blockP_pass); exact rfl); apply loopP_exit; apply blockP_exit; apply seqP_normal; apply vC_seq; apply vC_region; (iterate 2 (((apply vL_val); (case h => ((apply opv_E); exact rfl))))); apply vL_nil; apply seqP_normal; apply vC_ret)
        (apply ret1; (case h1 => (exact norm_eq rfl)))
        exact ⟨k, s, by rw [hst, runF_none hs], rfl, hg, S2⟩
      · (((apply vL_val); (case h => ((apply opv_not); exact rfl))); apply vL_nil; apply seqP_normal; ((apply vC_cond_false); exact rfl); apply vC_skip; apply seqP_normal; apply vC_region; ((apply vL_val); (case h => ((apply opv_E); exact rfl))); ((apply vL_val); (case h => ((apply opv_add); exact rfl; exact rfl; (first | omega | (simp only [List.length_map]; omega))))); ((apply vL_val); (case h => ((apply opv_E); exact rfl))); apply vL_nil; apply blockP_normal; apply loopP_normal)
        (with_reducible apply end1); (case hs => ((iterate 22 (((refine same_updO ?_ ?_); rotate_left; exact rfl))); ((refine same_upd ?_ ?_); rotate_left; exact rfl); (exact same_mask _ _ _))); (case h1 => (exact norm_eq rfl))
        · exact ⟨k + 1, s2, rfl, by rw [hst, hf, runF_some hs, hf2], hg2, by omega, S2⟩
        · simp [RowKit.intOf]; omega
  · ((iterate 2 (apply vC_seq)); apply vC_region; (iterate 3 (((apply vL_val); (case h => ((apply opv_E); exact rfl))))); apply vL_nil; apply seqP_normal; (refine vC_cond_dec rfl (fun h => by omega) (fun _ => ?_)); apply vC_exit; apply seqP_exit; apply loopP_exit; apply blockP_exit; apply seqP_normal; apply vC_seq; apply vC_region; (iterate 2 (((apply vL_val); (case h => ((apply opv_E); exact rfl))))); apply vL_nil; apply seqP_normal; apply vC_ret)
    (apply ret1; (case h1 => (exact norm_eq rfl)))
    refine ⟨k, s, ?_, rfl, hg, S1⟩
    rw [hst, show most.toNat - k = 0 by omega]; rfl
end Go.Proofs.YtbaidcnalkdhgaaGreat
