/- Layer 16: ChansNone: the tasks that are refused. Layer 16: ChansNone: the second task. Layer 16: ChansNone: the two steps. Layer 16: ChansNone: a channel at which nobody waits is closed. Layer 16: ChansNone: the walk. -/
import Derived.Test.YtbaidcnalkdhgaaGreatVe
import Derived.Test.YtbaidcnalkdhgaaGreatEz
import Derived.Test.YtbaidcnalkdhgaaGreatVq
set_option maxRecDepth 100000
namespace Go.Proofs.YtbaidcnalkdhgaaGreat
open Go Go.Eng
section
variable {w w0 : World} {F0 : Nat → Prop} {R : Asr}
theorem rt_ne {a b : Nat} {n1 n2 : Option Nat} {r1 r2 : Int} {l1 l2 : List Int} {t1 t2 : List (Nat × TK)} (S : At (RtA a n1 r1 l1 t1 * (RtA b n2 r2 l2 t2 * R)) w0 F0 w) : a ≠ b := by
  rintro rfl
  obtain ⟨F, ⟨F1, F2, ⟨x1, s1, q1, lv1, tv1, _, _, e1⟩, ⟨F3, F4, ⟨x2, s2, q2, lv2, tv2, _, _, e2⟩, _, _, e4⟩, d, _⟩, _, _⟩ := S.out
  subst e1 e2 e4
  exact d a (.inl rfl) (.inl (.inl rfl))
structure NB where
  cbx : Nat
  tellb : Nat
  takeb : Nat
  noneb : Nat
  zerob : Nat
  z : Nat
def tellF : Value := .func (.func 74) #[] #[]
def takeF : Value := .func (.func 75) #[] #[]
def nbx (b : NB) (cb : Nat) : List Bx := [(b.cbx, [pt cb], 28), (b.noneb, [.pointer none], 28), (b.zerob, [pt b.z], 28), (b.tellb, [tellF], 36), (b.takeb, [takeF], 39), (b.z, zCh, 148)]
theorem nbx_facts {b : NB} {cb : Nat} (S : At (Bxl (nbx b cb) * R) w0 F0 w) : Blk w.heap b.cbx [pt cb] 28 ∧ Blk w.heap b.noneb [.pointer none] 28 ∧ Blk w.heap b.zerob [pt b.z] 28 ∧ Blk w.heap b.tellb [.func (.func 74) #[] #[]] 36 ∧ Blk w.heap b.takeb [.func (.func 75) #[] #[]] 39 :=
  ⟨S.bx (by simp [nbx]), S.bx (by simp [nbx]), S.bx (by simp [nbx]), S.bx (by simp [nbx, tellF]), S.bx (by simp [nbx, takeF])⟩
variable {sb rb tb lb i : Nat} {rest rest' : Int} {ready ready' : List Int} {ts ts' : List (Nat × TK)} {lv : Value} {ls : List Int} {c : CH} {b : NB} {x : TK} {now : Option Nat}
theorem none4 [Lcl R] (S : At (RtA sb (some tb) rest ready ts * (Pt lb [lv] 110 * (Ow 29 1 iE lv ls * (ChA_i rb c * (RtA rb now rest' ready' ts' * (Bxl (nbx b c.cb) * R)))))) w0 F0 w) (hx : ts[i]? = some (tb, x)) (hl : ls.length ≤ 10) :
    Rets Tryz.prog 77 #[pt tb, pt lb, pt b.cbx, pt b.tellb, pt b.takeb, pt b.noneb, pt b.zerob] w fun _ w' => ∃ lv', At (RtA sb (some tb) rest ready ts * (Pt lb [lv'] 110 * (Ow 29 1 iE lv' (ls ++ [160, 160, 1, 1]) * (ChA_i rb c * (RtA rb now rest' ready' ts' * (Bxl (nbx b c.cb) * R)))))) w0 F0 w' := by
  have hne : sb ≠ rb := rt_ne (S.ac (show _ = RtA sb (some tb) rest ready ts * (RtA rb now rest' ready' ts' * (Pt lb [lv] 110 * (Ow 29 1 iE lv ls * (ChA_i rb c * (Bxl (nbx b c.cb) * R))))) by ac_rfl))
  obtain ⟨_, sb1, qb1, lv1, tv1, s1, _⟩ := S.rt
  have ht := s1.tk i _ hx
  have hs := s1.hr
  unfold tkL at ht
  have S2 := S.ac (show _ = RtA rb now rest' ready' ts' * (RtA sb (some tb) rest ready ts * (Pt lb [lv] 110 * (Ow 29 1 iE lv ls * (ChA_i rb c * (Bxl (nbx b c.cb) * R))))) by ac_rfl)
  obtain ⟨_, sb2, qb2, lv2, tv2, s2, _⟩ := S2.rt
  have hr := s2.hr
  have S3 := S.ac (show _ = Bxl (nbx b c.cb) * (RtA rb now rest' ready' ts' * (RtA sb (some tb) rest ready ts * (Pt lb [lv] 110 * (Ow 29 1 iE lv ls * (ChA_i rb c * R))))) by ac_rfl)
  have e1 := S3.bx (b := b.cbx) (cs := [pt c.cb]) (T := 28) (by simp [nbx])
  have e2 := S3.bx (b := b.noneb) (cs := [.pointer none]) (T := 28) (by simp [nbx])
  have e3 := S3.bx (b := b.zerob) (cs := [pt b.z]) (T := 28) (by simp [nbx])
  have e4 := S3.bx (b := b.tellb) (cs := [tellF]) (T := 36) (by simp [nbx])
  have e5 := S3.bx (b := b.takeb) (cs := [takeF]) (T := 39) (by simp [nbx])
  have e6 := S3.bx (b := b.z) (cs := zCh) (T := 148) (by simp [nbx])
  unfold tellF at e4
  unfold takeF at e5
  have S4 := S.ac (show _ = ChA_i rb c * (Bxl (nbx b c.cb) * (RtA rb now rest' ready' ts' * (RtA sb (some tb) rest ready ts * (Pt lb [lv] 110 * (Ow 29 1 iE lv ls * R))))) by ac_rfl)
  have hc := ch_blk_i S4
  unfold chL_i at hc
  have S5 := S.ac (show _ = Pt lb [lv] 110 * (RtA sb (some tb) rest ready ts * (Ow 29 1 iE lv ls * (ChA_i rb c * (RtA rb now rest' ready' ts' * (Bxl (nbx b c.cb) * R))))) by ac_rfl)
  have el := S5.blk
  refine rets_of Tryz.func77 rfl Tryz.ntmps77 rfl rfl (by kernel_rfl) ?_
  skip
  have g5 := Fr.refl No w
  refine vC_draw' ((fun wf => Blk wf.heap b.cbx [pt c.cb] 28 ∧ Blk wf.heap b.noneb [.pointer none] 28 ∧ Blk wf.heap b.zerob [pt b.z] 28 ∧ Blk wf.heap b.tellb [.func (.func 74) #[] #[]] 36 ∧ Blk wf.heap b.takeb [.func (.func 75) #[] #[]] 39)) (by (first | exact trivial | assumption | infer_instance | (refine ⟨?_, ?_, ?_, ?_, ?_⟩ <;> (first | assumption | infer_instance)) | (skip; done))) ?_
  ((apply (tk 1)); (case hi => exact rfl); (case hf => kernel_rfl); (case hS => (first | exact trivial | assumption | infer_instance | (refine ⟨?_, ?_, ?_, ?_, ?_⟩ <;> (first | assumption | infer_instance)) | (skip; done))); (case hy => (rintro wf ⟨hwa, hwb, hwc, hwd, hwe⟩; (((apply opv_E); exact rfl)))))
  ((apply (tk 2)); (case hi => exact rfl); (case hf => kernel_rfl); (case hS => (first | exact trivial | assumption | infer_instance | (refine ⟨?_, ?_, ?_, ?_, ?_⟩ <;> (first | assumption | infer_instance)) | (skip; done))); (case hy => (rintro wf ⟨hwa, hwb, hwc, hwd, hwe⟩; (((apply opv_loadb1); exact rfl; exact rfl; assumption; exact rfl)))))
  ((apply (tk 3)); (case hi => exact rfl); (case hf => kernel_rfl); (case hS => (first | exact trivial | assumption | infer_instance | (refine ⟨?_, ?_, ?_, ?_, ?_⟩ <;> (first | assumption | infer_instance)) | (skip; done))); (case hy => (rintro wf ⟨hwa, hwb, hwc, hwd, hwe⟩; (((apply opv_loadb1); exact rfl; exact rfl; assumption; exact rfl)))))
  ((apply (tk 5)); (case hi => exact rfl); (case hf => kernel_rfl); (case hS => (first | exact trivial | assumption | infer_instance | (refine ⟨?_, ?_, ?_, ?_, ?_⟩ <;> (first | assumption | infer_instance)) | (skip; done))); (case hy => (rintro wf ⟨hwa, hwb, hwc, hwd, hwe⟩; (((apply opv_E); exact rfl)))))
  ((apply (tk 6)); (case hi => exact rfl); (case hf => kernel_rfl); (case hS => (first | exact trivial | assumption | infer_instance | (refine ⟨?_, ?_, ?_, ?_, ?_⟩ <;> (first | assumption | infer_instance)) | (skip; done))); (case hy => (rintro wf ⟨hwa, hwb, hwc, hwd, hwe⟩; (((apply opv_loadb1); exact rfl; exact rfl; assumption; exact rfl)))))
  ((apply (tk 7)); (case hi => exact rfl); (case hf => kernel_rfl); (case hS => (first | exact trivial | assumption | infer_instance | (refine ⟨?_, ?_, ?_, ?_, ?_⟩ <;> (first | assumption | infer_instance)) | (skip; done))); (case hy => (rintro wf ⟨hwa, hwb, hwc, hwd, hwe⟩; (((apply opv_loadb1); exact rfl; exact rfl; assumption; exact rfl)))))
  ((apply (tk 9)); (case hi => exact rfl); (case hf => kernel_rfl); (case hS => (first | exact trivial | assumption | infer_instance | (refine ⟨?_, ?_, ?_, ?_, ?_⟩ <;> (first | assumption | infer_instance)) | (skip; done))); (case hy => (rintro wf ⟨hwa, hwb, hwc, hwd, hwe⟩; (((apply opv_E); exact rfl)))))
  ((apply (tk 10)); (case hi => exact rfl); (case hf => kernel_rfl); (case hS => (first | exact trivial | assumption | infer_instance | (refine ⟨?_, ?_, ?_, ?_, ?_⟩ <;> (first | assumption | infer_instance)) | (skip; done))); (case hy => (rintro wf ⟨hwa, hwb, hwc, hwd, hwe⟩; (((apply opv_loadb1); exact rfl; exact rfl; assumption; exact rfl)))))
  ((apply (tk 11)); (case hi => exact rfl); (case hf => kernel_rfl); (case hS => (first | exact trivial | assumption | infer_instance | (refine ⟨?_, ?_, ?_, ?_, ?_⟩ <;> (first | assumption | infer_instance)) | (skip; done))); (case hy => (rintro wf ⟨hwa, hwb, hwc, hwd, hwe⟩; (((apply opv_loadb1); exact rfl; exact rfl; assumption; exact rfl)))))
  ((apply (tk 13)); (case hi => exact rfl); (case hf => kernel_rfl); (case hS => (first | exact trivial | assumption | infer_instance | (refine ⟨?_, ?_, ?_, ?_, ?_⟩ <;> (first | assumption | infer_instance)) | (skip; done))); (case hy => (rintro wf ⟨hwa, hwb, hwc, hwd, hwe⟩; (((apply opv_E); exact rfl)))))
  ((apply (tk 14)); (case hi => exact rfl); (case hf => kernel_rfl); (case hS => (first | exact trivial | assumption | infer_instance | (refine ⟨?_, ?_, ?_, ?_, ?_⟩ <;> (first | assumption | infer_instance)) | (skip; done))); (case hy => (rintro wf ⟨hwa, hwb, hwc, hwd, hwe⟩; (((apply opv_loadb1); exact rfl; exact rfl; assumption; exact rfl)))))
  ((apply (tk 15)); (case hi => exact rfl); (case hf => kernel_rfl); (case hS => (first | exact trivial | assumption | infer_instance | (refine ⟨?_, ?_, ?_, ?_, ?_⟩ <;> (first | assumption | infer_instance)) | (skip; done))); (case hy => (rintro wf ⟨hwa, hwb, hwc, hwd, hwe⟩; (((apply opv_loadb1); exact rfl; exact rfl; assumption; exact rfl)))))
  refine vA_two 0 4 rfl rfl (by kernel_rfl) ⟨e1.frN (by (apply Fr.drew; exact Fr.refl _ _)), e2.frN (by (apply Fr.drew; exact Fr.refl _ _)), e3.frN (by (apply Fr.drew; exact Fr.refl _ _)), e4.frN (by (apply Fr.drew; exact Fr.refl _ _)), e5.frN (by (apply Fr.drew; exact Fr.refl _ _))⟩ (fun K hK => ?_) (fun K hK => ?_)
  · (((apply vL_val); (case h => ((apply opv_loadb1); exact rfl; exact rfl; assumption; exact rfl))); apply vL_nil)
    refine ⟨rfl, hK _ _ ?_⟩
    refine tkc 4 rfl (by kernel_rfl) ⟨e1.frN (by (apply Fr.drew; exact Fr.refl _ _)), e2.frN (by (apply Fr.drew; exact Fr.refl _ _)), e3.frN (by (apply Fr.drew; exact Fr.refl _ _)), e4.frN (by (apply Fr.drew; exact Fr.refl _ _)), e5.frN (by (apply Fr.drew; exact Fr.refl _ _))⟩ rfl (send_other (ht.frN (by (apply Fr.drew; exact Fr.refl _ _))) (hs.frN (by (apply Fr.drew; exact Fr.refl _ _))) (hr.frN (by (apply Fr.drew; exact Fr.refl _ _))) hne (hc.frN (by (apply Fr.drew; exact Fr.refl _ _))) 1 _ _) rfl ?_
    rintro _ w6 ⟨hf6, rfl⟩
    have g6 : Fr No w w6 := Fr.trans (by (apply Fr.drew; exact Fr.refl _ _)) hf6
    clear hf6
    have el6 := el.frN g6
    refine tkc 8 rfl (by kernel_rfl) ⟨e1.frN (by (assumption)), e2.frN (by (assumption)), e3.frN (by (assumption)), e4.frN (by (assumption)), e5.frN (by (assumption))⟩ rfl (recv_other (ht.frN (by (assumption))) (hs.frN (by (assumption))) (hr.frN (by (assumption))) hne (hc.frN (by (assumption))) _ _) rfl ?_
    rintro _ w7 ⟨hf7, rfl⟩
    have g7 : Fr No w w7 := Fr.trans (by (assumption)) hf7
    clear hf7
    have el7 := el.frN g7
    refine tkc 12 rfl (by kernel_rfl) ⟨e1.frN (by (assumption)), e2.frN (by (assumption)), e3.frN (by (assumption)), e4.frN (by (assumption)), e5.frN (by (assumption))⟩ rfl (send_none tb 1 _ _) rfl ?_
    rintro _ w8 ⟨hf8, rfl⟩
    have g8 : Fr No w w8 := Fr.trans (by (assumption)) hf8
    clear hf8
    have el8 := el.frN g8
    refine tkc 16 rfl (by kernel_rfl) ⟨e1.frN (by (assumption)), e2.frN (by (assumption)), e3.frN (by (assumption)), e4.frN (by (assumption)), e5.frN (by (assumption))⟩ rfl (recv_zero tb b.z (e6.frN (by (assumption))) _ _) rfl ?_
    rintro _ w9 ⟨hf9, rfl⟩
    have g9 : Fr No w w9 := Fr.trans (by (assumption)) hf9
    clear hf9
    have el9 := el.frN g9
    refine vA_only 17 rfl (by kernel_rfl) ⟨e1.frN (by (assumption)), e2.frN (by (assumption)), e3.frN (by (assumption)), e4.frN (by (assumption)), e5.frN (by (assumption))⟩ (fun K hK => ?_)
    (((apply vL_val); (case h => ((apply opw_buildSl); exact rfl; exact rfl; exact rfl; exact (rfl : _ = some [_, _, _, _])))); apply vL_nil)
    refine ⟨rfl, hK _ _ ?_⟩
    refine vA_only 18 rfl (by kernel_rfl) ⟨e1.frN (by (apply Fr.alloc; assumption)), e2.frN (by (apply Fr.alloc; assumption)), e3.frN (by (apply Fr.alloc; assumption)), e4.frN (by (apply Fr.alloc; assumption)), e5.frN (by (apply Fr.alloc; assumption))⟩ (fun K hK => ?_)
    have S8 := S.frN g9
    have S9 := S8.ac (show _ = Ow 29 1 iE lv ls * (RtA sb (some tb) rest ready ts * (Pt lb [lv] 110 * (ChA_i rb c * (RtA rb now rest' ready' ts' * (Bxl (nbx b c.cb) * R))))) by ac_rfl)
    have o9 := S9.own
    refine vL_append (enc := iE) (xs := ls) (ys := [160, 160, 1, 1]) (T := 29) (sz := 1) (by (((conv => lhs; whnf) <;> exact rfl))) (by (exact norm_eq rfl)) (Own.alloc (o9.1.frN (by (exact Fr.refl _ _)))) (rd_lit (enc := iE) [160, 160, 1, 1] inferInstance rfl (by decide)) rfl (by decide) ?_ ?_ ?_
    · simp [maxLen]; omega
    · simp; omega
    intro v' w99 ho9 hf9 hfr9 hone9 _
    have hfa : Fr (fun j => own lv = some j) w9 w99 := (show Fr _ w9 _ by (apply Fr.alloc; exact Fr.refl _ _)).trans' hf9 (fun i hi => .inl hi)
    have S10 := S9.owTo hfa ho9 hone9 (fun k hk => (hfr9 k hk).imp id (fun h => by rw [alloc_size] at h; exact Nat.le_trans (Nat.le_succ _) h))
    have S11 := S10.ac (show _ = Pt lb [lv] 110 * (Ow 29 1 iE v' (ls ++ [160, 160, 1, 1]) * (RtA sb (some tb) rest ready ts * (ChA_i rb c * (RtA rb now rest' ready' ts' * (Bxl (nbx b c.cb) * R))))) by ac_rfl)
    have el9 := S11.blk
    have S13 := S11.set (cs' := [v'])
    have q := nbx_facts (S11.ac (show _ = Bxl (nbx b c.cb) * (Pt lb [lv] 110 * (Ow 29 1 iE v' (ls ++ [160, 160, 1, 1]) * (RtA sb (some tb) rest ready ts * (ChA_i rb c * (RtA rb now rest' ready' ts' * R))))) by ac_rfl))
    have q' := nbx_facts (S13.ac (show _ = Bxl (nbx b c.cb) * (Pt lb [v'] 110 * (Ow 29 1 iE v' (ls ++ [160, 160, 1, 1]) * (RtA sb (some tb) rest ready ts * (ChA_i rb c * (RtA rb now rest' ready' ts' * R))))) by ac_rfl))
    refine vL_nil ⟨rfl, hK _ _ ?_⟩
    refine vA_only 19 rfl (by kernel_rfl) q (fun K hK => ?_)
    (((apply vL_skip); (case h => ((apply ops_store1); exact norm_eq rfl; ((conv => lhs; whnf) <;> exact rfl); (first | rfl | assumption); assumption; (first | decide | exact of_decide_eq_true rfl | (simp; done))))); apply vL_nil)
    refine ⟨rfl, hK _ _ ?_⟩
    refine vA_done (by kernel_rfl) q' ?_
    skip
    (first | apply ret0 | apply ret0n)
    exact ⟨v', S13.ac (by ac_rfl)⟩
  · refine vL_callF rfl (send_other (ht.frN (by (apply Fr.drew; exact Fr.refl _ _))) (hs.frN (by (apply Fr.drew; exact Fr.refl _ _))) (hr.frN (by (apply Fr.drew; exact Fr.refl _ _))) hne (hc.frN (by (apply Fr.drew; exact Fr.refl _ _))) 1 _ _) rfl ?_
    rintro _ w10 ⟨hf10, rfl⟩
    have g10 : Fr No w w10 := Fr.trans (by (apply Fr.drew; exact Fr.refl _ _)) hf10
    clear hf10
    have el10 := el.frN g10
    refine vL_nil ⟨rfl, hK _ _ ?_⟩
    refine vA_two 0 8 rfl rfl (by kernel_rfl) ⟨e1.frN (by (assumption)), e2.frN (by (assumption)), e3.frN (by (assumption)), e4.frN (by (assumption)), e5.frN (by (assumption))⟩ (fun K hK => ?_) (fun K hK => ?_)
    · (((apply vL_val); (case h => ((apply opv_loadb1); exact rfl; exact rfl; assumption; exact rfl))); apply vL_nil)
      refine ⟨rfl, hK _ _ ?_⟩
      refine tkc 8 rfl (by kernel_rfl) ⟨e1.frN (by (assumption)), e2.frN (by (assumption)), e3.frN (by (assumption)), e4.frN (by (assumption)), e5.frN (by (assumption))⟩ rfl (recv_other (ht.frN (by (assumption))) (hs.frN (by (assumption))) (hr.frN (by (assumption))) hne (hc.frN (by (assumption))) _ _) rfl ?_
      rintro _ w11 ⟨hf11, rfl⟩
      have g11 : Fr No w w11 := Fr.trans (by (assumption)) hf11
      clear hf11
      have el11 := el.frN g11
      refine tkc 12 rfl (by kernel_rfl) ⟨e1.frN (by (assumption)), e2.frN (by (assumption)), e3.frN (by (assumption)), e4.frN (by (assumption)), e5.frN (by (assumption))⟩ rfl (send_none tb 1 _ _) rfl ?_
      rintro _ w12 ⟨hf12, rfl⟩
      have g12 : Fr No w w12 := Fr.trans (by (assumption)) hf12
      clear hf12
      have el12 := el.frN g12
      refine tkc 16 rfl (by kernel_rfl) ⟨e1.frN (by (assumption)), e2.frN (by (assumption)), e3.frN (by (assumption)), e4.frN (by (assumption)), e5.frN (by (assumption))⟩ rfl (recv_zero tb b.z (e6.frN (by (assumption))) _ _) rfl ?_
      rintro _ w13 ⟨hf13, rfl⟩
      have g13 : Fr No w w13 := Fr.trans (by (assumption)) hf13
      clear hf13
      have el13 := el.frN g13
      refine vA_only 17 rfl (by kernel_rfl) ⟨e1.frN (by (assumption)), e2.frN (by (assumption)), e3.frN (by (assumption)), e4.frN (by (assumption)), e5.frN (by (assumption))⟩ (fun K hK => ?_)
      (((apply vL_val); (case h => ((apply opw_buildSl); exact rfl; exact rfl; exact rfl; exact (rfl : _ = some [_, _, _, _])))); apply vL_nil)
      refine ⟨rfl, hK _ _ ?_⟩
      refine vA_only 18 rfl (by kernel_rfl) ⟨e1.frN (by (apply Fr.alloc; assumption)), e2.frN (by (apply Fr.alloc; assumption)), e3.frN (by (apply Fr.alloc; assumption)), e4.frN (by (apply Fr.alloc; assumption)), e5.frN (by (apply Fr.alloc; assumption))⟩ (fun K hK => ?_)
      have S8 := S.frN g13
      have S9 := S8.ac (show _ = Ow 29 1 iE lv ls * (RtA sb (some tb) rest ready ts * (Pt lb [lv] 110 * (ChA_i rb c * (RtA rb now rest' ready' ts' * (Bxl (nbx b c.cb) * R))))) by ac_rfl)
      have o9 := S9.own
      refine vL_append (enc := iE) (xs := ls) (ys := [160, 160, 1, 1]) (T := 29) (sz := 1) (by (((conv => lhs; whnf) <;> exact rfl))) (by (exact norm_eq rfl)) (Own.alloc (o9.1.frN (by (exact Fr.refl _ _)))) (rd_lit (enc := iE) [160, 160, 1, 1] inferInstance rfl (by decide)) rfl (by decide) ?_ ?_ ?_
      · simp [maxLen]; omega
      · simp; omega
      intro v' w99 ho9 hf9 hfr9 hone9 _
      have hfa : Fr (fun j => own lv = some j) w13 w99 := (show Fr _ w13 _ by (apply Fr.alloc; exact Fr.refl _ _)).trans' hf9 (fun i hi => .inl hi)
      have S10 := S9.owTo hfa ho9 hone9 (fun k hk => (hfr9 k hk).imp id (fun h => by rw [alloc_size] at h; exact Nat.le_trans (Nat.le_succ _) h))
      have S11 := S10.ac (show _ = Pt lb [lv] 110 * (Ow 29 1 iE v' (ls ++ [160, 160, 1, 1]) * (RtA sb (some tb) rest ready ts * (ChA_i rb c * (RtA rb now rest' ready' ts' * (Bxl (nbx b c.cb) * R))))) by ac_rfl)
      have el9 := S11.blk
      have S13 := S11.set (cs' := [v'])
      have q := nbx_facts (S11.ac (show _ = Bxl (nbx b c.cb) * (Pt lb [lv] 110 * (Ow 29 1 iE v' (ls ++ [160, 160, 1, 1]) * (RtA sb (some tb) rest ready ts * (ChA_i rb c * (RtA rb now rest' ready' ts' * R))))) by ac_rfl))
      have q' := nbx_facts (S13.ac (show _ = Bxl (nbx b c.cb) * (Pt lb [v'] 110 * (Ow 29 1 iE v' (ls ++ [160, 160, 1, 1]) * (RtA sb (some tb) rest ready ts * (ChA_i rb c * (RtA rb now rest' ready' ts' * R))))) by ac_rfl))
      refine vL_nil ⟨rfl, hK _ _ ?_⟩
      refine vA_only 19 rfl (by kernel_rfl) q (fun K hK => ?_)
      (((apply vL_skip); (case h => ((apply ops_store1); exact norm_eq rfl; ((conv => lhs; whnf) <;> exact rfl); (first | rfl | assumption); assumption; (first | decide | exact of_decide_eq_true rfl | (simp; done))))); apply vL_nil)
      refine ⟨rfl, hK _ _ ?_⟩
      refine vA_done (by kernel_rfl) q' ?_
      skip
      (first | apply ret0 | apply ret0n)
      exact ⟨v', S13.ac (by ac_rfl)⟩
    · refine vL_callF rfl (recv_other (ht.frN (by (assumption))) (hs.frN (by (assumption))) (hr.frN (by (assumption))) hne (hc.frN (by (assumption))) _ _) rfl ?_
      rintro _ w14 ⟨hf14, rfl⟩
      have g14 : Fr No w w14 := Fr.trans (by (assumption)) hf14
      clear hf14
      have el14 := el.frN g14
      refine vL_nil ⟨rfl, hK _ _ ?_⟩
      refine vA_two 0 12 rfl rfl (by kernel_rfl) ⟨e1.frN (by (assumption)), e2.frN (by (assumption)), e3.frN (by (assumption)), e4.frN (by (assumption)), e5.frN (by (assumption))⟩ (fun K hK => ?_) (fun K hK => ?_)
      · (((apply vL_val); (case h => ((apply opv_loadb1); exact rfl; exact rfl; assumption; exact rfl))); apply vL_nil)
        refine ⟨rfl, hK _ _ ?_⟩
        refine tkc 12 rfl (by kernel_rfl) ⟨e1.frN (by (assumption)), e2.frN (by (assumption)), e3.frN (by (assumption)), e4.frN (by (assumption)), e5.frN (by (assumption))⟩ rfl (send_none tb 1 _ _) rfl ?_
        rintro _ w15 ⟨hf15, rfl⟩
        have g15 : Fr No w w15 := Fr.trans (by (assumption)) hf15
        clear hf15
        have el15 := el.frN g15
        refine tkc 16 rfl (by kernel_rfl) ⟨e1.frN (by (assumption)), e2.frN (by (assumption)), e3.frN (by (assumption)), e4.frN (by (assumption)), e5.frN (by (assumption))⟩ rfl (recv_zero tb b.z (e6.frN (by (assumption))) _ _) rfl ?_
        rintro _ w16 ⟨hf16, rfl⟩
        have g16 : Fr No w w16 := Fr.trans (by (assumption)) hf16
        clear hf16
        have el16 := el.frN g16
        refine vA_only 17 rfl (by kernel_rfl) ⟨e1.frN (by (assumption)), e2.frN (by (assumption)), e3.frN (by (assumption)), e4.frN (by (assumption)), e5.frN (by (assumption))⟩ (fun K hK => ?_)
        (((apply vL_val); (case h => ((apply opw_buildSl); exact rfl; exact rfl; exact rfl; exact (rfl : _ = some [_, _, _, _])))); apply vL_nil)
        refine ⟨rfl, hK _ _ ?_⟩
        refine vA_only 18 rfl (by kernel_rfl) ⟨e1.frN (by (apply Fr.alloc; assumption)), e2.frN (by (apply Fr.alloc; assumption)), e3.frN (by (apply Fr.alloc; assumption)), e4.frN (by (apply Fr.alloc; assumption)), e5.frN (by (apply Fr.alloc; assumption))⟩ (fun K hK => ?_)
        have S8 := S.frN g16
        have S9 := S8.ac (show _ = Ow 29 1 iE lv ls * (RtA sb (some tb) rest ready ts * (Pt lb [lv] 110 * (ChA_i rb c * (RtA rb now rest' ready' ts' * (Bxl (nbx b c.cb) * R))))) by ac_rfl)
        have o9 := S9.own
        refine vL_append (enc := iE) (xs := ls) (ys := [160, 160, 1, 1]) (T := 29) (sz := 1) (by (((conv => lhs; whnf) <;> exact rfl))) (by (exact norm_eq rfl)) (Own.alloc (o9.1.frN (by (exact Fr.refl _ _)))) (rd_lit (enc := iE) [160, 160, 1, 1] inferInstance rfl (by decide)) rfl (by decide) ?_ ?_ ?_
        · simp [maxLen]; omega
        · simp; omega
        intro v' w99 ho9 hf9 hfr9 hone9 _
        have hfa : Fr (fun j => own lv = some j) w16 w99 := (show Fr _ w16 _ by (apply Fr.alloc; exact Fr.refl _ _)).trans' hf9 (fun i hi => .inl hi)
        have S10 := S9.owTo hfa ho9 hone9 (fun k hk => (hfr9 k hk).imp id (fun h => by rw [alloc_size] at h; exact Nat.le_trans (Nat.le_succ _) h))
        have S11 := S10.ac (show _ = Pt lb [lv] 110 * (Ow 29 1 iE v' (ls ++ [160, 160, 1, 1]) * (RtA sb (some tb) rest ready ts * (ChA_i rb c * (RtA rb now rest' ready' ts' * (Bxl (nbx b c.cb) * R))))) by ac_rfl)
        have el9 := S11.blk
        have S13 := S11.set (cs' := [v'])
        have q := nbx_facts (S11.ac (show _ = Bxl (nbx b c.cb) * (Pt lb [lv] 110 * (Ow 29 1 iE v' (ls ++ [160, 160, 1, 1]) * (RtA sb (some tb) rest ready ts * (ChA_i rb c * (RtA rb now rest' ready' ts' * R))))) by ac_rfl))
        have q' := nbx_facts (S13.ac (show _ = Bxl (nbx b c.cb) * (Pt lb [v'] 110 * (Ow 29 1 iE v' (ls ++ [160, 160, 1, 1]) * (RtA sb (some tb) rest ready ts * (ChA_i rb c * (RtA rb now rest' ready' ts' * R))))) by ac_rfl))
        refine vL_nil ⟨rfl, hK _ _ ?_⟩
        refine vA_only 19 rfl (by kernel_rfl) q (fun K hK => ?_)
        (((apply vL_skip); (case h => ((apply ops_store1); exact norm_eq rfl; ((conv => lhs; whnf) <;> exact rfl); (first | rfl | assumption); assumption; (first | decide | exact of_decide_eq_true rfl | (simp; done))))); apply vL_nil)
        refine ⟨rfl, hK _ _ ?_⟩
        refine vA_done (by kernel_rfl) q' ?_
        skip
        (first | apply ret0 | apply ret0n)
        exact ⟨v', S13.ac (by ac_rfl)⟩
      · refine vL_callF rfl (send_none tb 1 _ _) rfl ?_
        rintro _ w17 ⟨hf17, rfl⟩
        have g17 : Fr No w w17 := Fr.trans (by (assumption)) hf17
        clear hf17
        have el17 := el.frN g17
        refine vL_nil ⟨rfl, hK _ _ ?_⟩
        refine vA_two 0 16 rfl rfl (by kernel_rfl) ⟨e1.frN (by (assumption)), e2.frN (by (assumption)), e3.frN (by (assumption)), e4.frN (by (assumption)), e5.frN (by (assumption))⟩ (fun K hK => ?_) (fun K hK => ?_)
        · (((apply vL_val); (case h => ((apply opv_loadb1); exact rfl; exact rfl; assumption; exact rfl))); apply vL_nil)
          refine ⟨rfl, hK _ _ ?_⟩
          refine tkc 16 rfl (by kernel_rfl) ⟨e1.frN (by (assumption)), e2.frN (by (assumption)), e3.frN (by (assumption)), e4.frN (by (assumption)), e5.frN (by (assumption))⟩ rfl (recv_zero tb b.z (e6.frN (by (assumption))) _ _) rfl ?_
          rintro _ w18 ⟨hf18, rfl⟩
          have g18 : Fr No w w18 := Fr.trans (by (assumption)) hf18
          clear hf18
          have el18 := el.frN g18
          refine vA_only 17 rfl (by kernel_rfl) ⟨e1.frN (by (assumption)), e2.frN (by (assumption)), e3.frN (by (assumption)), e4.frN (by (assumption)), e5.frN (by (assumption))⟩ (fun K hK => ?_)
          (((apply vL_val); (case h => ((apply opw_buildSl); exact rfl; exact rfl; exact rfl; exact (rfl : _ = some [_, _, _, _])))); apply vL_nil)
          refine ⟨rfl, hK _ _ ?_⟩
          refine vA_only 18 rfl (by kernel_rfl) ⟨e1.frN (by (apply Fr.alloc; assumption)), e2.frN (by (apply Fr.alloc; assumption)), e3.frN (by (apply Fr.alloc; assumption)), e4.frN (by (apply Fr.alloc; assumption)), e5.frN (by (apply Fr.alloc; assumption))⟩ (fun K hK => ?_)
          have S8 := S.frN g18
          have S9 := S8.ac (show _ = Ow 29 1 iE lv ls * (RtA sb (some tb) rest ready ts * (Pt lb [lv] 110 * (ChA_i rb c * (RtA rb now rest' ready' ts' * (Bxl (nbx b c.cb) * R))))) by ac_rfl)
          have o9 := S9.own
          refine vL_append (enc := iE) (xs := ls) (ys := [160, 160, 1, 1]) (T := 29) (sz := 1) (by (((conv => lhs; whnf) <;> exact rfl))) (by (exact norm_eq rfl)) (Own.alloc (o9.1.frN (by (exact Fr.refl _ _)))) (rd_lit (enc := iE) [160, 160, 1, 1] inferInstance rfl (by decide)) rfl (by decide) ?_ ?_ ?_
          · simp [maxLen]; omega
          · simp; omega
          intro v' w99 ho9 hf9 hfr9 hone9 _
          have hfa : Fr (fun j => own lv = some j) w18 w99 := (show Fr _ w18 _ by (apply Fr.alloc; exact Fr.refl _ _)).trans' hf9 (fun i hi => .inl hi)
          have S10 := S9.owTo hfa ho9 hone9 (fun k hk => (hfr9 k hk).imp id (fun h => by rw [alloc_size] at h; exact Nat.le_trans (Nat.le_succ _) h))
          have S11 := S10.ac (show _ = Pt lb [lv] 110 * (Ow 29 1 iE v' (ls ++ [160, 160, 1, 1]) * (RtA sb (some tb) rest ready ts * (ChA_i rb c * (RtA rb now rest' ready' ts' * (Bxl (nbx b c.cb) * R))))) by ac_rfl)
          have el9 := S11.blk
          have S13 := S11.set (cs' := [v'])
          have q := nbx_facts (S11.ac (show _ = Bxl (nbx b c.cb) * (Pt lb [lv] 110 * (Ow 29 1 iE v' (ls ++ [160, 160, 1, 1]) * (RtA sb (some tb) rest ready ts * (ChA_i rb c * (RtA rb now rest' ready' ts' * R))))) by ac_rfl))
          have q' := nbx_facts (S13.ac (show _ = Bxl (nbx b c.cb) * (Pt lb [v'] 110 * (Ow 29 1 iE v' (ls ++ [160, 160, 1, 1]) * (RtA sb (some tb) rest ready ts * (ChA_i rb c * (RtA rb now rest' ready' ts' * R))))) by ac_rfl))
          refine vL_nil ⟨rfl, hK _ _ ?_⟩
          refine vA_only 19 rfl (by kernel_rfl) q (fun K hK => ?_)
          (((apply vL_skip); (case h => ((apply ops_store1); exact norm_eq rfl; ((conv => lhs; whnf) <;> exact rfl); (first | rfl | assumption); assumption; (first | decide | exact of_decide_eq_true rfl | (simp; done))))); apply vL_nil)
          refine ⟨rfl, hK _ _ ?_⟩
          refine vA_done (by kernel_rfl) q' ?_
          skip
          (first | apply ret0 | apply ret0n)
          exact ⟨v', S13.ac (by ac_rfl)⟩
        · refine vL_callF rfl (recv_zero tb b.z (e6.frN (by (assumption))) _ _) rfl ?_
          rintro _ w19 ⟨hf19, rfl⟩
          have g19 : Fr No w w19 := Fr.trans (by (assumption)) hf19
          clear hf19
          have el19 := el.frN g19
          refine vL_nil ⟨rfl, hK _ _ ?_⟩
          refine vA_two 0 17 rfl rfl (by kernel_rfl) ⟨e1.frN (by (assumption)), e2.frN (by (assumption)), e3.frN (by (assumption)), e4.frN (by (assumption)), e5.frN (by (assumption))⟩ (fun K hK => ?_) (fun K hK => ?_)
          · (((apply vL_val); (case h => ((apply opv_loadb1); exact rfl; exact rfl; assumption; exact rfl))); apply vL_nil)
            refine ⟨rfl, hK _ _ ?_⟩
            refine vA_only 17 rfl (by kernel_rfl) ⟨e1.frN (by (assumption)), e2.frN (by (assumption)), e3.frN (by (assumption)), e4.frN (by (assumption)), e5.frN (by (assumption))⟩ (fun K hK => ?_)
            (((apply vL_val); (case h => ((apply opw_buildSl); exact rfl; exact rfl; exact rfl; exact (rfl : _ = some [_, _, _, _])))); apply vL_nil)
            refine ⟨rfl, hK _ _ ?_⟩
            refine vA_only 18 rfl (by kernel_rfl) ⟨e1.frN (by (apply Fr.alloc; assumption)), e2.frN (by (apply Fr.alloc; assumption)), e3.frN (by (apply Fr.alloc; assumption)), e4.frN (by (apply Fr.alloc; assumption)), e5.frN (by (apply Fr.alloc; assumption))⟩ (fun K hK => ?_)
            have S8 := S.frN g19
            have S9 := S8.ac (show _ = Ow 29 1 iE lv ls * (RtA sb (some tb) rest ready ts * (Pt lb [lv] 110 * (ChA_i rb c * (RtA rb now rest' ready' ts' * (Bxl (nbx b c.cb) * R))))) by ac_rfl)
            have o9 := S9.own
            refine vL_append (enc := iE) (xs := ls) (ys := [160, 160, 1, 1]) (T := 29) (sz := 1) (by (((conv => lhs; whnf) <;> exact rfl))) (by (exact norm_eq rfl)) (Own.alloc (o9.1.frN (by (exact Fr.refl _ _)))) (rd_lit (enc := iE) [160, 160, 1, 1] inferInstance rfl (by decide)) rfl (by decide) ?_ ?_ ?_
            · simp [maxLen]; omega
            · simp; omega
            intro v' w99 ho9 hf9 hfr9 hone9 _
            have hfa : Fr (fun j => own lv = some j) w19 w99 := (show Fr _ w19 _ by (apply Fr.alloc; exact Fr.refl _ _)).trans' hf9 (fun i hi => .inl hi)
            have S10 := S9.owTo hfa ho9 hone9 (fun k hk => (hfr9 k hk).imp id (fun h => by rw [alloc_size] at h; exact Nat.le_trans (Nat.le_succ _) h))
            have S11 := S10.ac (show _ = Pt lb [lv] 110 * (Ow 29 1 iE v' (ls ++ [160, 160, 1, 1]) * (RtA sb (some tb) rest ready ts * (ChA_i rb c * (RtA rb now rest' ready' ts' * (Bxl (nbx b c.cb) * R))))) by ac_rfl)
            have el9 := S11.blk
            have S13 := S11.set (cs' := [v'])
            have q := nbx_facts (S11.ac (show _ = Bxl (nbx b c.cb) * (Pt lb [lv] 110 * (Ow 29 1 iE v' (ls ++ [160, 160, 1, 1]) * (RtA sb (some tb) rest ready ts * (ChA_i rb c * (RtA rb now rest' ready' ts' * R))))) by ac_rfl))
            have q' := nbx_facts (S13.ac (show _ = Bxl (nbx b c.cb) * (Pt lb [v'] 110 * (Ow 29 1 iE v' (ls ++ [160, 160, 1, 1]) * (RtA sb (some tb) rest ready ts * (ChA_i rb c * (RtA rb now rest' ready' ts' * R))))) by ac_rfl))
            refine vL_nil ⟨rfl, hK _ _ ?_⟩
            refine vA_only 19 rfl (by kernel_rfl) q (fun K hK => ?_)
            (((apply vL_skip); (case h => ((apply ops_store1); exact norm_eq rfl; ((conv => lhs; whnf) <;> exact rfl); (first | rfl | assumption); assumption; (first | decide | exact of_decide_eq_true rfl | (simp; done))))); apply vL_nil)
            refine ⟨rfl, hK _ _ ?_⟩
            refine vA_done (by kernel_rfl) q' ?_
            skip
            (first | apply ret0 | apply ret0n)
            exact ⟨v', S13.ac (by ac_rfl)⟩
          · (((apply vL_val); (case h => ((apply opw_buildSl); exact rfl; exact rfl; exact rfl; exact (rfl : _ = some [_, _, _, _])))); apply vL_nil)
            refine ⟨rfl, hK _ _ ?_⟩
            refine vA_only 0 rfl (by kernel_rfl) ⟨e1.frN (by (apply Fr.alloc; assumption)), e2.frN (by (apply Fr.alloc; assumption)), e3.frN (by (apply Fr.alloc; assumption)), e4.frN (by (apply Fr.alloc; assumption)), e5.frN (by (apply Fr.alloc; assumption))⟩ (fun K hK => ?_)
            (((apply vL_val); (case h => ((apply opv_loadb1); exact rfl; exact rfl; infer_instance; exact rfl))); apply vL_nil)
            refine ⟨rfl, hK _ _ ?_⟩
            refine vA_only 18 rfl (by kernel_rfl) ⟨e1.frN (by (apply Fr.alloc; assumption)), e2.frN (by (apply Fr.alloc; assumption)), e3.frN (by (apply Fr.alloc; assumption)), e4.frN (by (apply Fr.alloc; assumption)), e5.frN (by (apply Fr.alloc; assumption))⟩ (fun K hK => ?_)
            have S8 := S.frN g19
            have S9 := S8.ac (show _ = Ow 29 1 iE lv ls * (RtA sb (some tb) rest ready ts * (Pt lb [lv] 110 * (ChA_i rb c * (RtA rb now rest' ready' ts' * (Bxl (nbx b c.cb) * R))))) by ac_rfl)
            have o9 := S9.own
            refine vL_append (enc := iE) (xs := ls) (ys := [160, 160, 1, 1]) (T := 29) (sz := 1) (by (((conv => lhs; whnf) <;> exact rfl))) (by (exact norm_eq rfl)) (Own.alloc (o9.1.frN (by (exact Fr.refl _ _)))) (rd_lit (enc := iE) [160, 160, 1, 1] inferInstance rfl (by decide)) rfl (by decide) ?_ ?_ ?_
            · simp [maxLen]; omega
            · simp; omega
            intro v' w99 ho9 hf9 hfr9 hone9 _
            have hfa : Fr (fun j => own lv = some j) w19 w99 := (show Fr _ w19 _ by (apply Fr.alloc; exact Fr.refl _ _)).trans' hf9 (fun i hi => .inl hi)
            have S10 := S9.owTo hfa ho9 hone9 (fun k hk => (hfr9 k hk).imp id (fun h => by rw [alloc_size] at h; exact Nat.le_trans (Nat.le_succ _) h))
            have S11 := S10.ac (show _ = Pt lb [lv] 110 * (Ow 29 1 iE v' (ls ++ [160, 160, 1, 1]) * (RtA sb (some tb) rest ready ts * (ChA_i rb c * (RtA rb now rest' ready' ts' * (Bxl (nbx b c.cb) * R))))) by ac_rfl)
            have el9 := S11.blk
            have S13 := S11.set (cs' := [v'])
            have q := nbx_facts (S11.ac (show _ = Bxl (nbx b c.cb) * (Pt lb [lv] 110 * (Ow 29 1 iE v' (ls ++ [160, 160, 1, 1]) * (RtA sb (some tb) rest ready ts * (ChA_i rb c * (RtA rb now rest' ready' ts' * R))))) by ac_rfl))
            have q' := nbx_facts (S13.ac (show _ = Bxl (nbx b c.cb) * (Pt lb [v'] 110 * (Ow 29 1 iE v' (ls ++ [160, 160, 1, 1]) * (RtA sb (some tb) rest ready ts * (ChA_i rb c * (RtA rb now rest' ready' ts' * R))))) by ac_rfl))
            refine vL_nil ⟨rfl, hK _ _ ?_⟩
            refine vA_only 19 rfl (by kernel_rfl) q (fun K hK => ?_)
            (((apply vL_skip); (case h => ((apply ops_store1); exact norm_eq rfl; ((conv => lhs; whnf) <;> exact rfl); (first | rfl | assumption); assumption; (first | decide | exact of_decide_eq_true rfl | (simp; done))))); apply vL_nil)
            refine ⟨rfl, hK _ _ ?_⟩
            refine vA_done (by kernel_rfl) q' ?_
            skip
            (first | apply ret0 | apply ret0n)
            exact ⟨v', S13.ac (by ac_rfl)⟩
end
end Go.Proofs.YtbaidcnalkdhgaaGreat
set_option maxRecDepth 100000
namespace Go.Proofs.YtbaidcnalkdhgaaGreat
open Go Go.Eng
section
variable {w w0 : World} {F0 : Nat → Prop} {R : Asr}
variable {rb tb lb i : Nat} {rest : Int} {ready : List Int} {ts : List (Nat × TK)} {lv : Value} {ls : List Int} {c : CH} {b : NB}
theorem none5 [Lcl R] (S : At (RtA rb (some tb) rest ready ts * (Pt lb [lv] 110 * (Ow 29 1 iE lv ls * (ChA_i rb c * (Bxl (nbx b c.cb) * R))))) w0 F0 w) (hl : ls.length ≤ 10) :
    Rets Tryz.prog 78 #[pt tb, pt lb, pt b.cbx] w fun _ w' => ∃ lv', At (RtA rb (some tb) rest ready ts * (Pt lb [lv'] 110 * (Ow 29 1 iE lv' (ls ++ [1, 1]) * (ChA_i rb c * (Bxl (nbx b c.cb) * R))))) w0 F0 w' := by
  have S3 := S.ac (show _ = Bxl (nbx b c.cb) * (RtA rb (some tb) rest ready ts * (Pt lb [lv] 110 * (Ow 29 1 iE lv ls * (ChA_i rb c * R)))) by ac_rfl)
  obtain ⟨e1, e2, e3, e4, e5⟩ := nbx_facts S3
  have S4 := S.ac (show _ = ChA_i rb c * (Bxl (nbx b c.cb) * (RtA rb (some tb) rest ready ts * (Pt lb [lv] 110 * (Ow 29 1 iE lv ls * R)))) by ac_rfl)
  have hc := ch_blk_i S4
  unfold chL_i at hc
  have S5 := S.ac (show _ = Pt lb [lv] 110 * (RtA rb (some tb) rest ready ts * (Ow 29 1 iE lv ls * (ChA_i rb c * (Bxl (nbx b c.cb) * R)))) by ac_rfl)
  have el := S5.blk
  refine rets_of Tryz.func78 rfl Tryz.ntmps78 rfl rfl (by kernel_rfl) ?_
  skip
  have g5 := Fr.refl No w
  refine vC_draw' ((fun wf => Blk wf.heap b.cbx [pt c.cb] 28 ∧ Blk wf.heap b.noneb [.pointer none] 28 ∧ Blk wf.heap b.zerob [pt b.z] 28 ∧ Blk wf.heap b.tellb [.func (.func 74) #[] #[]] 36 ∧ Blk wf.heap b.takeb [.func (.func 75) #[] #[]] 39)) (by (first | exact trivial | assumption | infer_instance | (refine ⟨?_, ?_, ?_, ?_, ?_⟩ <;> (first | assumption | infer_instance)) | (skip; done))) ?_
  ((apply (tk 1)); (case hi => exact rfl); (case hf => kernel_rfl); (case hS => (first | exact trivial | assumption | infer_instance | (refine ⟨?_, ?_, ?_, ?_, ?_⟩ <;> (first | assumption | infer_instance)) | (skip; done))); (case hy => (rintro wf ⟨hwa, hwb, hwc, hwd, hwe⟩; (((apply opv_E); exact rfl)))))
  ((apply (tk 2)); (case hi => exact rfl); (case hf => kernel_rfl); (case hS => (first | exact trivial | assumption | infer_instance | (refine ⟨?_, ?_, ?_, ?_, ?_⟩ <;> (first | assumption | infer_instance)) | (skip; done))); (case hy => (rintro wf ⟨hwa, hwb, hwc, hwd, hwe⟩; (((apply opv_loadb1); exact rfl; exact rfl; assumption; exact rfl)))))
  ((apply (tk 4)); (case hi => exact rfl); (case hf => kernel_rfl); (case hS => (first | exact trivial | assumption | infer_instance | (refine ⟨?_, ?_, ?_, ?_, ?_⟩ <;> (first | assumption | infer_instance)) | (skip; done))); (case hy => (rintro wf ⟨hwa, hwb, hwc, hwd, hwe⟩; (((apply opv_E); exact rfl)))))
  ((apply (tk 5)); (case hi => exact rfl); (case hf => kernel_rfl); (case hS => (first | exact trivial | assumption | infer_instance | (refine ⟨?_, ?_, ?_, ?_, ?_⟩ <;> (first | assumption | infer_instance)) | (skip; done))); (case hy => (rintro wf ⟨hwa, hwb, hwc, hwd, hwe⟩; (((apply opv_loadb1); exact rfl; exact rfl; assumption; exact rfl)))))
  refine vA_two 0 3 rfl rfl (by kernel_rfl) ⟨e1.frN (by (apply Fr.drew; exact Fr.refl _ _)), e2.frN (by (apply Fr.drew; exact Fr.refl _ _)), e3.frN (by (apply Fr.drew; exact Fr.refl _ _)), e4.frN (by (apply Fr.drew; exact Fr.refl _ _)), e5.frN (by (apply Fr.drew; exact Fr.refl _ _))⟩ (fun K hK => ?_) (fun K hK => ?_)
  · (((apply vL_val); (case h => ((apply opv_loadb1); exact rfl; exact rfl; assumption; exact rfl))); apply vL_nil)
    refine ⟨rfl, hK _ _ ?_⟩
    refine tkc 3 rfl (by kernel_rfl) ⟨e1.frN (by (apply Fr.drew; exact Fr.refl _ _)), e2.frN (by (apply Fr.drew; exact Fr.refl _ _)), e3.frN (by (apply Fr.drew; exact Fr.refl _ _)), e4.frN (by (apply Fr.drew; exact Fr.refl _ _)), e5.frN (by (apply Fr.drew; exact Fr.refl _ _))⟩ rfl (send_nil tb (hc.frN (by (apply Fr.drew; exact Fr.refl _ _))) 1) rfl ?_
    rintro _ w6 ⟨hf6, rfl⟩
    have g6 : Fr No w w6 := Fr.trans (by (apply Fr.drew; exact Fr.refl _ _)) hf6
    clear hf6
    have el6 := el.frN g6
    refine tkc 6 rfl (by kernel_rfl) ⟨e1.frN (by (assumption)), e2.frN (by (assumption)), e3.frN (by (assumption)), e4.frN (by (assumption)), e5.frN (by (assumption))⟩ rfl (recv_nil tb (hc.frN (by (assumption)))) rfl ?_
    rintro _ w7 ⟨hf7, rfl⟩
    have g7 : Fr No w w7 := Fr.trans (by (assumption)) hf7
    clear hf7
    have el7 := el.frN g7
    refine vA_only 7 rfl (by kernel_rfl) ⟨e1.frN (by (assumption)), e2.frN (by (assumption)), e3.frN (by (assumption)), e4.frN (by (assumption)), e5.frN (by (assumption))⟩ (fun K hK => ?_)
    (((apply vL_val); (case h => ((apply opw_buildSl); exact rfl; exact rfl; exact rfl; exact (rfl : _ = some [_, _])))); apply vL_nil)
    refine ⟨rfl, hK _ _ ?_⟩
    refine vA_only 8 rfl (by kernel_rfl) ⟨e1.frN (by (apply Fr.alloc; assumption)), e2.frN (by (apply Fr.alloc; assumption)), e3.frN (by (apply Fr.alloc; assumption)), e4.frN (by (apply Fr.alloc; assumption)), e5.frN (by (apply Fr.alloc; assumption))⟩ (fun K hK => ?_)
    have S8 := S.frN g7
    have S9 := S8.ac (show _ = Ow 29 1 iE lv ls * (RtA rb (some tb) rest ready ts * (Pt lb [lv] 110 * (ChA_i rb c * (Bxl (nbx b c.cb) * R)))) by ac_rfl)
    have o9 := S9.own
    refine vL_append (enc := iE) (xs := ls) (ys := [1, 1]) (T := 29) (sz := 1) (by (((conv => lhs; whnf) <;> exact rfl))) (by (exact norm_eq rfl)) (Own.alloc (o9.1.frN (by (exact Fr.refl _ _)))) (rd_lit (enc := iE) [1, 1] inferInstance rfl (by decide)) rfl (by decide) ?_ ?_ ?_
    · simp [maxLen]; omega
    · simp; omega
    intro v' w99 ho9 hf9 hfr9 hone9 _
    have hfa : Fr (fun j => own lv = some j) w7 w99 := (show Fr _ w7 _ by (apply Fr.alloc; exact Fr.refl _ _)).trans' hf9 (fun i hi => .inl hi)
    have S10 := S9.owTo hfa ho9 hone9 (fun k hk => (hfr9 k hk).imp id (fun h => by rw [alloc_size] at h; exact Nat.le_trans (Nat.le_succ _) h))
    have S11 := S10.ac (show _ = Pt lb [lv] 110 * (Ow 29 1 iE v' (ls ++ [1, 1]) * (RtA rb (some tb) rest ready ts * (ChA_i rb c * (Bxl (nbx b c.cb) * R)))) by ac_rfl)
    have el9 := S11.blk
    have S13 := S11.set (cs' := [v'])
    have q := nbx_facts (S11.ac (show _ = Bxl (nbx b c.cb) * (Pt lb [lv] 110 * (Ow 29 1 iE v' (ls ++ [1, 1]) * (RtA rb (some tb) rest ready ts * (ChA_i rb c * R)))) by ac_rfl))
    have q' := nbx_facts (S13.ac (show _ = Bxl (nbx b c.cb) * (Pt lb [v'] 110 * (Ow 29 1 iE v' (ls ++ [1, 1]) * (RtA rb (some tb) rest ready ts * (ChA_i rb c * R)))) by ac_rfl))
    refine vL_nil ⟨rfl, hK _ _ ?_⟩
    refine vA_only 9 rfl (by kernel_rfl) q (fun K hK => ?_)
    (((apply vL_skip); (case h => ((apply ops_store1); exact norm_eq rfl; ((conv => lhs; whnf) <;> exact rfl); (first | rfl | assumption); assumption; (first | decide | exact of_decide_eq_true rfl | (simp; done))))); apply vL_nil)
    refine ⟨rfl, hK _ _ ?_⟩
    refine vA_done (by kernel_rfl) q' ?_
    skip
    (first | apply ret0 | apply ret0n)
    exact ⟨v', S13.ac (by ac_rfl)⟩
  · refine vL_callF rfl (send_nil tb (hc.frN (by (apply Fr.drew; exact Fr.refl _ _))) 1) rfl ?_
    rintro _ w8 ⟨hf8, rfl⟩
    have g8 : Fr No w w8 := Fr.trans (by (apply Fr.drew; exact Fr.refl _ _)) hf8
    clear hf8
    have el8 := el.frN g8
    refine vL_nil ⟨rfl, hK _ _ ?_⟩
    refine vA_two 0 6 rfl rfl (by kernel_rfl) ⟨e1.frN (by (assumption)), e2.frN (by (assumption)), e3.frN (by (assumption)), e4.frN (by (assumption)), e5.frN (by (assumption))⟩ (fun K hK => ?_) (fun K hK => ?_)
    · (((apply vL_val); (case h => ((apply opv_loadb1); exact rfl; exact rfl; assumption; exact rfl))); apply vL_nil)
      refine ⟨rfl, hK _ _ ?_⟩
      refine tkc 6 rfl (by kernel_rfl) ⟨e1.frN (by (assumption)), e2.frN (by (assumption)), e3.frN (by (assumption)), e4.frN (by (assumption)), e5.frN (by (assumption))⟩ rfl (recv_nil tb (hc.frN (by (assumption)))) rfl ?_
      rintro _ w9 ⟨hf9, rfl⟩
      have g9 : Fr No w w9 := Fr.trans (by (assumption)) hf9
      clear hf9
      have el9 := el.frN g9
      refine vA_only 7 rfl (by kernel_rfl) ⟨e1.frN (by (assumption)), e2.frN (by (assumption)), e3.frN (by (assumption)), e4.frN (by (assumption)), e5.frN (by (assumption))⟩ (fun K hK => ?_)
      (((apply vL_val); (case h => ((apply opw_buildSl); exact rfl; exact rfl; exact rfl; exact (rfl : _ = some [_, _])))); apply vL_nil)
      refine ⟨rfl, hK _ _ ?_⟩
      refine vA_only 8 rfl (by kernel_rfl) ⟨e1.frN (by (apply Fr.alloc; assumption)), e2.frN (by (apply Fr.alloc; assumption)), e3.frN (by (apply Fr.alloc; assumption)), e4.frN (by (apply Fr.alloc; assumption)), e5.frN (by (apply Fr.alloc; assumption))⟩ (fun K hK => ?_)
      have S8 := S.frN g9
      have S9 := S8.ac (show _ = Ow 29 1 iE lv ls * (RtA rb (some tb) rest ready ts * (Pt lb [lv] 110 * (ChA_i rb c * (Bxl (nbx b c.cb) * R)))) by ac_rfl)
      have o9 := S9.own
      refine vL_append (enc := iE) (xs := ls) (ys := [1, 1]) (T := 29) (sz := 1) (by (((conv => lhs; whnf) <;> exact rfl))) (by (exact norm_eq rfl)) (Own.alloc (o9.1.frN (by (exact Fr.refl _ _)))) (rd_lit (enc := iE) [1, 1] inferInstance rfl (by decide)) rfl (by decide) ?_ ?_ ?_
      · simp [maxLen]; omega
      · simp; omega
      intro v' w99 ho9 hf9 hfr9 hone9 _
      have hfa : Fr (fun j => own lv = some j) w9 w99 := (show Fr _ w9 _ by (apply Fr.alloc; exact Fr.refl _ _)).trans' hf9 (fun i hi => .inl hi)
      have S10 := S9.owTo hfa ho9 hone9 (fun k hk => (hfr9 k hk).imp id (fun h => by rw [alloc_size] at h; exact Nat.le_trans (Nat.le_succ _) h))
      have S11 := S10.ac (show _ = Pt lb [lv] 110 * (Ow 29 1 iE v' (ls ++ [1, 1]) * (RtA rb (some tb) rest ready ts * (ChA_i rb c * (Bxl (nbx b c.cb) * R)))) by ac_rfl)
      have el9 := S11.blk
      have S13 := S11.set (cs' := [v'])
      have q := nbx_facts (S11.ac (show _ = Bxl (nbx b c.cb) * (Pt lb [lv] 110 * (Ow 29 1 iE v' (ls ++ [1, 1]) * (RtA rb (some tb) rest ready ts * (ChA_i rb c * R)))) by ac_rfl))
      have q' := nbx_facts (S13.ac (show _ = Bxl (nbx b c.cb) * (Pt lb [v'] 110 * (Ow 29 1 iE v' (ls ++ [1, 1]) * (RtA rb (some tb) rest ready ts * (ChA_i rb c * R)))) by ac_rfl))
      refine vL_nil ⟨rfl, hK _ _ ?_⟩
      refine vA_only 9 rfl (by kernel_rfl) q (fun K hK => ?_)
      (((apply vL_skip); (case h => ((apply ops_store1); exact norm_eq rfl; ((conv => lhs; whnf) <;> exact rfl); (first | rfl | assumption); assumption; (first | decide | exact of_decide_eq_true rfl | (simp; done))))); apply vL_nil)
      refine ⟨rfl, hK _ _ ?_⟩
      refine vA_done (by kernel_rfl) q' ?_
      skip
      (first | apply ret0 | apply ret0n)
      exact ⟨v', S13.ac (by ac_rfl)⟩
    · refine vL_callF rfl (recv_nil tb (hc.frN (by (assumption)))) rfl ?_
      rintro _ w10 ⟨hf10, rfl⟩
      have g10 : Fr No w w10 := Fr.trans (by (assumption)) hf10
      clear hf10
      have el10 := el.frN g10
      refine vL_nil ⟨rfl, hK _ _ ?_⟩
      refine vA_two 0 7 rfl rfl (by kernel_rfl) ⟨e1.frN (by (assumption)), e2.frN (by (assumption)), e3.frN (by (assumption)), e4.frN (by (assumption)), e5.frN (by (assumption))⟩ (fun K hK => ?_) (fun K hK => ?_)
      · (((apply vL_val); (case h => ((apply opv_loadb1); exact rfl; exact rfl; assumption; exact rfl))); apply vL_nil)
        refine ⟨rfl, hK _ _ ?_⟩
        refine vA_only 7 rfl (by kernel_rfl) ⟨e1.frN (by (assumption)), e2.frN (by (assumption)), e3.frN (by (assumption)), e4.frN (by (assumption)), e5.frN (by (assumption))⟩ (fun K hK => ?_)
        (((apply vL_val); (case h => ((apply opw_buildSl); exact rfl; exact rfl; exact rfl; exact (rfl : _ = some [_, _])))); apply vL_nil)
        refine ⟨rfl, hK _ _ ?_⟩
        refine vA_only 8 rfl (by kernel_rfl) ⟨e1.frN (by (apply Fr.alloc; assumption)), e2.frN (by (apply Fr.alloc; assumption)), e3.frN (by (apply Fr.alloc; assumption)), e4.frN (by (apply Fr.alloc; assumption)), e5.frN (by (apply Fr.alloc; assumption))⟩ (fun K hK => ?_)
        have S8 := S.frN g10
        have S9 := S8.ac (show _ = Ow 29 1 iE lv ls * (RtA rb (some tb) rest ready ts * (Pt lb [lv] 110 * (ChA_i rb c * (Bxl (nbx b c.cb) * R)))) by ac_rfl)
        have o9 := S9.own
        refine vL_append (enc := iE) (xs := ls) (ys := [1, 1]) (T := 29) (sz := 1) (by (((conv => lhs; whnf) <;> exact rfl))) (by (exact norm_eq rfl)) (Own.alloc (o9.1.frN (by (exact Fr.refl _ _)))) (rd_lit (enc := iE) [1, 1] inferInstance rfl (by decide)) rfl (by decide) ?_ ?_ ?_
        · simp [maxLen]; omega
        · simp; omega
        intro v' w99 ho9 hf9 hfr9 hone9 _
        have hfa : Fr (fun j => own lv = some j) w10 w99 := (show Fr _ w10 _ by (apply Fr.alloc; exact Fr.refl _ _)).trans' hf9 (fun i hi => .inl hi)
        have S10 := S9.owTo hfa ho9 hone9 (fun k hk => (hfr9 k hk).imp id (fun h => by rw [alloc_size] at h; exact Nat.le_trans (Nat.le_succ _) h))
        have S11 := S10.ac (show _ = Pt lb [lv] 110 * (Ow 29 1 iE v' (ls ++ [1, 1]) * (RtA rb (some tb) rest ready ts * (ChA_i rb c * (Bxl (nbx b c.cb) * R)))) by ac_rfl)
        have el9 := S11.blk
        have S13 := S11.set (cs' := [v'])
        have q := nbx_facts (S11.ac (show _ = Bxl (nbx b c.cb) * (Pt lb [lv] 110 * (Ow 29 1 iE v' (ls ++ [1, 1]) * (RtA rb (some tb) rest ready ts * (ChA_i rb c * R)))) by ac_rfl))
        have q' := nbx_facts (S13.ac (show _ = Bxl (nbx b c.cb) * (Pt lb [v'] 110 * (Ow 29 1 iE v' (ls ++ [1, 1]) * (RtA rb (some tb) rest ready ts * (ChA_i rb c * R)))) by ac_rfl))
        refine vL_nil ⟨rfl, hK _ _ ?_⟩
        refine vA_only 9 rfl (by kernel_rfl) q (fun K hK => ?_)
        (((apply vL_skip); (case h => ((apply ops_store1); exact norm_eq rfl; ((conv => lhs; whnf) <;> exact rfl); (first | rfl | assumption); assumption; (first | decide | exact of_decide_eq_true rfl | (simp; done))))); apply vL_nil)
        refine ⟨rfl, hK _ _ ?_⟩
        refine vA_done (by kernel_rfl) q' ?_
        skip
        (first | apply ret0 | apply ret0n)
        exact ⟨v', S13.ac (by ac_rfl)⟩
      · (((apply vL_val); (case h => ((apply opw_buildSl); exact rfl; exact rfl; exact rfl; exact (rfl : _ = some [_, _])))); apply vL_nil)
        refine ⟨rfl, hK _ _ ?_⟩
        refine vA_only 0 rfl (by kernel_rfl) ⟨e1.frN (by (apply Fr.alloc; assumption)), e2.frN (by (apply Fr.alloc; assumption)), e3.frN (by (apply Fr.alloc; assumption)), e4.frN (by (apply Fr.alloc; assumption)), e5.frN (by (apply Fr.alloc; assumption))⟩ (fun K hK => ?_)
        (((apply vL_val); (case h => ((apply opv_loadb1); exact rfl; exact rfl; infer_instance; exact rfl))); apply vL_nil)
        refine ⟨rfl, hK _ _ ?_⟩
        refine vA_only 8 rfl (by kernel_rfl) ⟨e1.frN (by (apply Fr.alloc; assumption)), e2.frN (by (apply Fr.alloc; assumption)), e3.frN (by (apply Fr.alloc; assumption)), e4.frN (by (apply Fr.alloc; assumption)), e5.frN (by (apply Fr.alloc; assumption))⟩ (fun K hK => ?_)
        have S8 := S.frN g10
        have S9 := S8.ac (show _ = Ow 29 1 iE lv ls * (RtA rb (some tb) rest ready ts * (Pt lb [lv] 110 * (ChA_i rb c * (Bxl (nbx b c.cb) * R)))) by ac_rfl)
        have o9 := S9.own
        refine vL_append (enc := iE) (xs := ls) (ys := [1, 1]) (T := 29) (sz := 1) (by (((conv => lhs; whnf) <;> exact rfl))) (by (exact norm_eq rfl)) (Own.alloc (o9.1.frN (by (exact Fr.refl _ _)))) (rd_lit (enc := iE) [1, 1] inferInstance rfl (by decide)) rfl (by decide) ?_ ?_ ?_
        · simp [maxLen]; omega
        · simp; omega
        intro v' w99 ho9 hf9 hfr9 hone9 _
        have hfa : Fr (fun j => own lv = some j) w10 w99 := (show Fr _ w10 _ by (apply Fr.alloc; exact Fr.refl _ _)).trans' hf9 (fun i hi => .inl hi)
        have S10 := S9.owTo hfa ho9 hone9 (fun k hk => (hfr9 k hk).imp id (fun h => by rw [alloc_size] at h; exact Nat.le_trans (Nat.le_succ _) h))
        have S11 := S10.ac (show _ = Pt lb [lv] 110 * (Ow 29 1 iE v' (ls ++ [1, 1]) * (RtA rb (some tb) rest ready ts * (ChA_i rb c * (Bxl (nbx b c.cb) * R)))) by ac_rfl)
        have el9 := S11.blk
        have S13 := S11.set (cs' := [v'])
        have q := nbx_facts (S11.ac (show _ = Bxl (nbx b c.cb) * (Pt lb [lv] 110 * (Ow 29 1 iE v' (ls ++ [1, 1]) * (RtA rb (some tb) rest ready ts * (ChA_i rb c * R)))) by ac_rfl))
        have q' := nbx_facts (S13.ac (show _ = Bxl (nbx b c.cb) * (Pt lb [v'] 110 * (Ow 29 1 iE v' (ls ++ [1, 1]) * (RtA rb (some tb) rest ready ts * (ChA_i rb c * R)))) by ac_rfl))
        refine vL_nil ⟨rfl, hK _ _ ?_⟩
        refine vA_only 9 rfl (by kernel_rfl) q (fun K hK => ?_)
        (((apply vL_skip); (case h => ((apply ops_store1); exact norm_eq rfl; ((conv => lhs; whnf) <;> exact rfl); (first | rfl | assumption); assumption; (first | decide | exact of_decide_eq_true rfl | (simp; done))))); apply vL_nil)
        refine ⟨rfl, hK _ _ ?_⟩
        refine vA_done (by kernel_rfl) q' ?_
        skip
        (first | apply ret0 | apply ret0n)
        exact ⟨v', S13.ac (by ac_rfl)⟩
end
end Go.Proofs.YtbaidcnalkdhgaaGreat
set_option maxRecDepth 100000
namespace Go.Proofs.YtbaidcnalkdhgaaGreat
open Go Go.Eng
section
variable {w w0 : World} {F0 : Nat → Prop} {R : Asr}
theorem star_left3 (A B C : Asr) : A * (B * C) = B * (A * C) := by ac_rfl
variable {sb rb tb lb fb tx : Nat} {rest' : Int} {ready' : List Int} {ts' : List (Nat × TK)} {lv : Value} {ls : List Int} {c : CH} {b : NB} {now : Option Nat}
theorem none_step4 [Lcl R] (S : At (RtA sb none 0 [0] [(tb, newT fb tx)] * (Pt fb [.func (.func 77) #[] #[pt lb, pt b.cbx, pt b.tellb, pt b.takeb, pt b.noneb, pt b.zerob]] 37 * (Pt tx [pt tb] 34 * (Pt lb [lv] 110 * (Ow 29 1 iE lv ls * (ChA_i rb c * (RtA rb now rest' ready' ts' * (Bxl (nbx b c.cb) * R)))))))) w0 F0 w) (hl : ls.length ≤ 10) :
    Rets Tryz.prog 24 #[pt sb, .int .u64 0] w fun u w' => ∃ lv', At (RtA sb none 0 [] [(tb, { newT fb tx with next := ⟨.nilFunc, rfl⟩, said := false, over := true })] * (Pt lb [lv'] 110 * (Ow 29 1 iE lv' (ls ++ [160, 160, 1, 1]) * (ChA_i rb c * (RtA rb now rest' ready' ts' * (Bxl (nbx b c.cb) * R)))))) w0 F0 w' := by
  refine (stepA S 0 (by decide) (by decide) (i := 0) (x := (tb, newT fb tx)) rfl rfl (g := 98) [pt fb, pt tx] rfl (σ := Value) (fun lv' => Pt lb [lv'] 110 * (Ow 29 1 iE lv' (ls ++ [160, 160, 1, 1]) * (ChA_i rb c * (RtA rb now rest' ready' ts' * (Bxl (nbx b c.cb) * R))))) (fun _ => 0) (fun _ => []) (fun _ => [(tb, { newT fb tx with next := ⟨.nilFunc, rfl⟩, said := false })]) (fun _ => { newT fb tx with next := ⟨.nilFunc, rfl⟩, said := false }) (fun w1 h => ?_)).mono fun u w' ⟨_, lv', h2, _⟩ => ⟨lv', h2⟩
  have h : At (RtA sb (some tb) 0 [] [(tb, { newT fb tx with next := ⟨.nilFunc, rfl⟩, said := false })] * (Pt fb [.func (.func 77) #[] #[pt lb, pt b.cbx, pt b.tellb, pt b.takeb, pt b.noneb, pt b.zerob]] 37 * (Pt tx [pt tb] 34 * (Pt lb [lv] 110 * (Ow 29 1 iE lv ls * (ChA_i rb c * (RtA rb now rest' ready' ts' * (Bxl (nbx b c.cb) * R)))))))) w0 F0 w1 := h
  have hfb := (h.ac (star_left3 _ _ _)).blk
  have htx := (h.ac (show _ = Pt tx [pt tb] 34 * (Pt fb [.func (.func 77) #[] #[pt lb, pt b.cbx, pt b.tellb, pt b.takeb, pt b.noneb, pt b.zerob]] 37 * (RtA sb (some tb) 0 [] [(tb, { newT fb tx with next := ⟨.nilFunc, rfl⟩, said := false })] * (Pt lb [lv] 110 * (Ow 29 1 iE lv ls * (ChA_i rb c * (RtA rb now rest' ready' ts' * (Bxl (nbx b c.cb) * R))))))) by ac_rfl)).blk
  have h2 := (h.ac (show _ = Pt fb [.func (.func 77) #[] #[pt lb, pt b.cbx, pt b.tellb, pt b.takeb, pt b.noneb, pt b.zerob]] 37 * (Pt tx [pt tb] 34 * (RtA sb (some tb) 0 [] [(tb, { newT fb tx with next := ⟨.nilFunc, rfl⟩, said := false })] * (Pt lb [lv] 110 * (Ow 29 1 iE lv ls * (ChA_i rb c * (RtA rb now rest' ready' ts' * (Bxl (nbx b c.cb) * R))))))) by ac_rfl)).drop.drop
  exact spawn1_calls (cap := [pt lb, pt b.cbx, pt b.tellb, pt b.takeb, pt b.noneb, pt b.zerob]) hfb htx ((none4 h2 (i := 0) rfl hl).mono fun _ w2 ⟨lv', h3⟩ => ⟨lv', h3, rfl⟩)
theorem none_step5 [Lcl R] (S : At (RtA rb none 0 [0] [(tb, newT fb tx)] * (Pt fb [.func (.func 78) #[] #[pt lb, pt b.cbx]] 37 * (Pt tx [pt tb] 34 * (Pt lb [lv] 110 * (Ow 29 1 iE lv ls * (ChA_i rb c * (Bxl (nbx b c.cb) * R))))))) w0 F0 w) (hl : ls.length ≤ 10) :
    Rets Tryz.prog 24 #[pt rb, .int .u64 0] w fun u w' => ∃ lv', At (RtA rb none 0 [] [(tb, { newT fb tx with next := ⟨.nilFunc, rfl⟩, said := false, over := true })] * (Pt lb [lv'] 110 * (Ow 29 1 iE lv' (ls ++ [1, 1]) * (ChA_i rb c * (Bxl (nbx b c.cb) * R))))) w0 F0 w' := by
  refine (stepA S 0 (by decide) (by decide) (i := 0) (x := (tb, newT fb tx)) rfl rfl (g := 98) [pt fb, pt tx] rfl (σ := Value) (fun lv' => Pt lb [lv'] 110 * (Ow 29 1 iE lv' (ls ++ [1, 1]) * (ChA_i rb c * (Bxl (nbx b c.cb) * R)))) (fun _ => 0) (fun _ => []) (fun _ => [(tb, { newT fb tx with next := ⟨.nilFunc, rfl⟩, said := false })]) (fun _ => { newT fb tx with next := ⟨.nilFunc, rfl⟩, said := false }) (fun w1 h => ?_)).mono fun u w' ⟨_, lv', h2, _⟩ => ⟨lv', h2⟩
  have h : At (RtA rb (some tb) 0 [] [(tb, { newT fb tx with next := ⟨.nilFunc, rfl⟩, said := false })] * (Pt fb [.func (.func 78) #[] #[pt lb, pt b.cbx]] 37 * (Pt tx [pt tb] 34 * (Pt lb [lv] 110 * (Ow 29 1 iE lv ls * (ChA_i rb c * (Bxl (nbx b c.cb) * R))))))) w0 F0 w1 := h
  have h1 := h.ac (star_left3 _ _ _)
  have hfb := h1.blk
  have h2 := h1.drop
  have h3 := h2.ac (star_left3 _ _ _)
  have htx := h3.blk
  have h4 := h3.drop
  exact spawn1_calls (cap := [pt lb, pt b.cbx]) hfb htx ((none5 h4 hl).mono fun _ w2 ⟨lv', h3⟩ => ⟨lv', h3, rfl⟩)
end
end Go.Proofs.YtbaidcnalkdhgaaGreat
set_option maxRecDepth 100000
namespace Go.Proofs.YtbaidcnalkdhgaaGreat
open Go Go.Eng
section
variable {w w0 : World} {F0 : Nat → Prop} {R : Asr} {rb : Nat} {c : CH} {ts : List TKT}
theorem cleaned_nil {c : CH} (h1 : c.snd = []) (h2 : c.rcv = []) (ts : List TKT) : c.cleaned ts = c := by
  unfold CH.cleaned
  rw [h1, h2]
  cases c
  simp at h1 h2
  subst h1; subst h2
  rfl
def closeNil (rb : Nat) (c : CH) (ts : List TKT) (R : Asr) [Lcl R] (h1 : c.snd = []) (h2 : c.rcv = []) : Clo_i rb c.cb (ChA_i rb { c with closed := true } * (TksA ts * R)) Unit where
  P := fun _ => True
  ch := fun _ => { c with closed := true }
  tk := fun _ => ts
  rs := fun _ => R
  μ := fun _ => 0
  loc := fun _ => inferInstance
  mem := fun _ _ => ⟨by show ∀ x ∈ c.snd, _; rw [h1]; simp, by show ∀ x ∈ c.rcv, _; rw [h2]; simp, rfl⟩
  rcv := fun _ x r _ h => by
    rw [cleaned_nil (c := { c with closed := true }) h1 h2] at h
    have h : c.rcv = x :: r := h
    rw [h2] at h; cases h
  snd := fun _ x r _ _ h => by
    rw [cleaned_nil (c := { c with closed := true }) h1 h2] at h
    have h : c.snd = x :: r := h
    rw [h1] at h; cases h
  fin := fun _ _ _ _ h F hA => by
    rw [cleaned_nil (c := { c with closed := true }) h1 h2] at hA
    exact hA
theorem close_nil [Lcl R] (S : At (ChA_i rb c * (TksA ts * R)) w0 F0 w) (h1 : c.snd = []) (h2 : c.rcv = []) (hcl : c.closed = false) :
    Rets Tryz.prog 32 #[pt c.cb] w fun u w' => u = .int .i64 0 ∧ At (ChA_i rb { c with closed := true } * (TksA ts * R)) w0 F0 w' := by
  have sp := ch_close_i (R := R) (ts := ts) (closeNil rb c ts R h1 h2) () trivial rfl rfl rfl hcl
  have sp2 := sp.at (S.ac (star_emp _).symm)
  exact sp2.mono fun u w' h => by
    obtain ⟨h3, h4⟩ := (h.ac (star_assoc _ _ _)).pure
    exact ⟨h3, h4.ac (by rw [star_emp])⟩
end
end Go.Proofs.YtbaidcnalkdhgaaGreat
set_option maxRecDepth 100000
namespace Go.Proofs.YtbaidcnalkdhgaaGreat
open Go Go.Eng
section
variable {w : World}
theorem setRow_sz' (w : World) (b : Nat) (cs : Array Value) : (w.setRow b cs).heap.size = w.heap.size := by
  unfold World.setRow
  simp
theorem star_left (A B C : Asr) : A * (B * C) = B * (A * C) := by ac_rfl
theorem c_made {b s : Nat} {l t r : Value} (hb : Blk w.heap b [pt s, l, t, r] 108) : Rets Tryz.prog 83 #[pt b] w fun u w' => w = w' ∧ u = .bool true := by
  have h : Rets Tryz.prog 97 #[pt b] w fun u w' => w = w' ∧ u = .bool true := by
    refine rets_of Tryz.func97 rfl Tryz.ntmps97 rfl rfl (by kernel_rfl) ?_
    (apply vC_seq; apply vC_region; ((apply vL_val); (case h => ((apply opv_E); exact rfl))); apply vL_nil; apply seqP_normal; apply vC_seq; apply vC_region; (iterate 15 (first | ((with_reducible apply vL_val); (case h => ((with_reducible apply opv_E); exact rfl))) | ((with_reducible apply vL_val); (case h => ((with_reducible apply opv_loadb1); exact rfl; exact rfl; assumption; exact rfl))) | ((with_reducible apply vL_val); (case h => ((with_reducible apply opv_fieldAddr); exact rfl))) | ((with_reducible apply vL_val); (case h => ((with_reducible apply opv_neq_pnil); exact rfl; exact rfl; (simp; done)))) | ((with_reducible apply vL_wanted); exact rfl))); apply vL_nil; apply seqP_normal; apply vC_ret)
    (apply ret1; (case h1 => (exact norm_eq rfl)))
    exact ⟨rfl, rfl⟩
  refine rets_of Tryz.func83 rfl Tryz.ntmps83 rfl rfl (by kernel_rfl) ?_
  (apply vC_seq; apply vC_region; ((apply vL_val); (case h => ((apply opv_E); exact rfl))); apply vL_nil; apply seqP_normal; apply vC_seq; apply vC_region; ((apply vL_val); (case h => ((apply opv_E); exact rfl))))
  refine vL_callF rfl (h) rfl ?_
  rintro _ _ ⟨rfl, rfl⟩
  (((apply vL_val); (case h => ((apply opv_E); exact rfl))); apply vL_nil; apply seqP_normal; apply vC_ret)
  (apply ret1; (case h1 => (exact norm_eq rfl)))
  exact ⟨rfl, rfl⟩
theorem b_make (n : Int) (hn : n < 0 ∨ 64 < n) {b s : Nat} {l t r : Value} (hb : Blk w.heap b [pt s, l, t, r] 108) : Rets Tryz.prog 15 #[pt b, .int .i64 n] w fun u w' => w = w' ∧ u = .tuple #[.pointer none, .int .i64 2] := by
  refine rets_of Tryz.func15 rfl Tryz.ntmps15 rfl rfl (by kernel_rfl) ?_
  (apply vC_seq; apply vC_region; (iterate 2 (((apply vL_val); (case h => ((apply opv_E); exact rfl))))); apply vL_nil; apply seqP_normal; apply vC_seq; apply vC_block; apply vC_seq; apply vC_region; ((apply vL_val); (case h => ((apply opv_E); exact rfl))))
  refine vL_callF rfl (c_made hb) rfl ?_
  rintro _ _ ⟨rfl, rfl⟩
  rcases hn with hn | hn
  · (((apply vL_val); (case h => ((apply opv_not); exact rfl))); ((apply vL_val); (case h => ((apply opv_E); exact rfl))); apply vL_nil; apply seqP_normal; ((apply vC_cond_false); exact rfl); (iterate 18 (first | with_reducible apply vC_seq | with_reducible apply vC_region | with_reducible apply seqP_normal | ((with_reducible apply vC_cond_true); exact rfl) | ((with_reducible apply vL_val); (case h => ((with_reducible apply opv_E); exact rfl))) | with_reducible apply vL_nil | ((with_reducible apply vL_unwanted'); exact rfl; exact rfl) | (refine vL_or rfl rfl (fun h => by omega) (fun _ => ?_)))); apply vC_ret; apply blockP_ret; apply seqP_ret)
    (apply ret2; (case h1 => (exact norm_eq rfl)); (case h2 => (exact norm_eq rfl)))
    exact ⟨rfl, rfl⟩
  · have hn' : ¬ n < 0 := by omega
    (((apply vL_val); (case h => ((apply opv_not); exact rfl))); ((apply vL_val); (case h => ((apply opv_E); exact rfl))); apply vL_nil; apply seqP_normal; ((apply vC_cond_false); exact rfl); (iterate 20 (first | with_reducible apply vC_seq | with_reducible apply vC_region | with_reducible apply seqP_normal | ((with_reducible apply vL_val); (case h => ((with_reducible apply opv_E); exact rfl))) | with_reducible apply vL_nil | ((with_reducible apply vL_wanted); exact rfl) | (refine vL_or rfl rfl (fun _ => ?_) (fun h => by omega)) | (refine vC_cond_dec rfl (fun _ => ?_) (fun h => by omega)))); apply vC_ret; apply blockP_ret; apply seqP_ret)
    (apply ret2; (case h1 => (exact norm_eq rfl)); (case h2 => (exact norm_eq rfl)))
    exact ⟨rfl, rfl⟩
theorem none_begin {w0 w : World} {lb b9 b11 bz b12 b13 b14 k cb b0 q0 r0 rb sb : Nat} {size : Int} (S : At (Ow 29 1 iE (.slice none 0 0) [] * (Pt lb [.slice none 0 0] 110 * (TksA ([] ++ [⟨k, ⟨.func (.func 76) #[] #[], rfl⟩, false⟩]) * (Pt b14 [takeF] 39 * (Pt b13 [tellF] 36 * (Pt b12 [pt bz] 28 * (Pt bz zCh 148 * (Pt b11 [.pointer none] 28 * (Pt b9 [pt cb] 28 * (ChA_i rb ⟨cb, b0, q0, r0, size, [], [], [], false⟩ * (RtA rb none 0 [] [] * (RtA sb none 0 [] [] * Emp)))))))))))) w0 No w) :
    At (RtA sb none 0 [] [] * (Pt lb [.slice none 0 0] 110 * (Ow 29 1 iE (.slice none 0 0) [] * (ChA_i rb ⟨cb, b0, q0, r0, size, [], [], [], false⟩ * (RtA rb none 0 [] [] * (Bxl (nbx ⟨b9, b13, b14, b11, b12, bz⟩ cb) * TksA [⟨k, ⟨.func (.func 76) #[] #[], rfl⟩, false⟩])))))) w0 No w := S.ac (by
  unfold nbx
  rw [bxl_cons, bxl_cons, bxl_cons, bxl_cons, bxl_cons, bxl_cons, show Bxl [] = Emp from rfl, star_emp, star_emp]
  dsimp only [List.nil_append]
  ac_rfl)
theorem none16 (size : Int) : Rets Tryz.prog 12 #[.int .i64 size] w fun u w' => u = .bool true ∧ Fr No w w' := by
  refine rets_of Tryz.func12 rfl Tryz.ntmps12 rfl rfl (by kernel_rfl) ?_
  (apply vC_seq; apply vC_region; ((apply vL_val); (case h => ((apply opv_E); exact rfl))); apply vL_nil; apply seqP_normal; apply vC_seq; apply vC_region)
  refine vL_callF rfl (r_newA (At.of_emp (Fr.refl No w))) rfl ?_
  rintro _ w1 ⟨rb, rfl, S1⟩
  skip
  refine vL_callF rfl (r_newA S1) rfl ?_
  rintro _ w2 ⟨sb, rfl, S2⟩
  ((iterate 2 (((apply vL_val); (case h => ((apply opv_E); exact rfl))))); apply vL_nil; apply seqP_normal; apply vC_seq; apply vC_region)
  refine vL_callF rfl (n_make 0) rfl ?_
  rintro _ _ ⟨rfl, rfl⟩
  ((iterate 5 (((apply vL_val); (case h => ((apply opv_E); exact rfl))))); apply vL_nil; apply seqP_normal; (iterate 2 (apply vC_seq)); apply vC_region; ((apply vL_val); (case h => ((apply opv_buildS); exact rfl; exact (rfl : _ = some [_, _, _, _])))); ((apply vL_val); (case h => ((apply opw_boxn); exact rfl))))
  refine vL_callF rfl (z_make (T := 0) 0 inferInstance) rfl ?_
  rintro _ _ ⟨rfl, rfl⟩
  have S3 := (S2.alloc (cs := [.pointer none, .slice none 0 0, .pointer none, .int .u64 0]) (T := 108)).drop
  ((iterate 20 (first | with_reducible apply vC_seq | with_reducible apply vC_region | with_reducible apply seqP_normal | with_reducible apply vC_skip | ((with_reducible apply vC_cond_false); exact rfl) | ((with_reducible apply vL_val); (case h => ((with_reducible apply opv_E); exact rfl))) | with_reducible apply vL_nil)))
  refine vL_gen (fun w' => At (RtA sb none 0 [] [] * (RtA rb none 0 [] [] * Emp)) w No w') S3 ?_
  clear S3 S2 S1
  intro w3 S3
  have S4 := S3.ac (show _ = RtA rb none 0 [] [] * (RtA sb none 0 [] [] * Emp) by ac_rfl)
  by_cases hs : 0 ≤ size ∧ size ≤ 64
  · obtain ⟨hs0, hs1⟩ := hs
    refine vL_callF rfl (ch_make_i S4 size ⟨hs0, hs1⟩) rfl ?_
    rintro _ w4 ⟨cb, b0, q0, r0, rfl, S5⟩
    have hd1 : decide (size ≤ 64) = true := decide_eq_true hs1
    have hd2 : decide (0 ≤ size) = true := decide_eq_true hs0
    ((iterate 3 (((apply vL_val); (case h => ((apply opv_E); exact rfl))))); ((apply vL_val); (case h => (apply opw_alloc))); ((apply vL_skip); (case h => ((apply ops_store1); exact norm_eq rfl; exact norm_eq rfl; (first | rfl | assumption); infer_instance; (first | decide | exact of_decide_eq_true rfl | (simp; done))))); ((apply vL_val); (case h => ((apply opv_E); exact rfl))); apply vL_nil; apply seqP_normal; (iterate 2 (apply vC_seq)); apply vC_region; (iterate 23 (first | ((with_reducible apply vL_val); (case h => ((with_reducible apply opv_E); exact rfl))) | ((with_reducible apply vL_val); (case h => ((with_reducible apply opv_neq_bool); exact rfl; exact rfl))) | ((with_reducible apply vL_wanted); exact rfl) | (refine vL_and rfl rfl (fun _ => ?_) (fun h => by omega)))))
    rw [hd1]
    ((iterate 11 (first | ((with_reducible apply vL_val); (case h => ((with_reducible apply opv_E); exact rfl))) | ((with_reducible apply vL_wanted); exact rfl) | ((with_reducible apply vL_unwanted'); exact rfl; exact rfl))); apply vL_nil; apply seqP_normal; ((apply vC_cond_false); exact rfl); apply vC_skip; apply seqP_normal; (iterate 2 (apply vC_seq)); apply vC_region; (iterate 2 (((apply vL_val); (case h => ((apply opv_E); exact rfl))))); apply vL_nil; apply seqP_normal; ((apply vC_cond_false); exact rfl); apply vC_skip; (iterate 19 (first | with_reducible apply vC_seq | with_reducible apply vC_region | with_reducible apply seqP_normal | ((with_reducible apply vL_val); (case h => ((with_reducible apply opv_buildS); exact rfl; exact (rfl : _ = some [_, _, _, _, _, _])))) | with_reducible apply vL_nil | ((with_reducible apply vL_val); (case h => ((with_reducible apply opw_boxn); exact rfl))) | ((with_reducible apply vL_val); (case h => (with_reducible apply opw_alloc))) | ((with_reducible apply vL_skip); (case h => ((with_reducible apply ops_store1); exact norm_eq rfl; exact norm_eq rfl; (first | rfl | assumption); infer_instance; (first | decide | exact of_decide_eq_true rfl | (simp; done))))))))
    have T1 := (S5.alloc (cs := [.pointer none]) (T := 28)).set (cs' := [pt cb])
    have T2 := T1.alloc (cs := [.pointer none]) (T := 28)
    have T3 := T2.alloc (cs := zCh) (T := 148)
    have T4 := (T3.alloc (cs := [.pointer none]) (T := 28)).set (cs' := [pt (w4.heap.size + 1 + 1)])
    have T5 := T4.alloc (cs := [.nilFunc]) (T := 36)
    have T6 := T5.alloc (cs := [.nilFunc]) (T := 39)
    have T7 := (T6.ac (star_left _ _ _)).set (cs' := [tellF])
    clear T1 T2 T3 T4 T5 T6
    simp only [alloc_size, setRow_sz'] at T7 ⊢
    refine vL_gen (fun w' => At _ w No w') T7 ?_
    clear T7 S5 S4 S3
    intro w5 S6
    generalize w4.heap.size + 1 + 1 + 1 + 1 + 1 = b14 at S6 ⊢
    generalize w4.heap.size + 1 + 1 + 1 + 1 = b13 at S6 ⊢
    generalize w4.heap.size + 1 + 1 + 1 = b12 at S6 ⊢
    generalize w4.heap.size + 1 + 1 = bz at S6 ⊢
    generalize w4.heap.size + 1 = b11 at S6 ⊢
    generalize w4.heap.size = b9 at S6 ⊢
    have S7 := S6.ac (star_left _ _ _)
    have h14 := S7.blk
    (((apply vL_skip); (case h => ((apply ops_store1); exact norm_eq rfl; exact norm_eq rfl; (first | rfl | assumption); assumption; (first | decide | exact of_decide_eq_true rfl | (simp; done))))); apply vL_nil; apply seqP_normal; apply vC_seq; apply vC_region)
    have S8 := S7.set (cs' := [takeF])
    refine vL_callF rfl (tk_new (ts := []) (S8.ac (show _ = TksA [] * _ from (emp_star _).symm)) 76 #[]) rfl ?_
    rintro _ w6 ⟨k, rfl, S9⟩
    clear S8 S7 S6 h14
    (((apply vL_val); (case h => ((apply opv_E); exact rfl))); apply vL_nil; apply seqP_normal; apply vC_seq; apply vC_region; ((apply vL_val); (case h => (apply opw_alloc))); apply vL_nil; apply seqP_normal; apply vC_seq; apply vC_region; ((apply vL_val); (case h => ((apply opv_E); exact rfl))); ((apply vL_val); (case h => ((apply opv_makeFunc); exact rfl))))
    have S10 := none_begin (At.nil 29 1 iE (S9.alloc (cs := [.slice none 0 0]) (T := 110)))
    refine vL_gen (fun w' => At _ w No w') S10 ?_
    clear S10 S9
    intro w7 S10
    generalize w6.heap.size = lb at S10 ⊢
    obtain ⟨c, hcd, hcb⟩ : ∃ c : CH, c = ⟨cb, b0, q0, r0, size, [], [], [], false⟩ ∧ cb = c.cb := ⟨_, rfl, rfl⟩
    rw [← hcd, hcb] at S10
    rw [hcb]
    have hcs : c.snd = [] ∧ c.rcv = [] ∧ c.buf = [] ∧ c.closed = false := by rw [hcd]; exact ⟨rfl, rfl, rfl, rfl⟩
    clear hcd hcb
    obtain ⟨b, rfl, rfl, rfl, rfl, rfl, rfl⟩ : ∃ b : NB, b9 = b.cbx ∧ b13 = b.tellb ∧ b14 = b.takeb ∧ b11 = b.noneb ∧ b12 = b.zerob ∧ bz = b.z := ⟨⟨b9, b13, b14, b11, b12, bz⟩, rfl, rfl, rfl, rfl, rfl, rfl⟩
    generalize htk : [(⟨k, ⟨.func (.func 76) #[] #[], rfl⟩, false⟩ : TKT)] = tks at S10
    have S11 : At (RtA sb none 0 [] [] * (Pt lb [.slice none 0 0] 110 * (Ow 29 1 iE (.slice none 0 0) [] * (ChA_i rb c * (RtA rb none 0 [] [] * (Bxl (nbx b c.cb) * TksA tks)))))) w No w7 := S10
    clear S10
    refine vL_callF rfl (spawnA S11 77 #[pt lb, pt b.cbx, pt b.tellb, pt b.takeb, pt b.noneb, pt b.zerob] (by decide) (by decide) (by decide)) rfl ?_
    rintro _ w8 ⟨tb, fb, tx, rfl, S12⟩
    clear S11
    ((iterate 5 (((apply vL_val); (case h => ((apply opv_E); exact rfl))))); apply vL_nil; apply seqP_normal; apply vC_seq; apply vC_region; ((apply vL_val); (case h => ((apply opv_E); exact rfl))))
    refine vL_callF rfl (none_step4 (ls := []) (b := b) (c := c) S12 (by decide)) rfl ?_
    rintro _ w9 ⟨lv1, S13⟩
    clear S12
    generalize ({ newT fb tx with next := ⟨.nilFunc, rfl⟩, said := false, over := true } : TK) = x1 at S13
    (apply vL_nil; apply seqP_normal; apply vC_seq; apply vC_region; ((apply vL_val); (case h => ((apply opv_E); exact rfl))); ((apply vL_val); (case h => ((apply opv_makeFunc); exact rfl))))
    refine vL_callF rfl (spawnA (S13.ac (show _ = RtA rb none 0 [] [] * (Pt lb [lv1] 110 * (Ow 29 1 iE lv1 ([] ++ [160, 160, 1, 1]) * (ChA_i rb c * (Bxl (nbx b c.cb) * (RtA sb none 0 [] [(tb, x1)] * TksA tks))))) by ac_rfl)) 78 #[pt lb, pt b.cbx] (by decide) (by decide) (by decide)) rfl ?_
    rintro _ w10 ⟨tb2, fb2, tx2, rfl, S14⟩
    clear S13
    ((iterate 5 (((apply vL_val); (case h => ((apply opv_E); exact rfl))))); apply vL_nil; apply seqP_normal; apply vC_seq; apply vC_region; ((apply vL_val); (case h => ((apply opv_E); exact rfl))))
    refine vL_callF rfl (none_step5 (ls := [] ++ [160, 160, 1, 1]) (b := b) (c := c) S14 (by decide)) rfl ?_
    rintro _ w11 ⟨lv2, S15⟩
    clear S14
    (apply vL_nil; apply seqP_normal; apply vC_seq; apply vC_region; ((apply vL_val); (case h => ((apply opw_buildSl); exact rfl; exact rfl; exact rfl; exact (rfl : _ = some [_, _, _, _, _, _])))); ((apply vL_val); (case h => ((apply opv_E); exact rfl))); apply vL_nil; apply seqP_normal; (iterate 2 (apply vC_seq)); apply vC_region)
    generalize ({ newT fb2 tx2 with next := ⟨.nilFunc, rfl⟩, said := false, over := true } : TK) = x2 at S15
    have S16 : At (Pt w11.heap.size [.int .i64 160, .int .i64 160, .int .i64 1, .int .i64 1, .int .i64 1, .int .i64 1] 29 * (RtA rb none 0 [] [(tb2, x2)] * (Pt lb [lv2] 110 * (Ow 29 1 iE lv2 [160, 160, 1, 1, 1, 1] * (ChA_i rb c * (Bxl (nbx b c.cb) * (RtA sb none 0 [] [(tb, x1)] * TksA tks))))))) w No _ := S15.alloc
    refine vL_gen (fun w' => At _ w No w') S16 ?_
    clear S16 S15
    intro w12 S17
    generalize w11.heap.size = wb at S17 ⊢
    have ewb := S17.blk
    have ew := rd_lit (enc := iE) [160, 160, 1, 1, 1, 1] ewb rfl (by decide)
    have el := (S17.ac (show _ = Pt lb [lv2] 110 * (Pt wb [.int .i64 160, .int .i64 160, .int .i64 1, .int .i64 1, .int .i64 1, .int .i64 1] 29 * (RtA rb none 0 [] [(tb2, x2)] * (Ow 29 1 iE lv2 [160, 160, 1, 1, 1, 1] * (ChA_i rb c * (Bxl (nbx b c.cb) * (RtA sb none 0 [] [(tb, x1)] * TksA tks)))))) by ac_rfl)).blk
    have og := (S17.ac (show _ = Ow 29 1 iE lv2 [160, 160, 1, 1, 1, 1] * (Pt lb [lv2] 110 * (Pt wb [.int .i64 160, .int .i64 160, .int .i64 1, .int .i64 1, .int .i64 1, .int .i64 1] 29 * (RtA rb none 0 [] [(tb2, x2)] * (ChA_i rb c * (Bxl (nbx b c.cb) * (RtA sb none 0 [] [(tb, x1)] * TksA tks)))))) by ac_rfl)).own.1.rd
    obtain ⟨ga, gc, rfl⟩ := og.len
    have hl6 : ([160, 160, 1, 1, 1, 1] : List Int).length = 6 := rfl
    rw [hl6] at el og ew
    (((apply vL_val); (case h => ((apply opv_loadb1); exact rfl; exact rfl; assumption; exact rfl))); (iterate 16 (first | ((with_reducible apply vL_val); (case h => ((with_reducible apply opv_E); exact rfl))) | ((with_reducible apply vL_val); (case h => ((with_reducible apply opv_lenc); exact rfl))) | ((with_reducible apply vL_val); (case h => ((with_reducible apply opv_eql_pnil); exact rfl; exact rfl; (simp; done)))) | ((with_reducible apply vL_wanted); exact rfl))); apply vL_nil; apply seqP_normal; ((apply vC_cond_false); exact rfl); apply vC_skip; apply seqP_normal; (iterate 2 (apply vC_seq)); apply vC_region; ((apply vL_val); (case h => ((apply opv_E); exact rfl))); ((apply vL_val); (case h => ((apply opv_lenc); exact rfl))); ((apply vL_val); (case h => ((apply opv_E); exact rfl))); apply vL_nil; apply seqP_normal; apply vC_block)
    (apply vC_loop1 2721926628368561478738770907689079799812 118 (fun u w' => ∃ k : Nat, u = .int .i64 (k : Int) ∧ k ≤ 6 ∧ Fr No w12 w') (fun u _ => 6 - (RowKit.intOf u).toNat)); (case h1 => (exact norm_eq rfl))
    case h0 => exact ⟨0, rfl, by decide, Fr.refl _ _⟩
    case round =>
    rintro junk1 _ w13 ⟨j, rfl, hj, hf13⟩
    replace ew := ew.frN hf13
    replace el := el.frN hf13
    replace og := og.frN hf13
    replace S17 := S17.frN hf13
    clear ewb
    by_cases hlt : j < 6
    · obtain ⟨v, hv⟩ : ∃ v, ([160, 160, 1, 1, 1, 1] : List Int)[j]? = some v := ⟨_, List.getElem?_eq_getElem hlt⟩
      have hv' : ([160, 160, 1, 1, 1, 1] : List Int)[((j : Nat) : Int).toNat]? = some v := by rw [Int.toNat_natCast]; exact hv
      (apply vC_seq; apply vC_region; ((apply vL_val); (case h => ((apply opv_E); exact rfl))); apply vL_nil; apply seqP_normal; apply vC_seq; (refine vC_cond_dec rfl (fun _ => ?_) (fun h => by omega)); apply vC_skip; apply seqP_normal; apply vC_seq; apply vC_block; apply vC_seq; apply vC_region; (iterate 2 (((apply vL_val); (case h => ((apply opv_E); exact rfl))))); apply vL_nil; apply seqP_normal; apply vC_seq)
      (with_reducible apply vC_drawQ); (((apply vQ_op); (case hi => exact rfl); (case hf => kernel_rfl); (case hS => exact Dr.refl _); (case hy => (intro j; ((apply opv_loadb1); exact rfl; exact rfl; assumption; exact rfl)))); (iterate 8 (first | ((with_reducible apply vQ_op); (case hi => exact rfl); (case hf => kernel_rfl); (case hS => exact Dr.refl _); (case hy => (intro j; ((with_reducible apply opv_E); exact rfl)))) | ((with_reducible apply vQ_op); (case hi => exact rfl); (case hf => kernel_rfl); (case hS => exact Dr.refl _); (case hy => (intro j; ((with_reducible apply opv_indexAddr); exact norm_eq rfl; exact rfl; assumption; (first | omega | (simp only [List.length_map]; omega)); (first | omega | (simp only [List.length_map]; omega)))))) | ((with_reducible apply vQ_op); (case hi => exact rfl); (case hf => kernel_rfl); (case hS => exact Dr.refl _); (case hy => (intro j; ((with_reducible apply opv_ld_el); exact rfl; exact rfl; assumption; assumption; exact rfl)))))); ((apply vQ_end); (case hi => exact rfl); (case hf => kernel_rfl); (case hS => exact Dr.refl _)))
      (apply seqP_normal; (refine vC_cond_dec rfl (fun h => by omega) (fun _ => ?_)); apply vC_skip; apply blockP_normal; apply seqP_normal; apply vC_region; ((apply vL_val); (case h => ((apply opv_add); exact rfl; exact rfl; (first | omega | (simp only [List.length_map]; omega))))); ((apply vL_val); (case h => ((apply opv_E); exact rfl))); apply vL_nil; apply loopP_normal)
      (with_reducible apply end1); (case hs => ((iterate 14 (((refine same_updO ?_ ?_); rotate_left; exact rfl))); ((refine same_upd ?_ ?_); rotate_left; exact rfl); (exact same_mask _ _ _))); (case h1 => (exact norm_eq rfl))
      · exact ⟨j + 1, rfl, by omega, by first | exact hf13.drew | exact hf13.drewN _ | skip⟩
      · simp [RowKit.intOf]; omega
    · have hj6 : j = 6 := by omega
      subst hj6
      have S18 := S17.ac (show _ = Bxl (nbx b c.cb) * (Pt wb [.int .i64 160, .int .i64 160, .int .i64 1, .int .i64 1, .int .i64 1, .int .i64 1] 29 * (RtA rb none 0 [] [(tb2, x2)] * (Pt lb [.slice ga 6 gc] 110 * (Ow 29 1 iE (.slice ga 6 gc) [160, 160, 1, 1, 1, 1] * (ChA_i rb c * (RtA sb none 0 [] [(tb, x1)] * TksA tks)))))) by ac_rfl)
      obtain ⟨e1, e2, e3, e4, e5⟩ := nbx_facts S18
      have e6 := S18.bx (b := b.z) (cs := zCh) (T := 148) (by simp [nbx])
      clear S18
      (apply vC_seq; apply vC_region; ((apply vL_val); (case h => ((apply opv_E); exact rfl))); apply vL_nil; apply seqP_normal; apply vC_seq; ((apply vC_cond_false); exact rfl); apply vC_exit; apply seqP_exit; apply loopP_exit; apply blockP_exit; apply seqP_normal; apply vC_seq; apply vC_region; ((apply vL_val); (case h => ((apply opv_loadb1); exact rfl; exact rfl; assumption; exact rfl))))
      refine vL_callF rfl (n_trysend 1) rfl ?_
      rintro _ _ ⟨rfl, rfl⟩
      ((iterate 5 (((apply vL_val); (case h => ((apply opv_E); exact rfl))))); apply vL_nil; apply seqP_normal; apply vC_seq; apply vC_region; ((apply vL_val); (case h => ((apply opv_loadb1); exact rfl; exact rfl; assumption; exact rfl))))
      refine vL_callF rfl (z_tryrecv e6) rfl ?_
      rintro _ _ ⟨rfl, rfl⟩
      ((iterate 7 (((apply vL_val); (case h => ((apply opv_E); exact rfl))))); apply vL_nil; apply seqP_normal; apply vC_seq)
      have S19 := S17.ac (show _ = RtA rb none 0 [] [(tb2, x2)] * (ChA_i rb c * (Pt wb [.int .i64 160, .int .i64 160, .int .i64 1, .int .i64 1, .int .i64 1, .int .i64 1] 29 * (Pt lb [.slice ga 6 gc] 110 * (Ow 29 1 iE (.slice ga 6 gc) [160, 160, 1, 1, 1, 1] * (Bxl (nbx b c.cb) * (RtA sb none 0 [] [(tb, x1)] * TksA tks)))))) by ac_rfl)
      obtain ⟨_, sb2, qb2, lv3, tv3, s3, _⟩ := S19.rt
      have hr := s3.hr
      have ht := s3.tk 0 (tb2, x2) rfl
      unfold tkL at ht
      have S20 := S19.ac (star_left _ _ _)
      have hc := ch_blk_i S20
      unfold chL_i at hc
      refine vC_draw' (fun wf => Fr No w13 wf) ((Fr.refl No w13).drew) ?_
      ((apply (tk 0)); (case hi => exact rfl); (case hf => kernel_rfl); (case hS => (apply Fr.drew; exact Fr.refl _ _)); (case hy => (intro wf hwf; haveI := From.mk hwf; (((apply opv_E); exact rfl)))))
      ((apply (tk 1)); (case hi => exact rfl); (case hf => kernel_rfl); (case hS => (apply Fr.drew; exact Fr.refl _ _)); (case hy => (intro wf hwf; haveI := From.mk hwf; (((apply opv_loadb1); exact rfl; exact rfl; infer_instance; exact rfl)))))
      ((apply (tk 2)); (case hi => exact rfl); (case hf => kernel_rfl); (case hS => (apply Fr.drew; exact Fr.refl _ _)); (case hy => (intro wf hwf; haveI := From.mk hwf; (((apply opv_loadb1); exact rfl; exact rfl; infer_instance; exact rfl)))))
      ((apply (tk 4)); (case hi => exact rfl); (case hf => kernel_rfl); (case hS => (apply Fr.drew; exact Fr.refl _ _)); (case hy => (intro wf hwf; haveI := From.mk hwf; (((apply opv_loadb1); exact rfl; exact rfl; infer_instance; exact rfl)))))
      ((apply (tk 5)); (case hi => exact rfl); (case hf => kernel_rfl); (case hS => (apply Fr.drew; exact Fr.refl _ _)); (case hy => (intro wf hwf; haveI := From.mk hwf; (((apply opv_loadb1); exact rfl; exact rfl; infer_instance; exact rfl)))))
      (refine tkc 3 rfl (by kernel_rfl) (by (apply Fr.drew; exact Fr.refl _ _)) rfl (send_over (ht.frN (by (apply Fr.drew; exact Fr.refl _ _))) (hr.frN (by (apply Fr.drew; exact Fr.refl _ _))) (hc.frN (by (apply Fr.drew; exact Fr.refl _ _))) 1 _ _) rfl ?_)
      rintro _ w14 ⟨hf14, rfl⟩
      have g14 : Fr No w13 w14 := Fr.trans (by (apply Fr.drew; exact Fr.refl _ _)) hf14
      clear hf14
      (refine tkc 6 rfl (by kernel_rfl) (by (assumption)) rfl (recv_notask (hc.frN (by (assumption))) _ _) rfl ?_)
      rintro _ w15 ⟨hf15, rfl⟩
      have g15 : Fr No w13 w15 := Fr.trans (by (assumption)) hf15
      clear hf15
      ((apply (tk 7)); (case hi => exact rfl); (case hf => kernel_rfl); (case hS => (assumption)); (case hy => (intro wf hwf; haveI := From.mk hwf; (((apply opv_E); exact rfl)))))
      ((apply (tk 8)); (case hi => exact rfl); (case hf => kernel_rfl); (case hS => (assumption)); (case hy => (intro wf hwf; haveI := From.mk hwf; (((apply opv_E); exact rfl)))))
      refine vA_done (by kernel_rfl) (by (first | exact trivial | ((assumption); done))) ?_
      replace e1 := e1.frN g15
      replace e2 := e2.frN g15
      replace e3 := e3.frN g15
      replace e4 := e4.frN g15
      replace e5 := e5.frN g15
      replace e6 := e6.frN g15
      replace hr := hr.frN g15
      replace hc := hc.frN g15
      (apply seqP_normal; apply vC_seq; apply vC_region; ((apply vL_val); (case h => ((apply opv_loadb1); exact rfl; exact rfl; assumption; exact rfl))))
      refine vL_callF rfl (n_can) rfl ?_
      rintro _ _ ⟨rfl, rfl⟩
      ((iterate 5 (((apply vL_val); (case h => ((apply opv_E); exact rfl))))); apply vL_nil; apply seqP_normal; (iterate 2 (apply vC_seq)); apply vC_region; (iterate 7 (first | ((with_reducible apply vL_val); (case h => ((with_reducible apply opv_E); exact rfl))) | ((with_reducible apply vL_wanted); exact rfl))); ((apply vL_val); (case h => ((apply opv_loadb1); exact rfl; exact rfl; assumption; exact rfl))); ((apply vL_wanted); exact rfl))
      refine vL_callF rfl (n_runtime) rfl ?_
      rintro _ _ ⟨rfl, rfl⟩
      (((apply vL_wanted); exact rfl); ((apply vL_val); (case h => ((apply opv_neq_pnil); exact rfl; exact rfl; (simp; done)))); (iterate 2 (((apply vL_val); (case h => ((apply opv_E); exact rfl))))); ((apply vL_wanted); exact rfl); ((apply vL_val); (case h => ((apply opv_loadb1); exact rfl; exact rfl; assumption; exact rfl))); ((apply vL_wanted); exact rfl))
      refine vL_callF rfl (c_runtime hc) rfl ?_
      rintro _ _ ⟨rfl, rfl⟩
      ((iterate 27 (first | ((with_reducible apply vL_val); (case h => ((with_reducible apply opv_E); exact rfl))) | ((with_reducible apply vL_val); (case h => ((with_reducible apply opv_neq_ptr); exact rfl; exact rfl; exact rfl; assumption; assumption))) | ((with_reducible apply vL_wanted); exact rfl) | (refine vL_or rfl rfl (fun _ => ?_) (fun h => by omega)))); ((apply vL_val); (case h => ((apply opv_loadb1); exact rfl; exact rfl; assumption; exact rfl))); ((apply vL_wanted); exact rfl))
      refine vL_callF rfl (n_close) rfl ?_
      rintro _ _ ⟨rfl, rfl⟩
      (((apply vL_wanted); exact rfl); (iterate 3 (((apply vL_val); (case h => ((apply opv_E); exact rfl))))); ((apply vL_wanted); exact rfl); ((apply vL_val); (case h => ((apply opv_loadb1); exact rfl; exact rfl; assumption; exact rfl))); ((apply vL_wanted); exact rfl))
      refine vL_callF rfl (z_len e6) rfl ?_
      rintro _ _ ⟨rfl, rfl⟩
      (((apply vL_wanted); exact rfl); (iterate 3 (((apply vL_val); (case h => ((apply opv_E); exact rfl))))); ((apply vL_wanted); exact rfl); ((apply vL_val); (case h => ((apply opv_loadb1); exact rfl; exact rfl; assumption; exact rfl))); ((apply vL_wanted); exact rfl))
      refine vL_callF rfl (n_cap) rfl ?_
      rintro _ _ ⟨rfl, rfl⟩
      (((apply vL_wanted); exact rfl); (iterate 3 (((apply vL_val); (case h => ((apply opv_E); exact rfl))))); ((apply vL_wanted); exact rfl); ((apply vL_val); (case h => ((apply opv_loadb1); exact rfl; exact rfl; assumption; exact rfl))); ((apply vL_wanted); exact rfl))
      refine vL_callF rfl (n_closed) rfl ?_
      rintro _ _ ⟨rfl, rfl⟩
      ((iterate 7 (first | ((with_reducible apply vL_val); (case h => ((with_reducible apply opv_E); exact rfl))) | ((with_reducible apply vL_val); (case h => ((with_reducible apply opv_loadb1); exact rfl; exact rfl; assumption; exact rfl))) | ((with_reducible apply vL_wanted); exact rfl))))
      refine vL_callF rfl (n_forget (pt k) rfl) rfl ?_
      rintro _ w16 ⟨hf16, rfl⟩
      (((apply vL_wanted); exact rfl); (iterate 3 (((apply vL_val); (case h => ((apply opv_E); exact rfl))))); ((apply vL_wanted); exact rfl))
      refine vL_callF rfl (n_newticket) rfl ?_
      rintro _ w17 ⟨hf17, rfl⟩
      (((apply vL_wanted); exact rfl); ((apply vL_val); (case h => ((apply opv_neq_pnil); exact rfl; exact rfl; (simp; done)))); ((apply vL_val); (case h => ((apply opv_E); exact rfl))); apply vL_nil; apply seqP_normal; ((apply vC_cond_false); exact rfl); apply vC_skip; apply seqP_normal; apply vC_seq)
      have g17 : Fr No w13 w17 := (g15.trans hf16).trans hf17
      have g57 : Fr No w15 w17 := hf16.trans hf17
      clear g14 hf16 hf17
      have S21 := S17.frN g17
      have hk : Blk w17.heap k [.func (.func 76) #[] #[], .bool false] 175 := (S21.ac (show _ = TksA tks * (Pt wb [.int .i64 160, .int .i64 160, .int .i64 1, .int .i64 1, .int .i64 1, .int .i64 1] 29 * (RtA rb none 0 [] [(tb2, x2)] * (Pt lb [.slice ga 6 gc] 110 * (Ow 29 1 iE (.slice ga 6 gc) [160, 160, 1, 1, 1, 1] * (ChA_i rb c * (Bxl (nbx b c.cb) * RtA sb none 0 [] [(tb, x1)])))))) by ac_rfl)).tk (t := ⟨k, ⟨.func (.func 76) #[] #[], rfl⟩, false⟩) (by rw [← htk]; exact List.mem_cons_self)
      replace e1 := e1.frN g57
      replace e2 := e2.frN g57
      replace e4 := e4.frN g57
      replace e5 := e5.frN g57
      replace hc := hc.frN g57
      refine vC_draw' (fun wf => Fr No w17 wf) ((Fr.refl No w17).drew) ?_
      ((apply (tk 0)); (case hi => exact rfl); (case hf => kernel_rfl); (case hS => (apply Fr.drew; exact Fr.refl _ _)); (case hy => (intro wf hwf; haveI := From.mk hwf; (((apply opv_loadb1); exact rfl; exact rfl; infer_instance; exact rfl)))))
      ((apply (tk 1)); (case hi => exact rfl); (case hf => kernel_rfl); (case hS => (apply Fr.drew; exact Fr.refl _ _)); (case hy => (intro wf hwf; haveI := From.mk hwf; (((apply opv_E); exact rfl)))))
      ((apply (tk 2)); (case hi => exact rfl); (case hf => kernel_rfl); (case hS => (apply Fr.drew; exact Fr.refl _ _)); (case hy => (intro wf hwf; haveI := From.mk hwf; (((apply opv_loadb1); exact rfl; exact rfl; infer_instance; exact rfl)))))
      ((apply (tk 4)); (case hi => exact rfl); (case hf => kernel_rfl); (case hS => (apply Fr.drew; exact Fr.refl _ _)); (case hy => (intro wf hwf; haveI := From.mk hwf; (((apply opv_loadb1); exact rfl; exact rfl; infer_instance; exact rfl)))))
      ((apply (tk 5)); (case hi => exact rfl); (case hf => kernel_rfl); (case hS => (apply Fr.drew; exact Fr.refl _ _)); (case hy => (intro wf hwf; haveI := From.mk hwf; (((apply opv_loadb1); exact rfl; exact rfl; infer_instance; exact rfl)))))
      ((apply (tk 7)); (case hi => exact rfl); (case hf => kernel_rfl); (case hS => (apply Fr.drew; exact Fr.refl _ _)); (case hy => (intro wf hwf; haveI := From.mk hwf; (((apply opv_loadb1); exact rfl; exact rfl; infer_instance; exact rfl)))))
      ((apply (tk 8)); (case hi => exact rfl); (case hf => kernel_rfl); (case hS => (apply Fr.drew; exact Fr.refl _ _)); (case hy => (intro wf hwf; haveI := From.mk hwf; (((apply opv_E); exact rfl)))))
      (refine tkc 3 rfl (by kernel_rfl) (by (apply Fr.drew; exact Fr.refl _ _)) rfl (waitrecv_none k _ _) rfl ?_)
      rintro _ w18 ⟨hf18, rfl⟩
      have g18 : Fr No w17 w18 := Fr.trans (by (apply Fr.drew; exact Fr.refl _ _)) hf18
      clear hf18
      (refine tkc 6 rfl (by kernel_rfl) (by (assumption)) rfl (waitrecv_nok (hc.frN (by (assumption))) _ _) rfl ?_)
      rintro _ w19 ⟨hf19, rfl⟩
      have g19 : Fr No w17 w19 := Fr.trans (by (assumption)) hf19
      clear hf19
      (refine tkc 9 rfl (by kernel_rfl) (by (assumption)) rfl (waitsend_notold (hc.frN (by (assumption))) _ _ (hk.frN (by (assumption))) 1) rfl ?_)
      rintro _ w20 ⟨hf20, rfl⟩
      have g20 : Fr No w17 w20 := Fr.trans (by (assumption)) hf20
      clear hf20
      ((apply (tk 10)); (case hi => exact rfl); (case hf => kernel_rfl); (case hS => (assumption)); (case hy => (intro wf hwf; haveI := From.mk hwf; (((apply opv_E); exact rfl)))))
      ((apply (tk 11)); (case hi => exact rfl); (case hf => kernel_rfl); (case hS => (assumption)); (case hy => (intro wf hwf; haveI := From.mk hwf; (((apply opv_E); exact rfl)))))
      ((apply (tk 12)); (case hi => exact rfl); (case hf => kernel_rfl); (case hS => (assumption)); (case hy => (intro wf hwf; haveI := From.mk hwf; (((apply opv_E); exact rfl)))))
      refine vA_done (by kernel_rfl) (by (first | exact trivial | ((assumption); done))) ?_
      have S22 := S21.frN g20
      replace e1 := e1.frN g20
      replace e4 := e4.frN g20
      replace e5 := e5.frN g20
      (apply seqP_normal; (iterate 2 (apply vC_seq)); apply vC_region; (iterate 16 (first | ((with_reducible apply vL_val); (case h => ((with_reducible apply opv_E); exact rfl))) | ((with_reducible apply vL_wanted); exact rfl))); ((apply vL_val); (case h => ((apply opv_loadb1); exact rfl; exact rfl; assumption; exact rfl))); ((apply vL_wanted); exact rfl))
      have hcl := close_nil (S22.ac (show _ = ChA_i rb c * (TksA tks * (Pt wb [.int .i64 160, .int .i64 160, .int .i64 1, .int .i64 1, .int .i64 1, .int .i64 1] 29 * (RtA rb none 0 [] [(tb2, x2)] * (Pt lb [.slice ga 6 gc] 110 * (Ow 29 1 iE (.slice ga 6 gc) [160, 160, 1, 1, 1, 1] * (Bxl (nbx b c.cb) * RtA sb none 0 [] [(tb, x1)])))))) by ac_rfl)) hcs.1 hcs.2.1 hcs.2.2.2
      refine vL_callF rfl (hcl) rfl ?_
      rintro _ w21 ⟨rfl, S23⟩
      have S24 := S23.ac (show _ = Bxl (nbx b c.cb) * (ChA_i rb { c with closed := true } * (TksA tks * (Pt wb [.int .i64 160, .int .i64 160, .int .i64 1, .int .i64 1, .int .i64 1, .int .i64 1] 29 * (RtA rb none 0 [] [(tb2, x2)] * (Pt lb [.slice ga 6 gc] 110 * (Ow 29 1 iE (.slice ga 6 gc) [160, 160, 1, 1, 1, 1] * RtA sb none 0 [] [(tb, x1)])))))) by ac_rfl)
      obtain ⟨k1, _, _, k4, k5⟩ := nbx_facts S24
      have htm : (⟨k, ⟨.func (.func 76) #[] #[], rfl⟩, false⟩ : TKT) ∈ tks := by rw [← htk]; exact List.mem_cons_self
      (((apply vL_wanted); exact rfl); (iterate 2 (((apply vL_val); (case h => ((apply opv_E); exact rfl))))); apply vL_nil; apply seqP_normal; ((apply vC_cond_false); exact rfl); apply vC_skip; apply seqP_normal; apply vC_seq; apply vC_region; ((apply vL_val); (case h => ((apply opv_loadb1); exact rfl; exact rfl; assumption; exact rfl))); ((apply vL_val); (case h => ((apply opv_E); exact rfl))); ((apply vL_val); (case h => ((apply opv_loadb1); exact rfl; exact rfl; assumption; exact rfl))))
      have hw := ch_waitrecv_i S23 (by show ∀ x ∈ c.snd, _; rw [hcs.1]; simp) (by show ∀ x ∈ c.rcv, _; rw [hcs.2.1]; simp) (by show c.snd.length ≤ _ ∧ c.rcv.length ≤ _; rw [hcs.1, hcs.2.1]; simp) htm 75 76 #[] #[] rfl
      refine vL_callF rfl (hw) rfl ?_
      rintro u22 w22 h22
      have hcc : CH.cleaned { c with closed := true } tks = { c with closed := true } := cleaned_nil (c := { c with closed := true }) hcs.1 hcs.2.1 tks
      obtain ⟨rfl, S25⟩ : u22 = .int .i64 2 ∧ At (ChA_i rb { c with closed := true } * (TksA tks * (Pt wb [.int .i64 160, .int .i64 160, .int .i64 1, .int .i64 1, .int .i64 1, .int .i64 1] 29 * (RtA rb none 0 [] [(tb2, x2)] * (Pt lb [.slice ga 6 gc] 110 * (Ow 29 1 iE (.slice ga 6 gc) [160, 160, 1, 1, 1, 1] * (Bxl (nbx b c.cb) * RtA sb none 0 [] [(tb, x1)]))))))) w No w22 := by
        rw [hcc] at h22
        rcases h22 with ⟨_, h2, h3⟩ | ⟨h1, _, _⟩
        · exact ⟨h2, h3⟩
        · exact absurd h1 (by simp [noRecv])
      have S26 := S25.ac (show _ = Bxl (nbx b c.cb) * (ChA_i rb { c with closed := true } * (TksA tks * (Pt wb [.int .i64 160, .int .i64 160, .int .i64 1, .int .i64 1, .int .i64 1, .int .i64 1] 29 * (RtA rb none 0 [] [(tb2, x2)] * (Pt lb [.slice ga 6 gc] 110 * (Ow 29 1 iE (.slice ga 6 gc) [160, 160, 1, 1, 1, 1] * RtA sb none 0 [] [(tb, x1)])))))) by ac_rfl)
      obtain ⟨l1, _, _, l4, l5⟩ := nbx_facts S26
      clear h22 k1 k4 k5
      ((iterate 9 (first | ((with_reducible apply vL_val); (case h => ((with_reducible apply opv_E); exact rfl))) | ((with_reducible apply vL_val); (case h => ((with_reducible apply opv_loadb1); exact rfl; exact rfl; assumption; exact rfl))) | ((with_reducible apply vL_wanted); exact rfl))))
      have hw2 := ch_waitsend_i S25 (by show ∀ x ∈ c.snd, _; rw [hcs.1]; simp) (by show ∀ x ∈ c.rcv, _; rw [hcs.2.1]; simp) (by show c.snd.length ≤ _ ∧ c.rcv.length ≤ _; rw [hcs.1, hcs.2.1]; simp) 1 htm 74 76 #[] #[] rfl
      refine vL_callF rfl (hw2) rfl ?_
      rintro u23 w23 h23
      obtain ⟨rfl, hf23⟩ : u23 = .int .i64 2 ∧ Fr No w w23 := by
        rw [hcc] at h23
        rcases h23 with ⟨_, h2, h3⟩ | ⟨h1, _, _⟩
        · exact ⟨h2, h3.fr⟩
        · exact absurd h1 (by simp [noSend])
      (((apply vL_wanted); exact rfl); (iterate 3 (((apply vL_val); (case h => ((apply opv_E); exact rfl))))); ((apply vL_wanted); exact rfl))
      refine vL_callF rfl (awake16 _) rfl ?_
      rintro _ w24 ⟨rfl, hf24⟩
      ((iterate 2 (((apply vL_val); (case h => ((apply opv_E); exact rfl))))); apply vL_nil; apply seqP_normal; apply vC_ret)
      (apply ret1; (case h1 => (exact norm_eq rfl)))
      exact ⟨rfl, hf23.trans hf24⟩
  · obtain ⟨_, sb2, qb2, lv2, tv2, s2, _⟩ := S4.rt
    have hr := s2.hr
    refine vL_callF rfl (b_make size (by omega) hr) rfl ?_
    rintro _ _ ⟨rfl, rfl⟩
    have hf3 := S3.fr
    by_cases h0 : size < 0
    · ((iterate 3 (((apply vL_val); (case h => ((apply opv_E); exact rfl))))); ((apply vL_val); (case h => (apply opw_alloc))); ((apply vL_skip); (case h => ((apply ops_store1); exact norm_eq rfl; exact norm_eq rfl; (first | rfl | assumption); infer_instance; (first | decide | exact of_decide_eq_true rfl | (simp; done))))); ((apply vL_val); (case h => ((apply opv_E); exact rfl))); apply vL_nil; apply seqP_normal; (iterate 2 (apply vC_seq)); apply vC_region; (iterate 34 (first | ((with_reducible apply vL_val); (case h => ((with_reducible apply opv_E); exact rfl))) | ((with_reducible apply vL_val); (case h => ((with_reducible apply opv_neq_bool); exact rfl; exact rfl))) | ((with_reducible apply vL_wanted); exact rfl) | ((with_reducible apply vL_unwanted'); exact rfl; exact rfl) | (refine vL_and rfl rfl (fun h => by omega) (fun _ => ?_)))); apply vL_nil; apply seqP_normal; ((apply vC_cond_false); exact rfl); apply vC_skip; apply seqP_normal; (iterate 2 (apply vC_seq)); apply vC_region; (iterate 2 (((apply vL_val); (case h => ((apply opv_E); exact rfl))))); apply vL_nil; apply seqP_normal; ((apply vC_cond_true); exact rfl); apply vC_seq; apply vC_region; ((apply vL_val); (case h => ((apply opv_loadb1); exact rfl; exact rfl; infer_instance; exact rfl))); ((apply vL_val); (case h => ((apply opv_eql_pnil); exact rfl; exact rfl; (simp; done)))); ((apply vL_val); (case h => ((apply opv_E); exact rfl))); ((apply vL_wanted); exact rfl))
      refine vL_callF rfl (awake16 _) rfl ?_
      rintro _ w5 ⟨rfl, hf5⟩
      ((iterate 2 (((apply vL_val); (case h => ((apply opv_E); exact rfl))))); apply vL_nil; apply seqP_normal; apply vC_ret; apply seqP_ret)
      (apply ret1; (case h1 => (exact norm_eq rfl)))
      exact ⟨rfl, Fr.trans (by (apply Fr.allocSet; assumption)) hf5⟩
    · have h1 : 64 < size := by omega
      have hd1 : decide (size ≤ 64) = false := decide_eq_false (by omega)
      ((iterate 3 (((apply vL_val); (case h => ((apply opv_E); exact rfl))))); ((apply vL_val); (case h => (apply opw_alloc))); ((apply vL_skip); (case h => ((apply ops_store1); exact norm_eq rfl; exact norm_eq rfl; (first | rfl | assumption); infer_instance; (first | decide | exact of_decide_eq_true rfl | (simp; done))))); ((apply vL_val); (case h => ((apply opv_E); exact rfl))); apply vL_nil; apply seqP_normal; (iterate 2 (apply vC_seq)); apply vC_region; (iterate 23 (first | ((with_reducible apply vL_val); (case h => ((with_reducible apply opv_E); exact rfl))) | ((with_reducible apply vL_val); (case h => ((with_reducible apply opv_neq_bool); exact rfl; exact rfl))) | ((with_reducible apply vL_wanted); exact rfl) | (refine vL_and rfl rfl (fun _ => ?_) (fun h => by omega)))))
      rw [hd1]
      ((iterate 25 (first | with_reducible apply vC_seq | with_reducible apply vC_region | with_reducible apply seqP_normal | with_reducible apply vC_skip | ((with_reducible apply vC_cond_false); exact rfl) | ((with_reducible apply vL_val); (case h => ((with_reducible apply opv_E); exact rfl))) | with_reducible apply vL_nil | ((with_reducible apply vL_wanted); exact rfl))); ((apply vC_cond_true); exact rfl); apply vC_seq; apply vC_region; ((apply vL_val); (case h => ((apply opv_loadb1); exact rfl; exact rfl; infer_instance; exact rfl))); ((apply vL_val); (case h => ((apply opv_eql_pnil); exact rfl; exact rfl; (simp; done)))); ((apply vL_val); (case h => ((apply opv_E); exact rfl))); ((apply vL_wanted); exact rfl))
      refine vL_callF rfl (awake16 _) rfl ?_
      rintro _ w5 ⟨rfl, hf5⟩
      ((iterate 2 (((apply vL_val); (case h => ((apply opv_E); exact rfl))))); apply vL_nil; apply seqP_normal; apply vC_ret; apply seqP_ret)
      (apply ret1; (case h1 => (exact norm_eq rfl)))
      exact ⟨rfl, Fr.trans (by (apply Fr.allocSet; assumption)) hf5⟩
end
end Go.Proofs.YtbaidcnalkdhgaaGreat
