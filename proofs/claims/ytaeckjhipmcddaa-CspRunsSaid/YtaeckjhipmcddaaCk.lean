/- Layer 15: the law's spawn. -/
import Derived.Test.YtaeckjhipmcddaaCj
set_option maxRecDepth 100000
namespace Go.Proofs.Ytaeckjhipmcddaa
open Go Go.Eng
section
variable {X K K' : Nat → Prop} {w w1 w2 : World} {wb rb sb qb : Nat} {lv tv wt we vp : Value} {now : Option Nat} {rest : Int} {ready : List Int} {ts : List (Nat × TK)} {ev : List (Int × Int × Int)}
theorem Lw.spawned {lv' tv' wt' : Value} {ready' : List Int} {tb : Nat} {y : TK} (s : Lw X K w wb rb sb qb lv tv wt we vp now rest ready ts ev) (hf : Fr (fun k => ¬ LZ X K wb wt we k) w w1) (hK : ∀ k, K' k → K k ∨ w.heap.size ≤ k)
    (h : Rt (LZ X K' wb wt we) w1 rb sb qb lv' tv' now rest ready' (ts ++ [(tb, y)])) (hf2 : Fr (fun k => k = wb ∨ own wt = some k) w1 w2) (hw : Blk w2.heap wb [.pointer (some ⟨rb, 0, none⟩), vp, wt', we] 60)
    (ho : Own w2.heap 64 1 ptE wt' (ts.map (·.1) ++ [tb])) (hl : ∀ k, own wt' = some k → own wt = some k ∨ w1.heap.size ≤ k) (hone : wt'.oneCell' = true) :
    Lw X K' w2 wb rb sb qb lv' tv' wt' we vp now rest ready' (ts ++ [(tb, y)]) ev ∧ Fr (LF X K) w w2 := by
  have hw1 := s.hw.fr hf (fun h => h (.inr (.inr (.inl rfl))))
  have hwt1 := s.hwt.fr hf (fun b hb h => h (.inr (.inr (.inr (.inl hb)))))
  have hev1 := s.hev.fr hf (fun b hb h => h (.inr (.inr (.inr (.inr hb)))))
  have hzx : ∀ k, (k = wb ∨ own wt = some k ∨ own we = some k) → ¬ X k ∧ ¬ K' k := fun k hk => ⟨(s.zx k hk).1, fun h' => by
    rcases hK k h' with h1 | h1
    · exact (s.zx k hk).2 h1
    · have := s.rt.zs k (.inr (.inr hk)); omega⟩
  refine ⟨⟨hw, by rw [List.map_append]; exact ho, hev1.fr hf2 (fun b hb h => ?_), h.fr (hf2.mono (fun k _ h => ?_)) (fun k hk => ?_), hone, s.oe, s.op, fun k hk => ?_⟩, (hf.mono (fun k _ hk => ⟨fun h => hk (.inl h), fun h => hk (.inr (.inl h))⟩)).trans' hf2 (fun k hk => .inl ?_)⟩
  · rcases h with h | h
    · exact Own.ne_blk hev1 hw1 (by decide) (h ▸ hb)
    · exact Own.ne_own hev1 hwt1 (by decide) b hb h
  · rcases h with h | h
    · exact .inr (.inr (.inl h))
    · exact .inr (.inr (.inr (.inl h)))
  · rcases hk with h1 | h1 | h1 | h1 | h1
    · exact ⟨Nat.lt_of_lt_of_le (h.zs k (.inl h1)) hf2.size, .inl (.inl h1)⟩
    · exact ⟨Nat.lt_of_lt_of_le (h.zs k (.inr (.inl h1))) hf2.size, .inl (.inr (.inl h1))⟩
    · exact ⟨Nat.lt_of_lt_of_le (h.zs k (.inr (.inr (.inl h1)))) hf2.size, .inl (.inr (.inr (.inl h1)))⟩
    · exact ⟨ho.lt k h1, (hl k h1).imp (fun h => .inr (.inr (.inr (.inl h)))) id⟩
    · exact ⟨Nat.lt_of_lt_of_le (h.zs k (.inr (.inr (.inr (.inr h1))))) hf2.size, .inl (.inr (.inr (.inr (.inr h1))))⟩
  · rcases hk with h1 | h1 | h1
    · exact hzx k (.inl h1)
    · rcases hl k h1 with h2 | h2
      · exact hzx k (.inr (.inl h2))
      · exact ⟨fun hx => by have := h.zs k (.inl hx); omega, fun hx => by have := h.zs k (.inr (.inl hx)); omega⟩
    · exact hzx k (.inr (.inr h1))
  · rcases hk with h1 | h1
    · exact s.zx k (.inl h1)
    · exact s.zx k (.inr (.inl h1))
theorem w_spawn {run : Option Nat} {al : List AT} (s : Lw X K w wb rb sb qb lv tv wt we vp now rest ready ts ev) (T : TsOk w.heap K wb run ts al) (prog : Nat) (hl : ready.length ≤ 256) (hlt : ts.length ≤ 1000000) (hrun : ∀ i, run = some i → i < ts.length) :
    Rets Try.prog 24 #[.pointer (some ⟨wb, 0, none⟩), .int .i64 prog] w fun u w' => (256 ≤ openIn ts ts.length ∧ u = .int .i64 5 ∧ Fr No w w') ∨
      (openIn ts ts.length < 256 ∧ u = .int .i64 0 ∧ ∃ K' lv' tv' wt' ts', Lw X K' w' wb rb sb qb lv' tv' wt' we vp now rest (readyL ready ts.length) (ts ++ [ts']) ev ∧ TsOk w'.heap K' wb run (ts ++ [ts']) (al ++ [⟨prog, 0, 0, 1⟩]) ∧ KX w K K' ∧ Fr (LF X K) w w') := by
  refine rets_of Try.func24 rfl Try.ntmps24 rfl rfl (by kernel_rfl) ?_
  have hw := s.hw
  (apply vC_seq; apply vC_region; (iterate 2 (((apply vL_val); (case h => ((apply opw_box1); (first | exact norm_eq rfl | ((conv => lhs; whnf) <;> exact rfl)); (first | rfl | assumption)))))); ((apply vL_val); (case h => ((apply opv_E); exact rfl))); apply vL_nil; apply seqP_normal; apply vC_seq; apply vC_region; ((apply vL_val); (case h => ((apply opv_loadb1); exact rfl; exact rfl; (first | assumption | infer_instance); exact rfl))); ((apply vL_val); (case h => ((apply opv_E); exact rfl))); ((apply vL_val); (case h => ((apply opv_fieldAddr); exact rfl))); ((apply vL_val); (case h => ((apply opv_loadb1); exact rfl; exact rfl; (first | assumption | infer_instance); exact rfl))); ((apply vL_val); (case h => ((apply opv_makeFunc); exact rfl))))
  refine vL_gen (fun w' => Fr No w w' ∧ Blk w'.heap w.heap.size [pt wb] 54 ∧ Blk w'.heap (w.alloc (.cells #[.pointer (some ⟨wb, 0, none⟩)] 54)).heap.size [.int .i64 prog] 3) ⟨by (repeat (first | exact Fr.refl _ _ | assumption | with_reducible apply Fr.allocSet | with_reducible apply Fr.alloc | with_reducible apply Fr.drewN | with_reducible apply Fr.drew | ((with_reducible apply Fr.set); rotate_left; (right; ((try simp only [alloc_size]); omega))) | (refine Fr.trans ?_ (by assumption)))), inferInstance, inferInstance⟩ ?_
  rintro w1 ⟨hf1, hbw, hbp⟩
  have hpx : w.heap.size ≤ (w.alloc (.cells #[.pointer (some ⟨wb, 0, none⟩)] 54)).heap.size := by rw [alloc_size]; omega
  generalize (w.alloc (.cells #[.pointer (some ⟨wb, 0, none⟩)] 54)).heap.size = px at *
  have s1 : Lw X (fun k => K k ∨ k = w.heap.size ∨ k = px) w1 wb rb sb qb lv tv wt we vp now rest ready ts ev := s.box hf1 (fun k hk => by
    rcases hk with h | rfl | rfl
    · exact .inl h
    · exact .inr ⟨Nat.le_refl _, hbw.lt⟩
    · exact .inr ⟨hpx, hbp.lt⟩)
  have hw1 := s1.hw
  have h1 := s.ow
  have h2 := s.oe
  have h3 := s.op
  skip
  refine vL_callF rfl (r_spawn s1.rt 63 #[pt w.heap.size, pt px] hl hlt) rfl ?_
  rintro _ w2 (⟨hfull, rfl, hf2⟩ | ⟨hfree, tb, fb, tx, lv', tv', rfl, htb, hfb, htx, bfb, btx, hf2, hrt⟩)
  · ((iterate 5 (((apply vL_val); (case h => ((apply opv_E); exact rfl))))); apply vL_nil; apply seqP_normal; (iterate 2 (apply vC_seq)); apply vC_region; (iterate 2 (((apply vL_val); (case h => ((apply opv_E); exact rfl))))); apply vL_nil; apply seqP_normal; ((apply vC_cond_false); exact rfl); apply vC_skip; apply seqP_normal; apply vC_seq; apply vC_region; (iterate 2 (((apply vL_val); (case h => ((apply opv_E); exact rfl))))); apply vL_nil; apply seqP_normal; apply vC_ret)
    (apply ret1; (case h1 => (first | exact norm_eq rfl | ((conv => lhs; whnf) <;> exact rfl))))
    exact .inl ⟨hfull, rfl, hf1.trans hf2⟩
  have hw2 := hw1.fr hf2 (fun h => h (.inr (.inr (.inl rfl))))
  have hwt2 := s1.hwt.fr hf2 (fun b hb h => h (.inr (.inr (.inr (.inl hb)))))
  have hbw2 := hbw.fr hf2 (fun h => h (.inr (.inl (.inr (.inl rfl)))))
  have hbp2 := hbp.fr hf2 (fun h => h (.inr (.inl (.inr (.inr rfl)))))
  have hml : (ts.map (·.1)).length = ts.length := List.length_map ..
  ((iterate 5 (((apply vL_val); (case h => ((apply opv_E); exact rfl))))); apply vL_nil; apply seqP_normal; (iterate 2 (apply vC_seq)); apply vC_region; (iterate 2 (((apply vL_val); (case h => ((apply opv_E); exact rfl))))); apply vL_nil; apply seqP_normal; ((apply vC_cond_true); exact rfl))
  refine vC_draw' ((fun wf => Blk wf.heap w.heap.size [pt wb] 54)) (by (first | exact trivial | assumption | infer_instance | ((repeat (first | exact Fr.refl _ _ | assumption | with_reducible apply Fr.allocSet | with_reducible apply Fr.alloc | with_reducible apply Fr.drewN | with_reducible apply Fr.drew | ((with_reducible apply Fr.set); rotate_left; (right; ((try simp only [alloc_size]); omega))) | (refine Fr.trans ?_ (by assumption)))); done))) ?_
  ((apply (tk 0)); (case hi => exact rfl); (case hf => kernel_rfl); (case hS => (first | exact trivial | assumption | infer_instance | ((repeat (first | exact Fr.refl _ _ | assumption | with_reducible apply Fr.allocSet | with_reducible apply Fr.alloc | with_reducible apply Fr.drewN | with_reducible apply Fr.drew | ((with_reducible apply Fr.set); rotate_left; (right; ((try simp only [alloc_size]); omega))) | (refine Fr.trans ?_ (by assumption)))); done))); (case hy => (intro wf hwf; (try dsimp only at hwf); (((apply opv_loadb1); exact rfl; exact rfl; (first | assumption | infer_instance); exact rfl)))))
  ((apply (tk 1)); (case hi => exact rfl); (case hf => kernel_rfl); (case hS => (first | exact trivial | assumption | infer_instance | ((repeat (first | exact Fr.refl _ _ | assumption | with_reducible apply Fr.allocSet | with_reducible apply Fr.alloc | with_reducible apply Fr.drewN | with_reducible apply Fr.drew | ((with_reducible apply Fr.set); rotate_left; (right; ((try simp only [alloc_size]); omega))) | (refine Fr.trans ?_ (by assumption)))); done))); (case hy => (intro wf hwf; (try dsimp only at hwf); (((apply opv_loadb1); exact rfl; exact rfl; (first | assumption | infer_instance); exact rfl)))))
  ((apply (tk 2)); (case hi => exact rfl); (case hf => kernel_rfl); (case hS => (first | exact trivial | assumption | infer_instance | ((repeat (first | exact Fr.refl _ _ | assumption | with_reducible apply Fr.allocSet | with_reducible apply Fr.alloc | with_reducible apply Fr.drewN | with_reducible apply Fr.drew | ((with_reducible apply Fr.set); rotate_left; (right; ((try simp only [alloc_size]); omega))) | (refine Fr.trans ?_ (by assumption)))); done))); (case hy => (intro wf hwf; (try dsimp only at hwf); (((apply opv_E); exact rfl)))))
  ((apply (tk 3)); (case hi => exact rfl); (case hf => kernel_rfl); (case hS => (first | exact trivial | assumption | infer_instance | ((repeat (first | exact Fr.refl _ _ | assumption | with_reducible apply Fr.allocSet | with_reducible apply Fr.alloc | with_reducible apply Fr.drewN | with_reducible apply Fr.drew | ((with_reducible apply Fr.set); rotate_left; (right; ((try simp only [alloc_size]); omega))) | (refine Fr.trans ?_ (by assumption)))); done))); (case hy => (intro wf hwf; (try dsimp only at hwf); (((apply opv_fieldAddr); exact rfl)))))
  ((apply (tk 5)); (case hi => exact rfl); (case hf => kernel_rfl); (case hS => (first | exact trivial | assumption | infer_instance | ((repeat (first | exact Fr.refl _ _ | assumption | with_reducible apply Fr.allocSet | with_reducible apply Fr.alloc | with_reducible apply Fr.drewN | with_reducible apply Fr.drew | ((with_reducible apply Fr.set); rotate_left; (right; ((try simp only [alloc_size]); omega))) | (refine Fr.trans ?_ (by assumption)))); done))); (case hy => (intro wf hwf; (try dsimp only at hwf); (((apply opv_E); exact rfl)))))
  refine vA_two 4 6 rfl rfl (by kernel_rfl) (by (first | exact trivial | assumption | infer_instance | ((repeat (first | exact Fr.refl _ _ | assumption | with_reducible apply Fr.allocSet | with_reducible apply Fr.alloc | with_reducible apply Fr.drewN | with_reducible apply Fr.drew | ((with_reducible apply Fr.set); rotate_left; (right; ((try simp only [alloc_size]); omega))) | (refine Fr.trans ?_ (by assumption)))); done))) (fun J hJ => ?_) (fun J hJ => ?_)
  · (((apply vL_val); (case h => ((apply opv_loadb1); exact rfl; exact rfl; (first | assumption | infer_instance); exact rfl))); apply vL_nil)
    refine ⟨rfl, hJ _ _ ?_⟩
    refine vA_only 6 rfl (by kernel_rfl) (by (first | exact trivial | assumption | infer_instance | ((repeat (first | exact Fr.refl _ _ | assumption | with_reducible apply Fr.allocSet | with_reducible apply Fr.alloc | with_reducible apply Fr.drewN | with_reducible apply Fr.drew | ((with_reducible apply Fr.set); rotate_left; (right; ((try simp only [alloc_size]); omega))) | (refine Fr.trans ?_ (by assumption)))); done))) (fun J hJ => ?_)
    (((apply vL_val); (case h => ((apply opw_buildSl); exact rfl; exact rfl; exact rfl; (first | exact (rfl : _ = some []) | exact (rfl : _ = some [_]) | exact (rfl : _ = some [_, _]) | exact (rfl : _ = some [_, _, _]) | exact (rfl : _ = some [_, _, _, _]) | exact (rfl : _ = some [_, _, _, _, _]) | exact (rfl : _ = some [_, _, _, _, _, _]) | exact (rfl : _ = some [_, _, _, _, _, _, _]) | exact (rfl : _ = some [_, _, _, _, _, _, _, _]) | exact (rfl : _ = some [_, _, _, _, _, _, _, _, _]) | exact (rfl : _ = some [_, _, _, _, _, _, _, _, _, _]) | exact (rfl : _ = some [_, _, _, _, _, _, _, _, _, _, _]) | exact (rfl : _ = some [_, _, _, _, _, _, _, _, _, _, _, _]) | exact (rfl : _ = some [_, _, _, _, _, _, _, _, _, _, _, _, _]) | exact (rfl : _ = some [_, _, _, _, _, _, _, _, _, _, _, _, _, _]) | exact (rfl : _ = some [_, _, _, _, _, _, _, _, _, _, _, _, _, _, _]) | exact (rfl : _ = some [_, _, _, _, _, _, _, _, _, _, _, _, _, _, _, _]))))); apply vL_nil)
    refine ⟨rfl, hJ _ _ ?_⟩
    refine vA_only 7 rfl (by kernel_rfl) (by (first | exact trivial | assumption | infer_instance | ((repeat (first | exact Fr.refl _ _ | assumption | with_reducible apply Fr.allocSet | with_reducible apply Fr.alloc | with_reducible apply Fr.drewN | with_reducible apply Fr.drew | ((with_reducible apply Fr.set); rotate_left; (right; ((try simp only [alloc_size]); omega))) | (refine Fr.trans ?_ (by assumption)))); done))) (fun J hJ => ?_)
    refine vL_append (enc := ptE) (xs := ts.map (·.1)) (ys := [tb]) (T := 64) (sz := 1) (by (first | exact norm_eq rfl | ((conv => lhs; whnf) <;> exact rfl))) (by (first | exact norm_eq rfl | ((conv => lhs; whnf) <;> exact rfl))) (Own.alloc (hwt2.frN ((Fr.refl No _).drew))) (Rd.new1 _ _ rfl) rfl (by decide) ?_ ?_ ?_
    · simp [maxLen]; omega
    · simp; omega
    intro wt' w3 ho3 hf3 hfr3 hone3 _
    have hfa : Fr (fun j => own wt = some j) w2 w3 := (((Fr.refl _ w2).drew).alloc _).trans' hf3 (fun i hi => .inl hi)
    have hw3 := hw2.fr hfa (fun h => Own.ne_blk hwt2 hw2 (by decide) h)
    have hbw3 := hbw2.fr hfa (fun h => Own.ne_blk hwt2 hbw2 (by decide) h)
    refine vL_nil ⟨rfl, hJ _ _ ?_⟩
    ((apply (tk 8)); (case hi => exact rfl); (case hf => kernel_rfl); (case hS => (first | exact trivial | assumption | infer_instance | ((repeat (first | exact Fr.refl _ _ | assumption | with_reducible apply Fr.allocSet | with_reducible apply Fr.alloc | with_reducible apply Fr.drewN | with_reducible apply Fr.drew | ((with_reducible apply Fr.set); rotate_left; (right; ((try simp only [alloc_size]); omega))) | (refine Fr.trans ?_ (by assumption)))); done))); (case hy => (intro wf hwf; (try dsimp only at hwf); (((apply opv_E); exact rfl)))))
    ((apply (tk 9)); (case hi => exact rfl); (case hf => kernel_rfl); (case hS => (first | exact trivial | assumption | infer_instance | ((repeat (first | exact Fr.refl _ _ | assumption | with_reducible apply Fr.allocSet | with_reducible apply Fr.alloc | with_reducible apply Fr.drewN | with_reducible apply Fr.drew | ((with_reducible apply Fr.set); rotate_left; (right; ((try simp only [alloc_size]); omega))) | (refine Fr.trans ?_ (by assumption)))); done))); (case hy => (intro wf hwf; (try dsimp only at hwf); (((apply opv_fieldAddr); exact rfl)))))
    refine vA_only 10 rfl (by kernel_rfl) (by (first | exact trivial | assumption | infer_instance | ((repeat (first | exact Fr.refl _ _ | assumption | with_reducible apply Fr.allocSet | with_reducible apply Fr.alloc | with_reducible apply Fr.drewN | with_reducible apply Fr.drew | ((with_reducible apply Fr.set); rotate_left; (right; ((try simp only [alloc_size]); omega))) | (refine Fr.trans ?_ (by assumption)))); done))) (fun J hJ => ?_)
    (((apply vL_skip); (case h => ((apply ops_store1); (first | exact norm_eq rfl | ((conv => lhs; whnf) <;> exact rfl)); (first | exact norm_eq rfl | ((conv => lhs; whnf) <;> exact rfl)); (first | rfl | assumption); (first | assumption | infer_instance); (first | decide | exact of_decide_eq_true rfl | (simp; done))))); apply vL_nil)
    refine ⟨rfl, hJ _ _ ?_⟩
    haveI hnt : NeB w.heap.size wb := ⟨Blk.ne_type hbw3 hw3 (by decide)⟩
    refine vA_done (by kernel_rfl) (by (first | exact trivial | assumption | infer_instance | ((repeat (first | exact Fr.refl _ _ | assumption | with_reducible apply Fr.allocSet | with_reducible apply Fr.alloc | with_reducible apply Fr.drewN | with_reducible apply Fr.drew | ((with_reducible apply Fr.set); rotate_left; (right; ((try simp only [alloc_size]); omega))) | (refine Fr.trans ?_ (by assumption)))); done))) ?_
    (apply seqP_normal; apply vC_seq; apply vC_region; (iterate 2 (((apply vL_val); (case h => ((apply opv_E); exact rfl))))); apply vL_nil; apply seqP_normal; apply vC_ret)
    (apply ret1; (case h1 => (first | exact norm_eq rfl | ((conv => lhs; whnf) <;> exact rfl))))
    have hfW : Fr (fun k => k = wb ∨ own wt = some k) w2 (w3.setRow wb [.pointer (some ⟨rb, 0, none⟩), vp, wt', we].toArray) := (hfa.mono (fun k _ h => .inr h)).set _ _ (.inl (.inl rfl))
    obtain ⟨L, F⟩ := s1.spawned (K' := fun k => (K k ∨ k = w.heap.size ∨ k = px) ∨ k = fb ∨ k = tx) (w1 := w2) (w2 := w3.setRow wb [.pointer (some ⟨rb, 0, none⟩), vp, wt', we].toArray) (wt' := wt') hf2 (fun k hk => by
        rcases hk with h | rfl | rfl
        · exact .inl h
        · exact .inr hfb
        · exact .inr htx) (hrt.re (fun k hk => by
        rcases hk with h | (h | h) | h
        · exact .inl (.inl h)
        · exact .inl (.inr (.inl h))
        · exact .inr h
        · exact .inl (.inr (.inr h)))) hfW (show Blk _ wb [.pointer (some ⟨rb, 0, none⟩), vp, wt', we] 60 from inferInstance) (ho3.set (Own.ne_blk ho3 hw3 (by decide))) (fun k hk => (hfr3 k hk).imp id (fun h => by rw [alloc_size] at h; exact Nat.le_trans (Nat.le_succ _) h)) hone3
    have hno : ∀ k, K k → ¬ LF X K k := fun k h h' => h'.2 h
    have hFW : Fr (LF X K) w (w3.setRow wb [.pointer (some ⟨rb, 0, none⟩), vp, wt', we].toArray) := hf1.no_any.trans' F (fun k hk => .inl ⟨hk.1, fun h => hk.2 (.inl h)⟩)
    have T2 := T.fr (K' := fun k => (K k ∨ k = w.heap.size ∨ k = px) ∨ k = fb ∨ k = tx) hFW hno (fun k h => .inl (.inl h))
    have nwt : ∀ k, own wt = some k → k < w1.heap.size := s1.hwt.lt
    refine .inr ⟨hfree, rfl, fun k => (K k ∨ k = w.heap.size ∨ k = px) ∨ k = fb ∨ k = tx, lv', tv', wt', (tb, newT fb tx), L, ⟨by simp [T.1], fun i x a hr hx ha => ?_⟩, ⟨fun k h => .inl (.inl h), fun k hk => by
        rcases hk with (h | rfl | rfl) | rfl | rfl
        · exact .inl h
        · exact .inr (Nat.le_refl _)
        · exact .inr hpx
        · exact .inr (Nat.le_trans hf1.size hfb)
        · exact .inr (Nat.le_trans hf1.size htx)⟩, hFW⟩
    by_cases hi : i < ts.length
    · rw [List.getElem?_append_left hi] at hx
      rw [List.getElem?_append_left (by rw [← T.1]; exact hi)] at ha
      exact T2.2 i x a hr hx ha
    · have hle := (List.getElem?_eq_some_iff.1 hx).1
      have e : i = ts.length := by simp at hle; omega
      subst e
      rw [List.getElem?_append_right (Nat.le_refl _), Nat.sub_self] at hx
      rw [T.1, List.getElem?_append_right (Nat.le_refl _), Nat.sub_self] at ha
      cases hx
      cases ha
      refine ⟨rfl, rfl, fun _ => .inl ⟨fb, tx, w.heap.size, px, rfl, .inr (.inl rfl), .inr (.inr rfl), .inl (.inr (.inl rfl)), .inl (.inr (.inr rfl)), bfb.fr hfW (fun h => ?_), btx.fr hfW (fun h => ?_), hbw2.fr hfW (fun h => ?_), hbp2.fr hfW (fun h => ?_), rfl, rfl⟩, fun h => by cases h⟩
      · rcases h with h | h
        · exact Blk.ne_type bfb hw2 (by decide) h
        · exact Own.ne_blk hwt2 bfb (by decide) h
      · rcases h with h | h
        · exact Blk.ne_type btx hw2 (by decide) h
        · have := nwt _ h; omega
      · rcases h with h | h
        · exact Blk.ne_type hbw2 hw2 (by decide) h
        · exact Own.ne_blk hwt2 hbw2 (by decide) h
      · rcases h with h | h
        · exact Blk.ne_type hbp2 hw2 (by decide) h
        · exact Own.ne_blk hwt2 hbp2 (by decide) h
  · (((apply vL_val); (case h => ((apply opw_buildSl); exact rfl; exact rfl; exact rfl; (first | exact (rfl : _ = some []) | exact (rfl : _ = some [_]) | exact (rfl : _ = some [_, _]) | exact (rfl : _ = some [_, _, _]) | exact (rfl : _ = some [_, _, _, _]) | exact (rfl : _ = some [_, _, _, _, _]) | exact (rfl : _ = some [_, _, _, _, _, _]) | exact (rfl : _ = some [_, _, _, _, _, _, _]) | exact (rfl : _ = some [_, _, _, _, _, _, _, _]) | exact (rfl : _ = some [_, _, _, _, _, _, _, _, _]) | exact (rfl : _ = some [_, _, _, _, _, _, _, _, _, _]) | exact (rfl : _ = some [_, _, _, _, _, _, _, _, _, _, _]) | exact (rfl : _ = some [_, _, _, _, _, _, _, _, _, _, _, _]) | exact (rfl : _ = some [_, _, _, _, _, _, _, _, _, _, _, _, _]) | exact (rfl : _ = some [_, _, _, _, _, _, _, _, _, _, _, _, _, _]) | exact (rfl : _ = some [_, _, _, _, _, _, _, _, _, _, _, _, _, _, _]) | exact (rfl : _ = some [_, _, _, _, _, _, _, _, _, _, _, _, _, _, _, _]))))); apply vL_nil)
    refine ⟨rfl, hJ _ _ ?_⟩
    refine vA_only 4 rfl (by kernel_rfl) (by (first | exact trivial | assumption | infer_instance | ((repeat (first | exact Fr.refl _ _ | assumption | with_reducible apply Fr.allocSet | with_reducible apply Fr.alloc | with_reducible apply Fr.drewN | with_reducible apply Fr.drew | ((with_reducible apply Fr.set); rotate_left; (right; ((try simp only [alloc_size]); omega))) | (refine Fr.trans ?_ (by assumption)))); done))) (fun J hJ => ?_)
    (((apply vL_val); (case h => ((apply opv_loadb1); exact rfl; exact rfl; (first | assumption | infer_instance); exact rfl))); apply vL_nil)
    refine ⟨rfl, hJ _ _ ?_⟩
    refine vA_only 7 rfl (by kernel_rfl) (by (first | exact trivial | assumption | infer_instance | ((repeat (first | exact Fr.refl _ _ | assumption | with_reducible apply Fr.allocSet | with_reducible apply Fr.alloc | with_reducible apply Fr.drewN | with_reducible apply Fr.drew | ((with_reducible apply Fr.set); rotate_left; (right; ((try simp only [alloc_size]); omega))) | (refine Fr.trans ?_ (by assumption)))); done))) (fun J hJ => ?_)
    refine vL_append (enc := ptE) (xs := ts.map (·.1)) (ys := [tb]) (T := 64) (sz := 1) (by (first | exact norm_eq rfl | ((conv => lhs; whnf) <;> exact rfl))) (by (first | exact norm_eq rfl | ((conv => lhs; whnf) <;> exact rfl))) (Own.alloc (hwt2.frN ((Fr.refl No _).drew))) (Rd.new1 _ _ rfl) rfl (by decide) ?_ ?_ ?_
    · simp [maxLen]; omega
    · simp; omega
    intro wt' w3 ho3 hf3 hfr3 hone3 _
    have hfa : Fr (fun j => own wt = some j) w2 w3 := (((Fr.refl _ w2).drew).alloc _).trans' hf3 (fun i hi => .inl hi)
    have hw3 := hw2.fr hfa (fun h => Own.ne_blk hwt2 hw2 (by decide) h)
    have hbw3 := hbw2.fr hfa (fun h => Own.ne_blk hwt2 hbw2 (by decide) h)
    refine vL_nil ⟨rfl, hJ _ _ ?_⟩
    ((apply (tk 8)); (case hi => exact rfl); (case hf => kernel_rfl); (case hS => (first | exact trivial | assumption | infer_instance | ((repeat (first | exact Fr.refl _ _ | assumption | with_reducible apply Fr.allocSet | with_reducible apply Fr.alloc | with_reducible apply Fr.drewN | with_reducible apply Fr.drew | ((with_reducible apply Fr.set); rotate_left; (right; ((try simp only [alloc_size]); omega))) | (refine Fr.trans ?_ (by assumption)))); done))); (case hy => (intro wf hwf; (try dsimp only at hwf); (((apply opv_E); exact rfl)))))
    ((apply (tk 9)); (case hi => exact rfl); (case hf => kernel_rfl); (case hS => (first | exact trivial | assumption | infer_instance | ((repeat (first | exact Fr.refl _ _ | assumption | with_reducible apply Fr.allocSet | with_reducible apply Fr.alloc | with_reducible apply Fr.drewN | with_reducible apply Fr.drew | ((with_reducible apply Fr.set); rotate_left; (right; ((try simp only [alloc_size]); omega))) | (refine Fr.trans ?_ (by assumption)))); done))); (case hy => (intro wf hwf; (try dsimp only at hwf); (((apply opv_fieldAddr); exact rfl)))))
    refine vA_only 10 rfl (by kernel_rfl) (by (first | exact trivial | assumption | infer_instance | ((repeat (first | exact Fr.refl _ _ | assumption | with_reducible apply Fr.allocSet | with_reducible apply Fr.alloc | with_reducible apply Fr.drewN | with_reducible apply Fr.drew | ((with_reducible apply Fr.set); rotate_left; (right; ((try simp only [alloc_size]); omega))) | (refine Fr.trans ?_ (by assumption)))); done))) (fun J hJ => ?_)
    (((apply vL_skip); (case h => ((apply ops_store1); (first | exact norm_eq rfl | ((conv => lhs; whnf) <;> exact rfl)); (first | exact norm_eq rfl | ((conv => lhs; whnf) <;> exact rfl)); (first | rfl | assumption); (first | assumption | infer_instance); (first | decide | exact of_decide_eq_true rfl | (simp; done))))); apply vL_nil)
    refine ⟨rfl, hJ _ _ ?_⟩
    haveI hnt : NeB w.heap.size wb := ⟨Blk.ne_type hbw3 hw3 (by decide)⟩
    refine vA_done (by kernel_rfl) (by (first | exact trivial | assumption | infer_instance | ((repeat (first | exact Fr.refl _ _ | assumption | with_reducible apply Fr.allocSet | with_reducible apply Fr.alloc | with_reducible apply Fr.drewN | with_reducible apply Fr.drew | ((with_reducible apply Fr.set); rotate_left; (right; ((try simp only [alloc_size]); omega))) | (refine Fr.trans ?_ (by assumption)))); done))) ?_
    (apply seqP_normal; apply vC_seq; apply vC_region; (iterate 2 (((apply vL_val); (case h => ((apply opv_E); exact rfl))))); apply vL_nil; apply seqP_normal; apply vC_ret)
    (apply ret1; (case h1 => (first | exact norm_eq rfl | ((conv => lhs; whnf) <;> exact rfl))))
    have hfW : Fr (fun k => k = wb ∨ own wt = some k) w2 (w3.setRow wb [.pointer (some ⟨rb, 0, none⟩), vp, wt', we].toArray) := (hfa.mono (fun k _ h => .inr h)).set _ _ (.inl (.inl rfl))
    obtain ⟨L, F⟩ := s1.spawned (K' := fun k => (K k ∨ k = w.heap.size ∨ k = px) ∨ k = fb ∨ k = tx) (w1 := w2) (w2 := w3.setRow wb [.pointer (some ⟨rb, 0, none⟩), vp, wt', we].toArray) (wt' := wt') hf2 (fun k hk => by
        rcases hk with h | rfl | rfl
        · exact .inl h
        · exact .inr hfb
        · exact .inr htx) (hrt.re (fun k hk => by
        rcases hk with h | (h | h) | h
        · exact .inl (.inl h)
        · exact .inl (.inr (.inl h))
        · exact .inr h
        · exact .inl (.inr (.inr h)))) hfW (show Blk _ wb [.pointer (some ⟨rb, 0, none⟩), vp, wt', we] 60 from inferInstance) (ho3.set (Own.ne_blk ho3 hw3 (by decide))) (fun k hk => (hfr3 k hk).imp id (fun h => by rw [alloc_size] at h; exact Nat.le_trans (Nat.le_succ _) h)) hone3
    have hno : ∀ k, K k → ¬ LF X K k := fun k h h' => h'.2 h
    have hFW : Fr (LF X K) w (w3.setRow wb [.pointer (some ⟨rb, 0, none⟩), vp, wt', we].toArray) := hf1.no_any.trans' F (fun k hk => .inl ⟨hk.1, fun h => hk.2 (.inl h)⟩)
    have T2 := T.fr (K' := fun k => (K k ∨ k = w.heap.size ∨ k = px) ∨ k = fb ∨ k = tx) hFW hno (fun k h => .inl (.inl h))
    have nwt : ∀ k, own wt = some k → k < w1.heap.size := s1.hwt.lt
    refine .inr ⟨hfree, rfl, fun k => (K k ∨ k = w.heap.size ∨ k = px) ∨ k = fb ∨ k = tx, lv', tv', wt', (tb, newT fb tx), L, ⟨by simp [T.1], fun i x a hr hx ha => ?_⟩, ⟨fun k h => .inl (.inl h), fun k hk => by
        rcases hk with (h | rfl | rfl) | rfl | rfl
        · exact .inl h
        · exact .inr (Nat.le_refl _)
        · exact .inr hpx
        · exact .inr (Nat.le_trans hf1.size hfb)
        · exact .inr (Nat.le_trans hf1.size htx)⟩, hFW⟩
    by_cases hi : i < ts.length
    · rw [List.getElem?_append_left hi] at hx
      rw [List.getElem?_append_left (by rw [← T.1]; exact hi)] at ha
      exact T2.2 i x a hr hx ha
    · have hle := (List.getElem?_eq_some_iff.1 hx).1
      have e : i = ts.length := by simp at hle; omega
      subst e
      rw [List.getElem?_append_right (Nat.le_refl _), Nat.sub_self] at hx
      rw [T.1, List.getElem?_append_right (Nat.le_refl _), Nat.sub_self] at ha
      cases hx
      cases ha
      refine ⟨rfl, rfl, fun _ => .inl ⟨fb, tx, w.heap.size, px, rfl, .inr (.inl rfl), .inr (.inr rfl), .inl (.inr (.inl rfl)), .inl (.inr (.inr rfl)), bfb.fr hfW (fun h => ?_), btx.fr hfW (fun h => ?_), hbw2.fr hfW (fun h => ?_), hbp2.fr hfW (fun h => ?_), rfl, rfl⟩, fun h => by cases h⟩
      · rcases h with h | h
        · exact Blk.ne_type bfb hw2 (by decide) h
        · exact Own.ne_blk hwt2 bfb (by decide) h
      · rcases h with h | h
        · exact Blk.ne_type btx hw2 (by decide) h
        · have := nwt _ h; omega
      · rcases h with h | h
        · exact Blk.ne_type hbw2 hw2 (by decide) h
        · exact Own.ne_blk hwt2 hbw2 (by decide) h
      · rcases h with h | h
        · exact Blk.ne_type hbp2 hw2 (by decide) h
        · exact Own.ne_blk hwt2 hbp2 (by decide) h
end
end Go.Proofs.Ytaeckjhipmcddaa
