/- Layers 16 to 18: the document's machine takes a step. Layer 16: ChansRun: plain: a step of both machines. Layer 16: ChansRun: channels and events compared. Layer 16: ChansRun: events compared; both machines as they begin. Layer 16: the chapter's example. Layer 16: the chapter's example: the walk. -/
import Derived.Test.YtbaidcnalkdhgaaGreatGm
import Derived.Test.YtbaidcnalkdhgaaGreatEq
import Derived.Test.YtbaidcnalkdhgaaGreatGi
import Derived.Test.YtbaidcnalkdhgaaGreatVo
set_option maxRecDepth 100000
namespace Go.Proofs.YtbaidcnalkdhgaaGreat
open Go Go.Eng
theorem pick14 (v : Value) (xs : List Int) (p : Int) (w : World) (ho : Own w.heap 3 1 iE v xs) (hone : v.oneCell' = true) (hbig : xs.length ≤ 256) (hp : 0 ≤ p ∧ p ≤ 18446744073709551615) :
    Rets Tryz.prog 131 #[v, .int .u64 p] w fun u w' =>
      (xs = [] ∧ u = .tuple #[v, .int .i64 0, .int .u64 0, .bool false] ∧ w = w') ∨
      ∃ (x : Int) (v' : Value), xs[(p % xs.length).toNat]? = some x ∧ u = .tuple #[v', .int .i64 x, .int .u64 (p / xs.length), .bool true] ∧ Fr No w w' ∧ Own w'.heap 3 1 iE v' (without xs (p % xs.length)) ∧ (∀ k, own v' = some k → w.heap.size ≤ k) ∧ v'.oneCell' = true := by
  have hr := ho.rd
  obtain ⟨la, ln, lc, hv⟩ := ho.isSlice
  refine rets_of Tryz.func131 rfl Tryz.ntmps131 rfl rfl (by kernel_rfl) ?_
  (apply vC_seq; apply vC_region; (iterate 4 ((refine vE rfl ?_))); apply vL_nil; apply seqP_normal; (iterate 2 (apply vC_seq)); apply vC_region; ((apply vL_val); (case h => ((apply opv_move); ((conv => lhs; whnf) <;> exact rfl)))); ((apply vL_val); (case h => ((apply opv_len); ((conv => lhs; whnf) <;> exact rfl); assumption))); (refine vE rfl ?_); apply vL_nil; apply seqP_normal)
  refine vC_cond_dec rfl (fun h0 => ?_) (fun h0 => ?_)
  · subst hv
    (apply vC_seq; apply vC_region; (iterate 5 ((refine vE rfl ?_))); apply vL_nil; apply seqP_normal; apply vC_ret; apply seqP_ret)
    (apply ret4; (case h1 => (exact norm_eq rfl)); (case h2 => (exact norm_eq rfl)); (case h3 => (exact norm_eq rfl)); (case h4 => (exact norm_eq rfl)))
    exact .inl ⟨List.eq_nil_of_length_eq_zero (by omega), rfl, rfl⟩
  have hm0 := Int.emod_nonneg p (b := (xs.length : Int)) (by omega)
  have hm1 := Int.emod_lt_of_pos p (b := (xs.length : Int)) (by omega)
  obtain ⟨x, hx⟩ : ∃ x, xs[(p % xs.length).toNat]? = some x := ⟨xs[(p % xs.length).toNat]'(by omega), List.getElem?_eq_getElem _⟩
  (apply vC_skip; apply seqP_normal; apply vC_seq; apply vC_region; ((apply vL_val); (case h => ((apply opv_move); ((conv => lhs; whnf) <;> exact rfl)))); ((apply vL_val); (case h => ((apply opv_len); ((conv => lhs; whnf) <;> exact rfl); assumption))); ((apply vL_val); (case h => ((apply opv_conv_u); exact rfl; (first | omega | (simp only [List.length_map]; omega))))); (refine vE rfl ?_); apply vL_nil; apply seqP_normal; apply vC_seq; apply vC_region; (iterate 2 ((refine vE rfl ?_))); ((apply vL_val); (case h => ((apply opv_rem); exact rfl; exact rfl; (first | omega | (simp only [List.length_map]; omega)); (first | omega | (simp only [List.length_map]; omega))))); ((apply vL_val); (case h => ((apply opv_conv_i); exact rfl; (first | omega | (simp only [List.length_map]; omega))))); (refine vE rfl ?_); apply vL_nil; apply seqP_normal; apply vC_seq)
  refine vC_draw' (fun wf => Fr No w wf) ((Fr.refl No w).drew) ?_
  (refine tk 0 rfl (by kernel_rfl) (by apply Fr.drew; exact Fr.refl _ _) (by intro wf hwf; haveI := From.mk hwf; (((apply opv_move); ((conv => lhs; whnf) <;> exact rfl)))) ?_)
  (refine tkE 1 rfl (by kernel_rfl) (by apply Fr.drew; exact Fr.refl _ _) rfl ?_)
  (refine tk 3 rfl (by kernel_rfl) (by apply Fr.drew; exact Fr.refl _ _) (by intro wf hwf; haveI := From.mk hwf; (((apply opv_move); ((conv => lhs; whnf) <;> exact rfl)))) ?_)
  (refine tkE 4 rfl (by kernel_rfl) (by apply Fr.drew; exact Fr.refl _ _) rfl ?_)
  (refine tk 5 rfl (by kernel_rfl) (by apply Fr.drew; exact Fr.refl _ _) (by intro wf hwf; haveI := From.mk hwf; (((apply opv_indexAddr); ((conv => lhs; whnf) <;> exact rfl); exact rfl; infer_instance; (first | omega | (simp only [List.length_map]; omega)); (first | omega | (simp only [List.length_map]; omega))))) ?_)
  (refine tk 6 rfl (by kernel_rfl) (by apply Fr.drew; exact Fr.refl _ _) (by intro wf hwf; haveI := From.mk hwf; (((apply opv_ld_el); exact rfl; exact rfl; infer_instance; assumption; exact rfl))) ?_)
  (refine tkE 7 rfl (by kernel_rfl) (by apply Fr.drew; exact Fr.refl _ _) rfl ?_)
  (refine tkE 8 rfl (by kernel_rfl) (by apply Fr.drew; exact Fr.refl _ _) rfl ?_)
  (refine tk 9 rfl (by kernel_rfl) (by apply Fr.drew; exact Fr.refl _ _) (by intro wf hwf; haveI := From.mk hwf; (((apply opv_quou); exact rfl; exact rfl; (first | omega | (simp only [List.length_map]; omega)); (first | omega | (simp only [List.length_map]; omega))))) ?_)
  (refine tkc 2 rfl (by kernel_rfl) (by (apply Fr.drew; exact Fr.refl _ _)) rfl (without13 v (p % xs.length) xs w.drew hr (by omega)) rfl ?_)
  rintro v' w1 ⟨hf1, ho1, hfr1, hone1⟩
  have hf : Fr No w w1 := Fr.trans ((Fr.refl No w).drew) hf1
  (refine tk 10 rfl (by kernel_rfl) (by assumption) (by intro wf hwf; haveI := From.mk hwf; (((apply opv_assign); ((conv => lhs; whnf) <;> exact rfl)))) ?_)
  (refine tkE 11 rfl (by kernel_rfl) (by assumption) rfl ?_)
  (refine tkE 12 rfl (by kernel_rfl) (by assumption) rfl ?_)
  (refine tkE 13 rfl (by kernel_rfl) (by assumption) rfl ?_)
  refine vA_done (by kernel_rfl) (by (first | exact trivial | ((assumption); done))) ?_
  (apply seqP_normal; apply vC_ret)
  (apply ret4; (case h1 => (((conv => lhs; whnf) <;> exact rfl))); (case h2 => (exact norm_eq rfl)); (case h3 => (exact norm_eq rfl)); (case h4 => (exact norm_eq rfl)))
  exact .inr ⟨x, v', hx, rfl, hf, ho1, hfr1, hone1⟩
/-- what a step needs -/
structure GSt (P : List (OV × List Do5)) (C : Do5 → List Cs) (w0 : World) (S : MW) : Prop where
  six : P.length ≤ 6
  nto : S.to.length = P.length
  nat : S.at_.length = P.length
  nov : S.ov.length = P.length
  li : S.li.length ≤ 256
  lm : ∀ z ∈ S.li, 0 ≤ z ∧ z < P.length
  at_ : ∀ a ∈ S.at_, 0 ≤ a ∧ a ≤ 100000
  os : GOs S
  ev : S.ev.length ≤ 100000
  ch : 0 < S.ch.length
  ks : ∀ y ∈ P, ∀ (d : Do5), d ∈ y.2 → d.k ≤ 7 ∧ 0 ≤ d.c ∧ d.c < S.ch.length
  cs : ∀ y ∈ P, ∀ (d : Do5), d ∈ y.2 → d.k = 5 → Rd w0.heap 3 csE d.cs.1 (C d) ∧ (C d).length ≤ 1000 ∧ ∀ x ∈ C d, 0 ≤ x.c ∧ x.c < S.ch.length
theorem gos_begin {S : MW} {i : Nat} {a : Int} {x : To} {p : Int} {y : Int} (h : GOs S) (hz : S.li[(p % S.li.length).toNat]? = some y) (hp : 0 ≤ p ∧ p ≤ 18446744073709551615) : GOs (S.begin i a x p) := by
  have hl := (List.getElem?_eq_some_iff.1 hz).1
  have hw := without_len S.li (p % S.li.length)
  have hli : (S.begin i a x p).li.length ≤ S.li.length := hw
  refine ⟨h.ch.to rfl List.length_set (fun d hd => ⟨d, hd, Nat.le_refl _, Nat.le_refl _, fun _ h => h, fun _ h => h⟩), h.buf, by have := h.li; omega, h.fi, fun d hd => ?_, ?_, ?_⟩
  · have := h.cl d hd; omega
  · exact Int.ediv_nonneg hp.1 (by omega)
  · exact Int.le_trans (Int.ediv_le_self _ hp.1) hp.2
section
variable {w w0 : World} {R : Asr} {qb : Nat} {vp : Value} {S : MW}
set_option maxHeartbeats 4000000 in
theorem g_step [Lcl R] {P : List (OV × List Do5)} {C : Do5 → List Cs} (z : Pz16 w0.heap vp P) (g : GSt P C w0 S) (S1 : At (GwA qb vp S * R) w0 No w) (p : Int) (hp : 0 ≤ p ∧ p ≤ 18446744073709551615) :
    Rets Tryz.prog 49 #[pt qb, .int .u64 p] w fun u w' => (MW.step (P.map (·.2)) C S p = none ∧ u = .bool false ∧ At (GwA qb vp S * R) w0 No w') ∨ ∃ S', MW.step (P.map (·.2)) C S p = some S' ∧ u = .bool true ∧ At (GwA qb vp S' * R) w0 No w' := by
  have hle := g.li
  have hnto := g.nto
  have hnat := g.nat
  have hnov := g.nov
  obtain ⟨v, rows, hrows, S2⟩ := gw_open S1
  have hb := gw_blk S2
  rw [gwL] at hb
  have hli := (gw_li S2).1
  have hone := (gw_li S2).2.1
  refine rets_of Tryz.func49 rfl Tryz.ntmps49 rfl rfl (by kernel_rfl) ?_
  (apply vC_seq; apply vC_region; (refine vE rfl ?_); apply vL_nil; apply seqP_normal; apply vC_seq; apply vC_region; (iterate 2 ((refine vE rfl ?_))); (refine vL_val (opv_fieldAddr rfl) ?_); ((apply vL_val); (case h => ((apply opv_loadb1); exact rfl; exact rfl; assumption; exact rfl))); (refine vE rfl ?_))
  refine vL_callF rfl (pick14 v.li S.li p w hli hone hle hp) rfl ?_
  rintro _ w1 (⟨hnil, rfl, rfl⟩ | ⟨zz, vl1, hz, rfl, hf1, ho1, hfr1, hone1⟩)
  · have hst : MW.step (P.map (·.2)) C S p = none := by unfold MW.step; rw [hnil]; rfl
    obtain ⟨la, lb, lc, hvl⟩ := hli.isSlice
    rw [hvl]
    ((iterate 24 (first | with_reducible apply vC_seq | with_reducible apply vC_region | with_reducible apply seqP_normal | ((with_reducible apply vC_cond_true); exact rfl) | (refine vE rfl ?_) | (refine vL_val (opv_not rfl) ?_) | with_reducible apply vL_nil)); apply vC_ret; apply seqP_ret)
    (apply ret1; (case h1 => (exact norm_eq rfl)))
    exact .inl ⟨hst, rfl, S1⟩
  obtain ⟨hz0, hz1⟩ := g.lm zz (List.mem_of_getElem? hz)
  obtain ⟨i, rfl⟩ : ∃ i : Nat, zz = i := ⟨zz.toNat, by omega⟩
  have hi : i < P.length := by omega
  obtain ⟨a, ha⟩ : ∃ a, S.at_[i]? = some a := ⟨_, List.getElem?_eq_getElem (by rw [g.nat]; exact hi)⟩
  obtain ⟨x, hx⟩ : ∃ x, S.to[i]? = some x := ⟨_, List.getElem?_eq_getElem (by rw [g.nto]; exact hi)⟩
  have hx' : S.to[((i : Nat) : Int).toNat]? = some x := by rw [Int.toNat_natCast]; exact hx
  obtain ⟨a0, a1⟩ := g.at_ a (List.mem_of_getElem? ha)
  obtain ⟨pos, rfl⟩ : ∃ pos : Nat, a = pos := ⟨a.toNat, by omega⟩
  have ha' : S.at_[((i : Nat) : Int).toNat]? = some (pos : Int) := by rw [Int.toNat_natCast]; exact ha
  have hst : MW.step (P.map (·.2)) C S p = some ((S.begin i pos x p).act i (doAt16 (P.map (·.2)) i pos) (C (doAt16 (P.map (·.2)) i pos))) := by
    unfold MW.step; rw [hz]; simp only [Int.toNat_natCast, ha, hx]
  obtain ⟨d, hd⟩ : ∃ d, P[i]? = some d := ⟨_, List.getElem?_eq_getElem hi⟩
  have hd' : P[((i : Nat) : Int).toNat]? = some d := by rw [Int.toNat_natCast]; exact hd
  have hdo : doAt16 (P.map (·.2)) i pos = (d.2[pos]?).getD do0 := by unfold doAt16; rw [List.getElem?_map, hd]; rfl
  obtain ⟨la, lb, lc, hvl1⟩ := ho1.isSlice
  subst hvl1
  have S3 := S2.frN hf1
  have hb1 := gw_blk S3
  rw [gwL] at hb1
  ((iterate 9 ((refine vE rfl ?_))); apply vL_nil; apply seqP_normal; (iterate 2 (apply vC_seq)); apply vC_region; (refine vE rfl ?_); (refine vL_val (opv_not rfl) ?_); apply vL_nil; apply seqP_normal; ((apply vC_cond_false); exact rfl); apply vC_skip; (iterate 20 (first | with_reducible apply vC_seq | with_reducible apply vC_region | with_reducible apply seqP_normal | (refine vE rfl ?_) | (refine vL_val (opv_fieldAddr rfl) ?_) | with_reducible apply vL_nil | ((with_reducible apply vL_skip); (case h => ((with_reducible apply ops_store1); exact norm_eq rfl; exact norm_eq rfl; (first | rfl | assumption); assumption; (first | decide | exact of_decide_eq_true rfl | (simp; done))))) | ((with_reducible apply vL_skip); (case h => ((with_reducible apply ops_store1); exact norm_eq rfl; exact norm_eq rfl; (first | rfl | assumption); infer_instance; (first | decide | exact of_decide_eq_true rfl | (simp; done))))))); ((apply vL_val); (case h => ((apply opv_loadb1); exact rfl; exact rfl; infer_instance; exact rfl))); (refine vE rfl ?_))
  generalize hvl1 : Value.slice la lb lc = vl1 at *
  obtain ⟨_, _, up⟩ := gw_li S2
  have hb0 := gw_blk S2
  have S4 := up vl1 (without S.li (p % S.li.length)) (w1.setRow qb (gwL vp { v with li := vl1 } S.now S.made S.rest).toArray) ((hf1.mono (fun _ _ h => h.elim)).set _ _ (.inl (.inl rfl))) (Blk.set hb1) (ho1.set (Own.ne_blk ho1 hb1 (by decide))) hone1 (fun k hk => .inr (hfr1 k hk))
  have S5 := gw_num S4 S.now S.made (p / S.li.length)
  refine vL_gen (fun w' => At _ w0 No w') S5 ?_
  clear S5 S4 S3 S2 hb1 hb hb0 up ho1 hfr1 hf1 hli
  intro w4 S6
  have hb4 := gw_blk S6
  rw [gwL] at hb4
  dsimp only at hb4
  have hto4 := (gw_to S6).1.rd
  dsimp only at hto4
  (((apply vL_val); (case h => ((apply opv_indexAddr); ((conv => lhs; whnf) <;> exact rfl); exact rfl; assumption; (first | omega | (simp only [List.length_map]; omega)); (first | omega | (simp only [List.length_map]; omega))))); ((apply vL_val); (case h => ((apply opv_ld_eln); exact rfl; exact rfl; assumption; assumption))); ((apply vL_val); (case h => (apply opw_alloc))); ((apply vL_skip); (case h => ((apply ops_storen); exact norm_eq rfl; exact norm_eq rfl; exact rfl; exact (fun u hu => EncOk.one _ u hu); infer_instance; (first | decide | exact of_decide_eq_true rfl | (simp; done))))); apply vL_nil; apply seqP_normal; apply vC_seq)
  have S7 := ((S6.alloc (cs := [.int .i64 0, .int .i64 0, .bool false]) (T := 171)).set (cs' := [.int .i64 x.c, .int .i64 x.v, .bool x.ok])).ac (show _ = GwP qb vp { v with li := vl1 } rows { S with li := without S.li (p % S.li.length), rest := p / S.li.length } * (Big (rows.map RrA) * (Pt w4.heap.size [.int .i64 x.c, .int .i64 x.v, .bool x.ok] 171 * R)) by ac_rfl)
  refine vC_gen (fun w' => At _ w0 No w') S7 ?_
  clear S7 S6 hb4 hto4
  intro w5 SE
  generalize w4.heap.size = b9 at SE ⊢
  have hb5 := gw_blk SE
  rw [gwL] at hb5
  dsimp only at hb5
  have h9 := (SE.ac (show _ = Pt b9 [.int .i64 x.c, .int .i64 x.v, .bool x.ok] 171 * (GwP qb vp { v with li := vl1 } rows { S with li := without S.li (p % S.li.length), rest := p / S.li.length } * (Big (rows.map RrA) * R)) by ac_rfl)).blk
  have hat5 := (gw_at_ SE).1
  dsimp only at hat5
  have hev5 := g.ev
  have hE0 : ∃ e, Blk w5.drew.heap qb [vp, v.ch, v.at_, v.to, v.ov, vl1, e, v.fi, .int .i64 S.now, v.tm, .int .i64 S.made, .int .u64 (p / S.li.length)] 97 := ⟨_, inferInstance⟩
  have hE2 : ∃ e, Blk (w5.drew.alloc (.cells #[.int .i64 i, .int .i64 pos, .int .i64 x.c, .int .i64 x.v, .bool x.ok] 100)).heap qb [vp, v.ch, v.at_, v.to, v.ov, vl1, e, v.fi, .int .i64 S.now, v.tm, .int .i64 S.made, .int .u64 (p / S.li.length)] 97 := ⟨_, inferInstance⟩
  refine vC_meet0 9223371487098961920 (fun w' => ∃ v6, At (GwP qb vp { v with li := vl1, ev := v6 } rows { S with li := without S.li (p % S.li.length), rest := p / S.li.length, ev := S.ev ++ [⟨i, pos, x.c, x.v, x.ok⟩] } * (Big (rows.map RrA) * (Pt b9 [.int .i64 x.c, .int .i64 x.v, .bool x.ok] 171 * R))) w0 No w') ?_ ?_
  · refine vC_draw' ((fun wf => (∃ e, Blk wf.heap qb [vp, v.ch, v.at_, v.to, v.ov, vl1, e, v.fi, .int .i64 S.now, v.tm, .int .i64 S.made, .int .u64 (p / S.li.length)] 97) ∧ Blk wf.heap b9 [.int .i64 x.c, .int .i64 x.v, .bool x.ok] 171 ∧ Rd wf.heap 1 iE v.at_ S.at_)) (by refine ⟨?_, ?_, ?_⟩ <;> first | assumption | infer_instance) ?_
    (refine tkE 0 rfl (by kernel_rfl) (by refine ⟨?_, ?_, ?_⟩ <;> first | assumption | infer_instance) rfl ?_)
    (refine tkE 1 rfl (by kernel_rfl) (by refine ⟨?_, ?_, ?_⟩ <;> first | assumption | infer_instance) rfl ?_)
    (refine tkE 2 rfl (by kernel_rfl) (by refine ⟨?_, ?_, ?_⟩ <;> first | assumption | infer_instance) rfl ?_)
    (refine tk 3 rfl (by kernel_rfl) (by refine ⟨?_, ?_, ?_⟩ <;> first | assumption | infer_instance) (by rintro wf ⟨⟨e', hwa⟩, hwb, hwc⟩; (((apply opv_fieldAddr); exact rfl))) ?_)
    (refine tkE 5 rfl (by kernel_rfl) (by refine ⟨?_, ?_, ?_⟩ <;> first | assumption | infer_instance) rfl ?_)
    (refine tkE 6 rfl (by kernel_rfl) (by refine ⟨?_, ?_, ?_⟩ <;> first | assumption | infer_instance) rfl ?_)
    (refine tkE 7 rfl (by kernel_rfl) (by refine ⟨?_, ?_, ?_⟩ <;> first | assumption | infer_instance) rfl ?_)
    (refine tk 8 rfl (by kernel_rfl) (by refine ⟨?_, ?_, ?_⟩ <;> first | assumption | infer_instance) (by rintro wf ⟨⟨e', hwa⟩, hwb, hwc⟩; (((apply opv_fieldAddr); exact rfl))) ?_)
    (refine tk 9 rfl (by kernel_rfl) (by refine ⟨?_, ?_, ?_⟩ <;> first | assumption | infer_instance) (by rintro wf ⟨⟨e', hwa⟩, hwb, hwc⟩; (((apply opv_loadb1); exact rfl; exact rfl; assumption; exact rfl))) ?_)
    (refine tkE 10 rfl (by kernel_rfl) (by refine ⟨?_, ?_, ?_⟩ <;> first | assumption | infer_instance) rfl ?_)
    (refine tk 11 rfl (by kernel_rfl) (by refine ⟨?_, ?_, ?_⟩ <;> first | assumption | infer_instance) (by rintro wf ⟨⟨e', hwa⟩, hwb, hwc⟩; (((apply opv_indexAddr); ((conv => lhs; whnf) <;> exact rfl); exact rfl; assumption; (first | omega | (simp only [List.length_map]; omega)); (first | omega | (simp only [List.length_map]; omega))))) ?_)
    (refine tk 12 rfl (by kernel_rfl) (by refine ⟨?_, ?_, ?_⟩ <;> first | assumption | infer_instance) (by rintro wf ⟨⟨e', hwa⟩, hwb, hwc⟩; (((apply opv_ld_el); exact rfl; exact rfl; assumption; assumption; exact rfl))) ?_)
    (refine tk 13 rfl (by kernel_rfl) (by refine ⟨?_, ?_, ?_⟩ <;> first | assumption | infer_instance) (by rintro wf ⟨⟨e', hwa⟩, hwb, hwc⟩; (((apply opv_fieldAddr); exact rfl))) ?_)
    (refine tk 14 rfl (by kernel_rfl) (by refine ⟨?_, ?_, ?_⟩ <;> first | assumption | infer_instance) (by rintro wf ⟨⟨e', hwa⟩, hwb, hwc⟩; (((apply opv_loadb1); exact rfl; exact rfl; assumption; exact rfl))) ?_)
    (refine tk 15 rfl (by kernel_rfl) (by refine ⟨?_, ?_, ?_⟩ <;> first | assumption | infer_instance) (by rintro wf ⟨⟨e', hwa⟩, hwb, hwc⟩; (((apply opv_fieldAddr); exact rfl))) ?_)
    (refine tk 16 rfl (by kernel_rfl) (by refine ⟨?_, ?_, ?_⟩ <;> first | assumption | infer_instance) (by rintro wf ⟨⟨e', hwa⟩, hwb, hwc⟩; (((apply opv_loadb1); exact rfl; exact rfl; assumption; exact rfl))) ?_)
    (refine tk 17 rfl (by kernel_rfl) (by refine ⟨?_, ?_, ?_⟩ <;> first | assumption | infer_instance) (by rintro wf ⟨⟨e', hwa⟩, hwb, hwc⟩; (((apply opv_fieldAddr); exact rfl))) ?_)
    (refine tk 18 rfl (by kernel_rfl) (by refine ⟨?_, ?_, ?_⟩ <;> first | assumption | infer_instance) (by rintro wf ⟨⟨e', hwa⟩, hwb, hwc⟩; (((apply opv_loadb1); exact rfl; exact rfl; assumption; exact rfl))) ?_)
    (refine tk 19 rfl (by kernel_rfl) (by refine ⟨?_, ?_, ?_⟩ <;> first | assumption | infer_instance) (by rintro wf ⟨⟨e', hwa⟩, hwb, hwc⟩; (((apply opv_buildS); exact rfl; exact (rfl : _ = some [_, _, _, _, _])))) ?_)
    refine vA_two 4 20 rfl rfl (by kernel_rfl) (by refine ⟨?_, ?_, ?_⟩ <;> first | assumption | infer_instance) (fun K hK => ?_) (fun K hK => ?_)
    · (((apply vL_val); (case h => ((apply opv_loadb1); exact rfl; exact rfl; assumption; exact rfl))); apply vL_nil)
      refine ⟨rfl, hK _ _ ?_⟩
      refine vA_only 20 rfl (by kernel_rfl) (by refine ⟨?_, ?_, ?_⟩ <;> first | assumption | infer_instance) (fun K hK => ?_)
      (((apply vL_val); (case h => ((apply opw_buildSl); exact rfl; exact rfl; exact rfl; exact (rfl : _ = some [_, _, _, _, _])))); apply vL_nil)
      refine ⟨rfl, hK _ _ ?_⟩
      refine vA_only 21 rfl (by kernel_rfl) (by refine ⟨?_, ?_, ?_⟩ <;> first | assumption | infer_instance) (fun K hK => ?_)
      obtain ⟨o6, oo6, up6⟩ := gw_ev SE.drew
      have hb6 := gw_blk SE.drew
      refine vL_append (enc := ev5) (xs := ({ S with li := without S.li (p % S.li.length), rest := p / S.li.length } : MW).ev) (ys := [⟨i, pos, x.c, x.v, x.ok⟩]) (T := 100) (sz := 5) (by (((conv => lhs; whnf) <;> exact rfl))) (by (exact norm_eq rfl)) (Own.alloc o6) (Rd.new1 _ _ rfl) rfl (by decide) ?_ ?_ ?_
      · simp [maxLen]; omega
      · simp; omega
      intro v6 w6 ho6 hf6 hfr6 hone6 _
      have hfa6 : Fr (fun j => own ({ v with li := vl1 } : GV).ev = some j) w5.drew w6 := ((Fr.refl _ w5.drew).alloc _).trans' hf6 (fun i hi => .inl hi)
      have hb26 := hb6.fr hfa6 (fun h => Own.ne_blk o6 hb6 (by decide) h)
      have key6 : ∀ cs', cs' = gwL vp { ({ v with li := vl1 } : GV) with ev := v6 } ({ S with li := without S.li (p % S.li.length), rest := p / S.li.length } : MW).now ({ S with li := without S.li (p % S.li.length), rest := p / S.li.length } : MW).made ({ S with li := without S.li (p % S.li.length), rest := p / S.li.length } : MW).rest → At (GwP qb vp { ({ v with li := vl1 } : GV) with ev := v6 } rows { ({ S with li := without S.li (p % S.li.length), rest := p / S.li.length } : MW) with ev := ({ S with li := without S.li (p % S.li.length), rest := p / S.li.length } : MW).ev ++ [⟨i, pos, x.c, x.v, x.ok⟩] } * (Big (rows.map RrA) * (Pt b9 [.int .i64 x.c, .int .i64 x.v, .bool x.ok] 171 * R))) w0 No (w6.setRow qb cs'.toArray) := fun cs' e => by
        subst e
        exact up6 v6 _ _ ((hfa6.mono (fun k _ h => .inr h)).set _ _ (.inl (.inl rfl))) (Blk.set hb26) (ho6.set (Own.ne_blk ho6 hb26 (by decide))) hone6 (fun k hk => (hfr6 k hk).imp (fun h => h) (fun h => by rw [alloc_size] at h; omega))
      rw [gwL] at hb26
      try dsimp only at hb26
      have hE6 : ∃ e, Blk w6.heap qb [vp, v.ch, v.at_, v.to, v.ov, vl1, e, v.fi, .int .i64 S.now, v.tm, .int .i64 S.made, .int .u64 (p / S.li.length)] 97 := ⟨_, hb26⟩
      have h96 := (h9.frN (Fr.refl No w5).drew).fr hfa6 (fun h => Own.ne_blk o6 (h9.frN (Fr.refl No w5).drew) (by decide) h)
      have hat6 : Rd w6.heap 1 iE v.at_ S.at_ := (Rd.frN (Fr.refl No w5).drew hat5.rd).fr hfa6 (fun k hk h => Own.ne_own (Own.frN (Fr.refl No w5).drew hat5) o6 (by decide) k hk h)
      refine vL_nil ⟨rfl, hK _ _ ?_⟩
      (refine tkE 22 rfl (by kernel_rfl) (by refine ⟨?_, ?_, ?_⟩ <;> first | assumption | infer_instance) rfl ?_)
      (refine tk 23 rfl (by kernel_rfl) (by refine ⟨?_, ?_, ?_⟩ <;> first | assumption | infer_instance) (by rintro wf ⟨⟨e', hwa⟩, hwb, hwc⟩; (((apply opv_fieldAddr); exact rfl))) ?_)
      refine vA_only 24 rfl (by kernel_rfl) (by refine ⟨?_, ?_, ?_⟩ <;> first | assumption | infer_instance) (fun K hK => ?_)
      (((apply vL_skip); (case h => ((apply ops_store1); exact norm_eq rfl; ((conv => lhs; whnf) <;> exact rfl); (first | rfl | assumption); assumption; (first | decide | exact of_decide_eq_true rfl | (simp; done))))); apply vL_nil)
      have SF := key6 _ rfl
      have hE7 := gw_blk SF
      have h97 := (SF.ac (show _ = Pt b9 [.int .i64 x.c, .int .i64 x.v, .bool x.ok] 171 * (GwP qb vp { v with li := vl1, ev := v6 } rows { S with li := without S.li (p % S.li.length), rest := p / S.li.length, ev := S.ev ++ [⟨i, pos, x.c, x.v, x.ok⟩] } * (Big (rows.map RrA) * R)) by ac_rfl)).blk
      have hat7 := (gw_at_ SF).1.rd
      refine ⟨rfl, hK _ _ ?_⟩
      refine vA_done (by kernel_rfl) ⟨⟨_, hE7⟩, h97, hat7⟩ ?_
      exact ⟨rfl, by ((apply same_updN; (iterate 24 (((refine same_updO ?_ ?_); rotate_left; exact rfl))); apply same_updN); exact fun _ _ => rfl), v6, SF⟩
    · (((apply vL_val); (case h => ((apply opw_buildSl); exact rfl; exact rfl; exact rfl; exact (rfl : _ = some [_, _, _, _, _])))); apply vL_nil)
      refine ⟨rfl, hK _ _ ?_⟩
      refine vA_only 4 rfl (by kernel_rfl) (by refine ⟨?_, ?_, ?_⟩ <;> first | assumption | infer_instance) (fun K hK => ?_)
      (((apply vL_val); (case h => ((apply opv_loadb1); exact rfl; exact rfl; infer_instance; exact rfl))); apply vL_nil)
      refine ⟨rfl, hK _ _ ?_⟩
      refine vA_only 21 rfl (by kernel_rfl) (by refine ⟨?_, ?_, ?_⟩ <;> first | assumption | infer_instance) (fun K hK => ?_)
      obtain ⟨o6, oo6, up6⟩ := gw_ev SE.drew
      have hb6 := gw_blk SE.drew
      refine vL_append (enc := ev5) (xs := ({ S with li := without S.li (p % S.li.length), rest := p / S.li.length } : MW).ev) (ys := [⟨i, pos, x.c, x.v, x.ok⟩]) (T := 100) (sz := 5) (by (((conv => lhs; whnf) <;> exact rfl))) (by (exact norm_eq rfl)) (Own.alloc o6) (Rd.new1 _ _ rfl) rfl (by decide) ?_ ?_ ?_
      · simp [maxLen]; omega
      · simp; omega
      intro v6 w6 ho6 hf6 hfr6 hone6 _
      have hfa6 : Fr (fun j => own ({ v with li := vl1 } : GV).ev = some j) w5.drew w6 := ((Fr.refl _ w5.drew).alloc _).trans' hf6 (fun i hi => .inl hi)
      have hb26 := hb6.fr hfa6 (fun h => Own.ne_blk o6 hb6 (by decide) h)
      have key6 : ∀ cs', cs' = gwL vp { ({ v with li := vl1 } : GV) with ev := v6 } ({ S with li := without S.li (p % S.li.length), rest := p / S.li.length } : MW).now ({ S with li := without S.li (p % S.li.length), rest := p / S.li.length } : MW).made ({ S with li := without S.li (p % S.li.length), rest := p / S.li.length } : MW).rest → At (GwP qb vp { ({ v with li := vl1 } : GV) with ev := v6 } rows { ({ S with li := without S.li (p % S.li.length), rest := p / S.li.length } : MW) with ev := ({ S with li := without S.li (p % S.li.length), rest := p / S.li.length } : MW).ev ++ [⟨i, pos, x.c, x.v, x.ok⟩] } * (Big (rows.map RrA) * (Pt b9 [.int .i64 x.c, .int .i64 x.v, .bool x.ok] 171 * R))) w0 No (w6.setRow qb cs'.toArray) := fun cs' e => by
        subst e
        exact up6 v6 _ _ ((hfa6.mono (fun k _ h => .inr h)).set _ _ (.inl (.inl rfl))) (Blk.set hb26) (ho6.set (Own.ne_blk ho6 hb26 (by decide))) hone6 (fun k hk => (hfr6 k hk).imp (fun h => h) (fun h => by rw [alloc_size] at h; omega))
      rw [gwL] at hb26
      try dsimp only at hb26
      have hE6 : ∃ e, Blk w6.heap qb [vp, v.ch, v.at_, v.to, v.ov, vl1, e, v.fi, .int .i64 S.now, v.tm, .int .i64 S.made, .int .u64 (p / S.li.length)] 97 := ⟨_, hb26⟩
      have h96 := (h9.frN (Fr.refl No w5).drew).fr hfa6 (fun h => Own.ne_blk o6 (h9.frN (Fr.refl No w5).drew) (by decide) h)
      have hat6 : Rd w6.heap 1 iE v.at_ S.at_ := (Rd.frN (Fr.refl No w5).drew hat5.rd).fr hfa6 (fun k hk h => Own.ne_own (Own.frN (Fr.refl No w5).drew hat5) o6 (by decide) k hk h)
      refine vL_nil ⟨rfl, hK _ _ ?_⟩
      (refine tkE 22 rfl (by kernel_rfl) (by refine ⟨?_, ?_, ?_⟩ <;> first | assumption | infer_instance) rfl ?_)
      (refine tk 23 rfl (by kernel_rfl) (by refine ⟨?_, ?_, ?_⟩ <;> first | assumption | infer_instance) (by rintro wf ⟨⟨e', hwa⟩, hwb, hwc⟩; (((apply opv_fieldAddr); exact rfl))) ?_)
      refine vA_only 24 rfl (by kernel_rfl) (by refine ⟨?_, ?_, ?_⟩ <;> first | assumption | infer_instance) (fun K hK => ?_)
      (((apply vL_skip); (case h => ((apply ops_store1); exact norm_eq rfl; ((conv => lhs; whnf) <;> exact rfl); (first | rfl | assumption); assumption; (first | decide | exact of_decide_eq_true rfl | (simp; done))))); apply vL_nil)
      have SF := key6 _ rfl
      have hE7 := gw_blk SF
      have h97 := (SF.ac (show _ = Pt b9 [.int .i64 x.c, .int .i64 x.v, .bool x.ok] 171 * (GwP qb vp { v with li := vl1, ev := v6 } rows { S with li := without S.li (p % S.li.length), rest := p / S.li.length, ev := S.ev ++ [⟨i, pos, x.c, x.v, x.ok⟩] } * (Big (rows.map RrA) * R)) by ac_rfl)).blk
      have hat7 := (gw_at_ SF).1.rd
      refine ⟨rfl, hK _ _ ?_⟩
      refine vA_done (by kernel_rfl) ⟨⟨_, hE7⟩, h97, hat7⟩ ?_
      exact ⟨rfl, by ((apply same_updN; (iterate 24 (((refine same_updO ?_ ?_); rotate_left; exact rfl))); apply same_updN); exact fun _ _ => rfl), v6, SF⟩
  rintro junk6 w6 ⟨v6, S8⟩
  clear SE hb5 h9 hat5 hev5 hE0 hE2
  have hb6 := gw_blk S8
  rw [gwL] at hb6
  dsimp only at hb6
  have hto6 := (gw_to S8).1
  dsimp only at hto6
  have hto6r := hto6.rd
  (apply seqP_normal; apply vC_seq; apply vC_region; (iterate 2 ((refine vE rfl ?_))); (refine vL_val (opv_fieldAddr rfl) ?_); ((apply vL_val); (case h => ((apply opv_loadb1); exact rfl; exact rfl; assumption; exact rfl))); (refine vE rfl ?_); ((apply vL_val); (case h => ((apply opv_buildS); exact rfl; exact (rfl : _ = some [_, _, _])))); ((apply vL_val); (case h => ((apply opv_indexAddr); ((conv => lhs; whnf) <;> exact rfl); exact rfl; assumption; (first | omega | (simp only [List.length_map]; omega)); (first | omega | (simp only [List.length_map]; omega))))))
  refine vL_storeElS (enc := toE) (xs := S.to) (x0 := x) (us := [.int .i64 0, .int .i64 0, .bool false]) ⟨0, 0, false⟩ rfl rfl hx' rfl (by intro u hu; simp at hu; rcases hu with rfl | rfl | rfl <;> rfl) rfl (by simp) hto6 ?_
  intro w7 ho7 hf7
  rw [Int.toNat_natCast] at ho7
  have S9 := gw_sto S8 hf7 ho7
  dsimp only at S9
  clear S8 hb6 hto6 hto6r hf7 ho7
  have SS : S.begin i pos x p = { S with li := without S.li (p % S.li.length), rest := p / S.li.length, ev := S.ev ++ [⟨i, pos, x.c, x.v, x.ok⟩], to := S.to.set i ⟨0, 0, false⟩, at_ := S.at_.set i ((pos : Int) + 1) } := rfl
  (apply vL_nil; apply seqP_normal; apply vC_seq; apply vC_region; ((apply vL_val); (case h => ((apply opv_buildS); exact rfl; exact (rfl : _ = some [_, _, _, _, _])))); ((apply vL_val); (case h => (apply opw_alloc))); ((apply vL_skip); (case h => ((apply ops_storen); exact norm_eq rfl; exact norm_eq rfl; exact rfl; (intro u hu; simp at hu; rcases hu with rfl | rfl | rfl <;> (first | rfl | assumption)); infer_instance; (first | decide | exact of_decide_eq_true rfl | (simp; done))))); apply vL_nil; apply seqP_normal; (iterate 2 (apply vC_seq)))
  refine vC_gen (fun w' => Fr No w7 w' ∧ w7.heap.size < w'.heap.size ∧ Blk w'.heap w7.heap.size (do5 do0) 167) ⟨by (apply Fr.allocSet; exact Fr.refl _ _), by simp, Blk.as inferInstance rfl⟩ ?_
  rintro w8 ⟨hf8, hlt8, bd8⟩
  have hb7 := gw_blk S9
  rw [gwL] at hb7
  dsimp only at hb7
  have hat7 := (gw_at_ S9).1
  dsimp only at hat7
  have hP8 := (z.frN (S9.fr.trans hf8)).hP
  have hPd8 := (z.frN (S9.fr.trans hf8)).hPi d (List.mem_of_getElem? hd)
  have hP7 := (z.frN S9.fr).hP
  have hPd7 := (z.frN S9.fr).hPi d (List.mem_of_getElem? hd)
  have hat7r := hat7.rd
  have hat8 := hat7r.frN hf8
  have hb8 := hb7.frN hf8
  have hdone := d.1.2
  have hPs := hP8.small
  have hPds := hPd8.small
  have hvone := z.one
  (with_reducible apply vC_drawQ); ((iterate 16 (first | ((with_reducible apply vQ_op); (case hi => exact rfl); (case hf => kernel_rfl); (case hS => exact Dr.refl _); (case hy => (intro j; ((with_reducible apply opv_E); exact rfl)))) | ((with_reducible apply vQ_op); (case hi => exact rfl); (case hf => kernel_rfl); (case hS => exact Dr.refl _); (case hy => (intro j; ((with_reducible apply opv_loadb1); exact rfl; exact rfl; assumption; exact rfl)))) | ((with_reducible apply vQ_op); (case hi => exact rfl); (case hf => kernel_rfl); (case hS => exact Dr.refl _); (case hy => (intro j; ((with_reducible apply opv_fieldAddr); exact rfl)))) | ((with_reducible apply vQ_op); (case hi => exact rfl); (case hf => kernel_rfl); (case hS => exact Dr.refl _); (case hy => (intro j; ((with_reducible apply opv_indexAddr); ((conv => lhs; whnf) <;> exact rfl); exact rfl; assumption; (first | omega | (simp only [List.length_map]; omega)); (first | omega | (simp only [List.length_map]; omega)))))) | ((with_reducible apply vQ_op); (case hi => exact rfl); (case hf => kernel_rfl); (case hS => exact Dr.refl _); (case hy => (intro j; ((with_reducible apply opv_ld_el); exact rfl; exact rfl; assumption; assumption; exact rfl)))) | ((with_reducible apply vQ_op); (case hi => exact rfl); (case hf => kernel_rfl); (case hS => exact Dr.refl _); (case hy => (intro j; ((with_reducible apply opv_len); ((conv => lhs; whnf) <;> exact rfl); assumption)))))); ((apply vQ_end); (case hi => exact rfl); (case hf => kernel_rfl); (case hS => exact Dr.refl _)))
  with_reducible apply seqP_normal
  generalize hdd : (d.2[pos]?).getD do0 = dd at hdo
  refine vC_meet0 10141050059320924539439263252480 (fun w' => Fr No w7 w' ∧ w7.heap.size < w'.heap.size ∧ Blk w'.heap w7.heap.size (do5 dd) 167) ?_ ?_
  · by_cases hpl : pos < d.2.length
    · obtain ⟨q, hq⟩ : ∃ q, d.2[pos]? = some q := ⟨d.2[pos], by simp [hpl]⟩
      have hq' : d.2[((pos : Nat) : Int).toNat]? = some q := by rw [Int.toNat_natCast]; exact hq
      have hdq : dd = q := by rw [← hdd, hq]; rfl
      refine vC_condT rfl (decide_eq_true (by omega)) ?_
      have hq2 := q.cs.2
      refine vC_draw' (fun wf => Fr No w7 wf) hf8.drew.drew ?_
      (refine tkE 0 rfl (by kernel_rfl) (by (iterate 2 (apply Fr.drew)); assumption) rfl ?_)
      (refine tkE 1 rfl (by kernel_rfl) (by (iterate 2 (apply Fr.drew)); assumption) rfl ?_)
      (refine tk 2 rfl (by kernel_rfl) (by (iterate 2 (apply Fr.drew)); assumption) (by intro wf hwf; haveI := From.mk hwf; (((apply opv_fieldAddr); exact rfl))) ?_)
      (refine tk 3 rfl (by kernel_rfl) (by (iterate 2 (apply Fr.drew)); assumption) (by intro wf hwf; haveI := From.mk hwf; (((apply opv_loadb1); exact rfl; exact rfl; infer_instance; exact rfl))) ?_)
      (refine tkE 4 rfl (by kernel_rfl) (by (iterate 2 (apply Fr.drew)); assumption) rfl ?_)
      (refine tk 5 rfl (by kernel_rfl) (by (iterate 2 (apply Fr.drew)); assumption) (by intro wf hwf; haveI := From.mk hwf; (((apply opv_indexAddr); ((conv => lhs; whnf) <;> exact rfl); exact rfl; infer_instance; (first | omega | (simp only [List.length_map]; omega)); (first | omega | (simp only [List.length_map]; omega))))) ?_)
      (refine tk 6 rfl (by kernel_rfl) (by (iterate 2 (apply Fr.drew)); assumption) (by intro wf hwf; haveI := From.mk hwf; (((apply opv_ld_el); exact rfl; exact rfl; infer_instance; assumption; exact rfl))) ?_)
      (refine tkE 7 rfl (by kernel_rfl) (by (iterate 2 (apply Fr.drew)); assumption) rfl ?_)
      (refine tkE 8 rfl (by kernel_rfl) (by (iterate 2 (apply Fr.drew)); assumption) rfl ?_)
      (refine tk 9 rfl (by kernel_rfl) (by (iterate 2 (apply Fr.drew)); assumption) (by intro wf hwf; haveI := From.mk hwf; (((apply opv_fieldAddr); exact rfl))) ?_)
      (refine tk 10 rfl (by kernel_rfl) (by (iterate 2 (apply Fr.drew)); assumption) (by intro wf hwf; haveI := From.mk hwf; (((apply opv_loadb1); exact rfl; exact rfl; infer_instance; exact rfl))) ?_)
      (refine tkE 11 rfl (by kernel_rfl) (by (iterate 2 (apply Fr.drew)); assumption) rfl ?_)
      (refine tk 12 rfl (by kernel_rfl) (by (iterate 2 (apply Fr.drew)); assumption) (by intro wf hwf; haveI := From.mk hwf; (((apply opv_indexAddr); ((conv => lhs; whnf) <;> exact rfl); exact rfl; infer_instance; (first | omega | (simp only [List.length_map]; omega)); (first | omega | (simp only [List.length_map]; omega))))) ?_)
      (refine tk 13 rfl (by kernel_rfl) (by (iterate 2 (apply Fr.drew)); assumption) (by intro wf hwf; haveI := From.mk hwf; (((apply opv_ld_el); exact rfl; exact rfl; infer_instance; assumption; exact rfl))) ?_)
      (refine tk 14 rfl (by kernel_rfl) (by (iterate 2 (apply Fr.drew)); assumption) (by intro wf hwf; haveI := From.mk hwf; (((apply opv_indexAddr); ((conv => lhs; whnf) <;> exact rfl); exact rfl; infer_instance; (first | omega | (simp only [List.length_map]; omega)); (first | omega | (simp only [List.length_map]; omega))))) ?_)
      (refine tk 15 rfl (by kernel_rfl) (by (iterate 2 (apply Fr.drew)); assumption) (by intro wf hwf; haveI := From.mk hwf; (((apply opv_ld_eln); exact rfl; exact rfl; infer_instance; assumption))) ?_)
      refine vA_only 16 rfl (by kernel_rfl) hf8.drew.drew (fun J hJ => ?_)
      (((apply vL_skip); (case h => ((apply ops_storen); exact norm_eq rfl; exact norm_eq rfl; exact rfl; exact (fun u hu => EncOk.one _ u hu); assumption; (first | decide | exact of_decide_eq_true rfl | (simp; done))))); apply vL_nil)
      refine ⟨rfl, hJ _ _ ?_⟩
      refine vA_done (by kernel_rfl) (hf8.drew.drew.set _ _ (.inr (Nat.le_refl _))) ?_
      refine ⟨rfl, by ((apply same_updN; (iterate 16 (((refine same_updO ?_ ?_); rotate_left; exact rfl)))); exact fun _ _ => rfl), hf8.drew.drew.set _ _ (.inr (Nat.le_refl _)), by rw [setRow_size]; exact hlt8, ?_⟩
      rw [hdq]
      exact Blk.as (Blk.set (show Blk w8.drew.drew.heap w7.heap.size _ _ from bd8)) rfl
    · have hdq : dd = do0 := by rw [← hdd, List.getElem?_eq_none (by omega)]; rfl
      refine vC_condF rfl (decide_eq_false (by omega)) ?_
      (apply vC_skip)
      refine ⟨rfl, fun _ _ => rfl, hf8.drew, hlt8, ?_⟩
      rw [hdq]
      exact bd8
  rintro junk10 w10 ⟨hf10, hlt10, bd10⟩
  have S10 := (S9.new hf10 bd10 (Nat.le_refl _)).ac (show _ = GwP qb vp { v with li := vl1, ev := v6 } rows { S with li := without S.li (p % S.li.length), rest := p / S.li.length, ev := S.ev ++ [⟨i, pos, x.c, x.v, x.ok⟩], to := S.to.set i ⟨0, 0, false⟩ } * (Big (rows.map RrA) * (Pt w7.heap.size (do5 dd) 167 * (Pt b9 [.int .i64 x.c, .int .i64 x.v, .bool x.ok] 171 * R))) by ac_rfl)
  clear hP8 hPd8 hP7 hPd7 hat7r hat8 hb8 hb7 hat7 bd8 hlt8 hf8 bd10 hlt10 hf10 S9
  generalize w7.heap.size = b10 at S10 ⊢
  have hb10 := gw_blk S10
  rw [gwL] at hb10
  dsimp only at hb10
  have hat10 := (gw_at_ S10).1
  dsimp only at hat10
  have hat10r := hat10.rd
  (apply seqP_normal; apply vC_seq; apply vC_region; (iterate 2 ((refine vE rfl ?_))); (refine vL_val (opv_fieldAddr rfl) ?_); ((apply vL_val); (case h => ((apply opv_loadb1); exact rfl; exact rfl; assumption; exact rfl))); (refine vE rfl ?_); (iterate 4 (first | ((with_reducible apply vL_val); (case h => ((with_reducible apply opv_add); exact rfl; exact rfl; (first | omega | (simp only [List.length_map]; omega))))) | ((with_reducible apply vL_val); (case h => ((with_reducible apply opv_indexAddr); ((conv => lhs; whnf) <;> exact rfl); exact rfl; assumption; (first | omega | (simp only [List.length_map]; omega)); (first | omega | (simp only [List.length_map]; omega))))) | ((with_reducible apply vL_val); (case h => ((with_reducible apply opv_ld_el); exact rfl; exact rfl; assumption; assumption; exact rfl))))))
  refine vL_storeEl (enc := iE) (xs := S.at_) (i := (i : Int)) ((pos : Int) + 1) rfl rfl rfl hat10 (by rw [Int.toNat_natCast]; omega) ?_
  intro w11 ho11 hf11
  rw [Int.toNat_natCast] at ho11
  have S11 := gw_sat_ S10 hf11 ho11
  dsimp only at S11
  have S12 : At (GwA qb vp (S.begin i pos x p) * (Pt b10 (do5 dd) 167 * (Pt b9 [.int .i64 x.c, .int .i64 x.v, .bool x.ok] 171 * R))) w0 No w11 := gw_shut (S := S.begin i pos x p) hrows S11
  have hbd := (S12.ac (show _ = Pt b10 (do5 dd) 167 * (GwA qb vp (S.begin i pos x p) * (Pt b9 [.int .i64 x.c, .int .i64 x.v, .bool x.ok] 171 * R)) by ac_rfl)).blk
  rw [do5] at hbd
  have hddk : dd.k ≤ 7 ∧ 0 ≤ dd.c ∧ dd.c < S.ch.length := by
    rw [← hdd]
    cases hq : d.2[pos]? with
    | none => exact ⟨by decide, Int.le_refl _, by have := g.ch; show (0 : Int) < _; omega⟩
    | some q => exact g.ks d (List.mem_of_getElem? hd) q (List.mem_of_getElem? hq)
  have hdcs : dd.k = 5 → (∀ T w', At (GwA qb vp T * (Pt b10 (do5 dd) 167 * (Pt b9 [.int .i64 x.c, .int .i64 x.v, .bool x.ok] 171 * R))) w0 No w' → Rd w'.heap 3 csE dd.cs.1 (C dd)) ∧ (C dd).length ≤ 1000 ∧ ∀ y ∈ C dd, 0 ≤ y.c ∧ y.c < (S.begin i pos x p).ch.length := fun h5 => by
    cases hq : d.2[pos]? with
    | none => rw [← hdd, hq] at h5; cases h5
    | some q =>
      have e : dd = q := by rw [← hdd, hq]; rfl
      rw [e] at h5 ⊢
      obtain ⟨c1, c2, c3⟩ := g.cs d (List.mem_of_getElem? hd) q (List.mem_of_getElem? hq) h5
      exact ⟨fun T w' h => c1.frN h.fr, c2, c3⟩
  have hgb : GOs (S.begin i pos x p) := gos_begin g.os hz hp
  have hlt1 : ((i : Nat) : Int) < (S.begin i pos x p).to.length := by
    show (i : Int) < (S.to.set i _).length
    rw [List.length_set]; omega
  have hov1 : (S.begin i pos x p).ov.length = (S.begin i pos x p).to.length := by
    show S.ov.length = (S.to.set i _).length
    rw [List.length_set]; omega
  have hcd := g_do hgb S12 z.one (Int.natCast_nonneg i) hlt1 hov1 dd (C dd) hddk.1 hddk.2.1 hddk.2.2 hdcs
  unfold doV at hcd
  have odd := dd.cs.2
  (apply vL_nil; apply seqP_normal; apply vC_seq; apply vC_region; (iterate 2 ((refine vE rfl ?_))); ((apply vL_val); (case h => ((apply opv_loadbC); exact rfl; exact rfl; assumption; exact (rfl : _ = [_, _, _, _, _]); exact rfl))))
  refine vL_callF rfl (hcd) rfl ?_
  intro _ w12 S13
  (apply vL_nil; apply seqP_normal; apply vC_seq; apply vC_region; (refine vE rfl ?_); apply vL_nil; apply seqP_normal; apply vC_ret)
  (apply ret1; (case h1 => (exact norm_eq rfl)))
  rw [hdo] at hst
  exact .inr ⟨_, hst, rfl, ((S13.ac (show _ = Pt b10 (do5 dd) 167 * (Pt b9 [.int .i64 x.c, .int .i64 x.v, .bool x.ok] 171 * (GwA qb vp ((S.begin i pos x p).act i dd (C dd)) * R)) by ac_rfl)).drop).drop⟩
end
end Go.Proofs.YtbaidcnalkdhgaaGreat
set_option maxRecDepth 100000
namespace Go.Proofs.YtbaidcnalkdhgaaGreat
open Go Go.Eng
section
variable {S : PS K16} {D : MW} {i : Nat}
theorem sim_start (h : Sim S D) (p : PInv S) {s : St K16} (hs : S.sts[i]? = some s) (hr : s.rdy = true) {z : Int} (h0 : 0 ≤ z) (hz : S.line[z.toNat]? = some (i : Int)) (a : Int) (x : To) (pp : Int) (hz' : pp % D.li.length = z) :
    Sim (S.start i z) (D.begin i a x pp) ∧ PInv (S.start i z) := by
  have hil := (List.getElem?_eq_some_iff.1 hs).1
  have hw : s.waits = false := by cases s <;> first | rfl | (cases hr; done)
  have hout := p.out hs hw
  have ew : without S.line z = S.line.erase (i : Int) := by
    have := without_erase_q (k := z.toNat) p.nd hz
    rw [← this]; congr 1; omega
  constructor
  · refine ⟨?_, ?_, ?_, ?_, h.lc, fun j d c hd hc => ?_, fun b s' k ha hk => ?_, fun b s' ha hr' => ?_, h.tk⟩
    · show without D.li (pp % D.li.length) = without S.line z
      rw [hz', h.li]
    · show (D.at_.set i _).length = (S.sts.set i _).length
      rw [List.length_set, List.length_set]; exact h.la
    · show (D.to.set i _).length = (S.sts.set i _).length
      rw [List.length_set, List.length_set]; exact h.lt
    · show D.ov.length = (S.sts.set i _).length
      rw [List.length_set]; exact h.lo
    · have q := h.ch j d c hd hc
      exact ⟨q.size, q.buf, q.closed, ⟨q.snd.1, fun t u b hu hb => (q.snd.2 t u b hu hb).keep (List.getElem?_set_ne (fun e => (hout j d hd).1 (by rw [e]; exact List.mem_of_getElem? hb))) (fun _ h => h)⟩, ⟨q.rcv.1, fun t u b hu hb => (q.rcv.2 t u b hu hb).keep (List.getElem?_set_ne (fun e => (hout j d hd).2 (by rw [e]; exact List.mem_of_getElem? hb))) (fun _ h => h)⟩⟩
    · have ha : (S.sts.set i .run)[b]? = some s' := ha
      show (D.at_.set i (a + 1))[b]? = _
      by_cases e : b = i
      · subst e
        rw [List.getElem?_set_self hil] at ha
        cases ha; cases hk
      · rw [List.getElem?_set_ne (Ne.symm e)] at ha ⊢
        exact h.pos b s' k ha hk
    · have ha : (S.sts.set i .run)[b]? = some s' := ha
      show (D.to.set i ⟨0, 0, false⟩)[b]? = _
      by_cases e : b = i
      · subst e
        rw [List.getElem?_set_self hil] at ha
        cases ha; cases hr'
      · rw [List.getElem?_set_ne (Ne.symm e)] at ha ⊢
        exact h.to b s' ha hr'
  · refine ⟨by show (S.sts.set i .run).length ≤ _; rw [List.length_set]; exact p.few, ?_, ?_, fun b => ?_, p.nsnd, p.nrcv, fun j d m hd hm => ?_, fun j d m hd hm => ?_, p.room⟩
    · show (without S.line z).Nodup
      rw [ew]; exact p.nd.erase _
    · intro y hy
      have hy : y ∈ without S.line z := hy
      rw [ew] at hy
      exact p.nn y (List.mem_of_mem_erase hy)
    · show (b : Int) ∈ without S.line z ↔ ∃ s, (S.sts.set i .run)[b]? = some s ∧ s.rdy = true
      rw [ew]
      by_cases e : b = i
      · subst e
        rw [List.getElem?_set_self hil]
        constructor
        · intro h; exact absurd h (List.Nodup.not_mem_erase p.nd)
        · rintro ⟨s', h1, h2⟩; cases h1; cases h2
      · rw [List.getElem?_set_ne (Ne.symm e), List.mem_erase_of_ne (by omega)]
        exact p.rdy b
    · obtain ⟨k, v, e⟩ := p.snd j d m hd hm
      refine ⟨k, v, ?_⟩
      show (S.sts.set i .run)[m]? = _
      rw [List.getElem?_set_ne (fun e' => (hout j d hd).1 (by rw [e']; exact hm))]
      exact e
    · obtain ⟨k, e⟩ := p.rcv j d m hd hm
      refine ⟨k, ?_⟩
      show (S.sts.set i .run)[m]? = _
      rw [List.getElem?_set_ne (fun e' => (hout j d hd).2 (by rw [e']; exact hm))]
      exact e
end
/-- numbers of the document's machine that stay within bounds -/
structure DInv (D : MW) : Prop where
  at_ : ∀ a ∈ D.at_, 0 ≤ a ∧ a ≤ D.ev.length
  fi : D.fi.length ≤ D.ev.length
  r0 : 0 ≤ D.rest
  r1 : D.rest ≤ 18446744073709551615
theorem go_rest (S : MW) (id : Int) (l : List Cs) (a : Int) : (S.go id l a).rest = S.rest := by
  unfold MW.go
  split
  · rfl
  · split
    · exact ((send_mkp S _ _).trans (yields_mkp _ _ _)).rest
    · exact ((recv_mkp S _).trans (yields_mkp _ _ _)).rest
theorem choose_rest (S : MW) (id : Int) (l : List Cs) (std : Bool) (h : 0 ≤ S.rest) : 0 ≤ (S.choose id l std).rest ∧ (S.choose id l std).rest ≤ S.rest := by
  unfold MW.choose
  split
  · split
    · rw [go_rest]
      exact ⟨Int.ediv_nonneg h (by omega), Int.ediv_le_self _ h⟩
    · rw [go_rest]; exact ⟨h, Int.le_refl _⟩
  · split
    · exact ⟨h, Int.le_refl _⟩
    · rw [(waitN_mkp ({ S with fi := S.fi ++ [false] } : MW) id S.fi.length l l.length).rest]
      exact ⟨h, Int.le_refl _⟩
theorem act_rest (S : MW) (id : Int) (d : Do5) (cs : List Cs) (h : 0 ≤ S.rest) : 0 ≤ (S.act id d cs).rest ∧ (S.act id d cs).rest ≤ S.rest := by
  have e : ∀ {T : MW}, T.rest = S.rest → 0 ≤ T.rest ∧ T.rest ≤ S.rest := fun {T} e => by rw [e]; exact ⟨h, Int.le_refl _⟩
  unfold MW.act
  split
  · exact e rfl
  split
  · exact choose_rest _ _ _ _ h
  split
  · exact choose_rest _ _ _ _ h
  split
  · obtain ⟨n, hn⟩ := close_mkp S d.c.toNat
    exact e (hn.trans (yields_mkp _ _ _)).rest
  split
  · exact choose_rest _ _ _ _ h
  split
  · split
    · exact e ((send_mkp S _ _).trans (yields_mkp _ _ _)).rest
    · exact e rfl
  split
  · split
    · exact e ((recv_mkp S _).trans (yields_mkp _ _ _)).rest
    · exact e rfl
  split
  · unfold MW.sleep
    split <;> exact e rfl
  split
  · exact e ((stop_mkp S d.c).trans (yields_mkp _ _ _)).rest
  · exact e rfl
theorem dinv_step {P : List (List Do5)} {C : Do5 → List Cs} {D D' : MW} {p : Int} (h : DInv D) (hp : 0 ≤ p ∧ p ≤ 18446744073709551615) (hst : MW.step P C D p = some D') : DInv D' ∧ D'.ev.length = D.ev.length + 1 ∧ D'.ch.length = D.ch.length := by
  unfold MW.step at hst
  split at hst
  · cases hst
  · rename_i z hz
    split at hst
    · rename_i a x ha hx
      cases hst
      have k := act_mka (D.begin z.toNat a x p) z (doAt16 P z.toNat a.toNat) (C (doAt16 P z.toNat a.toNat))
      have hl := (List.getElem?_eq_some_iff.1 hz).1
      obtain ⟨a0, a1⟩ := h.at_ a (List.mem_of_getElem? ha)
      have hev : (D.begin z.toNat a x p).ev.length = D.ev.length + 1 := by show (D.ev ++ [_]).length = _; simp
      have hr := act_rest (D.begin z.toNat a x p) z (doAt16 P z.toNat a.toNat) (C (doAt16 P z.toNat a.toNat)) (Int.ediv_nonneg hp.1 (by omega))
      have hr1 : (D.begin z.toNat a x p).rest ≤ p := Int.ediv_le_self _ hp.1
      refine ⟨⟨fun b hb => ?_, ?_, hr.1, by omega⟩, by rw [k.ev, hev], by rw [k.ch]; rfl⟩
      · rw [k.ev, hev]
        rw [k.at_] at hb
        have hb : b ∈ D.at_.set z.toNat (a + 1) := hb
        rcases List.mem_or_eq_of_mem_set hb with h1 | rfl
        · have := h.at_ b h1; omega
        · omega
      · rw [k.ev, hev]
        have h1 := k.fi
        have h2 : (D.begin z.toNat a x p).fi.length = D.fi.length := rfl
        have h3 := h.fi
        omega
    · cases hst
theorem sim_step {P : List (List Do5)} {C : Do5 → List Cs} {cl : List (Nat × Int)} {tl : List Nat} {T : T16} {D : MW} (h : Sim T.1 D) (p : PInv T.1) (I : Inv16 P cl tl T) (hev : D.ev = T.2) (hP : ∀ y ∈ P, ∀ d ∈ y, 0 ≤ d.c ∧ d.c < cl.length) (hk : ∀ y ∈ P, ∀ d ∈ y, d.k ≠ 5 ∧ d.k ≤ 7) (hc : 0 < cl.length) (pp : Int) (hp0 : 0 ≤ pp) :
    (step16 P T pp = none ∧ MW.step P C D pp = none) ∨ ∃ T' D', step16 P T pp = some T' ∧ MW.step P C D pp = some D' ∧ Sim T'.1 D' ∧ D'.ev = T'.2 := by
  have hli := h.li
  cases hz : T.1.line[(pp % T.1.line.length).toNat]? with
  | none =>
    refine .inl ⟨?_, ?_⟩
    · unfold step16; rw [hz]
    · unfold MW.step; rw [hli, hz]
  | some z =>
    obtain ⟨i, rfl, hi⟩ := p.line_lt (List.mem_of_getElem? hz)
    obtain ⟨s, hs, hr⟩ := (p.rdy i).1 (List.mem_of_getElem? hz)
    obtain ⟨k, hkk⟩ : ∃ k, s.key = some k := by cases s <;> first | exact ⟨_, rfl⟩ | (cases hr; done)
    obtain ⟨e1, e2, e3⟩ := I.key i k (by rw [List.getElem?_map, hs]; exact congrArg some hkk)
    have ha := h.pos i s k hs hkk
    have hx := h.to i s hs hr
    have hlen : 0 < T.1.line.length := by have := (List.getElem?_eq_some_iff.1 hz).1; omega
    have hz0 : 0 ≤ pp % (T.1.line.length : Int) := Int.emod_nonneg _ (by omega)
    have hst : step16 P T pp = some (turn16 P T i k s.told (pp % T.1.line.length)) := by
      unfold step16; rw [hz]; simp only [Int.toNat_natCast]; rw [hs]; simp only []; rw [hkk]
    have hsd : MW.step P C D pp = some ((D.begin i k.pos s.told pp).act i (doAt16 P i k.pos) (C (doAt16 P i k.pos))) := by
      unfold MW.step; rw [hli, hz]; simp only [Int.toNat_natCast, ha, hx]
    refine .inr ⟨_, _, hst, hsd, ?_, ?_⟩
    · obtain ⟨a, b⟩ := sim_start h p hs hr hz0 hz k.pos s.told pp (by rw [hli])
      have hcl : T.1.cs.length = cl.length := by rw [← I.cs, List.length_map]
      have hd : (0 ≤ (doAt16 P i k.pos).c ∧ (doAt16 P i k.pos).c < (T.1.start i (pp % T.1.line.length)).cs.length) ∧ (doAt16 P i k.pos).k ≠ 5 ∧ (doAt16 P i k.pos).k ≤ 7 := by
        have e : (T.1.start i (pp % T.1.line.length)).cs.length = cl.length := hcl
        rw [e]
        unfold doAt16
        split
        · exact ⟨⟨Int.le_refl _, by show (0 : Int) < _; omega⟩, by decide, by decide⟩
        · rename_i y hy
          cases hq : y[k.pos]? with
          | none => exact ⟨⟨Int.le_refl _, by show (0 : Int) < _; omega⟩, by show (0 : Int) ≠ 5; decide, by show (0 : Int) ≤ 7; decide⟩
          | some q => exact ⟨hP y (List.mem_of_getElem? hy) q (List.mem_of_getElem? hq), hk y (List.mem_of_getElem? hy) q (List.mem_of_getElem? hq)⟩
      have hrun : (T.1.start i (pp % T.1.line.length)).sts[i]? = some .run := List.getElem?_set_self hi
      have hpos : (D.begin i k.pos s.told pp).at_[i]? = some ((k.pos + 1 : Nat) : Int) := by
        show (D.at_.set i _)[i]? = _
        rw [List.getElem?_set_self (by rw [h.la]; exact hi)]; rfl
      have := sim_act a b hrun k.tb i k.pos (doAt16 P i k.pos) (C (doAt16 P i k.pos)) hd.1 hd.2 hpos
      unfold turn16
      rw [e2]
      exact this
    · rw [(act_mka _ _ _ _).ev]
      show D.ev ++ _ = T.2 ++ _
      rw [hev]
/-- what the document's Step needs, of both machines together -/
theorem sim_gst {P : List (OV × List Do5)} {cl : List (Nat × Int)} {tl : List Nat} {w0 : World} {T : T16} {D : MW} (h : Sim T.1 D) (p : PInv T.1) (I : Inv16 (P.map (·.2)) cl tl T) (hD : DInv D) (hev : D.ev = T.2) (he : T.2.length ≤ 100000) (hP6 : P.length ≤ 6) (hP : ∀ y ∈ P, ∀ (d : Do5), d ∈ y.2 → 0 ≤ d.c ∧ d.c < (cl.length : Int)) (hk : ∀ y ∈ P, ∀ (d : Do5), d ∈ y.2 → d.k ≠ 5 ∧ d.k ≤ 7) (hc : 0 < cl.length) : GSt P (fun _ => []) w0 D := by
  have hlen : T.1.sts.length = P.length := by have := I.len; rwa [List.length_map] at this
  have hcl : D.ch.length = cl.length := by rw [h.lc, ← I.cs, List.length_map]
  have hll := p.line_len
  have hnod : ∀ (l : List Nat), l.Nodup → (∀ m ∈ l, m < T.1.sts.length) → l.length ≤ 200 := fun l hn hm => by
    have := len_sub_q (l' := List.range T.1.sts.length) hn (fun m hm' => List.mem_range.2 (hm m hm'))
    rw [List.length_range] at this
    have := p.few
    omega
  have hch : ∀ d ∈ D.ch, d.buf.length ≤ 64 ∧ (d.snd.length ≤ 200 ∧ ∀ x ∈ d.snd, 0 ≤ x.tk ∧ x.tk < D.fi.length ∧ x.task < D.to.length) ∧ (d.rcv.length ≤ 200 ∧ ∀ x ∈ d.rcv, 0 ≤ x.tk ∧ x.tk < D.fi.length ∧ x.task < D.to.length) := fun d hd => by
    obtain ⟨j, hj, e⟩ := List.getElem_of_mem hd
    have hdj : D.ch[j]? = some d := by rw [List.getElem?_eq_getElem hj, e]
    obtain ⟨c, hcj⟩ := h.dget hdj
    have s := h.ch j c d hcj hdj
    have r := p.room j c hcj
    refine ⟨by rw [s.buf]; omega, ⟨?_, fun x hx => ?_⟩, ⟨?_, fun x hx => ?_⟩⟩
    · rw [s.snd.1]
      exact hnod _ (p.nsnd j c hcj) (fun m hm => by obtain ⟨k, v, e⟩ := p.snd j c m hcj hm; exact (List.getElem?_eq_some_iff.1 e).1)
    · obtain ⟨_, m, q, _, _, q1, q2, _, q3, q4⟩ := h.whosnd p hdj hx
      have h1 := (List.getElem?_eq_some_iff.1 q4).1
      have h2 := (List.getElem?_eq_some_iff.1 q2).1
      rw [h.lt, q1]
      exact ⟨q3, by omega, by omega⟩
    · rw [s.rcv.1]
      exact hnod _ (p.nrcv j c hcj) (fun m hm => by obtain ⟨k, e⟩ := p.rcv j c m hcj hm; exact (List.getElem?_eq_some_iff.1 e).1)
    · obtain ⟨_, m, q, _, _, q1, q2, _, q3, q4⟩ := h.whorcv p hdj hx
      have h1 := (List.getElem?_eq_some_iff.1 q4).1
      have h2 := (List.getElem?_eq_some_iff.1 q2).1
      rw [h.lt, q1]
      exact ⟨q3, by omega, by omega⟩
  have hli := h.li
  have hfi := hD.fi
  have hevl : D.ev.length = T.2.length := by rw [hev]
  refine ⟨hP6, by rw [h.lt]; exact hlen, by rw [h.la]; exact hlen, by rw [h.lo]; exact hlen, by rw [hli]; omega, fun z hz => ?_, fun a ha => ?_, ⟨fun d hd => ?_, fun d hd => ?_, by rw [hli]; omega, by omega, fun d hd => ?_, hD.r0, hD.r1⟩, by omega, by omega, fun y hy d hd => ?_, fun y hy d hd h5 => absurd h5 (hk y hy d hd).1⟩
  · rw [hli] at hz
    obtain ⟨i, rfl, hi⟩ := p.line_lt hz
    omega
  · have := hD.at_ a ha; omega
  · obtain ⟨_, ⟨a1, a2⟩, ⟨b1, b2⟩⟩ := hch d hd
    exact ⟨⟨by omega, a2⟩, ⟨by omega, b2⟩⟩
  · have := (hch d hd).1; omega
  · obtain ⟨_, ⟨a1, a2⟩, ⟨b1, b2⟩⟩ := hch d hd
    rw [hli]; omega
  · rw [hcl]
    exact ⟨(hk y hy d hd).2, hP y hy d hd⟩
end Go.Proofs.YtbaidcnalkdhgaaGreat
set_option maxRecDepth 100000
namespace Go.Proofs.YtbaidcnalkdhgaaGreat
open Go Go.Eng
section
variable {κ : Type} {L : LawP κ} {nowi : Option Nat} {kb : List Bx} {S : PS κ} {rb : Nat} {rest : Int} {w0 w : World} {F0 : Nat → Prop} {R : Asr} {j : Nat} {d : C16}
set_option maxHeartbeats 4000000 in
theorem same16 [Lcl R] (S1 : At (PWA L rb nowi rest kb S * R) w0 F0 w) (hd : S.cs[j]? = some d) {ba sa ra : Option Addr} {bc sc rc : Nat} :
    Rets Tryz.prog 63 #[pt d.cb, .agg #[.int .i64 d.size, .slice ba d.buf.length bc, .slice sa d.snd.length sc, .slice ra d.rcv.length rc, .bool d.closed]] w fun u w' => u = .bool true ∧ At (PWA L rb nowi rest kb S * R) w0 F0 w' := by
  refine rets_of Tryz.func63 rfl Tryz.ntmps63 rfl rfl (by kernel_rfl) ?_
  (apply vC_seq; apply vC_region; (refine vL_val (opw_boxn rfl) ?_); (refine vE rfl ?_); apply vL_nil; apply seqP_normal; apply vC_seq; apply vC_region; (refine vE rfl ?_))
  have S2 := (S1.alloc (cs := [.int .i64 d.size, .slice ba d.buf.length bc, .slice sa d.snd.length sc, .slice ra d.rcv.length rc, .bool d.closed]) (T := 125)).ac (show _ = PWA L rb nowi rest kb S * (Pt w.heap.size [.int .i64 d.size, .slice ba d.buf.length bc, .slice sa d.snd.length sc, .slice ra d.rcv.length rc, .bool d.closed] 125 * R) by ac_rfl)
  refine vL_gen (fun w' => At _ w0 F0 w') S2 ?_
  clear S2 S1
  intro w2 S2
  generalize w.heap.size = b3 at S2 ⊢
  refine vL_callF rfl (pw_waits S2 hd) rfl ?_
  rintro _ w3 ⟨rfl, S3⟩
  ((iterate 5 ((refine vE rfl ?_))); apply vL_nil; apply seqP_normal; apply vC_seq; apply vC_region; (refine vE rfl ?_))
  refine vL_callF rfl (pw_can S3 hd) rfl ?_
  rintro _ w4 ⟨rfl, S4⟩
  have hb3 := (S4.ac (show _ = Pt b3 [.int .i64 d.size, .slice ba d.buf.length bc, .slice sa d.snd.length sc, .slice ra d.rcv.length rc, .bool d.closed] 125 * (PWA L rb nowi rest kb S * R) by ac_rfl)).blk
  (((iterate 5 ((refine vE rfl ?_))); apply vL_nil))
  with_reducible apply seqP_normal
  repeat (with_reducible apply vC_seq)
  refine vC_meet1 36028797018439680 54 (.bool false) (fun w' => w' = w4) ?_ ?_
  · have e1 : d.canS = (d.closed || (!d.rcv.isEmpty || decide ((d.buf.length : Int) < d.size))) := rfl
    have e2 : d.canR = (d.closed || (!d.buf.isEmpty || !d.snd.isEmpty)) := rfl
    have hre : d.rcv.isEmpty = decide (¬ 0 < d.rcv.length) := by cases d.rcv <;> simp
    have hbe : d.buf.isEmpty = decide (¬ 0 < d.buf.length) := by cases d.buf <;> simp
    have hse : d.snd.isEmpty = decide (¬ 0 < d.snd.length) := by cases d.snd <;> simp
    rw [hre] at e1
    rw [hbe, hse] at e2
    generalize d.canS = cS at e1 ⊢
    generalize d.canR = cR at e2 ⊢
    cases hcl : d.closed with
    | true =>
      rw [hcl] at hb3 e1 e2
      simp only [Bool.true_or] at e1 e2
      subst e1; subst e2
      (apply vC_region; (iterate 44 (first | (refine vE rfl ?_) | ((with_reducible apply vL_val); (case h => ((with_reducible apply opv_loadb1); exact rfl; exact rfl; assumption; exact rfl))) | (refine vL_val (opv_fieldAddr rfl) ?_) | (refine vL_val (opv_neq_bool rfl rfl) ?_) | ((with_reducible apply vL_wanted); exact rfl) | ((with_reducible apply vL_unwanted'); exact rfl; exact rfl))); apply vL_nil)
      exact ⟨rfl, by (((iterate 36 (((refine same_updO ?_ ?_); rotate_left; exact rfl)))); exact fun _ _ => rfl), rfl, rfl⟩
    | false =>
      rw [hcl] at hb3 e1 e2
      simp only [Bool.false_or] at e1 e2
      by_cases h1 : 0 < d.rcv.length
      · simp only [h1, not_true_eq_false, decide_false, Bool.not_false, Bool.true_or] at e1
        subst e1
        by_cases h3 : 0 < d.buf.length
        · simp only [h3, not_true_eq_false, decide_false, Bool.not_false, Bool.true_or] at e2
          subst e2
          (apply vC_region; (iterate 52 (first | (refine vE rfl ?_) | ((with_reducible apply vL_val); (case h => ((with_reducible apply opv_loadb1); exact rfl; exact rfl; assumption; exact rfl))) | (refine vL_val (opv_fieldAddr rfl) ?_) | (refine vL_val (opv_lenc rfl) ?_) | (refine vL_val (opv_neq_bool rfl rfl) ?_) | ((with_reducible apply vL_wanted); exact rfl) | ((with_reducible apply vL_unwanted'); exact rfl; exact rfl) | (refine vL_or rfl rfl (fun h => by omega) (fun _ => ?_)))); apply vL_nil)
          skip
          exact ⟨rfl, by (((iterate 38 (first | ((with_reducible refine same_updO ?_ ?_); rotate_left; exact rfl) | ((with_reducible refine same_upd ?_ ?_); rotate_left; exact rfl)))); exact fun _ _ => rfl), (by first | rfl | (refine Eq.trans (b := Value.bool _) rfl (congrArg Value.bool ?_); (first | (rw [decide_eq_true (show (0 : Int) < d.snd.length by omega)]; rfl) | (rw [decide_eq_false (show ¬ (0 : Int) < d.snd.length by omega)]; rfl)))), rfl⟩
        · by_cases h4 : 0 < d.snd.length
          · simp only [h3, h4, not_true_eq_false, not_false_eq_true, decide_false, decide_true, Bool.not_false, Bool.not_true, Bool.false_or] at e2
            subst e2
            (apply vC_region; (iterate 14 (first | (refine vE rfl ?_) | ((with_reducible apply vL_val); (case h => ((with_reducible apply opv_loadb1); exact rfl; exact rfl; assumption; exact rfl))) | (refine vL_val (opv_fieldAddr rfl) ?_) | (refine vL_val (opv_lenc rfl) ?_) | ((with_reducible apply vL_wanted); exact rfl))); (refine vL_or rfl rfl (fun h => by omega) (fun _ => ?_)); (iterate 5 (((apply vL_unwanted'); exact rfl; exact rfl))); (iterate 36 (first | (refine vE rfl ?_) | ((with_reducible apply vL_val); (case h => ((with_reducible apply opv_loadb1); exact rfl; exact rfl; assumption; exact rfl))) | (refine vL_val (opv_fieldAddr rfl) ?_) | (refine vL_val (opv_lenc rfl) ?_) | (refine vL_val (opv_neq_bool rfl rfl) ?_) | ((with_reducible apply vL_wanted); exact rfl) | (refine vL_or rfl rfl (fun _ => ?_) (fun h => by omega)))); apply vL_nil)
            skip
            exact ⟨rfl, by (((iterate 38 (first | ((with_reducible refine same_updO ?_ ?_); rotate_left; exact rfl) | ((with_reducible refine same_upd ?_ ?_); rotate_left; exact rfl)))); exact fun _ _ => rfl), (by first | rfl | (refine Eq.trans (b := Value.bool _) rfl (congrArg Value.bool ?_); (first | (rw [decide_eq_true (show (0 : Int) < d.snd.length by omega)]; rfl) | (rw [decide_eq_false (show ¬ (0 : Int) < d.snd.length by omega)]; rfl)))), rfl⟩
          · simp only [h3, h4, not_true_eq_false, not_false_eq_true, decide_false, decide_true, Bool.not_false, Bool.not_true, Bool.false_or] at e2
            subst e2
            (apply vC_region; (iterate 14 (first | (refine vE rfl ?_) | ((with_reducible apply vL_val); (case h => ((with_reducible apply opv_loadb1); exact rfl; exact rfl; assumption; exact rfl))) | (refine vL_val (opv_fieldAddr rfl) ?_) | (refine vL_val (opv_lenc rfl) ?_) | ((with_reducible apply vL_wanted); exact rfl))); (refine vL_or rfl rfl (fun h => by omega) (fun _ => ?_)); (iterate 5 (((apply vL_unwanted'); exact rfl; exact rfl))); (iterate 36 (first | (refine vE rfl ?_) | ((with_reducible apply vL_val); (case h => ((with_reducible apply opv_loadb1); exact rfl; exact rfl; assumption; exact rfl))) | (refine vL_val (opv_fieldAddr rfl) ?_) | (refine vL_val (opv_lenc rfl) ?_) | (refine vL_val (opv_neq_bool rfl rfl) ?_) | ((with_reducible apply vL_wanted); exact rfl) | (refine vL_or rfl rfl (fun _ => ?_) (fun h => by omega)))); apply vL_nil)
            skip
            exact ⟨rfl, by (((iterate 38 (first | ((with_reducible refine same_updO ?_ ?_); rotate_left; exact rfl) | ((with_reducible refine same_upd ?_ ?_); rotate_left; exact rfl)))); exact fun _ _ => rfl), (by first | rfl | (refine Eq.trans (b := Value.bool _) rfl (congrArg Value.bool ?_); (first | (rw [decide_eq_true (show (0 : Int) < d.snd.length by omega)]; rfl) | (rw [decide_eq_false (show ¬ (0 : Int) < d.snd.length by omega)]; rfl)))), rfl⟩
      · by_cases h2 : (d.buf.length : Int) < d.size
        · simp only [h1, h2, not_false_eq_true, decide_true, Bool.not_true, Bool.false_or] at e1
          subst e1
          by_cases h3 : 0 < d.buf.length
          · simp only [h3, not_true_eq_false, decide_false, Bool.not_false, Bool.true_or] at e2
            subst e2
            (apply vC_region; (iterate 29 (first | (refine vE rfl ?_) | ((with_reducible apply vL_val); (case h => ((with_reducible apply opv_loadb1); exact rfl; exact rfl; assumption; exact rfl))) | (refine vL_val (opv_fieldAddr rfl) ?_) | (refine vL_val (opv_lenc rfl) ?_) | (refine vL_val (opv_neq_bool rfl rfl) ?_) | ((with_reducible apply vL_wanted); exact rfl) | (refine vL_or rfl rfl (fun _ => ?_) (fun h => by omega)))))
            (refine vL_orF rfl rfl (by rw [decide_eq_true (show (d.buf.length : Int) < d.size by omega)]; rfl) ?_); ((iterate 28 (first | (refine vE rfl ?_) | ((with_reducible apply vL_val); (case h => ((with_reducible apply opv_loadb1); exact rfl; exact rfl; assumption; exact rfl))) | (refine vL_val (opv_fieldAddr rfl) ?_) | (refine vL_val (opv_lenc rfl) ?_) | (refine vL_val (opv_neq_bool rfl rfl) ?_) | ((with_reducible apply vL_wanted); exact rfl) | ((with_reducible apply vL_unwanted'); exact rfl; exact rfl) | (refine vL_or rfl rfl (fun h => by omega) (fun _ => ?_)))); apply vL_nil)
            exact ⟨rfl, by (((iterate 39 (first | ((with_reducible refine same_updO ?_ ?_); rotate_left; exact rfl) | ((with_reducible refine same_upd ?_ ?_); rotate_left; exact rfl)))); exact fun _ _ => rfl), (by first | rfl | (refine Eq.trans (b := Value.bool _) rfl (congrArg Value.bool ?_); (first | (rw [decide_eq_true (show (0 : Int) < d.snd.length by omega)]; rfl) | (rw [decide_eq_false (show ¬ (0 : Int) < d.snd.length by omega)]; rfl)))), rfl⟩
          · by_cases h4 : 0 < d.snd.length
            · simp only [h3, h4, not_true_eq_false, not_false_eq_true, decide_false, decide_true, Bool.not_false, Bool.not_true, Bool.false_or] at e2
              subst e2
              (apply vC_region; (iterate 29 (first | (refine vE rfl ?_) | ((with_reducible apply vL_val); (case h => ((with_reducible apply opv_loadb1); exact rfl; exact rfl; assumption; exact rfl))) | (refine vL_val (opv_fieldAddr rfl) ?_) | (refine vL_val (opv_lenc rfl) ?_) | (refine vL_val (opv_neq_bool rfl rfl) ?_) | ((with_reducible apply vL_wanted); exact rfl) | (refine vL_or rfl rfl (fun _ => ?_) (fun h => by omega)))))
              (refine vL_orF rfl rfl (by rw [decide_eq_true (show (d.buf.length : Int) < d.size by omega)]; rfl) ?_); ((iterate 32 (first | (refine vE rfl ?_) | ((with_reducible apply vL_val); (case h => ((with_reducible apply opv_loadb1); exact rfl; exact rfl; assumption; exact rfl))) | (refine vL_val (opv_fieldAddr rfl) ?_) | (refine vL_val (opv_lenc rfl) ?_) | (refine vL_val (opv_neq_bool rfl rfl) ?_) | ((with_reducible apply vL_wanted); exact rfl) | (refine vL_or rfl rfl (fun _ => ?_) (fun h => by omega)))); apply vL_nil)
              exact ⟨rfl, by (((iterate 39 (first | ((with_reducible refine same_updO ?_ ?_); rotate_left; exact rfl) | ((with_reducible refine same_upd ?_ ?_); rotate_left; exact rfl)))); exact fun _ _ => rfl), (by first | rfl | (refine Eq.trans (b := Value.bool _) rfl (congrArg Value.bool ?_); (first | (rw [decide_eq_true (show (0 : Int) < d.snd.length by omega)]; rfl) | (rw [decide_eq_false (show ¬ (0 : Int) < d.snd.length by omega)]; rfl)))), rfl⟩
            · simp only [h3, h4, not_true_eq_false, not_false_eq_true, decide_false, decide_true, Bool.not_false, Bool.not_true, Bool.false_or] at e2
              subst e2
              (apply vC_region; (iterate 29 (first | (refine vE rfl ?_) | ((with_reducible apply vL_val); (case h => ((with_reducible apply opv_loadb1); exact rfl; exact rfl; assumption; exact rfl))) | (refine vL_val (opv_fieldAddr rfl) ?_) | (refine vL_val (opv_lenc rfl) ?_) | (refine vL_val (opv_neq_bool rfl rfl) ?_) | ((with_reducible apply vL_wanted); exact rfl) | (refine vL_or rfl rfl (fun _ => ?_) (fun h => by omega)))))
              (refine vL_orF rfl rfl (by rw [decide_eq_true (show (d.buf.length : Int) < d.size by omega)]; rfl) ?_); ((iterate 32 (first | (refine vE rfl ?_) | ((with_reducible apply vL_val); (case h => ((with_reducible apply opv_loadb1); exact rfl; exact rfl; assumption; exact rfl))) | (refine vL_val (opv_fieldAddr rfl) ?_) | (refine vL_val (opv_lenc rfl) ?_) | (refine vL_val (opv_neq_bool rfl rfl) ?_) | ((with_reducible apply vL_wanted); exact rfl) | (refine vL_or rfl rfl (fun _ => ?_) (fun h => by omega)))); apply vL_nil)
              exact ⟨rfl, by (((iterate 39 (first | ((with_reducible refine same_updO ?_ ?_); rotate_left; exact rfl) | ((with_reducible refine same_upd ?_ ?_); rotate_left; exact rfl)))); exact fun _ _ => rfl), (by first | rfl | (refine Eq.trans (b := Value.bool _) rfl (congrArg Value.bool ?_); (first | (rw [decide_eq_true (show (0 : Int) < d.snd.length by omega)]; rfl) | (rw [decide_eq_false (show ¬ (0 : Int) < d.snd.length by omega)]; rfl)))), rfl⟩
        · simp only [h1, h2, not_false_eq_true, decide_true, decide_false, Bool.not_true, Bool.false_or] at e1
          subst e1
          by_cases h3 : 0 < d.buf.length
          · simp only [h3, not_true_eq_false, decide_false, Bool.not_false, Bool.true_or] at e2
            subst e2
            (apply vC_region; (iterate 29 (first | (refine vE rfl ?_) | ((with_reducible apply vL_val); (case h => ((with_reducible apply opv_loadb1); exact rfl; exact rfl; assumption; exact rfl))) | (refine vL_val (opv_fieldAddr rfl) ?_) | (refine vL_val (opv_lenc rfl) ?_) | (refine vL_val (opv_neq_bool rfl rfl) ?_) | ((with_reducible apply vL_wanted); exact rfl) | (refine vL_or rfl rfl (fun _ => ?_) (fun h => by omega)))))
            (refine vL_orF rfl rfl (by rw [decide_eq_false (show ¬ (d.buf.length : Int) < d.size by omega)]; rfl) ?_); ((iterate 28 (first | (refine vE rfl ?_) | ((with_reducible apply vL_val); (case h => ((with_reducible apply opv_loadb1); exact rfl; exact rfl; assumption; exact rfl))) | (refine vL_val (opv_fieldAddr rfl) ?_) | (refine vL_val (opv_lenc rfl) ?_) | (refine vL_val (opv_neq_bool rfl rfl) ?_) | ((with_reducible apply vL_wanted); exact rfl) | ((with_reducible apply vL_unwanted'); exact rfl; exact rfl) | (refine vL_or rfl rfl (fun h => by omega) (fun _ => ?_)))); apply vL_nil)
            exact ⟨rfl, by (((iterate 39 (first | ((with_reducible refine same_updO ?_ ?_); rotate_left; exact rfl) | ((with_reducible refine same_upd ?_ ?_); rotate_left; exact rfl)))); exact fun _ _ => rfl), (by first | rfl | (refine Eq.trans (b := Value.bool _) rfl (congrArg Value.bool ?_); (first | (rw [decide_eq_true (show (0 : Int) < d.snd.length by omega)]; rfl) | (rw [decide_eq_false (show ¬ (0 : Int) < d.snd.length by omega)]; rfl)))), rfl⟩
          · by_cases h4 : 0 < d.snd.length
            · simp only [h3, h4, not_true_eq_false, not_false_eq_true, decide_false, decide_true, Bool.not_false, Bool.not_true, Bool.false_or] at e2
              subst e2
              (apply vC_region; (iterate 29 (first | (refine vE rfl ?_) | ((with_reducible apply vL_val); (case h => ((with_reducible apply opv_loadb1); exact rfl; exact rfl; assumption; exact rfl))) | (refine vL_val (opv_fieldAddr rfl) ?_) | (refine vL_val (opv_lenc rfl) ?_) | (refine vL_val (opv_neq_bool rfl rfl) ?_) | ((with_reducible apply vL_wanted); exact rfl) | (refine vL_or rfl rfl (fun _ => ?_) (fun h => by omega)))))
              (refine vL_orF rfl rfl (by rw [decide_eq_false (show ¬ (d.buf.length : Int) < d.size by omega)]; rfl) ?_); ((iterate 32 (first | (refine vE rfl ?_) | ((with_reducible apply vL_val); (case h => ((with_reducible apply opv_loadb1); exact rfl; exact rfl; assumption; exact rfl))) | (refine vL_val (opv_fieldAddr rfl) ?_) | (refine vL_val (opv_lenc rfl) ?_) | (refine vL_val (opv_neq_bool rfl rfl) ?_) | ((with_reducible apply vL_wanted); exact rfl) | (refine vL_or rfl rfl (fun _ => ?_) (fun h => by omega)))); apply vL_nil)
              exact ⟨rfl, by (((iterate 39 (first | ((with_reducible refine same_updO ?_ ?_); rotate_left; exact rfl) | ((with_reducible refine same_upd ?_ ?_); rotate_left; exact rfl)))); exact fun _ _ => rfl), (by first | rfl | (refine Eq.trans (b := Value.bool _) rfl (congrArg Value.bool ?_); (first | (rw [decide_eq_true (show (0 : Int) < d.snd.length by omega)]; rfl) | (rw [decide_eq_false (show ¬ (0 : Int) < d.snd.length by omega)]; rfl)))), rfl⟩
            · simp only [h3, h4, not_true_eq_false, not_false_eq_true, decide_false, decide_true, Bool.not_false, Bool.not_true, Bool.false_or] at e2
              subst e2
              (apply vC_region; (iterate 29 (first | (refine vE rfl ?_) | ((with_reducible apply vL_val); (case h => ((with_reducible apply opv_loadb1); exact rfl; exact rfl; assumption; exact rfl))) | (refine vL_val (opv_fieldAddr rfl) ?_) | (refine vL_val (opv_lenc rfl) ?_) | (refine vL_val (opv_neq_bool rfl rfl) ?_) | ((with_reducible apply vL_wanted); exact rfl) | (refine vL_or rfl rfl (fun _ => ?_) (fun h => by omega)))))
              (refine vL_orF rfl rfl (by rw [decide_eq_false (show ¬ (d.buf.length : Int) < d.size by omega)]; rfl) ?_); ((iterate 32 (first | (refine vE rfl ?_) | ((with_reducible apply vL_val); (case h => ((with_reducible apply opv_loadb1); exact rfl; exact rfl; assumption; exact rfl))) | (refine vL_val (opv_fieldAddr rfl) ?_) | (refine vL_val (opv_lenc rfl) ?_) | (refine vL_val (opv_neq_bool rfl rfl) ?_) | ((with_reducible apply vL_wanted); exact rfl) | (refine vL_or rfl rfl (fun _ => ?_) (fun h => by omega)))); apply vL_nil)
              exact ⟨rfl, by (((iterate 39 (first | ((with_reducible refine same_updO ?_ ?_); rotate_left; exact rfl) | ((with_reducible refine same_upd ?_ ?_); rotate_left; exact rfl)))); exact fun _ _ => rfl), (by first | rfl | (refine Eq.trans (b := Value.bool _) rfl (congrArg Value.bool ?_); (first | (rw [decide_eq_true (show (0 : Int) < d.snd.length by omega)]; rfl) | (rw [decide_eq_false (show ¬ (0 : Int) < d.snd.length by omega)]; rfl)))), rfl⟩
  rintro junk3 w5 hw5
  subst hw5
  (apply seqP_normal; ((apply vC_cond_false); exact rfl); apply vC_skip; apply seqP_normal; apply vC_seq)
  refine vC_draw' (fun wf => Fr No w5 wf) ((Fr.refl No w5).drew) ?_
  (refine tkE 0 rfl (by kernel_rfl) (by apply Fr.drew; exact Fr.refl _ _) rfl ?_)
  (refine tkp 1 rfl (by kernel_rfl) (by (apply Fr.drew; exact Fr.refl _ _)) rfl (fun wf hwf => (by haveI := From.mk hwf; exact (pw_len (S4.frN hwf) hd))) rfl ?_)
  (refine tk 2 rfl (by kernel_rfl) (by apply Fr.drew; exact Fr.refl _ _) (by intro wf hwf; haveI := From.mk hwf; (((apply opv_fieldAddr); exact rfl))) ?_)
  (refine tk 3 rfl (by kernel_rfl) (by apply Fr.drew; exact Fr.refl _ _) (by intro wf hwf; haveI := From.mk hwf; (((apply opv_loadb1); exact rfl; exact rfl; infer_instance; exact rfl))) ?_)
  (refine tk 4 rfl (by kernel_rfl) (by apply Fr.drew; exact Fr.refl _ _) (by intro wf hwf; haveI := From.mk hwf; (((apply opv_lenc); exact rfl))) ?_)
  (refine tkE 5 rfl (by kernel_rfl) (by apply Fr.drew; exact Fr.refl _ _) rfl ?_)
  refine vA_splitD 60 rfl (fun _ => ?_) (fun h => absurd rfl h)
  (refine tkE 6 rfl (by kernel_rfl) (by apply Fr.drew; exact Fr.refl _ _) rfl ?_)
  (refine tkwE 7 rfl rfl (by kernel_rfl) (by apply Fr.drew; exact Fr.refl _ _) rfl ?_)
  (refine tkpw 8 rfl rfl (by kernel_rfl) (by (apply Fr.drew; exact Fr.refl _ _)) rfl (fun wf hwf => (by haveI := From.mk hwf; exact (pw_cap (S4.frN hwf) hd))) rfl ?_)
  (refine tkw 9 rfl rfl (by kernel_rfl) (by apply Fr.drew; exact Fr.refl _ _) (by intro wf hwf; haveI := From.mk hwf; (((apply opv_fieldAddr); exact rfl))) ?_)
  (refine tkw 10 rfl rfl (by kernel_rfl) (by apply Fr.drew; exact Fr.refl _ _) (by intro wf hwf; haveI := From.mk hwf; (((apply opv_loadb1); exact rfl; exact rfl; infer_instance; exact rfl))) ?_)
  (refine tkwE 11 rfl rfl (by kernel_rfl) (by apply Fr.drew; exact Fr.refl _ _) rfl ?_)
  refine vA_splitD 66 rfl (fun _ => ?_) (fun h => absurd rfl h)
  (refine tkE 12 rfl (by kernel_rfl) (by apply Fr.drew; exact Fr.refl _ _) rfl ?_)
  (refine tkE 13 rfl (by kernel_rfl) (by apply Fr.drew; exact Fr.refl _ _) rfl ?_)
  (refine tkwE 14 rfl rfl (by kernel_rfl) (by apply Fr.drew; exact Fr.refl _ _) rfl ?_)
  (refine tkpw 15 rfl rfl (by kernel_rfl) (by (apply Fr.drew; exact Fr.refl _ _)) rfl (fun wf hwf => (by haveI := From.mk hwf; exact (pw_closed (S4.frN hwf) hd))) rfl ?_)
  (refine tkw 16 rfl rfl (by kernel_rfl) (by apply Fr.drew; exact Fr.refl _ _) (by intro wf hwf; haveI := From.mk hwf; (((apply opv_fieldAddr); exact rfl))) ?_)
  (refine tkw 17 rfl rfl (by kernel_rfl) (by apply Fr.drew; exact Fr.refl _ _) (by intro wf hwf; haveI := From.mk hwf; (((apply opv_loadb1); exact rfl; exact rfl; infer_instance; exact rfl))) ?_)
  (refine tkw 18 rfl rfl (by kernel_rfl) (by apply Fr.drew; exact Fr.refl _ _) (by intro wf hwf; haveI := From.mk hwf; (((apply opv_eql_bool); exact rfl; exact rfl))) ?_)
  refine vA_splitD 73 rfl (fun _ => ?_) (fun h => absurd rfl h)
  (refine tkE 19 rfl (by kernel_rfl) (by apply Fr.drew; exact Fr.refl _ _) rfl ?_)
  (refine tkE 20 rfl (by kernel_rfl) (by apply Fr.drew; exact Fr.refl _ _) rfl ?_)
  (refine tkwE 21 rfl rfl (by kernel_rfl) (by apply Fr.drew; exact Fr.refl _ _) rfl ?_)
  (refine tkw 22 rfl rfl (by kernel_rfl) (by apply Fr.drew; exact Fr.refl _ _) (by intro wf hwf; haveI := From.mk hwf; (((apply opv_fieldAddr); exact rfl))) ?_)
  (refine tkw 23 rfl rfl (by kernel_rfl) (by apply Fr.drew; exact Fr.refl _ _) (by intro wf hwf; haveI := From.mk hwf; (((apply opv_loadb1); exact rfl; exact rfl; infer_instance; exact rfl))) ?_)
  (refine tkw 24 rfl rfl (by kernel_rfl) (by apply Fr.drew; exact Fr.refl _ _) (by intro wf hwf; haveI := From.mk hwf; (((apply opv_lenc); exact rfl))) ?_)
  (refine tkwE 25 rfl rfl (by kernel_rfl) (by apply Fr.drew; exact Fr.refl _ _) rfl ?_)
  refine vA_splitD 80 rfl (fun _ => ?_) (fun h => absurd rfl h)
  (refine tkE 26 rfl (by kernel_rfl) (by apply Fr.drew; exact Fr.refl _ _) rfl ?_)
  (refine tkE 27 rfl (by kernel_rfl) (by apply Fr.drew; exact Fr.refl _ _) rfl ?_)
  (refine tkwE 28 rfl rfl (by kernel_rfl) (by apply Fr.drew; exact Fr.refl _ _) rfl ?_)
  (refine tkw 29 rfl rfl (by kernel_rfl) (by apply Fr.drew; exact Fr.refl _ _) (by intro wf hwf; haveI := From.mk hwf; (((apply opv_fieldAddr); exact rfl))) ?_)
  (refine tkw 30 rfl rfl (by kernel_rfl) (by apply Fr.drew; exact Fr.refl _ _) (by intro wf hwf; haveI := From.mk hwf; (((apply opv_loadb1); exact rfl; exact rfl; infer_instance; exact rfl))) ?_)
  (refine tkw 31 rfl rfl (by kernel_rfl) (by apply Fr.drew; exact Fr.refl _ _) (by intro wf hwf; haveI := From.mk hwf; (((apply opv_lenc); exact rfl))) ?_)
  (refine tkwE 32 rfl rfl (by kernel_rfl) (by apply Fr.drew; exact Fr.refl _ _) rfl ?_)
  refine vA_splitD 87 rfl (fun _ => ?_) (fun h => absurd rfl h)
  (refine tkE 33 rfl (by kernel_rfl) (by apply Fr.drew; exact Fr.refl _ _) rfl ?_)
  (refine tkE 34 rfl (by kernel_rfl) (by apply Fr.drew; exact Fr.refl _ _) rfl ?_)
  refine vA_done (by kernel_rfl) (by (first | exact trivial | ((apply Fr.drew; exact Fr.refl _ _); done))) ?_
  (apply seqP_normal; apply vC_ret)
  (apply ret1; (case h1 => (exact norm_eq rfl)))
  exact ⟨rfl, (S4.drew.ac (show _ = Pt b3 [.int .i64 d.size, .slice ba d.buf.length bc, .slice sa d.snd.length sc, .slice ra d.rcv.length rc, .bool d.closed] 125 * (PWA L rb nowi rest kb S * R) by ac_rfl)).drop⟩
end
end Go.Proofs.YtbaidcnalkdhgaaGreat
set_option maxRecDepth 100000
namespace Go.Proofs.YtbaidcnalkdhgaaGreat
open Go Go.Eng
theorem valsEq_ev5 (a : Ev5) : valsEq (ev5 a) (ev5 a) = true := by
  simp [ev5, valsEq, valEq]
theorem same_events16 (v v' : Value) (xs : List Ev5) (w : World) (hr : Rd w.heap 5 ev5 v xs) (hr' : Rd w.heap 5 ev5 v' xs) :
    Rets Tryz.prog 64 #[v, v'] w fun u w' => Fr No w w' ∧ u = .bool true := by
  have hs := hr.small
  refine rets_of Tryz.func64 rfl Tryz.ntmps64 rfl rfl (by kernel_rfl) ?_
  ((iterate 15 (first | with_reducible apply vC_seq | with_reducible apply vC_region | with_reducible apply seqP_normal | (refine vE rfl ?_) | ((with_reducible apply vL_val); (case h => ((with_reducible apply opv_move); ((conv => lhs; whnf) <;> exact rfl)))) | ((with_reducible apply vL_val); (case h => ((with_reducible apply opv_len); ((conv => lhs; whnf) <;> exact rfl); assumption))) | with_reducible apply vL_nil)); (refine vC_cond_dec rfl (fun h => by omega) (fun _ => ?_)); apply vC_skip; apply seqP_normal; (iterate 2 (apply vC_seq)); apply vC_region; (refine vE rfl ?_); apply vL_nil; apply seqP_normal; apply vC_block)
  (apply vC_loop1 67106864 5 (fun u w' => ∃ k : Nat, u = .int .i64 (k : Int) ∧ k ≤ xs.length ∧ Fr No w w') (fun u _ => xs.length - (RowKit.intOf u).toNat)); (case h1 => (exact norm_eq rfl))
  case h0 => exact ⟨0, rfl, by omega, Fr.refl _ _⟩
  case round =>
  rintro junk _ w1 ⟨k, rfl, hk, hf⟩
  have hr1 := hr.frN hf
  have hr1' := hr'.frN hf
  by_cases hk' : k < xs.length
  · obtain ⟨a, ha⟩ : ∃ x, xs[k]? = some x := ⟨xs[k], by simp [hk']⟩
    have ha' : xs[((k : Nat) : Int).toNat]? = some a := by rw [Int.toNat_natCast]; exact ha
    ((iterate 2 (apply vC_seq)); apply vC_region; (refine vE rfl ?_); ((apply vL_val); (case h => ((apply opv_move); ((conv => lhs; whnf) <;> exact rfl)))); ((apply vL_val); (case h => ((apply opv_len); ((conv => lhs; whnf) <;> exact rfl); assumption))); (refine vE rfl ?_); apply vL_nil; apply seqP_normal; (refine vC_cond_dec rfl (fun _ => ?_) (fun h => by omega)); apply vC_skip; apply seqP_normal; apply vC_seq; apply vC_block; apply vC_seq)
    (with_reducible apply vC_drawQ); ((iterate 8 (first | ((with_reducible apply vQ_op); (case hi => exact rfl); (case hf => kernel_rfl); (case hS => exact Dr.refl _); (case hy => (intro j; ((with_reducible apply opv_E); exact rfl)))) | ((with_reducible apply vQ_op); (case hi => exact rfl); (case hf => kernel_rfl); (case hS => exact Dr.refl _); (case hy => (intro j; ((with_reducible apply opv_move); ((conv => lhs; whnf) <;> exact rfl))))) | ((with_reducible apply vQ_op); (case hi => exact rfl); (case hf => kernel_rfl); (case hS => exact Dr.refl _); (case hy => (intro j; ((with_reducible apply opv_indexAddr); ((conv => lhs; whnf) <;> exact rfl); exact rfl; assumption; (first | omega | (simp only [List.length_map]; omega)); (first | omega | (simp only [List.length_map]; omega)))))) | ((with_reducible apply vQ_op); (case hi => exact rfl); (case hf => kernel_rfl); (case hS => exact Dr.refl _); (case hy => (intro j; ((with_reducible apply opv_ld_eln); exact rfl; exact rfl; assumption; assumption)))))); ((apply vQ_op); (case hi => exact rfl); (case hf => kernel_rfl); (case hS => exact Dr.refl _); (case hy => (intro j; ((apply opv_neq_agg); exact rfl; exact rfl; (first | exact ⟨rfl, rfl, trivial⟩ | exact ⟨rfl, trivial⟩ | exact ⟨rfl, rfl, rfl, trivial⟩ | exact ⟨rfl, rfl, rfl, rfl, trivial⟩ | exact ⟨rfl, rfl, rfl, rfl, rfl, trivial⟩); (first | exact ⟨rfl, rfl, trivial⟩ | exact ⟨rfl, trivial⟩ | exact ⟨rfl, rfl, rfl, trivial⟩ | exact ⟨rfl, rfl, rfl, rfl, trivial⟩ | exact ⟨rfl, rfl, rfl, rfl, rfl, trivial⟩))))); ((apply vQ_end); (case hi => exact rfl); (case hf => kernel_rfl); (case hS => exact Dr.refl _)))
    refine vC_condF rfl (by rw [valsEq_ev5]; rfl) ?_
    (apply vC_skip; apply blockP_normal; apply seqP_normal; apply vC_region; (refine vE rfl ?_); ((apply vL_val); (case h => ((apply opv_add); exact rfl; exact rfl; (first | omega | (simp only [List.length_map]; omega))))); (refine vE rfl ?_); apply vL_nil; apply loopP_normal)
    (with_reducible apply end1); (case hs => ((iterate 16 (((refine same_updO ?_ ?_); rotate_left; exact rfl))); ((refine same_upd ?_ ?_); rotate_left; exact rfl); (exact same_mask _ _ _))); (case h1 => (exact norm_eq rfl))
    · exact ⟨k + 1, rfl, by omega, hf.drew⟩
    · simp [RowKit.intOf]; omega
  · have : xs.length = k := by omega
    ((iterate 2 (apply vC_seq)); apply vC_region; (refine vE rfl ?_); ((apply vL_val); (case h => ((apply opv_move); ((conv => lhs; whnf) <;> exact rfl)))); ((apply vL_val); (case h => ((apply opv_len); ((conv => lhs; whnf) <;> exact rfl); assumption))); (refine vE rfl ?_); apply vL_nil; apply seqP_normal; (refine vC_cond_dec rfl (fun h => by omega) (fun _ => ?_)); apply vC_exit; apply seqP_exit; apply loopP_exit; apply blockP_exit; apply seqP_normal; apply vC_seq; apply vC_region; (refine vE rfl ?_); apply vL_nil; apply seqP_normal; apply vC_ret)
    (apply ret1; (case h1 => (exact norm_eq rfl)))
    exact ⟨hf, rfl⟩
def RW.m (T : RW) : MW := ⟨T.ch.map RR.m, T.at_, T.to, T.ov, T.li, T.ev, T.fi, 0, [], 0, T.rest⟩
theorem rwa_gwa {qb : Nat} {vp : Value} {T : RW} {R : Asr} {w0 w : World} {F0 : Nat → Prop} (S1 : At (RwA qb vp T * R) w0 F0 w) : At (GwA qb vp T.m * R) w0 F0 w := by
  obtain ⟨v, S2⟩ := rw_open S1
  have S3 := At.nil 195 3 tmE S2
  refine gw_shut (v := ⟨v.ch, v.at_, v.to, v.ov, v.li, v.ev, v.fi, .slice none 0 0⟩) (rows := T.ch) rfl (S3.ac ?_)
  unfold RwP GwP RW.m
  dsimp only
  rw [show rwL vp v T.rest = gwL vp ⟨v.ch, v.at_, v.to, v.ov, v.li, v.ev, v.fi, .slice none 0 0⟩ 0 0 T.rest from rfl]
  ac_rfl
theorem sim_init {cl : List (Nat × Int)} {tl : List Nat} {sizes : List Int} (hc : cl.map (·.2) = sizes) : Sim (ps0 cl tl) (rwI (sizes.map row0) tl.length).m ∧ DInv (rwI (sizes.map row0) tl.length).m := by
  have hch : (rwI (sizes.map row0) tl.length).m.ch = sizes.map fun s => (⟨s, [], [], [], false⟩ : MC) := by
    show ((sizes.map row0).map RR.m) = _
    rw [List.map_map]; rfl
  have hlen : sizes.length = cl.length := by rw [← hc, List.length_map]
  have hb : ∀ i s, (ps0 cl tl).sts[i]? = some s → ∃ t, s = .rdyY ⟨t, i, 0, ⟨0, 0, false⟩⟩ ∧ i < tl.length := fun i s hs => by
    have hs : (tl.mapIdx fun i t => (St.rdyY ⟨t, i, 0, ⟨0, 0, false⟩⟩ : St K16))[i]? = some s := hs
    rw [List.getElem?_mapIdx] at hs
    cases ht : tl[i]? with
    | none => rw [ht] at hs; cases hs
    | some t => rw [ht] at hs; cases hs; exact ⟨t, rfl, (List.getElem?_eq_some_iff.1 ht).1⟩
  have hn : (ps0 cl tl).sts.length = tl.length := by show (tl.mapIdx _).length = _; rw [List.length_mapIdx]
  constructor
  · refine ⟨rfl, ?_, ?_, ?_, ?_, fun j d c hd hcj => ?_, fun i s k hs hk => ?_, fun i s hs hr => ?_, fun j j' c c' x x' h1 h2 h3 h4 _ => ?_⟩
    · rw [hn]; exact List.length_replicate
    · rw [hn]; exact List.length_replicate
    · rw [hn]; exact List.length_replicate
    · rw [hch, List.length_map, hlen]
      show _ = (cl.map c16).length
      rw [List.length_map]
    · rw [hch, List.getElem?_map] at hcj
      have hd : (cl.map c16)[j]? = some d := hd
      rw [List.getElem?_map] at hd
      cases hx : cl[j]? with
      | none => rw [hx] at hd; cases hd
      | some x =>
        rw [hx] at hd
        cases hd
        have hsx : sizes[j]? = some x.2 := by rw [← hc, List.getElem?_map, hx]; rfl
        rw [hsx] at hcj
        cases hcj
        exact ⟨rfl, rfl, rfl, Zip.nil, Zip.nil⟩
    · obtain ⟨t, rfl, hi⟩ := hb i s hs
      cases hk
      show (List.replicate tl.length (0 : Int))[i]? = _
      rw [List.getElem?_replicate, if_pos hi]; rfl
    · obtain ⟨t, rfl, hi⟩ := hb i s hs
      show (List.replicate tl.length (⟨0, 0, false⟩ : To))[i]? = _
      rw [List.getElem?_replicate, if_pos hi]; rfl
    · rw [hch, List.getElem?_map] at h1
      cases hx : sizes[j]? with
      | none => rw [hx] at h1; cases h1
      | some y => rw [hx] at h1; cases h1; cases h3
  · refine ⟨fun a ha => ?_, Nat.le_refl _, Int.le_refl _, by show (0 : Int) ≤ _; decide⟩
    have ha : a ∈ List.replicate tl.length (0 : Int) := ha
    have := List.eq_of_mem_replicate ha
    subst this
    exact ⟨Int.le_refl _, Int.natCast_nonneg _⟩
end Go.Proofs.YtbaidcnalkdhgaaGreat
set_option maxRecDepth 100000
namespace Go.Proofs.YtbaidcnalkdhgaaGreat
open Go Go.Eng
theorem rd_lit {α : Type} {enc : α → List Value} {sz : Nat} [ie : EncOk enc sz] {h : Array Obj} {b : Nat} {cs : List Value} {T : TypeId} (xs : List α) (hb : Blk h b cs T) (hc : xs.flatMap enc = cs) (hl : xs.length ≤ 10) : Rd h sz enc (.slice (some ⟨b, 0, none⟩) xs.length xs.length) xs := by
  have : Own h T sz enc (.slice (some ⟨b, 0, none⟩) xs.length xs.length) xs := ⟨fun x _ => ie.len x, .inr ⟨b, xs.length, cs, rfl, hb, Nat.le_refl _, by simp [maxLen]; omega, by rw [← hc, flatMap_len xs (fun x _ => ie.len x)], by rw [← hc, List.take_of_length_le]; rw [flatMap_len xs (fun x _ => ie.len x)]; exact Nat.le_refl _⟩⟩
  exact this.rd
theorem inv16_init {P : List (List Do5)} {cl : List (Nat × Int)} {tl : List Nat} (h : tl.length = P.length) : Inv16 P cl tl (ps0 cl tl, []) := by
  have hk : (ps0 cl tl).sts.map St.key = tl.mapIdx fun i t => some ⟨t, i, 0, ⟨0, 0, false⟩⟩ := by
    unfold ps0 born16
    refine List.ext_getElem? fun i => ?_
    rw [List.getElem?_map, List.getElem?_mapIdx, List.getElem?_mapIdx]
    cases tl[i]? <;> rfl
  refine ⟨?_, rfl, ?_, h, fun i k hi => ?_⟩
  · show (cl.map c16).map C16.cbz = cl
    rw [List.map_map]
    exact List.map_id cl
  · show (born16 tl).length = _
    unfold born16
    rw [List.length_mapIdx, h]
  · have hi : ((ps0 cl tl).sts.map St.key)[i]? = some (some k) := hi
    rw [hk, List.getElem?_mapIdx] at hi
    cases ht : tl[i]? with
    | none => rw [ht] at hi; cases hi
    | some t =>
      rw [ht] at hi
      cases hi
      exact ⟨rfl, rfl, Nat.zero_le _⟩
/-- the law's world -/
def W16 (wb rb : Nat) (vp : Value) (cl : List (Nat × Int)) (tl : List Nat) (T : T16) : Asr := Ex fun kb : List Bx => PWA (L16 wb) rb none 0 kb T.1 * WA wb rb vp (cl.map (·.1)) tl T.2 false
instance instLclW16 (wb rb : Nat) (vp : Value) (cl : List (Nat × Int)) (tl : List Nat) (T : T16) : Lcl (W16 wb rb vp cl tl T) := by unfold W16; infer_instance
section
variable {w w0 : World} {R : Asr} {wb rb : Nat} {vp : Value} {cl : List (Nat × Int)} {tl : List Nat} {T : T16} {F0 : Nat → Prop}
theorem w16_open (S : At (W16 wb rb vp cl tl T * R) w0 F0 w) : ∃ kb, At (PWA (L16 wb) rb none 0 kb T.1 * (WA wb rb vp (cl.map (·.1)) tl T.2 false * R)) w0 F0 w := by
  unfold W16 at S
  obtain ⟨kb, S⟩ := S.ex
  exact ⟨kb, S.ac (star_assoc _ _ _)⟩
theorem w16_shut {kb : List Bx} (S : At (PWA (L16 wb) rb none 0 kb T.1 * (WA wb rb vp (cl.map (·.1)) tl T.2 false * R)) w0 F0 w) : At (W16 wb rb vp cl tl T * R) w0 F0 w := by
  unfold W16
  exact At.intro kb (S.ac (star_assoc _ _ _).symm)
/-- what the programs are: kept all along -/
structure Pr16 (w0 : World) (vp : Value) (P : List (OV × List Do5)) (cl : List (Nat × Int)) : Prop where
  z : Pz16 w0.heap vp P
  six : P.length ≤ 6
  ch : ∀ y ∈ P, ∀ (d : Do5), d ∈ y.2 → 0 ≤ d.c ∧ d.c < (cl.length : Int)
  pos : 0 < cl.length
theorem w16_step [Lcl R] {P : List (OV × List Do5)} (p : Pr16 w0 vp P cl) (S : At (W16 wb rb vp cl tl T * R) w0 No w) (I : Inv16 (P.map (·.2)) cl tl T) (hev : T.2.length ≤ 100000) (k : Int) (hk : 0 ≤ k ∧ k ≤ 18446744073709551615) :
    Rets Tryz.prog 24 #[pt rb, .int .u64 k] w fun u w' => (step16 (P.map (·.2)) T k = none ∧ u = .bool false ∧ At (W16 wb rb vp cl tl T * R) w0 No w') ∨ ∃ T', step16 (P.map (·.2)) T k = some T' ∧ Inv16 (P.map (·.2)) cl tl T' ∧ T'.2.length = T.2.length + 1 ∧ u = .bool true ∧ At (W16 wb rb vp cl tl T' * R) w0 No w' := by
  obtain ⟨kb, S1⟩ := w16_open S
  refine (w_step p.z p.six S1 I p.ch p.pos hev k hk).mono fun u w' h => ?_
  rcases h with ⟨h1, h2, rfl, rfl⟩ | ⟨T', h1, h2, h3, rfl, kb', _, h4⟩
  · exact .inl ⟨h2, rfl, S⟩
  · exact .inr ⟨T', h1, h2, h3, rfl, w16_shut h4⟩
/-- what can be seen of it -/
theorem w16_see [Lcl R] (S : At (W16 wb rb vp cl tl T * R) w0 F0 w) : ∃ cv tv ev, Blk w.heap wb [pt rb, vp, cv, tv, ev, .bool false] 61 ∧ Own w.heap 28 1 ptE cv (cl.map (·.1)) ∧ Own w.heap 34 1 ptE tv tl ∧ Own w.heap 100 5 ev5 ev T.2 ∧ cv.oneCell' = true ∧ tv.oneCell' = true ∧ ev.oneCell' = true := by
  obtain ⟨kb, S1⟩ := w16_open S
  obtain ⟨cv, tv, ev, S2⟩ := wa_open (S1.ac (show _ = WA wb rb vp (cl.map (·.1)) tl T.2 false * (PWA (L16 wb) rb none 0 kb T.1 * R) by ac_rfl))
  have h1 := (S2.ac (show _ = Ow 28 1 ptE cv (cl.map (·.1)) * (Pt wb [pt rb, vp, cv, tv, ev, .bool false] 61 * (Ow 34 1 ptE tv tl * (Ow 100 5 ev5 ev T.2 * (PWA (L16 wb) rb none 0 kb T.1 * R)))) by ac_rfl)).own
  have h2 := (S2.ac (show _ = Ow 34 1 ptE tv tl * (Pt wb [pt rb, vp, cv, tv, ev, .bool false] 61 * (Ow 28 1 ptE cv (cl.map (·.1)) * (Ow 100 5 ev5 ev T.2 * (PWA (L16 wb) rb none 0 kb T.1 * R)))) by ac_rfl)).own
  have h3 := (S2.ac (show _ = Ow 100 5 ev5 ev T.2 * (Pt wb [pt rb, vp, cv, tv, ev, .bool false] 61 * (Ow 28 1 ptE cv (cl.map (·.1)) * (Ow 34 1 ptE tv tl * (PWA (L16 wb) rb none 0 kb T.1 * R)))) by ac_rfl)).own
  exact ⟨cv, tv, ev, S2.blk, h1.1, h2.1, h3.1, h1.2, h2.2, h3.2⟩
end
end Go.Proofs.YtbaidcnalkdhgaaGreat
set_option maxRecDepth 100000
namespace Go.Proofs.YtbaidcnalkdhgaaGreat
open Go Go.Eng
theorem len1 {α : Type} : ∀ {l : List α}, l.length = 1 → ∃ x, l = [x]
  | [x], _ => ⟨x, rfl⟩
theorem len2 {α : Type} : ∀ {l : List α}, l.length = 2 → ∃ x y, l = [x, y]
  | [x, y], _ => ⟨x, y, rfl⟩
def nl0 : OV := ⟨.slice none 0 0, rfl⟩
def pa16 (b1 b2 : Nat) : List (OV × List Do5) := [(⟨.slice (some ⟨b1, 0, none⟩) 2 2, rfl⟩, [⟨2, 0, 5, nl0, false⟩, ⟨4, 0, 0, nl0, false⟩]), (⟨.slice (some ⟨b2, 0, none⟩) 2 2, rfl⟩, [⟨3, 0, 0, nl0, false⟩, ⟨3, 0, 0, nl0, false⟩])]
def Qa16 : List (List Do5) := [[⟨2, 0, 5, nl0, false⟩, ⟨4, 0, 0, nl0, false⟩], [⟨3, 0, 0, nl0, false⟩, ⟨3, 0, 0, nl0, false⟩]]
/-- the last that task 1 was told as it went on the first time -/
def lastE (E : List Ev5) (k : Nat) : Ev5 := (E.take k).foldl (fun acc e => if e.t = 1 ∧ e.a = 1 then e else acc) ⟨0, 0, 0, 0, false⟩
theorem run16a (t0 t1 cb : Nat) : runF (step16 Qa16) [1, 0] 20 0 (⟨[.rdyS ⟨t0, 0, 1, ⟨0, 0, false⟩⟩ true, .rdyR ⟨t1, 1, 1, ⟨0, 0, false⟩⟩ 5 true], [t0, t1], [⟨cb, 0, [], [], [], false⟩], [0, 1]⟩, [⟨0, 0, 0, 0, false⟩, ⟨1, 0, 0, 0, false⟩]) = (4, (⟨[.over, .over], [t0, t1], [⟨cb, 0, [], [], [], true⟩], []⟩, [⟨0, 0, 0, 0, false⟩, ⟨1, 0, 0, 0, false⟩, ⟨1, 1, 0, 5, true⟩, ⟨0, 1, 0, 0, true⟩, ⟨0, 2, 0, 0, true⟩, ⟨1, 2, 0, 0, false⟩])) := by
  rw [runF_some (s' := (⟨[.rdyS ⟨t0, 0, 1, ⟨0, 0, false⟩⟩ true, .wR ⟨t1, 1, 2, ⟨0, 0, false⟩⟩ 0], [t0, t1], [⟨cb, 0, [], [], [1], false⟩], [0]⟩, [⟨0, 0, 0, 0, false⟩, ⟨1, 0, 0, 0, false⟩, ⟨1, 1, 0, 5, true⟩])) (show step16 Qa16 (⟨[.rdyS ⟨t0, 0, 1, ⟨0, 0, false⟩⟩ true, .rdyR ⟨t1, 1, 1, ⟨0, 0, false⟩⟩ 5 true], [t0, t1], [⟨cb, 0, [], [], [], false⟩], [0, 1]⟩, [⟨0, 0, 0, 0, false⟩, ⟨1, 0, 0, 0, false⟩]) (pkA [1, 0] 0) = _ from rfl)]
  rw [runF_some (s' := (⟨[.rdyY ⟨t0, 0, 2, ⟨0, 0, true⟩⟩, .rdyR ⟨t1, 1, 2, ⟨0, 0, false⟩⟩ 0 false], [t0, t1], [⟨cb, 0, [], [], [], true⟩], [1, 0]⟩, [⟨0, 0, 0, 0, false⟩, ⟨1, 0, 0, 0, false⟩, ⟨1, 1, 0, 5, true⟩, ⟨0, 1, 0, 0, true⟩])) (show step16 Qa16 (⟨[.rdyS ⟨t0, 0, 1, ⟨0, 0, false⟩⟩ true, .wR ⟨t1, 1, 2, ⟨0, 0, false⟩⟩ 0], [t0, t1], [⟨cb, 0, [], [], [1], false⟩], [0]⟩, [⟨0, 0, 0, 0, false⟩, ⟨1, 0, 0, 0, false⟩, ⟨1, 1, 0, 5, true⟩]) (pkA [1, 0] 1) = _ from rfl)]
  rw [runF_some (s' := (⟨[.over, .rdyR ⟨t1, 1, 2, ⟨0, 0, false⟩⟩ 0 false], [t0, t1], [⟨cb, 0, [], [], [], true⟩], [1]⟩, [⟨0, 0, 0, 0, false⟩, ⟨1, 0, 0, 0, false⟩, ⟨1, 1, 0, 5, true⟩, ⟨0, 1, 0, 0, true⟩, ⟨0, 2, 0, 0, true⟩])) (show step16 Qa16 (⟨[.rdyY ⟨t0, 0, 2, ⟨0, 0, true⟩⟩, .rdyR ⟨t1, 1, 2, ⟨0, 0, false⟩⟩ 0 false], [t0, t1], [⟨cb, 0, [], [], [], true⟩], [1, 0]⟩, [⟨0, 0, 0, 0, false⟩, ⟨1, 0, 0, 0, false⟩, ⟨1, 1, 0, 5, true⟩, ⟨0, 1, 0, 0, true⟩]) (pkA [1, 0] 2) = _ from rfl)]
  rw [runF_some (s' := (⟨[.over, .over], [t0, t1], [⟨cb, 0, [], [], [], true⟩], []⟩, [⟨0, 0, 0, 0, false⟩, ⟨1, 0, 0, 0, false⟩, ⟨1, 1, 0, 5, true⟩, ⟨0, 1, 0, 0, true⟩, ⟨0, 2, 0, 0, true⟩, ⟨1, 2, 0, 0, false⟩])) (show step16 Qa16 (⟨[.over, .rdyR ⟨t1, 1, 2, ⟨0, 0, false⟩⟩ 0 false], [t0, t1], [⟨cb, 0, [], [], [], true⟩], [1]⟩, [⟨0, 0, 0, 0, false⟩, ⟨1, 0, 0, 0, false⟩, ⟨1, 1, 0, 5, true⟩, ⟨0, 1, 0, 0, true⟩, ⟨0, 2, 0, 0, true⟩]) (pkA [1, 0] 3) = _ from rfl)]
  exact runF_none (show step16 Qa16 (⟨[.over, .over], [t0, t1], [⟨cb, 0, [], [], [], true⟩], []⟩, [⟨0, 0, 0, 0, false⟩, ⟨1, 0, 0, 0, false⟩, ⟨1, 1, 0, 5, true⟩, ⟨0, 1, 0, 0, true⟩, ⟨0, 2, 0, 0, true⟩, ⟨1, 2, 0, 0, false⟩]) (pkA [1, 0] 4) = none from rfl)
theorem awake16 (w : World) : Rets Tryz.prog 28 #[] w fun u w' => u = .bool true ∧ Fr No w w' := by
  refine rets_of Tryz.func28 rfl Tryz.ntmps28 rfl rfl (by kernel_rfl) ?_
  (apply vC_seq; apply vC_region; (refine vE rfl ?_); apply vL_nil; apply seqP_normal; apply vC_seq; apply vC_region; (iterate 6 (first | ((with_reducible apply vL_val); (case h => ((with_reducible apply opv_buildS); exact rfl; exact (rfl : _ = some [_, _, _, _, _])))) | ((with_reducible apply vL_val); (case h => ((with_reducible apply opw_buildSl); exact rfl; exact rfl; exact rfl; exact (rfl : _ = some [_, _, _, _, _, _, _, _, _, _])))))); ((apply vL_val); (case h => ((apply opw_buildSl); exact rfl; exact rfl; exact rfl; exact (rfl : _ = some [_, _])))); ((apply vL_val); (case h => ((apply opw_buildSl); exact rfl; exact rfl; exact rfl; exact (rfl : _ = some [_])))))
  refine vL_gen (fun w' => Fr No w w' ∧ Blk w'.heap w.heap.size [.int .i64 2, .int .i64 0, .int .i64 5, .slice none 0 0, .bool false, .int .i64 4, .int .i64 0, .int .i64 0, .slice none 0 0, .bool false] 167 ∧ Blk w'.heap (w.alloc (.cells #[.int .i64 2, .int .i64 0, .int .i64 5, .slice none 0 0, .bool false, .int .i64 4, .int .i64 0, .int .i64 0, .slice none 0 0, .bool false] 167)).heap.size [.int .i64 3, .int .i64 0, .int .i64 0, .slice none 0 0, .bool false, .int .i64 3, .int .i64 0, .int .i64 0, .slice none 0 0, .bool false] 167 ∧ Blk w'.heap ((w.alloc (.cells #[.int .i64 2, .int .i64 0, .int .i64 5, .slice none 0 0, .bool false, .int .i64 4, .int .i64 0, .int .i64 0, .slice none 0 0, .bool false] 167)).alloc (.cells #[.int .i64 3, .int .i64 0, .int .i64 0, .slice none 0 0, .bool false, .int .i64 3, .int .i64 0, .int .i64 0, .slice none 0 0, .bool false] 167)).heap.size [.slice (some ⟨w.heap.size, 0, none⟩) 2 2, .slice (some ⟨(w.alloc (.cells #[.int .i64 2, .int .i64 0, .int .i64 5, .slice none 0 0, .bool false, .int .i64 4, .int .i64 0, .int .i64 0, .slice none 0 0, .bool false] 167)).heap.size, 0, none⟩) 2 2] 168 ∧ Blk w'.heap (((w.alloc (.cells #[.int .i64 2, .int .i64 0, .int .i64 5, .slice none 0 0, .bool false, .int .i64 4, .int .i64 0, .int .i64 0, .slice none 0 0, .bool false] 167)).alloc (.cells #[.int .i64 3, .int .i64 0, .int .i64 0, .slice none 0 0, .bool false, .int .i64 3, .int .i64 0, .int .i64 0, .slice none 0 0, .bool false] 167)).alloc (.cells #[.slice (some ⟨w.heap.size, 0, none⟩) 2 2, .slice (some ⟨(w.alloc (.cells #[.int .i64 2, .int .i64 0, .int .i64 5, .slice none 0 0, .bool false, .int .i64 4, .int .i64 0, .int .i64 0, .slice none 0 0, .bool false] 167)).heap.size, 0, none⟩) 2 2] 168)).heap.size [.int .i64 0] 3) ⟨by ((iterate 4 (apply Fr.alloc)); exact Fr.refl _ _), Blk.as inferInstance rfl, Blk.as inferInstance rfl, Blk.as inferInstance rfl, Blk.as inferInstance rfl⟩ ?_
  rintro w4 ⟨hf4, k1, k2, k3, k4⟩
  generalize (((w.alloc (.cells #[.int .i64 2, .int .i64 0, .int .i64 5, .slice none 0 0, .bool false, .int .i64 4, .int .i64 0, .int .i64 0, .slice none 0 0, .bool false] 167)).alloc (.cells #[.int .i64 3, .int .i64 0, .int .i64 0, .slice none 0 0, .bool false, .int .i64 3, .int .i64 0, .int .i64 0, .slice none 0 0, .bool false] 167)).alloc (.cells #[.slice (some ⟨w.heap.size, 0, none⟩) 2 2, .slice (some ⟨(w.alloc (.cells #[.int .i64 2, .int .i64 0, .int .i64 5, .slice none 0 0, .bool false, .int .i64 4, .int .i64 0, .int .i64 0, .slice none 0 0, .bool false] 167)).heap.size, 0, none⟩) 2 2] 168)).heap.size = b4 at *
  generalize ((w.alloc (.cells #[.int .i64 2, .int .i64 0, .int .i64 5, .slice none 0 0, .bool false, .int .i64 4, .int .i64 0, .int .i64 0, .slice none 0 0, .bool false] 167)).alloc (.cells #[.int .i64 3, .int .i64 0, .int .i64 0, .slice none 0 0, .bool false, .int .i64 3, .int .i64 0, .int .i64 0, .slice none 0 0, .bool false] 167)).heap.size = b3 at *
  generalize (w.alloc (.cells #[.int .i64 2, .int .i64 0, .int .i64 5, .slice none 0 0, .bool false, .int .i64 4, .int .i64 0, .int .i64 0, .slice none 0 0, .bool false] 167)).heap.size = b2 at *
  generalize w.heap.size = b1 at *
  have z : Pz16 w4.heap (.slice (some ⟨b3, 0, none⟩) 2 2) (pa16 b1 b2) := ⟨rd_lit (enc := oE) (pa16 b1 b2) k3 rfl (show 2 ≤ 10 by decide), fun y hy => by
    simp only [pa16, List.mem_cons, List.not_mem_nil, or_false] at hy
    rcases hy with rfl | rfl
    · exact rd_lit (enc := do5) [⟨2, 0, 5, nl0, false⟩, ⟨4, 0, 0, nl0, false⟩] k1 rfl (by decide)
    · exact rd_lit (enc := do5) [⟨3, 0, 0, nl0, false⟩, ⟨3, 0, 0, nl0, false⟩] k2 rfl (by decide), rfl⟩
  have hs : Rd w4.heap 1 iE (.slice (some ⟨b4, 0, none⟩) 1 1) [0] := rd_lit (enc := iE) [0] k4 rfl (by decide)
  have hPm : (pa16 b1 b2).map (·.2) = Qa16 := rfl
  refine vL_callF rfl (begun16 z (show 2 ≤ 6 by decide) hs (by decide) (by decide) rfl) rfl ?_
  rintro _ w5 ⟨wb, qb, rb, cl, tl, kb, rfl, hcl, htl, S5⟩
  obtain ⟨⟨cb, c0⟩, rfl⟩ : ∃ x, cl = [x] := len1 (by have := congrArg List.length hcl; simpa using this)
  obtain rfl : c0 = 0 := by simpa using hcl
  obtain ⟨t0, t1, rfl⟩ : ∃ t0 t1, tl = [t0, t1] := len2 htl
  have I0 : Inv16 ((pa16 b1 b2).map (·.2)) [(cb, 0)] [t0, t1] (ps0 [(cb, 0)] [t0, t1], []) := inv16_init rfl
  have pr : Pr16 w4 (.slice (some ⟨b3, 0, none⟩) 2 2) (pa16 b1 b2) [(cb, 0)] := ⟨z, show 2 ≤ 6 by decide, fun y hy d hd => by
    simp only [pa16, List.mem_cons, List.not_mem_nil, or_false] at hy
    rcases hy with rfl | rfl <;> (simp only [List.mem_cons, List.not_mem_nil, or_false] at hd; rcases hd with rfl | rfl <;> exact ⟨Int.le_refl _, show (0 : Int) < 1 by decide⟩), Nat.one_pos⟩
  generalize (.slice (some ⟨b3, 0, none⟩) 2 2 : Value) = vp at *
  have S6 : At (W16 wb rb vp [(cb, 0)] [t0, t1] (ps0 [(cb, 0)] [t0, t1], []) * RwA qb vp (rwI ([0].map row0) (pa16 b1 b2).length)) w4 No w5 := w16_shut S5
  clear S5 k1 k2 k3 k4 hs z
  obtain ⟨_, _, _, h51, h52, h53, h54, h55, h56, h57⟩ := w16_see S6
  ((iterate 5 ((refine vE rfl ?_))); apply vL_nil; apply seqP_normal; (iterate 2 (apply vC_seq)); apply vC_region; (iterate 8 (first | (refine vE rfl ?_) | ((with_reducible apply vL_val); (case h => ((with_reducible apply opv_eql_pnil); exact rfl; exact rfl; (simp; done)))) | ((with_reducible apply vL_wanted); exact rfl))); (refine vL_val (opv_fieldAddr rfl) ?_); ((apply vL_wanted); exact rfl); ((apply vL_val); (case h => ((apply opv_loadb1); exact rfl; exact rfl; assumption; exact rfl))); ((apply vL_wanted); exact rfl))
  refine vL_callF rfl (w16_step pr S6 I0 (Nat.zero_le _) 0 (by decide)) rfl ?_
  rw [hPm]
  have hs1 : step16 Qa16 (ps0 [(cb, 0)] [t0, t1], []) 0 = some (⟨[.wS ⟨t0, 0, 1, ⟨0, 0, false⟩⟩ 0 5, .rdyY ⟨t1, 1, 0, ⟨0, 0, false⟩⟩], [t0, t1], [⟨cb, 0, [], [0], [], false⟩], [1]⟩, [⟨0, 0, 0, 0, false⟩]) := rfl
  rw [hs1]
  rintro _ w6 (⟨h, _⟩ | ⟨T1, h, I1, hl1, rfl, S7⟩)
  · cases h
  obtain rfl := Option.some.inj h
  clear h hs1 h51 h52 h53 h54 S6 hl1 I0
  obtain ⟨_, _, _, h61, h62, h63, h64, h65, h66, h67⟩ := w16_see S7
  (((apply vL_wanted); exact rfl); (refine vL_val (opv_not rfl) ?_); (iterate 7 (first | (refine vE rfl ?_) | ((with_reducible apply vL_wanted); exact rfl))); (refine vL_val (opv_fieldAddr rfl) ?_); ((apply vL_wanted); exact rfl); ((apply vL_val); (case h => ((apply opv_loadb1); exact rfl; exact rfl; assumption; exact rfl))); ((apply vL_wanted); exact rfl))
  obtain ⟨kb1, S8⟩ := w16_open S7
  refine vL_callF rfl (pw_parked S8) rfl ?_
  intro v7 w7 S9
  have o9 : Own w7.heap 3 1 iE v7 [0] := S9.own.1
  have S10 := w16_shut S9.drop
  obtain ⟨_, _, _, h71, h72, h73, h74, h75, h76, h77⟩ := w16_see S10
  obtain ⟨ra, rn, rc, rfl⟩ := o9.isSlice
  clear h61 h62 h63 h64 S7 S8 S9
  (((apply vL_wanted); exact rfl); ((apply vL_val); (case h => ((apply opw_buildSl); exact rfl; exact rfl; exact rfl; exact (rfl : _ = some [_])))); ((apply vL_wanted); exact rfl))
  refine vL_callF rfl (kit_same_int _ _ [0] [0] _ (o9.rd.alloc) (Rd.new1 iE 0 rfl)) rfl ?_
  rintro _ w8 ⟨⟨k8, rfl⟩, rfl⟩
  have S11 := S10.frN (show Fr No w7 ((w7.alloc (.cells #[.int .i64 0] 3)).drewN k8) by (apply Fr.drewN; apply Fr.alloc; exact Fr.refl _ _))
  obtain ⟨_, _, _, h81, h82, h83, h84, h85, h86, h87⟩ := w16_see S11
  clear h71 h72 h73 h74 S10 o9
  generalize (w7.alloc (.cells #[.int .i64 0] 3)).drewN k8 = w8 at *
  (((apply vL_wanted); exact rfl); (refine vL_val (opv_not rfl) ?_); (iterate 7 (first | (refine vE rfl ?_) | ((with_reducible apply vL_wanted); exact rfl))); (refine vL_val (opv_fieldAddr rfl) ?_); ((apply vL_wanted); exact rfl); ((apply vL_val); (case h => ((apply opv_loadb1); exact rfl; exact rfl; assumption; exact rfl))); ((apply vL_wanted); exact rfl))
  refine vL_callF rfl (w16_step pr S11 I1 (show 1 ≤ 100000 by decide) 0 (by decide)) rfl ?_
  rw [hPm]
  have hs2 : step16 Qa16 (⟨[.wS ⟨t0, 0, 1, ⟨0, 0, false⟩⟩ 0 5, .rdyY ⟨t1, 1, 0, ⟨0, 0, false⟩⟩], [t0, t1], [⟨cb, 0, [], [0], [], false⟩], [1]⟩, [⟨0, 0, 0, 0, false⟩]) 0 = some (⟨[.rdyS ⟨t0, 0, 1, ⟨0, 0, false⟩⟩ true, .rdyR ⟨t1, 1, 1, ⟨0, 0, false⟩⟩ 5 true], [t0, t1], [⟨cb, 0, [], [], [], false⟩], [0, 1]⟩, [⟨0, 0, 0, 0, false⟩, ⟨1, 0, 0, 0, false⟩]) := rfl
  rw [hs2]
  rintro _ w9 (⟨h, _⟩ | ⟨T1, h, I2, hl2, rfl, S12⟩)
  · cases h
  obtain rfl := Option.some.inj h
  clear h hs2 h81 h82 h83 h84 S11 hl2 I1
  obtain ⟨_, _, _, h91, h92, h93, h94, h95, h96, h97⟩ := w16_see S12
  (((apply vL_wanted); exact rfl); (refine vL_val (opv_not rfl) ?_); (iterate 7 (first | (refine vE rfl ?_) | ((with_reducible apply vL_wanted); exact rfl))); (refine vL_val (opv_fieldAddr rfl) ?_); ((apply vL_wanted); exact rfl); ((apply vL_val); (case h => ((apply opv_loadb1); exact rfl; exact rfl; assumption; exact rfl))); ((apply vL_wanted); exact rfl))
  obtain ⟨kb2, S13⟩ := w16_open S12
  refine vL_callF rfl (pw_ready S13) rfl ?_
  intro v10 w10 S14
  have o10 : Own w10.heap 3 1 iE v10 [0, 1] := S14.own.1
  have S15 := w16_shut S14.drop
  obtain ⟨_, _, _, h101, h102, h103, h104, h105, h106, h107⟩ := w16_see S15
  obtain ⟨qa, qn, qc, rfl⟩ := o10.isSlice
  clear h91 h92 h93 h94 S12 S13 S14
  (((apply vL_wanted); exact rfl); ((apply vL_val); (case h => ((apply opw_buildSl); exact rfl; exact rfl; exact rfl; exact (rfl : _ = some [_, _])))); ((apply vL_wanted); exact rfl))
  refine vL_callF rfl (kit_same_int _ _ [0, 1] [0, 1] _ (o10.rd.alloc) (Rd.newN iE [0, 1] rfl rfl (by decide))) rfl ?_
  rintro _ w11 ⟨⟨k11, rfl⟩, rfl⟩
  have S16 := S15.frN (show Fr No w10 ((w10.alloc (.cells #[.int .i64 0, .int .i64 1] 3)).drewN k11) by (apply Fr.drewN; apply Fr.alloc; exact Fr.refl _ _))
  obtain ⟨_, _, _, h111, h112, h113, h114, h115, h116, h117⟩ := w16_see S16
  clear h101 h102 h103 h104 S15 o10
  generalize (w10.alloc (.cells #[.int .i64 0, .int .i64 1] 3)).drewN k11 = w11 at *
  (((apply vL_wanted); exact rfl); (refine vL_val (opv_not rfl) ?_); (refine vE rfl ?_); apply vL_nil; apply seqP_normal; ((apply vC_cond_false); exact rfl); apply vC_skip; apply seqP_normal; apply vC_seq; apply vC_region; (iterate 2 ((refine vE rfl ?_))); (refine vL_val (opv_fieldAddr rfl) ?_); ((apply vL_val); (case h => ((apply opv_loadb1); exact rfl; exact rfl; assumption; exact rfl))); ((apply vL_val); (case h => ((apply opw_buildSl); exact rfl; exact rfl; exact rfl; exact (rfl : _ = some [_, _])))))
  refine vL_gen (fun w' => At (Pt w11.heap.size [.int .u64 1, .int .u64 0] 43 * (W16 wb rb vp [(cb, 0)] [t0, t1] (⟨[.rdyS ⟨t0, 0, 1, ⟨0, 0, false⟩⟩ true, .rdyR ⟨t1, 1, 1, ⟨0, 0, false⟩⟩ 5 true], [t0, t1], [⟨cb, 0, [], [], [], false⟩], [0, 1]⟩, [⟨0, 0, 0, 0, false⟩, ⟨1, 0, 0, 0, false⟩]) * RwA qb vp (rwI ([0].map row0) (pa16 b1 b2).length))) w4 No w') S16.alloc ?_
  clear h111 h112 h113 h114 S16
  intro w12 S17
  generalize w11.heap.size = bk at *
  have hrg := run_gen (fun T => W16 wb rb vp [(cb, 0)] [t0, t1] T) (step16 Qa16) (fun n T => Inv16 Qa16 [(cb, 0)] [t0, t1] T ∧ T.2.length ≤ n + 2) (R := Pt bk [.int .u64 1, .int .u64 0] 43 * RwA qb vp (rwI ([0].map row0) (pa16 b1 b2).length)) (picks := [1, 0]) 20 (by decide) (fun n T p w' hn hG hp S => (w16_step pr S hG.1 (by omega) p hp).mono fun u w'' h => h.imp (fun h => h) (fun ⟨T', g1, g2, g3, g4, g5⟩ => ⟨T', g1, ⟨g2, by omega⟩, g4, g5⟩)) (fun T w' S => rd_lit (enc := uE) [1, 0] (S.ac (show _ = Pt bk [.int .u64 1, .int .u64 0] 43 * (RwA qb vp (rwI ([0].map row0) (pa16 b1 b2).length) * W16 wb rb vp [(cb, 0)] [t0, t1] T) by ac_rfl)).blk rfl (by decide)) (by decide) _ ⟨I2, Nat.le_refl _⟩ (S17.ac (by ac_rfl))
  refine vL_callF rfl (hrg) rfl ?_
  rintro _ w13 ⟨n, T3, hrun, rfl, ⟨I3, _⟩, S18⟩
  have hr4 := (run16a t0 t1 cb).symm.trans hrun
  obtain ⟨rfl, rfl⟩ := Prod.mk.inj hr4
  clear hr4 hrun hrg
  obtain ⟨R4, hR4⟩ : ∃ R4, R4 = Pt bk [.int .u64 1, .int .u64 0] 43 * RwA qb vp (rwI ([0].map row0) (pa16 b1 b2).length) := ⟨_, rfl⟩
  rw [← hR4] at S18
  haveI : Lcl R4 := by rw [hR4]; infer_instance
  clear hR4 S17
  obtain ⟨kb3, S19⟩ := w16_open S18
  obtain ⟨E, hE⟩ : ∃ E : List Ev5, E = [⟨0, 0, 0, 0, false⟩, ⟨1, 0, 0, 0, false⟩, ⟨1, 1, 0, 5, true⟩, ⟨0, 1, 0, 0, true⟩, ⟨0, 2, 0, 0, true⟩, ⟨1, 2, 0, 0, false⟩] := ⟨_, rfl⟩
  simp only [← hE] at S19
  obtain ⟨cv, tv, ev, S20⟩ := wa_open (S19.ac (show _ = WA wb rb vp [cb] [t0, t1] E false * (PWA (L16 wb) rb none 0 kb3 ⟨[.over, .over], [t0, t1], [⟨cb, 0, [], [], [], true⟩], []⟩ * R4) by ac_rfl))
  have hb20 := S20.blk
  have hE6 : E.length = 6 := by rw [hE]; rfl
  obtain ⟨R5, hR5⟩ : ∃ R5, R5 = Pt wb [pt rb, vp, cv, tv, ev, .bool false] 61 * (Ow 28 1 ptE cv [cb] * (Ow 34 1 ptE tv [t0, t1] * (PWA (L16 wb) rb none 0 kb3 ⟨[.over, .over], [t0, t1], [⟨cb, 0, [], [], [], true⟩], []⟩ * R4))) := ⟨_, rfl⟩
  have S21 : At (Ow 100 5 ev5 ev E * R5) w4 No w13 := S20.ac (by rw [hR5]; ac_rfl)
  haveI : Lcl R5 := by rw [hR5]; infer_instance
  have o21 := S21.own.1
  have o211 := S21.own.2
  obtain ⟨ea, ec, rfl⟩ := o21.rd.len
  clear S18 S19 S20
  (apply vL_nil; apply seqP_normal; apply vC_seq; apply vC_region; ((apply vL_val); (case h => ((apply opv_buildS); exact rfl; exact (rfl : _ = some [_, _, _, _, _])))); ((apply vL_val); (case h => (apply opw_alloc))); ((apply vL_skip); (case h => ((apply ops_storen); exact norm_eq rfl; exact norm_eq rfl; exact rfl; (intro u hu; simp at hu; rcases hu with rfl | rfl <;> (first | rfl | assumption)); infer_instance; (first | decide | exact of_decide_eq_true rfl | (simp; done))))); apply vL_nil; apply seqP_normal; (iterate 2 (apply vC_seq)); apply vC_region; (iterate 2 ((refine vE rfl ?_))); (refine vL_val (opv_fieldAddr rfl) ?_); ((apply vL_val); (case h => ((apply opv_loadb1); exact rfl; exact rfl; infer_instance; exact rfl))); (refine vL_val (opv_lenc rfl) ?_); (refine vE rfl ?_); apply vL_nil; apply seqP_normal; apply vC_block)
  refine vC_gen (fun w' => At (Pt w13.heap.size (ev5 (lastE E 0)) 100 * (Ow 100 5 ev5 (.slice ea E.length ec) E * R5)) w4 No w') (S21.new (by (apply Fr.allocSet; exact Fr.refl _ _)) (Blk.as inferInstance rfl) (Nat.le_refl _)) ?_
  clear S21 hb20 o21
  intro w14 S22
  generalize w13.heap.size = bt at *
  (apply vC_loop1 4835408130553337345998880 68 (fun u w' => ∃ k : Nat, u = .int .i64 (k : Int) ∧ k ≤ 6 ∧ At (Pt bt (ev5 (lastE E k)) 100 * (Ow 100 5 ev5 (.slice ea E.length ec) E * R5)) w4 No w') (fun u _ => 6 - (RowKit.intOf u).toNat)); (case h1 => (exact norm_eq rfl))
  case h0 => exact ⟨0, rfl, by decide, S22⟩
  clear S22
  case round =>
  rintro junk5 _ w15 ⟨k, rfl, hk, S23⟩
  have hbt := S23.blk
  have o23 := S23.swap.ac (star_assoc _ _ _) |>.own.1
  by_cases hlt : k < 6
  · obtain ⟨x, hx⟩ : ∃ x, E[k]? = some x := ⟨_, List.getElem?_eq_getElem (by omega)⟩
    have hx' : E[((k : Nat) : Int).toNat]? = some x := by rw [Int.toNat_natCast]; exact hx
    rw [ev5] at hbt
    have hls : lastE E (k + 1) = if x.t = 1 ∧ x.a = 1 then x else lastE E k := by unfold lastE; rw [List.take_add_one, hx]; simp
    have hbt' := hbt
    by_cases h1 : x.t = 1
    · by_cases h2 : x.a = 1
      · rw [if_pos ⟨h1, h2⟩] at hls
        (apply vC_seq; apply vC_region; (refine vE rfl ?_); apply vL_nil; apply seqP_normal; apply vC_seq; (refine vC_cond_dec rfl (fun _ => ?_) (fun h => by omega)); apply vC_skip; apply seqP_normal; apply vC_seq; apply vC_block; apply vC_seq; apply vC_region; ((apply vL_val); (case h => ((apply opv_indexAddr); exact norm_eq rfl; exact rfl; infer_instance; (first | omega | (simp only [List.length_map]; omega)); (first | omega | (simp only [List.length_map]; omega))))); ((apply vL_val); (case h => ((apply opv_ld_eln); exact rfl; exact rfl; infer_instance; assumption))); ((apply vL_val); (case h => (apply opw_alloc))); ((apply vL_skip); (case h => ((apply ops_storen); exact norm_eq rfl; exact norm_eq rfl; exact rfl; exact (fun u hu => EncOk.one _ u hu); infer_instance; (first | decide | exact of_decide_eq_true rfl | (simp; done))))); apply vL_nil; apply seqP_normal; apply vC_seq; apply vC_region; (iterate 11 (first | (refine vE rfl ?_) | ((with_reducible apply vL_val); (case h => ((with_reducible apply opv_loadb1); exact rfl; exact rfl; infer_instance; exact rfl))) | (refine vL_val (opv_fieldAddr rfl) ?_) | ((with_reducible apply vL_wanted); exact rfl) | (refine vL_and rfl rfl (fun _ => ?_) (fun h => by omega)))); apply vL_nil; apply seqP_normal; (refine vC_cond_dec rfl (fun _ => ?_) (fun h => by omega)); apply vC_region; ((apply vL_val); (case h => ((apply opv_loadbC); exact rfl; exact rfl; infer_instance; exact (rfl : _ = [_, _, _, _, _]); exact rfl))); ((apply vL_skip); (case h => ((apply ops_storen); exact norm_eq rfl; exact norm_eq rfl; exact rfl; (intro u hu; simp only [List.mem_cons, List.not_mem_nil, or_false] at hu; rcases hu with rfl | rfl | rfl | rfl | rfl | rfl | rfl | rfl | rfl | rfl <;> (first | rfl | assumption)); infer_instance; (first | decide | exact of_decide_eq_true rfl | (simp; done))))); apply vL_nil; apply blockP_normal; apply seqP_normal; apply vC_region; ((apply vL_val); (case h => ((apply opv_add); exact rfl; exact rfl; (first | omega | (simp only [List.length_map]; omega))))); (refine vE rfl ?_); apply vL_nil; apply loopP_normal)
        (with_reducible apply end1); (case hs => ((iterate 19 (first | with_reducible apply same_updN | ((with_reducible refine same_updO ?_ ?_); rotate_left; exact rfl) | ((with_reducible refine same_upd ?_ ?_); rotate_left; exact rfl))); (exact same_mask _ _ _))); (case h1 => (exact norm_eq rfl))
        · refine ⟨k + 1, rfl, by omega, ?_⟩
          rw [hls]
          exact S23.put (((((Fr.refl _ w15).alloc _).set _ _ (.inr (Nat.le_refl _)))).set _ _ (.inl rfl)) (Blk.as inferInstance rfl)
        · simp [RowKit.intOf]; omega
      · rw [if_neg (fun h => h2 h.2)] at hls
        (apply vC_seq; apply vC_region; (refine vE rfl ?_); apply vL_nil; apply seqP_normal; apply vC_seq; (refine vC_cond_dec rfl (fun _ => ?_) (fun h => by omega)); apply vC_skip; apply seqP_normal; apply vC_seq; apply vC_block; apply vC_seq; apply vC_region; ((apply vL_val); (case h => ((apply opv_indexAddr); exact norm_eq rfl; exact rfl; infer_instance; (first | omega | (simp only [List.length_map]; omega)); (first | omega | (simp only [List.length_map]; omega))))); ((apply vL_val); (case h => ((apply opv_ld_eln); exact rfl; exact rfl; infer_instance; assumption))); ((apply vL_val); (case h => (apply opw_alloc))); ((apply vL_skip); (case h => ((apply ops_storen); exact norm_eq rfl; exact norm_eq rfl; exact rfl; exact (fun u hu => EncOk.one _ u hu); infer_instance; (first | decide | exact of_decide_eq_true rfl | (simp; done))))); apply vL_nil; apply seqP_normal; apply vC_seq; apply vC_region; (iterate 11 (first | (refine vE rfl ?_) | ((with_reducible apply vL_val); (case h => ((with_reducible apply opv_loadb1); exact rfl; exact rfl; infer_instance; exact rfl))) | (refine vL_val (opv_fieldAddr rfl) ?_) | ((with_reducible apply vL_wanted); exact rfl) | (refine vL_and rfl rfl (fun _ => ?_) (fun h => by omega)))); apply vL_nil; apply seqP_normal; (refine vC_cond_dec rfl (fun h => by omega) (fun _ => ?_)); apply vC_skip; apply blockP_normal; apply seqP_normal; apply vC_region; ((apply vL_val); (case h => ((apply opv_add); exact rfl; exact rfl; (first | omega | (simp only [List.length_map]; omega))))); (refine vE rfl ?_); apply vL_nil; apply loopP_normal)
        (with_reducible apply end1); (case hs => ((iterate 17 (first | with_reducible apply same_updN | ((with_reducible refine same_updO ?_ ?_); rotate_left; exact rfl) | ((with_reducible refine same_upd ?_ ?_); rotate_left; exact rfl))); (exact same_mask _ _ _))); (case h1 => (exact norm_eq rfl))
        · refine ⟨k + 1, rfl, by omega, ?_⟩
          rw [hls]
          exact S23.frN (by (apply Fr.allocSet; exact Fr.refl _ _))
        · simp [RowKit.intOf]; omega
    · rw [if_neg (fun h => h1 h.1)] at hls
      (apply vC_seq; apply vC_region; (refine vE rfl ?_); apply vL_nil; apply seqP_normal; apply vC_seq; (refine vC_cond_dec rfl (fun _ => ?_) (fun h => by omega)); apply vC_skip; apply seqP_normal; apply vC_seq; apply vC_block; apply vC_seq; apply vC_region; ((apply vL_val); (case h => ((apply opv_indexAddr); exact norm_eq rfl; exact rfl; infer_instance; (first | omega | (simp only [List.length_map]; omega)); (first | omega | (simp only [List.length_map]; omega))))); ((apply vL_val); (case h => ((apply opv_ld_eln); exact rfl; exact rfl; infer_instance; assumption))); ((apply vL_val); (case h => (apply opw_alloc))); ((apply vL_skip); (case h => ((apply ops_storen); exact norm_eq rfl; exact norm_eq rfl; exact rfl; exact (fun u hu => EncOk.one _ u hu); infer_instance; (first | decide | exact of_decide_eq_true rfl | (simp; done))))); apply vL_nil; apply seqP_normal; apply vC_seq; apply vC_region; (refine vL_val (opv_fieldAddr rfl) ?_); ((apply vL_val); (case h => ((apply opv_loadb1); exact rfl; exact rfl; infer_instance; exact rfl))); (iterate 2 ((refine vE rfl ?_))); (refine vL_and rfl rfl (fun h => by omega) (fun _ => ?_)); (iterate 2 (((apply vL_unwanted'); exact rfl; exact rfl))); (refine vE rfl ?_); apply vL_nil; apply seqP_normal; ((apply vC_cond_false); exact rfl); apply vC_skip; apply blockP_normal; apply seqP_normal; apply vC_region; ((apply vL_val); (case h => ((apply opv_add); exact rfl; exact rfl; (first | omega | (simp only [List.length_map]; omega))))); (refine vE rfl ?_); apply vL_nil; apply loopP_normal)
      (with_reducible apply end1); (case hs => ((iterate 17 (first | with_reducible apply same_updN | ((with_reducible refine same_updO ?_ ?_); rotate_left; exact rfl) | ((with_reducible refine same_upd ?_ ?_); rotate_left; exact rfl))); (exact same_mask _ _ _))); (case h1 => (exact norm_eq rfl))
      · refine ⟨k + 1, rfl, by omega, ?_⟩
        rw [hls]
        exact S23.frN (by (apply Fr.allocSet; exact Fr.refl _ _))
      · simp [RowKit.intOf]; omega
  · obtain rfl : k = 6 := by omega
    have hl6 : lastE E 6 = ⟨1, 1, 0, 5, true⟩ := by rw [hE]; rfl
    rw [hl6, ev5] at hbt
    have S24 : At (PWA (L16 wb) rb none 0 kb3 ⟨[.over, .over], [t0, t1], [⟨cb, 0, [], [], [], true⟩], []⟩ * (Pt wb [pt rb, vp, cv, tv, .slice ea E.length ec, .bool false] 61 * (Ow 28 1 ptE cv [cb] * (Ow 34 1 ptE tv [t0, t1] * (Pt bt (ev5 (lastE E 6)) 100 * (Ow 100 5 ev5 (.slice ea E.length ec) E * R4)))))) w4 No w15 := S23.ac (by rw [hR5]; ac_rfl)
    have hwb := (S24.swap.ac (star_assoc _ _ _)).blk
    have hcv := (S24.ac (show _ = Ow 28 1 ptE cv [cb] * (Pt wb [pt rb, vp, cv, tv, .slice ea E.length ec, .bool false] 61 * (PWA (L16 wb) rb none 0 kb3 ⟨[.over, .over], [t0, t1], [⟨cb, 0, [], [], [], true⟩], []⟩ * (Ow 34 1 ptE tv [t0, t1] * (Pt bt (ev5 (lastE E 6)) 100 * (Ow 100 5 ev5 (.slice ea E.length ec) E * R4))))) by ac_rfl)).own
    obtain ⟨hcv1, hcv2⟩ := hcv
    have hd0 : (⟨[.over, .over], [t0, t1], [⟨cb, 0, [], [], [], true⟩], []⟩ : PS K16).cs[0]? = some ⟨cb, 0, [], [], [], true⟩ := rfl
    have hcl1 : ([cb] : List Nat).length = 1 := rfl
    have hcb : ([cb] : List Nat)[(0 : Int).toNat]? = some cb := rfl
    (apply vC_seq; apply vC_region; (refine vE rfl ?_); apply vL_nil; apply seqP_normal; apply vC_seq; (refine vC_cond_dec rfl (fun h => by omega) (fun _ => ?_)); apply vC_exit; apply seqP_exit; apply loopP_exit; apply blockP_exit; apply seqP_normal; apply vC_seq; apply vC_region; (iterate 19 (first | (refine vE rfl ?_) | ((with_reducible apply vL_val); (case h => ((with_reducible apply opv_loadb1); exact rfl; exact rfl; assumption; exact rfl))) | (refine vL_val (opv_fieldAddr rfl) ?_) | ((with_reducible apply vL_wanted); exact rfl))); ((apply vL_val); (case h => ((apply opv_indexAddr); ((conv => lhs; whnf) <;> exact rfl); exact rfl; infer_instance; (first | omega | (simp only [List.length_map]; omega)); (first | omega | (simp only [List.length_map]; omega))))); ((apply vL_wanted); exact rfl); ((apply vL_val); (case h => ((apply opv_ld_el); exact rfl; exact rfl; infer_instance; assumption; exact rfl))); ((apply vL_wanted); exact rfl))
    refine vL_callF rfl (pw_close S24 hd0) rfl ?_
    rintro _ w16 ⟨rfl, kb4, _, S25⟩
    rw [show (if (PS.close (⟨[.over, .over], [t0, t1], [⟨cb, 0, [], [], [], true⟩], []⟩ : PS K16) 0).2 then (0 : Int) else 150) = 150 from rfl]
    have e25 : (PS.close (⟨[.over, .over], [t0, t1], [⟨cb, 0, [], [], [], true⟩], []⟩ : PS K16) 0).1 = ⟨[.over, .over], [t0, t1], [⟨cb, 0, [], [], [], true⟩], []⟩ := rfl
    rw [e25] at S25
    have hwb2 := (S25.swap.ac (star_assoc _ _ _)).blk
    have htv := (S25.ac (show _ = Ow 34 1 ptE tv [t0, t1] * (Pt wb [pt rb, vp, cv, tv, .slice ea E.length ec, .bool false] 61 * (PWA (L16 wb) rb none 0 kb4 ⟨[.over, .over], [t0, t1], [⟨cb, 0, [], [], [], true⟩], []⟩ * (Ow 28 1 ptE cv [cb] * (Pt bt (ev5 (lastE E 6)) 100 * (Ow 100 5 ev5 (.slice ea E.length ec) E * R4))))) by ac_rfl)).own
    obtain ⟨htv1, htv2⟩ := htv
    have htl1 : ([t0, t1] : List Nat).length = 2 := rfl
    have ht1 : ([t0, t1] : List Nat)[(1 : Int).toNat]? = some t1 := rfl
    clear hwb hcv1 hbt o23
    ((iterate 25 (first | (refine vE rfl ?_) | ((with_reducible apply vL_val); (case h => ((with_reducible apply opv_loadb1); exact rfl; exact rfl; assumption; exact rfl))) | (refine vL_val (opv_fieldAddr rfl) ?_) | (refine vL_val (opv_not rfl) ?_) | ((with_reducible apply vL_wanted); exact rfl))); ((apply vL_val); (case h => ((apply opv_indexAddr); ((conv => lhs; whnf) <;> exact rfl); exact rfl; infer_instance; (first | omega | (simp only [List.length_map]; omega)); (first | omega | (simp only [List.length_map]; omega))))); ((apply vL_wanted); exact rfl); ((apply vL_val); (case h => ((apply opv_ld_el); exact rfl; exact rfl; infer_instance; assumption; exact rfl))); ((apply vL_wanted); exact rfl))
    refine vL_callF rfl (pw_over S25 (i := 1) (s := .over) (tb := t1) (show ([.over, .over] : List (St K16))[1]? = some .over from rfl) (show ([t0, t1] : List Nat)[1]? = some t1 from rfl)) rfl ?_
    rintro _ _ ⟨rfl, rfl⟩
    ((iterate 2 ((refine vE rfl ?_))); apply vL_nil; apply seqP_normal; apply vC_ret)
    (apply ret1; (case h1 => (exact norm_eq rfl)))
    exact ⟨rfl, hf4.trans S25.fr⟩
end Go.Proofs.YtbaidcnalkdhgaaGreat
