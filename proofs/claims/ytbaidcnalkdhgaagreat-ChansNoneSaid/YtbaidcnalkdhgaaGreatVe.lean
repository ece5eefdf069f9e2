/- Layers 15, 16: the plain world: what can be read. Layer 16: what is missing is refused. Layer 16: sends, receives and waits that are refused. Layer 16: waits that are refused. Layer 16: the law's world: what it holds; its closures. Layer 16: the closures of the law's world call its turn. Layer 16: the law's world: need; an event is told. -/
import Derived.Test.YtbaidcnalkdhgaaGreatVa
set_option maxRecDepth 100000
namespace Go.Proofs.YtbaidcnalkdhgaaGreat
open Go Go.Eng
section
variable {κ : Type} {L : LawP κ} {q : Q16} {nowi : Option Nat} {kb : List Bx} {S : PS κ} {i : Nat} {x : Nat × TK} {g0 : Gh} {rb : Nat} {rest : Int} {w0 w : World} {F0 : Nat → Prop} {R : Asr}
def PS.parkedL (S : PS κ) : List Int := ((List.range S.sts.length).filter fun i => (S.sts[i]?).elim false St.parked).map fun (n : Nat) => (n : Int)
def C16.canS (d : C16) : Bool := d.closed || (!d.rcv.isEmpty || decide ((d.buf.length : Int) < d.size))
def C16.canR (d : C16) : Bool := d.closed || (!d.buf.isEmpty || !d.snd.isEmpty)
theorem pw_len [Lcl R] (S1 : At (PWA L rb nowi rest kb S * R) w0 F0 w) {j : Nat} {d : C16} (hd : S.cs[j]? = some d) : Rets Tryz.prog 26 #[pt d.cb] w fun u w' => w = w' ∧ u = .int .i64 d.buf.length := by
  obtain ⟨q, hp, S2⟩ := pw_open S1
  obtain ⟨c, hc⟩ := hp.cget hd
  have r := hp.ch j c d hc hd
  have := ch_len_i (S2.ac (po_eq hc))
  rw [r.cb, r.buf] at this
  exact this
theorem pw_cap [Lcl R] (S1 : At (PWA L rb nowi rest kb S * R) w0 F0 w) {j : Nat} {d : C16} (hd : S.cs[j]? = some d) : Rets Tryz.prog 81 #[pt d.cb] w fun u w' => w = w' ∧ u = .int .i64 d.size := by
  obtain ⟨q, hp, S2⟩ := pw_open S1
  obtain ⟨c, hc⟩ := hp.cget hd
  have r := hp.ch j c d hc hd
  have := ch_cap_i (S2.ac (po_eq hc))
  rw [r.cb, r.size] at this
  exact this
theorem pw_closed [Lcl R] (S1 : At (PWA L rb nowi rest kb S * R) w0 F0 w) {j : Nat} {d : C16} (hd : S.cs[j]? = some d) : Rets Tryz.prog 31 #[pt d.cb] w fun u w' => w = w' ∧ u = .bool d.closed := by
  obtain ⟨q, hp, S2⟩ := pw_open S1
  obtain ⟨c, hc⟩ := hp.cget hd
  have r := hp.ch j c d hc hd
  have := ch_closed_i (S2.ac (po_eq hc))
  rw [r.cb, r.closed] at this
  exact this
theorem pw_waits [Lcl R] (S1 : At (PWA L rb nowi rest kb S * R) w0 F0 w) {j : Nat} {d : C16} (hd : S.cs[j]? = some d) : Rets Tryz.prog 25 #[pt d.cb] w fun u w' => u = .tuple #[.int .i64 d.snd.length, .int .i64 d.rcv.length] ∧ At (PWA L rb nowi rest kb S * R) w0 F0 w' := by
  obtain ⟨q, hp, S2⟩ := pw_open S1
  obtain ⟨c, hc⟩ := hp.cget hd
  have r := hp.ch j c d hc hd
  obtain ⟨hcl, m1, m2⟩ := hp.ent hc hd
  have := ch_waits_i (S2.ac (po_eq hc)) m1 m2
  rw [hcl, r.cb, r.snd.1, r.rcv.1] at this
  exact this.mono fun u w' ⟨h1, h2⟩ => ⟨h1, pw_shut hp (h2.ac (po_eq hc).symm)⟩
theorem zip_empty {α β : Type} {Q : α → β → Prop} {l : List α} {l' : List β} (h : Zip Q l l') : l.isEmpty = l'.isEmpty := by
  have := h.1
  cases l <;> cases l' <;> first | rfl | (simp at this)
theorem pw_can [Lcl R] (S1 : At (PWA L rb nowi rest kb S * R) w0 F0 w) {j : Nat} {d : C16} (hd : S.cs[j]? = some d) : Rets Tryz.prog 79 #[pt d.cb] w fun u w' => u = .tuple #[.bool d.canS, .bool d.canR] ∧ At (PWA L rb nowi rest kb S * R) w0 F0 w' := by
  obtain ⟨q, hp, S2⟩ := pw_open S1
  obtain ⟨c, hc⟩ := hp.cget hd
  have r := hp.ch j c d hc hd
  obtain ⟨hcl, m1, m2⟩ := hp.ent hc hd
  have := ch_can_i (S2.ac (po_eq hc)) m1 m2
  have e1 : canS c = d.canS := by unfold canS C16.canS; rw [r.closed, r.buf, r.size, zip_empty r.rcv]
  have e2 : canR c = d.canR := by unfold canR C16.canR; rw [r.closed, r.buf, zip_empty r.snd]
  rw [hcl, r.cb, e1, e2] at this
  exact this.mono fun u w' ⟨h1, h2⟩ => ⟨h1, pw_shut hp (h2.ac (po_eq hc).symm)⟩
theorem pw_ready [Lcl R] (S1 : At (PWA L rb nowi rest kb S * R) w0 F0 w) : Rets Tryz.prog 51 #[pt rb] w fun u w' => At (Ow 3 1 iE u S.line * (PWA L rb nowi rest kb S * R)) w0 F0 w' := by
  obtain ⟨q, hp, S2⟩ := pw_open S1
  have hl := hp.line_len
  refine (readyA S2 (by omega)).mono fun u w' h => ?_
  have := pw_shut (R := Ow 3 1 iE u S.line * R) hp (h.ac (by ac_rfl))
  exact this.ac (by ac_rfl)
theorem pw_parkedL (hp : PRel L q nowi kb S) : parkedIn q.ts q.ts.length = S.parkedL := by
  unfold parkedIn PS.parkedL
  rw [hp.lt]
  congr 1
  refine List.filter_congr (fun m hm => ?_)
  have hm := List.mem_range.1 hm
  obtain ⟨s, hs⟩ : ∃ s, S.sts[m]? = some s := ⟨_, List.getElem?_eq_getElem hm⟩
  obtain ⟨x, g, hx, hg⟩ := hp.xs hs
  rw [hx, hs]
  exact (hp.tk m x g s hx hg hs).2.1
theorem pw_parked [Lcl R] (S1 : At (PWA L rb nowi rest kb S * R) w0 F0 w) : Rets Tryz.prog 105 #[pt rb] w fun u w' => At (Ow 3 1 iE u S.parkedL * (PWA L rb nowi rest kb S * R)) w0 F0 w' := by
  obtain ⟨q, hp, S2⟩ := pw_open S1
  have hl := hp.lt
  have hf := hp.few
  refine (parkedA S2 (by omega)).mono fun u w' h => ?_
  rw [pw_parkedL hp] at h
  have := pw_shut (R := Ow 3 1 iE u S.parkedL * R) hp (h.ac (by ac_rfl))
  exact this.ac (by ac_rfl)
theorem pw_over [Lcl R] (S1 : At (PWA L rb nowi rest kb S * R) w0 F0 w) {tb : Nat} {s : St κ} (hs : S.sts[i]? = some s) (ht : S.tbs[i]? = some tb) : Rets Tryz.prog 106 #[pt tb] w fun u w' => w = w' ∧ u = .bool s.isOver := by
  obtain ⟨q, hp, S2⟩ := pw_open S1
  obtain ⟨x, g0, hx, hg⟩ := hp.xs hs
  have hxt : x.1 = tb := by
    rw [hp.tbs, List.getElem?_map, hx] at ht
    exact Option.some.inj ht
  subst hxt
  rw [← (hp.tk i x g0 s hx hg hs).2.2]
  exact t_over (S2.task hx)
theorem pw_id [Lcl R] (S1 : At (PWA L rb nowi rest kb S * R) w0 F0 w) {tb : Nat} (ht : S.tbs[i]? = some tb) : Rets Tryz.prog 165 #[pt tb] w fun u w' => w = w' ∧ u = .int .i64 i := by
  obtain ⟨q, hp, S2⟩ := pw_open S1
  rw [hp.tbs, List.getElem?_map] at ht
  cases hx : q.ts[i]? with
  | none => rw [hx] at ht; cases ht
  | some x =>
    rw [hx] at ht
    cases ht
    exact idA S2 hx
end
end Go.Proofs.YtbaidcnalkdhgaaGreat
set_option maxRecDepth 100000
namespace Go.Proofs.YtbaidcnalkdhgaaGreat
open Go Go.Eng
section
variable {w : World}
theorem n_made : Rets Tryz.prog 83 #[.pointer none] w fun u w' => w = w' ∧ u = .bool false := by
  have h : Rets Tryz.prog 97 #[.pointer none] w fun u w' => w = w' ∧ u = .bool false := by
    refine rets_of Tryz.func97 rfl Tryz.ntmps97 rfl rfl (by kernel_rfl) ?_
    ((iterate 19 (first | with_reducible apply vC_seq | with_reducible apply vC_region | with_reducible apply seqP_normal | ((with_reducible apply vL_val); (case h => ((with_reducible apply opv_E); exact rfl))) | ((with_reducible apply vL_val); (case h => ((with_reducible apply opv_neq_pnil); exact rfl; exact rfl; (simp; done)))) | with_reducible apply vL_nil | ((with_reducible apply vL_unwanted'); exact rfl; exact rfl))); apply vC_ret)
    (apply ret1; (case h1 => (exact norm_eq rfl)))
    exact ⟨rfl, rfl⟩
  refine rets_of Tryz.func83 rfl Tryz.ntmps83 rfl rfl (by kernel_rfl) ?_
  (apply vC_seq; apply vC_region; ((apply vL_val); (case h => ((apply opv_E); exact rfl))); apply vL_nil; apply seqP_normal; apply vC_seq; apply vC_region; ((apply vL_val); (case h => ((apply opv_E); exact rfl))))
  refine vL_callF rfl (h) rfl ?_
  rintro _ _ ⟨rfl, rfl⟩
  (((apply vL_val); (case h => ((apply opv_E); exact rfl))); apply vL_nil; apply seqP_normal; apply vC_ret)
  (apply ret1; (case h1 => (exact norm_eq rfl)))
  exact ⟨rfl, rfl⟩
theorem z_made {b : Nat} {l t r : Value} {T : TypeId} (hb : Blk w.heap b [.pointer none, l, t, r] 108) : Rets Tryz.prog 83 #[pt b] w fun u w' => w = w' ∧ u = .bool false := by
  have h : Rets Tryz.prog 97 #[pt b] w fun u w' => w = w' ∧ u = .bool false := by
    refine rets_of Tryz.func97 rfl Tryz.ntmps97 rfl rfl (by kernel_rfl) ?_
    (apply vC_seq; apply vC_region; ((apply vL_val); (case h => ((apply opv_E); exact rfl))); apply vL_nil; apply seqP_normal; apply vC_seq; apply vC_region; (iterate 15 (first | ((with_reducible apply vL_val); (case h => ((with_reducible apply opv_E); exact rfl))) | ((with_reducible apply vL_val); (case h => ((with_reducible apply opv_loadb1); exact rfl; exact rfl; assumption; exact rfl))) | ((with_reducible apply vL_val); (case h => ((with_reducible apply opv_fieldAddr); exact rfl))) | ((with_reducible apply vL_val); (case h => ((with_reducible apply opv_neq_pnil); exact rfl; exact rfl; (simp; done)))) | ((with_reducible apply vL_wanted); exact rfl))); apply vL_nil; apply seqP_normal; apply vC_ret)
    (apply ret1; (case h1 => (exact norm_eq rfl)))
    exact ⟨rfl, rfl⟩
  refine rets_of Tryz.func83 rfl Tryz.ntmps83 rfl rfl (by kernel_rfl) ?_
  (apply vC_seq; apply vC_region; ((apply vL_val); (case h => ((apply opv_E); exact rfl))); apply vL_nil; apply seqP_normal; apply vC_seq; apply vC_region; ((apply vL_val); (case h => ((apply opv_E); exact rfl))))
  refine vL_callF rfl (h) rfl ?_
  rintro _ _ ⟨rfl, rfl⟩
  (((apply vL_val); (case h => ((apply opv_E); exact rfl))); apply vL_nil; apply seqP_normal; apply vC_ret)
  (apply ret1; (case h1 => (exact norm_eq rfl)))
  exact ⟨rfl, rfl⟩
theorem n_make (n : Int) : Rets Tryz.prog 15 #[.pointer none, .int .i64 n] w fun u w' => w = w' ∧ u = .tuple #[.pointer none, .int .i64 1] := by
  refine rets_of Tryz.func15 rfl Tryz.ntmps15 rfl rfl (by kernel_rfl) ?_
  (apply vC_seq; apply vC_region; (iterate 2 (((apply vL_val); (case h => ((apply opv_E); exact rfl))))); apply vL_nil; apply seqP_normal; apply vC_seq; apply vC_block; apply vC_seq; apply vC_region; ((apply vL_val); (case h => ((apply opv_E); exact rfl))))
  refine vL_callF rfl (n_made) rfl ?_
  rintro _ _ ⟨rfl, rfl⟩
  (((apply vL_val); (case h => ((apply opv_not); exact rfl))); ((apply vL_val); (case h => ((apply opv_E); exact rfl))); apply vL_nil; apply seqP_normal; ((apply vC_cond_true); exact rfl); apply vC_seq; apply vC_region; (iterate 2 (((apply vL_val); (case h => ((apply opv_E); exact rfl))))); apply vL_nil; apply seqP_normal; apply vC_ret; apply blockP_ret; apply seqP_ret)
  (apply ret2; (case h1 => (exact norm_eq rfl)); (case h2 => (exact norm_eq rfl)))
  exact ⟨rfl, rfl⟩
theorem z_make (n : Int) {b : Nat} {l t r : Value} {T : TypeId} (hb : Blk w.heap b [.pointer none, l, t, r] 108) : Rets Tryz.prog 15 #[pt b, .int .i64 n] w fun u w' => w = w' ∧ u = .tuple #[.pointer none, .int .i64 1] := by
  refine rets_of Tryz.func15 rfl Tryz.ntmps15 rfl rfl (by kernel_rfl) ?_
  (apply vC_seq; apply vC_region; (iterate 2 (((apply vL_val); (case h => ((apply opv_E); exact rfl))))); apply vL_nil; apply seqP_normal; apply vC_seq; apply vC_block; apply vC_seq; apply vC_region; ((apply vL_val); (case h => ((apply opv_E); exact rfl))))
  refine vL_callF rfl (z_made (T := 0) hb) rfl ?_
  rintro _ _ ⟨rfl, rfl⟩
  (((apply vL_val); (case h => ((apply opv_not); exact rfl))); ((apply vL_val); (case h => ((apply opv_E); exact rfl))); apply vL_nil; apply seqP_normal; ((apply vC_cond_true); exact rfl); apply vC_seq; apply vC_region; (iterate 2 (((apply vL_val); (case h => ((apply opv_E); exact rfl))))); apply vL_nil; apply seqP_normal; apply vC_ret; apply blockP_ret; apply seqP_ret)
  (apply ret2; (case h1 => (exact norm_eq rfl)); (case h2 => (exact norm_eq rfl)))
  exact ⟨rfl, rfl⟩
theorem n_right : Rets Tryz.prog 87 #[.pointer none] w fun u w' => w = w' ∧ u = .bool false := by
  refine rets_of Tryz.func87 rfl Tryz.ntmps87 rfl rfl (by kernel_rfl) ?_
  ((iterate 19 (first | with_reducible apply vC_seq | with_reducible apply vC_region | with_reducible apply seqP_normal | ((with_reducible apply vL_val); (case h => ((with_reducible apply opv_E); exact rfl))) | ((with_reducible apply vL_val); (case h => ((with_reducible apply opv_neq_pnil); exact rfl; exact rfl; (simp; done)))) | with_reducible apply vL_nil | ((with_reducible apply vL_unwanted'); exact rfl; exact rfl))); apply vC_ret)
  (apply ret1; (case h1 => (exact norm_eq rfl)))
  exact ⟨rfl, rfl⟩
/-- a channel that nobody made -/
def zCh : List Value := [.pointer none, .int .i64 0, .pointer none, .pointer none, .pointer none, .bool false]
theorem z_right {b : Nat} (hb : Blk w.heap b zCh 148) : Rets Tryz.prog 87 #[pt b] w fun u w' => w = w' ∧ u = .bool false := by
  unfold zCh at hb
  refine rets_of Tryz.func87 rfl Tryz.ntmps87 rfl rfl (by kernel_rfl) ?_
  (apply vC_seq; apply vC_region; ((apply vL_val); (case h => ((apply opv_E); exact rfl))); apply vL_nil; apply seqP_normal; apply vC_seq; apply vC_region; (iterate 15 (first | ((with_reducible apply vL_val); (case h => ((with_reducible apply opv_E); exact rfl))) | ((with_reducible apply vL_val); (case h => ((with_reducible apply opv_loadb1); exact rfl; exact rfl; assumption; exact rfl))) | ((with_reducible apply vL_val); (case h => ((with_reducible apply opv_fieldAddr); exact rfl))) | ((with_reducible apply vL_val); (case h => ((with_reducible apply opv_neq_pnil); exact rfl; exact rfl; (simp; done)))) | ((with_reducible apply vL_wanted); exact rfl))); apply vL_nil; apply seqP_normal; apply vC_ret)
  (apply ret1; (case h1 => (exact norm_eq rfl)))
  exact ⟨rfl, rfl⟩
theorem c_right {b r : Nat} {x1 x2 x3 x4 x5 : Value} (hb : Blk w.heap b [pt r, x1, x2, x3, x4, x5] 148) : Rets Tryz.prog 87 #[pt b] w fun u w' => w = w' ∧ u = .bool true := by
  refine rets_of Tryz.func87 rfl Tryz.ntmps87 rfl rfl (by kernel_rfl) ?_
  (apply vC_seq; apply vC_region; ((apply vL_val); (case h => ((apply opv_E); exact rfl))); apply vL_nil; apply seqP_normal; apply vC_seq; apply vC_region; (iterate 15 (first | ((with_reducible apply vL_val); (case h => ((with_reducible apply opv_E); exact rfl))) | ((with_reducible apply vL_val); (case h => ((with_reducible apply opv_loadb1); exact rfl; exact rfl; assumption; exact rfl))) | ((with_reducible apply vL_val); (case h => ((with_reducible apply opv_fieldAddr); exact rfl))) | ((with_reducible apply vL_val); (case h => ((with_reducible apply opv_neq_pnil); exact rfl; exact rfl; (simp; done)))) | ((with_reducible apply vL_wanted); exact rfl))); apply vL_nil; apply seqP_normal; apply vC_ret)
  (apply ret1; (case h1 => (exact norm_eq rfl)))
  exact ⟨rfl, rfl⟩
theorem n_trysend (v : Int) : Rets Tryz.prog 33 #[.pointer none, .int .i64 v] w fun u w' => w = w' ∧ u = .tuple #[.bool false, .bool false] := by
  refine rets_of Tryz.func33 rfl Tryz.ntmps33 rfl rfl (by kernel_rfl) ?_
  (apply vC_seq; apply vC_region; (iterate 2 (((apply vL_val); (case h => ((apply opv_E); exact rfl))))); apply vL_nil; apply seqP_normal; (iterate 2 (apply vC_seq)); apply vC_region; ((apply vL_val); (case h => ((apply opv_E); exact rfl))))
  refine vL_callF rfl (n_right) rfl ?_
  rintro _ _ ⟨rfl, rfl⟩
  (((apply vL_val); (case h => ((apply opv_not); exact rfl))); apply vL_nil; apply seqP_normal; ((apply vC_cond_true); exact rfl); apply vC_seq; apply vC_region; (iterate 2 (((apply vL_val); (case h => ((apply opv_E); exact rfl))))); apply vL_nil; apply seqP_normal; apply vC_ret; apply seqP_ret)
  (apply ret2; (case h1 => (exact norm_eq rfl)); (case h2 => (exact norm_eq rfl)))
  exact ⟨rfl, rfl⟩
theorem z_tryrecv {b : Nat} (hb : Blk w.heap b zCh 148) : Rets Tryz.prog 34 #[pt b] w fun u w' => w = w' ∧ u = .tuple #[.int .i64 0, .bool false, .bool false] := by
  refine rets_of Tryz.func34 rfl Tryz.ntmps34 rfl rfl (by kernel_rfl) ?_
  ((iterate 16 (first | with_reducible apply vC_seq | with_reducible apply vC_region | with_reducible apply seqP_normal | ((with_reducible apply vL_val); (case h => ((with_reducible apply opv_E); exact rfl))) | with_reducible apply vL_nil)))
  refine vL_callF rfl (z_right hb) rfl ?_
  rintro _ _ ⟨rfl, rfl⟩
  (((apply vL_val); (case h => ((apply opv_not); exact rfl))); apply vL_nil; apply seqP_normal; ((apply vC_cond_true); exact rfl); apply vC_seq; apply vC_region; (iterate 4 (((apply vL_val); (case h => ((apply opv_E); exact rfl))))); apply vL_nil; apply seqP_normal; apply vC_ret; apply seqP_ret)
  (apply ret3; (case h1 => (exact norm_eq rfl)); (case h2 => (exact norm_eq rfl)); (case h3 => (exact norm_eq rfl)))
  exact ⟨rfl, rfl⟩
theorem n_can : Rets Tryz.prog 79 #[.pointer none] w fun u w' => w = w' ∧ u = .tuple #[.bool false, .bool false] := by
  refine rets_of Tryz.func79 rfl Tryz.ntmps79 rfl rfl (by kernel_rfl) ?_
  (apply vC_seq; apply vC_region; (iterate 2 (((apply vL_val); (case h => ((apply opv_E); exact rfl))))); apply vL_nil; apply seqP_normal; (iterate 2 (apply vC_seq)); apply vC_region; ((apply vL_val); (case h => ((apply opv_E); exact rfl))))
  refine vL_callF rfl (n_right) rfl ?_
  rintro _ _ ⟨rfl, rfl⟩
  (((apply vL_val); (case h => ((apply opv_not); exact rfl))); apply vL_nil; apply seqP_normal; ((apply vC_cond_true); exact rfl); apply vC_seq; apply vC_region; (iterate 2 (((apply vL_val); (case h => ((apply opv_E); exact rfl))))); apply vL_nil; apply seqP_normal; apply vC_ret; apply seqP_ret)
  (apply ret2; (case h1 => (exact norm_eq rfl)); (case h2 => (exact norm_eq rfl)))
  exact ⟨rfl, rfl⟩
theorem n_runtime : Rets Tryz.prog 80 #[.pointer none] w fun u w' => w = w' ∧ u = .pointer none := by
  refine rets_of Tryz.func80 rfl Tryz.ntmps80 rfl rfl (by kernel_rfl) ?_
  (apply vC_seq; apply vC_region; ((apply vL_val); (case h => ((apply opv_E); exact rfl))); apply vL_nil; apply seqP_normal; (iterate 2 (apply vC_seq)); apply vC_region; ((apply vL_val); (case h => ((apply opv_E); exact rfl))))
  refine vL_callF rfl (n_right) rfl ?_
  rintro _ _ ⟨rfl, rfl⟩
  (((apply vL_val); (case h => ((apply opv_not); exact rfl))); apply vL_nil; apply seqP_normal; ((apply vC_cond_true); exact rfl); apply vC_seq; apply vC_region; ((apply vL_val); (case h => ((apply opv_E); exact rfl))); apply vL_nil; apply seqP_normal; apply vC_ret; apply seqP_ret)
  (apply ret1; (case h1 => (exact norm_eq rfl)))
  exact ⟨rfl, rfl⟩
theorem c_runtime {b r : Nat} {x1 x2 x3 x4 x5 : Value} (hb : Blk w.heap b [pt r, x1, x2, x3, x4, x5] 148) : Rets Tryz.prog 80 #[pt b] w fun u w' => w = w' ∧ u = pt r := by
  refine rets_of Tryz.func80 rfl Tryz.ntmps80 rfl rfl (by kernel_rfl) ?_
  (apply vC_seq; apply vC_region; ((apply vL_val); (case h => ((apply opv_E); exact rfl))); apply vL_nil; apply seqP_normal; (iterate 2 (apply vC_seq)); apply vC_region; ((apply vL_val); (case h => ((apply opv_E); exact rfl))))
  refine vL_callF rfl (c_right hb) rfl ?_
  rintro _ _ ⟨rfl, rfl⟩
  (((apply vL_val); (case h => ((apply opv_not); exact rfl))); apply vL_nil; apply seqP_normal; ((apply vC_cond_false); exact rfl); apply vC_skip; apply seqP_normal; apply vC_seq; apply vC_region; (iterate 2 (((apply vL_val); (case h => ((apply opv_E); exact rfl))))); ((apply vL_val); (case h => ((apply opv_fieldAddr); exact rfl))); ((apply vL_val); (case h => ((apply opv_loadb1); exact rfl; exact rfl; assumption; exact rfl))); ((apply vL_val); (case h => ((apply opv_E); exact rfl))); apply vL_nil; apply seqP_normal; apply vC_ret)
  (apply ret1; (case h1 => (exact norm_eq rfl)))
  exact ⟨rfl, rfl⟩
theorem n_close : Rets Tryz.prog 32 #[.pointer none] w fun u w' => w = w' ∧ u = .int .i64 1 := by
  refine rets_of Tryz.func32 rfl Tryz.ntmps32 rfl rfl (by kernel_rfl) ?_
  (apply vC_seq; apply vC_region; ((apply vL_val); (case h => ((apply opv_E); exact rfl))); apply vL_nil; apply seqP_normal; apply vC_seq; apply vC_block; apply vC_seq; apply vC_region; ((apply vL_val); (case h => ((apply opv_E); exact rfl))))
  refine vL_callF rfl (n_right) rfl ?_
  rintro _ _ ⟨rfl, rfl⟩
  (((apply vL_val); (case h => ((apply opv_not); exact rfl))); ((apply vL_val); (case h => ((apply opv_E); exact rfl))); apply vL_nil; apply seqP_normal; ((apply vC_cond_true); exact rfl); apply vC_seq; apply vC_region; ((apply vL_val); (case h => ((apply opv_E); exact rfl))); apply vL_nil; apply seqP_normal; apply vC_ret; apply blockP_ret; apply seqP_ret)
  (apply ret1; (case h1 => (exact norm_eq rfl)))
  exact ⟨rfl, rfl⟩
theorem z_len {b : Nat} (hb : Blk w.heap b zCh 148) : Rets Tryz.prog 26 #[pt b] w fun u w' => w = w' ∧ u = .int .i64 0 := by
  refine rets_of Tryz.func26 rfl Tryz.ntmps26 rfl rfl (by kernel_rfl) ?_
  (apply vC_seq; apply vC_region; ((apply vL_val); (case h => ((apply opv_E); exact rfl))); apply vL_nil; apply seqP_normal; (iterate 2 (apply vC_seq)); apply vC_region; ((apply vL_val); (case h => ((apply opv_E); exact rfl))))
  refine vL_callF rfl (z_right hb) rfl ?_
  rintro _ _ ⟨rfl, rfl⟩
  (((apply vL_val); (case h => ((apply opv_not); exact rfl))); apply vL_nil; apply seqP_normal; ((apply vC_cond_true); exact rfl); apply vC_seq; apply vC_region; ((apply vL_val); (case h => ((apply opv_E); exact rfl))); apply vL_nil; apply seqP_normal; apply vC_ret; apply seqP_ret)
  (apply ret1; (case h1 => (exact norm_eq rfl)))
  exact ⟨rfl, rfl⟩
theorem n_cap : Rets Tryz.prog 81 #[.pointer none] w fun u w' => w = w' ∧ u = .int .i64 0 := by
  refine rets_of Tryz.func81 rfl Tryz.ntmps81 rfl rfl (by kernel_rfl) ?_
  (apply vC_seq; apply vC_region; ((apply vL_val); (case h => ((apply opv_E); exact rfl))); apply vL_nil; apply seqP_normal; (iterate 2 (apply vC_seq)); apply vC_region; ((apply vL_val); (case h => ((apply opv_E); exact rfl))))
  refine vL_callF rfl (n_right) rfl ?_
  rintro _ _ ⟨rfl, rfl⟩
  (((apply vL_val); (case h => ((apply opv_not); exact rfl))); apply vL_nil; apply seqP_normal; ((apply vC_cond_true); exact rfl); apply vC_seq; apply vC_region; ((apply vL_val); (case h => ((apply opv_E); exact rfl))); apply vL_nil; apply seqP_normal; apply vC_ret; apply seqP_ret)
  (apply ret1; (case h1 => (exact norm_eq rfl)))
  exact ⟨rfl, rfl⟩
theorem n_closed : Rets Tryz.prog 31 #[.pointer none] w fun u w' => w = w' ∧ u = .bool false := by
  refine rets_of Tryz.func31 rfl Tryz.ntmps31 rfl rfl (by kernel_rfl) ?_
  (apply vC_seq; apply vC_region; ((apply vL_val); (case h => ((apply opv_E); exact rfl))); apply vL_nil; apply seqP_normal; apply vC_seq; apply vC_region; ((apply vL_val); (case h => ((apply opv_E); exact rfl))))
  refine vL_callF rfl (n_right) rfl ?_
  rintro _ _ ⟨rfl, rfl⟩
  ((iterate 7 (first | ((with_reducible apply vL_val); (case h => ((with_reducible apply opv_E); exact rfl))) | ((with_reducible apply vL_unwanted'); exact rfl; exact rfl))); apply vL_nil; apply seqP_normal; apply vC_ret)
  (apply ret1; (case h1 => (exact norm_eq rfl)))
  exact ⟨rfl, rfl⟩
theorem n_newticket : Rets Tryz.prog 35 #[.nilFunc] w fun u w' => Fr No w w' ∧ u = .pointer none := by
  refine rets_of Tryz.func35 rfl Tryz.ntmps35 rfl rfl (by kernel_rfl) ?_
  ((iterate 18 (first | with_reducible apply vC_seq | with_reducible apply vC_region | with_reducible apply seqP_normal | ((with_reducible apply vC_cond_true); exact rfl) | ((with_reducible apply vL_val); (case h => ((with_reducible apply opv_E); exact rfl))) | ((with_reducible apply vL_val); (case h => ((with_reducible apply opv_eql_fnil2); exact rfl; exact rfl))) | with_reducible apply vL_nil)); apply vC_ret; apply seqP_ret)
  (apply ret1; (case h1 => (exact norm_eq rfl)))
  exact ⟨by (exact Fr.refl _ _), rfl⟩
theorem n_forget (k : Value) (hk : k.oneCell' = true) : Rets Tryz.prog 41 #[.pointer none, k] w fun u w' => Fr No w w' ∧ u = .int .i64 0 := by
  refine rets_of Tryz.func41 rfl Tryz.ntmps41 rfl rfl (by kernel_rfl) ?_
  (apply vC_seq; apply vC_region; ((apply vL_val); (case h => ((apply opw_box1); ((conv => lhs; whnf) <;> exact rfl); (first | rfl | assumption)))); ((apply vL_val); (case h => ((apply opv_E); exact rfl))); apply vL_nil; apply seqP_normal; (iterate 2 (apply vC_seq)); apply vC_region; ((apply vL_val); (case h => ((apply opv_E); exact rfl))))
  refine vL_callF rfl (n_right) rfl ?_
  rintro _ _ ⟨rfl, rfl⟩
  (((apply vL_val); (case h => ((apply opv_not); exact rfl))); ((apply vL_val); (case h => ((apply opv_E); exact rfl))); (iterate 2 (((apply vL_unwanted'); exact rfl; exact rfl))); ((apply vL_val); (case h => ((apply opv_E); exact rfl))); apply vL_nil; apply seqP_normal; ((apply vC_cond_true); exact rfl); apply vC_seq; apply vC_region; ((apply vL_val); (case h => ((apply opv_E); exact rfl))); apply vL_nil; apply seqP_normal; apply vC_ret; apply seqP_ret)
  (apply ret1; (case h1 => (exact norm_eq rfl)))
  exact ⟨by (apply Fr.alloc; exact Fr.refl _ _), rfl⟩
end
end Go.Proofs.YtbaidcnalkdhgaaGreat
set_option maxRecDepth 100000
namespace Go.Proofs.YtbaidcnalkdhgaaGreat
open Go Go.Eng
section
variable {w : World}
theorem n_trt : Rets Tryz.prog 134 #[.pointer none] w fun u w' => w = w' ∧ u = .pointer none := by
  have h : Rets Tryz.prog 154 #[.pointer none] w fun u w' => w = w' ∧ u = .bool false := by
    refine rets_of Tryz.func154 rfl Tryz.ntmps154 rfl rfl (by kernel_rfl) ?_
    ((iterate 19 (first | with_reducible apply vC_seq | with_reducible apply vC_region | with_reducible apply seqP_normal | ((with_reducible apply vL_val); (case h => ((with_reducible apply opv_E); exact rfl))) | ((with_reducible apply vL_val); (case h => ((with_reducible apply opv_neq_pnil); exact rfl; exact rfl; (simp; done)))) | with_reducible apply vL_nil | ((with_reducible apply vL_unwanted'); exact rfl; exact rfl))); apply vC_ret)
    (apply ret1; (case h1 => (exact norm_eq rfl)))
    exact ⟨rfl, rfl⟩
  refine rets_of Tryz.func134 rfl Tryz.ntmps134 rfl rfl (by kernel_rfl) ?_
  (apply vC_seq; apply vC_region; ((apply vL_val); (case h => ((apply opv_E); exact rfl))); apply vL_nil; apply seqP_normal; (iterate 2 (apply vC_seq)); apply vC_region; ((apply vL_val); (case h => ((apply opv_E); exact rfl))))
  refine vL_callF rfl (h) rfl ?_
  rintro _ _ ⟨rfl, rfl⟩
  (((apply vL_val); (case h => ((apply opv_not); exact rfl))); apply vL_nil; apply seqP_normal; ((apply vC_cond_true); exact rfl); apply vC_seq; apply vC_region; ((apply vL_val); (case h => ((apply opv_E); exact rfl))); apply vL_nil; apply seqP_normal; apply vC_ret; apply seqP_ret)
  (apply ret1; (case h1 => (exact norm_eq rfl)))
  exact ⟨rfl, rfl⟩
theorem tkx_right {t r : Nat} {x1 x2 x3 x4 x5 x6 : Value} (ht : Blk w.heap t [pt r, x1, x2, x3, x4, x5, x6] 162) : Rets Tryz.prog 154 #[pt t] w fun u w' => w = w' ∧ u = .bool true := by
  refine rets_of Tryz.func154 rfl Tryz.ntmps154 rfl rfl (by kernel_rfl) ?_
  (apply vC_seq; apply vC_region; ((apply vL_val); (case h => ((apply opv_E); exact rfl))); apply vL_nil; apply seqP_normal; apply vC_seq; apply vC_region; (iterate 15 (first | ((with_reducible apply vL_val); (case h => ((with_reducible apply opv_E); exact rfl))) | ((with_reducible apply vL_val); (case h => ((with_reducible apply opv_loadb1); exact rfl; exact rfl; assumption; exact rfl))) | ((with_reducible apply vL_val); (case h => ((with_reducible apply opv_fieldAddr); exact rfl))) | ((with_reducible apply vL_val); (case h => ((with_reducible apply opv_neq_pnil); exact rfl; exact rfl; (simp; done)))) | ((with_reducible apply vL_wanted); exact rfl))); apply vL_nil; apply seqP_normal; apply vC_ret)
  (apply ret1; (case h1 => (exact norm_eq rfl)))
  exact ⟨rfl, rfl⟩
theorem tkx_rt {t r : Nat} {x1 x2 x3 x4 x5 x6 : Value} (ht : Blk w.heap t [pt r, x1, x2, x3, x4, x5, x6] 162) : Rets Tryz.prog 134 #[pt t] w fun u w' => w = w' ∧ u = pt r := by
  refine rets_of Tryz.func134 rfl Tryz.ntmps134 rfl rfl (by kernel_rfl) ?_
  (apply vC_seq; apply vC_region; ((apply vL_val); (case h => ((apply opv_E); exact rfl))); apply vL_nil; apply seqP_normal; (iterate 2 (apply vC_seq)); apply vC_region; ((apply vL_val); (case h => ((apply opv_E); exact rfl))))
  refine vL_callF rfl (tkx_right ht) rfl ?_
  rintro _ _ ⟨rfl, rfl⟩
  (((apply vL_val); (case h => ((apply opv_not); exact rfl))); apply vL_nil; apply seqP_normal; ((apply vC_cond_false); exact rfl); apply vC_skip; apply seqP_normal; apply vC_seq; apply vC_region; (iterate 2 (((apply vL_val); (case h => ((apply opv_E); exact rfl))))); ((apply vL_val); (case h => ((apply opv_fieldAddr); exact rfl))); ((apply vL_val); (case h => ((apply opv_loadb1); exact rfl; exact rfl; assumption; exact rfl))); ((apply vL_val); (case h => ((apply opv_E); exact rfl))); apply vL_nil; apply seqP_normal; apply vC_ret)
  (apply ret1; (case h1 => (exact norm_eq rfl)))
  exact ⟨rfl, rfl⟩
theorem n_may (r : Nat) : Rets Tryz.prog 88 #[.pointer none, pt r] w fun u w' => w = w' ∧ u = .int .i64 1 := by
  refine rets_of Tryz.func88 rfl Tryz.ntmps88 rfl rfl (by kernel_rfl) ?_
  (apply vC_seq; apply vC_region; ((apply vL_val); (case h => ((apply opv_E); exact rfl))); apply vL_nil; apply seqP_normal; apply vC_seq; apply vC_block; apply vC_seq; apply vC_region; ((apply vL_val); (case h => ((apply opv_E); exact rfl))))
  refine vL_callF rfl (n_trt) rfl ?_
  rintro _ _ ⟨rfl, rfl⟩
  (((apply vL_val); (case h => ((apply opv_eql_pnil); exact rfl; exact rfl; (simp; done)))); (iterate 5 (first | ((with_reducible apply vL_val); (case h => ((with_reducible apply opv_E); exact rfl))) | ((with_reducible apply vL_unwanted'); exact rfl; exact rfl))); apply vL_nil; apply seqP_normal; ((apply vC_cond_true); exact rfl); apply vC_seq; apply vC_region; ((apply vL_val); (case h => ((apply opv_E); exact rfl))); apply vL_nil; apply seqP_normal; apply vC_ret; apply blockP_ret; apply seqP_ret)
  (apply ret1; (case h1 => (exact norm_eq rfl)))
  exact ⟨rfl, rfl⟩
theorem o_may {t s : Nat} {x1 x2 x3 x4 x5 x6 : Value} (ht : Blk w.heap t [pt s, x1, x2, x3, x4, x5, x6] 162) {r : Nat} {y0 y1 y2 y3 z0 z1 z2 z3 : Value} (hs : Blk w.heap s [y0, y1, y2, y3] 108) (hr : Blk w.heap r [z0, z1, z2, z3] 108) (hne : s ≠ r) : Rets Tryz.prog 88 #[pt t, pt r] w fun u w' => w = w' ∧ u = .int .i64 160 := by
  haveI n1 : NeB s r := ⟨hne⟩
  refine rets_of Tryz.func88 rfl Tryz.ntmps88 rfl rfl (by kernel_rfl) ?_
  (apply vC_seq; apply vC_region; ((apply vL_val); (case h => ((apply opv_E); exact rfl))); apply vL_nil; apply seqP_normal; apply vC_seq; apply vC_block; apply vC_seq; apply vC_region; ((apply vL_val); (case h => ((apply opv_E); exact rfl))))
  refine vL_callF rfl (tkx_rt ht) rfl ?_
  rintro _ _ ⟨rfl, rfl⟩
  ((iterate 8 (first | ((with_reducible apply vL_val); (case h => ((with_reducible apply opv_E); exact rfl))) | ((with_reducible apply vL_val); (case h => ((with_reducible apply opv_eql_pnil); exact rfl; exact rfl; (simp; done)))) | ((with_reducible apply vL_wanted); exact rfl))); apply vL_nil; apply seqP_normal; ((apply vC_cond_false); exact rfl); apply vC_seq; apply vC_region; ((apply vL_val); (case h => ((apply opv_E); exact rfl))))
  refine vL_callF rfl (tkx_rt ht) rfl ?_
  rintro _ _ ⟨rfl, rfl⟩
  (((apply vL_val); (case h => ((apply opv_E); exact rfl))); ((apply vL_val); (case h => ((apply opv_neq_ptr); exact rfl; exact rfl; exact rfl; assumption; assumption))); ((apply vL_val); (case h => ((apply opv_E); exact rfl))); apply vL_nil; apply seqP_normal; (refine vC_cond_dec rfl (fun _ => ?_) (fun h => by omega)); apply vC_seq; apply vC_region; ((apply vL_val); (case h => ((apply opv_E); exact rfl))); apply vL_nil; apply seqP_normal; apply vC_ret; apply blockP_ret; apply seqP_ret)
  (apply ret1; (case h1 => (exact norm_eq rfl)))
  exact ⟨rfl, rfl⟩
theorem s_may {t s : Nat} {x1 x2 x3 x4 x5 x6 y0 y1 y2 y3 : Value} (ht : Blk w.heap t [pt s, x1, x2, x3, x4, x5, x6] 162) (hs : Blk w.heap s [y0, y1, y2, y3] 108) : Rets Tryz.prog 88 #[pt t, pt s] w fun u w' => w = w' ∧ u = .int .i64 0 := by
  refine rets_of Tryz.func88 rfl Tryz.ntmps88 rfl rfl (by kernel_rfl) ?_
  (apply vC_seq; apply vC_region; ((apply vL_val); (case h => ((apply opv_E); exact rfl))); apply vL_nil; apply seqP_normal; apply vC_seq; apply vC_block; apply vC_seq; apply vC_region; ((apply vL_val); (case h => ((apply opv_E); exact rfl))))
  refine vL_callF rfl (tkx_rt ht) rfl ?_
  rintro _ _ ⟨rfl, rfl⟩
  ((iterate 8 (first | ((with_reducible apply vL_val); (case h => ((with_reducible apply opv_E); exact rfl))) | ((with_reducible apply vL_val); (case h => ((with_reducible apply opv_eql_pnil); exact rfl; exact rfl; (simp; done)))) | ((with_reducible apply vL_wanted); exact rfl))); apply vL_nil; apply seqP_normal; ((apply vC_cond_false); exact rfl); apply vC_seq; apply vC_region; ((apply vL_val); (case h => ((apply opv_E); exact rfl))))
  refine vL_callF rfl (tkx_rt ht) rfl ?_
  rintro _ _ ⟨rfl, rfl⟩
  (((apply vL_val); (case h => ((apply opv_E); exact rfl))); ((apply vL_val); (case h => ((apply opv_neq_ptr); exact rfl; exact rfl; exact rfl; assumption; assumption))); ((apply vL_val); (case h => ((apply opv_E); exact rfl))); apply vL_nil; apply seqP_normal; (refine vC_cond_dec rfl (fun h => by omega) (fun _ => ?_)); apply vC_skip; apply blockP_normal; apply seqP_normal; apply vC_seq; apply vC_region; ((apply vL_val); (case h => ((apply opv_E); exact rfl))); apply vL_nil; apply seqP_normal; apply vC_ret)
  (apply ret1; (case h1 => (exact norm_eq rfl)))
  exact ⟨rfl, rfl⟩
theorem send_none (t : Nat) (v : Int) (g : FuncId) (cap : Array Value) : Rets Tryz.prog 17 #[pt t, .pointer none, .int .i64 v, .func (.func g) #[] cap] w fun u w' => Fr No w w' ∧ u = .int .i64 1 := by
  refine rets_of Tryz.func17 rfl Tryz.ntmps17 rfl rfl (by kernel_rfl) ?_
  (apply vC_seq; apply vC_region; (iterate 2 (((apply vL_val); (case h => ((apply opw_box1); exact norm_eq rfl; (first | rfl | assumption)))))); ((apply vL_val); (case h => ((apply opv_E); exact rfl))); apply vL_nil; apply seqP_normal; (iterate 2 (apply vC_seq)); apply vC_region; ((apply vL_val); (case h => ((apply opv_E); exact rfl))))
  refine vL_callF rfl (n_right) rfl ?_
  rintro _ _ ⟨rfl, rfl⟩
  (((apply vL_val); (case h => ((apply opv_not); exact rfl))); ((apply vL_val); (case h => ((apply opv_E); exact rfl))); (iterate 2 (((apply vL_unwanted'); exact rfl; exact rfl))); ((apply vL_val); (case h => ((apply opv_E); exact rfl))); apply vL_nil; apply seqP_normal; ((apply vC_cond_true); exact rfl); apply vC_seq; apply vC_region; ((apply vL_val); (case h => ((apply opv_E); exact rfl))); apply vL_nil; apply seqP_normal; apply vC_ret; apply seqP_ret)
  (apply ret1; (case h1 => (exact norm_eq rfl)))
  exact ⟨by ((iterate 2 (apply Fr.alloc)); exact Fr.refl _ _), rfl⟩
theorem recv_zero (t c : Nat) (hc : Blk w.heap c zCh 148) (g : FuncId) (cap : Array Value) : Rets Tryz.prog 20 #[pt t, pt c, .func (.func g) #[] cap] w fun u w' => Fr No w w' ∧ u = .int .i64 1 := by
  refine rets_of Tryz.func20 rfl Tryz.ntmps20 rfl rfl (by kernel_rfl) ?_
  (apply vC_seq; apply vC_region; (iterate 2 (((apply vL_val); (case h => ((apply opw_box1); exact norm_eq rfl; (first | rfl | assumption)))))); ((apply vL_val); (case h => ((apply opv_E); exact rfl))); apply vL_nil; apply seqP_normal; (iterate 2 (apply vC_seq)); apply vC_region; ((apply vL_val); (case h => ((apply opv_E); exact rfl))))
  refine vL_callF rfl (z_right (hc.frN (by ((iterate 2 (apply Fr.alloc)); exact Fr.refl _ _)))) rfl ?_
  rintro _ _ ⟨rfl, rfl⟩
  (((apply vL_val); (case h => ((apply opv_not); exact rfl))); ((apply vL_val); (case h => ((apply opv_E); exact rfl))); (iterate 2 (((apply vL_unwanted'); exact rfl; exact rfl))); ((apply vL_val); (case h => ((apply opv_E); exact rfl))); apply vL_nil; apply seqP_normal; ((apply vC_cond_true); exact rfl); apply vC_seq; apply vC_region; ((apply vL_val); (case h => ((apply opv_E); exact rfl))); apply vL_nil; apply seqP_normal; apply vC_ret; apply seqP_ret)
  (apply ret1; (case h1 => (exact norm_eq rfl)))
  exact ⟨by ((iterate 2 (apply Fr.alloc)); exact Fr.refl _ _), rfl⟩
theorem send_nil (t : Nat) {c r : Nat} {x1 x2 x3 x4 x5 : Value} (hc : Blk w.heap c [pt r, x1, x2, x3, x4, x5] 148) (v : Int) : Rets Tryz.prog 17 #[pt t, pt c, .int .i64 v, .nilFunc] w fun u w' => Fr No w w' ∧ u = .int .i64 1 := by
  refine rets_of Tryz.func17 rfl Tryz.ntmps17 rfl rfl (by kernel_rfl) ?_
  (apply vC_seq; apply vC_region; (iterate 2 (((apply vL_val); (case h => ((apply opw_box1); exact norm_eq rfl; (first | rfl | assumption)))))); ((apply vL_val); (case h => ((apply opv_E); exact rfl))); apply vL_nil; apply seqP_normal; (iterate 2 (apply vC_seq)); apply vC_region; ((apply vL_val); (case h => ((apply opv_E); exact rfl))))
  refine vL_callF rfl (c_right (hc.frN (by ((iterate 2 (apply Fr.alloc)); exact Fr.refl _ _)))) rfl ?_
  rintro _ _ ⟨rfl, rfl⟩
  (((apply vL_val); (case h => ((apply opv_not); exact rfl))); ((apply vL_val); (case h => ((apply opv_E); exact rfl))); ((apply vL_wanted); exact rfl); ((apply vL_val); (case h => ((apply opv_loadb1); exact rfl; exact rfl; infer_instance; exact rfl))); ((apply vL_wanted); exact rfl); ((apply vL_val); (case h => ((apply opv_eql_fnil2); exact rfl; exact rfl))); ((apply vL_val); (case h => ((apply opv_E); exact rfl))); apply vL_nil; apply seqP_normal; ((apply vC_cond_true); exact rfl); apply vC_seq; apply vC_region; ((apply vL_val); (case h => ((apply opv_E); exact rfl))); apply vL_nil; apply seqP_normal; apply vC_ret; apply seqP_ret)
  (apply ret1; (case h1 => (exact norm_eq rfl)))
  exact ⟨by ((iterate 2 (apply Fr.alloc)); exact Fr.refl _ _), rfl⟩
theorem recv_nil (t : Nat) {c r : Nat} {x1 x2 x3 x4 x5 : Value} (hc : Blk w.heap c [pt r, x1, x2, x3, x4, x5] 148) : Rets Tryz.prog 20 #[pt t, pt c, .nilFunc] w fun u w' => Fr No w w' ∧ u = .int .i64 1 := by
  refine rets_of Tryz.func20 rfl Tryz.ntmps20 rfl rfl (by kernel_rfl) ?_
  (apply vC_seq; apply vC_region; (iterate 2 (((apply vL_val); (case h => ((apply opw_box1); exact norm_eq rfl; (first | rfl | assumption)))))); ((apply vL_val); (case h => ((apply opv_E); exact rfl))); apply vL_nil; apply seqP_normal; (iterate 2 (apply vC_seq)); apply vC_region; ((apply vL_val); (case h => ((apply opv_E); exact rfl))))
  refine vL_callF rfl (c_right (hc.frN (by ((iterate 2 (apply Fr.alloc)); exact Fr.refl _ _)))) rfl ?_
  rintro _ _ ⟨rfl, rfl⟩
  (((apply vL_val); (case h => ((apply opv_not); exact rfl))); ((apply vL_val); (case h => ((apply opv_E); exact rfl))); ((apply vL_wanted); exact rfl); ((apply vL_val); (case h => ((apply opv_loadb1); exact rfl; exact rfl; infer_instance; exact rfl))); ((apply vL_wanted); exact rfl); ((apply vL_val); (case h => ((apply opv_eql_fnil2); exact rfl; exact rfl))); ((apply vL_val); (case h => ((apply opv_E); exact rfl))); apply vL_nil; apply seqP_normal; ((apply vC_cond_true); exact rfl); apply vC_seq; apply vC_region; ((apply vL_val); (case h => ((apply opv_E); exact rfl))); apply vL_nil; apply seqP_normal; apply vC_ret; apply seqP_ret)
  (apply ret1; (case h1 => (exact norm_eq rfl)))
  exact ⟨by ((iterate 2 (apply Fr.alloc)); exact Fr.refl _ _), rfl⟩
theorem send_other {t c sr rr : Nat} {x1 x2 x3 x4 x5 x6 y0 y1 y2 y3 z0 z1 z2 z3 c1 c2 c3 c4 c5 : Value} (ht : Blk w.heap t [pt sr, x1, x2, x3, x4, x5, x6] 162) (hs : Blk w.heap sr [y0, y1, y2, y3] 108) (hr : Blk w.heap rr [z0, z1, z2, z3] 108) (hne : sr ≠ rr) (hc : Blk w.heap c [pt rr, c1, c2, c3, c4, c5] 148) (v : Int) (g : FuncId) (cap : Array Value) : Rets Tryz.prog 17 #[pt t, pt c, .int .i64 v, .func (.func g) #[] cap] w fun u w' => Fr No w w' ∧ u = .int .i64 160 := by
  refine rets_of Tryz.func17 rfl Tryz.ntmps17 rfl rfl (by kernel_rfl) ?_
  (apply vC_seq; apply vC_region; (iterate 2 (((apply vL_val); (case h => ((apply opw_box1); exact norm_eq rfl; (first | rfl | assumption)))))); ((apply vL_val); (case h => ((apply opv_E); exact rfl))); apply vL_nil; apply seqP_normal; (iterate 2 (apply vC_seq)); apply vC_region; ((apply vL_val); (case h => ((apply opv_E); exact rfl))))
  refine vL_callF rfl (c_right (hc.frN (by ((iterate 2 (apply Fr.alloc)); exact Fr.refl _ _)))) rfl ?_
  rintro _ _ ⟨rfl, rfl⟩
  (((apply vL_val); (case h => ((apply opv_not); exact rfl))); ((apply vL_val); (case h => ((apply opv_E); exact rfl))); ((apply vL_wanted); exact rfl); ((apply vL_val); (case h => ((apply opv_loadb1); exact rfl; exact rfl; infer_instance; exact rfl))); ((apply vL_wanted); exact rfl); ((apply vL_val); (case h => ((apply opv_eql_fnil); exact rfl; exact rfl))); ((apply vL_val); (case h => ((apply opv_E); exact rfl))); apply vL_nil; apply seqP_normal; ((apply vC_cond_false); exact rfl); apply vC_skip; apply seqP_normal; (iterate 2 (apply vC_seq)))
  refine vC_draw' (fun wf => Fr No ((w.alloc (.cells #[pt t] 34)).alloc (.cells #[.func (.func g) #[] cap] 36)) wf) ((Fr.refl No ((w.alloc (.cells #[pt t] 34)).alloc (.cells #[.func (.func g) #[] cap] 36))).drew) ?_
  ((apply (tk 0)); (case hi => exact rfl); (case hf => kernel_rfl); (case hS => (apply Fr.drew; exact Fr.refl _ _)); (case hy => (intro wf hwf; haveI := From.mk hwf; (((apply opv_loadb1); exact rfl; exact rfl; infer_instance; exact rfl)))))
  ((apply (tk 1)); (case hi => exact rfl); (case hf => kernel_rfl); (case hS => (apply Fr.drew; exact Fr.refl _ _)); (case hy => (intro wf hwf; haveI := From.mk hwf; (((apply opv_E); exact rfl)))))
  ((apply (tk 2)); (case hi => exact rfl); (case hf => kernel_rfl); (case hS => (apply Fr.drew; exact Fr.refl _ _)); (case hy => (intro wf hwf; haveI := From.mk hwf; (((apply opv_E); exact rfl)))))
  ((apply (tk 3)); (case hi => exact rfl); (case hf => kernel_rfl); (case hS => (apply Fr.drew; exact Fr.refl _ _)); (case hy => (intro wf hwf; haveI := From.mk hwf; (((apply opv_fieldAddr); exact rfl)))))
  ((apply (tk 4)); (case hi => exact rfl); (case hf => kernel_rfl); (case hS => (apply Fr.drew; exact Fr.refl _ _)); (case hy => (intro wf hwf; haveI := From.mk hwf; (((apply opv_loadb1); exact rfl; exact rfl; infer_instance; exact rfl)))))
  (refine tkc 5 rfl (by kernel_rfl) (by (apply Fr.drew; exact Fr.refl _ _)) rfl (o_may (ht.frN (by (apply Fr.drew; (iterate 2 (apply Fr.alloc)); exact Fr.refl _ _))) (hs.frN (by (apply Fr.drew; (iterate 2 (apply Fr.alloc)); exact Fr.refl _ _))) (hr.frN (by (apply Fr.drew; (iterate 2 (apply Fr.alloc)); exact Fr.refl _ _))) hne) rfl ?_)
  rintro _ _ ⟨rfl, rfl⟩
  ((apply (tk 6)); (case hi => exact rfl); (case hf => kernel_rfl); (case hS => (apply Fr.drew; exact Fr.refl _ _)); (case hy => (intro wf hwf; haveI := From.mk hwf; (((apply opv_E); exact rfl)))))
  refine vA_done (by kernel_rfl) (by (first | exact trivial | ((apply Fr.drew; exact Fr.refl _ _); done))) ?_
  (apply seqP_normal; apply vC_seq; apply vC_region; (iterate 2 (((apply vL_val); (case h => ((apply opv_E); exact rfl))))); apply vL_nil; apply seqP_normal; ((apply vC_cond_true); exact rfl); apply vC_seq; apply vC_region; (iterate 2 (((apply vL_val); (case h => ((apply opv_E); exact rfl))))); apply vL_nil; apply seqP_normal; apply vC_ret; apply seqP_ret)
  (apply ret1; (case h1 => (exact norm_eq rfl)))
  exact ⟨by (apply Fr.drew; (iterate 2 (apply Fr.alloc)); exact Fr.refl _ _), rfl⟩
theorem recv_other {t c sr rr : Nat} {x1 x2 x3 x4 x5 x6 y0 y1 y2 y3 z0 z1 z2 z3 c1 c2 c3 c4 c5 : Value} (ht : Blk w.heap t [pt sr, x1, x2, x3, x4, x5, x6] 162) (hs : Blk w.heap sr [y0, y1, y2, y3] 108) (hr : Blk w.heap rr [z0, z1, z2, z3] 108) (hne : sr ≠ rr) (hc : Blk w.heap c [pt rr, c1, c2, c3, c4, c5] 148) (g : FuncId) (cap : Array Value) : Rets Tryz.prog 20 #[pt t, pt c, .func (.func g) #[] cap] w fun u w' => Fr No w w' ∧ u = .int .i64 160 := by
  refine rets_of Tryz.func20 rfl Tryz.ntmps20 rfl rfl (by kernel_rfl) ?_
  (apply vC_seq; apply vC_region; (iterate 2 (((apply vL_val); (case h => ((apply opw_box1); exact norm_eq rfl; (first | rfl | assumption)))))); ((apply vL_val); (case h => ((apply opv_E); exact rfl))); apply vL_nil; apply seqP_normal; (iterate 2 (apply vC_seq)); apply vC_region; ((apply vL_val); (case h => ((apply opv_E); exact rfl))))
  refine vL_callF rfl (c_right (hc.frN (by ((iterate 2 (apply Fr.alloc)); exact Fr.refl _ _)))) rfl ?_
  rintro _ _ ⟨rfl, rfl⟩
  (((apply vL_val); (case h => ((apply opv_not); exact rfl))); ((apply vL_val); (case h => ((apply opv_E); exact rfl))); ((apply vL_wanted); exact rfl); ((apply vL_val); (case h => ((apply opv_loadb1); exact rfl; exact rfl; infer_instance; exact rfl))); ((apply vL_wanted); exact rfl); ((apply vL_val); (case h => ((apply opv_eql_fnil); exact rfl; exact rfl))); ((apply vL_val); (case h => ((apply opv_E); exact rfl))); apply vL_nil; apply seqP_normal; ((apply vC_cond_false); exact rfl); apply vC_skip; apply seqP_normal; (iterate 2 (apply vC_seq)))
  refine vC_draw' (fun wf => Fr No ((w.alloc (.cells #[pt t] 34)).alloc (.cells #[.func (.func g) #[] cap] 39)) wf) ((Fr.refl No ((w.alloc (.cells #[pt t] 34)).alloc (.cells #[.func (.func g) #[] cap] 39))).drew) ?_
  ((apply (tk 0)); (case hi => exact rfl); (case hf => kernel_rfl); (case hS => (apply Fr.drew; exact Fr.refl _ _)); (case hy => (intro wf hwf; haveI := From.mk hwf; (((apply opv_loadb1); exact rfl; exact rfl; infer_instance; exact rfl)))))
  ((apply (tk 1)); (case hi => exact rfl); (case hf => kernel_rfl); (case hS => (apply Fr.drew; exact Fr.refl _ _)); (case hy => (intro wf hwf; haveI := From.mk hwf; (((apply opv_E); exact rfl)))))
  ((apply (tk 2)); (case hi => exact rfl); (case hf => kernel_rfl); (case hS => (apply Fr.drew; exact Fr.refl _ _)); (case hy => (intro wf hwf; haveI := From.mk hwf; (((apply opv_E); exact rfl)))))
  ((apply (tk 3)); (case hi => exact rfl); (case hf => kernel_rfl); (case hS => (apply Fr.drew; exact Fr.refl _ _)); (case hy => (intro wf hwf; haveI := From.mk hwf; (((apply opv_fieldAddr); exact rfl)))))
  ((apply (tk 4)); (case hi => exact rfl); (case hf => kernel_rfl); (case hS => (apply Fr.drew; exact Fr.refl _ _)); (case hy => (intro wf hwf; haveI := From.mk hwf; (((apply opv_loadb1); exact rfl; exact rfl; infer_instance; exact rfl)))))
  (refine tkc 5 rfl (by kernel_rfl) (by (apply Fr.drew; exact Fr.refl _ _)) rfl (o_may (ht.frN (by (apply Fr.drew; (iterate 2 (apply Fr.alloc)); exact Fr.refl _ _))) (hs.frN (by (apply Fr.drew; (iterate 2 (apply Fr.alloc)); exact Fr.refl _ _))) (hr.frN (by (apply Fr.drew; (iterate 2 (apply Fr.alloc)); exact Fr.refl _ _))) hne) rfl ?_)
  rintro _ _ ⟨rfl, rfl⟩
  ((apply (tk 6)); (case hi => exact rfl); (case hf => kernel_rfl); (case hS => (apply Fr.drew; exact Fr.refl _ _)); (case hy => (intro wf hwf; haveI := From.mk hwf; (((apply opv_E); exact rfl)))))
  refine vA_done (by kernel_rfl) (by (first | exact trivial | ((apply Fr.drew; exact Fr.refl _ _); done))) ?_
  (apply seqP_normal; apply vC_seq; apply vC_region; (iterate 2 (((apply vL_val); (case h => ((apply opv_E); exact rfl))))); apply vL_nil; apply seqP_normal; ((apply vC_cond_true); exact rfl); apply vC_seq; apply vC_region; (iterate 2 (((apply vL_val); (case h => ((apply opv_E); exact rfl))))); apply vL_nil; apply seqP_normal; apply vC_ret; apply seqP_ret)
  (apply ret1; (case h1 => (exact norm_eq rfl)))
  exact ⟨by (apply Fr.drew; (iterate 2 (apply Fr.alloc)); exact Fr.refl _ _), rfl⟩
theorem recv_notask {c rr : Nat} {c1 c2 c3 c4 c5 : Value} (hc : Blk w.heap c [pt rr, c1, c2, c3, c4, c5] 148) (g : FuncId) (cap : Array Value) : Rets Tryz.prog 20 #[.pointer none, pt c, .func (.func g) #[] cap] w fun u w' => Fr No w w' ∧ u = .int .i64 1 := by
  refine rets_of Tryz.func20 rfl Tryz.ntmps20 rfl rfl (by kernel_rfl) ?_
  (apply vC_seq; apply vC_region; (iterate 2 (((apply vL_val); (case h => ((apply opw_box1); exact norm_eq rfl; (first | rfl | assumption)))))); ((apply vL_val); (case h => ((apply opv_E); exact rfl))); apply vL_nil; apply seqP_normal; (iterate 2 (apply vC_seq)); apply vC_region; ((apply vL_val); (case h => ((apply opv_E); exact rfl))))
  refine vL_callF rfl (c_right (hc.frN (by ((iterate 2 (apply Fr.alloc)); exact Fr.refl _ _)))) rfl ?_
  rintro _ _ ⟨rfl, rfl⟩
  (((apply vL_val); (case h => ((apply opv_not); exact rfl))); ((apply vL_val); (case h => ((apply opv_E); exact rfl))); ((apply vL_wanted); exact rfl); ((apply vL_val); (case h => ((apply opv_loadb1); exact rfl; exact rfl; infer_instance; exact rfl))); ((apply vL_wanted); exact rfl); ((apply vL_val); (case h => ((apply opv_eql_fnil); exact rfl; exact rfl))); ((apply vL_val); (case h => ((apply opv_E); exact rfl))); apply vL_nil; apply seqP_normal; ((apply vC_cond_false); exact rfl); apply vC_skip; apply seqP_normal; (iterate 2 (apply vC_seq)))
  refine vC_draw' (fun wf => Fr No ((w.alloc (.cells #[.pointer none] 34)).alloc (.cells #[.func (.func g) #[] cap] 39)) wf) ((Fr.refl No ((w.alloc (.cells #[.pointer none] 34)).alloc (.cells #[.func (.func g) #[] cap] 39))).drew) ?_
  ((apply (tk 0)); (case hi => exact rfl); (case hf => kernel_rfl); (case hS => (apply Fr.drew; exact Fr.refl _ _)); (case hy => (intro wf hwf; haveI := From.mk hwf; (((apply opv_loadb1); exact rfl; exact rfl; infer_instance; exact rfl)))))
  ((apply (tk 1)); (case hi => exact rfl); (case hf => kernel_rfl); (case hS => (apply Fr.drew; exact Fr.refl _ _)); (case hy => (intro wf hwf; haveI := From.mk hwf; (((apply opv_E); exact rfl)))))
  ((apply (tk 2)); (case hi => exact rfl); (case hf => kernel_rfl); (case hS => (apply Fr.drew; exact Fr.refl _ _)); (case hy => (intro wf hwf; haveI := From.mk hwf; (((apply opv_E); exact rfl)))))
  ((apply (tk 3)); (case hi => exact rfl); (case hf => kernel_rfl); (case hS => (apply Fr.drew; exact Fr.refl _ _)); (case hy => (intro wf hwf; haveI := From.mk hwf; (((apply opv_fieldAddr); exact rfl)))))
  ((apply (tk 4)); (case hi => exact rfl); (case hf => kernel_rfl); (case hS => (apply Fr.drew; exact Fr.refl _ _)); (case hy => (intro wf hwf; haveI := From.mk hwf; (((apply opv_loadb1); exact rfl; exact rfl; infer_instance; exact rfl)))))
  (refine tkc 5 rfl (by kernel_rfl) (by (apply Fr.drew; exact Fr.refl _ _)) rfl (n_may rr) rfl ?_)
  rintro _ _ ⟨rfl, rfl⟩
  ((apply (tk 6)); (case hi => exact rfl); (case hf => kernel_rfl); (case hS => (apply Fr.drew; exact Fr.refl _ _)); (case hy => (intro wf hwf; haveI := From.mk hwf; (((apply opv_E); exact rfl)))))
  refine vA_done (by kernel_rfl) (by (first | exact trivial | ((apply Fr.drew; exact Fr.refl _ _); done))) ?_
  (apply seqP_normal; apply vC_seq; apply vC_region; (iterate 2 (((apply vL_val); (case h => ((apply opv_E); exact rfl))))); apply vL_nil; apply seqP_normal; ((apply vC_cond_true); exact rfl); apply vC_seq; apply vC_region; (iterate 2 (((apply vL_val); (case h => ((apply opv_E); exact rfl))))); apply vL_nil; apply seqP_normal; apply vC_ret; apply seqP_ret)
  (apply ret1; (case h1 => (exact norm_eq rfl)))
  exact ⟨by (apply Fr.drew; (iterate 2 (apply Fr.alloc)); exact Fr.refl _ _), rfl⟩
theorem park_over {t rr : Nat} {x1 x2 x3 x4 x5 x6 z0 z1 z3 : Value} (ht : Blk w.heap t [pt rr, x1, x2, x3, x4, x5, x6] 162) (hr : Blk w.heap rr [z0, z1, .pointer none, z3] 108) (g : FuncId) (cap : Array Value) : Rets Tryz.prog 89 #[pt t, .func (.func g) #[] cap] w fun u w' => Fr No w w' ∧ u = .int .i64 152 := by
  have hm : Rets Tryz.prog 153 #[pt t, .bool false] w fun u w' => w = w' ∧ u = .int .i64 152 := by
    refine rets_of Tryz.func153 rfl Tryz.ntmps153 rfl rfl (by kernel_rfl) ?_
    (apply vC_seq; apply vC_region; ((apply vL_val); (case h => ((apply opv_E); exact rfl))); apply vL_nil; apply seqP_normal; apply vC_seq; apply vC_block; apply vC_seq; apply vC_region; ((apply vL_val); (case h => ((apply opv_E); exact rfl))))
    refine vL_callF rfl (tkx_right ht) rfl ?_
    rintro _ _ ⟨rfl, rfl⟩
    (((apply vL_val); (case h => ((apply opv_not); exact rfl))); ((apply vL_val); (case h => ((apply opv_E); exact rfl))); ((apply vL_wanted); exact rfl); (iterate 3 (((apply vL_val); (case h => ((apply opv_E); exact rfl))))); apply vL_nil; apply seqP_normal; ((apply vC_cond_false); exact rfl); apply vC_seq; apply vC_region; (iterate 10 (first | ((with_reducible apply vL_val); (case h => ((with_reducible apply opv_E); exact rfl))) | ((with_reducible apply vL_val); (case h => ((with_reducible apply opv_loadb1); exact rfl; exact rfl; assumption; exact rfl))) | ((with_reducible apply vL_val); (case h => ((with_reducible apply opv_fieldAddr); exact rfl))) | ((with_reducible apply vL_val); (case h => ((with_reducible apply opv_neq_pnil); exact rfl; exact rfl; (simp; done)))))); apply vL_nil; apply seqP_normal; ((apply vC_cond_true); exact rfl); apply vC_seq; apply vC_region; ((apply vL_val); (case h => ((apply opv_E); exact rfl))); apply vL_nil; apply seqP_normal; apply vC_ret; apply blockP_ret; apply seqP_ret)
    (apply ret1; (case h1 => (exact norm_eq rfl)))
    exact ⟨rfl, rfl⟩
  refine rets_of Tryz.func89 rfl Tryz.ntmps89 rfl rfl (by kernel_rfl) ?_
  (apply vC_seq; apply vC_region; ((apply vL_val); (case h => ((apply opv_E); exact rfl))); apply vL_nil; apply seqP_normal; (iterate 2 (apply vC_seq)); apply vC_region; (iterate 2 (((apply vL_val); (case h => ((apply opv_E); exact rfl))))); ((apply vL_val); (case h => ((apply opv_eql_fnil); exact rfl; exact rfl))))
  refine vL_callF rfl (hm) rfl ?_
  rintro _ _ ⟨rfl, rfl⟩
  ((iterate 16 (first | with_reducible apply vC_seq | with_reducible apply vC_region | with_reducible apply seqP_normal | ((with_reducible apply vC_cond_true); exact rfl) | ((with_reducible apply vL_val); (case h => ((with_reducible apply opv_E); exact rfl))) | with_reducible apply vL_nil)); apply vC_ret; apply seqP_ret)
  (apply ret1; (case h1 => (exact norm_eq rfl)))
  exact ⟨by (exact Fr.refl _ _), rfl⟩
theorem send_over {t c rr : Nat} {x1 x2 x3 x4 x5 x6 z0 z1 z3 c1 c2 c3 c4 c5 : Value} (ht : Blk w.heap t [pt rr, x1, x2, x3, x4, x5, x6] 162) (hr : Blk w.heap rr [z0, z1, .pointer none, z3] 108) (hc : Blk w.heap c [pt rr, c1, c2, c3, c4, c5] 148) (v : Int) (g : FuncId) (cap : Array Value) : Rets Tryz.prog 17 #[pt t, pt c, .int .i64 v, .func (.func g) #[] cap] w fun u w' => Fr No w w' ∧ u = .int .i64 152 := by
  refine rets_of Tryz.func17 rfl Tryz.ntmps17 rfl rfl (by kernel_rfl) ?_
  (apply vC_seq; apply vC_region; (iterate 2 (((apply vL_val); (case h => ((apply opw_box1); exact norm_eq rfl; (first | rfl | assumption)))))); ((apply vL_val); (case h => ((apply opv_E); exact rfl))); apply vL_nil; apply seqP_normal; (iterate 2 (apply vC_seq)); apply vC_region; ((apply vL_val); (case h => ((apply opv_E); exact rfl))))
  refine vL_callF rfl (c_right (hc.frN (by ((iterate 2 (apply Fr.alloc)); exact Fr.refl _ _)))) rfl ?_
  rintro _ _ ⟨rfl, rfl⟩
  (((apply vL_val); (case h => ((apply opv_not); exact rfl))); ((apply vL_val); (case h => ((apply opv_E); exact rfl))); ((apply vL_wanted); exact rfl); ((apply vL_val); (case h => ((apply opv_loadb1); exact rfl; exact rfl; infer_instance; exact rfl))); ((apply vL_wanted); exact rfl); ((apply vL_val); (case h => ((apply opv_eql_fnil); exact rfl; exact rfl))); ((apply vL_val); (case h => ((apply opv_E); exact rfl))); apply vL_nil; apply seqP_normal; ((apply vC_cond_false); exact rfl); apply vC_skip; apply seqP_normal; (iterate 2 (apply vC_seq)))
  refine vC_draw' (fun wf => Fr No ((w.alloc (.cells #[pt t] 34)).alloc (.cells #[.func (.func g) #[] cap] 36)) wf) ((Fr.refl No ((w.alloc (.cells #[pt t] 34)).alloc (.cells #[.func (.func g) #[] cap] 36))).drew) ?_
  ((apply (tk 0)); (case hi => exact rfl); (case hf => kernel_rfl); (case hS => (apply Fr.drew; exact Fr.refl _ _)); (case hy => (intro wf hwf; haveI := From.mk hwf; (((apply opv_loadb1); exact rfl; exact rfl; infer_instance; exact rfl)))))
  ((apply (tk 1)); (case hi => exact rfl); (case hf => kernel_rfl); (case hS => (apply Fr.drew; exact Fr.refl _ _)); (case hy => (intro wf hwf; haveI := From.mk hwf; (((apply opv_E); exact rfl)))))
  ((apply (tk 2)); (case hi => exact rfl); (case hf => kernel_rfl); (case hS => (apply Fr.drew; exact Fr.refl _ _)); (case hy => (intro wf hwf; haveI := From.mk hwf; (((apply opv_E); exact rfl)))))
  ((apply (tk 3)); (case hi => exact rfl); (case hf => kernel_rfl); (case hS => (apply Fr.drew; exact Fr.refl _ _)); (case hy => (intro wf hwf; haveI := From.mk hwf; (((apply opv_fieldAddr); exact rfl)))))
  ((apply (tk 4)); (case hi => exact rfl); (case hf => kernel_rfl); (case hS => (apply Fr.drew; exact Fr.refl _ _)); (case hy => (intro wf hwf; haveI := From.mk hwf; (((apply opv_loadb1); exact rfl; exact rfl; infer_instance; exact rfl)))))
  (refine tkc 5 rfl (by kernel_rfl) (by (apply Fr.drew; exact Fr.refl _ _)) rfl (s_may (ht.frN (by (apply Fr.drew; (iterate 2 (apply Fr.alloc)); exact Fr.refl _ _))) (hr.frN (by (apply Fr.drew; (iterate 2 (apply Fr.alloc)); exact Fr.refl _ _)))) rfl ?_)
  rintro _ _ ⟨rfl, rfl⟩
  ((apply (tk 6)); (case hi => exact rfl); (case hf => kernel_rfl); (case hS => (apply Fr.drew; exact Fr.refl _ _)); (case hy => (intro wf hwf; haveI := From.mk hwf; (((apply opv_E); exact rfl)))))
  refine vA_done (by kernel_rfl) (by (first | exact trivial | ((apply Fr.drew; exact Fr.refl _ _); done))) ?_
  (apply seqP_normal; apply vC_seq; apply vC_region; (iterate 2 (((apply vL_val); (case h => ((apply opv_E); exact rfl))))); apply vL_nil; apply seqP_normal; ((apply vC_cond_false); exact rfl); apply vC_skip; apply seqP_normal; apply vC_seq; apply vC_region; ((apply vL_val); (case h => (apply opw_alloc))); ((apply vL_skip); (case h => ((apply ops_store1); exact norm_eq rfl; exact norm_eq rfl; (first | rfl | assumption); infer_instance; (first | decide | exact of_decide_eq_true rfl | (simp; done))))); apply vL_nil; apply seqP_normal; (iterate 2 (apply vC_seq)); apply vC_region; ((apply vL_val); (case h => ((apply opv_loadb1); exact rfl; exact rfl; infer_instance; exact rfl))); ((apply vL_val); (case h => ((apply opv_makeFunc); exact rfl))))
  refine vL_callF rfl (park_over (ht.frN (by (apply Fr.allocSet; apply Fr.drew; (iterate 2 (apply Fr.alloc)); exact Fr.refl _ _))) (hr.frN (by (apply Fr.allocSet; apply Fr.drew; (iterate 2 (apply Fr.alloc)); exact Fr.refl _ _))) _ _) rfl ?_
  rintro _ w5 ⟨hf5, rfl⟩
  ((iterate 16 (first | with_reducible apply vC_seq | with_reducible apply vC_region | with_reducible apply seqP_normal | ((with_reducible apply vC_cond_true); exact rfl) | ((with_reducible apply vL_val); (case h => ((with_reducible apply opv_E); exact rfl))) | with_reducible apply vL_nil)); apply vC_ret; apply seqP_ret)
  (apply ret1; (case h1 => (exact norm_eq rfl)))
  exact ⟨by ((refine Fr.trans ?_ (by assumption)); apply Fr.allocSet; apply Fr.drew; (iterate 2 (apply Fr.alloc)); exact Fr.refl _ _), rfl⟩
end
end Go.Proofs.YtbaidcnalkdhgaaGreat
set_option maxRecDepth 100000
namespace Go.Proofs.YtbaidcnalkdhgaaGreat
open Go Go.Eng
section
variable {w : World}
theorem waitrecv_none (k : Nat) (g : FuncId) (cap : Array Value) : Rets Tryz.prog 39 #[.pointer none, pt k, .func (.func g) #[] cap] w fun u w' => Fr No w w' ∧ u = .int .i64 1 := by
  refine rets_of Tryz.func39 rfl Tryz.ntmps39 rfl rfl (by kernel_rfl) ?_
  (apply vC_seq; apply vC_region; ((apply vL_val); (case h => ((apply opw_box1); exact norm_eq rfl; (first | rfl | assumption)))); ((apply vL_val); (case h => ((apply opv_E); exact rfl))); apply vL_nil; apply seqP_normal; (iterate 2 (apply vC_seq)); apply vC_region; ((apply vL_val); (case h => ((apply opv_E); exact rfl))))
  refine vL_callF rfl (n_right) rfl ?_
  rintro _ _ ⟨rfl, rfl⟩
  (((apply vL_val); (case h => ((apply opv_not); exact rfl))); (iterate 15 (first | ((with_reducible apply vL_val); (case h => ((with_reducible apply opv_E); exact rfl))) | ((with_reducible apply vL_unwanted'); exact rfl; exact rfl))); apply vL_nil; apply seqP_normal; ((apply vC_cond_true); exact rfl); apply vC_seq; apply vC_region; ((apply vL_val); (case h => ((apply opv_E); exact rfl))); apply vL_nil; apply seqP_normal; apply vC_ret; apply seqP_ret)
  (apply ret1; (case h1 => (exact norm_eq rfl)))
  exact ⟨by (apply Fr.alloc; exact Fr.refl _ _), rfl⟩
theorem waitrecv_nok {c r : Nat} {x1 x2 x3 x4 x5 : Value} (hc : Blk w.heap c [pt r, x1, x2, x3, x4, x5] 148) (g : FuncId) (cap : Array Value) : Rets Tryz.prog 39 #[pt c, .pointer none, .func (.func g) #[] cap] w fun u w' => Fr No w w' ∧ u = .int .i64 1 := by
  refine rets_of Tryz.func39 rfl Tryz.ntmps39 rfl rfl (by kernel_rfl) ?_
  (apply vC_seq; apply vC_region; ((apply vL_val); (case h => ((apply opw_box1); exact norm_eq rfl; (first | rfl | assumption)))); ((apply vL_val); (case h => ((apply opv_E); exact rfl))); apply vL_nil; apply seqP_normal; (iterate 2 (apply vC_seq)); apply vC_region; ((apply vL_val); (case h => ((apply opv_E); exact rfl))))
  refine vL_callF rfl (c_right (hc.frN (by (apply Fr.alloc; exact Fr.refl _ _)))) rfl ?_
  rintro _ _ ⟨rfl, rfl⟩
  (((apply vL_val); (case h => ((apply opv_not); exact rfl))); ((apply vL_val); (case h => ((apply opv_E); exact rfl))); ((apply vL_wanted); exact rfl); ((apply vL_val); (case h => ((apply opv_loadb1); exact rfl; exact rfl; infer_instance; exact rfl))); ((apply vL_wanted); exact rfl); ((apply vL_val); (case h => ((apply opv_eql_pnil); exact rfl; exact rfl; (simp; done)))); (iterate 12 (first | ((with_reducible apply vL_val); (case h => ((with_reducible apply opv_E); exact rfl))) | ((with_reducible apply vL_unwanted'); exact rfl; exact rfl))); apply vL_nil; apply seqP_normal; ((apply vC_cond_true); exact rfl); apply vC_seq; apply vC_region; ((apply vL_val); (case h => ((apply opv_E); exact rfl))); apply vL_nil; apply seqP_normal; apply vC_ret; apply seqP_ret)
  (apply ret1; (case h1 => (exact norm_eq rfl)))
  exact ⟨by (apply Fr.alloc; exact Fr.refl _ _), rfl⟩
theorem waitsend_notold {c r k : Nat} {x1 x2 x3 x4 x5 x6 : Value} (hc : Blk w.heap c [pt r, x1, x2, x3, x4, x5] 148) (g : FuncId) (cap : Array Value) (hk : Blk w.heap k [.func (.func g) #[] cap, x6] 175) (v : Int) : Rets Tryz.prog 37 #[pt c, .int .i64 v, pt k, .nilFunc] w fun u w' => Fr No w w' ∧ u = .int .i64 1 := by
  refine rets_of Tryz.func37 rfl Tryz.ntmps37 rfl rfl (by kernel_rfl) ?_
  (apply vC_seq; apply vC_region; ((apply vL_val); (case h => ((apply opw_box1); exact norm_eq rfl; (first | rfl | assumption)))); ((apply vL_val); (case h => ((apply opv_E); exact rfl))); apply vL_nil; apply seqP_normal; (iterate 2 (apply vC_seq)); apply vC_region; ((apply vL_val); (case h => ((apply opv_E); exact rfl))))
  refine vL_callF rfl (c_right (hc.frN (by (apply Fr.alloc; exact Fr.refl _ _)))) rfl ?_
  rintro _ _ ⟨rfl, rfl⟩
  (((apply vL_val); (case h => ((apply opv_not); exact rfl))); (iterate 24 (first | ((with_reducible apply vL_val); (case h => ((with_reducible apply opv_E); exact rfl))) | ((with_reducible apply vL_val); (case h => ((with_reducible apply opv_loadb1); exact rfl; exact rfl; infer_instance; exact rfl))) | ((with_reducible apply vL_val); (case h => ((with_reducible apply opv_fieldAddr); exact rfl))) | ((with_reducible apply vL_val); (case h => ((with_reducible apply opv_eql_pnil); exact rfl; exact rfl; (simp; done)))) | ((with_reducible apply vL_val); (case h => ((with_reducible apply opv_eql_fnil); exact rfl; exact rfl))) | ((with_reducible apply vL_val); (case h => ((with_reducible apply opv_eql_fnil2); exact rfl; exact rfl))) | ((with_reducible apply vL_wanted); exact rfl))); apply vL_nil; apply seqP_normal; ((apply vC_cond_true); exact rfl); apply vC_seq; apply vC_region; ((apply vL_val); (case h => ((apply opv_E); exact rfl))); apply vL_nil; apply seqP_normal; apply vC_ret; apply seqP_ret)
  (apply ret1; (case h1 => (exact norm_eq rfl)))
  exact ⟨by (apply Fr.alloc; exact Fr.refl _ _), rfl⟩
end
end Go.Proofs.YtbaidcnalkdhgaaGreat
set_option maxRecDepth 100000
namespace Go.Proofs.YtbaidcnalkdhgaaGreat
open Go Go.Eng
/-- what is told; an event -/
structure To where
  c : Int
  v : Int
  ok : Bool
def toV (x : To) : Value := .agg #[.int .i64 x.c, .int .i64 x.v, .bool x.ok]
structure Ev5 where
  t : Int
  a : Int
  c : Int
  v : Int
  ok : Bool
def ev5 (x : Ev5) : List Value := [.int .i64 x.t, .int .i64 x.a, .int .i64 x.c, .int .i64 x.v, .bool x.ok]
instance encEv5 : EncOk ev5 5 := ⟨by intro x u h; simp [ev5] at h; rcases h with rfl | rfl | rfl | rfl | rfl <;> rfl, fun _ => rfl⟩
structure Do5 where
  k : Int
  c : Int
  v : Int
  cs : OV
  df : Bool
def do5 (x : Do5) : List Value := [.int .i64 x.k, .int .i64 x.c, .int .i64 x.v, x.cs.1, .bool x.df]
instance encDo5 : EncOk do5 5 := ⟨by intro x u h; simp [do5] at h; rcases h with rfl | rfl | rfl | rfl | rfl <;> first | rfl | exact x.cs.2, fun _ => rfl⟩
def do0 : Do5 := ⟨0, 0, 0, ⟨.slice none 0 0, rfl⟩, false⟩
def WA (wb rb : Nat) (vp : Value) (cl tl : List Nat) (el : List Ev5) (bad : Bool) : Asr :=
  Ex fun cv : Value => Ex fun tv : Value => Ex fun ev : Value => Pt wb [pt rb, vp, cv, tv, ev, .bool bad] 61 * (Ow 28 1 ptE cv cl * (Ow 34 1 ptE tv tl * Ow 100 5 ev5 ev el))
instance instLclWA (wb rb : Nat) (vp : Value) (cl tl : List Nat) (el : List Ev5) (bad : Bool) : Lcl (WA wb rb vp cl tl el bad) := by unfold WA; infer_instance
section
variable {w w0 : World} {F0 : Nat → Prop} {R : Asr} {wb rb : Nat} {vp : Value} {cl tl : List Nat} {el : List Ev5} {bad : Bool}
theorem wa_open (S : At (WA wb rb vp cl tl el bad * R) w0 F0 w) : ∃ cv tv ev, At (Pt wb [pt rb, vp, cv, tv, ev, .bool bad] 61 * (Ow 28 1 ptE cv cl * (Ow 34 1 ptE tv tl * (Ow 100 5 ev5 ev el * R)))) w0 F0 w := by
  unfold WA at S
  obtain ⟨cv, S⟩ := S.ex
  obtain ⟨tv, S⟩ := S.ex
  obtain ⟨ev, S⟩ := S.ex
  exact ⟨cv, tv, ev, S.ac (by ac_rfl)⟩
theorem wa_shut {cv tv ev : Value} (S : At (Pt wb [pt rb, vp, cv, tv, ev, .bool bad] 61 * (Ow 28 1 ptE cv cl * (Ow 34 1 ptE tv tl * (Ow 100 5 ev5 ev el * R)))) w0 F0 w) : At (WA wb rb vp cl tl el bad * R) w0 F0 w := by
  unfold WA
  refine At.intro cv (At.intro tv (At.intro ev ?_))
  exact S.ac (by ac_rfl)
end
/-- where a task stands: its block, its program, what comes next, what will be told -/
structure K16 where
  tb : Nat
  prog : Nat
  pos : Nat
  told : To
/-- the boxes of what goes on behind a turn -/
def Nx (wb : Nat) (k : K16) (kb : List Bx) (nb : Nat) : Prop := ∃ b5 b6 b7 b8 : Nat, (nb, [.func (.func 166) #[] #[pt b5, pt b6, pt b7, pt b8]], 234) ∈ kb ∧ (b5, [pt wb], 53) ∈ kb ∧ (b6, [pt k.tb], 34) ∈ kb ∧ (b7, [.int .i64 k.prog], 3) ∈ kb ∧ (b8, [.int .i64 ((k.pos : Int) - 1)], 3) ∈ kb ∧ 1 ≤ k.pos
theorem Nx.mono {wb : Nat} {k : K16} {kb kb' : List Bx} {nb : Nat} (h : ∀ b ∈ kb, b ∈ kb') (n : Nx wb k kb nb) : Nx wb k kb' nb := by
  obtain ⟨b5, b6, b7, b8, h1, h2, h3, h4, h5, h6⟩ := n
  exact ⟨b5, b6, b7, b8, h _ h1, h _ h2, h _ h3, h _ h4, h _ h5, h6⟩
inductive Yd16 (wb : Nat) (k : K16) (kb : List Bx) : Value → Prop where
  | born (fb tx wx px : Nat) : (fb, [.func (.func 107) #[] #[pt wx, pt px]], 37) ∈ kb → (tx, [pt k.tb], 34) ∈ kb → (wx, [pt wb], 53) ∈ kb → (px, [.int .i64 k.prog], 3) ∈ kb → k.pos = 0 → k.told = ⟨0, 0, false⟩ → Yd16 wb k kb (.func (.func 98) #[] #[pt fb, pt tx])
  | y2 (nb : Nat) : Nx wb k kb nb → k.told = ⟨0, 0, false⟩ → Yd16 wb k kb (.func (.func 169) #[] #[pt nb])
  | y5 (nb eb : Nat) (e : Int) : Nx wb k kb nb → (eb, [.int .i64 e], 29) ∈ kb → k.told = ⟨0, 0, decide (e = 0)⟩ → Yd16 wb k kb (.func (.func 172) #[] #[pt nb, pt eb])
  | y6 (nb ob : Nat) (ok : Bool) : Nx wb k kb nb → (ob, [.bool ok], 4) ∈ kb → k.told = ⟨0, 0, ok⟩ → Yd16 wb k kb (.func (.func 173) #[] #[pt nb, pt ob])
  | y7 (nb ob : Nat) : Nx wb k kb nb → (ob, [.int .i64 k.told.c, .int .i64 k.told.v, .bool k.told.ok], 171) ∈ kb → Yd16 wb k kb (.func (.func 174) #[] #[pt nb, pt ob])
def L16 (wb : Nat) : LawP K16 where
  th := fun k kb v => ∃ nb, Nx wb k kb nb ∧ v = .func (.func 170) #[] #[pt nb]
  tr := fun k kb v => ∃ nb, Nx wb k kb nb ∧ v = .func (.func 171) #[] #[pt nb]
  yd := fun k t kb v => k.tb = t ∧ Yd16 wb k kb v
  xd := fun _ _ _ _ => False
  mth := fun h ⟨nb, n, e⟩ => ⟨nb, n.mono h, e⟩
  mtr := fun h ⟨nb, n, e⟩ => ⟨nb, n.mono h, e⟩
  myd := fun h ⟨e, y⟩ => ⟨e, by
    cases y with
    | born fb tx wx px h1 h2 h3 h4 h5 h6 => exact .born fb tx wx px (h _ h1) (h _ h2) (h _ h3) (h _ h4) h5 h6
    | y2 nb n e => exact .y2 nb (n.mono h) e
    | y5 nb eb e n h1 h2 => exact .y5 nb eb e (n.mono h) (h _ h1) h2
    | y6 nb ob ok n h1 h2 => exact .y6 nb ob ok (n.mono h) (h _ h1) h2
    | y7 nb ob n h1 => exact .y7 nb ob (n.mono h) (h _ h1)⟩
  mxd := fun h e => e
end Go.Proofs.YtbaidcnalkdhgaaGreat
set_option maxRecDepth 100000
namespace Go.Proofs.YtbaidcnalkdhgaaGreat
open Go Go.Eng
def TurnC (wb tb : Nat) (prog pos : Int) (x : To) (w : World) (Q : World → Prop) : Prop := ∀ w', Fr No w w' → Rets Tryz.prog 108 #[pt wb, pt tb, .int .i64 prog, .int .i64 pos, toV x] w' fun _ w'' => Q w''
section
variable {w : World} {wb tb nb b5 b6 b7 b8 : Nat} {prog pos : Int} {Q : World → Prop}
theorem TurnC.fr {x : To} {w' : World} (h : TurnC wb tb prog pos x w Q) (hf : Fr No w w') : TurnC wb tb prog pos x w' Q := fun w2 h2 => h w2 (hf.trans h2)
theorem turn1_calls {x : To} (h5 : Blk w.heap b5 [pt wb] 53) (h6 : Blk w.heap b6 [pt tb] 34) (h7 : Blk w.heap b7 [.int .i64 prog] 3) (h8 : Blk w.heap b8 [.int .i64 (pos - 1)] 3) (hb : -1000000000 ≤ pos ∧ pos ≤ 1000000000) (h : TurnC wb tb prog pos x w Q) :
    Rets Tryz.prog 166 #[toV x, pt b5, pt b6, pt b7, pt b8] w fun _ w' => Q w' := by
  unfold toV
  refine rets_of Tryz.func166 rfl Tryz.ntmps166 rfl rfl (by kernel_rfl) ?_
  (apply vC_seq; apply vC_region; ((apply vL_val); (case h => ((apply opw_boxn); exact rfl))); apply vL_nil; apply seqP_normal; apply vC_region; (iterate 4 (((apply vL_val); (case h => ((apply opv_loadb1); exact rfl; exact rfl; infer_instance; exact rfl))))); ((apply vL_val); (case h => ((apply opv_add); exact rfl; exact rfl; (first | omega | (simp only [List.length_map]; omega))))); ((apply vL_val); (case h => ((apply opv_loadbC); exact rfl; exact rfl; infer_instance; exact (rfl : _ = [_, _, _]); exact rfl))))
  rw [show pos - 1 + 1 = pos by omega]
  refine vL_callF rfl (h _ (by (apply Fr.alloc; exact Fr.refl _ _))) rfl ?_
  intro _ w1 hq
  (apply vL_nil)
  (first | apply ret0 | apply ret0n)
  exact hq
/-- the boxes of a next -/
structure NxB (w : World) (wb tb nb b5 b6 b7 b8 : Nat) (prog pos : Int) : Prop where
  hn : Blk w.heap nb [.func (.func 166) #[] #[pt b5, pt b6, pt b7, pt b8]] 234
  h5 : Blk w.heap b5 [pt wb] 53
  h6 : Blk w.heap b6 [pt tb] 34
  h7 : Blk w.heap b7 [.int .i64 prog] 3
  h8 : Blk w.heap b8 [.int .i64 (pos - 1)] 3
  hb : -1000000000 ≤ pos ∧ pos ≤ 1000000000
theorem turn2_calls (n : NxB w wb tb nb b5 b6 b7 b8 prog pos) (h : TurnC wb tb prog pos ⟨0, 0, false⟩ w Q) : Rets Tryz.prog 169 #[pt nb] w fun _ w' => Q w' := by
  have hn := n.hn
  have hc := turn1_calls n.h5 n.h6 n.h7 n.h8 n.hb h
  unfold toV at hc
  refine rets_of Tryz.func169 rfl Tryz.ntmps169 rfl rfl (by kernel_rfl) ?_
  (apply vC_region; ((apply vL_val); (case h => ((apply opv_loadb1); exact rfl; exact rfl; assumption; exact rfl))); ((apply vL_val); (case h => ((apply opv_buildS); exact rfl; exact (rfl : _ = some [_, _, _])))))
  refine vL_callF rfl (hc) rfl ?_
  intro _ w1 hq
  (apply vL_nil)
  (first | apply ret0 | apply ret0n)
  exact hq
theorem turn3_calls {ok : Bool} (n : NxB w wb tb nb b5 b6 b7 b8 prog pos) (h : TurnC wb tb prog pos ⟨0, 0, ok⟩ w Q) : Rets Tryz.prog 170 #[.bool ok, pt nb] w fun _ w' => Q w' := by
  have hn := n.hn
  have hc := turn1_calls n.h5 n.h6 n.h7 n.h8 n.hb h
  unfold toV at hc
  refine rets_of Tryz.func170 rfl Tryz.ntmps170 rfl rfl (by kernel_rfl) ?_
  (apply vC_region; ((apply vL_val); (case h => ((apply opv_loadb1); exact rfl; exact rfl; assumption; exact rfl))); ((apply vL_val); (case h => ((apply opv_E); exact rfl))); ((apply vL_val); (case h => ((apply opv_buildS); exact rfl; exact (rfl : _ = some [_, _, _])))))
  refine vL_callF rfl (hc) rfl ?_
  intro _ w1 hq
  (apply vL_nil)
  (first | apply ret0 | apply ret0n)
  exact hq
theorem turn4_calls {v : Int} {ok : Bool} (n : NxB w wb tb nb b5 b6 b7 b8 prog pos) (h : TurnC wb tb prog pos ⟨0, v, ok⟩ w Q) : Rets Tryz.prog 171 #[.int .i64 v, .bool ok, pt nb] w fun _ w' => Q w' := by
  have hn := n.hn
  have hc := turn1_calls n.h5 n.h6 n.h7 n.h8 n.hb h
  unfold toV at hc
  refine rets_of Tryz.func171 rfl Tryz.ntmps171 rfl rfl (by kernel_rfl) ?_
  (apply vC_region; ((apply vL_val); (case h => ((apply opv_loadb1); exact rfl; exact rfl; assumption; exact rfl))); (iterate 2 (((apply vL_val); (case h => ((apply opv_E); exact rfl))))); ((apply vL_val); (case h => ((apply opv_buildS); exact rfl; exact (rfl : _ = some [_, _, _])))))
  refine vL_callF rfl (hc) rfl ?_
  intro _ w1 hq
  (apply vL_nil)
  (first | apply ret0 | apply ret0n)
  exact hq
theorem turn5_calls {eb : Nat} {e : Int} (n : NxB w wb tb nb b5 b6 b7 b8 prog pos) (he : Blk w.heap eb [.int .i64 e] 29) (h : TurnC wb tb prog pos ⟨0, 0, decide (e = 0)⟩ w Q) : Rets Tryz.prog 172 #[pt nb, pt eb] w fun _ w' => Q w' := by
  have hn := n.hn
  have hc := turn1_calls n.h5 n.h6 n.h7 n.h8 n.hb h
  unfold toV at hc
  refine rets_of Tryz.func172 rfl Tryz.ntmps172 rfl rfl (by kernel_rfl) ?_
  (apply vC_region; (iterate 2 (((apply vL_val); (case h => ((apply opv_loadb1); exact rfl; exact rfl; assumption; exact rfl))))); ((apply vL_val); (case h => ((apply opv_E); exact rfl))); ((apply vL_val); (case h => ((apply opv_buildS); exact rfl; exact (rfl : _ = some [_, _, _])))))
  refine vL_callF rfl (hc) rfl ?_
  intro _ w1 hq
  (apply vL_nil)
  (first | apply ret0 | apply ret0n)
  exact hq
theorem turn6_calls {ob : Nat} {ok : Bool} (n : NxB w wb tb nb b5 b6 b7 b8 prog pos) (he : Blk w.heap ob [.bool ok] 4) (h : TurnC wb tb prog pos ⟨0, 0, ok⟩ w Q) : Rets Tryz.prog 173 #[pt nb, pt ob] w fun _ w' => Q w' := by
  have hn := n.hn
  have hc := turn1_calls n.h5 n.h6 n.h7 n.h8 n.hb h
  unfold toV at hc
  refine rets_of Tryz.func173 rfl Tryz.ntmps173 rfl rfl (by kernel_rfl) ?_
  (apply vC_region; (iterate 2 (((apply vL_val); (case h => ((apply opv_loadb1); exact rfl; exact rfl; assumption; exact rfl))))); ((apply vL_val); (case h => ((apply opv_buildS); exact rfl; exact (rfl : _ = some [_, _, _])))))
  refine vL_callF rfl (hc) rfl ?_
  intro _ w1 hq
  (apply vL_nil)
  (first | apply ret0 | apply ret0n)
  exact hq
theorem turn7_calls {ob : Nat} {x : To} (n : NxB w wb tb nb b5 b6 b7 b8 prog pos) (he : Blk w.heap ob [.int .i64 x.c, .int .i64 x.v, .bool x.ok] 171) (h : TurnC wb tb prog pos x w Q) : Rets Tryz.prog 174 #[pt nb, pt ob] w fun _ w' => Q w' := by
  have hn := n.hn
  have hc := turn1_calls n.h5 n.h6 n.h7 n.h8 n.hb h
  unfold toV at hc
  refine rets_of Tryz.func174 rfl Tryz.ntmps174 rfl rfl (by kernel_rfl) ?_
  (apply vC_region; ((apply vL_val); (case h => ((apply opv_loadb1); exact rfl; exact rfl; assumption; exact rfl))); ((apply vL_val); (case h => ((apply opv_loadbC); exact rfl; exact rfl; assumption; exact (rfl : _ = [_, _, _]); exact rfl))))
  refine vL_callF rfl (hc) rfl ?_
  intro _ w1 hq
  (apply vL_nil)
  (first | apply ret0 | apply ret0n)
  exact hq
theorem begun1_calls {wx px : Nat} (hw : Blk w.heap wx [pt wb] 53) (hp : Blk w.heap px [.int .i64 prog] 3) (h : TurnC wb tb prog 0 ⟨0, 0, false⟩ w Q) : Rets Tryz.prog 107 #[pt tb, pt wx, pt px] w fun _ w' => Q w' := by
  have hc := h w (Fr.refl _ _)
  unfold toV at hc
  refine rets_of Tryz.func107 rfl Tryz.ntmps107 rfl rfl (by kernel_rfl) ?_
  (apply vC_region; ((apply vL_val); (case h => ((apply opv_loadb1); exact rfl; exact rfl; assumption; exact rfl))); ((apply vL_val); (case h => ((apply opv_E); exact rfl))); ((apply vL_val); (case h => ((apply opv_loadb1); exact rfl; exact rfl; assumption; exact rfl))); ((apply vL_val); (case h => ((apply opv_buildS); exact rfl; exact (rfl : _ = some [_, _, _])))))
  refine vL_callF rfl (hc) rfl ?_
  intro _ w1 hq
  (apply vL_nil)
  (first | apply ret0 | apply ret0n)
  exact hq
end
end Go.Proofs.YtbaidcnalkdhgaaGreat
set_option maxRecDepth 100000
namespace Go.Proofs.YtbaidcnalkdhgaaGreat
open Go Go.Eng
section
variable {w w0 : World} {F0 : Nat → Prop} {R : Asr} {wb rb : Nat} {vp : Value} {cl tl : List Nat} {el : List Ev5} {bad : Bool}
theorem w_need [Lcl R] (S : At (WA wb rb vp cl tl el bad * R) w0 F0 w) : Rets Tryz.prog 167 #[pt wb, .int .i64 0] w fun _ w' => At (WA wb rb vp cl tl el bad * R) w0 F0 w' := by
  obtain ⟨cv, tv, ev, S1⟩ := wa_open S
  have hb := S1.blk
  have fin : ∀ w', At (Pt wb [pt rb, vp, cv, tv, ev, .bool bad] 61 * (Ow 28 1 ptE cv cl * (Ow 34 1 ptE tv tl * (Ow 100 5 ev5 ev el * R)))) w0 F0 w' → At (WA wb rb vp cl tl el bad * R) w0 F0 w' := fun w' h => wa_shut h
  refine rets_of Tryz.func167 rfl Tryz.ntmps167 rfl rfl (by kernel_rfl) ?_
  cases bad with
  | true =>
    (apply vC_region; (iterate 11 (first | ((with_reducible apply vL_val); (case h => ((with_reducible apply opv_E); exact rfl))) | ((with_reducible apply vL_val); (case h => ((with_reducible apply opv_loadb1); exact rfl; exact rfl; assumption; exact rfl))) | ((with_reducible apply vL_val); (case h => ((with_reducible apply opv_fieldAddr); exact rfl))) | ((with_reducible apply vL_unwanted'); exact rfl; exact rfl))); ((apply vL_skip); (case h => ((apply ops_store1); exact norm_eq rfl; exact norm_eq rfl; (first | rfl | assumption); assumption; (first | decide | exact of_decide_eq_true rfl | (simp; done))))); apply vL_nil)
    (first | apply ret0 | apply ret0n)
    exact fin _ S1.set
  | false =>
    (apply vC_region; (iterate 13 (first | ((with_reducible apply vL_val); (case h => ((with_reducible apply opv_E); exact rfl))) | ((with_reducible apply vL_val); (case h => ((with_reducible apply opv_loadb1); exact rfl; exact rfl; assumption; exact rfl))) | ((with_reducible apply vL_val); (case h => ((with_reducible apply opv_fieldAddr); exact rfl))) | ((with_reducible apply vL_wanted); exact rfl))); ((apply vL_skip); (case h => ((apply ops_store1); exact norm_eq rfl; exact norm_eq rfl; (first | rfl | assumption); assumption; (first | decide | exact of_decide_eq_true rfl | (simp; done))))); apply vL_nil)
    (first | apply ret0 | apply ret0n)
    exact fin _ S1.set
theorem w_needP [Lcl R] {cv tv ev : Value} (S1 : At (Pt wb [pt rb, vp, cv, tv, ev, .bool bad] 61 * R) w0 F0 w) (h1 : vp.oneCell' = true) : Rets Tryz.prog 167 #[pt wb, .int .i64 0] w fun _ w' => At (Pt wb [pt rb, vp, cv, tv, ev, .bool bad] 61 * R) w0 F0 w' := by
  have hb := S1.blk
  refine rets_of Tryz.func167 rfl Tryz.ntmps167 rfl rfl (by kernel_rfl) ?_
  cases bad with
  | true =>
    (apply vC_region; (iterate 11 (first | ((with_reducible apply vL_val); (case h => ((with_reducible apply opv_E); exact rfl))) | ((with_reducible apply vL_val); (case h => ((with_reducible apply opv_loadb1); exact rfl; exact rfl; assumption; exact rfl))) | ((with_reducible apply vL_val); (case h => ((with_reducible apply opv_fieldAddr); exact rfl))) | ((with_reducible apply vL_unwanted'); exact rfl; exact rfl))); ((apply vL_skip); (case h => ((apply ops_store1); exact norm_eq rfl; exact norm_eq rfl; (first | rfl | assumption); assumption; (first | decide | exact of_decide_eq_true rfl | (simp; done))))); apply vL_nil)
    (first | apply ret0 | apply ret0n)
    exact S1.set
  | false =>
    (apply vC_region; (iterate 13 (first | ((with_reducible apply vL_val); (case h => ((with_reducible apply opv_E); exact rfl))) | ((with_reducible apply vL_val); (case h => ((with_reducible apply opv_loadb1); exact rfl; exact rfl; assumption; exact rfl))) | ((with_reducible apply vL_val); (case h => ((with_reducible apply opv_fieldAddr); exact rfl))) | ((with_reducible apply vL_wanted); exact rfl))); ((apply vL_skip); (case h => ((apply ops_store1); exact norm_eq rfl; exact norm_eq rfl; (first | rfl | assumption); assumption; (first | decide | exact of_decide_eq_true rfl | (simp; done))))); apply vL_nil)
    (first | apply ret0 | apply ret0n)
    exact S1.set
end
end Go.Proofs.YtbaidcnalkdhgaaGreat
