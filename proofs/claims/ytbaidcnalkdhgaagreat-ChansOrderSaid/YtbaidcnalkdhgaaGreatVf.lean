/- Layers 15, 16: the plain world: what can be read. Layer 16: the law's world: what it holds; its closures. Layer 16: the closures of the law's world call its turn. Layer 16: the law's world: need; an event is told. Layer 16: a turn of the law's world: the walk. -/
import Derived.Test.YtbaidcnalkdhgaaGreatVa
import Derived.Test.YtbaidcnalkdhgaaGreatEz
set_option maxRecDepth 100000
namespace Go.Proofs.YtbaidcnalkdhgaaGreat
open Go Go.Eng
section
variable {κ : Type} {L : LawP κ} {q : Q16} {nowi : Option Nat} {kb : List Bx} {S : PS κ} {i : Nat} {x : Nat × TK} {g0 : Gh} {rb : Nat} {rest : Int} {w0 w : World} {F0 : Nat → Prop} {R : Asr}
def PS.parkedL (S : PS κ) : List Int := ((List.range S.sts.length).filter fun i => (S.sts[i]?).elim false St.parked).map fun (n : Nat) => (n : Int)
def C16.canS (d : C16) : Bool := d.closed || (!d.rcv.isEmpty || decide ((d.buf.length : Int) < d.size))
def C16.canR (d : C16) : Bool := d.closed || (!d.buf.isEmpty || !d.snd.isEmpty)
theorem pw_len [Lcl R] (S1 : At (PWA L rb nowi rest kb S * R) w0 F0 w) {j : Nat} {d : C16} (hd : S.cs[j]? = some d) : Rets Tryz.prog 26 #[pt d.cb] w fun u w' => w = w' ∧ u = .int .i64 d.buf.length := by
  obtain ⟨q, hp, S2⟩ := pw_open S1
  obtain ⟨c, hc⟩ := hp.cget hd
  have r := hp.ch j c d hc hd
  have := ch_len_i (S2.ac (po_eq hc))
  rw [r.cb, r.buf] at this
  exact this
theorem pw_cap [Lcl R] (S1 : At (PWA L rb nowi rest kb S * R) w0 F0 w) {j : Nat} {d : C16} (hd : S.cs[j]? = some d) : Rets Tryz.prog 81 #[pt d.cb] w fun u w' => w = w' ∧ u = .int .i64 d.size := by
  obtain ⟨q, hp, S2⟩ := pw_open S1
  obtain ⟨c, hc⟩ := hp.cget hd
  have r := hp.ch j c d hc hd
  have := ch_cap_i (S2.ac (po_eq hc))
  rw [r.cb, r.size] at this
  exact this
theorem pw_closed [Lcl R] (S1 : At (PWA L rb nowi rest kb S * R) w0 F0 w) {j : Nat} {d : C16} (hd : S.cs[j]? = some d) : Rets Tryz.prog 31 #[pt d.cb] w fun u w' => w = w' ∧ u = .bool d.closed := by
  obtain ⟨q, hp, S2⟩ := pw_open S1
  obtain ⟨c, hc⟩ := hp.cget hd
  have r := hp.ch j c d hc hd
  have := ch_closed_i (S2.ac (po_eq hc))
  rw [r.cb, r.closed] at this
  exact this
theorem pw_waits [Lcl R] (S1 : At (PWA L rb nowi rest kb S * R) w0 F0 w) {j : Nat} {d : C16} (hd : S.cs[j]? = some d) : Rets Tryz.prog 25 #[pt d.cb] w fun u w' => u = .tuple #[.int .i64 d.snd.length, .int .i64 d.rcv.length] ∧ At (PWA L rb nowi rest kb S * R) w0 F0 w' := by
  obtain ⟨q, hp, S2⟩ := pw_open S1
  obtain ⟨c, hc⟩ := hp.cget hd
  have r := hp.ch j c d hc hd
  obtain ⟨hcl, m1, m2⟩ := hp.ent hc hd
  have := ch_waits_i (S2.ac (po_eq hc)) m1 m2
  rw [hcl, r.cb, r.snd.1, r.rcv.1] at this
  exact this.mono fun u w' ⟨h1, h2⟩ => ⟨h1, pw_shut hp (h2.ac (po_eq hc).symm)⟩
theorem zip_empty {α β : Type} {Q : α → β → Prop} {l : List α} {l' : List β} (h : Zip Q l l') : l.isEmpty = l'.isEmpty := by
  have := h.1
  cases l <;> cases l' <;> first | rfl | (simp at this)
theorem pw_can [Lcl R] (S1 : At (PWA L rb nowi rest kb S * R) w0 F0 w) {j : Nat} {d : C16} (hd : S.cs[j]? = some d) : Rets Tryz.prog 79 #[pt d.cb] w fun u w' => u = .tuple #[.bool d.canS, .bool d.canR] ∧ At (PWA L rb nowi rest kb S * R) w0 F0 w' := by
  obtain ⟨q, hp, S2⟩ := pw_open S1
  obtain ⟨c, hc⟩ := hp.cget hd
  have r := hp.ch j c d hc hd
  obtain ⟨hcl, m1, m2⟩ := hp.ent hc hd
  have := ch_can_i (S2.ac (po_eq hc)) m1 m2
  have e1 : canS c = d.canS := by unfold canS C16.canS; rw [r.closed, r.buf, r.size, zip_empty r.rcv]
  have e2 : canR c = d.canR := by unfold canR C16.canR; rw [r.closed, r.buf, zip_empty r.snd]
  rw [hcl, r.cb, e1, e2] at this
  exact this.mono fun u w' ⟨h1, h2⟩ => ⟨h1, pw_shut hp (h2.ac (po_eq hc).symm)⟩
theorem pw_ready [Lcl R] (S1 : At (PWA L rb nowi rest kb S * R) w0 F0 w) : Rets Tryz.prog 51 #[pt rb] w fun u w' => At (Ow 3 1 iE u S.line * (PWA L rb nowi rest kb S * R)) w0 F0 w' := by
  obtain ⟨q, hp, S2⟩ := pw_open S1
  have hl := hp.line_len
  refine (readyA S2 (by omega)).mono fun u w' h => ?_
  have := pw_shut (R := Ow 3 1 iE u S.line * R) hp (h.ac (by ac_rfl))
  exact this.ac (by ac_rfl)
theorem pw_parkedL (hp : PRel L q nowi kb S) : parkedIn q.ts q.ts.length = S.parkedL := by
  unfold parkedIn PS.parkedL
  rw [hp.lt]
  congr 1
  refine List.filter_congr (fun m hm => ?_)
  have hm := List.mem_range.1 hm
  obtain ⟨s, hs⟩ : ∃ s, S.sts[m]? = some s := ⟨_, List.getElem?_eq_getElem hm⟩
  obtain ⟨x, g, hx, hg⟩ := hp.xs hs
  rw [hx, hs]
  exact (hp.tk m x g s hx hg hs).2.1
theorem pw_parked [Lcl R] (S1 : At (PWA L rb nowi rest kb S * R) w0 F0 w) : Rets Tryz.prog 105 #[pt rb] w fun u w' => At (Ow 3 1 iE u S.parkedL * (PWA L rb nowi rest kb S * R)) w0 F0 w' := by
  obtain ⟨q, hp, S2⟩ := pw_open S1
  have hl := hp.lt
  have hf := hp.few
  refine (parkedA S2 (by omega)).mono fun u w' h => ?_
  rw [pw_parkedL hp] at h
  have := pw_shut (R := Ow 3 1 iE u S.parkedL * R) hp (h.ac (by ac_rfl))
  exact this.ac (by ac_rfl)
theorem pw_over [Lcl R] (S1 : At (PWA L rb nowi rest kb S * R) w0 F0 w) {tb : Nat} {s : St κ} (hs : S.sts[i]? = some s) (ht : S.tbs[i]? = some tb) : Rets Tryz.prog 106 #[pt tb] w fun u w' => w = w' ∧ u = .bool s.isOver := by
  obtain ⟨q, hp, S2⟩ := pw_open S1
  obtain ⟨x, g0, hx, hg⟩ := hp.xs hs
  have hxt : x.1 = tb := by
    rw [hp.tbs, List.getElem?_map, hx] at ht
    exact Option.some.inj ht
  subst hxt
  rw [← (hp.tk i x g0 s hx hg hs).2.2]
  exact t_over (S2.task hx)
theorem pw_id [Lcl R] (S1 : At (PWA L rb nowi rest kb S * R) w0 F0 w) {tb : Nat} (ht : S.tbs[i]? = some tb) : Rets Tryz.prog 165 #[pt tb] w fun u w' => w = w' ∧ u = .int .i64 i := by
  obtain ⟨q, hp, S2⟩ := pw_open S1
  rw [hp.tbs, List.getElem?_map] at ht
  cases hx : q.ts[i]? with
  | none => rw [hx] at ht; cases ht
  | some x =>
    rw [hx] at ht
    cases ht
    exact idA S2 hx
end
end Go.Proofs.YtbaidcnalkdhgaaGreat
set_option maxRecDepth 100000
namespace Go.Proofs.YtbaidcnalkdhgaaGreat
open Go Go.Eng
/-- what is told; an event -/
structure To where
  c : Int
  v : Int
  ok : Bool
def toV (x : To) : Value := .agg #[.int .i64 x.c, .int .i64 x.v, .bool x.ok]
structure Ev5 where
  t : Int
  a : Int
  c : Int
  v : Int
  ok : Bool
def ev5 (x : Ev5) : List Value := [.int .i64 x.t, .int .i64 x.a, .int .i64 x.c, .int .i64 x.v, .bool x.ok]
instance encEv5 : EncOk ev5 5 := ⟨by intro x u h; simp [ev5] at h; rcases h with rfl | rfl | rfl | rfl | rfl <;> rfl, fun _ => rfl⟩
structure Do5 where
  k : Int
  c : Int
  v : Int
  cs : OV
  df : Bool
def do5 (x : Do5) : List Value := [.int .i64 x.k, .int .i64 x.c, .int .i64 x.v, x.cs.1, .bool x.df]
instance encDo5 : EncOk do5 5 := ⟨by intro x u h; simp [do5] at h; rcases h with rfl | rfl | rfl | rfl | rfl <;> first | rfl | exact x.cs.2, fun _ => rfl⟩
def do0 : Do5 := ⟨0, 0, 0, ⟨.slice none 0 0, rfl⟩, false⟩
def WA (wb rb : Nat) (vp : Value) (cl tl : List Nat) (el : List Ev5) (bad : Bool) : Asr :=
  Ex fun cv : Value => Ex fun tv : Value => Ex fun ev : Value => Pt wb [pt rb, vp, cv, tv, ev, .bool bad] 61 * (Ow 28 1 ptE cv cl * (Ow 34 1 ptE tv tl * Ow 100 5 ev5 ev el))
instance instLclWA (wb rb : Nat) (vp : Value) (cl tl : List Nat) (el : List Ev5) (bad : Bool) : Lcl (WA wb rb vp cl tl el bad) := by unfold WA; infer_instance
section
variable {w w0 : World} {F0 : Nat → Prop} {R : Asr} {wb rb : Nat} {vp : Value} {cl tl : List Nat} {el : List Ev5} {bad : Bool}
theorem wa_open (S : At (WA wb rb vp cl tl el bad * R) w0 F0 w) : ∃ cv tv ev, At (Pt wb [pt rb, vp, cv, tv, ev, .bool bad] 61 * (Ow 28 1 ptE cv cl * (Ow 34 1 ptE tv tl * (Ow 100 5 ev5 ev el * R)))) w0 F0 w := by
  unfold WA at S
  obtain ⟨cv, S⟩ := S.ex
  obtain ⟨tv, S⟩ := S.ex
  obtain ⟨ev, S⟩ := S.ex
  exact ⟨cv, tv, ev, S.ac (by ac_rfl)⟩
theorem wa_shut {cv tv ev : Value} (S : At (Pt wb [pt rb, vp, cv, tv, ev, .bool bad] 61 * (Ow 28 1 ptE cv cl * (Ow 34 1 ptE tv tl * (Ow 100 5 ev5 ev el * R)))) w0 F0 w) : At (WA wb rb vp cl tl el bad * R) w0 F0 w := by
  unfold WA
  refine At.intro cv (At.intro tv (At.intro ev ?_))
  exact S.ac (by ac_rfl)
end
/-- where a task stands: its block, its program, what comes next, what will be told -/
structure K16 where
  tb : Nat
  prog : Nat
  pos : Nat
  told : To
/-- the boxes of what goes on behind a turn -/
def Nx (wb : Nat) (k : K16) (kb : List Bx) (nb : Nat) : Prop := ∃ b5 b6 b7 b8 : Nat, (nb, [.func (.func 166) #[] #[pt b5, pt b6, pt b7, pt b8]], 234) ∈ kb ∧ (b5, [pt wb], 53) ∈ kb ∧ (b6, [pt k.tb], 34) ∈ kb ∧ (b7, [.int .i64 k.prog], 3) ∈ kb ∧ (b8, [.int .i64 ((k.pos : Int) - 1)], 3) ∈ kb ∧ 1 ≤ k.pos
theorem Nx.mono {wb : Nat} {k : K16} {kb kb' : List Bx} {nb : Nat} (h : ∀ b ∈ kb, b ∈ kb') (n : Nx wb k kb nb) : Nx wb k kb' nb := by
  obtain ⟨b5, b6, b7, b8, h1, h2, h3, h4, h5, h6⟩ := n
  exact ⟨b5, b6, b7, b8, h _ h1, h _ h2, h _ h3, h _ h4, h _ h5, h6⟩
inductive Yd16 (wb : Nat) (k : K16) (kb : List Bx) : Value → Prop where
  | born (fb tx wx px : Nat) : (fb, [.func (.func 107) #[] #[pt wx, pt px]], 37) ∈ kb → (tx, [pt k.tb], 34) ∈ kb → (wx, [pt wb], 53) ∈ kb → (px, [.int .i64 k.prog], 3) ∈ kb → k.pos = 0 → k.told = ⟨0, 0, false⟩ → Yd16 wb k kb (.func (.func 98) #[] #[pt fb, pt tx])
  | y2 (nb : Nat) : Nx wb k kb nb → k.told = ⟨0, 0, false⟩ → Yd16 wb k kb (.func (.func 169) #[] #[pt nb])
  | y5 (nb eb : Nat) (e : Int) : Nx wb k kb nb → (eb, [.int .i64 e], 29) ∈ kb → k.told = ⟨0, 0, decide (e = 0)⟩ → Yd16 wb k kb (.func (.func 172) #[] #[pt nb, pt eb])
  | y6 (nb ob : Nat) (ok : Bool) : Nx wb k kb nb → (ob, [.bool ok], 4) ∈ kb → k.told = ⟨0, 0, ok⟩ → Yd16 wb k kb (.func (.func 173) #[] #[pt nb, pt ob])
  | y7 (nb ob : Nat) : Nx wb k kb nb → (ob, [.int .i64 k.told.c, .int .i64 k.told.v, .bool k.told.ok], 171) ∈ kb → Yd16 wb k kb (.func (.func 174) #[] #[pt nb, pt ob])
def L16 (wb : Nat) : LawP K16 where
  th := fun k kb v => ∃ nb, Nx wb k kb nb ∧ v = .func (.func 170) #[] #[pt nb]
  tr := fun k kb v => ∃ nb, Nx wb k kb nb ∧ v = .func (.func 171) #[] #[pt nb]
  yd := fun k t kb v => k.tb = t ∧ Yd16 wb k kb v
  xd := fun _ _ _ _ => False
  mth := fun h ⟨nb, n, e⟩ => ⟨nb, n.mono h, e⟩
  mtr := fun h ⟨nb, n, e⟩ => ⟨nb, n.mono h, e⟩
  myd := fun h ⟨e, y⟩ => ⟨e, by
    cases y with
    | born fb tx wx px h1 h2 h3 h4 h5 h6 => exact .born fb tx wx px (h _ h1) (h _ h2) (h _ h3) (h _ h4) h5 h6
    | y2 nb n e => exact .y2 nb (n.mono h) e
    | y5 nb eb e n h1 h2 => exact .y5 nb eb e (n.mono h) (h _ h1) h2
    | y6 nb ob ok n h1 h2 => exact .y6 nb ob ok (n.mono h) (h _ h1) h2
    | y7 nb ob n h1 => exact .y7 nb ob (n.mono h) (h _ h1)⟩
  mxd := fun h e => e
end Go.Proofs.YtbaidcnalkdhgaaGreat
set_option maxRecDepth 100000
namespace Go.Proofs.YtbaidcnalkdhgaaGreat
open Go Go.Eng
def TurnC (wb tb : Nat) (prog pos : Int) (x : To) (w : World) (Q : World → Prop) : Prop := ∀ w', Fr No w w' → Rets Tryz.prog 108 #[pt wb, pt tb, .int .i64 prog, .int .i64 pos, toV x] w' fun _ w'' => Q w''
section
variable {w : World} {wb tb nb b5 b6 b7 b8 : Nat} {prog pos : Int} {Q : World → Prop}
theorem TurnC.fr {x : To} {w' : World} (h : TurnC wb tb prog pos x w Q) (hf : Fr No w w') : TurnC wb tb prog pos x w' Q := fun w2 h2 => h w2 (hf.trans h2)
theorem turn1_calls {x : To} (h5 : Blk w.heap b5 [pt wb] 53) (h6 : Blk w.heap b6 [pt tb] 34) (h7 : Blk w.heap b7 [.int .i64 prog] 3) (h8 : Blk w.heap b8 [.int .i64 (pos - 1)] 3) (hb : -1000000000 ≤ pos ∧ pos ≤ 1000000000) (h : TurnC wb tb prog pos x w Q) :
    Rets Tryz.prog 166 #[toV x, pt b5, pt b6, pt b7, pt b8] w fun _ w' => Q w' := by
  unfold toV
  refine rets_of Tryz.func166 rfl Tryz.ntmps166 rfl rfl (by kernel_rfl) ?_
  (apply vC_seq; apply vC_region; ((apply vL_val); (case h => ((apply opw_boxn); exact rfl))); apply vL_nil; apply seqP_normal; apply vC_region; (iterate 4 (((apply vL_val); (case h => ((apply opv_loadb1); exact rfl; exact rfl; infer_instance; exact rfl))))); ((apply vL_val); (case h => ((apply opv_add); exact rfl; exact rfl; (first | omega | (simp only [List.length_map]; omega))))); ((apply vL_val); (case h => ((apply opv_loadbC); exact rfl; exact rfl; infer_instance; exact (rfl : _ = [_, _, _]); exact rfl))))
  rw [show pos - 1 + 1 = pos by omega]
  refine vL_callF rfl (h _ (by (apply Fr.alloc; exact Fr.refl _ _))) rfl ?_
  intro _ w1 hq
  (apply vL_nil)
  (first | apply ret0 | apply ret0n)
  exact hq
/-- the boxes of a next -/
structure NxB (w : World) (wb tb nb b5 b6 b7 b8 : Nat) (prog pos : Int) : Prop where
  hn : Blk w.heap nb [.func (.func 166) #[] #[pt b5, pt b6, pt b7, pt b8]] 234
  h5 : Blk w.heap b5 [pt wb] 53
  h6 : Blk w.heap b6 [pt tb] 34
  h7 : Blk w.heap b7 [.int .i64 prog] 3
  h8 : Blk w.heap b8 [.int .i64 (pos - 1)] 3
  hb : -1000000000 ≤ pos ∧ pos ≤ 1000000000
theorem turn2_calls (n : NxB w wb tb nb b5 b6 b7 b8 prog pos) (h : TurnC wb tb prog pos ⟨0, 0, false⟩ w Q) : Rets Tryz.prog 169 #[pt nb] w fun _ w' => Q w' := by
  have hn := n.hn
  have hc := turn1_calls n.h5 n.h6 n.h7 n.h8 n.hb h
  unfold toV at hc
  refine rets_of Tryz.func169 rfl Tryz.ntmps169 rfl rfl (by kernel_rfl) ?_
  (apply vC_region; ((apply vL_val); (case h => ((apply opv_loadb1); exact rfl; exact rfl; assumption; exact rfl))); ((apply vL_val); (case h => ((apply opv_buildS); exact rfl; exact (rfl : _ = some [_, _, _])))))
  refine vL_callF rfl (hc) rfl ?_
  intro _ w1 hq
  (apply vL_nil)
  (first | apply ret0 | apply ret0n)
  exact hq
theorem turn3_calls {ok : Bool} (n : NxB w wb tb nb b5 b6 b7 b8 prog pos) (h : TurnC wb tb prog pos ⟨0, 0, ok⟩ w Q) : Rets Tryz.prog 170 #[.bool ok, pt nb] w fun _ w' => Q w' := by
  have hn := n.hn
  have hc := turn1_calls n.h5 n.h6 n.h7 n.h8 n.hb h
  unfold toV at hc
  refine rets_of Tryz.func170 rfl Tryz.ntmps170 rfl rfl (by kernel_rfl) ?_
  (apply vC_region; ((apply vL_val); (case h => ((apply opv_loadb1); exact rfl; exact rfl; assumption; exact rfl))); ((apply vL_val); (case h => ((apply opv_E); exact rfl))); ((apply vL_val); (case h => ((apply opv_buildS); exact rfl; exact (rfl : _ = some [_, _, _])))))
  refine vL_callF rfl (hc) rfl ?_
  intro _ w1 hq
  (apply vL_nil)
  (first | apply ret0 | apply ret0n)
  exact hq
theorem turn4_calls {v : Int} {ok : Bool} (n : NxB w wb tb nb b5 b6 b7 b8 prog pos) (h : TurnC wb tb prog pos ⟨0, v, ok⟩ w Q) : Rets Tryz.prog 171 #[.int .i64 v, .bool ok, pt nb] w fun _ w' => Q w' := by
  have hn := n.hn
  have hc := turn1_calls n.h5 n.h6 n.h7 n.h8 n.hb h
  unfold toV at hc
  refine rets_of Tryz.func171 rfl Tryz.ntmps171 rfl rfl (by kernel_rfl) ?_
  (apply vC_region; ((apply vL_val); (case h => ((apply opv_loadb1); exact rfl; exact rfl; assumption; exact rfl))); (iterate 2 (((apply vL_val); (case h => ((apply opv_E); exact rfl))))); ((apply vL_val); (case h => ((apply opv_buildS); exact rfl; exact (rfl : _ = some [_, _, _])))))
  refine vL_callF rfl (hc) rfl ?_
  intro _ w1 hq
  (apply vL_nil)
  (first | apply ret0 | apply ret0n)
  exact hq
theorem turn5_calls {eb : Nat} {e : Int} (n : NxB w wb tb nb b5 b6 b7 b8 prog pos) (he : Blk w.heap eb [.int .i64 e] 29) (h : TurnC wb tb prog pos ⟨0, 0, decide (e = 0)⟩ w Q) : Rets Tryz.prog 172 #[pt nb, pt eb] w fun _ w' => Q w' := by
  have hn := n.hn
  have hc := turn1_calls n.h5 n.h6 n.h7 n.h8 n.hb h
  unfold toV at hc
  refine rets_of Tryz.func172 rfl Tryz.ntmps172 rfl rfl (by kernel_rfl) ?_
  (apply vC_region; (iterate 2 (((apply vL_val); (case h => ((apply opv_loadb1); exact rfl; exact rfl; assumption; exact rfl))))); ((apply vL_val); (case h => ((apply opv_E); exact rfl))); ((apply vL_val); (case h => ((apply opv_buildS); exact rfl; exact (rfl : _ = some [_, _, _])))))
  refine vL_callF rfl (hc) rfl ?_
  intro _ w1 hq
  (apply vL_nil)
  (first | apply ret0 | apply ret0n)
  exact hq
theorem turn6_calls {ob : Nat} {ok : Bool} (n : NxB w wb tb nb b5 b6 b7 b8 prog pos) (he : Blk w.heap ob [.bool ok] 4) (h : TurnC wb tb prog pos ⟨0, 0, ok⟩ w Q) : Rets Tryz.prog 173 #[pt nb, pt ob] w fun _ w' => Q w' := by
  have hn := n.hn
  have hc := turn1_calls n.h5 n.h6 n.h7 n.h8 n.hb h
  unfold toV at hc
  refine rets_of Tryz.func173 rfl Tryz.ntmps173 rfl rfl (by kernel_rfl) ?_
  (apply vC_region; (iterate 2 (((apply vL_val); (case h => ((apply opv_loadb1); exact rfl; exact rfl; assumption; exact rfl))))); ((apply vL_val); (case h => ((apply opv_buildS); exact rfl; exact (rfl : _ = some [_, _, _])))))
  refine vL_callF rfl (hc) rfl ?_
  intro _ w1 hq
  (apply vL_nil)
  (first | apply ret0 | apply ret0n)
  exact hq
theorem turn7_calls {ob : Nat} {x : To} (n : NxB w wb tb nb b5 b6 b7 b8 prog pos) (he : Blk w.heap ob [.int .i64 x.c, .int .i64 x.v, .bool x.ok] 171) (h : TurnC wb tb prog pos x w Q) : Rets Tryz.prog 174 #[pt nb, pt ob] w fun _ w' => Q w' := by
  have hn := n.hn
  have hc := turn1_calls n.h5 n.h6 n.h7 n.h8 n.hb h
  unfold toV at hc
  refine rets_of Tryz.func174 rfl Tryz.ntmps174 rfl rfl (by kernel_rfl) ?_
  (apply vC_region; ((apply vL_val); (case h => ((apply opv_loadb1); exact rfl; exact rfl; assumption; exact rfl))); ((apply vL_val); (case h => ((apply opv_loadbC); exact rfl; exact rfl; assumption; exact (rfl : _ = [_, _, _]); exact rfl))))
  refine vL_callF rfl (hc) rfl ?_
  intro _ w1 hq
  (apply vL_nil)
  (first | apply ret0 | apply ret0n)
  exact hq
theorem begun1_calls {wx px : Nat} (hw : Blk w.heap wx [pt wb] 53) (hp : Blk w.heap px [.int .i64 prog] 3) (h : TurnC wb tb prog 0 ⟨0, 0, false⟩ w Q) : Rets Tryz.prog 107 #[pt tb, pt wx, pt px] w fun _ w' => Q w' := by
  have hc := h w (Fr.refl _ _)
  unfold toV at hc
  refine rets_of Tryz.func107 rfl Tryz.ntmps107 rfl rfl (by kernel_rfl) ?_
  (apply vC_region; ((apply vL_val); (case h => ((apply opv_loadb1); exact rfl; exact rfl; assumption; exact rfl))); ((apply vL_val); (case h => ((apply opv_E); exact rfl))); ((apply vL_val); (case h => ((apply opv_loadb1); exact rfl; exact rfl; assumption; exact rfl))); ((apply vL_val); (case h => ((apply opv_buildS); exact rfl; exact (rfl : _ = some [_, _, _])))))
  refine vL_callF rfl (hc) rfl ?_
  intro _ w1 hq
  (apply vL_nil)
  (first | apply ret0 | apply ret0n)
  exact hq
end
end Go.Proofs.YtbaidcnalkdhgaaGreat
set_option maxRecDepth 100000
namespace Go.Proofs.YtbaidcnalkdhgaaGreat
open Go Go.Eng
section
variable {w w0 : World} {F0 : Nat → Prop} {R : Asr} {wb rb : Nat} {vp : Value} {cl tl : List Nat} {el : List Ev5} {bad : Bool}
theorem w_need [Lcl R] (S : At (WA wb rb vp cl tl el bad * R) w0 F0 w) : Rets Tryz.prog 167 #[pt wb, .int .i64 0] w fun _ w' => At (WA wb rb vp cl tl el bad * R) w0 F0 w' := by
  obtain ⟨cv, tv, ev, S1⟩ := wa_open S
  have hb := S1.blk
  have fin : ∀ w', At (Pt wb [pt rb, vp, cv, tv, ev, .bool bad] 61 * (Ow 28 1 ptE cv cl * (Ow 34 1 ptE tv tl * (Ow 100 5 ev5 ev el * R)))) w0 F0 w' → At (WA wb rb vp cl tl el bad * R) w0 F0 w' := fun w' h => wa_shut h
  refine rets_of Tryz.func167 rfl Tryz.ntmps167 rfl rfl (by kernel_rfl) ?_
  cases bad with
  | true =>
    (apply vC_region; (iterate 11 (first | ((with_reducible apply vL_val); (case h => ((with_reducible apply opv_E); exact rfl))) | ((with_reducible apply vL_val); (case h => ((with_reducible apply opv_loadb1); exact rfl; exact rfl; assumption; exact rfl))) | ((with_reducible apply vL_val); (case h => ((with_reducible apply opv_fieldAddr); exact rfl))) | ((with_reducible apply vL_unwanted'); exact rfl; exact rfl))); ((apply vL_skip); (case h => ((apply ops_store1); exact norm_eq rfl; exact norm_eq rfl; (first | rfl | assumption); assumption; (first | decide | exact of_decide_eq_true rfl | (simp; done))))); apply vL_nil)
    (first | apply ret0 | apply ret0n)
    exact fin _ S1.set
  | false =>
    (apply vC_region; (iterate 13 (first | ((with_reducible apply vL_val); (case h => ((with_reducible apply opv_E); exact rfl))) | ((with_reducible apply vL_val); (case h => ((with_reducible apply opv_loadb1); exact rfl; exact rfl; assumption; exact rfl))) | ((with_reducible apply vL_val); (case h => ((with_reducible apply opv_fieldAddr); exact rfl))) | ((with_reducible apply vL_wanted); exact rfl))); ((apply vL_skip); (case h => ((apply ops_store1); exact norm_eq rfl; exact norm_eq rfl; (first | rfl | assumption); assumption; (first | decide | exact of_decide_eq_true rfl | (simp; done))))); apply vL_nil)
    (first | apply ret0 | apply ret0n)
    exact fin _ S1.set
theorem w_needP [Lcl R] {cv tv ev : Value} (S1 : At (Pt wb [pt rb, vp, cv, tv, ev, .bool bad] 61 * R) w0 F0 w) (h1 : vp.oneCell' = true) : Rets Tryz.prog 167 #[pt wb, .int .i64 0] w fun _ w' => At (Pt wb [pt rb, vp, cv, tv, ev, .bool bad] 61 * R) w0 F0 w' := by
  have hb := S1.blk
  refine rets_of Tryz.func167 rfl Tryz.ntmps167 rfl rfl (by kernel_rfl) ?_
  cases bad with
  | true =>
    (apply vC_region; (iterate 11 (first | ((with_reducible apply vL_val); (case h => ((with_reducible apply opv_E); exact rfl))) | ((with_reducible apply vL_val); (case h => ((with_reducible apply opv_loadb1); exact rfl; exact rfl; assumption; exact rfl))) | ((with_reducible apply vL_val); (case h => ((with_reducible apply opv_fieldAddr); exact rfl))) | ((with_reducible apply vL_unwanted'); exact rfl; exact rfl))); ((apply vL_skip); (case h => ((apply ops_store1); exact norm_eq rfl; exact norm_eq rfl; (first | rfl | assumption); assumption; (first | decide | exact of_decide_eq_true rfl | (simp; done))))); apply vL_nil)
    (first | apply ret0 | apply ret0n)
    exact S1.set
  | false =>
    (apply vC_region; (iterate 13 (first | ((with_reducible apply vL_val); (case h => ((with_reducible apply opv_E); exact rfl))) | ((with_reducible apply vL_val); (case h => ((with_reducible apply opv_loadb1); exact rfl; exact rfl; assumption; exact rfl))) | ((with_reducible apply vL_val); (case h => ((with_reducible apply opv_fieldAddr); exact rfl))) | ((with_reducible apply vL_wanted); exact rfl))); ((apply vL_skip); (case h => ((apply ops_store1); exact norm_eq rfl; exact norm_eq rfl; (first | rfl | assumption); assumption; (first | decide | exact of_decide_eq_true rfl | (simp; done))))); apply vL_nil)
    (first | apply ret0 | apply ret0n)
    exact S1.set
end
end Go.Proofs.YtbaidcnalkdhgaaGreat
set_option maxRecDepth 100000
namespace Go.Proofs.YtbaidcnalkdhgaaGreat
open Go Go.Eng
structure Pz16 (h : Array Obj) (vp : Value) (P : List (OV × List Do5)) : Prop where
  hP : Rd h 1 oE vp P
  hPi : ∀ y ∈ P, Rd h 5 do5 y.1.1 y.2
  one : vp.oneCell' = true
theorem Pz16.frN {w w' : World} {vp : Value} {P : List (OV × List Do5)} (z : Pz16 w.heap vp P) (hf : Fr No w w') : Pz16 w'.heap vp P :=
  ⟨z.hP.frN hf, fun y hy => (z.hPi y hy).frN hf, z.one⟩
def k16 (tb prog pos : Nat) (x : To) : K16 := ⟨tb, prog, pos + 1, x⟩
def act16 (S : PS K16) (i tb prog pos : Nat) (d : Do5) : PS K16 :=
  if d.k = 1 then S.yield i (k16 tb prog pos ⟨0, 0, false⟩)
  else if d.k = 2 then S.send i d.c.toNat d.v (k16 tb prog pos ⟨0, 0, false⟩)
  else if d.k = 3 then S.recv i d.c.toNat (k16 tb prog pos ⟨0, 0, false⟩)
  else if d.k = 4 then (S.close d.c.toNat).1.yield i (k16 tb prog pos ⟨0, 0, (S.close d.c.toNat).2⟩)
  else if d.k = 6 then (S.trySend d.c.toNat d.v).1.yield i (k16 tb prog pos ⟨0, 0, (S.trySend d.c.toNat d.v).2.1⟩)
  else if d.k = 7 then (S.tryRecv d.c.toNat).1.yield i (k16 tb prog pos ⟨if (S.tryRecv d.c.toNat).2.2.2 then 0 else 1, (S.tryRecv d.c.toNat).2.1, (S.tryRecv d.c.toNat).2.2.1⟩)
  else S
section
variable {κ : Type} {S : PS κ} {i : Nat} {s : St κ}
theorem allR_keep (l : List Nat) : ∀ {S : PS κ}, S.sts[i]? = some s → s.waits = false → (S.allR l).sts[i]? = some s ∧ (S.allR l).tbs = S.tbs := by
  induction l with
  | nil => exact fun h _ => ⟨h, rfl⟩
  | cons m r ih =>
    intro S h hw
    obtain ⟨h1, h2⟩ := ih (S := S.wokeR m 0 false) (wokeR_keep h hw) hw
    exact ⟨h1, h2.trans (wokeR_tbs _ _ _ _)⟩
theorem allS_keep (l : List Nat) : ∀ {S : PS κ}, S.sts[i]? = some s → s.waits = false → (S.allS l).sts[i]? = some s ∧ (S.allS l).tbs = S.tbs := by
  induction l with
  | nil => exact fun h _ => ⟨h, rfl⟩
  | cons m r ih =>
    intro S h hw
    obtain ⟨h1, h2⟩ := ih (S := S.wokeS m false) (wokeS_keep h hw) hw
    exact ⟨h1, h2.trans (wokeS_tbs _ _ _)⟩
theorem close_keep (j : Nat) (h : S.sts[i]? = some s) (hw : s.waits = false) : (S.close j).1.sts[i]? = some s ∧ (S.close j).1.tbs = S.tbs := by
  unfold PS.close
  split
  · exact ⟨h, rfl⟩
  · rename_i d hd
    split
    · exact ⟨h, rfl⟩
    · unfold PS.ends
      obtain ⟨h1, h2⟩ := allR_keep (i := i) (s := s) d.rcv (S := S.setC j { d with closed := true, snd := [], rcv := [] }) h hw
      obtain ⟨h3, h4⟩ := allS_keep (i := i) (s := s) d.snd h1 hw
      exact ⟨h3, h4.trans h2⟩
end
theorem trySend_can {κ : Type} (S : PS κ) (j : Nat) (v : Int) (h : (S.trySend j v).2.1 = true) : (S.trySend j v).2.2 = true := by
  unfold PS.trySend at h ⊢
  split
  · rename_i hd; simp only [hd] at h; cases h
  · rename_i d hd
    simp only [hd] at h
    split
    · rfl
    · rename_i hc
      rw [if_neg hc] at h
      split
      · rfl
      · rename_i hr
        rw [hr] at h
        simp only [] at h
        split
        · rename_i hb; rw [if_pos hb] at h; cases h
        · rfl
theorem pw_boxes {κ : Type} {L : LawP κ} {rb : Nat} {nowi : Option Nat} {rest : Int} {S : PS κ} {w0 w : World} {F0 : Nat → Prop} : ∀ (l : List Bx) {kb : List Bx} {R : Asr}, At (Bxl l * (PWA L rb nowi rest kb S * R)) w0 F0 w → At (PWA L rb nowi rest (l ++ kb) S * R) w0 F0 w
  | [], kb, R, h => h.ac (by rw [show Bxl [] = Emp from rfl, emp_star]; rfl)
  | (b, cs, T) :: l, kb, R, h => by
    have h1 := pw_boxes l (kb := kb) (R := Pt b cs T * R) (h.ac (by rw [bxl_cons]; ac_rfl))
    exact pw_box (h1.ac (by ac_rfl))
section
variable {w w0 : World} {R : Asr} {wb rb tb i : Nat} {rest : Int} {kb : List Bx} {S : PS K16} {vp : Value} {tl : List Nat} {el : List Ev5}
theorem pw_tb {κ : Type} {L : LawP κ} {S : PS κ} {w0 w : World} {F0 : Nat → Prop} {nowi : Option Nat} [Lcl R] (S1 : At (PWA L rb nowi rest kb S * R) w0 F0 w) (ht : S.tbs[i]? = some tb) : ∃ x, Blk w.heap tb (tkL rb i x) 162 := by
  obtain ⟨q, hp, S2⟩ := pw_open S1
  rw [hp.tbs, List.getElem?_map] at ht
  cases hx : q.ts[i]? with
  | none => rw [hx] at ht; cases ht
  | some x =>
    rw [hx] at ht
    cases ht
    exact ⟨x.2, S2.task hx⟩
theorem w_turn [Lcl R] {P : List (OV × List Do5)} (z : Pz16 w0.heap vp P) (hP6 : P.length ≤ 6) (S1 : At (PWA (L16 wb) rb (some i) rest kb S * (WA wb rb vp (S.cs.map (·.cb)) tl el false * R)) w0 No w) (hi : S.sts[i]? = some .run) (ht : S.tbs[i]? = some tb) {prog pos : Nat} {d : OV × List Do5} (hd : P[prog]? = some d) (x : To)
    (hdo : ∀ y ∈ d.2, 0 ≤ y.c ∧ y.c < S.cs.length) (hev : el.length ≤ 100000) (hpos : pos ≤ 100000) :
    Rets Tryz.prog 108 #[pt wb, pt tb, .int .i64 prog, .int .i64 pos, toV x] w fun _ w' => ∃ kb', (∀ b ∈ kb, b ∈ kb') ∧ At (PWA (L16 wb) rb (some i) rest kb' (act16 S i tb prog pos ((d.2[pos]?).getD do0)) * (WA wb rb vp (S.cs.map (·.cb)) tl (el ++ [⟨i, pos, x.c, x.v, x.ok⟩]) false * R)) w0 No w' := by
  unfold toV
  refine rets_of Tryz.func108 rfl Tryz.ntmps108 rfl rfl (by kernel_rfl) ?_
  ((apply vC_seq; apply vC_region)); (((iterate 4 (((apply vL_val); (case h => ((apply opw_box1); exact norm_eq rfl; (first | rfl | assumption)))))); ((apply vL_val); (case h => ((apply opw_boxn); exact rfl))); apply vL_nil)); with_reducible apply seqP_normal
  ((apply vC_seq))
  refine vC_gen (fun w' => At (Pt ((((w.alloc (.cells #[pt wb] 53)).alloc (.cells #[pt tb] 34)).alloc (.cells #[.int .i64 prog] 3)).alloc (.cells #[.int .i64 pos] 3)).heap.size [.int .i64 x.c, .int .i64 x.v, .bool x.ok] 171 * (Pt (((w.alloc (.cells #[pt wb] 53)).alloc (.cells #[pt tb] 34)).alloc (.cells #[.int .i64 prog] 3)).heap.size [.int .i64 pos] 3 * (Pt ((w.alloc (.cells #[pt wb] 53)).alloc (.cells #[pt tb] 34)).heap.size [.int .i64 prog] 3 * (Pt (w.alloc (.cells #[pt wb] 53)).heap.size [pt tb] 34 * (Pt w.heap.size [pt wb] 53 * (PWA (L16 wb) rb (some i) rest kb S * (WA wb rb vp (S.cs.map (·.cb)) tl el false * R))))))) w0 No w') S1.alloc.alloc.alloc.alloc.alloc ?_
  intro w1 S2
  generalize ((((w.alloc (.cells #[pt wb] 53)).alloc (.cells #[pt tb] 34)).alloc (.cells #[.int .i64 prog] 3)).alloc (.cells #[.int .i64 pos] 3)).heap.size = b9 at S2 ⊢
  generalize (((w.alloc (.cells #[pt wb] 53)).alloc (.cells #[pt tb] 34)).alloc (.cells #[.int .i64 prog] 3)).heap.size = b8 at S2 ⊢
  generalize ((w.alloc (.cells #[pt wb] 53)).alloc (.cells #[pt tb] 34)).heap.size = b7 at S2 ⊢
  generalize (w.alloc (.cells #[pt wb] 53)).heap.size = b6 at S2 ⊢
  generalize w.heap.size = b5 at S2 ⊢
  have S3 := pw_boxes (L := L16 wb) (rb := rb) (nowi := some i) (rest := rest) (S := S) (kb := kb) (R := WA wb rb vp (S.cs.map (·.cb)) tl el false * R) [(b9, [.int .i64 x.c, .int .i64 x.v, .bool x.ok], 171), (b8, [.int .i64 pos], 3), (b7, [.int .i64 prog], 3), (b6, [pt tb], 34), (b5, [pt wb], 53)] (S2.ac (by
    rw [bxl_cons, bxl_cons, bxl_cons, bxl_cons, bxl_cons, show Bxl [] = Emp from rfl, star_emp]
    ac_rfl))
  clear S2 S1
  generalize hk0 : ([(b9, [.int .i64 x.c, .int .i64 x.v, .bool x.ok], 171), (b8, [.int .i64 pos], 3), (b7, [.int .i64 prog], 3), (b6, [pt tb], 34), (b5, [pt wb], 53)] ++ kb : List Bx) = k1 at S3
  have hkk : ∀ b ∈ kb, b ∈ k1 := fun b hb => by rw [← hk0]; exact List.mem_append_right _ hb
  have m9 : (b9, [.int .i64 x.c, .int .i64 x.v, .bool x.ok], 171) ∈ k1 := by rw [← hk0]; simp
  have m8 : (b8, [.int .i64 pos], 3) ∈ k1 := by rw [← hk0]; simp
  have m7 : (b7, [.int .i64 prog], 3) ∈ k1 := by rw [← hk0]; simp
  have m6 : (b6, [pt tb], 34) ∈ k1 := by rw [← hk0]; simp
  have m5 : (b5, [pt wb], 53) ∈ k1 := by rw [← hk0]; simp
  clear hk0
  obtain ⟨cv, tv, ev, S4⟩ := wa_open (S3.ac (show _ = WA wb rb vp (S.cs.map (·.cb)) tl el false * (PWA (L16 wb) rb (some i) rest k1 S * R) by ac_rfl))
  have e9 := pw_bx S3 m9
  have e8 := pw_bx S3 m8
  have e7 := pw_bx S3 m7
  have e6 := pw_bx S3 m6
  have e5 := pw_bx S3 m5
  have hwb := S4.blk
  obtain ⟨tkx, hid⟩ := pw_tb S3 ht
  have evf := (S4.ac (show _ = Ow 100 5 ev5 ev el * (Pt wb [pt rb, vp, cv, tv, ev, .bool false] 61 * (Ow 28 1 ptE cv (S.cs.map (·.cb)) * (Ow 34 1 ptE tv tl * (PWA (L16 wb) rb (some i) rest k1 S * R)))) by ac_rfl)).own
  generalize hX : (⟨i, pos, x.c, x.v, x.ok⟩ : Ev5) = nw
  have S5 := S4.ac (show _ = Ow 100 5 ev5 ev el * (Pt wb [pt rb, vp, cv, tv, ev, .bool false] 61 * (Ow 28 1 ptE cv (S.cs.map (·.cb)) * (Ow 34 1 ptE tv tl * (PWA (L16 wb) rb (some i) rest k1 S * R)))) by ac_rfl)
  refine vC_meet0 274877382656 (fun w' => ∃ ev', At (Ow 100 5 ev5 ev' (el ++ [nw]) * (Pt wb [pt rb, vp, cv, tv, ev', .bool false] 61 * (Ow 28 1 ptE cv (S.cs.map (·.cb)) * (Ow 34 1 ptE tv tl * (PWA (L16 wb) rb (some i) rest k1 S * R))))) w0 No w') ?_ ?_
  · refine vC_draw' ((fun wf => Blk wf.heap b5 [pt wb] 53 ∧ Blk wf.heap b6 [pt tb] 34 ∧ Blk wf.heap b8 [.int .i64 pos] 3 ∧ Blk wf.heap b9 [.int .i64 x.c, .int .i64 x.v, .bool x.ok] 171 ∧ Blk wf.heap tb (tkL rb i tkx) 162)) (by (first | exact trivial | assumption | infer_instance | (refine ⟨?_, ?_, ?_, ?_, ?_⟩ <;> (first | assumption | infer_instance)) | (skip; done))) ?_
    ((apply (tk 0)); (case hi => exact rfl); (case hf => kernel_rfl); (case hS => (first | exact trivial | assumption | infer_instance | (refine ⟨?_, ?_, ?_, ?_, ?_⟩ <;> (first | assumption | infer_instance)) | (skip; done))); (case hy => (rintro wf ⟨hwa, hwb, hwc, hwd, hwe⟩; (((apply opv_loadb1); exact rfl; exact rfl; assumption; exact rfl)))))
    ((apply (tk 1)); (case hi => exact rfl); (case hf => kernel_rfl); (case hS => (first | exact trivial | assumption | infer_instance | (refine ⟨?_, ?_, ?_, ?_, ?_⟩ <;> (first | assumption | infer_instance)) | (skip; done))); (case hy => (rintro wf ⟨hwa, hwb, hwc, hwd, hwe⟩; (((apply opv_loadb1); exact rfl; exact rfl; assumption; exact rfl)))))
    ((apply (tk 2)); (case hi => exact rfl); (case hf => kernel_rfl); (case hS => (first | exact trivial | assumption | infer_instance | (refine ⟨?_, ?_, ?_, ?_, ?_⟩ <;> (first | assumption | infer_instance)) | (skip; done))); (case hy => (rintro wf ⟨hwa, hwb, hwc, hwd, hwe⟩; (((apply opv_E); exact rfl)))))
    ((apply (tk 3)); (case hi => exact rfl); (case hf => kernel_rfl); (case hS => (first | exact trivial | assumption | infer_instance | (refine ⟨?_, ?_, ?_, ?_, ?_⟩ <;> (first | assumption | infer_instance)) | (skip; done))); (case hy => (rintro wf ⟨hwa, hwb, hwc, hwd, hwe⟩; (((apply opv_fieldAddr); exact rfl)))))
    ((apply (tk 5)); (case hi => exact rfl); (case hf => kernel_rfl); (case hS => (first | exact trivial | assumption | infer_instance | (refine ⟨?_, ?_, ?_, ?_, ?_⟩ <;> (first | assumption | infer_instance)) | (skip; done))); (case hy => (rintro wf ⟨hwa, hwb, hwc, hwd, hwe⟩; (((apply opv_loadb1); exact rfl; exact rfl; assumption; exact rfl)))))
    (refine tkp 6 rfl (by kernel_rfl) (by (first | exact trivial | assumption | infer_instance | (refine ⟨?_, ?_, ?_, ?_, ?_⟩ <;> (first | assumption | infer_instance)) | (skip; done))) rfl (fun wf hwf => (by obtain ⟨hwa, hwb, hwc, hwd, hwe⟩ := hwf; exact (t_id hwe))) rfl ?_)
    ((apply (tk 7)); (case hi => exact rfl); (case hf => kernel_rfl); (case hS => (first | exact trivial | assumption | infer_instance | (refine ⟨?_, ?_, ?_, ?_, ?_⟩ <;> (first | assumption | infer_instance)) | (skip; done))); (case hy => (rintro wf ⟨hwa, hwb, hwc, hwd, hwe⟩; (((apply opv_loadb1); exact rfl; exact rfl; assumption; exact rfl)))))
    ((apply (tk 8)); (case hi => exact rfl); (case hf => kernel_rfl); (case hS => (first | exact trivial | assumption | infer_instance | (refine ⟨?_, ?_, ?_, ?_, ?_⟩ <;> (first | assumption | infer_instance)) | (skip; done))); (case hy => (rintro wf ⟨hwa, hwb, hwc, hwd, hwe⟩; (((apply opv_fieldAddr); exact rfl)))))
    ((apply (tk 9)); (case hi => exact rfl); (case hf => kernel_rfl); (case hS => (first | exact trivial | assumption | infer_instance | (refine ⟨?_, ?_, ?_, ?_, ?_⟩ <;> (first | assumption | infer_instance)) | (skip; done))); (case hy => (rintro wf ⟨hwa, hwb, hwc, hwd, hwe⟩; (((apply opv_loadb1); exact rfl; exact rfl; assumption; exact rfl)))))
    ((apply (tk 10)); (case hi => exact rfl); (case hf => kernel_rfl); (case hS => (first | exact trivial | assumption | infer_instance | (refine ⟨?_, ?_, ?_, ?_, ?_⟩ <;> (first | assumption | infer_instance)) | (skip; done))); (case hy => (rintro wf ⟨hwa, hwb, hwc, hwd, hwe⟩; (((apply opv_fieldAddr); exact rfl)))))
    ((apply (tk 11)); (case hi => exact rfl); (case hf => kernel_rfl); (case hS => (first | exact trivial | assumption | infer_instance | (refine ⟨?_, ?_, ?_, ?_, ?_⟩ <;> (first | assumption | infer_instance)) | (skip; done))); (case hy => (rintro wf ⟨hwa, hwb, hwc, hwd, hwe⟩; (((apply opv_loadb1); exact rfl; exact rfl; assumption; exact rfl)))))
    ((apply (tk 12)); (case hi => exact rfl); (case hf => kernel_rfl); (case hS => (first | exact trivial | assumption | infer_instance | (refine ⟨?_, ?_, ?_, ?_, ?_⟩ <;> (first | assumption | infer_instance)) | (skip; done))); (case hy => (rintro wf ⟨hwa, hwb, hwc, hwd, hwe⟩; (((apply opv_fieldAddr); exact rfl)))))
    ((apply (tk 13)); (case hi => exact rfl); (case hf => kernel_rfl); (case hS => (first | exact trivial | assumption | infer_instance | (refine ⟨?_, ?_, ?_, ?_, ?_⟩ <;> (first | assumption | infer_instance)) | (skip; done))); (case hy => (rintro wf ⟨hwa, hwb, hwc, hwd, hwe⟩; (((apply opv_loadb1); exact rfl; exact rfl; assumption; exact rfl)))))
    ((apply (tk 14)); (case hi => exact rfl); (case hf => kernel_rfl); (case hS => (first | exact trivial | assumption | infer_instance | (refine ⟨?_, ?_, ?_, ?_, ?_⟩ <;> (first | assumption | infer_instance)) | (skip; done))); (case hy => (rintro wf ⟨hwa, hwb, hwc, hwd, hwe⟩; (((apply opv_buildS); exact rfl; exact (rfl : _ = some [_, _, _, _, _]))))))
    refine vA_two 4 15 rfl rfl (by kernel_rfl) (by (first | exact trivial | assumption | infer_instance | (refine ⟨?_, ?_, ?_, ?_, ?_⟩ <;> (first | assumption | infer_instance)) | (skip; done))) (fun K hK => ?_) (fun K hK => ?_)
    · (((apply vL_val); (case h => ((apply opv_loadb1); exact rfl; exact rfl; assumption; exact rfl))); apply vL_nil)
      refine ⟨rfl, hK _ _ ?_⟩
      refine vA_only 15 rfl (by kernel_rfl) (by (first | exact trivial | assumption | infer_instance | (refine ⟨?_, ?_, ?_, ?_, ?_⟩ <;> (first | assumption | infer_instance)) | (skip; done))) (fun K hK => ?_)
      (((apply vL_val); (case h => ((apply opw_buildSl); exact rfl; exact rfl; exact rfl; exact (rfl : _ = some [_, _, _, _, _])))); apply vL_nil)
      refine ⟨rfl, hK _ _ ?_⟩
      refine vA_only 16 rfl (by kernel_rfl) (by (first | exact trivial | assumption | infer_instance | (refine ⟨?_, ?_, ?_, ?_, ?_⟩ <;> (first | assumption | infer_instance)) | (skip; done))) (fun K hK => ?_)
      refine vL_append (enc := ev5) (xs := el) (ys := [nw]) (T := 100) (sz := 5) (by (((conv => lhs; whnf) <;> exact rfl))) (by (exact norm_eq rfl)) (Own.alloc (evf.1.frN ((Fr.refl No _).drew))) (by rw [← hX]; exact Rd.new1 _ _ rfl) rfl (by decide) ?_ ?_ ?_
      · simp [maxLen]; omega
      · simp; omega
      intro ev' w7 ho7 hf7 hfr7 hone7 _
      have hfa : Fr (fun j => own ev = some j) w1 w7 := (((Fr.refl _ w1).drew).alloc _).trans' hf7 (fun i hi => .inl hi)
      have S6 := S5.owTo hfa ho7 hone7 (fun k hk => (hfr7 k hk).imp id (fun h => by rw [alloc_size] at h; exact Nat.le_trans (Nat.le_succ _) h))
      have S7 := S6.ac (show _ = PWA (L16 wb) rb (some i) rest k1 S * (Ow 100 5 ev5 ev' (el ++ [nw]) * (Pt wb [pt rb, vp, cv, tv, ev, .bool false] 61 * (Ow 28 1 ptE cv (S.cs.map (·.cb)) * (Ow 34 1 ptE tv tl * R)))) by ac_rfl)
      have e95 := pw_bx S7 m9
      have e85 := pw_bx S7 m8
      have e65 := pw_bx S7 m6
      have e55 := pw_bx S7 m5
      have hid5 := hid.fr hfa (fun h => Own.ne_blk evf.1 hid (by decide) h)
      have hwb5 := S6.swap.ac (star_assoc _ _ _) |>.blk
      refine vL_nil ⟨rfl, hK _ _ ?_⟩
      ((apply (tk 17)); (case hi => exact rfl); (case hf => kernel_rfl); (case hS => (first | exact trivial | assumption | infer_instance | (refine ⟨?_, ?_, ?_, ?_, ?_⟩ <;> (first | assumption | infer_instance)) | (skip; done))); (case hy => (rintro wf ⟨hwa, hwb, hwc, hwd, hwe⟩; (((apply opv_E); exact rfl)))))
      ((apply (tk 18)); (case hi => exact rfl); (case hf => kernel_rfl); (case hS => (first | exact trivial | assumption | infer_instance | (refine ⟨?_, ?_, ?_, ?_, ?_⟩ <;> (first | assumption | infer_instance)) | (skip; done))); (case hy => (rintro wf ⟨hwa, hwb, hwc, hwd, hwe⟩; (((apply opv_fieldAddr); exact rfl)))))
      refine vA_only 19 rfl (by kernel_rfl) (by (first | exact trivial | assumption | infer_instance | (refine ⟨?_, ?_, ?_, ?_, ?_⟩ <;> (first | assumption | infer_instance)) | (skip; done))) (fun K hK => ?_)
      (((apply vL_skip); (case h => ((apply ops_store1); exact norm_eq rfl; ((conv => lhs; whnf) <;> exact rfl); (first | rfl | assumption); assumption; (first | decide | exact of_decide_eq_true rfl | (simp; done))))); apply vL_nil)
      refine ⟨rfl, hK _ _ ?_⟩
      have S8 := ((S6.ac (show _ = Pt wb [pt rb, vp, cv, tv, ev, .bool false] 61 * (Ow 100 5 ev5 ev' (el ++ [nw]) * (Ow 28 1 ptE cv (S.cs.map (·.cb)) * (Ow 34 1 ptE tv tl * (PWA (L16 wb) rb (some i) rest k1 S * R)))) by ac_rfl)).set (cs' := [pt rb, vp, cv, tv, ev', .bool false]))
      have S9 := S8.ac (show _ = PWA (L16 wb) rb (some i) rest k1 S * (Ow 100 5 ev5 ev' (el ++ [nw]) * (Pt wb [pt rb, vp, cv, tv, ev', .bool false] 61 * (Ow 28 1 ptE cv (S.cs.map (·.cb)) * (Ow 34 1 ptE tv tl * R)))) by ac_rfl)
      have e96 := pw_bx S9 m9
      have e86 := pw_bx S9 m8
      have e66 := pw_bx S9 m6
      have e56 := pw_bx S9 m5
      have hid6 := hid5.fr (F := fun k => k = wb) ((Fr.refl _ w7).set wb ([pt rb, vp, cv, tv, ev', .bool false] : List Value).toArray (.inl rfl)) (Blk.ne_type hid5 hwb5 (by decide))
      refine vA_done (by kernel_rfl) (by (first | exact trivial | assumption | infer_instance | (refine ⟨?_, ?_, ?_, ?_, ?_⟩ <;> (first | assumption | infer_instance)) | (skip; done))) ?_
      refine ⟨rfl, by ((apply same_updN; (iterate 19 (((refine same_updO ?_ ?_); rotate_left; exact rfl)))); exact fun _ _ => rfl), ev', S8.ac (by ac_rfl)⟩
    · (((apply vL_val); (case h => ((apply opw_buildSl); exact rfl; exact rfl; exact rfl; exact (rfl : _ = some [_, _, _, _, _])))); apply vL_nil)
      refine ⟨rfl, hK _ _ ?_⟩
      refine vA_only 4 rfl (by kernel_rfl) (by (first | exact trivial | assumption | infer_instance | (refine ⟨?_, ?_, ?_, ?_, ?_⟩ <;> (first | assumption | infer_instance)) | (skip; done))) (fun K hK => ?_)
      (((apply vL_val); (case h => ((apply opv_loadb1); exact rfl; exact rfl; infer_instance; exact rfl))); apply vL_nil)
      refine ⟨rfl, hK _ _ ?_⟩
      refine vA_only 16 rfl (by kernel_rfl) (by (first | exact trivial | assumption | infer_instance | (refine ⟨?_, ?_, ?_, ?_, ?_⟩ <;> (first | assumption | infer_instance)) | (skip; done))) (fun K hK => ?_)
      refine vL_append (enc := ev5) (xs := el) (ys := [nw]) (T := 100) (sz := 5) (by (((conv => lhs; whnf) <;> exact rfl))) (by (exact norm_eq rfl)) (Own.alloc (evf.1.frN ((Fr.refl No _).drew))) (by rw [← hX]; exact Rd.new1 _ _ rfl) rfl (by decide) ?_ ?_ ?_
      · simp [maxLen]; omega
      · simp; omega
      intro ev' w7 ho7 hf7 hfr7 hone7 _
      have hfa : Fr (fun j => own ev = some j) w1 w7 := (((Fr.refl _ w1).drew).alloc _).trans' hf7 (fun i hi => .inl hi)
      have S6 := S5.owTo hfa ho7 hone7 (fun k hk => (hfr7 k hk).imp id (fun h => by rw [alloc_size] at h; exact Nat.le_trans (Nat.le_succ _) h))
      have S7 := S6.ac (show _ = PWA (L16 wb) rb (some i) rest k1 S * (Ow 100 5 ev5 ev' (el ++ [nw]) * (Pt wb [pt rb, vp, cv, tv, ev, .bool false] 61 * (Ow 28 1 ptE cv (S.cs.map (·.cb)) * (Ow 34 1 ptE tv tl * R)))) by ac_rfl)
      have e95 := pw_bx S7 m9
      have e85 := pw_bx S7 m8
      have e65 := pw_bx S7 m6
      have e55 := pw_bx S7 m5
      have hid5 := hid.fr hfa (fun h => Own.ne_blk evf.1 hid (by decide) h)
      have hwb5 := S6.swap.ac (star_assoc _ _ _) |>.blk
      refine vL_nil ⟨rfl, hK _ _ ?_⟩
      ((apply (tk 17)); (case hi => exact rfl); (case hf => kernel_rfl); (case hS => (first | exact trivial | assumption | infer_instance | (refine ⟨?_, ?_, ?_, ?_, ?_⟩ <;> (first | assumption | infer_instance)) | (skip; done))); (case hy => (rintro wf ⟨hwa, hwb, hwc, hwd, hwe⟩; (((apply opv_E); exact rfl)))))
      ((apply (tk 18)); (case hi => exact rfl); (case hf => kernel_rfl); (case hS => (first | exact trivial | assumption | infer_instance | (refine ⟨?_, ?_, ?_, ?_, ?_⟩ <;> (first | assumption | infer_instance)) | (skip; done))); (case hy => (rintro wf ⟨hwa, hwb, hwc, hwd, hwe⟩; (((apply opv_fieldAddr); exact rfl)))))
      refine vA_only 19 rfl (by kernel_rfl) (by (first | exact trivial | assumption | infer_instance | (refine ⟨?_, ?_, ?_, ?_, ?_⟩ <;> (first | assumption | infer_instance)) | (skip; done))) (fun K hK => ?_)
      (((apply vL_skip); (case h => ((apply ops_store1); exact norm_eq rfl; ((conv => lhs; whnf) <;> exact rfl); (first | rfl | assumption); assumption; (first | decide | exact of_decide_eq_true rfl | (simp; done))))); apply vL_nil)
      refine ⟨rfl, hK _ _ ?_⟩
      have S8 := ((S6.ac (show _ = Pt wb [pt rb, vp, cv, tv, ev, .bool false] 61 * (Ow 100 5 ev5 ev' (el ++ [nw]) * (Ow 28 1 ptE cv (S.cs.map (·.cb)) * (Ow 34 1 ptE tv tl * (PWA (L16 wb) rb (some i) rest k1 S * R)))) by ac_rfl)).set (cs' := [pt rb, vp, cv, tv, ev', .bool false]))
      have S9 := S8.ac (show _ = PWA (L16 wb) rb (some i) rest k1 S * (Ow 100 5 ev5 ev' (el ++ [nw]) * (Pt wb [pt rb, vp, cv, tv, ev', .bool false] 61 * (Ow 28 1 ptE cv (S.cs.map (·.cb)) * (Ow 34 1 ptE tv tl * R)))) by ac_rfl)
      have e96 := pw_bx S9 m9
      have e86 := pw_bx S9 m8
      have e66 := pw_bx S9 m6
      have e56 := pw_bx S9 m5
      have hid6 := hid5.fr (F := fun k => k = wb) ((Fr.refl _ w7).set wb ([pt rb, vp, cv, tv, ev', .bool false] : List Value).toArray (.inl rfl)) (Blk.ne_type hid5 hwb5 (by decide))
      refine vA_done (by kernel_rfl) (by (first | exact trivial | assumption | infer_instance | (refine ⟨?_, ?_, ?_, ?_, ?_⟩ <;> (first | assumption | infer_instance)) | (skip; done))) ?_
      refine ⟨rfl, by ((apply same_updN; (iterate 19 (((refine same_updO ?_ ?_); rotate_left; exact rfl)))); exact fun _ _ => rfl), ev', S8.ac (by ac_rfl)⟩
  rintro junk1 w2 ⟨ev', S6⟩
  clear S5 S4 S3 e9 e8 e7 e6 e5 hwb hid evf
  have S7 := S6.ac (show _ = PWA (L16 wb) rb (some i) rest k1 S * (Pt wb [pt rb, vp, cv, tv, ev', .bool false] 61 * (Ow 28 1 ptE cv (S.cs.map (·.cb)) * (Ow 34 1 ptE tv tl * (Ow 100 5 ev5 ev' (el ++ [nw]) * R)))) by ac_rfl)
  clear S6
  obtain ⟨R1, hR1⟩ : ∃ R1, R1 = Pt wb [pt rb, vp, cv, tv, ev', .bool false] 61 * (Ow 28 1 ptE cv (S.cs.map (·.cb)) * (Ow 34 1 ptE tv tl * (Ow 100 5 ev5 ev' (el ++ [nw]) * R))) := ⟨_, rfl⟩
  rw [← hR1] at S7
  haveI hRl : Lcl R1 := by rw [hR1]; infer_instance
  have see : ∀ {kb : List Bx} {T : PS K16} {w : World}, At (PWA (L16 wb) rb (some i) rest kb T * R1) w0 No w → Blk w.heap wb [pt rb, vp, cv, tv, ev', .bool false] 61 ∧ Own w.heap 28 1 ptE cv (S.cs.map (·.cb)) ∧ cv.oneCell' = true := fun {kb T w} h => by
    rw [hR1] at h
    have h1 := h.ac (show _ = Pt wb [pt rb, vp, cv, tv, ev', .bool false] 61 * (Ow 28 1 ptE cv (S.cs.map (·.cb)) * (Ow 34 1 ptE tv tl * (Ow 100 5 ev5 ev' (el ++ [nw]) * (PWA (L16 wb) rb (some i) rest kb T * R)))) by ac_rfl)
    exact ⟨h1.blk, (h1.ac (show _ = Ow 28 1 ptE cv (S.cs.map (·.cb)) * (Pt wb [pt rb, vp, cv, tv, ev', .bool false] 61 * (Ow 34 1 ptE tv tl * (Ow 100 5 ev5 ev' (el ++ [nw]) * (PWA (L16 wb) rb (some i) rest kb T * R)))) by ac_rfl)).own⟩
  have shut : ∀ {kb : List Bx} {T : PS K16} {w : World}, At (PWA (L16 wb) rb (some i) rest kb T * R1) w0 No w → At (WA wb rb vp (S.cs.map (·.cb)) tl (el ++ [nw]) false * (PWA (L16 wb) rb (some i) rest kb T * R)) w0 No w := fun {kb T w} h => by
    rw [hR1] at h
    exact wa_shut (h.ac (show _ = Pt wb [pt rb, vp, cv, tv, ev', .bool false] 61 * (Ow 28 1 ptE cv (S.cs.map (·.cb)) * (Ow 34 1 ptE tv tl * (Ow 100 5 ev5 ev' (el ++ [nw]) * (PWA (L16 wb) rb (some i) rest kb T * R)))) by ac_rfl))
  (apply seqP_normal; apply vC_seq; apply vC_region; ((apply vL_val); (case h => ((apply opv_buildS); exact rfl; exact (rfl : _ = some [_, _, _, _, _])))); ((apply vL_val); (case h => (apply opw_alloc))); ((apply vL_skip); (case h => ((apply ops_storen); exact norm_eq rfl; exact norm_eq rfl; exact rfl; (intro u hu; simp at hu; rcases hu with rfl | rfl | rfl <;> (first | rfl | assumption)); infer_instance; (first | decide | exact of_decide_eq_true rfl | (simp; done))))); apply vL_nil; apply seqP_normal; (iterate 2 (apply vC_seq)))
  refine vC_gen (fun w' => Fr No w2 w' ∧ w2.heap.size < w'.heap.size ∧ Blk w'.heap w2.heap.size (do5 do0) 167) ⟨by (apply Fr.allocSet; exact Fr.refl _ _), by simp, Blk.as inferInstance rfl⟩ ?_
  rintro w3 ⟨hf3, hlt3, bd3⟩
  have hP3 := (z.frN (S7.fr.trans hf3)).hP
  have hPd3 := (z.frN (S7.fr.trans hf3)).hPi d (List.mem_of_getElem? hd)
  have hd' : P[((prog : Nat) : Int).toNat]? = some d := by rw [Int.toNat_natCast]; exact hd
  have hdone := d.1.2
  have hPs := hP3.small
  have hPds := hPd3.small
  have hprog := (List.getElem?_eq_some_iff.1 hd).1
  have hw3 := (see S7).1.frN hf3
  have e53 := (pw_bx S7 m5).frN hf3
  have e73 := (pw_bx S7 m7).frN hf3
  have e83 := (pw_bx S7 m8).frN hf3
  have o1 := z.one
  (with_reducible apply vC_drawQ); ((iterate 10 (first | ((with_reducible apply vQ_op); (case hi => exact rfl); (case hf => kernel_rfl); (case hS => exact Dr.refl _); (case hy => (intro j; ((with_reducible apply opv_E); exact rfl)))) | ((with_reducible apply vQ_op); (case hi => exact rfl); (case hf => kernel_rfl); (case hS => exact Dr.refl _); (case hy => (intro j; ((with_reducible apply opv_loadb1); exact rfl; exact rfl; assumption; exact rfl)))) | ((with_reducible apply vQ_op); (case hi => exact rfl); (case hf => kernel_rfl); (case hS => exact Dr.refl _); (case hy => (intro j; ((with_reducible apply opv_fieldAddr); exact rfl)))) | ((with_reducible apply vQ_op); (case hi => exact rfl); (case hf => kernel_rfl); (case hS => exact Dr.refl _); (case hy => (intro j; ((with_reducible apply opv_indexAddr); ((conv => lhs; whnf) <;> exact rfl); exact rfl; assumption; (first | omega | (simp only [List.length_map]; omega)); (first | omega | (simp only [List.length_map]; omega)))))) | ((with_reducible apply vQ_op); (case hi => exact rfl); (case hf => kernel_rfl); (case hS => exact Dr.refl _); (case hy => (intro j; ((with_reducible apply opv_ld_el); exact rfl; exact rfl; assumption; assumption; exact rfl)))) | ((with_reducible apply vQ_op); (case hi => exact rfl); (case hf => kernel_rfl); (case hS => exact Dr.refl _); (case hy => (intro j; ((with_reducible apply opv_len); ((conv => lhs; whnf) <;> exact rfl); assumption)))))); ((apply vQ_end); (case hi => exact rfl); (case hf => kernel_rfl); (case hS => exact Dr.refl _)))
  with_reducible apply seqP_normal
  generalize hdd : (d.2[pos]?).getD do0 = dd
  refine vC_meet0 575897802350002176 (fun w' => Fr No w2 w' ∧ w2.heap.size < w'.heap.size ∧ Blk w'.heap w2.heap.size (do5 dd) 167) ?_ ?_
  · by_cases hpl : pos < d.2.length
    · obtain ⟨q, hq⟩ : ∃ q, d.2[pos]? = some q := ⟨d.2[pos], by simp [hpl]⟩
      have hq' : d.2[((pos : Nat) : Int).toNat]? = some q := by rw [Int.toNat_natCast]; exact hq
      have hdq : dd = q := by rw [← hdd, hq]; rfl
      refine vC_condT rfl (decide_eq_true (by omega)) ?_
      have e5q := pw_bx S7 m5
      have e7q := pw_bx S7 m7
      have e8q := pw_bx S7 m8
      have hwq := (see S7).1
      have hPq := (z.frN S7.fr).hP
      have hPdq := (z.frN S7.fr).hPi d (List.mem_of_getElem? hd)
      have hq2 := q.cs.2
      refine vC_draw' (fun wf => Fr No w2 wf) hf3.drew.drew ?_
      ((apply (tk 0)); (case hi => exact rfl); (case hf => kernel_rfl); (case hS => ((iterate 2 (apply Fr.drew)); assumption)); (case hy => (intro wf hwf; haveI := From.mk hwf; (((apply opv_loadb1); exact rfl; exact rfl; infer_instance; exact rfl)))))
      ((apply (tk 1)); (case hi => exact rfl); (case hf => kernel_rfl); (case hS => ((iterate 2 (apply Fr.drew)); assumption)); (case hy => (intro wf hwf; haveI := From.mk hwf; (((apply opv_E); exact rfl)))))
      ((apply (tk 2)); (case hi => exact rfl); (case hf => kernel_rfl); (case hS => ((iterate 2 (apply Fr.drew)); assumption)); (case hy => (intro wf hwf; haveI := From.mk hwf; (((apply opv_fieldAddr); exact rfl)))))
      ((apply (tk 3)); (case hi => exact rfl); (case hf => kernel_rfl); (case hS => ((iterate 2 (apply Fr.drew)); assumption)); (case hy => (intro wf hwf; haveI := From.mk hwf; (((apply opv_loadb1); exact rfl; exact rfl; infer_instance; exact rfl)))))
      ((apply (tk 4)); (case hi => exact rfl); (case hf => kernel_rfl); (case hS => ((iterate 2 (apply Fr.drew)); assumption)); (case hy => (intro wf hwf; haveI := From.mk hwf; (((apply opv_loadb1); exact rfl; exact rfl; infer_instance; exact rfl)))))
      ((apply (tk 5)); (case hi => exact rfl); (case hf => kernel_rfl); (case hS => ((iterate 2 (apply Fr.drew)); assumption)); (case hy => (intro wf hwf; haveI := From.mk hwf; (((apply opv_indexAddr); ((conv => lhs; whnf) <;> exact rfl); exact rfl; infer_instance; (first | omega | (simp only [List.length_map]; omega)); (first | omega | (simp only [List.length_map]; omega)))))))
      ((apply (tk 6)); (case hi => exact rfl); (case hf => kernel_rfl); (case hS => ((iterate 2 (apply Fr.drew)); assumption)); (case hy => (intro wf hwf; haveI := From.mk hwf; (((apply opv_ld_el); exact rfl; exact rfl; infer_instance; assumption; exact rfl)))))
      ((apply (tk 7)); (case hi => exact rfl); (case hf => kernel_rfl); (case hS => ((iterate 2 (apply Fr.drew)); assumption)); (case hy => (intro wf hwf; haveI := From.mk hwf; (((apply opv_loadb1); exact rfl; exact rfl; infer_instance; exact rfl)))))
      ((apply (tk 8)); (case hi => exact rfl); (case hf => kernel_rfl); (case hS => ((iterate 2 (apply Fr.drew)); assumption)); (case hy => (intro wf hwf; haveI := From.mk hwf; (((apply opv_indexAddr); ((conv => lhs; whnf) <;> exact rfl); exact rfl; infer_instance; (first | omega | (simp only [List.length_map]; omega)); (first | omega | (simp only [List.length_map]; omega)))))))
      ((apply (tk 9)); (case hi => exact rfl); (case hf => kernel_rfl); (case hS => ((iterate 2 (apply Fr.drew)); assumption)); (case hy => (intro wf hwf; haveI := From.mk hwf; (((apply opv_ld_eln); exact rfl; exact rfl; infer_instance; assumption)))))
      refine vA_only 10 rfl (by kernel_rfl) hf3.drew.drew (fun J hJ => ?_)
      (((apply vL_skip); (case h => ((apply ops_storen); exact norm_eq rfl; exact norm_eq rfl; exact rfl; exact (fun u hu => EncOk.one _ u hu); assumption; (first | decide | exact of_decide_eq_true rfl | (simp; done))))); apply vL_nil)
      refine ⟨rfl, hJ _ _ ?_⟩
      refine vA_done (by kernel_rfl) (hf3.drew.drew.set _ _ (.inr (Nat.le_refl _))) ?_
      refine ⟨rfl, by ((apply same_updN; (iterate 10 (((refine same_updO ?_ ?_); rotate_left; exact rfl)))); exact fun _ _ => rfl), hf3.drew.drew.set _ _ (.inr (Nat.le_refl _)), by rw [setRow_size]; exact hlt3, ?_⟩
      rw [hdq]
      exact Blk.as (Blk.set (show Blk w3.drew.drew.heap w2.heap.size _ _ from bd3)) rfl
    · have hdq : dd = do0 := by rw [← hdd, List.getElem?_eq_none (by omega)]; rfl
      refine vC_condF rfl (decide_eq_false (by omega)) ?_
      (apply vC_skip)
      refine ⟨rfl, fun _ _ => rfl, hf3.drew, hlt3, ?_⟩
      rw [hdq]
      exact bd3
  rintro junk4 w4 ⟨hf4, hlt4, bd4⟩
  first | with_reducible apply vC_seq | with_reducible apply vC_region | with_reducible apply seqP_normal | with_reducible apply vC_block | with_reducible apply vC_ret | with_reducible apply vC_skip | with_reducible apply vC_exit | with_reducible apply seqP_ret | with_reducible apply seqP_exit | with_reducible apply blockP_normal | with_reducible apply blockP_ret | with_reducible apply blockP_exit | ((with_reducible apply blockP_pass); exact rfl) | with_reducible apply loopP_normal | with_reducible apply vL_ac | with_reducible apply vL_an | with_reducible apply loopP_ret | with_reducible apply loopP_exit | ((with_reducible apply vC_cond_true); exact rfl) | ((with_reducible apply vC_cond_false); exact rfl) | with_reducible apply vC_scope | with_reducible apply gotoP_normal | with_reducible apply gotoP_ret | with_reducible apply gotoP_exit | with_reducible apply vC_label
  have S8 : At (Pt w2.heap.size (do5 dd) 167 * (PWA (L16 wb) rb (some i) rest k1 S * R1)) w0 No w4 := S7.new hf4 bd4 (Nat.le_refl _)
  have S9 := pw_box S8
  clear bd4 hlt4 hf4 S8 S7 hf3 hlt3 bd3 hP3 hPd3 hw3 e53 e73 e83
  generalize w2.heap.size = b10 at *
  have nx0 : (do5 dd).length = 5 := rfl
  ((apply vC_seq; apply vC_region)); ((((apply vL_val); (case h => ((apply opv_makeFunc); exact rfl))); ((apply vL_val); (case h => (apply opw_alloc))); ((apply vL_skip); (case h => ((apply ops_store1); exact norm_eq rfl; exact norm_eq rfl; (first | rfl | assumption); infer_instance; (first | decide | exact of_decide_eq_true rfl | (simp; done))))); apply vL_nil)); with_reducible apply seqP_normal
  refine vC_gen (fun w' => At (Pt w4.heap.size [.func (.func 166) #[] #[pt b5, pt b6, pt b7, pt b8]] 234 * (PWA (L16 wb) rb (some i) rest ((b10, do5 dd, 167) :: k1) S * R1)) w0 No w') (S9.new (by (apply Fr.allocSet; exact Fr.refl _ _)) (Blk.as inferInstance rfl) (Nat.le_refl _)) ?_
  intro w5 S10
  have S11 := pw_box S10
  clear S10 S9
  generalize w4.heap.size = b11 at *
  generalize hk2e : ((b11, [.func (.func 166) #[] #[pt b5, pt b6, pt b7, pt b8]], 234) :: (b10, do5 dd, 167) :: k1 : List Bx) = k2 at S11
  have up2 : ∀ b ∈ k1, b ∈ k2 := fun b hb => by rw [← hk2e]; exact List.mem_cons_of_mem _ (List.mem_cons_of_mem _ hb)
  have m10 : (b10, do5 dd, 167) ∈ k2 := by rw [← hk2e]; simp
  have m11 : (b11, [.func (.func 166) #[] #[pt b5, pt b6, pt b7, pt b8]], 234) ∈ k2 := by rw [← hk2e]; simp
  clear hk2e
  replace hkk : ∀ b ∈ kb, b ∈ k2 := fun b hb => up2 b (hkk b hb)
  replace m9 := up2 _ m9
  replace m8 := up2 _ m8
  replace m7 := up2 _ m7
  replace m6 := up2 _ m6
  replace m5 := up2 _ m5
  clear up2
  have nx : ∀ (x : To) (kb' : List Bx), (∀ b ∈ k2, b ∈ kb') → Nx wb (k16 tb prog pos x) kb' b11 := fun x kb' h => ⟨b5, b6, b7, b8, h _ m11, h _ m5, h _ m6, h _ m7, by rw [show (((k16 tb prog pos x).pos : Nat) : Int) - 1 = pos by show ((pos + 1 : Nat) : Int) - 1 = pos; omega]; exact h _ m8, Nat.le_add_left 1 pos⟩
  have hdc : dd.k ≠ 0 → 0 ≤ dd.c ∧ dd.c < S.cs.length := fun hk => by
    by_cases hpl : pos < d.2.length
    · rw [List.getElem?_eq_getElem hpl] at hdd
      exact hdo dd (by rw [← hdd]; exact List.getElem_mem hpl)
    · rw [List.getElem?_eq_none (by omega)] at hdd
      exact absurd (by rw [← hdd]; rfl) hk
  have e5a := pw_bx S11 m5
  have e6a := pw_bx S11 m6
  have e10 := pw_bx S11 m10
  rw [do5] at e10
  have hid : ∀ b ∈ k2, b ∈ k2 := fun _ h => h
  (apply vC_seq; apply vC_region; ((apply vL_val); (case h => ((apply opv_fieldAddr); exact rfl))); ((apply vL_val); (case h => ((apply opv_loadb1); exact rfl; exact rfl; assumption; exact rfl))); apply vL_nil; apply seqP_normal; apply vC_block; apply vC_seq; apply vC_region; (iterate 2 (((apply vL_val); (case h => ((apply opv_E); exact rfl))))); apply vL_nil; apply seqP_normal)
  by_cases c1 : dd.k = 1
  · have e1 : act16 S i tb prog pos dd = S.yield i (k16 tb prog pos ⟨0, 0, false⟩) := by unfold act16; rw [if_pos c1]
    rw [e1]
    ((refine vC_cond_dec rfl (fun _ => ?_) (fun h => by omega)))
    refine vC_draw' ((fun wf => Blk wf.heap b5 [pt wb] 53 ∧ Blk wf.heap b6 [pt tb] 34)) (by (first | exact trivial | assumption | infer_instance | (refine ⟨?_, ?_⟩ <;> (first | assumption | infer_instance)) | (skip; done))) ?_
    ((apply (tk 0)); (case hi => exact rfl); (case hf => kernel_rfl); (case hS => (first | exact trivial | assumption | infer_instance | (refine ⟨?_, ?_⟩ <;> (first | assumption | infer_instance)) | (skip; done))); (case hy => (rintro wf ⟨hwa, hwb⟩; (((apply opv_loadb1); exact rfl; exact rfl; assumption; exact rfl)))))
    ((apply (tk 1)); (case hi => exact rfl); (case hf => kernel_rfl); (case hS => (first | exact trivial | assumption | infer_instance | (refine ⟨?_, ?_⟩ <;> (first | assumption | infer_instance)) | (skip; done))); (case hy => (rintro wf ⟨hwa, hwb⟩; (((apply opv_loadb1); exact rfl; exact rfl; assumption; exact rfl)))))
    ((apply (tk 2)); (case hi => exact rfl); (case hf => kernel_rfl); (case hS => (first | exact trivial | assumption | infer_instance | (refine ⟨?_, ?_⟩ <;> (first | assumption | infer_instance)) | (skip; done))); (case hy => (rintro wf ⟨hwa, hwb⟩; (((apply opv_makeFunc); exact rfl)))))
    refine tkc 3 rfl (by kernel_rfl) (by (first | exact trivial | assumption | infer_instance | (refine ⟨?_, ?_⟩ <;> (first | assumption | infer_instance)) | (skip; done))) rfl (pw_yield (S11.drew) (hi) (ht) _ _ (k16 tb prog pos ⟨0, 0, false⟩) ⟨rfl, .y2 b11 (nx _ _ hid) rfl⟩) rfl ?_
    rintro _ w8 ⟨rfl, S18⟩
    have e5z := pw_bx S18 (hid _ m5)
    have e6z := pw_bx S18 (hid _ m6)
    refine tkc 4 rfl (by kernel_rfl) (by (first | exact trivial | assumption | infer_instance | (refine ⟨?_, ?_⟩ <;> (first | assumption | infer_instance)) | (skip; done))) rfl (w_need (shut S18)) rfl ?_
    rintro _ w9 S19
    have S20 := S19.ac (show _ = PWA (L16 wb) rb (some i) rest k2 (S.yield i (k16 tb prog pos ⟨0, 0, false⟩)) * (WA wb rb vp (S.cs.map (·.cb)) tl (el ++ [nw]) false * R) by ac_rfl)
    have e5y := pw_bx S20 (hid _ m5)
    have e6y := pw_bx S20 (hid _ m6)
    refine vA_done (by kernel_rfl) (by (first | exact trivial | assumption | infer_instance | (refine ⟨?_, ?_⟩ <;> (first | assumption | infer_instance)) | (skip; done))) ?_
    (apply blockP_normal)
    (first | apply ret0 | apply ret0n)
    exact ⟨k2, fun b hb => hid b (hkk b hb), S20⟩
  by_cases c2 : dd.k = 2
  · have e1 : act16 S i tb prog pos dd = S.send i dd.c.toNat dd.v (k16 tb prog pos ⟨0, 0, false⟩) := by unfold act16; rw [if_neg c1, if_pos c2]
    rw [e1]
    obtain ⟨hc0, hc1⟩ := hdc (by omega)
    obtain ⟨dch, hdch⟩ : ∃ y, S.cs[dd.c.toNat]? = some y := ⟨_, List.getElem?_eq_getElem (by omega)⟩
    have hcl : (S.cs.map (·.cb))[dd.c.toNat]? = some dch.cb := by rw [List.getElem?_map, hdch]; rfl
    have hlen : (S.cs.map (·.cb)).length = S.cs.length := List.length_map ..
    have sa := see S11
    have saw := sa.1
    have sao := sa.2.1
    have sao1 := sa.2.2
    have sar := sao.rd
    ((refine vC_cond_dec rfl (fun h => by omega) (fun _ => ?_)); apply vC_seq; apply vC_region; (iterate 2 (((apply vL_val); (case h => ((apply opv_E); exact rfl))))); apply vL_nil; apply seqP_normal; (refine vC_cond_dec rfl (fun _ => ?_) (fun h => by omega)))
    refine vC_draw' ((fun wf => Blk wf.heap b5 [pt wb] 53 ∧ Blk wf.heap b6 [pt tb] 34 ∧ Blk wf.heap b10 [.int .i64 dd.k, .int .i64 dd.c, .int .i64 dd.v, dd.cs.1, .bool dd.df] 167 ∧ Blk wf.heap wb [pt rb, vp, cv, tv, ev', .bool false] 61 ∧ Own wf.heap 28 1 ptE cv (S.cs.map (·.cb)))) (by (first | exact trivial | assumption | infer_instance | (refine ⟨?_, ?_, ?_, ?_, ?_⟩ <;> (first | assumption | infer_instance)) | (skip; done))) ?_
    ((apply (tk 0)); (case hi => exact rfl); (case hf => kernel_rfl); (case hS => (first | exact trivial | assumption | infer_instance | (refine ⟨?_, ?_, ?_, ?_, ?_⟩ <;> (first | assumption | infer_instance)) | (skip; done))); (case hy => (rintro wf ⟨hwa, hwb, hwc, hwd, hwe⟩; (((apply opv_loadb1); exact rfl; exact rfl; assumption; exact rfl)))))
    ((apply (tk 1)); (case hi => exact rfl); (case hf => kernel_rfl); (case hS => (first | exact trivial | assumption | infer_instance | (refine ⟨?_, ?_, ?_, ?_, ?_⟩ <;> (first | assumption | infer_instance)) | (skip; done))); (case hy => (rintro wf ⟨hwa, hwb, hwc, hwd, hwe⟩; (((apply opv_loadb1); exact rfl; exact rfl; assumption; exact rfl)))))
    ((apply (tk 2)); (case hi => exact rfl); (case hf => kernel_rfl); (case hS => (first | exact trivial | assumption | infer_instance | (refine ⟨?_, ?_, ?_, ?_, ?_⟩ <;> (first | assumption | infer_instance)) | (skip; done))); (case hy => (rintro wf ⟨hwa, hwb, hwc, hwd, hwe⟩; (((apply opv_loadb1); exact rfl; exact rfl; assumption; exact rfl)))))
    ((apply (tk 3)); (case hi => exact rfl); (case hf => kernel_rfl); (case hS => (first | exact trivial | assumption | infer_instance | (refine ⟨?_, ?_, ?_, ?_, ?_⟩ <;> (first | assumption | infer_instance)) | (skip; done))); (case hy => (rintro wf ⟨hwa, hwb, hwc, hwd, hwe⟩; (((apply opv_E); exact rfl)))))
    ((apply (tk 4)); (case hi => exact rfl); (case hf => kernel_rfl); (case hS => (first | exact trivial | assumption | infer_instance | (refine ⟨?_, ?_, ?_, ?_, ?_⟩ <;> (first | assumption | infer_instance)) | (skip; done))); (case hy => (rintro wf ⟨hwa, hwb, hwc, hwd, hwe⟩; (((apply opv_fieldAddr); exact rfl)))))
    ((apply (tk 5)); (case hi => exact rfl); (case hf => kernel_rfl); (case hS => (first | exact trivial | assumption | infer_instance | (refine ⟨?_, ?_, ?_, ?_, ?_⟩ <;> (first | assumption | infer_instance)) | (skip; done))); (case hy => (rintro wf ⟨hwa, hwb, hwc, hwd, hwe⟩; (((apply opv_loadb1); exact rfl; exact rfl; assumption; exact rfl)))))
    ((apply (tk 6)); (case hi => exact rfl); (case hf => kernel_rfl); (case hS => (first | exact trivial | assumption | infer_instance | (refine ⟨?_, ?_, ?_, ?_, ?_⟩ <;> (first | assumption | infer_instance)) | (skip; done))); (case hy => (rintro wf ⟨hwa, hwb, hwc, hwd, hwe⟩; (((apply opv_fieldAddr); exact rfl)))))
    ((apply (tk 7)); (case hi => exact rfl); (case hf => kernel_rfl); (case hS => (first | exact trivial | assumption | infer_instance | (refine ⟨?_, ?_, ?_, ?_, ?_⟩ <;> (first | assumption | infer_instance)) | (skip; done))); (case hy => (rintro wf ⟨hwa, hwb, hwc, hwd, hwe⟩; (((apply opv_loadb1); exact rfl; exact rfl; assumption; exact rfl)))))
    ((apply (tk 8)); (case hi => exact rfl); (case hf => kernel_rfl); (case hS => (first | exact trivial | assumption | infer_instance | (refine ⟨?_, ?_, ?_, ?_, ?_⟩ <;> (first | assumption | infer_instance)) | (skip; done))); (case hy => (rintro wf ⟨hwa, hwb, hwc, hwd, hwe⟩; (((apply opv_indexAddr); ((conv => lhs; whnf) <;> exact rfl); exact rfl; infer_instance; (first | omega | (simp only [List.length_map]; omega)); (first | omega | (simp only [List.length_map]; omega)))))))
    ((apply (tk 9)); (case hi => exact rfl); (case hf => kernel_rfl); (case hS => (first | exact trivial | assumption | infer_instance | (refine ⟨?_, ?_, ?_, ?_, ?_⟩ <;> (first | assumption | infer_instance)) | (skip; done))); (case hy => (rintro wf ⟨hwa, hwb, hwc, hwd, hwe⟩; (((apply opv_ld_el); exact rfl; exact rfl; infer_instance; assumption; exact rfl)))))
    ((apply (tk 10)); (case hi => exact rfl); (case hf => kernel_rfl); (case hS => (first | exact trivial | assumption | infer_instance | (refine ⟨?_, ?_, ?_, ?_, ?_⟩ <;> (first | assumption | infer_instance)) | (skip; done))); (case hy => (rintro wf ⟨hwa, hwb, hwc, hwd, hwe⟩; (((apply opv_fieldAddr); exact rfl)))))
    ((apply (tk 11)); (case hi => exact rfl); (case hf => kernel_rfl); (case hS => (first | exact trivial | assumption | infer_instance | (refine ⟨?_, ?_, ?_, ?_, ?_⟩ <;> (first | assumption | infer_instance)) | (skip; done))); (case hy => (rintro wf ⟨hwa, hwb, hwc, hwd, hwe⟩; (((apply opv_loadb1); exact rfl; exact rfl; assumption; exact rfl)))))
    ((apply (tk 12)); (case hi => exact rfl); (case hf => kernel_rfl); (case hS => (first | exact trivial | assumption | infer_instance | (refine ⟨?_, ?_, ?_, ?_, ?_⟩ <;> (first | assumption | infer_instance)) | (skip; done))); (case hy => (rintro wf ⟨hwa, hwb, hwc, hwd, hwe⟩; (((apply opv_makeFunc); exact rfl)))))
    refine tkc 13 rfl (by kernel_rfl) (by (first | exact trivial | assumption | infer_instance | (refine ⟨?_, ?_, ?_, ?_, ?_⟩ <;> (first | assumption | infer_instance)) | (skip; done))) rfl (pw_send S11.drew hi ht hdch dd.v _ [pt b11] (k16 tb prog pos ⟨0, 0, false⟩) ⟨b11, nx _ _ hid, rfl⟩) rfl ?_
    rintro _ w8 ⟨rfl, k3, h3, S18⟩
    have e5z := pw_bx S18 (h3 _ m5)
    have e6z := pw_bx S18 (h3 _ m6)
    have e10z := pw_bx S18 (h3 _ m10)
    rw [do5] at e10z
    have sz := see S18
    have szw := sz.1
    have szo := sz.2.1
    refine tkc 14 rfl (by kernel_rfl) (by (first | exact trivial | assumption | infer_instance | (refine ⟨?_, ?_, ?_, ?_, ?_⟩ <;> (first | assumption | infer_instance)) | (skip; done))) rfl (w_needP ((S18.swap.ac (by rw [hR1])).ac (star_assoc _ _ _)) o1) rfl ?_
    rintro _ w9 S19
    have S20 := (S19.ac (star_assoc _ _ _).symm).swap
    rw [← hR1] at S20
    have sy := see S20
    have syw := sy.1
    have syo := sy.2.1
    have e5y := pw_bx S20 (h3 _ m5)
    have e6y := pw_bx S20 (h3 _ m6)
    have e10y := pw_bx S20 (h3 _ m10)
    rw [do5] at e10y
    refine vA_done (by kernel_rfl) (by (first | exact trivial | assumption | infer_instance | (refine ⟨?_, ?_, ?_, ?_, ?_⟩ <;> (first | assumption | infer_instance)) | (skip; done))) ?_
    (apply blockP_normal)
    (first | apply ret0 | apply ret0n)
    exact ⟨k3, fun b hb => h3 b (hkk b hb), (shut S20).ac (by ac_rfl)⟩
  by_cases c3 : dd.k = 3
  · have e1 : act16 S i tb prog pos dd = S.recv i dd.c.toNat (k16 tb prog pos ⟨0, 0, false⟩) := by unfold act16; rw [if_neg c1, if_neg c2, if_pos c3]
    rw [e1]
    obtain ⟨hc0, hc1⟩ := hdc (by omega)
    obtain ⟨dch, hdch⟩ : ∃ y, S.cs[dd.c.toNat]? = some y := ⟨_, List.getElem?_eq_getElem (by omega)⟩
    have hcl : (S.cs.map (·.cb))[dd.c.toNat]? = some dch.cb := by rw [List.getElem?_map, hdch]; rfl
    have hlen : (S.cs.map (·.cb)).length = S.cs.length := List.length_map ..
    have sa := see S11
    have saw := sa.1
    have sao := sa.2.1
    have sao1 := sa.2.2
    have sar := sao.rd
    ((iterate 14 (first | with_reducible apply vC_seq | with_reducible apply vC_region | with_reducible apply seqP_normal | ((with_reducible apply vL_val); (case h => ((with_reducible apply opv_E); exact rfl))) | with_reducible apply vL_nil | (refine vC_cond_dec rfl (fun h => by omega) (fun _ => ?_)))); (refine vC_cond_dec rfl (fun _ => ?_) (fun h => by omega)))
    refine vC_draw' ((fun wf => Blk wf.heap b5 [pt wb] 53 ∧ Blk wf.heap b6 [pt tb] 34 ∧ Blk wf.heap b10 [.int .i64 dd.k, .int .i64 dd.c, .int .i64 dd.v, dd.cs.1, .bool dd.df] 167 ∧ Blk wf.heap wb [pt rb, vp, cv, tv, ev', .bool false] 61 ∧ Own wf.heap 28 1 ptE cv (S.cs.map (·.cb)))) (by (first | exact trivial | assumption | infer_instance | (refine ⟨?_, ?_, ?_, ?_, ?_⟩ <;> (first | assumption | infer_instance)) | (skip; done))) ?_
    ((apply (tk 0)); (case hi => exact rfl); (case hf => kernel_rfl); (case hS => (first | exact trivial | assumption | infer_instance | (refine ⟨?_, ?_, ?_, ?_, ?_⟩ <;> (first | assumption | infer_instance)) | (skip; done))); (case hy => (rintro wf ⟨hwa, hwb, hwc, hwd, hwe⟩; (((apply opv_loadb1); exact rfl; exact rfl; assumption; exact rfl)))))
    ((apply (tk 1)); (case hi => exact rfl); (case hf => kernel_rfl); (case hS => (first | exact trivial | assumption | infer_instance | (refine ⟨?_, ?_, ?_, ?_, ?_⟩ <;> (first | assumption | infer_instance)) | (skip; done))); (case hy => (rintro wf ⟨hwa, hwb, hwc, hwd, hwe⟩; (((apply opv_loadb1); exact rfl; exact rfl; assumption; exact rfl)))))
    ((apply (tk 2)); (case hi => exact rfl); (case hf => kernel_rfl); (case hS => (first | exact trivial | assumption | infer_instance | (refine ⟨?_, ?_, ?_, ?_, ?_⟩ <;> (first | assumption | infer_instance)) | (skip; done))); (case hy => (rintro wf ⟨hwa, hwb, hwc, hwd, hwe⟩; (((apply opv_loadb1); exact rfl; exact rfl; assumption; exact rfl)))))
    ((apply (tk 3)); (case hi => exact rfl); (case hf => kernel_rfl); (case hS => (first | exact trivial | assumption | infer_instance | (refine ⟨?_, ?_, ?_, ?_, ?_⟩ <;> (first | assumption | infer_instance)) | (skip; done))); (case hy => (rintro wf ⟨hwa, hwb, hwc, hwd, hwe⟩; (((apply opv_E); exact rfl)))))
    ((apply (tk 4)); (case hi => exact rfl); (case hf => kernel_rfl); (case hS => (first | exact trivial | assumption | infer_instance | (refine ⟨?_, ?_, ?_, ?_, ?_⟩ <;> (first | assumption | infer_instance)) | (skip; done))); (case hy => (rintro wf ⟨hwa, hwb, hwc, hwd, hwe⟩; (((apply opv_fieldAddr); exact rfl)))))
    ((apply (tk 5)); (case hi => exact rfl); (case hf => kernel_rfl); (case hS => (first | exact trivial | assumption | infer_instance | (refine ⟨?_, ?_, ?_, ?_, ?_⟩ <;> (first | assumption | infer_instance)) | (skip; done))); (case hy => (rintro wf ⟨hwa, hwb, hwc, hwd, hwe⟩; (((apply opv_loadb1); exact rfl; exact rfl; assumption; exact rfl)))))
    ((apply (tk 6)); (case hi => exact rfl); (case hf => kernel_rfl); (case hS => (first | exact trivial | assumption | infer_instance | (refine ⟨?_, ?_, ?_, ?_, ?_⟩ <;> (first | assumption | infer_instance)) | (skip; done))); (case hy => (rintro wf ⟨hwa, hwb, hwc, hwd, hwe⟩; (((apply opv_fieldAddr); exact rfl)))))
    ((apply (tk 7)); (case hi => exact rfl); (case hf => kernel_rfl); (case hS => (first | exact trivial | assumption | infer_instance | (refine ⟨?_, ?_, ?_, ?_, ?_⟩ <;> (first | assumption | infer_instance)) | (skip; done))); (case hy => (rintro wf ⟨hwa, hwb, hwc, hwd, hwe⟩; (((apply opv_loadb1); exact rfl; exact rfl; assumption; exact rfl)))))
    ((apply (tk 8)); (case hi => exact rfl); (case hf => kernel_rfl); (case hS => (first | exact trivial | assumption | infer_instance | (refine ⟨?_, ?_, ?_, ?_, ?_⟩ <;> (first | assumption | infer_instance)) | (skip; done))); (case hy => (rintro wf ⟨hwa, hwb, hwc, hwd, hwe⟩; (((apply opv_indexAddr); ((conv => lhs; whnf) <;> exact rfl); exact rfl; infer_instance; (first | omega | (simp only [List.length_map]; omega)); (first | omega | (simp only [List.length_map]; omega)))))))
    ((apply (tk 9)); (case hi => exact rfl); (case hf => kernel_rfl); (case hS => (first | exact trivial | assumption | infer_instance | (refine ⟨?_, ?_, ?_, ?_, ?_⟩ <;> (first | assumption | infer_instance)) | (skip; done))); (case hy => (rintro wf ⟨hwa, hwb, hwc, hwd, hwe⟩; (((apply opv_ld_el); exact rfl; exact rfl; infer_instance; assumption; exact rfl)))))
    ((apply (tk 10)); (case hi => exact rfl); (case hf => kernel_rfl); (case hS => (first | exact trivial | assumption | infer_instance | (refine ⟨?_, ?_, ?_, ?_, ?_⟩ <;> (first | assumption | infer_instance)) | (skip; done))); (case hy => (rintro wf ⟨hwa, hwb, hwc, hwd, hwe⟩; (((apply opv_makeFunc); exact rfl)))))
    refine tkc 11 rfl (by kernel_rfl) (by (first | exact trivial | assumption | infer_instance | (refine ⟨?_, ?_, ?_, ?_, ?_⟩ <;> (first | assumption | infer_instance)) | (skip; done))) rfl (pw_recv S11.drew hi ht hdch _ [pt b11] (k16 tb prog pos ⟨0, 0, false⟩) ⟨b11, nx _ _ hid, rfl⟩) rfl ?_
    rintro _ w8 ⟨rfl, k3, h3, S18⟩
    have e5z := pw_bx S18 (h3 _ m5)
    have e6z := pw_bx S18 (h3 _ m6)
    have e10z := pw_bx S18 (h3 _ m10)
    rw [do5] at e10z
    have sz := see S18
    have szw := sz.1
    have szo := sz.2.1
    refine tkc 12 rfl (by kernel_rfl) (by (first | exact trivial | assumption | infer_instance | (refine ⟨?_, ?_, ?_, ?_, ?_⟩ <;> (first | assumption | infer_instance)) | (skip; done))) rfl (w_needP ((S18.swap.ac (by rw [hR1])).ac (star_assoc _ _ _)) o1) rfl ?_
    rintro _ w9 S19
    have S20 := (S19.ac (star_assoc _ _ _).symm).swap
    rw [← hR1] at S20
    have sy := see S20
    have syw := sy.1
    have syo := sy.2.1
    have e5y := pw_bx S20 (h3 _ m5)
    have e6y := pw_bx S20 (h3 _ m6)
    have e10y := pw_bx S20 (h3 _ m10)
    rw [do5] at e10y
    refine vA_done (by kernel_rfl) (by (first | exact trivial | assumption | infer_instance | (refine ⟨?_, ?_, ?_, ?_, ?_⟩ <;> (first | assumption | infer_instance)) | (skip; done))) ?_
    (apply blockP_normal)
    (first | apply ret0 | apply ret0n)
    exact ⟨k3, fun b hb => h3 b (hkk b hb), (shut S20).ac (by ac_rfl)⟩
  by_cases c4 : dd.k = 4
  · have e1 : act16 S i tb prog pos dd = (S.close dd.c.toNat).1.yield i (k16 tb prog pos ⟨0, 0, (S.close dd.c.toNat).2⟩) := by unfold act16; rw [if_neg c1, if_neg c2, if_neg c3, if_pos c4]
    rw [e1]
    obtain ⟨hc0, hc1⟩ := hdc (by omega)
    obtain ⟨dch, hdch⟩ : ∃ y, S.cs[dd.c.toNat]? = some y := ⟨_, List.getElem?_eq_getElem (by omega)⟩
    have hcl : (S.cs.map (·.cb))[dd.c.toNat]? = some dch.cb := by rw [List.getElem?_map, hdch]; rfl
    have hlen : (S.cs.map (·.cb)).length = S.cs.length := List.length_map ..
    have sa := see S11
    have saw := sa.1
    have sao := sa.2.1
    have sao1 := sa.2.2
    have sar := sao.rd
    ((iterate 23 (first | with_reducible apply vC_seq | with_reducible apply vC_region | with_reducible apply seqP_normal | ((with_reducible apply vL_val); (case h => ((with_reducible apply opv_E); exact rfl))) | with_reducible apply vL_nil | (refine vC_cond_dec rfl (fun _ => ?_) (fun h => by omega)) | (refine vC_cond_dec rfl (fun h => by omega) (fun _ => ?_)))))
    refine vC_meetV 5182155653733001793318522703581184 12 (fun v w' => ∃ eb kb', v = pt eb ∧ (∀ b ∈ k2, b ∈ kb') ∧ At (Pt eb [.int .i64 (if (S.close dd.c.toNat).2 then 0 else 150)] 29 * (PWA (L16 wb) rb (some i) rest kb' (S.close dd.c.toNat).1 * R1)) w0 No w') ?_ ?_
    · refine vC_draw' ((fun wf => Blk wf.heap b5 [pt wb] 53 ∧ Blk wf.heap b6 [pt tb] 34 ∧ Blk wf.heap b10 [.int .i64 dd.k, .int .i64 dd.c, .int .i64 dd.v, dd.cs.1, .bool dd.df] 167 ∧ Blk wf.heap wb [pt rb, vp, cv, tv, ev', .bool false] 61 ∧ Own wf.heap 28 1 ptE cv (S.cs.map (·.cb)))) (by (first | exact trivial | assumption | infer_instance | (refine ⟨?_, ?_, ?_, ?_, ?_⟩ <;> (first | assumption | infer_instance)) | (skip; done))) ?_
      ((apply (tk 0)); (case hi => exact rfl); (case hf => kernel_rfl); (case hS => (first | exact trivial | assumption | infer_instance | (refine ⟨?_, ?_, ?_, ?_, ?_⟩ <;> (first | assumption | infer_instance)) | (skip; done))); (case hy => (rintro wf ⟨hwa, hwb, hwc, hwd, hwe⟩; (((apply opv_loadb1); exact rfl; exact rfl; assumption; exact rfl)))))
      ((apply (tk 1)); (case hi => exact rfl); (case hf => kernel_rfl); (case hS => (first | exact trivial | assumption | infer_instance | (refine ⟨?_, ?_, ?_, ?_, ?_⟩ <;> (first | assumption | infer_instance)) | (skip; done))); (case hy => (rintro wf ⟨hwa, hwb, hwc, hwd, hwe⟩; (((apply opv_E); exact rfl)))))
      ((apply (tk 2)); (case hi => exact rfl); (case hf => kernel_rfl); (case hS => (first | exact trivial | assumption | infer_instance | (refine ⟨?_, ?_, ?_, ?_, ?_⟩ <;> (first | assumption | infer_instance)) | (skip; done))); (case hy => (rintro wf ⟨hwa, hwb, hwc, hwd, hwe⟩; (((apply opv_fieldAddr); exact rfl)))))
      ((apply (tk 3)); (case hi => exact rfl); (case hf => kernel_rfl); (case hS => (first | exact trivial | assumption | infer_instance | (refine ⟨?_, ?_, ?_, ?_, ?_⟩ <;> (first | assumption | infer_instance)) | (skip; done))); (case hy => (rintro wf ⟨hwa, hwb, hwc, hwd, hwe⟩; (((apply opv_loadb1); exact rfl; exact rfl; assumption; exact rfl)))))
      ((apply (tk 4)); (case hi => exact rfl); (case hf => kernel_rfl); (case hS => (first | exact trivial | assumption | infer_instance | (refine ⟨?_, ?_, ?_, ?_, ?_⟩ <;> (first | assumption | infer_instance)) | (skip; done))); (case hy => (rintro wf ⟨hwa, hwb, hwc, hwd, hwe⟩; (((apply opv_fieldAddr); exact rfl)))))
      ((apply (tk 5)); (case hi => exact rfl); (case hf => kernel_rfl); (case hS => (first | exact trivial | assumption | infer_instance | (refine ⟨?_, ?_, ?_, ?_, ?_⟩ <;> (first | assumption | infer_instance)) | (skip; done))); (case hy => (rintro wf ⟨hwa, hwb, hwc, hwd, hwe⟩; (((apply opv_loadb1); exact rfl; exact rfl; assumption; exact rfl)))))
      ((apply (tk 6)); (case hi => exact rfl); (case hf => kernel_rfl); (case hS => (first | exact trivial | assumption | infer_instance | (refine ⟨?_, ?_, ?_, ?_, ?_⟩ <;> (first | assumption | infer_instance)) | (skip; done))); (case hy => (rintro wf ⟨hwa, hwb, hwc, hwd, hwe⟩; (((apply opv_indexAddr); ((conv => lhs; whnf) <;> exact rfl); exact rfl; infer_instance; (first | omega | (simp only [List.length_map]; omega)); (first | omega | (simp only [List.length_map]; omega)))))))
      ((apply (tk 7)); (case hi => exact rfl); (case hf => kernel_rfl); (case hS => (first | exact trivial | assumption | infer_instance | (refine ⟨?_, ?_, ?_, ?_, ?_⟩ <;> (first | assumption | infer_instance)) | (skip; done))); (case hy => (rintro wf ⟨hwa, hwb, hwc, hwd, hwe⟩; (((apply opv_ld_el); exact rfl; exact rfl; infer_instance; assumption; exact rfl)))))
      refine vA_two 8 9 rfl rfl (by kernel_rfl) (by (first | exact trivial | assumption | infer_instance | (refine ⟨?_, ?_, ?_, ?_, ?_⟩ <;> (first | assumption | infer_instance)) | (skip; done))) (fun K hK => ?_) (fun K hK => ?_)
      · refine vL_callF rfl (pw_close S11.drew hdch) rfl ?_
        rintro _ w8 ⟨rfl, k3, h3, S18⟩
        have e5z := pw_bx S18 (h3 _ m5)
        have e6z := pw_bx S18 (h3 _ m6)
        have e10z := pw_bx S18 (h3 _ m10)
        rw [do5] at e10z
        have sz := see S18
        have szw := sz.1
        have szo := sz.2.1
        refine vL_nil ⟨rfl, hK _ _ ?_⟩
        refine vA_only 9 rfl (by kernel_rfl) (by (first | exact trivial | assumption | infer_instance | (refine ⟨?_, ?_, ?_, ?_, ?_⟩ <;> (first | assumption | infer_instance)) | (skip; done))) (fun K hK => ?_)
        (((apply vL_val); (case h => (apply opw_alloc))); apply vL_nil)
        refine ⟨rfl, hK _ _ ?_⟩
        refine vA_only 10 rfl (by kernel_rfl) (by (first | exact trivial | assumption | infer_instance | (refine ⟨?_, ?_, ?_, ?_, ?_⟩ <;> (first | assumption | infer_instance)) | (skip; done))) (fun K hK => ?_)
        (((apply vL_skip); (case h => ((apply ops_store1); exact norm_eq rfl; exact norm_eq rfl; (first | rfl | assumption); infer_instance; (first | decide | exact of_decide_eq_true rfl | (simp; done))))); apply vL_nil)
        refine ⟨rfl, hK _ _ ?_⟩
        refine vA_done (by kernel_rfl) (by (first | exact trivial | assumption | infer_instance | (refine ⟨?_, ?_, ?_, ?_, ?_⟩ <;> (first | assumption | infer_instance)) | (skip; done))) ?_
        exact ⟨rfl, by ((apply same_updN; (iterate 10 (((refine same_updO ?_ ?_); rotate_left; exact rfl)))); exact fun _ _ => rfl), _, k3, rfl, h3, S18.alloc.set⟩
      · (((apply vL_val); (case h => (apply opw_alloc))); apply vL_nil)
        refine ⟨rfl, hK _ _ ?_⟩
        have S17 := (S11.drew.alloc (cs := [.int .i64 0]) (T := 29)).ac (show _ = PWA (L16 wb) rb (some i) rest k2 S * (Pt w5.drew.heap.size [.int .i64 0] 29 * R1) by ac_rfl)
        refine tkc 8 rfl (by kernel_rfl) (by (first | exact trivial | assumption | infer_instance | (refine ⟨?_, ?_, ?_, ?_, ?_⟩ <;> (first | assumption | infer_instance)) | (skip; done))) rfl (pw_close S17 hdch) rfl ?_
        rintro _ w8 ⟨rfl, k3, h3, S19⟩
        have S20 := S19.ac (show _ = Pt w5.drew.heap.size [.int .i64 0] 29 * (PWA (L16 wb) rb (some i) rest k3 (S.close dd.c.toNat).1 * R1) by ac_rfl)
        have hbE := S20.blk
        have S18 := S20.drop
        generalize w5.drew.heap.size = bE at *
        have e5z := pw_bx S18 (h3 _ m5)
        have e6z := pw_bx S18 (h3 _ m6)
        have e10z := pw_bx S18 (h3 _ m10)
        rw [do5] at e10z
        have sz := see S18
        have szw := sz.1
        have szo := sz.2.1
        refine vA_only 10 rfl (by kernel_rfl) (by (first | exact trivial | assumption | infer_instance | (refine ⟨?_, ?_, ?_, ?_, ?_⟩ <;> (first | assumption | infer_instance)) | (skip; done))) (fun K hK => ?_)
        (((apply vL_skip); (case h => ((apply ops_store1); exact norm_eq rfl; exact norm_eq rfl; (first | rfl | assumption); assumption; (first | decide | exact of_decide_eq_true rfl | (simp; done))))); apply vL_nil)
        refine ⟨rfl, hK _ _ ?_⟩
        have S21 := S20.set (cs' := [.int .i64 (if (S.close dd.c.toNat).2 then 0 else 150)])
        have S18 := S21.drop
        have e5z := pw_bx S18 (h3 _ m5)
        have e6z := pw_bx S18 (h3 _ m6)
        have e10z := pw_bx S18 (h3 _ m10)
        rw [do5] at e10z
        have sz := see S18
        have szw := sz.1
        have szo := sz.2.1
        refine vA_done (by kernel_rfl) (by (first | exact trivial | assumption | infer_instance | (refine ⟨?_, ?_, ?_, ?_, ?_⟩ <;> (first | assumption | infer_instance)) | (skip; done))) ?_
        exact ⟨rfl, by ((apply same_updN; (iterate 10 (((refine same_updO ?_ ?_); rotate_left; exact rfl)))); exact fun _ _ => rfl), _, k3, rfl, h3, S21⟩
    rintro junk8 _ w6 ⟨eb, k3, rfl, h3, S12⟩
    have S13 := pw_box S12
    have mE : (eb, [.int .i64 (if (S.close dd.c.toNat).2 then 0 else 150)], 29) ∈ ((eb, [.int .i64 (if (S.close dd.c.toNat).2 then 0 else 150)], 29) :: k3 : List Bx) := List.mem_cons_self
    have h4 : ∀ b ∈ k2, b ∈ ((eb, [.int .i64 (if (S.close dd.c.toNat).2 then 0 else 150)], 29) :: k3 : List Bx) := fun b hb => List.mem_cons_of_mem _ (h3 b hb)
    generalize ((eb, [.int .i64 (if (S.close dd.c.toNat).2 then 0 else 150)], 29) :: k3 : List Bx) = k4 at S13 mE h4
    have hck := close_keep dd.c.toNat hi (rfl : (St.run : St K16).waits = false)
    have ht3 : (S.close dd.c.toNat).1.tbs[i]? = some tb := by rw [hck.2]; exact ht
    have hte : (⟨0, 0, (S.close dd.c.toNat).2⟩ : To) = ⟨0, 0, decide ((if (S.close dd.c.toNat).2 then (0 : Int) else 150) = 0)⟩ := by cases (S.close dd.c.toNat).2 <;> rfl
    have e5b := pw_bx S13 (h4 _ m5)
    have e6b := pw_bx S13 (h4 _ m6)
    first | with_reducible apply vC_seq | with_reducible apply vC_region | with_reducible apply seqP_normal | with_reducible apply vC_block | with_reducible apply vC_ret | with_reducible apply vC_skip | with_reducible apply vC_exit | with_reducible apply seqP_ret | with_reducible apply seqP_exit | with_reducible apply blockP_normal | with_reducible apply blockP_ret | with_reducible apply blockP_exit | ((with_reducible apply blockP_pass); exact rfl) | with_reducible apply loopP_normal | with_reducible apply vL_ac | with_reducible apply vL_an | with_reducible apply loopP_ret | with_reducible apply loopP_exit | ((with_reducible apply vC_cond_true); exact rfl) | ((with_reducible apply vC_cond_false); exact rfl) | with_reducible apply vC_scope | with_reducible apply gotoP_normal | with_reducible apply gotoP_ret | with_reducible apply gotoP_exit | with_reducible apply vC_label
    refine vC_draw' ((fun wf => Blk wf.heap b5 [pt wb] 53 ∧ Blk wf.heap b6 [pt tb] 34)) (by (first | exact trivial | assumption | infer_instance | (refine ⟨?_, ?_⟩ <;> (first | assumption | infer_instance)) | (skip; done))) ?_
    ((apply (tk 0)); (case hi => exact rfl); (case hf => kernel_rfl); (case hS => (first | exact trivial | assumption | infer_instance | (refine ⟨?_, ?_⟩ <;> (first | assumption | infer_instance)) | (skip; done))); (case hy => (rintro wf ⟨hwa, hwb⟩; (((apply opv_loadb1); exact rfl; exact rfl; assumption; exact rfl)))))
    ((apply (tk 1)); (case hi => exact rfl); (case hf => kernel_rfl); (case hS => (first | exact trivial | assumption | infer_instance | (refine ⟨?_, ?_⟩ <;> (first | assumption | infer_instance)) | (skip; done))); (case hy => (rintro wf ⟨hwa, hwb⟩; (((apply opv_loadb1); exact rfl; exact rfl; assumption; exact rfl)))))
    ((apply (tk 2)); (case hi => exact rfl); (case hf => kernel_rfl); (case hS => (first | exact trivial | assumption | infer_instance | (refine ⟨?_, ?_⟩ <;> (first | assumption | infer_instance)) | (skip; done))); (case hy => (rintro wf ⟨hwa, hwb⟩; (((apply opv_makeFunc); exact rfl)))))
    refine tkc 3 rfl (by kernel_rfl) (by (first | exact trivial | assumption | infer_instance | (refine ⟨?_, ?_⟩ <;> (first | assumption | infer_instance)) | (skip; done))) rfl (pw_yield (S13.drew) (hck.1) (ht3) _ _ (k16 tb prog pos ⟨0, 0, (S.close dd.c.toNat).2⟩) ⟨rfl, .y5 b11 eb _ (nx _ _ h4) mE hte⟩) rfl ?_
    rintro _ w8 ⟨rfl, S18⟩
    have e5z := pw_bx S18 (h4 _ m5)
    have e6z := pw_bx S18 (h4 _ m6)
    refine tkc 4 rfl (by kernel_rfl) (by (first | exact trivial | assumption | infer_instance | (refine ⟨?_, ?_⟩ <;> (first | assumption | infer_instance)) | (skip; done))) rfl (w_need (shut S18)) rfl ?_
    rintro _ w9 S19
    have S20 := S19.ac (show _ = PWA (L16 wb) rb (some i) rest k4 ((S.close dd.c.toNat).1.yield i (k16 tb prog pos ⟨0, 0, (S.close dd.c.toNat).2⟩)) * (WA wb rb vp (S.cs.map (·.cb)) tl (el ++ [nw]) false * R) by ac_rfl)
    have e5y := pw_bx S20 (h4 _ m5)
    have e6y := pw_bx S20 (h4 _ m6)
    refine vA_done (by kernel_rfl) (by (first | exact trivial | assumption | infer_instance | (refine ⟨?_, ?_⟩ <;> (first | assumption | infer_instance)) | (skip; done))) ?_
    (apply blockP_normal)
    (first | apply ret0 | apply ret0n)
    exact ⟨k4, fun b hb => h4 b (hkk b hb), S20⟩
  by_cases c6 : dd.k = 6
  · have e1 : act16 S i tb prog pos dd = (S.trySend dd.c.toNat dd.v).1.yield i (k16 tb prog pos ⟨0, 0, (S.trySend dd.c.toNat dd.v).2.1⟩) := by unfold act16; rw [if_neg c1, if_neg c2, if_neg c3, if_neg c4, if_pos c6]
    rw [e1]
    obtain ⟨hc0, hc1⟩ := hdc (by omega)
    obtain ⟨dch, hdch⟩ : ∃ y, S.cs[dd.c.toNat]? = some y := ⟨_, List.getElem?_eq_getElem (by omega)⟩
    have hcl : (S.cs.map (·.cb))[dd.c.toNat]? = some dch.cb := by rw [List.getElem?_map, hdch]; rfl
    have hlen : (S.cs.map (·.cb)).length = S.cs.length := List.length_map ..
    have sa := see S11
    have saw := sa.1
    have sao := sa.2.1
    have sao1 := sa.2.2
    have sar := sao.rd
    ((iterate 30 (first | with_reducible apply vC_seq | with_reducible apply vC_region | with_reducible apply seqP_normal | ((with_reducible apply vL_val); (case h => ((with_reducible apply opv_E); exact rfl))) | with_reducible apply vL_nil | (refine vC_cond_dec rfl (fun _ => ?_) (fun h => by omega)) | (refine vC_cond_dec rfl (fun h => by omega) (fun _ => ?_)))))
    refine vC_meetV2 10888371127472138372891535534286442618880 13 14 (fun v u w' => ∃ ob kb', v = pt ob ∧ u = .bool (S.trySend dd.c.toNat dd.v).2.2 ∧ (∀ b ∈ k2, b ∈ kb') ∧ At (Pt ob [.bool (S.trySend dd.c.toNat dd.v).2.1] 4 * (PWA (L16 wb) rb (some i) rest kb' (S.trySend dd.c.toNat dd.v).1 * R1)) w0 No w') ?_ ?_
    · refine vC_draw' ((fun wf => Blk wf.heap b5 [pt wb] 53 ∧ Blk wf.heap b6 [pt tb] 34 ∧ Blk wf.heap b10 [.int .i64 dd.k, .int .i64 dd.c, .int .i64 dd.v, dd.cs.1, .bool dd.df] 167 ∧ Blk wf.heap wb [pt rb, vp, cv, tv, ev', .bool false] 61 ∧ Own wf.heap 28 1 ptE cv (S.cs.map (·.cb)))) (by (first | exact trivial | assumption | infer_instance | (refine ⟨?_, ?_, ?_, ?_, ?_⟩ <;> (first | assumption | infer_instance)) | (skip; done))) ?_
      ((apply (tk 0)); (case hi => exact rfl); (case hf => kernel_rfl); (case hS => (first | exact trivial | assumption | infer_instance | (refine ⟨?_, ?_, ?_, ?_, ?_⟩ <;> (first | assumption | infer_instance)) | (skip; done))); (case hy => (rintro wf ⟨hwa, hwb, hwc, hwd, hwe⟩; (((apply opv_loadb1); exact rfl; exact rfl; assumption; exact rfl)))))
      ((apply (tk 1)); (case hi => exact rfl); (case hf => kernel_rfl); (case hS => (first | exact trivial | assumption | infer_instance | (refine ⟨?_, ?_, ?_, ?_, ?_⟩ <;> (first | assumption | infer_instance)) | (skip; done))); (case hy => (rintro wf ⟨hwa, hwb, hwc, hwd, hwe⟩; (((apply opv_E); exact rfl)))))
      ((apply (tk 2)); (case hi => exact rfl); (case hf => kernel_rfl); (case hS => (first | exact trivial | assumption | infer_instance | (refine ⟨?_, ?_, ?_, ?_, ?_⟩ <;> (first | assumption | infer_instance)) | (skip; done))); (case hy => (rintro wf ⟨hwa, hwb, hwc, hwd, hwe⟩; (((apply opv_fieldAddr); exact rfl)))))
      ((apply (tk 3)); (case hi => exact rfl); (case hf => kernel_rfl); (case hS => (first | exact trivial | assumption | infer_instance | (refine ⟨?_, ?_, ?_, ?_, ?_⟩ <;> (first | assumption | infer_instance)) | (skip; done))); (case hy => (rintro wf ⟨hwa, hwb, hwc, hwd, hwe⟩; (((apply opv_loadb1); exact rfl; exact rfl; assumption; exact rfl)))))
      ((apply (tk 4)); (case hi => exact rfl); (case hf => kernel_rfl); (case hS => (first | exact trivial | assumption | infer_instance | (refine ⟨?_, ?_, ?_, ?_, ?_⟩ <;> (first | assumption | infer_instance)) | (skip; done))); (case hy => (rintro wf ⟨hwa, hwb, hwc, hwd, hwe⟩; (((apply opv_fieldAddr); exact rfl)))))
      ((apply (tk 5)); (case hi => exact rfl); (case hf => kernel_rfl); (case hS => (first | exact trivial | assumption | infer_instance | (refine ⟨?_, ?_, ?_, ?_, ?_⟩ <;> (first | assumption | infer_instance)) | (skip; done))); (case hy => (rintro wf ⟨hwa, hwb, hwc, hwd, hwe⟩; (((apply opv_loadb1); exact rfl; exact rfl; assumption; exact rfl)))))
      ((apply (tk 6)); (case hi => exact rfl); (case hf => kernel_rfl); (case hS => (first | exact trivial | assumption | infer_instance | (refine ⟨?_, ?_, ?_, ?_, ?_⟩ <;> (first | assumption | infer_instance)) | (skip; done))); (case hy => (rintro wf ⟨hwa, hwb, hwc, hwd, hwe⟩; (((apply opv_indexAddr); ((conv => lhs; whnf) <;> exact rfl); exact rfl; infer_instance; (first | omega | (simp only [List.length_map]; omega)); (first | omega | (simp only [List.length_map]; omega)))))))
      ((apply (tk 7)); (case hi => exact rfl); (case hf => kernel_rfl); (case hS => (first | exact trivial | assumption | infer_instance | (refine ⟨?_, ?_, ?_, ?_, ?_⟩ <;> (first | assumption | infer_instance)) | (skip; done))); (case hy => (rintro wf ⟨hwa, hwb, hwc, hwd, hwe⟩; (((apply opv_ld_el); exact rfl; exact rfl; infer_instance; assumption; exact rfl)))))
      ((apply (tk 8)); (case hi => exact rfl); (case hf => kernel_rfl); (case hS => (first | exact trivial | assumption | infer_instance | (refine ⟨?_, ?_, ?_, ?_, ?_⟩ <;> (first | assumption | infer_instance)) | (skip; done))); (case hy => (rintro wf ⟨hwa, hwb, hwc, hwd, hwe⟩; (((apply opv_fieldAddr); exact rfl)))))
      ((apply (tk 9)); (case hi => exact rfl); (case hf => kernel_rfl); (case hS => (first | exact trivial | assumption | infer_instance | (refine ⟨?_, ?_, ?_, ?_, ?_⟩ <;> (first | assumption | infer_instance)) | (skip; done))); (case hy => (rintro wf ⟨hwa, hwb, hwc, hwd, hwe⟩; (((apply opv_loadb1); exact rfl; exact rfl; assumption; exact rfl)))))
      refine vA_two 10 14 rfl rfl (by kernel_rfl) (by (first | exact trivial | assumption | infer_instance | (refine ⟨?_, ?_, ?_, ?_, ?_⟩ <;> (first | assumption | infer_instance)) | (skip; done))) (fun K hK => ?_) (fun K hK => ?_)
      · refine vL_callF rfl (pw_trysend S11.drew hdch dd.v) rfl ?_
        rintro _ w8 ⟨rfl, k3, h3, S18⟩
        have e5z := pw_bx S18 (h3 _ m5)
        have e6z := pw_bx S18 (h3 _ m6)
        have e10z := pw_bx S18 (h3 _ m10)
        rw [do5] at e10z
        have sz := see S18
        have szw := sz.1
        have szo := sz.2.1
        refine vL_nil ⟨rfl, hK _ _ ?_⟩
        ((apply (tk 11)); (case hi => exact rfl); (case hf => kernel_rfl); (case hS => (first | exact trivial | assumption | infer_instance | (refine ⟨?_, ?_, ?_, ?_, ?_⟩ <;> (first | assumption | infer_instance)) | (skip; done))); (case hy => (rintro wf ⟨hwa, hwb, hwc, hwd, hwe⟩; (((apply opv_E); exact rfl)))))
        ((apply (tk 12)); (case hi => exact rfl); (case hf => kernel_rfl); (case hS => (first | exact trivial | assumption | infer_instance | (refine ⟨?_, ?_, ?_, ?_, ?_⟩ <;> (first | assumption | infer_instance)) | (skip; done))); (case hy => (rintro wf ⟨hwa, hwb, hwc, hwd, hwe⟩; (((apply opv_E); exact rfl)))))
        ((apply (tk 13)); (case hi => exact rfl); (case hf => kernel_rfl); (case hS => (first | exact trivial | assumption | infer_instance | (refine ⟨?_, ?_, ?_, ?_, ?_⟩ <;> (first | assumption | infer_instance)) | (skip; done))); (case hy => (rintro wf ⟨hwa, hwb, hwc, hwd, hwe⟩; (((apply opv_E); exact rfl)))))
        refine vA_only 14 rfl (by kernel_rfl) (by (first | exact trivial | assumption | infer_instance | (refine ⟨?_, ?_, ?_, ?_, ?_⟩ <;> (first | assumption | infer_instance)) | (skip; done))) (fun K hK => ?_)
        (((apply vL_val); (case h => (apply opw_alloc))); apply vL_nil)
        refine ⟨rfl, hK _ _ ?_⟩
        refine vA_only 15 rfl (by kernel_rfl) (by (first | exact trivial | assumption | infer_instance | (refine ⟨?_, ?_, ?_, ?_, ?_⟩ <;> (first | assumption | infer_instance)) | (skip; done))) (fun K hK => ?_)
        (((apply vL_skip); (case h => ((apply ops_store1); exact norm_eq rfl; exact norm_eq rfl; (first | rfl | assumption); infer_instance; (first | decide | exact of_decide_eq_true rfl | (simp; done))))); apply vL_nil)
        refine ⟨rfl, hK _ _ ?_⟩
        ((apply (tk 16)); (case hi => exact rfl); (case hf => kernel_rfl); (case hS => (first | exact trivial | assumption | infer_instance | (refine ⟨?_, ?_, ?_, ?_, ?_⟩ <;> (first | assumption | infer_instance)) | (skip; done))); (case hy => (rintro wf ⟨hwa, hwb, hwc, hwd, hwe⟩; (((apply opv_E); exact rfl)))))
        refine vA_done (by kernel_rfl) (by (first | exact trivial | assumption | infer_instance | (refine ⟨?_, ?_, ?_, ?_, ?_⟩ <;> (first | assumption | infer_instance)) | (skip; done))) ?_
        exact ⟨rfl, by ((((refine same_updO ?_ ?_); rotate_left; exact rfl); apply same_updN; (iterate 15 (((refine same_updO ?_ ?_); rotate_left; exact rfl)))); exact fun _ _ => rfl), _, k3, rfl, rfl, h3, S18.alloc.set⟩
      · (((apply vL_val); (case h => (apply opw_alloc))); apply vL_nil)
        refine ⟨rfl, hK _ _ ?_⟩
        have S17 := (S11.drew.alloc (cs := [.bool false]) (T := 4)).ac (show _ = PWA (L16 wb) rb (some i) rest k2 S * (Pt w5.drew.heap.size [.bool false] 4 * R1) by ac_rfl)
        refine tkc 10 rfl (by kernel_rfl) (by (first | exact trivial | assumption | infer_instance | (refine ⟨?_, ?_, ?_, ?_, ?_⟩ <;> (first | assumption | infer_instance)) | (skip; done))) rfl (pw_trysend S17 hdch dd.v) rfl ?_
        rintro _ w8 ⟨rfl, k3, h3, S19⟩
        have S20 := S19.ac (show _ = Pt w5.drew.heap.size [.bool false] 4 * (PWA (L16 wb) rb (some i) rest k3 (S.trySend dd.c.toNat dd.v).1 * R1) by ac_rfl)
        have hbE := S20.blk
        have S18 := S20.drop
        generalize w5.drew.heap.size = bE at *
        have e5z := pw_bx S18 (h3 _ m5)
        have e6z := pw_bx S18 (h3 _ m6)
        have e10z := pw_bx S18 (h3 _ m10)
        rw [do5] at e10z
        have sz := see S18
        have szw := sz.1
        have szo := sz.2.1
        ((apply (tk 11)); (case hi => exact rfl); (case hf => kernel_rfl); (case hS => (first | exact trivial | assumption | infer_instance | (refine ⟨?_, ?_, ?_, ?_, ?_⟩ <;> (first | assumption | infer_instance)) | (skip; done))); (case hy => (rintro wf ⟨hwa, hwb, hwc, hwd, hwe⟩; (((apply opv_E); exact rfl)))))
        ((apply (tk 12)); (case hi => exact rfl); (case hf => kernel_rfl); (case hS => (first | exact trivial | assumption | infer_instance | (refine ⟨?_, ?_, ?_, ?_, ?_⟩ <;> (first | assumption | infer_instance)) | (skip; done))); (case hy => (rintro wf ⟨hwa, hwb, hwc, hwd, hwe⟩; (((apply opv_E); exact rfl)))))
        ((apply (tk 13)); (case hi => exact rfl); (case hf => kernel_rfl); (case hS => (first | exact trivial | assumption | infer_instance | (refine ⟨?_, ?_, ?_, ?_, ?_⟩ <;> (first | assumption | infer_instance)) | (skip; done))); (case hy => (rintro wf ⟨hwa, hwb, hwc, hwd, hwe⟩; (((apply opv_E); exact rfl)))))
        refine vA_only 15 rfl (by kernel_rfl) (by (first | exact trivial | assumption | infer_instance | (refine ⟨?_, ?_, ?_, ?_, ?_⟩ <;> (first | assumption | infer_instance)) | (skip; done))) (fun K hK => ?_)
        (((apply vL_skip); (case h => ((apply ops_store1); exact norm_eq rfl; exact norm_eq rfl; (first | rfl | assumption); assumption; (first | decide | exact of_decide_eq_true rfl | (simp; done))))); apply vL_nil)
        refine ⟨rfl, hK _ _ ?_⟩
        have S21 := S20.set (cs' := [.bool (S.trySend dd.c.toNat dd.v).2.1])
        have S18 := S21.drop
        have e5z := pw_bx S18 (h3 _ m5)
        have e6z := pw_bx S18 (h3 _ m6)
        have e10z := pw_bx S18 (h3 _ m10)
        rw [do5] at e10z
        have sz := see S18
        have szw := sz.1
        have szo := sz.2.1
        ((apply (tk 16)); (case hi => exact rfl); (case hf => kernel_rfl); (case hS => (first | exact trivial | assumption | infer_instance | (refine ⟨?_, ?_, ?_, ?_, ?_⟩ <;> (first | assumption | infer_instance)) | (skip; done))); (case hy => (rintro wf ⟨hwa, hwb, hwc, hwd, hwe⟩; (((apply opv_E); exact rfl)))))
        refine vA_done (by kernel_rfl) (by (first | exact trivial | assumption | infer_instance | (refine ⟨?_, ?_, ?_, ?_, ?_⟩ <;> (first | assumption | infer_instance)) | (skip; done))) ?_
        exact ⟨rfl, by ((((refine same_updO ?_ ?_); rotate_left; exact rfl); apply same_updN; (iterate 15 (((refine same_updO ?_ ?_); rotate_left; exact rfl)))); exact fun _ _ => rfl), _, k3, rfl, rfl, h3, S21⟩
    rintro junk8 _ _ w6 ⟨ob, k3, rfl, rfl, h3, S12⟩
    have hcan : (S.trySend dd.c.toNat dd.v).2.1 = true → (S.trySend dd.c.toNat dd.v).2.2 = true := trySend_can _ _ _
    have htr := trySend_keep (j := dd.c.toNat) (v := dd.v) hi (rfl : (St.run : St K16).waits = false)
    have ht3 : (S.trySend dd.c.toNat dd.v).1.tbs[i]? = some tb := by rw [trySend_tbs]; exact ht
    have S13 := pw_box S12
    have mE : (ob, [.bool (S.trySend dd.c.toNat dd.v).2.1], 4) ∈ ((ob, [.bool (S.trySend dd.c.toNat dd.v).2.1], 4) :: k3 : List Bx) := List.mem_cons_self
    have h4 : ∀ b ∈ k2, b ∈ ((ob, [.bool (S.trySend dd.c.toNat dd.v).2.1], 4) :: k3 : List Bx) := fun b hb => List.mem_cons_of_mem _ (h3 b hb)
    generalize ((ob, [.bool (S.trySend dd.c.toNat dd.v).2.1], 4) :: k3 : List Bx) = k4 at S13 mE h4
    have e5b := pw_bx S13 (h4 _ m5)
    have e6b := pw_bx S13 (h4 _ m6)
    have eob := pw_bx S13 mE
    have sb := (see S13).1
    clear S12
    generalize hts : S.trySend dd.c.toNat dd.v = rr at *
    obtain ⟨S', okk, can⟩ := rr
    simp only [] at *
    (apply seqP_normal; apply vC_seq)
    refine vC_meet0 178395072552503515101454918193749075465076736 (fun w' => At (PWA (L16 wb) rb (some i) rest k4 S' * R1) w0 No w') ?_ ?_
    · refine vC_draw' ((fun wf => Blk wf.heap b5 [pt wb] 53 ∧ Blk wf.heap ob [.bool okk] 4 ∧ Blk wf.heap wb [pt rb, vp, cv, tv, ev', .bool false] 61)) (by (first | exact trivial | assumption | infer_instance | (refine ⟨?_, ?_, ?_⟩ <;> (first | assumption | infer_instance)) | (skip; done))) ?_
      ((apply (tk 0)); (case hi => exact rfl); (case hf => kernel_rfl); (case hS => (first | exact trivial | assumption | infer_instance | (refine ⟨?_, ?_, ?_⟩ <;> (first | assumption | infer_instance)) | (skip; done))); (case hy => (rintro wf ⟨hwa, hwb, hwc⟩; (((apply opv_loadb1); exact rfl; exact rfl; assumption; exact rfl)))))
      ((apply (tk 1)); (case hi => exact rfl); (case hf => kernel_rfl); (case hS => (first | exact trivial | assumption | infer_instance | (refine ⟨?_, ?_, ?_⟩ <;> (first | assumption | infer_instance)) | (skip; done))); (case hy => (rintro wf ⟨hwa, hwb, hwc⟩; (((apply opv_loadb1); exact rfl; exact rfl; assumption; exact rfl)))))
      ((apply (tk 2)); (case hi => exact rfl); (case hf => kernel_rfl); (case hS => (first | exact trivial | assumption | infer_instance | (refine ⟨?_, ?_, ?_⟩ <;> (first | assumption | infer_instance)) | (skip; done))); (case hy => (rintro wf ⟨hwa, hwb, hwc⟩; (((apply opv_E); exact rfl)))))
      ((apply (tk 3)); (case hi => exact rfl); (case hf => kernel_rfl); (case hS => (first | exact trivial | assumption | infer_instance | (refine ⟨?_, ?_, ?_⟩ <;> (first | assumption | infer_instance)) | (skip; done))); (case hy => (rintro wf ⟨hwa, hwb, hwc⟩; (((apply opv_fieldAddr); exact rfl)))))
      ((apply (tk 4)); (case hi => exact rfl); (case hf => kernel_rfl); (case hS => (first | exact trivial | assumption | infer_instance | (refine ⟨?_, ?_, ?_⟩ <;> (first | assumption | infer_instance)) | (skip; done))); (case hy => (rintro wf ⟨hwa, hwb, hwc⟩; (((apply opv_loadb1); exact rfl; exact rfl; assumption; exact rfl)))))
      ((apply (tk 5)); (case hi => exact rfl); (case hf => kernel_rfl); (case hS => (first | exact trivial | assumption | infer_instance | (refine ⟨?_, ?_, ?_⟩ <;> (first | assumption | infer_instance)) | (skip; done))); (case hy => (rintro wf ⟨hwa, hwb, hwc⟩; (((apply opv_E); exact rfl)))))
      ((apply (tkw 6)); (case hi => exact rfl); (case hg => exact rfl); (case hf => kernel_rfl); (case hS => (first | exact trivial | assumption | infer_instance | (refine ⟨?_, ?_, ?_⟩ <;> (first | assumption | infer_instance)) | (skip; done))); (case hy => (rintro wf ⟨hwa, hwb, hwc⟩; (((apply opv_loadb1); exact rfl; exact rfl; assumption; exact rfl)))))
      ((apply (tkw 7)); (case hi => exact rfl); (case hg => exact rfl); (case hf => kernel_rfl); (case hS => (first | exact trivial | assumption | infer_instance | (refine ⟨?_, ?_, ?_⟩ <;> (first | assumption | infer_instance)) | (skip; done))); (case hy => (rintro wf ⟨hwa, hwb, hwc⟩; (((apply opv_E); exact rfl)))))
      cases okk with
      | true =>
        obtain rfl := hcan rfl
        ((apply (tkw 8)); (case hi => exact rfl); (case hg => exact rfl); (case hf => kernel_rfl); (case hS => (first | exact trivial | assumption | infer_instance | (refine ⟨?_, ?_, ?_⟩ <;> (first | assumption | infer_instance)) | (skip; done))); (case hy => (rintro wf ⟨hwa, hwb, hwc⟩; (((apply opv_E); exact rfl)))))
        ((apply (tkw 9)); (case hi => exact rfl); (case hg => exact rfl); (case hf => kernel_rfl); (case hS => (first | exact trivial | assumption | infer_instance | (refine ⟨?_, ?_, ?_⟩ <;> (first | assumption | infer_instance)) | (skip; done))); (case hy => (rintro wf ⟨hwa, hwb, hwc⟩; (((apply opv_not); exact rfl)))))
        ((apply (tkw 10)); (case hi => exact rfl); (case hg => exact rfl); (case hf => kernel_rfl); (case hS => (first | exact trivial | assumption | infer_instance | (refine ⟨?_, ?_, ?_⟩ <;> (first | assumption | infer_instance)) | (skip; done))); (case hy => (rintro wf ⟨hwa, hwb, hwc⟩; (((apply opv_E); exact rfl)))))
        ((apply (tk 11)); (case hi => exact rfl); (case hf => kernel_rfl); (case hS => (first | exact trivial | assumption | infer_instance | (refine ⟨?_, ?_, ?_⟩ <;> (first | assumption | infer_instance)) | (skip; done))); (case hy => (rintro wf ⟨hwa, hwb, hwc⟩; (((apply opv_E); exact rfl)))))
        ((apply (tk 12)); (case hi => exact rfl); (case hf => kernel_rfl); (case hS => (first | exact trivial | assumption | infer_instance | (refine ⟨?_, ?_, ?_⟩ <;> (first | assumption | infer_instance)) | (skip; done))); (case hy => (rintro wf ⟨hwa, hwb, hwc⟩; (((apply opv_E); exact rfl)))))
        ((apply (tk 13)); (case hi => exact rfl); (case hf => kernel_rfl); (case hS => (first | exact trivial | assumption | infer_instance | (refine ⟨?_, ?_, ?_⟩ <;> (first | assumption | infer_instance)) | (skip; done))); (case hy => (rintro wf ⟨hwa, hwb, hwc⟩; (((apply opv_fieldAddr); exact rfl)))))
        refine vA_only 14 rfl (by kernel_rfl) (by (first | exact trivial | assumption | infer_instance | (refine ⟨?_, ?_, ?_⟩ <;> (first | assumption | infer_instance)) | (skip; done))) (fun K hK => ?_)
        (((apply vL_skip); (case h => ((apply ops_store1); exact norm_eq rfl; exact norm_eq rfl; (first | rfl | assumption); assumption; (first | decide | exact of_decide_eq_true rfl | (simp; done))))); apply vL_nil)
        refine ⟨rfl, hK _ _ ?_⟩
        have S14 := (((S13.drew.swap.ac (by rw [hR1])).ac (star_assoc _ _ _)).set (cs' := [pt rb, vp, cv, tv, ev', .bool false])).ac (star_assoc _ _ _).symm |>.swap
        rw [← hR1] at S14
        have e5c := pw_bx S14 (h4 _ m5)
        have eoc := pw_bx S14 mE
        have sbc := (see S14).1
        refine vA_done (by kernel_rfl) (by (first | exact trivial | assumption | infer_instance | (refine ⟨?_, ?_, ?_⟩ <;> (first | assumption | infer_instance)) | (skip; done))) ?_
        exact ⟨rfl, by ((apply same_updN; (iterate 14 (((refine same_updO ?_ ?_); rotate_left; exact rfl)))); exact fun _ _ => rfl), S14⟩
      | false =>
        (refine tku 8 rfl rfl rfl (by kernel_rfl) (by (first | exact trivial | assumption | infer_instance | (refine ⟨?_, ?_, ?_⟩ <;> (first | assumption | infer_instance)) | (skip; done))) ?_)
        (refine tku 9 rfl rfl rfl (by kernel_rfl) (by (first | exact trivial | assumption | infer_instance | (refine ⟨?_, ?_, ?_⟩ <;> (first | assumption | infer_instance)) | (skip; done))) ?_)
        ((apply (tkw 10)); (case hi => exact rfl); (case hg => exact rfl); (case hf => kernel_rfl); (case hS => (first | exact trivial | assumption | infer_instance | (refine ⟨?_, ?_, ?_⟩ <;> (first | assumption | infer_instance)) | (skip; done))); (case hy => (rintro wf ⟨hwa, hwb, hwc⟩; (((apply opv_E); exact rfl)))))
        ((apply (tk 11)); (case hi => exact rfl); (case hf => kernel_rfl); (case hS => (first | exact trivial | assumption | infer_instance | (refine ⟨?_, ?_, ?_⟩ <;> (first | assumption | infer_instance)) | (skip; done))); (case hy => (rintro wf ⟨hwa, hwb, hwc⟩; (((apply opv_E); exact rfl)))))
        ((apply (tk 12)); (case hi => exact rfl); (case hf => kernel_rfl); (case hS => (first | exact trivial | assumption | infer_instance | (refine ⟨?_, ?_, ?_⟩ <;> (first | assumption | infer_instance)) | (skip; done))); (case hy => (rintro wf ⟨hwa, hwb, hwc⟩; (((apply opv_E); exact rfl)))))
        ((apply (tk 13)); (case hi => exact rfl); (case hf => kernel_rfl); (case hS => (first | exact trivial | assumption | infer_instance | (refine ⟨?_, ?_, ?_⟩ <;> (first | assumption | infer_instance)) | (skip; done))); (case hy => (rintro wf ⟨hwa, hwb, hwc⟩; (((apply opv_fieldAddr); exact rfl)))))
        refine vA_only 14 rfl (by kernel_rfl) (by (first | exact trivial | assumption | infer_instance | (refine ⟨?_, ?_, ?_⟩ <;> (first | assumption | infer_instance)) | (skip; done))) (fun K hK => ?_)
        (((apply vL_skip); (case h => ((apply ops_store1); exact norm_eq rfl; exact norm_eq rfl; (first | rfl | assumption); assumption; (first | decide | exact of_decide_eq_true rfl | (simp; done))))); apply vL_nil)
        refine ⟨rfl, hK _ _ ?_⟩
        have S14 := (((S13.drew.swap.ac (by rw [hR1])).ac (star_assoc _ _ _)).set (cs' := [pt rb, vp, cv, tv, ev', .bool false])).ac (star_assoc _ _ _).symm |>.swap
        rw [← hR1] at S14
        have e5c := pw_bx S14 (h4 _ m5)
        have eoc := pw_bx S14 mE
        have sbc := (see S14).1
        refine vA_done (by kernel_rfl) (by (first | exact trivial | assumption | infer_instance | (refine ⟨?_, ?_, ?_⟩ <;> (first | assumption | infer_instance)) | (skip; done))) ?_
        exact ⟨rfl, by ((apply same_updN; (iterate 14 (((refine same_updO ?_ ?_); rotate_left; exact rfl)))); exact fun _ _ => rfl), S14⟩
    clear e5b e6b eob sb S13
    rintro junk9 w6 S13
    have e5b := pw_bx S13 (h4 _ m5)
    have e6b := pw_bx S13 (h4 _ m6)
    first | with_reducible apply vC_seq | with_reducible apply vC_region | with_reducible apply seqP_normal | with_reducible apply vC_block | with_reducible apply vC_ret | with_reducible apply vC_skip | with_reducible apply vC_exit | with_reducible apply seqP_ret | with_reducible apply seqP_exit | with_reducible apply blockP_normal | with_reducible apply blockP_ret | with_reducible apply blockP_exit | ((with_reducible apply blockP_pass); exact rfl) | with_reducible apply loopP_normal | with_reducible apply vL_ac | with_reducible apply vL_an | with_reducible apply loopP_ret | with_reducible apply loopP_exit | ((with_reducible apply vC_cond_true); exact rfl) | ((with_reducible apply vC_cond_false); exact rfl) | with_reducible apply vC_scope | with_reducible apply gotoP_normal | with_reducible apply gotoP_ret | with_reducible apply gotoP_exit | with_reducible apply vC_label
    refine vC_draw' ((fun wf => Blk wf.heap b5 [pt wb] 53 ∧ Blk wf.heap b6 [pt tb] 34)) (by (first | exact trivial | assumption | infer_instance | (refine ⟨?_, ?_⟩ <;> (first | assumption | infer_instance)) | (skip; done))) ?_
    ((apply (tk 0)); (case hi => exact rfl); (case hf => kernel_rfl); (case hS => (first | exact trivial | assumption | infer_instance | (refine ⟨?_, ?_⟩ <;> (first | assumption | infer_instance)) | (skip; done))); (case hy => (rintro wf ⟨hwa, hwb⟩; (((apply opv_loadb1); exact rfl; exact rfl; assumption; exact rfl)))))
    ((apply (tk 1)); (case hi => exact rfl); (case hf => kernel_rfl); (case hS => (first | exact trivial | assumption | infer_instance | (refine ⟨?_, ?_⟩ <;> (first | assumption | infer_instance)) | (skip; done))); (case hy => (rintro wf ⟨hwa, hwb⟩; (((apply opv_loadb1); exact rfl; exact rfl; assumption; exact rfl)))))
    ((apply (tk 2)); (case hi => exact rfl); (case hf => kernel_rfl); (case hS => (first | exact trivial | assumption | infer_instance | (refine ⟨?_, ?_⟩ <;> (first | assumption | infer_instance)) | (skip; done))); (case hy => (rintro wf ⟨hwa, hwb⟩; (((apply opv_makeFunc); exact rfl)))))
    refine tkc 3 rfl (by kernel_rfl) (by (first | exact trivial | assumption | infer_instance | (refine ⟨?_, ?_⟩ <;> (first | assumption | infer_instance)) | (skip; done))) rfl (pw_yield (S13.drew) (htr) (ht3) _ _ (k16 tb prog pos ⟨0, 0, okk⟩) ⟨rfl, .y6 b11 ob okk (nx _ _ h4) mE rfl⟩) rfl ?_
    rintro _ w8 ⟨rfl, S18⟩
    have e5z := pw_bx S18 (h4 _ m5)
    have e6z := pw_bx S18 (h4 _ m6)
    refine tkc 4 rfl (by kernel_rfl) (by (first | exact trivial | assumption | infer_instance | (refine ⟨?_, ?_⟩ <;> (first | assumption | infer_instance)) | (skip; done))) rfl (w_need (shut S18)) rfl ?_
    rintro _ w9 S19
    have S20 := S19.ac (show _ = PWA (L16 wb) rb (some i) rest k4 (S'.yield i (k16 tb prog pos ⟨0, 0, okk⟩)) * (WA wb rb vp (S.cs.map (·.cb)) tl (el ++ [nw]) false * R) by ac_rfl)
    have e5y := pw_bx S20 (h4 _ m5)
    have e6y := pw_bx S20 (h4 _ m6)
    refine vA_done (by kernel_rfl) (by (first | exact trivial | assumption | infer_instance | (refine ⟨?_, ?_⟩ <;> (first | assumption | infer_instance)) | (skip; done))) ?_
    (apply blockP_normal)
    (first | apply ret0 | apply ret0n)
    exact ⟨k4, fun b hb => h4 b (hkk b hb), S20⟩
  by_cases c7 : dd.k = 7
  · have e1 : act16 S i tb prog pos dd = (S.tryRecv dd.c.toNat).1.yield i (k16 tb prog pos ⟨if (S.tryRecv dd.c.toNat).2.2.2 then 0 else 1, (S.tryRecv dd.c.toNat).2.1, (S.tryRecv dd.c.toNat).2.2.1⟩) := by unfold act16; rw [if_neg c1, if_neg c2, if_neg c3, if_neg c4, if_neg c6, if_pos c7]
    rw [e1]
    obtain ⟨hc0, hc1⟩ := hdc (by omega)
    obtain ⟨dch, hdch⟩ : ∃ y, S.cs[dd.c.toNat]? = some y := ⟨_, List.getElem?_eq_getElem (by omega)⟩
    have hcl : (S.cs.map (·.cb))[dd.c.toNat]? = some dch.cb := by rw [List.getElem?_map, hdch]; rfl
    have hlen : (S.cs.map (·.cb)).length = S.cs.length := List.length_map ..
    have sa := see S11
    have saw := sa.1
    have sao := sa.2.1
    have sao1 := sa.2.2
    have sar := sao.rd
    ((iterate 37 (first | with_reducible apply vC_seq | with_reducible apply vC_region | with_reducible apply seqP_normal | ((with_reducible apply vL_val); (case h => ((with_reducible apply opv_E); exact rfl))) | with_reducible apply vL_nil | (refine vC_cond_dec rfl (fun _ => ?_) (fun h => by omega)) | (refine vC_cond_dec rfl (fun h => by omega) (fun _ => ?_)))))
    refine vC_draw' ((fun wf => Blk wf.heap b5 [pt wb] 53 ∧ Blk wf.heap b6 [pt tb] 34 ∧ Blk wf.heap b10 [.int .i64 dd.k, .int .i64 dd.c, .int .i64 dd.v, dd.cs.1, .bool dd.df] 167 ∧ Blk wf.heap wb [pt rb, vp, cv, tv, ev', .bool false] 61 ∧ Own wf.heap 28 1 ptE cv (S.cs.map (·.cb)))) (by (first | exact trivial | assumption | infer_instance | (refine ⟨?_, ?_, ?_, ?_, ?_⟩ <;> (first | assumption | infer_instance)) | (skip; done))) ?_
    ((apply (tk 0)); (case hi => exact rfl); (case hf => kernel_rfl); (case hS => (first | exact trivial | assumption | infer_instance | (refine ⟨?_, ?_, ?_, ?_, ?_⟩ <;> (first | assumption | infer_instance)) | (skip; done))); (case hy => (rintro wf ⟨hwa, hwb, hwc, hwd, hwe⟩; (((apply opv_loadb1); exact rfl; exact rfl; assumption; exact rfl)))))
    ((apply (tk 1)); (case hi => exact rfl); (case hf => kernel_rfl); (case hS => (first | exact trivial | assumption | infer_instance | (refine ⟨?_, ?_, ?_, ?_, ?_⟩ <;> (first | assumption | infer_instance)) | (skip; done))); (case hy => (rintro wf ⟨hwa, hwb, hwc, hwd, hwe⟩; (((apply opv_E); exact rfl)))))
    ((apply (tk 2)); (case hi => exact rfl); (case hf => kernel_rfl); (case hS => (first | exact trivial | assumption | infer_instance | (refine ⟨?_, ?_, ?_, ?_, ?_⟩ <;> (first | assumption | infer_instance)) | (skip; done))); (case hy => (rintro wf ⟨hwa, hwb, hwc, hwd, hwe⟩; (((apply opv_fieldAddr); exact rfl)))))
    ((apply (tk 3)); (case hi => exact rfl); (case hf => kernel_rfl); (case hS => (first | exact trivial | assumption | infer_instance | (refine ⟨?_, ?_, ?_, ?_, ?_⟩ <;> (first | assumption | infer_instance)) | (skip; done))); (case hy => (rintro wf ⟨hwa, hwb, hwc, hwd, hwe⟩; (((apply opv_loadb1); exact rfl; exact rfl; assumption; exact rfl)))))
    ((apply (tk 4)); (case hi => exact rfl); (case hf => kernel_rfl); (case hS => (first | exact trivial | assumption | infer_instance | (refine ⟨?_, ?_, ?_, ?_, ?_⟩ <;> (first | assumption | infer_instance)) | (skip; done))); (case hy => (rintro wf ⟨hwa, hwb, hwc, hwd, hwe⟩; (((apply opv_fieldAddr); exact rfl)))))
    ((apply (tk 5)); (case hi => exact rfl); (case hf => kernel_rfl); (case hS => (first | exact trivial | assumption | infer_instance | (refine ⟨?_, ?_, ?_, ?_, ?_⟩ <;> (first | assumption | infer_instance)) | (skip; done))); (case hy => (rintro wf ⟨hwa, hwb, hwc, hwd, hwe⟩; (((apply opv_loadb1); exact rfl; exact rfl; assumption; exact rfl)))))
    ((apply (tk 6)); (case hi => exact rfl); (case hf => kernel_rfl); (case hS => (first | exact trivial | assumption | infer_instance | (refine ⟨?_, ?_, ?_, ?_, ?_⟩ <;> (first | assumption | infer_instance)) | (skip; done))); (case hy => (rintro wf ⟨hwa, hwb, hwc, hwd, hwe⟩; (((apply opv_indexAddr); ((conv => lhs; whnf) <;> exact rfl); exact rfl; infer_instance; (first | omega | (simp only [List.length_map]; omega)); (first | omega | (simp only [List.length_map]; omega)))))))
    ((apply (tk 7)); (case hi => exact rfl); (case hf => kernel_rfl); (case hS => (first | exact trivial | assumption | infer_instance | (refine ⟨?_, ?_, ?_, ?_, ?_⟩ <;> (first | assumption | infer_instance)) | (skip; done))); (case hy => (rintro wf ⟨hwa, hwb, hwc, hwd, hwe⟩; (((apply opv_ld_el); exact rfl; exact rfl; infer_instance; assumption; exact rfl)))))
    refine tkc 8 rfl (by kernel_rfl) (by (first | exact trivial | assumption | infer_instance | (refine ⟨?_, ?_, ?_, ?_, ?_⟩ <;> (first | assumption | infer_instance)) | (skip; done))) rfl (pw_tryrecv S11.drew hdch) rfl ?_
    rintro _ w8 ⟨rfl, k3, h3, S18⟩
    have e5z := pw_bx S18 (h3 _ m5)
    have e6z := pw_bx S18 (h3 _ m6)
    have e10z := pw_bx S18 (h3 _ m10)
    rw [do5] at e10z
    have sz := see S18
    have szw := sz.1
    have szo := sz.2.1
    ((apply (tk 9)); (case hi => exact rfl); (case hf => kernel_rfl); (case hS => (first | exact trivial | assumption | infer_instance | (refine ⟨?_, ?_, ?_, ?_, ?_⟩ <;> (first | assumption | infer_instance)) | (skip; done))); (case hy => (rintro wf ⟨hwa, hwb, hwc, hwd, hwe⟩; (((apply opv_E); exact rfl)))))
    ((apply (tk 10)); (case hi => exact rfl); (case hf => kernel_rfl); (case hS => (first | exact trivial | assumption | infer_instance | (refine ⟨?_, ?_, ?_, ?_, ?_⟩ <;> (first | assumption | infer_instance)) | (skip; done))); (case hy => (rintro wf ⟨hwa, hwb, hwc, hwd, hwe⟩; (((apply opv_E); exact rfl)))))
    ((apply (tk 11)); (case hi => exact rfl); (case hf => kernel_rfl); (case hS => (first | exact trivial | assumption | infer_instance | (refine ⟨?_, ?_, ?_, ?_, ?_⟩ <;> (first | assumption | infer_instance)) | (skip; done))); (case hy => (rintro wf ⟨hwa, hwb, hwc, hwd, hwe⟩; (((apply opv_E); exact rfl)))))
    ((apply (tk 12)); (case hi => exact rfl); (case hf => kernel_rfl); (case hS => (first | exact trivial | assumption | infer_instance | (refine ⟨?_, ?_, ?_, ?_, ?_⟩ <;> (first | assumption | infer_instance)) | (skip; done))); (case hy => (rintro wf ⟨hwa, hwb, hwc, hwd, hwe⟩; (((apply opv_E); exact rfl)))))
    ((apply (tk 13)); (case hi => exact rfl); (case hf => kernel_rfl); (case hS => (first | exact trivial | assumption | infer_instance | (refine ⟨?_, ?_, ?_, ?_, ?_⟩ <;> (first | assumption | infer_instance)) | (skip; done))); (case hy => (rintro wf ⟨hwa, hwb, hwc, hwd, hwe⟩; (((apply opv_E); exact rfl)))))
    ((apply (tk 14)); (case hi => exact rfl); (case hf => kernel_rfl); (case hS => (first | exact trivial | assumption | infer_instance | (refine ⟨?_, ?_, ?_, ?_, ?_⟩ <;> (first | assumption | infer_instance)) | (skip; done))); (case hy => (rintro wf ⟨hwa, hwb, hwc, hwd, hwe⟩; (((apply opv_E); exact rfl)))))
    ((apply (tk 15)); (case hi => exact rfl); (case hf => kernel_rfl); (case hS => (first | exact trivial | assumption | infer_instance | (refine ⟨?_, ?_, ?_, ?_, ?_⟩ <;> (first | assumption | infer_instance)) | (skip; done))); (case hy => (rintro wf ⟨hwa, hwb, hwc, hwd, hwe⟩; (((apply opv_E); exact rfl)))))
    refine vA_done (by kernel_rfl) (by (first | exact trivial | assumption | infer_instance | (refine ⟨?_, ?_, ?_, ?_, ?_⟩ <;> (first | assumption | infer_instance)) | (skip; done))) ?_
    have htr := tryRecv_keep (j := dd.c.toNat) hi (rfl : (St.run : St K16).waits = false)
    have ht3 : (S.tryRecv dd.c.toNat).1.tbs[i]? = some tb := by rw [tryRecv_tbs]; exact ht
    generalize hts : S.tryRecv dd.c.toNat = rr at *
    obtain ⟨S', vv, okk, can⟩ := rr
    simp only [] at *
    clear e5z e6z e10z sz szw szo
    cases can with
    | true =>
      (apply seqP_normal; apply vC_seq; apply vC_region; (iterate 2 (((apply vL_val); (case h => ((apply opv_E); exact rfl))))); ((apply vL_val); (case h => ((apply opv_buildS); exact rfl; exact (rfl : _ = some [_, _, _])))); ((apply vL_val); (case h => (apply opw_alloc))); ((apply vL_skip); (case h => ((apply ops_storen); exact norm_eq rfl; exact norm_eq rfl; exact rfl; (intro u hu; simp at hu; rcases hu with rfl | rfl | rfl <;> (first | rfl | assumption)); infer_instance; (first | decide | exact of_decide_eq_true rfl | (simp; done))))); apply vL_nil; apply seqP_normal; (iterate 2 (apply vC_seq)); apply vC_region; ((apply vL_val); (case h => ((apply opv_E); exact rfl))); ((apply vL_val); (case h => ((apply opv_not); exact rfl))); apply vL_nil; apply seqP_normal; ((apply vC_cond_false); exact rfl); apply vC_skip; apply seqP_normal)
      refine vC_gen (fun w' => At (Pt w8.heap.size [.int .i64 0, .int .i64 vv, .bool okk] 171 * (PWA (L16 wb) rb (some i) rest k3 S' * R1)) w0 No w') (S18.new (by (apply Fr.allocSet; exact Fr.refl _ _)) (Blk.as inferInstance rfl) (Nat.le_refl _)) ?_
      intro w6 S12
      have S13 := pw_box S12
      have mE : (w8.heap.size, [.int .i64 0, .int .i64 vv, .bool okk], 171) ∈ ((w8.heap.size, [.int .i64 0, .int .i64 vv, .bool okk], 171) :: k3 : List Bx) := List.mem_cons_self
      have h4 : ∀ b ∈ k2, b ∈ ((w8.heap.size, [.int .i64 0, .int .i64 vv, .bool okk], 171) :: k3 : List Bx) := fun b hb => List.mem_cons_of_mem _ (h3 b hb)
      generalize ((w8.heap.size, [.int .i64 0, .int .i64 vv, .bool okk], 171) :: k3 : List Bx) = k4 at S13 mE h4
      generalize w8.heap.size = ob at *
      have e5b := pw_bx S13 (h4 _ m5)
      have e6b := pw_bx S13 (h4 _ m6)
      refine vC_draw' ((fun wf => Blk wf.heap b5 [pt wb] 53 ∧ Blk wf.heap b6 [pt tb] 34)) (by (first | exact trivial | assumption | infer_instance | (refine ⟨?_, ?_⟩ <;> (first | assumption | infer_instance)) | (skip; done))) ?_
      ((apply (tk 0)); (case hi => exact rfl); (case hf => kernel_rfl); (case hS => (first | exact trivial | assumption | infer_instance | (refine ⟨?_, ?_⟩ <;> (first | assumption | infer_instance)) | (skip; done))); (case hy => (rintro wf ⟨hwa, hwb⟩; (((apply opv_loadb1); exact rfl; exact rfl; assumption; exact rfl)))))
      ((apply (tk 1)); (case hi => exact rfl); (case hf => kernel_rfl); (case hS => (first | exact trivial | assumption | infer_instance | (refine ⟨?_, ?_⟩ <;> (first | assumption | infer_instance)) | (skip; done))); (case hy => (rintro wf ⟨hwa, hwb⟩; (((apply opv_loadb1); exact rfl; exact rfl; assumption; exact rfl)))))
      ((apply (tk 2)); (case hi => exact rfl); (case hf => kernel_rfl); (case hS => (first | exact trivial | assumption | infer_instance | (refine ⟨?_, ?_⟩ <;> (first | assumption | infer_instance)) | (skip; done))); (case hy => (rintro wf ⟨hwa, hwb⟩; (((apply opv_makeFunc); exact rfl)))))
      refine tkc 3 rfl (by kernel_rfl) (by (first | exact trivial | assumption | infer_instance | (refine ⟨?_, ?_⟩ <;> (first | assumption | infer_instance)) | (skip; done))) rfl (pw_yield (S13.drew) (htr) (ht3) _ _ (k16 tb prog pos ⟨0, vv, okk⟩) ⟨rfl, .y7 b11 ob (nx _ _ h4) mE⟩) rfl ?_
      rintro _ w8 ⟨rfl, S18⟩
      have e5z := pw_bx S18 (h4 _ m5)
      have e6z := pw_bx S18 (h4 _ m6)
      refine tkc 4 rfl (by kernel_rfl) (by (first | exact trivial | assumption | infer_instance | (refine ⟨?_, ?_⟩ <;> (first | assumption | infer_instance)) | (skip; done))) rfl (w_need (shut S18)) rfl ?_
      rintro _ w9 S19
      have S20 := S19.ac (show _ = PWA (L16 wb) rb (some i) rest k4 (S'.yield i (k16 tb prog pos ⟨0, vv, okk⟩)) * (WA wb rb vp (S.cs.map (·.cb)) tl (el ++ [nw]) false * R) by ac_rfl)
      have e5y := pw_bx S20 (h4 _ m5)
      have e6y := pw_bx S20 (h4 _ m6)
      refine vA_done (by kernel_rfl) (by (first | exact trivial | assumption | infer_instance | (refine ⟨?_, ?_⟩ <;> (first | assumption | infer_instance)) | (skip; done))) ?_
      (apply blockP_normal)
      (first | apply ret0 | apply ret0n)
      exact ⟨k4, fun b hb => h4 b (hkk b hb), S20⟩
    | false =>
      (apply seqP_normal; apply vC_seq; apply vC_region; (iterate 2 (((apply vL_val); (case h => ((apply opv_E); exact rfl))))); ((apply vL_val); (case h => ((apply opv_buildS); exact rfl; exact (rfl : _ = some [_, _, _])))); ((apply vL_val); (case h => (apply opw_alloc))); ((apply vL_skip); (case h => ((apply ops_storen); exact norm_eq rfl; exact norm_eq rfl; exact rfl; (intro u hu; simp at hu; rcases hu with rfl | rfl | rfl <;> (first | rfl | assumption)); infer_instance; (first | decide | exact of_decide_eq_true rfl | (simp; done))))); apply vL_nil; apply seqP_normal; (iterate 2 (apply vC_seq)); apply vC_region; ((apply vL_val); (case h => ((apply opv_E); exact rfl))); ((apply vL_val); (case h => ((apply opv_not); exact rfl))); apply vL_nil; apply seqP_normal; ((apply vC_cond_true); exact rfl); apply vC_region; ((apply vL_val); (case h => ((apply opv_fieldAddr); exact rfl))); ((apply vL_skip); (case h => ((apply ops_store1); exact norm_eq rfl; exact norm_eq rfl; (first | rfl | assumption); infer_instance; (first | decide | exact of_decide_eq_true rfl | (simp; done))))); apply vL_nil; apply seqP_normal)
      refine vC_gen (fun w' => At (Pt w8.heap.size [.int .i64 1, .int .i64 vv, .bool okk] 171 * (PWA (L16 wb) rb (some i) rest k3 S' * R1)) w0 No w') (S18.new (by (((apply Fr.set); rotate_left; (right; ((try simp only [alloc_size]); omega))); apply Fr.allocSet; exact Fr.refl _ _)) (Blk.as inferInstance rfl) (Nat.le_refl _)) ?_
      intro w6 S12
      have S13 := pw_box S12
      have mE : (w8.heap.size, [.int .i64 1, .int .i64 vv, .bool okk], 171) ∈ ((w8.heap.size, [.int .i64 1, .int .i64 vv, .bool okk], 171) :: k3 : List Bx) := List.mem_cons_self
      have h4 : ∀ b ∈ k2, b ∈ ((w8.heap.size, [.int .i64 1, .int .i64 vv, .bool okk], 171) :: k3 : List Bx) := fun b hb => List.mem_cons_of_mem _ (h3 b hb)
      generalize ((w8.heap.size, [.int .i64 1, .int .i64 vv, .bool okk], 171) :: k3 : List Bx) = k4 at S13 mE h4
      generalize w8.heap.size = ob at *
      have e5b := pw_bx S13 (h4 _ m5)
      have e6b := pw_bx S13 (h4 _ m6)
      refine vC_draw' ((fun wf => Blk wf.heap b5 [pt wb] 53 ∧ Blk wf.heap b6 [pt tb] 34)) (by (first | exact trivial | assumption | infer_instance | (refine ⟨?_, ?_⟩ <;> (first | assumption | infer_instance)) | (skip; done))) ?_
      ((apply (tk 0)); (case hi => exact rfl); (case hf => kernel_rfl); (case hS => (first | exact trivial | assumption | infer_instance | (refine ⟨?_, ?_⟩ <;> (first | assumption | infer_instance)) | (skip; done))); (case hy => (rintro wf ⟨hwa, hwb⟩; (((apply opv_loadb1); exact rfl; exact rfl; assumption; exact rfl)))))
      ((apply (tk 1)); (case hi => exact rfl); (case hf => kernel_rfl); (case hS => (first | exact trivial | assumption | infer_instance | (refine ⟨?_, ?_⟩ <;> (first | assumption | infer_instance)) | (skip; done))); (case hy => (rintro wf ⟨hwa, hwb⟩; (((apply opv_loadb1); exact rfl; exact rfl; assumption; exact rfl)))))
      ((apply (tk 2)); (case hi => exact rfl); (case hf => kernel_rfl); (case hS => (first | exact trivial | assumption | infer_instance | (refine ⟨?_, ?_⟩ <;> (first | assumption | infer_instance)) | (skip; done))); (case hy => (rintro wf ⟨hwa, hwb⟩; (((apply opv_makeFunc); exact rfl)))))
      refine tkc 3 rfl (by kernel_rfl) (by (first | exact trivial | assumption | infer_instance | (refine ⟨?_, ?_⟩ <;> (first | assumption | infer_instance)) | (skip; done))) rfl (pw_yield (S13.drew) (htr) (ht3) _ _ (k16 tb prog pos ⟨1, vv, okk⟩) ⟨rfl, .y7 b11 ob (nx _ _ h4) mE⟩) rfl ?_
      rintro _ w8 ⟨rfl, S18⟩
      have e5z := pw_bx S18 (h4 _ m5)
      have e6z := pw_bx S18 (h4 _ m6)
      refine tkc 4 rfl (by kernel_rfl) (by (first | exact trivial | assumption | infer_instance | (refine ⟨?_, ?_⟩ <;> (first | assumption | infer_instance)) | (skip; done))) rfl (w_need (shut S18)) rfl ?_
      rintro _ w9 S19
      have S20 := S19.ac (show _ = PWA (L16 wb) rb (some i) rest k4 (S'.yield i (k16 tb prog pos ⟨1, vv, okk⟩)) * (WA wb rb vp (S.cs.map (·.cb)) tl (el ++ [nw]) false * R) by ac_rfl)
      have e5y := pw_bx S20 (h4 _ m5)
      have e6y := pw_bx S20 (h4 _ m6)
      refine vA_done (by kernel_rfl) (by (first | exact trivial | assumption | infer_instance | (refine ⟨?_, ?_⟩ <;> (first | assumption | infer_instance)) | (skip; done))) ?_
      (apply blockP_normal)
      (first | apply ret0 | apply ret0n)
      exact ⟨k4, fun b hb => h4 b (hkk b hb), S20⟩
  have e1 : act16 S i tb prog pos dd = S := by unfold act16; rw [if_neg c1, if_neg c2, if_neg c3, if_neg c4, if_neg c6, if_neg c7]
  rw [e1]
  ((iterate 36 (first | with_reducible apply vC_seq | with_reducible apply vC_region | with_reducible apply seqP_normal | ((with_reducible apply vL_val); (case h => ((with_reducible apply opv_E); exact rfl))) | with_reducible apply vL_nil | (refine vC_cond_dec rfl (fun h => by omega) (fun _ => ?_)))); apply vC_skip; apply blockP_normal)
  (first | apply ret0 | apply ret0n)
  exact ⟨k2, hkk, (shut S11).ac (by ac_rfl)⟩
end
end Go.Proofs.YtbaidcnalkdhgaaGreat
