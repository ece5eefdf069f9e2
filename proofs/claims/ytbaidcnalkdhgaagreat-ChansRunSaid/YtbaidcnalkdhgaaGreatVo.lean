/- Layer 16: a step of the law's world. Layers 15, 16: New; the plain world that is empty; lists that grow. Layers 15, 16: many steps, of any machine. Layer 16: the document's machine in memory. Layers 16 to 18: what the document's machine stands on (in the seat of layers 16 and 18). Layers 16 to 18: the document's machine in memory (with its time). Layers 16 to 18: what the document's machine does, as plain functions; a channel's row in memory. Layers 16 to 18: the document's machine: what its acts keep: plain. Layer 16: at a closed channel nobody waits: plain. Layer 16: the document's machine: tasks are begun. Layer 16: both worlds are begun. -/
import Derived.Test.YtbaidcnalkdhgaaGreatVg
import Derived.Test.YtbaidcnalkdhgaaGreatEq
set_option maxRecDepth 100000
namespace Go.Proofs.YtbaidcnalkdhgaaGreat
open Go Go.Eng
theorem Nx.bx {wb nb : Nat} {k : K16} {kb : List Bx} {w1 : World} (n : Nx wb k kb nb) (hbx : ∀ b cs T, (b, cs, T) ∈ kb → Blk w1.heap b cs T) (hpos : k.pos ≤ 100000) : ∃ b5 b6 b7 b8, NxB w1 wb k.tb nb b5 b6 b7 b8 k.prog k.pos := by
  obtain ⟨b5, b6, b7, b8, h1, h2, h3, h4, h5, h6⟩ := n
  exact ⟨b5, b6, b7, b8, hbx _ _ _ h1, hbx _ _ _ h2, hbx _ _ _ h3, hbx _ _ _ h4, hbx _ _ _ h5, by omega⟩
theorem cl16_calls {wb : Nat} {kb : List Bx} {s : St K16} {k : K16} {f : Value} (hf : (L16 wb).cl k.tb kb f s) (hk : s.key = some k) (hpos : k.pos ≤ 100000) :
    ∃ (g : FuncId) (cap : List Value), f = .func (.func g) #[] cap.toArray ∧ Nonempty (FnOk Tryz.prog g) ∧ ∀ (w1 : World) (Q : World → Prop), (∀ b cs T, (b, cs, T) ∈ kb → Blk w1.heap b cs T) → TurnC wb k.tb k.prog k.pos s.told w1 Q → Rets Tryz.prog g (s.args ++ cap).toArray w1 fun _ w' => Q w' := by
  cases s with
  | rdyS k' ok =>
    cases hk
    obtain ⟨nb, n, rfl⟩ := hf
    refine ⟨_, [pt nb], rfl, ⟨inferInstance⟩, fun w1 Q hbx h => ?_⟩
    obtain ⟨b5, b6, b7, b8, nb'⟩ := n.bx hbx hpos
    exact turn3_calls nb' h
  | rdyR k' v ok =>
    cases hk
    obtain ⟨nb, n, rfl⟩ := hf
    refine ⟨_, [pt nb], rfl, ⟨inferInstance⟩, fun w1 Q hbx h => ?_⟩
    obtain ⟨b5, b6, b7, b8, nb'⟩ := n.bx hbx hpos
    exact turn4_calls nb' h
  | rdyY k' =>
    cases hk
    obtain ⟨_, y⟩ := hf
    cases y with
    | born fb tx wx px h1 h2 h3 h4 h5 h6 =>
      refine ⟨_, [pt fb, pt tx], rfl, ⟨inferInstance⟩, fun w1 Q hbx h => ?_⟩
      have h : TurnC wb k.tb k.prog 0 ⟨0, 0, false⟩ w1 Q := by
        have h' : TurnC wb k.tb k.prog k.pos k.told w1 Q := h
        rw [h5, h6] at h'
        exact h'
      exact spawn1_calls (cap := [pt wx, pt px]) (hbx _ _ _ h1) (hbx _ _ _ h2) (begun1_calls (hbx _ _ _ h3) (hbx _ _ _ h4) h)
    | y2 nb n h1 =>
      refine ⟨_, [pt nb], rfl, ⟨inferInstance⟩, fun w1 Q hbx h => ?_⟩
      obtain ⟨b5, b6, b7, b8, nb'⟩ := n.bx hbx hpos
      have h' : TurnC wb k.tb k.prog k.pos k.told w1 Q := h
      rw [h1] at h'
      exact turn2_calls nb' h'
    | y5 nb eb e n h1 h2 =>
      refine ⟨_, [pt nb, pt eb], rfl, ⟨inferInstance⟩, fun w1 Q hbx h => ?_⟩
      obtain ⟨b5, b6, b7, b8, nb'⟩ := n.bx hbx hpos
      have h' : TurnC wb k.tb k.prog k.pos k.told w1 Q := h
      rw [h2] at h'
      exact turn5_calls nb' (hbx _ _ _ h1) h'
    | y6 nb ob ok n h1 h2 =>
      refine ⟨_, [pt nb, pt ob], rfl, ⟨inferInstance⟩, fun w1 Q hbx h => ?_⟩
      obtain ⟨b5, b6, b7, b8, nb'⟩ := n.bx hbx hpos
      have h' : TurnC wb k.tb k.prog k.pos k.told w1 Q := h
      rw [h2] at h'
      exact turn6_calls nb' (hbx _ _ _ h1) h'
    | y7 nb ob n h1 =>
      refine ⟨_, [pt nb, pt ob], rfl, ⟨inferInstance⟩, fun w1 Q hbx h => ?_⟩
      obtain ⟨b5, b6, b7, b8, nb'⟩ := n.bx hbx hpos
      exact turn7_calls nb' (hbx _ _ _ h1) h
  | over => cases hf
  | run => cases hf
  | mS _ _ _ => cases hf
  | mR _ _ _ _ => cases hf
  | wS _ _ _ => cases hf
  | wR _ _ => cases hf
  | wX _ => cases hf
section
variable {w w0 : World} {R : Asr} {wb rb : Nat} {kb : List Bx} {vp : Value} {cl : List (Nat × Int)} {tl : List Nat} {T : T16}
theorem Inv16.cbs {P : List (List Do5)} (I : Inv16 P cl tl T) : T.1.cs.map (·.cb) = cl.map (·.1) := by
  rw [← I.cs, List.map_map]; rfl
theorem w_step [Lcl R] {P : List (OV × List Do5)} (z : Pz16 w0.heap vp P) (hP6 : P.length ≤ 6) (S1 : At (PWA (L16 wb) rb none 0 kb T.1 * (WA wb rb vp (cl.map (·.1)) tl T.2 false * R)) w0 No w) (I : Inv16 (P.map (·.2)) cl tl T)
    (hPc : ∀ y ∈ P, ∀ d ∈ y.2, 0 ≤ d.c ∧ d.c < cl.length) (hc : 0 < cl.length) (hev : T.2.length ≤ 100000) (p : Int) (hp0 : 0 ≤ p ∧ p ≤ 18446744073709551615) :
    Rets Tryz.prog 24 #[pt rb, .int .u64 p] w fun u w' => (T.1.line = [] ∧ step16 (P.map (·.2)) T p = none ∧ w = w' ∧ u = .bool false) ∨ (∃ T', step16 (P.map (·.2)) T p = some T' ∧ Inv16 (P.map (·.2)) cl tl T' ∧ T'.2.length = T.2.length + 1 ∧ u = .bool true ∧ ∃ kb', (∀ b ∈ kb, b ∈ kb') ∧ At (PWA (L16 wb) rb none 0 kb' T'.1 * (WA wb rb vp (cl.map (·.1)) tl T'.2 false * R)) w0 No w') := by
  by_cases hl : T.1.line = []
  · refine (pw_step0 S1 p hp0 hl).mono fun u w' ⟨h1, h2⟩ => .inl ⟨hl, ?_, h1, h2⟩
    unfold step16; rw [hl]; rfl
  obtain ⟨q, hp, S2⟩ := pw_open S1
  have hlen : 0 < T.1.line.length := List.length_pos_iff.2 hl
  have hz0 : 0 ≤ p % (T.1.line.length : Int) := Int.emod_nonneg _ (by omega)
  have hz1 : p % (T.1.line.length : Int) < T.1.line.length := Int.emod_lt_of_pos _ (by omega)
  obtain ⟨y, hy⟩ : ∃ y, T.1.line[(p % (T.1.line.length : Int)).toNat]? = some y := ⟨_, List.getElem?_eq_getElem (by omega)⟩
  have hy0 := hp.nn y (List.mem_of_getElem? hy)
  obtain ⟨i, rfl⟩ : ∃ i : Nat, y = i := ⟨y.toNat, by omega⟩
  obtain ⟨s, hs, hr⟩ := (hp.rdy i).1 (List.mem_of_getElem? hy)
  obtain ⟨k, hk⟩ : ∃ k, s.key = some k := by cases s <;> first | exact ⟨_, rfl⟩ | (cases hr; done)
  obtain ⟨e1, e2, e3⟩ := I.key i k (by rw [List.getElem?_map, hs]; exact congrArg some hk)
  have ht : T.1.tbs[i]? = some k.tb := by rw [I.tbs]; exact e1
  have hil := (List.getElem?_eq_some_iff.1 hs).1
  have hiP : i < P.length := by have := I.len; rw [List.length_map] at this; omega
  obtain ⟨d, hd⟩ : ∃ d, P[k.prog]? = some d := ⟨P[i], by rw [e2]; exact List.getElem?_eq_getElem hiP⟩
  have hst : step16 (P.map (·.2)) T p = some (turn16 (P.map (·.2)) T i k s.told (p % T.1.line.length)) := by
    unfold step16; rw [hy]; simp only [Int.toNat_natCast]; rw [hs]; simp only []; rw [hk]
  have hdo : doAt16 (P.map (·.2)) k.prog k.pos = (d.2[k.pos]?).getD do0 := by unfold doAt16; rw [List.getElem?_map, hd]; rfl
  have hPc' : ∀ y ∈ P.map (·.2), ∀ (d : Do5), d ∈ y → 0 ≤ d.c ∧ d.c < (cl.length : Int) := fun y hy d hd => by
    obtain ⟨y', hy', rfl⟩ := List.mem_map.1 hy
    exact hPc y' hy' d hd
  have I' := I.turn hs hk hPc' hc s.told (p % T.1.line.length)
  have hcl : T.1.cs.length = cl.length := by rw [← I.cs, List.length_map]
  have hcb := I.cbs
  have k1 := start_kp T.1 i (p % T.1.line.length)
  have hdb : 0 ≤ (doAt16 (P.map (·.2)) k.prog k.pos).c ∧ (doAt16 (P.map (·.2)) k.prog k.pos).c < (T.1.start i (p % T.1.line.length)).cs.length := by
    rw [k1.csl, hcl, hdo]
    cases hq : d.2[k.pos]? with
    | none => exact ⟨Int.le_refl _, by show (0 : Int) < _; omega⟩
    | some q => exact hPc d (List.mem_of_getElem? hd) q (List.mem_of_getElem? hq)
  obtain ⟨o, _, k2⟩ := act16_kp (T.1.start i (p % T.1.line.length)) i k.tb k.prog k.pos _ hdb (by
    rw [k1.key, List.getElem?_set_self (by simpa using hil)])
  refine (pw_step (R := WA wb rb vp (cl.map (·.1)) tl T.2 false * R) S1 p hp0 hy hs ht (σ := {kb' : List Bx // ∀ b ∈ kb, b ∈ kb'}) (fun _ => act16 (T.1.start i (p % T.1.line.length)) i k.tb k.prog k.pos (doAt16 (P.map (·.2)) k.prog k.pos)) (fun a => a.1) (fun _ => WA wb rb vp (cl.map (·.1)) tl (turn16 (P.map (·.2)) T i k s.told (p % T.1.line.length)).2 false * R) (fun f hf => ?_)).mono fun u w' ⟨h1, a, h2⟩ => .inr ⟨_, hst, I', by unfold turn16; simp, h1, a.1, a.2, h2⟩
  obtain ⟨g, cap, e, hok, hc'⟩ := cl16_calls hf hk (by omega)
  refine ⟨g, cap, e, hok, fun w1 h => hc' w1 _ (fun b cs T hb => pw_bx h hb) (fun w' hf' => ?_)⟩
  have h2 := h.frN hf'
  rw [← hcb] at h2
  have hh : (T.1.start i (p % T.1.line.length)).cs.map (·.cb) = T.1.cs.map (·.cb) := rfl
  rw [← hh] at h2
  refine (w_turn z hP6 h2 (by show (T.1.sts.set i .run)[i]? = _; rw [List.getElem?_set_self hil]) ht hd s.told (fun y hy => ?_) hev (by omega)).mono fun _ w2 ⟨kb', hkb, h3⟩ => ⟨⟨kb', hkb⟩, ?_, ?_⟩
  · have := hPc d (List.mem_of_getElem? hd) y hy
    rw [k1.csl, hcl]; exact this
  · rw [k2.tbs]; exact ht
  · rw [hh, hcb] at h3
    rw [hdo]
    exact h3
end
end Go.Proofs.YtbaidcnalkdhgaaGreat
set_option maxRecDepth 100000
namespace Go.Proofs.YtbaidcnalkdhgaaGreat
open Go Go.Eng
theorem r_new (w : World) : Rets Tryz.prog 14 #[] w fun u w' => ∃ rb sb qb lv, u = pt rb ∧ Fr No w w' ∧ Rt (fun k => k < w.heap.size) w' rb sb qb lv (.slice none 0 0) none 0 [] [] := by
  refine rets_of Tryz.func14 rfl Tryz.ntmps14 rfl rfl (by kernel_rfl) ?_
  (apply vC_seq; apply vC_region; (refine vE rfl ?_); apply vL_nil; apply seqP_normal; apply vC_seq; apply vC_region)
  refine vL_callF rfl (s_new w) rfl ?_
  rintro _ w1 ⟨sb, qb, lv, rfl, s⟩
  (((apply vL_val); (case h => ((apply opv_buildS); exact rfl; exact (rfl : _ = some [_, _, _, _])))); (refine vL_val (opw_boxn rfl) ?_); (refine vE rfl ?_); apply vL_nil; apply seqP_normal; apply vC_ret)
  (apply ret1; (case h1 => (exact norm_eq rfl)))
  refine ⟨w1.heap.size, sb, qb, lv, rfl, s.fr.alloc _, ⟨Blk.as (inferInstance : Blk (w1.alloc _).heap w1.heap.size _ _) rfl, s.sc.frN ((Fr.refl No w1).alloc _), Own.nil _ _ _ _, fun i x hx => by simp at hx, rfl, fun b hb => (by cases hb), fun k hk => ?_, fun k hk => ?_⟩⟩
  · have := s.fr.size; rw [alloc_size]; omega
  · have h1 := s.fr.size
    have h2 := s.fs
    have h3 := s.fb
    rcases hk with rfl | rfl | rfl | h | h | ⟨x, hx, _⟩
    · omega
    · omega
    · omega
    · have := s.fl k h; omega
    · cases h
    · simp at hx
section
variable {w w0 : World} {F0 : Nat → Prop} {R : Asr} {rb : Nat}
theorem r_newA [Lcl R] (S : At R w0 F0 w) : Rets Tryz.prog 14 #[] w fun u w' => ∃ rb, u = pt rb ∧ At (RtA rb none 0 [] [] * R) w0 F0 w' :=
  (r_new w).mono fun u w' ⟨rb, sb, qb, lv, hu, hf, s⟩ => ⟨rb, hu, S.gain hf ⟨_, ⟨w', sb, qb, lv, _, rfl, s.zto (fun _ h => h.elim) (fun _ _ h => h), rfl⟩, fun k hk => Nat.le_of_not_lt (s.zn k hk)⟩⟩
variable {κ : Type} {L : LawP κ}
theorem prel_nil {kb : List Bx} : PRel L ⟨[], [], [], []⟩ none kb ⟨[], [], [], []⟩ := by
  refine ⟨rfl, rfl, rfl, rfl, Nat.zero_le _, ?_, ?_, ?_, ?_, ?_, List.nodup_nil, ?_, ?_, ?_, ?_, ?_⟩
  · intro i x g s h; cases h
  · intro i x s h; cases h
  · intro i s h; cases h
  · intro i h; cases h
  · intro j c d h; cases h
  · intro z h; cases h
  · intro i
    constructor
    · intro h; cases h
    · rintro ⟨s, h, _⟩; cases h
  · intro i j t u h; cases h
  · intro i m g g' s s' n h; cases h
  · intro i s h; cases h
theorem pw_init (S1 : At (RtA rb none 0 [] [] * R) w0 F0 w) : At (PWA L rb none 0 [] ⟨[], [], [], []⟩ * R) w0 F0 w := by
  refine pw_shut prel_nil (S1.ac ?_)
  show _ = RtA rb none 0 [] [] * (Emp * (Emp * (Emp * (Emp * R))))
  rw [emp_star, emp_star, emp_star, emp_star]
end
end Go.Proofs.YtbaidcnalkdhgaaGreat
set_option maxRecDepth 100000
namespace Go.Proofs.YtbaidcnalkdhgaaGreat
open Go Go.Eng
/-- the picks round and round -/
def pkA (picks : List Int) (k : Nat) : Int := if picks.length = 0 then 0 else (picks[k % picks.length]?).getD 0
theorem pkA_bounds {picks : List Int} (hkb : ∀ x ∈ picks, 0 ≤ x ∧ x ≤ 18446744073709551615) (k : Nat) : 0 ≤ pkA picks k ∧ pkA picks k ≤ 18446744073709551615 := by
  unfold pkA
  split
  · omega
  · rename_i h
    have hm := Nat.mod_lt k (show 0 < picks.length by omega)
    rw [List.getElem?_eq_getElem hm]
    exact hkb _ (List.getElem_mem hm)
theorem pkA_at {picks : List Int} (h : picks.length ≠ 0) (k : Nat) : picks[((k : Int) % ((picks.length : Nat) : Int)).toNat]? = some (pkA picks k) := by
  have hm := Nat.mod_lt k (show 0 < picks.length by omega)
  unfold pkA
  rw [if_neg h, show ((k : Int) % ((picks.length : Nat) : Int)).toNat = k % picks.length by rw [← Int.natCast_emod]; rfl, List.getElem?_eq_getElem hm]
  rfl
def runF {σ : Type} (st : σ → Int → Option σ) (picks : List Int) : Nat → Nat → σ → Nat × σ
  | 0, n, s => (n, s)
  | f + 1, n, s => match st s (pkA picks n) with
    | none => (n, s)
    | some s' => runF st picks f (n + 1) s'
theorem runF_none {σ : Type} {st : σ → Int → Option σ} {picks : List Int} {f n : Nat} {s : σ} (h : st s (pkA picks n) = none) : runF st picks f n s = (n, s) := by
  cases f with
  | zero => rfl
  | succ f => rw [runF, h]
theorem runF_some {σ : Type} {st : σ → Int → Option σ} {picks : List Int} {f n : Nat} {s s' : σ} (h : st s (pkA picks n) = some s') : runF st picks (f + 1) n s = runF st picks f (n + 1) s' := by
  rw [runF, h]
theorem run_gen {σ : Type} (I : σ → Asr) (st : σ → Int → Option σ) (G : Nat → σ → Prop) {R : Asr} {w0 w : World} {F0 : Nat → Prop} {rb : Nat} {vk : Value} {picks : List Int} (most : Int) (hmost : most ≤ 1000000)
    (hstep : ∀ (n : Nat) s p w, (n : Int) < most → G n s → 0 ≤ p ∧ p ≤ 18446744073709551615 → At (I s * R) w0 F0 w → Rets Tryz.prog 24 #[pt rb, .int .u64 p] w fun u w' => (st s p = none ∧ u = .bool false ∧ At (I s * R) w0 F0 w') ∨ ∃ s', st s p = some s' ∧ G (n + 1) s' ∧ u = .bool true ∧ At (I s' * R) w0 F0 w')
    (hrd : ∀ s w, At (I s * R) w0 F0 w → Rd w.heap 1 uE vk picks) (hkb : ∀ x ∈ picks, 0 ≤ x ∧ x ≤ 18446744073709551615) (s0 : σ) (hG : G 0 s0) (S : At (I s0 * R) w0 F0 w) :
    Rets Tryz.prog 27 #[pt rb, vk, .int .i64 most] w fun u w' => ∃ n s', runF st picks most.toNat 0 s0 = (n, s') ∧ u = .int .i64 (n : Int) ∧ G n s' ∧ At (I s' * R) w0 F0 w' := by
  have hk := hrd s0 w S
  have hks := hk.small
  refine rets_of Tryz.func27 rfl Tryz.ntmps27 rfl rfl (by kernel_rfl) ?_
  (apply vC_seq; apply vC_region; (refine vE rfl ?_); apply vL_nil; apply seqP_normal; apply vC_seq; apply vC_region; (refine vE rfl ?_); apply vL_nil; apply seqP_normal; apply vC_seq; apply vC_block)
  clear hk
  (apply vC_loop1 268435328 7 (fun u w' => ∃ (k : Nat) (s : σ), u = .int .i64 (k : Int) ∧ runF st picks most.toNat 0 s0 = runF st picks (most.toNat - k) k s ∧ G k s ∧ (k : Int) ≤ max most 0 ∧ At (I s * R) w0 F0 w') (fun u _ => (most - RowKit.intOf u).toNat)); (case h1 => (exact norm_eq rfl))
  case h0 => exact ⟨0, s0, rfl, rfl, hG, by omega, S⟩
  clear S hG
  case round =>
  rintro junk _ w1 ⟨k, s, rfl, hst, hg, hkm, S1⟩
  have hk1 := hrd s w1 S1
  have hpb := pkA_bounds hkb k
  by_cases hlt : (k : Int) < most
  · obtain ⟨f, hf⟩ : ∃ f, most.toNat - k = f + 1 := ⟨most.toNat - k - 1, by omega⟩
    have hf2 : most.toNat - (k + 1) = f := by omega
    by_cases h0 : picks.length = 0
    · have e0 : pkA picks k = 0 := by unfold pkA; rw [if_pos h0]
      ((iterate 20 (first | with_reducible apply vC_seq | with_reducible apply vC_region | with_reducible apply seqP_normal | with_reducible apply vC_block | with_reducible apply vC_skip | (refine vE rfl ?_) | with_reducible apply vL_nil | (refine vC_cond_dec rfl (fun _ => ?_) (fun h => by omega)))); ((apply vL_val); (case h => ((apply opv_move); ((conv => lhs; whnf) <;> exact rfl)))); ((apply vL_val); (case h => ((apply opv_len); ((conv => lhs; whnf) <;> exact rfl); assumption))); (refine vE rfl ?_); apply vL_nil; apply seqP_normal; (refine vC_cond_dec rfl (fun h => by omega) (fun _ => ?_)); apply vC_skip; apply seqP_normal; (iterate 2 (apply vC_seq)); apply vC_region; (iterate 2 ((refine vE rfl ?_))))
      rw [← e0]
      refine vL_callF rfl (hstep k s (pkA picks k) w1 hlt hg hpb S1) rfl ?_
      rintro _ w2 (⟨hs, rfl, S2⟩ | ⟨s2, hs, hg2, rfl, S2⟩)
      · ((refine vL_val (opv_not rfl) ?_); apply vL_nil; apply seqP_normal; ((apply vC_cond_true); exact rfl); apply vC_exit; apply seqP_exit; ((apply blockP_pass); exact rfl); apply loopP_exit; apply blockP_exit; apply seqP_normal; apply vC_seq; apply vC_region; (iterate 2 ((refine vE rfl ?_))); apply vL_nil; apply seqP_normal; apply vC_ret)
        (apply ret1; (case h1 => (exact norm_eq rfl)))
        exact ⟨k, s, by rw [hst, runF_none hs], rfl, hg, S2⟩
      · ((refine vL_val (opv_not rfl) ?_); apply vL_nil; apply seqP_normal; ((apply vC_cond_false); exact rfl); apply vC_skip; apply seqP_normal; apply vC_region; (refine vE rfl ?_); ((apply vL_val); (case h => ((apply opv_add); exact rfl; exact rfl; (first | omega | (simp only [List.length_map]; omega))))); (refine vE rfl ?_); apply vL_nil; apply blockP_normal; apply loopP_normal)
        (with_reducible apply end1); (case hs => ((iterate 14 (((refine same_updO ?_ ?_); rotate_left; exact rfl))); ((refine same_upd ?_ ?_); rotate_left; exact rfl); (exact same_mask _ _ _))); (case h1 => (exact norm_eq rfl))
        · exact ⟨k + 1, s2, rfl, by rw [hst, hf, runF_some hs, hf2], hg2, by omega, S2⟩
        · simp [RowKit.intOf]; omega
    · have hx := pkA_at h0 k
      have hm0 := Int.emod_nonneg (k : Int) (b := ((picks.length : Nat) : Int)) (by omega)
      have hm1 := Int.emod_lt_of_pos (k : Int) (b := ((picks.length : Nat) : Int)) (by omega)
      ((iterate 2 (apply vC_seq)); apply vC_region; (iterate 3 ((refine vE rfl ?_))); apply vL_nil; apply seqP_normal; (refine vC_cond_dec rfl (fun _ => ?_) (fun h => by omega)); apply vC_skip; apply seqP_normal; apply vC_block; (iterate 19 (first | with_reducible apply vC_seq | with_reducible apply vC_region | with_reducible apply seqP_normal | (refine vE rfl ?_) | ((with_reducible apply vL_val); (case h => ((with_reducible apply opv_move); ((conv => lhs; whnf) <;> exact rfl)))) | ((with_reducible apply vL_val); (case h => ((with_reducible apply opv_len); ((conv => lhs; whnf) <;> exact rfl); assumption))) | with_reducible apply vL_nil | (refine vC_cond_dec rfl (fun _ => ?_) (fun h => by omega)))); ((apply vL_val); (case h => ((apply opv_rem); exact rfl; exact rfl; (first | omega | (simp only [List.length_map]; omega)); (first | omega | (simp only [List.length_map]; omega))))); ((apply vL_val); (case h => ((apply opv_indexAddr); ((conv => lhs; whnf) <;> exact rfl); exact rfl; assumption; (first | omega | (simp only [List.length_map]; omega)); (first | omega | (simp only [List.length_map]; omega))))); ((apply vL_val); (case h => ((apply opv_ld_el); exact rfl; exact rfl; assumption; assumption; exact rfl))); (refine vE rfl ?_); apply vL_nil; apply seqP_normal; (iterate 2 (apply vC_seq)); apply vC_region; (iterate 2 ((refine vE rfl ?_))))
      refine vL_callF rfl (hstep k s (pkA picks k) w1 hlt hg hpb S1) rfl ?_
      rintro _ w2 (⟨hs, rfl, S2⟩ | ⟨s2, hs, hg2, rfl, S2⟩)
      · ((refine vL_val (opv_not rfl) ?_); apply vL_nil; apply seqP_normal; ((apply vC_cond_true); exact rfl); apply vC_exit; apply seqP_exit; ((apply blockP_pass); exact rfl); apply loopP_exit; apply blockP_exit; apply seqP_normal; apply vC_seq; apply vC_region; (iterate 2 ((refine vE rfl ?_))); apply vL_nil; apply seqP_normal; apply vC_ret)
        (apply ret1; (case h1 => (exact norm_eq rfl)))
        exact ⟨k, s, by rw [hst, runF_none hs], rfl, hg, S2⟩
      · ((refine vL_val (opv_not rfl) ?_); apply vL_nil; apply seqP_normal; ((apply vC_cond_false); exact rfl); apply vC_skip; apply seqP_normal; apply vC_region; (refine vE rfl ?_); ((apply vL_val); (case h => ((apply opv_add); exact rfl; exact rfl; (first | omega | (simp only [List.length_map]; omega))))); (refine vE rfl ?_); apply vL_nil; apply blockP_normal; apply loopP_normal)
        (with_reducible apply end1); (case hs => ((iterate 22 (((refine same_updO ?_ ?_); rotate_left; exact rfl))); ((refine same_upd ?_ ?_); rotate_left; exact rfl); (exact same_mask _ _ _))); (case h1 => (exact norm_eq rfl))
        · exact ⟨k + 1, s2, rfl, by rw [hst, hf, runF_some hs, hf2], hg2, by omega, S2⟩
        · simp [RowKit.intOf]; omega
  · ((iterate 2 (apply vC_seq)); apply vC_region; (iterate 3 ((refine vE rfl ?_))); apply vL_nil; apply seqP_normal; (refine vC_cond_dec rfl (fun h => by omega) (fun _ => ?_)); apply vC_exit; apply seqP_exit; apply loopP_exit; apply blockP_exit; apply seqP_normal; apply vC_seq; apply vC_region; (iterate 2 ((refine vE rfl ?_))); apply vL_nil; apply seqP_normal; apply vC_ret)
    (apply ret1; (case h1 => (exact norm_eq rfl)))
    refine ⟨k, s, ?_, rfl, hg, S1⟩
    rw [hst, show most.toNat - k = 0 by omega]; rfl
end Go.Proofs.YtbaidcnalkdhgaaGreat
set_option maxRecDepth 100000
namespace Go.Proofs.YtbaidcnalkdhgaaGreat
open Go Go.Eng
theorem _root_.Go.Eng.At.fld {α : Type} {qb TB T sz : Nat} {L : List Value} {enc : α → List Value} {v : Value} {xs : List α} {R : Asr} {w0 w : World} {F0 : Nat → Prop} [Lcl R] (S : At (Pt qb L TB * (Ow T sz enc v xs * R)) w0 F0 w) : Blk w.heap qb L TB ∧ Own w.heap T sz enc v xs ∧ v.oneCell' = true ∧
    ∀ (L' : List Value) v' xs' w', Fr (fun k => k = qb ∨ own v = some k) w w' → Blk w'.heap qb L' TB → Own w'.heap T sz enc v' xs' → v'.oneCell' = true → (∀ k, own v' = some k → own v = some k ∨ w.heap.size ≤ k) → At (Pt qb L' TB * (Ow T sz enc v' xs' * R)) w0 F0 w' := by
  have S1 := S.ac (show _ = (Pt qb L TB * Ow T sz enc v xs) * R by ac_rfl)
  obtain ⟨_, ⟨_, F2, ⟨F3, F4, ⟨hb, rfl⟩, ⟨ho, h1, rfl⟩, d1, rfl⟩, r, d, rfl⟩, hf, hn⟩ := S1.out
  refine ⟨hb, ho, h1, fun L' v' xs' w' hf' hb' ho' hone hl => ?_⟩
  have : At ((Pt qb L' TB * Ow T sz enc v' xs') * R) w0 F0 w' := by
    refine at_step (F1 := fun k => k = qb ∨ own v = some k) r d hf hn ?_
    refine ⟨_, ⟨_, _, ⟨hb', rfl⟩, ⟨ho', hone, rfl⟩, fun k e h => ?_, rfl⟩, hf', fun k hk => ?_⟩
    · subst e
      rcases hl k h with h2 | h2
      · exact d1 k rfl h2
      · have := hb.lt; omega
    · rcases hk with h | h
      · exact .inl (.inl h)
      · exact (hl k h).imp .inr id
  exact this.ac (by ac_rfl)
structure Wt where
  task : Int
  tk : Int
  which : Int
  v : Int
def wtE (x : Wt) : List Value := [.int .i64 x.task, .int .i64 x.tk, .int .i64 x.which, .int .i64 x.v]
instance encWt : EncOk wtE 4 := ⟨by intro x u h; simp [wtE] at h; rcases h with rfl | rfl | rfl | rfl <;> rfl, fun _ => rfl⟩
/-- a channel's row, with what its lists hold -/
structure RR where
  size : Int
  bv : OV
  sv : OV
  rv : OV
  closed : Bool
  buf : List Int
  snd : List Wt
  rcv : List Wt
def rrE (x : RR) : List Value := [.int .i64 x.size, x.bv.1, x.sv.1, x.rv.1, .bool x.closed]
instance encRR : EncOk rrE 5 := ⟨by intro x u h; simp [rrE] at h; rcases h with rfl | rfl | rfl | rfl | rfl <;> first | rfl | exact x.bv.2 | exact x.sv.2 | exact x.rv.2, fun _ => rfl⟩
def RrA (x : RR) : Asr := Ow 3 1 iE x.bv.1 x.buf * (Ow 271 4 wtE x.sv.1 x.snd * Ow 271 4 wtE x.rv.1 x.rcv)
instance instLclRrA (x : RR) : Lcl (RrA x) := by unfold RrA; infer_instance
def toE (x : To) : List Value := [.int .i64 x.c, .int .i64 x.v, .bool x.ok]
instance encTo : EncOk toE 3 := ⟨by intro x u h; simp [toE] at h; rcases h with rfl | rfl | rfl <;> rfl, fun _ => rfl⟩
structure RW where
  ch : List RR
  at_ : List Int
  to : List To
  ov : List Bool
  li : List Int
  ev : List Ev5
  fi : List Bool
  rest : Int
structure RV where
  ch : Value
  at_ : Value
  to : Value
  ov : Value
  li : Value
  ev : Value
  fi : Value
def rwL (vp : Value) (v : RV) (rest : Int) : List Value := [vp, v.ch, v.at_, v.to, v.ov, v.li, v.ev, v.fi, .int .i64 0, .slice none 0 0, .int .i64 0, .int .u64 rest]
def RwP (qb : Nat) (vp : Value) (v : RV) (T : RW) : Asr := Pt qb (rwL vp v T.rest) 97 * (Ow 125 5 rrE v.ch T.ch * (Ow 3 1 iE v.at_ T.at_ * (Ow 171 3 toE v.to T.to * (Ow 4 1 bE v.ov T.ov * (Ow 3 1 iE v.li T.li * (Ow 100 5 ev5 v.ev T.ev * (Ow 4 1 bE v.fi T.fi)))))))
instance instLclRwP (qb : Nat) (vp : Value) (v : RV) (T : RW) : Lcl (RwP qb vp v T) := by unfold RwP; infer_instance
def RwA (qb : Nat) (vp : Value) (T : RW) : Asr := Ex fun v : RV => RwP qb vp v T * Big (T.ch.map RrA)
instance instLclRwA (qb : Nat) (vp : Value) (T : RW) : Lcl (RwA qb vp T) := by unfold RwA; infer_instance
section
variable {w w0 : World} {F0 : Nat → Prop} {R : Asr} {qb : Nat} {vp : Value} {v : RV} {T : RW}
theorem rw_open (S : At (RwA qb vp T * R) w0 F0 w) : ∃ v, At (RwP qb vp v T * (Big (T.ch.map RrA) * R)) w0 F0 w := by
  unfold RwA at S
  obtain ⟨v, S⟩ := S.ex
  exact ⟨v, S.ac (star_assoc _ _ _)⟩
theorem rw_shut (S : At (RwP qb vp v T * (Big (T.ch.map RrA) * R)) w0 F0 w) : At (RwA qb vp T * R) w0 F0 w := by
  unfold RwA
  exact At.intro v (S.ac (star_assoc _ _ _).symm)
theorem rw_blk (S : At (RwP qb vp v T * R) w0 F0 w) : Blk w.heap qb (rwL vp v T.rest) 97 := by
  unfold RwP at S
  exact (S.ac (star_assoc _ _ _)).blk
theorem rw_ch [Lcl R] (S : At (RwP qb vp v T * R) w0 F0 w) : Own w.heap 125 5 rrE v.ch T.ch ∧ v.ch.oneCell' = true ∧ ∀ v' xs' w', Fr (fun k => k = qb ∨ own v.ch = some k) w w' → Blk w'.heap qb (rwL vp { v with ch := v' } T.rest) 97 → Own w'.heap 125 5 rrE v' xs' → v'.oneCell' = true → (∀ k, own v' = some k → own v.ch = some k ∨ w.heap.size ≤ k) → At (RwP qb vp { v with ch := v' } { T with ch := xs' } * R) w0 F0 w' := by
  obtain ⟨_, h1, h2, h3⟩ := (S.ac (show _ = Pt qb (rwL vp v T.rest) 97 * (Ow 125 5 rrE v.ch T.ch * (Ow 3 1 iE v.at_ T.at_ * (Ow 171 3 toE v.to T.to * (Ow 4 1 bE v.ov T.ov * (Ow 3 1 iE v.li T.li * (Ow 100 5 ev5 v.ev T.ev * (Ow 4 1 bE v.fi T.fi * R))))))) by unfold RwP; ac_rfl)).fld
  exact ⟨h1, h2, fun v' xs' w' a b c d e => (h3 _ v' xs' w' a b c d e).ac (by unfold RwP; dsimp only; ac_rfl)⟩
theorem rw_at_ [Lcl R] (S : At (RwP qb vp v T * R) w0 F0 w) : Own w.heap 3 1 iE v.at_ T.at_ ∧ v.at_.oneCell' = true ∧ ∀ v' xs' w', Fr (fun k => k = qb ∨ own v.at_ = some k) w w' → Blk w'.heap qb (rwL vp { v with at_ := v' } T.rest) 97 → Own w'.heap 3 1 iE v' xs' → v'.oneCell' = true → (∀ k, own v' = some k → own v.at_ = some k ∨ w.heap.size ≤ k) → At (RwP qb vp { v with at_ := v' } { T with at_ := xs' } * R) w0 F0 w' := by
  obtain ⟨_, h1, h2, h3⟩ := (S.ac (show _ = Pt qb (rwL vp v T.rest) 97 * (Ow 3 1 iE v.at_ T.at_ * (Ow 125 5 rrE v.ch T.ch * (Ow 171 3 toE v.to T.to * (Ow 4 1 bE v.ov T.ov * (Ow 3 1 iE v.li T.li * (Ow 100 5 ev5 v.ev T.ev * (Ow 4 1 bE v.fi T.fi * R))))))) by unfold RwP; ac_rfl)).fld
  exact ⟨h1, h2, fun v' xs' w' a b c d e => (h3 _ v' xs' w' a b c d e).ac (by unfold RwP; dsimp only; ac_rfl)⟩
theorem rw_to [Lcl R] (S : At (RwP qb vp v T * R) w0 F0 w) : Own w.heap 171 3 toE v.to T.to ∧ v.to.oneCell' = true ∧ ∀ v' xs' w', Fr (fun k => k = qb ∨ own v.to = some k) w w' → Blk w'.heap qb (rwL vp { v with to := v' } T.rest) 97 → Own w'.heap 171 3 toE v' xs' → v'.oneCell' = true → (∀ k, own v' = some k → own v.to = some k ∨ w.heap.size ≤ k) → At (RwP qb vp { v with to := v' } { T with to := xs' } * R) w0 F0 w' := by
  obtain ⟨_, h1, h2, h3⟩ := (S.ac (show _ = Pt qb (rwL vp v T.rest) 97 * (Ow 171 3 toE v.to T.to * (Ow 125 5 rrE v.ch T.ch * (Ow 3 1 iE v.at_ T.at_ * (Ow 4 1 bE v.ov T.ov * (Ow 3 1 iE v.li T.li * (Ow 100 5 ev5 v.ev T.ev * (Ow 4 1 bE v.fi T.fi * R))))))) by unfold RwP; ac_rfl)).fld
  exact ⟨h1, h2, fun v' xs' w' a b c d e => (h3 _ v' xs' w' a b c d e).ac (by unfold RwP; dsimp only; ac_rfl)⟩
theorem rw_ov [Lcl R] (S : At (RwP qb vp v T * R) w0 F0 w) : Own w.heap 4 1 bE v.ov T.ov ∧ v.ov.oneCell' = true ∧ ∀ v' xs' w', Fr (fun k => k = qb ∨ own v.ov = some k) w w' → Blk w'.heap qb (rwL vp { v with ov := v' } T.rest) 97 → Own w'.heap 4 1 bE v' xs' → v'.oneCell' = true → (∀ k, own v' = some k → own v.ov = some k ∨ w.heap.size ≤ k) → At (RwP qb vp { v with ov := v' } { T with ov := xs' } * R) w0 F0 w' := by
  obtain ⟨_, h1, h2, h3⟩ := (S.ac (show _ = Pt qb (rwL vp v T.rest) 97 * (Ow 4 1 bE v.ov T.ov * (Ow 125 5 rrE v.ch T.ch * (Ow 3 1 iE v.at_ T.at_ * (Ow 171 3 toE v.to T.to * (Ow 3 1 iE v.li T.li * (Ow 100 5 ev5 v.ev T.ev * (Ow 4 1 bE v.fi T.fi * R))))))) by unfold RwP; ac_rfl)).fld
  exact ⟨h1, h2, fun v' xs' w' a b c d e => (h3 _ v' xs' w' a b c d e).ac (by unfold RwP; dsimp only; ac_rfl)⟩
theorem rw_li [Lcl R] (S : At (RwP qb vp v T * R) w0 F0 w) : Own w.heap 3 1 iE v.li T.li ∧ v.li.oneCell' = true ∧ ∀ v' xs' w', Fr (fun k => k = qb ∨ own v.li = some k) w w' → Blk w'.heap qb (rwL vp { v with li := v' } T.rest) 97 → Own w'.heap 3 1 iE v' xs' → v'.oneCell' = true → (∀ k, own v' = some k → own v.li = some k ∨ w.heap.size ≤ k) → At (RwP qb vp { v with li := v' } { T with li := xs' } * R) w0 F0 w' := by
  obtain ⟨_, h1, h2, h3⟩ := (S.ac (show _ = Pt qb (rwL vp v T.rest) 97 * (Ow 3 1 iE v.li T.li * (Ow 125 5 rrE v.ch T.ch * (Ow 3 1 iE v.at_ T.at_ * (Ow 171 3 toE v.to T.to * (Ow 4 1 bE v.ov T.ov * (Ow 100 5 ev5 v.ev T.ev * (Ow 4 1 bE v.fi T.fi * R))))))) by unfold RwP; ac_rfl)).fld
  exact ⟨h1, h2, fun v' xs' w' a b c d e => (h3 _ v' xs' w' a b c d e).ac (by unfold RwP; dsimp only; ac_rfl)⟩
theorem rw_ev [Lcl R] (S : At (RwP qb vp v T * R) w0 F0 w) : Own w.heap 100 5 ev5 v.ev T.ev ∧ v.ev.oneCell' = true ∧ ∀ v' xs' w', Fr (fun k => k = qb ∨ own v.ev = some k) w w' → Blk w'.heap qb (rwL vp { v with ev := v' } T.rest) 97 → Own w'.heap 100 5 ev5 v' xs' → v'.oneCell' = true → (∀ k, own v' = some k → own v.ev = some k ∨ w.heap.size ≤ k) → At (RwP qb vp { v with ev := v' } { T with ev := xs' } * R) w0 F0 w' := by
  obtain ⟨_, h1, h2, h3⟩ := (S.ac (show _ = Pt qb (rwL vp v T.rest) 97 * (Ow 100 5 ev5 v.ev T.ev * (Ow 125 5 rrE v.ch T.ch * (Ow 3 1 iE v.at_ T.at_ * (Ow 171 3 toE v.to T.to * (Ow 4 1 bE v.ov T.ov * (Ow 3 1 iE v.li T.li * (Ow 4 1 bE v.fi T.fi * R))))))) by unfold RwP; ac_rfl)).fld
  exact ⟨h1, h2, fun v' xs' w' a b c d e => (h3 _ v' xs' w' a b c d e).ac (by unfold RwP; dsimp only; ac_rfl)⟩
theorem rw_fi [Lcl R] (S : At (RwP qb vp v T * R) w0 F0 w) : Own w.heap 4 1 bE v.fi T.fi ∧ v.fi.oneCell' = true ∧ ∀ v' xs' w', Fr (fun k => k = qb ∨ own v.fi = some k) w w' → Blk w'.heap qb (rwL vp { v with fi := v' } T.rest) 97 → Own w'.heap 4 1 bE v' xs' → v'.oneCell' = true → (∀ k, own v' = some k → own v.fi = some k ∨ w.heap.size ≤ k) → At (RwP qb vp { v with fi := v' } { T with fi := xs' } * R) w0 F0 w' := by
  obtain ⟨_, h1, h2, h3⟩ := (S.ac (show _ = Pt qb (rwL vp v T.rest) 97 * (Ow 4 1 bE v.fi T.fi * (Ow 125 5 rrE v.ch T.ch * (Ow 3 1 iE v.at_ T.at_ * (Ow 171 3 toE v.to T.to * (Ow 4 1 bE v.ov T.ov * (Ow 3 1 iE v.li T.li * (Ow 100 5 ev5 v.ev T.ev * R))))))) by unfold RwP; ac_rfl)).fld
  exact ⟨h1, h2, fun v' xs' w' a b c d e => (h3 _ v' xs' w' a b c d e).ac (by unfold RwP; dsimp only; ac_rfl)⟩
theorem rw_ones [Lcl R] (S : At (RwP qb vp v T * R) w0 F0 w) : v.ch.oneCell' = true ∧ v.at_.oneCell' = true ∧ v.to.oneCell' = true ∧ v.ov.oneCell' = true ∧ v.li.oneCell' = true ∧ v.ev.oneCell' = true ∧ v.fi.oneCell' = true :=
  ⟨(rw_ch S).2.1, (rw_at_ S).2.1, (rw_to S).2.1, (rw_ov S).2.1, (rw_li S).2.1, (rw_ev S).2.1, (rw_fi S).2.1⟩
end
end Go.Proofs.YtbaidcnalkdhgaaGreat

set_option maxRecDepth 100000
namespace Go.Proofs.YtbaidcnalkdhgaaGreat
open Go Go.Eng
/-- a channel of the document's machine; a timer; the machine -/
structure MC where
  size : Int
  buf : List Int
  snd : List Wt
  rcv : List Wt
  closed : Bool
structure Tm where
  due : Int
  task : Int
  no : Int
def tmE (x : Tm) : List Value := [.int .i64 x.due, .int .i64 x.task, .int .i64 x.no]
structure MW where
  ch : List MC
  at_ : List Int
  to : List To
  ov : List Bool
  li : List Int
  ev : List Ev5
  fi : List Bool
  now : Int
  tm : List Tm
  made : Int
  rest : Int
def RR.m (x : RR) : MC := ⟨x.size, x.buf, x.snd, x.rcv, x.closed⟩
structure GV where
  ch : Value
  at_ : Value
  to : Value
  ov : Value
  li : Value
  ev : Value
  fi : Value
  tm : Value
def gwL (vp : Value) (v : GV) (now made rest : Int) : List Value := [vp, v.ch, v.at_, v.to, v.ov, v.li, v.ev, v.fi, .int .i64 now, v.tm, .int .i64 made, .int .u64 rest]
def GwP (qb : Nat) (vp : Value) (v : GV) (rows : List RR) (S : MW) : Asr := Pt qb (gwL vp v S.now S.made S.rest) 97 * (Ow 125 5 rrE v.ch rows * (Ow 3 1 iE v.at_ S.at_ * (Ow 171 3 toE v.to S.to * (Ow 4 1 bE v.ov S.ov * (Ow 3 1 iE v.li S.li * (Ow 100 5 ev5 v.ev S.ev * (Ow 4 1 bE v.fi S.fi * (Ow 195 3 tmE v.tm S.tm))))))))
instance instLclGwP (qb : Nat) (vp : Value) (v : GV) (rows : List RR) (S : MW) : Lcl (GwP qb vp v rows S) := by unfold GwP; infer_instance
def GwA (qb : Nat) (vp : Value) (S : MW) : Asr := Ex fun v : GV => Ex fun rows : List RR => Pu (rows.map RR.m = S.ch) * (GwP qb vp v rows S * Big (rows.map RrA))
instance instLclGwA (qb : Nat) (vp : Value) (S : MW) : Lcl (GwA qb vp S) := by unfold GwA; infer_instance
section
variable {w w0 : World} {F0 : Nat → Prop} {R : Asr} {qb : Nat} {vp : Value} {v : GV} {rows : List RR} {S : MW}
theorem gw_open (S1 : At (GwA qb vp S * R) w0 F0 w) : ∃ v rows, rows.map RR.m = S.ch ∧ At (GwP qb vp v rows S * (Big (rows.map RrA) * R)) w0 F0 w := by
  unfold GwA at S1
  obtain ⟨v, S1⟩ := S1.ex
  obtain ⟨rows, S1⟩ := S1.ex
  obtain ⟨h, S1⟩ := (S1.ac (star_assoc _ _ _)).pure
  exact ⟨v, rows, h, S1.ac (star_assoc _ _ _)⟩
theorem gw_shut (h : rows.map RR.m = S.ch) (S1 : At (GwP qb vp v rows S * (Big (rows.map RrA) * R)) w0 F0 w) : At (GwA qb vp S * R) w0 F0 w := by
  unfold GwA
  refine At.intro v (At.intro rows ?_)
  exact ((S1.add h).ac (by ac_rfl))
theorem gw_blk (S1 : At (GwP qb vp v rows S * R) w0 F0 w) : Blk w.heap qb (gwL vp v S.now S.made S.rest) 97 := by
  unfold GwP at S1
  exact (S1.ac (star_assoc _ _ _)).blk
theorem gw_num [Lcl R] (S1 : At (GwP qb vp v rows S * R) w0 F0 w) (a b c : Int) : At (GwP qb vp v rows { S with now := a, made := b, rest := c } * R) w0 F0 (w.setRow qb (gwL vp v a b c).toArray) := by
  unfold GwP at S1 ⊢
  exact ((S1.ac (star_assoc _ _ _)).set (cs' := gwL vp v a b c)).ac (star_assoc _ _ _).symm
theorem gw_ch [Lcl R] (S1 : At (GwP qb vp v rows S * R) w0 F0 w) : Own w.heap 125 5 rrE v.ch rows ∧ v.ch.oneCell' = true ∧ ∀ v' xs' w', Fr (fun k => k = qb ∨ own v.ch = some k) w w' → Blk w'.heap qb (gwL vp { v with ch := v' } S.now S.made S.rest) 97 → Own w'.heap 125 5 rrE v' xs' → v'.oneCell' = true → (∀ k, own v' = some k → own v.ch = some k ∨ w.heap.size ≤ k) → At (GwP qb vp { v with ch := v' } xs' S * R) w0 F0 w' := by
  obtain ⟨_, h1, h2, h3⟩ := (S1.ac (show _ = Pt qb (gwL vp v S.now S.made S.rest) 97 * (Ow 125 5 rrE v.ch rows * (Ow 3 1 iE v.at_ S.at_ * (Ow 171 3 toE v.to S.to * (Ow 4 1 bE v.ov S.ov * (Ow 3 1 iE v.li S.li * (Ow 100 5 ev5 v.ev S.ev * (Ow 4 1 bE v.fi S.fi * (Ow 195 3 tmE v.tm S.tm * (R))))))))) by unfold GwP; ac_rfl)).fld
  exact ⟨h1, h2, fun v' xs' w' a b c d e => (h3 _ v' xs' w' a b c d e).ac (by unfold GwP; dsimp only; ac_rfl)⟩
/-- the rows alone -/
theorem gw_rows {xs' : List RR} {w' : World} [Lcl R] (S1 : At (GwP qb vp v rows S * R) w0 F0 w) (hf : Fr (fun k => own v.ch = some k) w w') (ho : Own w'.heap 125 5 rrE v.ch xs') : At (GwP qb vp v xs' S * R) w0 F0 w' := by
  obtain ⟨h1, h2, h3⟩ := gw_ch S1
  exact h3 v.ch xs' w' (hf.mono fun _ _ h => .inr h) ((gw_blk S1).fr hf (fun h => Own.ne_blk h1 (gw_blk S1) (by decide) h)) ho h2 (fun _ h => .inl h)
theorem gw_at_ [Lcl R] (S1 : At (GwP qb vp v rows S * R) w0 F0 w) : Own w.heap 3 1 iE v.at_ S.at_ ∧ v.at_.oneCell' = true ∧ ∀ v' xs' w', Fr (fun k => k = qb ∨ own v.at_ = some k) w w' → Blk w'.heap qb (gwL vp { v with at_ := v' } S.now S.made S.rest) 97 → Own w'.heap 3 1 iE v' xs' → v'.oneCell' = true → (∀ k, own v' = some k → own v.at_ = some k ∨ w.heap.size ≤ k) → At (GwP qb vp { v with at_ := v' } rows { S with at_ := xs' } * R) w0 F0 w' := by
  obtain ⟨_, h1, h2, h3⟩ := (S1.ac (show _ = Pt qb (gwL vp v S.now S.made S.rest) 97 * (Ow 3 1 iE v.at_ S.at_ * (Ow 125 5 rrE v.ch rows * (Ow 171 3 toE v.to S.to * (Ow 4 1 bE v.ov S.ov * (Ow 3 1 iE v.li S.li * (Ow 100 5 ev5 v.ev S.ev * (Ow 4 1 bE v.fi S.fi * (Ow 195 3 tmE v.tm S.tm * (R))))))))) by unfold GwP; ac_rfl)).fld
  exact ⟨h1, h2, fun v' xs' w' a b c d e => (h3 _ v' xs' w' a b c d e).ac (by unfold GwP; dsimp only; ac_rfl)⟩
theorem gw_sat_ {xs' : List Int} {w' : World} [Lcl R] (S1 : At (GwP qb vp v rows S * R) w0 F0 w) (hf : Fr (fun k => own v.at_ = some k) w w') (ho : Own w'.heap 3 1 iE v.at_ xs') : At (GwP qb vp v rows { S with at_ := xs' } * R) w0 F0 w' := by
  obtain ⟨h1, h2, h3⟩ := gw_at_ S1
  exact h3 v.at_ xs' w' (hf.mono fun _ _ h => .inr h) ((gw_blk S1).fr hf (fun h => Own.ne_blk h1 (gw_blk S1) (by decide) h)) ho h2 (fun _ h => .inl h)
theorem gw_to [Lcl R] (S1 : At (GwP qb vp v rows S * R) w0 F0 w) : Own w.heap 171 3 toE v.to S.to ∧ v.to.oneCell' = true ∧ ∀ v' xs' w', Fr (fun k => k = qb ∨ own v.to = some k) w w' → Blk w'.heap qb (gwL vp { v with to := v' } S.now S.made S.rest) 97 → Own w'.heap 171 3 toE v' xs' → v'.oneCell' = true → (∀ k, own v' = some k → own v.to = some k ∨ w.heap.size ≤ k) → At (GwP qb vp { v with to := v' } rows { S with to := xs' } * R) w0 F0 w' := by
  obtain ⟨_, h1, h2, h3⟩ := (S1.ac (show _ = Pt qb (gwL vp v S.now S.made S.rest) 97 * (Ow 171 3 toE v.to S.to * (Ow 125 5 rrE v.ch rows * (Ow 3 1 iE v.at_ S.at_ * (Ow 4 1 bE v.ov S.ov * (Ow 3 1 iE v.li S.li * (Ow 100 5 ev5 v.ev S.ev * (Ow 4 1 bE v.fi S.fi * (Ow 195 3 tmE v.tm S.tm * (R))))))))) by unfold GwP; ac_rfl)).fld
  exact ⟨h1, h2, fun v' xs' w' a b c d e => (h3 _ v' xs' w' a b c d e).ac (by unfold GwP; dsimp only; ac_rfl)⟩
theorem gw_sto {xs' : List To} {w' : World} [Lcl R] (S1 : At (GwP qb vp v rows S * R) w0 F0 w) (hf : Fr (fun k => own v.to = some k) w w') (ho : Own w'.heap 171 3 toE v.to xs') : At (GwP qb vp v rows { S with to := xs' } * R) w0 F0 w' := by
  obtain ⟨h1, h2, h3⟩ := gw_to S1
  exact h3 v.to xs' w' (hf.mono fun _ _ h => .inr h) ((gw_blk S1).fr hf (fun h => Own.ne_blk h1 (gw_blk S1) (by decide) h)) ho h2 (fun _ h => .inl h)
theorem gw_ov [Lcl R] (S1 : At (GwP qb vp v rows S * R) w0 F0 w) : Own w.heap 4 1 bE v.ov S.ov ∧ v.ov.oneCell' = true ∧ ∀ v' xs' w', Fr (fun k => k = qb ∨ own v.ov = some k) w w' → Blk w'.heap qb (gwL vp { v with ov := v' } S.now S.made S.rest) 97 → Own w'.heap 4 1 bE v' xs' → v'.oneCell' = true → (∀ k, own v' = some k → own v.ov = some k ∨ w.heap.size ≤ k) → At (GwP qb vp { v with ov := v' } rows { S with ov := xs' } * R) w0 F0 w' := by
  obtain ⟨_, h1, h2, h3⟩ := (S1.ac (show _ = Pt qb (gwL vp v S.now S.made S.rest) 97 * (Ow 4 1 bE v.ov S.ov * (Ow 125 5 rrE v.ch rows * (Ow 3 1 iE v.at_ S.at_ * (Ow 171 3 toE v.to S.to * (Ow 3 1 iE v.li S.li * (Ow 100 5 ev5 v.ev S.ev * (Ow 4 1 bE v.fi S.fi * (Ow 195 3 tmE v.tm S.tm * (R))))))))) by unfold GwP; ac_rfl)).fld
  exact ⟨h1, h2, fun v' xs' w' a b c d e => (h3 _ v' xs' w' a b c d e).ac (by unfold GwP; dsimp only; ac_rfl)⟩
theorem gw_sov {xs' : List Bool} {w' : World} [Lcl R] (S1 : At (GwP qb vp v rows S * R) w0 F0 w) (hf : Fr (fun k => own v.ov = some k) w w') (ho : Own w'.heap 4 1 bE v.ov xs') : At (GwP qb vp v rows { S with ov := xs' } * R) w0 F0 w' := by
  obtain ⟨h1, h2, h3⟩ := gw_ov S1
  exact h3 v.ov xs' w' (hf.mono fun _ _ h => .inr h) ((gw_blk S1).fr hf (fun h => Own.ne_blk h1 (gw_blk S1) (by decide) h)) ho h2 (fun _ h => .inl h)
theorem gw_li [Lcl R] (S1 : At (GwP qb vp v rows S * R) w0 F0 w) : Own w.heap 3 1 iE v.li S.li ∧ v.li.oneCell' = true ∧ ∀ v' xs' w', Fr (fun k => k = qb ∨ own v.li = some k) w w' → Blk w'.heap qb (gwL vp { v with li := v' } S.now S.made S.rest) 97 → Own w'.heap 3 1 iE v' xs' → v'.oneCell' = true → (∀ k, own v' = some k → own v.li = some k ∨ w.heap.size ≤ k) → At (GwP qb vp { v with li := v' } rows { S with li := xs' } * R) w0 F0 w' := by
  obtain ⟨_, h1, h2, h3⟩ := (S1.ac (show _ = Pt qb (gwL vp v S.now S.made S.rest) 97 * (Ow 3 1 iE v.li S.li * (Ow 125 5 rrE v.ch rows * (Ow 3 1 iE v.at_ S.at_ * (Ow 171 3 toE v.to S.to * (Ow 4 1 bE v.ov S.ov * (Ow 100 5 ev5 v.ev S.ev * (Ow 4 1 bE v.fi S.fi * (Ow 195 3 tmE v.tm S.tm * (R))))))))) by unfold GwP; ac_rfl)).fld
  exact ⟨h1, h2, fun v' xs' w' a b c d e => (h3 _ v' xs' w' a b c d e).ac (by unfold GwP; dsimp only; ac_rfl)⟩
theorem gw_ev [Lcl R] (S1 : At (GwP qb vp v rows S * R) w0 F0 w) : Own w.heap 100 5 ev5 v.ev S.ev ∧ v.ev.oneCell' = true ∧ ∀ v' xs' w', Fr (fun k => k = qb ∨ own v.ev = some k) w w' → Blk w'.heap qb (gwL vp { v with ev := v' } S.now S.made S.rest) 97 → Own w'.heap 100 5 ev5 v' xs' → v'.oneCell' = true → (∀ k, own v' = some k → own v.ev = some k ∨ w.heap.size ≤ k) → At (GwP qb vp { v with ev := v' } rows { S with ev := xs' } * R) w0 F0 w' := by
  obtain ⟨_, h1, h2, h3⟩ := (S1.ac (show _ = Pt qb (gwL vp v S.now S.made S.rest) 97 * (Ow 100 5 ev5 v.ev S.ev * (Ow 125 5 rrE v.ch rows * (Ow 3 1 iE v.at_ S.at_ * (Ow 171 3 toE v.to S.to * (Ow 4 1 bE v.ov S.ov * (Ow 3 1 iE v.li S.li * (Ow 4 1 bE v.fi S.fi * (Ow 195 3 tmE v.tm S.tm * (R))))))))) by unfold GwP; ac_rfl)).fld
  exact ⟨h1, h2, fun v' xs' w' a b c d e => (h3 _ v' xs' w' a b c d e).ac (by unfold GwP; dsimp only; ac_rfl)⟩
theorem gw_fi [Lcl R] (S1 : At (GwP qb vp v rows S * R) w0 F0 w) : Own w.heap 4 1 bE v.fi S.fi ∧ v.fi.oneCell' = true ∧ ∀ v' xs' w', Fr (fun k => k = qb ∨ own v.fi = some k) w w' → Blk w'.heap qb (gwL vp { v with fi := v' } S.now S.made S.rest) 97 → Own w'.heap 4 1 bE v' xs' → v'.oneCell' = true → (∀ k, own v' = some k → own v.fi = some k ∨ w.heap.size ≤ k) → At (GwP qb vp { v with fi := v' } rows { S with fi := xs' } * R) w0 F0 w' := by
  obtain ⟨_, h1, h2, h3⟩ := (S1.ac (show _ = Pt qb (gwL vp v S.now S.made S.rest) 97 * (Ow 4 1 bE v.fi S.fi * (Ow 125 5 rrE v.ch rows * (Ow 3 1 iE v.at_ S.at_ * (Ow 171 3 toE v.to S.to * (Ow 4 1 bE v.ov S.ov * (Ow 3 1 iE v.li S.li * (Ow 100 5 ev5 v.ev S.ev * (Ow 195 3 tmE v.tm S.tm * (R))))))))) by unfold GwP; ac_rfl)).fld
  exact ⟨h1, h2, fun v' xs' w' a b c d e => (h3 _ v' xs' w' a b c d e).ac (by unfold GwP; dsimp only; ac_rfl)⟩
theorem gw_sfi {xs' : List Bool} {w' : World} [Lcl R] (S1 : At (GwP qb vp v rows S * R) w0 F0 w) (hf : Fr (fun k => own v.fi = some k) w w') (ho : Own w'.heap 4 1 bE v.fi xs') : At (GwP qb vp v rows { S with fi := xs' } * R) w0 F0 w' := by
  obtain ⟨h1, h2, h3⟩ := gw_fi S1
  exact h3 v.fi xs' w' (hf.mono fun _ _ h => .inr h) ((gw_blk S1).fr hf (fun h => Own.ne_blk h1 (gw_blk S1) (by decide) h)) ho h2 (fun _ h => .inl h)
theorem gw_tm [Lcl R] (S1 : At (GwP qb vp v rows S * R) w0 F0 w) : Own w.heap 195 3 tmE v.tm S.tm ∧ v.tm.oneCell' = true ∧ ∀ v' xs' w', Fr (fun k => k = qb ∨ own v.tm = some k) w w' → Blk w'.heap qb (gwL vp { v with tm := v' } S.now S.made S.rest) 97 → Own w'.heap 195 3 tmE v' xs' → v'.oneCell' = true → (∀ k, own v' = some k → own v.tm = some k ∨ w.heap.size ≤ k) → At (GwP qb vp { v with tm := v' } rows { S with tm := xs' } * R) w0 F0 w' := by
  obtain ⟨_, h1, h2, h3⟩ := (S1.ac (show _ = Pt qb (gwL vp v S.now S.made S.rest) 97 * (Ow 195 3 tmE v.tm S.tm * (Ow 125 5 rrE v.ch rows * (Ow 3 1 iE v.at_ S.at_ * (Ow 171 3 toE v.to S.to * (Ow 4 1 bE v.ov S.ov * (Ow 3 1 iE v.li S.li * (Ow 100 5 ev5 v.ev S.ev * (Ow 4 1 bE v.fi S.fi * (R))))))))) by unfold GwP; ac_rfl)).fld
  exact ⟨h1, h2, fun v' xs' w' a b c d e => (h3 _ v' xs' w' a b c d e).ac (by unfold GwP; dsimp only; ac_rfl)⟩
theorem gw_ones [Lcl R] (S1 : At (GwP qb vp v rows S * R) w0 F0 w) : v.ch.oneCell' = true ∧ v.at_.oneCell' = true ∧ v.to.oneCell' = true ∧ v.ov.oneCell' = true ∧ v.li.oneCell' = true ∧ v.ev.oneCell' = true ∧ v.fi.oneCell' = true ∧ v.tm.oneCell' = true :=
  ⟨(gw_ch S1).2.1, (gw_at_ S1).2.1, (gw_to S1).2.1, (gw_ov S1).2.1, (gw_li S1).2.1, (gw_ev S1).2.1, (gw_fi S1).2.1, (gw_tm S1).2.1⟩
end
end Go.Proofs.YtbaidcnalkdhgaaGreat
set_option maxRecDepth 100000
namespace Go.Proofs.YtbaidcnalkdhgaaGreat
open Go Go.Eng
def lvW (fi : List Bool) (x : Wt) : Bool := !(fi[x.tk.toNat]?).getD false
def MC.clean (fi : List Bool) (c : MC) : MC := { c with snd := c.snd.filter (lvW fi), rcv := c.rcv.filter (lvW fi) }
def MW.clean (S : MW) : MW := { S with ch := S.ch.map (MC.clean S.fi) }
def MW.yields (S : MW) (id : Int) (t : To) : MW := { S with to := S.to.set id.toNat t, li := S.li ++ [id] }
def MW.serve (S : MW) (x : Wt) (v : Int) (ok : Bool) : MW :=
  if 0 ≤ x.task then (({ S with fi := S.fi.set x.tk.toNat true } : MW).clean).yields x.task ⟨x.which, v, ok⟩ else ({ S with fi := S.fi.set x.tk.toNat true } : MW).clean
def MC.canS (d : MC) : Bool := d.closed || (decide (0 < d.rcv.length) || decide ((d.buf.length : Int) < d.size))
def MC.canR (d : MC) : Bool := d.closed || (decide (0 < d.buf.length) || decide (0 < d.snd.length))
def MW.setC (S : MW) (j : Nat) (d : MC) : MW := { S with ch := S.ch.set j d }
def MW.send (S : MW) (j : Nat) (v : Int) : MW × Bool := match S.ch[j]? with
  | none => (S, false)
  | some d => if d.closed then (S, false) else match d.rcv with
    | x :: _ => (S.serve x v true, true)
    | [] => (S.setC j { d with buf := d.buf ++ [v] }, true)
def MW.recv (S : MW) (j : Nat) : MW × Int × Bool := match S.ch[j]? with
  | none => (S, 0, false)
  | some d => match d.buf with
    | b :: r => match d.snd with
      | [] => (S.setC j { d with buf := r }, b, true)
      | x :: _ => ((S.setC j { d with buf := r ++ [x.v] }).serve x 0 true, b, true)
    | [] => match d.snd with
      | x :: _ => (S.serve x 0 true, x.v, true)
      | [] => (S, 0, false)
def MW.endsR (j : Nat) : Nat → MW → MW
  | 0, S => S
  | f + 1, S => match S.ch[j]? with
    | none => S
    | some d => match d.rcv with
      | [] => S
      | x :: _ => MW.endsR j f (S.serve x 0 false)
def MW.endsS (j : Nat) : Nat → MW → MW
  | 0, S => S
  | f + 1, S => match S.ch[j]? with
    | none => S
    | some d => match d.snd with
      | [] => S
      | x :: _ => MW.endsS j f (S.serve x 0 false)
def MW.rcvL (S : MW) (j : Nat) : Nat := (S.ch[j]?).elim 0 fun d => d.rcv.length
def MW.sndL (S : MW) (j : Nat) : Nat := (S.ch[j]?).elim 0 fun d => d.snd.length
def MW.close1 (S : MW) (j : Nat) (d : MC) : MW := MW.endsR j d.rcv.length (S.setC j { d with closed := true })
def MW.close (S : MW) (j : Nat) : MW × Bool := match S.ch[j]? with
  | none => (S, false)
  | some d => if d.closed then (S, false) else (MW.endsS j ((S.close1 j d).sndL j) (S.close1 j d), true)
/-- a case of a select -/
structure Cs where
  send : Bool
  c : Int
  v : Int
def csE (x : Cs) : List Value := [.bool x.send, .int .i64 x.c, .int .i64 x.v]
instance encCs : EncOk csE 3 := ⟨by intro x u h; simp [csE] at h; rcases h with rfl | rfl | rfl <;> rfl, fun _ => rfl⟩
def MW.can (S : MW) (x : Cs) : Bool := (S.ch[x.c.toNat]?).elim false fun d => if x.send then d.canS else d.canR
/-- those of the first k that can be now -/
def MW.cans (S : MW) (l : List Cs) (k : Nat) : List Int := ((List.range k).filter fun i => (l[i]?).elim false S.can).map fun (n : Nat) => (n : Int)
def MW.go (S : MW) (id : Int) (l : List Cs) (a : Int) : MW := match l[a.toNat]? with
  | none => S
  | some x => if x.send then (S.send x.c.toNat x.v).1.yields id ⟨a, 0, (S.send x.c.toNat x.v).2⟩ else (S.recv x.c.toNat).1.yields id ⟨a, (S.recv x.c.toNat).2.1, (S.recv x.c.toNat).2.2⟩
def MC.put (d : MC) (send : Bool) (x : Wt) : MC := if send then { d with snd := d.snd ++ [x] } else { d with rcv := d.rcv ++ [x] }
def MW.wait1 (S : MW) (id k : Int) (i : Nat) (x : Cs) : MW := match S.ch[x.c.toNat]? with
  | none => S
  | some d => S.setC x.c.toNat (d.put x.send ⟨id, k, i, x.v⟩)
def MW.waitN (S : MW) (id k : Int) (l : List Cs) : Nat → MW
  | 0 => S
  | n + 1 => match l[n]? with
    | none => MW.waitN S id k l n
    | some x => (MW.waitN S id k l n).wait1 id k n x
def MW.choose (S : MW) (id : Int) (l : List Cs) (std : Bool) : MW :=
  if 0 < (S.cans l l.length).length then
    if 1 < l.length then ({ S with rest := S.rest / (S.cans l l.length).length } : MW).go id l ((S.cans l l.length).getD (S.rest % (S.cans l l.length).length).toNat 0)
    else S.go id l ((S.cans l l.length).getD 0 0)
  else if std then S.yields id ⟨-1, 0, false⟩
  else ({ S with fi := S.fi ++ [false] } : MW).waitN id S.fi.length l l.length
def MW.sleep (S : MW) (id d : Int) : MW :=
  if d ≤ 0 then ({ S with made := S.made + 1 } : MW).yields id ⟨0, S.now, true⟩ else { S with made := S.made + 1, tm := S.tm ++ [⟨S.now + d, id, S.made⟩] }
def MW.stopAt (S : MW) (no : Int) : Option Nat := S.tm.findIdx? fun t => decide (t.no = no)
def MW.stop (S : MW) (no : Int) : MW × Bool := match S.stopAt no with
  | none => (S, false)
  | some i => match S.tm[i]? with
    | none => (S, false)
    | some t => (({ S with tm := S.tm.eraseIdx i } : MW).yields t.task ⟨0, 0, false⟩, true)
def MW.act (S : MW) (id : Int) (d : Do5) (cs : List Cs) : MW :=
  if d.k = 1 then S.yields id ⟨0, 0, false⟩
  else if d.k = 2 then S.choose id [⟨true, d.c, d.v⟩] false
  else if d.k = 3 then S.choose id [⟨false, d.c, 0⟩] false
  else if d.k = 4 then (S.close d.c.toNat).1.yields id ⟨0, 0, (S.close d.c.toNat).2⟩
  else if d.k = 5 then S.choose id cs d.df
  else if d.k = 6 then
    if S.can ⟨true, d.c, d.v⟩ then (S.send d.c.toNat d.v).1.yields id ⟨0, 0, (S.send d.c.toNat d.v).2⟩ else S.yields id ⟨0, 0, false⟩
  else if d.k = 7 then
    if S.can ⟨false, d.c, 0⟩ then (S.recv d.c.toNat).1.yields id ⟨0, (S.recv d.c.toNat).2.1, (S.recv d.c.toNat).2.2⟩ else S.yields id ⟨1, 0, false⟩
  else if d.k = 8 then S.sleep id d.v
  else if d.k = 9 then (S.stop d.c).1.yields id ⟨0, 0, (S.stop d.c).2⟩
  else { S with ov := S.ov.set id.toNat true }
/-- a turn's beginning -/
def MW.begin (S : MW) (i : Nat) (a : Int) (x : To) (p : Int) : MW := { S with li := without S.li (p % S.li.length), rest := p / S.li.length, ev := S.ev ++ [⟨i, a, x.c, x.v, x.ok⟩], to := S.to.set i ⟨0, 0, false⟩, at_ := S.at_.set i (a + 1) }
section
variable {w w0 : World} {F0 : Nat → Prop} {R : Asr} {qb : Nat} {vp : Value} {v : GV} {rows : List RR} {S : MW} {j : Nat} {r r' : RR}
theorem gw_row (hr : rows[j]? = some r) (S1 : At (GwP qb vp v rows S * (Big (rows.map RrA) * R)) w0 F0 w) :
    At (Ow 3 1 iE r.bv.1 r.buf * (Ow 271 4 wtE r.sv.1 r.snd * (Ow 271 4 wtE r.rv.1 r.rcv * (GwP qb vp v rows S * (Big ((rows.eraseIdx j).map RrA) * R))))) w0 F0 w := S1.ac (by
  rw [big_map_pick RrA hr]
  unfold RrA
  ac_rfl)
theorem gw_unrow (hj : j < rows.length) (S1 : At (Ow 3 1 iE r'.bv.1 r'.buf * (Ow 271 4 wtE r'.sv.1 r'.snd * (Ow 271 4 wtE r'.rv.1 r'.rcv * (GwP qb vp v (rows.set j r') S * (Big ((rows.eraseIdx j).map RrA) * R))))) w0 F0 w) :
    At (GwP qb vp v (rows.set j r') S * (Big ((rows.set j r').map RrA) * R)) w0 F0 w := S1.ac (by
  rw [big_map_put RrA r' hj]
  unfold RrA
  ac_rfl)
theorem rows_set {d : MC} (h : rows.map RR.m = S.ch) (hr : r'.m = d) : (rows.set j r').map RR.m = (S.setC j d).ch := by
  show (rows.set j r').map RR.m = S.ch.set j d
  rw [List.map_set, h, hr]
theorem rows_get {d : MC} (h : rows.map RR.m = S.ch) (hd : S.ch[j]? = some d) : ∃ r, rows[j]? = some r ∧ r.m = d := by
  rw [← h, List.getElem?_map] at hd
  cases hr : rows[j]? with
  | none => rw [hr] at hd; cases hd
  | some r => rw [hr] at hd; exact ⟨r, rfl, Option.some.inj hd⟩
end
end Go.Proofs.YtbaidcnalkdhgaaGreat
set_option maxRecDepth 100000
namespace Go.Proofs.YtbaidcnalkdhgaaGreat
open Go Go.Eng
structure MKp (n : Nat) (S T : MW) : Prop where
  ev : T.ev = S.ev
  at_ : T.at_ = S.at_
  ov : T.ov = S.ov
  fi : T.fi.length = S.fi.length
  to : T.to.length = S.to.length
  ch : T.ch.length = S.ch.length
  rest : T.rest = S.rest
  li : T.li.length ≤ S.li.length + n
section
variable {S T U : MW} {n m j : Nat} {id v : Int} {t : To} {x : Wt} {ok : Bool}
theorem MKp.refl (S : MW) (n : Nat) : MKp n S S := ⟨rfl, rfl, rfl, rfl, rfl, rfl, rfl, Nat.le_add_right _ _⟩
theorem MKp.trans (h : MKp n S T) (k : MKp m T U) : MKp (n + m) S U := ⟨k.ev.trans h.ev, k.at_.trans h.at_, k.ov.trans h.ov, k.fi.trans h.fi, k.to.trans h.to, k.ch.trans h.ch, k.rest.trans h.rest, by have := h.li; have := k.li; omega⟩
theorem MKp.mono (h : MKp n S T) (hm : n ≤ m) : MKp m S T := { h with li := by have := h.li; omega }
theorem setC_mkp (S : MW) (j : Nat) (d : MC) (n : Nat) : MKp n S (S.setC j d) := ⟨rfl, rfl, rfl, rfl, rfl, List.length_set, rfl, Nat.le_add_right _ _⟩
theorem yields_mkp (S : MW) (id : Int) (t : To) : MKp 1 S (S.yields id t) := ⟨rfl, rfl, rfl, rfl, List.length_set, rfl, rfl, by show (S.li ++ [id]).length ≤ _; simp⟩
theorem clean_mkp (S : MW) (k : Nat) : MKp 0 S (({ S with fi := S.fi.set k true } : MW).clean) := ⟨rfl, rfl, rfl, List.length_set, rfl, List.length_map _, rfl, Nat.le_refl _⟩
theorem serve_mkp (S : MW) (x : Wt) (v : Int) (ok : Bool) : MKp 1 S (S.serve x v ok) := by
  unfold MW.serve
  split
  · exact (clean_mkp S _).trans (yields_mkp _ _ _)
  · exact (clean_mkp S _).mono (Nat.zero_le _)
theorem send_mkp (S : MW) (j : Nat) (v : Int) : MKp 1 S (S.send j v).1 := by
  unfold MW.send
  split
  · exact .refl _ _
  · split
    · exact .refl _ _
    · split
      · exact serve_mkp _ _ _ _
      · exact setC_mkp _ _ _ _
theorem recv_mkp (S : MW) (j : Nat) : MKp 1 S (S.recv j).1 := by
  unfold MW.recv
  split
  · exact .refl _ _
  · split
    · split
      · exact setC_mkp _ _ _ _
      · exact (setC_mkp S _ _ 0).trans (serve_mkp _ _ _ _)
    · split
      · exact serve_mkp _ _ _ _
      · exact .refl _ _
theorem endsR_mkp (j : Nat) : ∀ (f : Nat) (S : MW), MKp f S (MW.endsR j f S)
  | 0, S => .refl _ _
  | f + 1, S => by
    unfold MW.endsR
    split
    · exact .refl _ _
    · split
      · exact .refl _ _
      · exact ((serve_mkp S _ 0 false).trans (endsR_mkp j f _)).mono (by omega)
theorem endsS_mkp (j : Nat) : ∀ (f : Nat) (S : MW), MKp f S (MW.endsS j f S)
  | 0, S => .refl _ _
  | f + 1, S => by
    unfold MW.endsS
    split
    · exact .refl _ _
    · split
      · exact .refl _ _
      · exact ((serve_mkp S _ 0 false).trans (endsS_mkp j f _)).mono (by omega)
theorem close_mkp (S : MW) (j : Nat) : ∃ n, MKp n S (S.close j).1 := by
  unfold MW.close
  split
  · exact ⟨0, .refl _ _⟩
  · split
    · exact ⟨0, .refl _ _⟩
    · unfold MW.close1
      exact ⟨_, ((setC_mkp S j _ 0).trans (endsR_mkp j _ _)).trans (endsS_mkp j _ _)⟩
theorem wait1_mkp (S : MW) (id k : Int) (i : Nat) (x : Cs) : MKp 0 S (S.wait1 id k i x) := by
  unfold MW.wait1
  split
  · exact .refl _ _
  · exact setC_mkp _ _ _ _
theorem waitN_mkp (S : MW) (id k : Int) (l : List Cs) : ∀ n, MKp 0 S (S.waitN id k l n)
  | 0 => .refl _ _
  | n + 1 => by
    unfold MW.waitN
    split
    · exact waitN_mkp S id k l n
    · exact (waitN_mkp S id k l n).trans (wait1_mkp _ _ _ _ _)
/-- what a whole act keeps -/
structure MKa (S T : MW) : Prop where
  ev : T.ev = S.ev
  at_ : T.at_ = S.at_
  fi : T.fi.length ≤ S.fi.length + 1
  to : T.to.length = S.to.length
  ov : T.ov.length = S.ov.length
  ch : T.ch.length = S.ch.length
theorem MKp.a (h : MKp n S T) : MKa S T := ⟨h.ev, h.at_, by rw [h.fi]; omega, h.to, by rw [h.ov], h.ch⟩
theorem go_mka (S : MW) (id : Int) (l : List Cs) (a : Int) : MKa S (S.go id l a) := by
  unfold MW.go
  split
  · exact (MKp.refl S 0).a
  · split
    · exact ((send_mkp S _ _).trans (yields_mkp _ _ _)).a
    · exact ((recv_mkp S _).trans (yields_mkp _ _ _)).a
theorem choose_mka (S : MW) (id : Int) (l : List Cs) (std : Bool) : MKa S (S.choose id l std) := by
  unfold MW.choose
  split
  · split
    · have := go_mka ({ S with rest := S.rest / (S.cans l l.length).length } : MW) id l ((S.cans l l.length).getD (S.rest % (S.cans l l.length).length).toNat 0)
      exact ⟨this.ev, this.at_, this.fi, this.to, this.ov, this.ch⟩
    · exact go_mka S id l _
  · split
    · exact (yields_mkp _ _ _).a
    · have := waitN_mkp ({ S with fi := S.fi ++ [false] } : MW) id S.fi.length l l.length
      exact ⟨this.ev, this.at_, by rw [this.fi]; show (S.fi ++ [false]).length ≤ _; simp, this.to, by rw [this.ov], this.ch⟩
theorem stop_mkp (S : MW) (no : Int) : MKp 1 S (S.stop no).1 := by
  unfold MW.stop
  split
  · exact .refl _ _
  · split
    · exact .refl _ _
    · exact ⟨rfl, rfl, rfl, rfl, List.length_set, rfl, rfl, by show (S.li ++ [_]).length ≤ _; simp⟩
theorem act_mka (S : MW) (id : Int) (d : Do5) (cs : List Cs) : MKa S (S.act id d cs) := by
  unfold MW.act
  split
  · exact (yields_mkp _ _ _).a
  split
  · exact choose_mka _ _ _ _
  split
  · exact choose_mka _ _ _ _
  split
  · obtain ⟨n, h⟩ := close_mkp S d.c.toNat
    exact (h.trans (yields_mkp _ _ _)).a
  split
  · exact choose_mka _ _ _ _
  split
  · split
    · exact ((send_mkp S _ _).trans (yields_mkp _ _ _)).a
    · exact (yields_mkp _ _ _).a
  split
  · split
    · exact ((recv_mkp S _).trans (yields_mkp _ _ _)).a
    · exact (yields_mkp _ _ _).a
  split
  · unfold MW.sleep
    split
    · exact ⟨rfl, rfl, Nat.le_add_right _ _, List.length_set, rfl, rfl⟩
    · exact ⟨rfl, rfl, Nat.le_add_right _ _, rfl, rfl, rfl⟩
  split
  · exact ((stop_mkp S d.c).trans (yields_mkp _ _ _)).a
  · exact ⟨rfl, rfl, Nat.le_add_right _ _, rfl, List.length_set, rfl⟩
/-- the step of the document's machine; C tells a Do's cases -/
def MW.step (P : List (List Do5)) (C : Do5 → List Cs) (S : MW) (p : Int) : Option MW := match S.li[(p % S.li.length).toNat]? with
  | none => none
  | some z => match S.at_[z.toNat]?, S.to[z.toNat]? with
    | some a, some x => some ((S.begin z.toNat a x p).act z (doAt16 P z.toNat a.toNat) (C (doAt16 P z.toNat a.toNat)))
    | _, _ => none
end
end Go.Proofs.YtbaidcnalkdhgaaGreat
set_option maxRecDepth 100000
namespace Go.Proofs.YtbaidcnalkdhgaaGreat
open Go Go.Eng
section
variable {κ : Type}
variable {S T : PS κ} {i j m : Nat}
theorem wokeS_cs (S : PS κ) (m : Nat) (ok : Bool) : (S.wokeS m ok).cs = S.cs := by
  unfold PS.wokeS; split <;> rfl
theorem wokeR_cs (S : PS κ) (m : Nat) (v : Int) (ok : Bool) : (S.wokeR m v ok).cs = S.cs := by
  unfold PS.wokeR; split <;> rfl
theorem allR_cs (l : List Nat) : ∀ (S : PS κ), (S.allR l).cs = S.cs := by
  induction l with
  | nil => exact fun S => rfl
  | cons m r ih => exact fun S => (ih _).trans (wokeR_cs S m 0 false)
end
end Go.Proofs.YtbaidcnalkdhgaaGreat
set_option maxRecDepth 100000
namespace Go.Proofs.YtbaidcnalkdhgaaGreat
open Go Go.Eng
def rwI (ch : List RR) (k : Nat) : RW := ⟨ch, List.replicate k 0, List.replicate k ⟨0, 0, false⟩, List.replicate k false, (List.range k).map fun (n : Nat) => (n : Int), [], [], 0⟩
section
variable {w w0 : World} {R : Asr} {qb : Nat} {vp : Value} {ch : List RR}
theorem rf_spawn [Lcl R] {P : List (OV × List Do5)} (z : Pz16 w0.heap vp P) (hP6 : P.length ≤ 6) (S : At (RwA qb vp (rwI ch 0) * R) w0 No w) :
    Rets Tryz.prog 109 #[pt qb] w fun _ w' => At (RwA qb vp (rwI ch P.length) * R) w0 No w' := by
  obtain ⟨va, vc, hvp⟩ := z.hP.len
  have hv1 := z.one
  refine rets_of Tryz.func109 rfl Tryz.ntmps109 rfl rfl (by kernel_rfl) ?_
  (apply vC_seq; apply vC_region; (refine vE rfl ?_); apply vL_nil; apply seqP_normal; apply vC_block)
  (apply vC_loop1 1125899906842620 2 (fun u w' => ∃ k : Nat, u = .int .i64 (k : Int) ∧ k ≤ P.length ∧ At (RwA qb vp (rwI ch k) * R) w0 No w') (fun u _ => P.length - (RowKit.intOf u).toNat)); (case h1 => (exact norm_eq rfl))
  case h0 => exact ⟨0, rfl, Nat.zero_le _, S⟩
  clear S
  case round =>
  rintro junk _ w1 ⟨k, rfl, hk, S⟩
  obtain ⟨v, S⟩ := rw_open S
  have hb := rw_blk S
  rw [rwL, hvp] at hb
  have hones := rw_ones S
  obtain ⟨g1, g2, g3, g4, g5, g6, g7⟩ := hones
  by_cases hlt : k < P.length
  · ((iterate 2 (apply vC_seq)); apply vC_region; (iterate 3 ((refine vE rfl ?_))); (refine vL_val (opv_fieldAddr rfl) ?_); ((apply vL_val); (case h => ((apply opv_loadb1); exact rfl; exact rfl; assumption; exact rfl))); (refine vL_val (opv_lenc rfl) ?_); (refine vE rfl ?_); apply vL_nil; apply seqP_normal; (refine vC_cond_dec rfl (fun _ => ?_) (fun h => by omega)); apply vC_skip; apply seqP_normal; apply vC_seq; apply vC_block; apply vC_seq; apply vC_region; (iterate 3 ((refine vE rfl ?_))); (refine vL_val (opv_fieldAddr rfl) ?_); ((apply vL_val); (case h => ((apply opv_loadb1); exact rfl; exact rfl; assumption; exact rfl))); ((apply vL_val); (case h => ((apply opw_buildSl); exact rfl; exact rfl; exact rfl; exact (rfl : _ = some [_])))))
    have hl0 : ∀ k, (rwI ch k).at_.length = k ∧ (rwI ch k).to.length = k ∧ (rwI ch k).ov.length = k ∧ (rwI ch k).li.length = k := fun k => by simp [rwI]
    generalize hA : rwI ch k = A at *
    have hl : A.at_.length = k ∧ A.to.length = k ∧ A.ov.length = k ∧ A.li.length = k := hA ▸ hl0 k
    obtain ⟨l1, l2, l3, l4⟩ := hl
    obtain ⟨o, oo, up⟩ := rw_at_ S
    refine vL_append (enc := iE) (xs := A.at_) (ys := [(0 : Int)]) (T := 3) (sz := 1) (by (((conv => lhs; whnf) <;> exact rfl))) (by (exact norm_eq rfl)) (Own.alloc o) (Rd.new1 _ _ rfl) rfl (by decide) ?_ ?_ ?_
    · simp [maxLen, l1]; omega
    · simp [l1]; omega
    intro v' w2 ho hf hfr hone _
    have hfa : Fr (fun j => own v.at_ = some j) w1 w2 := ((Fr.refl _ w1).alloc _).trans' hf (fun i hi => .inl hi)
    have hb2 := hb.fr hfa (fun h => Own.ne_blk o hb (by decide) h)
    (((refine vE rfl ?_); (refine vL_val (opv_fieldAddr rfl) ?_); ((apply vL_skip); (case h => ((apply ops_store1); exact norm_eq rfl; ((conv => lhs; whnf) <;> exact rfl); (first | rfl | assumption); assumption; (first | decide | exact of_decide_eq_true rfl | (simp; done))))); apply vL_nil))
    (first | with_reducible apply seqP_normal | (with_reducible apply blockP_normal; with_reducible apply seqP_normal))
    refine vC_gen (fun w' => At (RwP qb vp { v with at_ := v' } { A with at_ := A.at_ ++ [(0 : Int)] } * (Big (A.ch.map RrA) * R)) w0 No w') (up v' _ _ ((hfa.mono (fun k _ h => .inr h)).set _ _ (.inl (.inl rfl))) (Blk.as (Blk.set hb2) (by rw [rwL, hvp]; rfl)) (ho.set (Own.ne_blk ho hb2 (by decide))) hone (fun k hk => (hfr k hk).imp id (fun h => by rw [alloc_size] at h; omega))) ?_
    clear S up o oo ho hf hfr hfa hb hb2 g1 g2 g3 g4 g5 g6 g7
    generalize ({ v with at_ := v' } : RV) = v1
    generalize hA1 : ({ A with at_ := A.at_ ++ [(0 : Int)] } : RW) = A1
    intro w3 S
    have hb := rw_blk S
    rw [rwL, hvp] at hb
    have hones := rw_ones S
    obtain ⟨g1, g2, g3, g4, g5, g6, g7⟩ := hones
    (apply vC_seq; apply vC_region; (iterate 3 ((refine vE rfl ?_))); (refine vL_val (opv_fieldAddr rfl) ?_); ((apply vL_val); (case h => ((apply opv_loadb1); exact rfl; exact rfl; assumption; exact rfl))); ((apply vL_val); (case h => ((apply opv_buildS); exact rfl; exact (rfl : _ = some [_, _, _])))); ((apply vL_val); (case h => ((apply opw_buildSl); exact rfl; exact rfl; exact rfl; exact (rfl : _ = some [_, _, _])))))
    obtain ⟨o, oo, up⟩ := rw_to S
    refine vL_append (enc := toE) (xs := A1.to) (ys := [(⟨0, 0, false⟩ : To)]) (T := 171) (sz := 3) (by (((conv => lhs; whnf) <;> exact rfl))) (by (exact norm_eq rfl)) (Own.alloc o) (Rd.new1 _ _ rfl) rfl (by decide) ?_ ?_ ?_
    · simp [maxLen, ← hA1, l2]; omega
    · simp [← hA1, l2]; omega
    intro v' w2 ho hf hfr hone _
    have hfa : Fr (fun j => own v1.to = some j) w3 w2 := ((Fr.refl _ w3).alloc _).trans' hf (fun i hi => .inl hi)
    have hb2 := hb.fr hfa (fun h => Own.ne_blk o hb (by decide) h)
    (((refine vE rfl ?_); (refine vL_val (opv_fieldAddr rfl) ?_); ((apply vL_skip); (case h => ((apply ops_store1); exact norm_eq rfl; ((conv => lhs; whnf) <;> exact rfl); (first | rfl | assumption); assumption; (first | decide | exact of_decide_eq_true rfl | (simp; done))))); apply vL_nil))
    (first | with_reducible apply seqP_normal | (with_reducible apply blockP_normal; with_reducible apply seqP_normal))
    refine vC_gen (fun w' => At (RwP qb vp { v1 with to := v' } { A1 with to := A1.to ++ [(⟨0, 0, false⟩ : To)] } * (Big (A.ch.map RrA) * R)) w0 No w') (up v' _ _ ((hfa.mono (fun k _ h => .inr h)).set _ _ (.inl (.inl rfl))) (Blk.as (Blk.set hb2) (by rw [rwL, hvp]; rfl)) (ho.set (Own.ne_blk ho hb2 (by decide))) hone (fun k hk => (hfr k hk).imp id (fun h => by rw [alloc_size] at h; omega))) ?_
    clear S up o oo ho hf hfr hfa hb hb2 g1 g2 g3 g4 g5 g6 g7
    generalize ({ v1 with to := v' } : RV) = v11
    generalize hA11 : ({ A1 with to := A1.to ++ [(⟨0, 0, false⟩ : To)] } : RW) = A11
    intro w4 S
    have hb := rw_blk S
    rw [rwL, hvp] at hb
    have hones := rw_ones S
    obtain ⟨g1, g2, g3, g4, g5, g6, g7⟩ := hones
    (apply vC_seq; apply vC_region; (iterate 3 ((refine vE rfl ?_))); (refine vL_val (opv_fieldAddr rfl) ?_); ((apply vL_val); (case h => ((apply opv_loadb1); exact rfl; exact rfl; assumption; exact rfl))); ((apply vL_val); (case h => ((apply opw_buildSl); exact rfl; exact rfl; exact rfl; exact (rfl : _ = some [_])))))
    obtain ⟨o, oo, up⟩ := rw_ov S
    refine vL_append (enc := bE) (xs := A11.ov) (ys := [false]) (T := 4) (sz := 1) (by (((conv => lhs; whnf) <;> exact rfl))) (by (exact norm_eq rfl)) (Own.alloc o) (Rd.new1 _ _ rfl) rfl (by decide) ?_ ?_ ?_
    · simp [maxLen, ← hA11, ← hA1, l3]; omega
    · simp [← hA11, ← hA1, l3]; omega
    intro v' w2 ho hf hfr hone _
    have hfa : Fr (fun j => own v11.ov = some j) w4 w2 := ((Fr.refl _ w4).alloc _).trans' hf (fun i hi => .inl hi)
    have hb2 := hb.fr hfa (fun h => Own.ne_blk o hb (by decide) h)
    (((refine vE rfl ?_); (refine vL_val (opv_fieldAddr rfl) ?_); ((apply vL_skip); (case h => ((apply ops_store1); exact norm_eq rfl; ((conv => lhs; whnf) <;> exact rfl); (first | rfl | assumption); assumption; (first | decide | exact of_decide_eq_true rfl | (simp; done))))); apply vL_nil))
    (first | with_reducible apply seqP_normal | (with_reducible apply blockP_normal; with_reducible apply seqP_normal))
    refine vC_gen (fun w' => At (RwP qb vp { v11 with ov := v' } { A11 with ov := A11.ov ++ [false] } * (Big (A.ch.map RrA) * R)) w0 No w') (up v' _ _ ((hfa.mono (fun k _ h => .inr h)).set _ _ (.inl (.inl rfl))) (Blk.as (Blk.set hb2) (by rw [rwL, hvp]; rfl)) (ho.set (Own.ne_blk ho hb2 (by decide))) hone (fun k hk => (hfr k hk).imp id (fun h => by rw [alloc_size] at h; omega))) ?_
    clear S up o oo ho hf hfr hfa hb hb2 g1 g2 g3 g4 g5 g6 g7
    generalize ({ v11 with ov := v' } : RV) = v111
    generalize hA111 : ({ A11 with ov := A11.ov ++ [false] } : RW) = A111
    intro w5 S
    have hb := rw_blk S
    rw [rwL, hvp] at hb
    have hones := rw_ones S
    obtain ⟨g1, g2, g3, g4, g5, g6, g7⟩ := hones
    (apply vC_region; (iterate 3 ((refine vE rfl ?_))); (refine vL_val (opv_fieldAddr rfl) ?_); ((apply vL_val); (case h => ((apply opv_loadb1); exact rfl; exact rfl; assumption; exact rfl))); (refine vE rfl ?_); ((apply vL_val); (case h => ((apply opw_buildSl); exact rfl; exact rfl; exact rfl; exact (rfl : _ = some [_])))))
    obtain ⟨o, oo, up⟩ := rw_li S
    refine vL_append (enc := iE) (xs := A111.li) (ys := [(k : Int)]) (T := 3) (sz := 1) (by (((conv => lhs; whnf) <;> exact rfl))) (by (exact norm_eq rfl)) (Own.alloc o) (Rd.new1 _ _ rfl) rfl (by decide) ?_ ?_ ?_
    · simp [maxLen, ← hA111, ← hA11, ← hA1, l4]; omega
    · simp [← hA111, ← hA11, ← hA1, l4]; omega
    intro v' w2 ho hf hfr hone _
    have hfa : Fr (fun j => own v111.li = some j) w5 w2 := ((Fr.refl _ w5).alloc _).trans' hf (fun i hi => .inl hi)
    have hb2 := hb.fr hfa (fun h => Own.ne_blk o hb (by decide) h)
    (((refine vE rfl ?_); (refine vL_val (opv_fieldAddr rfl) ?_); ((apply vL_skip); (case h => ((apply ops_store1); exact norm_eq rfl; ((conv => lhs; whnf) <;> exact rfl); (first | rfl | assumption); assumption; (first | decide | exact of_decide_eq_true rfl | (simp; done))))); apply vL_nil))
    (first | with_reducible apply seqP_normal | (with_reducible apply blockP_normal; with_reducible apply seqP_normal))
    refine vC_gen (fun w' => At (RwP qb vp { v111 with li := v' } { A111 with li := A111.li ++ [(k : Int)] } * (Big (A.ch.map RrA) * R)) w0 No w') (up v' _ _ ((hfa.mono (fun k _ h => .inr h)).set _ _ (.inl (.inl rfl))) (Blk.as (Blk.set hb2) (by rw [rwL, hvp]; rfl)) (ho.set (Own.ne_blk ho hb2 (by decide))) hone (fun k hk => (hfr k hk).imp id (fun h => by rw [alloc_size] at h; omega))) ?_
    clear S up o oo ho hf hfr hfa hb hb2 g1 g2 g3 g4 g5 g6 g7
    generalize ({ v111 with li := v' } : RV) = v1111
    generalize hA1111 : ({ A111 with li := A111.li ++ [(k : Int)] } : RW) = A1111
    intro w6 S
    have hb := rw_blk S
    rw [rwL, hvp] at hb
    have hones := rw_ones S
    obtain ⟨g1, g2, g3, g4, g5, g6, g7⟩ := hones
    have hfin : A1111 = rwI ch (k + 1) := by
      rw [← hA1111, ← hA111, ← hA11, ← hA1, ← hA]
      simp [rwI, List.replicate_succ', List.range_succ]
    have hch : (rwI ch (k + 1)).ch = A.ch := by rw [← hA]; rfl
    rw [hfin] at S
    rw [← hch] at S
    (apply vC_region; (refine vE rfl ?_); ((apply vL_val); (case h => ((apply opv_add); exact rfl; exact rfl; (first | omega | (simp only [List.length_map]; omega))))); (refine vE rfl ?_); apply vL_nil; apply loopP_normal)
    (with_reducible apply end1); (case hs => ((iterate 52 (first | with_reducible apply same_updN | ((with_reducible refine same_updO ?_ ?_); rotate_left; exact rfl))); ((refine same_upd ?_ ?_); rotate_left; exact rfl); (exact same_mask _ _ _))); (case h1 => (exact norm_eq rfl))
    · exact ⟨k + 1, rfl, by omega, rw_shut S⟩
    · simp [RowKit.intOf]; omega
  · ((iterate 2 (apply vC_seq)); apply vC_region; (iterate 3 ((refine vE rfl ?_))); (refine vL_val (opv_fieldAddr rfl) ?_); ((apply vL_val); (case h => ((apply opv_loadb1); exact rfl; exact rfl; assumption; exact rfl))); (refine vL_val (opv_lenc rfl) ?_); (refine vE rfl ?_); apply vL_nil; apply seqP_normal; (refine vC_cond_dec rfl (fun h => by omega) (fun _ => ?_)); apply vC_exit; apply seqP_exit; apply loopP_exit; apply blockP_exit)
    (first | apply ret0 | apply ret0n)
    have e : k = P.length := by omega
    subst e
    exact rw_shut S
end
end Go.Proofs.YtbaidcnalkdhgaaGreat
set_option maxRecDepth 100000
namespace Go.Proofs.YtbaidcnalkdhgaaGreat
open Go Go.Eng
def c16 (x : Nat × Int) : C16 := ⟨x.1, x.2, [], [], [], false⟩
def row0 (s : Int) : RR := ⟨s, ⟨.slice none 0 0, rfl⟩, ⟨.slice none 0 0, rfl⟩, ⟨.slice none 0 0, rfl⟩, false, [], [], []⟩
def born16 (tl : List Nat) : List (St K16) := tl.mapIdx fun i t => .rdyY ⟨t, i, 0, ⟨0, 0, false⟩⟩
def ps0 (cl : List (Nat × Int)) (tl : List Nat) : PS K16 := ⟨born16 tl, tl, cl.map c16, (List.range tl.length).map fun (n : Nat) => (n : Int)⟩
theorem rrA0 (s : Int) : RrA (row0 s) = Emp := by
  have e : ∀ {α : Type} (T sz : Nat) (enc : α → List Value), Ow T sz enc (.slice none 0 0) ([] : List α) = Emp := fun {α} T sz enc => Asr.ext fun h F => ⟨fun x => x.2.2.trans (funext fun k => propext ⟨fun h => (by cases h), fun h => h.elim⟩), fun x => ⟨Own.nil _ _ _ _, rfl, Eq.trans (show F = No from x) (funext fun k => propext ⟨fun h => h.elim, fun h => (by cases h)⟩)⟩⟩
  unfold RrA row0
  simp only [e, star_emp]
theorem bigRow0 (l : List Int) : Big ((l.map row0).map RrA) = Emp := by
  induction l with
  | nil => rfl
  | cons s r ih => show RrA (row0 s) * Big ((r.map row0).map RrA) = Emp; rw [rrA0, ih, star_emp]
theorem readyL_push {l : List Int} {i : Nat} (h : (i : Int) ∉ l) (hl : l.length < 256) : readyL l i = l ++ [(i : Int)] := by
  unfold readyL
  rw [if_neg (by omega), if_neg h, if_neg (by omega)]
theorem ps0_addT (cl : List (Nat × Int)) (tl : List Nat) (tb : Nat) (ht : tl.length ≤ 100) : (ps0 cl tl).addT tb ⟨tb, tl.length, 0, ⟨0, 0, false⟩⟩ = ps0 cl (tl ++ [tb]) := by
  unfold PS.addT ps0 born16
  simp only [List.length_mapIdx, List.mapIdx_append, List.length_append, List.length_singleton, List.range_succ, List.map_append, List.map_cons, List.map_nil]
  rw [readyL_push (by simp; omega) (by simp; omega)]
  simp
def nil7 : RV := ⟨.slice none 0 0, .slice none 0 0, .slice none 0 0, .slice none 0 0, .slice none 0 0, .slice none 0 0, .slice none 0 0⟩
theorem rw_nil {w0 w : World} {F0 : Nat → Prop} {R : Asr} {qb : Nat} {vp : Value} (S : At (Pt qb (rwL vp nil7 0) 97 * R) w0 F0 w) : At (RwA qb vp (rwI [] 0) * R) w0 F0 w := by
  refine rw_shut (v := nil7) ?_
  have h := At.nil 125 5 rrE (At.nil 3 1 iE (At.nil 171 3 toE (At.nil 4 1 bE (At.nil 3 1 iE (At.nil 100 5 ev5 (At.nil 4 1 bE S))))))
  refine h.ac ?_
  show _ = RwP qb vp nil7 ⟨[], [], [], [], [], [], [], 0⟩ * (Emp * R)
  rw [emp_star]
  unfold RwP nil7
  dsimp only
  ac_rfl
theorem wa_nil {w0 w : World} {F0 : Nat → Prop} {R : Asr} {wb rb : Nat} {vp : Value} (S : At (Pt wb [pt rb, vp, .slice none 0 0, .slice none 0 0, .slice none 0 0, .bool false] 61 * R) w0 F0 w) : At (WA wb rb vp [] [] [] false * R) w0 F0 w := by
  have h := At.nil 28 1 ptE (At.nil 34 1 ptE (At.nil 100 5 ev5 S))
  exact wa_shut (h.ac (by ac_rfl))
theorem rw_chown {w0 w : World} {F0 : Nat → Prop} {R : Asr} {qb : Nat} {vp : Value} {v : RV} {T : RW} (S : At (RwP qb vp v T * R) w0 F0 w) : ∀ k, own v.ch = some k → F0 k ∨ w0.heap.size ≤ k := fun k hk => by
  unfold RwP at S
  have h1 : At (Ow 125 5 rrE v.ch T.ch * (Pt qb (rwL vp v T.rest) 97 * (Ow 3 1 iE v.at_ T.at_ * (Ow 171 3 toE v.to T.to * (Ow 4 1 bE v.ov T.ov * (Ow 3 1 iE v.li T.li * (Ow 100 5 ev5 v.ev T.ev * (Ow 4 1 bE v.fi T.fi * R)))))))) w0 F0 w := S.ac (by ac_rfl)
  obtain ⟨_, ⟨F1, F2, ⟨a, b, rfl⟩, r, d, rfl⟩, hf, hn⟩ := h1.out
  exact hn k (.inl hk)
section
variable {w : World}
theorem begun16 {vp vs : Value} {P : List (OV × List Do5)} {sizes : List Int} (z : Pz16 w.heap vp P) (hP6 : P.length ≤ 6) (hs : Rd w.heap 1 iE vs sizes) (hs6 : sizes.length ≤ 6) (hsz : ∀ x ∈ sizes, 0 ≤ x ∧ x ≤ 64) (hso : vs.oneCell' = true) :
    Rets Tryz.prog 30 #[vp, vs] w fun u w' => ∃ wb qb rb cl tl kb, u = .tuple #[pt wb, pt qb] ∧ cl.map (·.2) = sizes ∧ tl.length = P.length ∧ At (PWA (L16 wb) rb none 0 kb (ps0 cl tl) * (WA wb rb vp (cl.map (·.1)) tl [] false * RwA qb vp (rwI (sizes.map row0) P.length))) w No w' := by
  have hv1 := z.one
  have hPs := z.hP.small
  have hss := hs.small
  obtain ⟨va, vc, rfl⟩ := z.hP.len
  obtain ⟨sa, sc, rfl⟩ := hs.len
  refine rets_of Tryz.func30 rfl Tryz.ntmps30 rfl rfl (by kernel_rfl) ?_
  (apply vC_seq; apply vC_region; (iterate 2 ((refine vE rfl ?_))); apply vL_nil; apply seqP_normal; apply vC_seq; apply vC_region)
  refine vL_callF rfl (r_newA (At.of_emp (Fr.refl No w))) rfl ?_
  rintro _ w1 ⟨rb, rfl, S1⟩
  ((refine vE rfl ?_); ((apply vL_val); (case h => ((apply opv_buildS); exact rfl; exact (rfl : _ = some [_, _, _, _, _, _])))); (refine vL_val (opw_boxn rfl) ?_); ((apply vL_val); (case h => (apply opw_alloc))); ((apply vL_skip); (case h => ((apply ops_store1); exact norm_eq rfl; exact norm_eq rfl; (first | rfl | assumption); infer_instance; (first | decide | exact of_decide_eq_true rfl | (simp; done))))); (iterate 16 (first | with_reducible apply vC_seq | with_reducible apply vC_region | with_reducible apply seqP_normal | (refine vE rfl ?_) | ((with_reducible apply vL_val); (case h => ((with_reducible apply opv_buildS); exact rfl; exact (rfl : _ = some [_, _, _, _, _, _, _, _, _, _, _, _])))) | with_reducible apply vL_nil | (refine vL_val (opw_boxn rfl) ?_))); apply vC_block)
  have S2 := (((S1.alloc (cs := [pt rb, .slice va P.length vc, .slice none 0 0, .slice none 0 0, .slice none 0 0, .bool false]) (T := 61)).alloc (cs := [.pointer none]) (T := 53)).set (cs' := ([.pointer none] : List Value).set 0 (pt w1.heap.size))).alloc (cs := rwL (.slice va P.length vc) nil7 0) (T := 97)
  refine vC_gen (fun w' => At _ w No w') S2 ?_
  intro w2 S3
  clear S2 S1
  generalize (((w1.alloc (.cells #[pt rb, .slice va P.length vc, .slice none 0 0, .slice none 0 0, .slice none 0 0, .bool false] 61)).alloc (.cells #[.pointer none] 53)).setRow (w1.alloc (.cells #[pt rb, .slice va P.length vc, .slice none 0 0, .slice none 0 0, .slice none 0 0, .bool false] 61)).heap.size (([.pointer none] : List Value).set 0 (pt w1.heap.size)).toArray).heap.size = qb at S3 ⊢
  generalize (w1.alloc (.cells #[pt rb, .slice va P.length vc, .slice none 0 0, .slice none 0 0, .slice none 0 0, .bool false] 61)).heap.size = tx at S3 ⊢
  generalize w1.heap.size = wb at S3 ⊢
  rw [show ([.pointer none] : List Value).set 0 (pt wb) = [pt wb] from rfl] at S3
  have S4 : At (PWA (L16 wb) rb none 0 [(tx, [pt wb], 53)] (ps0 [] []) * (WA wb rb (.slice va P.length vc) [] [] [] false * RwA qb (.slice va P.length vc) (rwI [] 0))) w No w2 := by
    have h1 := rw_nil S3
    have h2 := wa_nil (h1.ac (show _ = Pt wb [pt rb, .slice va P.length vc, .slice none 0 0, .slice none 0 0, .slice none 0 0, .bool false] 61 * (RtA rb none 0 [] [] * (Pt tx [pt wb] 53 * RwA qb (.slice va P.length vc) (rwI [] 0))) by rw [star_emp]; ac_rfl))
    have h3 := pw_init (L := L16 wb) (h2.ac (show _ = RtA rb none 0 [] [] * (Pt tx [pt wb] 53 * (WA wb rb (.slice va P.length vc) [] [] [] false * RwA qb (.slice va P.length vc) (rwI [] 0))) by ac_rfl))
    exact pw_box (h3.ac (by ac_rfl))
  clear S3
  (apply vC_loop1 36893488147417007920 8 (fun u w' => ∃ (i : Nat) (cl : List (Nat × Int)) (kb : List Bx), u = .int .i64 (i : Int) ∧ i ≤ sizes.length ∧ cl.map (·.2) = sizes.take i ∧ (tx, [pt wb], 53) ∈ kb ∧ At (PWA (L16 wb) rb none 0 kb (ps0 cl []) * (WA wb rb (.slice va P.length vc) (cl.map (·.1)) [] [] false * RwA qb (.slice va P.length vc) (rwI ((sizes.take i).map row0) 0))) w No w') (fun u _ => sizes.length - (RowKit.intOf u).toNat)); (case h1 => (exact norm_eq rfl))
  case h0 => exact ⟨0, [], _, rfl, Nat.zero_le _, rfl, List.mem_cons_self, S4⟩
  clear S4
  case round =>
  rintro junk _ w3 ⟨i, cl, kb, rfl, hi, hcl, mt, S5⟩
  have hci : cl.length = i := by
    have := congrArg List.length hcl
    simp at this; omega
  by_cases hlt : i < sizes.length
  · obtain ⟨x, hx⟩ : ∃ x, sizes[i]? = some x := ⟨_, List.getElem?_eq_getElem hlt⟩
    have hx' : sizes[((i : Nat) : Int).toNat]? = some x := by rw [Int.toNat_natCast]; exact hx
    have hxb := hsz x (List.mem_of_getElem? hx)
    have htk : sizes.take (i + 1) = sizes.take i ++ [x] := by rw [List.take_add_one, hx]; rfl
    obtain ⟨cv, tv, ev, S6⟩ := wa_open (S5.ac (show _ = WA wb rb (.slice va P.length vc) (cl.map (·.1)) [] [] false * (PWA (L16 wb) rb none 0 kb (ps0 cl []) * RwA qb (.slice va P.length vc) (rwI ((sizes.take i).map row0) 0)) by ac_rfl))
    have etx := pw_bx S5 mt
    have ewb := S6.blk
    have hs3 := hs.frN S5.fr
    ((iterate 2 (apply vC_seq)); apply vC_region; (iterate 2 ((refine vE rfl ?_))); (refine vL_val (opv_lenc rfl) ?_); (refine vE rfl ?_); apply vL_nil; apply seqP_normal; (refine vC_cond_dec rfl (fun _ => ?_) (fun h => by omega)); apply vC_skip; apply seqP_normal; apply vC_seq; apply vC_block; apply vC_seq)
    refine vC_draw' ((fun wf => Blk wf.heap tx [pt wb] 53 ∧ Blk wf.heap wb [pt rb, (.slice va P.length vc), cv, tv, ev, .bool false] 61 ∧ Rd wf.heap 1 iE (.slice sa sizes.length sc) sizes)) (by refine ⟨?_, ?_, ?_⟩ <;> first | assumption | infer_instance) ?_
    (refine tk 0 rfl (by kernel_rfl) (by refine ⟨?_, ?_, ?_⟩ <;> first | assumption | infer_instance) (by rintro wf ⟨hwa, hwb, hwc⟩; (((apply opv_loadb1); exact rfl; exact rfl; assumption; exact rfl))) ?_)
    (refine tkE 1 rfl (by kernel_rfl) (by refine ⟨?_, ?_, ?_⟩ <;> first | assumption | infer_instance) rfl ?_)
    (refine tk 2 rfl (by kernel_rfl) (by refine ⟨?_, ?_, ?_⟩ <;> first | assumption | infer_instance) (by rintro wf ⟨hwa, hwb, hwc⟩; (((apply opv_fieldAddr); exact rfl))) ?_)
    (refine tk 3 rfl (by kernel_rfl) (by refine ⟨?_, ?_, ?_⟩ <;> first | assumption | infer_instance) (by rintro wf ⟨hwa, hwb, hwc⟩; (((apply opv_loadb1); exact rfl; exact rfl; assumption; exact rfl))) ?_)
    (refine tkE 4 rfl (by kernel_rfl) (by refine ⟨?_, ?_, ?_⟩ <;> first | assumption | infer_instance) rfl ?_)
    (refine tkE 5 rfl (by kernel_rfl) (by refine ⟨?_, ?_, ?_⟩ <;> first | assumption | infer_instance) rfl ?_)
    (refine tk 6 rfl (by kernel_rfl) (by refine ⟨?_, ?_, ?_⟩ <;> first | assumption | infer_instance) (by rintro wf ⟨hwa, hwb, hwc⟩; (((apply opv_indexAddr); exact norm_eq rfl; exact rfl; assumption; (first | omega | (simp only [List.length_map]; omega)); (first | omega | (simp only [List.length_map]; omega))))) ?_)
    (refine tk 7 rfl (by kernel_rfl) (by refine ⟨?_, ?_, ?_⟩ <;> first | assumption | infer_instance) (by rintro wf ⟨hwa, hwb, hwc⟩; (((apply opv_ld_el); exact rfl; exact rfl; assumption; assumption; exact rfl))) ?_)
    refine tkc 8 rfl (by kernel_rfl) (by refine ⟨?_, ?_, ?_⟩ <;> first | assumption | infer_instance) rfl (pw_make (S6.drew.ac (show _ = PWA (L16 wb) rb none 0 kb (ps0 cl []) * (Pt wb [pt rb, (.slice va P.length vc), cv, tv, ev, .bool false] 61 * (Ow 28 1 ptE cv (cl.map (·.1)) * (Ow 34 1 ptE tv [] * (Ow 100 5 ev5 ev [] * RwA qb (.slice va P.length vc) (rwI ((sizes.take i).map row0) 0))))) by ac_rfl)) x hxb) rfl ?_
    rintro _ w4 ⟨cb, rfl, S7⟩
    have hps : (ps0 cl []).addC ⟨cb, x, [], [], [], false⟩ = ps0 (cl ++ [(cb, x)]) [] := by unfold PS.addC ps0; simp [c16, born16]
    rw [hps] at S7
    have etx4 := pw_bx S7 mt
    have S8 := S7.ac (show _ = Pt wb [pt rb, (.slice va P.length vc), cv, tv, ev, .bool false] 61 * (Ow 28 1 ptE cv (cl.map (·.1)) * (Ow 34 1 ptE tv [] * (Ow 100 5 ev5 ev [] * (PWA (L16 wb) rb none 0 kb (ps0 (cl ++ [(cb, x)]) []) * RwA qb (.slice va P.length vc) (rwI ((sizes.take i).map row0) 0))))) by ac_rfl)
    have ewb4 := S8.blk
    have hs4 := hs.frN S8.fr
    (refine tkE 9 rfl (by kernel_rfl) (by refine ⟨?_, ?_, ?_⟩ <;> first | assumption | infer_instance) rfl ?_)
    (refine tkE 10 rfl (by kernel_rfl) (by refine ⟨?_, ?_, ?_⟩ <;> first | assumption | infer_instance) rfl ?_)
    (refine tkE 11 rfl (by kernel_rfl) (by refine ⟨?_, ?_, ?_⟩ <;> first | assumption | infer_instance) rfl ?_)
    (refine tkE 12 rfl (by kernel_rfl) (by refine ⟨?_, ?_, ?_⟩ <;> first | assumption | infer_instance) rfl ?_)
    (refine tkE 13 rfl (by kernel_rfl) (by refine ⟨?_, ?_, ?_⟩ <;> first | assumption | infer_instance) rfl ?_)
    refine vA_done (by kernel_rfl) (by refine ⟨?_, ?_, ?_⟩ <;> first | assumption | infer_instance) ?_
    clear S7 S6 S5 etx ewb hs3
    (apply seqP_normal; (iterate 2 (apply vC_seq)); apply vC_region; (iterate 2 ((refine vE rfl ?_))); apply vL_nil; apply seqP_normal; ((apply vC_cond_false); exact rfl); apply vC_skip; apply seqP_normal; apply vC_seq)
    refine vC_meet0 2249600790429696 (fun w' => ∃ cv', At (Pt wb [pt rb, (.slice va P.length vc), cv', tv, ev, .bool false] 61 * (Ow 28 1 ptE cv' (cl.map (·.1) ++ [cb]) * (Ow 34 1 ptE tv [] * (Ow 100 5 ev5 ev [] * (PWA (L16 wb) rb none 0 kb (ps0 (cl ++ [(cb, x)]) []) * RwA qb (.slice va P.length vc) (rwI ((sizes.take i).map row0) 0)))))) w No w') ?_ ?_
    · skip
      refine vC_draw' ((fun wf => Blk wf.heap tx [pt wb] 53)) (by first | assumption | infer_instance) ?_
      (refine tk 0 rfl (by kernel_rfl) (by first | assumption | infer_instance) (by intro wf hwf; (try dsimp only at hwf); (((apply opv_loadb1); exact rfl; exact rfl; assumption; exact rfl))) ?_)
      (refine tk 1 rfl (by kernel_rfl) (by first | assumption | infer_instance) (by intro wf hwf; (try dsimp only at hwf); (((apply opv_loadb1); exact rfl; exact rfl; assumption; exact rfl))) ?_)
      (refine tkE 2 rfl (by kernel_rfl) (by first | assumption | infer_instance) rfl ?_)
      (refine tk 3 rfl (by kernel_rfl) (by first | assumption | infer_instance) (by intro wf hwf; (try dsimp only at hwf); (((apply opv_fieldAddr); exact rfl))) ?_)
      (refine tkE 5 rfl (by kernel_rfl) (by first | assumption | infer_instance) rfl ?_)
      refine vA_two 4 6 rfl rfl (by kernel_rfl) (by first | assumption | infer_instance) (fun K hK => ?_) (fun K hK => ?_)
      · (((apply vL_val); (case h => ((apply opv_loadb1); exact rfl; exact rfl; assumption; exact rfl))); apply vL_nil)
        refine ⟨rfl, hK _ _ ?_⟩
        refine vA_only 6 rfl (by kernel_rfl) (by first | assumption | infer_instance) (fun K hK => ?_)
        (((apply vL_val); (case h => ((apply opw_buildSl); exact rfl; exact rfl; exact rfl; exact (rfl : _ = some [_])))); apply vL_nil)
        refine ⟨rfl, hK _ _ ?_⟩
        refine vA_only 7 rfl (by kernel_rfl) (by first | assumption | infer_instance) (fun K hK => ?_)
        have S9 := S8.ac (show _ = Ow 28 1 ptE cv (cl.map (·.1)) * (Pt wb [pt rb, (.slice va P.length vc), cv, tv, ev, .bool false] 61 * (Ow 34 1 ptE tv [] * (Ow 100 5 ev5 ev [] * (PWA (L16 wb) rb none 0 kb (ps0 (cl ++ [(cb, x)]) []) * RwA qb (.slice va P.length vc) (rwI ((sizes.take i).map row0) 0))))) by ac_rfl)
        have o9 := S9.own
        refine vL_append (enc := ptE) (xs := cl.map (·.1)) (ys := [cb]) (T := 28) (sz := 1) (by (((conv => lhs; whnf) <;> exact rfl))) (by (exact norm_eq rfl)) (Own.alloc (o9.1.frN ((Fr.refl No _).drew))) (Rd.new1 _ _ rfl) rfl (by decide) ?_ ?_ ?_
        · simp [maxLen]; omega
        · simp; omega
        intro v' w7 ho7 hf7 hfr7 hone7 _
        have hfa : Fr (fun j => own cv = some j) w4 w7 := (((Fr.refl _ w4).drew).alloc _).trans' hf7 (fun i hi => .inl hi)
        have S10 := S9.owTo hfa ho7 hone7 (fun k hk => (hfr7 k hk).imp id (fun h => by rw [alloc_size] at h; exact Nat.le_trans (Nat.le_succ _) h))
        have etx7 := etx4.fr hfa (fun h => Own.ne_blk o9.1 etx4 (by decide) h)
        have S11 := S10.ac (show _ = Pt wb [pt rb, (.slice va P.length vc), cv, tv, ev, .bool false] 61 * (Ow 28 1 ptE v' (cl.map (·.1) ++ [cb]) * (Ow 34 1 ptE tv [] * (Ow 100 5 ev5 ev [] * (PWA (L16 wb) rb none 0 kb (ps0 (cl ++ [(cb, x)]) []) * RwA qb (.slice va P.length vc) (rwI ((sizes.take i).map row0) 0))))) by ac_rfl)
        have ewb7 := S11.blk
        refine vL_nil ⟨rfl, hK _ _ ?_⟩
        (refine tkE 8 rfl (by kernel_rfl) (by first | assumption | infer_instance) rfl ?_)
        (refine tk 9 rfl (by kernel_rfl) (by first | assumption | infer_instance) (by intro wf hwf; (try dsimp only at hwf); (((apply opv_fieldAddr); exact rfl))) ?_)
        refine vA_only 10 rfl (by kernel_rfl) (by first | assumption | infer_instance) (fun K hK => ?_)
        (((apply vL_skip); (case h => ((apply ops_store1); exact norm_eq rfl; ((conv => lhs; whnf) <;> exact rfl); (first | rfl | assumption); assumption; (first | decide | exact of_decide_eq_true rfl | (simp; done))))); apply vL_nil)
        refine ⟨rfl, hK _ _ ?_⟩
        have S12 := S11.set (cs' := [pt rb, (.slice va P.length vc), v', tv, ev, .bool false])
        have etx8 := etx7.fr (F := fun k => k = wb) ((Fr.refl _ w7).set wb ([pt rb, (.slice va P.length vc), v', tv, ev, .bool false] : List Value).toArray (.inl rfl)) (Blk.ne_type etx7 ewb7 (by decide))
        refine vA_done (by kernel_rfl) (by first | assumption | infer_instance) ?_
        exact ⟨rfl, by ((apply same_updN; (iterate 10 (((refine same_updO ?_ ?_); rotate_left; exact rfl)))); exact fun _ _ => rfl), v', S12⟩
      · (((apply vL_val); (case h => ((apply opw_buildSl); exact rfl; exact rfl; exact rfl; exact (rfl : _ = some [_])))); apply vL_nil)
        refine ⟨rfl, hK _ _ ?_⟩
        refine vA_only 4 rfl (by kernel_rfl) (by first | assumption | infer_instance) (fun K hK => ?_)
        (((apply vL_val); (case h => ((apply opv_loadb1); exact rfl; exact rfl; infer_instance; exact rfl))); apply vL_nil)
        refine ⟨rfl, hK _ _ ?_⟩
        refine vA_only 7 rfl (by kernel_rfl) (by first | assumption | infer_instance) (fun K hK => ?_)
        have S9 := S8.ac (show _ = Ow 28 1 ptE cv (cl.map (·.1)) * (Pt wb [pt rb, (.slice va P.length vc), cv, tv, ev, .bool false] 61 * (Ow 34 1 ptE tv [] * (Ow 100 5 ev5 ev [] * (PWA (L16 wb) rb none 0 kb (ps0 (cl ++ [(cb, x)]) []) * RwA qb (.slice va P.length vc) (rwI ((sizes.take i).map row0) 0))))) by ac_rfl)
        have o9 := S9.own
        refine vL_append (enc := ptE) (xs := cl.map (·.1)) (ys := [cb]) (T := 28) (sz := 1) (by (((conv => lhs; whnf) <;> exact rfl))) (by (exact norm_eq rfl)) (Own.alloc (o9.1.frN ((Fr.refl No _).drew))) (Rd.new1 _ _ rfl) rfl (by decide) ?_ ?_ ?_
        · simp [maxLen]; omega
        · simp; omega
        intro v' w7 ho7 hf7 hfr7 hone7 _
        have hfa : Fr (fun j => own cv = some j) w4 w7 := (((Fr.refl _ w4).drew).alloc _).trans' hf7 (fun i hi => .inl hi)
        have S10 := S9.owTo hfa ho7 hone7 (fun k hk => (hfr7 k hk).imp id (fun h => by rw [alloc_size] at h; exact Nat.le_trans (Nat.le_succ _) h))
        have etx7 := etx4.fr hfa (fun h => Own.ne_blk o9.1 etx4 (by decide) h)
        have S11 := S10.ac (show _ = Pt wb [pt rb, (.slice va P.length vc), cv, tv, ev, .bool false] 61 * (Ow 28 1 ptE v' (cl.map (·.1) ++ [cb]) * (Ow 34 1 ptE tv [] * (Ow 100 5 ev5 ev [] * (PWA (L16 wb) rb none 0 kb (ps0 (cl ++ [(cb, x)]) []) * RwA qb (.slice va P.length vc) (rwI ((sizes.take i).map row0) 0))))) by ac_rfl)
        have ewb7 := S11.blk
        refine vL_nil ⟨rfl, hK _ _ ?_⟩
        (refine tkE 8 rfl (by kernel_rfl) (by first | assumption | infer_instance) rfl ?_)
        (refine tk 9 rfl (by kernel_rfl) (by first | assumption | infer_instance) (by intro wf hwf; (try dsimp only at hwf); (((apply opv_fieldAddr); exact rfl))) ?_)
        refine vA_only 10 rfl (by kernel_rfl) (by first | assumption | infer_instance) (fun K hK => ?_)
        (((apply vL_skip); (case h => ((apply ops_store1); exact norm_eq rfl; ((conv => lhs; whnf) <;> exact rfl); (first | rfl | assumption); assumption; (first | decide | exact of_decide_eq_true rfl | (simp; done))))); apply vL_nil)
        refine ⟨rfl, hK _ _ ?_⟩
        have S12 := S11.set (cs' := [pt rb, (.slice va P.length vc), v', tv, ev, .bool false])
        have etx8 := etx7.fr (F := fun k => k = wb) ((Fr.refl _ w7).set wb ([pt rb, (.slice va P.length vc), v', tv, ev, .bool false] : List Value).toArray (.inl rfl)) (Blk.ne_type etx7 ewb7 (by decide))
        refine vA_done (by kernel_rfl) (by first | assumption | infer_instance) ?_
        exact ⟨rfl, by ((apply same_updN; (iterate 10 (((refine same_updO ?_ ?_); rotate_left; exact rfl)))); exact fun _ _ => rfl), v', S12⟩
    rintro junk9 w5 ⟨cv', S9⟩
    have hrow : Big (((sizes.take i).map row0).map RrA) = Emp := bigRow0 _
    have S10 := wa_shut (S9.ac (show _ = Pt wb [pt rb, (.slice va P.length vc), cv', tv, ev, .bool false] 61 * (Ow 28 1 ptE cv' ((cl ++ [(cb, x)]).map (·.1)) * (Ow 34 1 ptE tv [] * (Ow 100 5 ev5 ev [] * (PWA (L16 wb) rb none 0 kb (ps0 (cl ++ [(cb, x)]) []) * RwA qb (.slice va P.length vc) (rwI ((sizes.take i).map row0) 0))))) by rw [List.map_append]; rfl))
    obtain ⟨T0, hT0⟩ : ∃ T0, T0 = rwI ((sizes.take i).map row0) 0 := ⟨_, rfl⟩
    have hTl : T0.ch.length = i := by rw [hT0]; simp [rwI]; omega
    rw [← hT0] at S10
    obtain ⟨vr, S11⟩ := rw_open (S10.ac (show _ = RwA qb (.slice va P.length vc) T0 * (WA wb rb (.slice va P.length vc) ((cl ++ [(cb, x)]).map (·.1)) [] [] false * PWA (L16 wb) rb none 0 kb (ps0 (cl ++ [(cb, x)]) [])) by ac_rfl))
    have hbq := rw_blk S11
    obtain ⟨o, oo, up⟩ := rw_ch S11
    have S11own : ∀ k, own vr.ch = some k → No k ∨ w.heap.size ≤ k := fun k hk => by
      exact rw_chown S11 k hk
    rw [rwL] at hbq
    obtain ⟨g1, g2, g3, g4, g5, g6, g7⟩ := rw_ones S11
    have hs5 := hs.frN S11.fr
    first | with_reducible apply vC_seq | with_reducible apply vC_region | with_reducible apply seqP_normal | with_reducible apply vC_block | with_reducible apply vC_ret | with_reducible apply vC_skip | with_reducible apply vC_exit | with_reducible apply seqP_ret | with_reducible apply seqP_exit | with_reducible apply blockP_normal | with_reducible apply blockP_ret | with_reducible apply blockP_exit | ((with_reducible apply blockP_pass); exact rfl) | with_reducible apply loopP_normal | with_reducible apply vL_ac | with_reducible apply vL_an | with_reducible apply loopP_ret | with_reducible apply loopP_exit | ((with_reducible apply vC_cond_true); exact rfl) | ((with_reducible apply vC_cond_false); exact rfl) | with_reducible apply vC_scope | with_reducible apply gotoP_normal | with_reducible apply gotoP_ret | with_reducible apply gotoP_exit | with_reducible apply vC_label
    refine vC_meet0 36891236347605417984 (fun w' => ∃ vr', At (RwP qb (.slice va P.length vc) vr' { T0 with ch := T0.ch ++ [row0 x] } * (Big (T0.ch.map RrA) * (WA wb rb (.slice va P.length vc) ((cl ++ [(cb, x)]).map (·.1)) [] [] false * PWA (L16 wb) rb none 0 kb (ps0 (cl ++ [(cb, x)]) [])))) w No w') ?_ ?_
    · skip
      have f5 := S11.fr
      refine vC_draw' (fun wf => Fr No w wf) f5.drew ?_
      (refine tkE 0 rfl (by kernel_rfl) (by apply Fr.drew; assumption) rfl ?_)
      (refine tkE 1 rfl (by kernel_rfl) (by apply Fr.drew; assumption) rfl ?_)
      (refine tkE 2 rfl (by kernel_rfl) (by apply Fr.drew; assumption) rfl ?_)
      (refine tk 3 rfl (by kernel_rfl) (by apply Fr.drew; assumption) (by intro wf hwf; haveI := From.mk hwf; (((apply opv_fieldAddr); exact rfl))) ?_)
      (refine tkE 5 rfl (by kernel_rfl) (by apply Fr.drew; assumption) rfl ?_)
      (refine tkE 6 rfl (by kernel_rfl) (by apply Fr.drew; assumption) rfl ?_)
      (refine tk 7 rfl (by kernel_rfl) (by apply Fr.drew; assumption) (by intro wf hwf; haveI := From.mk hwf; (((apply opv_indexAddr); exact norm_eq rfl; exact rfl; infer_instance; (first | omega | (simp only [List.length_map]; omega)); (first | omega | (simp only [List.length_map]; omega))))) ?_)
      (refine tk 8 rfl (by kernel_rfl) (by apply Fr.drew; assumption) (by intro wf hwf; haveI := From.mk hwf; (((apply opv_ld_el); exact rfl; exact rfl; infer_instance; assumption; exact rfl))) ?_)
      (refine tk 9 rfl (by kernel_rfl) (by apply Fr.drew; assumption) (by intro wf hwf; haveI := From.mk hwf; (((apply opv_buildS); exact rfl; exact (rfl : _ = some [_, _, _, _, _])))) ?_)
      refine vA_two 4 10 rfl rfl (by kernel_rfl) (by (apply Fr.drew; assumption)) (fun K hK => ?_) (fun K hK => ?_)
      · (((apply vL_val); (case h => ((apply opv_loadb1); exact rfl; exact rfl; assumption; exact rfl))); apply vL_nil)
        refine ⟨rfl, hK _ _ ?_⟩
        refine vA_only 10 rfl (by kernel_rfl) (by (apply Fr.drew; assumption)) (fun K hK => ?_)
      
        (((apply vL_val); (case h => ((apply opw_buildSl); exact rfl; exact rfl; exact rfl; exact (rfl : _ = some [_, _, _, _, _])))); apply vL_nil)
        refine ⟨rfl, hK _ _ ?_⟩
        refine vA_only 11 rfl (by kernel_rfl) (by (apply Fr.alloc; apply Fr.drew; assumption)) (fun K hK => ?_)
        refine vL_append (enc := rrE) (xs := T0.ch) (ys := [row0 x]) (T := 125) (sz := 5) (by (((conv => lhs; whnf) <;> exact rfl))) (by (exact norm_eq rfl)) (Own.alloc (o.frN ((Fr.refl No _).drew))) (Rd.new1 _ _ rfl) rfl (by decide) ?_ ?_ ?_
        · simp [maxLen, hTl]; omega
        · simp [hTl]; omega
        intro v' w7 ho7 hf7 hfr7 hone7 _
        have hfa : Fr (fun j => own vr.ch = some j) w5 w7 := (((Fr.refl _ w5).drew).alloc _).trans' hf7 (fun i hi => .inl hi)
        have hbq7 := hbq.fr hfa (fun h => Own.ne_blk o hbq (by decide) h)
        have hw7 : Fr No w w7 := S11.fr.trans' hfa (fun k hk => S11own k hk)
        refine vL_nil ⟨rfl, hK _ _ ?_⟩
        (refine tkE 12 rfl (by kernel_rfl) (by assumption) rfl ?_)
        (refine tk 13 rfl (by kernel_rfl) (by assumption) (by intro wf hwf; haveI := From.mk hwf; (((apply opv_fieldAddr); exact rfl))) ?_)
        refine vA_only 14 rfl (by kernel_rfl) (by (assumption)) (fun K hK => ?_)
        (((apply vL_skip); (case h => ((apply ops_store1); exact norm_eq rfl; ((conv => lhs; whnf) <;> exact rfl); (first | rfl | assumption); assumption; (first | decide | exact of_decide_eq_true rfl | (simp; done))))); apply vL_nil)
        refine ⟨rfl, hK _ _ ?_⟩
        have key : ∀ cs', cs' = rwL (.slice va P.length vc) { vr with ch := v' } T0.rest → At (RwP qb (.slice va P.length vc) { vr with ch := v' } { T0 with ch := T0.ch ++ [row0 x] } * (Big (T0.ch.map RrA) * (WA wb rb (.slice va P.length vc) ((cl ++ [(cb, x)]).map (·.1)) [] [] false * PWA (L16 wb) rb none 0 kb (ps0 (cl ++ [(cb, x)]) [])))) w No (w7.setRow qb cs'.toArray) := fun cs' e => by
          subst e
          exact up v' _ _ ((hfa.mono (fun k _ h => .inr h)).set _ _ (.inl (.inl rfl))) (Blk.set hbq7) (ho7.set (Own.ne_blk ho7 hbq7 (by decide))) hone7 (fun k hk => (hfr7 k hk).imp id (fun h => by rw [alloc_size] at h; exact Nat.le_trans (Nat.le_succ _) h))
        refine vA_done (by kernel_rfl) ((key _ rfl).fr) ?_
        exact ⟨rfl, by ((apply same_updN; (iterate 14 (((refine same_updO ?_ ?_); rotate_left; exact rfl)))); exact fun _ _ => rfl), _, key _ rfl⟩
      · (((apply vL_val); (case h => ((apply opw_buildSl); exact rfl; exact rfl; exact rfl; exact (rfl : _ = some [_, _, _, _, _])))); apply vL_nil)
        refine ⟨rfl, hK _ _ ?_⟩
        refine vA_only 4 rfl (by kernel_rfl) (by (apply Fr.alloc; apply Fr.drew; assumption)) (fun K hK => ?_)
        (((apply vL_val); (case h => ((apply opv_loadb1); exact rfl; exact rfl; infer_instance; exact rfl))); apply vL_nil)
        refine ⟨rfl, hK _ _ ?_⟩
        refine vA_only 11 rfl (by kernel_rfl) (by (apply Fr.alloc; apply Fr.drew; assumption)) (fun K hK => ?_)
        refine vL_append (enc := rrE) (xs := T0.ch) (ys := [row0 x]) (T := 125) (sz := 5) (by (((conv => lhs; whnf) <;> exact rfl))) (by (exact norm_eq rfl)) (Own.alloc (o.frN ((Fr.refl No _).drew))) (Rd.new1 _ _ rfl) rfl (by decide) ?_ ?_ ?_
        · simp [maxLen, hTl]; omega
        · simp [hTl]; omega
        intro v' w7 ho7 hf7 hfr7 hone7 _
        have hfa : Fr (fun j => own vr.ch = some j) w5 w7 := (((Fr.refl _ w5).drew).alloc _).trans' hf7 (fun i hi => .inl hi)
        have hbq7 := hbq.fr hfa (fun h => Own.ne_blk o hbq (by decide) h)
        have hw7 : Fr No w w7 := S11.fr.trans' hfa (fun k hk => S11own k hk)
        refine vL_nil ⟨rfl, hK _ _ ?_⟩
        (refine tkE 12 rfl (by kernel_rfl) (by assumption) rfl ?_)
        (refine tk 13 rfl (by kernel_rfl) (by assumption) (by intro wf hwf; haveI := From.mk hwf; (((apply opv_fieldAddr); exact rfl))) ?_)
        refine vA_only 14 rfl (by kernel_rfl) (by (assumption)) (fun K hK => ?_)
        (((apply vL_skip); (case h => ((apply ops_store1); exact norm_eq rfl; ((conv => lhs; whnf) <;> exact rfl); (first | rfl | assumption); assumption; (first | decide | exact of_decide_eq_true rfl | (simp; done))))); apply vL_nil)
        refine ⟨rfl, hK _ _ ?_⟩
        have key : ∀ cs', cs' = rwL (.slice va P.length vc) { vr with ch := v' } T0.rest → At (RwP qb (.slice va P.length vc) { vr with ch := v' } { T0 with ch := T0.ch ++ [row0 x] } * (Big (T0.ch.map RrA) * (WA wb rb (.slice va P.length vc) ((cl ++ [(cb, x)]).map (·.1)) [] [] false * PWA (L16 wb) rb none 0 kb (ps0 (cl ++ [(cb, x)]) [])))) w No (w7.setRow qb cs'.toArray) := fun cs' e => by
          subst e
          exact up v' _ _ ((hfa.mono (fun k _ h => .inr h)).set _ _ (.inl (.inl rfl))) (Blk.set hbq7) (ho7.set (Own.ne_blk ho7 hbq7 (by decide))) hone7 (fun k hk => (hfr7 k hk).imp id (fun h => by rw [alloc_size] at h; exact Nat.le_trans (Nat.le_succ _) h))
        refine vA_done (by kernel_rfl) ((key _ rfl).fr) ?_
        exact ⟨rfl, by ((apply same_updN; (iterate 14 (((refine same_updO ?_ ?_); rotate_left; exact rfl)))); exact fun _ _ => rfl), _, key _ rfl⟩
    rintro junk10 w6 ⟨vr', S12⟩
    have hT1 : ({ T0 with ch := T0.ch ++ [row0 x] } : RW) = rwI ((sizes.take (i + 1)).map row0) 0 := by rw [hT0, htk]; simp [rwI]
    have eB : Big (T0.ch.map RrA) = Big ((rwI ((sizes.take (i + 1)).map row0) 0).ch.map RrA) := by rw [hT0]; exact (bigRow0 _).trans (bigRow0 _).symm
    rw [hT1, eB] at S12
    have S13 := rw_shut S12
    (apply blockP_normal; apply seqP_normal; apply vC_region; (refine vE rfl ?_); ((apply vL_val); (case h => ((apply opv_add); exact rfl; exact rfl; (first | omega | (simp only [List.length_map]; omega))))); (refine vE rfl ?_); apply vL_nil; apply loopP_normal)
    (with_reducible apply end1); (case hs => ((iterate 25 (first | ((with_reducible refine same_updO ?_ ?_); rotate_left; exact rfl) | ((with_reducible refine same_maskIn ?_ ?_); rotate_left; exact rfl))); ((refine same_upd ?_ ?_); rotate_left; exact rfl); (exact same_mask _ _ _))); (case h1 => (exact norm_eq rfl))
    · exact ⟨i + 1, cl ++ [(cb, x)], kb, rfl, by omega, by rw [List.map_append, hcl, htk]; rfl, mt, S13.ac (by ac_rfl)⟩
    · simp [RowKit.intOf]; omega
  · ((iterate 2 (apply vC_seq)); apply vC_region; (iterate 2 ((refine vE rfl ?_))); (refine vL_val (opv_lenc rfl) ?_); (refine vE rfl ?_); apply vL_nil; apply seqP_normal; (refine vC_cond_dec rfl (fun h => by omega) (fun _ => ?_)); apply vC_exit; apply seqP_exit; apply loopP_exit; apply blockP_exit; apply seqP_normal; (iterate 2 (apply vC_seq)); apply vC_region; (refine vE rfl ?_); (refine vL_val (opv_lenc rfl) ?_); (refine vE rfl ?_); apply vL_nil; apply seqP_normal; apply vC_block)
    obtain rfl : i = sizes.length := by omega
    rw [List.take_length] at hcl S5
    clear hlt
    (apply vC_loop1 4951760009567568509920098352 67 (fun u w' => ∃ (k : Nat) (tl : List Nat) (kb : List Bx), u = .int .i64 (k : Int) ∧ k ≤ P.length ∧ tl.length = k ∧ (tx, [pt wb], 53) ∈ kb ∧ At (PWA (L16 wb) rb none 0 kb (ps0 cl tl) * (WA wb rb (.slice va P.length vc) (cl.map (·.1)) tl [] false * RwA qb (.slice va P.length vc) (rwI (sizes.map row0) 0))) w No w') (fun u _ => P.length - (RowKit.intOf u).toNat)); (case h1 => (exact norm_eq rfl))
    case h0 => exact ⟨0, [], kb, rfl, Nat.zero_le _, rfl, mt, S5⟩
    clear S5 mt kb
    case round =>
    rintro junk2 _ w4 ⟨k, tl, kb, rfl, hk, htl, mt, S5⟩
    by_cases hlt : k < P.length
    · have etx := pw_bx S5 mt
      obtain ⟨_, _, _, S6⟩ := wa_open (S5.ac (show _ = WA wb rb (.slice va P.length vc) (cl.map (·.1)) tl [] false * (PWA (L16 wb) rb none 0 kb (ps0 cl tl) * RwA qb (.slice va P.length vc) (rwI (sizes.map row0) 0)) by ac_rfl))
      have ewb := S6.blk
      (apply vC_seq; apply vC_region; (refine vE rfl ?_); apply vL_nil; apply seqP_normal; apply vC_seq; (refine vC_cond_dec rfl (fun _ => ?_) (fun h => by omega)); apply vC_skip; apply seqP_normal; apply vC_seq; apply vC_block; apply vC_seq; apply vC_region; (refine vE rfl ?_); ((apply vL_val); (case h => (apply opw_alloc))); ((apply vL_skip); (case h => ((apply ops_store1); exact norm_eq rfl; exact norm_eq rfl; (first | rfl | assumption); infer_instance; (first | decide | exact of_decide_eq_true rfl | (simp; done))))); apply vL_nil; apply seqP_normal; apply vC_seq; apply vC_region; ((apply vL_val); (case h => ((apply opv_loadb1); exact rfl; exact rfl; infer_instance; exact rfl))); (refine vE rfl ?_); (refine vL_val (opv_fieldAddr rfl) ?_); ((apply vL_val); (case h => ((apply opv_loadb1); exact rfl; exact rfl; infer_instance; exact rfl))); (refine vL_val (opv_makeFunc rfl) ?_))
      refine vL_gen (fun w' => At (Pt w4.heap.size [.int .i64 k] 3 * (PWA (L16 wb) rb none 0 kb (ps0 cl tl) * (WA wb rb (.slice va P.length vc) (cl.map (·.1)) tl [] false * RwA qb (.slice va P.length vc) (rwI (sizes.map row0) 0)))) w No w') (S5.new (by (apply Fr.allocSet; exact Fr.refl _ _)) (Blk.as inferInstance rfl) (Nat.le_refl _)) ?_
      clear etx ewb S6 S5
      intro w5 S6
      generalize w4.heap.size = px at S6 ⊢
      have S7 := pw_box S6
      have hst : (ps0 cl tl).sts.length = tl.length := by simp [ps0, born16]
      refine vL_callF rfl (pw_spawn S7 (by omega) _ _ (fun tb => ⟨tb, k, 0, ⟨0, 0, false⟩⟩) (fun tb fb tx' kb' hsub h1 h2 => ⟨rfl, .born fb tx' tx px h1 h2 (hsub _ (List.mem_cons_of_mem _ mt)) (hsub _ List.mem_cons_self) rfl rfl⟩)) rfl ?_
      rintro _ w6 ⟨tb, rfl, kb2, hkb, S8⟩
      have mt2 := hkb _ (List.mem_cons_of_mem _ mt)
      rw [show (ps0 cl tl).addT tb ⟨tb, k, 0, ⟨0, 0, false⟩⟩ = ps0 cl (tl ++ [tb]) by rw [← htl]; exact ps0_addT cl tl tb (by omega)] at S8
      have etx6 := pw_bx S8 mt2
      obtain ⟨cv, tv, ev, S9⟩ := wa_open (S8.ac (show _ = WA wb rb (.slice va P.length vc) (cl.map (·.1)) tl [] false * (PWA (L16 wb) rb none 0 kb2 (ps0 cl (tl ++ [tb])) * RwA qb (.slice va P.length vc) (rwI (sizes.map row0) 0)) by ac_rfl))
      have ewb6 := S9.blk
      ((iterate 5 ((refine vE rfl ?_))); apply vL_nil; apply seqP_normal; (iterate 2 (apply vC_seq)); apply vC_region; (iterate 2 ((refine vE rfl ?_))); apply vL_nil; apply seqP_normal; ((apply vC_cond_false); exact rfl); apply vC_skip; apply seqP_normal)
      refine vC_meet0 2473462226931531291448836096 (fun w' => ∃ tv', At (Pt wb [pt rb, (.slice va P.length vc), cv, tv', ev, .bool false] 61 * (Ow 34 1 ptE tv' (tl ++ [tb]) * (Ow 28 1 ptE cv (cl.map (·.1)) * (Ow 100 5 ev5 ev [] * (PWA (L16 wb) rb none 0 kb2 (ps0 cl (tl ++ [tb])) * RwA qb (.slice va P.length vc) (rwI (sizes.map row0) 0)))))) w No w') ?_ ?_
      · skip
        refine vC_draw' ((fun wf => Blk wf.heap tx [pt wb] 53)) (by first | assumption | infer_instance) ?_
        (refine tk 0 rfl (by kernel_rfl) (by first | assumption | infer_instance) (by intro wf hwf; (try dsimp only at hwf); (((apply opv_loadb1); exact rfl; exact rfl; assumption; exact rfl))) ?_)
        (refine tk 1 rfl (by kernel_rfl) (by first | assumption | infer_instance) (by intro wf hwf; (try dsimp only at hwf); (((apply opv_loadb1); exact rfl; exact rfl; assumption; exact rfl))) ?_)
        (refine tkE 2 rfl (by kernel_rfl) (by first | assumption | infer_instance) rfl ?_)
        (refine tk 3 rfl (by kernel_rfl) (by first | assumption | infer_instance) (by intro wf hwf; (try dsimp only at hwf); (((apply opv_fieldAddr); exact rfl))) ?_)
        (refine tkE 5 rfl (by kernel_rfl) (by first | assumption | infer_instance) rfl ?_)
        refine vA_two 4 6 rfl rfl (by kernel_rfl) (by first | assumption | infer_instance) (fun K hK => ?_) (fun K hK => ?_)
        · (((apply vL_val); (case h => ((apply opv_loadb1); exact rfl; exact rfl; assumption; exact rfl))); apply vL_nil)
          refine ⟨rfl, hK _ _ ?_⟩
          refine vA_only 6 rfl (by kernel_rfl) (by first | assumption | infer_instance) (fun K hK => ?_)
          (((apply vL_val); (case h => ((apply opw_buildSl); exact rfl; exact rfl; exact rfl; exact (rfl : _ = some [_])))); apply vL_nil)
          refine ⟨rfl, hK _ _ ?_⟩
          refine vA_only 7 rfl (by kernel_rfl) (by first | assumption | infer_instance) (fun K hK => ?_)
          have S9 := S9.ac (show _ = Ow 34 1 ptE tv (tl) * (Pt wb [pt rb, (.slice va P.length vc), cv, tv, ev, .bool false] 61 * (Ow 28 1 ptE cv (cl.map (·.1)) * (Ow 100 5 ev5 ev [] * (PWA (L16 wb) rb none 0 kb2 (ps0 cl (tl ++ [tb])) * RwA qb (.slice va P.length vc) (rwI (sizes.map row0) 0))))) by ac_rfl)
          have o9 := S9.own
          refine vL_append (enc := ptE) (xs := tl) (ys := [tb]) (T := 34) (sz := 1) (by (((conv => lhs; whnf) <;> exact rfl))) (by (exact norm_eq rfl)) (Own.alloc (o9.1.frN ((Fr.refl No _).drew))) (Rd.new1 _ _ rfl) rfl (by decide) ?_ ?_ ?_
          · simp [maxLen]; omega
          · simp; omega
          intro v' w7 ho7 hf7 hfr7 hone7 _
          have hfa : Fr (fun j => own tv = some j) w6 w7 := (((Fr.refl _ w6).drew).alloc _).trans' hf7 (fun i hi => .inl hi)
          have S10 := S9.owTo hfa ho7 hone7 (fun k hk => (hfr7 k hk).imp id (fun h => by rw [alloc_size] at h; exact Nat.le_trans (Nat.le_succ _) h))
          have etx7 := etx6.fr hfa (fun h => Own.ne_blk o9.1 etx6 (by decide) h)
          have S11 := S10.ac (show _ = Pt wb [pt rb, (.slice va P.length vc), cv, tv, ev, .bool false] 61 * (Ow 34 1 ptE v' (tl ++ [tb]) * (Ow 28 1 ptE cv (cl.map (·.1)) * (Ow 100 5 ev5 ev [] * (PWA (L16 wb) rb none 0 kb2 (ps0 cl (tl ++ [tb])) * RwA qb (.slice va P.length vc) (rwI (sizes.map row0) 0))))) by ac_rfl)
          have ewb7 := S11.blk
          refine vL_nil ⟨rfl, hK _ _ ?_⟩
          (refine tkE 8 rfl (by kernel_rfl) (by first | assumption | infer_instance) rfl ?_)
          (refine tk 9 rfl (by kernel_rfl) (by first | assumption | infer_instance) (by intro wf hwf; (try dsimp only at hwf); (((apply opv_fieldAddr); exact rfl))) ?_)
          refine vA_only 10 rfl (by kernel_rfl) (by first | assumption | infer_instance) (fun K hK => ?_)
          (((apply vL_skip); (case h => ((apply ops_store1); exact norm_eq rfl; ((conv => lhs; whnf) <;> exact rfl); (first | rfl | assumption); assumption; (first | decide | exact of_decide_eq_true rfl | (simp; done))))); apply vL_nil)
          refine ⟨rfl, hK _ _ ?_⟩
          have S12 := S11.set (cs' := [pt rb, (.slice va P.length vc), cv, v', ev, .bool false])
          have etx8 := etx7.fr (F := fun k => k = wb) ((Fr.refl _ w7).set wb ([pt rb, (.slice va P.length vc), cv, v', ev, .bool false] : List Value).toArray (.inl rfl)) (Blk.ne_type etx7 ewb7 (by decide))
          refine vA_done (by kernel_rfl) (by first | assumption | infer_instance) ?_
          exact ⟨rfl, by ((apply same_updN; (iterate 10 (((refine same_updO ?_ ?_); rotate_left; exact rfl)))); exact fun _ _ => rfl), v', S12⟩
        · (((apply vL_val); (case h => ((apply opw_buildSl); exact rfl; exact rfl; exact rfl; exact (rfl : _ = some [_])))); apply vL_nil)
          refine ⟨rfl, hK _ _ ?_⟩
          refine vA_only 4 rfl (by kernel_rfl) (by first | assumption | infer_instance) (fun K hK => ?_)
          (((apply vL_val); (case h => ((apply opv_loadb1); exact rfl; exact rfl; infer_instance; exact rfl))); apply vL_nil)
          refine ⟨rfl, hK _ _ ?_⟩
          refine vA_only 7 rfl (by kernel_rfl) (by first | assumption | infer_instance) (fun K hK => ?_)
          have S9 := S9.ac (show _ = Ow 34 1 ptE tv (tl) * (Pt wb [pt rb, (.slice va P.length vc), cv, tv, ev, .bool false] 61 * (Ow 28 1 ptE cv (cl.map (·.1)) * (Ow 100 5 ev5 ev [] * (PWA (L16 wb) rb none 0 kb2 (ps0 cl (tl ++ [tb])) * RwA qb (.slice va P.length vc) (rwI (sizes.map row0) 0))))) by ac_rfl)
          have o9 := S9.own
          refine vL_append (enc := ptE) (xs := tl) (ys := [tb]) (T := 34) (sz := 1) (by (((conv => lhs; whnf) <;> exact rfl))) (by (exact norm_eq rfl)) (Own.alloc (o9.1.frN ((Fr.refl No _).drew))) (Rd.new1 _ _ rfl) rfl (by decide) ?_ ?_ ?_
          · simp [maxLen]; omega
          · simp; omega
          intro v' w7 ho7 hf7 hfr7 hone7 _
          have hfa : Fr (fun j => own tv = some j) w6 w7 := (((Fr.refl _ w6).drew).alloc _).trans' hf7 (fun i hi => .inl hi)
          have S10 := S9.owTo hfa ho7 hone7 (fun k hk => (hfr7 k hk).imp id (fun h => by rw [alloc_size] at h; exact Nat.le_trans (Nat.le_succ _) h))
          have etx7 := etx6.fr hfa (fun h => Own.ne_blk o9.1 etx6 (by decide) h)
          have S11 := S10.ac (show _ = Pt wb [pt rb, (.slice va P.length vc), cv, tv, ev, .bool false] 61 * (Ow 34 1 ptE v' (tl ++ [tb]) * (Ow 28 1 ptE cv (cl.map (·.1)) * (Ow 100 5 ev5 ev [] * (PWA (L16 wb) rb none 0 kb2 (ps0 cl (tl ++ [tb])) * RwA qb (.slice va P.length vc) (rwI (sizes.map row0) 0))))) by ac_rfl)
          have ewb7 := S11.blk
          refine vL_nil ⟨rfl, hK _ _ ?_⟩
          (refine tkE 8 rfl (by kernel_rfl) (by first | assumption | infer_instance) rfl ?_)
          (refine tk 9 rfl (by kernel_rfl) (by first | assumption | infer_instance) (by intro wf hwf; (try dsimp only at hwf); (((apply opv_fieldAddr); exact rfl))) ?_)
          refine vA_only 10 rfl (by kernel_rfl) (by first | assumption | infer_instance) (fun K hK => ?_)
          (((apply vL_skip); (case h => ((apply ops_store1); exact norm_eq rfl; ((conv => lhs; whnf) <;> exact rfl); (first | rfl | assumption); assumption; (first | decide | exact of_decide_eq_true rfl | (simp; done))))); apply vL_nil)
          refine ⟨rfl, hK _ _ ?_⟩
          have S12 := S11.set (cs' := [pt rb, (.slice va P.length vc), cv, v', ev, .bool false])
          have etx8 := etx7.fr (F := fun k => k = wb) ((Fr.refl _ w7).set wb ([pt rb, (.slice va P.length vc), cv, v', ev, .bool false] : List Value).toArray (.inl rfl)) (Blk.ne_type etx7 ewb7 (by decide))
          refine vA_done (by kernel_rfl) (by first | assumption | infer_instance) ?_
          exact ⟨rfl, by ((apply same_updN; (iterate 10 (((refine same_updO ?_ ?_); rotate_left; exact rfl)))); exact fun _ _ => rfl), v', S12⟩
      rintro junk9 w7 ⟨tv', S10⟩
      have S11 := wa_shut (S10.ac (show _ = Pt wb [pt rb, (.slice va P.length vc), cv, tv', ev, .bool false] 61 * (Ow 28 1 ptE cv (cl.map (·.1)) * (Ow 34 1 ptE tv' (tl ++ [tb]) * (Ow 100 5 ev5 ev [] * (PWA (L16 wb) rb none 0 kb2 (ps0 cl (tl ++ [tb])) * RwA qb (.slice va P.length vc) (rwI (sizes.map row0) 0))))) by ac_rfl))
      (apply blockP_normal; apply seqP_normal; apply vC_region; ((apply vL_val); (case h => ((apply opv_add); exact rfl; exact rfl; (first | omega | (simp only [List.length_map]; omega))))); (refine vE rfl ?_); apply vL_nil; apply loopP_normal)
      (with_reducible apply end1); (case hs => ((iterate 20 (first | with_reducible apply same_updN | ((with_reducible refine same_updO ?_ ?_); rotate_left; exact rfl) | ((with_reducible refine same_maskIn ?_ ?_); rotate_left; exact rfl))); ((refine same_upd ?_ ?_); rotate_left; exact rfl); (exact same_mask _ _ _))); (case h1 => (exact norm_eq rfl))
      · exact ⟨k + 1, tl ++ [tb], kb2, rfl, by omega, by simp [htl], mt2, S11.ac (by ac_rfl)⟩
      · simp [RowKit.intOf]; omega
    · (apply vC_seq; apply vC_region; (refine vE rfl ?_); apply vL_nil; apply seqP_normal; apply vC_seq; (refine vC_cond_dec rfl (fun h => by omega) (fun _ => ?_)); apply vC_exit; apply seqP_exit; apply loopP_exit; apply blockP_exit; apply seqP_normal; apply vC_seq; apply vC_region; (refine vE rfl ?_))
      obtain rfl : k = P.length := by omega
      refine vL_callF rfl (rf_spawn z hP6 (S5.ac (show _ = RwA qb (.slice va P.length vc) (rwI (sizes.map row0) 0) * (PWA (L16 wb) rb none 0 kb (ps0 cl tl) * WA wb rb (.slice va P.length vc) (cl.map (·.1)) tl [] false) by ac_rfl))) rfl ?_
      intro _ w5 S6
      have etx := pw_bx (S6.ac (show _ = PWA (L16 wb) rb none 0 kb (ps0 cl tl) * (WA wb rb (.slice va P.length vc) (cl.map (·.1)) tl [] false * RwA qb (.slice va P.length vc) (rwI (sizes.map row0) P.length)) by ac_rfl)) mt
      (apply vL_nil; apply seqP_normal; apply vC_seq; apply vC_region; ((apply vL_val); (case h => ((apply opv_loadb1); exact rfl; exact rfl; assumption; exact rfl))); (iterate 3 ((refine vE rfl ?_))); apply vL_nil; apply seqP_normal; apply vC_ret)
      (apply ret2; (case h1 => (exact norm_eq rfl)); (case h2 => (exact norm_eq rfl)))
      exact ⟨wb, qb, rb, cl, tl, kb, rfl, hcl, htl, S6.ac (by ac_rfl)⟩
end
end Go.Proofs.YtbaidcnalkdhgaaGreat
