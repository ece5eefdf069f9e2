/- Layers 15, 16: Step in the plain world: the walk. Layers 15, 16: the plain world: channels and tasks are made; what can be read. Layers 15, 16: the plain world: what can be read. Layer 16: the law's world: what it holds; its closures. Layer 16: the closures of the law's world call its turn. Layer 16: the law's world: need; an event is told. Layer 16: a turn of the law's world: the walk. Layer 16: the law's machine: what all its acts keep. -/
import Derived.Test.YtbaidcnalkdhgaaGreatWy
import Derived.Test.YtbaidcnalkdhgaaGreatEq
import Derived.Test.YtbaidcnalkdhgaaGreatEz
set_option maxRecDepth 100000
namespace Go.Proofs.YtbaidcnalkdhgaaGreat
open Go Go.Eng
section
variable {κ : Type} {L : LawP κ} {q : Q16} {nowi : Option Nat} {kb : List Bx} {S : PS κ} {i : Nat} {x : Nat × TK} {g0 : Gh} {rb : Nat} {rest : Int} {w0 w : World} {F0 : Nat → Prop} {R : Asr}
theorem endTurn_line (S : PS κ) (i : Nat) : (S.endTurn i).line = S.line := by
  unfold PS.endTurn; split <;> rfl
theorem pw_step0 [Lcl R] (S1 : At (PWA L rb none rest kb S * R) w0 F0 w) (p : Int) (hp0 : 0 ≤ p ∧ p ≤ 18446744073709551615) (hl : S.line = []) :
    Rets Tryz.prog 24 #[pt rb, .int .u64 p] w fun u w' => w = w' ∧ u = .bool false := by
  obtain ⟨q, hp, S2⟩ := pw_open S1
  rw [hl] at S2
  exact stepNA S2 p hp0
theorem pw_step [Lcl R] (S1 : At (PWA L rb none rest kb S * R) w0 F0 w) (p : Int) (hp0 : 0 ≤ p ∧ p ≤ 18446744073709551615) {s : St κ} {tb : Nat} (hid : S.line[(p % S.line.length).toNat]? = some (i : Int)) (hs : S.sts[i]? = some s) (ht : S.tbs[i]? = some tb) {σ : Type} (Sσ : σ → PS κ) (kσ : σ → List Bx) (Rσ : σ → Asr) [hlc : ∀ a, Lcl (Rσ a)]
    (hcall : ∀ f, L.cl tb kb f s → ∃ (g : FuncId) (cap : List Value), f = .func (.func g) #[] cap.toArray ∧ Nonempty (FnOk Tryz.prog g) ∧ ∀ w1, At (PWA L rb (some i) (p / S.line.length) kb (S.start i (p % S.line.length)) * R) w0 F0 w1 → Rets Tryz.prog g (s.args ++ cap).toArray w1 fun _ w2 => ∃ a : σ, (Sσ a).tbs[i]? = some tb ∧ At (PWA L rb (some i) (p / S.line.length) (kσ a) (Sσ a) * Rσ a) w0 F0 w2) :
    Rets Tryz.prog 24 #[pt rb, .int .u64 p] w fun u w' => u = .bool true ∧ ∃ a : σ, At (PWA L rb none 0 (kσ a) ((Sσ a).endTurn i) * Rσ a) w0 F0 w' := by
  obtain ⟨q, hp, S2⟩ := pw_open S1
  obtain ⟨x, g0, hx, hg⟩ := hp.xs hs
  have hxt : x.1 = tb := by
    rw [hp.tbs, List.getElem?_map, hx] at ht
    exact Option.some.inj ht
  subst hxt
  have hne : S.line.length ≠ 0 := by
    intro e
    rw [List.eq_nil_of_length_eq_zero e] at hid
    cases hid
  have hz : 0 ≤ p % (S.line.length : Int) := Int.emod_nonneg _ (by omega)
  obtain ⟨hrdy, P1⟩ := prel_start hp hs hx hg hid hz
  have hl := hp.line_len
  obtain ⟨hrt, _⟩ := hp.tk i x g0 s hx hg hs
  -- the state in which a turn begins
  have hbeg : ∀ w1, At (RtA rb (some x.1) (p / S.line.length) (without S.line (p % S.line.length)) (q.ts.set i (x.1, { x.2 with next := ⟨.nilFunc, rfl⟩, said := false })) * (Big (q.cs.map (ChA_i rb)) * (TksA q.tks * (Bxl kb * (GhsA q.ghs * R))))) w0 F0 w1 → At (PWA L rb (some i) (p / S.line.length) kb (S.start i (p % S.line.length)) * R) w0 F0 w1 := fun w1 h => by
    refine pw_shut P1 (h.ac ?_)
    have : nowB (S.start i (p % S.line.length)) (some i) = some x.1 := ht
    rw [this]; rfl
  have main : ∃ (g : FuncId) (cap : List Value), x.2.next.1 = .func (.func g) #[] cap.toArray ∧ Nonempty (FnOk Tryz.prog g) ∧ ∀ w1, At (RtA rb (some x.1) (p / S.line.length) (without S.line (p % S.line.length)) (q.ts.set i (x.1, { x.2 with next := ⟨.nilFunc, rfl⟩, said := false })) * (Big (q.cs.map (ChA_i rb)) * (TksA q.tks * (Bxl kb * (GhsA q.ghs * R))))) w0 F0 w1 → Rets Tryz.prog g cap.toArray w1 fun _ w2 => ∃ a : σ, (Sσ a).tbs[i]? = some x.1 ∧ At (PWA L rb (some i) (p / S.line.length) (kσ a) (Sσ a) * Rσ a) w0 F0 w2 := by
    cases s with
    | rdyY k =>
      obtain ⟨g, cap, e, hok, hc⟩ := hcall _ hrt
      exact ⟨g, cap, e, hok, fun w1 h => hc w1 (hbeg w1 h)⟩
    | rdyS k ok =>
      obtain ⟨n, wk, ⟨thb, tkb, tb, f, e1, e2, e3, e4, e5⟩, fb, yb, n1, n2, n3⟩ := hrt
      obtain ⟨g, cap, e, ⟨hok⟩, hc⟩ := hcall f e4
      subst e
      subst e1
      subst e2
      refine ⟨_, [pt fb, pt yb], n1, ⟨inferInstance⟩, fun w1 h => ?_⟩
      have h' := h.ac (show _ = Bxl kb * (RtA rb (some x.1) (p / S.line.length) (without S.line (p % S.line.length)) (q.ts.set i (x.1, { x.2 with next := ⟨.nilFunc, rfl⟩, said := false })) * (Big (q.cs.map (ChA_i rb)) * (TksA q.tks * (GhsA q.ghs * R)))) by ac_rfl)
      have htb := (h.ac (show _ = Pt tb [.bool ok] 4 * (RtA rb (some x.1) (p / S.line.length) (without S.line (p % S.line.length)) (q.ts.set i (x.1, { x.2 with next := ⟨.nilFunc, rfl⟩, said := false })) * (Big (q.cs.map (ChA_i rb)) * (TksA q.tks * (Bxl kb * (GhsA (q.ghs.eraseIdx i) * R))))) by rw [ghs_pick hg, ghA_s]; ac_rfl)).blk
      exact wake1_calls (cap := [pt thb, pt tb]) (h'.bx n2) (h'.bx n3) (send1_calls (n := 0) (cap := cap) (h'.bx e3) htb (hc w1 (hbeg w1 h)))
    | rdyR k v ok =>
      obtain ⟨n, wk, ⟨thb, tkb, vx, tb, f, e1, e2, e3, e4, e5⟩, fb, yb, n1, n2, n3⟩ := hrt
      obtain ⟨g, cap, e, ⟨hok⟩, hc⟩ := hcall f e4
      subst e
      subst e1
      subst e2
      refine ⟨_, [pt fb, pt yb], n1, ⟨inferInstance⟩, fun w1 h => ?_⟩
      have h' := h.ac (show _ = Bxl kb * (RtA rb (some x.1) (p / S.line.length) (without S.line (p % S.line.length)) (q.ts.set i (x.1, { x.2 with next := ⟨.nilFunc, rfl⟩, said := false })) * (Big (q.cs.map (ChA_i rb)) * (TksA q.tks * (GhsA q.ghs * R)))) by ac_rfl)
      have hvb := h.ac (show _ = Pt vx [.int .i64 v] 3 * (Pt tb [.bool ok] 4 * (RtA rb (some x.1) (p / S.line.length) (without S.line (p % S.line.length)) (q.ts.set i (x.1, { x.2 with next := ⟨.nilFunc, rfl⟩, said := false })) * (Big (q.cs.map (ChA_i rb)) * (TksA q.tks * (Bxl kb * (GhsA (q.ghs.eraseIdx i) * R)))))) by rw [ghs_pick hg, ghA_r]; ac_rfl)
      have htb := (hvb.swap.ac (star_assoc _ _ _)).blk
      exact wake1_calls (cap := [pt thb, pt vx, pt tb]) (h'.bx n2) (h'.bx n3) (recv1_calls (n := 0) (cap := cap) (h'.bx e3) hvb.blk htb (hc w1 (hbeg w1 h)))
    | over => cases hrdy
    | run => cases hrdy
    | mS _ _ _ => cases hrdy
    | mR _ _ _ _ => cases hrdy
    | wS _ _ _ => cases hrdy
    | wR _ _ => cases hrdy
    | wX _ => cases hrdy
  obtain ⟨g, cap, e, ⟨hok⟩, hc⟩ := main
  let H : σ × Q16 × TK → Asr := fun z => Pu (PRel L z.2.1 (some i) (kσ z.1) (Sσ z.1) ∧ z.2.1.ts[i]? = some (x.1, z.2.2)) * (Big (z.2.1.cs.map (ChA_i rb)) * (TksA z.2.1.tks * (Bxl (kσ z.1) * (GhsA z.2.1.ghs * Rσ z.1))))
  haveI : ∀ z, Lcl (H z) := fun z => by
    haveI := hlc z.1
    show Lcl (Pu _ * (Big (z.2.1.cs.map (ChA_i rb)) * (TksA z.2.1.tks * (Bxl (kσ z.1) * (GhsA z.2.1.ghs * Rσ z.1)))))
    infer_instance
  refine (stepA (S2.ac (by rfl)) p hp0 (by omega) hid hx cap e H (fun _ => p / S.line.length) (fun z => (Sσ z.1).line) (fun z => z.2.1.ts) (fun z => z.2.2) (fun w1 h => (hc w1 h).mono fun _ w2 ⟨a, h1, h2⟩ => ?_)).mono fun u w' ⟨h1, z, h2, h3⟩ => ?_
  · obtain ⟨q2, hp2, S3⟩ := pw_open h2
    have hlt : i < (Sσ a).sts.length := hp2.nowok i rfl
    obtain ⟨x2, hx2⟩ : ∃ x2, q2.ts[i]? = some x2 := ⟨_, List.getElem?_eq_getElem (by rw [hp2.lt]; exact hlt)⟩
    have hx3 : x2.1 = x.1 := by
      rw [hp2.tbs, List.getElem?_map, hx2] at h1
      exact Option.some.inj h1
    have hx4 : q2.ts[i]? = some (x.1, x2.2) := by rw [hx2, ← hx3]
    refine ⟨(a, q2, x2.2), ?_, hx4⟩
    have : nowB (Sσ a) (some i) = some x.1 := h1
    rw [this] at S3
    exact (S3.add (p := PRel L q2 (some i) (kσ a) (Sσ a) ∧ q2.ts[i]? = some (x.1, x2.2)) ⟨hp2, hx4⟩).ac (by
      show _ = RtA rb (some x.1) (p / S.line.length) (Sσ a).line q2.ts * (Pu _ * (Big (q2.cs.map (ChA_i rb)) * (TksA q2.tks * (Bxl (kσ a) * (GhsA q2.ghs * Rσ a)))))
      ac_rfl)
  · obtain ⟨a, q2, y⟩ := z
    refine ⟨h1, a, ?_⟩
    have h4 := h2.ac (show _ = Pu (PRel L q2 (some i) (kσ a) (Sσ a) ∧ q2.ts[i]? = some (x.1, y)) * (RtA rb none 0 (Sσ a).line (q2.ts.set i (x.1, { y with over := !y.said })) * (Big (q2.cs.map (ChA_i rb)) * (TksA q2.tks * (Bxl (kσ a) * (GhsA q2.ghs * Rσ a))))) by
      show RtA rb none 0 (Sσ a).line (q2.ts.set i (x.1, { y with over := !y.said })) * (Pu (PRel L q2 (some i) (kσ a) (Sσ a) ∧ q2.ts[i]? = some (x.1, y)) * (Big (q2.cs.map (ChA_i rb)) * (TksA q2.tks * (Bxl (kσ a) * (GhsA q2.ghs * Rσ a))))) = _
      ac_rfl)
    obtain ⟨⟨hp2, hx2⟩, h5⟩ := h4.pure
    haveI := hlc a
    refine pw_shut (prel_end hp2 hx2) (h5.ac ?_)
    rw [endTurn_line]
    rfl
end
end Go.Proofs.YtbaidcnalkdhgaaGreat
set_option maxRecDepth 100000
namespace Go.Proofs.YtbaidcnalkdhgaaGreat
open Go Go.Eng
section
variable {κ : Type} {L : LawP κ} {q : Q16} {nowi : Option Nat} {kb : List Bx} {S : PS κ} {i : Nat} {x : Nat × TK} {g0 : Gh} {rb : Nat} {rest : Int} {w0 w : World} {F0 : Nat → Prop} {R : Asr}
def PS.addC (S : PS κ) (d : C16) : PS κ := ⟨S.sts, S.tbs, S.cs ++ [d], S.line⟩
def PS.addT (S : PS κ) (tb : Nat) (k : κ) : PS κ := ⟨S.sts ++ [.rdyY k], S.tbs ++ [tb], S.cs, readyL S.line S.sts.length⟩
theorem snoc_get {α : Type} {l : List α} {a b : α} {j : Nat} (h : (l ++ [a])[j]? = some b) : l[j]? = some b ∨ (j = l.length ∧ b = a) := by
  rcases Nat.lt_trichotomy j l.length with h1 | h1 | h1
  · rw [List.getElem?_append_left h1] at h; exact .inl h
  · subst h1
    rw [List.getElem?_append_right (Nat.le_refl _), Nat.sub_self] at h
    cases h
    exact .inr ⟨rfl, rfl⟩
  · rw [List.getElem?_eq_none (by simp; omega)] at h; cases h
theorem prel_addC (hp : PRel L q nowi kb S) (c : CH) (d : C16) (h1 : c.cb = d.cb) (h2 : c.size = d.size) (h3 : c.buf = [] ∧ c.snd = [] ∧ c.rcv = [] ∧ c.closed = false) (h4 : d.buf = [] ∧ d.snd = [] ∧ d.rcv = [] ∧ d.closed = false) (h5 : 0 ≤ d.size ∧ d.size ≤ 64) : PRel L { q with cs := q.cs ++ [c] } nowi kb (S.addC d) :=
  { hp with
    lc := by simp only [PS.addC, List.length_append, List.length_singleton]; rw [hp.lc]
    ch := fun j cj dj hc hd => by
      have hc : (q.cs ++ [c])[j]? = some cj := hc
      have hd : (S.cs ++ [d])[j]? = some dj := hd
      rcases snoc_get hc with hc | ⟨e1, rfl⟩
      · rcases snoc_get hd with hd | ⟨e2, _⟩
        · exact (hp.ch j cj dj hc hd).keep (fun _ _ => ⟨rfl, rfl⟩) (TkKeep.refl _)
        · have := (List.getElem?_eq_some_iff.1 hc).1
          have := hp.lc
          omega
      · rcases snoc_get hd with hd | ⟨e2, rfl⟩
        · have := (List.getElem?_eq_some_iff.1 hd).1
          have := hp.lc
          omega
        · exact ⟨h1, h2, by rw [h3.1, h4.1], by rw [h3.2.2.2, h4.2.2.2], by rw [h4.1]; exact h5, by rw [h4.2.1]; exact List.nodup_nil, by rw [h4.2.2.1]; exact List.nodup_nil, by rw [h3.2.1, h4.2.1]; exact Zip.nil, by rw [h3.2.2.1, h4.2.2.1]; exact Zip.nil⟩ }
theorem pw_make [Lcl R] (S1 : At (PWA L rb nowi rest kb S * R) w0 F0 w) (size : Int) (hs : 0 ≤ size ∧ size ≤ 64) :
    Rets Tryz.prog 15 #[pt rb, .int .i64 size] w fun u w' => ∃ cb, u = .tuple #[pt cb, .int .i64 0] ∧ At (PWA L rb nowi rest kb (S.addC ⟨cb, size, [], [], [], false⟩) * R) w0 F0 w' := by
  obtain ⟨q, hp, S2⟩ := pw_open S1
  refine (ch_make_i S2 size hs).mono fun u w' ⟨cb, bq, sq, rq, h1, h2⟩ => ⟨cb, h1, ?_⟩
  have P := prel_addC hp ⟨cb, bq, sq, rq, size, [], [], [], false⟩ ⟨cb, size, [], [], [], false⟩ rfl rfl ⟨rfl, rfl, rfl, rfl⟩ ⟨rfl, rfl, rfl, rfl⟩ hs
  refine pw_shut P (h2.ac ?_)
  rw [big_map_snoc]
  show _ = RtA rb (nowB S nowi) rest S.line q.ts * _
  ac_rfl
theorem openIn_lts (ts : List (Nat × TK)) (k : Nat) : openIn ts k ≤ ts.length := by
  unfold openIn
  exact Nat.le_trans (List.length_filter_le _ _) (by rw [List.length_take]; omega)
theorem prel_addT (hp : PRel L q nowi kb S) (hf : S.sts.length < 200) {kb' : List Bx} (hkb : ∀ b ∈ kb, b ∈ kb') (x : Nat × TK) (k : κ) (hpk : x.2.parked = false) (hov : x.2.over = false) (hyd : L.yd k x.1 kb' x.2.next.1) :
    PRel L { q with ts := q.ts ++ [x], ghs := q.ghs ++ [.none] } nowi kb' (S.addT x.1 k) := by
  obtain ⟨r1, r2, r3⟩ := hp.ready S.sts.length
  have hold : ∀ {m : Nat} {s : St κ}, S.sts[m]? = some s → (S.sts ++ [.rdyY k])[m]? = some s := fun h => by rw [List.getElem?_append_left (List.getElem?_eq_some_iff.1 h).1]; exact h
  have hold2 : ∀ {m : Nat} {s : St κ}, S.sts[m]? = some s → (q.ghs ++ [Gh.none])[m]? = q.ghs[m]? := fun h => by rw [List.getElem?_append_left (by rw [hp.lg]; exact (List.getElem?_eq_some_iff.1 h).1)]
  refine ⟨?_, ?_, hp.lc, ?_, ?_, ?_, ?_, ?_, ?_, ?_, r1, r2, ?_, hp.tn, ?_, ?_⟩
  · simp only [PS.addT, List.length_append, List.length_singleton]; rw [hp.lt]
  · simp only [PS.addT, List.length_append, List.length_singleton]; rw [hp.lg]
  · simp only [PS.addT, List.map_append, List.map_cons, List.map_nil]; rw [hp.tbs]
  · simp only [PS.addT, List.length_append, List.length_singleton]; omega
  · intro m y g s hy hg hs
    have hs : (S.sts ++ [.rdyY k])[m]? = some s := hs
    have hy : (q.ts ++ [x])[m]? = some y := hy
    have hg : (q.ghs ++ [Gh.none])[m]? = some g := hg
    have a := hp.lt
    have b := hp.lg
    rcases snoc_get hs with hs | ⟨e, rfl⟩
    · have hm := (List.getElem?_eq_some_iff.1 hs).1
      rw [List.getElem?_append_left (by omega)] at hy hg
      obtain ⟨c1, c2⟩ := hp.tk m y g s hy hg hs
      exact ⟨c1.mono hkb, c2⟩
    · rcases snoc_get hy with hy | ⟨e', rfl⟩
      · have := (List.getElem?_eq_some_iff.1 hy).1; omega
      · exact ⟨hyd, hpk, hov⟩
  · intro m y s hm hy hs
    have hs : (S.sts ++ [.rdyY k])[m]? = some s := hs
    have hy : (q.ts ++ [x])[m]? = some y := hy
    have h1 := hp.nowok m hm
    have a := hp.lt
    rw [List.getElem?_append_left (by omega)] at hs hy
    exact hp.said m y s hm hy hs
  · intro m s hs hr
    rcases snoc_get (show (S.sts ++ [.rdyY k])[m]? = some s from hs) with hs | ⟨e, rfl⟩
    · exact hp.run m s hs hr
    · cases hr
  · intro m hm
    have := hp.nowok m hm
    simp only [PS.addT, List.length_append, List.length_singleton]; omega
  · intro j c d hc hd
    have r := hp.ch j c d hc hd
    refine r.keep (fun m hm => ?_) (TkKeep.refl _)
    rcases hm with hm | hm
    · obtain ⟨k', v', e⟩ := r.mem_snd hm
      exact ⟨by rw [e]; exact hold e, hold2 e⟩
    · obtain ⟨k', e⟩ := r.mem_rcv hm
      exact ⟨by rw [e]; exact hold e, hold2 e⟩
  · intro m
    show (m : Int) ∈ readyL S.line S.sts.length ↔ ∃ s, (S.sts ++ [.rdyY k])[m]? = some s ∧ s.rdy = true
    rw [r3 m, hp.rdy m]
    constructor
    · rintro (rfl | ⟨s, h1, h2⟩)
      · exact ⟨.rdyY k, by rw [List.getElem?_append_right (Nat.le_refl _), Nat.sub_self]; rfl, rfl⟩
      · exact ⟨s, hold h1, h2⟩
    · rintro ⟨s, h1, h2⟩
      rcases snoc_get h1 with h1 | ⟨e, _⟩
      · exact .inr ⟨s, h1, h2⟩
      · exact .inl e
  · intro a b g g' s s' n h1 h2 h3 h4 h5 h6 h7 h8
    rcases snoc_get (show (S.sts ++ [.rdyY k])[a]? = some s from h3) with h3 | ⟨_, rfl⟩
    · rcases snoc_get (show (S.sts ++ [.rdyY k])[b]? = some s' from h4) with h4 | ⟨_, rfl⟩
      · have h1 : (q.ghs ++ [Gh.none])[a]? = some g := h1
        have h2 : (q.ghs ++ [Gh.none])[b]? = some g' := h2
        rw [hold2 h3] at h1
        rw [hold2 h4] at h2
        exact hp.dn a b g g' s s' n h1 h2 h3 h4 h5 h6 h7 h8
      · cases h6
    · cases h5
  · intro m s hm hs
    have h1 := hp.nowok m hm
    have hs : (S.sts ++ [.rdyY k])[m]? = some s := hs
    rw [List.getElem?_append_left h1] at hs
    exact hp.nov m s hm hs
theorem pw_spawn [Lcl R] (S1 : At (PWA L rb none rest kb S * R) w0 F0 w) (hf : S.sts.length < 200) (g : FuncId) (cap : Array Value) (k : Nat → κ)
    (hyd : ∀ (tb fb tx : Nat) (kb' : List Bx), (∀ b ∈ kb, b ∈ kb') → (fb, [.func (.func g) #[] cap], 37) ∈ kb' → (tx, [pt tb], 34) ∈ kb' → L.yd (k tb) tb kb' (.func (.func 98) #[] #[pt fb, pt tx])) :
    Rets Tryz.prog 22 #[pt rb, .func (.func g) #[] cap] w fun u w' => ∃ tb, u = .tuple #[pt tb, .int .i64 0] ∧ ∃ kb', (∀ b ∈ kb, b ∈ kb') ∧ At (PWA L rb none rest kb' (S.addT tb (k tb)) * R) w0 F0 w' := by
  obtain ⟨q, hp, S2⟩ := pw_open S1
  have hl := hp.line_len
  have hlt := hp.lt
  have ho := openIn_lts q.ts q.ts.length
  refine (spawnA S2 g cap (by omega) (by omega) (by omega)).mono fun u w' ⟨tb, fb, tx, h1, h2⟩ => ⟨tb, h1, (fb, [.func (.func g) #[] cap], 37) :: (tx, [pt tb], 34) :: kb, fun b hb => List.mem_cons_of_mem _ (List.mem_cons_of_mem _ hb), ?_⟩
  have P := prel_addT hp hf (kb' := (fb, [.func (.func g) #[] cap], 37) :: (tx, [pt tb], 34) :: kb) (fun b hb => List.mem_cons_of_mem _ (List.mem_cons_of_mem _ hb)) (tb, newT fb tx) (k tb) rfl rfl (hyd tb fb tx _ (fun b hb => List.mem_cons_of_mem _ (List.mem_cons_of_mem _ hb)) List.mem_cons_self (List.mem_cons_of_mem _ List.mem_cons_self))
  refine pw_shut P (h2.ac ?_)
  unfold GhsA
  rw [bxl_cons, bxl_cons, hlt]
  have e : Big ((q.ghs ++ [Gh.none]).map GhA) = Big (q.ghs.map GhA) := ghs_snoc q.ghs
  rw [show ({ q with ts := q.ts ++ [(tb, newT fb tx)], ghs := q.ghs ++ [.none] } : Q16).ghs = q.ghs ++ [.none] from rfl, e]
  show _ = RtA rb none rest (readyL S.line S.sts.length) (q.ts ++ [(tb, newT fb tx)]) * _
  rw [show nowB S none = none from rfl]
  ac_rfl
end
end Go.Proofs.YtbaidcnalkdhgaaGreat
set_option maxRecDepth 100000
namespace Go.Proofs.YtbaidcnalkdhgaaGreat
open Go Go.Eng
section
variable {κ : Type} {L : LawP κ} {q : Q16} {nowi : Option Nat} {kb : List Bx} {S : PS κ} {i : Nat} {x : Nat × TK} {g0 : Gh} {rb : Nat} {rest : Int} {w0 w : World} {F0 : Nat → Prop} {R : Asr}
def PS.parkedL (S : PS κ) : List Int := ((List.range S.sts.length).filter fun i => (S.sts[i]?).elim false St.parked).map fun (n : Nat) => (n : Int)
def C16.canS (d : C16) : Bool := d.closed || (!d.rcv.isEmpty || decide ((d.buf.length : Int) < d.size))
def C16.canR (d : C16) : Bool := d.closed || (!d.buf.isEmpty || !d.snd.isEmpty)
theorem pw_len [Lcl R] (S1 : At (PWA L rb nowi rest kb S * R) w0 F0 w) {j : Nat} {d : C16} (hd : S.cs[j]? = some d) : Rets Tryz.prog 26 #[pt d.cb] w fun u w' => w = w' ∧ u = .int .i64 d.buf.length := by
  obtain ⟨q, hp, S2⟩ := pw_open S1
  obtain ⟨c, hc⟩ := hp.cget hd
  have r := hp.ch j c d hc hd
  have := ch_len_i (S2.ac (po_eq hc))
  rw [r.cb, r.buf] at this
  exact this
theorem pw_cap [Lcl R] (S1 : At (PWA L rb nowi rest kb S * R) w0 F0 w) {j : Nat} {d : C16} (hd : S.cs[j]? = some d) : Rets Tryz.prog 81 #[pt d.cb] w fun u w' => w = w' ∧ u = .int .i64 d.size := by
  obtain ⟨q, hp, S2⟩ := pw_open S1
  obtain ⟨c, hc⟩ := hp.cget hd
  have r := hp.ch j c d hc hd
  have := ch_cap_i (S2.ac (po_eq hc))
  rw [r.cb, r.size] at this
  exact this
theorem pw_closed [Lcl R] (S1 : At (PWA L rb nowi rest kb S * R) w0 F0 w) {j : Nat} {d : C16} (hd : S.cs[j]? = some d) : Rets Tryz.prog 31 #[pt d.cb] w fun u w' => w = w' ∧ u = .bool d.closed := by
  obtain ⟨q, hp, S2⟩ := pw_open S1
  obtain ⟨c, hc⟩ := hp.cget hd
  have r := hp.ch j c d hc hd
  have := ch_closed_i (S2.ac (po_eq hc))
  rw [r.cb, r.closed] at this
  exact this
theorem pw_waits [Lcl R] (S1 : At (PWA L rb nowi rest kb S * R) w0 F0 w) {j : Nat} {d : C16} (hd : S.cs[j]? = some d) : Rets Tryz.prog 25 #[pt d.cb] w fun u w' => u = .tuple #[.int .i64 d.snd.length, .int .i64 d.rcv.length] ∧ At (PWA L rb nowi rest kb S * R) w0 F0 w' := by
  obtain ⟨q, hp, S2⟩ := pw_open S1
  obtain ⟨c, hc⟩ := hp.cget hd
  have r := hp.ch j c d hc hd
  obtain ⟨hcl, m1, m2⟩ := hp.ent hc hd
  have := ch_waits_i (S2.ac (po_eq hc)) m1 m2
  rw [hcl, r.cb, r.snd.1, r.rcv.1] at this
  exact this.mono fun u w' ⟨h1, h2⟩ => ⟨h1, pw_shut hp (h2.ac (po_eq hc).symm)⟩
theorem zip_empty {α β : Type} {Q : α → β → Prop} {l : List α} {l' : List β} (h : Zip Q l l') : l.isEmpty = l'.isEmpty := by
  have := h.1
  cases l <;> cases l' <;> first | rfl | (simp at this)
theorem pw_can [Lcl R] (S1 : At (PWA L rb nowi rest kb S * R) w0 F0 w) {j : Nat} {d : C16} (hd : S.cs[j]? = some d) : Rets Tryz.prog 79 #[pt d.cb] w fun u w' => u = .tuple #[.bool d.canS, .bool d.canR] ∧ At (PWA L rb nowi rest kb S * R) w0 F0 w' := by
  obtain ⟨q, hp, S2⟩ := pw_open S1
  obtain ⟨c, hc⟩ := hp.cget hd
  have r := hp.ch j c d hc hd
  obtain ⟨hcl, m1, m2⟩ := hp.ent hc hd
  have := ch_can_i (S2.ac (po_eq hc)) m1 m2
  have e1 : canS c = d.canS := by unfold canS C16.canS; rw [r.closed, r.buf, r.size, zip_empty r.rcv]
  have e2 : canR c = d.canR := by unfold canR C16.canR; rw [r.closed, r.buf, zip_empty r.snd]
  rw [hcl, r.cb, e1, e2] at this
  exact this.mono fun u w' ⟨h1, h2⟩ => ⟨h1, pw_shut hp (h2.ac (po_eq hc).symm)⟩
theorem pw_ready [Lcl R] (S1 : At (PWA L rb nowi rest kb S * R) w0 F0 w) : Rets Tryz.prog 51 #[pt rb] w fun u w' => At (Ow 3 1 iE u S.line * (PWA L rb nowi rest kb S * R)) w0 F0 w' := by
  obtain ⟨q, hp, S2⟩ := pw_open S1
  have hl := hp.line_len
  refine (readyA S2 (by omega)).mono fun u w' h => ?_
  have := pw_shut (R := Ow 3 1 iE u S.line * R) hp (h.ac (by ac_rfl))
  exact this.ac (by ac_rfl)
theorem pw_parkedL (hp : PRel L q nowi kb S) : parkedIn q.ts q.ts.length = S.parkedL := by
  unfold parkedIn PS.parkedL
  rw [hp.lt]
  congr 1
  refine List.filter_congr (fun m hm => ?_)
  have hm := List.mem_range.1 hm
  obtain ⟨s, hs⟩ : ∃ s, S.sts[m]? = some s := ⟨_, List.getElem?_eq_getElem hm⟩
  obtain ⟨x, g, hx, hg⟩ := hp.xs hs
  rw [hx, hs]
  exact (hp.tk m x g s hx hg hs).2.1
theorem pw_parked [Lcl R] (S1 : At (PWA L rb nowi rest kb S * R) w0 F0 w) : Rets Tryz.prog 105 #[pt rb] w fun u w' => At (Ow 3 1 iE u S.parkedL * (PWA L rb nowi rest kb S * R)) w0 F0 w' := by
  obtain ⟨q, hp, S2⟩ := pw_open S1
  have hl := hp.lt
  have hf := hp.few
  refine (parkedA S2 (by omega)).mono fun u w' h => ?_
  rw [pw_parkedL hp] at h
  have := pw_shut (R := Ow 3 1 iE u S.parkedL * R) hp (h.ac (by ac_rfl))
  exact this.ac (by ac_rfl)
theorem pw_over [Lcl R] (S1 : At (PWA L rb nowi rest kb S * R) w0 F0 w) {tb : Nat} {s : St κ} (hs : S.sts[i]? = some s) (ht : S.tbs[i]? = some tb) : Rets Tryz.prog 106 #[pt tb] w fun u w' => w = w' ∧ u = .bool s.isOver := by
  obtain ⟨q, hp, S2⟩ := pw_open S1
  obtain ⟨x, g0, hx, hg⟩ := hp.xs hs
  have hxt : x.1 = tb := by
    rw [hp.tbs, List.getElem?_map, hx] at ht
    exact Option.some.inj ht
  subst hxt
  rw [← (hp.tk i x g0 s hx hg hs).2.2]
  exact t_over (S2.task hx)
end
end Go.Proofs.YtbaidcnalkdhgaaGreat
set_option maxRecDepth 100000
namespace Go.Proofs.YtbaidcnalkdhgaaGreat
open Go Go.Eng
/-- what is told; an event -/
structure To where
  c : Int
  v : Int
  ok : Bool
def toV (x : To) : Value := .agg #[.int .i64 x.c, .int .i64 x.v, .bool x.ok]
structure Ev5 where
  t : Int
  a : Int
  c : Int
  v : Int
  ok : Bool
def ev5 (x : Ev5) : List Value := [.int .i64 x.t, .int .i64 x.a, .int .i64 x.c, .int .i64 x.v, .bool x.ok]
instance encEv5 : EncOk ev5 5 := ⟨by intro x u h; simp [ev5] at h; rcases h with rfl | rfl | rfl | rfl | rfl <;> rfl, fun _ => rfl⟩
structure Do5 where
  k : Int
  c : Int
  v : Int
  cs : OV
  df : Bool
def do5 (x : Do5) : List Value := [.int .i64 x.k, .int .i64 x.c, .int .i64 x.v, x.cs.1, .bool x.df]
instance encDo5 : EncOk do5 5 := ⟨by intro x u h; simp [do5] at h; rcases h with rfl | rfl | rfl | rfl | rfl <;> first | rfl | exact x.cs.2, fun _ => rfl⟩
def do0 : Do5 := ⟨0, 0, 0, ⟨.slice none 0 0, rfl⟩, false⟩
def WA (wb rb : Nat) (vp : Value) (cl tl : List Nat) (el : List Ev5) (bad : Bool) : Asr :=
  Ex fun cv : Value => Ex fun tv : Value => Ex fun ev : Value => Pt wb [pt rb, vp, cv, tv, ev, .bool bad] 61 * (Ow 28 1 ptE cv cl * (Ow 34 1 ptE tv tl * Ow 100 5 ev5 ev el))
instance instLclWA (wb rb : Nat) (vp : Value) (cl tl : List Nat) (el : List Ev5) (bad : Bool) : Lcl (WA wb rb vp cl tl el bad) := by unfold WA; infer_instance
section
variable {w w0 : World} {F0 : Nat → Prop} {R : Asr} {wb rb : Nat} {vp : Value} {cl tl : List Nat} {el : List Ev5} {bad : Bool}
theorem wa_open (S : At (WA wb rb vp cl tl el bad * R) w0 F0 w) : ∃ cv tv ev, At (Pt wb [pt rb, vp, cv, tv, ev, .bool bad] 61 * (Ow 28 1 ptE cv cl * (Ow 34 1 ptE tv tl * (Ow 100 5 ev5 ev el * R)))) w0 F0 w := by
  unfold WA at S
  obtain ⟨cv, S⟩ := S.ex
  obtain ⟨tv, S⟩ := S.ex
  obtain ⟨ev, S⟩ := S.ex
  exact ⟨cv, tv, ev, S.ac (by ac_rfl)⟩
theorem wa_shut {cv tv ev : Value} (S : At (Pt wb [pt rb, vp, cv, tv, ev, .bool bad] 61 * (Ow 28 1 ptE cv cl * (Ow 34 1 ptE tv tl * (Ow 100 5 ev5 ev el * R)))) w0 F0 w) : At (WA wb rb vp cl tl el bad * R) w0 F0 w := by
  unfold WA
  refine At.intro cv (At.intro tv (At.intro ev ?_))
  exact S.ac (by ac_rfl)
end
/-- where a task stands: its block, its program, what comes next, what will be told -/
structure K16 where
  tb : Nat
  prog : Nat
  pos : Nat
  told : To
/-- the boxes of what goes on behind a turn -/
def Nx (wb : Nat) (k : K16) (kb : List Bx) (nb : Nat) : Prop := ∃ b5 b6 b7 b8 : Nat, (nb, [.func (.func 166) #[] #[pt b5, pt b6, pt b7, pt b8]], 234) ∈ kb ∧ (b5, [pt wb], 53) ∈ kb ∧ (b6, [pt k.tb], 34) ∈ kb ∧ (b7, [.int .i64 k.prog], 3) ∈ kb ∧ (b8, [.int .i64 ((k.pos : Int) - 1)], 3) ∈ kb ∧ 1 ≤ k.pos
theorem Nx.mono {wb : Nat} {k : K16} {kb kb' : List Bx} {nb : Nat} (h : ∀ b ∈ kb, b ∈ kb') (n : Nx wb k kb nb) : Nx wb k kb' nb := by
  obtain ⟨b5, b6, b7, b8, h1, h2, h3, h4, h5, h6⟩ := n
  exact ⟨b5, b6, b7, b8, h _ h1, h _ h2, h _ h3, h _ h4, h _ h5, h6⟩
inductive Yd16 (wb : Nat) (k : K16) (kb : List Bx) : Value → Prop where
  | born (fb tx wx px : Nat) : (fb, [.func (.func 107) #[] #[pt wx, pt px]], 37) ∈ kb → (tx, [pt k.tb], 34) ∈ kb → (wx, [pt wb], 53) ∈ kb → (px, [.int .i64 k.prog], 3) ∈ kb → k.pos = 0 → k.told = ⟨0, 0, false⟩ → Yd16 wb k kb (.func (.func 98) #[] #[pt fb, pt tx])
  | y2 (nb : Nat) : Nx wb k kb nb → k.told = ⟨0, 0, false⟩ → Yd16 wb k kb (.func (.func 169) #[] #[pt nb])
  | y5 (nb eb : Nat) (e : Int) : Nx wb k kb nb → (eb, [.int .i64 e], 29) ∈ kb → k.told = ⟨0, 0, decide (e = 0)⟩ → Yd16 wb k kb (.func (.func 172) #[] #[pt nb, pt eb])
  | y6 (nb ob : Nat) (ok : Bool) : Nx wb k kb nb → (ob, [.bool ok], 4) ∈ kb → k.told = ⟨0, 0, ok⟩ → Yd16 wb k kb (.func (.func 173) #[] #[pt nb, pt ob])
  | y7 (nb ob : Nat) : Nx wb k kb nb → (ob, [.int .i64 k.told.c, .int .i64 k.told.v, .bool k.told.ok], 171) ∈ kb → Yd16 wb k kb (.func (.func 174) #[] #[pt nb, pt ob])
def L16 (wb : Nat) : LawP K16 where
  th := fun k kb v => ∃ nb, Nx wb k kb nb ∧ v = .func (.func 170) #[] #[pt nb]
  tr := fun k kb v => ∃ nb, Nx wb k kb nb ∧ v = .func (.func 171) #[] #[pt nb]
  yd := fun k t kb v => k.tb = t ∧ Yd16 wb k kb v
  xd := fun _ _ _ _ => False
  mth := fun h ⟨nb, n, e⟩ => ⟨nb, n.mono h, e⟩
  mtr := fun h ⟨nb, n, e⟩ => ⟨nb, n.mono h, e⟩
  myd := fun h ⟨e, y⟩ => ⟨e, by
    cases y with
    | born fb tx wx px h1 h2 h3 h4 h5 h6 => exact .born fb tx wx px (h _ h1) (h _ h2) (h _ h3) (h _ h4) h5 h6
    | y2 nb n e => exact .y2 nb (n.mono h) e
    | y5 nb eb e n h1 h2 => exact .y5 nb eb e (n.mono h) (h _ h1) h2
    | y6 nb ob ok n h1 h2 => exact .y6 nb ob ok (n.mono h) (h _ h1) h2
    | y7 nb ob n h1 => exact .y7 nb ob (n.mono h) (h _ h1)⟩
  mxd := fun h e => e
end Go.Proofs.YtbaidcnalkdhgaaGreat
set_option maxRecDepth 100000
namespace Go.Proofs.YtbaidcnalkdhgaaGreat
open Go Go.Eng
def TurnC (wb tb : Nat) (prog pos : Int) (x : To) (w : World) (Q : World → Prop) : Prop := ∀ w', Fr No w w' → Rets Tryz.prog 108 #[pt wb, pt tb, .int .i64 prog, .int .i64 pos, toV x] w' fun _ w'' => Q w''
section
variable {w : World} {wb tb nb b5 b6 b7 b8 : Nat} {prog pos : Int} {Q : World → Prop}
theorem turn1_calls {x : To} (h5 : Blk w.heap b5 [pt wb] 53) (h6 : Blk w.heap b6 [pt tb] 34) (h7 : Blk w.heap b7 [.int .i64 prog] 3) (h8 : Blk w.heap b8 [.int .i64 (pos - 1)] 3) (hb : -1000000000 ≤ pos ∧ pos ≤ 1000000000) (h : TurnC wb tb prog pos x w Q) :
    Rets Tryz.prog 166 #[toV x, pt b5, pt b6, pt b7, pt b8] w fun _ w' => Q w' := by
  unfold toV
  refine rets_of Tryz.func166 rfl Tryz.ntmps166 rfl rfl (by kernel_rfl) ?_
  (apply vC_seq; apply vC_region; (refine vL_val (opw_boxn rfl) ?_); apply vL_nil; apply seqP_normal; apply vC_region; (iterate 4 (((apply vL_val); (case h => ((apply opv_loadb1); exact rfl; exact rfl; infer_instance; exact rfl))))); ((apply vL_val); (case h => ((apply opv_add); exact rfl; exact rfl; (first | omega | (simp only [List.length_map]; omega))))); ((apply vL_val); (case h => ((apply opv_loadbC); exact rfl; exact rfl; infer_instance; exact (rfl : _ = [_, _, _]); exact rfl))))
  rw [show pos - 1 + 1 = pos by omega]
  refine vL_callF rfl (h _ (by (apply Fr.alloc; exact Fr.refl _ _))) rfl ?_
  intro _ w1 hq
  (apply vL_nil)
  (first | apply ret0 | apply ret0n)
  exact hq
/-- the boxes of a next -/
structure NxB (w : World) (wb tb nb b5 b6 b7 b8 : Nat) (prog pos : Int) : Prop where
  hn : Blk w.heap nb [.func (.func 166) #[] #[pt b5, pt b6, pt b7, pt b8]] 234
  h5 : Blk w.heap b5 [pt wb] 53
  h6 : Blk w.heap b6 [pt tb] 34
  h7 : Blk w.heap b7 [.int .i64 prog] 3
  h8 : Blk w.heap b8 [.int .i64 (pos - 1)] 3
  hb : -1000000000 ≤ pos ∧ pos ≤ 1000000000
theorem turn2_calls (n : NxB w wb tb nb b5 b6 b7 b8 prog pos) (h : TurnC wb tb prog pos ⟨0, 0, false⟩ w Q) : Rets Tryz.prog 169 #[pt nb] w fun _ w' => Q w' := by
  have hn := n.hn
  have hc := turn1_calls n.h5 n.h6 n.h7 n.h8 n.hb h
  unfold toV at hc
  refine rets_of Tryz.func169 rfl Tryz.ntmps169 rfl rfl (by kernel_rfl) ?_
  (apply vC_region; ((apply vL_val); (case h => ((apply opv_loadb1); exact rfl; exact rfl; assumption; exact rfl))); ((apply vL_val); (case h => ((apply opv_buildS); exact rfl; exact (rfl : _ = some [_, _, _])))))
  refine vL_callF rfl (hc) rfl ?_
  intro _ w1 hq
  (apply vL_nil)
  (first | apply ret0 | apply ret0n)
  exact hq
theorem turn3_calls {ok : Bool} (n : NxB w wb tb nb b5 b6 b7 b8 prog pos) (h : TurnC wb tb prog pos ⟨0, 0, ok⟩ w Q) : Rets Tryz.prog 170 #[.bool ok, pt nb] w fun _ w' => Q w' := by
  have hn := n.hn
  have hc := turn1_calls n.h5 n.h6 n.h7 n.h8 n.hb h
  unfold toV at hc
  refine rets_of Tryz.func170 rfl Tryz.ntmps170 rfl rfl (by kernel_rfl) ?_
  (apply vC_region; ((apply vL_val); (case h => ((apply opv_loadb1); exact rfl; exact rfl; assumption; exact rfl))); (refine vE rfl ?_); ((apply vL_val); (case h => ((apply opv_buildS); exact rfl; exact (rfl : _ = some [_, _, _])))))
  refine vL_callF rfl (hc) rfl ?_
  intro _ w1 hq
  (apply vL_nil)
  (first | apply ret0 | apply ret0n)
  exact hq
theorem turn4_calls {v : Int} {ok : Bool} (n : NxB w wb tb nb b5 b6 b7 b8 prog pos) (h : TurnC wb tb prog pos ⟨0, v, ok⟩ w Q) : Rets Tryz.prog 171 #[.int .i64 v, .bool ok, pt nb] w fun _ w' => Q w' := by
  have hn := n.hn
  have hc := turn1_calls n.h5 n.h6 n.h7 n.h8 n.hb h
  unfold toV at hc
  refine rets_of Tryz.func171 rfl Tryz.ntmps171 rfl rfl (by kernel_rfl) ?_
  (apply vC_region; ((apply vL_val); (case h => ((apply opv_loadb1); exact rfl; exact rfl; assumption; exact rfl))); (iterate 2 ((refine vE rfl ?_))); ((apply vL_val); (case h => ((apply opv_buildS); exact rfl; exact (rfl : _ = some [_, _, _])))))
  refine vL_callF rfl (hc) rfl ?_
  intro _ w1 hq
  (apply vL_nil)
  (first | apply ret0 | apply ret0n)
  exact hq
theorem turn5_calls {eb : Nat} {e : Int} (n : NxB w wb tb nb b5 b6 b7 b8 prog pos) (he : Blk w.heap eb [.int .i64 e] 29) (h : TurnC wb tb prog pos ⟨0, 0, decide (e = 0)⟩ w Q) : Rets Tryz.prog 172 #[pt nb, pt eb] w fun _ w' => Q w' := by
  have hn := n.hn
  have hc := turn1_calls n.h5 n.h6 n.h7 n.h8 n.hb h
  unfold toV at hc
  refine rets_of Tryz.func172 rfl Tryz.ntmps172 rfl rfl (by kernel_rfl) ?_
  (apply vC_region; (iterate 2 (((apply vL_val); (case h => ((apply opv_loadb1); exact rfl; exact rfl; assumption; exact rfl))))); (refine vE rfl ?_); ((apply vL_val); (case h => ((apply opv_buildS); exact rfl; exact (rfl : _ = some [_, _, _])))))
  refine vL_callF rfl (hc) rfl ?_
  intro _ w1 hq
  (apply vL_nil)
  (first | apply ret0 | apply ret0n)
  exact hq
theorem turn6_calls {ob : Nat} {ok : Bool} (n : NxB w wb tb nb b5 b6 b7 b8 prog pos) (he : Blk w.heap ob [.bool ok] 4) (h : TurnC wb tb prog pos ⟨0, 0, ok⟩ w Q) : Rets Tryz.prog 173 #[pt nb, pt ob] w fun _ w' => Q w' := by
  have hn := n.hn
  have hc := turn1_calls n.h5 n.h6 n.h7 n.h8 n.hb h
  unfold toV at hc
  refine rets_of Tryz.func173 rfl Tryz.ntmps173 rfl rfl (by kernel_rfl) ?_
  (apply vC_region; (iterate 2 (((apply vL_val); (case h => ((apply opv_loadb1); exact rfl; exact rfl; assumption; exact rfl))))); ((apply vL_val); (case h => ((apply opv_buildS); exact rfl; exact (rfl : _ = some [_, _, _])))))
  refine vL_callF rfl (hc) rfl ?_
  intro _ w1 hq
  (apply vL_nil)
  (first | apply ret0 | apply ret0n)
  exact hq
theorem turn7_calls {ob : Nat} {x : To} (n : NxB w wb tb nb b5 b6 b7 b8 prog pos) (he : Blk w.heap ob [.int .i64 x.c, .int .i64 x.v, .bool x.ok] 171) (h : TurnC wb tb prog pos x w Q) : Rets Tryz.prog 174 #[pt nb, pt ob] w fun _ w' => Q w' := by
  have hn := n.hn
  have hc := turn1_calls n.h5 n.h6 n.h7 n.h8 n.hb h
  unfold toV at hc
  refine rets_of Tryz.func174 rfl Tryz.ntmps174 rfl rfl (by kernel_rfl) ?_
  (apply vC_region; ((apply vL_val); (case h => ((apply opv_loadb1); exact rfl; exact rfl; assumption; exact rfl))); ((apply vL_val); (case h => ((apply opv_loadbC); exact rfl; exact rfl; assumption; exact (rfl : _ = [_, _, _]); exact rfl))))
  refine vL_callF rfl (hc) rfl ?_
  intro _ w1 hq
  (apply vL_nil)
  (first | apply ret0 | apply ret0n)
  exact hq
theorem begun1_calls {wx px : Nat} (hw : Blk w.heap wx [pt wb] 53) (hp : Blk w.heap px [.int .i64 prog] 3) (h : TurnC wb tb prog 0 ⟨0, 0, false⟩ w Q) : Rets Tryz.prog 107 #[pt tb, pt wx, pt px] w fun _ w' => Q w' := by
  have hc := h w (Fr.refl _ _)
  unfold toV at hc
  refine rets_of Tryz.func107 rfl Tryz.ntmps107 rfl rfl (by kernel_rfl) ?_
  (apply vC_region; ((apply vL_val); (case h => ((apply opv_loadb1); exact rfl; exact rfl; assumption; exact rfl))); (refine vE rfl ?_); ((apply vL_val); (case h => ((apply opv_loadb1); exact rfl; exact rfl; assumption; exact rfl))); ((apply vL_val); (case h => ((apply opv_buildS); exact rfl; exact (rfl : _ = some [_, _, _])))))
  refine vL_callF rfl (hc) rfl ?_
  intro _ w1 hq
  (apply vL_nil)
  (first | apply ret0 | apply ret0n)
  exact hq
end
end Go.Proofs.YtbaidcnalkdhgaaGreat
set_option maxRecDepth 100000
namespace Go.Proofs.YtbaidcnalkdhgaaGreat
open Go Go.Eng
section
variable {w w0 : World} {F0 : Nat → Prop} {R : Asr} {wb rb : Nat} {vp : Value} {cl tl : List Nat} {el : List Ev5} {bad : Bool}
theorem w_need [Lcl R] (S : At (WA wb rb vp cl tl el bad * R) w0 F0 w) : Rets Tryz.prog 167 #[pt wb, .int .i64 0] w fun _ w' => At (WA wb rb vp cl tl el bad * R) w0 F0 w' := by
  obtain ⟨cv, tv, ev, S1⟩ := wa_open S
  have hb := S1.blk
  have fin : ∀ w', At (Pt wb [pt rb, vp, cv, tv, ev, .bool bad] 61 * (Ow 28 1 ptE cv cl * (Ow 34 1 ptE tv tl * (Ow 100 5 ev5 ev el * R)))) w0 F0 w' → At (WA wb rb vp cl tl el bad * R) w0 F0 w' := fun w' h => wa_shut h
  refine rets_of Tryz.func167 rfl Tryz.ntmps167 rfl rfl (by kernel_rfl) ?_
  cases bad with
  | true =>
    (apply vC_region; (iterate 11 (first | (refine vE rfl ?_) | ((with_reducible apply vL_val); (case h => ((with_reducible apply opv_loadb1); exact rfl; exact rfl; assumption; exact rfl))) | (refine vL_val (opv_fieldAddr rfl) ?_) | ((with_reducible apply vL_unwanted'); exact rfl; exact rfl))); ((apply vL_skip); (case h => ((apply ops_store1); exact norm_eq rfl; exact norm_eq rfl; (first | rfl | assumption); assumption; (first | decide | exact of_decide_eq_true rfl | (simp; done))))); apply vL_nil)
    (first | apply ret0 | apply ret0n)
    exact fin _ S1.set
  | false =>
    (apply vC_region; (iterate 13 (first | (refine vE rfl ?_) | ((with_reducible apply vL_val); (case h => ((with_reducible apply opv_loadb1); exact rfl; exact rfl; assumption; exact rfl))) | (refine vL_val (opv_fieldAddr rfl) ?_) | ((with_reducible apply vL_wanted); exact rfl))); ((apply vL_skip); (case h => ((apply ops_store1); exact norm_eq rfl; exact norm_eq rfl; (first | rfl | assumption); assumption; (first | decide | exact of_decide_eq_true rfl | (simp; done))))); apply vL_nil)
    (first | apply ret0 | apply ret0n)
    exact fin _ S1.set
theorem w_needP [Lcl R] {cv tv ev : Value} (S1 : At (Pt wb [pt rb, vp, cv, tv, ev, .bool bad] 61 * R) w0 F0 w) (h1 : vp.oneCell' = true) : Rets Tryz.prog 167 #[pt wb, .int .i64 0] w fun _ w' => At (Pt wb [pt rb, vp, cv, tv, ev, .bool bad] 61 * R) w0 F0 w' := by
  have hb := S1.blk
  refine rets_of Tryz.func167 rfl Tryz.ntmps167 rfl rfl (by kernel_rfl) ?_
  cases bad with
  | true =>
    (apply vC_region; (iterate 11 (first | (refine vE rfl ?_) | ((with_reducible apply vL_val); (case h => ((with_reducible apply opv_loadb1); exact rfl; exact rfl; assumption; exact rfl))) | (refine vL_val (opv_fieldAddr rfl) ?_) | ((with_reducible apply vL_unwanted'); exact rfl; exact rfl))); ((apply vL_skip); (case h => ((apply ops_store1); exact norm_eq rfl; exact norm_eq rfl; (first | rfl | assumption); assumption; (first | decide | exact of_decide_eq_true rfl | (simp; done))))); apply vL_nil)
    (first | apply ret0 | apply ret0n)
    exact S1.set
  | false =>
    (apply vC_region; (iterate 13 (first | (refine vE rfl ?_) | ((with_reducible apply vL_val); (case h => ((with_reducible apply opv_loadb1); exact rfl; exact rfl; assumption; exact rfl))) | (refine vL_val (opv_fieldAddr rfl) ?_) | ((with_reducible apply vL_wanted); exact rfl))); ((apply vL_skip); (case h => ((apply ops_store1); exact norm_eq rfl; exact norm_eq rfl; (first | rfl | assumption); assumption; (first | decide | exact of_decide_eq_true rfl | (simp; done))))); apply vL_nil)
    (first | apply ret0 | apply ret0n)
    exact S1.set
end
end Go.Proofs.YtbaidcnalkdhgaaGreat
set_option maxRecDepth 100000
namespace Go.Proofs.YtbaidcnalkdhgaaGreat
open Go Go.Eng
structure Pz16 (h : Array Obj) (vp : Value) (P : List (OV × List Do5)) : Prop where
  hP : Rd h 1 oE vp P
  hPi : ∀ y ∈ P, Rd h 5 do5 y.1.1 y.2
  one : vp.oneCell' = true
theorem Pz16.frN {w w' : World} {vp : Value} {P : List (OV × List Do5)} (z : Pz16 w.heap vp P) (hf : Fr No w w') : Pz16 w'.heap vp P :=
  ⟨z.hP.frN hf, fun y hy => (z.hPi y hy).frN hf, z.one⟩
def k16 (tb prog pos : Nat) (x : To) : K16 := ⟨tb, prog, pos + 1, x⟩
def act16 (S : PS K16) (i tb prog pos : Nat) (d : Do5) : PS K16 :=
  if d.k = 1 then S.yield i (k16 tb prog pos ⟨0, 0, false⟩)
  else if d.k = 2 then S.send i d.c.toNat d.v (k16 tb prog pos ⟨0, 0, false⟩)
  else if d.k = 3 then S.recv i d.c.toNat (k16 tb prog pos ⟨0, 0, false⟩)
  else if d.k = 4 then (S.close d.c.toNat).1.yield i (k16 tb prog pos ⟨0, 0, (S.close d.c.toNat).2⟩)
  else if d.k = 6 then (S.trySend d.c.toNat d.v).1.yield i (k16 tb prog pos ⟨0, 0, (S.trySend d.c.toNat d.v).2.1⟩)
  else if d.k = 7 then (S.tryRecv d.c.toNat).1.yield i (k16 tb prog pos ⟨if (S.tryRecv d.c.toNat).2.2.2 then 0 else 1, (S.tryRecv d.c.toNat).2.1, (S.tryRecv d.c.toNat).2.2.1⟩)
  else S
section
variable {κ : Type} {S : PS κ} {i : Nat} {s : St κ}
theorem allR_keep (l : List Nat) : ∀ {S : PS κ}, S.sts[i]? = some s → s.waits = false → (S.allR l).sts[i]? = some s ∧ (S.allR l).tbs = S.tbs := by
  induction l with
  | nil => exact fun h _ => ⟨h, rfl⟩
  | cons m r ih =>
    intro S h hw
    obtain ⟨h1, h2⟩ := ih (S := S.wokeR m 0 false) (wokeR_keep h hw) hw
    exact ⟨h1, h2.trans (wokeR_tbs _ _ _ _)⟩
theorem allS_keep (l : List Nat) : ∀ {S : PS κ}, S.sts[i]? = some s → s.waits = false → (S.allS l).sts[i]? = some s ∧ (S.allS l).tbs = S.tbs := by
  induction l with
  | nil => exact fun h _ => ⟨h, rfl⟩
  | cons m r ih =>
    intro S h hw
    obtain ⟨h1, h2⟩ := ih (S := S.wokeS m false) (wokeS_keep h hw) hw
    exact ⟨h1, h2.trans (wokeS_tbs _ _ _)⟩
theorem close_keep (j : Nat) (h : S.sts[i]? = some s) (hw : s.waits = false) : (S.close j).1.sts[i]? = some s ∧ (S.close j).1.tbs = S.tbs := by
  unfold PS.close
  split
  · exact ⟨h, rfl⟩
  · rename_i d hd
    split
    · exact ⟨h, rfl⟩
    · unfold PS.ends
      obtain ⟨h1, h2⟩ := allR_keep (i := i) (s := s) d.rcv (S := S.setC j { d with closed := true, snd := [], rcv := [] }) h hw
      obtain ⟨h3, h4⟩ := allS_keep (i := i) (s := s) d.snd h1 hw
      exact ⟨h3, h4.trans h2⟩
end
theorem trySend_can {κ : Type} (S : PS κ) (j : Nat) (v : Int) (h : (S.trySend j v).2.1 = true) : (S.trySend j v).2.2 = true := by
  unfold PS.trySend at h ⊢
  split
  · rename_i hd; simp only [hd] at h; cases h
  · rename_i d hd
    simp only [hd] at h
    split
    · rfl
    · rename_i hc
      rw [if_neg hc] at h
      split
      · rfl
      · rename_i hr
        rw [hr] at h
        simp only [] at h
        split
        · rename_i hb; rw [if_pos hb] at h; cases h
        · rfl
theorem pw_boxes {κ : Type} {L : LawP κ} {rb : Nat} {nowi : Option Nat} {rest : Int} {S : PS κ} {w0 w : World} {F0 : Nat → Prop} : ∀ (l : List Bx) {kb : List Bx} {R : Asr}, At (Bxl l * (PWA L rb nowi rest kb S * R)) w0 F0 w → At (PWA L rb nowi rest (l ++ kb) S * R) w0 F0 w
  | [], kb, R, h => h.ac (by rw [show Bxl [] = Emp from rfl, emp_star]; rfl)
  | (b, cs, T) :: l, kb, R, h => by
    have h1 := pw_boxes l (kb := kb) (R := Pt b cs T * R) (h.ac (by rw [bxl_cons]; ac_rfl))
    exact pw_box (h1.ac (by ac_rfl))
section
variable {w w0 : World} {R : Asr} {wb rb tb i : Nat} {rest : Int} {kb : List Bx} {S : PS K16} {vp : Value} {tl : List Nat} {el : List Ev5}
theorem pw_tb {κ : Type} {L : LawP κ} {S : PS κ} {w0 w : World} {F0 : Nat → Prop} {nowi : Option Nat} [Lcl R] (S1 : At (PWA L rb nowi rest kb S * R) w0 F0 w) (ht : S.tbs[i]? = some tb) : ∃ x, Blk w.heap tb (tkL rb i x) 162 := by
  obtain ⟨q, hp, S2⟩ := pw_open S1
  rw [hp.tbs, List.getElem?_map] at ht
  cases hx : q.ts[i]? with
  | none => rw [hx] at ht; cases ht
  | some x =>
    rw [hx] at ht
    cases ht
    exact ⟨x.2, S2.task hx⟩
theorem w_turn [Lcl R] {P : List (OV × List Do5)} (z : Pz16 w0.heap vp P) (hP6 : P.length ≤ 6) (S1 : At (PWA (L16 wb) rb (some i) rest kb S * (WA wb rb vp (S.cs.map (·.cb)) tl el false * R)) w0 No w) (hi : S.sts[i]? = some .run) (ht : S.tbs[i]? = some tb) {prog pos : Nat} {d : OV × List Do5} (hd : P[prog]? = some d) (x : To)
    (hdo : ∀ y ∈ d.2, 0 ≤ y.c ∧ y.c < S.cs.length) (hev : el.length ≤ 100000) (hpos : pos ≤ 100000) :
    Rets Tryz.prog 108 #[pt wb, pt tb, .int .i64 prog, .int .i64 pos, toV x] w fun _ w' => ∃ kb', (∀ b ∈ kb, b ∈ kb') ∧ At (PWA (L16 wb) rb (some i) rest kb' (act16 S i tb prog pos ((d.2[pos]?).getD do0)) * (WA wb rb vp (S.cs.map (·.cb)) tl (el ++ [⟨i, pos, x.c, x.v, x.ok⟩]) false * R)) w0 No w' := by
  unfold toV
  refine rets_of Tryz.func108 rfl Tryz.ntmps108 rfl rfl (by kernel_rfl) ?_
  ((apply vC_seq; apply vC_region)); (((iterate 4 (((apply vL_val); (case h => ((apply opw_box1); exact norm_eq rfl; (first | rfl | assumption)))))); (refine vL_val (opw_boxn rfl) ?_); apply vL_nil)); with_reducible apply seqP_normal
  ((apply vC_seq))
  refine vC_gen (fun w' => At (Pt ((((w.alloc (.cells #[pt wb] 53)).alloc (.cells #[pt tb] 34)).alloc (.cells #[.int .i64 prog] 3)).alloc (.cells #[.int .i64 pos] 3)).heap.size [.int .i64 x.c, .int .i64 x.v, .bool x.ok] 171 * (Pt (((w.alloc (.cells #[pt wb] 53)).alloc (.cells #[pt tb] 34)).alloc (.cells #[.int .i64 prog] 3)).heap.size [.int .i64 pos] 3 * (Pt ((w.alloc (.cells #[pt wb] 53)).alloc (.cells #[pt tb] 34)).heap.size [.int .i64 prog] 3 * (Pt (w.alloc (.cells #[pt wb] 53)).heap.size [pt tb] 34 * (Pt w.heap.size [pt wb] 53 * (PWA (L16 wb) rb (some i) rest kb S * (WA wb rb vp (S.cs.map (·.cb)) tl el false * R))))))) w0 No w') S1.alloc.alloc.alloc.alloc.alloc ?_
  intro w1 S2
  generalize ((((w.alloc (.cells #[pt wb] 53)).alloc (.cells #[pt tb] 34)).alloc (.cells #[.int .i64 prog] 3)).alloc (.cells #[.int .i64 pos] 3)).heap.size = b9 at S2 ⊢
  generalize (((w.alloc (.cells #[pt wb] 53)).alloc (.cells #[pt tb] 34)).alloc (.cells #[.int .i64 prog] 3)).heap.size = b8 at S2 ⊢
  generalize ((w.alloc (.cells #[pt wb] 53)).alloc (.cells #[pt tb] 34)).heap.size = b7 at S2 ⊢
  generalize (w.alloc (.cells #[pt wb] 53)).heap.size = b6 at S2 ⊢
  generalize w.heap.size = b5 at S2 ⊢
  have S3 := pw_boxes (L := L16 wb) (rb := rb) (nowi := some i) (rest := rest) (S := S) (kb := kb) (R := WA wb rb vp (S.cs.map (·.cb)) tl el false * R) [(b9, [.int .i64 x.c, .int .i64 x.v, .bool x.ok], 171), (b8, [.int .i64 pos], 3), (b7, [.int .i64 prog], 3), (b6, [pt tb], 34), (b5, [pt wb], 53)] (S2.ac (by
    rw [bxl_cons, bxl_cons, bxl_cons, bxl_cons, bxl_cons, show Bxl [] = Emp from rfl, star_emp]
    ac_rfl))
  clear S2 S1
  generalize hk0 : ([(b9, [.int .i64 x.c, .int .i64 x.v, .bool x.ok], 171), (b8, [.int .i64 pos], 3), (b7, [.int .i64 prog], 3), (b6, [pt tb], 34), (b5, [pt wb], 53)] ++ kb : List Bx) = k1 at S3
  have hkk : ∀ b ∈ kb, b ∈ k1 := fun b hb => by rw [← hk0]; exact List.mem_append_right _ hb
  have m9 : (b9, [.int .i64 x.c, .int .i64 x.v, .bool x.ok], 171) ∈ k1 := by rw [← hk0]; simp
  have m8 : (b8, [.int .i64 pos], 3) ∈ k1 := by rw [← hk0]; simp
  have m7 : (b7, [.int .i64 prog], 3) ∈ k1 := by rw [← hk0]; simp
  have m6 : (b6, [pt tb], 34) ∈ k1 := by rw [← hk0]; simp
  have m5 : (b5, [pt wb], 53) ∈ k1 := by rw [← hk0]; simp
  clear hk0
  obtain ⟨cv, tv, ev, S4⟩ := wa_open (S3.ac (show _ = WA wb rb vp (S.cs.map (·.cb)) tl el false * (PWA (L16 wb) rb (some i) rest k1 S * R) by ac_rfl))
  have e9 := pw_bx S3 m9
  have e8 := pw_bx S3 m8
  have e7 := pw_bx S3 m7
  have e6 := pw_bx S3 m6
  have e5 := pw_bx S3 m5
  have hwb := S4.blk
  obtain ⟨tkx, hid⟩ := pw_tb S3 ht
  have evf := (S4.ac (show _ = Ow 100 5 ev5 ev el * (Pt wb [pt rb, vp, cv, tv, ev, .bool false] 61 * (Ow 28 1 ptE cv (S.cs.map (·.cb)) * (Ow 34 1 ptE tv tl * (PWA (L16 wb) rb (some i) rest k1 S * R)))) by ac_rfl)).own
  generalize hX : (⟨i, pos, x.c, x.v, x.ok⟩ : Ev5) = nw
  have S5 := S4.ac (show _ = Ow 100 5 ev5 ev el * (Pt wb [pt rb, vp, cv, tv, ev, .bool false] 61 * (Ow 28 1 ptE cv (S.cs.map (·.cb)) * (Ow 34 1 ptE tv tl * (PWA (L16 wb) rb (some i) rest k1 S * R)))) by ac_rfl)
  refine vC_meet0 274877382656 (fun w' => ∃ ev', At (Ow 100 5 ev5 ev' (el ++ [nw]) * (Pt wb [pt rb, vp, cv, tv, ev', .bool false] 61 * (Ow 28 1 ptE cv (S.cs.map (·.cb)) * (Ow 34 1 ptE tv tl * (PWA (L16 wb) rb (some i) rest k1 S * R))))) w0 No w') ?_ ?_
  · refine vC_draw' ((fun wf => Blk wf.heap b5 [pt wb] 53 ∧ Blk wf.heap b6 [pt tb] 34 ∧ Blk wf.heap b8 [.int .i64 pos] 3 ∧ Blk wf.heap b9 [.int .i64 x.c, .int .i64 x.v, .bool x.ok] 171 ∧ Blk wf.heap tb (tkL rb i tkx) 162)) (by refine ⟨?_, ?_, ?_, ?_, ?_⟩ <;> first | assumption | infer_instance) ?_
    (refine tk 0 rfl (by kernel_rfl) (by refine ⟨?_, ?_, ?_, ?_, ?_⟩ <;> first | assumption | infer_instance) (by rintro wf ⟨hwa, hwb, hwc, hwd, hwe⟩; (((apply opv_loadb1); exact rfl; exact rfl; assumption; exact rfl))) ?_)
    (refine tk 1 rfl (by kernel_rfl) (by refine ⟨?_, ?_, ?_, ?_, ?_⟩ <;> first | assumption | infer_instance) (by rintro wf ⟨hwa, hwb, hwc, hwd, hwe⟩; (((apply opv_loadb1); exact rfl; exact rfl; assumption; exact rfl))) ?_)
    (refine tkE 2 rfl (by kernel_rfl) (by refine ⟨?_, ?_, ?_, ?_, ?_⟩ <;> first | assumption | infer_instance) rfl ?_)
    (refine tk 3 rfl (by kernel_rfl) (by refine ⟨?_, ?_, ?_, ?_, ?_⟩ <;> first | assumption | infer_instance) (by rintro wf ⟨hwa, hwb, hwc, hwd, hwe⟩; (((apply opv_fieldAddr); exact rfl))) ?_)
    (refine tk 5 rfl (by kernel_rfl) (by refine ⟨?_, ?_, ?_, ?_, ?_⟩ <;> first | assumption | infer_instance) (by rintro wf ⟨hwa, hwb, hwc, hwd, hwe⟩; (((apply opv_loadb1); exact rfl; exact rfl; assumption; exact rfl))) ?_)
    (refine tkp 6 rfl (by kernel_rfl) (by refine ⟨?_, ?_, ?_, ?_, ?_⟩ <;> first | assumption | infer_instance) rfl (fun wf hwf => (by obtain ⟨hwa, hwb, hwc, hwd, hwe⟩ := hwf; exact (t_id hwe))) rfl ?_)
    (refine tk 7 rfl (by kernel_rfl) (by refine ⟨?_, ?_, ?_, ?_, ?_⟩ <;> first | assumption | infer_instance) (by rintro wf ⟨hwa, hwb, hwc, hwd, hwe⟩; (((apply opv_loadb1); exact rfl; exact rfl; assumption; exact rfl))) ?_)
    (refine tk 8 rfl (by kernel_rfl) (by refine ⟨?_, ?_, ?_, ?_, ?_⟩ <;> first | assumption | infer_instance) (by rintro wf ⟨hwa, hwb, hwc, hwd, hwe⟩; (((apply opv_fieldAddr); exact rfl))) ?_)
    (refine tk 9 rfl (by kernel_rfl) (by refine ⟨?_, ?_, ?_, ?_, ?_⟩ <;> first | assumption | infer_instance) (by rintro wf ⟨hwa, hwb, hwc, hwd, hwe⟩; (((apply opv_loadb1); exact rfl; exact rfl; assumption; exact rfl))) ?_)
    (refine tk 10 rfl (by kernel_rfl) (by refine ⟨?_, ?_, ?_, ?_, ?_⟩ <;> first | assumption | infer_instance) (by rintro wf ⟨hwa, hwb, hwc, hwd, hwe⟩; (((apply opv_fieldAddr); exact rfl))) ?_)
    (refine tk 11 rfl (by kernel_rfl) (by refine ⟨?_, ?_, ?_, ?_, ?_⟩ <;> first | assumption | infer_instance) (by rintro wf ⟨hwa, hwb, hwc, hwd, hwe⟩; (((apply opv_loadb1); exact rfl; exact rfl; assumption; exact rfl))) ?_)
    (refine tk 12 rfl (by kernel_rfl) (by refine ⟨?_, ?_, ?_, ?_, ?_⟩ <;> first | assumption | infer_instance) (by rintro wf ⟨hwa, hwb, hwc, hwd, hwe⟩; (((apply opv_fieldAddr); exact rfl))) ?_)
    (refine tk 13 rfl (by kernel_rfl) (by refine ⟨?_, ?_, ?_, ?_, ?_⟩ <;> first | assumption | infer_instance) (by rintro wf ⟨hwa, hwb, hwc, hwd, hwe⟩; (((apply opv_loadb1); exact rfl; exact rfl; assumption; exact rfl))) ?_)
    (refine tk 14 rfl (by kernel_rfl) (by refine ⟨?_, ?_, ?_, ?_, ?_⟩ <;> first | assumption | infer_instance) (by rintro wf ⟨hwa, hwb, hwc, hwd, hwe⟩; (((apply opv_buildS); exact rfl; exact (rfl : _ = some [_, _, _, _, _])))) ?_)
    refine vA_two 4 15 rfl rfl (by kernel_rfl) (by refine ⟨?_, ?_, ?_, ?_, ?_⟩ <;> first | assumption | infer_instance) (fun K hK => ?_) (fun K hK => ?_)
    · (((apply vL_val); (case h => ((apply opv_loadb1); exact rfl; exact rfl; assumption; exact rfl))); apply vL_nil)
      refine ⟨rfl, hK _ _ ?_⟩
      refine vA_only 15 rfl (by kernel_rfl) (by refine ⟨?_, ?_, ?_, ?_, ?_⟩ <;> first | assumption | infer_instance) (fun K hK => ?_)
      (((apply vL_val); (case h => ((apply opw_buildSl); exact rfl; exact rfl; exact rfl; exact (rfl : _ = some [_, _, _, _, _])))); apply vL_nil)
      refine ⟨rfl, hK _ _ ?_⟩
      refine vA_only 16 rfl (by kernel_rfl) (by refine ⟨?_, ?_, ?_, ?_, ?_⟩ <;> first | assumption | infer_instance) (fun K hK => ?_)
      refine vL_append (enc := ev5) (xs := el) (ys := [nw]) (T := 100) (sz := 5) (by (((conv => lhs; whnf) <;> exact rfl))) (by (exact norm_eq rfl)) (Own.alloc (evf.1.frN ((Fr.refl No _).drew))) (by rw [← hX]; exact Rd.new1 _ _ rfl) rfl (by decide) ?_ ?_ ?_
      · simp [maxLen]; omega
      · simp; omega
      intro ev' w7 ho7 hf7 hfr7 hone7 _
      have hfa : Fr (fun j => own ev = some j) w1 w7 := (((Fr.refl _ w1).drew).alloc _).trans' hf7 (fun i hi => .inl hi)
      have S6 := S5.owTo hfa ho7 hone7 (fun k hk => (hfr7 k hk).imp id (fun h => by rw [alloc_size] at h; exact Nat.le_trans (Nat.le_succ _) h))
      have S7 := S6.ac (show _ = PWA (L16 wb) rb (some i) rest k1 S * (Ow 100 5 ev5 ev' (el ++ [nw]) * (Pt wb [pt rb, vp, cv, tv, ev, .bool false] 61 * (Ow 28 1 ptE cv (S.cs.map (·.cb)) * (Ow 34 1 ptE tv tl * R)))) by ac_rfl)
      have e95 := pw_bx S7 m9
      have e85 := pw_bx S7 m8
      have e65 := pw_bx S7 m6
      have e55 := pw_bx S7 m5
      have hid5 := hid.fr hfa (fun h => Own.ne_blk evf.1 hid (by decide) h)
      have hwb5 := S6.swap.ac (star_assoc _ _ _) |>.blk
      refine vL_nil ⟨rfl, hK _ _ ?_⟩
      (refine tkE 17 rfl (by kernel_rfl) (by refine ⟨?_, ?_, ?_, ?_, ?_⟩ <;> first | assumption | infer_instance) rfl ?_)
      (refine tk 18 rfl (by kernel_rfl) (by refine ⟨?_, ?_, ?_, ?_, ?_⟩ <;> first | assumption | infer_instance) (by rintro wf ⟨hwa, hwb, hwc, hwd, hwe⟩; (((apply opv_fieldAddr); exact rfl))) ?_)
      refine vA_only 19 rfl (by kernel_rfl) (by refine ⟨?_, ?_, ?_, ?_, ?_⟩ <;> first | assumption | infer_instance) (fun K hK => ?_)
      (((apply vL_skip); (case h => ((apply ops_store1); exact norm_eq rfl; ((conv => lhs; whnf) <;> exact rfl); (first | rfl | assumption); assumption; (first | decide | exact of_decide_eq_true rfl | (simp; done))))); apply vL_nil)
      refine ⟨rfl, hK _ _ ?_⟩
      have S8 := ((S6.ac (show _ = Pt wb [pt rb, vp, cv, tv, ev, .bool false] 61 * (Ow 100 5 ev5 ev' (el ++ [nw]) * (Ow 28 1 ptE cv (S.cs.map (·.cb)) * (Ow 34 1 ptE tv tl * (PWA (L16 wb) rb (some i) rest k1 S * R)))) by ac_rfl)).set (cs' := [pt rb, vp, cv, tv, ev', .bool false]))
      have S9 := S8.ac (show _ = PWA (L16 wb) rb (some i) rest k1 S * (Ow 100 5 ev5 ev' (el ++ [nw]) * (Pt wb [pt rb, vp, cv, tv, ev', .bool false] 61 * (Ow 28 1 ptE cv (S.cs.map (·.cb)) * (Ow 34 1 ptE tv tl * R)))) by ac_rfl)
      have e96 := pw_bx S9 m9
      have e86 := pw_bx S9 m8
      have e66 := pw_bx S9 m6
      have e56 := pw_bx S9 m5
      have hid6 := hid5.fr (F := fun k => k = wb) ((Fr.refl _ w7).set wb ([pt rb, vp, cv, tv, ev', .bool false] : List Value).toArray (.inl rfl)) (Blk.ne_type hid5 hwb5 (by decide))
      refine vA_done (by kernel_rfl) (by refine ⟨?_, ?_, ?_, ?_, ?_⟩ <;> first | assumption | infer_instance) ?_
      refine ⟨rfl, by ((apply same_updN; (iterate 19 (((refine same_updO ?_ ?_); rotate_left; exact rfl)))); exact fun _ _ => rfl), ev', S8.ac (by ac_rfl)⟩
    · (((apply vL_val); (case h => ((apply opw_buildSl); exact rfl; exact rfl; exact rfl; exact (rfl : _ = some [_, _, _, _, _])))); apply vL_nil)
      refine ⟨rfl, hK _ _ ?_⟩
      refine vA_only 4 rfl (by kernel_rfl) (by refine ⟨?_, ?_, ?_, ?_, ?_⟩ <;> first | assumption | infer_instance) (fun K hK => ?_)
      (((apply vL_val); (case h => ((apply opv_loadb1); exact rfl; exact rfl; infer_instance; exact rfl))); apply vL_nil)
      refine ⟨rfl, hK _ _ ?_⟩
      refine vA_only 16 rfl (by kernel_rfl) (by refine ⟨?_, ?_, ?_, ?_, ?_⟩ <;> first | assumption | infer_instance) (fun K hK => ?_)
      refine vL_append (enc := ev5) (xs := el) (ys := [nw]) (T := 100) (sz := 5) (by (((conv => lhs; whnf) <;> exact rfl))) (by (exact norm_eq rfl)) (Own.alloc (evf.1.frN ((Fr.refl No _).drew))) (by rw [← hX]; exact Rd.new1 _ _ rfl) rfl (by decide) ?_ ?_ ?_
      · simp [maxLen]; omega
      · simp; omega
      intro ev' w7 ho7 hf7 hfr7 hone7 _
      have hfa : Fr (fun j => own ev = some j) w1 w7 := (((Fr.refl _ w1).drew).alloc _).trans' hf7 (fun i hi => .inl hi)
      have S6 := S5.owTo hfa ho7 hone7 (fun k hk => (hfr7 k hk).imp id (fun h => by rw [alloc_size] at h; exact Nat.le_trans (Nat.le_succ _) h))
      have S7 := S6.ac (show _ = PWA (L16 wb) rb (some i) rest k1 S * (Ow 100 5 ev5 ev' (el ++ [nw]) * (Pt wb [pt rb, vp, cv, tv, ev, .bool false] 61 * (Ow 28 1 ptE cv (S.cs.map (·.cb)) * (Ow 34 1 ptE tv tl * R)))) by ac_rfl)
      have e95 := pw_bx S7 m9
      have e85 := pw_bx S7 m8
      have e65 := pw_bx S7 m6
      have e55 := pw_bx S7 m5
      have hid5 := hid.fr hfa (fun h => Own.ne_blk evf.1 hid (by decide) h)
      have hwb5 := S6.swap.ac (star_assoc _ _ _) |>.blk
      refine vL_nil ⟨rfl, hK _ _ ?_⟩
      (refine tkE 17 rfl (by kernel_rfl) (by refine ⟨?_, ?_, ?_, ?_, ?_⟩ <;> first | assumption | infer_instance) rfl ?_)
      (refine tk 18 rfl (by kernel_rfl) (by refine ⟨?_, ?_, ?_, ?_, ?_⟩ <;> first | assumption | infer_instance) (by rintro wf ⟨hwa, hwb, hwc, hwd, hwe⟩; (((apply opv_fieldAddr); exact rfl))) ?_)
      refine vA_only 19 rfl (by kernel_rfl) (by refine ⟨?_, ?_, ?_, ?_, ?_⟩ <;> first | assumption | infer_instance) (fun K hK => ?_)
      (((apply vL_skip); (case h => ((apply ops_store1); exact norm_eq rfl; ((conv => lhs; whnf) <;> exact rfl); (first | rfl | assumption); assumption; (first | decide | exact of_decide_eq_true rfl | (simp; done))))); apply vL_nil)
      refine ⟨rfl, hK _ _ ?_⟩
      have S8 := ((S6.ac (show _ = Pt wb [pt rb, vp, cv, tv, ev, .bool false] 61 * (Ow 100 5 ev5 ev' (el ++ [nw]) * (Ow 28 1 ptE cv (S.cs.map (·.cb)) * (Ow 34 1 ptE tv tl * (PWA (L16 wb) rb (some i) rest k1 S * R)))) by ac_rfl)).set (cs' := [pt rb, vp, cv, tv, ev', .bool false]))
      have S9 := S8.ac (show _ = PWA (L16 wb) rb (some i) rest k1 S * (Ow 100 5 ev5 ev' (el ++ [nw]) * (Pt wb [pt rb, vp, cv, tv, ev', .bool false] 61 * (Ow 28 1 ptE cv (S.cs.map (·.cb)) * (Ow 34 1 ptE tv tl * R)))) by ac_rfl)
      have e96 := pw_bx S9 m9
      have e86 := pw_bx S9 m8
      have e66 := pw_bx S9 m6
      have e56 := pw_bx S9 m5
      have hid6 := hid5.fr (F := fun k => k = wb) ((Fr.refl _ w7).set wb ([pt rb, vp, cv, tv, ev', .bool false] : List Value).toArray (.inl rfl)) (Blk.ne_type hid5 hwb5 (by decide))
      refine vA_done (by kernel_rfl) (by refine ⟨?_, ?_, ?_, ?_, ?_⟩ <;> first | assumption | infer_instance) ?_
      refine ⟨rfl, by ((apply same_updN; (iterate 19 (((refine same_updO ?_ ?_); rotate_left; exact rfl)))); exact fun _ _ => rfl), ev', S8.ac (by ac_rfl)⟩
  rintro junk1 w2 ⟨ev', S6⟩
  clear S5 S4 S3 e9 e8 e7 e6 e5 hwb hid evf
  have S7 := S6.ac (show _ = PWA (L16 wb) rb (some i) rest k1 S * (Pt wb [pt rb, vp, cv, tv, ev', .bool false] 61 * (Ow 28 1 ptE cv (S.cs.map (·.cb)) * (Ow 34 1 ptE tv tl * (Ow 100 5 ev5 ev' (el ++ [nw]) * R)))) by ac_rfl)
  clear S6
  obtain ⟨R1, hR1⟩ : ∃ R1, R1 = Pt wb [pt rb, vp, cv, tv, ev', .bool false] 61 * (Ow 28 1 ptE cv (S.cs.map (·.cb)) * (Ow 34 1 ptE tv tl * (Ow 100 5 ev5 ev' (el ++ [nw]) * R))) := ⟨_, rfl⟩
  rw [← hR1] at S7
  haveI hRl : Lcl R1 := by rw [hR1]; infer_instance
  have see : ∀ {kb : List Bx} {T : PS K16} {w : World}, At (PWA (L16 wb) rb (some i) rest kb T * R1) w0 No w → Blk w.heap wb [pt rb, vp, cv, tv, ev', .bool false] 61 ∧ Own w.heap 28 1 ptE cv (S.cs.map (·.cb)) ∧ cv.oneCell' = true := fun {kb T w} h => by
    rw [hR1] at h
    have h1 := h.ac (show _ = Pt wb [pt rb, vp, cv, tv, ev', .bool false] 61 * (Ow 28 1 ptE cv (S.cs.map (·.cb)) * (Ow 34 1 ptE tv tl * (Ow 100 5 ev5 ev' (el ++ [nw]) * (PWA (L16 wb) rb (some i) rest kb T * R)))) by ac_rfl)
    exact ⟨h1.blk, (h1.ac (show _ = Ow 28 1 ptE cv (S.cs.map (·.cb)) * (Pt wb [pt rb, vp, cv, tv, ev', .bool false] 61 * (Ow 34 1 ptE tv tl * (Ow 100 5 ev5 ev' (el ++ [nw]) * (PWA (L16 wb) rb (some i) rest kb T * R)))) by ac_rfl)).own⟩
  have shut : ∀ {kb : List Bx} {T : PS K16} {w : World}, At (PWA (L16 wb) rb (some i) rest kb T * R1) w0 No w → At (WA wb rb vp (S.cs.map (·.cb)) tl (el ++ [nw]) false * (PWA (L16 wb) rb (some i) rest kb T * R)) w0 No w := fun {kb T w} h => by
    rw [hR1] at h
    exact wa_shut (h.ac (show _ = Pt wb [pt rb, vp, cv, tv, ev', .bool false] 61 * (Ow 28 1 ptE cv (S.cs.map (·.cb)) * (Ow 34 1 ptE tv tl * (Ow 100 5 ev5 ev' (el ++ [nw]) * (PWA (L16 wb) rb (some i) rest kb T * R)))) by ac_rfl))
  (apply seqP_normal; apply vC_seq; apply vC_region; ((apply vL_val); (case h => ((apply opv_buildS); exact rfl; exact (rfl : _ = some [_, _, _, _, _])))); ((apply vL_val); (case h => (apply opw_alloc))); ((apply vL_skip); (case h => ((apply ops_storen); exact norm_eq rfl; exact norm_eq rfl; exact rfl; (intro u hu; simp at hu; rcases hu with rfl | rfl | rfl <;> (first | rfl | assumption)); infer_instance; (first | decide | exact of_decide_eq_true rfl | (simp; done))))); apply vL_nil; apply seqP_normal; (iterate 2 (apply vC_seq)))
  refine vC_gen (fun w' => Fr No w2 w' ∧ w2.heap.size < w'.heap.size ∧ Blk w'.heap w2.heap.size (do5 do0) 167) ⟨by (apply Fr.allocSet; exact Fr.refl _ _), by simp, Blk.as inferInstance rfl⟩ ?_
  rintro w3 ⟨hf3, hlt3, bd3⟩
  have hP3 := (z.frN (S7.fr.trans hf3)).hP
  have hPd3 := (z.frN (S7.fr.trans hf3)).hPi d (List.mem_of_getElem? hd)
  have hd' : P[((prog : Nat) : Int).toNat]? = some d := by rw [Int.toNat_natCast]; exact hd
  have hdone := d.1.2
  have hPs := hP3.small
  have hPds := hPd3.small
  have hprog := (List.getElem?_eq_some_iff.1 hd).1
  have hw3 := (see S7).1.frN hf3
  have e53 := (pw_bx S7 m5).frN hf3
  have e73 := (pw_bx S7 m7).frN hf3
  have e83 := (pw_bx S7 m8).frN hf3
  have o1 := z.one
  (with_reducible apply vC_drawQ); ((iterate 10 (first | ((with_reducible apply vQ_op); (case hi => exact rfl); (case hf => kernel_rfl); (case hS => exact Dr.refl _); (case hy => (intro j; ((with_reducible apply opv_E); exact rfl)))) | ((with_reducible apply vQ_op); (case hi => exact rfl); (case hf => kernel_rfl); (case hS => exact Dr.refl _); (case hy => (intro j; ((with_reducible apply opv_loadb1); exact rfl; exact rfl; assumption; exact rfl)))) | ((with_reducible apply vQ_op); (case hi => exact rfl); (case hf => kernel_rfl); (case hS => exact Dr.refl _); (case hy => (intro j; ((with_reducible apply opv_fieldAddr); exact rfl)))) | ((with_reducible apply vQ_op); (case hi => exact rfl); (case hf => kernel_rfl); (case hS => exact Dr.refl _); (case hy => (intro j; ((with_reducible apply opv_indexAddr); ((conv => lhs; whnf) <;> exact rfl); exact rfl; assumption; (first | omega | (simp only [List.length_map]; omega)); (first | omega | (simp only [List.length_map]; omega)))))) | ((with_reducible apply vQ_op); (case hi => exact rfl); (case hf => kernel_rfl); (case hS => exact Dr.refl _); (case hy => (intro j; ((with_reducible apply opv_ld_el); exact rfl; exact rfl; assumption; assumption; exact rfl)))) | ((with_reducible apply vQ_op); (case hi => exact rfl); (case hf => kernel_rfl); (case hS => exact Dr.refl _); (case hy => (intro j; ((with_reducible apply opv_len); ((conv => lhs; whnf) <;> exact rfl); assumption)))))); ((apply vQ_end); (case hi => exact rfl); (case hf => kernel_rfl); (case hS => exact Dr.refl _)))
  with_reducible apply seqP_normal
  generalize hdd : (d.2[pos]?).getD do0 = dd
  refine vC_meet0 575897802350002176 (fun w' => Fr No w2 w' ∧ w2.heap.size < w'.heap.size ∧ Blk w'.heap w2.heap.size (do5 dd) 167) ?_ ?_
  · by_cases hpl : pos < d.2.length
    · obtain ⟨q, hq⟩ : ∃ q, d.2[pos]? = some q := ⟨d.2[pos], by simp [hpl]⟩
      have hq' : d.2[((pos : Nat) : Int).toNat]? = some q := by rw [Int.toNat_natCast]; exact hq
      have hdq : dd = q := by rw [← hdd, hq]; rfl
      refine vC_condT rfl (decide_eq_true (by omega)) ?_
      have e5q := pw_bx S7 m5
      have e7q := pw_bx S7 m7
      have e8q := pw_bx S7 m8
      have hwq := (see S7).1
      have hPq := (z.frN S7.fr).hP
      have hPdq := (z.frN S7.fr).hPi d (List.mem_of_getElem? hd)
      have hq2 := q.cs.2
      refine vC_draw' (fun wf => Fr No w2 wf) hf3.drew.drew ?_
      (refine tk 0 rfl (by kernel_rfl) (by (iterate 2 (apply Fr.drew)); assumption) (by intro wf hwf; haveI := From.mk hwf; (((apply opv_loadb1); exact rfl; exact rfl; infer_instance; exact rfl))) ?_)
      (refine tkE 1 rfl (by kernel_rfl) (by (iterate 2 (apply Fr.drew)); assumption) rfl ?_)
      (refine tk 2 rfl (by kernel_rfl) (by (iterate 2 (apply Fr.drew)); assumption) (by intro wf hwf; haveI := From.mk hwf; (((apply opv_fieldAddr); exact rfl))) ?_)
      (refine tk 3 rfl (by kernel_rfl) (by (iterate 2 (apply Fr.drew)); assumption) (by intro wf hwf; haveI := From.mk hwf; (((apply opv_loadb1); exact rfl; exact rfl; infer_instance; exact rfl))) ?_)
      (refine tk 4 rfl (by kernel_rfl) (by (iterate 2 (apply Fr.drew)); assumption) (by intro wf hwf; haveI := From.mk hwf; (((apply opv_loadb1); exact rfl; exact rfl; infer_instance; exact rfl))) ?_)
      (refine tk 5 rfl (by kernel_rfl) (by (iterate 2 (apply Fr.drew)); assumption) (by intro wf hwf; haveI := From.mk hwf; (((apply opv_indexAddr); ((conv => lhs; whnf) <;> exact rfl); exact rfl; infer_instance; (first | omega | (simp only [List.length_map]; omega)); (first | omega | (simp only [List.length_map]; omega))))) ?_)
      (refine tk 6 rfl (by kernel_rfl) (by (iterate 2 (apply Fr.drew)); assumption) (by intro wf hwf; haveI := From.mk hwf; (((apply opv_ld_el); exact rfl; exact rfl; infer_instance; assumption; exact rfl))) ?_)
      (refine tk 7 rfl (by kernel_rfl) (by (iterate 2 (apply Fr.drew)); assumption) (by intro wf hwf; haveI := From.mk hwf; (((apply opv_loadb1); exact rfl; exact rfl; infer_instance; exact rfl))) ?_)
      (refine tk 8 rfl (by kernel_rfl) (by (iterate 2 (apply Fr.drew)); assumption) (by intro wf hwf; haveI := From.mk hwf; (((apply opv_indexAddr); ((conv => lhs; whnf) <;> exact rfl); exact rfl; infer_instance; (first | omega | (simp only [List.length_map]; omega)); (first | omega | (simp only [List.length_map]; omega))))) ?_)
      (refine tk 9 rfl (by kernel_rfl) (by (iterate 2 (apply Fr.drew)); assumption) (by intro wf hwf; haveI := From.mk hwf; (((apply opv_ld_eln); exact rfl; exact rfl; infer_instance; assumption))) ?_)
      refine vA_only 10 rfl (by kernel_rfl) hf3.drew.drew (fun J hJ => ?_)
      (((apply vL_skip); (case h => ((apply ops_storen); exact norm_eq rfl; exact norm_eq rfl; exact rfl; exact (fun u hu => EncOk.one _ u hu); assumption; (first | decide | exact of_decide_eq_true rfl | (simp; done))))); apply vL_nil)
      refine ⟨rfl, hJ _ _ ?_⟩
      refine vA_done (by kernel_rfl) (hf3.drew.drew.set _ _ (.inr (Nat.le_refl _))) ?_
      refine ⟨rfl, by ((apply same_updN; (iterate 10 (((refine same_updO ?_ ?_); rotate_left; exact rfl)))); exact fun _ _ => rfl), hf3.drew.drew.set _ _ (.inr (Nat.le_refl _)), by rw [setRow_size]; exact hlt3, ?_⟩
      rw [hdq]
      exact Blk.as (Blk.set (show Blk w3.drew.drew.heap w2.heap.size _ _ from bd3)) rfl
    · have hdq : dd = do0 := by rw [← hdd, List.getElem?_eq_none (by omega)]; rfl
      refine vC_condF rfl (decide_eq_false (by omega)) ?_
      (apply vC_skip)
      refine ⟨rfl, fun _ _ => rfl, hf3.drew, hlt3, ?_⟩
      rw [hdq]
      exact bd3
  rintro junk4 w4 ⟨hf4, hlt4, bd4⟩
  first | with_reducible apply vC_seq | with_reducible apply vC_region | with_reducible apply seqP_normal | with_reducible apply vC_block | with_reducible apply vC_ret | with_reducible apply vC_skip | with_reducible apply vC_exit | with_reducible apply seqP_ret | with_reducible apply seqP_exit | with_reducible apply blockP_normal | with_reducible apply blockP_ret | with_reducible apply blockP_exit | ((with_reducible apply blockP_pass); exact rfl) | with_reducible apply loopP_normal | with_reducible apply vL_ac | with_reducible apply vL_an | with_reducible apply loopP_ret | with_reducible apply loopP_exit | ((with_reducible apply vC_cond_true); exact rfl) | ((with_reducible apply vC_cond_false); exact rfl) | with_reducible apply vC_scope | with_reducible apply gotoP_normal | with_reducible apply gotoP_ret | with_reducible apply gotoP_exit | with_reducible apply vC_label
  have S8 : At (Pt w2.heap.size (do5 dd) 167 * (PWA (L16 wb) rb (some i) rest k1 S * R1)) w0 No w4 := S7.new hf4 bd4 (Nat.le_refl _)
  have S9 := pw_box S8
  clear bd4 hlt4 hf4 S8 S7 hf3 hlt3 bd3 hP3 hPd3 hw3 e53 e73 e83
  generalize w2.heap.size = b10 at *
  have nx0 : (do5 dd).length = 5 := rfl
  ((apply vC_seq; apply vC_region)); (((refine vL_val (opv_makeFunc rfl) ?_); ((apply vL_val); (case h => (apply opw_alloc))); ((apply vL_skip); (case h => ((apply ops_store1); exact norm_eq rfl; exact norm_eq rfl; (first | rfl | assumption); infer_instance; (first | decide | exact of_decide_eq_true rfl | (simp; done))))); apply vL_nil)); with_reducible apply seqP_normal
  refine vC_gen (fun w' => At (Pt w4.heap.size [.func (.func 166) #[] #[pt b5, pt b6, pt b7, pt b8]] 234 * (PWA (L16 wb) rb (some i) rest ((b10, do5 dd, 167) :: k1) S * R1)) w0 No w') (S9.new (by (apply Fr.allocSet; exact Fr.refl _ _)) (Blk.as inferInstance rfl) (Nat.le_refl _)) ?_
  intro w5 S10
  have S11 := pw_box S10
  clear S10 S9
  generalize w4.heap.size = b11 at *
  generalize hk2e : ((b11, [.func (.func 166) #[] #[pt b5, pt b6, pt b7, pt b8]], 234) :: (b10, do5 dd, 167) :: k1 : List Bx) = k2 at S11
  have up2 : ∀ b ∈ k1, b ∈ k2 := fun b hb => by rw [← hk2e]; exact List.mem_cons_of_mem _ (List.mem_cons_of_mem _ hb)
  have m10 : (b10, do5 dd, 167) ∈ k2 := by rw [← hk2e]; simp
  have m11 : (b11, [.func (.func 166) #[] #[pt b5, pt b6, pt b7, pt b8]], 234) ∈ k2 := by rw [← hk2e]; simp
  clear hk2e
  replace hkk : ∀ b ∈ kb, b ∈ k2 := fun b hb => up2 b (hkk b hb)
  replace m9 := up2 _ m9
  replace m8 := up2 _ m8
  replace m7 := up2 _ m7
  replace m6 := up2 _ m6
  replace m5 := up2 _ m5
  clear up2
  have nx : ∀ (x : To) (kb' : List Bx), (∀ b ∈ k2, b ∈ kb') → Nx wb (k16 tb prog pos x) kb' b11 := fun x kb' h => ⟨b5, b6, b7, b8, h _ m11, h _ m5, h _ m6, h _ m7, by rw [show (((k16 tb prog pos x).pos : Nat) : Int) - 1 = pos by show ((pos + 1 : Nat) : Int) - 1 = pos; omega]; exact h _ m8, Nat.le_add_left 1 pos⟩
  have hdc : dd.k ≠ 0 → 0 ≤ dd.c ∧ dd.c < S.cs.length := fun hk => by
    by_cases hpl : pos < d.2.length
    · rw [List.getElem?_eq_getElem hpl] at hdd
      exact hdo dd (by rw [← hdd]; exact List.getElem_mem hpl)
    · rw [List.getElem?_eq_none (by omega)] at hdd
      exact absurd (by rw [← hdd]; rfl) hk
  have e5a := pw_bx S11 m5
  have e6a := pw_bx S11 m6
  have e10 := pw_bx S11 m10
  rw [do5] at e10
  have hid : ∀ b ∈ k2, b ∈ k2 := fun _ h => h
  (apply vC_seq; apply vC_region; (refine vL_val (opv_fieldAddr rfl) ?_); ((apply vL_val); (case h => ((apply opv_loadb1); exact rfl; exact rfl; assumption; exact rfl))); apply vL_nil; apply seqP_normal; apply vC_block; apply vC_seq; apply vC_region; (iterate 2 ((refine vE rfl ?_))); apply vL_nil; apply seqP_normal)
  by_cases c1 : dd.k = 1
  · have e1 : act16 S i tb prog pos dd = S.yield i (k16 tb prog pos ⟨0, 0, false⟩) := by unfold act16; rw [if_pos c1]
    rw [e1]
    ((refine vC_cond_dec rfl (fun _ => ?_) (fun h => by omega)))
    refine vC_draw' ((fun wf => Blk wf.heap b5 [pt wb] 53 ∧ Blk wf.heap b6 [pt tb] 34)) (by refine ⟨?_, ?_⟩ <;> first | assumption | infer_instance) ?_
    (refine tk 0 rfl (by kernel_rfl) (by refine ⟨?_, ?_⟩ <;> first | assumption | infer_instance) (by rintro wf ⟨hwa, hwb⟩; (((apply opv_loadb1); exact rfl; exact rfl; assumption; exact rfl))) ?_)
    (refine tk 1 rfl (by kernel_rfl) (by refine ⟨?_, ?_⟩ <;> first | assumption | infer_instance) (by rintro wf ⟨hwa, hwb⟩; (((apply opv_loadb1); exact rfl; exact rfl; assumption; exact rfl))) ?_)
    (refine tk 2 rfl (by kernel_rfl) (by refine ⟨?_, ?_⟩ <;> first | assumption | infer_instance) (by rintro wf ⟨hwa, hwb⟩; (((apply opv_makeFunc); exact rfl))) ?_)
    refine tkc 3 rfl (by kernel_rfl) (by refine ⟨?_, ?_⟩ <;> first | assumption | infer_instance) rfl (pw_yield (S11.drew) (hi) (ht) _ _ (k16 tb prog pos ⟨0, 0, false⟩) ⟨rfl, .y2 b11 (nx _ _ hid) rfl⟩) rfl ?_
    rintro _ w8 ⟨rfl, S18⟩
    have e5z := pw_bx S18 (hid _ m5)
    have e6z := pw_bx S18 (hid _ m6)
    refine tkc 4 rfl (by kernel_rfl) (by refine ⟨?_, ?_⟩ <;> first | assumption | infer_instance) rfl (w_need (shut S18)) rfl ?_
    rintro _ w9 S19
    have S20 := S19.ac (show _ = PWA (L16 wb) rb (some i) rest k2 (S.yield i (k16 tb prog pos ⟨0, 0, false⟩)) * (WA wb rb vp (S.cs.map (·.cb)) tl (el ++ [nw]) false * R) by ac_rfl)
    have e5y := pw_bx S20 (hid _ m5)
    have e6y := pw_bx S20 (hid _ m6)
    refine vA_done (by kernel_rfl) (by refine ⟨?_, ?_⟩ <;> first | assumption | infer_instance) ?_
    (apply blockP_normal)
    (first | apply ret0 | apply ret0n)
    exact ⟨k2, fun b hb => hid b (hkk b hb), S20⟩
  by_cases c2 : dd.k = 2
  · have e1 : act16 S i tb prog pos dd = S.send i dd.c.toNat dd.v (k16 tb prog pos ⟨0, 0, false⟩) := by unfold act16; rw [if_neg c1, if_pos c2]
    rw [e1]
    obtain ⟨hc0, hc1⟩ := hdc (by omega)
    obtain ⟨dch, hdch⟩ : ∃ y, S.cs[dd.c.toNat]? = some y := ⟨_, List.getElem?_eq_getElem (by omega)⟩
    have hcl : (S.cs.map (·.cb))[dd.c.toNat]? = some dch.cb := by rw [List.getElem?_map, hdch]; rfl
    have hlen : (S.cs.map (·.cb)).length = S.cs.length := List.length_map ..
    have sa := see S11
    have saw := sa.1
    have sao := sa.2.1
    have sao1 := sa.2.2
    have sar := sao.rd
    ((refine vC_cond_dec rfl (fun h => by omega) (fun _ => ?_)); apply vC_seq; apply vC_region; (iterate 2 ((refine vE rfl ?_))); apply vL_nil; apply seqP_normal; (refine vC_cond_dec rfl (fun _ => ?_) (fun h => by omega)))
    refine vC_draw' ((fun wf => Blk wf.heap b5 [pt wb] 53 ∧ Blk wf.heap b6 [pt tb] 34 ∧ Blk wf.heap b10 [.int .i64 dd.k, .int .i64 dd.c, .int .i64 dd.v, dd.cs.1, .bool dd.df] 167 ∧ Blk wf.heap wb [pt rb, vp, cv, tv, ev', .bool false] 61 ∧ Own wf.heap 28 1 ptE cv (S.cs.map (·.cb)))) (by refine ⟨?_, ?_, ?_, ?_, ?_⟩ <;> first | assumption | infer_instance) ?_
    (refine tk 0 rfl (by kernel_rfl) (by refine ⟨?_, ?_, ?_, ?_, ?_⟩ <;> first | assumption | infer_instance) (by rintro wf ⟨hwa, hwb, hwc, hwd, hwe⟩; (((apply opv_loadb1); exact rfl; exact rfl; assumption; exact rfl))) ?_)
    (refine tk 1 rfl (by kernel_rfl) (by refine ⟨?_, ?_, ?_, ?_, ?_⟩ <;> first | assumption | infer_instance) (by rintro wf ⟨hwa, hwb, hwc, hwd, hwe⟩; (((apply opv_loadb1); exact rfl; exact rfl; assumption; exact rfl))) ?_)
    (refine tk 2 rfl (by kernel_rfl) (by refine ⟨?_, ?_, ?_, ?_, ?_⟩ <;> first | assumption | infer_instance) (by rintro wf ⟨hwa, hwb, hwc, hwd, hwe⟩; (((apply opv_loadb1); exact rfl; exact rfl; assumption; exact rfl))) ?_)
    (refine tkE 3 rfl (by kernel_rfl) (by refine ⟨?_, ?_, ?_, ?_, ?_⟩ <;> first | assumption | infer_instance) rfl ?_)
    (refine tk 4 rfl (by kernel_rfl) (by refine ⟨?_, ?_, ?_, ?_, ?_⟩ <;> first | assumption | infer_instance) (by rintro wf ⟨hwa, hwb, hwc, hwd, hwe⟩; (((apply opv_fieldAddr); exact rfl))) ?_)
    (refine tk 5 rfl (by kernel_rfl) (by refine ⟨?_, ?_, ?_, ?_, ?_⟩ <;> first | assumption | infer_instance) (by rintro wf ⟨hwa, hwb, hwc, hwd, hwe⟩; (((apply opv_loadb1); exact rfl; exact rfl; assumption; exact rfl))) ?_)
    (refine tk 6 rfl (by kernel_rfl) (by refine ⟨?_, ?_, ?_, ?_, ?_⟩ <;> first | assumption | infer_instance) (by rintro wf ⟨hwa, hwb, hwc, hwd, hwe⟩; (((apply opv_fieldAddr); exact rfl))) ?_)
    (refine tk 7 rfl (by kernel_rfl) (by refine ⟨?_, ?_, ?_, ?_, ?_⟩ <;> first | assumption | infer_instance) (by rintro wf ⟨hwa, hwb, hwc, hwd, hwe⟩; (((apply opv_loadb1); exact rfl; exact rfl; assumption; exact rfl))) ?_)
    (refine tk 8 rfl (by kernel_rfl) (by refine ⟨?_, ?_, ?_, ?_, ?_⟩ <;> first | assumption | infer_instance) (by rintro wf ⟨hwa, hwb, hwc, hwd, hwe⟩; (((apply opv_indexAddr); ((conv => lhs; whnf) <;> exact rfl); exact rfl; infer_instance; (first | omega | (simp only [List.length_map]; omega)); (first | omega | (simp only [List.length_map]; omega))))) ?_)
    (refine tk 9 rfl (by kernel_rfl) (by refine ⟨?_, ?_, ?_, ?_, ?_⟩ <;> first | assumption | infer_instance) (by rintro wf ⟨hwa, hwb, hwc, hwd, hwe⟩; (((apply opv_ld_el); exact rfl; exact rfl; infer_instance; assumption; exact rfl))) ?_)
    (refine tk 10 rfl (by kernel_rfl) (by refine ⟨?_, ?_, ?_, ?_, ?_⟩ <;> first | assumption | infer_instance) (by rintro wf ⟨hwa, hwb, hwc, hwd, hwe⟩; (((apply opv_fieldAddr); exact rfl))) ?_)
    (refine tk 11 rfl (by kernel_rfl) (by refine ⟨?_, ?_, ?_, ?_, ?_⟩ <;> first | assumption | infer_instance) (by rintro wf ⟨hwa, hwb, hwc, hwd, hwe⟩; (((apply opv_loadb1); exact rfl; exact rfl; assumption; exact rfl))) ?_)
    (refine tk 12 rfl (by kernel_rfl) (by refine ⟨?_, ?_, ?_, ?_, ?_⟩ <;> first | assumption | infer_instance) (by rintro wf ⟨hwa, hwb, hwc, hwd, hwe⟩; (((apply opv_makeFunc); exact rfl))) ?_)
    refine tkc 13 rfl (by kernel_rfl) (by refine ⟨?_, ?_, ?_, ?_, ?_⟩ <;> first | assumption | infer_instance) rfl (pw_send S11.drew hi ht hdch dd.v _ [pt b11] (k16 tb prog pos ⟨0, 0, false⟩) ⟨b11, nx _ _ hid, rfl⟩) rfl ?_
    rintro _ w8 ⟨rfl, k3, h3, S18⟩
    have e5z := pw_bx S18 (h3 _ m5)
    have e6z := pw_bx S18 (h3 _ m6)
    have e10z := pw_bx S18 (h3 _ m10)
    rw [do5] at e10z
    have sz := see S18
    have szw := sz.1
    have szo := sz.2.1
    refine tkc 14 rfl (by kernel_rfl) (by refine ⟨?_, ?_, ?_, ?_, ?_⟩ <;> first | assumption | infer_instance) rfl (w_needP ((S18.swap.ac (by rw [hR1])).ac (star_assoc _ _ _)) o1) rfl ?_
    rintro _ w9 S19
    have S20 := (S19.ac (star_assoc _ _ _).symm).swap
    rw [← hR1] at S20
    have sy := see S20
    have syw := sy.1
    have syo := sy.2.1
    have e5y := pw_bx S20 (h3 _ m5)
    have e6y := pw_bx S20 (h3 _ m6)
    have e10y := pw_bx S20 (h3 _ m10)
    rw [do5] at e10y
    refine vA_done (by kernel_rfl) (by refine ⟨?_, ?_, ?_, ?_, ?_⟩ <;> first | assumption | infer_instance) ?_
    (apply blockP_normal)
    (first | apply ret0 | apply ret0n)
    exact ⟨k3, fun b hb => h3 b (hkk b hb), (shut S20).ac (by ac_rfl)⟩
  by_cases c3 : dd.k = 3
  · have e1 : act16 S i tb prog pos dd = S.recv i dd.c.toNat (k16 tb prog pos ⟨0, 0, false⟩) := by unfold act16; rw [if_neg c1, if_neg c2, if_pos c3]
    rw [e1]
    obtain ⟨hc0, hc1⟩ := hdc (by omega)
    obtain ⟨dch, hdch⟩ : ∃ y, S.cs[dd.c.toNat]? = some y := ⟨_, List.getElem?_eq_getElem (by omega)⟩
    have hcl : (S.cs.map (·.cb))[dd.c.toNat]? = some dch.cb := by rw [List.getElem?_map, hdch]; rfl
    have hlen : (S.cs.map (·.cb)).length = S.cs.length := List.length_map ..
    have sa := see S11
    have saw := sa.1
    have sao := sa.2.1
    have sao1 := sa.2.2
    have sar := sao.rd
    ((iterate 14 (first | with_reducible apply vC_seq | with_reducible apply vC_region | with_reducible apply seqP_normal | (refine vE rfl ?_) | with_reducible apply vL_nil | (refine vC_cond_dec rfl (fun h => by omega) (fun _ => ?_)))); (refine vC_cond_dec rfl (fun _ => ?_) (fun h => by omega)))
    refine vC_draw' ((fun wf => Blk wf.heap b5 [pt wb] 53 ∧ Blk wf.heap b6 [pt tb] 34 ∧ Blk wf.heap b10 [.int .i64 dd.k, .int .i64 dd.c, .int .i64 dd.v, dd.cs.1, .bool dd.df] 167 ∧ Blk wf.heap wb [pt rb, vp, cv, tv, ev', .bool false] 61 ∧ Own wf.heap 28 1 ptE cv (S.cs.map (·.cb)))) (by refine ⟨?_, ?_, ?_, ?_, ?_⟩ <;> first | assumption | infer_instance) ?_
    (refine tk 0 rfl (by kernel_rfl) (by refine ⟨?_, ?_, ?_, ?_, ?_⟩ <;> first | assumption | infer_instance) (by rintro wf ⟨hwa, hwb, hwc, hwd, hwe⟩; (((apply opv_loadb1); exact rfl; exact rfl; assumption; exact rfl))) ?_)
    (refine tk 1 rfl (by kernel_rfl) (by refine ⟨?_, ?_, ?_, ?_, ?_⟩ <;> first | assumption | infer_instance) (by rintro wf ⟨hwa, hwb, hwc, hwd, hwe⟩; (((apply opv_loadb1); exact rfl; exact rfl; assumption; exact rfl))) ?_)
    (refine tk 2 rfl (by kernel_rfl) (by refine ⟨?_, ?_, ?_, ?_, ?_⟩ <;> first | assumption | infer_instance) (by rintro wf ⟨hwa, hwb, hwc, hwd, hwe⟩; (((apply opv_loadb1); exact rfl; exact rfl; assumption; exact rfl))) ?_)
    (refine tkE 3 rfl (by kernel_rfl) (by refine ⟨?_, ?_, ?_, ?_, ?_⟩ <;> first | assumption | infer_instance) rfl ?_)
    (refine tk 4 rfl (by kernel_rfl) (by refine ⟨?_, ?_, ?_, ?_, ?_⟩ <;> first | assumption | infer_instance) (by rintro wf ⟨hwa, hwb, hwc, hwd, hwe⟩; (((apply opv_fieldAddr); exact rfl))) ?_)
    (refine tk 5 rfl (by kernel_rfl) (by refine ⟨?_, ?_, ?_, ?_, ?_⟩ <;> first | assumption | infer_instance) (by rintro wf ⟨hwa, hwb, hwc, hwd, hwe⟩; (((apply opv_loadb1); exact rfl; exact rfl; assumption; exact rfl))) ?_)
    (refine tk 6 rfl (by kernel_rfl) (by refine ⟨?_, ?_, ?_, ?_, ?_⟩ <;> first | assumption | infer_instance) (by rintro wf ⟨hwa, hwb, hwc, hwd, hwe⟩; (((apply opv_fieldAddr); exact rfl))) ?_)
    (refine tk 7 rfl (by kernel_rfl) (by refine ⟨?_, ?_, ?_, ?_, ?_⟩ <;> first | assumption | infer_instance) (by rintro wf ⟨hwa, hwb, hwc, hwd, hwe⟩; (((apply opv_loadb1); exact rfl; exact rfl; assumption; exact rfl))) ?_)
    (refine tk 8 rfl (by kernel_rfl) (by refine ⟨?_, ?_, ?_, ?_, ?_⟩ <;> first | assumption | infer_instance) (by rintro wf ⟨hwa, hwb, hwc, hwd, hwe⟩; (((apply opv_indexAddr); ((conv => lhs; whnf) <;> exact rfl); exact rfl; infer_instance; (first | omega | (simp only [List.length_map]; omega)); (first | omega | (simp only [List.length_map]; omega))))) ?_)
    (refine tk 9 rfl (by kernel_rfl) (by refine ⟨?_, ?_, ?_, ?_, ?_⟩ <;> first | assumption | infer_instance) (by rintro wf ⟨hwa, hwb, hwc, hwd, hwe⟩; (((apply opv_ld_el); exact rfl; exact rfl; infer_instance; assumption; exact rfl))) ?_)
    (refine tk 10 rfl (by kernel_rfl) (by refine ⟨?_, ?_, ?_, ?_, ?_⟩ <;> first | assumption | infer_instance) (by rintro wf ⟨hwa, hwb, hwc, hwd, hwe⟩; (((apply opv_makeFunc); exact rfl))) ?_)
    refine tkc 11 rfl (by kernel_rfl) (by refine ⟨?_, ?_, ?_, ?_, ?_⟩ <;> first | assumption | infer_instance) rfl (pw_recv S11.drew hi ht hdch _ [pt b11] (k16 tb prog pos ⟨0, 0, false⟩) ⟨b11, nx _ _ hid, rfl⟩) rfl ?_
    rintro _ w8 ⟨rfl, k3, h3, S18⟩
    have e5z := pw_bx S18 (h3 _ m5)
    have e6z := pw_bx S18 (h3 _ m6)
    have e10z := pw_bx S18 (h3 _ m10)
    rw [do5] at e10z
    have sz := see S18
    have szw := sz.1
    have szo := sz.2.1
    refine tkc 12 rfl (by kernel_rfl) (by refine ⟨?_, ?_, ?_, ?_, ?_⟩ <;> first | assumption | infer_instance) rfl (w_needP ((S18.swap.ac (by rw [hR1])).ac (star_assoc _ _ _)) o1) rfl ?_
    rintro _ w9 S19
    have S20 := (S19.ac (star_assoc _ _ _).symm).swap
    rw [← hR1] at S20
    have sy := see S20
    have syw := sy.1
    have syo := sy.2.1
    have e5y := pw_bx S20 (h3 _ m5)
    have e6y := pw_bx S20 (h3 _ m6)
    have e10y := pw_bx S20 (h3 _ m10)
    rw [do5] at e10y
    refine vA_done (by kernel_rfl) (by refine ⟨?_, ?_, ?_, ?_, ?_⟩ <;> first | assumption | infer_instance) ?_
    (apply blockP_normal)
    (first | apply ret0 | apply ret0n)
    exact ⟨k3, fun b hb => h3 b (hkk b hb), (shut S20).ac (by ac_rfl)⟩
  by_cases c4 : dd.k = 4
  · have e1 : act16 S i tb prog pos dd = (S.close dd.c.toNat).1.yield i (k16 tb prog pos ⟨0, 0, (S.close dd.c.toNat).2⟩) := by unfold act16; rw [if_neg c1, if_neg c2, if_neg c3, if_pos c4]
    rw [e1]
    obtain ⟨hc0, hc1⟩ := hdc (by omega)
    obtain ⟨dch, hdch⟩ : ∃ y, S.cs[dd.c.toNat]? = some y := ⟨_, List.getElem?_eq_getElem (by omega)⟩
    have hcl : (S.cs.map (·.cb))[dd.c.toNat]? = some dch.cb := by rw [List.getElem?_map, hdch]; rfl
    have hlen : (S.cs.map (·.cb)).length = S.cs.length := List.length_map ..
    have sa := see S11
    have saw := sa.1
    have sao := sa.2.1
    have sao1 := sa.2.2
    have sar := sao.rd
    ((iterate 23 (first | with_reducible apply vC_seq | with_reducible apply vC_region | with_reducible apply seqP_normal | (refine vE rfl ?_) | with_reducible apply vL_nil | (refine vC_cond_dec rfl (fun _ => ?_) (fun h => by omega)) | (refine vC_cond_dec rfl (fun h => by omega) (fun _ => ?_)))))
    refine vC_meetV 5182155653733001793318522703581184 12 (fun v w' => ∃ eb kb', v = pt eb ∧ (∀ b ∈ k2, b ∈ kb') ∧ At (Pt eb [.int .i64 (if (S.close dd.c.toNat).2 then 0 else 150)] 29 * (PWA (L16 wb) rb (some i) rest kb' (S.close dd.c.toNat).1 * R1)) w0 No w') ?_ ?_
    · refine vC_draw' ((fun wf => Blk wf.heap b5 [pt wb] 53 ∧ Blk wf.heap b6 [pt tb] 34 ∧ Blk wf.heap b10 [.int .i64 dd.k, .int .i64 dd.c, .int .i64 dd.v, dd.cs.1, .bool dd.df] 167 ∧ Blk wf.heap wb [pt rb, vp, cv, tv, ev', .bool false] 61 ∧ Own wf.heap 28 1 ptE cv (S.cs.map (·.cb)))) (by refine ⟨?_, ?_, ?_, ?_, ?_⟩ <;> first | assumption | infer_instance) ?_
      (refine tk 0 rfl (by kernel_rfl) (by refine ⟨?_, ?_, ?_, ?_, ?_⟩ <;> first | assumption | infer_instance) (by rintro wf ⟨hwa, hwb, hwc, hwd, hwe⟩; (((apply opv_loadb1); exact rfl; exact rfl; assumption; exact rfl))) ?_)
      (refine tkE 1 rfl (by kernel_rfl) (by refine ⟨?_, ?_, ?_, ?_, ?_⟩ <;> first | assumption | infer_instance) rfl ?_)
      (refine tk 2 rfl (by kernel_rfl) (by refine ⟨?_, ?_, ?_, ?_, ?_⟩ <;> first | assumption | infer_instance) (by rintro wf ⟨hwa, hwb, hwc, hwd, hwe⟩; (((apply opv_fieldAddr); exact rfl))) ?_)
      (refine tk 3 rfl (by kernel_rfl) (by refine ⟨?_, ?_, ?_, ?_, ?_⟩ <;> first | assumption | infer_instance) (by rintro wf ⟨hwa, hwb, hwc, hwd, hwe⟩; (((apply opv_loadb1); exact rfl; exact rfl; assumption; exact rfl))) ?_)
      (refine tk 4 rfl (by kernel_rfl) (by refine ⟨?_, ?_, ?_, ?_, ?_⟩ <;> first | assumption | infer_instance) (by rintro wf ⟨hwa, hwb, hwc, hwd, hwe⟩; (((apply opv_fieldAddr); exact rfl))) ?_)
      (refine tk 5 rfl (by kernel_rfl) (by refine ⟨?_, ?_, ?_, ?_, ?_⟩ <;> first | assumption | infer_instance) (by rintro wf ⟨hwa, hwb, hwc, hwd, hwe⟩; (((apply opv_loadb1); exact rfl; exact rfl; assumption; exact rfl))) ?_)
      (refine tk 6 rfl (by kernel_rfl) (by refine ⟨?_, ?_, ?_, ?_, ?_⟩ <;> first | assumption | infer_instance) (by rintro wf ⟨hwa, hwb, hwc, hwd, hwe⟩; (((apply opv_indexAddr); ((conv => lhs; whnf) <;> exact rfl); exact rfl; infer_instance; (first | omega | (simp only [List.length_map]; omega)); (first | omega | (simp only [List.length_map]; omega))))) ?_)
      (refine tk 7 rfl (by kernel_rfl) (by refine ⟨?_, ?_, ?_, ?_, ?_⟩ <;> first | assumption | infer_instance) (by rintro wf ⟨hwa, hwb, hwc, hwd, hwe⟩; (((apply opv_ld_el); exact rfl; exact rfl; infer_instance; assumption; exact rfl))) ?_)
      refine vA_two 8 9 rfl rfl (by kernel_rfl) (by refine ⟨?_, ?_, ?_, ?_, ?_⟩ <;> first | assumption | infer_instance) (fun K hK => ?_) (fun K hK => ?_)
      · refine vL_callF rfl (pw_close S11.drew hdch) rfl ?_
        rintro _ w8 ⟨rfl, k3, h3, S18⟩
        have e5z := pw_bx S18 (h3 _ m5)
        have e6z := pw_bx S18 (h3 _ m6)
        have e10z := pw_bx S18 (h3 _ m10)
        rw [do5] at e10z
        have sz := see S18
        have szw := sz.1
        have szo := sz.2.1
        refine vL_nil ⟨rfl, hK _ _ ?_⟩
        refine vA_only 9 rfl (by kernel_rfl) (by refine ⟨?_, ?_, ?_, ?_, ?_⟩ <;> first | assumption | infer_instance) (fun K hK => ?_)
        (((apply vL_val); (case h => (apply opw_alloc))); apply vL_nil)
        refine ⟨rfl, hK _ _ ?_⟩
        refine vA_only 10 rfl (by kernel_rfl) (by refine ⟨?_, ?_, ?_, ?_, ?_⟩ <;> first | assumption | infer_instance) (fun K hK => ?_)
        (((apply vL_skip); (case h => ((apply ops_store1); exact norm_eq rfl; exact norm_eq rfl; (first | rfl | assumption); infer_instance; (first | decide | exact of_decide_eq_true rfl | (simp; done))))); apply vL_nil)
        refine ⟨rfl, hK _ _ ?_⟩
        refine vA_done (by kernel_rfl) (by refine ⟨?_, ?_, ?_, ?_, ?_⟩ <;> first | assumption | infer_instance) ?_
        exact ⟨rfl, by ((apply same_updN; (iterate 10 (((refine same_updO ?_ ?_); rotate_left; exact rfl)))); exact fun _ _ => rfl), _, k3, rfl, h3, S18.alloc.set⟩
      · (((apply vL_val); (case h => (apply opw_alloc))); apply vL_nil)
        refine ⟨rfl, hK _ _ ?_⟩
        have S17 := (S11.drew.alloc (cs := [.int .i64 0]) (T := 29)).ac (show _ = PWA (L16 wb) rb (some i) rest k2 S * (Pt w5.drew.heap.size [.int .i64 0] 29 * R1) by ac_rfl)
        refine tkc 8 rfl (by kernel_rfl) (by refine ⟨?_, ?_, ?_, ?_, ?_⟩ <;> first | assumption | infer_instance) rfl (pw_close S17 hdch) rfl ?_
        rintro _ w8 ⟨rfl, k3, h3, S19⟩
        have S20 := S19.ac (show _ = Pt w5.drew.heap.size [.int .i64 0] 29 * (PWA (L16 wb) rb (some i) rest k3 (S.close dd.c.toNat).1 * R1) by ac_rfl)
        have hbE := S20.blk
        have S18 := S20.drop
        generalize w5.drew.heap.size = bE at *
        have e5z := pw_bx S18 (h3 _ m5)
        have e6z := pw_bx S18 (h3 _ m6)
        have e10z := pw_bx S18 (h3 _ m10)
        rw [do5] at e10z
        have sz := see S18
        have szw := sz.1
        have szo := sz.2.1
        refine vA_only 10 rfl (by kernel_rfl) (by refine ⟨?_, ?_, ?_, ?_, ?_⟩ <;> first | assumption | infer_instance) (fun K hK => ?_)
        (((apply vL_skip); (case h => ((apply ops_store1); exact norm_eq rfl; exact norm_eq rfl; (first | rfl | assumption); assumption; (first | decide | exact of_decide_eq_true rfl | (simp; done))))); apply vL_nil)
        refine ⟨rfl, hK _ _ ?_⟩
        have S21 := S20.set (cs' := [.int .i64 (if (S.close dd.c.toNat).2 then 0 else 150)])
        have S18 := S21.drop
        have e5z := pw_bx S18 (h3 _ m5)
        have e6z := pw_bx S18 (h3 _ m6)
        have e10z := pw_bx S18 (h3 _ m10)
        rw [do5] at e10z
        have sz := see S18
        have szw := sz.1
        have szo := sz.2.1
        refine vA_done (by kernel_rfl) (by refine ⟨?_, ?_, ?_, ?_, ?_⟩ <;> first | assumption | infer_instance) ?_
        exact ⟨rfl, by ((apply same_updN; (iterate 10 (((refine same_updO ?_ ?_); rotate_left; exact rfl)))); exact fun _ _ => rfl), _, k3, rfl, h3, S21⟩
    rintro junk8 _ w6 ⟨eb, k3, rfl, h3, S12⟩
    have S13 := pw_box S12
    have mE : (eb, [.int .i64 (if (S.close dd.c.toNat).2 then 0 else 150)], 29) ∈ ((eb, [.int .i64 (if (S.close dd.c.toNat).2 then 0 else 150)], 29) :: k3 : List Bx) := List.mem_cons_self
    have h4 : ∀ b ∈ k2, b ∈ ((eb, [.int .i64 (if (S.close dd.c.toNat).2 then 0 else 150)], 29) :: k3 : List Bx) := fun b hb => List.mem_cons_of_mem _ (h3 b hb)
    generalize ((eb, [.int .i64 (if (S.close dd.c.toNat).2 then 0 else 150)], 29) :: k3 : List Bx) = k4 at S13 mE h4
    have hck := close_keep dd.c.toNat hi (rfl : (St.run : St K16).waits = false)
    have ht3 : (S.close dd.c.toNat).1.tbs[i]? = some tb := by rw [hck.2]; exact ht
    have hte : (⟨0, 0, (S.close dd.c.toNat).2⟩ : To) = ⟨0, 0, decide ((if (S.close dd.c.toNat).2 then (0 : Int) else 150) = 0)⟩ := by cases (S.close dd.c.toNat).2 <;> rfl
    have e5b := pw_bx S13 (h4 _ m5)
    have e6b := pw_bx S13 (h4 _ m6)
    first | with_reducible apply vC_seq | with_reducible apply vC_region | with_reducible apply seqP_normal | with_reducible apply vC_block | with_reducible apply vC_ret | with_reducible apply vC_skip | with_reducible apply vC_exit | with_reducible apply seqP_ret | with_reducible apply seqP_exit | with_reducible apply blockP_normal | with_reducible apply blockP_ret | with_reducible apply blockP_exit | ((with_reducible apply blockP_pass); exact rfl) | with_reducible apply loopP_normal | with_reducible apply vL_ac | with_reducible apply vL_an | with_reducible apply loopP_ret | with_reducible apply loopP_exit | ((with_reducible apply vC_cond_true); exact rfl) | ((with_reducible apply vC_cond_false); exact rfl) | with_reducible apply vC_scope | with_reducible apply gotoP_normal | with_reducible apply gotoP_ret | with_reducible apply gotoP_exit | with_reducible apply vC_label
    refine vC_draw' ((fun wf => Blk wf.heap b5 [pt wb] 53 ∧ Blk wf.heap b6 [pt tb] 34)) (by refine ⟨?_, ?_⟩ <;> first | assumption | infer_instance) ?_
    (refine tk 0 rfl (by kernel_rfl) (by refine ⟨?_, ?_⟩ <;> first | assumption | infer_instance) (by rintro wf ⟨hwa, hwb⟩; (((apply opv_loadb1); exact rfl; exact rfl; assumption; exact rfl))) ?_)
    (refine tk 1 rfl (by kernel_rfl) (by refine ⟨?_, ?_⟩ <;> first | assumption | infer_instance) (by rintro wf ⟨hwa, hwb⟩; (((apply opv_loadb1); exact rfl; exact rfl; assumption; exact rfl))) ?_)
    (refine tk 2 rfl (by kernel_rfl) (by refine ⟨?_, ?_⟩ <;> first | assumption | infer_instance) (by rintro wf ⟨hwa, hwb⟩; (((apply opv_makeFunc); exact rfl))) ?_)
    refine tkc 3 rfl (by kernel_rfl) (by refine ⟨?_, ?_⟩ <;> first | assumption | infer_instance) rfl (pw_yield (S13.drew) (hck.1) (ht3) _ _ (k16 tb prog pos ⟨0, 0, (S.close dd.c.toNat).2⟩) ⟨rfl, .y5 b11 eb _ (nx _ _ h4) mE hte⟩) rfl ?_
    rintro _ w8 ⟨rfl, S18⟩
    have e5z := pw_bx S18 (h4 _ m5)
    have e6z := pw_bx S18 (h4 _ m6)
    refine tkc 4 rfl (by kernel_rfl) (by refine ⟨?_, ?_⟩ <;> first | assumption | infer_instance) rfl (w_need (shut S18)) rfl ?_
    rintro _ w9 S19
    have S20 := S19.ac (show _ = PWA (L16 wb) rb (some i) rest k4 ((S.close dd.c.toNat).1.yield i (k16 tb prog pos ⟨0, 0, (S.close dd.c.toNat).2⟩)) * (WA wb rb vp (S.cs.map (·.cb)) tl (el ++ [nw]) false * R) by ac_rfl)
    have e5y := pw_bx S20 (h4 _ m5)
    have e6y := pw_bx S20 (h4 _ m6)
    refine vA_done (by kernel_rfl) (by refine ⟨?_, ?_⟩ <;> first | assumption | infer_instance) ?_
    (apply blockP_normal)
    (first | apply ret0 | apply ret0n)
    exact ⟨k4, fun b hb => h4 b (hkk b hb), S20⟩
  by_cases c6 : dd.k = 6
  · have e1 : act16 S i tb prog pos dd = (S.trySend dd.c.toNat dd.v).1.yield i (k16 tb prog pos ⟨0, 0, (S.trySend dd.c.toNat dd.v).2.1⟩) := by unfold act16; rw [if_neg c1, if_neg c2, if_neg c3, if_neg c4, if_pos c6]
    rw [e1]
    obtain ⟨hc0, hc1⟩ := hdc (by omega)
    obtain ⟨dch, hdch⟩ : ∃ y, S.cs[dd.c.toNat]? = some y := ⟨_, List.getElem?_eq_getElem (by omega)⟩
    have hcl : (S.cs.map (·.cb))[dd.c.toNat]? = some dch.cb := by rw [List.getElem?_map, hdch]; rfl
    have hlen : (S.cs.map (·.cb)).length = S.cs.length := List.length_map ..
    have sa := see S11
    have saw := sa.1
    have sao := sa.2.1
    have sao1 := sa.2.2
    have sar := sao.rd
    ((iterate 30 (first | with_reducible apply vC_seq | with_reducible apply vC_region | with_reducible apply seqP_normal | (refine vE rfl ?_) | with_reducible apply vL_nil | (refine vC_cond_dec rfl (fun _ => ?_) (fun h => by omega)) | (refine vC_cond_dec rfl (fun h => by omega) (fun _ => ?_)))))
    refine vC_meetV2 10888371127472138372891535534286442618880 13 14 (fun v u w' => ∃ ob kb', v = pt ob ∧ u = .bool (S.trySend dd.c.toNat dd.v).2.2 ∧ (∀ b ∈ k2, b ∈ kb') ∧ At (Pt ob [.bool (S.trySend dd.c.toNat dd.v).2.1] 4 * (PWA (L16 wb) rb (some i) rest kb' (S.trySend dd.c.toNat dd.v).1 * R1)) w0 No w') ?_ ?_
    · refine vC_draw' ((fun wf => Blk wf.heap b5 [pt wb] 53 ∧ Blk wf.heap b6 [pt tb] 34 ∧ Blk wf.heap b10 [.int .i64 dd.k, .int .i64 dd.c, .int .i64 dd.v, dd.cs.1, .bool dd.df] 167 ∧ Blk wf.heap wb [pt rb, vp, cv, tv, ev', .bool false] 61 ∧ Own wf.heap 28 1 ptE cv (S.cs.map (·.cb)))) (by refine ⟨?_, ?_, ?_, ?_, ?_⟩ <;> first | assumption | infer_instance) ?_
      (refine tk 0 rfl (by kernel_rfl) (by refine ⟨?_, ?_, ?_, ?_, ?_⟩ <;> first | assumption | infer_instance) (by rintro wf ⟨hwa, hwb, hwc, hwd, hwe⟩; (((apply opv_loadb1); exact rfl; exact rfl; assumption; exact rfl))) ?_)
      (refine tkE 1 rfl (by kernel_rfl) (by refine ⟨?_, ?_, ?_, ?_, ?_⟩ <;> first | assumption | infer_instance) rfl ?_)
      (refine tk 2 rfl (by kernel_rfl) (by refine ⟨?_, ?_, ?_, ?_, ?_⟩ <;> first | assumption | infer_instance) (by rintro wf ⟨hwa, hwb, hwc, hwd, hwe⟩; (((apply opv_fieldAddr); exact rfl))) ?_)
      (refine tk 3 rfl (by kernel_rfl) (by refine ⟨?_, ?_, ?_, ?_, ?_⟩ <;> first | assumption | infer_instance) (by rintro wf ⟨hwa, hwb, hwc, hwd, hwe⟩; (((apply opv_loadb1); exact rfl; exact rfl; assumption; exact rfl))) ?_)
      (refine tk 4 rfl (by kernel_rfl) (by refine ⟨?_, ?_, ?_, ?_, ?_⟩ <;> first | assumption | infer_instance) (by rintro wf ⟨hwa, hwb, hwc, hwd, hwe⟩; (((apply opv_fieldAddr); exact rfl))) ?_)
      (refine tk 5 rfl (by kernel_rfl) (by refine ⟨?_, ?_, ?_, ?_, ?_⟩ <;> first | assumption | infer_instance) (by rintro wf ⟨hwa, hwb, hwc, hwd, hwe⟩; (((apply opv_loadb1); exact rfl; exact rfl; assumption; exact rfl))) ?_)
      (refine tk 6 rfl (by kernel_rfl) (by refine ⟨?_, ?_, ?_, ?_, ?_⟩ <;> first | assumption | infer_instance) (by rintro wf ⟨hwa, hwb, hwc, hwd, hwe⟩; (((apply opv_indexAddr); ((conv => lhs; whnf) <;> exact rfl); exact rfl; infer_instance; (first | omega | (simp only [List.length_map]; omega)); (first | omega | (simp only [List.length_map]; omega))))) ?_)
      (refine tk 7 rfl (by kernel_rfl) (by refine ⟨?_, ?_, ?_, ?_, ?_⟩ <;> first | assumption | infer_instance) (by rintro wf ⟨hwa, hwb, hwc, hwd, hwe⟩; (((apply opv_ld_el); exact rfl; exact rfl; infer_instance; assumption; exact rfl))) ?_)
      (refine tk 8 rfl (by kernel_rfl) (by refine ⟨?_, ?_, ?_, ?_, ?_⟩ <;> first | assumption | infer_instance) (by rintro wf ⟨hwa, hwb, hwc, hwd, hwe⟩; (((apply opv_fieldAddr); exact rfl))) ?_)
      (refine tk 9 rfl (by kernel_rfl) (by refine ⟨?_, ?_, ?_, ?_, ?_⟩ <;> first | assumption | infer_instance) (by rintro wf ⟨hwa, hwb, hwc, hwd, hwe⟩; (((apply opv_loadb1); exact rfl; exact rfl; assumption; exact rfl))) ?_)
      refine vA_two 10 14 rfl rfl (by kernel_rfl) (by refine ⟨?_, ?_, ?_, ?_, ?_⟩ <;> first | assumption | infer_instance) (fun K hK => ?_) (fun K hK => ?_)
      · refine vL_callF rfl (pw_trysend S11.drew hdch dd.v) rfl ?_
        rintro _ w8 ⟨rfl, k3, h3, S18⟩
        have e5z := pw_bx S18 (h3 _ m5)
        have e6z := pw_bx S18 (h3 _ m6)
        have e10z := pw_bx S18 (h3 _ m10)
        rw [do5] at e10z
        have sz := see S18
        have szw := sz.1
        have szo := sz.2.1
        refine vL_nil ⟨rfl, hK _ _ ?_⟩
        (refine tkE 11 rfl (by kernel_rfl) (by refine ⟨?_, ?_, ?_, ?_, ?_⟩ <;> first | assumption | infer_instance) rfl ?_)
        (refine tkE 12 rfl (by kernel_rfl) (by refine ⟨?_, ?_, ?_, ?_, ?_⟩ <;> first | assumption | infer_instance) rfl ?_)
        (refine tkE 13 rfl (by kernel_rfl) (by refine ⟨?_, ?_, ?_, ?_, ?_⟩ <;> first | assumption | infer_instance) rfl ?_)
        refine vA_only 14 rfl (by kernel_rfl) (by refine ⟨?_, ?_, ?_, ?_, ?_⟩ <;> first | assumption | infer_instance) (fun K hK => ?_)
        (((apply vL_val); (case h => (apply opw_alloc))); apply vL_nil)
        refine ⟨rfl, hK _ _ ?_⟩
        refine vA_only 15 rfl (by kernel_rfl) (by refine ⟨?_, ?_, ?_, ?_, ?_⟩ <;> first | assumption | infer_instance) (fun K hK => ?_)
        (((apply vL_skip); (case h => ((apply ops_store1); exact norm_eq rfl; exact norm_eq rfl; (first | rfl | assumption); infer_instance; (first | decide | exact of_decide_eq_true rfl | (simp; done))))); apply vL_nil)
        refine ⟨rfl, hK _ _ ?_⟩
        (refine tkE 16 rfl (by kernel_rfl) (by refine ⟨?_, ?_, ?_, ?_, ?_⟩ <;> first | assumption | infer_instance) rfl ?_)
        refine vA_done (by kernel_rfl) (by refine ⟨?_, ?_, ?_, ?_, ?_⟩ <;> first | assumption | infer_instance) ?_
        exact ⟨rfl, by ((((refine same_updO ?_ ?_); rotate_left; exact rfl); apply same_updN; (iterate 15 (((refine same_updO ?_ ?_); rotate_left; exact rfl)))); exact fun _ _ => rfl), _, k3, rfl, rfl, h3, S18.alloc.set⟩
      · (((apply vL_val); (case h => (apply opw_alloc))); apply vL_nil)
        refine ⟨rfl, hK _ _ ?_⟩
        have S17 := (S11.drew.alloc (cs := [.bool false]) (T := 4)).ac (show _ = PWA (L16 wb) rb (some i) rest k2 S * (Pt w5.drew.heap.size [.bool false] 4 * R1) by ac_rfl)
        refine tkc 10 rfl (by kernel_rfl) (by refine ⟨?_, ?_, ?_, ?_, ?_⟩ <;> first | assumption | infer_instance) rfl (pw_trysend S17 hdch dd.v) rfl ?_
        rintro _ w8 ⟨rfl, k3, h3, S19⟩
        have S20 := S19.ac (show _ = Pt w5.drew.heap.size [.bool false] 4 * (PWA (L16 wb) rb (some i) rest k3 (S.trySend dd.c.toNat dd.v).1 * R1) by ac_rfl)
        have hbE := S20.blk
        have S18 := S20.drop
        generalize w5.drew.heap.size = bE at *
        have e5z := pw_bx S18 (h3 _ m5)
        have e6z := pw_bx S18 (h3 _ m6)
        have e10z := pw_bx S18 (h3 _ m10)
        rw [do5] at e10z
        have sz := see S18
        have szw := sz.1
        have szo := sz.2.1
        (refine tkE 11 rfl (by kernel_rfl) (by refine ⟨?_, ?_, ?_, ?_, ?_⟩ <;> first | assumption | infer_instance) rfl ?_)
        (refine tkE 12 rfl (by kernel_rfl) (by refine ⟨?_, ?_, ?_, ?_, ?_⟩ <;> first | assumption | infer_instance) rfl ?_)
        (refine tkE 13 rfl (by kernel_rfl) (by refine ⟨?_, ?_, ?_, ?_, ?_⟩ <;> first | assumption | infer_instance) rfl ?_)
        refine vA_only 15 rfl (by kernel_rfl) (by refine ⟨?_, ?_, ?_, ?_, ?_⟩ <;> first | assumption | infer_instance) (fun K hK => ?_)
        (((apply vL_skip); (case h => ((apply ops_store1); exact norm_eq rfl; exact norm_eq rfl; (first | rfl | assumption); assumption; (first | decide | exact of_decide_eq_true rfl | (simp; done))))); apply vL_nil)
        refine ⟨rfl, hK _ _ ?_⟩
        have S21 := S20.set (cs' := [.bool (S.trySend dd.c.toNat dd.v).2.1])
        have S18 := S21.drop
        have e5z := pw_bx S18 (h3 _ m5)
        have e6z := pw_bx S18 (h3 _ m6)
        have e10z := pw_bx S18 (h3 _ m10)
        rw [do5] at e10z
        have sz := see S18
        have szw := sz.1
        have szo := sz.2.1
        (refine tkE 16 rfl (by kernel_rfl) (by refine ⟨?_, ?_, ?_, ?_, ?_⟩ <;> first | assumption | infer_instance) rfl ?_)
        refine vA_done (by kernel_rfl) (by refine ⟨?_, ?_, ?_, ?_, ?_⟩ <;> first | assumption | infer_instance) ?_
        exact ⟨rfl, by ((((refine same_updO ?_ ?_); rotate_left; exact rfl); apply same_updN; (iterate 15 (((refine same_updO ?_ ?_); rotate_left; exact rfl)))); exact fun _ _ => rfl), _, k3, rfl, rfl, h3, S21⟩
    rintro junk8 _ _ w6 ⟨ob, k3, rfl, rfl, h3, S12⟩
    have hcan : (S.trySend dd.c.toNat dd.v).2.1 = true → (S.trySend dd.c.toNat dd.v).2.2 = true := trySend_can _ _ _
    have htr := trySend_keep (j := dd.c.toNat) (v := dd.v) hi (rfl : (St.run : St K16).waits = false)
    have ht3 : (S.trySend dd.c.toNat dd.v).1.tbs[i]? = some tb := by rw [trySend_tbs]; exact ht
    have S13 := pw_box S12
    have mE : (ob, [.bool (S.trySend dd.c.toNat dd.v).2.1], 4) ∈ ((ob, [.bool (S.trySend dd.c.toNat dd.v).2.1], 4) :: k3 : List Bx) := List.mem_cons_self
    have h4 : ∀ b ∈ k2, b ∈ ((ob, [.bool (S.trySend dd.c.toNat dd.v).2.1], 4) :: k3 : List Bx) := fun b hb => List.mem_cons_of_mem _ (h3 b hb)
    generalize ((ob, [.bool (S.trySend dd.c.toNat dd.v).2.1], 4) :: k3 : List Bx) = k4 at S13 mE h4
    have e5b := pw_bx S13 (h4 _ m5)
    have e6b := pw_bx S13 (h4 _ m6)
    have eob := pw_bx S13 mE
    have sb := (see S13).1
    clear S12
    generalize hts : S.trySend dd.c.toNat dd.v = rr at *
    obtain ⟨S', okk, can⟩ := rr
    simp only [] at *
    (apply seqP_normal; apply vC_seq)
    refine vC_meet0 178395072552503515101454918193749075465076736 (fun w' => At (PWA (L16 wb) rb (some i) rest k4 S' * R1) w0 No w') ?_ ?_
    · refine vC_draw' ((fun wf => Blk wf.heap b5 [pt wb] 53 ∧ Blk wf.heap ob [.bool okk] 4 ∧ Blk wf.heap wb [pt rb, vp, cv, tv, ev', .bool false] 61)) (by refine ⟨?_, ?_, ?_⟩ <;> first | assumption | infer_instance) ?_
      (refine tk 0 rfl (by kernel_rfl) (by refine ⟨?_, ?_, ?_⟩ <;> first | assumption | infer_instance) (by rintro wf ⟨hwa, hwb, hwc⟩; (((apply opv_loadb1); exact rfl; exact rfl; assumption; exact rfl))) ?_)
      (refine tk 1 rfl (by kernel_rfl) (by refine ⟨?_, ?_, ?_⟩ <;> first | assumption | infer_instance) (by rintro wf ⟨hwa, hwb, hwc⟩; (((apply opv_loadb1); exact rfl; exact rfl; assumption; exact rfl))) ?_)
      (refine tkE 2 rfl (by kernel_rfl) (by refine ⟨?_, ?_, ?_⟩ <;> first | assumption | infer_instance) rfl ?_)
      (refine tk 3 rfl (by kernel_rfl) (by refine ⟨?_, ?_, ?_⟩ <;> first | assumption | infer_instance) (by rintro wf ⟨hwa, hwb, hwc⟩; (((apply opv_fieldAddr); exact rfl))) ?_)
      (refine tk 4 rfl (by kernel_rfl) (by refine ⟨?_, ?_, ?_⟩ <;> first | assumption | infer_instance) (by rintro wf ⟨hwa, hwb, hwc⟩; (((apply opv_loadb1); exact rfl; exact rfl; assumption; exact rfl))) ?_)
      (refine tkE 5 rfl (by kernel_rfl) (by refine ⟨?_, ?_, ?_⟩ <;> first | assumption | infer_instance) rfl ?_)
      (refine tkw 6 rfl rfl (by kernel_rfl) (by refine ⟨?_, ?_, ?_⟩ <;> first | assumption | infer_instance) (by rintro wf ⟨hwa, hwb, hwc⟩; (((apply opv_loadb1); exact rfl; exact rfl; assumption; exact rfl))) ?_)
      (refine tkwE 7 rfl rfl (by kernel_rfl) (by refine ⟨?_, ?_, ?_⟩ <;> first | assumption | infer_instance) rfl ?_)
      cases okk with
      | true =>
        obtain rfl := hcan rfl
        (refine tkwE 8 rfl rfl (by kernel_rfl) (by refine ⟨?_, ?_, ?_⟩ <;> first | assumption | infer_instance) rfl ?_)
        (refine tkw 9 rfl rfl (by kernel_rfl) (by refine ⟨?_, ?_, ?_⟩ <;> first | assumption | infer_instance) (by rintro wf ⟨hwa, hwb, hwc⟩; (((apply opv_not); exact rfl))) ?_)
        (refine tkwE 10 rfl rfl (by kernel_rfl) (by refine ⟨?_, ?_, ?_⟩ <;> first | assumption | infer_instance) rfl ?_)
        (refine tkE 11 rfl (by kernel_rfl) (by refine ⟨?_, ?_, ?_⟩ <;> first | assumption | infer_instance) rfl ?_)
        (refine tkE 12 rfl (by kernel_rfl) (by refine ⟨?_, ?_, ?_⟩ <;> first | assumption | infer_instance) rfl ?_)
        (refine tk 13 rfl (by kernel_rfl) (by refine ⟨?_, ?_, ?_⟩ <;> first | assumption | infer_instance) (by rintro wf ⟨hwa, hwb, hwc⟩; (((apply opv_fieldAddr); exact rfl))) ?_)
        refine vA_only 14 rfl (by kernel_rfl) (by refine ⟨?_, ?_, ?_⟩ <;> first | assumption | infer_instance) (fun K hK => ?_)
        (((apply vL_skip); (case h => ((apply ops_store1); exact norm_eq rfl; exact norm_eq rfl; (first | rfl | assumption); assumption; (first | decide | exact of_decide_eq_true rfl | (simp; done))))); apply vL_nil)
        refine ⟨rfl, hK _ _ ?_⟩
        have S14 := (((S13.drew.swap.ac (by rw [hR1])).ac (star_assoc _ _ _)).set (cs' := [pt rb, vp, cv, tv, ev', .bool false])).ac (star_assoc _ _ _).symm |>.swap
        rw [← hR1] at S14
        have e5c := pw_bx S14 (h4 _ m5)
        have eoc := pw_bx S14 mE
        have sbc := (see S14).1
        refine vA_done (by kernel_rfl) (by refine ⟨?_, ?_, ?_⟩ <;> first | assumption | infer_instance) ?_
        exact ⟨rfl, by ((apply same_updN; (iterate 14 (((refine same_updO ?_ ?_); rotate_left; exact rfl)))); exact fun _ _ => rfl), S14⟩
      | false =>
        (refine tku 8 rfl rfl rfl (by kernel_rfl) (by refine ⟨?_, ?_, ?_⟩ <;> first | assumption | infer_instance) ?_)
        (refine tku 9 rfl rfl rfl (by kernel_rfl) (by refine ⟨?_, ?_, ?_⟩ <;> first | assumption | infer_instance) ?_)
        (refine tkwE 10 rfl rfl (by kernel_rfl) (by refine ⟨?_, ?_, ?_⟩ <;> first | assumption | infer_instance) rfl ?_)
        (refine tkE 11 rfl (by kernel_rfl) (by refine ⟨?_, ?_, ?_⟩ <;> first | assumption | infer_instance) rfl ?_)
        (refine tkE 12 rfl (by kernel_rfl) (by refine ⟨?_, ?_, ?_⟩ <;> first | assumption | infer_instance) rfl ?_)
        (refine tk 13 rfl (by kernel_rfl) (by refine ⟨?_, ?_, ?_⟩ <;> first | assumption | infer_instance) (by rintro wf ⟨hwa, hwb, hwc⟩; (((apply opv_fieldAddr); exact rfl))) ?_)
        refine vA_only 14 rfl (by kernel_rfl) (by refine ⟨?_, ?_, ?_⟩ <;> first | assumption | infer_instance) (fun K hK => ?_)
        (((apply vL_skip); (case h => ((apply ops_store1); exact norm_eq rfl; exact norm_eq rfl; (first | rfl | assumption); assumption; (first | decide | exact of_decide_eq_true rfl | (simp; done))))); apply vL_nil)
        refine ⟨rfl, hK _ _ ?_⟩
        have S14 := (((S13.drew.swap.ac (by rw [hR1])).ac (star_assoc _ _ _)).set (cs' := [pt rb, vp, cv, tv, ev', .bool false])).ac (star_assoc _ _ _).symm |>.swap
        rw [← hR1] at S14
        have e5c := pw_bx S14 (h4 _ m5)
        have eoc := pw_bx S14 mE
        have sbc := (see S14).1
        refine vA_done (by kernel_rfl) (by refine ⟨?_, ?_, ?_⟩ <;> first | assumption | infer_instance) ?_
        exact ⟨rfl, by ((apply same_updN; (iterate 14 (((refine same_updO ?_ ?_); rotate_left; exact rfl)))); exact fun _ _ => rfl), S14⟩
    clear e5b e6b eob sb S13
    rintro junk9 w6 S13
    have e5b := pw_bx S13 (h4 _ m5)
    have e6b := pw_bx S13 (h4 _ m6)
    first | with_reducible apply vC_seq | with_reducible apply vC_region | with_reducible apply seqP_normal | with_reducible apply vC_block | with_reducible apply vC_ret | with_reducible apply vC_skip | with_reducible apply vC_exit | with_reducible apply seqP_ret | with_reducible apply seqP_exit | with_reducible apply blockP_normal | with_reducible apply blockP_ret | with_reducible apply blockP_exit | ((with_reducible apply blockP_pass); exact rfl) | with_reducible apply loopP_normal | with_reducible apply vL_ac | with_reducible apply vL_an | with_reducible apply loopP_ret | with_reducible apply loopP_exit | ((with_reducible apply vC_cond_true); exact rfl) | ((with_reducible apply vC_cond_false); exact rfl) | with_reducible apply vC_scope | with_reducible apply gotoP_normal | with_reducible apply gotoP_ret | with_reducible apply gotoP_exit | with_reducible apply vC_label
    refine vC_draw' ((fun wf => Blk wf.heap b5 [pt wb] 53 ∧ Blk wf.heap b6 [pt tb] 34)) (by refine ⟨?_, ?_⟩ <;> first | assumption | infer_instance) ?_
    (refine tk 0 rfl (by kernel_rfl) (by refine ⟨?_, ?_⟩ <;> first | assumption | infer_instance) (by rintro wf ⟨hwa, hwb⟩; (((apply opv_loadb1); exact rfl; exact rfl; assumption; exact rfl))) ?_)
    (refine tk 1 rfl (by kernel_rfl) (by refine ⟨?_, ?_⟩ <;> first | assumption | infer_instance) (by rintro wf ⟨hwa, hwb⟩; (((apply opv_loadb1); exact rfl; exact rfl; assumption; exact rfl))) ?_)
    (refine tk 2 rfl (by kernel_rfl) (by refine ⟨?_, ?_⟩ <;> first | assumption | infer_instance) (by rintro wf ⟨hwa, hwb⟩; (((apply opv_makeFunc); exact rfl))) ?_)
    refine tkc 3 rfl (by kernel_rfl) (by refine ⟨?_, ?_⟩ <;> first | assumption | infer_instance) rfl (pw_yield (S13.drew) (htr) (ht3) _ _ (k16 tb prog pos ⟨0, 0, okk⟩) ⟨rfl, .y6 b11 ob okk (nx _ _ h4) mE rfl⟩) rfl ?_
    rintro _ w8 ⟨rfl, S18⟩
    have e5z := pw_bx S18 (h4 _ m5)
    have e6z := pw_bx S18 (h4 _ m6)
    refine tkc 4 rfl (by kernel_rfl) (by refine ⟨?_, ?_⟩ <;> first | assumption | infer_instance) rfl (w_need (shut S18)) rfl ?_
    rintro _ w9 S19
    have S20 := S19.ac (show _ = PWA (L16 wb) rb (some i) rest k4 (S'.yield i (k16 tb prog pos ⟨0, 0, okk⟩)) * (WA wb rb vp (S.cs.map (·.cb)) tl (el ++ [nw]) false * R) by ac_rfl)
    have e5y := pw_bx S20 (h4 _ m5)
    have e6y := pw_bx S20 (h4 _ m6)
    refine vA_done (by kernel_rfl) (by refine ⟨?_, ?_⟩ <;> first | assumption | infer_instance) ?_
    (apply blockP_normal)
    (first | apply ret0 | apply ret0n)
    exact ⟨k4, fun b hb => h4 b (hkk b hb), S20⟩
  by_cases c7 : dd.k = 7
  · have e1 : act16 S i tb prog pos dd = (S.tryRecv dd.c.toNat).1.yield i (k16 tb prog pos ⟨if (S.tryRecv dd.c.toNat).2.2.2 then 0 else 1, (S.tryRecv dd.c.toNat).2.1, (S.tryRecv dd.c.toNat).2.2.1⟩) := by unfold act16; rw [if_neg c1, if_neg c2, if_neg c3, if_neg c4, if_neg c6, if_pos c7]
    rw [e1]
    obtain ⟨hc0, hc1⟩ := hdc (by omega)
    obtain ⟨dch, hdch⟩ : ∃ y, S.cs[dd.c.toNat]? = some y := ⟨_, List.getElem?_eq_getElem (by omega)⟩
    have hcl : (S.cs.map (·.cb))[dd.c.toNat]? = some dch.cb := by rw [List.getElem?_map, hdch]; rfl
    have hlen : (S.cs.map (·.cb)).length = S.cs.length := List.length_map ..
    have sa := see S11
    have saw := sa.1
    have sao := sa.2.1
    have sao1 := sa.2.2
    have sar := sao.rd
    ((iterate 37 (first | with_reducible apply vC_seq | with_reducible apply vC_region | with_reducible apply seqP_normal | (refine vE rfl ?_) | with_reducible apply vL_nil | (refine vC_cond_dec rfl (fun _ => ?_) (fun h => by omega)) | (refine vC_cond_dec rfl (fun h => by omega) (fun _ => ?_)))))
    refine vC_draw' ((fun wf => Blk wf.heap b5 [pt wb] 53 ∧ Blk wf.heap b6 [pt tb] 34 ∧ Blk wf.heap b10 [.int .i64 dd.k, .int .i64 dd.c, .int .i64 dd.v, dd.cs.1, .bool dd.df] 167 ∧ Blk wf.heap wb [pt rb, vp, cv, tv, ev', .bool false] 61 ∧ Own wf.heap 28 1 ptE cv (S.cs.map (·.cb)))) (by refine ⟨?_, ?_, ?_, ?_, ?_⟩ <;> first | assumption | infer_instance) ?_
    (refine tk 0 rfl (by kernel_rfl) (by refine ⟨?_, ?_, ?_, ?_, ?_⟩ <;> first | assumption | infer_instance) (by rintro wf ⟨hwa, hwb, hwc, hwd, hwe⟩; (((apply opv_loadb1); exact rfl; exact rfl; assumption; exact rfl))) ?_)
    (refine tkE 1 rfl (by kernel_rfl) (by refine ⟨?_, ?_, ?_, ?_, ?_⟩ <;> first | assumption | infer_instance) rfl ?_)
    (refine tk 2 rfl (by kernel_rfl) (by refine ⟨?_, ?_, ?_, ?_, ?_⟩ <;> first | assumption | infer_instance) (by rintro wf ⟨hwa, hwb, hwc, hwd, hwe⟩; (((apply opv_fieldAddr); exact rfl))) ?_)
    (refine tk 3 rfl (by kernel_rfl) (by refine ⟨?_, ?_, ?_, ?_, ?_⟩ <;> first | assumption | infer_instance) (by rintro wf ⟨hwa, hwb, hwc, hwd, hwe⟩; (((apply opv_loadb1); exact rfl; exact rfl; assumption; exact rfl))) ?_)
    (refine tk 4 rfl (by kernel_rfl) (by refine ⟨?_, ?_, ?_, ?_, ?_⟩ <;> first | assumption | infer_instance) (by rintro wf ⟨hwa, hwb, hwc, hwd, hwe⟩; (((apply opv_fieldAddr); exact rfl))) ?_)
    (refine tk 5 rfl (by kernel_rfl) (by refine ⟨?_, ?_, ?_, ?_, ?_⟩ <;> first | assumption | infer_instance) (by rintro wf ⟨hwa, hwb, hwc, hwd, hwe⟩; (((apply opv_loadb1); exact rfl; exact rfl; assumption; exact rfl))) ?_)
    (refine tk 6 rfl (by kernel_rfl) (by refine ⟨?_, ?_, ?_, ?_, ?_⟩ <;> first | assumption | infer_instance) (by rintro wf ⟨hwa, hwb, hwc, hwd, hwe⟩; (((apply opv_indexAddr); ((conv => lhs; whnf) <;> exact rfl); exact rfl; infer_instance; (first | omega | (simp only [List.length_map]; omega)); (first | omega | (simp only [List.length_map]; omega))))) ?_)
    (refine tk 7 rfl (by kernel_rfl) (by refine ⟨?_, ?_, ?_, ?_, ?_⟩ <;> first | assumption | infer_instance) (by rintro wf ⟨hwa, hwb, hwc, hwd, hwe⟩; (((apply opv_ld_el); exact rfl; exact rfl; infer_instance; assumption; exact rfl))) ?_)
    refine tkc 8 rfl (by kernel_rfl) (by refine ⟨?_, ?_, ?_, ?_, ?_⟩ <;> first | assumption | infer_instance) rfl (pw_tryrecv S11.drew hdch) rfl ?_
    rintro _ w8 ⟨rfl, k3, h3, S18⟩
    have e5z := pw_bx S18 (h3 _ m5)
    have e6z := pw_bx S18 (h3 _ m6)
    have e10z := pw_bx S18 (h3 _ m10)
    rw [do5] at e10z
    have sz := see S18
    have szw := sz.1
    have szo := sz.2.1
    (refine tkE 9 rfl (by kernel_rfl) (by refine ⟨?_, ?_, ?_, ?_, ?_⟩ <;> first | assumption | infer_instance) rfl ?_)
    (refine tkE 10 rfl (by kernel_rfl) (by refine ⟨?_, ?_, ?_, ?_, ?_⟩ <;> first | assumption | infer_instance) rfl ?_)
    (refine tkE 11 rfl (by kernel_rfl) (by refine ⟨?_, ?_, ?_, ?_, ?_⟩ <;> first | assumption | infer_instance) rfl ?_)
    (refine tkE 12 rfl (by kernel_rfl) (by refine ⟨?_, ?_, ?_, ?_, ?_⟩ <;> first | assumption | infer_instance) rfl ?_)
    (refine tkE 13 rfl (by kernel_rfl) (by refine ⟨?_, ?_, ?_, ?_, ?_⟩ <;> first | assumption | infer_instance) rfl ?_)
    (refine tkE 14 rfl (by kernel_rfl) (by refine ⟨?_, ?_, ?_, ?_, ?_⟩ <;> first | assumption | infer_instance) rfl ?_)
    (refine tkE 15 rfl (by kernel_rfl) (by refine ⟨?_, ?_, ?_, ?_, ?_⟩ <;> first | assumption | infer_instance) rfl ?_)
    refine vA_done (by kernel_rfl) (by refine ⟨?_, ?_, ?_, ?_, ?_⟩ <;> first | assumption | infer_instance) ?_
    have htr := tryRecv_keep (j := dd.c.toNat) hi (rfl : (St.run : St K16).waits = false)
    have ht3 : (S.tryRecv dd.c.toNat).1.tbs[i]? = some tb := by rw [tryRecv_tbs]; exact ht
    generalize hts : S.tryRecv dd.c.toNat = rr at *
    obtain ⟨S', vv, okk, can⟩ := rr
    simp only [] at *
    clear e5z e6z e10z sz szw szo
    cases can with
    | true =>
      (apply seqP_normal; apply vC_seq; apply vC_region; (iterate 2 ((refine vE rfl ?_))); ((apply vL_val); (case h => ((apply opv_buildS); exact rfl; exact (rfl : _ = some [_, _, _])))); ((apply vL_val); (case h => (apply opw_alloc))); ((apply vL_skip); (case h => ((apply ops_storen); exact norm_eq rfl; exact norm_eq rfl; exact rfl; (intro u hu; simp at hu; rcases hu with rfl | rfl | rfl <;> (first | rfl | assumption)); infer_instance; (first | decide | exact of_decide_eq_true rfl | (simp; done))))); apply vL_nil; apply seqP_normal; (iterate 2 (apply vC_seq)); apply vC_region; (refine vE rfl ?_); (refine vL_val (opv_not rfl) ?_); apply vL_nil; apply seqP_normal; ((apply vC_cond_false); exact rfl); apply vC_skip; apply seqP_normal)
      refine vC_gen (fun w' => At (Pt w8.heap.size [.int .i64 0, .int .i64 vv, .bool okk] 171 * (PWA (L16 wb) rb (some i) rest k3 S' * R1)) w0 No w') (S18.new (by (apply Fr.allocSet; exact Fr.refl _ _)) (Blk.as inferInstance rfl) (Nat.le_refl _)) ?_
      intro w6 S12
      have S13 := pw_box S12
      have mE : (w8.heap.size, [.int .i64 0, .int .i64 vv, .bool okk], 171) ∈ ((w8.heap.size, [.int .i64 0, .int .i64 vv, .bool okk], 171) :: k3 : List Bx) := List.mem_cons_self
      have h4 : ∀ b ∈ k2, b ∈ ((w8.heap.size, [.int .i64 0, .int .i64 vv, .bool okk], 171) :: k3 : List Bx) := fun b hb => List.mem_cons_of_mem _ (h3 b hb)
      generalize ((w8.heap.size, [.int .i64 0, .int .i64 vv, .bool okk], 171) :: k3 : List Bx) = k4 at S13 mE h4
      generalize w8.heap.size = ob at *
      have e5b := pw_bx S13 (h4 _ m5)
      have e6b := pw_bx S13 (h4 _ m6)
      refine vC_draw' ((fun wf => Blk wf.heap b5 [pt wb] 53 ∧ Blk wf.heap b6 [pt tb] 34)) (by refine ⟨?_, ?_⟩ <;> first | assumption | infer_instance) ?_
      (refine tk 0 rfl (by kernel_rfl) (by refine ⟨?_, ?_⟩ <;> first | assumption | infer_instance) (by rintro wf ⟨hwa, hwb⟩; (((apply opv_loadb1); exact rfl; exact rfl; assumption; exact rfl))) ?_)
      (refine tk 1 rfl (by kernel_rfl) (by refine ⟨?_, ?_⟩ <;> first | assumption | infer_instance) (by rintro wf ⟨hwa, hwb⟩; (((apply opv_loadb1); exact rfl; exact rfl; assumption; exact rfl))) ?_)
      (refine tk 2 rfl (by kernel_rfl) (by refine ⟨?_, ?_⟩ <;> first | assumption | infer_instance) (by rintro wf ⟨hwa, hwb⟩; (((apply opv_makeFunc); exact rfl))) ?_)
      refine tkc 3 rfl (by kernel_rfl) (by refine ⟨?_, ?_⟩ <;> first | assumption | infer_instance) rfl (pw_yield (S13.drew) (htr) (ht3) _ _ (k16 tb prog pos ⟨0, vv, okk⟩) ⟨rfl, .y7 b11 ob (nx _ _ h4) mE⟩) rfl ?_
      rintro _ w8 ⟨rfl, S18⟩
      have e5z := pw_bx S18 (h4 _ m5)
      have e6z := pw_bx S18 (h4 _ m6)
      refine tkc 4 rfl (by kernel_rfl) (by refine ⟨?_, ?_⟩ <;> first | assumption | infer_instance) rfl (w_need (shut S18)) rfl ?_
      rintro _ w9 S19
      have S20 := S19.ac (show _ = PWA (L16 wb) rb (some i) rest k4 (S'.yield i (k16 tb prog pos ⟨0, vv, okk⟩)) * (WA wb rb vp (S.cs.map (·.cb)) tl (el ++ [nw]) false * R) by ac_rfl)
      have e5y := pw_bx S20 (h4 _ m5)
      have e6y := pw_bx S20 (h4 _ m6)
      refine vA_done (by kernel_rfl) (by refine ⟨?_, ?_⟩ <;> first | assumption | infer_instance) ?_
      (apply blockP_normal)
      (first | apply ret0 | apply ret0n)
      exact ⟨k4, fun b hb => h4 b (hkk b hb), S20⟩
    | false =>
      (apply seqP_normal; apply vC_seq; apply vC_region; (iterate 2 ((refine vE rfl ?_))); ((apply vL_val); (case h => ((apply opv_buildS); exact rfl; exact (rfl : _ = some [_, _, _])))); ((apply vL_val); (case h => (apply opw_alloc))); ((apply vL_skip); (case h => ((apply ops_storen); exact norm_eq rfl; exact norm_eq rfl; exact rfl; (intro u hu; simp at hu; rcases hu with rfl | rfl | rfl <;> (first | rfl | assumption)); infer_instance; (first | decide | exact of_decide_eq_true rfl | (simp; done))))); apply vL_nil; apply seqP_normal; (iterate 2 (apply vC_seq)); apply vC_region; (refine vE rfl ?_); (refine vL_val (opv_not rfl) ?_); apply vL_nil; apply seqP_normal; ((apply vC_cond_true); exact rfl); apply vC_region; (refine vL_val (opv_fieldAddr rfl) ?_); ((apply vL_skip); (case h => ((apply ops_store1); exact norm_eq rfl; exact norm_eq rfl; (first | rfl | assumption); infer_instance; (first | decide | exact of_decide_eq_true rfl | (simp; done))))); apply vL_nil; apply seqP_normal)
      refine vC_gen (fun w' => At (Pt w8.heap.size [.int .i64 1, .int .i64 vv, .bool okk] 171 * (PWA (L16 wb) rb (some i) rest k3 S' * R1)) w0 No w') (S18.new (by (((apply Fr.set); rotate_left; (right; ((try simp only [alloc_size]); omega))); apply Fr.allocSet; exact Fr.refl _ _)) (Blk.as inferInstance rfl) (Nat.le_refl _)) ?_
      intro w6 S12
      have S13 := pw_box S12
      have mE : (w8.heap.size, [.int .i64 1, .int .i64 vv, .bool okk], 171) ∈ ((w8.heap.size, [.int .i64 1, .int .i64 vv, .bool okk], 171) :: k3 : List Bx) := List.mem_cons_self
      have h4 : ∀ b ∈ k2, b ∈ ((w8.heap.size, [.int .i64 1, .int .i64 vv, .bool okk], 171) :: k3 : List Bx) := fun b hb => List.mem_cons_of_mem _ (h3 b hb)
      generalize ((w8.heap.size, [.int .i64 1, .int .i64 vv, .bool okk], 171) :: k3 : List Bx) = k4 at S13 mE h4
      generalize w8.heap.size = ob at *
      have e5b := pw_bx S13 (h4 _ m5)
      have e6b := pw_bx S13 (h4 _ m6)
      refine vC_draw' ((fun wf => Blk wf.heap b5 [pt wb] 53 ∧ Blk wf.heap b6 [pt tb] 34)) (by refine ⟨?_, ?_⟩ <;> first | assumption | infer_instance) ?_
      (refine tk 0 rfl (by kernel_rfl) (by refine ⟨?_, ?_⟩ <;> first | assumption | infer_instance) (by rintro wf ⟨hwa, hwb⟩; (((apply opv_loadb1); exact rfl; exact rfl; assumption; exact rfl))) ?_)
      (refine tk 1 rfl (by kernel_rfl) (by refine ⟨?_, ?_⟩ <;> first | assumption | infer_instance) (by rintro wf ⟨hwa, hwb⟩; (((apply opv_loadb1); exact rfl; exact rfl; assumption; exact rfl))) ?_)
      (refine tk 2 rfl (by kernel_rfl) (by refine ⟨?_, ?_⟩ <;> first | assumption | infer_instance) (by rintro wf ⟨hwa, hwb⟩; (((apply opv_makeFunc); exact rfl))) ?_)
      refine tkc 3 rfl (by kernel_rfl) (by refine ⟨?_, ?_⟩ <;> first | assumption | infer_instance) rfl (pw_yield (S13.drew) (htr) (ht3) _ _ (k16 tb prog pos ⟨1, vv, okk⟩) ⟨rfl, .y7 b11 ob (nx _ _ h4) mE⟩) rfl ?_
      rintro _ w8 ⟨rfl, S18⟩
      have e5z := pw_bx S18 (h4 _ m5)
      have e6z := pw_bx S18 (h4 _ m6)
      refine tkc 4 rfl (by kernel_rfl) (by refine ⟨?_, ?_⟩ <;> first | assumption | infer_instance) rfl (w_need (shut S18)) rfl ?_
      rintro _ w9 S19
      have S20 := S19.ac (show _ = PWA (L16 wb) rb (some i) rest k4 (S'.yield i (k16 tb prog pos ⟨1, vv, okk⟩)) * (WA wb rb vp (S.cs.map (·.cb)) tl (el ++ [nw]) false * R) by ac_rfl)
      have e5y := pw_bx S20 (h4 _ m5)
      have e6y := pw_bx S20 (h4 _ m6)
      refine vA_done (by kernel_rfl) (by refine ⟨?_, ?_⟩ <;> first | assumption | infer_instance) ?_
      (apply blockP_normal)
      (first | apply ret0 | apply ret0n)
      exact ⟨k4, fun b hb => h4 b (hkk b hb), S20⟩
  have e1 : act16 S i tb prog pos dd = S := by unfold act16; rw [if_neg c1, if_neg c2, if_neg c3, if_neg c4, if_neg c6, if_neg c7]
  rw [e1]
  ((iterate 36 (first | with_reducible apply vC_seq | with_reducible apply vC_region | with_reducible apply seqP_normal | (refine vE rfl ?_) | with_reducible apply vL_nil | (refine vC_cond_dec rfl (fun h => by omega) (fun _ => ?_)))); apply vC_skip; apply blockP_normal)
  (first | apply ret0 | apply ret0n)
  exact ⟨k2, hkk, (shut S11).ac (by ac_rfl)⟩
end
end Go.Proofs.YtbaidcnalkdhgaaGreat
set_option maxRecDepth 100000
namespace Go.Proofs.YtbaidcnalkdhgaaGreat
open Go Go.Eng
section
variable {κ : Type}
/-- with what a task goes on -/
def St.key : St κ → Option κ
  | .over => none
  | .run => none
  | .mS k _ _ => some k
  | .mR k _ _ _ => some k
  | .rdyS k _ => some k
  | .rdyR k _ _ => some k
  | .rdyY k => some k
  | .wS k _ _ => some k
  | .wR k _ => some k
  | .wX k => some k
def C16.cbz (d : C16) : Nat × Int := (d.cb, d.size)
/-- the same tasks and channels; who goes on with what -/
structure KpS (S T : PS κ) : Prop where
  tbs : T.tbs = S.tbs
  key : T.sts.map St.key = S.sts.map St.key
  cs : T.cs.map C16.cbz = S.cs.map C16.cbz
structure KpI (i : Nat) (o : Option κ) (S T : PS κ) : Prop where
  tbs : T.tbs = S.tbs
  key : T.sts.map St.key = (S.sts.map St.key).set i o
  cs : T.cs.map C16.cbz = S.cs.map C16.cbz
variable {S T U : PS κ} {i j m : Nat} {o o' : Option κ}
theorem KpS.refl (S : PS κ) : KpS S S := ⟨rfl, rfl, rfl⟩
theorem KpS.trans (h : KpS S T) (k : KpS T U) : KpS S U := ⟨k.tbs.trans h.tbs, k.key.trans h.key, k.cs.trans h.cs⟩
theorem KpS.to (h : KpS S T) (k : KpI i o T U) : KpI i o S U := ⟨k.tbs.trans h.tbs, k.key.trans (by rw [h.key]), k.cs.trans h.cs⟩
theorem KpI.then (h : KpI i o S T) (k : KpS T U) : KpI i o S U := ⟨k.tbs.trans h.tbs, k.key.trans h.key, k.cs.trans h.cs⟩
theorem KpI.to (h : KpI i o S T) (k : KpI i o' T U) : KpI i o' S U := ⟨k.tbs.trans h.tbs, k.key.trans (by rw [h.key, List.set_set]), k.cs.trans h.cs⟩
theorem kp_set (s : St κ) (c : List C16) (l : List Int) (hc : c = S.cs) : KpI i s.key S ⟨S.sts.set i s, S.tbs, c, l⟩ := ⟨rfl, by simp only [List.map_set], by rw [hc]⟩
theorem kp_setC {d d' : C16} (hd : S.cs[j]? = some d) (h1 : d'.cbz = d.cbz) : KpS S (S.setC j d') := ⟨rfl, rfl, by
  show (S.cs.set j d').map C16.cbz = _
  rw [List.map_set, h1]
  exact set_same (by rw [List.getElem?_map, hd]; rfl)⟩
theorem kp_woke {s s' : St κ} {l : List Int} (hs : S.sts[m]? = some s) (hk : s'.key = s.key) : KpS S ⟨S.sts.set m s', S.tbs, S.cs, l⟩ := ⟨rfl, by
  show (S.sts.set m s').map St.key = _
  rw [List.map_set, hk]
  exact set_same (by rw [List.getElem?_map, hs]; rfl), rfl⟩
theorem wokeS_kp (S : PS κ) (m : Nat) (ok : Bool) : KpS S (S.wokeS m ok) := by
  unfold PS.wokeS
  split
  · rename_i h; exact kp_woke h rfl
  · exact .refl _
theorem wokeR_kp (S : PS κ) (m : Nat) (v : Int) (ok : Bool) : KpS S (S.wokeR m v ok) := by
  unfold PS.wokeR
  split
  · rename_i h; exact kp_woke h rfl
  · exact .refl _
theorem trySend_kp (S : PS κ) (j : Nat) (v : Int) : KpS S (S.trySend j v).1 := by
  unfold PS.trySend
  split
  · exact .refl _
  · rename_i d hd
    split
    · exact .refl _
    · split
      · rename_i m r _
        exact (kp_setC (d' := { d with rcv := r }) hd rfl).trans (wokeR_kp _ _ _ _)
      · split
        · exact .refl _
        · exact kp_setC hd rfl
theorem tryRecv_kp (S : PS κ) (j : Nat) : KpS S (S.tryRecv j).1 := by
  unfold PS.tryRecv
  split
  · exact .refl _
  · rename_i d hd
    split
    · rename_i m r _
      exact (kp_setC (d' := { d with buf := rbuf d.buf (S.valS m), snd := r }) hd rfl).trans (wokeS_kp _ _ _)
    · exact kp_setC hd rfl
theorem allR_kp (l : List Nat) : ∀ (S : PS κ), KpS S (S.allR l) := by
  induction l with
  | nil => exact fun S => .refl S
  | cons m r ih => exact fun S => (wokeR_kp S m 0 false).trans (ih _)
theorem allS_kp (l : List Nat) : ∀ (S : PS κ), KpS S (S.allS l) := by
  induction l with
  | nil => exact fun S => .refl S
  | cons m r ih => exact fun S => (wokeS_kp S m false).trans (ih _)
theorem close_kp (S : PS κ) (j : Nat) : KpS S (S.close j).1 := by
  unfold PS.close
  split
  · exact .refl _
  · rename_i d hd
    split
    · exact .refl _
    · unfold PS.ends
      exact ((kp_setC (d' := { d with closed := true, snd := [], rcv := [] }) hd rfl).trans (allR_kp _ _)).trans (allS_kp _ _)
theorem send_kp (S : PS κ) (i j : Nat) (v : Int) (k : κ) (hj : j < S.cs.length) : KpI i (some k) S (S.send i j v k) := by
  unfold PS.send
  simp only []
  split
  · exact (trySend_kp S j v).to (kp_set (St.rdyS k _) _ _ rfl)
  · rw [List.getElem?_eq_getElem hj]
    simp only []
    refine ⟨rfl, by simp only [List.map_set]; rfl, ?_⟩
    exact (kp_setC (S := S) (d' := { S.cs[j] with snd := S.cs[j].snd ++ [i] }) (List.getElem?_eq_getElem hj) rfl).cs
theorem recv_kp (S : PS κ) (i j : Nat) (k : κ) (hj : j < S.cs.length) : KpI i (some k) S (S.recv i j k) := by
  unfold PS.recv
  simp only []
  split
  · exact (tryRecv_kp S j).to (kp_set (St.rdyR k _ _) _ _ rfl)
  · rw [List.getElem?_eq_getElem hj]
    simp only []
    refine ⟨rfl, by simp only [List.map_set]; rfl, ?_⟩
    exact (kp_setC (S := S) (d' := { S.cs[j] with rcv := S.cs[j].rcv ++ [i] }) (List.getElem?_eq_getElem hj) rfl).cs
theorem yield_kp (S : PS κ) (i : Nat) (k : κ) : KpI i (some k) S (S.yield i k) := kp_set (St.rdyY k) _ _ rfl
theorem start_kp (S : PS κ) (i : Nat) (z : Int) : KpI i none S (S.start i z) := kp_set St.run _ _ rfl
theorem endTurn_kp (S : PS κ) (i : Nat) : KpS S (S.endTurn i) := by
  unfold PS.endTurn
  split
  · rename_i h; exact kp_woke h rfl
  · exact .refl _
theorem KpI.csl (h : KpI i o S T) : T.cs.length = S.cs.length := by
  have := congrArg List.length h.cs
  simpa using this
theorem KpI.stl (h : KpI i o S T) : T.sts.length = S.sts.length := by
  have := congrArg List.length h.key
  simpa using this
end
theorem act16_kp (S : PS K16) (i tb prog pos : Nat) (d : Do5) (hd : 0 ≤ d.c ∧ d.c < S.cs.length) (hn : (S.sts.map St.key)[i]? = some none) : ∃ o, (o = none ∨ ∃ x, o = some (k16 tb prog pos x)) ∧ KpI i o S (act16 S i tb prog pos d) := by
  have hj : d.c.toNat < S.cs.length := by omega
  unfold act16
  split
  · exact ⟨_, .inr ⟨_, rfl⟩, yield_kp _ _ _⟩
  split
  · exact ⟨_, .inr ⟨_, rfl⟩, send_kp _ _ _ _ _ hj⟩
  split
  · exact ⟨_, .inr ⟨_, rfl⟩, recv_kp _ _ _ _ hj⟩
  split
  · exact ⟨_, .inr ⟨_, rfl⟩, (close_kp _ _).to (yield_kp _ _ _)⟩
  split
  · exact ⟨_, .inr ⟨_, rfl⟩, (trySend_kp _ _ _).to (yield_kp _ _ _)⟩
  split
  · exact ⟨_, .inr ⟨_, rfl⟩, (tryRecv_kp _ _).to (yield_kp _ _ _)⟩
  · exact ⟨none, .inl rfl, rfl, (set_same hn).symm, rfl⟩
/-- a turn -/
def St.told : St K16 → To
  | .rdyS _ ok => ⟨0, 0, ok⟩
  | .rdyR _ v ok => ⟨0, v, ok⟩
  | .rdyY k => k.told
  | _ => ⟨0, 0, false⟩
def doAt16 (P : List (List Do5)) (prog pos : Nat) : Do5 := match P[prog]? with
  | none => do0
  | some d => (d[pos]?).getD do0
abbrev T16 := PS K16 × List Ev5
def turn16 (P : List (List Do5)) (T : T16) (i : Nat) (k : K16) (x : To) (z : Int) : T16 :=
  ((act16 (T.1.start i z) i k.tb k.prog k.pos (doAt16 P k.prog k.pos)).endTurn i, T.2 ++ [⟨i, k.pos, x.c, x.v, x.ok⟩])
def step16 (P : List (List Do5)) (T : T16) (p : Int) : Option T16 := match T.1.line[(p % T.1.line.length).toNat]? with
  | none => none
  | some z => match T.1.sts[z.toNat]? with
    | none => none
    | some s => match s.key with
      | none => none
      | some k => some (turn16 P T z.toNat k s.told (p % T.1.line.length))
structure Inv16 (P : List (List Do5)) (cl : List (Nat × Int)) (tl : List Nat) (T : T16) : Prop where
  cs : T.1.cs.map C16.cbz = cl
  tbs : T.1.tbs = tl
  len : T.1.sts.length = P.length
  lent : tl.length = P.length
  key : ∀ (i : Nat) k, (T.1.sts.map St.key)[i]? = some (some k) → tl[i]? = some k.tb ∧ k.prog = i ∧ k.pos ≤ T.2.length
theorem Inv16.turn {P : List (List Do5)} {cl : List (Nat × Int)} {tl : List Nat} {T : T16} (h : Inv16 P cl tl T) {i : Nat} {s : St K16} {k : K16} (hs : T.1.sts[i]? = some s) (hk : s.key = some k) (hP : ∀ y ∈ P, ∀ d ∈ y, 0 ≤ d.c ∧ d.c < cl.length) (hc : 0 < cl.length) (x : To) (z : Int) : Inv16 P cl tl (turn16 P T i k x z) := by
  have hcl : T.1.cs.length = cl.length := by rw [← h.cs, List.length_map]
  obtain ⟨e1, e2, e3⟩ := h.key i k (by rw [List.getElem?_map, hs]; exact congrArg some hk)
  have hil := (List.getElem?_eq_some_iff.1 hs).1
  have k1 := start_kp T.1 i z
  have hd : 0 ≤ (doAt16 P k.prog k.pos).c ∧ (doAt16 P k.prog k.pos).c < (T.1.start i z).cs.length := by
    rw [k1.csl, hcl]
    unfold doAt16
    split
    · exact ⟨Int.le_refl _, by show (0 : Int) < _; omega⟩
    · rename_i y hy
      cases hq : y[k.pos]? with
      | none => exact ⟨Int.le_refl _, by show (0 : Int) < _; omega⟩
      | some q => exact hP y (List.mem_of_getElem? hy) q (List.mem_of_getElem? hq)
  obtain ⟨o, ho, k2⟩ := act16_kp (T.1.start i z) i k.tb k.prog k.pos _ hd (by
    rw [k1.key, List.getElem?_set_self (by simpa using hil)])
  have k3 := (k1.to k2).then (endTurn_kp _ i)
  refine ⟨k3.cs.trans h.cs, k3.tbs.trans h.tbs, k3.stl.trans h.len, h.lent, fun j k' hk' => ?_⟩
  have hl : (turn16 P T i k x z).2.length = T.2.length + 1 := by unfold turn16; simp
  rw [hl]
  have hk' : ((turn16 P T i k x z).1.sts.map St.key)[j]? = some (some k') := hk'
  rw [show (turn16 P T i k x z).1.sts.map St.key = _ from k3.key] at hk'
  by_cases e : j = i
  · subst e
    rw [List.getElem?_set_self (by simpa using hil)] at hk'
    have hk' := Option.some.inj hk'
    rcases ho with ho | ⟨y, ho⟩
    · rw [ho] at hk'; cases hk'
    · rw [ho] at hk'
      cases hk'
      exact ⟨e1, e2, by show k.pos + 1 ≤ _; omega⟩
  · rw [List.getElem?_set_ne (Ne.symm e)] at hk'
    obtain ⟨f1, f2, f3⟩ := h.key j k' hk'
    exact ⟨f1, f2, by omega⟩
end Go.Proofs.YtbaidcnalkdhgaaGreat
