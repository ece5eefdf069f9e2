/- Layer 15: a runtime as an assertion; its calls in any surroundings. Layer 16: channels and tickets as assertions; who waits in vain is taken out. Layer 16: what can be seen of a channel; a send is tried. Layer 16: a receive is tried. Layer 16: who waits. Layer 16: who waits to receive; who is forgotten. Layer 16: channels and tickets are made; what can be done. Layer 16: what can be done at a channel now. Layer 16: a channel is closed. -/
import Derived.Test.YtbaidcnalkdhgaaGreatWe
import Derived.Test.YtbaidcnalkdhgaaGreatEq
import Derived.Test.YtbaidcnalkdhgaaGreatEy
set_option maxRecDepth 100000
namespace Go.Proofs.YtbaidcnalkdhgaaGreat
open Go Go.Eng
def RtA (rb : Nat) (now : Option Nat) (rest : Int) (ready : List Int) (ts : List (Nat × TK)) : Asr := fun h F => ∃ (w : World) (sb qb : Nat) (lv tv : Value), w.heap = h ∧ Rt No w rb sb qb lv tv now rest ready ts ∧ F = RtB rb sb qb lv tv ts
section
variable {Z : Nat → Prop} {w w' w0 : World} {F F0 : Nat → Prop} {rb sb qb : Nat} {lv tv : Value} {now : Option Nat} {rest : Int} {ready : List Int} {ts : List (Nat × TK)} {R : Asr}
theorem Rt.heap (e : w.heap = w'.heap) (s : Rt Z w rb sb qb lv tv now rest ready ts) : Rt Z w' rb sb qb lv tv now rest ready ts :=
  ⟨e ▸ s.hr, ⟨e ▸ s.sc.hs, e ▸ s.sc.hb, e ▸ s.sc.ho, s.sc.one⟩, e ▸ s.ht, fun i x hx => e ▸ s.tk i x hx, s.one, s.hn, fun k hk => e ▸ s.zs k hk, s.zn⟩
theorem Rt.zto {Z' : Nat → Prop} (s : Rt Z w rb sb qb lv tv now rest ready ts) (h1 : ∀ k, Z' k → k < w.heap.size) (h2 : ∀ k, RtB rb sb qb lv tv ts k → ¬ Z' k) : Rt Z' w rb sb qb lv tv now rest ready ts :=
  ⟨s.hr, s.sc, s.ht, s.tk, s.one, s.hn, h1, h2⟩
instance instLclRtA (rb : Nat) (now : Option Nat) (rest : Int) (ready : List Int) (ts : List (Nat × TK)) : Lcl (RtA rb now rest ready ts) := ⟨by
  rintro h F ⟨w, sb, qb, lv, tv, rfl, s, rfl⟩ k hk
  exact s.lt k hk, by
  rintro w1 w2 F G ⟨w, sb, qb, lv, tv, e, s, rfl⟩ hf hn
  have s1 := s.heap e
  have s2 : Rt (fun k => k < w1.heap.size ∧ G k) w1 rb sb qb lv tv now rest ready ts := s1.zto (fun k h => h.1) (fun k h1 h2 => hn k h1 h2.2)
  exact ⟨w2, sb, qb, lv, tv, rfl, s2.fr (hf.mono (fun k hk h => ⟨hk, h⟩)) (fun k h => h.elim), rfl⟩⟩
/-- what is foreign to a piece of memory -/
def Zo (w : World) (F : Nat → Prop) (k : Nat) : Prop := k < w.heap.size ∧ ¬ F k
theorem RtA.mk {rb' sb' qb' : Nat} {lv' tv' : Value} {now' : Option Nat} {rest' : Int} {ready' : List Int} {ts' : List (Nat × TK)} (s : Rt (Zo w F) w' rb' sb' qb' lv' tv' now' rest' ready' ts') (hf : Fr (fun k => ¬ Zo w F k) w w') : At (RtA rb' now' rest' ready' ts') w F w' := by
  refine ⟨RtB rb' sb' qb' lv' tv' ts', ⟨w', sb', qb', lv', tv', rfl, s.re (fun k h => h.elim), rfl⟩, hf.mono (fun k hk h => Classical.byContradiction fun h' => h ⟨hk, h'⟩), fun k hk => ?_⟩
  have := s.zn k hk
  by_cases h : F k
  · exact .inl h
  · exact .inr (Classical.byContradiction fun h' => this ⟨by omega, h⟩)
theorem RtA.mk2 {rb' sb' qb' : Nat} {lv' tv' : Value} {now' : Option Nat} {rest' : Int} {ready' : List Int} {ts' : List (Nat × TK)} {B : Asr} {FB : Nat → Prop} (b : B w'.heap FB) (hB : ∀ k, FB k → w.heap.size ≤ k) (s : Rt (fun k => Zo w F k ∨ FB k) w' rb' sb' qb' lv' tv' now' rest' ready' ts') (hf : Fr (fun k => ¬ Zo w F k) w w') : At (RtA rb' now' rest' ready' ts' * B) w F w' := by
  refine ⟨_, ⟨RtB rb' sb' qb' lv' tv' ts', FB, ⟨w', sb', qb', lv', tv', rfl, s.re (fun k h => h.elim), rfl⟩, b, fun k h1 h2 => s.zn k h1 (.inr h2), rfl⟩, hf.mono (fun k hk h => Classical.byContradiction fun h' => h ⟨hk, h'⟩), fun k hk => ?_⟩
  rcases hk with hk | hk
  · have := s.zn k hk
    by_cases h : F k
    · exact .inl h
    · exact .inr (Classical.byContradiction fun h' => this (.inl ⟨by omega, h⟩))
  · exact .inr (hB k hk)
theorem _root_.Go.Eng.At.rt [Lcl R] (S : At (RtA rb now rest ready ts * R) w0 F0 w) : ∃ (F : Nat → Prop) (sb qb : Nat) (lv tv : Value), Rt (Zo w F) w rb sb qb lv tv now rest ready ts ∧ ∀ B w', At B w F w' → At (B * R) w0 F0 w' := by
  obtain ⟨_, ⟨F1, F2, ⟨w1, sb, qb, lv, tv, e, s, rfl⟩, r, d, rfl⟩, hf, hn⟩ := S.out
  refine ⟨_, sb, qb, lv, tv, (s.heap e).zto (fun k h => h.1) (fun k h1 h2 => h2.2 h1), fun B w' hB => at_step r d hf hn hB⟩
theorem _root_.Go.Eng.At.task [Lcl R] (S : At (RtA rb now rest ready ts * R) w0 F0 w) {i : Nat} {x : Nat × TK} (hx : ts[i]? = some x) : Blk w.heap x.1 (tkL rb i x.2) 162 := by
  obtain ⟨F, sb, qb, lv, tv, s, _⟩ := S.rt
  exact s.tk i x hx
theorem rightA [Lcl R] (S : At (RtA rb now rest ready ts * R) w0 F0 w) : Rets Tryz.prog 97 #[pt rb] w fun u w' => w = w' ∧ u = .bool true := by
  obtain ⟨F, sb, qb, lv, tv, s, _⟩ := S.rt
  exact r_right s
theorem runtimeA [Lcl R] (S : At (RtA rb now rest ready ts * R) w0 F0 w) {i : Nat} {x : Nat × TK} (hx : ts[i]? = some x) : Rets Tryz.prog 134 #[pt x.1] w fun u w' => w = w' ∧ u = pt rb := t_runtime (S.task hx)
theorem yieldA [Lcl R] (S : At (RtA rb now rest ready ts * R) w0 F0 w) {i : Nat} {x} (hx : ts[i]? = some x) (f : FuncId) (cap : Array Value) (hl : ready.length ≤ 256) (hm : mayE false now x = 0) :
    Rets Tryz.prog 168 #[pt x.1, .func (.func f) #[] cap] w fun u w' => u = .int .i64 0 ∧ At (RtA rb now rest (readyL ready i) (ts.set i (x.1, { x.2 with next := ⟨.func (.func f) #[] cap, rfl⟩, said := true, parked := false })) * R) w0 F0 w' := by
  obtain ⟨F, sb, qb, lv, tv, s, up⟩ := S.rt
  refine (t_yield s hx f cap hl).mono fun u w' ⟨hu, h⟩ => ?_
  rw [hm] at hu h
  rcases h with ⟨h, _⟩ | ⟨_, lv', s', hf'⟩
  · exact absurd rfl h
  · exact ⟨hu, up _ _ (RtA.mk s' hf')⟩
theorem parkA [Lcl R] (S : At (RtA rb now rest ready ts * R) w0 F0 w) {i : Nat} {x} (hx : ts[i]? = some x) (f : FuncId) (cap : Array Value) (hm : mayE false now x = 0) :
    Rets Tryz.prog 89 #[pt x.1, .func (.func f) #[] cap] w fun u w' => u = .int .i64 0 ∧ At (RtA rb now rest ready (ts.set i (x.1, { x.2 with wake := ⟨.func (.func f) #[] cap, rfl⟩, said := true, parked := true })) * R) w0 F0 w' := by
  obtain ⟨F, sb, qb, lv, tv, s, up⟩ := S.rt
  refine (t_park s hx f cap).mono fun u w' ⟨hu, h⟩ => ?_
  rw [hm] at hu h
  rcases h with ⟨h, _⟩ | ⟨_, s', hf'⟩
  · exact absurd rfl h
  · exact ⟨hu, up _ _ (RtA.mk s' hf')⟩
theorem wakeA [Lcl R] (S : At (RtA rb now rest ready ts * R) w0 F0 w) {i : Nat} {x} (hx : ts[i]? = some x) (why : Int) (hl : ready.length ≤ 256) (hp : x.2.parked = true) :
    Rets Tryz.prog 91 #[pt x.1, .int .i64 why] w fun u w' => u = .int .i64 0 ∧ ∃ fb yb, At (RtA rb now rest (readyL ready i) (ts.set i (x.1, { x.2 with next := ⟨.func (.func 156) #[] #[pt fb, pt yb], rfl⟩, parked := false })) * (Pt fb [x.2.wake.1] 135 * (Pt yb [.int .i64 why] 3 * R))) w0 F0 w' := by
  obtain ⟨F, sb, qb, lv, tv, s, up⟩ := S.rt
  refine (t_wake s hx why hl).mono fun u w' h => ?_
  rcases h with ⟨h, _⟩ | ⟨_, hu, lv', fb, yb, hfb, hyb, b1, b2, hf', s'⟩
  · rw [hp] at h; cases h
  · refine ⟨hu, fb, yb, ?_⟩
    have h1 : (Pt fb [x.2.wake.1] 135 * Pt yb [.int .i64 why] 3) w'.heap (fun k => k = fb ∨ k = yb) := ⟨_, _, ⟨b1, rfl⟩, ⟨b2, rfl⟩, fun k e1 e2 => by subst e1; exact Blk.ne_type b1 b2 (by decide) e2, rfl⟩
    have := up _ _ (RtA.mk2 h1 (fun k hk => by rcases hk with rfl | rfl; exact hfb; exact hyb) s' hf')
    exact this.ac (by ac_rfl)
theorem readyA [Lcl R] (S : At (RtA rb now rest ready ts * R) w0 F0 w) (hl : ready.length ≤ 256) : Rets Tryz.prog 51 #[pt rb] w fun u w' => At (Ow 3 1 iE u ready * (RtA rb now rest ready ts * R)) w0 F0 w' := by
  obtain ⟨F, sb, qb, lv, tv, s, up⟩ := S.rt
  refine (r_ready s hl).mono fun u w' ⟨hf, ho, hn, h1⟩ => ?_
  exact S.gain hf ⟨_, ⟨ho, h1, rfl⟩, hn⟩
theorem parkedA [Lcl R] (S : At (RtA rb now rest ready ts * R) w0 F0 w) (hl : ts.length ≤ 1000000) : Rets Tryz.prog 105 #[pt rb] w fun u w' => At (Ow 3 1 iE u (parkedIn ts ts.length) * (RtA rb now rest ready ts * R)) w0 F0 w' := by
  obtain ⟨F, sb, qb, lv, tv, s, up⟩ := S.rt
  refine (r_parked s hl).mono fun u w' ⟨hf, ho, hn, h1⟩ => ?_
  exact S.gain hf ⟨_, ⟨ho, h1, rfl⟩, hn⟩
theorem spawnA [Lcl R] (S : At (RtA rb now rest ready ts * R) w0 F0 w) (g : FuncId) (cap : Array Value) (hl : ready.length ≤ 256) (hlt : ts.length ≤ 1000000) (ho : openIn ts ts.length < 256) :
    Rets Tryz.prog 22 #[pt rb, .func (.func g) #[] cap] w fun u w' => ∃ tb fb tx, u = .tuple #[pt tb, .int .i64 0] ∧
      At (RtA rb now rest (readyL ready ts.length) (ts ++ [(tb, newT fb tx)]) * (Pt fb [.func (.func g) #[] cap] 37 * (Pt tx [pt tb] 34 * R))) w0 F0 w' := by
  obtain ⟨F, sb, qb, lv, tv, s, up⟩ := S.rt
  refine (r_spawn s g cap hl hlt).mono fun u w' h => ?_
  rcases h with ⟨h, _⟩ | ⟨_, tb, fb, tx, lv', tv', hu, h1, h2, h3, b1, b2, hf', s'⟩
  · omega
  · refine ⟨tb, fb, tx, hu, ?_⟩
    have h5 : (Pt fb [.func (.func g) #[] cap] 37 * Pt tx [pt tb] 34) w'.heap (fun k => k = fb ∨ k = tx) := ⟨_, _, ⟨b1, rfl⟩, ⟨b2, rfl⟩, fun k e1 e2 => by subst e1; exact Blk.ne_type b1 b2 (by decide) e2, rfl⟩
    have := up _ _ (RtA.mk2 h5 (fun k hk => by rcases hk with rfl | rfl; exact h2; exact h3) s' hf')
    exact this.ac (by ac_rfl)
theorem stepNA [Lcl R] (S : At (RtA rb none rest [] ts * R) w0 F0 w) (p : Int) (hp : 0 ≤ p ∧ p ≤ 18446744073709551615) : Rets Tryz.prog 24 #[pt rb, .int .u64 p] w fun u w' => w = w' ∧ u = .bool false := by
  obtain ⟨F, sb, qb, lv, tv, s, up⟩ := S.rt
  exact r_step_none s p hp
theorem stepA [Lcl R] (S : At (RtA rb none rest ready ts * R) w0 F0 w) (p : Int) (hp : 0 ≤ p ∧ p ≤ 18446744073709551615) (hl : ready.length ≤ 256) {i : Nat} {x : Nat × TK} (hid : ready[(p % ready.length).toNat]? = some (i : Int)) (hx : ts[i]? = some x)
    {g : FuncId} [FnOk Tryz.prog g] (cap : List Value) (hnext : x.2.next.1 = .func (.func g) #[] cap.toArray) {σ : Type} (H : σ → Asr) (rest2 : σ → Int) (ready2 : σ → List Int) (ts2 : σ → List (Nat × TK)) (y : σ → TK) [∀ q, Lcl (H q)]
    (hcall : ∀ w1, At (RtA rb (some x.1) (p / ready.length) (without ready (p % ready.length)) (ts.set i (x.1, { x.2 with next := ⟨.nilFunc, rfl⟩, said := false })) * R) w0 F0 w1 → Rets Tryz.prog g cap.toArray w1 fun _ w2 => ∃ q : σ, At (RtA rb (some x.1) (rest2 q) (ready2 q) (ts2 q) * H q) w0 F0 w2 ∧ (ts2 q)[i]? = some (x.1, y q)) :
    Rets Tryz.prog 24 #[pt rb, .int .u64 p] w fun u w' => u = .bool true ∧ ∃ q : σ, At (RtA rb none 0 (ready2 q) ((ts2 q).set i (x.1, { y q with over := !(y q).said })) * H q) w0 F0 w' ∧ (ts2 q)[i]? = some (x.1, y q) := by
  obtain ⟨F, sb, qb, lv, tv, s, up⟩ := S.rt
  refine (r_step s p hp hl hid hx cap hnext (fun w2 Z2 ready2' ts2' y' => ∃ q : σ, At (RtA rb (some x.1) (rest2 q) (ready2 q) (ts2 q) * H q) w0 F0 w2 ∧ ready2' = ready2 q ∧ ts2' = ts2 q ∧ y' = y q ∧ ∃ F2, Z2 = Zo w2 F2 ∧ ∀ B w', At B w2 F2 w' → At (B * H q) w0 F0 w') (fun w1 lv1 s1 hf1 => ?_)).mono fun u w' h => ?_
  · refine (hcall w1 (up _ _ (RtA.mk s1 hf1))).mono fun _ w2 hq => ?_
    obtain ⟨q, S2, hy⟩ := hq
    obtain ⟨F2, sb2, qb2, lv2, tv2, s2, up2⟩ := S2.rt
    exact ⟨Zo w2 F2, sb2, qb2, lv2, tv2, rest2 q, ready2 q, ts2 q, y q, s2, hy, q, S2, rfl, rfl, rfl, F2, rfl, up2⟩
  · obtain ⟨hu, w2, Z2, sb2, qb2, lv2, tv2, ready2', ts2', y', ⟨q, S2, rfl, rfl, rfl, F2, rfl, up2⟩, hy, s3, hf3⟩ := h
    exact ⟨hu, q, up2 _ _ (RtA.mk s3 hf3), hy⟩
end
end Go.Proofs.YtbaidcnalkdhgaaGreat
set_option maxRecDepth 100000
namespace Go.Proofs.YtbaidcnalkdhgaaGreat
open Go Go.Eng
/-- a queue -/
def QA {α : Type} (Q T sz : Nat) (enc : α → List Value) (qb : Nat) (xs : List α) : Asr := Ex fun v : Value => Pt qb [.bool true, v] Q * Ow T sz enc v xs
instance instLclQA {α : Type} (Q T sz : Nat) (enc : α → List Value) (qb : Nat) (xs : List α) : Lcl (QA Q T sz enc qb xs) := by unfold QA; infer_instance
theorem _root_.Go.Eng.At.qa {α : Type} {Q T sz : Nat} {enc : α → List Value} {qb : Nat} {xs : List α} {R : Asr} {w0 w : World} {F0 : Nat → Prop} [Lcl R] (S : At (QA Q T sz enc qb xs * R) w0 F0 w) : ∃ v, Blk w.heap qb [.bool true, v] Q ∧ Own w.heap T sz enc v xs ∧ v.oneCell' = true ∧
    ∀ lv' xs' w', Fr (fun k => k = qb ∨ own v = some k) w w' → Blk w'.heap qb [.bool true, lv'] Q → Own w'.heap T sz enc lv' xs' → lv'.oneCell' = true → (∀ k, own lv' = some k → own v = some k ∨ w.heap.size ≤ k) → At (QA Q T sz enc qb xs' * R) w0 F0 w' := by
  obtain ⟨v, S⟩ := S.ex
  obtain ⟨_, ⟨_, F2, ⟨F3, F4, ⟨hb, rfl⟩, ⟨ho, h1, rfl⟩, d1, rfl⟩, r, d, rfl⟩, hf, hn⟩ := S.out
  refine ⟨v, hb, ho, h1, fun lv' xs' w' hf' hb' ho' hone hl => ?_⟩
  refine at_step (F1 := fun k => k = qb ∨ own v = some k) r d hf hn ?_
  refine ⟨_, ⟨lv', _, _, ⟨hb', rfl⟩, ⟨ho', hone, rfl⟩, fun k e h => ?_, rfl⟩, hf', fun k hk => ?_⟩
  · subst e
    rcases hl k h with h2 | h2
    · exact d1 k rfl h2
    · have := hb.lt; omega
  · rcases hk with h | h
    · exact .inl (.inl h)
    · exact (hl k h).imp .inr id
/-- a ticket -/
structure TKT where
  b : Nat
  fire : OV
  fired : Bool
def TkA (t : TKT) : Asr := Pt t.b [t.fire.1, .bool t.fired] 175
instance instLclTkA (t : TKT) : Lcl (TkA t) := by unfold TkA; infer_instance
def TksA (ts : List TKT) : Asr := Big (ts.map TkA)
instance instLclTksA (ts : List TKT) : Lcl (TksA ts) := by unfold TksA; infer_instance
def isF (ts : List TKT) (k : Nat) : Bool := ts.any fun t => decide (t.b = k) && t.fired
section
variable {w w' w0 : World} {F F0 : Nat → Prop} {ts : List TKT} {R R' : Asr}
theorem tks_pick {i : Nat} {t : TKT} (h : ts[i]? = some t) : TksA ts = TkA t * TksA (ts.eraseIdx i) := big_map_pick TkA h
theorem tks_put {i : Nat} (t : TKT) (h : i < ts.length) : TksA (ts.set i t) = TkA t * TksA (ts.eraseIdx i) := big_map_put TkA t h
theorem _root_.Go.Eng.At.tk (S : At (TksA ts * R) w0 F0 w) {t : TKT} (ht : t ∈ ts) : Blk w.heap t.b [t.fire.1, .bool t.fired] 175 := by
  obtain ⟨i, hi, e⟩ := List.getElem_of_mem ht
  have h : ts[i]? = some t := by rw [List.getElem?_eq_getElem hi, e]
  exact (S.ac (show _ = TkA t * (TksA (ts.eraseIdx i) * R) by rw [tks_pick h, star_assoc])).blk
theorem _root_.Go.Eng.At.tk' (S : At (TksA ts * R * R') w0 F0 w) {t : TKT} (ht : t ∈ ts) : Blk w.heap t.b [t.fire.1, .bool t.fired] 175 := (S.ac (star_assoc _ _ _)).tk ht
/-- tickets of one block are one ticket -/
theorem _root_.Go.Eng.At.tkF (S : At (TksA ts * R * R') w0 F0 w) : ∀ t ∈ ts, isF ts t.b = t.fired := fun t ht => by
  unfold isF
  cases hf : t.fired with
  | true => exact List.any_eq_true.2 ⟨t, ht, by simp [hf]⟩
  | false =>
    refine List.any_eq_false.2 (fun u hu => ?_)
    by_cases e : u.b = t.b
    · have h1 := S.tk' hu
      have h2 := S.tk' ht
      rw [e] at h1
      have h3 := (h1.inj h2).1
      simp only [List.cons.injEq, Value.bool.injEq, and_true] at h3
      simp [h3.2, hf]
    · simp [e]
end
/-- a channel -/
structure CH where
  cb : Nat
  bq : Nat
  sq : Nat
  rq : Nat
  size : Int
  buf : List Int
  snd : List SE
  rcv : List RE
  closed : Bool
def CH.cleaned (c : CH) (ts : List TKT) : CH := { c with snd := c.snd.filter fun x => !isF ts x.k, rcv := c.rcv.filter fun x => !isF ts x.k }
def chL_i (rb : Nat) (c : CH) : List Value := [pt rb, .int .i64 c.size, pt c.bq, pt c.sq, pt c.rq, .bool c.closed]
def ChA_i (rb : Nat) (c : CH) : Asr := Pt c.cb (chL_i rb c) 148 * (QA 223 3 1 iE c.bq c.buf * (QA 226 154 3 seE c.sq c.snd * QA 229 157 2 reE c.rq c.rcv))
instance instLclChA_i (rb : Nat) (c : CH) : Lcl (ChA_i rb c) := by unfold ChA_i; infer_instance
section
variable {w w' w0 : World} {F F0 : Nat → Prop} {rb : Nat} {c : CH} {ts : List TKT} {R : Asr}
theorem ch_blk_i [Lcl R] (S : At (ChA_i rb c * R) w0 F0 w) : Blk w.heap c.cb (chL_i rb c) 148 :=
  (S.ac (show _ = Pt c.cb (chL_i rb c) 148 * ((QA 223 3 1 iE c.bq c.buf * (QA 226 154 3 seE c.sq c.snd * QA 229 157 2 reE c.rq c.rcv)) * R) by unfold ChA_i; ac_rfl)).blk
theorem ch_buf_i [Lcl R] (S : At (ChA_i rb c * R) w0 F0 w) : ∃ v, Blk w.heap c.bq [.bool true, v] 223 ∧ Own w.heap 3 1 iE v c.buf ∧ v.oneCell' = true ∧ ∀ lv' xs' w', Fr (fun k => k = c.bq ∨ own v = some k) w w' → Blk w'.heap c.bq [.bool true, lv'] 223 → Own w'.heap 3 1 iE lv' xs' → lv'.oneCell' = true → (∀ k, own lv' = some k → own v = some k ∨ w.heap.size ≤ k) → At (ChA_i rb { c with buf := xs' } * R) w0 F0 w' := by
  obtain ⟨v, h1, h2, h3, h4⟩ := (S.ac (show _ = QA 223 3 1 iE c.bq c.buf * (Pt c.cb (chL_i rb c) 148 * (QA 226 154 3 seE c.sq c.snd * QA 229 157 2 reE c.rq c.rcv) * R) by unfold ChA_i; ac_rfl)).qa
  exact ⟨v, h1, h2, h3, fun lv' xs' w' a b d e f => (h4 lv' xs' w' a b d e f).ac (by unfold ChA_i chL_i; ac_rfl)⟩
theorem ch_snd_i [Lcl R] (S : At (ChA_i rb c * R) w0 F0 w) : ∃ v, Blk w.heap c.sq [.bool true, v] 226 ∧ Own w.heap 154 3 seE v c.snd ∧ v.oneCell' = true ∧ ∀ lv' xs' w', Fr (fun k => k = c.sq ∨ own v = some k) w w' → Blk w'.heap c.sq [.bool true, lv'] 226 → Own w'.heap 154 3 seE lv' xs' → lv'.oneCell' = true → (∀ k, own lv' = some k → own v = some k ∨ w.heap.size ≤ k) → At (ChA_i rb { c with snd := xs' } * R) w0 F0 w' := by
  obtain ⟨v, h1, h2, h3, h4⟩ := (S.ac (show _ = QA 226 154 3 seE c.sq c.snd * (Pt c.cb (chL_i rb c) 148 * (QA 223 3 1 iE c.bq c.buf * QA 229 157 2 reE c.rq c.rcv) * R) by unfold ChA_i; ac_rfl)).qa
  exact ⟨v, h1, h2, h3, fun lv' xs' w' a b d e f => (h4 lv' xs' w' a b d e f).ac (by unfold ChA_i chL_i; ac_rfl)⟩
theorem ch_rcv_i [Lcl R] (S : At (ChA_i rb c * R) w0 F0 w) : ∃ v, Blk w.heap c.rq [.bool true, v] 229 ∧ Own w.heap 157 2 reE v c.rcv ∧ v.oneCell' = true ∧ ∀ lv' xs' w', Fr (fun k => k = c.rq ∨ own v = some k) w w' → Blk w'.heap c.rq [.bool true, lv'] 229 → Own w'.heap 157 2 reE lv' xs' → lv'.oneCell' = true → (∀ k, own lv' = some k → own v = some k ∨ w.heap.size ≤ k) → At (ChA_i rb { c with rcv := xs' } * R) w0 F0 w' := by
  obtain ⟨v, h1, h2, h3, h4⟩ := (S.ac (show _ = QA 229 157 2 reE c.rq c.rcv * (Pt c.cb (chL_i rb c) 148 * (QA 223 3 1 iE c.bq c.buf * QA 226 154 3 seE c.sq c.snd) * R) by unfold ChA_i; ac_rfl)).qa
  exact ⟨v, h1, h2, h3, fun lv' xs' w' a b d e f => (h4 lv' xs' w' a b d e f).ac (by unfold ChA_i chL_i; ac_rfl)⟩
theorem ch_right_i (w : World) (c : CH) (rb : Nat) (hb : Blk w.heap c.cb (chL_i rb c) 148) : Rets Tryz.prog 87 #[pt c.cb] w fun u w' => w = w' ∧ u = .bool true := by
  rw [chL_i] at hb
  refine rets_of Tryz.func87 rfl Tryz.ntmps87 rfl rfl (by kernel_rfl) ?_
  (apply vC_seq; apply vC_region; (refine vE rfl ?_); apply vL_nil; apply seqP_normal; apply vC_seq; apply vC_region; (iterate 15 (first | (refine vE rfl ?_) | ((with_reducible apply vL_val); (case h => ((with_reducible apply opv_loadb1); exact rfl; exact rfl; assumption; exact rfl))) | (refine vL_val (opv_fieldAddr rfl) ?_) | ((with_reducible apply vL_val); (case h => ((with_reducible apply opv_neq_pnil); exact rfl; exact rfl; (simp; done)))) | ((with_reducible apply vL_wanted); exact rfl))); apply vL_nil; apply seqP_normal; apply vC_ret)
  (apply ret1; (case h1 => (exact norm_eq rfl)))
  exact ⟨rfl, rfl⟩
theorem clean1_i (x : SE) (t : TKT) (w : World) (hb : Blk w.heap t.b [t.fire.1, .bool t.fired] 175) (hx : x.k = t.b) : Rets Tryz.prog 160 #[.agg (seE x).toArray] w fun u w' => u = .bool t.fired ∧ Fr No w w' := by
  have hxf := x.f.2
  refine rets_of Tryz.func160 rfl Tryz.ntmps160 rfl rfl (by kernel_rfl) ?_
  ((apply vC_seq; apply vC_region)); (((refine vL_val (opw_boxn rfl) ?_); (refine vE rfl ?_); apply vL_nil)); with_reducible apply seqP_normal
  ((apply vC_seq; apply vC_region))
  refine vL_gen (fun w' => Fr No w w' ∧ Blk w'.heap w.heap.size (seE x) 154) ⟨by (apply Fr.alloc; exact Fr.refl _ _), Blk.as inferInstance rfl⟩ ?_
  rintro w1 ⟨hf1, h1⟩
  generalize w.heap.size = b1 at h1 ⊢
  have hb1 := hb.frN hf1
  rw [seE, hx] at h1
  ((iterate 6 (first | (refine vE rfl ?_) | ((with_reducible apply vL_val); (case h => ((with_reducible apply opv_loadb1); exact rfl; exact rfl; assumption; exact rfl))) | (refine vL_val (opv_fieldAddr rfl) ?_))); apply vL_nil; apply seqP_normal; apply vC_ret)
  (apply ret1; (case h1 => (exact norm_eq rfl)))
  exact ⟨rfl, hf1⟩
theorem clean2_i (x : RE) (t : TKT) (w : World) (hb : Blk w.heap t.b [t.fire.1, .bool t.fired] 175) (hx : x.k = t.b) : Rets Tryz.prog 161 #[.agg (reE x).toArray] w fun u w' => u = .bool t.fired ∧ Fr No w w' := by
  have hxf := x.f.2
  refine rets_of Tryz.func161 rfl Tryz.ntmps161 rfl rfl (by kernel_rfl) ?_
  ((apply vC_seq; apply vC_region)); (((refine vL_val (opw_boxn rfl) ?_); (refine vE rfl ?_); apply vL_nil)); with_reducible apply seqP_normal
  ((apply vC_seq; apply vC_region))
  refine vL_gen (fun w' => Fr No w w' ∧ Blk w'.heap w.heap.size (reE x) 157) ⟨by (apply Fr.alloc; exact Fr.refl _ _), Blk.as inferInstance rfl⟩ ?_
  rintro w1 ⟨hf1, h1⟩
  generalize w.heap.size = b1 at h1 ⊢
  have hb1 := hb.frN hf1
  rw [reE, hx] at h1
  ((iterate 6 (first | (refine vE rfl ?_) | ((with_reducible apply vL_val); (case h => ((with_reducible apply opv_loadb1); exact rfl; exact rfl; assumption; exact rfl))) | (refine vL_val (opv_fieldAddr rfl) ?_))); apply vL_nil; apply seqP_normal; apply vC_ret)
  (apply ret1; (case h1 => (exact norm_eq rfl)))
  exact ⟨rfl, hf1⟩
theorem ch_clean_i [Lcl R] (S : At (ChA_i rb c * (TksA ts * R)) w0 F0 w) (h1 : ∀ x ∈ c.snd, ∃ t ∈ ts, x.k = t.b) (h2 : ∀ x ∈ c.rcv, ∃ t ∈ ts, x.k = t.b) :
    Rets Tryz.prog 101 #[pt c.cb] w fun u w' => At (ChA_i rb (c.cleaned ts) * (TksA ts * R)) w0 F0 w' := by
  have hcb := ch_blk_i S
  obtain ⟨v1, b1, o1, n1, up1⟩ := ch_snd_i S
  have htk : ∀ t ∈ ts, Blk w.heap t.b [t.fire.1, .bool t.fired] 175 := fun t ht => S.swap.tk' ht
  have hfin := S.swap.tkF
  rw [chL_i] at hcb
  refine rets_of Tryz.func101 rfl Tryz.ntmps101 rfl rfl (by kernel_rfl) ?_
  (apply vC_seq; apply vC_region; (iterate 2 ((refine vE rfl ?_))); (refine vL_val (opv_fieldAddr rfl) ?_); ((apply vL_val); (case h => ((apply opv_loadb1); exact rfl; exact rfl; assumption; exact rfl))))
  refine vL_callF rfl (q_drop_snd c.sq v1 (fun x => isF ts x.k) c.snd w 160 [] b1 o1 n1 (fun x w1 hx hf => by
    obtain ⟨t, ht, e⟩ := h1 x hx
    have hb := (htk t ht).fr hf (fun h => Own.ne_blk o1 (htk t ht) (by decide) h)
    rw [e, hfin t ht]
    exact clean1_i x t w1 hb e)) rfl ?_
  rintro _ w1 ⟨lv1, hf1, hb1, ho1, hown1, hone1, rfl⟩
  have S1 := up1 _ _ _ hf1 hb1 ho1 hone1 (fun k hk => .inl (by rw [← hown1]; exact hk))
  have hcb1 := ch_blk_i S1
  obtain ⟨v2, b2, o2, n2, up2⟩ := ch_rcv_i S1
  have htk1 : ∀ t ∈ ts, Blk w1.heap t.b [t.fire.1, .bool t.fired] 175 := fun t ht => S1.swap.tk' ht
  rw [chL_i] at hcb1
  (apply vL_nil; apply seqP_normal; apply vC_region; (iterate 2 ((refine vE rfl ?_))); (refine vL_val (opv_fieldAddr rfl) ?_); ((apply vL_val); (case h => ((apply opv_loadb1); exact rfl; exact rfl; assumption; exact rfl))))
  refine vL_callF rfl (q_drop_rcv c.rq v2 (fun x => isF ts x.k) c.rcv w1 161 [] b2 o2 n2 (fun x w2 hx hf => by
    obtain ⟨t, ht, e⟩ := h2 x hx
    have hb := (htk1 t ht).fr hf (fun h => Own.ne_blk o2 (htk1 t ht) (by decide) h)
    rw [e, hfin t ht]
    exact clean2_i x t w2 hb e)) rfl ?_
  rintro _ w2 ⟨lv2, hf2, hb2, ho2, hown2, hone2, rfl⟩
  have S2 := up2 _ _ _ hf2 hb2 ho2 hone2 (fun k hk => .inl (by rw [← hown2]; exact hk))
  (apply vL_nil)
  (first | apply ret0 | apply ret0n)
  exact S2
end
end Go.Proofs.YtbaidcnalkdhgaaGreat
set_option maxRecDepth 100000
namespace Go.Proofs.YtbaidcnalkdhgaaGreat
open Go Go.Eng
section
variable {w w' w0 : World} {F F0 : Nat → Prop} {rb : Nat} {c : CH} {ts : List TKT} {R : Asr}
theorem ch_len_i [Lcl R] (S : At (ChA_i rb c * R) w0 F0 w) : Rets Tryz.prog 26 #[pt c.cb] w fun u w' => w = w' ∧ u = .int .i64 c.buf.length := by
  have hcb := ch_blk_i S
  have hr := ch_right_i w c rb hcb
  obtain ⟨v1, b1, o1, n1, up1⟩ := ch_buf_i S
  rw [chL_i] at hcb
  refine rets_of Tryz.func26 rfl Tryz.ntmps26 rfl rfl (by kernel_rfl) ?_
  (apply vC_seq; apply vC_region; (refine vE rfl ?_); apply vL_nil; apply seqP_normal; (iterate 2 (apply vC_seq)); apply vC_region; (refine vE rfl ?_))
  refine vL_callF rfl (hr) rfl ?_
  rintro _ _ ⟨rfl, rfl⟩
  ((refine vL_val (opv_not rfl) ?_); apply vL_nil; apply seqP_normal; ((apply vC_cond_false); exact rfl); apply vC_skip; apply seqP_normal; apply vC_seq; apply vC_region; (iterate 2 ((refine vE rfl ?_))); (refine vL_val (opv_fieldAddr rfl) ?_); ((apply vL_val); (case h => ((apply opv_loadb1); exact rfl; exact rfl; assumption; exact rfl))))
  refine vL_callF rfl (q_len_int c.bq v1 c.buf w b1 o1) rfl ?_
  rintro _ _ ⟨rfl, rfl⟩
  ((refine vE rfl ?_); apply vL_nil; apply seqP_normal; apply vC_ret)
  (apply ret1; (case h1 => (exact norm_eq rfl)))
  exact ⟨rfl, rfl⟩
theorem ch_cap_i [Lcl R] (S : At (ChA_i rb c * R) w0 F0 w) : Rets Tryz.prog 81 #[pt c.cb] w fun u w' => w = w' ∧ u = .int .i64 c.size := by
  have hcb := ch_blk_i S
  have hr := ch_right_i w c rb hcb
  rw [chL_i] at hcb
  refine rets_of Tryz.func81 rfl Tryz.ntmps81 rfl rfl (by kernel_rfl) ?_
  (apply vC_seq; apply vC_region; (refine vE rfl ?_); apply vL_nil; apply seqP_normal; (iterate 2 (apply vC_seq)); apply vC_region; (refine vE rfl ?_))
  refine vL_callF rfl (hr) rfl ?_
  rintro _ _ ⟨rfl, rfl⟩
  ((refine vL_val (opv_not rfl) ?_); apply vL_nil; apply seqP_normal; ((apply vC_cond_false); exact rfl); apply vC_skip; apply seqP_normal; apply vC_seq; apply vC_region; (iterate 2 ((refine vE rfl ?_))); (refine vL_val (opv_fieldAddr rfl) ?_); ((apply vL_val); (case h => ((apply opv_loadb1); exact rfl; exact rfl; assumption; exact rfl))); (refine vE rfl ?_); apply vL_nil; apply seqP_normal; apply vC_ret)
  (apply ret1; (case h1 => (exact norm_eq rfl)))
  exact ⟨rfl, rfl⟩
theorem ch_closed_i [Lcl R] (S : At (ChA_i rb c * R) w0 F0 w) : Rets Tryz.prog 31 #[pt c.cb] w fun u w' => w = w' ∧ u = .bool c.closed := by
  have hcb := ch_blk_i S
  have hr := ch_right_i w c rb hcb
  rw [chL_i] at hcb
  refine rets_of Tryz.func31 rfl Tryz.ntmps31 rfl rfl (by kernel_rfl) ?_
  (apply vC_seq; apply vC_region; (refine vE rfl ?_); apply vL_nil; apply seqP_normal; apply vC_seq; apply vC_region; (refine vE rfl ?_))
  refine vL_callF rfl (hr) rfl ?_
  rintro _ _ ⟨rfl, rfl⟩
  ((iterate 11 (first | (refine vE rfl ?_) | ((with_reducible apply vL_val); (case h => ((with_reducible apply opv_loadb1); exact rfl; exact rfl; assumption; exact rfl))) | (refine vL_val (opv_fieldAddr rfl) ?_) | ((with_reducible apply vL_wanted); exact rfl))); apply vL_nil; apply seqP_normal; apply vC_ret)
  (apply ret1; (case h1 => (exact norm_eq rfl)))
  exact ⟨rfl, rfl⟩
theorem tk_fire [Lcl R] {i : Nat} {t : TKT} (S : At (TksA ts * R) w0 F0 w) (ht : ts[i]? = some t) : At (TksA (ts.set i { t with fired := true }) * R) w0 F0 (w.setRow t.b [t.fire.1, .bool true].toArray) := by
  have hi := (List.getElem?_eq_some_iff.1 ht).1
  have S1 : At (Pt t.b [t.fire.1, .bool t.fired] 175 * (TksA (ts.eraseIdx i) * R)) w0 F0 w := S.ac (by rw [tks_pick ht, star_assoc]; rfl)
  exact (S1.set (cs' := [t.fire.1, .bool true])).ac (by rw [tks_put _ hi, star_assoc]; rfl)
theorem ch_trysend_i [Lcl R] {B : Value → Asr} (v : Int) (h1 : ∀ x ∈ c.snd, ∃ t ∈ ts, x.k = t.b) (h2 : ∀ x ∈ c.rcv, ∃ t ∈ ts, x.k = t.b) (hbig : c.buf.length ≤ 1000)
    (hc : c.closed = true → ∀ h F, (ChA_i rb (c.cleaned ts) * (TksA ts * R)) h F → B (.tuple #[.bool false, .bool true]) h F)
    (hr : c.closed = false → ∀ x r, (c.cleaned ts).rcv = x :: r → ∃ (i : Nat) (t : TKT) (g g2 : FuncId) (cap cap2 : List Value) (Mid End : Asr), ts[i]? = some t ∧ x.k = t.b ∧ Nonempty (FnOk Tryz.prog g) ∧ Nonempty (FnOk Tryz.prog g2) ∧ x.f.1 = .func (.func g) #[] cap.toArray ∧ t.fire.1 = .func (.func g2) #[] cap2.toArray ∧
      Sp Tryz.prog g (.int .i64 v :: .bool true :: cap).toArray (ChA_i rb { c.cleaned ts with rcv := r } * (TksA (ts.set i { t with fired := true }) * R)) (fun _ => Mid) ∧ (∀ h F, Mid h F → Blk h t.b [t.fire.1, .bool true] 175) ∧ Sp Tryz.prog g2 cap2.toArray Mid (fun _ => End) ∧ ∀ h F, End h F → B (.tuple #[.bool true, .bool true]) h F)
    (hf : c.closed = false → (c.cleaned ts).rcv = [] → (c.buf.length : Int) = c.size → ∀ h F, (ChA_i rb (c.cleaned ts) * (TksA ts * R)) h F → B (.tuple #[.bool false, .bool false]) h F)
    (hb : c.closed = false → (c.cleaned ts).rcv = [] → (c.buf.length : Int) ≠ c.size → ∀ h F, (ChA_i rb { c.cleaned ts with buf := c.buf ++ [v] } * (TksA ts * R)) h F → B (.tuple #[.bool true, .bool true]) h F) :
    Sp Tryz.prog 33 #[pt c.cb, .int .i64 v] (ChA_i rb c * (TksA ts * R)) B := by
  intro w F hA
  have S : At (ChA_i rb c * (TksA ts * R)) w F w := At.init hA
  have hr0 := ch_right_i w c rb (ch_blk_i S)
  refine rets_of Tryz.func33 rfl Tryz.ntmps33 rfl rfl (by kernel_rfl) ?_
  (apply vC_seq; apply vC_region; (iterate 2 ((refine vE rfl ?_))); apply vL_nil; apply seqP_normal; (iterate 2 (apply vC_seq)); apply vC_region; (refine vE rfl ?_))
  refine vL_callF rfl (hr0) rfl ?_
  rintro _ _ ⟨rfl, rfl⟩
  ((refine vL_val (opv_not rfl) ?_); apply vL_nil; apply seqP_normal; ((apply vC_cond_false); exact rfl); apply vC_skip; apply seqP_normal; apply vC_seq; apply vC_region; (refine vE rfl ?_))
  refine vL_callF rfl (ch_clean_i S h1 h2) rfl ?_
  intro _ w1 S1
  have hcb1 := ch_blk_i S1
  rw [chL_i] at hcb1
  have ecl : (c.cleaned ts).closed = c.closed := rfl
  have esz : (c.cleaned ts).size = c.size := rfl
  have ebf : (c.cleaned ts).buf = c.buf := rfl
  generalize hcc : c.cleaned ts = d at *
  have ecb : d.cb = c.cb := by rw [← hcc]; rfl
  rw [ecb, ecl] at hcb1
  cases hcl : c.closed with
  | true =>
    rw [hcl] at hcb1
    (apply vL_nil; apply seqP_normal; (iterate 2 (apply vC_seq)); apply vC_region; (iterate 2 ((refine vE rfl ?_))); (refine vL_val (opv_fieldAddr rfl) ?_); ((apply vL_val); (case h => ((apply opv_loadb1); exact rfl; exact rfl; assumption; exact rfl))); apply vL_nil; apply seqP_normal; ((apply vC_cond_true); exact rfl); apply vC_seq; apply vC_region; (iterate 2 ((refine vE rfl ?_))); apply vL_nil; apply seqP_normal; apply vC_ret; apply seqP_ret)
    (apply ret2; (case h1 => (exact norm_eq rfl)); (case h2 => (exact norm_eq rfl)))
    exact S1.weak (hc hcl)
  | false =>
  rw [hcl] at hcb1
  obtain ⟨v2, b2, o2, n2, up2⟩ := ch_rcv_i S1
  (apply vL_nil; apply seqP_normal; (iterate 2 (apply vC_seq)); apply vC_region; (iterate 2 ((refine vE rfl ?_))); (refine vL_val (opv_fieldAddr rfl) ?_); ((apply vL_val); (case h => ((apply opv_loadb1); exact rfl; exact rfl; assumption; exact rfl))); apply vL_nil; apply seqP_normal; ((apply vC_cond_false); exact rfl); apply vC_skip; apply seqP_normal; (iterate 2 (apply vC_seq)); apply vC_region; (iterate 2 ((refine vE rfl ?_))); (refine vL_val (opv_fieldAddr rfl) ?_); ((apply vL_val); (case h => ((apply opv_loadb1); exact rfl; exact rfl; assumption; exact rfl))))
  refine vL_callF rfl (q_pop_rcv d.rq v2 d.rcv w1 b2 o2 n2) rfl ?_
  rintro _ w2 ⟨lv', xs', hf2, hb2, ho2, hown2, hone2, ⟨x, hx, rfl⟩ | ⟨hx, rfl, rfl⟩⟩
  · have S2 := up2 _ _ _ hf2 hb2 ho2 hone2 (fun k hk => .inl (by rw [← hown2]; exact hk))
    obtain ⟨i, t, g, g2, cap, cap2, Mid, End, ht, hxk, ⟨hg⟩, ⟨hg2⟩, hfv, hfire, spg, hmid, spf, hB⟩ := hr hcl x xs' hx
    have hxf := x.f.2
    (((iterate 3 ((refine vE rfl ?_))); ((apply vL_val); (case h => (apply opw_alloc))); ((apply vL_skip); (case h => ((apply ops_storen); exact norm_eq rfl; exact norm_eq rfl; exact rfl; exact (fun u hu => EncOk.one _ u hu); infer_instance; (first | decide | exact of_decide_eq_true rfl | (simp; done))))); (refine vE rfl ?_); apply vL_nil)); with_reducible apply seqP_normal
    ((apply vC_seq; apply vC_region))
    refine vL_gen (fun w' => At (Pt w2.heap.size (reE x) 157 * (ChA_i rb { d with rcv := xs' } * (TksA ts * R))) w F w') (S2.new (by (apply Fr.allocSet; exact Fr.refl _ _)) (Blk.as inferInstance rfl) (Nat.le_refl _)) ?_
    intro w3 S3
    generalize w2.heap.size = b6 at S3 ⊢
    have h6 := S3.blk
    have htb := (S3.ac (show _ = TksA ts * (Pt b6 (reE x) 157 * (ChA_i rb { d with rcv := xs' } * R)) by ac_rfl)).tk (List.mem_of_getElem? ht)
    rw [reE, hxk, hfv] at h6
    have ne6 : b6 ≠ t.b := Blk.ne_type h6 htb (by decide)
    haveI : NeB b6 t.b := ⟨ne6⟩
    have htf := t.fire.2
    ((refine vE rfl ?_); apply vL_nil; apply seqP_normal; ((apply vC_cond_true); exact rfl); apply vC_seq; apply vC_region; (refine vL_val (opv_fieldAddr rfl) ?_); ((apply vL_val); (case h => ((apply opv_loadb1); exact rfl; exact rfl; assumption; exact rfl))); (refine vE rfl ?_); (refine vL_val (opv_fieldAddr rfl) ?_); ((apply vL_skip); (case h => ((apply ops_store1); exact norm_eq rfl; exact norm_eq rfl; (first | rfl | assumption); assumption; (first | decide | exact of_decide_eq_true rfl | (simp; done))))); apply vL_nil; apply seqP_normal; apply vC_seq; apply vC_region; (refine vL_val (opv_fieldAddr rfl) ?_); ((apply vL_val); (case h => ((apply opv_loadb1); exact rfl; exact rfl; infer_instance; exact rfl))); (refine vE rfl ?_))
    refine vL_gen (fun w' => At (ChA_i rb { d with rcv := xs' } * (TksA (ts.set i { t with fired := true }) * R) * Pt b6 (reE x) 157) w F w') ((tk_fire (S3.ac (show _ = TksA ts * (Pt b6 (reE x) 157 * (ChA_i rb { d with rcv := xs' } * R)) by ac_rfl)) ht).ac (by ac_rfl)) ?_
    intro w4 S4
    have h64 := S4.swap.blk
    rw [reE, hxk, hfv] at h64
    clear h6 htb S3 S2 S1 hcb1 b2 o2 up2 hb2 ho2
    haveI := hg
    haveI := hg2
    skip
    refine vL_callF rfl (spg.at S4) rfl ?_
    intro _ w5 S5
    have h65 := S5.swap.blk
    rw [reE, hxk, hfv] at h65
    obtain ⟨F5, m5⟩ := S5.get
    have htb5 := hmid _ _ m5
    rw [hfire] at htb5
    (apply vL_nil; apply seqP_normal; apply vC_seq; apply vC_region; (iterate 5 (first | (refine vE rfl ?_) | ((with_reducible apply vL_val); (case h => ((with_reducible apply opv_loadb1); exact rfl; exact rfl; assumption; exact rfl))) | (refine vL_val (opv_fieldAddr rfl) ?_))))
    refine vL_callF rfl (spf.at S5) rfl ?_
    intro _ w6 S6
    (apply vL_nil; apply seqP_normal; apply vC_seq; apply vC_region; (iterate 2 ((refine vE rfl ?_))); apply vL_nil; apply seqP_normal; apply vC_ret; apply seqP_ret)
    (apply ret2; (case h1 => (exact norm_eq rfl)); (case h2 => (exact norm_eq rfl)))
    exact S6.swap.drop.weak hB
  · have S2 := up2 _ _ _ hf2 hb2 ho2 hone2 (fun k hk => .inl (by rw [← hown2]; exact hk))
    have ed : ({ d with rcv := [] } : CH) = d := by
      cases d; simp only at hx; rw [hx]
    rw [ed] at S2
    (((iterate 3 ((refine vE rfl ?_))); ((apply vL_val); (case h => (apply opw_alloc))); ((apply vL_skip); (case h => ((apply ops_storen); exact norm_eq rfl; exact norm_eq rfl; exact rfl; (intro u hu; simp at hu; rcases hu with rfl | rfl <;> (first | rfl | assumption)); infer_instance; (first | decide | exact of_decide_eq_true rfl | (simp; done))))); (refine vE rfl ?_); apply vL_nil)); with_reducible apply seqP_normal
    ((apply vC_seq; apply vC_region))
    refine vL_gen (fun w' => At (ChA_i rb d * (TksA ts * R)) w F w') (S2.frN (by (apply Fr.allocSet; exact Fr.refl _ _))) ?_
    intro w3 S3
    have hcb3 := ch_blk_i S3
    rw [chL_i, ecb, ecl, hcl, esz] at hcb3
    obtain ⟨v3, b3, o3, n3, up3⟩ := ch_buf_i S3
    rw [ebf] at o3
    ((refine vE rfl ?_); apply vL_nil; apply seqP_normal; ((apply vC_cond_false); exact rfl); apply vC_skip; apply seqP_normal; (iterate 2 (apply vC_seq)))
    refine vC_draw' (fun wf => Fr No w3 wf) ((Fr.refl No w3).drew) ?_
    (refine tkE 0 rfl (by kernel_rfl) (by apply Fr.drew; exact Fr.refl _ _) rfl ?_)
    (refine tkE 1 rfl (by kernel_rfl) (by apply Fr.drew; exact Fr.refl _ _) rfl ?_)
    (refine tk 2 rfl (by kernel_rfl) (by apply Fr.drew; exact Fr.refl _ _) (by intro wf hwf; haveI := From.mk hwf; (((apply opv_fieldAddr); exact rfl))) ?_)
    (refine tk 3 rfl (by kernel_rfl) (by apply Fr.drew; exact Fr.refl _ _) (by intro wf hwf; haveI := From.mk hwf; (((apply opv_loadb1); exact rfl; exact rfl; infer_instance; exact rfl))) ?_)
    (refine tkE 5 rfl (by kernel_rfl) (by apply Fr.drew; exact Fr.refl _ _) rfl ?_)
    (refine tkE 6 rfl (by kernel_rfl) (by apply Fr.drew; exact Fr.refl _ _) rfl ?_)
    (refine tk 7 rfl (by kernel_rfl) (by apply Fr.drew; exact Fr.refl _ _) (by intro wf hwf; haveI := From.mk hwf; (((apply opv_fieldAddr); exact rfl))) ?_)
    (refine tk 8 rfl (by kernel_rfl) (by apply Fr.drew; exact Fr.refl _ _) (by intro wf hwf; haveI := From.mk hwf; (((apply opv_loadb1); exact rfl; exact rfl; infer_instance; exact rfl))) ?_)
    (refine tkc 4 rfl (by kernel_rfl) (by (apply Fr.drew; exact Fr.refl _ _)) rfl (q_len_int d.bq v3 c.buf _ inferInstance inferInstance) rfl ?_)
    rintro _ _ ⟨rfl, rfl⟩
    (refine tkE 9 rfl (by kernel_rfl) (by apply Fr.drew; exact Fr.refl _ _) rfl ?_)
    refine vA_done (by kernel_rfl) (by (first | exact trivial | ((apply Fr.drew; exact Fr.refl _ _); done))) ?_
    refine vC_gen (fun w' => At (ChA_i rb d * (TksA ts * R)) w F w') (S3.frN (by (apply Fr.drew; exact Fr.refl _ _))) ?_
    clear S3 b3 o3 n3 up3 hcb3 S2 S1 hcb1 b2 o2 up2 hb2 ho2
    intro w4 S4
    have hcb4 := ch_blk_i S4
    rw [chL_i, ecb] at hcb4
    by_cases hl : (c.buf.length : Int) = c.size
    · ((refine vC_cond_dec rfl (fun _ => ?_) (fun h => by omega)); apply vC_seq; apply vC_region; (iterate 2 ((refine vE rfl ?_))); apply vL_nil; apply seqP_normal; apply vC_ret; apply seqP_ret)
      (apply ret2; (case h1 => (exact norm_eq rfl)); (case h2 => (exact norm_eq rfl)))
      exact S4.weak (hf hcl hx hl)
    obtain ⟨v4, b4, o4, n4, up4⟩ := ch_buf_i S4
    rw [ebf] at o4
    ((refine vC_cond_dec rfl (fun h => by omega) (fun _ => ?_)); apply vC_skip; apply seqP_normal; apply vC_seq; apply vC_region; (iterate 2 ((refine vE rfl ?_))); (refine vL_val (opv_fieldAddr rfl) ?_); ((apply vL_val); (case h => ((apply opv_loadb1); exact rfl; exact rfl; assumption; exact rfl))); (refine vE rfl ?_))
    refine vL_callF rfl (q_push_int d.bq v4 v c.buf w4 b4 o4 (by omega)) rfl ?_
    rintro _ w5 ⟨lv5, hf5, hb5, ho5, hl5, hone5⟩
    have S5 := up4 _ _ _ hf5 hb5 ho5 hone5 hl5
    (apply vL_nil; apply seqP_normal; apply vC_seq; apply vC_region; (iterate 2 ((refine vE rfl ?_))); apply vL_nil; apply seqP_normal; apply vC_ret)
    (apply ret2; (case h1 => (exact norm_eq rfl)); (case h2 => (exact norm_eq rfl)))
    exact S5.weak (hb hcl hx hl)
end
end Go.Proofs.YtbaidcnalkdhgaaGreat
set_option maxRecDepth 100000
namespace Go.Proofs.YtbaidcnalkdhgaaGreat
open Go Go.Eng
def rbuf : List Int → Int → List Int
  | [], _ => []
  | _ :: bs, y => bs ++ [y]
def rval : List Int → Int → Int
  | [], y => y
  | v :: _, _ => v
section
variable {w w' w0 : World} {F F0 : Nat → Prop} {rb : Nat} {c : CH} {ts : List TKT} {R : Asr}
theorem ch_tryrecv_i [Lcl R] {B : Value → Asr} (h1 : ∀ x ∈ c.snd, ∃ t ∈ ts, x.k = t.b) (h2 : ∀ x ∈ c.rcv, ∃ t ∈ ts, x.k = t.b) (hbig : c.buf.length ≤ 1000)
    (hr : ∀ x r, (c.cleaned ts).snd = x :: r → ∃ (i : Nat) (t : TKT) (g g2 : FuncId) (cap cap2 : List Value) (Mid End : Asr), ts[i]? = some t ∧ x.k = t.b ∧ Nonempty (FnOk Tryz.prog g) ∧ Nonempty (FnOk Tryz.prog g2) ∧ x.f.1 = .func (.func g) #[] cap.toArray ∧ t.fire.1 = .func (.func g2) #[] cap2.toArray ∧
      Sp Tryz.prog g (.bool true :: cap).toArray (ChA_i rb { c.cleaned ts with buf := rbuf c.buf x.v, snd := r } * (TksA (ts.set i { t with fired := true }) * R)) (fun _ => Mid) ∧ (∀ h F, Mid h F → Blk h t.b [t.fire.1, .bool true] 175) ∧ Sp Tryz.prog g2 cap2.toArray Mid (fun _ => End) ∧ ∀ h F, End h F → B (.tuple #[.int .i64 (rval c.buf x.v), .bool true, .bool true]) h F)
    (hb : (c.cleaned ts).snd = [] → ∀ h F, (ChA_i rb { c.cleaned ts with buf := c.buf.tail } * (TksA ts * R)) h F → B (.tuple #[.int .i64 (c.buf.headD 0), .bool (!c.buf.isEmpty), .bool (!c.buf.isEmpty || c.closed)]) h F) :
    Sp Tryz.prog 34 #[pt c.cb] (ChA_i rb c * (TksA ts * R)) B := by
  intro w F hA
  have S : At (ChA_i rb c * (TksA ts * R)) w F w := At.init hA
  have hr0 := ch_right_i w c rb (ch_blk_i S)
  refine rets_of Tryz.func34 rfl Tryz.ntmps34 rfl rfl (by kernel_rfl) ?_
  ((iterate 16 (first | with_reducible apply vC_seq | with_reducible apply vC_region | with_reducible apply seqP_normal | (refine vE rfl ?_) | with_reducible apply vL_nil)))
  refine vL_callF rfl (hr0) rfl ?_
  rintro _ _ ⟨rfl, rfl⟩
  ((refine vL_val (opv_not rfl) ?_); apply vL_nil; apply seqP_normal; ((apply vC_cond_false); exact rfl); apply vC_skip; apply seqP_normal; apply vC_seq; apply vC_region; (refine vE rfl ?_))
  refine vL_callF rfl (ch_clean_i S h1 h2) rfl ?_
  intro _ w1 S1
  have hcb1 := ch_blk_i S1
  rw [chL_i] at hcb1
  have ecl : (c.cleaned ts).closed = c.closed := rfl
  have ebf : (c.cleaned ts).buf = c.buf := rfl
  generalize hcc : c.cleaned ts = d at *
  have ecb : d.cb = c.cb := by rw [← hcc]; rfl
  rw [ecb, ecl] at hcb1
  obtain ⟨v2, b2, o2, n2, up2⟩ := ch_buf_i S1
  rw [ebf] at o2
  (apply vL_nil; apply seqP_normal; apply vC_seq; apply vC_region; (iterate 2 ((refine vE rfl ?_))); (refine vL_val (opv_fieldAddr rfl) ?_); ((apply vL_val); (case h => ((apply opv_loadb1); exact rfl; exact rfl; assumption; exact rfl))))
  refine vL_callF rfl (q_pop_int d.bq v2 c.buf w1 b2 o2 n2) rfl ?_
  rintro u2 w2 ⟨lv', xs', hf2, hb2, ho2, hown2, hone2, hcase⟩
  have S2 := up2 _ _ _ hf2 hb2 ho2 hone2 (fun k hk => .inl (by rw [← hown2]; exact hk))
  have hcb2 := ch_blk_i S2
  rw [chL_i] at hcb2
  simp only [ecb, ecl] at hcb2
  obtain ⟨v3, b3, o3, n3, up3⟩ := ch_snd_i S2
  have hu2 : u2 = .tuple #[.int .i64 (c.buf.headD 0), .bool (!c.buf.isEmpty)] ∧ xs' = c.buf.tail := by
    rcases hcase with ⟨y, e, rfl⟩ | ⟨e, rfl, rfl⟩
    · rw [e]; exact ⟨rfl, rfl⟩
    · rw [e]; exact ⟨rfl, rfl⟩
  obtain ⟨rfl, rfl⟩ := hu2
  clear hcase S1 hcb1 b2 o2 n2 up2 hb2 ho2
  ((iterate 5 ((refine vE rfl ?_))); apply vL_nil; apply seqP_normal; apply vC_seq; apply vC_region; (iterate 2 ((refine vE rfl ?_))); (refine vL_val (opv_fieldAddr rfl) ?_); ((apply vL_val); (case h => ((apply opv_loadb1); exact rfl; exact rfl; assumption; exact rfl))))
  refine vL_callF rfl (q_pop_snd d.sq v3 d.snd w2 b3 o3 n3) rfl ?_
  rintro _ w3 ⟨lv3, ss, hf3, hb3, ho3, hown3, hone3, ⟨x, hx, rfl⟩ | ⟨hx, rfl, rfl⟩⟩
  · have S3 := up3 _ _ _ hf3 hb3 ho3 hone3 (fun k hk => .inl (by rw [← hown3]; exact hk))
    obtain ⟨i, t, g, g2, cap, cap2, Mid, End, ht, hxk, ⟨hg⟩, ⟨hg2⟩, hfv, hfire, spg, hmid, spf, hB⟩ := hr x ss hx
    have hxf := x.f.2
    have htf := t.fire.2
    haveI := hg
    haveI := hg2
    (((iterate 3 ((refine vE rfl ?_))); ((apply vL_val); (case h => (apply opw_alloc))); ((apply vL_skip); (case h => ((apply ops_storen); exact norm_eq rfl; exact norm_eq rfl; exact rfl; exact (fun u hu => EncOk.one _ u hu); infer_instance; (first | decide | exact of_decide_eq_true rfl | (simp; done))))); (refine vE rfl ?_); apply vL_nil)); with_reducible apply seqP_normal
    ((apply vC_seq; apply vC_block; apply vC_seq; apply vC_region))
    refine vL_gen (fun w' => At (Pt w3.heap.size (seE x) 154 * (ChA_i rb { d with buf := c.buf.tail, snd := ss } * (TksA ts * R))) w F w') (S3.new (by (apply Fr.allocSet; exact Fr.refl _ _)) (Blk.as inferInstance rfl) (Nat.le_refl _)) ?_
    intro w4 S4
    generalize w3.heap.size = b8 at S4 ⊢
    have h8 := S4.blk
    rw [seE, hxk, hfv] at h8
    clear S3 S2 b3 o3 n3 up3 hb3 ho3 hcb2
    cases hbf : c.buf with
    | nil =>
      rw [hbf] at S4 spg hB
      have Sx : At (ChA_i rb { d with buf := [], snd := ss } * (Pt b8 (seE x) 154 * (TksA ts * R))) w F w4 := S4.ac (by ac_rfl)
      clear S4
      have htb := (Sx.ac (show _ = TksA ts * (Pt b8 (seE x) 154 * (ChA_i rb { d with buf := [], snd := ss } * R)) by ac_rfl)).tk (List.mem_of_getElem? ht)
      have ne8 : b8 ≠ t.b := Blk.ne_type h8 htb (by decide)
      haveI : NeB b8 t.b := ⟨ne8⟩
      ((iterate 5 (first | (refine vE rfl ?_) | ((with_reducible apply vL_unwanted'); exact rfl; exact rfl))); apply vL_nil; apply seqP_normal; ((apply vC_cond_false); exact rfl); apply vC_seq; apply vC_region; (iterate 2 ((refine vE rfl ?_))); apply vL_nil; apply seqP_normal; ((apply vC_cond_true); exact rfl); apply vC_region; (refine vL_val (opv_fieldAddr rfl) ?_); ((apply vL_val); (case h => ((apply opv_loadb1); exact rfl; exact rfl; assumption; exact rfl))); (iterate 2 ((refine vE rfl ?_))); apply vL_nil; apply blockP_normal; apply seqP_normal; (iterate 2 (apply vC_seq)); apply vC_region; (refine vE rfl ?_); apply vL_nil; apply seqP_normal; ((apply vC_cond_true); exact rfl); apply vC_seq; apply vC_region; (refine vL_val (opv_fieldAddr rfl) ?_); ((apply vL_val); (case h => ((apply opv_loadb1); exact rfl; exact rfl; assumption; exact rfl))); (refine vE rfl ?_); (refine vL_val (opv_fieldAddr rfl) ?_); ((apply vL_skip); (case h => ((apply ops_store1); exact norm_eq rfl; exact norm_eq rfl; (first | rfl | assumption); assumption; (first | decide | exact of_decide_eq_true rfl | (simp; done))))); apply vL_nil; apply seqP_normal; apply vC_seq; apply vC_region; (refine vL_val (opv_fieldAddr rfl) ?_); ((apply vL_val); (case h => ((apply opv_loadb1); exact rfl; exact rfl; infer_instance; exact rfl))))
      refine vL_gen (fun w' => At (ChA_i rb { d with buf := [], snd := ss } * (TksA (ts.set i { t with fired := true }) * R) * Pt b8 (seE x) 154) w F w') ((tk_fire (Sx.ac (show _ = TksA ts * (Pt b8 (seE x) 154 * (ChA_i rb { d with buf := [], snd := ss } * R)) by ac_rfl)) ht).ac (by ac_rfl)) ?_
      intro w6 S6
      have h86 := S6.swap.blk
      rw [seE, hxk, hfv] at h86
      clear htb Sx
      skip
      refine vL_callF rfl (spg.at S6) rfl ?_
      intro _ w7 S7
      have h87 := S7.swap.blk
      rw [seE, hxk, hfv] at h87
      obtain ⟨F7, m7⟩ := S7.get
      have htb7 := hmid _ _ m7
      rw [hfire] at htb7
      (apply vL_nil; apply seqP_normal; apply vC_region; (iterate 5 (first | (refine vE rfl ?_) | ((with_reducible apply vL_val); (case h => ((with_reducible apply opv_loadb1); exact rfl; exact rfl; assumption; exact rfl))) | (refine vL_val (opv_fieldAddr rfl) ?_))))
      refine vL_callF rfl (spf.at S7) rfl ?_
      intro _ w8 S8
      (apply vL_nil; apply seqP_normal; apply vC_seq)
      (with_reducible apply vC_drawQ); ((iterate 12 (first | ((with_reducible apply vQ_op); (case hi => exact rfl); (case hf => kernel_rfl); (case hS => exact Dr.refl _); (case hy => (intro j; ((with_reducible apply opv_E); exact rfl)))) | ((with_reducible apply vQ_unwanted); (case hi => exact rfl); (case hg => exact rfl); (case hne => exact rfl); (case hf => kernel_rfl); (case hS => exact Dr.refl _)))); ((apply vQ_end); (case hi => exact rfl); (case hf => kernel_rfl); (case hS => exact Dr.refl _)))
      (apply seqP_normal; apply vC_ret)
      (apply ret3; (case h1 => (exact norm_eq rfl)); (case h2 => (exact norm_eq rfl)); (case h3 => (exact norm_eq rfl)))
      exact S8.drew.swap.drop.weak hB
    | cons y bs =>
      rw [hbf] at S4 spg hB
      have hbl : bs.length + 1 ≤ 1000 := by rw [hbf] at hbig; simpa using hbig
      have S4' : At (ChA_i rb { d with buf := bs, snd := ss } * (Pt b8 (seE x) 154 * (TksA ts * R))) w F w4 := S4.ac (by ac_rfl)
      clear S4
      have hcb4 := ch_blk_i S4'
      rw [chL_i] at hcb4
      simp only [ecb, ecl] at hcb4
      ((iterate 6 (first | (refine vE rfl ?_) | ((with_reducible apply vL_wanted); exact rfl))); apply vL_nil; apply seqP_normal; ((apply vC_cond_true); exact rfl))
      refine vC_draw' ((fun wf => Blk wf.heap c.cb [pt rb, .int .i64 d.size, pt d.bq, pt d.sq, pt d.rq, .bool c.closed] 148 ∧ Blk wf.heap b8 [pt t.b, .int .i64 x.v, .func (.func g) #[] cap.toArray] 154)) (by refine ⟨?_, ?_⟩ <;> first | assumption | infer_instance) ?_
      (refine tkE 0 rfl (by kernel_rfl) (by refine ⟨?_, ?_⟩ <;> first | assumption | infer_instance) rfl ?_)
      (refine tkE 1 rfl (by kernel_rfl) (by refine ⟨?_, ?_⟩ <;> first | assumption | infer_instance) rfl ?_)
      (refine tk 2 rfl (by kernel_rfl) (by refine ⟨?_, ?_⟩ <;> first | assumption | infer_instance) (by rintro wf ⟨hwa, hwb⟩; (((apply opv_fieldAddr); exact rfl))) ?_)
      (refine tk 3 rfl (by kernel_rfl) (by refine ⟨?_, ?_⟩ <;> first | assumption | infer_instance) (by rintro wf ⟨hwa, hwb⟩; (((apply opv_loadb1); exact rfl; exact rfl; assumption; exact rfl))) ?_)
      (refine tk 4 rfl (by kernel_rfl) (by refine ⟨?_, ?_⟩ <;> first | assumption | infer_instance) (by rintro wf ⟨hwa, hwb⟩; (((apply opv_fieldAddr); exact rfl))) ?_)
      (refine tk 5 rfl (by kernel_rfl) (by refine ⟨?_, ?_⟩ <;> first | assumption | infer_instance) (by rintro wf ⟨hwa, hwb⟩; (((apply opv_loadb1); exact rfl; exact rfl; assumption; exact rfl))) ?_)
      have S4d := S4'.drew
      obtain ⟨v5, b5, o5, n5, up5⟩ := ch_buf_i S4d
      refine tkc 6 rfl (by kernel_rfl) (by refine ⟨?_, ?_⟩ <;> first | assumption | infer_instance) rfl (q_push_int d.bq v5 x.v bs _ b5 o5 (by omega)) rfl ?_
      rintro _ w5 ⟨lv5, hf5, hb5, ho5, hl5, hone5⟩
      have Sx := up5 _ _ _ hf5 hb5 ho5 hone5 hl5
      have hcb5 := ch_blk_i Sx
      rw [chL_i] at hcb5
      simp only [ecb, ecl] at hcb5
      have h85 := (Sx.ac (show _ = Pt b8 (seE x) 154 * (ChA_i rb { d with buf := bs ++ [x.v], snd := ss } * (TksA ts * R)) by ac_rfl)).blk
      rw [seE, hxk, hfv] at h85
      clear S4' S4d b5 o5 n5 up5 hcb4 h8 hf5 hb5 ho5 hl5
      refine vA_done (by kernel_rfl) (by refine ⟨?_, ?_⟩ <;> first | assumption | infer_instance) ?_
      have htb := (Sx.ac (show _ = TksA ts * (Pt b8 (seE x) 154 * (ChA_i rb { d with buf := bs ++ [x.v], snd := ss } * R)) by ac_rfl)).tk (List.mem_of_getElem? ht)
      have ne8 : b8 ≠ t.b := Blk.ne_type h85 htb (by decide)
      haveI : NeB b8 t.b := ⟨ne8⟩
      (apply blockP_normal; apply seqP_normal; (iterate 2 (apply vC_seq)); apply vC_region; (refine vE rfl ?_); apply vL_nil; apply seqP_normal; ((apply vC_cond_true); exact rfl); apply vC_seq; apply vC_region; (refine vL_val (opv_fieldAddr rfl) ?_); ((apply vL_val); (case h => ((apply opv_loadb1); exact rfl; exact rfl; assumption; exact rfl))); (refine vE rfl ?_); (refine vL_val (opv_fieldAddr rfl) ?_); ((apply vL_skip); (case h => ((apply ops_store1); exact norm_eq rfl; exact norm_eq rfl; (first | rfl | assumption); assumption; (first | decide | exact of_decide_eq_true rfl | (simp; done))))); apply vL_nil; apply seqP_normal; apply vC_seq; apply vC_region; (refine vL_val (opv_fieldAddr rfl) ?_); ((apply vL_val); (case h => ((apply opv_loadb1); exact rfl; exact rfl; infer_instance; exact rfl))))
      refine vL_gen (fun w' => At (ChA_i rb { d with buf := bs ++ [x.v], snd := ss } * (TksA (ts.set i { t with fired := true }) * R) * Pt b8 (seE x) 154) w F w') ((tk_fire (Sx.ac (show _ = TksA ts * (Pt b8 (seE x) 154 * (ChA_i rb { d with buf := bs ++ [x.v], snd := ss } * R)) by ac_rfl)) ht).ac (by ac_rfl)) ?_
      intro w6 S6
      have h86 := S6.swap.blk
      rw [seE, hxk, hfv] at h86
      clear htb Sx
      skip
      refine vL_callF rfl (spg.at S6) rfl ?_
      intro _ w7 S7
      have h87 := S7.swap.blk
      rw [seE, hxk, hfv] at h87
      obtain ⟨F7, m7⟩ := S7.get
      have htb7 := hmid _ _ m7
      rw [hfire] at htb7
      (apply vL_nil; apply seqP_normal; apply vC_region; (iterate 5 (first | (refine vE rfl ?_) | ((with_reducible apply vL_val); (case h => ((with_reducible apply opv_loadb1); exact rfl; exact rfl; assumption; exact rfl))) | (refine vL_val (opv_fieldAddr rfl) ?_))))
      refine vL_callF rfl (spf.at S7) rfl ?_
      intro _ w8 S8
      (apply vL_nil; apply seqP_normal; apply vC_seq)
      (with_reducible apply vC_drawQ); ((iterate 12 (first | ((with_reducible apply vQ_op); (case hi => exact rfl); (case hf => kernel_rfl); (case hS => exact Dr.refl _); (case hy => (intro j; ((with_reducible apply opv_E); exact rfl)))) | ((with_reducible apply vQ_unwanted); (case hi => exact rfl); (case hg => exact rfl); (case hne => exact rfl); (case hf => kernel_rfl); (case hS => exact Dr.refl _)))); ((apply vQ_end); (case hi => exact rfl); (case hf => kernel_rfl); (case hS => exact Dr.refl _)))
      (apply seqP_normal; apply vC_ret)
      (apply ret3; (case h1 => (exact norm_eq rfl)); (case h2 => (exact norm_eq rfl)); (case h3 => (exact norm_eq rfl)))
      exact S8.drew.swap.drop.weak hB
  · have S3 := up3 _ _ _ hf3 hb3 ho3 hone3 (fun k hk => .inl (by rw [← hown3]; exact hk))
    have ed : ({ d with buf := c.buf.tail, snd := [] } : CH) = { d with buf := c.buf.tail } := by
      cases d; simp only at hx; rw [hx]
    have S3 : At (ChA_i rb { d with buf := c.buf.tail } * (TksA ts * R)) w F w3 := by rw [← ed]; exact S3
    (((iterate 3 ((refine vE rfl ?_))); ((apply vL_val); (case h => (apply opw_alloc))); ((apply vL_skip); (case h => ((apply ops_storen); exact norm_eq rfl; exact norm_eq rfl; exact rfl; (intro u hu; simp at hu; rcases hu with rfl | rfl | rfl <;> (first | rfl | assumption)); infer_instance; (first | decide | exact of_decide_eq_true rfl | (simp; done))))); (refine vE rfl ?_); apply vL_nil)); with_reducible apply seqP_normal
    ((apply vC_seq; apply vC_block; apply vC_seq; apply vC_region))
    refine vL_gen (fun w' => At (ChA_i rb { d with buf := c.buf.tail } * (TksA ts * R)) w F w') (S3.frN (by (apply Fr.allocSet; exact Fr.refl _ _))) ?_
    clear S3 S2 b3 o3 n3 up3 hb3 ho3 hcb2
    intro w4 S4
    have hcb4 := ch_blk_i S4
    rw [chL_i] at hcb4
    simp only [ecb, ecl] at hcb4
    have hB := hb hx
    cases hbf : c.buf with
    | nil =>
      rw [hbf] at hB
      ((iterate 2 ((refine vE rfl ?_))); ((apply vL_unwanted'); exact rfl; exact rfl); (iterate 25 (first | with_reducible apply vC_seq | with_reducible apply vC_region | with_reducible apply seqP_normal | with_reducible apply vC_skip | with_reducible apply blockP_normal | ((with_reducible apply vC_cond_false); exact rfl) | (refine vE rfl ?_) | with_reducible apply vL_nil)))
      refine vC_draw' (fun wf => Fr No w4 wf) ((Fr.refl No w4).drew) ?_
      (refine tkE 0 rfl (by kernel_rfl) (by apply Fr.drew; exact Fr.refl _ _) rfl ?_)
      (refine tkE 1 rfl (by kernel_rfl) (by apply Fr.drew; exact Fr.refl _ _) rfl ?_)
      (refine tkE 2 rfl (by kernel_rfl) (by apply Fr.drew; exact Fr.refl _ _) rfl ?_)
      (refine tkE 3 rfl (by kernel_rfl) (by apply Fr.drew; exact Fr.refl _ _) rfl ?_)
      (refine tkwE 4 rfl rfl (by kernel_rfl) (by apply Fr.drew; exact Fr.refl _ _) rfl ?_)
      (refine tkwE 5 rfl rfl (by kernel_rfl) (by apply Fr.drew; exact Fr.refl _ _) rfl ?_)
      (refine tkw 6 rfl rfl (by kernel_rfl) (by apply Fr.drew; exact Fr.refl _ _) (by intro wf hwf; haveI := From.mk hwf; (((apply opv_fieldAddr); exact rfl))) ?_)
      (refine tkw 7 rfl rfl (by kernel_rfl) (by apply Fr.drew; exact Fr.refl _ _) (by intro wf hwf; haveI := From.mk hwf; (((apply opv_loadb1); exact rfl; exact rfl; infer_instance; exact rfl))) ?_)
      (refine tkE 8 rfl (by kernel_rfl) (by apply Fr.drew; exact Fr.refl _ _) rfl ?_)
      (refine tkE 9 rfl (by kernel_rfl) (by apply Fr.drew; exact Fr.refl _ _) rfl ?_)
      (refine tkE 10 rfl (by kernel_rfl) (by apply Fr.drew; exact Fr.refl _ _) rfl ?_)
      (refine tkE 11 rfl (by kernel_rfl) (by apply Fr.drew; exact Fr.refl _ _) rfl ?_)
      refine vA_done (by kernel_rfl) (by (first | exact trivial | ((apply Fr.drew; exact Fr.refl _ _); done))) ?_
      (apply seqP_normal; apply vC_ret)
      (apply ret3; (case h1 => (exact norm_eq rfl)); (case h2 => (exact norm_eq rfl)); (case h3 => (exact norm_eq rfl)))
      rw [hbf] at S4
      exact (S4.frN (by (apply Fr.drew; exact Fr.refl _ _))).weak hB
    | cons y bs =>
      rw [hbf] at hB
      ((iterate 2 ((refine vE rfl ?_))); ((apply vL_wanted); exact rfl); (iterate 26 (first | with_reducible apply vC_seq | with_reducible apply vC_region | with_reducible apply seqP_normal | with_reducible apply vC_skip | with_reducible apply blockP_normal | ((with_reducible apply vC_cond_false); exact rfl) | (refine vE rfl ?_) | with_reducible apply vL_nil)))
      (with_reducible apply vC_drawQ); ((iterate 12 (first | ((with_reducible apply vQ_op); (case hi => exact rfl); (case hf => kernel_rfl); (case hS => exact Dr.refl _); (case hy => (intro j; ((with_reducible apply opv_E); exact rfl)))) | ((with_reducible apply vQ_unwanted); (case hi => exact rfl); (case hg => exact rfl); (case hne => exact rfl); (case hf => kernel_rfl); (case hS => exact Dr.refl _)))); ((apply vQ_end); (case hi => exact rfl); (case hf => kernel_rfl); (case hS => exact Dr.refl _)))
      (apply seqP_normal; apply vC_ret)
      (apply ret3; (case h1 => (exact norm_eq rfl)); (case h2 => (exact norm_eq rfl)); (case h3 => (exact norm_eq rfl)))
      rw [hbf] at S4
      exact (S4.frN (by (apply Fr.drew; exact Fr.refl _ _))).weak hB
end
end Go.Proofs.YtbaidcnalkdhgaaGreat
set_option maxRecDepth 100000
namespace Go.Proofs.YtbaidcnalkdhgaaGreat
open Go Go.Eng
section
variable {w w' w0 : World} {F F0 : Nat → Prop} {rb : Nat} {c : CH} {ts : List TKT} {R : Asr}
theorem ch_waits_i [Lcl R] (S : At (ChA_i rb c * (TksA ts * R)) w0 F0 w) (h1 : ∀ x ∈ c.snd, ∃ t ∈ ts, x.k = t.b) (h2 : ∀ x ∈ c.rcv, ∃ t ∈ ts, x.k = t.b) :
    Rets Tryz.prog 25 #[pt c.cb] w fun u w' => u = .tuple #[.int .i64 (c.cleaned ts).snd.length, .int .i64 (c.cleaned ts).rcv.length] ∧ At (ChA_i rb (c.cleaned ts) * (TksA ts * R)) w0 F0 w' := by
  have hr0 := ch_right_i w c rb (ch_blk_i S)
  refine rets_of Tryz.func25 rfl Tryz.ntmps25 rfl rfl (by kernel_rfl) ?_
  (apply vC_seq; apply vC_region; (iterate 2 ((refine vE rfl ?_))); apply vL_nil; apply seqP_normal; (iterate 2 (apply vC_seq)); apply vC_region; (refine vE rfl ?_))
  refine vL_callF rfl (hr0) rfl ?_
  rintro _ _ ⟨rfl, rfl⟩
  ((refine vL_val (opv_not rfl) ?_); apply vL_nil; apply seqP_normal; ((apply vC_cond_false); exact rfl); apply vC_skip; apply seqP_normal; apply vC_seq; apply vC_region; (refine vE rfl ?_))
  refine vL_callF rfl (ch_clean_i S h1 h2) rfl ?_
  intro _ w1 S1
  have hcb1 := ch_blk_i S1
  rw [chL_i] at hcb1
  have ecb : (c.cleaned ts).cb = c.cb := rfl
  rw [ecb] at hcb1
  generalize c.cleaned ts = d at *
  obtain ⟨v2, b2, o2, n2, _⟩ := ch_snd_i S1
  obtain ⟨v3, b3, o3, n3, _⟩ := ch_rcv_i S1
  (apply vL_nil; apply seqP_normal; apply vC_seq)
  refine vC_draw' (fun wf => Fr No w1 wf) ((Fr.refl No w1).drew) ?_
  (refine tkE 0 rfl (by kernel_rfl) (by apply Fr.drew; exact Fr.refl _ _) rfl ?_)
  (refine tkE 1 rfl (by kernel_rfl) (by apply Fr.drew; exact Fr.refl _ _) rfl ?_)
  (refine tk 2 rfl (by kernel_rfl) (by apply Fr.drew; exact Fr.refl _ _) (by intro wf hwf; haveI := From.mk hwf; (((apply opv_fieldAddr); exact rfl))) ?_)
  (refine tk 3 rfl (by kernel_rfl) (by apply Fr.drew; exact Fr.refl _ _) (by intro wf hwf; haveI := From.mk hwf; (((apply opv_loadb1); exact rfl; exact rfl; infer_instance; exact rfl))) ?_)
  (refine tkE 5 rfl (by kernel_rfl) (by apply Fr.drew; exact Fr.refl _ _) rfl ?_)
  (refine tkE 6 rfl (by kernel_rfl) (by apply Fr.drew; exact Fr.refl _ _) rfl ?_)
  (refine tk 7 rfl (by kernel_rfl) (by apply Fr.drew; exact Fr.refl _ _) (by intro wf hwf; haveI := From.mk hwf; (((apply opv_fieldAddr); exact rfl))) ?_)
  (refine tk 8 rfl (by kernel_rfl) (by apply Fr.drew; exact Fr.refl _ _) (by intro wf hwf; haveI := From.mk hwf; (((apply opv_loadb1); exact rfl; exact rfl; infer_instance; exact rfl))) ?_)
  (refine tkc 4 rfl (by kernel_rfl) (by (apply Fr.drew; exact Fr.refl _ _)) rfl (q_len_snd d.sq v2 d.snd _ inferInstance inferInstance) rfl ?_)
  rintro _ _ ⟨rfl, rfl⟩
  (refine tkc 9 rfl (by kernel_rfl) (by (apply Fr.drew; exact Fr.refl _ _)) rfl (q_len_rcv d.rq v3 d.rcv _ inferInstance inferInstance) rfl ?_)
  rintro _ _ ⟨rfl, rfl⟩
  (refine tkE 10 rfl (by kernel_rfl) (by apply Fr.drew; exact Fr.refl _ _) rfl ?_)
  (refine tkE 11 rfl (by kernel_rfl) (by apply Fr.drew; exact Fr.refl _ _) rfl ?_)
  refine vA_done (by kernel_rfl) (by (first | exact trivial | ((apply Fr.drew; exact Fr.refl _ _); done))) ?_
  (apply seqP_normal; apply vC_ret)
  (apply ret2; (case h1 => (exact norm_eq rfl)); (case h2 => (exact norm_eq rfl)))
  exact ⟨rfl, S1.drew⟩
theorem waitS1_i (x : RE) (kb k : Nat) (w : World) (hb : Blk w.heap kb [pt k] 71) {c1 c2 : List Value} (h1 : Blk w.heap x.k c1 175) (h2 : Blk w.heap k c2 175) : Rets Tryz.prog 116 #[.agg (reE x).toArray, pt kb] w fun u w' => u = .bool (!decide (x.k = k)) ∧ Fr No w w' := by
  have hxf := x.f.2
  refine rets_of Tryz.func116 rfl Tryz.ntmps116 rfl rfl (by kernel_rfl) ?_
  ((apply vC_seq; apply vC_region)); (((refine vL_val (opw_boxn rfl) ?_); (refine vE rfl ?_); apply vL_nil)); with_reducible apply seqP_normal
  ((apply vC_seq; apply vC_region))
  refine vL_gen (fun w' => Fr No w w' ∧ Blk w'.heap w.heap.size (reE x) 157) ⟨by (apply Fr.alloc; exact Fr.refl _ _), Blk.as inferInstance rfl⟩ ?_
  rintro w1 ⟨hf1, h5⟩
  generalize w.heap.size = b5 at h5 ⊢
  have hb1 := hb.frN hf1
  have h11 := h1.frN hf1
  have h21 := h2.frN hf1
  rw [reE] at h5
  ((refine vL_val (opv_fieldAddr rfl) ?_); (iterate 2 (((apply vL_val); (case h => ((apply opv_loadb1); exact rfl; exact rfl; assumption; exact rfl))))); ((apply vL_val); (case h => ((apply opv_neq_ptr); exact rfl; exact rfl; exact rfl; assumption; assumption))); (refine vE rfl ?_); apply vL_nil; apply seqP_normal; apply vC_ret)
  (apply ret1; (case h1 => (exact norm_eq rfl)))
  exact ⟨by simp, hf1⟩
theorem waitR1_i (x : SE) (kb k : Nat) (w : World) (hb : Blk w.heap kb [pt k] 71) {c1 c2 : List Value} (h1 : Blk w.heap x.k c1 175) (h2 : Blk w.heap k c2 175) : Rets Tryz.prog 120 #[.agg (seE x).toArray, pt kb] w fun u w' => u = .bool (!decide (x.k = k)) ∧ Fr No w w' := by
  have hxf := x.f.2
  refine rets_of Tryz.func120 rfl Tryz.ntmps120 rfl rfl (by kernel_rfl) ?_
  ((apply vC_seq; apply vC_region)); (((refine vL_val (opw_boxn rfl) ?_); (refine vE rfl ?_); apply vL_nil)); with_reducible apply seqP_normal
  ((apply vC_seq; apply vC_region))
  refine vL_gen (fun w' => Fr No w w' ∧ Blk w'.heap w.heap.size (seE x) 154) ⟨by (apply Fr.alloc; exact Fr.refl _ _), Blk.as inferInstance rfl⟩ ?_
  rintro w1 ⟨hf1, h5⟩
  generalize w.heap.size = b5 at h5 ⊢
  have hb1 := hb.frN hf1
  have h11 := h1.frN hf1
  have h21 := h2.frN hf1
  rw [seE] at h5
  ((refine vL_val (opv_fieldAddr rfl) ?_); (iterate 2 (((apply vL_val); (case h => ((apply opv_loadb1); exact rfl; exact rfl; assumption; exact rfl))))); ((apply vL_val); (case h => ((apply opv_neq_ptr); exact rfl; exact rfl; exact rfl; assumption; assumption))); (refine vE rfl ?_); apply vL_nil; apply seqP_normal; apply vC_ret)
  (apply ret1; (case h1 => (exact norm_eq rfl)))
  exact ⟨by simp, hf1⟩
/-- may somebody wait to send? -/
def noSend (d : CH) (t : TKT) : Bool := t.fired || d.closed || d.rcv.any (fun x => !decide (x.k = t.b)) || decide ((d.buf.length : Int) < d.size)
def noRecv (d : CH) (t : TKT) : Bool := t.fired || d.closed || d.snd.any (fun x => !decide (x.k = t.b)) || decide (0 < d.buf.length)
theorem ch_waitsend_i [Lcl R] (S : At (ChA_i rb c * (TksA ts * R)) w0 F0 w) (h1 : ∀ x ∈ c.snd, ∃ t ∈ ts, x.k = t.b) (h2 : ∀ x ∈ c.rcv, ∃ t ∈ ts, x.k = t.b) (hbig : c.snd.length ≤ 1000000 ∧ c.rcv.length ≤ 1000000) (v : Int) {t : TKT} (ht : t ∈ ts) (g g2 : FuncId) (cap cap2 : Array Value) (hfire : t.fire.1 = .func (.func g2) #[] cap2) :
    Rets Tryz.prog 37 #[pt c.cb, .int .i64 v, pt t.b, .func (.func g) #[] cap] w fun u w' =>
      (noSend (c.cleaned ts) t = true ∧ u = .int .i64 2 ∧ At (ChA_i rb (c.cleaned ts) * (TksA ts * R)) w0 F0 w') ∨
      (noSend (c.cleaned ts) t = false ∧ u = .int .i64 0 ∧ At (ChA_i rb { c.cleaned ts with snd := (c.cleaned ts).snd ++ [⟨t.b, v, ⟨.func (.func g) #[] cap, rfl⟩⟩] } * (TksA ts * R)) w0 F0 w') := by
  refine rets_of Tryz.func37 rfl Tryz.ntmps37 rfl rfl (by kernel_rfl) ?_
  ((apply vC_seq; apply vC_region)); ((((apply vL_val); (case h => ((apply opw_box1); exact norm_eq rfl; (first | rfl | assumption)))); (refine vE rfl ?_); apply vL_nil)); with_reducible apply seqP_normal
  (((iterate 2 (apply vC_seq)); apply vC_region))
  refine vL_gen (fun w' => At (ChA_i rb c * (TksA ts * (Pt w.heap.size [pt t.b] 71 * R))) w0 F0 w') ((S.new (cs := [pt t.b]) (T := 71) (by (apply Fr.alloc; exact Fr.refl _ _)) inferInstance (Nat.le_refl _)).ac (by ac_rfl)) ?_
  intro w1 S1
  generalize w.heap.size = b6 at S1 ⊢
  have hr1 := ch_right_i w1 c rb (ch_blk_i S1)
  have htb := (S1.ac (show _ = TksA ts * (ChA_i rb c * (Pt b6 [pt t.b] 71 * R)) by ac_rfl)).tk ht
  have h61 := (S1.ac (show _ = Pt b6 [pt t.b] 71 * (ChA_i rb c * (TksA ts * R)) by ac_rfl)).blk
  rw [hfire] at htb
  ((refine vE rfl ?_))
  refine vL_callF rfl (hr1) rfl ?_
  rintro _ _ ⟨rfl, rfl⟩
  ((refine vL_val (opv_not rfl) ?_); (iterate 24 (first | (refine vE rfl ?_) | ((with_reducible apply vL_val); (case h => ((with_reducible apply opv_loadb1); exact rfl; exact rfl; assumption; exact rfl))) | (refine vL_val (opv_fieldAddr rfl) ?_) | ((with_reducible apply vL_val); (case h => ((with_reducible apply opv_eql_pnil); exact rfl; exact rfl; (simp; done)))) | (refine vL_val (opv_eql_fnil rfl rfl) ?_) | ((with_reducible apply vL_wanted); exact rfl))); apply vL_nil; apply seqP_normal; ((apply vC_cond_false); exact rfl); apply vC_skip; apply seqP_normal; apply vC_seq; apply vC_region; (refine vE rfl ?_))
  refine vL_callF rfl (ch_clean_i S1 h1 h2) rfl ?_
  intro _ w2 S2
  have hcb2 := ch_blk_i S2
  rw [chL_i] at hcb2
  have ecb : (c.cleaned ts).cb = c.cb := rfl
  have hsl : (c.cleaned ts).snd.length ≤ 1000000 ∧ (c.cleaned ts).rcv.length ≤ 1000000 := ⟨Nat.le_trans (List.length_filter_le _ _) hbig.1, Nat.le_trans (List.length_filter_le _ _) hbig.2⟩
  have hm2 : ∀ x ∈ (c.cleaned ts).rcv, ∃ t ∈ ts, x.k = t.b := fun x hx => h2 x (List.mem_filter.1 hx).1
  rw [ecb] at hcb2
  generalize c.cleaned ts = d at *
  clear htb h61 hr1 S1
  obtain ⟨v3, b3, o3, n3, _⟩ := ch_rcv_i S2
  (apply vL_nil; apply seqP_normal; apply vC_seq; apply vC_region; (iterate 2 ((refine vE rfl ?_))); (refine vL_val (opv_fieldAddr rfl) ?_); ((apply vL_val); (case h => ((apply opv_loadb1); exact rfl; exact rfl; assumption; exact rfl))))
  refine vL_callF rfl (q_list_rcv d.rq v3 d.rcv w2 b3 o3 (by omega)) rfl ?_
  rintro lv w3 ⟨hf3, ho3, hfr3, hone3⟩
  have S3 := S2.frN hf3
  have htk3 : ∀ t ∈ ts, Blk w3.heap t.b [t.fire.1, .bool t.fired] 175 := fun t' ht' => (S3.ac (show _ = TksA ts * (ChA_i rb d * (Pt b6 [pt t.b] 71 * R)) by ac_rfl)).tk ht'
  have h63 := (S3.ac (show _ = Pt b6 [pt t.b] 71 * (ChA_i rb d * (TksA ts * R)) by ac_rfl)).blk
  ((refine vL_val (opv_makeFunc rfl) ?_))
  refine vL_callF rfl (containsFunc_rcv _ lv (fun x => !decide (x.k = t.b)) d.rcv w3 116 [pt b6] ho3.rd hone3 rfl (fun x w4 hx hf4 => by
    obtain ⟨t', ht', e'⟩ := hm2 x hx
    exact waitS1_i x b6 t.b w4 (h63.frN hf4) (by rw [e']; exact (htk3 t' ht').frN hf4) ((htk3 t ht).frN hf4))) rfl ?_
  rintro _ w4 ⟨rfl, hf4⟩
  have S4 := S3.frN hf4
  have hcb4 := ch_blk_i S4
  rw [chL_i, ecb] at hcb4
  have htb4 := (htk3 t ht).frN hf4
  have h64 := h63.frN hf4
  obtain ⟨v5, b5, o5, n5, _⟩ := ch_buf_i S4
  clear S2 S3 hcb2 b3 o3 htk3 h63 ho3
  have fin : ∀ w', At (ChA_i rb d * (TksA ts * (Pt b6 [pt t.b] 71 * R))) w0 F0 w' → At (ChA_i rb d * (TksA ts * R)) w0 F0 w' := fun w' h => (h.ac (show _ = Pt b6 [pt t.b] 71 * (ChA_i rb d * (TksA ts * R)) by ac_rfl)).drop
  have hns : noSend d t = (t.fired || d.closed || d.rcv.any (fun x => !decide (x.k = t.b)) || decide ((d.buf.length : Int) < d.size)) := rfl
  generalize d.rcv.any (fun x => !decide (x.k = t.b)) = an at hns ⊢
  have hbad : noSend d t = true → (noSend d t = true ∧ Value.int .i64 2 = .int .i64 2 ∧ At (ChA_i rb d * (TksA ts * R)) w0 F0 w4.drew) := fun h => ⟨h, rfl, fin _ S4.drew⟩
  cases hfd : t.fired with
  | true =>
    rw [hfd] at htb4 hns
    ((refine vE rfl ?_); apply vL_nil; apply seqP_normal; (iterate 2 (apply vC_seq)))
    (with_reducible apply vC_drawQ); ((iterate 25 (first | ((with_reducible apply vQ_op); (case hi => exact rfl); (case hf => kernel_rfl); (case hS => exact Dr.refl _); (case hy => (intro j; ((with_reducible apply opv_E); exact rfl)))) | ((with_reducible apply vQ_op); (case hi => exact rfl); (case hf => kernel_rfl); (case hS => exact Dr.refl _); (case hy => (intro j; ((with_reducible apply opv_loadb1); exact rfl; exact rfl; assumption; exact rfl)))) | ((with_reducible apply vQ_op); (case hi => exact rfl); (case hf => kernel_rfl); (case hS => exact Dr.refl _); (case hy => (intro j; ((with_reducible apply opv_fieldAddr); exact rfl)))) | ((with_reducible apply vQ_unwanted); (case hi => exact rfl); (case hg => exact rfl); (case hne => exact rfl); (case hf => kernel_rfl); (case hS => exact Dr.refl _)))); ((apply vQ_end); (case hi => exact rfl); (case hf => kernel_rfl); (case hS => exact Dr.refl _)))
    (apply seqP_normal; ((apply vC_cond_true); exact rfl); apply vC_seq; apply vC_region; (refine vE rfl ?_); apply vL_nil; apply seqP_normal; apply vC_ret; apply seqP_ret)
    (apply ret1; (case h1 => (exact norm_eq rfl)))
    exact .inl (hbad (by rw [hns]; rfl))
  | false =>
  rw [hfd] at htb4 hns
  cases hcl : d.closed with
  | true =>
    rw [hcl] at hcb4 hns
    ((refine vE rfl ?_); apply vL_nil; apply seqP_normal; (iterate 2 (apply vC_seq)))
    (with_reducible apply vC_drawQ); ((iterate 25 (first | ((with_reducible apply vQ_op); (case hi => exact rfl); (case hf => kernel_rfl); (case hS => exact Dr.refl _); (case hy => (intro j; ((with_reducible apply opv_E); exact rfl)))) | ((with_reducible apply vQ_op); (case hi => exact rfl); (case hf => kernel_rfl); (case hS => exact Dr.refl _); (case hy => (intro j; ((with_reducible apply opv_loadb1); exact rfl; exact rfl; assumption; exact rfl)))) | ((with_reducible apply vQ_op); (case hi => exact rfl); (case hf => kernel_rfl); (case hS => exact Dr.refl _); (case hy => (intro j; ((with_reducible apply opv_fieldAddr); exact rfl)))) | ((with_reducible apply vQ_wanted); (case hi => exact rfl); (case hg => exact rfl); (case hf => kernel_rfl); (case hS => exact Dr.refl _); (case hy => (intro j; ((with_reducible apply opv_E); exact rfl)))) | ((with_reducible apply vQ_wanted); (case hi => exact rfl); (case hg => exact rfl); (case hf => kernel_rfl); (case hS => exact Dr.refl _); (case hy => (intro j; ((with_reducible apply opv_loadb1); exact rfl; exact rfl; assumption; exact rfl)))) | ((with_reducible apply vQ_wanted); (case hi => exact rfl); (case hg => exact rfl); (case hf => kernel_rfl); (case hS => exact Dr.refl _); (case hy => (intro j; ((with_reducible apply opv_fieldAddr); exact rfl)))) | ((with_reducible apply vQ_unwanted); (case hi => exact rfl); (case hg => exact rfl); (case hne => exact rfl); (case hf => kernel_rfl); (case hS => exact Dr.refl _)))); ((apply vQ_end); (case hi => exact rfl); (case hf => kernel_rfl); (case hS => exact Dr.refl _)))
    (apply seqP_normal; ((apply vC_cond_true); exact rfl); apply vC_seq; apply vC_region; (refine vE rfl ?_); apply vL_nil; apply seqP_normal; apply vC_ret; apply seqP_ret)
    (apply ret1; (case h1 => (exact norm_eq rfl)))
    exact .inl (hbad (by rw [hns]; rfl))
  | false =>
  rw [hcl] at hcb4 hns
  cases an with
  | true =>
    ((refine vE rfl ?_); apply vL_nil; apply seqP_normal; (iterate 2 (apply vC_seq)))
    (with_reducible apply vC_drawQ); ((iterate 25 (first | ((with_reducible apply vQ_op); (case hi => exact rfl); (case hf => kernel_rfl); (case hS => exact Dr.refl _); (case hy => (intro j; ((with_reducible apply opv_E); exact rfl)))) | ((with_reducible apply vQ_op); (case hi => exact rfl); (case hf => kernel_rfl); (case hS => exact Dr.refl _); (case hy => (intro j; ((with_reducible apply opv_loadb1); exact rfl; exact rfl; assumption; exact rfl)))) | ((with_reducible apply vQ_op); (case hi => exact rfl); (case hf => kernel_rfl); (case hS => exact Dr.refl _); (case hy => (intro j; ((with_reducible apply opv_fieldAddr); exact rfl)))) | ((with_reducible apply vQ_wanted); (case hi => exact rfl); (case hg => exact rfl); (case hf => kernel_rfl); (case hS => exact Dr.refl _); (case hy => (intro j; ((with_reducible apply opv_E); exact rfl)))) | ((with_reducible apply vQ_wanted); (case hi => exact rfl); (case hg => exact rfl); (case hf => kernel_rfl); (case hS => exact Dr.refl _); (case hy => (intro j; ((with_reducible apply opv_loadb1); exact rfl; exact rfl; assumption; exact rfl)))) | ((with_reducible apply vQ_wanted); (case hi => exact rfl); (case hg => exact rfl); (case hf => kernel_rfl); (case hS => exact Dr.refl _); (case hy => (intro j; ((with_reducible apply opv_fieldAddr); exact rfl)))) | ((with_reducible apply vQ_unwanted); (case hi => exact rfl); (case hg => exact rfl); (case hne => exact rfl); (case hf => kernel_rfl); (case hS => exact Dr.refl _)))); ((apply vQ_end); (case hi => exact rfl); (case hf => kernel_rfl); (case hS => exact Dr.refl _)))
    (apply seqP_normal; ((apply vC_cond_true); exact rfl); apply vC_seq; apply vC_region; (refine vE rfl ?_); apply vL_nil; apply seqP_normal; apply vC_ret; apply seqP_ret)
    (apply ret1; (case h1 => (exact norm_eq rfl)))
    exact .inl (hbad (by rw [hns]; rfl))
  | false =>
  ((refine vE rfl ?_); apply vL_nil; apply seqP_normal; (iterate 2 (apply vC_seq)))
  refine vC_draw' (fun wf => Fr No w4 wf) ((Fr.refl No w4).drew) ?_
  (refine tk 0 rfl (by kernel_rfl) (by apply Fr.drew; exact Fr.refl _ _) (by intro wf hwf; haveI := From.mk hwf; (((apply opv_loadb1); exact rfl; exact rfl; infer_instance; exact rfl))) ?_)
  (refine tkE 1 rfl (by kernel_rfl) (by apply Fr.drew; exact Fr.refl _ _) rfl ?_)
  (refine tk 2 rfl (by kernel_rfl) (by apply Fr.drew; exact Fr.refl _ _) (by intro wf hwf; haveI := From.mk hwf; (((apply opv_fieldAddr); exact rfl))) ?_)
  (refine tk 3 rfl (by kernel_rfl) (by apply Fr.drew; exact Fr.refl _ _) (by intro wf hwf; haveI := From.mk hwf; (((apply opv_loadb1); exact rfl; exact rfl; infer_instance; exact rfl))) ?_)
  (refine tkE 4 rfl (by kernel_rfl) (by apply Fr.drew; exact Fr.refl _ _) rfl ?_)
  (refine tkwE 5 rfl rfl (by kernel_rfl) (by apply Fr.drew; exact Fr.refl _ _) rfl ?_)
  (refine tkwE 6 rfl rfl (by kernel_rfl) (by apply Fr.drew; exact Fr.refl _ _) rfl ?_)
  (refine tkw 7 rfl rfl (by kernel_rfl) (by apply Fr.drew; exact Fr.refl _ _) (by intro wf hwf; haveI := From.mk hwf; (((apply opv_fieldAddr); exact rfl))) ?_)
  (refine tkw 8 rfl rfl (by kernel_rfl) (by apply Fr.drew; exact Fr.refl _ _) (by intro wf hwf; haveI := From.mk hwf; (((apply opv_loadb1); exact rfl; exact rfl; infer_instance; exact rfl))) ?_)
  (refine tkE 9 rfl (by kernel_rfl) (by apply Fr.drew; exact Fr.refl _ _) rfl ?_)
  (refine tkE 10 rfl (by kernel_rfl) (by apply Fr.drew; exact Fr.refl _ _) rfl ?_)
  (refine tkwE 11 rfl rfl (by kernel_rfl) (by apply Fr.drew; exact Fr.refl _ _) rfl ?_)
  (refine tkE 12 rfl (by kernel_rfl) (by apply Fr.drew; exact Fr.refl _ _) rfl ?_)
  (refine tkE 13 rfl (by kernel_rfl) (by apply Fr.drew; exact Fr.refl _ _) rfl ?_)
  (refine tkwE 14 rfl rfl (by kernel_rfl) (by apply Fr.drew; exact Fr.refl _ _) rfl ?_)
  (refine tkwE 15 rfl rfl (by kernel_rfl) (by apply Fr.drew; exact Fr.refl _ _) rfl ?_)
  (refine tkw 16 rfl rfl (by kernel_rfl) (by apply Fr.drew; exact Fr.refl _ _) (by intro wf hwf; haveI := From.mk hwf; (((apply opv_fieldAddr); exact rfl))) ?_)
  (refine tkw 17 rfl rfl (by kernel_rfl) (by apply Fr.drew; exact Fr.refl _ _) (by intro wf hwf; haveI := From.mk hwf; (((apply opv_loadb1); exact rfl; exact rfl; infer_instance; exact rfl))) ?_)
  (refine tkwE 19 rfl rfl (by kernel_rfl) (by apply Fr.drew; exact Fr.refl _ _) rfl ?_)
  (refine tkwE 20 rfl rfl (by kernel_rfl) (by apply Fr.drew; exact Fr.refl _ _) rfl ?_)
  (refine tkw 21 rfl rfl (by kernel_rfl) (by apply Fr.drew; exact Fr.refl _ _) (by intro wf hwf; haveI := From.mk hwf; (((apply opv_fieldAddr); exact rfl))) ?_)
  (refine tkw 22 rfl rfl (by kernel_rfl) (by apply Fr.drew; exact Fr.refl _ _) (by intro wf hwf; haveI := From.mk hwf; (((apply opv_loadb1); exact rfl; exact rfl; infer_instance; exact rfl))) ?_)
  (refine tkcw 18 rfl rfl (by kernel_rfl) (by (apply Fr.drew; exact Fr.refl _ _)) rfl (q_len_int d.bq v5 d.buf _ inferInstance inferInstance) rfl ?_)
  rintro _ _ ⟨rfl, rfl⟩
  (refine tkwE 23 rfl rfl (by kernel_rfl) (by apply Fr.drew; exact Fr.refl _ _) rfl ?_)
  (refine tkE 24 rfl (by kernel_rfl) (by apply Fr.drew; exact Fr.refl _ _) rfl ?_)
  refine vA_done (by kernel_rfl) (by (first | exact trivial | ((apply Fr.drew; exact Fr.refl _ _); done))) ?_
  by_cases hl : (d.buf.length : Int) < d.size
  · (apply seqP_normal; (refine vC_cond_dec rfl (fun _ => ?_) (fun h => by omega)); apply vC_seq; apply vC_region; (refine vE rfl ?_); apply vL_nil; apply seqP_normal; apply vC_ret; apply seqP_ret)
    (apply ret1; (case h1 => (exact norm_eq rfl)))
    exact .inl (hbad (by rw [hns, decide_eq_true hl]; rfl))
  have hok : noSend d t = false := by rw [hns, decide_eq_false hl]; rfl
  refine vC_gen (fun w' => At (ChA_i rb d * (TksA ts * (Pt b6 [pt t.b] 71 * R))) w0 F0 w') S4.drew ?_
  clear S4 hcb4 htb4 h64 b5 o5 hbad
  intro w5 S5
  have hcb5 := ch_blk_i S5
  rw [chL_i, ecb] at hcb5
  have h65 := (S5.ac (show _ = Pt b6 [pt t.b] 71 * (ChA_i rb d * (TksA ts * R)) by ac_rfl)).blk
  ((refine vC_cond_dec rfl (fun h => by omega) (fun _ => ?_)); apply vC_skip; apply seqP_normal; apply vC_seq)
  refine vC_draw' ((fun wf => Blk wf.heap c.cb [pt rb, .int .i64 d.size, pt d.bq, pt d.sq, pt d.rq, .bool d.closed] 148 ∧ Blk wf.heap b6 [pt t.b] 71)) (by refine ⟨?_, ?_⟩ <;> first | assumption | infer_instance) ?_
  (refine tkE 0 rfl (by kernel_rfl) (by refine ⟨?_, ?_⟩ <;> first | assumption | infer_instance) rfl ?_)
  (refine tkE 1 rfl (by kernel_rfl) (by refine ⟨?_, ?_⟩ <;> first | assumption | infer_instance) rfl ?_)
  (refine tk 2 rfl (by kernel_rfl) (by refine ⟨?_, ?_⟩ <;> first | assumption | infer_instance) (by rintro wf ⟨hwa, hwb⟩; (((apply opv_fieldAddr); exact rfl))) ?_)
  (refine tk 3 rfl (by kernel_rfl) (by refine ⟨?_, ?_⟩ <;> first | assumption | infer_instance) (by rintro wf ⟨hwa, hwb⟩; (((apply opv_loadb1); exact rfl; exact rfl; assumption; exact rfl))) ?_)
  (refine tk 4 rfl (by kernel_rfl) (by refine ⟨?_, ?_⟩ <;> first | assumption | infer_instance) (by rintro wf ⟨hwa, hwb⟩; (((apply opv_loadb1); exact rfl; exact rfl; assumption; exact rfl))) ?_)
  (refine tkE 5 rfl (by kernel_rfl) (by refine ⟨?_, ?_⟩ <;> first | assumption | infer_instance) rfl ?_)
  (refine tkE 6 rfl (by kernel_rfl) (by refine ⟨?_, ?_⟩ <;> first | assumption | infer_instance) rfl ?_)
  (refine tk 7 rfl (by kernel_rfl) (by refine ⟨?_, ?_⟩ <;> first | assumption | infer_instance) (by rintro wf ⟨hwa, hwb⟩; (((apply opv_buildS); exact rfl; exact (rfl : _ = some [_, _, _])))) ?_)
  have S5d := S5.drew
  obtain ⟨v6, b6', o6, n6, up6⟩ := ch_snd_i S5d
  refine tkc 8 rfl (by kernel_rfl) (by refine ⟨?_, ?_⟩ <;> first | assumption | infer_instance) rfl (q_push_snd d.sq v6 ⟨t.b, v, ⟨.func (.func g) #[] cap, rfl⟩⟩ d.snd _ b6' o6 (by omega)) rfl ?_
  rintro _ w6 ⟨lv6, hf6, hb6, ho6, hl6, hone6⟩
  have S6 := up6 _ _ _ hf6 hb6 ho6 hone6 hl6
  have hcb6 := ch_blk_i S6
  rw [chL_i] at hcb6
  simp only [ecb] at hcb6
  have h66 := (S6.ac (show _ = Pt b6 [pt t.b] 71 * (ChA_i rb { d with snd := d.snd ++ [⟨t.b, v, ⟨.func (.func g) #[] cap, rfl⟩⟩] } * (TksA ts * R)) by ac_rfl)).blk
  refine vA_done (by kernel_rfl) (by refine ⟨?_, ?_⟩ <;> first | assumption | infer_instance) ?_
  (apply seqP_normal; apply vC_seq; apply vC_region; (refine vE rfl ?_); apply vL_nil; apply seqP_normal; apply vC_ret)
  (apply ret1; (case h1 => (exact norm_eq rfl)))
  exact .inr ⟨hok, rfl, (S6.ac (show _ = Pt b6 [pt t.b] 71 * (ChA_i rb { d with snd := d.snd ++ [⟨t.b, v, ⟨.func (.func g) #[] cap, rfl⟩⟩] } * (TksA ts * R)) by ac_rfl)).drop⟩
end
end Go.Proofs.YtbaidcnalkdhgaaGreat
set_option maxRecDepth 100000
namespace Go.Proofs.YtbaidcnalkdhgaaGreat
open Go Go.Eng
section
variable {w w' w0 : World} {F F0 : Nat → Prop} {rb : Nat} {c : CH} {ts : List TKT} {R : Asr}
theorem ch_waitrecv_i [Lcl R] (S : At (ChA_i rb c * (TksA ts * R)) w0 F0 w) (h1 : ∀ x ∈ c.snd, ∃ t ∈ ts, x.k = t.b) (h2 : ∀ x ∈ c.rcv, ∃ t ∈ ts, x.k = t.b) (hbig : c.snd.length ≤ 1000000 ∧ c.rcv.length ≤ 1000000) {t : TKT} (ht : t ∈ ts) (g g2 : FuncId) (cap cap2 : Array Value) (hfire : t.fire.1 = .func (.func g2) #[] cap2) :
    Rets Tryz.prog 39 #[pt c.cb, pt t.b, .func (.func g) #[] cap] w fun u w' =>
      (noRecv (c.cleaned ts) t = true ∧ u = .int .i64 2 ∧ At (ChA_i rb (c.cleaned ts) * (TksA ts * R)) w0 F0 w') ∨
      (noRecv (c.cleaned ts) t = false ∧ u = .int .i64 0 ∧ At (ChA_i rb { c.cleaned ts with rcv := (c.cleaned ts).rcv ++ [⟨t.b, ⟨.func (.func g) #[] cap, rfl⟩⟩] } * (TksA ts * R)) w0 F0 w') := by
  refine rets_of Tryz.func39 rfl Tryz.ntmps39 rfl rfl (by kernel_rfl) ?_
  ((apply vC_seq; apply vC_region)); ((((apply vL_val); (case h => ((apply opw_box1); exact norm_eq rfl; (first | rfl | assumption)))); (refine vE rfl ?_); apply vL_nil)); with_reducible apply seqP_normal
  (((iterate 2 (apply vC_seq)); apply vC_region))
  refine vL_gen (fun w' => At (ChA_i rb c * (TksA ts * (Pt w.heap.size [pt t.b] 71 * R))) w0 F0 w') ((S.new (cs := [pt t.b]) (T := 71) (by (apply Fr.alloc; exact Fr.refl _ _)) inferInstance (Nat.le_refl _)).ac (by ac_rfl)) ?_
  intro w1 S1
  generalize w.heap.size = b6 at S1 ⊢
  have hr1 := ch_right_i w1 c rb (ch_blk_i S1)
  have htb := (S1.ac (show _ = TksA ts * (ChA_i rb c * (Pt b6 [pt t.b] 71 * R)) by ac_rfl)).tk ht
  have h61 := (S1.ac (show _ = Pt b6 [pt t.b] 71 * (ChA_i rb c * (TksA ts * R)) by ac_rfl)).blk
  rw [hfire] at htb
  ((refine vE rfl ?_))
  refine vL_callF rfl (hr1) rfl ?_
  rintro _ _ ⟨rfl, rfl⟩
  ((refine vL_val (opv_not rfl) ?_); (iterate 24 (first | (refine vE rfl ?_) | ((with_reducible apply vL_val); (case h => ((with_reducible apply opv_loadb1); exact rfl; exact rfl; assumption; exact rfl))) | (refine vL_val (opv_fieldAddr rfl) ?_) | ((with_reducible apply vL_val); (case h => ((with_reducible apply opv_eql_pnil); exact rfl; exact rfl; (simp; done)))) | (refine vL_val (opv_eql_fnil rfl rfl) ?_) | ((with_reducible apply vL_wanted); exact rfl))); apply vL_nil; apply seqP_normal; ((apply vC_cond_false); exact rfl); apply vC_skip; apply seqP_normal; apply vC_seq; apply vC_region; (refine vE rfl ?_))
  refine vL_callF rfl (ch_clean_i S1 h1 h2) rfl ?_
  intro _ w2 S2
  have hcb2 := ch_blk_i S2
  rw [chL_i] at hcb2
  have ecb : (c.cleaned ts).cb = c.cb := rfl
  have hsl : (c.cleaned ts).snd.length ≤ 1000000 ∧ (c.cleaned ts).rcv.length ≤ 1000000 := ⟨Nat.le_trans (List.length_filter_le _ _) hbig.1, Nat.le_trans (List.length_filter_le _ _) hbig.2⟩
  have hm2 : ∀ x ∈ (c.cleaned ts).snd, ∃ t ∈ ts, x.k = t.b := fun x hx => h1 x (List.mem_filter.1 hx).1
  rw [ecb] at hcb2
  generalize c.cleaned ts = d at *
  clear htb h61 hr1 S1
  obtain ⟨v3, b3, o3, n3, _⟩ := ch_snd_i S2
  (apply vL_nil; apply seqP_normal; apply vC_seq; apply vC_region; (iterate 2 ((refine vE rfl ?_))); (refine vL_val (opv_fieldAddr rfl) ?_); ((apply vL_val); (case h => ((apply opv_loadb1); exact rfl; exact rfl; assumption; exact rfl))))
  refine vL_callF rfl (q_list_snd d.sq v3 d.snd w2 b3 o3 (by omega)) rfl ?_
  rintro lv w3 ⟨hf3, ho3, hfr3, hone3⟩
  have S3 := S2.frN hf3
  have htk3 : ∀ t ∈ ts, Blk w3.heap t.b [t.fire.1, .bool t.fired] 175 := fun t' ht' => (S3.ac (show _ = TksA ts * (ChA_i rb d * (Pt b6 [pt t.b] 71 * R)) by ac_rfl)).tk ht'
  have h63 := (S3.ac (show _ = Pt b6 [pt t.b] 71 * (ChA_i rb d * (TksA ts * R)) by ac_rfl)).blk
  ((refine vL_val (opv_makeFunc rfl) ?_))
  refine vL_callF rfl (containsFunc_snd _ lv (fun x => !decide (x.k = t.b)) d.snd w3 120 [pt b6] ho3.rd hone3 rfl (fun x w4 hx hf4 => by
    obtain ⟨t', ht', e'⟩ := hm2 x hx
    exact waitR1_i x b6 t.b w4 (h63.frN hf4) (by rw [e']; exact (htk3 t' ht').frN hf4) ((htk3 t ht).frN hf4))) rfl ?_
  rintro _ w4 ⟨rfl, hf4⟩
  have S4 := S3.frN hf4
  have hcb4 := ch_blk_i S4
  rw [chL_i, ecb] at hcb4
  have htb4 := (htk3 t ht).frN hf4
  have h64 := h63.frN hf4
  obtain ⟨v5, b5, o5, n5, _⟩ := ch_buf_i S4
  clear S2 S3 hcb2 b3 o3 htk3 h63 ho3
  have fin : ∀ w', At (ChA_i rb d * (TksA ts * (Pt b6 [pt t.b] 71 * R))) w0 F0 w' → At (ChA_i rb d * (TksA ts * R)) w0 F0 w' := fun w' h => (h.ac (show _ = Pt b6 [pt t.b] 71 * (ChA_i rb d * (TksA ts * R)) by ac_rfl)).drop
  have hns : noRecv d t = (t.fired || d.closed || d.snd.any (fun x => !decide (x.k = t.b)) || decide (0 < d.buf.length)) := rfl
  generalize d.snd.any (fun x => !decide (x.k = t.b)) = an at hns ⊢
  have hbad : noRecv d t = true → (noRecv d t = true ∧ Value.int .i64 2 = .int .i64 2 ∧ At (ChA_i rb d * (TksA ts * R)) w0 F0 w4) := fun h => ⟨h, rfl, fin _ S4⟩
  cases hfd : t.fired with
  | true =>
    rw [hfd] at htb4 hns
    ((iterate 29 (first | with_reducible apply vC_seq | with_reducible apply vC_region | with_reducible apply seqP_normal | (refine vE rfl ?_) | ((with_reducible apply vL_val); (case h => ((with_reducible apply opv_loadb1); exact rfl; exact rfl; assumption; exact rfl))) | (refine vL_val (opv_fieldAddr rfl) ?_) | with_reducible apply vL_nil | ((with_reducible apply vL_unwanted'); exact rfl; exact rfl))); ((apply vC_cond_true); exact rfl); apply vC_seq; apply vC_region; (refine vE rfl ?_); apply vL_nil; apply seqP_normal; apply vC_ret; apply seqP_ret)
    (apply ret1; (case h1 => (exact norm_eq rfl)))
    exact .inl (hbad (by rw [hns]; rfl))
  | false =>
  rw [hfd] at htb4 hns
  cases hcl : d.closed with
  | true =>
    rw [hcl] at hcb4 hns
    ((refine vE rfl ?_); apply vL_nil; apply seqP_normal; (iterate 2 (apply vC_seq)); apply vC_region; (iterate 25 (first | (refine vE rfl ?_) | ((with_reducible apply vL_val); (case h => ((with_reducible apply opv_loadb1); exact rfl; exact rfl; assumption; exact rfl))) | (refine vL_val (opv_fieldAddr rfl) ?_) | ((with_reducible apply vL_wanted); exact rfl) | ((with_reducible apply vL_unwanted'); exact rfl; exact rfl))); apply vL_nil; apply seqP_normal; ((apply vC_cond_true); exact rfl); apply vC_seq; apply vC_region; (refine vE rfl ?_); apply vL_nil; apply seqP_normal; apply vC_ret; apply seqP_ret)
    (apply ret1; (case h1 => (exact norm_eq rfl)))
    exact .inl (hbad (by rw [hns]; rfl))
  | false =>
  rw [hcl] at hcb4 hns
  cases an with
  | true =>
    ((refine vE rfl ?_); apply vL_nil; apply seqP_normal; (iterate 2 (apply vC_seq)); apply vC_region; (iterate 26 (first | (refine vE rfl ?_) | ((with_reducible apply vL_val); (case h => ((with_reducible apply opv_loadb1); exact rfl; exact rfl; assumption; exact rfl))) | (refine vL_val (opv_fieldAddr rfl) ?_) | ((with_reducible apply vL_wanted); exact rfl) | ((with_reducible apply vL_unwanted'); exact rfl; exact rfl))); apply vL_nil; apply seqP_normal; ((apply vC_cond_true); exact rfl); apply vC_seq; apply vC_region; (refine vE rfl ?_); apply vL_nil; apply seqP_normal; apply vC_ret; apply seqP_ret)
    (apply ret1; (case h1 => (exact norm_eq rfl)))
    exact .inl (hbad (by rw [hns]; rfl))
  | false =>
  ((refine vE rfl ?_); apply vL_nil; apply seqP_normal; (iterate 2 (apply vC_seq)); apply vC_region; (iterate 28 (first | (refine vE rfl ?_) | ((with_reducible apply vL_val); (case h => ((with_reducible apply opv_loadb1); exact rfl; exact rfl; assumption; exact rfl))) | (refine vL_val (opv_fieldAddr rfl) ?_) | ((with_reducible apply vL_wanted); exact rfl))))
  refine vL_callF rfl (q_len_int d.bq v5 d.buf w4 b5 o5) rfl ?_
  rintro _ _ ⟨rfl, rfl⟩
  by_cases hl : 0 < d.buf.length
  · (((apply vL_wanted); exact rfl); (iterate 2 ((refine vE rfl ?_))); apply vL_nil; apply seqP_normal; (refine vC_cond_dec rfl (fun _ => ?_) (fun h => by omega)); apply vC_seq; apply vC_region; (refine vE rfl ?_); apply vL_nil; apply seqP_normal; apply vC_ret; apply seqP_ret)
    (apply ret1; (case h1 => (exact norm_eq rfl)))
    exact .inl (hbad (by rw [hns, decide_eq_true hl]; rfl))
  have hok : noRecv d t = false := by rw [hns, decide_eq_false hl]; rfl
  refine vL_gen (fun w' => At (ChA_i rb d * (TksA ts * (Pt b6 [pt t.b] 71 * R))) w0 F0 w') S4 ?_
  clear S4 hcb4 htb4 h64 b5 o5 hbad
  intro w5 S5
  have hcb5 := ch_blk_i S5
  rw [chL_i, ecb] at hcb5
  have h65 := (S5.ac (show _ = Pt b6 [pt t.b] 71 * (ChA_i rb d * (TksA ts * R)) by ac_rfl)).blk
  (((apply vL_wanted); exact rfl); (iterate 2 ((refine vE rfl ?_))); apply vL_nil; apply seqP_normal; (refine vC_cond_dec rfl (fun h => by omega) (fun _ => ?_)); apply vC_skip; apply seqP_normal; apply vC_seq)
  refine vC_draw' ((fun wf => Blk wf.heap c.cb [pt rb, .int .i64 d.size, pt d.bq, pt d.sq, pt d.rq, .bool d.closed] 148 ∧ Blk wf.heap b6 [pt t.b] 71)) (by refine ⟨?_, ?_⟩ <;> first | assumption | infer_instance) ?_
  (refine tkE 0 rfl (by kernel_rfl) (by refine ⟨?_, ?_⟩ <;> first | assumption | infer_instance) rfl ?_)
  (refine tkE 1 rfl (by kernel_rfl) (by refine ⟨?_, ?_⟩ <;> first | assumption | infer_instance) rfl ?_)
  (refine tk 2 rfl (by kernel_rfl) (by refine ⟨?_, ?_⟩ <;> first | assumption | infer_instance) (by rintro wf ⟨hwa, hwb⟩; (((apply opv_fieldAddr); exact rfl))) ?_)
  (refine tk 3 rfl (by kernel_rfl) (by refine ⟨?_, ?_⟩ <;> first | assumption | infer_instance) (by rintro wf ⟨hwa, hwb⟩; (((apply opv_loadb1); exact rfl; exact rfl; assumption; exact rfl))) ?_)
  (refine tk 4 rfl (by kernel_rfl) (by refine ⟨?_, ?_⟩ <;> first | assumption | infer_instance) (by rintro wf ⟨hwa, hwb⟩; (((apply opv_loadb1); exact rfl; exact rfl; assumption; exact rfl))) ?_)
  (refine tkE 5 rfl (by kernel_rfl) (by refine ⟨?_, ?_⟩ <;> first | assumption | infer_instance) rfl ?_)
  (refine tk 6 rfl (by kernel_rfl) (by refine ⟨?_, ?_⟩ <;> first | assumption | infer_instance) (by rintro wf ⟨hwa, hwb⟩; (((apply opv_buildS); exact rfl; exact (rfl : _ = some [_, _])))) ?_)
  have S5d := S5.drew
  obtain ⟨v6, b6', o6, n6, up6⟩ := ch_rcv_i S5d
  refine tkc 7 rfl (by kernel_rfl) (by refine ⟨?_, ?_⟩ <;> first | assumption | infer_instance) rfl (q_push_rcv d.rq v6 ⟨t.b, ⟨.func (.func g) #[] cap, rfl⟩⟩ d.rcv _ b6' o6 (by omega)) rfl ?_
  rintro _ w6 ⟨lv6, hf6, hb6, ho6, hl6, hone6⟩
  have S6 := up6 _ _ _ hf6 hb6 ho6 hone6 hl6
  have hcb6 := ch_blk_i S6
  rw [chL_i] at hcb6
  simp only [ecb] at hcb6
  have h66 := (S6.ac (show _ = Pt b6 [pt t.b] 71 * (ChA_i rb { d with rcv := d.rcv ++ [⟨t.b, ⟨.func (.func g) #[] cap, rfl⟩⟩] } * (TksA ts * R)) by ac_rfl)).blk
  refine vA_done (by kernel_rfl) (by refine ⟨?_, ?_⟩ <;> first | assumption | infer_instance) ?_
  (apply seqP_normal; apply vC_seq; apply vC_region; (refine vE rfl ?_); apply vL_nil; apply seqP_normal; apply vC_ret)
  (apply ret1; (case h1 => (exact norm_eq rfl)))
  exact .inr ⟨hok, rfl, (S6.ac (show _ = Pt b6 [pt t.b] 71 * (ChA_i rb { d with rcv := d.rcv ++ [⟨t.b, ⟨.func (.func g) #[] cap, rfl⟩⟩] } * (TksA ts * R)) by ac_rfl)).drop⟩
end
end Go.Proofs.YtbaidcnalkdhgaaGreat
set_option maxRecDepth 100000
namespace Go.Proofs.YtbaidcnalkdhgaaGreat
open Go Go.Eng
theorem q_of0_bi (w : World) :
    Rets Tryz.prog 84 #[.slice none 0 0] w fun u w' => Fr No w w' ∧ ∃ b, u = pt b ∧ w.heap.size ≤ b ∧ Blk w'.heap b [.bool true, .slice none 0 0] 223 := by
  have hc : Rets Tryz.prog 150 #[.slice none 0 0] w fun u w' => w = w' ∧ u = .slice none 0 0 := by
    refine rets_of Tryz.func150 rfl Tryz.ntmps150 rfl rfl (by kernel_rfl) ?_
    ((iterate 18 (first | with_reducible apply vC_seq | with_reducible apply vC_region | with_reducible apply seqP_normal | ((with_reducible apply vC_cond_true); exact rfl) | (refine vE rfl ?_) | (refine vL_val (opv_eql_snil rfl rfl) ?_) | with_reducible apply vL_nil)); apply vC_ret; apply seqP_ret)
    (apply ret1; (case h1 => (exact norm_eq rfl)))
    exact ⟨rfl, rfl⟩
  refine rets_of Tryz.func84 rfl Tryz.ntmps84 rfl rfl (by kernel_rfl) ?_
  (apply vC_seq; apply vC_region; (refine vE rfl ?_); apply vL_nil; apply seqP_normal; apply vC_seq; apply vC_region; (refine vE rfl ?_))
  refine vL_callF rfl (hc) rfl ?_
  rintro _ _ ⟨rfl, rfl⟩
  (((apply vL_val); (case h => ((apply opv_buildS); exact rfl; exact (rfl : _ = some [_, _])))); (refine vL_val (opw_boxn rfl) ?_); (refine vE rfl ?_); apply vL_nil; apply seqP_normal; apply vC_ret)
  (apply ret1; (case h1 => (exact norm_eq rfl)))
  exact ⟨(Fr.refl No w).alloc _, _, rfl, Nat.le_refl _, inferInstance⟩
theorem tk_new {R : Asr} [Lcl R] {w0 w : World} {F0 : Nat → Prop} {ts : List TKT} (S : At (TksA ts * R) w0 F0 w) (g : FuncId) (cap : Array Value) : Rets Tryz.prog 35 #[.func (.func g) #[] cap] w fun u w' => ∃ b, u = pt b ∧ At (TksA (ts ++ [⟨b, ⟨.func (.func g) #[] cap, rfl⟩, false⟩]) * R) w0 F0 w' := by
  refine rets_of Tryz.func35 rfl Tryz.ntmps35 rfl rfl (by kernel_rfl) ?_
  ((iterate 18 (first | with_reducible apply vC_seq | with_reducible apply vC_region | with_reducible apply seqP_normal | with_reducible apply vC_skip | ((with_reducible apply vC_cond_false); exact rfl) | (refine vE rfl ?_) | (refine vL_val (opv_eql_fnil rfl rfl) ?_) | with_reducible apply vL_nil)); ((apply vL_val); (case h => ((apply opv_buildS); exact rfl; exact (rfl : _ = some [_, _])))); (refine vL_val (opw_boxn rfl) ?_); (refine vE rfl ?_); apply vL_nil; apply seqP_normal; apply vC_ret)
  (apply ret1; (case h1 => (exact norm_eq rfl)))
  refine ⟨w.heap.size, rfl, ?_⟩
  have S1 := S.new (w' := w.alloc (.cells #[.func (.func g) #[] cap, .bool false] 175)) (b := w.heap.size) (cs := [.func (.func g) #[] cap, .bool false]) (T := 175) ((Fr.refl No w).alloc _) Blk.new (Nat.le_refl _)
  exact S1.ac (by unfold TksA; rw [big_map_snoc, star_assoc]; rfl)
section
variable {w w' w0 : World} {F F0 : Nat → Prop} {rb : Nat} {c : CH} {ts : List TKT} {R : Asr}
theorem ch_make_i [Lcl R] {now : Option Nat} {rest : Int} {ready : List Int} {tk : List (Nat × TK)} (S : At (RtA rb now rest ready tk * R) w0 F0 w) (size : Int) (hs : 0 ≤ size ∧ size ≤ 64) :
    Rets Tryz.prog 15 #[pt rb, .int .i64 size] w fun u w' => ∃ cb bq sq rq, u = .tuple #[pt cb, .int .i64 0] ∧ At (ChA_i rb ⟨cb, bq, sq, rq, size, [], [], [], false⟩ * (RtA rb now rest ready tk * R)) w0 F0 w' := by
  have hm : Rets Tryz.prog 83 #[pt rb] w fun u w' => w = w' ∧ u = .bool true := by
    have hr := rightA S
    refine rets_of Tryz.func83 rfl Tryz.ntmps83 rfl rfl (by kernel_rfl) ?_
    (apply vC_seq; apply vC_region; (refine vE rfl ?_); apply vL_nil; apply seqP_normal; apply vC_seq; apply vC_region; (refine vE rfl ?_))
    refine vL_callF rfl (hr) rfl ?_
    rintro _ _ ⟨rfl, rfl⟩
    ((refine vE rfl ?_); apply vL_nil; apply seqP_normal; apply vC_ret)
    (apply ret1; (case h1 => (exact norm_eq rfl)))
    exact ⟨rfl, rfl⟩
  refine rets_of Tryz.func15 rfl Tryz.ntmps15 rfl rfl (by kernel_rfl) ?_
  (apply vC_seq; apply vC_region; (iterate 2 ((refine vE rfl ?_))); apply vL_nil; apply seqP_normal; apply vC_seq; apply vC_block; apply vC_seq; apply vC_region; (refine vE rfl ?_))
  refine vL_callF rfl (hm) rfl ?_
  rintro _ _ ⟨rfl, rfl⟩
  ((refine vL_val (opv_not rfl) ?_); (refine vE rfl ?_); apply vL_nil; apply seqP_normal; ((apply vC_cond_false); exact rfl); apply vC_seq; apply vC_region; (iterate 9 (first | (refine vE rfl ?_) | ((with_reducible apply vL_wanted); exact rfl) | (refine vL_or rfl rfl (fun _ => ?_) (fun h => by omega)))); apply vL_nil; apply seqP_normal; (refine vC_cond_dec rfl (fun h => by omega) (fun _ => ?_)); apply vC_skip; apply blockP_normal; apply seqP_normal; apply vC_seq; apply vC_region; (iterate 2 ((refine vE rfl ?_))))
  refine vL_callF rfl (q_of0_bi w) rfl ?_
  rintro _ w1 ⟨hf1, bq, rfl, hl1, hb1⟩
  have S1 := S.new hf1 hb1 hl1
  skip
  refine vL_callF rfl (q_of0_snd w1) rfl ?_
  rintro _ w2 ⟨hf2, sq, rfl, hl2, hb2⟩
  have S2 := S1.new hf2 hb2 hl2
  skip
  refine vL_callF rfl (q_of0_rcv w2) rfl ?_
  rintro _ w3 ⟨hf3, rq, rfl, hl3, hb3⟩
  have S3 := S2.new hf3 hb3 hl3
  (((apply vL_val); (case h => ((apply opv_buildS); exact rfl; exact (rfl : _ = some [_, _, _, _, _, _])))); (refine vL_val (opw_boxn rfl) ?_); (iterate 2 ((refine vE rfl ?_))); apply vL_nil; apply seqP_normal; apply vC_ret)
  (apply ret2; (case h1 => (exact norm_eq rfl)); (case h2 => (exact norm_eq rfl)))
  refine ⟨w3.heap.size, bq, sq, rq, rfl, ?_⟩
  have S4 := S3.new (w' := w3.alloc (.cells (chL_i rb ⟨w3.heap.size, bq, sq, rq, size, [], [], [], false⟩).toArray 148)) (b := w3.heap.size) (cs := chL_i rb ⟨w3.heap.size, bq, sq, rq, size, [], [], [], false⟩) (T := 148) ((Fr.refl No w3).alloc _) Blk.new (Nat.le_refl _)
  have S5 := ((S4.nil 3 1 iE).nil 154 3 seE).nil 157 2 reE
  have S6 : At ((Pt bq [.bool true, .slice none 0 0] 223 * Ow 3 1 iE (.slice none 0 0) []) * ((Pt sq [.bool true, .slice none 0 0] 226 * Ow 154 3 seE (.slice none 0 0) []) * ((Pt rq [.bool true, .slice none 0 0] 229 * Ow 157 2 reE (.slice none 0 0) []) * (Pt w3.heap.size (chL_i rb ⟨w3.heap.size, bq, sq, rq, size, [], [], [], false⟩) 148 * (RtA rb now rest ready tk * R))))) w0 F0 _ := S5.ac (by ac_rfl)
  have S7 := S6.weak (B := QA 223 3 1 iE bq [] * (QA 226 154 3 seE sq [] * (QA 229 157 2 reE rq [] * (Pt w3.heap.size (chL_i rb ⟨w3.heap.size, bq, sq, rq, size, [], [], [], false⟩) 148 * (RtA rb now rest ready tk * R))))) (fun h F hA => by
    obtain ⟨F1, F2, a, ⟨F3, F4, a', ⟨F5, F6, a'', r, d3, rfl⟩, d2, rfl⟩, d1, rfl⟩ := hA
    exact ⟨F1, _, ⟨_, a⟩, ⟨F3, _, ⟨_, a'⟩, ⟨F5, F6, ⟨_, a''⟩, r, d3, rfl⟩, d2, rfl⟩, d1, rfl⟩)
  exact S7.ac (by unfold ChA_i; ac_rfl)
end
end Go.Proofs.YtbaidcnalkdhgaaGreat
set_option maxRecDepth 100000
namespace Go.Proofs.YtbaidcnalkdhgaaGreat
open Go Go.Eng
def canS (d : CH) : Bool := d.closed || (!d.rcv.isEmpty || decide ((d.buf.length : Int) < d.size))
def canR (d : CH) : Bool := d.closed || (!d.buf.isEmpty || !d.snd.isEmpty)
section
variable {w w' w0 : World} {F F0 : Nat → Prop} {rb : Nat} {c : CH} {ts : List TKT} {R : Asr}
theorem ch_can_i [Lcl R] (S : At (ChA_i rb c * (TksA ts * R)) w0 F0 w) (h1 : ∀ x ∈ c.snd, ∃ t ∈ ts, x.k = t.b) (h2 : ∀ x ∈ c.rcv, ∃ t ∈ ts, x.k = t.b) :
    Rets Tryz.prog 79 #[pt c.cb] w fun u w' => u = .tuple #[.bool (canS (c.cleaned ts)), .bool (canR (c.cleaned ts))] ∧ At (ChA_i rb (c.cleaned ts) * (TksA ts * R)) w0 F0 w' := by
  have hr0 := ch_right_i w c rb (ch_blk_i S)
  refine rets_of Tryz.func79 rfl Tryz.ntmps79 rfl rfl (by kernel_rfl) ?_
  (apply vC_seq; apply vC_region; (iterate 2 ((refine vE rfl ?_))); apply vL_nil; apply seqP_normal; (iterate 2 (apply vC_seq)); apply vC_region; (refine vE rfl ?_))
  refine vL_callF rfl (hr0) rfl ?_
  rintro _ _ ⟨rfl, rfl⟩
  ((refine vL_val (opv_not rfl) ?_); apply vL_nil; apply seqP_normal; ((apply vC_cond_false); exact rfl); apply vC_skip; apply seqP_normal; apply vC_seq; apply vC_region; (refine vE rfl ?_))
  refine vL_callF rfl (ch_clean_i S h1 h2) rfl ?_
  intro _ w1 S1
  have hcb1 := ch_blk_i S1
  rw [chL_i] at hcb1
  have ecb : (c.cleaned ts).cb = c.cb := rfl
  rw [ecb] at hcb1
  generalize c.cleaned ts = d at *
  obtain ⟨v2, b2, o2, n2, _⟩ := ch_snd_i S1
  obtain ⟨v3, b3, o3, n3, _⟩ := ch_rcv_i S1
  obtain ⟨v4, b4, o4, n4, _⟩ := ch_buf_i S1
  cases hcl : d.closed with
  | true =>
    rw [hcl] at hcb1
    (apply vL_nil; apply seqP_normal; apply vC_seq)
    (with_reducible apply vC_drawQ); ((iterate 46 (first | ((with_reducible apply vQ_op); (case hi => exact rfl); (case hf => kernel_rfl); (case hS => exact Dr.refl _); (case hy => (intro j; ((with_reducible apply opv_E); exact rfl)))) | ((with_reducible apply vQ_op); (case hi => exact rfl); (case hf => kernel_rfl); (case hS => exact Dr.refl _); (case hy => (intro j; ((with_reducible apply opv_loadb1); exact rfl; exact rfl; assumption; exact rfl)))) | ((with_reducible apply vQ_op); (case hi => exact rfl); (case hf => kernel_rfl); (case hS => exact Dr.refl _); (case hy => (intro j; ((with_reducible apply opv_fieldAddr); exact rfl)))) | ((with_reducible apply vQ_unwanted); (case hi => exact rfl); (case hg => exact rfl); (case hne => exact rfl); (case hf => kernel_rfl); (case hS => exact Dr.refl _)))); ((apply vQ_end); (case hi => exact rfl); (case hf => kernel_rfl); (case hS => exact Dr.refl _)))
    (apply seqP_normal; apply vC_ret)
    (apply ret2; (case h1 => (exact norm_eq rfl)); (case h2 => (exact norm_eq rfl)))
    exact ⟨by unfold canS canR; rw [hcl]; rfl, S1.drew⟩
  | false =>
  rw [hcl] at hcb1
  (apply vL_nil; apply seqP_normal; apply vC_seq)
  refine vC_draw' (fun wf => Fr No w1 wf) ((Fr.refl No w1).drew) ?_
  (refine tkE 0 rfl (by kernel_rfl) (by apply Fr.drew; exact Fr.refl _ _) rfl ?_)
  (refine tkE 1 rfl (by kernel_rfl) (by apply Fr.drew; exact Fr.refl _ _) rfl ?_)
  (refine tk 2 rfl (by kernel_rfl) (by apply Fr.drew; exact Fr.refl _ _) (by intro wf hwf; haveI := From.mk hwf; (((apply opv_fieldAddr); exact rfl))) ?_)
  (refine tk 3 rfl (by kernel_rfl) (by apply Fr.drew; exact Fr.refl _ _) (by intro wf hwf; haveI := From.mk hwf; (((apply opv_loadb1); exact rfl; exact rfl; infer_instance; exact rfl))) ?_)
  (refine tkE 4 rfl (by kernel_rfl) (by apply Fr.drew; exact Fr.refl _ _) rfl ?_)
  (refine tkwE 5 rfl rfl (by kernel_rfl) (by apply Fr.drew; exact Fr.refl _ _) rfl ?_)
  (refine tkwE 6 rfl rfl (by kernel_rfl) (by apply Fr.drew; exact Fr.refl _ _) rfl ?_)
  (refine tkw 7 rfl rfl (by kernel_rfl) (by apply Fr.drew; exact Fr.refl _ _) (by intro wf hwf; haveI := From.mk hwf; (((apply opv_fieldAddr); exact rfl))) ?_)
  (refine tkw 8 rfl rfl (by kernel_rfl) (by apply Fr.drew; exact Fr.refl _ _) (by intro wf hwf; haveI := From.mk hwf; (((apply opv_loadb1); exact rfl; exact rfl; infer_instance; exact rfl))) ?_)
  (refine tkpw 9 rfl rfl (by kernel_rfl) (by (apply Fr.drew; exact Fr.refl _ _)) rfl (fun wf hwf => (by haveI := From.mk hwf; exact (q_len_rcv d.rq v3 d.rcv _ inferInstance inferInstance))) rfl ?_)
  (refine tkwE 10 rfl rfl (by kernel_rfl) (by apply Fr.drew; exact Fr.refl _ _) rfl ?_)
  (refine tkE 11 rfl (by kernel_rfl) (by apply Fr.drew; exact Fr.refl _ _) rfl ?_)
  (refine tkE 12 rfl (by kernel_rfl) (by apply Fr.drew; exact Fr.refl _ _) rfl ?_)
  by_cases hr : 0 < d.rcv.length
  · refine vA_split 21 rfl (fun _ => ?_) (fun h => absurd (by omega) h)
    refine tku 13 rfl rfl rfl (by kernel_rfl) (by (apply Fr.drew; exact Fr.refl _ _)) ?_
    refine tku 14 rfl rfl rfl (by kernel_rfl) (by (apply Fr.drew; exact Fr.refl _ _)) ?_
    refine tku 15 rfl rfl rfl (by kernel_rfl) (by (apply Fr.drew; exact Fr.refl _ _)) ?_
    refine tku 16 rfl rfl rfl (by kernel_rfl) (by (apply Fr.drew; exact Fr.refl _ _)) ?_
    refine tku 17 rfl rfl rfl (by kernel_rfl) (by (apply Fr.drew; exact Fr.refl _ _)) ?_
    refine tku 18 rfl rfl rfl (by kernel_rfl) (by (apply Fr.drew; exact Fr.refl _ _)) ?_
    refine tku 19 rfl rfl rfl (by kernel_rfl) (by (apply Fr.drew; exact Fr.refl _ _)) ?_
    refine tku 20 rfl rfl rfl (by kernel_rfl) (by (apply Fr.drew; exact Fr.refl _ _)) ?_
    refine tku 21 rfl rfl rfl (by kernel_rfl) (by (apply Fr.drew; exact Fr.refl _ _)) ?_
    refine tku 22 rfl rfl rfl (by kernel_rfl) (by (apply Fr.drew; exact Fr.refl _ _)) ?_
    have hcs : canS d = true := by
      have hem : d.rcv.isEmpty = decide (¬ 0 < d.rcv.length) := by cases hh : d.rcv <;> simp
      unfold canS; rw [hcl, hem]; simp [hr]
    (refine tkE 23 rfl (by kernel_rfl) (by apply Fr.drew; exact Fr.refl _ _) rfl ?_)
    (refine tkE 24 rfl (by kernel_rfl) (by apply Fr.drew; exact Fr.refl _ _) rfl ?_)
    (refine tkE 25 rfl (by kernel_rfl) (by apply Fr.drew; exact Fr.refl _ _) rfl ?_)
    (refine tk 26 rfl (by kernel_rfl) (by apply Fr.drew; exact Fr.refl _ _) (by intro wf hwf; haveI := From.mk hwf; (((apply opv_fieldAddr); exact rfl))) ?_)
    (refine tk 27 rfl (by kernel_rfl) (by apply Fr.drew; exact Fr.refl _ _) (by intro wf hwf; haveI := From.mk hwf; (((apply opv_loadb1); exact rfl; exact rfl; infer_instance; exact rfl))) ?_)
    (refine tkE 28 rfl (by kernel_rfl) (by apply Fr.drew; exact Fr.refl _ _) rfl ?_)
    (refine tkwE 29 rfl rfl (by kernel_rfl) (by apply Fr.drew; exact Fr.refl _ _) rfl ?_)
    (refine tkwE 30 rfl rfl (by kernel_rfl) (by apply Fr.drew; exact Fr.refl _ _) rfl ?_)
    (refine tkw 31 rfl rfl (by kernel_rfl) (by apply Fr.drew; exact Fr.refl _ _) (by intro wf hwf; haveI := From.mk hwf; (((apply opv_fieldAddr); exact rfl))) ?_)
    (refine tkw 32 rfl rfl (by kernel_rfl) (by apply Fr.drew; exact Fr.refl _ _) (by intro wf hwf; haveI := From.mk hwf; (((apply opv_loadb1); exact rfl; exact rfl; infer_instance; exact rfl))) ?_)
    (refine tkpw 33 rfl rfl (by kernel_rfl) (by (apply Fr.drew; exact Fr.refl _ _)) rfl (fun wf hwf => (by haveI := From.mk hwf; exact (q_len_int d.bq v4 d.buf _ inferInstance inferInstance))) rfl ?_)
    (refine tkwE 34 rfl rfl (by kernel_rfl) (by apply Fr.drew; exact Fr.refl _ _) rfl ?_)
    (refine tkE 35 rfl (by kernel_rfl) (by apply Fr.drew; exact Fr.refl _ _) rfl ?_)
    (refine tkE 36 rfl (by kernel_rfl) (by apply Fr.drew; exact Fr.refl _ _) rfl ?_)
    by_cases hbf : 0 < d.buf.length
    · refine vA_split 45 rfl (fun _ => ?_) (fun h => absurd (by omega) h)
      refine tku 37 rfl rfl rfl (by kernel_rfl) (by (apply Fr.drew; exact Fr.refl _ _)) ?_
      refine tku 38 rfl rfl rfl (by kernel_rfl) (by (apply Fr.drew; exact Fr.refl _ _)) ?_
      refine tku 39 rfl rfl rfl (by kernel_rfl) (by (apply Fr.drew; exact Fr.refl _ _)) ?_
      refine tku 40 rfl rfl rfl (by kernel_rfl) (by (apply Fr.drew; exact Fr.refl _ _)) ?_
      refine tku 41 rfl rfl rfl (by kernel_rfl) (by (apply Fr.drew; exact Fr.refl _ _)) ?_
      refine tku 42 rfl rfl rfl (by kernel_rfl) (by (apply Fr.drew; exact Fr.refl _ _)) ?_
      (refine tkE 43 rfl (by kernel_rfl) (by apply Fr.drew; exact Fr.refl _ _) rfl ?_)
      (refine tkE 44 rfl (by kernel_rfl) (by apply Fr.drew; exact Fr.refl _ _) rfl ?_)
      (refine tkE 45 rfl (by kernel_rfl) (by apply Fr.drew; exact Fr.refl _ _) rfl ?_)
      refine vA_done (by kernel_rfl) (by (first | exact trivial | ((apply Fr.drew; exact Fr.refl _ _); done))) ?_
      (apply seqP_normal; apply vC_ret)
      (apply ret2; (case h1 => (exact norm_eq rfl)); (case h2 => (exact norm_eq rfl)))
      exact ⟨by rw [hcs]; unfold canR; rw [hcl]; cases hh : d.buf with
        | nil => rw [hh] at hbf; simp at hbf
        | cons y l => rfl, S1.drew⟩
    · refine vA_split 45 rfl (fun h => absurd h (by omega)) (fun _ => ?_)
      (refine tkwE 37 rfl rfl (by kernel_rfl) (by apply Fr.drew; exact Fr.refl _ _) rfl ?_)
      (refine tkwE 38 rfl rfl (by kernel_rfl) (by apply Fr.drew; exact Fr.refl _ _) rfl ?_)
      (refine tkw 39 rfl rfl (by kernel_rfl) (by apply Fr.drew; exact Fr.refl _ _) (by intro wf hwf; haveI := From.mk hwf; (((apply opv_fieldAddr); exact rfl))) ?_)
      (refine tkw 40 rfl rfl (by kernel_rfl) (by apply Fr.drew; exact Fr.refl _ _) (by intro wf hwf; haveI := From.mk hwf; (((apply opv_loadb1); exact rfl; exact rfl; infer_instance; exact rfl))) ?_)
      (refine tkpw 41 rfl rfl (by kernel_rfl) (by (apply Fr.drew; exact Fr.refl _ _)) rfl (fun wf hwf => (by haveI := From.mk hwf; exact (q_len_snd d.sq v2 d.snd _ inferInstance inferInstance))) rfl ?_)
      (refine tkwE 42 rfl rfl (by kernel_rfl) (by apply Fr.drew; exact Fr.refl _ _) rfl ?_)
      (refine tkE 43 rfl (by kernel_rfl) (by apply Fr.drew; exact Fr.refl _ _) rfl ?_)
      (refine tkE 44 rfl (by kernel_rfl) (by apply Fr.drew; exact Fr.refl _ _) rfl ?_)
      (refine tkE 45 rfl (by kernel_rfl) (by apply Fr.drew; exact Fr.refl _ _) rfl ?_)
      refine vA_done (by kernel_rfl) (by (first | exact trivial | ((apply Fr.drew; exact Fr.refl _ _); done))) ?_
      (apply seqP_normal; apply vC_ret)
      (apply ret2; (case h1 => (exact norm_eq rfl)); (case h2 => (exact norm_eq rfl)))
      exact ⟨by rw [hcs]; unfold canR; rw [hcl]; cases hh : d.buf with
        | cons y l => rw [hh] at hbf; simp at hbf
        | nil => cases hs : d.snd <;> simp, S1.drew⟩
  · refine vA_split 21 rfl (fun h => absurd h (by omega)) (fun _ => ?_)
    (refine tkwE 13 rfl rfl (by kernel_rfl) (by apply Fr.drew; exact Fr.refl _ _) rfl ?_)
    (refine tkwE 14 rfl rfl (by kernel_rfl) (by apply Fr.drew; exact Fr.refl _ _) rfl ?_)
    (refine tkw 15 rfl rfl (by kernel_rfl) (by apply Fr.drew; exact Fr.refl _ _) (by intro wf hwf; haveI := From.mk hwf; (((apply opv_fieldAddr); exact rfl))) ?_)
    (refine tkw 16 rfl rfl (by kernel_rfl) (by apply Fr.drew; exact Fr.refl _ _) (by intro wf hwf; haveI := From.mk hwf; (((apply opv_loadb1); exact rfl; exact rfl; infer_instance; exact rfl))) ?_)
    (refine tkpw 17 rfl rfl (by kernel_rfl) (by (apply Fr.drew; exact Fr.refl _ _)) rfl (fun wf hwf => (by haveI := From.mk hwf; exact (q_len_int d.bq v4 d.buf _ inferInstance inferInstance))) rfl ?_)
    (refine tkwE 18 rfl rfl (by kernel_rfl) (by apply Fr.drew; exact Fr.refl _ _) rfl ?_)
    (refine tkwE 19 rfl rfl (by kernel_rfl) (by apply Fr.drew; exact Fr.refl _ _) rfl ?_)
    (refine tkw 20 rfl rfl (by kernel_rfl) (by apply Fr.drew; exact Fr.refl _ _) (by intro wf hwf; haveI := From.mk hwf; (((apply opv_fieldAddr); exact rfl))) ?_)
    (refine tkw 21 rfl rfl (by kernel_rfl) (by apply Fr.drew; exact Fr.refl _ _) (by intro wf hwf; haveI := From.mk hwf; (((apply opv_loadb1); exact rfl; exact rfl; infer_instance; exact rfl))) ?_)
    (refine tkwE 22 rfl rfl (by kernel_rfl) (by apply Fr.drew; exact Fr.refl _ _) rfl ?_)
    have hcs : canS d = (decide ((d.buf.length : Int) < d.size)) := by
      have hem : d.rcv.isEmpty = decide (¬ 0 < d.rcv.length) := by cases hh : d.rcv <;> simp
      unfold canS; rw [hcl, hem]; simp [hr]
    (refine tkE 23 rfl (by kernel_rfl) (by apply Fr.drew; exact Fr.refl _ _) rfl ?_)
    (refine tkE 24 rfl (by kernel_rfl) (by apply Fr.drew; exact Fr.refl _ _) rfl ?_)
    (refine tkE 25 rfl (by kernel_rfl) (by apply Fr.drew; exact Fr.refl _ _) rfl ?_)
    (refine tk 26 rfl (by kernel_rfl) (by apply Fr.drew; exact Fr.refl _ _) (by intro wf hwf; haveI := From.mk hwf; (((apply opv_fieldAddr); exact rfl))) ?_)
    (refine tk 27 rfl (by kernel_rfl) (by apply Fr.drew; exact Fr.refl _ _) (by intro wf hwf; haveI := From.mk hwf; (((apply opv_loadb1); exact rfl; exact rfl; infer_instance; exact rfl))) ?_)
    (refine tkE 28 rfl (by kernel_rfl) (by apply Fr.drew; exact Fr.refl _ _) rfl ?_)
    (refine tkwE 29 rfl rfl (by kernel_rfl) (by apply Fr.drew; exact Fr.refl _ _) rfl ?_)
    (refine tkwE 30 rfl rfl (by kernel_rfl) (by apply Fr.drew; exact Fr.refl _ _) rfl ?_)
    (refine tkw 31 rfl rfl (by kernel_rfl) (by apply Fr.drew; exact Fr.refl _ _) (by intro wf hwf; haveI := From.mk hwf; (((apply opv_fieldAddr); exact rfl))) ?_)
    (refine tkw 32 rfl rfl (by kernel_rfl) (by apply Fr.drew; exact Fr.refl _ _) (by intro wf hwf; haveI := From.mk hwf; (((apply opv_loadb1); exact rfl; exact rfl; infer_instance; exact rfl))) ?_)
    (refine tkpw 33 rfl rfl (by kernel_rfl) (by (apply Fr.drew; exact Fr.refl _ _)) rfl (fun wf hwf => (by haveI := From.mk hwf; exact (q_len_int d.bq v4 d.buf _ inferInstance inferInstance))) rfl ?_)
    (refine tkwE 34 rfl rfl (by kernel_rfl) (by apply Fr.drew; exact Fr.refl _ _) rfl ?_)
    (refine tkE 35 rfl (by kernel_rfl) (by apply Fr.drew; exact Fr.refl _ _) rfl ?_)
    (refine tkE 36 rfl (by kernel_rfl) (by apply Fr.drew; exact Fr.refl _ _) rfl ?_)
    by_cases hbf : 0 < d.buf.length
    · refine vA_split 45 rfl (fun _ => ?_) (fun h => absurd (by omega) h)
      refine tku 37 rfl rfl rfl (by kernel_rfl) (by (apply Fr.drew; exact Fr.refl _ _)) ?_
      refine tku 38 rfl rfl rfl (by kernel_rfl) (by (apply Fr.drew; exact Fr.refl _ _)) ?_
      refine tku 39 rfl rfl rfl (by kernel_rfl) (by (apply Fr.drew; exact Fr.refl _ _)) ?_
      refine tku 40 rfl rfl rfl (by kernel_rfl) (by (apply Fr.drew; exact Fr.refl _ _)) ?_
      refine tku 41 rfl rfl rfl (by kernel_rfl) (by (apply Fr.drew; exact Fr.refl _ _)) ?_
      refine tku 42 rfl rfl rfl (by kernel_rfl) (by (apply Fr.drew; exact Fr.refl _ _)) ?_
      (refine tkE 43 rfl (by kernel_rfl) (by apply Fr.drew; exact Fr.refl _ _) rfl ?_)
      (refine tkE 44 rfl (by kernel_rfl) (by apply Fr.drew; exact Fr.refl _ _) rfl ?_)
      (refine tkE 45 rfl (by kernel_rfl) (by apply Fr.drew; exact Fr.refl _ _) rfl ?_)
      refine vA_done (by kernel_rfl) (by (first | exact trivial | ((apply Fr.drew; exact Fr.refl _ _); done))) ?_
      (apply seqP_normal; apply vC_ret)
      (apply ret2; (case h1 => (exact norm_eq rfl)); (case h2 => (exact norm_eq rfl)))
      exact ⟨by rw [hcs]; unfold canR; rw [hcl]; cases hh : d.buf with
        | nil => rw [hh] at hbf; simp at hbf
        | cons y l => rfl, S1.drew⟩
    · refine vA_split 45 rfl (fun h => absurd h (by omega)) (fun _ => ?_)
      (refine tkwE 37 rfl rfl (by kernel_rfl) (by apply Fr.drew; exact Fr.refl _ _) rfl ?_)
      (refine tkwE 38 rfl rfl (by kernel_rfl) (by apply Fr.drew; exact Fr.refl _ _) rfl ?_)
      (refine tkw 39 rfl rfl (by kernel_rfl) (by apply Fr.drew; exact Fr.refl _ _) (by intro wf hwf; haveI := From.mk hwf; (((apply opv_fieldAddr); exact rfl))) ?_)
      (refine tkw 40 rfl rfl (by kernel_rfl) (by apply Fr.drew; exact Fr.refl _ _) (by intro wf hwf; haveI := From.mk hwf; (((apply opv_loadb1); exact rfl; exact rfl; infer_instance; exact rfl))) ?_)
      (refine tkpw 41 rfl rfl (by kernel_rfl) (by (apply Fr.drew; exact Fr.refl _ _)) rfl (fun wf hwf => (by haveI := From.mk hwf; exact (q_len_snd d.sq v2 d.snd _ inferInstance inferInstance))) rfl ?_)
      (refine tkwE 42 rfl rfl (by kernel_rfl) (by apply Fr.drew; exact Fr.refl _ _) rfl ?_)
      (refine tkE 43 rfl (by kernel_rfl) (by apply Fr.drew; exact Fr.refl _ _) rfl ?_)
      (refine tkE 44 rfl (by kernel_rfl) (by apply Fr.drew; exact Fr.refl _ _) rfl ?_)
      (refine tkE 45 rfl (by kernel_rfl) (by apply Fr.drew; exact Fr.refl _ _) rfl ?_)
      refine vA_done (by kernel_rfl) (by (first | exact trivial | ((apply Fr.drew; exact Fr.refl _ _); done))) ?_
      (apply seqP_normal; apply vC_ret)
      (apply ret2; (case h1 => (exact norm_eq rfl)); (case h2 => (exact norm_eq rfl)))
      exact ⟨by rw [hcs]; unfold canR; rw [hcl]; cases hh : d.buf with
        | cons y l => rw [hh] at hbf; simp at hbf
        | nil => cases hs : d.snd <;> simp, S1.drew⟩
end
end Go.Proofs.YtbaidcnalkdhgaaGreat
set_option maxRecDepth 100000
namespace Go.Proofs.YtbaidcnalkdhgaaGreat
open Go Go.Eng
theorem CH.cleaned2 (c : CH) (ts : List TKT) : (c.cleaned ts).cleaned ts = c.cleaned ts := by
  unfold CH.cleaned
  simp only [List.filter_filter, Bool.and_self]
section
variable {w w' w0 : World} {F F0 : Nat → Prop} {rb : Nat} {c : CH} {ts : List TKT} {R : Asr}
theorem ch_close2_i [Lcl R] (S : At (ChA_i rb c * R) w0 F0 w) (hc : c.closed = true) : Rets Tryz.prog 32 #[pt c.cb] w fun u w' => w = w' ∧ u = .int .i64 150 := by
  have hcb := ch_blk_i S
  have hr0 := ch_right_i w c rb hcb
  rw [chL_i, hc] at hcb
  refine rets_of Tryz.func32 rfl Tryz.ntmps32 rfl rfl (by kernel_rfl) ?_
  (apply vC_seq; apply vC_region; (refine vE rfl ?_); apply vL_nil; apply seqP_normal; apply vC_seq; apply vC_block; apply vC_seq; apply vC_region; (refine vE rfl ?_))
  refine vL_callF rfl (hr0) rfl ?_
  rintro _ _ ⟨rfl, rfl⟩
  ((refine vL_val (opv_not rfl) ?_); (refine vE rfl ?_); apply vL_nil; apply seqP_normal; ((apply vC_cond_false); exact rfl); apply vC_seq; apply vC_region; (iterate 2 ((refine vE rfl ?_))); (refine vL_val (opv_fieldAddr rfl) ?_); ((apply vL_val); (case h => ((apply opv_loadb1); exact rfl; exact rfl; assumption; exact rfl))); (refine vE rfl ?_); apply vL_nil; apply seqP_normal; ((apply vC_cond_true); exact rfl); apply vC_seq; apply vC_region; (refine vE rfl ?_); apply vL_nil; apply seqP_normal; apply vC_ret; apply blockP_ret; apply seqP_ret)
  (apply ret1; (case h1 => (exact norm_eq rfl)))
  exact ⟨rfl, rfl⟩
/-- a state of a closing: its channel, its tickets, all else -/
structure Clo_i (rb cb : Nat) (B : Asr) (σ : Type) where
  P : σ → Prop
  ch : σ → CH
  tk : σ → List TKT
  rs : σ → Asr
  μ : σ → Nat
  loc : ∀ s, Lcl (rs s)
  mem : ∀ s, P s → (∀ x ∈ (ch s).snd, ∃ t ∈ tk s, x.k = t.b) ∧ (∀ x ∈ (ch s).rcv, ∃ t ∈ tk s, x.k = t.b) ∧ (ch s).cb = cb
  rcv : ∀ s x r, P s → ((ch s).cleaned (tk s)).rcv = x :: r → ∃ (i : Nat) (t : TKT) (g g2 : FuncId) (cap cap2 : List Value) (Mid : Asr), (tk s)[i]? = some t ∧ x.k = t.b ∧ Nonempty (FnOk Tryz.prog g) ∧ Nonempty (FnOk Tryz.prog g2) ∧ x.f.1 = .func (.func g) #[] cap.toArray ∧ t.fire.1 = .func (.func g2) #[] cap2.toArray ∧
    Sp Tryz.prog g (.int .i64 0 :: .bool false :: cap).toArray (ChA_i rb { (ch s).cleaned (tk s) with rcv := r } * (TksA ((tk s).set i { t with fired := true }) * rs s)) (fun _ => Mid) ∧ (∀ h F, Mid h F → Blk h t.b [t.fire.1, .bool true] 175) ∧
    Sp Tryz.prog g2 cap2.toArray Mid (fun _ => Ex fun s' : σ => Pu (P s' ∧ μ s' < μ s) * (ChA_i rb (ch s') * (TksA (tk s') * rs s')))
  snd : ∀ s x r, P s → ((ch s).cleaned (tk s)).rcv = [] → ((ch s).cleaned (tk s)).snd = x :: r → ∃ (i : Nat) (t : TKT) (g g2 : FuncId) (cap cap2 : List Value) (Mid : Asr), (tk s)[i]? = some t ∧ x.k = t.b ∧ Nonempty (FnOk Tryz.prog g) ∧ Nonempty (FnOk Tryz.prog g2) ∧ x.f.1 = .func (.func g) #[] cap.toArray ∧ t.fire.1 = .func (.func g2) #[] cap2.toArray ∧
    Sp Tryz.prog g (.bool false :: cap).toArray (ChA_i rb { (ch s).cleaned (tk s) with snd := r } * (TksA ((tk s).set i { t with fired := true }) * rs s)) (fun _ => Mid) ∧ (∀ h F, Mid h F → Blk h t.b [t.fire.1, .bool true] 175) ∧
    Sp Tryz.prog g2 cap2.toArray Mid (fun _ => Ex fun s' : σ => Pu (P s' ∧ ((ch s').cleaned (tk s')).rcv = [] ∧ μ s' < μ s) * (ChA_i rb (ch s') * (TksA (tk s') * rs s')))
  fin : ∀ s, P s → ((ch s).cleaned (tk s)).rcv = [] → ((ch s).cleaned (tk s)).snd = [] → ∀ h F, (ChA_i rb ((ch s).cleaned (tk s)) * (TksA (tk s) * rs s)) h F → B h F
theorem ch_close_i [Lcl R] {B : Asr} {σ : Type} (C : Clo_i rb c.cb B σ) (s0 : σ) (h0 : C.P s0) (e1 : C.ch s0 = { c with closed := true }) (e2 : C.tk s0 = ts) (e3 : C.rs s0 = R) (hcl : c.closed = false) :
    Sp Tryz.prog 32 #[pt c.cb] (ChA_i rb c * (TksA ts * R)) (fun u => Pu (u = .int .i64 0) * B) := by
  haveI : ∀ s, Lcl (C.rs s) := C.loc
  intro w F hA
  have S : At (ChA_i rb c * (TksA ts * R)) w F w := At.init hA
  have hcb := ch_blk_i S
  have hr0 := ch_right_i w c rb hcb
  rw [chL_i, hcl] at hcb
  refine rets_of Tryz.func32 rfl Tryz.ntmps32 rfl rfl (by kernel_rfl) ?_
  (apply vC_seq; apply vC_region; (refine vE rfl ?_); apply vL_nil; apply seqP_normal; apply vC_seq; apply vC_block; apply vC_seq; apply vC_region; (refine vE rfl ?_))
  refine vL_callF rfl (hr0) rfl ?_
  rintro _ _ ⟨rfl, rfl⟩
  ((refine vL_val (opv_not rfl) ?_); (refine vE rfl ?_); apply vL_nil; apply seqP_normal; ((apply vC_cond_false); exact rfl); apply vC_seq; apply vC_region; (iterate 2 ((refine vE rfl ?_))); (refine vL_val (opv_fieldAddr rfl) ?_); ((apply vL_val); (case h => ((apply opv_loadb1); exact rfl; exact rfl; assumption; exact rfl))); (refine vE rfl ?_); apply vL_nil; apply seqP_normal; ((apply vC_cond_false); exact rfl); apply vC_skip; apply blockP_normal; apply seqP_normal; apply vC_seq; apply vC_region; (iterate 2 ((refine vE rfl ?_))); (refine vL_val (opv_fieldAddr rfl) ?_); ((apply vL_skip); (case h => ((apply ops_store1); exact norm_eq rfl; exact norm_eq rfl; (first | rfl | assumption); assumption; (first | decide | exact of_decide_eq_true rfl | (simp; done))))); apply vL_nil; apply seqP_normal; (iterate 2 (apply vC_seq)); apply vC_region; (refine vE rfl ?_))
  refine vL_gen (fun w' => At (ChA_i rb (C.ch s0) * (TksA (C.tk s0) * C.rs s0)) w F w') ?_ ?_
  · rw [e1, e2, e3]
    have S1 : At (Pt c.cb (chL_i rb c) 148 * ((QA 223 3 1 iE c.bq c.buf * (QA 226 154 3 seE c.sq c.snd * QA 229 157 2 reE c.rq c.rcv)) * (TksA ts * R))) w F w := S.ac (by unfold ChA_i; ac_rfl)
    exact (S1.set (cs' := chL_i rb { c with closed := true })).ac (by unfold ChA_i; ac_rfl)
  clear S hr0 hcb
  intro w1 S1
  obtain ⟨m1, m2, m3⟩ := C.mem s0 h0
  have hcl0 := ch_clean_i S1 m1 m2
  rw [m3] at hcl0
  refine vL_callF rfl (hcl0) rfl ?_
  intro _ w2 S2
  clear S1 m1 m2 hcl0
  (apply vL_nil; apply seqP_normal; apply vC_block)
  (apply vC_loop1 4503599623176248 22 (fun _ w' => ∃ s, C.P s ∧ At (ChA_i rb ((C.ch s).cleaned (C.tk s)) * (TksA (C.tk s) * C.rs s)) w F w') (fun _ w' => leastN fun n => ∃ s, C.P s ∧ At (ChA_i rb ((C.ch s).cleaned (C.tk s)) * (TksA (C.tk s) * C.rs s)) w F w' ∧ C.μ s = n)); (case h1 => (exact norm_eq rfl))
  case h0 => exact ⟨s0, h0, S2⟩
  case round =>
  clear S2
  rintro junk _ w3 hex
  obtain ⟨s, hP, S3, hμ⟩ := leastN_spec (p := fun n => ∃ s, C.P s ∧ At (ChA_i rb ((C.ch s).cleaned (C.tk s)) * (TksA (C.tk s) * C.rs s)) w F w3 ∧ C.μ s = n) (by obtain ⟨s, h1, h2⟩ := hex; exact ⟨_, s, h1, h2, rfl⟩)
  generalize hmm : (leastN fun n => ∃ s, C.P s ∧ At (ChA_i rb ((C.ch s).cleaned (C.tk s)) * (TksA (C.tk s) * C.rs s)) w F w3 ∧ C.μ s = n) = mm at hμ ⊢
  obtain ⟨k1, k2, k3⟩ := C.mem s hP
  have hcb3 := ch_blk_i S3
  have ecb : ((C.ch s).cleaned (C.tk s)).cb = c.cb := k3
  have hrc := C.rcv s
  generalize hd : (C.ch s).cleaned (C.tk s) = d at *
  rw [chL_i, ecb] at hcb3
  obtain ⟨v2, b2, o2, n2, up2⟩ := ch_rcv_i S3
  ((iterate 2 (apply vC_seq)); apply vC_region; (iterate 2 ((refine vE rfl ?_))); (refine vL_val (opv_fieldAddr rfl) ?_); ((apply vL_val); (case h => ((apply opv_loadb1); exact rfl; exact rfl; assumption; exact rfl))))
  refine vL_callF rfl (q_len_rcv d.rq v2 d.rcv w3 b2 o2) rfl ?_
  rintro _ _ ⟨rfl, rfl⟩
  cases hdr : d.rcv with
  | cons x r =>
    obtain ⟨i, t, g, g2, cap, cap2, Mid, ht, hxk, ⟨hg⟩, ⟨hg2⟩, hfv, hfire, spg, hmid, spf⟩ := hrc x r hP hdr
    rw [hdr] at o2
    have hxf := x.f.2
    have htf := t.fire.2
    haveI := hg
    haveI := hg2
    have hpos : (0 : Int) < ((x :: r).length : Int) := by rw [List.length_cons]; omega
    ((refine vE rfl ?_); apply vL_nil; apply seqP_normal; (refine vC_cond_dec rfl (fun _ => ?_) (fun h => by omega)); apply vC_skip; apply seqP_normal; apply vC_seq; apply vC_block; apply vC_seq; apply vC_region; (iterate 2 ((refine vE rfl ?_))); (refine vL_val (opv_fieldAddr rfl) ?_); ((apply vL_val); (case h => ((apply opv_loadb1); exact rfl; exact rfl; assumption; exact rfl))))
    refine vL_callF rfl (q_pop_rcv d.rq v2 (x :: r) w3 b2 o2 n2) rfl ?_
    rintro _ w4 ⟨lv', xs', hf4, hb4, ho4, hown4, hone4, ⟨x', hx', rfl⟩ | ⟨hx', _, _⟩⟩
    rotate_left
    · cases hx'
    cases hx'
    have S4 := up2 _ _ _ hf4 hb4 ho4 hone4 (fun k hk => .inl (by rw [← hown4]; exact hk))
    (((iterate 3 ((refine vE rfl ?_))); ((apply vL_val); (case h => (apply opw_alloc))); ((apply vL_skip); (case h => ((apply ops_storen); exact norm_eq rfl; exact norm_eq rfl; exact rfl; exact (fun u hu => EncOk.one _ u hu); infer_instance; (first | decide | exact of_decide_eq_true rfl | (simp; done))))); (refine vE rfl ?_); apply vL_nil)); with_reducible apply seqP_normal
    ((apply vC_seq; apply vC_region))
    refine vL_gen (fun w' => At (Pt w4.heap.size (reE x) 157 * (ChA_i rb { d with rcv := r } * (TksA (C.tk s) * C.rs s))) w F w') (S4.new (by (apply Fr.allocSet; exact Fr.refl _ _)) (Blk.as inferInstance rfl) (Nat.le_refl _)) ?_
    intro w5 S5
    generalize w4.heap.size = b3 at S5 ⊢
    clear S3 S4 hcb3 b2 o2 up2 hb4 ho4
    have h3 := S5.blk
    have htb := (S5.ac (show _ = TksA (C.tk s) * (Pt b3 (reE x) 157 * (ChA_i rb { d with rcv := r } * C.rs s)) by ac_rfl)).tk (List.mem_of_getElem? ht)
    rw [reE, hxk, hfv] at h3
    have ne3 : b3 ≠ t.b := Blk.ne_type h3 htb (by decide)
    haveI : NeB b3 t.b := ⟨ne3⟩
    ((refine vE rfl ?_); apply vL_nil; apply seqP_normal; apply vC_seq; apply vC_region; (refine vL_val (opv_fieldAddr rfl) ?_); ((apply vL_val); (case h => ((apply opv_loadb1); exact rfl; exact rfl; assumption; exact rfl))); (refine vE rfl ?_); (refine vL_val (opv_fieldAddr rfl) ?_); ((apply vL_skip); (case h => ((apply ops_store1); exact norm_eq rfl; exact norm_eq rfl; (first | rfl | assumption); assumption; (first | decide | exact of_decide_eq_true rfl | (simp; done))))); apply vL_nil; apply seqP_normal; apply vC_seq; apply vC_region; (refine vL_val (opv_fieldAddr rfl) ?_); ((apply vL_val); (case h => ((apply opv_loadb1); exact rfl; exact rfl; infer_instance; exact rfl))); (refine vE rfl ?_))
    refine vL_gen (fun w' => At (ChA_i rb { d with rcv := r } * (TksA ((C.tk s).set i { t with fired := true }) * C.rs s) * Pt b3 (reE x) 157) w F w') ((tk_fire (S5.ac (show _ = TksA (C.tk s) * (Pt b3 (reE x) 157 * (ChA_i rb { d with rcv := r } * C.rs s)) by ac_rfl)) ht).ac (by ac_rfl)) ?_
    intro w6 S6
    have h36 := S6.swap.blk
    rw [reE, hxk, hfv] at h36
    clear htb h3 S5
    skip
    refine vL_callF rfl (spg.at S6) rfl ?_
    intro _ w7 S7
    have h37 := S7.swap.blk
    rw [reE, hxk, hfv] at h37
    obtain ⟨F7, m7⟩ := S7.get
    have htb7 := hmid _ _ m7
    rw [hfire] at htb7
    (apply vL_nil; apply seqP_normal; apply vC_region; (iterate 5 (first | (refine vE rfl ?_) | ((with_reducible apply vL_val); (case h => ((with_reducible apply opv_loadb1); exact rfl; exact rfl; assumption; exact rfl))) | (refine vL_val (opv_fieldAddr rfl) ?_))))
    refine vL_callF rfl (spf.at S7) rfl ?_
    intro _ w8 S8
    obtain ⟨s', S8⟩ := S8.ex
    obtain ⟨⟨hP', hμ'⟩, S8⟩ := (S8.ac (star_assoc _ _ _)).pure
    have S8' : At (ChA_i rb (C.ch s') * (TksA (C.tk s') * C.rs s')) w F w8 := S8.swap.drop
    obtain ⟨j1, j2, j3⟩ := C.mem s' hP'
    have hcl8 := ch_clean_i S8' j1 j2
    rw [j3] at hcl8
    clear S6 S7 S8 htb7 h36 h37
    (apply vL_nil; apply blockP_normal; apply seqP_normal; apply vC_region; (refine vE rfl ?_))
    refine vL_callF rfl (hcl8) rfl ?_
    intro _ w9 S9
    (apply vL_nil; apply loopP_normal)
    (with_reducible apply end1); (case hs => ((iterate 35 (first | with_reducible apply same_updN | ((with_reducible refine same_updO ?_ ?_); rotate_left; exact rfl))); ((refine same_upd ?_ ?_); rotate_left; exact rfl); (exact same_mask _ _ _))); (case h1 => (exact norm_eq rfl))
    · exact ⟨s', hP', S9⟩
    · show leastN _ < mm
      rw [← hμ]
      exact Nat.lt_of_le_of_lt (leastN_le ⟨s', hP', S9, rfl⟩) hμ'
  | nil =>
    have hcc : d.cleaned (C.tk s) = d := by rw [← hd]; exact CH.cleaned2 _ _
    have k1' : ∀ x ∈ d.snd, ∃ t ∈ C.tk s, x.k = t.b := fun x hx => by rw [← hd] at hx; exact k1 x (List.mem_filter.1 hx).1
    have hcl3 := ch_clean_i S3 k1' (fun x hx => by rw [hdr] at hx; cases hx)
    rw [ecb, hcc] at hcl3
    ((refine vE rfl ?_); apply vL_nil; apply seqP_normal; ((apply vC_cond_false); exact rfl); apply vC_exit; apply seqP_exit; apply loopP_exit; apply blockP_exit; apply seqP_normal; (iterate 2 (apply vC_seq)); apply vC_region; (refine vE rfl ?_))
    refine vL_callF rfl (hcl3) rfl ?_
    intro _ w4 S4
    rw [← hd] at S4 hdr
    clear S3 hcb3 b2 o2 up2 hcl3 hrc k1' hcc ecb k1 k2 k3
    clear hd
    (apply vL_nil; apply seqP_normal; apply vC_block)
    (apply vC_loop1 9671406538902634888167616 54 (fun _ w' => ∃ s, C.P s ∧ ((C.ch s).cleaned (C.tk s)).rcv = [] ∧ At (ChA_i rb ((C.ch s).cleaned (C.tk s)) * (TksA (C.tk s) * C.rs s)) w F w') (fun _ w' => leastN fun n => ∃ s, C.P s ∧ ((C.ch s).cleaned (C.tk s)).rcv = [] ∧ At (ChA_i rb ((C.ch s).cleaned (C.tk s)) * (TksA (C.tk s) * C.rs s)) w F w' ∧ C.μ s = n)); (case h1 => (exact norm_eq rfl))
    case h0 => exact ⟨s, hP, hdr, S4⟩
    case round =>
    clear S4
    rintro junk2 _ w3 hex2
    obtain ⟨s, hP, hrn, S3, hμ⟩ := leastN_spec (p := fun n => ∃ s, C.P s ∧ ((C.ch s).cleaned (C.tk s)).rcv = [] ∧ At (ChA_i rb ((C.ch s).cleaned (C.tk s)) * (TksA (C.tk s) * C.rs s)) w F w3 ∧ C.μ s = n) (by obtain ⟨s, h1, h2, h3⟩ := hex2; exact ⟨_, s, h1, h2, h3, rfl⟩)
    generalize hmm : (leastN fun n => ∃ s, C.P s ∧ ((C.ch s).cleaned (C.tk s)).rcv = [] ∧ At (ChA_i rb ((C.ch s).cleaned (C.tk s)) * (TksA (C.tk s) * C.rs s)) w F w3 ∧ C.μ s = n) = mm at hμ ⊢
    obtain ⟨k1, k2, k3⟩ := C.mem s hP
    have hcb3 := ch_blk_i S3
    have ecb : ((C.ch s).cleaned (C.tk s)).cb = c.cb := k3
    have hsn := C.snd s
    have hfn := C.fin s hP hrn
    generalize hd : (C.ch s).cleaned (C.tk s) = d at *
    rw [chL_i, ecb] at hcb3
    obtain ⟨v2, b2, o2, n2, up2⟩ := ch_snd_i S3
    ((iterate 2 (apply vC_seq)); apply vC_region; (iterate 2 ((refine vE rfl ?_))); (refine vL_val (opv_fieldAddr rfl) ?_); ((apply vL_val); (case h => ((apply opv_loadb1); exact rfl; exact rfl; assumption; exact rfl))))
    refine vL_callF rfl (q_len_snd d.sq v2 d.snd w3 b2 o2) rfl ?_
    rintro _ _ ⟨rfl, rfl⟩
    cases hds : d.snd with
    | cons x r =>
      obtain ⟨i, t, g, g2, cap, cap2, Mid, ht, hxk, ⟨hg⟩, ⟨hg2⟩, hfv, hfire, spg, hmid, spf⟩ := hsn x r hP hrn hds
      rw [hds] at o2
      have hxf := x.f.2
      have htf := t.fire.2
      haveI := hg
      haveI := hg2
      have hpos : (0 : Int) < ((x :: r).length : Int) := by rw [List.length_cons]; omega
      ((refine vE rfl ?_); apply vL_nil; apply seqP_normal; (refine vC_cond_dec rfl (fun _ => ?_) (fun h => by omega)); apply vC_skip; apply seqP_normal; apply vC_seq; apply vC_block; apply vC_seq; apply vC_region; (iterate 2 ((refine vE rfl ?_))); (refine vL_val (opv_fieldAddr rfl) ?_); ((apply vL_val); (case h => ((apply opv_loadb1); exact rfl; exact rfl; assumption; exact rfl))))
      refine vL_callF rfl (q_pop_snd d.sq v2 (x :: r) w3 b2 o2 n2) rfl ?_
      rintro _ w4 ⟨lv', xs', hf4, hb4, ho4, hown4, hone4, ⟨x', hx', rfl⟩ | ⟨hx', _, _⟩⟩
      rotate_left
      · cases hx'
      cases hx'
      have S4 := up2 _ _ _ hf4 hb4 ho4 hone4 (fun k hk => .inl (by rw [← hown4]; exact hk))
      (((iterate 3 ((refine vE rfl ?_))); ((apply vL_val); (case h => (apply opw_alloc))); ((apply vL_skip); (case h => ((apply ops_storen); exact norm_eq rfl; exact norm_eq rfl; exact rfl; exact (fun u hu => EncOk.one _ u hu); infer_instance; (first | decide | exact of_decide_eq_true rfl | (simp; done))))); (refine vE rfl ?_); apply vL_nil)); with_reducible apply seqP_normal
      ((apply vC_seq; apply vC_region))
      refine vL_gen (fun w' => At (Pt w4.heap.size (seE x) 154 * (ChA_i rb { d with snd := r } * (TksA (C.tk s) * C.rs s))) w F w') (S4.new (by (apply Fr.allocSet; exact Fr.refl _ _)) (Blk.as inferInstance rfl) (Nat.le_refl _)) ?_
      intro w5 S5
      generalize w4.heap.size = b3 at S5 ⊢
      clear S3 S4 hcb3 b2 o2 up2 hb4 ho4
      have h3 := S5.blk
      have htb := (S5.ac (show _ = TksA (C.tk s) * (Pt b3 (seE x) 154 * (ChA_i rb { d with snd := r } * C.rs s)) by ac_rfl)).tk (List.mem_of_getElem? ht)
      rw [seE, hxk, hfv] at h3
      have ne3 : b3 ≠ t.b := Blk.ne_type h3 htb (by decide)
      haveI : NeB b3 t.b := ⟨ne3⟩
      ((refine vL_val (opv_fieldAddr rfl) ?_); ((apply vL_val); (case h => ((apply opv_loadb1); exact rfl; exact rfl; assumption; exact rfl))); (refine vE rfl ?_); (refine vL_val (opv_fieldAddr rfl) ?_); ((apply vL_skip); (case h => ((apply ops_store1); exact norm_eq rfl; exact norm_eq rfl; (first | rfl | assumption); assumption; (first | decide | exact of_decide_eq_true rfl | (simp; done))))); apply vL_nil; apply seqP_normal; apply vC_seq; apply vC_region; (refine vL_val (opv_fieldAddr rfl) ?_); ((apply vL_val); (case h => ((apply opv_loadb1); exact rfl; exact rfl; infer_instance; exact rfl))))
      refine vL_gen (fun w' => At (ChA_i rb { d with snd := r } * (TksA ((C.tk s).set i { t with fired := true }) * C.rs s) * Pt b3 (seE x) 154) w F w') ((tk_fire (S5.ac (show _ = TksA (C.tk s) * (Pt b3 (seE x) 154 * (ChA_i rb { d with snd := r } * C.rs s)) by ac_rfl)) ht).ac (by ac_rfl)) ?_
      intro w6 S6
      have h36 := S6.swap.blk
      rw [seE, hxk, hfv] at h36
      clear htb h3 S5
      skip
      refine vL_callF rfl (spg.at S6) rfl ?_
      intro _ w7 S7
      have h37 := S7.swap.blk
      rw [seE, hxk, hfv] at h37
      obtain ⟨F7, m7⟩ := S7.get
      have htb7 := hmid _ _ m7
      rw [hfire] at htb7
      (apply vL_nil; apply seqP_normal; apply vC_region; (iterate 5 (first | (refine vE rfl ?_) | ((with_reducible apply vL_val); (case h => ((with_reducible apply opv_loadb1); exact rfl; exact rfl; assumption; exact rfl))) | (refine vL_val (opv_fieldAddr rfl) ?_))))
      refine vL_callF rfl (spf.at S7) rfl ?_
      intro _ w8 S8
      obtain ⟨s', S8⟩ := S8.ex
      obtain ⟨⟨hP', hrn', hμ'⟩, S8⟩ := (S8.ac (star_assoc _ _ _)).pure
      have S8' : At (ChA_i rb (C.ch s') * (TksA (C.tk s') * C.rs s')) w F w8 := S8.swap.drop
      obtain ⟨j1, j2, j3⟩ := C.mem s' hP'
      have hcl8 := ch_clean_i S8' j1 j2
      rw [j3] at hcl8
      clear S6 S7 S8 htb7 h36 h37
      (apply vL_nil; apply blockP_normal; apply seqP_normal; apply vC_region; (refine vE rfl ?_))
      refine vL_callF rfl (hcl8) rfl ?_
      intro _ w9 S9
      (apply vL_nil; apply loopP_normal)
      (with_reducible apply end1); (case hs => ((iterate 33 (first | with_reducible apply same_updN | ((with_reducible refine same_updO ?_ ?_); rotate_left; exact rfl))); ((refine same_upd ?_ ?_); rotate_left; exact rfl); (exact same_mask _ _ _))); (case h1 => (exact norm_eq rfl))
      · exact ⟨s', hP', hrn', S9⟩
      · show leastN _ < mm
        rw [← hμ]
        exact Nat.lt_of_le_of_lt (leastN_le ⟨s', hP', hrn', S9, rfl⟩) hμ'
    | nil =>
      have hB := hfn hds
      ((refine vE rfl ?_); apply vL_nil; apply seqP_normal; ((apply vC_cond_false); exact rfl); apply vC_exit; apply seqP_exit; apply loopP_exit; apply blockP_exit; apply seqP_normal; apply vC_seq; apply vC_region; (refine vE rfl ?_); apply vL_nil; apply seqP_normal; apply vC_ret)
      (apply ret1; (case h1 => (exact norm_eq rfl)))
      exact (S3.weak hB).add rfl
end
end Go.Proofs.YtbaidcnalkdhgaaGreat
