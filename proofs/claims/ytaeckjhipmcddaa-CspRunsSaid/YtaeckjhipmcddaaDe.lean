/- Layer 15: the law's world beside the document's. -/
import Derived.Test.YtaeckjhipmcddaaDd
set_option maxRecDepth 100000
namespace Go.Proofs.Ytaeckjhipmcddaa
open Go Go.Eng
theorem r_new (w : World) : Rets Try.prog 23 #[] w fun u w' => ∃ rb sb qb lv, u = pt rb ∧ Fr No w w' ∧ w.heap.size ≤ rb ∧ Rt (fun k => k < w.heap.size) w' rb sb qb lv (.slice none 0 0) none 0 [] [] := by
  refine rets_of Try.func23 rfl Try.ntmps23 rfl rfl (by kernel_rfl) ?_
  (apply vC_seq; apply vC_region; ((apply vL_val); (case h => ((apply opv_E); exact rfl))); apply vL_nil; apply seqP_normal; apply vC_seq; apply vC_region)
  refine vL_callF rfl (s_new w) rfl ?_
  rintro _ w1 ⟨sb, qb, lv, rfl, s⟩
  (((apply vL_val); (case h => ((apply opv_buildS); exact rfl; (first | exact (rfl : _ = some []) | exact (rfl : _ = some [_]) | exact (rfl : _ = some [_, _]) | exact (rfl : _ = some [_, _, _]) | exact (rfl : _ = some [_, _, _, _]) | exact (rfl : _ = some [_, _, _, _, _]) | exact (rfl : _ = some [_, _, _, _, _, _]) | exact (rfl : _ = some [_, _, _, _, _, _, _]) | exact (rfl : _ = some [_, _, _, _, _, _, _, _]) | exact (rfl : _ = some [_, _, _, _, _, _, _, _, _]) | exact (rfl : _ = some [_, _, _, _, _, _, _, _, _, _]) | exact (rfl : _ = some [_, _, _, _, _, _, _, _, _, _, _]) | exact (rfl : _ = some [_, _, _, _, _, _, _, _, _, _, _, _]) | exact (rfl : _ = some [_, _, _, _, _, _, _, _, _, _, _, _, _]) | exact (rfl : _ = some [_, _, _, _, _, _, _, _, _, _, _, _, _, _]) | exact (rfl : _ = some [_, _, _, _, _, _, _, _, _, _, _, _, _, _, _]) | exact (rfl : _ = some [_, _, _, _, _, _, _, _, _, _, _, _, _, _, _, _]))))); ((apply vL_val); (case h => ((apply opw_boxn); exact rfl))); ((apply vL_val); (case h => ((apply opv_E); exact rfl))); apply vL_nil; apply seqP_normal; apply vC_ret)
  (apply ret1; (case h1 => (first | exact norm_eq rfl | ((conv => lhs; whnf) <;> exact rfl))))
  refine ⟨w1.heap.size, sb, qb, lv, rfl, s.fr.alloc _, s.fr.size, ⟨Blk.as (inferInstance : Blk (w1.alloc _).heap w1.heap.size _ _) rfl, s.sc.frN ((Fr.refl No w1).alloc _), Own.nil _ _ _ _, fun i x hx => by simp at hx, rfl, fun b hb => (by cases hb), fun k hk => ?_, fun k hk => ?_⟩⟩
  · have := s.fr.size; rw [alloc_size]; omega
  · have h1 := s.fr.size
    have h2 := s.fs
    have h3 := s.fb
    rcases hk with rfl | rfl | rfl | h | h | ⟨x, hx, _⟩
    · omega
    · omega
    · omega
    · have := s.fl k h; omega
    · cases h
    · simp at hx
section
variable {X K K' : Nat → Prop} {w w1 w' : World} {wb rb : Nat} {vp : Value} {S S' : AS}
theorem Wq.init {Z : Nat → Prop} {sb qb : Nat} {lv : Value} (R : Rt Z w1 rb sb qb lv (.slice none 0 0) none 0 [] []) (hf : Fr No w1 w) (hw : Blk w.heap wb [pt rb, vp, .slice none 0 0, .slice none 0 0] 60) (hwb : w1.heap.size ≤ wb) (hX : ∀ k, X k → k < w.heap.size ∧ (Z k ∨ w1.heap.size ≤ k) ∧ k ≠ wb) (op : vp.oneCell' = true) : Wq X (fun _ => False) w wb rb vp ⟨[], [], []⟩ := by
  refine ⟨0, [], sb, qb, lv, .slice none 0 0, .slice none 0 0, .slice none 0 0, ⟨hw, Own.nil _ _ _ _, Own.nil _ _ _ _, R.fr hf.no_any (fun k hk => ?_), rfl, rfl, op, fun k hk => ?_⟩, rfl, fun i x a _ hx => by simp at hx⟩
  · rcases hk with h | h | rfl | h | h
    · exact ⟨(hX k h).1, (hX k h).2.1⟩
    · exact h.elim
    · exact ⟨hw.lt, .inr hwb⟩
    · cases h
    · cases h
  · rcases hk with rfl | h | h
    · exact ⟨fun h => (hX _ h).2.2 rfl, fun h => h⟩
    · cases h
    · cases h
/-- what can be seen of it -/
theorem Wq.see (W : Wq X K w wb rb vp S) : ∃ wt we bs, Blk w.heap wb [pt rb, vp, wt, we] 60 ∧ Own w.heap 64 1 ptE wt bs ∧ Own w.heap 62 3 eE we S.ev ∧ wt.oneCell' = true ∧ we.oneCell' = true ∧ vp.oneCell' = true ∧ bs.length = S.tasks.length ∧ ∀ (i : Nat) b a, bs[i]? = some b → S.tasks[i]? = some a → ∃ x : TK, Blk w.heap b (tkL rb i x) 75 ∧ x.over = decide (a.st = 0) := by
  obtain ⟨rest, ts, sb, qb, lv, tv, wt, we, L, T⟩ := W
  refine ⟨wt, we, ts.map (·.1), L.hw, L.hwt, L.hev, L.ow, L.oe, L.op, by rw [List.length_map]; exact T.1, fun i b a hb ha => ?_⟩
  rw [List.getElem?_map] at hb
  cases hx : ts[i]? with
  | none => rw [hx] at hb; cases hb
  | some x =>
    rw [hx] at hb
    cases hb
    exact ⟨x.2, L.rt.tk i x hx, (T.2 i x a (by simp) hx ha).over⟩
theorem Wq.rlt (W : Wq X K w wb rb vp S) : ∃ c T, Blk w.heap rb c T := by
  obtain ⟨rest, ts, sb, qb, lv, tv, wt, we, L, T⟩ := W
  exact ⟨_, _, L.rt.hr⟩
theorem Wq.frN (W : Wq X K w wb rb vp S) (hf : Fr No w w') : Wq X K w' wb rb vp S := by
  obtain ⟨rest, ts, sb, qb, lv, tv, wt, we, L, T⟩ := W
  exact ⟨rest, ts, sb, qb, lv, tv, wt, we, L.frN hf, T.fr hf (fun _ _ h => h) (fun _ h => h)⟩
theorem Wq.other {X' : Nat → Prop} (W : Wq X K w wb rb vp S) {F : Nat → Prop} (hf : Fr F w w') (hFX : ∀ k, F k → X k) (hK : ∀ k, K k → ¬ F k) (hX : ∀ k, X' k → k < w'.heap.size ∧ (X k ∨ w.heap.size ≤ k)) : Wq X' K w' wb rb vp S := by
  obtain ⟨rest, ts, sb, qb, lv, tv, wt, we, L, T⟩ := W
  exact ⟨rest, ts, sb, qb, lv, tv, wt, we, L.other (hf.mono (fun k _ h => hFX k h)) hX, T.fr hf hK (fun _ h => h)⟩
theorem Wq.klt (W : Wq X K w wb rb vp S) : ∀ k, X k ∨ K k → k < w.heap.size := by
  obtain ⟨rest, ts, sb, qb, lv, tv, wt, we, L, T⟩ := W
  exact fun k hk => L.rt.zs k (hk.imp id .inl)
theorem wq_spawn (W : Wq X K w wb rb vp S) (a : AOkR S none) (hlt : S.tasks.length ≤ 1000000) (pg : Nat) :
    Rets Try.prog 24 #[pt wb, .int .i64 pg] w fun u w' => u = .int .i64 (S.spawn pg).2 ∧ ∃ K', Wq X K' w' wb rb vp (S.spawn pg).1 ∧ KX w K K' ∧ Fr (LF X K) w w' := by
  obtain ⟨rest, ts, sb, qb, lv, tv, wt, we, L, T⟩ := W
  have hlen := a.len
  have hfew := a.few
  have hopen := open_eq T (fun i x b hi => by cases hi)
  refine (w_spawn L T pg (by omega) (by rw [T.1]; exact hlt) (fun i hi => by cases hi)).mono fun u w' h => ?_
  rw [hopen] at h
  unfold AS.spawn
  rcases h with ⟨h1, rfl, hf⟩ | ⟨h1, rfl, K', lv', tv', wt', y, L', T', hK, F⟩
  · rw [if_pos (by omega)]
    exact ⟨rfl, K, ⟨rest, ts, sb, qb, lv, tv, wt, we, L.frN hf, T.fr hf (fun _ _ h => h) (fun _ h => h)⟩, KX.refl _ _, hf.no_any⟩
  · rw [if_neg (by omega)]
    have hni : ((S.tasks.length : Nat) : Int) ∉ S.line := fun h => by
      obtain ⟨u, hu, _⟩ := (a.rdy _).1 h
      have := (List.getElem?_eq_some_iff.1 hu).1
      omega
    rw [T.1, readyL_push hni (by omega)] at L'
    exact ⟨rfl, K', ⟨rest, ts ++ [y], sb, qb, lv', tv', wt', we, L', T'⟩, hK, F⟩
theorem wq_ready (W : Wq X K w wb rb vp S) (a : AOkR S none) : Rets Try.prog 27 #[pt rb] w fun u w' => Fr No w w' ∧ Own w'.heap 3 1 iE u S.line ∧ u.oneCell' = true ∧ ∀ b, own u = some b → w.heap.size ≤ b := by
  obtain ⟨rest, ts, sb, qb, lv, tv, wt, we, L, T⟩ := W
  have hlen := a.len
  have hfew := a.few
  exact (r_ready L.rt (by omega)).mono fun u w' ⟨h1, h2, h3, h4⟩ => ⟨h1, h2, h4, h3⟩
theorem parked_eq {h : Array Obj} {ts : List (Nat × TK)} {al : List AT} (T : TsOk h K wb none ts al) : parkedIn ts ts.length = parkedA al al.length := by
  unfold parkedIn parkedA
  rw [T.1]
  congr 1
  apply List.filter_congr
  intro i hi
  have hi' : i < al.length := by simpa using hi
  have h1 : ts[i]? = some (ts[i]'(by rw [T.1]; exact hi')) := List.getElem?_eq_getElem _
  have h2 : al[i]? = some al[i] := List.getElem?_eq_getElem hi'
  rw [h1, h2]
  exact (T.2 i _ _ (by simp) h1 h2).parked
theorem wq_parked (W : Wq X K w wb rb vp S) (hl : S.tasks.length ≤ 1000000) : Rets Try.prog 28 #[pt rb] w fun u w' => Fr No w w' ∧ Own w'.heap 3 1 iE u (parkedA S.tasks S.tasks.length) ∧ u.oneCell' = true ∧ ∀ b, own u = some b → w.heap.size ≤ b := by
  obtain ⟨rest, ts, sb, qb, lv, tv, wt, we, L, T⟩ := W
  refine (r_parked L.rt (by rw [T.1]; exact hl)).mono fun u w' ⟨h1, h2, h3, h4⟩ => ⟨h1, ?_, h4, h3⟩
  rw [parked_eq T] at h2
  exact h2
end
def XF (w0 : World) (qb : Nat) (vt vl ve : Value) (k : Nat) : Prop := k < w0.heap.size ∨ RfB qb vt vl ve k
theorem Pz.mono {X X' : Nat → Prop} {h : Array Obj} {vp : Value} {P : List (OV × List (Int × Int × Int))} (z : Pz X h vp P) (hx : ∀ k, X k → X' k) : Pz X' h vp P := ⟨z.hP, z.hPi, fun b h1 h2 => hx b (z.xp b h1 h2), fun y hy b h1 h2 => hx b (z.xi y hy b h1 h2)⟩
theorem Pg.mono {X X' : Nat → Prop} {h : Array Obj} {vp : Value} {P : List (OV × List (Int × Int × Int))} (g : Pg X h vp P) (hx : ∀ k, X k → X' k) : Pg X' h vp P := ⟨g.z.mono hx, g.hPb, g.len⟩
/-- both worlds; w0: where the law began -/
structure J (w0 w : World) (wb rb qb : Nat) (vp vt vl ve : Value) (K : Nat → Prop) (P : List (OV × List (Int × Int × Int))) (n : Nat) (S1 S2 : AS) : Prop where
  W : Wq (XF w0 qb vt vl ve) K w wb rb vp S1
  F : Rf w qb vp vt vl ve S2
  fresh : ∀ k, RfB qb vt vl ve k → w0.heap.size ≤ k
  dis : ∀ k, K k → ¬ RfB qb vt vl ve k
  G : Pg (fun k => k < w0.heap.size) w.heap vp P
  a1 : AOkR S1 none
  a2 : AOkR S2 none
  b1 : AIn P.length n S1
  b2 : AIn P.length n S2
  fr : Fr No w0 w
section
variable {w0 w w' : World} {wb rb qb : Nat} {vp vt vl ve vt' vl' ve' : Value} {K K' : Nat → Prop} {P : List (OV × List (Int × Int × Int))} {n m : Nat} {S1 S2 S' : AS}
theorem J.frN (j : J w0 w wb rb qb vp vt vl ve K P n S1 S2) (hf : Fr No w w') : J w0 w' wb rb qb vp vt vl ve K P n S1 S2 :=
  ⟨j.W.frN hf, j.F.frN hf, j.fresh, j.dis, j.G.frN hf, j.a1, j.a2, j.b1, j.b2, j.fr.trans hf⟩
theorem J.blk (j : J w0 w wb rb qb vp vt vl ve K P n S1 S2) : ∃ a b, Blk w.heap wb [pt rb, vp, a, b] 60 := by
  obtain ⟨wt, we, bs, h, _⟩ := j.W.see
  exact ⟨wt, we, h⟩
theorem J.mono (j : J w0 w wb rb qb vp vt vl ve K P n S1 S2) (h : n ≤ m) : J w0 w wb rb qb vp vt vl ve K P m S1 S2 := ⟨j.W, j.F, j.fresh, j.dis, j.G, j.a1, j.a2, j.b1.mono h, j.b2.mono h, j.fr⟩
theorem J.lawTo (j : J w0 w wb rb qb vp vt vl ve K P n S1 S2) (W : Wq (XF w0 qb vt vl ve) K' w' wb rb vp S') (hK : KX w K K') (F : Fr (LF (XF w0 qb vt vl ve) K) w w') (a : AOkR S' none) (b : AIn P.length m S') (hm : n ≤ m) : J w0 w' wb rb qb vp vt vl ve K' P m S' S2 :=
  ⟨W, j.F.fr F (fun k hk h => h.1 (.inr hk)), j.fresh, fun k hk hr => by
    rcases hK.2 k hk with h | h
    · exact j.dis k h hr
    · have := j.F.lt k hr; omega, j.G.frF F (fun k hk h => h.1 (.inl hk)), a, j.a2, b, j.b2.mono hm, j.fr.trans' F (fun k hk => .inr (Nat.le_of_not_lt (fun h => hk.1 (.inl h))))⟩
theorem J.refTo (j : J w0 w wb rb qb vp vt vl ve K P n S1 S2) (r : RfTo w w' qb vp vt vl ve vt' vl' ve' S') (a : AOkR S' none) (b : AIn P.length m S') (hm : n ≤ m) : J w0 w' wb rb qb vp vt' vl' ve' K P m S1 S' := by
  have hs := j.fr.size
  have hfr : ∀ k, RfB qb vt' vl' ve' k → w0.heap.size ≤ k := fun k hk => by
    rcases r.fl k hk with h | h
    · exact j.fresh k h
    · omega
  refine ⟨j.W.other r.fr (fun k hk => .inr hk) (fun k hk => j.dis k hk) (fun k hk => ?_), r.rf, hfr, fun k hk hr => ?_, j.G.frF r.fr (fun k hk h => by have := j.fresh k h; omega), j.a1, a, j.b1.mono hm, b, j.fr.trans' r.fr (fun k hk => .inr (j.fresh k hk))⟩
  · rcases hk with h | h
    · exact ⟨by have := r.fr.size; omega, .inl (.inl h)⟩
    · refine ⟨r.rf.lt k h, (r.fl k h).imp .inr id⟩
  · rcases r.fl k hr with h | h
    · exact j.dis k hk h
    · have := j.W.klt k (.inr hk); omega
theorem J.step (j : J w0 w wb rb qb vp vt vl ve K P n S1 S2) (hn : n ≤ 9999) (p : Int) (hp : 0 ≤ p ∧ p ≤ 18446744073709551615) :
    Rets Try.prog 26 #[pt rb, .int .u64 p] w fun u w' => (S1.step (P.map (·.2)) p = none ∧ u = .bool false ∧ w = w') ∨
      ∃ S' K', S1.step (P.map (·.2)) p = some S' ∧ u = .bool true ∧ J w0 w' wb rb qb vp vt vl ve K' P (n + 1) S' S2 :=
  (w_step (j.G.mono (fun k hk => .inl hk)) j.W j.a1 j.b1 (by omega) p hp).mono fun u w' h => h.imp id fun ⟨S', K', h1, h2, h3, h4, h5⟩ =>
    ⟨S', K', h1, h2, j.lawTo h3 h4 h5 (step_ok h1 j.a1) (by have := step_in h1 j.a1 (by rw [List.length_map]; exact j.b1); rwa [List.length_map] at this) (Nat.le_succ _)⟩
theorem J.ref (j : J w0 w wb rb qb vp vt vl ve K P n S1 S2) (hn : n ≤ 9999) (p : Int) (hp : 0 ≤ p ∧ p ≤ 18446744073709551615) :
    Rets Try.prog 31 #[pt qb, .int .u64 p] w fun u w' => (S2.step (P.map (·.2)) p = none ∧ u = .bool false ∧ J w0 w' wb rb qb vp vt vl ve K P n S1 S2) ∨
      ∃ S' vt' vl' ve', S2.step (P.map (·.2)) p = some S' ∧ u = .bool true ∧ J w0 w' wb rb qb vp vt' vl' ve' K P (n + 1) S1 S' :=
  (f_step j.F j.G (fun k hk h => by have := j.fresh k h; omega) j.a2 j.b2 (by omega) p hp).mono fun u w' h => by
    rcases h with ⟨h1, h2, r⟩ | ⟨S', vt', vl', ve', h1, h2, r⟩
    · exact .inl ⟨h1, h2, j.refTo r j.a2 j.b2 (Nat.le_refl _)⟩
    · exact .inr ⟨S', vt', vl', ve', h1, h2, j.refTo r (step_ok h1 j.a2) (by have := step_in h1 j.a2 (by rw [List.length_map]; exact j.b2); rwa [List.length_map] at this) (Nat.le_succ _)⟩
theorem J.spawn (j : J w0 w wb rb qb vp vt vl ve K P n S1 S2) (hn : n ≤ 9999) (ht : S1.tasks.length < 6) {pg : Nat} (hp : pg < P.length) :
    Rets Try.prog 24 #[pt wb, .int .i64 pg] w fun u w' => u = .int .i64 (S1.spawn pg).2 ∧ ∃ K', J w0 w' wb rb qb vp vt vl ve K' P n (S1.spawn pg).1 S2 :=
  (wq_spawn j.W j.a1 (by omega) pg).mono fun u w' ⟨h1, K', h2, h3, h4⟩ => by
    obtain ⟨e1, e2, e3⟩ := j.b1.spawned hp
    exact ⟨h1, K', j.lawTo h2 h3 h4 (j.a1.spawn pg) ⟨by rw [e1]; exact j.b1.ev, by omega, e3⟩ (Nat.le_refl _)⟩
theorem J.rspawn (j : J w0 w wb rb qb vp vt vl ve K P n S1 S2) (hn : n ≤ 9999) (ht : S2.tasks.length < 6) {pg : Nat} (hp : pg < P.length) :
    Rets Try.prog 30 #[pt qb, .int .i64 pg] w fun u w' => u = .bool (decide ((S2.spawn pg).2 = 0)) ∧ ∃ vt' vl', J w0 w' wb rb qb vp vt' vl' ve K P n S1 (S2.spawn pg).1 := by
  have h1 := j.a2.len
  have h2 := j.a2.few
  exact (f_spawn j.F pg (by omega) (by omega)).mono fun u w' ⟨h1, vt', vl', r⟩ => by
    obtain ⟨e1, e2, e3⟩ := j.b2.spawned hp
    exact ⟨h1, vt', vl', j.refTo r (j.a2.spawn pg) ⟨by rw [e1]; exact j.b2.ev, by omega, e3⟩ (Nat.le_refl _)⟩
end
theorem wq_wake {X K : Nat → Prop} {w : World} {wb rb : Nat} {vp : Value} {S : AS} {wt we : Value} {bs : List Nat} {j bb : Nat} {b : AT} (W : Wq X K w wb rb vp S) (a : AOkR S none) (hw : Blk w.heap wb [pt rb, vp, wt, we] 60) (ho : Own w.heap 64 1 ptE wt bs) (hj : bs[j]? = some bb) (hb : S.tasks[j]? = some b) (why : Int) :
    Rets Try.prog 47 #[pt bb, .int .i64 why] w fun u w' => u = .int .i64 (S.wake j why).2 ∧ ∃ K', Wq X K' w' wb rb vp (S.wake j why).1 ∧ KX w K K' ∧ Fr (LF X K) w w' := by
  obtain ⟨rest, ts, sb, qb, lv, tv, wt', we', L, T⟩ := W
  have h1 := (hw.inj L.hw).1
  simp only [List.cons.injEq, true_and, and_true] at h1
  obtain ⟨rfl, rfl⟩ := h1
  have hlen : bs.length = (ts.map (·.1)).length := by
    obtain ⟨a1, c1, e1⟩ := ho.rd.len
    obtain ⟨a2, c2, e2⟩ := L.hwt.rd.len
    rw [e1] at e2
    simp only [Value.slice.injEq] at e2
    exact e2.2.1
  have hjl := (List.getElem?_eq_some_iff.1 hj).1
  rw [hlen, List.length_map] at hjl
  have hy : ts[j]? = some ts[j] := List.getElem?_eq_getElem hjl
  have hm : (ts.map (·.1))[j]? = some ts[j].1 := by rw [List.getElem?_map, hy]; rfl
  have c1 := ho.rd.cells j bb hj 0 (pt bb) rfl
  have c2 := L.hwt.rd.cells j ts[j].1 hm 0 (pt ts[j].1) rfl
  have h2 : bb = ts[j].1 := by
    have h3 := c1.get
    rw [c2.get] at h3
    cases h3; rfl
  subst h2
  have k := T.2 j _ b (by simp) hy hb
  exact (w_wake hy hb why L T a k.parked k.over).mono fun u w' ⟨hu, K', lv', ts', L', T', hK, F, _, _⟩ => ⟨hu, K', ⟨rest, ts', sb, qb, lv', tv, wt, we, L', T'⟩, hK, F⟩
/-- the law's world alone -/
structure Jw (X : Nat → Prop) (w0 w : World) (wb rb : Nat) (vp : Value) (K : Nat → Prop) (P : List (OV × List (Int × Int × Int))) (n : Nat) (S : AS) : Prop where
  W : Wq X K w wb rb vp S
  G : Pg X w.heap vp P
  a : AOkR S none
  b : AIn P.length n S
  fr : Fr No w0 w
  hX : ∀ k, k < w0.heap.size → X k
section
variable {X K K' : Nat → Prop} {w0 w w' : World} {wb rb : Nat} {vp : Value} {P : List (OV × List (Int × Int × Int))} {n m : Nat} {S S' : AS}
theorem Jw.frN (j : Jw X w0 w wb rb vp K P n S) (hf : Fr No w w') : Jw X w0 w' wb rb vp K P n S := ⟨j.W.frN hf, j.G.frN hf, j.a, j.b, j.fr.trans hf, j.hX⟩
theorem Jw.to (j : Jw X w0 w wb rb vp K P n S) (W : Wq X K' w' wb rb vp S') (F : Fr (LF X K) w w') (a : AOkR S' none) (b : AIn P.length m S') : Jw X w0 w' wb rb vp K' P m S' :=
  ⟨W, j.G.fr F, a, b, j.fr.trans' F (fun k hk => .inr (Nat.le_of_not_lt (fun h => hk.1 (j.hX k h)))), j.hX⟩
theorem Jw.step (j : Jw X w0 w wb rb vp K P n S) (hn : n ≤ 9999) (p : Int) (hp : 0 ≤ p ∧ p ≤ 18446744073709551615) :
    Rets Try.prog 26 #[pt rb, .int .u64 p] w fun u w' => (S.step (P.map (·.2)) p = none ∧ u = .bool false ∧ w = w') ∨
      ∃ S' K', S.step (P.map (·.2)) p = some S' ∧ u = .bool true ∧ Jw X w0 w' wb rb vp K' P (n + 1) S' :=
  (w_step j.G j.W j.a j.b (by omega) p hp).mono fun u w' h => h.imp id fun ⟨S', K', h1, h2, h3, h4, h5⟩ =>
    ⟨S', K', h1, h2, j.to h3 h5 (step_ok h1 j.a) (by have := step_in h1 j.a (by rw [List.length_map]; exact j.b); rwa [List.length_map] at this)⟩
theorem Jw.spawn (j : Jw X w0 w wb rb vp K P n S) (hn : n ≤ 9999) (ht : S.tasks.length < 6) {pg : Nat} (hp : pg < P.length) :
    Rets Try.prog 24 #[pt wb, .int .i64 pg] w fun u w' => u = .int .i64 (S.spawn pg).2 ∧ ∃ K', Jw X w0 w' wb rb vp K' P n (S.spawn pg).1 :=
  (wq_spawn j.W j.a (by omega) pg).mono fun u w' ⟨h1, K', h2, h3, h4⟩ => by
    obtain ⟨e1, e2, e3⟩ := j.b.spawned hp
    exact ⟨h1, K', j.to h2 h4 (j.a.spawn pg) ⟨by rw [e1]; exact j.b.ev, by omega, e3⟩⟩
theorem Jw.wake {wt we : Value} {bs : List Nat} {i bb : Nat} {b : AT} (j : Jw X w0 w wb rb vp K P n S) (hw : Blk w.heap wb [pt rb, vp, wt, we] 60) (ho : Own w.heap 64 1 ptE wt bs) (hj : bs[i]? = some bb) (hb : S.tasks[i]? = some b) (why : Int) :
    Rets Try.prog 47 #[pt bb, .int .i64 why] w fun u w' => u = .int .i64 (S.wake i why).2 ∧ ∃ K', Jw X w0 w' wb rb vp K' P n (S.wake i why).1 :=
  (wq_wake j.W j.a hw ho hj hb why).mono fun u w' ⟨h1, K', h2, h3, h4⟩ => by
    obtain ⟨e1, e2, e3⟩ := wake_tp j.b.tp i why
    exact ⟨h1, K', j.to h2 h4 (j.a.wake i why) ⟨by rw [e3]; exact j.b.ev, by rw [e2]; exact j.b.tl, e1⟩⟩
end
theorem AOkR.init : AOkR ⟨[], [], []⟩ none := ⟨List.nodup_nil, fun i => by simp, by simp, by decide, by simp, fun i hi => by cases hi⟩
theorem AIn.init (np : Nat) : AIn np 0 ⟨[], [], []⟩ := ⟨by simp, by simp, by simp⟩
end Go.Proofs.Ytaeckjhipmcddaa
