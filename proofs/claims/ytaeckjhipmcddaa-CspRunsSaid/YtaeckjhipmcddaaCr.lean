/- Layer 15: a turn: what its steps leave. -/
import Derived.Test.YtaeckjhipmcddaaCq
set_option maxRecDepth 100000
namespace Go.Proofs.Ytaeckjhipmcddaa
open Go Go.Eng
section
variable {P : Program} {n : Nat} {e : Env} {w : World} {Q : Post}
/-- two ways that meet: what the slots of mm hold is forgotten -/
theorem vC_meet {x : Code} (mm : Nat) (R : World → Prop) (h : vC P n x e w (fun r e' w' => r = .normal ∧ Same mm e e' ∧ R w')) (k : ∀ junk w', R w' → Q .normal (mask mm junk e) w') : vC P n x e w Q :=
  vC_mono h fun r e' w' hx => by
    obtain ⟨rfl, hs, hR⟩ := hx
    have := k e' w' hR
    rwa [mask_same mm e e' hs] at this
end
theorem TsOk.all {h : Array Obj} {K : Nat → Prop} {wb : Nat} {run : Option Nat} {ts : List (Nat × TK)} {al : List AT} (T : TsOk h K wb none ts al) : TsOk h K wb run ts al := ⟨T.1, fun i x a _ hx ha => T.2 i x a (by simp) hx ha⟩
/-- what a turn leaves behind -/
structure Turned (X K : Nat → Prop) (w w' : World) (wb rb : Nat) (vp : Value) (i tb : Nat) (S : AS) : Prop where
  fr : Fr (LF X K) w w'
  ok : ∃ K' rest ts' y, Wst X K' w' wb rb vp (some tb) rest (some i) ts' S ∧ ts'[i]? = some (tb, y) ∧ KX w K K' ∧ y.over = false ∧ ∃ a, S.tasks[i]? = some a ∧ ((a.st = 0 ∧ y.said = false ∧ y.parked = false) ∨ (y.said = true ∧ TkOk w'.heap K' wb (tb, y) a))
theorem Turned.none {X K K' : Nat → Prop} {w w' : World} {wb rb : Nat} {vp : Value} {i tb : Nat} {S : AS} {rest : Int} {ts' : List (Nat × TK)} {y : TK} (fr : Fr (LF X K) w w') (W : Wst X K' w' wb rb vp (some tb) rest none ts' S) (hy : ts'[i]? = some (tb, y)) (hK : KX w K K') (h1 : y.said = true) (h2 : y.over = false) : Turned X K w w' wb rb vp i tb S := by
  obtain ⟨sb, qb, lv, tv, wt, we, L, T⟩ := W
  have hi := (List.getElem?_eq_some_iff.1 hy).1
  rw [T.1] at hi
  exact ⟨fr, K', rest, ts', y, ⟨sb, qb, lv, tv, wt, we, L, T.all⟩, hy, hK, h2, S.tasks[i], List.getElem?_eq_getElem hi, .inr ⟨h1, T.2 i _ _ (by simp) hy (List.getElem?_eq_getElem hi)⟩⟩
/-- the programs, which the law does not write to -/
structure Pz (X : Nat → Prop) (h : Array Obj) (vp : Value) (P : List (OV × List (Int × Int × Int))) : Prop where
  hP : Rd h 1 oE vp P
  hPi : ∀ y ∈ P, Rd h 3 eE y.1.1 y.2
  xp : ∀ b, own vp = some b → P ≠ [] → X b
  xi : ∀ y ∈ P, ∀ b, own y.1.1 = some b → y.2 ≠ [] → X b
theorem _root_.Go.Eng.Rd.frE {α : Type} {F : Nat → Prop} {w w' : World} {sz : Nat} {enc : α → List Value} {v : Value} {xs : List α} (r : Rd w.heap sz enc v xs) (hf : Fr F w w') (hn : ∀ b, own v = some b → xs ≠ [] → ¬ F b) : Rd w'.heap sz enc v xs := by
  cases xs with
  | nil => exact ⟨r.shape, r.small, r.size, fun i x hx => by simp at hx⟩
  | cons x xs => exact r.fr hf (fun b hb => hn b hb (by simp))
theorem _root_.Go.Eng.Rd.lt {α : Type} {h : Array Obj} {sz : Nat} {enc : α → List Value} {v : Value} {xs : List α} (r : Rd h sz enc v xs) (hz : 0 < sz) : ∀ b, own v = some b → xs ≠ [] → b < h.size := fun b hb hne => by
  obtain ⟨x, l, rfl⟩ := List.exists_cons_of_ne_nil hne
  obtain ⟨c, hv⟩ := r.ptr (by simp)
  have hl := r.size x (by simp)
  obtain ⟨u, hu⟩ : ∃ u, (enc x)[0]? = some u := ⟨(enc x)[0]'(by omega), List.getElem?_eq_getElem _⟩
  have := (r.cells 0 x rfl 0 u hu).lt
  rw [hv] at hb
  cases hb
  exact this
theorem Pz.frF {X F : Nat → Prop} {w w' : World} {vp : Value} {P : List (OV × List (Int × Int × Int))} (z : Pz X w.heap vp P) (hf : Fr F w w') (hF : ∀ k, X k → ¬ F k) : Pz X w'.heap vp P :=
  ⟨z.hP.frE hf (fun b hb hne => hF b (z.xp b hb hne)), fun y hy => (z.hPi y hy).frE hf (fun b hb hne => hF b (z.xi y hy b hb hne)), z.xp, z.xi⟩
theorem Pz.fr {X K : Nat → Prop} {w w' : World} {vp : Value} {P : List (OV × List (Int × Int × Int))} (z : Pz X w.heap vp P) (hf : Fr (LF X K) w w') : Pz X w'.heap vp P := z.frF hf (fun k h h' => h'.1 h)
theorem Pz.frN {X : Nat → Prop} {w w' : World} {vp : Value} {P : List (OV × List (Int × Int × Int))} (z : Pz X w.heap vp P) (hf : Fr No w w') : Pz X w'.heap vp P := z.frF hf (fun _ _ h => h)
/-- what a turn has about it -/
structure Tn (X K : Nat → Prop) (w : World) (wb rb sb qb : Nat) (lv tv wt we vp : Value) (rest : Int) (run : Option Nat) (ts : List (Nat × TK)) (S : AS) (tb wx tx px ax db prog pos : Nat) (dd : Int × Int × Int) : Prop where
  L : Lw X K w wb rb sb qb lv tv wt we vp (some tb) rest S.line ts S.ev
  T : TsOk w.heap K wb run ts S.tasks
  B : Bxs w.heap K wb tb prog wx tx px
  I : Bxi w.heap K ax pos
  kd : K db
  d : Blk w.heap db (eE dd) 90
section
variable {X K : Nat → Prop} {w w' : World} {wb rb sb qb : Nat} {lv tv wt we vp : Value} {rest : Int} {run : Option Nat} {ts : List (Nat × TK)} {S : AS} {tb wx tx px ax db prog pos : Nat} {dd : Int × Int × Int}
theorem Tn.frN (t : Tn X K w wb rb sb qb lv tv wt we vp rest run ts S tb wx tx px ax db prog pos dd) (hf : Fr No w w') : Tn X K w' wb rb sb qb lv tv wt we vp rest run ts S tb wx tx px ax db prog pos dd :=
  ⟨t.L.frN hf, t.T.fr hf (fun _ _ h => h) (fun _ h => h), t.B.fr hf (fun _ _ h => h) (fun _ h => h), t.I.fr hf (fun _ _ h => h) (fun _ h => h), t.kd, t.d.frN hf⟩
theorem Tn.move {K' : Nat → Prop} {sb' qb' : Nat} {lv' tv' wt' we' : Value} {rest' : Int} {run' : Option Nat} {ts' : List (Nat × TK)} {S' : AS} (t : Tn X K w wb rb sb qb lv tv wt we vp rest run ts S tb wx tx px ax db prog pos dd) (hf : Fr (LF X K) w w') (hK : ∀ k, K k → K' k)
    (L : Lw X K' w' wb rb sb' qb' lv' tv' wt' we' vp (some tb) rest' S'.line ts' S'.ev) (T : TsOk w'.heap K' wb run' ts' S'.tasks) : Tn X K' w' wb rb sb' qb' lv' tv' wt' we' vp rest' run' ts' S' tb wx tx px ax db prog pos dd :=
  have hno : ∀ k, K k → ¬ LF X K k := fun k h h' => h'.2 h
  ⟨L, T, t.B.fr hf hno hK, t.I.fr hf hno hK, hK _ t.kd, t.d.fr hf (hno _ t.kd)⟩
theorem tn_note (t : Tn X K w wb rb sb qb lv tv wt we vp rest run ts S tb wx tx px ax db prog pos dd) (i : Nat) (b c : Int) (hl : S.ev.length ≤ 1000000) :
    Rets Try.prog 83 #[pt wb, .int .i64 i, .int .i64 b, .int .i64 c] w fun _ w' => ∃ we', Tn X K w' wb rb sb qb lv tv wt we' vp rest run ts (S.note i b c) tb wx tx px ax db prog pos dd ∧ Fr (LF X K) w w' :=
  (w_note t.L i b c hl).mono fun _ _ ⟨we', L, F⟩ => ⟨we', t.move (S' := S.note i b c) F (fun _ h => h) L (t.T.fr F (fun _ h h' => h'.2 h) (fun _ h => h)), F⟩
theorem tn_yield {i : Nat} {x : Nat × TK} (t : Tn X K w wb rb sb qb lv tv wt we vp rest (some i) ts S x.1 wx tx px ax db prog pos dd) (hx : ts[i]? = some x) (a : AOkR S (some i)) (h1 : x.2.said = false) (h2 : x.2.parked = false) (h3 : x.2.over = false) (hta : S.tasks[i]? = some ⟨prog, pos + 1, 0, 2⟩) :
    Rets Try.prog 45 #[pt x.1, .func (.func 84) #[] #[pt wx, pt tx, pt px, pt ax]] w fun u w' => u = .int .i64 0 ∧ ∃ sb qb lv tv wt we ts' y, Tn X K w' wb rb sb qb lv tv wt we vp rest none ts' (S.ready i) x.1 wx tx px ax db prog pos dd ∧ ts'[i]? = some (x.1, y) ∧ y.said = true ∧ y.over = false ∧ Fr (LF X K) w w' :=
  (w_yield hx t.L t.T a h1 h2 h3 t.B t.I hta).mono fun _ _ ⟨hu, ts', y, ⟨sb, qb, lv, tv, wt, we, L, T⟩, hy, y1, y2, F⟩ => ⟨hu, sb, qb, lv, tv, wt, we, ts', y, t.move F (fun _ h => h) L T, hy, y1, y2, F⟩
theorem tn_park {i : Nat} {x : Nat × TK} (t : Tn X K w wb rb sb qb lv tv wt we vp rest (some i) ts S x.1 wx tx px ax db prog pos dd) (hx : ts[i]? = some x) (h1 : x.2.said = false) (h3 : x.2.over = false) (hta : S.tasks[i]? = some ⟨prog, pos + 1, 0, 2⟩) :
    Rets Try.prog 42 #[pt x.1, .func (.func 85) #[] #[pt wx, pt tx, pt px, pt ax]] w fun u w' => u = .int .i64 0 ∧ ∃ sb qb lv tv wt we ts' y, Tn X K w' wb rb sb qb lv tv wt we vp rest none ts' (S.setT i ⟨prog, pos + 1, 0, 3⟩) x.1 wx tx px ax db prog pos dd ∧ ts'[i]? = some (x.1, y) ∧ y.said = true ∧ y.over = false ∧ Fr (LF X K) w w' :=
  (w_park hx t.L t.T h1 h3 t.B t.I hta).mono fun _ _ ⟨hu, ts', y, ⟨sb, qb, lv, tv, wt, we, L, T⟩, hy, y1, y2, F⟩ => ⟨hu, sb, qb, lv, tv, wt, we, ts', y, t.move F (fun _ h => h) L T, hy, y1, y2, F⟩
theorem tn_wake {j : Nat} {y : Nat × TK} {b : AT} (t : Tn X K w wb rb sb qb lv tv wt we vp rest run ts S tb wx tx px ax db prog pos dd) (hy : ts[j]? = some y) (hb : S.tasks[j]? = some b) (why : Int) (a : AOkR S run) (hp : y.2.parked = decide (b.st = 3)) (ho : y.2.over = decide (b.st = 0)) :
    Rets Try.prog 47 #[pt y.1, .int .i64 why] w fun u w' => u = .int .i64 (S.wake j why).2 ∧ ∃ K' lv' ts', Tn X K' w' wb rb sb qb lv' tv wt we vp rest run ts' (S.wake j why).1 tb wx tx px ax db prog pos dd ∧ KX w K K' ∧ Fr (LF X K) w w' ∧ ts'.map (·.1) = ts.map (·.1) ∧ ∀ i, run = some i → ts'[i]? = ts[i]? :=
  (w_wake hy hb why t.L t.T a hp ho).mono fun _ _ ⟨hu, K', lv', ts', L, T, hK, F, hm, hr⟩ => ⟨hu, K', lv', ts', t.move F hK.1 L T, hK, F, hm, hr⟩
theorem tn_spawn (t : Tn X K w wb rb sb qb lv tv wt we vp rest run ts S tb wx tx px ax db prog pos dd) (a : AOkR S run) (pg : Nat) (hlt : ts.length ≤ 1000000) (hrun : ∀ i x, run = some i → ts[i]? = some x → x.2.over = false) :
    Rets Try.prog 24 #[pt wb, .int .i64 pg] w fun u w' => u = .int .i64 (S.spawn pg).2 ∧ ∃ K' lv' tv' wt' ts', Tn X K' w' wb rb sb qb lv' tv' wt' we vp rest run ts' (S.spawn pg).1 tb wx tx px ax db prog pos dd ∧ KX w K K' ∧ Fr (LF X K) w w' ∧ ∀ i, i < ts.length → ts'[i]? = ts[i]? := by
  have hlen := a.len
  have hfew := a.few
  have hopen := open_eq t.T (fun i x b hi hx hb => by
    obtain ⟨u, hu, h2⟩ := a.run1 i hi
    rw [hb] at hu; cases hu
    rw [hrun i x hi hx, h2]; rfl)
  refine (w_spawn t.L t.T pg (by omega) hlt (fun i hi => ?_)).mono fun u w' h => ?_
  · obtain ⟨u, hu, _⟩ := a.run1 i hi
    rw [t.T.1]
    exact (List.getElem?_eq_some_iff.1 hu).1
  rw [hopen] at h
  unfold AS.spawn
  rcases h with ⟨h1, rfl, hf⟩ | ⟨h1, rfl, K', lv', tv', wt', y, L, T, hK, F⟩
  · rw [if_pos (by omega)]
    exact ⟨rfl, K, lv, tv, wt, ts, t.frN hf, KX.refl _ _, hf.no_any, fun _ _ => rfl⟩
  · rw [if_neg (by omega)]
    have hni : ((S.tasks.length : Nat) : Int) ∉ S.line := fun h => by
      obtain ⟨u, hu, _⟩ := (a.rdy _).1 h
      have := (List.getElem?_eq_some_iff.1 hu).1
      omega
    rw [t.T.1, readyL_push hni (by omega)] at L
    exact ⟨rfl, K', lv', tv', wt', ts ++ [y], t.move (S' := { S with tasks := S.tasks ++ [⟨pg, 0, 0, 1⟩], line := S.line ++ [(S.tasks.length : Int)] }) F hK.1 L T, hK, F, fun i hi => List.getElem?_append_left hi⟩
theorem tn_choice (t : Tn X K w wb rb sb qb lv tv wt we vp rest run ts S tb wx tx px ax db prog pos dd) (n : Int) (hrest : 0 ≤ rest ∧ rest ≤ 18446744073709551615) (hn : n ≤ 9223372036854775807) :
    Rets Try.prog 52 #[pt rb, .int .i64 n] w fun u w' => u = .int .i64 (if 0 < n then rest % n else 0) ∧ ∃ rest', Tn X K w' wb rb sb qb lv tv wt we vp rest' run ts S tb wx tx px ax db prog pos dd ∧ Fr (LF X K) w w' := by
  refine (r_choice t.L.rt n hrest hn).mono fun u w' h => ?_
  rcases h with ⟨h1, rfl, rfl⟩ | ⟨_, h1, rfl, R, hf⟩
  · rw [if_neg (by rcases h1 with h | h; cases h; omega)]
    exact ⟨rfl, rest, t, Fr.refl _ _⟩
  · rw [if_pos h1]
    obtain ⟨L, F⟩ := t.L.call (K' := K) hf (fun _ h => .inl h) R rfl
    exact ⟨rfl, rest / n, t.move F (fun _ h => h) L (t.T.fr F (fun _ h h' => h'.2 h) (fun _ h => h)), F⟩
theorem Tn.turned {K0 : Nat → Prop} {w0 : World} {i : Nat} {y : TK} (t : Tn X K w wb rb sb qb lv tv wt we vp rest none ts S tb wx tx px ax db prog pos dd) (fr : Fr (LF X K0) w0 w) (hy : ts[i]? = some (tb, y)) (hK : KX w0 K0 K) (h1 : y.said = true) (h2 : y.over = false) : Turned X K0 w0 w wb rb vp i tb S :=
  Turned.none fr ⟨sb, qb, lv, tv, wt, we, t.L, t.T⟩ hy hK h1 h2
theorem Tn.over {K0 : Nat → Prop} {w0 : World} {i : Nat} {y : TK} {b : AT} (t : Tn X K w wb rb sb qb lv tv wt we vp rest (some i) ts S tb wx tx px ax db prog pos dd) (fr : Fr (LF X K0) w0 w) (hy : ts[i]? = some (tb, y)) (hK : KX w0 K0 K) (h1 : y.said = false) (h2 : y.over = false) (h3 : y.parked = false) (hb : S.tasks[i]? = some b) : Turned X K0 w0 w wb rb vp i tb (S.setT i { b with st := 0 }) := by
  have hi := (List.getElem?_eq_some_iff.1 hb).1
  refine ⟨fr, K, rest, ts, y, ⟨sb, qb, lv, tv, wt, we, t.L, ?_⟩, hy, hK, h2, { b with st := 0 }, ?_, .inl ⟨rfl, h1, h3⟩⟩
  · refine ⟨by show _ = (S.tasks.set i _).length; rw [List.length_set]; exact t.T.1, fun j z c hr hz hc => ?_⟩
    have hc' : (S.tasks.set i { b with st := 0 })[j]? = some c := hc
    rw [List.getElem?_set, if_neg (fun e => hr (by rw [e]))] at hc'
    exact t.T.2 j z c hr hz hc'
  · show (S.tasks.set i _)[i]? = _
    rw [List.getElem?_set, if_pos rfl, if_pos hi]
end
end Go.Proofs.Ytaeckjhipmcddaa
