/- Layer 15: what stays so in the plain machine.
Layer 15: the plain machine's moves keep what is always so.
Layer 15: a turn: what holds while a task runs.
Layer 15: a running task wakes another.
Layer 15: a turn: what its steps leave.
Layer 15: a turn, the walk.
Layer 15: what a task goes on with comes to a turn.
Layer 15: the plain machine's step.
Layer 15: a step of the law's runtime is a step of the plain machine. -/
import Derived.Test.YtaeckjhipmcddaaX2
set_option maxRecDepth 100000
namespace Go.Proofs.Ytaeckjhipmcddaa
open Go Go.Eng
theorem openA_set : ∀ {l : List AT} {i : Nat} {t t' : AT}, l[i]? = some t → (t.st = 0 → t'.st = 0) → openA (l.set i t') ≤ openA l
  | x :: l, 0, t, t', h, h0 => by
    cases h
    unfold openA
    simp only [List.set_cons_zero, List.filter_cons]
    by_cases e : x.st = 0
    · simp [e, h0 e]
    · by_cases e' : t'.st = 0 <;> simp [e, e']
  | x :: l, i + 1, t, t', h, h0 => by
    have ih := openA_set (l := l) (i := i) h h0
    unfold openA at ih ⊢
    simp only [List.set_cons_succ, List.filter_cons]
    by_cases e : x.st = 0
    · simpa [e] using ih
    · simpa [e] using ih
theorem AOkR.change {S : AS} {run run' : Option Nat} (a : AOkR S run) {i : Nat} {t t' : AT} {line' : List Int} {ev' : List (Int × Int × Int)} (ht : S.tasks[i]? = some t) (h0 : t.st = 0 → t'.st = 0) (h3 : t'.st ≤ 3) (hnd : line'.Nodup) (hnn : ∀ x ∈ line', 0 ≤ x)
    (hl : ∀ j : Nat, ((j : Int) ∈ line' ↔ if j = i then t'.st = 1 else (j : Int) ∈ S.line)) (hr : ∀ j, run' = some j → (j = i ∧ t'.st = 2) ∨ (j ≠ i ∧ run = some j)) : AOkR ⟨S.tasks.set i t', line', ev'⟩ run' := by
  have hi := (List.getElem?_eq_some_iff.1 ht).1
  refine ⟨hnd, fun j => ?_, hnn, Nat.le_trans (openA_set ht h0) a.few, fun u hu => ?_, fun j hj => ?_⟩
  · rw [hl j]
    by_cases e : j = i
    · subst e
      rw [if_pos rfl, List.getElem?_set, if_pos rfl, if_pos hi]
      exact ⟨fun h => ⟨t', rfl, h⟩, fun ⟨u, hu, h⟩ => by cases hu; exact h⟩
    · rw [if_neg e, List.getElem?_set, if_neg (fun h => e h.symm)]
      exact a.rdy j
  · rcases List.mem_or_eq_of_mem_set hu with h | rfl
    · exact a.sts u h
    · exact h3
  · rcases hr j hj with ⟨rfl, h2⟩ | ⟨hne, h2⟩
    · exact ⟨t', by rw [List.getElem?_set, if_pos rfl, if_pos hi], h2⟩
    · obtain ⟨u, hu, h4⟩ := a.run1 j h2
      exact ⟨u, by rw [List.getElem?_set, if_neg (fun h => hne h.symm)]; exact hu, h4⟩
theorem AOkR.note {S : AS} {run : Option Nat} (a : AOkR S run) (i : Nat) (x y : Int) : AOkR (S.note i x y) run := ⟨a.nd, a.rdy, a.nn, a.few, a.sts, a.run1⟩
theorem AOkR.notIn {S : AS} {run : Option Nat} (a : AOkR S run) {i : Nat} {t : AT} (ht : S.tasks[i]? = some t) (h : t.st ≠ 1) : (i : Int) ∉ S.line := fun hm => by
  obtain ⟨u, hu, h1⟩ := (a.rdy i).1 hm
  rw [ht] at hu; cases hu; exact h h1
theorem AOkR.push {S : AS} {run : Option Nat} (a : AOkR S run) {i : Nat} (h : (i : Int) ∉ S.line) : (S.line ++ [(i : Int)]).Nodup ∧ (∀ x ∈ S.line ++ [(i : Int)], 0 ≤ x) ∧ ∀ j : Nat, ((j : Int) ∈ S.line ++ [(i : Int)] ↔ j = i ∨ (j : Int) ∈ S.line) := by
  refine ⟨?_, fun x hx => ?_, fun j => ?_⟩
  · rw [List.nodup_append]
    exact ⟨a.nd, by simp, fun x hx y hy e => by simp at hy; subst hy; subst e; exact h hx⟩
  · rcases List.mem_append.1 hx with hx | hx
    · exact a.nn x hx
    · simp at hx; omega
  · simp only [List.mem_append, List.mem_singleton]
    constructor
    · rintro (h | h)
      · exact .inr h
      · exact .inl (by omega)
    · rintro (rfl | h)
      · exact .inr rfl
      · exact .inl h
end Go.Proofs.Ytaeckjhipmcddaa

set_option maxRecDepth 100000
namespace Go.Proofs.Ytaeckjhipmcddaa
open Go Go.Eng
theorem AOkR.ready {S : AS} {i : Nat} (a : AOkR S (some i)) : AOkR (S.ready i) none := by
  obtain ⟨t, ht, h2⟩ := a.run1 i rfl
  have hn := a.notIn ht (by omega)
  obtain ⟨p1, p2, p3⟩ := a.push hn
  have e : S.ready i = { S with tasks := S.tasks.set i { t with st := 1 }, line := S.line ++ [(i : Int)] } := by unfold AS.ready; rw [ht]
  rw [e]
  refine a.change ht (by omega) (by simp) p1 p2 (fun j => ?_) (fun j hj => by cases hj)
  rw [p3 j]
  by_cases h : j = i
  · simp [h]
  · simp [h]
theorem AOkR.stop {S : AS} {i : Nat} {t : AT} (a : AOkR S (some i)) (ht : S.tasks[i]? = some t) (n : Nat) (hn : n = 0 ∨ n = 3) : AOkR (S.setT i { t with st := n }) none := by
  obtain ⟨t', ht', h2⟩ := a.run1 i rfl
  rw [ht] at ht'; cases ht'
  have hni := a.notIn ht (by omega)
  refine a.change (t' := { t with st := n }) (ev' := S.ev) ht (by omega) (by rcases hn with rfl | rfl <;> simp) a.nd a.nn (fun j => ?_) (fun j hj => by cases hj)
  by_cases h : j = i
  · subst h
    rw [if_pos rfl]
    exact ⟨fun h => absurd h hni, fun h => by rcases hn with rfl | rfl <;> cases h⟩
  · rw [if_neg h]
theorem AOkR.wake {S : AS} {run : Option Nat} (a : AOkR S run) (id why : Int) : AOkR (S.wake id why).1 run := by
  unfold AS.wake
  split
  · rename_i h0
    split
    · rename_i t ht
      split
      · rename_i h3
        have hn := a.notIn ht (by omega)
        rw [Int.toNat_of_nonneg h0] at hn
        have e : ((id.toNat : Nat) : Int) = id := Int.toNat_of_nonneg h0
        obtain ⟨p1, p2, p3⟩ := a.push (i := id.toNat) (by rw [e]; exact hn)
        rw [e] at p1 p2 p3
        refine a.change (t' := { t with st := 1, why := why }) (ev' := S.ev) ht (by omega) (by simp) p1 p2 (fun j => ?_) (fun j hj => ?_)
        · rw [p3 j]
          by_cases h : j = id.toNat
          · simp [h]
          · simp [h]
        · refine .inr ⟨fun h => ?_, hj⟩
          subst h
          obtain ⟨u, hu, h2⟩ := a.run1 _ hj
          rw [ht] at hu; cases hu; omega
      · exact a
    · exact a
  · exact a
theorem AOkR.spawn {S : AS} {run : Option Nat} (a : AOkR S run) (prog : Nat) : AOkR (S.spawn prog).1 run := by
  unfold AS.spawn
  split
  · exact a
  · rename_i hf
    have hn : ((S.tasks.length : Nat) : Int) ∉ S.line := fun h => by
      obtain ⟨t, ht, _⟩ := (a.rdy _).1 h
      have := (List.getElem?_eq_some_iff.1 ht).1
      omega
    obtain ⟨p1, p2, p3⟩ := a.push hn
    refine ⟨p1, fun j => ?_, p2, ?_, fun t ht => ?_, fun j hj => ?_⟩
    · rw [p3 j]
      by_cases h : j < S.tasks.length
      · rw [List.getElem?_append_left h]
        rw [← a.rdy j]
        exact ⟨fun h' => by rcases h' with rfl | h'; omega; exact h', .inr⟩
      · by_cases h' : j = S.tasks.length
        · subst h'
          simp
        · rw [List.getElem?_eq_none (by simp; omega)]
          constructor
          · rintro (h1 | h1)
            · exact absurd h1 h'
            · obtain ⟨t, ht, _⟩ := (a.rdy j).1 h1
              have := (List.getElem?_eq_some_iff.1 ht).1
              omega
          · rintro ⟨t, ht, _⟩
            cases ht
    · have := a.few
      unfold openA at *
      rw [List.filter_append, List.length_append]
      have h1 : (List.filter (fun t : AT => decide (t.st ≠ 0)) [⟨prog, 0, 0, 1⟩]).length = 1 := rfl
      omega
    · rcases List.mem_append.1 ht with h | h
      · exact a.sts t h
      · simp at h; subst h; simp
    · obtain ⟨t, ht, h2⟩ := a.run1 j hj
      exact ⟨t, by rw [List.getElem?_append_left (List.getElem?_eq_some_iff.1 ht).1]; exact ht, h2⟩
end Go.Proofs.Ytaeckjhipmcddaa

set_option maxRecDepth 100000
namespace Go.Proofs.Ytaeckjhipmcddaa
open Go Go.Eng
/-- the law's world as the plain machine's state -/
def Wst (X K : Nat → Prop) (w : World) (wb rb : Nat) (vp : Value) (now : Option Nat) (rest : Int) (run : Option Nat) (ts : List (Nat × TK)) (S : AS) : Prop :=
  ∃ sb qb lv tv wt we, Lw X K w wb rb sb qb lv tv wt we vp now rest S.line ts S.ev ∧ TsOk w.heap K wb run ts S.tasks
theorem open_eq {h : Array Obj} {K : Nat → Prop} {wb : Nat} {run : Option Nat} {ts : List (Nat × TK)} {al : List AT} (T : TsOk h K wb run ts al) (hr : ∀ i x a, run = some i → ts[i]? = some x → al[i]? = some a → x.2.over = decide (a.st = 0)) : openIn ts ts.length = openA al := by
  have hall : ∀ (i : Nat) x a, ts[i]? = some x → al[i]? = some a → x.2.over = decide (a.st = 0) := fun i x a hx ha => by
    by_cases e : some i = run
    · exact hr i x a e.symm hx ha
    · exact (T.2 i x a e hx ha).over
  have hl := T.1
  clear T hr
  unfold openIn openA
  rw [List.take_length]
  induction ts generalizing al with
  | nil => cases al with
    | nil => rfl
    | cons a al => cases hl
  | cons x ts ih => cases al with
    | nil => cases hl
    | cons a al =>
      have h0 := hall 0 x a rfl rfl
      have := ih (al := al) (fun i y b hy hb => hall (i + 1) y b hy hb) (by simpa using hl)
      simp only [List.filter_cons]
      by_cases e : a.st = 0 <;> simp [h0, e, this]
theorem readyL_push {l : List Int} {i : Nat} (h : (i : Int) ∉ l) (hl : l.length < 256) : readyL l i = l ++ [(i : Int)] := by
  unfold readyL
  rw [if_neg (by omega), if_neg h, if_neg (by omega)]
theorem w_yield {X K : Nat → Prop} {w : World} {wb rb sb qb : Nat} {lv tv wt we vp : Value} {rest : Int} {ts : List (Nat × TK)} {S : AS} {i : Nat} {x : Nat × TK} (hx : ts[i]? = some x) (s : Lw X K w wb rb sb qb lv tv wt we vp (some x.1) rest S.line ts S.ev) (T : TsOk w.heap K wb (some i) ts S.tasks) (a : AOkR S (some i))
    (h1 : x.2.said = false) (h2 : x.2.parked = false) (h3 : x.2.over = false) {prog pos wx tx px ax : Nat} (B : Bxs w.heap K wb x.1 prog wx tx px) (A : Bxi w.heap K ax pos) (hta : S.tasks[i]? = some ⟨prog, pos + 1, 0, 2⟩) :
    Rets Try.prog 45 #[.pointer (some ⟨x.1, 0, none⟩), .func (.func 84) #[] #[pt wx, pt tx, pt px, pt ax]] w fun u w' => u = .int .i64 0 ∧ ∃ ts' y, Wst X K w' wb rb vp (some x.1) rest none ts' (S.ready i) ∧ ts'[i]? = some (x.1, y) ∧ y.said = true ∧ y.over = false ∧ Fr (LF X K) w w' := by
  have hlen := a.len
  have hfew := a.few
  simp only [Option.isSome_some, if_true] at hlen
  have hni := a.notIn hta (by simp)
  have hm : mayE false (some x.1) x = 0 := by unfold mayE; rw [if_neg (by simp), if_pos rfl, h1]; rfl
  refine (t_yield s.rt hx 84 #[pt wx, pt tx, pt px, pt ax] (by omega)).mono fun u w' ⟨hu, h⟩ => ?_
  rw [hm] at hu h
  rcases h with ⟨h, _⟩ | ⟨_, lv', R, hf⟩
  · exact absurd rfl h
  rw [readyL_push hni (by omega)] at R
  obtain ⟨L, F⟩ := s.call (K' := K) hf (fun k hk => .inl hk) R (set_fst hx)
  have hno : ∀ k, K k → ¬ LF X K k := fun k h h' => h'.2 h
  have T' := T.fr F hno (fun k h => h)
  have e : S.ready i = { S with tasks := S.tasks.set i ⟨prog, pos + 1, 0, 1⟩, line := S.line ++ [(i : Int)] } := by unfold AS.ready; rw [hta]
  have hi := (List.getElem?_eq_some_iff.1 hx).1
  have T2 : TsOk w'.heap K wb none (ts.set i (x.1, { x.2 with next := ⟨.func (.func 84) #[] #[pt wx, pt tx, pt px, pt ax], rfl⟩, said := true, parked := false })) (S.tasks.set i ⟨prog, pos + 1, 0, 1⟩) := by
    refine ⟨by simp only [List.length_set]; exact T.1, fun j z b _ hz hb => ?_⟩
    rw [List.getElem?_set] at hz hb
    by_cases hji : i = j
    · subst hji
      rw [if_pos rfl, if_pos hi] at hz
      rw [if_pos rfl, if_pos (by rw [← T.1]; exact hi)] at hb
      cases hz; cases hb
      exact ⟨h3, rfl, fun _ => .inr (.inl ⟨wx, tx, px, ax, pos, rfl, B.fr F hno (fun k h => h), A.fr F hno (fun k h => h), rfl, rfl⟩), fun h => by cases h⟩
    · rw [if_neg hji] at hz hb
      exact T'.2 j z b (fun h => hji (Option.some.inj h).symm) hz hb
  exact ⟨hu, ts.set i (x.1, { x.2 with next := ⟨.func (.func 84) #[] #[pt wx, pt tx, pt px, pt ax], rfl⟩, said := true, parked := false }), { x.2 with next := ⟨.func (.func 84) #[] #[pt wx, pt tx, pt px, pt ax], rfl⟩, said := true, parked := false }, ⟨sb, qb, lv', tv, wt, we, by rw [e]; exact L, by rw [e]; exact T2⟩, set_at hx, rfl, h3, F⟩
theorem w_park {X K : Nat → Prop} {w : World} {wb rb sb qb : Nat} {lv tv wt we vp : Value} {rest : Int} {ts : List (Nat × TK)} {S : AS} {i : Nat} {x : Nat × TK} (hx : ts[i]? = some x) (s : Lw X K w wb rb sb qb lv tv wt we vp (some x.1) rest S.line ts S.ev) (T : TsOk w.heap K wb (some i) ts S.tasks)
    (h1 : x.2.said = false) (h3 : x.2.over = false) {prog pos wx tx px ax : Nat} (B : Bxs w.heap K wb x.1 prog wx tx px) (A : Bxi w.heap K ax pos) (hta : S.tasks[i]? = some ⟨prog, pos + 1, 0, 2⟩) :
    Rets Try.prog 42 #[.pointer (some ⟨x.1, 0, none⟩), .func (.func 85) #[] #[pt wx, pt tx, pt px, pt ax]] w fun u w' => u = .int .i64 0 ∧ ∃ ts' y, Wst X K w' wb rb vp (some x.1) rest none ts' (S.setT i ⟨prog, pos + 1, 0, 3⟩) ∧ ts'[i]? = some (x.1, y) ∧ y.said = true ∧ y.over = false ∧ Fr (LF X K) w w' := by
  have hm : mayE false (some x.1) x = 0 := by unfold mayE; rw [if_neg (by simp), if_pos rfl, h1]; rfl
  refine (t_park s.rt hx 85 #[pt wx, pt tx, pt px, pt ax]).mono fun u w' ⟨hu, h⟩ => ?_
  rw [hm] at hu h
  rcases h with ⟨h, _⟩ | ⟨_, R, hf⟩
  · exact absurd rfl h
  obtain ⟨L, F⟩ := s.call (K' := K) hf (fun k hk => .inl hk) R (set_fst hx)
  have hno : ∀ k, K k → ¬ LF X K k := fun k h h' => h'.2 h
  have T' := T.fr F hno (fun k h => h)
  have hi := (List.getElem?_eq_some_iff.1 hx).1
  have T2 : TsOk w'.heap K wb none (ts.set i (x.1, { x.2 with wake := ⟨.func (.func 85) #[] #[pt wx, pt tx, pt px, pt ax], rfl⟩, said := true, parked := true })) (S.tasks.set i ⟨prog, pos + 1, 0, 3⟩) := by
    refine ⟨by simp only [List.length_set]; exact T.1, fun j z b _ hz hb => ?_⟩
    rw [List.getElem?_set] at hz hb
    by_cases hji : i = j
    · subst hji
      rw [if_pos rfl, if_pos hi] at hz
      rw [if_pos rfl, if_pos (by rw [← T.1]; exact hi)] at hb
      cases hz; cases hb
      exact ⟨h3, rfl, fun h => (by cases h), fun _ => ⟨wx, tx, px, ax, pos, rfl, B.fr F hno (fun k h => h), A.fr F hno (fun k h => h), rfl⟩⟩
    · rw [if_neg hji] at hz hb
      exact T'.2 j z b (fun h => hji (Option.some.inj h).symm) hz hb
  exact ⟨hu, ts.set i (x.1, { x.2 with wake := ⟨.func (.func 85) #[] #[pt wx, pt tx, pt px, pt ax], rfl⟩, said := true, parked := true }), { x.2 with wake := ⟨.func (.func 85) #[] #[pt wx, pt tx, pt px, pt ax], rfl⟩, said := true, parked := true }, ⟨sb, qb, lv, tv, wt, we, L, T2⟩, set_at hx, rfl, h3, F⟩
end Go.Proofs.Ytaeckjhipmcddaa

set_option maxRecDepth 100000
namespace Go.Proofs.Ytaeckjhipmcddaa
open Go Go.Eng
theorem w_wake {X K : Nat → Prop} {w : World} {wb rb sb qb : Nat} {lv tv wt we vp : Value} {now : Option Nat} {rest : Int} {ts : List (Nat × TK)} {S : AS} {run : Option Nat} {j : Nat} {y : Nat × TK} {b : AT} (hy : ts[j]? = some y) (hb : S.tasks[j]? = some b) (why : Int) (s : Lw X K w wb rb sb qb lv tv wt we vp now rest S.line ts S.ev) (T : TsOk w.heap K wb run ts S.tasks) (a : AOkR S run)
    (hp : y.2.parked = decide (b.st = 3)) (ho : y.2.over = decide (b.st = 0)) :
    Rets Try.prog 47 #[.pointer (some ⟨y.1, 0, none⟩), .int .i64 why] w fun u w' => u = .int .i64 (S.wake j why).2 ∧ ∃ K' lv' ts', Lw X K' w' wb rb sb qb lv' tv wt we vp now rest (S.wake j why).1.line ts' (S.wake j why).1.ev ∧ TsOk w'.heap K' wb run ts' (S.wake j why).1.tasks ∧ KX w K K' ∧ Fr (LF X K) w w' ∧ ts'.map (·.1) = ts.map (·.1) ∧ ∀ i, run = some i → ts'[i]? = ts[i]? := by
  have hlen := a.len
  have hfew := a.few
  refine (t_wake s.rt hy why (by omega)).mono fun u w' h => ?_
  have hw : S.wake j why = if b.st = 3 then ({ S with tasks := S.tasks.set j { b with st := 1, why := why }, line := S.line ++ [(j : Int)] }, 0) else (S, 152) := by
    unfold AS.wake
    rw [if_pos (by omega), Int.toNat_natCast, hb]
  rw [hw]
  rcases h with ⟨h1, rfl, hf⟩ | ⟨h1, rfl, lv', fb, yb, g1, g2, b1, b2, hf, R⟩
  · rw [hp] at h1
    rw [if_neg (of_decide_eq_false h1)]
    exact ⟨rfl, K, lv, ts, s.frN hf, T.fr hf (fun _ _ h => h) (fun k h => h), KX.refl _ _, hf.no_any, rfl, fun _ _ => rfl⟩
  · rw [hp] at h1
    have h3 := of_decide_eq_true h1
    rw [if_pos h3]
    have hni := a.notIn hb (by omega)
    have hlt : S.line.length < 256 := by
      have h := (a.wake j why).len
      have h' := (a.wake j why).few
      rw [hw, if_pos h3] at h h'
      have h4 : (S.line ++ [(j : Int)]).length ≤ 256 := Nat.le_trans (Nat.le_trans (Nat.le_add_right _ _) h) h'
      rw [List.length_append, List.length_singleton] at h4
      omega
    rw [readyL_push hni hlt] at R
    have hyj := s.rt.zn
    obtain ⟨L, F⟩ := s.call (K' := fun k => K k ∨ k = fb ∨ k = yb) hf (fun k hk => by
      rcases hk with h | rfl | rfl
      · exact .inl h
      · exact .inr g1
      · exact .inr g2) (R.re (fun k hk => by
      rcases hk with h | (h | h) | h
      · exact .inl (.inl h)
      · exact .inl (.inr (.inl h))
      · exact .inr h
      · exact .inl (.inr (.inr h)))) (set_fst hy)
    have hno : ∀ k, K k → ¬ LF X K k := fun k h h' => h'.2 h
    have hKK : ∀ k, K k → (K k ∨ k = fb ∨ k = yb) := fun k h => .inl h
    have T' := T.fr F hno hKK
    have hj := (List.getElem?_eq_some_iff.1 hy).1
    have hjr : run ≠ some j := fun e => by
      obtain ⟨t, ht, h2⟩ := a.run1 j e
      rw [hb] at ht; cases ht; omega
    have W := ((T.2 j y b (fun e => hjr e.symm) hy hb).wk h3).fr F hno hKK
    refine ⟨rfl, fun k => K k ∨ k = fb ∨ k = yb, lv', _, L, ?_, ⟨hKK, fun k hk => by
      rcases hk with h | rfl | rfl
      · exact .inl h
      · exact .inr g1
      · exact .inr g2⟩, F, set_fst hy, fun i hi => ?_⟩
    · refine ⟨by simp only [List.length_set]; exact T.1, fun n z c hr hz hc => ?_⟩
      rw [List.getElem?_set] at hz hc
      by_cases hjn : j = n
      · subst hjn
        rw [if_pos rfl, if_pos hj] at hz
        rw [if_pos rfl, if_pos (by rw [← T.1]; exact hj)] at hc
        cases hz; cases hc
        refine ⟨?_, rfl, fun _ => .inr (.inr ⟨fb, yb, y.2.wake.1, rfl, .inr (.inl rfl), b1, W, ⟨.inr (.inr rfl), b2⟩⟩), fun h => (by cases h)⟩
        show y.2.over = _
        rw [ho, decide_eq_false (by omega)]; rfl
      · rw [if_neg hjn] at hz hc
        exact T'.2 n z c hr hz hc
    · rw [List.getElem?_set, if_neg (fun e => hjr (by rw [hi, e]))]
end Go.Proofs.Ytaeckjhipmcddaa

set_option maxRecDepth 100000
namespace Go.Proofs.Ytaeckjhipmcddaa
open Go Go.Eng
section
variable {P : Program} {n : Nat} {e : Env} {w : World} {Q : Post}
/-- two ways that meet: what the slots of mm hold is forgotten -/
theorem vC_meet {x : Code} (mm : Nat) (R : World → Prop) (h : vC P n x e w (fun r e' w' => r = .normal ∧ Same mm e e' ∧ R w')) (k : ∀ junk w', R w' → Q .normal (mask mm junk e) w') : vC P n x e w Q :=
  vC_mono h fun r e' w' hx => by
    obtain ⟨rfl, hs, hR⟩ := hx
    have := k e' w' hR
    rwa [mask_same mm e e' hs] at this
end
theorem TsOk.all {h : Array Obj} {K : Nat → Prop} {wb : Nat} {run : Option Nat} {ts : List (Nat × TK)} {al : List AT} (T : TsOk h K wb none ts al) : TsOk h K wb run ts al := ⟨T.1, fun i x a _ hx ha => T.2 i x a (by simp) hx ha⟩
/-- what a turn leaves behind -/
structure Turned (X K : Nat → Prop) (w w' : World) (wb rb : Nat) (vp : Value) (i tb : Nat) (S : AS) : Prop where
  fr : Fr (LF X K) w w'
  ok : ∃ K' rest ts' y, Wst X K' w' wb rb vp (some tb) rest (some i) ts' S ∧ ts'[i]? = some (tb, y) ∧ KX w K K' ∧ y.over = false ∧ ∃ a, S.tasks[i]? = some a ∧ ((a.st = 0 ∧ y.said = false ∧ y.parked = false) ∨ (y.said = true ∧ TkOk w'.heap K' wb (tb, y) a))
theorem Turned.none {X K K' : Nat → Prop} {w w' : World} {wb rb : Nat} {vp : Value} {i tb : Nat} {S : AS} {rest : Int} {ts' : List (Nat × TK)} {y : TK} (fr : Fr (LF X K) w w') (W : Wst X K' w' wb rb vp (some tb) rest none ts' S) (hy : ts'[i]? = some (tb, y)) (hK : KX w K K') (h1 : y.said = true) (h2 : y.over = false) : Turned X K w w' wb rb vp i tb S := by
  obtain ⟨sb, qb, lv, tv, wt, we, L, T⟩ := W
  have hi := (List.getElem?_eq_some_iff.1 hy).1
  rw [T.1] at hi
  exact ⟨fr, K', rest, ts', y, ⟨sb, qb, lv, tv, wt, we, L, T.all⟩, hy, hK, h2, S.tasks[i], List.getElem?_eq_getElem hi, .inr ⟨h1, T.2 i _ _ (by simp) hy (List.getElem?_eq_getElem hi)⟩⟩
/-- the programs, which the law does not write to -/
structure Pz (X : Nat → Prop) (h : Array Obj) (vp : Value) (P : List (OV × List (Int × Int × Int))) : Prop where
  hP : Rd h 1 oE vp P
  hPi : ∀ y ∈ P, Rd h 3 eE y.1.1 y.2
  xp : ∀ b, own vp = some b → P ≠ [] → X b
  xi : ∀ y ∈ P, ∀ b, own y.1.1 = some b → y.2 ≠ [] → X b
theorem _root_.Go.Eng.Rd.frE {α : Type} {F : Nat → Prop} {w w' : World} {sz : Nat} {enc : α → List Value} {v : Value} {xs : List α} (r : Rd w.heap sz enc v xs) (hf : Fr F w w') (hn : ∀ b, own v = some b → xs ≠ [] → ¬ F b) : Rd w'.heap sz enc v xs := by
  cases xs with
  | nil => exact ⟨r.shape, r.small, r.size, fun i x hx => by simp at hx⟩
  | cons x xs => exact r.fr hf (fun b hb => hn b hb (by simp))
theorem _root_.Go.Eng.Rd.lt {α : Type} {h : Array Obj} {sz : Nat} {enc : α → List Value} {v : Value} {xs : List α} (r : Rd h sz enc v xs) (hz : 0 < sz) : ∀ b, own v = some b → xs ≠ [] → b < h.size := fun b hb hne => by
  obtain ⟨x, l, rfl⟩ := List.exists_cons_of_ne_nil hne
  obtain ⟨c, hv⟩ := r.ptr (by simp)
  have hl := r.size x (by simp)
  obtain ⟨u, hu⟩ : ∃ u, (enc x)[0]? = some u := ⟨(enc x)[0]'(by omega), List.getElem?_eq_getElem _⟩
  have := (r.cells 0 x rfl 0 u hu).lt
  rw [hv] at hb
  cases hb
  exact this
theorem Pz.frF {X F : Nat → Prop} {w w' : World} {vp : Value} {P : List (OV × List (Int × Int × Int))} (z : Pz X w.heap vp P) (hf : Fr F w w') (hF : ∀ k, X k → ¬ F k) : Pz X w'.heap vp P :=
  ⟨z.hP.frE hf (fun b hb hne => hF b (z.xp b hb hne)), fun y hy => (z.hPi y hy).frE hf (fun b hb hne => hF b (z.xi y hy b hb hne)), z.xp, z.xi⟩
theorem Pz.fr {X K : Nat → Prop} {w w' : World} {vp : Value} {P : List (OV × List (Int × Int × Int))} (z : Pz X w.heap vp P) (hf : Fr (LF X K) w w') : Pz X w'.heap vp P := z.frF hf (fun k h h' => h'.1 h)
theorem Pz.frN {X : Nat → Prop} {w w' : World} {vp : Value} {P : List (OV × List (Int × Int × Int))} (z : Pz X w.heap vp P) (hf : Fr No w w') : Pz X w'.heap vp P := z.frF hf (fun _ _ h => h)
/-- what a turn has about it -/
structure Tn (X K : Nat → Prop) (w : World) (wb rb sb qb : Nat) (lv tv wt we vp : Value) (rest : Int) (run : Option Nat) (ts : List (Nat × TK)) (S : AS) (tb wx tx px ax db prog pos : Nat) (dd : Int × Int × Int) : Prop where
  L : Lw X K w wb rb sb qb lv tv wt we vp (some tb) rest S.line ts S.ev
  T : TsOk w.heap K wb run ts S.tasks
  B : Bxs w.heap K wb tb prog wx tx px
  I : Bxi w.heap K ax pos
  kd : K db
  d : Blk w.heap db (eE dd) 90
section
variable {X K : Nat → Prop} {w w' : World} {wb rb sb qb : Nat} {lv tv wt we vp : Value} {rest : Int} {run : Option Nat} {ts : List (Nat × TK)} {S : AS} {tb wx tx px ax db prog pos : Nat} {dd : Int × Int × Int}
theorem Tn.frN (t : Tn X K w wb rb sb qb lv tv wt we vp rest run ts S tb wx tx px ax db prog pos dd) (hf : Fr No w w') : Tn X K w' wb rb sb qb lv tv wt we vp rest run ts S tb wx tx px ax db prog pos dd :=
  ⟨t.L.frN hf, t.T.fr hf (fun _ _ h => h) (fun _ h => h), t.B.fr hf (fun _ _ h => h) (fun _ h => h), t.I.fr hf (fun _ _ h => h) (fun _ h => h), t.kd, t.d.frN hf⟩
theorem Tn.move {K' : Nat → Prop} {sb' qb' : Nat} {lv' tv' wt' we' : Value} {rest' : Int} {run' : Option Nat} {ts' : List (Nat × TK)} {S' : AS} (t : Tn X K w wb rb sb qb lv tv wt we vp rest run ts S tb wx tx px ax db prog pos dd) (hf : Fr (LF X K) w w') (hK : ∀ k, K k → K' k)
    (L : Lw X K' w' wb rb sb' qb' lv' tv' wt' we' vp (some tb) rest' S'.line ts' S'.ev) (T : TsOk w'.heap K' wb run' ts' S'.tasks) : Tn X K' w' wb rb sb' qb' lv' tv' wt' we' vp rest' run' ts' S' tb wx tx px ax db prog pos dd :=
  have hno : ∀ k, K k → ¬ LF X K k := fun k h h' => h'.2 h
  ⟨L, T, t.B.fr hf hno hK, t.I.fr hf hno hK, hK _ t.kd, t.d.fr hf (hno _ t.kd)⟩
theorem tn_note (t : Tn X K w wb rb sb qb lv tv wt we vp rest run ts S tb wx tx px ax db prog pos dd) (i : Nat) (b c : Int) (hl : S.ev.length ≤ 1000000) :
    Rets Try.prog 83 #[pt wb, .int .i64 i, .int .i64 b, .int .i64 c] w fun _ w' => ∃ we', Tn X K w' wb rb sb qb lv tv wt we' vp rest run ts (S.note i b c) tb wx tx px ax db prog pos dd ∧ Fr (LF X K) w w' :=
  (w_note t.L i b c hl).mono fun _ _ ⟨we', L, F⟩ => ⟨we', t.move (S' := S.note i b c) F (fun _ h => h) L (t.T.fr F (fun _ h h' => h'.2 h) (fun _ h => h)), F⟩
theorem tn_yield {i : Nat} {x : Nat × TK} (t : Tn X K w wb rb sb qb lv tv wt we vp rest (some i) ts S x.1 wx tx px ax db prog pos dd) (hx : ts[i]? = some x) (a : AOkR S (some i)) (h1 : x.2.said = false) (h2 : x.2.parked = false) (h3 : x.2.over = false) (hta : S.tasks[i]? = some ⟨prog, pos + 1, 0, 2⟩) :
    Rets Try.prog 45 #[pt x.1, .func (.func 84) #[] #[pt wx, pt tx, pt px, pt ax]] w fun u w' => u = .int .i64 0 ∧ ∃ sb qb lv tv wt we ts' y, Tn X K w' wb rb sb qb lv tv wt we vp rest none ts' (S.ready i) x.1 wx tx px ax db prog pos dd ∧ ts'[i]? = some (x.1, y) ∧ y.said = true ∧ y.over = false ∧ Fr (LF X K) w w' :=
  (w_yield hx t.L t.T a h1 h2 h3 t.B t.I hta).mono fun _ _ ⟨hu, ts', y, ⟨sb, qb, lv, tv, wt, we, L, T⟩, hy, y1, y2, F⟩ => ⟨hu, sb, qb, lv, tv, wt, we, ts', y, t.move F (fun _ h => h) L T, hy, y1, y2, F⟩
theorem tn_park {i : Nat} {x : Nat × TK} (t : Tn X K w wb rb sb qb lv tv wt we vp rest (some i) ts S x.1 wx tx px ax db prog pos dd) (hx : ts[i]? = some x) (h1 : x.2.said = false) (h3 : x.2.over = false) (hta : S.tasks[i]? = some ⟨prog, pos + 1, 0, 2⟩) :
    Rets Try.prog 42 #[pt x.1, .func (.func 85) #[] #[pt wx, pt tx, pt px, pt ax]] w fun u w' => u = .int .i64 0 ∧ ∃ sb qb lv tv wt we ts' y, Tn X K w' wb rb sb qb lv tv wt we vp rest none ts' (S.setT i ⟨prog, pos + 1, 0, 3⟩) x.1 wx tx px ax db prog pos dd ∧ ts'[i]? = some (x.1, y) ∧ y.said = true ∧ y.over = false ∧ Fr (LF X K) w w' :=
  (w_park hx t.L t.T h1 h3 t.B t.I hta).mono fun _ _ ⟨hu, ts', y, ⟨sb, qb, lv, tv, wt, we, L, T⟩, hy, y1, y2, F⟩ => ⟨hu, sb, qb, lv, tv, wt, we, ts', y, t.move F (fun _ h => h) L T, hy, y1, y2, F⟩
theorem tn_wake {j : Nat} {y : Nat × TK} {b : AT} (t : Tn X K w wb rb sb qb lv tv wt we vp rest run ts S tb wx tx px ax db prog pos dd) (hy : ts[j]? = some y) (hb : S.tasks[j]? = some b) (why : Int) (a : AOkR S run) (hp : y.2.parked = decide (b.st = 3)) (ho : y.2.over = decide (b.st = 0)) :
    Rets Try.prog 47 #[pt y.1, .int .i64 why] w fun u w' => u = .int .i64 (S.wake j why).2 ∧ ∃ K' lv' ts', Tn X K' w' wb rb sb qb lv' tv wt we vp rest run ts' (S.wake j why).1 tb wx tx px ax db prog pos dd ∧ KX w K K' ∧ Fr (LF X K) w w' ∧ ts'.map (·.1) = ts.map (·.1) ∧ ∀ i, run = some i → ts'[i]? = ts[i]? :=
  (w_wake hy hb why t.L t.T a hp ho).mono fun _ _ ⟨hu, K', lv', ts', L, T, hK, F, hm, hr⟩ => ⟨hu, K', lv', ts', t.move F hK.1 L T, hK, F, hm, hr⟩
theorem tn_spawn (t : Tn X K w wb rb sb qb lv tv wt we vp rest run ts S tb wx tx px ax db prog pos dd) (a : AOkR S run) (pg : Nat) (hlt : ts.length ≤ 1000000) (hrun : ∀ i x, run = some i → ts[i]? = some x → x.2.over = false) :
    Rets Try.prog 24 #[pt wb, .int .i64 pg] w fun u w' => u = .int .i64 (S.spawn pg).2 ∧ ∃ K' lv' tv' wt' ts', Tn X K' w' wb rb sb qb lv' tv' wt' we vp rest run ts' (S.spawn pg).1 tb wx tx px ax db prog pos dd ∧ KX w K K' ∧ Fr (LF X K) w w' ∧ ∀ i, i < ts.length → ts'[i]? = ts[i]? := by
  have hlen := a.len
  have hfew := a.few
  have hopen := open_eq t.T (fun i x b hi hx hb => by
    obtain ⟨u, hu, h2⟩ := a.run1 i hi
    rw [hb] at hu; cases hu
    rw [hrun i x hi hx, h2]; rfl)
  refine (w_spawn t.L t.T pg (by omega) hlt (fun i hi => ?_)).mono fun u w' h => ?_
  · obtain ⟨u, hu, _⟩ := a.run1 i hi
    rw [t.T.1]
    exact (List.getElem?_eq_some_iff.1 hu).1
  rw [hopen] at h
  unfold AS.spawn
  rcases h with ⟨h1, rfl, hf⟩ | ⟨h1, rfl, K', lv', tv', wt', y, L, T, hK, F⟩
  · rw [if_pos (by omega)]
    exact ⟨rfl, K, lv, tv, wt, ts, t.frN hf, KX.refl _ _, hf.no_any, fun _ _ => rfl⟩
  · rw [if_neg (by omega)]
    have hni : ((S.tasks.length : Nat) : Int) ∉ S.line := fun h => by
      obtain ⟨u, hu, _⟩ := (a.rdy _).1 h
      have := (List.getElem?_eq_some_iff.1 hu).1
      omega
    rw [t.T.1, readyL_push hni (by omega)] at L
    exact ⟨rfl, K', lv', tv', wt', ts ++ [y], t.move (S' := { S with tasks := S.tasks ++ [⟨pg, 0, 0, 1⟩], line := S.line ++ [(S.tasks.length : Int)] }) F hK.1 L T, hK, F, fun i hi => List.getElem?_append_left hi⟩
theorem tn_choice (t : Tn X K w wb rb sb qb lv tv wt we vp rest run ts S tb wx tx px ax db prog pos dd) (n : Int) (hrest : 0 ≤ rest ∧ rest ≤ 18446744073709551615) (hn : n ≤ 9223372036854775807) :
    Rets Try.prog 52 #[pt rb, .int .i64 n] w fun u w' => u = .int .i64 (if 0 < n then rest % n else 0) ∧ ∃ rest', Tn X K w' wb rb sb qb lv tv wt we vp rest' run ts S tb wx tx px ax db prog pos dd ∧ Fr (LF X K) w w' := by
  refine (r_choice t.L.rt n hrest hn).mono fun u w' h => ?_
  rcases h with ⟨h1, rfl, rfl⟩ | ⟨_, h1, rfl, R, hf⟩
  · rw [if_neg (by rcases h1 with h | h; cases h; omega)]
    exact ⟨rfl, rest, t, Fr.refl _ _⟩
  · rw [if_pos h1]
    obtain ⟨L, F⟩ := t.L.call (K' := K) hf (fun _ h => .inl h) R rfl
    exact ⟨rfl, rest / n, t.move F (fun _ h => h) L (t.T.fr F (fun _ h h' => h'.2 h) (fun _ h => h)), F⟩
theorem Tn.turned {K0 : Nat → Prop} {w0 : World} {i : Nat} {y : TK} (t : Tn X K w wb rb sb qb lv tv wt we vp rest none ts S tb wx tx px ax db prog pos dd) (fr : Fr (LF X K0) w0 w) (hy : ts[i]? = some (tb, y)) (hK : KX w0 K0 K) (h1 : y.said = true) (h2 : y.over = false) : Turned X K0 w0 w wb rb vp i tb S :=
  Turned.none fr ⟨sb, qb, lv, tv, wt, we, t.L, t.T⟩ hy hK h1 h2
theorem Tn.over {K0 : Nat → Prop} {w0 : World} {i : Nat} {y : TK} {b : AT} (t : Tn X K w wb rb sb qb lv tv wt we vp rest (some i) ts S tb wx tx px ax db prog pos dd) (fr : Fr (LF X K0) w0 w) (hy : ts[i]? = some (tb, y)) (hK : KX w0 K0 K) (h1 : y.said = false) (h2 : y.over = false) (h3 : y.parked = false) (hb : S.tasks[i]? = some b) : Turned X K0 w0 w wb rb vp i tb (S.setT i { b with st := 0 }) := by
  have hi := (List.getElem?_eq_some_iff.1 hb).1
  refine ⟨fr, K, rest, ts, y, ⟨sb, qb, lv, tv, wt, we, t.L, ?_⟩, hy, hK, h2, { b with st := 0 }, ?_, .inl ⟨rfl, h1, h3⟩⟩
  · refine ⟨by show _ = (S.tasks.set i _).length; rw [List.length_set]; exact t.T.1, fun j z c hr hz hc => ?_⟩
    have hc' : (S.tasks.set i { b with st := 0 })[j]? = some c := hc
    rw [List.getElem?_set, if_neg (fun e => hr (by rw [e]))] at hc'
    exact t.T.2 j z c hr hz hc'
  · show (S.tasks.set i _)[i]? = _
    rw [List.getElem?_set, if_pos rfl, if_pos hi]
end
end Go.Proofs.Ytaeckjhipmcddaa

set_option maxRecDepth 100000
namespace Go.Proofs.Ytaeckjhipmcddaa
open Go Go.Eng
theorem wake_keep {S : AS} {i : Nat} {t : AT} (h : S.tasks[i]? = some t) (h3 : t.st ≠ 3) (id why : Int) : (S.wake id why).1.tasks[i]? = some t ∧ (S.wake id why).1.ev = S.ev := by
  unfold AS.wake
  split
  · split
    · rename_i u hu
      split
      · rename_i e3
        refine ⟨?_, rfl⟩
        show (S.tasks.set _ _)[i]? = _
        rw [List.getElem?_set, if_neg (fun e => by subst e; rw [h] at hu; cases hu; exact h3 e3)]
        exact h
      · exact ⟨h, rfl⟩
    · exact ⟨h, rfl⟩
  · exact ⟨h, rfl⟩
theorem spawn_keep {S : AS} {i : Nat} {t : AT} (h : S.tasks[i]? = some t) (p : Nat) : (S.spawn p).1.tasks[i]? = some t ∧ (S.spawn p).1.ev = S.ev := by
  unfold AS.spawn
  split
  · exact ⟨h, rfl⟩
  · exact ⟨by show (S.tasks ++ _)[i]? = _; rw [List.getElem?_append_left (List.getElem?_eq_some_iff.1 h).1]; exact h, rfl⟩
theorem tn_again {X K : Nat → Prop} {w : World} {wb rb sb qb : Nat} {lv tv wt we vp : Value} {rest : Int} {ts : List (Nat × TK)} {S : AS} {tb wx tx px ax db prog pos : Nat} {dd : Int × Int × Int} {i : Nat} {y : TK} (t : Tn X K w wb rb sb qb lv tv wt we vp rest none ts S tb wx tx px ax db prog pos dd) (hy : ts[i]? = some (tb, y)) (h1 : y.said = true) (a : AOkR S none) (f : FuncId) (cap : Array Value) :
    Rets Try.prog 45 #[pt tb, .func (.func f) #[] cap] w fun u w' => w = w' ∧ u = .int .i64 151 := by
  have hlen := a.len
  have hfew := a.few
  have hm : mayE false (some tb) (tb, y) = 151 := by unfold mayE; rw [if_neg (by simp), if_pos rfl, h1]; rfl
  refine (t_yield t.L.rt hy f cap (by omega)).mono fun u w' ⟨hu, h⟩ => ?_
  rw [hm] at hu h
  rcases h with ⟨_, h⟩ | ⟨h, _⟩
  · exact ⟨h, hu⟩
  · cases h
theorem w_turn {X K : Nat → Prop} {w : World} {wb rb sb qb : Nat} {lv tv wt we vp : Value} {rest : Int} {ts : List (Nat × TK)} {S : AS} {i : Nat} {x : Nat × TK} (P : List (OV × List (Int × Int × Int))) (z : Pz X w.heap vp P)
    (hx : ts[i]? = some x) (s : Lw X K w wb rb sb qb lv tv wt we vp (some x.1) rest S.line ts S.ev) (T : TsOk w.heap K wb (some i) ts S.tasks) (a : AOkR S (some i)) (h1 : x.2.said = false) (h2 : x.2.parked = false) (h3 : x.2.over = false) {prog pos : Nat} (why : Int)
    (hta : S.tasks[i]? = some ⟨prog, pos + 1, 0, 2⟩) (hprog : prog < P.length) (hP6 : P.length ≤ 6) (hPb : ∀ y ∈ P, ∀ q ∈ y.2, q.2.1 ≤ 9223372036854775807) (hev : S.ev.length ≤ 100000) (htl : ts.length ≤ 100000) (hpos : pos ≤ 100000) (hrest : 0 ≤ rest ∧ rest ≤ 18446744073709551615) :
    Rets Try.prog 64 #[pt wb, pt x.1, .int .i64 prog, .int .i64 pos, .int .i64 why] w fun _ w' => Turned X K w w' wb rb vp i x.1 (AS.act (P.map (·.2)) (S.note i pos why) i rest (doAt (P.map (·.2)) prog pos)) := by
  obtain ⟨va, vc, rfl⟩ := z.hP.len
  refine rets_of Try.func64 rfl Try.ntmps64 rfl rfl (by kernel_rfl) ?_
  (apply vC_seq; apply vC_region; (iterate 4 (((apply vL_val); (case h => ((apply opw_box1); (first | exact norm_eq rfl | ((conv => lhs; whnf) <;> exact rfl)); (first | rfl | assumption)))))); apply vL_nil; apply seqP_normal; apply vC_seq; apply vC_region; ((apply vL_val); (case h => ((apply opv_loadb1); exact rfl; exact rfl; (first | assumption | infer_instance); exact rfl))))
  refine vL_gen (fun w' => Fr No w w' ∧ w'.heap.size = w.heap.size + 4 ∧ Blk w'.heap w.heap.size [pt wb] 54 ∧ Blk w'.heap (w.alloc (.cells #[pt wb] 54)).heap.size [pt x.1] 64 ∧ Blk w'.heap ((w.alloc (.cells #[pt wb] 54)).alloc (.cells #[pt x.1] 64)).heap.size [.int .i64 prog] 3 ∧ Blk w'.heap (((w.alloc (.cells #[pt wb] 54)).alloc (.cells #[pt x.1] 64)).alloc (.cells #[.int .i64 prog] 3)).heap.size [.int .i64 pos] 3) ⟨by (repeat (first | exact Fr.refl _ _ | assumption | with_reducible apply Fr.allocSet | with_reducible apply Fr.alloc | with_reducible apply Fr.drewN | with_reducible apply Fr.drew | ((with_reducible apply Fr.set); rotate_left; (right; ((try simp only [alloc_size]); omega))) | (refine Fr.trans ?_ (by assumption)))), by simp, inferInstance, inferInstance, inferInstance, inferInstance⟩ ?_
  rintro w1 ⟨hf1, hs1, bw, bt, bp, ba⟩
  have gp : w.heap.size ≤ ((w.alloc (.cells #[pt wb] 54)).alloc (.cells #[pt x.1] 64)).heap.size := by simp only [alloc_size]; omega
  have gt : w.heap.size ≤ (w.alloc (.cells #[pt wb] 54)).heap.size := by simp only [alloc_size]; omega
  have ga : w.heap.size ≤ (((w.alloc (.cells #[pt wb] 54)).alloc (.cells #[pt x.1] 64)).alloc (.cells #[.int .i64 prog] 3)).heap.size := by simp only [alloc_size]; omega
  generalize (((w.alloc (.cells #[pt wb] 54)).alloc (.cells #[pt x.1] 64)).alloc (.cells #[.int .i64 prog] 3)).heap.size = ax at *
  generalize ((w.alloc (.cells #[pt wb] 54)).alloc (.cells #[pt x.1] 64)).heap.size = px at *
  generalize (w.alloc (.cells #[pt wb] 54)).heap.size = tx at *
  obtain ⟨K1, hKd⟩ : ∃ K1 : Nat → Prop, ∀ k, K1 k ↔ (K k ∨ k = w.heap.size ∨ k = tx ∨ k = px ∨ k = ax) := ⟨_, fun _ => Iff.rfl⟩
  have s1 : Lw X K1 w1 wb rb sb qb lv tv wt we (.slice va P.length vc) (some x.1) rest S.line ts S.ev := s.box hf1 (fun k hk => by
    rcases (hKd k).1 hk with h | rfl | rfl | rfl | rfl
    · exact .inl h
    · exact .inr ⟨Nat.le_refl _, bw.lt⟩
    · exact .inr ⟨gt, bt.lt⟩
    · exact .inr ⟨gp, bp.lt⟩
    · exact .inr ⟨ga, ba.lt⟩)
  have hKK : ∀ k, K k → K1 k := fun k h => (hKd k).2 (.inl h)
  have T1 := T.fr (K' := K1) hf1 (fun _ _ h => h) hKK
  have B1 : Bxs w1.heap K1 wb x.1 prog w.heap.size tx px := ⟨(hKd _).2 (.inr (.inl rfl)), (hKd _).2 (.inr (.inr (.inl rfl))), (hKd _).2 (.inr (.inr (.inr (.inl rfl)))), bw, bt, bp⟩
  have I1 : Bxi w1.heap K1 ax pos := ⟨(hKd _).2 (.inr (.inr (.inr (.inr rfl)))), ba⟩
  have z1 := z.frN hf1
  have hb1 := s1.rt.tk i x hx
  have bt1 := B1.bt
  have bw1 := B1.bw
  have bp1 := B1.bp
  have ba1 := I1.b
  skip
  refine vL_callF rfl (t_id hb1) rfl ?_
  rintro _ _ ⟨rfl, rfl⟩
  (((apply vL_val); (case h => ((apply opv_E); exact rfl))); apply vL_nil; apply seqP_normal; apply vC_seq; apply vC_region; ((apply vL_val); (case h => ((apply opv_loadb1); exact rfl; exact rfl; (first | assumption | infer_instance); exact rfl))); ((apply vL_val); (case h => ((apply opv_E); exact rfl))); ((apply vL_val); (case h => ((apply opv_loadb1); exact rfl; exact rfl; (first | assumption | infer_instance); exact rfl))); ((apply vL_val); (case h => ((apply opv_E); exact rfl))))
  refine vL_callF rfl (w_note s1 i pos why (by omega)) rfl ?_
  rintro _ w2 ⟨we2, s2, F2⟩
  have hno : ∀ k, K1 k → ¬ LF X K1 k := fun k h h' => h'.2 h
  have T2 := T1.fr F2 hno (fun k h => h)
  have B2 := B1.fr F2 hno (fun k h => h)
  have I2 := I1.fr F2 hno (fun k h => h)
  have z2 := z1.fr F2
  have bt2 := B2.bt
  have bw2 := B2.bw
  have bp2 := B2.bp
  have ba2 := I2.b
  (apply vL_nil; apply seqP_normal; apply vC_seq; apply vC_region; ((apply vL_val); (case h => ((apply opv_buildS); exact rfl; (first | exact (rfl : _ = some []) | exact (rfl : _ = some [_]) | exact (rfl : _ = some [_, _]) | exact (rfl : _ = some [_, _, _]) | exact (rfl : _ = some [_, _, _, _]) | exact (rfl : _ = some [_, _, _, _, _]) | exact (rfl : _ = some [_, _, _, _, _, _]) | exact (rfl : _ = some [_, _, _, _, _, _, _]) | exact (rfl : _ = some [_, _, _, _, _, _, _, _]) | exact (rfl : _ = some [_, _, _, _, _, _, _, _, _]) | exact (rfl : _ = some [_, _, _, _, _, _, _, _, _, _]) | exact (rfl : _ = some [_, _, _, _, _, _, _, _, _, _, _]) | exact (rfl : _ = some [_, _, _, _, _, _, _, _, _, _, _, _]) | exact (rfl : _ = some [_, _, _, _, _, _, _, _, _, _, _, _, _]) | exact (rfl : _ = some [_, _, _, _, _, _, _, _, _, _, _, _, _, _]) | exact (rfl : _ = some [_, _, _, _, _, _, _, _, _, _, _, _, _, _, _]) | exact (rfl : _ = some [_, _, _, _, _, _, _, _, _, _, _, _, _, _, _, _]))))); ((apply vL_val); (case h => (apply opw_alloc))); ((apply vL_skip); (case h => ((apply ops_storen); (first | exact norm_eq rfl | ((conv => lhs; whnf) <;> exact rfl)); (first | exact norm_eq rfl | ((conv => lhs; whnf) <;> exact rfl)); exact rfl; (first | exact (fun u hu => EncOk.one _ u hu) | (intro u hu; simp at hu; rcases hu with rfl | rfl <;> (first | rfl | assumption))); (first | assumption | infer_instance); (first | decide | exact of_decide_eq_true rfl | (simp; done))))); apply vL_nil; apply seqP_normal; (iterate 2 (apply vC_seq)))
  refine vC_gen (fun w' => Fr No w2 w' ∧ w2.heap.size < w'.heap.size ∧ Blk w'.heap w2.heap.size [.int .i64 0, .int .i64 0, .int .i64 0] 90) ⟨by (repeat (first | exact Fr.refl _ _ | assumption | with_reducible apply Fr.allocSet | with_reducible apply Fr.alloc | with_reducible apply Fr.drewN | with_reducible apply Fr.drew | ((with_reducible apply Fr.set); rotate_left; (right; ((try simp only [alloc_size]); omega))) | (refine Fr.trans ?_ (by assumption)))), by simp, inferInstance⟩ ?_
  rintro w3 ⟨hf3, hlt3, bd3⟩
  have z3 := z2.frN hf3
  obtain ⟨d, hd⟩ : ∃ d, P[prog]? = some d := ⟨P[prog], by simp [hprog]⟩
  have hd' : P[((prog : Nat) : Int).toNat]? = some d := by rw [Int.toNat_natCast]; exact hd
  have hdone := d.1.2
  have hP3 := z3.hP
  have hPd3 := z3.hPi d (List.mem_of_getElem? hd)
  have hPs := hP3.small
  have hPds := hPd3.small
  have hw3 := s2.hw.frN hf3
  have bt3 := B2.bt.frN hf3
  have bw3 := B2.bw.frN hf3
  have bp3 := B2.bp.frN hf3
  have ba3 := I2.b.frN hf3
  have o1 := s2.ow
  have o2 := s2.oe
  have o3 := s2.op
  have hdo : doAt (P.map (·.2)) prog pos = (d.2[pos]?).getD (0, 0, 0) := by unfold doAt; rw [List.getElem?_map, hd]; rfl
  (with_reducible apply vC_drawQ); ((iterate 2 (((apply vQ_op); (case hi => exact rfl); (case hf => kernel_rfl); (case hS => (first | exact Dr.refl _ | assumption | exact ⟨_, rfl⟩)); (case hy => (intro j; ((apply opv_loadb1); exact rfl; exact rfl; (first | assumption | infer_instance); exact rfl)))))); ((apply vQ_op); (case hi => exact rfl); (case hf => kernel_rfl); (case hS => (first | exact Dr.refl _ | assumption | exact ⟨_, rfl⟩)); (case hy => (intro j; ((apply opv_E); exact rfl)))); ((apply vQ_op); (case hi => exact rfl); (case hf => kernel_rfl); (case hS => (first | exact Dr.refl _ | assumption | exact ⟨_, rfl⟩)); (case hy => (intro j; ((apply opv_fieldAddr); exact rfl)))); (iterate 2 (((apply vQ_op); (case hi => exact rfl); (case hf => kernel_rfl); (case hS => (first | exact Dr.refl _ | assumption | exact ⟨_, rfl⟩)); (case hy => (intro j; ((apply opv_loadb1); exact rfl; exact rfl; (first | assumption | infer_instance); exact rfl)))))); ((apply vQ_op); (case hi => exact rfl); (case hf => kernel_rfl); (case hS => (first | exact Dr.refl _ | assumption | exact ⟨_, rfl⟩)); (case hy => (intro j; ((apply opv_indexAddr); (first | exact norm_eq rfl | ((conv => lhs; whnf) <;> exact rfl)); exact rfl; (first | assumption | infer_instance); (first | omega | (simp only [List.length_map]; omega)); (first | omega | (simp only [List.length_map]; omega)))))); ((apply vQ_op); (case hi => exact rfl); (case hf => kernel_rfl); (case hS => (first | exact Dr.refl _ | assumption | exact ⟨_, rfl⟩)); (case hy => (intro j; ((apply opv_ld_el); exact rfl; exact rfl; (first | assumption | infer_instance); assumption; exact rfl)))); ((apply vQ_op); (case hi => exact rfl); (case hf => kernel_rfl); (case hS => (first | exact Dr.refl _ | assumption | exact ⟨_, rfl⟩)); (case hy => (intro j; ((apply opv_len); (first | exact norm_eq rfl | ((conv => lhs; whnf) <;> exact rfl)); (first | assumption | infer_instance))))); ((apply vQ_op); (case hi => exact rfl); (case hf => kernel_rfl); (case hS => (first | exact Dr.refl _ | assumption | exact ⟨_, rfl⟩)); (case hy => (intro j; ((apply opv_E); exact rfl)))); ((apply vQ_end); (case hi => exact rfl); (case hf => kernel_rfl); (case hS => (first | exact Dr.refl _ | assumption | exact ⟨_, rfl⟩))))
  with_reducible apply seqP_normal
  generalize hdd : doAt (P.map (·.2)) prog pos = dd at *
  refine vC_meet 4393751543808 (fun w' => Fr No w2 w' ∧ w2.heap.size < w'.heap.size ∧ Blk w'.heap w2.heap.size (eE dd) 90) ?_ ?_
  · by_cases hpl : pos < d.2.length
    · obtain ⟨q, hq⟩ : ∃ q, d.2[pos]? = some q := ⟨d.2[pos], by simp [hpl]⟩
      have hq' : d.2[((pos : Nat) : Int).toNat]? = some q := by rw [Int.toNat_natCast]; exact hq
      have hdq : dd = q := by rw [hdo, hq]; rfl
      refine vC_condT rfl (decide_eq_true (by omega)) ?_
      have bwq := B2.bw
      have bpq := B2.bp
      have baq := I2.b
      have hwq := s2.hw
      have hPq := z2.hP
      have hPdq := z2.hPi d (List.mem_of_getElem? hd)
      refine vC_draw' (fun wf => Fr No w2 wf) hf3.drew.drew ?_
      ((apply (tk 0)); (case hi => exact rfl); (case hf => kernel_rfl); (case hS => (repeat (first | exact Fr.refl _ _ | assumption | with_reducible apply Fr.allocSet | with_reducible apply Fr.alloc | with_reducible apply Fr.drewN | with_reducible apply Fr.drew | ((with_reducible apply Fr.set); rotate_left; (right; ((try simp only [alloc_size]); omega))) | (refine Fr.trans ?_ (by assumption))))); (case hy => (intro wf hwf; haveI := From.mk hwf; (((apply opv_loadb1); exact rfl; exact rfl; (first | assumption | infer_instance); exact rfl)))))
      ((apply (tk 1)); (case hi => exact rfl); (case hf => kernel_rfl); (case hS => (repeat (first | exact Fr.refl _ _ | assumption | with_reducible apply Fr.allocSet | with_reducible apply Fr.alloc | with_reducible apply Fr.drewN | with_reducible apply Fr.drew | ((with_reducible apply Fr.set); rotate_left; (right; ((try simp only [alloc_size]); omega))) | (refine Fr.trans ?_ (by assumption))))); (case hy => (intro wf hwf; haveI := From.mk hwf; (((apply opv_E); exact rfl)))))
      ((apply (tk 2)); (case hi => exact rfl); (case hf => kernel_rfl); (case hS => (repeat (first | exact Fr.refl _ _ | assumption | with_reducible apply Fr.allocSet | with_reducible apply Fr.alloc | with_reducible apply Fr.drewN | with_reducible apply Fr.drew | ((with_reducible apply Fr.set); rotate_left; (right; ((try simp only [alloc_size]); omega))) | (refine Fr.trans ?_ (by assumption))))); (case hy => (intro wf hwf; haveI := From.mk hwf; (((apply opv_fieldAddr); exact rfl)))))
      ((apply (tk 3)); (case hi => exact rfl); (case hf => kernel_rfl); (case hS => (repeat (first | exact Fr.refl _ _ | assumption | with_reducible apply Fr.allocSet | with_reducible apply Fr.alloc | with_reducible apply Fr.drewN | with_reducible apply Fr.drew | ((with_reducible apply Fr.set); rotate_left; (right; ((try simp only [alloc_size]); omega))) | (refine Fr.trans ?_ (by assumption))))); (case hy => (intro wf hwf; haveI := From.mk hwf; (((apply opv_loadb1); exact rfl; exact rfl; (first | assumption | infer_instance); exact rfl)))))
      ((apply (tk 4)); (case hi => exact rfl); (case hf => kernel_rfl); (case hS => (repeat (first | exact Fr.refl _ _ | assumption | with_reducible apply Fr.allocSet | with_reducible apply Fr.alloc | with_reducible apply Fr.drewN | with_reducible apply Fr.drew | ((with_reducible apply Fr.set); rotate_left; (right; ((try simp only [alloc_size]); omega))) | (refine Fr.trans ?_ (by assumption))))); (case hy => (intro wf hwf; haveI := From.mk hwf; (((apply opv_loadb1); exact rfl; exact rfl; (first | assumption | infer_instance); exact rfl)))))
      ((apply (tk 5)); (case hi => exact rfl); (case hf => kernel_rfl); (case hS => (repeat (first | exact Fr.refl _ _ | assumption | with_reducible apply Fr.allocSet | with_reducible apply Fr.alloc | with_reducible apply Fr.drewN | with_reducible apply Fr.drew | ((with_reducible apply Fr.set); rotate_left; (right; ((try simp only [alloc_size]); omega))) | (refine Fr.trans ?_ (by assumption))))); (case hy => (intro wf hwf; haveI := From.mk hwf; (((apply opv_indexAddr); (first | exact norm_eq rfl | ((conv => lhs; whnf) <;> exact rfl)); exact rfl; (first | assumption | infer_instance); (first | omega | (simp only [List.length_map]; omega)); (first | omega | (simp only [List.length_map]; omega)))))))
      ((apply (tk 6)); (case hi => exact rfl); (case hf => kernel_rfl); (case hS => (repeat (first | exact Fr.refl _ _ | assumption | with_reducible apply Fr.allocSet | with_reducible apply Fr.alloc | with_reducible apply Fr.drewN | with_reducible apply Fr.drew | ((with_reducible apply Fr.set); rotate_left; (right; ((try simp only [alloc_size]); omega))) | (refine Fr.trans ?_ (by assumption))))); (case hy => (intro wf hwf; haveI := From.mk hwf; (((apply opv_ld_el); exact rfl; exact rfl; (first | assumption | infer_instance); assumption; exact rfl)))))
      ((apply (tk 7)); (case hi => exact rfl); (case hf => kernel_rfl); (case hS => (repeat (first | exact Fr.refl _ _ | assumption | with_reducible apply Fr.allocSet | with_reducible apply Fr.alloc | with_reducible apply Fr.drewN | with_reducible apply Fr.drew | ((with_reducible apply Fr.set); rotate_left; (right; ((try simp only [alloc_size]); omega))) | (refine Fr.trans ?_ (by assumption))))); (case hy => (intro wf hwf; haveI := From.mk hwf; (((apply opv_loadb1); exact rfl; exact rfl; (first | assumption | infer_instance); exact rfl)))))
      ((apply (tk 8)); (case hi => exact rfl); (case hf => kernel_rfl); (case hS => (repeat (first | exact Fr.refl _ _ | assumption | with_reducible apply Fr.allocSet | with_reducible apply Fr.alloc | with_reducible apply Fr.drewN | with_reducible apply Fr.drew | ((with_reducible apply Fr.set); rotate_left; (right; ((try simp only [alloc_size]); omega))) | (refine Fr.trans ?_ (by assumption))))); (case hy => (intro wf hwf; haveI := From.mk hwf; (((apply opv_indexAddr); (first | exact norm_eq rfl | ((conv => lhs; whnf) <;> exact rfl)); exact rfl; (first | assumption | infer_instance); (first | omega | (simp only [List.length_map]; omega)); (first | omega | (simp only [List.length_map]; omega)))))))
      ((apply (tk 9)); (case hi => exact rfl); (case hf => kernel_rfl); (case hS => (repeat (first | exact Fr.refl _ _ | assumption | with_reducible apply Fr.allocSet | with_reducible apply Fr.alloc | with_reducible apply Fr.drewN | with_reducible apply Fr.drew | ((with_reducible apply Fr.set); rotate_left; (right; ((try simp only [alloc_size]); omega))) | (refine Fr.trans ?_ (by assumption))))); (case hy => (intro wf hwf; haveI := From.mk hwf; (((apply opv_ld_eln); exact rfl; exact rfl; (first | assumption | infer_instance); assumption)))))
      refine vA_only 10 rfl (by kernel_rfl) hf3.drew.drew (fun J hJ => ?_)
      (((apply vL_skip); (case h => ((apply ops_storen); (first | exact norm_eq rfl | ((conv => lhs; whnf) <;> exact rfl)); (first | exact norm_eq rfl | ((conv => lhs; whnf) <;> exact rfl)); exact rfl; (first | exact (fun u hu => EncOk.one _ u hu) | (intro u hu; simp at hu; rcases hu with rfl | rfl <;> (first | rfl | assumption))); (first | assumption | infer_instance); (first | decide | exact of_decide_eq_true rfl | (simp; done))))); apply vL_nil)
      refine ⟨rfl, hJ _ _ ?_⟩
      refine vA_done (by kernel_rfl) (hf3.drew.drew.set _ _ (.inr (Nat.le_refl _))) ?_
      refine ⟨rfl, by ((repeat (first | (with_reducible exact same_mask _ _ _) | with_reducible apply same_updN | ((with_reducible refine same_updO ?_ ?_); rotate_left; exact rfl) | ((with_reducible refine same_upd ?_ ?_); rotate_left; exact rfl) | ((with_reducible refine same_maskIn ?_ ?_); rotate_left; exact rfl))); exact fun _ _ => rfl), hf3.drew.drew.set _ _ (.inr (Nat.le_refl _)), by rw [setRow_size]; exact hlt3, ?_⟩
      rw [hdq]
      exact Blk.as (Blk.set (inferInstance : Blk w3.drew.drew.heap w2.heap.size _ _)) rfl
    · have hdq : dd = (0, 0, 0) := by rw [hdo, List.getElem?_eq_none (by omega)]; rfl
      refine vC_condF rfl (decide_eq_false (by omega)) ?_
      (apply vC_skip)
      refine ⟨rfl, fun _ _ => rfl, hf3.drew, hlt3, ?_⟩
      rw [hdq]
      exact (show Blk w3.drew.heap w2.heap.size _ _ from inferInstance)
  rintro junk4 w4 ⟨hf4, hlt4, bd4⟩
  first | with_reducible apply vC_seq | with_reducible apply vC_region | with_reducible apply seqP_normal | with_reducible apply vC_block | with_reducible apply vC_ret | with_reducible apply vC_skip | with_reducible apply vC_exit | with_reducible apply seqP_ret | with_reducible apply seqP_exit | with_reducible apply blockP_normal | with_reducible apply blockP_ret | with_reducible apply blockP_exit | ((with_reducible apply blockP_pass); exact rfl) | with_reducible apply loopP_normal | with_reducible apply vL_ac | with_reducible apply vL_an | with_reducible apply loopP_ret | with_reducible apply loopP_exit | ((with_reducible apply vC_cond_true); exact rfl) | ((with_reducible apply vC_cond_false); exact rfl) | with_reducible apply vC_scope | with_reducible apply gotoP_normal | with_reducible apply gotoP_ret | with_reducible apply gotoP_exit | with_reducible apply vC_label
  obtain ⟨K4, hKe⟩ : ∃ K4 : Nat → Prop, ∀ k, K4 k ↔ (K1 k ∨ k = w2.heap.size) := ⟨_, fun _ => Iff.rfl⟩
  have hno4 : ∀ k, K1 k → K4 k := fun k h => (hKe k).2 (.inl h)
  have t4 : Tn X K4 w4 wb rb sb qb lv tv wt we2 (.slice va P.length vc) rest (some i) ts (S.note i pos why) x.1 w.heap.size tx px ax w2.heap.size prog pos dd :=
    ⟨s2.box hf4 (fun k hk => ((hKe k).1 hk).imp id (fun h => ⟨Nat.le_of_eq h.symm, by rw [h]; exact hlt4⟩)), T2.fr hf4 (fun _ _ h => h) hno4, B2.fr hf4 (fun _ _ h => h) hno4, I2.fr hf4 (fun _ _ h => h) hno4, (hKe _).2 (.inr rfl), bd4⟩
  have a4 := a.note i pos why
  have hta4 : (S.note i pos why).tasks[i]? = some ⟨prog, pos + 1, 0, 2⟩ := hta
  have hev4 : (S.note i pos why).ev.length ≤ 100001 := by
    show (S.ev ++ [_]).length ≤ _
    simp; omega
  have FF : Fr (LF X K) w w4 := (hf1.no_any.trans' F2 (fun k hk => .inl ⟨hk.1, fun h => hk.2 (hKK k h)⟩)).trans hf4.no_any
  have hX4 : KX w K K4 := ⟨fun k h => hno4 k (hKK k h), fun k hk => by
    rcases (hKe k).1 hk with h | rfl
    · rcases (hKd k).1 h with h | rfl | rfl | rfl | rfl
      · exact .inl h
      · exact .inr (Nat.le_refl _)
      · exact .inr gt
      · exact .inr gp
      · exact .inr ga
    · exact .inr (Nat.le_trans hf1.size F2.size)⟩
  have hK4 := hX4.1
  have hml : (ts.map (·.1)).length = ts.length := List.length_map ..
  have hda : dd.2.1 ≤ 9223372036854775807 := by
    rw [hdo]
    by_cases hpl : pos < d.2.length
    · rw [List.getElem?_eq_getElem hpl]
      exact hPb d (List.mem_of_getElem? hd) _ (List.getElem_mem hpl)
    · rw [List.getElem?_eq_none (by omega)]; decide
  clear hdo hdd hd hd' hPd3 hP3 hw3 bt3 bw3 bp3 ba3 o1 o2 o3 s2 T2 B2 I2 bt2 bw2 bp2 ba2 s1 T1 B1 I1 bt1 bw1 bp1 ba1 hb1 F2 hf4 hlt4 bd4 s T hta a bw bt bp ba hno
  generalize hS1 : S.note i pos why = S1 at *
  clear hS1 hKK hno4 hKe hKd
  generalize w2.heap.size = db at *
  generalize w.heap.size = wx at *
  have hLF : ∀ k, LF X K4 k → LF X K k ∨ w.heap.size ≤ k := fun k hk => .inl ⟨hk.1, fun h => hk.2 (hK4 k h)⟩
  have bw4 := t4.B.bw
  have bt4 := t4.B.bt
  have bp4 := t4.B.bp
  have ba4 := t4.I.b
  have bd4 := t4.d
  have hw4 := t4.L.hw
  rw [eE] at bd4
  (apply vC_seq; apply vC_region; ((apply vL_val); (case h => ((apply opv_makeFunc); exact rfl))); ((apply vL_val); (case h => ((apply opv_E); exact rfl))); apply vL_nil; apply seqP_normal; apply vC_seq; apply vC_region; ((apply vL_val); (case h => ((apply opv_fieldAddr); exact rfl))); ((apply vL_val); (case h => ((apply opv_loadb1); exact rfl; exact rfl; (first | assumption | infer_instance); exact rfl))); apply vL_nil; apply seqP_normal; apply vC_block; apply vC_seq; apply vC_region; (iterate 2 (((apply vL_val); (case h => ((apply opv_E); exact rfl))))); apply vL_nil; apply seqP_normal)
  by_cases k1 : dd.1 = 1
  · have e1 : AS.act (P.map (·.2)) S1 i rest dd = S1.ready i := by unfold AS.act; rw [if_pos k1]
    rw [e1]
    ((refine vC_cond_dec rfl (fun _ => ?_) (fun h => by omega)); apply vC_region; ((apply vL_val); (case h => ((apply opv_loadb1); exact rfl; exact rfl; (first | assumption | infer_instance); exact rfl))); ((apply vL_val); (case h => ((apply opv_E); exact rfl))))
    refine vL_callF rfl (tn_yield t4 hx a4 h1 h2 h3 hta4) rfl ?_
    rintro _ w5 ⟨rfl, sb5, qb5, lv5, tv5, wt5, we5, ts5, y5, t5, hy5, y1, y2, F5⟩
    (apply vL_nil; apply blockP_normal)
    (first | apply ret0 | apply ret0n)
    exact t5.turned (FF.trans' F5 hLF) hy5 hX4 y1 y2
  by_cases k2 : dd.1 = 2
  · have e2 : AS.act (P.map (·.2)) S1 i rest dd = S1.setT i ⟨prog, pos + 1, 0, 3⟩ := by unfold AS.act; rw [if_neg k1, if_pos k2, hta4]
    rw [e2]
    ((refine vC_cond_dec rfl (fun h => by omega) (fun _ => ?_)); apply vC_seq; apply vC_region; (iterate 2 (((apply vL_val); (case h => ((apply opv_E); exact rfl))))); apply vL_nil; apply seqP_normal; (refine vC_cond_dec rfl (fun _ => ?_) (fun h => by omega)); apply vC_region; ((apply vL_val); (case h => ((apply opv_loadb1); exact rfl; exact rfl; (first | assumption | infer_instance); exact rfl))); ((apply vL_val); (case h => ((apply opv_makeFunc); exact rfl))))
    refine vL_callF rfl (tn_park t4 hx h1 h3 hta4) rfl ?_
    rintro _ w5 ⟨rfl, sb5, qb5, lv5, tv5, wt5, we5, ts5, y5, t5, hy5, y1, y2, F5⟩
    (apply vL_nil; apply blockP_normal)
    (first | apply ret0 | apply ret0n)
    exact t5.turned (FF.trans' F5 hLF) hy5 hX4 y1 y2
  by_cases k3 : dd.1 = 3
  · have e3 : AS.act (P.map (·.2)) S1 i rest dd = ((S1.wake dd.2.1 dd.2.2).1.note i (-2) (S1.wake dd.2.1 dd.2.2).2).ready i := by unfold AS.act; rw [if_neg k1, if_neg k2, if_pos k3]
    rw [e3]
    have hwt4 := t4.L.hwt
    by_cases hin : 0 ≤ dd.2.1 ∧ dd.2.1 < ts.length
    · obtain ⟨g0, g1⟩ := hin
      obtain ⟨j, hj⟩ : ∃ j : Nat, dd.2.1 = j := ⟨dd.2.1.toNat, by omega⟩
      obtain ⟨y, hy⟩ : ∃ y, ts[j]? = some y := ⟨ts[j]'(by omega), List.getElem?_eq_getElem _⟩
      obtain ⟨b, hb⟩ : ∃ b, S1.tasks[j]? = some b := ⟨S1.tasks[j]'(by rw [← t4.T.1]; omega), List.getElem?_eq_getElem _⟩
      have hyb : y.2.parked = decide (b.st = 3) ∧ y.2.over = decide (b.st = 0) := by
        by_cases e : i = j
        · subst e
          rw [hx] at hy; rw [hta4] at hb; cases hy; cases hb
          exact ⟨h2, h3⟩
        · have := t4.T.2 j y b (fun h => e (Option.some.inj h).symm) hy hb
          exact ⟨this.parked, this.over⟩
      have hyp : (ts.map (·.1))[(dd.2.1).toNat]? = some y.1 := by rw [hj, Int.toNat_natCast, List.getElem?_map, hy]; rfl
      ((refine vC_cond_dec rfl (fun h => by omega) (fun _ => ?_)); apply vC_seq; apply vC_region; (iterate 2 (((apply vL_val); (case h => ((apply opv_E); exact rfl))))); apply vL_nil; apply seqP_normal; (refine vC_cond_dec rfl (fun h => by omega) (fun _ => ?_)); apply vC_seq; apply vC_region; (iterate 2 (((apply vL_val); (case h => ((apply opv_E); exact rfl))))); apply vL_nil; apply seqP_normal; (refine vC_cond_dec rfl (fun _ => ?_) (fun h => by omega)); apply vC_seq; apply vC_region; ((apply vL_val); (case h => ((apply opv_E); exact rfl))); apply vL_nil; apply seqP_normal; (iterate 2 (apply vC_seq)))
      (with_reducible apply vC_drawQ); (((apply vQ_op); (case hi => exact rfl); (case hf => kernel_rfl); (case hS => (first | exact Dr.refl _ | assumption | exact ⟨_, rfl⟩)); (case hy => (intro j; ((apply opv_fieldAddr); exact rfl)))); ((apply vQ_op); (case hi => exact rfl); (case hf => kernel_rfl); (case hS => (first | exact Dr.refl _ | assumption | exact ⟨_, rfl⟩)); (case hy => (intro j; ((apply opv_loadb1); exact rfl; exact rfl; (first | assumption | infer_instance); exact rfl)))); (iterate 2 (((apply vQ_op); (case hi => exact rfl); (case hf => kernel_rfl); (case hS => (first | exact Dr.refl _ | assumption | exact ⟨_, rfl⟩)); (case hy => (intro j; ((apply opv_E); exact rfl)))))); (refine vQ_gT rfl rfl rfl (by omega) ?_); ((apply vQ_wanted); (case hi => exact rfl); (case hg => exact rfl); (case hf => kernel_rfl); (case hS => (first | exact Dr.refl _ | assumption | exact ⟨_, rfl⟩)); (case hy => (intro j; ((apply opv_fieldAddr); exact rfl)))); (iterate 2 (((apply vQ_wanted); (case hi => exact rfl); (case hg => exact rfl); (case hf => kernel_rfl); (case hS => (first | exact Dr.refl _ | assumption | exact ⟨_, rfl⟩)); (case hy => (intro j; ((apply opv_loadb1); exact rfl; exact rfl; (first | assumption | infer_instance); exact rfl)))))); ((apply vQ_wanted); (case hi => exact rfl); (case hg => exact rfl); (case hf => kernel_rfl); (case hS => (first | exact Dr.refl _ | assumption | exact ⟨_, rfl⟩)); (case hy => (intro j; ((apply opv_E); exact rfl)))); ((apply vQ_wanted); (case hi => exact rfl); (case hg => exact rfl); (case hf => kernel_rfl); (case hS => (first | exact Dr.refl _ | assumption | exact ⟨_, rfl⟩)); (case hy => (intro j; ((apply opv_fieldAddr); exact rfl)))); ((apply vQ_wanted); (case hi => exact rfl); (case hg => exact rfl); (case hf => kernel_rfl); (case hS => (first | exact Dr.refl _ | assumption | exact ⟨_, rfl⟩)); (case hy => (intro j; ((apply opv_loadb1); exact rfl; exact rfl; (first | assumption | infer_instance); exact rfl)))); ((apply vQ_wanted); (case hi => exact rfl); (case hg => exact rfl); (case hf => kernel_rfl); (case hS => (first | exact Dr.refl _ | assumption | exact ⟨_, rfl⟩)); (case hy => (intro j; ((apply opv_len); (first | exact norm_eq rfl | ((conv => lhs; whnf) <;> exact rfl)); (first | assumption | infer_instance))))); ((apply vQ_wanted); (case hi => exact rfl); (case hg => exact rfl); (case hf => kernel_rfl); (case hS => (first | exact Dr.refl _ | assumption | exact ⟨_, rfl⟩)); (case hy => (intro j; ((apply opv_E); exact rfl)))); ((apply vQ_op); (case hi => exact rfl); (case hf => kernel_rfl); (case hS => (first | exact Dr.refl _ | assumption | exact ⟨_, rfl⟩)); (case hy => (intro j; ((apply opv_E); exact rfl)))); ((apply vQ_end); (case hi => exact rfl); (case hf => kernel_rfl); (case hS => (first | exact Dr.refl _ | assumption | exact ⟨_, rfl⟩))))
      (apply seqP_normal; (refine vC_cond_dec rfl (fun _ => ?_) (fun h => by omega)))
      refine vC_gen (fun w' => Tn X K4 w' wb rb sb qb lv tv wt we2 (.slice va P.length vc) rest (some i) ts S1 x.1 wx tx px ax db prog pos dd ∧ Fr (LF X K) w w') ⟨t4.frN (by (repeat (first | exact Fr.refl _ _ | assumption | with_reducible apply Fr.allocSet | with_reducible apply Fr.alloc | with_reducible apply Fr.drewN | with_reducible apply Fr.drew | ((with_reducible apply Fr.set); rotate_left; (right; ((try simp only [alloc_size]); omega))) | (refine Fr.trans ?_ (by assumption))))), FF.trans (by (repeat (first | exact Fr.refl _ _ | assumption | with_reducible apply Fr.allocSet | with_reducible apply Fr.alloc | with_reducible apply Fr.drewN | with_reducible apply Fr.drew | ((with_reducible apply Fr.set); rotate_left; (right; ((try simp only [alloc_size]); omega))) | (refine Fr.trans ?_ (by assumption)))))⟩ ?_
      clear bw4 bt4 bp4 ba4 bd4 hw4 hwt4 FF t4
      rintro w5 ⟨t5, FF⟩
      have bw5 := t5.B.bw
      have bd5 := t5.d
      have hw5 := t5.L.hw
      have hwt5 := t5.L.hwt
      rw [eE] at bd5
      refine vC_draw' ((fun wf => Blk wf.heap wx [pt wb] 54 ∧ Blk wf.heap db [.int .i64 dd.1, .int .i64 dd.2.1, .int .i64 dd.2.2] 90 ∧ Blk wf.heap wb [.pointer (some ⟨rb, 0, none⟩), .slice va P.length vc, wt, we2] 60 ∧ Own wf.heap 64 1 ptE wt (ts.map (·.1)))) (by (first | exact trivial | assumption | infer_instance | (refine ⟨?_, ?_, ?_, ?_⟩ <;> (first | assumption | infer_instance)) | ((repeat (first | exact Fr.refl _ _ | assumption | with_reducible apply Fr.allocSet | with_reducible apply Fr.alloc | with_reducible apply Fr.drewN | with_reducible apply Fr.drew | ((with_reducible apply Fr.set); rotate_left; (right; ((try simp only [alloc_size]); omega))) | (refine Fr.trans ?_ (by assumption)))); done))) ?_
      ((apply (tk 0)); (case hi => exact rfl); (case hf => kernel_rfl); (case hS => (first | exact trivial | assumption | infer_instance | (refine ⟨?_, ?_, ?_, ?_⟩ <;> (first | assumption | infer_instance)) | ((repeat (first | exact Fr.refl _ _ | assumption | with_reducible apply Fr.allocSet | with_reducible apply Fr.alloc | with_reducible apply Fr.drewN | with_reducible apply Fr.drew | ((with_reducible apply Fr.set); rotate_left; (right; ((try simp only [alloc_size]); omega))) | (refine Fr.trans ?_ (by assumption)))); done))); (case hy => (rintro wf ⟨hwa, hwb, hwc, hwd⟩; (((apply opv_loadb1); exact rfl; exact rfl; (first | assumption | infer_instance); exact rfl)))))
      ((apply (tk 1)); (case hi => exact rfl); (case hf => kernel_rfl); (case hS => (first | exact trivial | assumption | infer_instance | (refine ⟨?_, ?_, ?_, ?_⟩ <;> (first | assumption | infer_instance)) | ((repeat (first | exact Fr.refl _ _ | assumption | with_reducible apply Fr.allocSet | with_reducible apply Fr.alloc | with_reducible apply Fr.drewN | with_reducible apply Fr.drew | ((with_reducible apply Fr.set); rotate_left; (right; ((try simp only [alloc_size]); omega))) | (refine Fr.trans ?_ (by assumption)))); done))); (case hy => (rintro wf ⟨hwa, hwb, hwc, hwd⟩; (((apply opv_E); exact rfl)))))
      ((apply (tk 2)); (case hi => exact rfl); (case hf => kernel_rfl); (case hS => (first | exact trivial | assumption | infer_instance | (refine ⟨?_, ?_, ?_, ?_⟩ <;> (first | assumption | infer_instance)) | ((repeat (first | exact Fr.refl _ _ | assumption | with_reducible apply Fr.allocSet | with_reducible apply Fr.alloc | with_reducible apply Fr.drewN | with_reducible apply Fr.drew | ((with_reducible apply Fr.set); rotate_left; (right; ((try simp only [alloc_size]); omega))) | (refine Fr.trans ?_ (by assumption)))); done))); (case hy => (rintro wf ⟨hwa, hwb, hwc, hwd⟩; (((apply opv_fieldAddr); exact rfl)))))
      ((apply (tk 3)); (case hi => exact rfl); (case hf => kernel_rfl); (case hS => (first | exact trivial | assumption | infer_instance | (refine ⟨?_, ?_, ?_, ?_⟩ <;> (first | assumption | infer_instance)) | ((repeat (first | exact Fr.refl _ _ | assumption | with_reducible apply Fr.allocSet | with_reducible apply Fr.alloc | with_reducible apply Fr.drewN | with_reducible apply Fr.drew | ((with_reducible apply Fr.set); rotate_left; (right; ((try simp only [alloc_size]); omega))) | (refine Fr.trans ?_ (by assumption)))); done))); (case hy => (rintro wf ⟨hwa, hwb, hwc, hwd⟩; (((apply opv_loadb1); exact rfl; exact rfl; (first | assumption | infer_instance); exact rfl)))))
      ((apply (tk 4)); (case hi => exact rfl); (case hf => kernel_rfl); (case hS => (first | exact trivial | assumption | infer_instance | (refine ⟨?_, ?_, ?_, ?_⟩ <;> (first | assumption | infer_instance)) | ((repeat (first | exact Fr.refl _ _ | assumption | with_reducible apply Fr.allocSet | with_reducible apply Fr.alloc | with_reducible apply Fr.drewN | with_reducible apply Fr.drew | ((with_reducible apply Fr.set); rotate_left; (right; ((try simp only [alloc_size]); omega))) | (refine Fr.trans ?_ (by assumption)))); done))); (case hy => (rintro wf ⟨hwa, hwb, hwc, hwd⟩; (((apply opv_fieldAddr); exact rfl)))))
      ((apply (tk 5)); (case hi => exact rfl); (case hf => kernel_rfl); (case hS => (first | exact trivial | assumption | infer_instance | (refine ⟨?_, ?_, ?_, ?_⟩ <;> (first | assumption | infer_instance)) | ((repeat (first | exact Fr.refl _ _ | assumption | with_reducible apply Fr.allocSet | with_reducible apply Fr.alloc | with_reducible apply Fr.drewN | with_reducible apply Fr.drew | ((with_reducible apply Fr.set); rotate_left; (right; ((try simp only [alloc_size]); omega))) | (refine Fr.trans ?_ (by assumption)))); done))); (case hy => (rintro wf ⟨hwa, hwb, hwc, hwd⟩; (((apply opv_loadb1); exact rfl; exact rfl; (first | assumption | infer_instance); exact rfl)))))
      ((apply (tk 6)); (case hi => exact rfl); (case hf => kernel_rfl); (case hS => (first | exact trivial | assumption | infer_instance | (refine ⟨?_, ?_, ?_, ?_⟩ <;> (first | assumption | infer_instance)) | ((repeat (first | exact Fr.refl _ _ | assumption | with_reducible apply Fr.allocSet | with_reducible apply Fr.alloc | with_reducible apply Fr.drewN | with_reducible apply Fr.drew | ((with_reducible apply Fr.set); rotate_left; (right; ((try simp only [alloc_size]); omega))) | (refine Fr.trans ?_ (by assumption)))); done))); (case hy => (rintro wf ⟨hwa, hwb, hwc, hwd⟩; (((apply opv_indexAddr); (first | exact norm_eq rfl | ((conv => lhs; whnf) <;> exact rfl)); exact rfl; (first | assumption | infer_instance); (first | omega | (simp only [List.length_map]; omega)); (first | omega | (simp only [List.length_map]; omega)))))))
      ((apply (tk 7)); (case hi => exact rfl); (case hf => kernel_rfl); (case hS => (first | exact trivial | assumption | infer_instance | (refine ⟨?_, ?_, ?_, ?_⟩ <;> (first | assumption | infer_instance)) | ((repeat (first | exact Fr.refl _ _ | assumption | with_reducible apply Fr.allocSet | with_reducible apply Fr.alloc | with_reducible apply Fr.drewN | with_reducible apply Fr.drew | ((with_reducible apply Fr.set); rotate_left; (right; ((try simp only [alloc_size]); omega))) | (refine Fr.trans ?_ (by assumption)))); done))); (case hy => (rintro wf ⟨hwa, hwb, hwc, hwd⟩; (((apply opv_ld_el); exact rfl; exact rfl; (first | assumption | infer_instance); assumption; exact rfl)))))
      ((apply (tk 8)); (case hi => exact rfl); (case hf => kernel_rfl); (case hS => (first | exact trivial | assumption | infer_instance | (refine ⟨?_, ?_, ?_, ?_⟩ <;> (first | assumption | infer_instance)) | ((repeat (first | exact Fr.refl _ _ | assumption | with_reducible apply Fr.allocSet | with_reducible apply Fr.alloc | with_reducible apply Fr.drewN | with_reducible apply Fr.drew | ((with_reducible apply Fr.set); rotate_left; (right; ((try simp only [alloc_size]); omega))) | (refine Fr.trans ?_ (by assumption)))); done))); (case hy => (rintro wf ⟨hwa, hwb, hwc, hwd⟩; (((apply opv_fieldAddr); exact rfl)))))
      ((apply (tk 9)); (case hi => exact rfl); (case hf => kernel_rfl); (case hS => (first | exact trivial | assumption | infer_instance | (refine ⟨?_, ?_, ?_, ?_⟩ <;> (first | assumption | infer_instance)) | ((repeat (first | exact Fr.refl _ _ | assumption | with_reducible apply Fr.allocSet | with_reducible apply Fr.alloc | with_reducible apply Fr.drewN | with_reducible apply Fr.drew | ((with_reducible apply Fr.set); rotate_left; (right; ((try simp only [alloc_size]); omega))) | (refine Fr.trans ?_ (by assumption)))); done))); (case hy => (rintro wf ⟨hwa, hwb, hwc, hwd⟩; (((apply opv_loadb1); exact rfl; exact rfl; (first | assumption | infer_instance); exact rfl)))))
      refine tkc 10 rfl (by kernel_rfl) (by (first | exact trivial | assumption | infer_instance | (refine ⟨?_, ?_, ?_, ?_⟩ <;> (first | assumption | infer_instance)) | ((repeat (first | exact Fr.refl _ _ | assumption | with_reducible apply Fr.allocSet | with_reducible apply Fr.alloc | with_reducible apply Fr.drewN | with_reducible apply Fr.drew | ((with_reducible apply Fr.set); rotate_left; (right; ((try simp only [alloc_size]); omega))) | (refine Fr.trans ?_ (by assumption)))); done))) rfl (tn_wake (t5.frN (Fr.refl No _).drew) hy hb dd.2.2 a4 hyb.1 hyb.2) rfl ?_
      rintro _ w6 ⟨rfl, K6, lv6, ts6, t6, hK6, F6, hm6, hr6⟩
      rw [← hj] at t6
      have bw6 := t6.B.bw
      have bd6 := t6.d
      have hw6 := t6.L.hw
      have hwt6 := t6.L.hwt
      rw [eE] at bd6
      rw [hm6] at hwt6
      ((apply (tk 11)); (case hi => exact rfl); (case hf => kernel_rfl); (case hS => (first | exact trivial | assumption | infer_instance | (refine ⟨?_, ?_, ?_, ?_⟩ <;> (first | assumption | infer_instance)) | ((repeat (first | exact Fr.refl _ _ | assumption | with_reducible apply Fr.allocSet | with_reducible apply Fr.alloc | with_reducible apply Fr.drewN | with_reducible apply Fr.drew | ((with_reducible apply Fr.set); rotate_left; (right; ((try simp only [alloc_size]); omega))) | (refine Fr.trans ?_ (by assumption)))); done))); (case hy => (rintro wf ⟨hwa, hwb, hwc, hwd⟩; (((apply opv_E); exact rfl)))))
      refine vA_done (by kernel_rfl) (by (first | exact trivial | assumption | infer_instance | (refine ⟨?_, ?_, ?_, ?_⟩ <;> (first | assumption | infer_instance)) | ((repeat (first | exact Fr.refl _ _ | assumption | with_reducible apply Fr.allocSet | with_reducible apply Fr.alloc | with_reducible apply Fr.drewN | with_reducible apply Fr.drew | ((with_reducible apply Fr.set); rotate_left; (right; ((try simp only [alloc_size]); omega))) | (refine Fr.trans ?_ (by assumption)))); done))) ?_
      (apply seqP_normal; apply vC_seq; apply vC_region; ((apply vL_val); (case h => ((apply opv_loadb1); exact rfl; exact rfl; (first | assumption | infer_instance); exact rfl))); (iterate 2 (((apply vL_val); (case h => ((apply opv_E); exact rfl))))))
      clear t5 bw5 bd5 hw5 hwt5
      have FF6 : Fr (LF X K) w w6 := FF.trans' (Fr.from_drew F6) hLF
      have hx6 : ts6[i]? = some x := by rw [hr6 i rfl]; exact hx
      have a6 := a4.wake dd.2.1 dd.2.2
      obtain ⟨hta6, hev6⟩ := wake_keep hta4 (by simp) dd.2.1 dd.2.2
      have hX46 : KX w K K6 := hX4.trans hK6 FF.size
      have bt6 := t6.B.bt
      have hel6 : (S1.wake dd.2.1 dd.2.2).1.ev.length ≤ 100001 := by rw [hev6]; exact hev4
      rw [← hj]
      generalize S1.wake dd.2.1 dd.2.2 = r6 at *
      clear FF
      have FF := FF6
      skip
      refine vL_callF rfl (tn_note t6 i (-2) (r6.2) (by omega)) rfl ?_
      rintro _ w7 ⟨we7, t7, F7⟩
      have bw7 := t7.B.bw
      have bt7 := t7.B.bt
      (apply vL_nil; apply seqP_normal; apply vC_region; ((apply vL_val); (case h => ((apply opv_loadb1); exact rfl; exact rfl; (first | assumption | infer_instance); exact rfl))); ((apply vL_val); (case h => ((apply opv_E); exact rfl))))
      refine vL_callF rfl (tn_yield t7 hx6 (a6.note _ _ _) h1 h2 h3 hta6) rfl ?_
      rintro _ w8 ⟨rfl, sb8, qb8, lv8, tv8, wt8, we8, ts8, y8, t8, hy8, y1, y2, F8⟩
      (apply vL_nil; apply blockP_normal)
      (first | apply ret0 | apply ret0n)
      have hLF6 : ∀ k, LF X K6 k → LF X K k ∨ w.heap.size ≤ k := fun k hk => .inl ⟨hk.1, fun h => hk.2 (hX46.1 k h)⟩
      exact t8.turned ((FF.trans' F7 hLF6).trans' F8 hLF6) hy8 hX46 y1 y2
    · have e5 : S1.wake dd.2.1 dd.2.2 = (S1, 152) := by
        unfold AS.wake
        split
        · rename_i g0
          have : S1.tasks.length ≤ dd.2.1.toNat := by rw [← t4.T.1]; omega
          rw [List.getElem?_eq_none this]
        · rfl
      rw [e5]
      by_cases g0 : 0 ≤ dd.2.1
      · ((refine vC_cond_dec rfl (fun h => by omega) (fun _ => ?_)); apply vC_seq; apply vC_region; (iterate 2 (((apply vL_val); (case h => ((apply opv_E); exact rfl))))); apply vL_nil; apply seqP_normal; (refine vC_cond_dec rfl (fun h => by omega) (fun _ => ?_)); apply vC_seq; apply vC_region; (iterate 2 (((apply vL_val); (case h => ((apply opv_E); exact rfl))))); apply vL_nil; apply seqP_normal; (refine vC_cond_dec rfl (fun _ => ?_) (fun h => by omega)); apply vC_seq; apply vC_region; ((apply vL_val); (case h => ((apply opv_E); exact rfl))); apply vL_nil; apply seqP_normal; (iterate 2 (apply vC_seq)))
        (with_reducible apply vC_drawQ); (((apply vQ_op); (case hi => exact rfl); (case hf => kernel_rfl); (case hS => (first | exact Dr.refl _ | assumption | exact ⟨_, rfl⟩)); (case hy => (intro j; ((apply opv_fieldAddr); exact rfl)))); ((apply vQ_op); (case hi => exact rfl); (case hf => kernel_rfl); (case hS => (first | exact Dr.refl _ | assumption | exact ⟨_, rfl⟩)); (case hy => (intro j; ((apply opv_loadb1); exact rfl; exact rfl; (first | assumption | infer_instance); exact rfl)))); (iterate 2 (((apply vQ_op); (case hi => exact rfl); (case hf => kernel_rfl); (case hS => (first | exact Dr.refl _ | assumption | exact ⟨_, rfl⟩)); (case hy => (intro j; ((apply opv_E); exact rfl)))))); (refine vQ_gT rfl rfl rfl (by omega) ?_); ((apply vQ_wanted); (case hi => exact rfl); (case hg => exact rfl); (case hf => kernel_rfl); (case hS => (first | exact Dr.refl _ | assumption | exact ⟨_, rfl⟩)); (case hy => (intro j; ((apply opv_fieldAddr); exact rfl)))); (iterate 2 (((apply vQ_wanted); (case hi => exact rfl); (case hg => exact rfl); (case hf => kernel_rfl); (case hS => (first | exact Dr.refl _ | assumption | exact ⟨_, rfl⟩)); (case hy => (intro j; ((apply opv_loadb1); exact rfl; exact rfl; (first | assumption | infer_instance); exact rfl)))))); ((apply vQ_wanted); (case hi => exact rfl); (case hg => exact rfl); (case hf => kernel_rfl); (case hS => (first | exact Dr.refl _ | assumption | exact ⟨_, rfl⟩)); (case hy => (intro j; ((apply opv_E); exact rfl)))); ((apply vQ_wanted); (case hi => exact rfl); (case hg => exact rfl); (case hf => kernel_rfl); (case hS => (first | exact Dr.refl _ | assumption | exact ⟨_, rfl⟩)); (case hy => (intro j; ((apply opv_fieldAddr); exact rfl)))); ((apply vQ_wanted); (case hi => exact rfl); (case hg => exact rfl); (case hf => kernel_rfl); (case hS => (first | exact Dr.refl _ | assumption | exact ⟨_, rfl⟩)); (case hy => (intro j; ((apply opv_loadb1); exact rfl; exact rfl; (first | assumption | infer_instance); exact rfl)))); ((apply vQ_wanted); (case hi => exact rfl); (case hg => exact rfl); (case hf => kernel_rfl); (case hS => (first | exact Dr.refl _ | assumption | exact ⟨_, rfl⟩)); (case hy => (intro j; ((apply opv_len); (first | exact norm_eq rfl | ((conv => lhs; whnf) <;> exact rfl)); (first | assumption | infer_instance))))); ((apply vQ_wanted); (case hi => exact rfl); (case hg => exact rfl); (case hf => kernel_rfl); (case hS => (first | exact Dr.refl _ | assumption | exact ⟨_, rfl⟩)); (case hy => (intro j; ((apply opv_E); exact rfl)))); ((apply vQ_op); (case hi => exact rfl); (case hf => kernel_rfl); (case hS => (first | exact Dr.refl _ | assumption | exact ⟨_, rfl⟩)); (case hy => (intro j; ((apply opv_E); exact rfl)))); ((apply vQ_end); (case hi => exact rfl); (case hf => kernel_rfl); (case hS => (first | exact Dr.refl _ | assumption | exact ⟨_, rfl⟩))))
        (apply seqP_normal; (refine vC_cond_dec rfl (fun h => by omega) (fun _ => ?_)); apply vC_skip; apply seqP_normal; apply vC_seq; apply vC_region; ((apply vL_val); (case h => ((apply opv_loadb1); exact rfl; exact rfl; (first | assumption | infer_instance); exact rfl))); (iterate 2 (((apply vL_val); (case h => ((apply opv_E); exact rfl))))))
        have t6 := t4.frN (show Fr No w4 w4.drew by (repeat (first | exact Fr.refl _ _ | assumption | with_reducible apply Fr.allocSet | with_reducible apply Fr.alloc | with_reducible apply Fr.drewN | with_reducible apply Fr.drew | ((with_reducible apply Fr.set); rotate_left; (right; ((try simp only [alloc_size]); omega))) | (refine Fr.trans ?_ (by assumption)))))
        have hx6 := hx
        have a6 := a4
        have hta6 := hta4
        have hX46 := hX4
        obtain ⟨K6, hK6e⟩ : ∃ K6, K6 = K4 := ⟨_, rfl⟩
        rw [← hK6e] at t6 hX46
        have FF : Fr (LF X K) w w4.drew := FF.trans (by (repeat (first | exact Fr.refl _ _ | assumption | with_reducible apply Fr.allocSet | with_reducible apply Fr.alloc | with_reducible apply Fr.drewN | with_reducible apply Fr.drew | ((with_reducible apply Fr.set); rotate_left; (right; ((try simp only [alloc_size]); omega))) | (refine Fr.trans ?_ (by assumption)))))
        have bt6 := t6.B.bt
        have bw6 := t6.B.bw
        have bp6 := t6.B.bp
        have ba6 := t6.I.b
        clear t4 bw4 bt4 bp4 ba4
        refine vL_callF rfl (tn_note t6 i (-2) (152) (by omega)) rfl ?_
        rintro _ w7 ⟨we7, t7, F7⟩
        have bw7 := t7.B.bw
        have bt7 := t7.B.bt
        (apply vL_nil; apply seqP_normal; apply vC_region; ((apply vL_val); (case h => ((apply opv_loadb1); exact rfl; exact rfl; (first | assumption | infer_instance); exact rfl))); ((apply vL_val); (case h => ((apply opv_E); exact rfl))))
        refine vL_callF rfl (tn_yield t7 hx6 (a6.note _ _ _) h1 h2 h3 hta6) rfl ?_
        rintro _ w8 ⟨rfl, sb8, qb8, lv8, tv8, wt8, we8, ts8, y8, t8, hy8, y1, y2, F8⟩
        (apply vL_nil; apply blockP_normal)
        (first | apply ret0 | apply ret0n)
        have hLF6 : ∀ k, LF X K6 k → LF X K k ∨ w.heap.size ≤ k := fun k hk => .inl ⟨hk.1, fun h => hk.2 (hX46.1 k h)⟩
        exact t8.turned ((FF.trans' F7 hLF6).trans' F8 hLF6) hy8 hX46 y1 y2
      · ((refine vC_cond_dec rfl (fun h => by omega) (fun _ => ?_)); apply vC_seq; apply vC_region; (iterate 2 (((apply vL_val); (case h => ((apply opv_E); exact rfl))))); apply vL_nil; apply seqP_normal; (refine vC_cond_dec rfl (fun h => by omega) (fun _ => ?_)); apply vC_seq; apply vC_region; (iterate 2 (((apply vL_val); (case h => ((apply opv_E); exact rfl))))); apply vL_nil; apply seqP_normal; (refine vC_cond_dec rfl (fun _ => ?_) (fun h => by omega)); apply vC_seq; apply vC_region; ((apply vL_val); (case h => ((apply opv_E); exact rfl))); apply vL_nil; apply seqP_normal; (iterate 2 (apply vC_seq)))
        (with_reducible apply vC_drawQ); (((apply vQ_op); (case hi => exact rfl); (case hf => kernel_rfl); (case hS => (first | exact Dr.refl _ | assumption | exact ⟨_, rfl⟩)); (case hy => (intro j; ((apply opv_fieldAddr); exact rfl)))); ((apply vQ_op); (case hi => exact rfl); (case hf => kernel_rfl); (case hS => (first | exact Dr.refl _ | assumption | exact ⟨_, rfl⟩)); (case hy => (intro j; ((apply opv_loadb1); exact rfl; exact rfl; (first | assumption | infer_instance); exact rfl)))); (iterate 2 (((apply vQ_op); (case hi => exact rfl); (case hf => kernel_rfl); (case hS => (first | exact Dr.refl _ | assumption | exact ⟨_, rfl⟩)); (case hy => (intro j; ((apply opv_E); exact rfl)))))); (refine vQ_gF rfl rfl rfl (by omega) ?_); (iterate 8 (((apply vQ_unwanted); (case hi => exact rfl); (case hg => exact rfl); (case hne => exact rfl); (case hf => kernel_rfl); (case hS => (first | exact Dr.refl _ | assumption | exact ⟨_, rfl⟩))))); ((apply vQ_op); (case hi => exact rfl); (case hf => kernel_rfl); (case hS => (first | exact Dr.refl _ | assumption | exact ⟨_, rfl⟩)); (case hy => (intro j; ((apply opv_E); exact rfl)))); ((apply vQ_end); (case hi => exact rfl); (case hf => kernel_rfl); (case hS => (first | exact Dr.refl _ | assumption | exact ⟨_, rfl⟩))))
        (apply seqP_normal; ((apply vC_cond_false); exact rfl); apply vC_skip; apply seqP_normal; apply vC_seq; apply vC_region; ((apply vL_val); (case h => ((apply opv_loadb1); exact rfl; exact rfl; (first | assumption | infer_instance); exact rfl))); (iterate 2 (((apply vL_val); (case h => ((apply opv_E); exact rfl))))))
        have t6 := t4.frN (show Fr No w4 w4.drew by (repeat (first | exact Fr.refl _ _ | assumption | with_reducible apply Fr.allocSet | with_reducible apply Fr.alloc | with_reducible apply Fr.drewN | with_reducible apply Fr.drew | ((with_reducible apply Fr.set); rotate_left; (right; ((try simp only [alloc_size]); omega))) | (refine Fr.trans ?_ (by assumption)))))
        have hx6 := hx
        have a6 := a4
        have hta6 := hta4
        have hX46 := hX4
        obtain ⟨K6, hK6e⟩ : ∃ K6, K6 = K4 := ⟨_, rfl⟩
        rw [← hK6e] at t6 hX46
        have FF : Fr (LF X K) w w4.drew := FF.trans (by (repeat (first | exact Fr.refl _ _ | assumption | with_reducible apply Fr.allocSet | with_reducible apply Fr.alloc | with_reducible apply Fr.drewN | with_reducible apply Fr.drew | ((with_reducible apply Fr.set); rotate_left; (right; ((try simp only [alloc_size]); omega))) | (refine Fr.trans ?_ (by assumption)))))
        have bt6 := t6.B.bt
        have bw6 := t6.B.bw
        have bp6 := t6.B.bp
        have ba6 := t6.I.b
        clear t4 bw4 bt4 bp4 ba4
        refine vL_callF rfl (tn_note t6 i (-2) (152) (by omega)) rfl ?_
        rintro _ w7 ⟨we7, t7, F7⟩
        have bw7 := t7.B.bw
        have bt7 := t7.B.bt
        (apply vL_nil; apply seqP_normal; apply vC_region; ((apply vL_val); (case h => ((apply opv_loadb1); exact rfl; exact rfl; (first | assumption | infer_instance); exact rfl))); ((apply vL_val); (case h => ((apply opv_E); exact rfl))))
        refine vL_callF rfl (tn_yield t7 hx6 (a6.note _ _ _) h1 h2 h3 hta6) rfl ?_
        rintro _ w8 ⟨rfl, sb8, qb8, lv8, tv8, wt8, we8, ts8, y8, t8, hy8, y1, y2, F8⟩
        (apply vL_nil; apply blockP_normal)
        (first | apply ret0 | apply ret0n)
        have hLF6 : ∀ k, LF X K6 k → LF X K k ∨ w.heap.size ≤ k := fun k hk => .inl ⟨hk.1, fun h => hk.2 (hX46.1 k h)⟩
        exact t8.turned ((FF.trans' F7 hLF6).trans' F8 hLF6) hy8 hX46 y1 y2
  by_cases k4 : dd.1 = 4
  · have e4 : AS.act (P.map (·.2)) S1 i rest dd = ((S1.spawn (pickN dd.2.1 P.length)).1.note i (-3) (S1.spawn (pickN dd.2.1 P.length)).2).ready i := by unfold AS.act; rw [if_neg k1, if_neg k2, if_neg k3, if_pos k4, List.length_map]
    rw [e4]
    have hpk : dd.2.1 % (P.length : Int) = ((pickN dd.2.1 P.length : Nat) : Int) := (Int.toNat_of_nonneg (Int.emod_nonneg _ (by omega))).symm
    have hE4 : ∃ u v, Blk w4.drew.heap wb [.pointer (some ⟨rb, 0, none⟩), .slice va P.length vc, u, v] 60 := ⟨_, _, inferInstance⟩
    have t4d := t4.frN (show Fr No w4 w4.drew by (repeat (first | exact Fr.refl _ _ | assumption | with_reducible apply Fr.allocSet | with_reducible apply Fr.alloc | with_reducible apply Fr.drewN | with_reducible apply Fr.drew | ((with_reducible apply Fr.set); rotate_left; (right; ((try simp only [alloc_size]); omega))) | (refine Fr.trans ?_ (by assumption)))))
    ((refine vC_cond_dec rfl (fun h => by omega) (fun _ => ?_)); apply vC_seq; apply vC_region; (iterate 2 (((apply vL_val); (case h => ((apply opv_E); exact rfl))))); apply vL_nil; apply seqP_normal; (refine vC_cond_dec rfl (fun h => by omega) (fun _ => ?_)); apply vC_seq; apply vC_region; (iterate 2 (((apply vL_val); (case h => ((apply opv_E); exact rfl))))); apply vL_nil; apply seqP_normal; (refine vC_cond_dec rfl (fun h => by omega) (fun _ => ?_)); apply vC_seq; apply vC_region; (iterate 2 (((apply vL_val); (case h => ((apply opv_E); exact rfl))))); apply vL_nil; apply seqP_normal; (refine vC_cond_dec rfl (fun _ => ?_) (fun h => by omega)); apply vC_seq)
    refine vC_draw' ((fun wf => Blk wf.heap wx [pt wb] 54 ∧ Blk wf.heap db [.int .i64 dd.1, .int .i64 dd.2.1, .int .i64 dd.2.2] 90 ∧ (∃ u v, Blk wf.heap wb [.pointer (some ⟨rb, 0, none⟩), .slice va P.length vc, u, v] 60))) (by (first | exact trivial | assumption | infer_instance | (refine ⟨?_, ?_, ?_⟩ <;> (first | assumption | infer_instance)) | ((repeat (first | exact Fr.refl _ _ | assumption | with_reducible apply Fr.allocSet | with_reducible apply Fr.alloc | with_reducible apply Fr.drewN | with_reducible apply Fr.drew | ((with_reducible apply Fr.set); rotate_left; (right; ((try simp only [alloc_size]); omega))) | (refine Fr.trans ?_ (by assumption)))); done))) ?_
    ((apply (tk 0)); (case hi => exact rfl); (case hf => kernel_rfl); (case hS => (first | exact trivial | assumption | infer_instance | (refine ⟨?_, ?_, ?_⟩ <;> (first | assumption | infer_instance)) | ((repeat (first | exact Fr.refl _ _ | assumption | with_reducible apply Fr.allocSet | with_reducible apply Fr.alloc | with_reducible apply Fr.drewN | with_reducible apply Fr.drew | ((with_reducible apply Fr.set); rotate_left; (right; ((try simp only [alloc_size]); omega))) | (refine Fr.trans ?_ (by assumption)))); done))); (case hy => (rintro wf ⟨hwa, hwb, hwc⟩; (((apply opv_loadb1); exact rfl; exact rfl; (first | assumption | infer_instance); exact rfl)))))
    ((apply (tk 1)); (case hi => exact rfl); (case hf => kernel_rfl); (case hS => (first | exact trivial | assumption | infer_instance | (refine ⟨?_, ?_, ?_⟩ <;> (first | assumption | infer_instance)) | ((repeat (first | exact Fr.refl _ _ | assumption | with_reducible apply Fr.allocSet | with_reducible apply Fr.alloc | with_reducible apply Fr.drewN | with_reducible apply Fr.drew | ((with_reducible apply Fr.set); rotate_left; (right; ((try simp only [alloc_size]); omega))) | (refine Fr.trans ?_ (by assumption)))); done))); (case hy => (rintro wf ⟨hwa, hwb, hwc⟩; (((apply opv_E); exact rfl)))))
    ((apply (tk 2)); (case hi => exact rfl); (case hf => kernel_rfl); (case hS => (first | exact trivial | assumption | infer_instance | (refine ⟨?_, ?_, ?_⟩ <;> (first | assumption | infer_instance)) | ((repeat (first | exact Fr.refl _ _ | assumption | with_reducible apply Fr.allocSet | with_reducible apply Fr.alloc | with_reducible apply Fr.drewN | with_reducible apply Fr.drew | ((with_reducible apply Fr.set); rotate_left; (right; ((try simp only [alloc_size]); omega))) | (refine Fr.trans ?_ (by assumption)))); done))); (case hy => (rintro wf ⟨hwa, hwb, hwc⟩; (((apply opv_loadb1); exact rfl; exact rfl; (first | assumption | infer_instance); exact rfl)))))
    ((apply (tk 3)); (case hi => exact rfl); (case hf => kernel_rfl); (case hS => (first | exact trivial | assumption | infer_instance | (refine ⟨?_, ?_, ?_⟩ <;> (first | assumption | infer_instance)) | ((repeat (first | exact Fr.refl _ _ | assumption | with_reducible apply Fr.allocSet | with_reducible apply Fr.alloc | with_reducible apply Fr.drewN | with_reducible apply Fr.drew | ((with_reducible apply Fr.set); rotate_left; (right; ((try simp only [alloc_size]); omega))) | (refine Fr.trans ?_ (by assumption)))); done))); (case hy => (rintro wf ⟨hwa, hwb, hwc⟩; (((apply opv_fieldAddr); exact rfl)))))
    ((apply (tk 4)); (case hi => exact rfl); (case hf => kernel_rfl); (case hS => (first | exact trivial | assumption | infer_instance | (refine ⟨?_, ?_, ?_⟩ <;> (first | assumption | infer_instance)) | ((repeat (first | exact Fr.refl _ _ | assumption | with_reducible apply Fr.allocSet | with_reducible apply Fr.alloc | with_reducible apply Fr.drewN | with_reducible apply Fr.drew | ((with_reducible apply Fr.set); rotate_left; (right; ((try simp only [alloc_size]); omega))) | (refine Fr.trans ?_ (by assumption)))); done))); (case hy => (rintro wf ⟨hwa, hwb, hwc⟩; (((apply opv_loadb1); exact rfl; exact rfl; (first | assumption | infer_instance); exact rfl)))))
    ((apply (tk 5)); (case hi => exact rfl); (case hf => kernel_rfl); (case hS => (first | exact trivial | assumption | infer_instance | (refine ⟨?_, ?_, ?_⟩ <;> (first | assumption | infer_instance)) | ((repeat (first | exact Fr.refl _ _ | assumption | with_reducible apply Fr.allocSet | with_reducible apply Fr.alloc | with_reducible apply Fr.drewN | with_reducible apply Fr.drew | ((with_reducible apply Fr.set); rotate_left; (right; ((try simp only [alloc_size]); omega))) | (refine Fr.trans ?_ (by assumption)))); done))); (case hy => (rintro wf ⟨hwa, hwb, hwc⟩; (((apply opv_loadb1); exact rfl; exact rfl; (first | assumption | infer_instance); exact rfl)))))
    ((apply (tk 6)); (case hi => exact rfl); (case hf => kernel_rfl); (case hS => (first | exact trivial | assumption | infer_instance | (refine ⟨?_, ?_, ?_⟩ <;> (first | assumption | infer_instance)) | ((repeat (first | exact Fr.refl _ _ | assumption | with_reducible apply Fr.allocSet | with_reducible apply Fr.alloc | with_reducible apply Fr.drewN | with_reducible apply Fr.drew | ((with_reducible apply Fr.set); rotate_left; (right; ((try simp only [alloc_size]); omega))) | (refine Fr.trans ?_ (by assumption)))); done))); (case hy => (rintro wf ⟨hwa, hwb, hwc⟩; (((apply opv_E); exact rfl)))))
    ((apply (tk 7)); (case hi => exact rfl); (case hf => kernel_rfl); (case hS => (first | exact trivial | assumption | infer_instance | (refine ⟨?_, ?_, ?_⟩ <;> (first | assumption | infer_instance)) | ((repeat (first | exact Fr.refl _ _ | assumption | with_reducible apply Fr.allocSet | with_reducible apply Fr.alloc | with_reducible apply Fr.drewN | with_reducible apply Fr.drew | ((with_reducible apply Fr.set); rotate_left; (right; ((try simp only [alloc_size]); omega))) | (refine Fr.trans ?_ (by assumption)))); done))); (case hy => (rintro wf ⟨hwa, hwb, hwc⟩; (((apply opv_fieldAddr); exact rfl)))))
    (apply (tk 8)); (case hi => exact rfl); (case hf => kernel_rfl); (case hS => (first | exact trivial | assumption | infer_instance | (refine ⟨?_, ?_, ?_⟩ <;> (first | assumption | infer_instance)) | ((repeat (first | exact Fr.refl _ _ | assumption | with_reducible apply Fr.allocSet | with_reducible apply Fr.alloc | with_reducible apply Fr.drewN | with_reducible apply Fr.drew | ((with_reducible apply Fr.set); rotate_left; (right; ((try simp only [alloc_size]); omega))) | (refine Fr.trans ?_ (by assumption)))); done))); (case hy => (rintro wf ⟨hwa, hwb, u, v, hwc⟩; (((apply opv_loadb1); exact rfl; exact rfl; (first | assumption | infer_instance); exact rfl))))
    ((apply (tk 9)); (case hi => exact rfl); (case hf => kernel_rfl); (case hS => (first | exact trivial | assumption | infer_instance | (refine ⟨?_, ?_, ?_⟩ <;> (first | assumption | infer_instance)) | ((repeat (first | exact Fr.refl _ _ | assumption | with_reducible apply Fr.allocSet | with_reducible apply Fr.alloc | with_reducible apply Fr.drewN | with_reducible apply Fr.drew | ((with_reducible apply Fr.set); rotate_left; (right; ((try simp only [alloc_size]); omega))) | (refine Fr.trans ?_ (by assumption)))); done))); (case hy => (rintro wf ⟨hwa, hwb, hwc⟩; (((apply opv_lenc); exact rfl)))))
    refine tkc 10 rfl (by kernel_rfl) (by (first | exact trivial | assumption | infer_instance | (refine ⟨?_, ?_, ?_⟩ <;> (first | assumption | infer_instance)) | ((repeat (first | exact Fr.refl _ _ | assumption | with_reducible apply Fr.allocSet | with_reducible apply Fr.alloc | with_reducible apply Fr.drewN | with_reducible apply Fr.drew | ((with_reducible apply Fr.set); rotate_left; (right; ((try simp only [alloc_size]); omega))) | (refine Fr.trans ?_ (by assumption)))); done))) rfl ((pick_exact dd.2.1 P.length _ (by omega) (by omega)).mono (R' := fun u w' => w4.drew = w' ∧ u = .int .i64 ((pickN dd.2.1 P.length : Nat) : Int)) (fun u w' ⟨g1, g2⟩ => ⟨g1, by rw [g2, hpk]⟩)) rfl ?_
    rintro _ _ ⟨rfl, rfl⟩
    refine tkc 11 rfl (by kernel_rfl) (by (first | exact trivial | assumption | infer_instance | (refine ⟨?_, ?_, ?_⟩ <;> (first | assumption | infer_instance)) | ((repeat (first | exact Fr.refl _ _ | assumption | with_reducible apply Fr.allocSet | with_reducible apply Fr.alloc | with_reducible apply Fr.drewN | with_reducible apply Fr.drew | ((with_reducible apply Fr.set); rotate_left; (right; ((try simp only [alloc_size]); omega))) | (refine Fr.trans ?_ (by assumption)))); done))) rfl (tn_spawn t4d a4 (pickN dd.2.1 P.length) (by omega) (fun j y hj hy => by cases hj; rw [hx] at hy; cases hy; exact h3)) rfl ?_
    rintro _ w6 ⟨rfl, K6, lv6, tv6, wt6, ts6, t6, hK6, F6, hr6⟩
    have FF6 : Fr (LF X K) w w6 := FF.trans' (Fr.from_drew F6) hLF
    have hx6 : ts6[i]? = some x := by rw [hr6 i (List.getElem?_eq_some_iff.1 hx).1]; exact hx
    have a6 := a4.spawn (pickN dd.2.1 P.length)
    obtain ⟨hta6, hev6⟩ := spawn_keep hta4 (pickN dd.2.1 P.length)
    have hX46 : KX w K K6 := hX4.trans hK6 FF.size
    have hel6 : (S1.spawn (pickN dd.2.1 P.length)).1.ev.length ≤ 100001 := by rw [hev6]; exact hev4
    generalize S1.spawn (pickN dd.2.1 P.length) = r6 at *
    have bw6 := t6.B.bw
    have bd6 := t6.d
    rw [eE] at bd6
    have hE6 : ∃ u v, Blk w6.heap wb [.pointer (some ⟨rb, 0, none⟩), .slice va P.length vc, u, v] 60 := ⟨_, _, t6.L.hw⟩
    refine tkc 12 rfl (by kernel_rfl) (by (first | exact trivial | assumption | infer_instance | (refine ⟨?_, ?_, ?_⟩ <;> (first | assumption | infer_instance)) | ((repeat (first | exact Fr.refl _ _ | assumption | with_reducible apply Fr.allocSet | with_reducible apply Fr.alloc | with_reducible apply Fr.drewN | with_reducible apply Fr.drew | ((with_reducible apply Fr.set); rotate_left; (right; ((try simp only [alloc_size]); omega))) | (refine Fr.trans ?_ (by assumption)))); done))) rfl (tn_note t6 i (-3) r6.2 (by omega)) rfl ?_
    rintro _ w7 ⟨we7, t7, F7⟩
    have bw7 := t7.B.bw
    have bd7 := t7.d
    rw [eE] at bd7
    have hE7 : ∃ u v, Blk w7.heap wb [.pointer (some ⟨rb, 0, none⟩), .slice va P.length vc, u, v] 60 := ⟨_, _, t7.L.hw⟩
    refine vA_done (by kernel_rfl) (by (first | exact trivial | assumption | infer_instance | (refine ⟨?_, ?_, ?_⟩ <;> (first | assumption | infer_instance)) | ((repeat (first | exact Fr.refl _ _ | assumption | with_reducible apply Fr.allocSet | with_reducible apply Fr.alloc | with_reducible apply Fr.drewN | with_reducible apply Fr.drew | ((with_reducible apply Fr.set); rotate_left; (right; ((try simp only [alloc_size]); omega))) | (refine Fr.trans ?_ (by assumption)))); done))) ?_
    clear bw4 bt4 bp4 ba4 bd4 hw4 t4 t4d hE4 FF bw6 bd6 hE6
    have bt7 := t7.B.bt
    (apply seqP_normal; apply vC_region; ((apply vL_val); (case h => ((apply opv_loadb1); exact rfl; exact rfl; (first | assumption | infer_instance); exact rfl))); ((apply vL_val); (case h => ((apply opv_E); exact rfl))))
    refine vL_callF rfl (tn_yield t7 hx6 (a6.note _ _ _) h1 h2 h3 hta6) rfl ?_
    rintro _ w8 ⟨rfl, sb8, qb8, lv8, tv8, wt8, we8, ts8, y8, t8, hy8, y1, y2, F8⟩
    (apply vL_nil; apply blockP_normal)
    (first | apply ret0 | apply ret0n)
    have hLF6 : ∀ k, LF X K6 k → LF X K k ∨ w.heap.size ≤ k := fun k hk => .inl ⟨hk.1, fun h => hk.2 (hX46.1 k h)⟩
    exact t8.turned ((FF6.trans' F7 hLF6).trans' F8 hLF6) hy8 hX46 y1 y2
  by_cases k5 : dd.1 = 5
  · have e5 : AS.act (P.map (·.2)) S1 i rest dd = (S1.ready i).note i (-1) 151 := by unfold AS.act; rw [if_neg k1, if_neg k2, if_neg k3, if_neg k4, if_pos k5]
    rw [e5]
    ((refine vC_cond_dec rfl (fun h => by omega) (fun _ => ?_)); apply vC_seq; apply vC_region; (iterate 2 (((apply vL_val); (case h => ((apply opv_E); exact rfl))))); apply vL_nil; apply seqP_normal; (refine vC_cond_dec rfl (fun h => by omega) (fun _ => ?_)); apply vC_seq; apply vC_region; (iterate 2 (((apply vL_val); (case h => ((apply opv_E); exact rfl))))); apply vL_nil; apply seqP_normal; (refine vC_cond_dec rfl (fun h => by omega) (fun _ => ?_)); apply vC_seq; apply vC_region; (iterate 2 (((apply vL_val); (case h => ((apply opv_E); exact rfl))))); apply vL_nil; apply seqP_normal; (refine vC_cond_dec rfl (fun h => by omega) (fun _ => ?_)); apply vC_seq; apply vC_region; (iterate 2 (((apply vL_val); (case h => ((apply opv_E); exact rfl))))); apply vL_nil; apply seqP_normal; (refine vC_cond_dec rfl (fun _ => ?_) (fun h => by omega)); apply vC_seq; apply vC_region; ((apply vL_val); (case h => ((apply opv_loadb1); exact rfl; exact rfl; (first | assumption | infer_instance); exact rfl))); ((apply vL_val); (case h => ((apply opv_E); exact rfl))))
    refine vL_callF rfl (tn_yield t4 hx a4 h1 h2 h3 hta4) rfl ?_
    rintro _ w5 ⟨rfl, sb5, qb5, lv5, tv5, wt5, we5, ts5, y5, t5, hy5, y1, y2, F5⟩
    have bw5 := t5.B.bw
    have bt5 := t5.B.bt
    have t5d := t5.frN (show Fr No w5 w5.drew by (repeat (first | exact Fr.refl _ _ | assumption | with_reducible apply Fr.allocSet | with_reducible apply Fr.alloc | with_reducible apply Fr.drewN | with_reducible apply Fr.drew | ((with_reducible apply Fr.set); rotate_left; (right; ((try simp only [alloc_size]); omega))) | (refine Fr.trans ?_ (by assumption)))))
    have F5d := FF.trans' F5 hLF
    have hev5 : (S1.ready i).ev = S1.ev := by unfold AS.ready; rw [hta4]
    clear bw4 bt4 bp4 ba4 bd4 hw4 t4 FF
    (apply vL_nil; apply seqP_normal)
    refine vC_draw' ((fun wf => Blk wf.heap wx [pt wb] 54 ∧ Blk wf.heap tx [pt x.1] 64)) (by (first | exact trivial | assumption | infer_instance | (refine ⟨?_, ?_⟩ <;> (first | assumption | infer_instance)) | ((repeat (first | exact Fr.refl _ _ | assumption | with_reducible apply Fr.allocSet | with_reducible apply Fr.alloc | with_reducible apply Fr.drewN | with_reducible apply Fr.drew | ((with_reducible apply Fr.set); rotate_left; (right; ((try simp only [alloc_size]); omega))) | (refine Fr.trans ?_ (by assumption)))); done))) ?_
    ((apply (tk 0)); (case hi => exact rfl); (case hf => kernel_rfl); (case hS => (first | exact trivial | assumption | infer_instance | (refine ⟨?_, ?_⟩ <;> (first | assumption | infer_instance)) | ((repeat (first | exact Fr.refl _ _ | assumption | with_reducible apply Fr.allocSet | with_reducible apply Fr.alloc | with_reducible apply Fr.drewN | with_reducible apply Fr.drew | ((with_reducible apply Fr.set); rotate_left; (right; ((try simp only [alloc_size]); omega))) | (refine Fr.trans ?_ (by assumption)))); done))); (case hy => (rintro wf ⟨hwa, hwb⟩; (((apply opv_loadb1); exact rfl; exact rfl; (first | assumption | infer_instance); exact rfl)))))
    ((apply (tk 1)); (case hi => exact rfl); (case hf => kernel_rfl); (case hS => (first | exact trivial | assumption | infer_instance | (refine ⟨?_, ?_⟩ <;> (first | assumption | infer_instance)) | ((repeat (first | exact Fr.refl _ _ | assumption | with_reducible apply Fr.allocSet | with_reducible apply Fr.alloc | with_reducible apply Fr.drewN | with_reducible apply Fr.drew | ((with_reducible apply Fr.set); rotate_left; (right; ((try simp only [alloc_size]); omega))) | (refine Fr.trans ?_ (by assumption)))); done))); (case hy => (rintro wf ⟨hwa, hwb⟩; (((apply opv_E); exact rfl)))))
    ((apply (tk 2)); (case hi => exact rfl); (case hf => kernel_rfl); (case hS => (first | exact trivial | assumption | infer_instance | (refine ⟨?_, ?_⟩ <;> (first | assumption | infer_instance)) | ((repeat (first | exact Fr.refl _ _ | assumption | with_reducible apply Fr.allocSet | with_reducible apply Fr.alloc | with_reducible apply Fr.drewN | with_reducible apply Fr.drew | ((with_reducible apply Fr.set); rotate_left; (right; ((try simp only [alloc_size]); omega))) | (refine Fr.trans ?_ (by assumption)))); done))); (case hy => (rintro wf ⟨hwa, hwb⟩; (((apply opv_loadb1); exact rfl; exact rfl; (first | assumption | infer_instance); exact rfl)))))
    ((apply (tk 3)); (case hi => exact rfl); (case hf => kernel_rfl); (case hS => (first | exact trivial | assumption | infer_instance | (refine ⟨?_, ?_⟩ <;> (first | assumption | infer_instance)) | ((repeat (first | exact Fr.refl _ _ | assumption | with_reducible apply Fr.allocSet | with_reducible apply Fr.alloc | with_reducible apply Fr.drewN | with_reducible apply Fr.drew | ((with_reducible apply Fr.set); rotate_left; (right; ((try simp only [alloc_size]); omega))) | (refine Fr.trans ?_ (by assumption)))); done))); (case hy => (rintro wf ⟨hwa, hwb⟩; (((apply opv_E); exact rfl)))))
    refine tkc 4 rfl (by kernel_rfl) (by (first | exact trivial | assumption | infer_instance | (refine ⟨?_, ?_⟩ <;> (first | assumption | infer_instance)) | ((repeat (first | exact Fr.refl _ _ | assumption | with_reducible apply Fr.allocSet | with_reducible apply Fr.alloc | with_reducible apply Fr.drewN | with_reducible apply Fr.drew | ((with_reducible apply Fr.set); rotate_left; (right; ((try simp only [alloc_size]); omega))) | (refine Fr.trans ?_ (by assumption)))); done))) rfl (tn_again t5d hy5 y1 a4.ready _ _) rfl ?_
    rintro _ _ ⟨rfl, rfl⟩
    refine tkc 5 rfl (by kernel_rfl) (by (first | exact trivial | assumption | infer_instance | (refine ⟨?_, ?_⟩ <;> (first | assumption | infer_instance)) | ((repeat (first | exact Fr.refl _ _ | assumption | with_reducible apply Fr.allocSet | with_reducible apply Fr.alloc | with_reducible apply Fr.drewN | with_reducible apply Fr.drew | ((with_reducible apply Fr.set); rotate_left; (right; ((try simp only [alloc_size]); omega))) | (refine Fr.trans ?_ (by assumption)))); done))) rfl (tn_note t5d i (-1) 151 (by rw [hev5]; omega)) rfl ?_
    rintro _ w7 ⟨we7, t7, F7⟩
    have bw7 := t7.B.bw
    have bt7 := t7.B.bt
    refine vA_done (by kernel_rfl) (by (first | exact trivial | assumption | infer_instance | (refine ⟨?_, ?_⟩ <;> (first | assumption | infer_instance)) | ((repeat (first | exact Fr.refl _ _ | assumption | with_reducible apply Fr.allocSet | with_reducible apply Fr.alloc | with_reducible apply Fr.drewN | with_reducible apply Fr.drew | ((with_reducible apply Fr.set); rotate_left; (right; ((try simp only [alloc_size]); omega))) | (refine Fr.trans ?_ (by assumption)))); done))) ?_
    (apply blockP_normal)
    (first | apply ret0 | apply ret0n)
    exact t7.turned (F5d.trans' (Fr.from_drew F7) hLF) hy5 hX4 y1 y2
  by_cases k6 : dd.1 = 6
  · have e6 : AS.act (P.map (·.2)) S1 i rest dd = (S1.note i (-4) (if 0 < dd.2.1 then rest % dd.2.1 else 0)).ready i := by unfold AS.act; rw [if_neg k1, if_neg k2, if_neg k3, if_neg k4, if_neg k5, if_pos k6]
    rw [e6]
    have hE4 : ∃ u v, Blk w4.drew.heap wb [.pointer (some ⟨rb, 0, none⟩), .slice va P.length vc, u, v] 60 := ⟨_, _, inferInstance⟩
    have t4d := t4.frN (show Fr No w4 w4.drew by (repeat (first | exact Fr.refl _ _ | assumption | with_reducible apply Fr.allocSet | with_reducible apply Fr.alloc | with_reducible apply Fr.drewN | with_reducible apply Fr.drew | ((with_reducible apply Fr.set); rotate_left; (right; ((try simp only [alloc_size]); omega))) | (refine Fr.trans ?_ (by assumption)))))
    ((refine vC_cond_dec rfl (fun h => by omega) (fun _ => ?_)); apply vC_seq; apply vC_region; (iterate 2 (((apply vL_val); (case h => ((apply opv_E); exact rfl))))); apply vL_nil; apply seqP_normal; (refine vC_cond_dec rfl (fun h => by omega) (fun _ => ?_)); apply vC_seq; apply vC_region; (iterate 2 (((apply vL_val); (case h => ((apply opv_E); exact rfl))))); apply vL_nil; apply seqP_normal; (refine vC_cond_dec rfl (fun h => by omega) (fun _ => ?_)); apply vC_seq; apply vC_region; (iterate 2 (((apply vL_val); (case h => ((apply opv_E); exact rfl))))); apply vL_nil; apply seqP_normal; (refine vC_cond_dec rfl (fun h => by omega) (fun _ => ?_)); apply vC_seq; apply vC_region; (iterate 2 (((apply vL_val); (case h => ((apply opv_E); exact rfl))))); apply vL_nil; apply seqP_normal; (refine vC_cond_dec rfl (fun h => by omega) (fun _ => ?_)); apply vC_seq; apply vC_region; (iterate 2 (((apply vL_val); (case h => ((apply opv_E); exact rfl))))); apply vL_nil; apply seqP_normal; (refine vC_cond_dec rfl (fun _ => ?_) (fun h => by omega)); apply vC_seq)
    refine vC_draw' ((fun wf => Blk wf.heap wx [pt wb] 54 ∧ Blk wf.heap db [.int .i64 dd.1, .int .i64 dd.2.1, .int .i64 dd.2.2] 90 ∧ (∃ u v, Blk wf.heap wb [.pointer (some ⟨rb, 0, none⟩), .slice va P.length vc, u, v] 60))) (by (first | exact trivial | assumption | infer_instance | (refine ⟨?_, ?_, ?_⟩ <;> (first | assumption | infer_instance)) | ((repeat (first | exact Fr.refl _ _ | assumption | with_reducible apply Fr.allocSet | with_reducible apply Fr.alloc | with_reducible apply Fr.drewN | with_reducible apply Fr.drew | ((with_reducible apply Fr.set); rotate_left; (right; ((try simp only [alloc_size]); omega))) | (refine Fr.trans ?_ (by assumption)))); done))) ?_
    ((apply (tk 0)); (case hi => exact rfl); (case hf => kernel_rfl); (case hS => (first | exact trivial | assumption | infer_instance | (refine ⟨?_, ?_, ?_⟩ <;> (first | assumption | infer_instance)) | ((repeat (first | exact Fr.refl _ _ | assumption | with_reducible apply Fr.allocSet | with_reducible apply Fr.alloc | with_reducible apply Fr.drewN | with_reducible apply Fr.drew | ((with_reducible apply Fr.set); rotate_left; (right; ((try simp only [alloc_size]); omega))) | (refine Fr.trans ?_ (by assumption)))); done))); (case hy => (rintro wf ⟨hwa, hwb, hwc⟩; (((apply opv_loadb1); exact rfl; exact rfl; (first | assumption | infer_instance); exact rfl)))))
    ((apply (tk 1)); (case hi => exact rfl); (case hf => kernel_rfl); (case hS => (first | exact trivial | assumption | infer_instance | (refine ⟨?_, ?_, ?_⟩ <;> (first | assumption | infer_instance)) | ((repeat (first | exact Fr.refl _ _ | assumption | with_reducible apply Fr.allocSet | with_reducible apply Fr.alloc | with_reducible apply Fr.drewN | with_reducible apply Fr.drew | ((with_reducible apply Fr.set); rotate_left; (right; ((try simp only [alloc_size]); omega))) | (refine Fr.trans ?_ (by assumption)))); done))); (case hy => (rintro wf ⟨hwa, hwb, hwc⟩; (((apply opv_E); exact rfl)))))
    ((apply (tk 2)); (case hi => exact rfl); (case hf => kernel_rfl); (case hS => (first | exact trivial | assumption | infer_instance | (refine ⟨?_, ?_, ?_⟩ <;> (first | assumption | infer_instance)) | ((repeat (first | exact Fr.refl _ _ | assumption | with_reducible apply Fr.allocSet | with_reducible apply Fr.alloc | with_reducible apply Fr.drewN | with_reducible apply Fr.drew | ((with_reducible apply Fr.set); rotate_left; (right; ((try simp only [alloc_size]); omega))) | (refine Fr.trans ?_ (by assumption)))); done))); (case hy => (rintro wf ⟨hwa, hwb, hwc⟩; (((apply opv_loadb1); exact rfl; exact rfl; (first | assumption | infer_instance); exact rfl)))))
    ((apply (tk 3)); (case hi => exact rfl); (case hf => kernel_rfl); (case hS => (first | exact trivial | assumption | infer_instance | (refine ⟨?_, ?_, ?_⟩ <;> (first | assumption | infer_instance)) | ((repeat (first | exact Fr.refl _ _ | assumption | with_reducible apply Fr.allocSet | with_reducible apply Fr.alloc | with_reducible apply Fr.drewN | with_reducible apply Fr.drew | ((with_reducible apply Fr.set); rotate_left; (right; ((try simp only [alloc_size]); omega))) | (refine Fr.trans ?_ (by assumption)))); done))); (case hy => (rintro wf ⟨hwa, hwb, hwc⟩; (((apply opv_E); exact rfl)))))
    ((apply (tk 4)); (case hi => exact rfl); (case hf => kernel_rfl); (case hS => (first | exact trivial | assumption | infer_instance | (refine ⟨?_, ?_, ?_⟩ <;> (first | assumption | infer_instance)) | ((repeat (first | exact Fr.refl _ _ | assumption | with_reducible apply Fr.allocSet | with_reducible apply Fr.alloc | with_reducible apply Fr.drewN | with_reducible apply Fr.drew | ((with_reducible apply Fr.set); rotate_left; (right; ((try simp only [alloc_size]); omega))) | (refine Fr.trans ?_ (by assumption)))); done))); (case hy => (rintro wf ⟨hwa, hwb, hwc⟩; (((apply opv_fieldAddr); exact rfl)))))
    (apply (tk 5)); (case hi => exact rfl); (case hf => kernel_rfl); (case hS => (first | exact trivial | assumption | infer_instance | (refine ⟨?_, ?_, ?_⟩ <;> (first | assumption | infer_instance)) | ((repeat (first | exact Fr.refl _ _ | assumption | with_reducible apply Fr.allocSet | with_reducible apply Fr.alloc | with_reducible apply Fr.drewN | with_reducible apply Fr.drew | ((with_reducible apply Fr.set); rotate_left; (right; ((try simp only [alloc_size]); omega))) | (refine Fr.trans ?_ (by assumption)))); done))); (case hy => (rintro wf ⟨hwa, hwb, u, v, hwc⟩; (((apply opv_loadb1); exact rfl; exact rfl; (first | assumption | infer_instance); exact rfl))))
    ((apply (tk 6)); (case hi => exact rfl); (case hf => kernel_rfl); (case hS => (first | exact trivial | assumption | infer_instance | (refine ⟨?_, ?_, ?_⟩ <;> (first | assumption | infer_instance)) | ((repeat (first | exact Fr.refl _ _ | assumption | with_reducible apply Fr.allocSet | with_reducible apply Fr.alloc | with_reducible apply Fr.drewN | with_reducible apply Fr.drew | ((with_reducible apply Fr.set); rotate_left; (right; ((try simp only [alloc_size]); omega))) | (refine Fr.trans ?_ (by assumption)))); done))); (case hy => (rintro wf ⟨hwa, hwb, hwc⟩; (((apply opv_fieldAddr); exact rfl)))))
    ((apply (tk 7)); (case hi => exact rfl); (case hf => kernel_rfl); (case hS => (first | exact trivial | assumption | infer_instance | (refine ⟨?_, ?_, ?_⟩ <;> (first | assumption | infer_instance)) | ((repeat (first | exact Fr.refl _ _ | assumption | with_reducible apply Fr.allocSet | with_reducible apply Fr.alloc | with_reducible apply Fr.drewN | with_reducible apply Fr.drew | ((with_reducible apply Fr.set); rotate_left; (right; ((try simp only [alloc_size]); omega))) | (refine Fr.trans ?_ (by assumption)))); done))); (case hy => (rintro wf ⟨hwa, hwb, hwc⟩; (((apply opv_loadb1); exact rfl; exact rfl; (first | assumption | infer_instance); exact rfl)))))
    refine tkc 8 rfl (by kernel_rfl) (by (first | exact trivial | assumption | infer_instance | (refine ⟨?_, ?_, ?_⟩ <;> (first | assumption | infer_instance)) | ((repeat (first | exact Fr.refl _ _ | assumption | with_reducible apply Fr.allocSet | with_reducible apply Fr.alloc | with_reducible apply Fr.drewN | with_reducible apply Fr.drew | ((with_reducible apply Fr.set); rotate_left; (right; ((try simp only [alloc_size]); omega))) | (refine Fr.trans ?_ (by assumption)))); done))) rfl (tn_choice t4d dd.2.1 hrest hda) rfl ?_
    rintro _ w6 ⟨rfl, rest6, t6, F6⟩
    have FF6 : Fr (LF X K) w w6 := FF.trans' (Fr.from_drew F6) hLF
    have hx6 := hx
    have a6 := a4
    have hta6 := hta4
    obtain ⟨K6, hK6e⟩ : ∃ K6, K6 = K4 := ⟨_, rfl⟩
    have hX46 := hX4
    have bw6 := t6.B.bw
    have bd6 := t6.d
    rw [eE] at bd6
    have hE6 : ∃ u v, Blk w6.heap wb [.pointer (some ⟨rb, 0, none⟩), .slice va P.length vc, u, v] 60 := ⟨_, _, t6.L.hw⟩
    refine tkc 9 rfl (by kernel_rfl) (by (first | exact trivial | assumption | infer_instance | (refine ⟨?_, ?_, ?_⟩ <;> (first | assumption | infer_instance)) | ((repeat (first | exact Fr.refl _ _ | assumption | with_reducible apply Fr.allocSet | with_reducible apply Fr.alloc | with_reducible apply Fr.drewN | with_reducible apply Fr.drew | ((with_reducible apply Fr.set); rotate_left; (right; ((try simp only [alloc_size]); omega))) | (refine Fr.trans ?_ (by assumption)))); done))) rfl (tn_note t6 i (-4) (if 0 < dd.2.1 then rest % dd.2.1 else 0) (by omega)) rfl ?_
    rintro _ w7 ⟨we7, t7, F7⟩
    have bw7 := t7.B.bw
    have bd7 := t7.d
    rw [eE] at bd7
    have hE7 : ∃ u v, Blk w7.heap wb [.pointer (some ⟨rb, 0, none⟩), .slice va P.length vc, u, v] 60 := ⟨_, _, t7.L.hw⟩
    refine vA_done (by kernel_rfl) (by (first | exact trivial | assumption | infer_instance | (refine ⟨?_, ?_, ?_⟩ <;> (first | assumption | infer_instance)) | ((repeat (first | exact Fr.refl _ _ | assumption | with_reducible apply Fr.allocSet | with_reducible apply Fr.alloc | with_reducible apply Fr.drewN | with_reducible apply Fr.drew | ((with_reducible apply Fr.set); rotate_left; (right; ((try simp only [alloc_size]); omega))) | (refine Fr.trans ?_ (by assumption)))); done))) ?_
    rw [← hK6e] at t7 F7 hX46
    clear bw4 bt4 bp4 ba4 bd4 hw4 t4 t4d hE4 FF bw6 bd6 hE6
    have bt7 := t7.B.bt
    (apply seqP_normal; apply vC_region; ((apply vL_val); (case h => ((apply opv_loadb1); exact rfl; exact rfl; (first | assumption | infer_instance); exact rfl))); ((apply vL_val); (case h => ((apply opv_E); exact rfl))))
    refine vL_callF rfl (tn_yield t7 hx6 (a6.note _ _ _) h1 h2 h3 hta6) rfl ?_
    rintro _ w8 ⟨rfl, sb8, qb8, lv8, tv8, wt8, we8, ts8, y8, t8, hy8, y1, y2, F8⟩
    (apply vL_nil; apply blockP_normal)
    (first | apply ret0 | apply ret0n)
    have hLF6 : ∀ k, LF X K6 k → LF X K k ∨ w.heap.size ≤ k := fun k hk => .inl ⟨hk.1, fun h => hk.2 (hX46.1 k h)⟩
    exact t8.turned ((FF6.trans' F7 hLF6).trans' F8 hLF6) hy8 hX46 y1 y2
  by_cases k7 : dd.1 = 7
  · have e7 : AS.act (P.map (·.2)) S1 i rest dd = (S1.note i (-5) 152).ready i := by unfold AS.act; rw [if_neg k1, if_neg k2, if_neg k3, if_neg k4, if_neg k5, if_neg k6, if_pos k7]
    rw [e7]
    have t4d := t4.frN (show Fr No w4 w4.drew by (repeat (first | exact Fr.refl _ _ | assumption | with_reducible apply Fr.allocSet | with_reducible apply Fr.alloc | with_reducible apply Fr.drewN | with_reducible apply Fr.drew | ((with_reducible apply Fr.set); rotate_left; (right; ((try simp only [alloc_size]); omega))) | (refine Fr.trans ?_ (by assumption)))))
    have hwk : S1.wake i dd.2.2 = (S1, 152) := by
      unfold AS.wake
      rw [if_pos (by omega), Int.toNat_natCast, hta4]
      rfl
    ((refine vC_cond_dec rfl (fun h => by omega) (fun _ => ?_)); apply vC_seq; apply vC_region; (iterate 2 (((apply vL_val); (case h => ((apply opv_E); exact rfl))))); apply vL_nil; apply seqP_normal; (refine vC_cond_dec rfl (fun h => by omega) (fun _ => ?_)); apply vC_seq; apply vC_region; (iterate 2 (((apply vL_val); (case h => ((apply opv_E); exact rfl))))); apply vL_nil; apply seqP_normal; (refine vC_cond_dec rfl (fun h => by omega) (fun _ => ?_)); apply vC_seq; apply vC_region; (iterate 2 (((apply vL_val); (case h => ((apply opv_E); exact rfl))))); apply vL_nil; apply seqP_normal; (refine vC_cond_dec rfl (fun h => by omega) (fun _ => ?_)); apply vC_seq; apply vC_region; (iterate 2 (((apply vL_val); (case h => ((apply opv_E); exact rfl))))); apply vL_nil; apply seqP_normal; (refine vC_cond_dec rfl (fun h => by omega) (fun _ => ?_)); apply vC_seq; apply vC_region; (iterate 2 (((apply vL_val); (case h => ((apply opv_E); exact rfl))))); apply vL_nil; apply seqP_normal; (refine vC_cond_dec rfl (fun h => by omega) (fun _ => ?_)); apply vC_seq; apply vC_region; (iterate 2 (((apply vL_val); (case h => ((apply opv_E); exact rfl))))); apply vL_nil; apply seqP_normal; (refine vC_cond_dec rfl (fun _ => ?_) (fun h => by omega)); apply vC_seq)
    refine vC_draw' ((fun wf => Blk wf.heap wx [pt wb] 54 ∧ Blk wf.heap tx [pt x.1] 64 ∧ Blk wf.heap db [.int .i64 dd.1, .int .i64 dd.2.1, .int .i64 dd.2.2] 90)) (by (first | exact trivial | assumption | infer_instance | (refine ⟨?_, ?_, ?_⟩ <;> (first | assumption | infer_instance)) | ((repeat (first | exact Fr.refl _ _ | assumption | with_reducible apply Fr.allocSet | with_reducible apply Fr.alloc | with_reducible apply Fr.drewN | with_reducible apply Fr.drew | ((with_reducible apply Fr.set); rotate_left; (right; ((try simp only [alloc_size]); omega))) | (refine Fr.trans ?_ (by assumption)))); done))) ?_
    ((apply (tk 0)); (case hi => exact rfl); (case hf => kernel_rfl); (case hS => (first | exact trivial | assumption | infer_instance | (refine ⟨?_, ?_, ?_⟩ <;> (first | assumption | infer_instance)) | ((repeat (first | exact Fr.refl _ _ | assumption | with_reducible apply Fr.allocSet | with_reducible apply Fr.alloc | with_reducible apply Fr.drewN | with_reducible apply Fr.drew | ((with_reducible apply Fr.set); rotate_left; (right; ((try simp only [alloc_size]); omega))) | (refine Fr.trans ?_ (by assumption)))); done))); (case hy => (rintro wf ⟨hwa, hwb, hwc⟩; (((apply opv_loadb1); exact rfl; exact rfl; (first | assumption | infer_instance); exact rfl)))))
    ((apply (tk 1)); (case hi => exact rfl); (case hf => kernel_rfl); (case hS => (first | exact trivial | assumption | infer_instance | (refine ⟨?_, ?_, ?_⟩ <;> (first | assumption | infer_instance)) | ((repeat (first | exact Fr.refl _ _ | assumption | with_reducible apply Fr.allocSet | with_reducible apply Fr.alloc | with_reducible apply Fr.drewN | with_reducible apply Fr.drew | ((with_reducible apply Fr.set); rotate_left; (right; ((try simp only [alloc_size]); omega))) | (refine Fr.trans ?_ (by assumption)))); done))); (case hy => (rintro wf ⟨hwa, hwb, hwc⟩; (((apply opv_E); exact rfl)))))
    ((apply (tk 2)); (case hi => exact rfl); (case hf => kernel_rfl); (case hS => (first | exact trivial | assumption | infer_instance | (refine ⟨?_, ?_, ?_⟩ <;> (first | assumption | infer_instance)) | ((repeat (first | exact Fr.refl _ _ | assumption | with_reducible apply Fr.allocSet | with_reducible apply Fr.alloc | with_reducible apply Fr.drewN | with_reducible apply Fr.drew | ((with_reducible apply Fr.set); rotate_left; (right; ((try simp only [alloc_size]); omega))) | (refine Fr.trans ?_ (by assumption)))); done))); (case hy => (rintro wf ⟨hwa, hwb, hwc⟩; (((apply opv_loadb1); exact rfl; exact rfl; (first | assumption | infer_instance); exact rfl)))))
    ((apply (tk 3)); (case hi => exact rfl); (case hf => kernel_rfl); (case hS => (first | exact trivial | assumption | infer_instance | (refine ⟨?_, ?_, ?_⟩ <;> (first | assumption | infer_instance)) | ((repeat (first | exact Fr.refl _ _ | assumption | with_reducible apply Fr.allocSet | with_reducible apply Fr.alloc | with_reducible apply Fr.drewN | with_reducible apply Fr.drew | ((with_reducible apply Fr.set); rotate_left; (right; ((try simp only [alloc_size]); omega))) | (refine Fr.trans ?_ (by assumption)))); done))); (case hy => (rintro wf ⟨hwa, hwb, hwc⟩; (((apply opv_fieldAddr); exact rfl)))))
    ((apply (tk 4)); (case hi => exact rfl); (case hf => kernel_rfl); (case hS => (first | exact trivial | assumption | infer_instance | (refine ⟨?_, ?_, ?_⟩ <;> (first | assumption | infer_instance)) | ((repeat (first | exact Fr.refl _ _ | assumption | with_reducible apply Fr.allocSet | with_reducible apply Fr.alloc | with_reducible apply Fr.drewN | with_reducible apply Fr.drew | ((with_reducible apply Fr.set); rotate_left; (right; ((try simp only [alloc_size]); omega))) | (refine Fr.trans ?_ (by assumption)))); done))); (case hy => (rintro wf ⟨hwa, hwb, hwc⟩; (((apply opv_loadb1); exact rfl; exact rfl; (first | assumption | infer_instance); exact rfl)))))
    refine tkc 5 rfl (by kernel_rfl) (by (first | exact trivial | assumption | infer_instance | (refine ⟨?_, ?_, ?_⟩ <;> (first | assumption | infer_instance)) | ((repeat (first | exact Fr.refl _ _ | assumption | with_reducible apply Fr.allocSet | with_reducible apply Fr.alloc | with_reducible apply Fr.drewN | with_reducible apply Fr.drew | ((with_reducible apply Fr.set); rotate_left; (right; ((try simp only [alloc_size]); omega))) | (refine Fr.trans ?_ (by assumption)))); done))) rfl (tn_wake t4d hx hta4 dd.2.2 a4 h2 h3) rfl ?_
    rw [hwk]
    rintro _ w6 ⟨rfl, K6, lv6, ts6, t6, hK6, F6, hm6, hr6⟩
    have FF6 : Fr (LF X K) w w6 := FF.trans' (Fr.from_drew F6) hLF
    have hx6 : ts6[i]? = some x := by rw [hr6 i rfl]; exact hx
    have a6 := a4
    have hta6 := hta4
    have hX46 : KX w K K6 := hX4.trans hK6 FF.size
    have bw6 := t6.B.bw
    have bt6 := t6.B.bt
    have bd6 := t6.d
    rw [eE] at bd6
    refine tkc 6 rfl (by kernel_rfl) (by (first | exact trivial | assumption | infer_instance | (refine ⟨?_, ?_, ?_⟩ <;> (first | assumption | infer_instance)) | ((repeat (first | exact Fr.refl _ _ | assumption | with_reducible apply Fr.allocSet | with_reducible apply Fr.alloc | with_reducible apply Fr.drewN | with_reducible apply Fr.drew | ((with_reducible apply Fr.set); rotate_left; (right; ((try simp only [alloc_size]); omega))) | (refine Fr.trans ?_ (by assumption)))); done))) rfl (tn_note t6 i (-5) 152 (show S1.ev.length ≤ _ by omega)) rfl ?_
    rintro _ w7 ⟨we7, t7, F7⟩
    have bw7 := t7.B.bw
    have bt7 := t7.B.bt
    have bd7 := t7.d
    rw [eE] at bd7
    refine vA_done (by kernel_rfl) (by (first | exact trivial | assumption | infer_instance | (refine ⟨?_, ?_, ?_⟩ <;> (first | assumption | infer_instance)) | ((repeat (first | exact Fr.refl _ _ | assumption | with_reducible apply Fr.allocSet | with_reducible apply Fr.alloc | with_reducible apply Fr.drewN | with_reducible apply Fr.drew | ((with_reducible apply Fr.set); rotate_left; (right; ((try simp only [alloc_size]); omega))) | (refine Fr.trans ?_ (by assumption)))); done))) ?_
    clear bw4 bt4 bp4 ba4 bd4 hw4 t4 t4d FF bw6 bd6
    have bt7 := t7.B.bt
    (apply seqP_normal; apply vC_region; ((apply vL_val); (case h => ((apply opv_loadb1); exact rfl; exact rfl; (first | assumption | infer_instance); exact rfl))); ((apply vL_val); (case h => ((apply opv_E); exact rfl))))
    refine vL_callF rfl (tn_yield t7 hx6 (a6.note _ _ _) h1 h2 h3 hta6) rfl ?_
    rintro _ w8 ⟨rfl, sb8, qb8, lv8, tv8, wt8, we8, ts8, y8, t8, hy8, y1, y2, F8⟩
    (apply vL_nil; apply blockP_normal)
    (first | apply ret0 | apply ret0n)
    have hLF6 : ∀ k, LF X K6 k → LF X K k ∨ w.heap.size ≤ k := fun k hk => .inl ⟨hk.1, fun h => hk.2 (hX46.1 k h)⟩
    exact t8.turned ((FF6.trans' F7 hLF6).trans' F8 hLF6) hy8 hX46 y1 y2
  have e8 : AS.act (P.map (·.2)) S1 i rest dd = S1.setT i ⟨prog, pos + 1, 0, 0⟩ := by unfold AS.act; rw [if_neg k1, if_neg k2, if_neg k3, if_neg k4, if_neg k5, if_neg k6, if_neg k7, hta4]
  rw [e8]
  ((refine vC_cond_dec rfl (fun h => by omega) (fun _ => ?_)); apply vC_seq; apply vC_region; (iterate 2 (((apply vL_val); (case h => ((apply opv_E); exact rfl))))); apply vL_nil; apply seqP_normal; (refine vC_cond_dec rfl (fun h => by omega) (fun _ => ?_)); apply vC_seq; apply vC_region; (iterate 2 (((apply vL_val); (case h => ((apply opv_E); exact rfl))))); apply vL_nil; apply seqP_normal; (refine vC_cond_dec rfl (fun h => by omega) (fun _ => ?_)); apply vC_seq; apply vC_region; (iterate 2 (((apply vL_val); (case h => ((apply opv_E); exact rfl))))); apply vL_nil; apply seqP_normal; (refine vC_cond_dec rfl (fun h => by omega) (fun _ => ?_)); apply vC_seq; apply vC_region; (iterate 2 (((apply vL_val); (case h => ((apply opv_E); exact rfl))))); apply vL_nil; apply seqP_normal; (refine vC_cond_dec rfl (fun h => by omega) (fun _ => ?_)); apply vC_seq; apply vC_region; (iterate 2 (((apply vL_val); (case h => ((apply opv_E); exact rfl))))); apply vL_nil; apply seqP_normal; (refine vC_cond_dec rfl (fun h => by omega) (fun _ => ?_)); apply vC_seq; apply vC_region; (iterate 2 (((apply vL_val); (case h => ((apply opv_E); exact rfl))))); apply vL_nil; apply seqP_normal; (refine vC_cond_dec rfl (fun h => by omega) (fun _ => ?_)); apply vC_skip; apply blockP_normal)
  (first | apply ret0 | apply ret0n)
  exact t4.over FF hx hX4 h1 h3 h2 hta4
end Go.Proofs.Ytaeckjhipmcddaa

set_option maxRecDepth 100000
namespace Go.Proofs.Ytaeckjhipmcddaa
open Go Go.Eng
section
variable {K : Nat → Prop} {w : World} {wb tb prog pos : Nat} {v : Value}
theorem wake_calls (W : RepW w.heap K wb tb v prog pos) (hpos : pos ≤ 1000000) : ∃ (g : FuncId) (cap : List Value), v = .func (.func g) #[] cap.toArray ∧ FnOk Try.prog g ∧ ∀ (why : Int) (R : Value → World → Prop), (Rets Try.prog 64 #[pt wb, pt tb, .int .i64 prog, .int .i64 pos, .int .i64 why] w fun u w' => R (.tuple #[]) w') → Rets Try.prog g (.int .i64 why :: cap).toArray w R := by
  obtain ⟨wx, tx, px, ax, c, rfl, B, I, rfl⟩ := W
  refine ⟨85, [pt wx, pt tx, pt px, pt ax], rfl, inferInstance, fun why R h => ?_⟩
  have bw := B.bw
  have bt := B.bt
  have bp := B.bp
  have ba := I.b
  refine rets_of Try.func85 rfl Try.ntmps85 rfl rfl (by kernel_rfl) ?_
  (apply vC_region; (iterate 4 (((apply vL_val); (case h => ((apply opv_loadb1); exact rfl; exact rfl; (first | assumption | infer_instance); exact rfl))))); ((apply vL_val); (case h => ((apply opv_add); exact rfl; exact rfl; (first | omega | (simp only [List.length_map]; omega))))); ((apply vL_val); (case h => ((apply opv_E); exact rfl))))
  refine vL_callF rfl (h) rfl ?_
  intro u w' hR
  (apply vL_nil)
  (first | apply ret0 | apply ret0n)
  exact hR
theorem next_calls {why : Int} (N : RepN w.heap K wb tb v prog pos why) (hpos : pos ≤ 1000000) : ∃ (g : FuncId) (cap : List Value), v = .func (.func g) #[] cap.toArray ∧ FnOk Try.prog g ∧ ∀ R : Value → World → Prop, (Rets Try.prog 64 #[pt wb, pt tb, .int .i64 prog, .int .i64 pos, .int .i64 why] w fun u w' => R (.tuple #[]) w') → Rets Try.prog g cap.toArray w R := by
  rcases N with ⟨fb, ty, wx, px, rfl, k1, k2, k3, k4, b1, b2, b3, b4, rfl, rfl⟩ | ⟨wx, tx, px, ax, c, rfl, B, I, rfl, rfl⟩ | ⟨fb, yx, u, rfl, k1, b1, W, I⟩
  · refine ⟨71, [pt fb, pt ty], rfl, inferInstance, fun R h => ?_⟩
    have h2 : Rets Try.prog 63 #[pt tb, pt wx, pt px] w (fun _ w' => R (.tuple #[]) w') := by
      refine rets_of Try.func63 rfl Try.ntmps63 rfl rfl (by kernel_rfl) ?_
      (apply vC_region; ((apply vL_val); (case h => ((apply opv_loadb1); exact rfl; exact rfl; (first | assumption | infer_instance); exact rfl))); ((apply vL_val); (case h => ((apply opv_E); exact rfl))); ((apply vL_val); (case h => ((apply opv_loadb1); exact rfl; exact rfl; (first | assumption | infer_instance); exact rfl))))
      refine vL_callF rfl (h) rfl ?_
      intro u w' hR
      (apply vL_nil)
      (first | apply ret0 | apply ret0n)
      exact hR
    refine rets_of Try.func71 rfl Try.ntmps71 rfl rfl (by kernel_rfl) ?_
    (apply vC_region; (iterate 2 (((apply vL_val); (case h => ((apply opv_loadb1); exact rfl; exact rfl; (first | assumption | infer_instance); exact rfl))))))
    refine vL_callF rfl (h2) rfl ?_
    intro u w' hR
    (apply vL_nil)
    (first | apply ret0 | apply ret0n)
    exact hR
  · refine ⟨84, [pt wx, pt tx, pt px, pt ax], rfl, inferInstance, fun R h => ?_⟩
    have bw := B.bw
    have bt := B.bt
    have bp := B.bp
    have ba := I.b
    refine rets_of Try.func84 rfl Try.ntmps84 rfl rfl (by kernel_rfl) ?_
    (apply vC_region; (iterate 4 (((apply vL_val); (case h => ((apply opv_loadb1); exact rfl; exact rfl; (first | assumption | infer_instance); exact rfl))))); ((apply vL_val); (case h => ((apply opv_add); exact rfl; exact rfl; (first | omega | (simp only [List.length_map]; omega))))))
    refine vL_callF rfl (h) rfl ?_
    intro u w' hR
    (apply vL_nil)
    (first | apply ret0 | apply ret0n)
    exact hR
  · obtain ⟨g, cap, rfl, hg, hW⟩ := wake_calls W hpos
    refine ⟨74, [pt fb, pt yx], rfl, inferInstance, fun R h => ?_⟩
    have hb := I.b
    have h2 := hW why (fun _ w' => R (.tuple #[]) w') h
    refine rets_of Try.func74 rfl Try.ntmps74 rfl rfl (by kernel_rfl) ?_
    (apply vC_region; (iterate 2 (((apply vL_val); (case h => ((apply opv_loadb1); exact rfl; exact rfl; (first | assumption | infer_instance); exact rfl))))))
    refine vL_callF rfl (h2) rfl ?_
    intro u w' hR
    (apply vL_nil)
    (first | apply ret0 | apply ret0n)
    exact hR
end
end Go.Proofs.Ytaeckjhipmcddaa

set_option maxRecDepth 100000
namespace Go.Proofs.Ytaeckjhipmcddaa
open Go Go.Eng
/-- a task in the midst: what becomes of it does not matter to the others' order -/
theorem AOkR.act {P : List (List (Int × Int × Int))} {S : AS} {i : Nat} {rest : Int} {d : Int × Int × Int} (a : AOkR S (some i)) : AOkR (S.act P i rest d) none := by
  obtain ⟨t, ht, h2⟩ := a.run1 i rfl
  unfold AS.act
  split
  · exact a.ready
  · split
    · rw [ht]; exact a.stop ht 3 (.inr rfl)
    · split
      · exact ((a.wake _ _).note _ _ _).ready
      · split
        · exact ((a.spawn _).note _ _ _).ready
        · split
          · exact a.ready.note _ _ _
          · split
            · exact (a.note _ _ _).ready
            · split
              · exact (a.note _ _ _).ready
              · rw [ht]; exact a.stop ht 0 (.inl rfl)
theorem without_erase {xs : List Int} {k : Nat} {y : Int} (hn : xs.Nodup) (h : xs[k]? = some y) : without xs k = xs.erase y := by
  have hk := (List.getElem?_eq_some_iff.1 h).1
  have e := (List.getElem?_eq_some_iff.1 h).2
  have e1 : xs = xs.take k ++ y :: xs.drop (k + 1) := by
    conv => lhs; rw [← List.take_append_drop k xs, List.drop_eq_getElem_cons hk, e]
  rw [without, if_neg (by omega)]
  simp only [Int.toNat_natCast]
  have hn' := hn
  rw [e1, List.nodup_append, List.nodup_cons] at hn'
  conv => rhs; rw [e1]
  rw [List.erase_append_right _ (fun hm => hn'.2.2 y hm y (by simp) rfl), List.erase_cons_head]
theorem AOkR.take {S : AS} (a : AOkR S none) {k i : Nat} (hk : S.line[k]? = some (i : Int)) {t : AT} (ht : S.tasks[i]? = some t) (pos : Nat) (why : Int) : AOkR ({ S with line := without S.line k, tasks := S.tasks.set i ⟨t.prog, pos, why, 2⟩ } : AS) (some i) := by
  rw [without_erase a.nd hk]
  have hm := List.mem_of_getElem? hk
  obtain ⟨t', ht', h1⟩ := (a.rdy i).1 hm
  rw [ht] at ht'; cases ht'
  refine a.change (t' := ⟨t.prog, pos, why, 2⟩) (ev' := S.ev) ht (by omega) (by simp) (a.nd.erase _) (fun x hx => a.nn x (List.mem_of_mem_erase hx)) (fun j => ?_) (fun j hj => by cases hj; exact .inl ⟨rfl, rfl⟩)
  rw [a.nd.mem_erase_iff]
  by_cases h : j = i
  · subst h; simp
  · rw [if_neg h]
    exact ⟨fun h => h.2, fun h' => ⟨by omega, h'⟩⟩
/-- the bounds that hold after n steps -/
structure AIn (np n : Nat) (S : AS) : Prop where
  ev : S.ev.length ≤ 2 * n
  tl : S.tasks.length ≤ 6 + n
  tp : ∀ t ∈ S.tasks, t.prog < np ∧ t.pos ≤ n
theorem AIn.mono {np n m : Nat} {S : AS} (b : AIn np n S) (h : n ≤ m) : AIn np m S := ⟨by have := b.ev; omega, by have := b.tl; omega, fun t ht => ⟨(b.tp t ht).1, by have := (b.tp t ht).2; omega⟩⟩
theorem tp_set {np n : Nat} {l : List AT} (h : ∀ t ∈ l, t.prog < np ∧ t.pos ≤ n) (i : Nat) {t : AT} (ht : t.prog < np ∧ t.pos ≤ n) : ∀ u ∈ l.set i t, u.prog < np ∧ u.pos ≤ n := fun u hu => by
  rcases List.mem_or_eq_of_mem_set hu with h1 | rfl
  · exact h u h1
  · exact ht
theorem ready_tp {np n : Nat} {S : AS} (h : ∀ t ∈ S.tasks, t.prog < np ∧ t.pos ≤ n) (i : Nat) : (∀ t ∈ (S.ready i).tasks, t.prog < np ∧ t.pos ≤ n) ∧ (S.ready i).tasks.length = S.tasks.length ∧ (S.ready i).ev = S.ev := by
  unfold AS.ready
  split
  · rename_i t ht
    exact ⟨tp_set h i (h t (List.mem_of_getElem? ht)), by simp, rfl⟩
  · exact ⟨h, rfl, rfl⟩
theorem wake_tp {np n : Nat} {S : AS} (h : ∀ t ∈ S.tasks, t.prog < np ∧ t.pos ≤ n) (id why : Int) : (∀ t ∈ (S.wake id why).1.tasks, t.prog < np ∧ t.pos ≤ n) ∧ (S.wake id why).1.tasks.length = S.tasks.length ∧ (S.wake id why).1.ev = S.ev := by
  unfold AS.wake
  split
  · split
    · rename_i t ht
      split
      · exact ⟨tp_set h _ (h t (List.mem_of_getElem? ht)), by simp, rfl⟩
      · exact ⟨h, rfl, rfl⟩
    · exact ⟨h, rfl, rfl⟩
  · exact ⟨h, rfl, rfl⟩
theorem spawn_tp {np n : Nat} {S : AS} (h : ∀ t ∈ S.tasks, t.prog < np ∧ t.pos ≤ n) {p : Nat} (hp : p < np) : (∀ t ∈ (S.spawn p).1.tasks, t.prog < np ∧ t.pos ≤ n) ∧ (S.spawn p).1.tasks.length ≤ S.tasks.length + 1 ∧ (S.spawn p).1.ev = S.ev := by
  unfold AS.spawn
  split
  · exact ⟨h, by simp, rfl⟩
  · refine ⟨fun t ht => ?_, by simp, rfl⟩
    rcases List.mem_append.1 ht with h1 | h1
    · exact h t h1
    · simp at h1; subst h1; exact ⟨hp, Nat.zero_le _⟩
theorem AIn.spawned {np n : Nat} {S : AS} (b : AIn np n S) {p : Nat} (hp : p < np) : (S.spawn p).1.ev = S.ev ∧ (S.spawn p).1.tasks.length ≤ S.tasks.length + 1 ∧ ∀ t ∈ (S.spawn p).1.tasks, t.prog < np ∧ t.pos ≤ n := ⟨(spawn_tp b.tp hp).2.2, (spawn_tp b.tp hp).2.1, (spawn_tp b.tp hp).1⟩
theorem act_in {P : List (List (Int × Int × Int))} {S : AS} {i n m : Nat} {rest : Int} {d : Int × Int × Int} (h : ∀ t ∈ S.tasks, t.prog < P.length ∧ t.pos ≤ n) (hP : 0 < P.length) (he : S.ev.length ≤ m) : (∀ t ∈ (S.act P i rest d).tasks, t.prog < P.length ∧ t.pos ≤ n) ∧ (S.act P i rest d).tasks.length ≤ S.tasks.length + 1 ∧ (S.act P i rest d).ev.length ≤ m + 1 := by
  have hpk : ∀ x : Int, pickN x P.length < P.length := fun x => by
    unfold pickN
    have h1 := Int.emod_nonneg x (b := (P.length : Int)) (by omega)
    have h2 := Int.emod_lt_of_pos x (b := (P.length : Int)) (by omega)
    omega
  have hst : ∀ k : Nat, (∀ t ∈ (match S.tasks[i]? with | some t => S.setT i { t with st := k } | none => S).tasks, t.prog < P.length ∧ t.pos ≤ n) ∧ (match S.tasks[i]? with | some t => S.setT i { t with st := k } | none => S).tasks.length ≤ S.tasks.length + 1 ∧ (match S.tasks[i]? with | some t => S.setT i { t with st := k } | none => S).ev.length ≤ m + 1 := fun k => by
    split
    · rename_i t ht
      exact ⟨tp_set h i (h t (List.mem_of_getElem? ht)), by simp [AS.setT], Nat.le_succ_of_le he⟩
    · exact ⟨h, by omega, by omega⟩
  have hr : ∀ S' : AS, (∀ t ∈ S'.tasks, t.prog < P.length ∧ t.pos ≤ n) → S'.tasks.length ≤ S.tasks.length + 1 → S'.ev.length ≤ m + 1 → (∀ t ∈ (S'.ready i).tasks, t.prog < P.length ∧ t.pos ≤ n) ∧ (S'.ready i).tasks.length ≤ S.tasks.length + 1 ∧ (S'.ready i).ev.length ≤ m + 1 := fun S' h1 h2 h3 => by
    obtain ⟨r1, r2, r3⟩ := ready_tp h1 i
    exact ⟨r1, by omega, by rw [r3]; exact h3⟩
  have hn : ∀ (S' : AS) (a b : Int), S'.ev.length ≤ m → (S'.note i a b).ev.length ≤ m + 1 := fun S' a b h => by simp [AS.note]; omega
  unfold AS.act
  split
  · exact hr S h (by omega) (by omega)
  · split
    · exact hst 3
    · split
      · obtain ⟨r1, r2, r3⟩ := wake_tp h d.2.1 d.2.2
        exact hr _ r1 (by show (S.wake d.2.1 d.2.2).1.tasks.length ≤ _; omega) (hn _ _ _ (by rw [r3]; exact he))
      · split
        · obtain ⟨r1, r2, r3⟩ := spawn_tp h (hpk d.2.1)
          exact hr _ r1 r2 (hn _ _ _ (by rw [r3]; exact he))
        · split
          · obtain ⟨r1, r2, r3⟩ := ready_tp h i
            exact ⟨r1, by show (S.ready i).tasks.length ≤ _; omega, hn _ _ _ (by rw [r3]; exact he)⟩
          · split
            · exact hr _ h (by show S.tasks.length ≤ _; omega) (hn _ _ _ he)
            · split
              · exact hr _ h (by show S.tasks.length ≤ _; omega) (hn _ _ _ he)
              · exact hst 0
/-- a step of the plain machine, laid out -/
theorem step_some {P : List (List (Int × Int × Int))} {S S' : AS} {p : Int} (h : S.step P p = some S') (a : AOkR S none) : ∃ (i : Nat) (t : AT), S.line[(p % (S.line.length : Int)).toNat]? = some (i : Int) ∧ S.tasks[i]? = some t ∧ t.st = 1 ∧ 0 < S.line.length ∧
    S' = AS.act P ((({ S with line := without S.line (p % (S.line.length : Int)) } : AS).setT i ⟨t.prog, t.pos + 1, 0, 2⟩).note i t.pos t.why) i (p / (S.line.length : Int)) (doAt P t.prog t.pos) := by
  unfold AS.step at h
  split at h
  · cases h
  · rename_i id hid
    have h0 := a.nn id (List.mem_of_getElem? hid)
    have e : ((id.toNat : Nat) : Int) = id := Int.toNat_of_nonneg h0
    split at h
    · cases h
    · rename_i t ht
      obtain ⟨t', ht', h1⟩ := (a.rdy id.toNat).1 (by rw [e]; exact List.mem_of_getElem? hid)
      rw [ht] at ht'; cases ht'
      refine ⟨id.toNat, t, by rw [hid, e], ht, h1, ?_, ?_⟩
      · have := (List.getElem?_eq_some_iff.1 hid).1; omega
      · cases h; rfl
theorem step_none {P : List (List (Int × Int × Int))} {S : AS} {p : Int} (h : S.step P p = none) (a : AOkR S none) : S.line = [] := by
  unfold AS.step at h
  split at h
  · rename_i hid
    cases hl : S.line with
    | nil => rfl
    | cons x l =>
      have hpos : (0 : Int) < (S.line.length : Int) := by rw [hl]; simp
      have h1 := Int.emod_nonneg p (b := (S.line.length : Int)) (by omega)
      have h2 := Int.emod_lt_of_pos p hpos
      rw [List.getElem?_eq_getElem (by omega)] at hid
      cases hid
  · rename_i id hid
    have h0 := a.nn id (List.mem_of_getElem? hid)
    have e : ((id.toNat : Nat) : Int) = id := Int.toNat_of_nonneg h0
    obtain ⟨t', ht', h1⟩ := (a.rdy id.toNat).1 (by rw [e]; exact List.mem_of_getElem? hid)
    rw [ht'] at h
    cases h
theorem toNat_emod {p : Int} {n : Nat} (hn : 0 < n) : ((p % (n : Int)).toNat : Int) = p % (n : Int) := Int.toNat_of_nonneg (Int.emod_nonneg _ (by omega))
theorem step_ok {P : List (List (Int × Int × Int))} {S S' : AS} {p : Int} (h : S.step P p = some S') (a : AOkR S none) : AOkR S' none := by
  obtain ⟨i, t, h1, h2, h3, h4, rfl⟩ := step_some h a
  have := a.take h1 h2 (t.pos + 1) 0
  rw [toNat_emod h4] at this
  exact (this.note i t.pos t.why).act
theorem step_in {P : List (List (Int × Int × Int))} {S S' : AS} {p : Int} {n : Nat} (h : S.step P p = some S') (a : AOkR S none) (b : AIn P.length n S) : AIn P.length (n + 1) S' := by
  obtain ⟨i, t, h1, h2, h3, h4, rfl⟩ := step_some h a
  have ht := b.tp t (List.mem_of_getElem? h2)
  have hb := b.mono (Nat.le_succ n)
  obtain ⟨r1, r2, r3⟩ := act_in (P := P) (S := ((({ S with line := without S.line (p % (S.line.length : Int)) } : AS).setT i ⟨t.prog, t.pos + 1, 0, 2⟩).note i t.pos t.why)) (i := i) (n := n + 1) (m := 2 * n + 1) (rest := p / (S.line.length : Int)) (d := doAt P t.prog t.pos) (tp_set hb.tp i ⟨ht.1, by simp; exact ht.2⟩) (by omega) (by have := b.ev; simp [AS.note, AS.setT]; omega)
  refine ⟨by omega, ?_, r1⟩
  have := b.tl
  have e : (((({ S with line := without S.line (p % (S.line.length : Int)) } : AS).setT i ⟨t.prog, t.pos + 1, 0, 2⟩).note i t.pos t.why)).tasks.length = S.tasks.length := by simp [AS.note, AS.setT]
  omega
end Go.Proofs.Ytaeckjhipmcddaa

set_option maxRecDepth 100000
namespace Go.Proofs.Ytaeckjhipmcddaa
open Go Go.Eng
/-- what is always about: the programs, as the world began -/
structure Pg (X : Nat → Prop) (h : Array Obj) (vp : Value) (P : List (OV × List (Int × Int × Int))) : Prop where
  z : Pz X h vp P
  hPb : ∀ y ∈ P, ∀ q ∈ y.2, q.2.1 ≤ 9223372036854775807
  len : 0 < P.length ∧ P.length ≤ 6
theorem Pg.frF {X F : Nat → Prop} {w w' : World} {vp : Value} {P : List (OV × List (Int × Int × Int))} (g : Pg X w.heap vp P) (hf : Fr F w w') (hF : ∀ k, X k → ¬ F k) : Pg X w'.heap vp P := ⟨g.z.frF hf hF, g.hPb, g.len⟩
theorem Pg.fr {X K : Nat → Prop} {w w' : World} {vp : Value} {P : List (OV × List (Int × Int × Int))} (g : Pg X w.heap vp P) (hf : Fr (LF X K) w w') : Pg X w'.heap vp P := ⟨g.z.fr hf, g.hPb, g.len⟩
theorem Pg.frN {X : Nat → Prop} {w w' : World} {vp : Value} {P : List (OV × List (Int × Int × Int))} (g : Pg X w.heap vp P) (hf : Fr No w w') : Pg X w'.heap vp P := ⟨g.z.frN hf, g.hPb, g.len⟩
/-- between turns -/
def Wq (X K : Nat → Prop) (w : World) (wb rb : Nat) (vp : Value) (S : AS) : Prop := ∃ rest ts, Wst X K w wb rb vp none rest none ts S
theorem w_step {X K : Nat → Prop} {w : World} {wb rb : Nat} {vp : Value} {S : AS} {n : Nat} {P : List (OV × List (Int × Int × Int))} (g : Pg X w.heap vp P) (W : Wq X K w wb rb vp S) (a : AOkR S none) (b : AIn P.length n S) (hn : n ≤ 10000) (p : Int) (hp : 0 ≤ p ∧ p ≤ 18446744073709551615) :
    Rets Try.prog 26 #[pt rb, .int .u64 p] w fun u w' => (S.step (P.map (·.2)) p = none ∧ u = .bool false ∧ w = w') ∨
      ∃ S' K', S.step (P.map (·.2)) p = some S' ∧ u = .bool true ∧ Wq X K' w' wb rb vp S' ∧ KX w K K' ∧ Fr (LF X K) w w' := by
  obtain ⟨rest, ts, sb, qb, lv, tv, wt, we, L, T⟩ := W
  have hlen := a.len
  have hfew := a.few
  cases hst : S.step (P.map (·.2)) p with
  | none =>
    have hl := step_none hst a
    have R := L.rt
    rw [hl] at R
    exact (r_step_none R p hp).mono fun u w' ⟨h1, h2⟩ => .inl ⟨rfl, h2, h1⟩
  | some S' =>
    obtain ⟨i, t, h1, h2, h3, h4, hS'⟩ := step_some hst a
    obtain ⟨x, hx⟩ : ∃ x, ts[i]? = some x := ⟨ts[i]'(by rw [T.1]; exact (List.getElem?_eq_some_iff.1 h2).1), List.getElem?_eq_getElem _⟩
    have k := T.2 i x t (by simp) hx h2
    have ht := b.tp t (List.mem_of_getElem? h2)
    obtain ⟨f, cap, hnx, hf, hcall⟩ := next_calls (k.nx h3) (by omega)
    haveI := hf
    have hi := (List.getElem?_eq_some_iff.1 hx).1
    have hr1 : 0 ≤ p / (S.line.length : Int) := Int.ediv_nonneg hp.1 (by omega)
    have hr2 : p / (S.line.length : Int) ≤ p := Int.ediv_le_self _ hp.1
    have hov : x.2.over = false := by rw [k.over, h3]; rfl
    have hpk : x.2.parked = false := by rw [k.parked, h3]; rfl
    have a1 := a.take h1 h2 (t.pos + 1) 0
    rw [toNat_emod h4] at a1
    refine (r_step L.rt p hp (by omega) h1 hx cap hnx (fun w2 Z2 ready2 ts2 y => ∃ K' rest' sb' qb' lv' tv' wt' we', Z2 = LZ X K' wb wt' we' ∧ Lw X K' w2 wb rb sb' qb' lv' tv' wt' we' vp (some x.1) rest' ready2 ts2 S'.ev ∧ ready2 = S'.line ∧ TsOk w2.heap K' wb (some i) ts2 S'.tasks ∧ KX w K K' ∧ Fr (LF X K) w w2 ∧ y.over = false ∧ ∃ c, S'.tasks[i]? = some c ∧ ((c.st = 0 ∧ y.said = false ∧ y.parked = false) ∨ (y.said = true ∧ TkOk w2.heap K' wb (x.1, y) c))) (fun w1 lv1 R1 F1 => ?_)).mono fun u w' h => ?_
    · obtain ⟨L1, G1⟩ := L.call (K' := K) F1 (fun _ h => .inl h) R1 (set_fst hx)
      have hno : ∀ k, K k → ¬ LF X K k := fun k h h' => h'.2 h
      have T1 : TsOk w1.heap K wb (some i) (ts.set i (x.1, { x.2 with next := ⟨.nilFunc, rfl⟩, said := false })) (S.tasks.set i ⟨t.prog, t.pos + 1, 0, 2⟩) := by
        refine ⟨by simp only [List.length_set]; exact T.1, fun j z c hr hz hc => ?_⟩
        have hji : i ≠ j := fun e => hr (by rw [e])
        rw [List.getElem?_set, if_neg hji] at hz hc
        exact (T.2 j z c (by simp) hz hc).fr G1 hno (fun _ h => h)
      obtain ⟨f', cap', hnx', hf', hcall'⟩ := next_calls ((k.nx h3).fr G1 hno (fun _ h => h)) (by omega)
      rw [hnx] at hnx'
      simp only [Value.func.injEq, Fn.func.injEq, true_and] at hnx'
      obtain ⟨e1, e2⟩ := hnx'
      have e3 : cap = cap' := by simpa using e2
      subst e1
      subst e3
      refine hcall' _ ?_
      refine (w_turn (S := { S with line := without S.line (p % (S.line.length : Int)), tasks := S.tasks.set i ⟨t.prog, t.pos + 1, 0, 2⟩ }) (i := i) (x := (x.1, { x.2 with next := ⟨.nilFunc, rfl⟩, said := false })) P (g.z.fr G1) (set_at hx) L1 T1 a1 rfl hpk hov t.why (by show (S.tasks.set i _)[i]? = _; rw [List.getElem?_set, if_pos rfl, if_pos (by rw [← T.1]; exact hi)]) ht.1 g.len.2 g.hPb (by show S.ev.length ≤ _; have := b.ev; omega) (by rw [List.length_set, T.1]; have := b.tl; omega) (by omega) ⟨hr1, by omega⟩).mono fun u2 w2 U => ?_
      obtain ⟨F2, K', rest', ts2, y, ⟨sb', qb', lv', tv', wt', we', L2, T2⟩, hy, hK, hyo, c, hc, hcc⟩ := U
      have hSe : AS.act (P.map (·.2)) (({ S with line := without S.line (p % (S.line.length : Int)), tasks := S.tasks.set i ⟨t.prog, t.pos + 1, 0, 2⟩ } : AS).note i t.pos t.why) i (p / (S.line.length : Int)) (doAt (P.map (·.2)) t.prog t.pos) = S' := hS'.symm
      rw [hSe] at L2 T2 hc
      exact ⟨LZ X K' wb wt' we', sb', qb', lv', tv', rest', S'.line, ts2, y, L2.rt, hy, K', rest', sb', qb', lv', tv', wt', we', rfl, L2, rfl, T2, ⟨hK.1, fun b hb => (hK.2 b hb).imp id (fun h => Nat.le_trans G1.size h)⟩, G1.trans F2, hyo, c, hc, hcc⟩
    · obtain ⟨rfl, w2, Z2, sb2, qb2, lv2, tv2, ready2, ts2, y, ⟨K', rest', sb', qb', lv', tv', wt', we', rfl, L2, rfl, T2, hK, F2, hyo, c, hc, hcc⟩, hy, R2, G2⟩ := h
      obtain ⟨L3, G3⟩ := L2.call (K' := K') G2 (fun _ h => .inl h) R2 (set_fst (x := (x.1, y)) hy)
      have hno : ∀ k, K' k → ¬ LF X K' k := fun k h h' => h'.2 h
      refine .inr ⟨S', K', rfl, rfl, ⟨0, _, sb2, qb2, lv2, tv2, wt', we', L3, by simp only [List.length_set]; exact T2.1, fun j z d _ hz hd => ?_⟩, hK, F2.trans' G3 (fun k hk => .inl ⟨hk.1, fun h => hk.2 (hK.1 k h)⟩)⟩
      by_cases e : i = j
      · subst e
        rw [set_at hy] at hz
        rw [hc] at hd
        cases hz; cases hd
        rcases hcc with ⟨c1, c2, c3⟩ | ⟨c2, c3⟩
        · refine ⟨?_, ?_, fun h => by omega, fun h => by omega⟩
          · show (!y.said) = _
            rw [c2, c1]; rfl
          · show y.parked = _
            rw [c3, c1]; rfl
        · have c4 := c3.fr G3 hno (fun _ h => h)
          refine ⟨?_, c4.parked, c4.nx, c4.wk⟩
          show (!y.said) = _
          rw [c2, ← c3.over]
          exact hyo.symm
      · rw [List.getElem?_set, if_neg e] at hz
        exact (T2.2 j z d (fun h => e (Option.some.inj h).symm) hz hd).fr G3 hno (fun _ h => h)
end Go.Proofs.Ytaeckjhipmcddaa
