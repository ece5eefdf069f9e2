/- Layer 15: a turn: what holds while a task runs. -/
import Derived.Test.YtaeckjhipmcddaaCo
set_option maxRecDepth 100000
namespace Go.Proofs.Ytaeckjhipmcddaa
open Go Go.Eng
/-- the law's world as the plain machine's state -/
def Wst (X K : Nat → Prop) (w : World) (wb rb : Nat) (vp : Value) (now : Option Nat) (rest : Int) (run : Option Nat) (ts : List (Nat × TK)) (S : AS) : Prop :=
  ∃ sb qb lv tv wt we, Lw X K w wb rb sb qb lv tv wt we vp now rest S.line ts S.ev ∧ TsOk w.heap K wb run ts S.tasks
theorem open_eq {h : Array Obj} {K : Nat → Prop} {wb : Nat} {run : Option Nat} {ts : List (Nat × TK)} {al : List AT} (T : TsOk h K wb run ts al) (hr : ∀ i x a, run = some i → ts[i]? = some x → al[i]? = some a → x.2.over = decide (a.st = 0)) : openIn ts ts.length = openA al := by
  have hall : ∀ (i : Nat) x a, ts[i]? = some x → al[i]? = some a → x.2.over = decide (a.st = 0) := fun i x a hx ha => by
    by_cases e : some i = run
    · exact hr i x a e.symm hx ha
    · exact (T.2 i x a e hx ha).over
  have hl := T.1
  clear T hr
  unfold openIn openA
  rw [List.take_length]
  induction ts generalizing al with
  | nil => cases al with
    | nil => rfl
    | cons a al => cases hl
  | cons x ts ih => cases al with
    | nil => cases hl
    | cons a al =>
      have h0 := hall 0 x a rfl rfl
      have := ih (al := al) (fun i y b hy hb => hall (i + 1) y b hy hb) (by simpa using hl)
      simp only [List.filter_cons]
      by_cases e : a.st = 0 <;> simp [h0, e, this]
theorem readyL_push {l : List Int} {i : Nat} (h : (i : Int) ∉ l) (hl : l.length < 256) : readyL l i = l ++ [(i : Int)] := by
  unfold readyL
  rw [if_neg (by omega), if_neg h, if_neg (by omega)]
theorem w_yield {X K : Nat → Prop} {w : World} {wb rb sb qb : Nat} {lv tv wt we vp : Value} {rest : Int} {ts : List (Nat × TK)} {S : AS} {i : Nat} {x : Nat × TK} (hx : ts[i]? = some x) (s : Lw X K w wb rb sb qb lv tv wt we vp (some x.1) rest S.line ts S.ev) (T : TsOk w.heap K wb (some i) ts S.tasks) (a : AOkR S (some i))
    (h1 : x.2.said = false) (h2 : x.2.parked = false) (h3 : x.2.over = false) {prog pos wx tx px ax : Nat} (B : Bxs w.heap K wb x.1 prog wx tx px) (A : Bxi w.heap K ax pos) (hta : S.tasks[i]? = some ⟨prog, pos + 1, 0, 2⟩) :
    Rets Try.prog 45 #[.pointer (some ⟨x.1, 0, none⟩), .func (.func 84) #[] #[pt wx, pt tx, pt px, pt ax]] w fun u w' => u = .int .i64 0 ∧ ∃ ts' y, Wst X K w' wb rb vp (some x.1) rest none ts' (S.ready i) ∧ ts'[i]? = some (x.1, y) ∧ y.said = true ∧ y.over = false ∧ Fr (LF X K) w w' := by
  have hlen := a.len
  have hfew := a.few
  simp only [Option.isSome_some, if_true] at hlen
  have hni := a.notIn hta (by simp)
  have hm : mayE false (some x.1) x = 0 := by unfold mayE; rw [if_neg (by simp), if_pos rfl, h1]; rfl
  refine (t_yield s.rt hx 84 #[pt wx, pt tx, pt px, pt ax] (by omega)).mono fun u w' ⟨hu, h⟩ => ?_
  rw [hm] at hu h
  rcases h with ⟨h, _⟩ | ⟨_, lv', R, hf⟩
  · exact absurd rfl h
  rw [readyL_push hni (by omega)] at R
  obtain ⟨L, F⟩ := s.call (K' := K) hf (fun k hk => .inl hk) R (set_fst hx)
  have hno : ∀ k, K k → ¬ LF X K k := fun k h h' => h'.2 h
  have T' := T.fr F hno (fun k h => h)
  have e : S.ready i = { S with tasks := S.tasks.set i ⟨prog, pos + 1, 0, 1⟩, line := S.line ++ [(i : Int)] } := by unfold AS.ready; rw [hta]
  have hi := (List.getElem?_eq_some_iff.1 hx).1
  have T2 : TsOk w'.heap K wb none (ts.set i (x.1, { x.2 with next := ⟨.func (.func 84) #[] #[pt wx, pt tx, pt px, pt ax], rfl⟩, said := true, parked := false })) (S.tasks.set i ⟨prog, pos + 1, 0, 1⟩) := by
    refine ⟨by simp only [List.length_set]; exact T.1, fun j z b _ hz hb => ?_⟩
    rw [List.getElem?_set] at hz hb
    by_cases hji : i = j
    · subst hji
      rw [if_pos rfl, if_pos hi] at hz
      rw [if_pos rfl, if_pos (by rw [← T.1]; exact hi)] at hb
      cases hz; cases hb
      exact ⟨h3, rfl, fun _ => .inr (.inl ⟨wx, tx, px, ax, pos, rfl, B.fr F hno (fun k h => h), A.fr F hno (fun k h => h), rfl, rfl⟩), fun h => by cases h⟩
    · rw [if_neg hji] at hz hb
      exact T'.2 j z b (fun h => hji (Option.some.inj h).symm) hz hb
  exact ⟨hu, ts.set i (x.1, { x.2 with next := ⟨.func (.func 84) #[] #[pt wx, pt tx, pt px, pt ax], rfl⟩, said := true, parked := false }), { x.2 with next := ⟨.func (.func 84) #[] #[pt wx, pt tx, pt px, pt ax], rfl⟩, said := true, parked := false }, ⟨sb, qb, lv', tv, wt, we, by rw [e]; exact L, by rw [e]; exact T2⟩, set_at hx, rfl, h3, F⟩
theorem w_park {X K : Nat → Prop} {w : World} {wb rb sb qb : Nat} {lv tv wt we vp : Value} {rest : Int} {ts : List (Nat × TK)} {S : AS} {i : Nat} {x : Nat × TK} (hx : ts[i]? = some x) (s : Lw X K w wb rb sb qb lv tv wt we vp (some x.1) rest S.line ts S.ev) (T : TsOk w.heap K wb (some i) ts S.tasks)
    (h1 : x.2.said = false) (h3 : x.2.over = false) {prog pos wx tx px ax : Nat} (B : Bxs w.heap K wb x.1 prog wx tx px) (A : Bxi w.heap K ax pos) (hta : S.tasks[i]? = some ⟨prog, pos + 1, 0, 2⟩) :
    Rets Try.prog 42 #[.pointer (some ⟨x.1, 0, none⟩), .func (.func 85) #[] #[pt wx, pt tx, pt px, pt ax]] w fun u w' => u = .int .i64 0 ∧ ∃ ts' y, Wst X K w' wb rb vp (some x.1) rest none ts' (S.setT i ⟨prog, pos + 1, 0, 3⟩) ∧ ts'[i]? = some (x.1, y) ∧ y.said = true ∧ y.over = false ∧ Fr (LF X K) w w' := by
  have hm : mayE false (some x.1) x = 0 := by unfold mayE; rw [if_neg (by simp), if_pos rfl, h1]; rfl
  refine (t_park s.rt hx 85 #[pt wx, pt tx, pt px, pt ax]).mono fun u w' ⟨hu, h⟩ => ?_
  rw [hm] at hu h
  rcases h with ⟨h, _⟩ | ⟨_, R, hf⟩
  · exact absurd rfl h
  obtain ⟨L, F⟩ := s.call (K' := K) hf (fun k hk => .inl hk) R (set_fst hx)
  have hno : ∀ k, K k → ¬ LF X K k := fun k h h' => h'.2 h
  have T' := T.fr F hno (fun k h => h)
  have hi := (List.getElem?_eq_some_iff.1 hx).1
  have T2 : TsOk w'.heap K wb none (ts.set i (x.1, { x.2 with wake := ⟨.func (.func 85) #[] #[pt wx, pt tx, pt px, pt ax], rfl⟩, said := true, parked := true })) (S.tasks.set i ⟨prog, pos + 1, 0, 3⟩) := by
    refine ⟨by simp only [List.length_set]; exact T.1, fun j z b _ hz hb => ?_⟩
    rw [List.getElem?_set] at hz hb
    by_cases hji : i = j
    · subst hji
      rw [if_pos rfl, if_pos hi] at hz
      rw [if_pos rfl, if_pos (by rw [← T.1]; exact hi)] at hb
      cases hz; cases hb
      exact ⟨h3, rfl, fun h => (by cases h), fun _ => ⟨wx, tx, px, ax, pos, rfl, B.fr F hno (fun k h => h), A.fr F hno (fun k h => h), rfl⟩⟩
    · rw [if_neg hji] at hz hb
      exact T'.2 j z b (fun h => hji (Option.some.inj h).symm) hz hb
  exact ⟨hu, ts.set i (x.1, { x.2 with wake := ⟨.func (.func 85) #[] #[pt wx, pt tx, pt px, pt ax], rfl⟩, said := true, parked := true }), { x.2 with wake := ⟨.func (.func 85) #[] #[pt wx, pt tx, pt px, pt ax], rfl⟩, said := true, parked := true }, ⟨sb, qb, lv, tv, wt, we, L, T2⟩, set_at hx, rfl, h3, F⟩
end Go.Proofs.Ytaeckjhipmcddaa
