/- Layer 15: a running task wakes another. -/
import Derived.Test.YtaeckjhipmcddaaCp
set_option maxRecDepth 100000
namespace Go.Proofs.Ytaeckjhipmcddaa
open Go Go.Eng
theorem w_wake {X K : Nat → Prop} {w : World} {wb rb sb qb : Nat} {lv tv wt we vp : Value} {now : Option Nat} {rest : Int} {ts : List (Nat × TK)} {S : AS} {run : Option Nat} {j : Nat} {y : Nat × TK} {b : AT} (hy : ts[j]? = some y) (hb : S.tasks[j]? = some b) (why : Int) (s : Lw X K w wb rb sb qb lv tv wt we vp now rest S.line ts S.ev) (T : TsOk w.heap K wb run ts S.tasks) (a : AOkR S run)
    (hp : y.2.parked = decide (b.st = 3)) (ho : y.2.over = decide (b.st = 0)) :
    Rets Try.prog 47 #[.pointer (some ⟨y.1, 0, none⟩), .int .i64 why] w fun u w' => u = .int .i64 (S.wake j why).2 ∧ ∃ K' lv' ts', Lw X K' w' wb rb sb qb lv' tv wt we vp now rest (S.wake j why).1.line ts' (S.wake j why).1.ev ∧ TsOk w'.heap K' wb run ts' (S.wake j why).1.tasks ∧ KX w K K' ∧ Fr (LF X K) w w' ∧ ts'.map (·.1) = ts.map (·.1) ∧ ∀ i, run = some i → ts'[i]? = ts[i]? := by
  have hlen := a.len
  have hfew := a.few
  refine (t_wake s.rt hy why (by omega)).mono fun u w' h => ?_
  have hw : S.wake j why = if b.st = 3 then ({ S with tasks := S.tasks.set j { b with st := 1, why := why }, line := S.line ++ [(j : Int)] }, 0) else (S, 152) := by
    unfold AS.wake
    rw [if_pos (by omega), Int.toNat_natCast, hb]
  rw [hw]
  rcases h with ⟨h1, rfl, hf⟩ | ⟨h1, rfl, lv', fb, yb, g1, g2, b1, b2, hf, R⟩
  · rw [hp] at h1
    rw [if_neg (of_decide_eq_false h1)]
    exact ⟨rfl, K, lv, ts, s.frN hf, T.fr hf (fun _ _ h => h) (fun k h => h), KX.refl _ _, hf.no_any, rfl, fun _ _ => rfl⟩
  · rw [hp] at h1
    have h3 := of_decide_eq_true h1
    rw [if_pos h3]
    have hni := a.notIn hb (by omega)
    have hlt : S.line.length < 256 := by
      have h := (a.wake j why).len
      have h' := (a.wake j why).few
      rw [hw, if_pos h3] at h h'
      have h4 : (S.line ++ [(j : Int)]).length ≤ 256 := Nat.le_trans (Nat.le_trans (Nat.le_add_right _ _) h) h'
      rw [List.length_append, List.length_singleton] at h4
      omega
    rw [readyL_push hni hlt] at R
    have hyj := s.rt.zn
    obtain ⟨L, F⟩ := s.call (K' := fun k => K k ∨ k = fb ∨ k = yb) hf (fun k hk => by
      rcases hk with h | rfl | rfl
      · exact .inl h
      · exact .inr g1
      · exact .inr g2) (R.re (fun k hk => by
      rcases hk with h | (h | h) | h
      · exact .inl (.inl h)
      · exact .inl (.inr (.inl h))
      · exact .inr h
      · exact .inl (.inr (.inr h)))) (set_fst hy)
    have hno : ∀ k, K k → ¬ LF X K k := fun k h h' => h'.2 h
    have hKK : ∀ k, K k → (K k ∨ k = fb ∨ k = yb) := fun k h => .inl h
    have T' := T.fr F hno hKK
    have hj := (List.getElem?_eq_some_iff.1 hy).1
    have hjr : run ≠ some j := fun e => by
      obtain ⟨t, ht, h2⟩ := a.run1 j e
      rw [hb] at ht; cases ht; omega
    have W := ((T.2 j y b (fun e => hjr e.symm) hy hb).wk h3).fr F hno hKK
    refine ⟨rfl, fun k => K k ∨ k = fb ∨ k = yb, lv', _, L, ?_, ⟨hKK, fun k hk => by
      rcases hk with h | rfl | rfl
      · exact .inl h
      · exact .inr g1
      · exact .inr g2⟩, F, set_fst hy, fun i hi => ?_⟩
    · refine ⟨by simp only [List.length_set]; exact T.1, fun n z c hr hz hc => ?_⟩
      rw [List.getElem?_set] at hz hc
      by_cases hjn : j = n
      · subst hjn
        rw [if_pos rfl, if_pos hj] at hz
        rw [if_pos rfl, if_pos (by rw [← T.1]; exact hj)] at hc
        cases hz; cases hc
        refine ⟨?_, rfl, fun _ => .inr (.inr ⟨fb, yb, y.2.wake.1, rfl, .inr (.inl rfl), b1, W, ⟨.inr (.inr rfl), b2⟩⟩), fun h => (by cases h)⟩
        show y.2.over = _
        rw [ho, decide_eq_false (by omega)]; rfl
      · rw [if_neg hjn] at hz hc
        exact T'.2 n z c hr hz hc
    · rw [List.getElem?_set, if_neg (fun e => hjr (by rw [hi, e]))]
end Go.Proofs.Ytaeckjhipmcddaa
