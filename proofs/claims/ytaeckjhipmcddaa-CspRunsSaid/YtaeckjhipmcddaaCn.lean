/- Layer 15: what stays so in the plain machine. -/
import Derived.Test.YtaeckjhipmcddaaCm
set_option maxRecDepth 100000
namespace Go.Proofs.Ytaeckjhipmcddaa
open Go Go.Eng
theorem openA_set : ∀ {l : List AT} {i : Nat} {t t' : AT}, l[i]? = some t → (t.st = 0 → t'.st = 0) → openA (l.set i t') ≤ openA l
  | x :: l, 0, t, t', h, h0 => by
    cases h
    unfold openA
    simp only [List.set_cons_zero, List.filter_cons]
    by_cases e : x.st = 0
    · simp [e, h0 e]
    · by_cases e' : t'.st = 0 <;> simp [e, e']
  | x :: l, i + 1, t, t', h, h0 => by
    have ih := openA_set (l := l) (i := i) h h0
    unfold openA at ih ⊢
    simp only [List.set_cons_succ, List.filter_cons]
    by_cases e : x.st = 0
    · simpa [e] using ih
    · simpa [e] using ih
theorem AOkR.change {S : AS} {run run' : Option Nat} (a : AOkR S run) {i : Nat} {t t' : AT} {line' : List Int} {ev' : List (Int × Int × Int)} (ht : S.tasks[i]? = some t) (h0 : t.st = 0 → t'.st = 0) (h3 : t'.st ≤ 3) (hnd : line'.Nodup) (hnn : ∀ x ∈ line', 0 ≤ x)
    (hl : ∀ j : Nat, ((j : Int) ∈ line' ↔ if j = i then t'.st = 1 else (j : Int) ∈ S.line)) (hr : ∀ j, run' = some j → (j = i ∧ t'.st = 2) ∨ (j ≠ i ∧ run = some j)) : AOkR ⟨S.tasks.set i t', line', ev'⟩ run' := by
  have hi := (List.getElem?_eq_some_iff.1 ht).1
  refine ⟨hnd, fun j => ?_, hnn, Nat.le_trans (openA_set ht h0) a.few, fun u hu => ?_, fun j hj => ?_⟩
  · rw [hl j]
    by_cases e : j = i
    · subst e
      rw [if_pos rfl, List.getElem?_set, if_pos rfl, if_pos hi]
      exact ⟨fun h => ⟨t', rfl, h⟩, fun ⟨u, hu, h⟩ => by cases hu; exact h⟩
    · rw [if_neg e, List.getElem?_set, if_neg (fun h => e h.symm)]
      exact a.rdy j
  · rcases List.mem_or_eq_of_mem_set hu with h | rfl
    · exact a.sts u h
    · exact h3
  · rcases hr j hj with ⟨rfl, h2⟩ | ⟨hne, h2⟩
    · exact ⟨t', by rw [List.getElem?_set, if_pos rfl, if_pos hi], h2⟩
    · obtain ⟨u, hu, h4⟩ := a.run1 j h2
      exact ⟨u, by rw [List.getElem?_set, if_neg (fun h => hne h.symm)]; exact hu, h4⟩
theorem AOkR.note {S : AS} {run : Option Nat} (a : AOkR S run) (i : Nat) (x y : Int) : AOkR (S.note i x y) run := ⟨a.nd, a.rdy, a.nn, a.few, a.sts, a.run1⟩
theorem AOkR.notIn {S : AS} {run : Option Nat} (a : AOkR S run) {i : Nat} {t : AT} (ht : S.tasks[i]? = some t) (h : t.st ≠ 1) : (i : Int) ∉ S.line := fun hm => by
  obtain ⟨u, hu, h1⟩ := (a.rdy i).1 hm
  rw [ht] at hu; cases hu; exact h h1
theorem AOkR.push {S : AS} {run : Option Nat} (a : AOkR S run) {i : Nat} (h : (i : Int) ∉ S.line) : (S.line ++ [(i : Int)]).Nodup ∧ (∀ x ∈ S.line ++ [(i : Int)], 0 ≤ x) ∧ ∀ j : Nat, ((j : Int) ∈ S.line ++ [(i : Int)] ↔ j = i ∨ (j : Int) ∈ S.line) := by
  refine ⟨?_, fun x hx => ?_, fun j => ?_⟩
  · rw [List.nodup_append]
    exact ⟨a.nd, by simp, fun x hx y hy e => by simp at hy; subst hy; subst e; exact h hx⟩
  · rcases List.mem_append.1 hx with hx | hx
    · exact a.nn x hx
    · simp at hx; omega
  · simp only [List.mem_append, List.mem_singleton]
    constructor
    · rintro (h | h)
      · exact .inr h
      · exact .inl (by omega)
    · rintro (rfl | h)
      · exact .inr rfl
      · exact .inl h
end Go.Proofs.Ytaeckjhipmcddaa
