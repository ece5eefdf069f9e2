/- Layer 15: the plain machine's moves keep what is always so. -/
import Derived.Test.YtaeckjhipmcddaaCn
set_option maxRecDepth 100000
namespace Go.Proofs.Ytaeckjhipmcddaa
open Go Go.Eng
theorem AOkR.ready {S : AS} {i : Nat} (a : AOkR S (some i)) : AOkR (S.ready i) none := by
  obtain ⟨t, ht, h2⟩ := a.run1 i rfl
  have hn := a.notIn ht (by omega)
  obtain ⟨p1, p2, p3⟩ := a.push hn
  have e : S.ready i = { S with tasks := S.tasks.set i { t with st := 1 }, line := S.line ++ [(i : Int)] } := by unfold AS.ready; rw [ht]
  rw [e]
  refine a.change ht (by omega) (by simp) p1 p2 (fun j => ?_) (fun j hj => by cases hj)
  rw [p3 j]
  by_cases h : j = i
  · simp [h]
  · simp [h]
theorem AOkR.stop {S : AS} {i : Nat} {t : AT} (a : AOkR S (some i)) (ht : S.tasks[i]? = some t) (n : Nat) (hn : n = 0 ∨ n = 3) : AOkR (S.setT i { t with st := n }) none := by
  obtain ⟨t', ht', h2⟩ := a.run1 i rfl
  rw [ht] at ht'; cases ht'
  have hni := a.notIn ht (by omega)
  refine a.change (t' := { t with st := n }) (ev' := S.ev) ht (by omega) (by rcases hn with rfl | rfl <;> simp) a.nd a.nn (fun j => ?_) (fun j hj => by cases hj)
  by_cases h : j = i
  · subst h
    rw [if_pos rfl]
    exact ⟨fun h => absurd h hni, fun h => by rcases hn with rfl | rfl <;> cases h⟩
  · rw [if_neg h]
theorem AOkR.wake {S : AS} {run : Option Nat} (a : AOkR S run) (id why : Int) : AOkR (S.wake id why).1 run := by
  unfold AS.wake
  split
  · rename_i h0
    split
    · rename_i t ht
      split
      · rename_i h3
        have hn := a.notIn ht (by omega)
        rw [Int.toNat_of_nonneg h0] at hn
        have e : ((id.toNat : Nat) : Int) = id := Int.toNat_of_nonneg h0
        obtain ⟨p1, p2, p3⟩ := a.push (i := id.toNat) (by rw [e]; exact hn)
        rw [e] at p1 p2 p3
        refine a.change (t' := { t with st := 1, why := why }) (ev' := S.ev) ht (by omega) (by simp) p1 p2 (fun j => ?_) (fun j hj => ?_)
        · rw [p3 j]
          by_cases h : j = id.toNat
          · simp [h]
          · simp [h]
        · refine .inr ⟨fun h => ?_, hj⟩
          subst h
          obtain ⟨u, hu, h2⟩ := a.run1 _ hj
          rw [ht] at hu; cases hu; omega
      · exact a
    · exact a
  · exact a
theorem AOkR.spawn {S : AS} {run : Option Nat} (a : AOkR S run) (prog : Nat) : AOkR (S.spawn prog).1 run := by
  unfold AS.spawn
  split
  · exact a
  · rename_i hf
    have hn : ((S.tasks.length : Nat) : Int) ∉ S.line := fun h => by
      obtain ⟨t, ht, _⟩ := (a.rdy _).1 h
      have := (List.getElem?_eq_some_iff.1 ht).1
      omega
    obtain ⟨p1, p2, p3⟩ := a.push hn
    refine ⟨p1, fun j => ?_, p2, ?_, fun t ht => ?_, fun j hj => ?_⟩
    · rw [p3 j]
      by_cases h : j < S.tasks.length
      · rw [List.getElem?_append_left h]
        rw [← a.rdy j]
        exact ⟨fun h' => by rcases h' with rfl | h'; omega; exact h', .inr⟩
      · by_cases h' : j = S.tasks.length
        · subst h'
          simp
        · rw [List.getElem?_eq_none (by simp; omega)]
          constructor
          · rintro (h1 | h1)
            · exact absurd h1 h'
            · obtain ⟨t, ht, _⟩ := (a.rdy j).1 h1
              have := (List.getElem?_eq_some_iff.1 ht).1
              omega
          · rintro ⟨t, ht, _⟩
            cases ht
    · have := a.few
      unfold openA at *
      rw [List.filter_append, List.length_append]
      have h1 : (List.filter (fun t : AT => decide (t.st ≠ 0)) [⟨prog, 0, 0, 1⟩]).length = 1 := rfl
      omega
    · rcases List.mem_append.1 ht with h | h
      · exact a.sts t h
      · simp at h; subst h; simp
    · obtain ⟨t, ht, h2⟩ := a.run1 j hj
      exact ⟨t, by rw [List.getElem?_append_left (List.getElem?_eq_some_iff.1 ht).1]; exact ht, h2⟩
end Go.Proofs.Ytaeckjhipmcddaa
