/- Layer 15: laws of the plain machine for CspTurns. -/
import Derived.Test.YtaeckjhipmcddaaX4
set_option maxRecDepth 100000
namespace Go.Proofs.Ytaeckjhipmcddaa
open Go Go.Eng
def cntE (ev : List (Int × Int × Int)) : Nat := (ev.filter fun q => decide (0 ≤ q.2.1)).length
theorem cntE_add (ev : List (Int × Int × Int)) (q : Int × Int × Int) : cntE (ev ++ [q]) = if 0 ≤ q.2.1 then cntE ev + 1 else cntE ev := by
  unfold cntE
  rw [List.filter_append]
  by_cases h : 0 ≤ q.2.1 <;> simp [h]
theorem note_neg (S : AS) (i : Nat) {a : Int} (b : Int) (h : a < 0) : cntE (S.note i a b).ev = cntE S.ev := by
  show cntE (S.ev ++ [_]) = _
  rw [cntE_add, if_neg (by simp; omega)]
theorem note_pos (S : AS) (i : Nat) {a : Int} (b : Int) (h : 0 ≤ a) : cntE (S.note i a b).ev = cntE S.ev + 1 := by
  show cntE (S.ev ++ [_]) = _
  rw [cntE_add, if_pos h]
theorem ready_ev (S : AS) (i : Nat) : (S.ready i).ev = S.ev := by unfold AS.ready; split <;> rfl
theorem wake_ev (S : AS) (a b : Int) : (S.wake a b).1.ev = S.ev := by
  unfold AS.wake
  split
  · split
    · split <;> rfl
    · rfl
  · rfl
theorem spawn_ev (S : AS) (p : Nat) : (S.spawn p).1.ev = S.ev := by unfold AS.spawn; split <;> rfl
theorem act_cnt (P : List (List (Int × Int × Int))) (S : AS) (i : Nat) (rest : Int) (d : Int × Int × Int) : cntE (S.act P i rest d).ev = cntE S.ev := by
  unfold AS.act
  split
  · rw [ready_ev]
  · split
    · split <;> rfl
    · split
      · show cntE (AS.ready _ _).ev = _
        rw [ready_ev, note_neg _ _ _ (by omega), wake_ev]
      · split
        · show cntE (AS.ready _ _).ev = _
          rw [ready_ev, note_neg _ _ _ (by omega), spawn_ev]
        · split
          · rw [note_neg _ _ _ (by omega), ready_ev]
          · split
            · rw [ready_ev, note_neg _ _ _ (by omega)]
            · split
              · rw [ready_ev, note_neg _ _ _ (by omega)]
              · split <;> rfl
theorem step_cnt {P : List (List (Int × Int × Int))} {S S' : AS} {p : Int} (h : S.step P p = some S') (a : AOkR S none) : cntE S'.ev = cntE S.ev + 1 := by
  obtain ⟨i, t, h1, h2, h3, h4, rfl⟩ := step_some h a
  rw [act_cnt, note_pos _ _ _ (by omega)]
  rfl
/-- nobody but the running one is in the midst of a turn -/
def no2 (S : AS) (run : Option Nat) : Prop := ∀ (i : Nat) t, S.tasks[i]? = some t → t.st = 2 → run = some i
theorem no2.set {S : AS} {run run' : Option Nat} (h : no2 S run) (i : Nat) {t : AT} {l : List Int} {ev : List (Int × Int × Int)} (ht : t.st = 2 → run' = some i) (hr : ∀ j, j ≠ i → run = some j → run' = some j) : no2 ⟨S.tasks.set i t, l, ev⟩ run' := fun j u hu h2 => by
  have hu' : (S.tasks.set i t)[j]? = some u := hu
  rw [List.getElem?_set] at hu'
  by_cases e : i = j
  · subst e
    rw [if_pos rfl] at hu'
    split at hu'
    · cases hu'; exact ht h2
    · cases hu'
  · rw [if_neg e] at hu'
    exact hr j (fun h => e h.symm) (h j u hu' h2)
theorem no2.ready {S : AS} {i : Nat} (h : no2 S (some i)) (hi : ∃ t, S.tasks[i]? = some t) : no2 (S.ready i) none := by
  obtain ⟨t, ht⟩ := hi
  unfold AS.ready
  rw [ht]
  exact h.set i (fun h2 => by simp at h2) (fun j hj e => absurd (Option.some.inj e).symm hj)
theorem no2.wake {S : AS} {run : Option Nat} (h : no2 S run) (a b : Int) : no2 (S.wake a b).1 run := by
  unfold AS.wake
  split
  · split
    · split
      · exact h.set _ (fun h2 => by simp at h2) (fun j _ e => e)
      · exact h
    · exact h
  · exact h
theorem no2.spawn {S : AS} {run : Option Nat} (h : no2 S run) (p : Nat) : no2 (S.spawn p).1 run := by
  unfold AS.spawn
  split
  · exact h
  · intro j u hu h2
    have hu' : (S.tasks ++ [(⟨p, 0, 0, 1⟩ : AT)])[j]? = some u := hu
    by_cases hj : j < S.tasks.length
    · rw [List.getElem?_append_left hj] at hu'
      exact h j u hu' h2
    · rw [List.getElem?_append_right (by omega)] at hu'
      have hm := List.mem_of_getElem? hu'
      simp at hm
      subst hm
      simp at h2
theorem no2.note {S : AS} {run : Option Nat} (h : no2 S run) (i : Nat) (a b : Int) : no2 (S.note i a b) run := h
theorem no2.act {P : List (List (Int × Int × Int))} {S : AS} {i : Nat} {rest : Int} {d : Int × Int × Int} (h : no2 S (some i)) (a : AOkR S (some i)) : no2 (S.act P i rest d) none := by
  obtain ⟨t, ht, h2⟩ := a.run1 i rfl
  have stop : ∀ n, n ≠ 2 → no2 (S.setT i { t with st := n }) none := fun n hn => h.set i (fun h2 => absurd h2 hn) (fun j hj e => absurd (Option.some.inj e).symm hj)
  unfold AS.act
  split
  · exact h.ready ⟨t, ht⟩
  · split
    · rw [ht]; exact stop 3 (by omega)
    · split
      · exact ((h.wake _ _).note _ _ _).ready ⟨_, (wake_keep ht (by omega) d.2.1 d.2.2).1⟩
      · split
        · exact ((h.spawn _).note _ _ _).ready ⟨_, (spawn_keep ht _).1⟩
        · split
          · exact (h.ready ⟨t, ht⟩).note _ _ _
          · split
            · exact (h.note _ _ _).ready ⟨t, ht⟩
            · split
              · exact (h.note _ _ _).ready ⟨t, ht⟩
              · rw [ht]; exact stop 0 (by omega)
theorem step_no2 {P : List (List (Int × Int × Int))} {S S' : AS} {p : Int} (h : S.step P p = some S') (a : AOkR S none) (n : no2 S none) : no2 S' none := by
  obtain ⟨i, t, h1, h2, h3, h4, rfl⟩ := step_some h a
  have a1 := a.take h1 h2 (t.pos + 1) 0
  rw [toNat_emod h4] at a1
  have n1 : no2 ({ S with line := without S.line (p % (S.line.length : Int)), tasks := S.tasks.set i ⟨t.prog, t.pos + 1, 0, 2⟩ } : AS) (some i) := n.set i (fun _ => rfl) (fun j _ e => by cases e)
  exact no2.act (n1.note i t.pos t.why) (a1.note i t.pos t.why)
theorem mem_parkedA {l : List AT} {x : Int} : x ∈ parkedA l l.length ↔ ∃ (i : Nat) (t : AT), x = (i : Int) ∧ l[i]? = some t ∧ t.st = 3 := by
  unfold parkedA
  simp only [List.mem_map, List.mem_filter, List.mem_range]
  constructor
  · rintro ⟨i, ⟨hi, h⟩, rfl⟩
    rw [List.getElem?_eq_getElem hi] at h
    exact ⟨i, l[i], rfl, List.getElem?_eq_getElem hi, by simpa using h⟩
  · rintro ⟨i, t, rfl, ht, h3⟩
    exact ⟨i, ⟨(List.getElem?_eq_some_iff.1 ht).1, by rw [ht]; simpa using h3⟩, rfl⟩
theorem nodup_parkedA (l : List AT) (k : Nat) : (parkedA l k).Nodup := by
  unfold parkedA
  refine List.Pairwise.map _ (fun x y hxy => ?_) (List.Pairwise.filter _ List.nodup_range)
  intro e
  exact hxy (by omega)
/-- who is ready or parked: everybody who is not over, once -/
theorem told {S : AS} (a : AOkR S none) (n : no2 S none) : (S.line ++ parkedA S.tasks S.tasks.length).Nodup ∧ (∀ x ∈ S.line ++ parkedA S.tasks S.tasks.length, ∃ (i : Nat) (t : AT), x = (i : Int) ∧ S.tasks[i]? = some t ∧ t.st ≠ 0) ∧ ∀ (i : Nat) t, S.tasks[i]? = some t → t.st ≠ 0 → (i : Int) ∈ S.line ++ parkedA S.tasks S.tasks.length := by
  have hl : ∀ x ∈ S.line, ∃ (i : Nat) (t : AT), x = (i : Int) ∧ S.tasks[i]? = some t ∧ t.st = 1 := fun x hx => by
    have h0 := a.nn x hx
    obtain ⟨t, ht, h1⟩ := (a.rdy x.toNat).1 (by rw [Int.toNat_of_nonneg h0]; exact hx)
    exact ⟨x.toNat, t, (Int.toNat_of_nonneg h0).symm, ht, h1⟩
  refine ⟨?_, fun x hx => ?_, fun i t ht h0 => ?_⟩
  · rw [List.nodup_append]
    refine ⟨a.nd, nodup_parkedA _ _, fun x hx y hy e => ?_⟩
    subst e
    obtain ⟨i, t, rfl, ht, h1⟩ := hl x hx
    obtain ⟨j, u, e, hu, h3⟩ := mem_parkedA.1 hy
    obtain rfl : i = j := by omega
    rw [ht] at hu; cases hu; omega
  · rcases List.mem_append.1 hx with h | h
    · obtain ⟨i, t, rfl, ht, h1⟩ := hl x h
      exact ⟨i, t, rfl, ht, by omega⟩
    · obtain ⟨i, t, rfl, ht, h3⟩ := mem_parkedA.1 h
      exact ⟨i, t, rfl, ht, by omega⟩
  · have h3 := a.sts t (List.mem_of_getElem? ht)
    have h2 : t.st ≠ 2 := fun h => by have := n i t ht h; cases this
    rcases (by omega : t.st = 1 ∨ t.st = 3) with h | h
    · exact List.mem_append_left _ ((a.rdy i).2 ⟨t, ht, h⟩)
    · exact List.mem_append_right _ (mem_parkedA.2 ⟨i, t, rfl, ht, h⟩)
theorem no2.init : no2 ⟨[], [], []⟩ none := fun i t h => by simp at h
end Go.Proofs.Ytaeckjhipmcddaa
