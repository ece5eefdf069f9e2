/- Layer 15: laws of the plain machine. -/
import Derived.Test.YtaeckjhipmcddaaCl
set_option maxRecDepth 100000
namespace Go.Proofs.Ytaeckjhipmcddaa
open Go Go.Eng
theorem len_le_of_sub {α : Type} [DecidableEq α] : ∀ {l l' : List α}, l.Nodup → (∀ x ∈ l, x ∈ l') → l.length ≤ l'.length
  | [], _, _, _ => by simp
  | x :: l, l', hn, h => by
    have hx := h x (by simp)
    have h1 := len_le_of_sub (l := l) (l' := l'.erase x) (List.nodup_cons.1 hn).2 (fun y hy => (List.mem_erase_of_ne (fun e => (List.nodup_cons.1 hn).1 (by rw [← e]; exact hy))).2 (h y (by simp [hy])))
    have h2 := List.length_erase_of_mem hx
    have h3 : 0 < l'.length := List.length_pos_of_mem hx
    simp only [List.length_cons]
    omega
/-- what is so while task run runs (or none does) -/
structure AOkR (S : AS) (run : Option Nat) : Prop where
  nd : S.line.Nodup
  rdy : ∀ (i : Nat), ((i : Int) ∈ S.line ↔ ∃ t, S.tasks[i]? = some t ∧ t.st = 1)
  nn : ∀ x ∈ S.line, 0 ≤ x
  few : openA S.tasks ≤ 256
  sts : ∀ t ∈ S.tasks, t.st ≤ 3
  run1 : ∀ i, run = some i → ∃ t, S.tasks[i]? = some t ∧ t.st = 2
theorem range_count {α : Type} (p : α → Bool) : ∀ (l : List α), ((List.range l.length).filter fun i => (l[i]?).elim false p).length = (l.filter p).length
  | [] => rfl
  | x :: l => by
    rw [List.length_cons, List.range_succ_eq_map, List.filter_cons, List.filter_map]
    have e : ((fun i => ((x :: l)[i]?).elim false p) ∘ Nat.succ) = fun i => (l[i]?).elim false p := by funext i; simp
    rw [e]
    have ih := range_count p l
    cases h : p x <;> simp [h, ih]
theorem AOkR.len {S : AS} {run : Option Nat} (a : AOkR S run) : S.line.length + (if run.isSome then 1 else 0) ≤ openA S.tasks := by
  have h1 : (S.line.map Int.toNat).Nodup := by
    refine List.Pairwise.map _ (fun x y hxy => ?_) (List.Pairwise.and_mem.1 a.nd)
    intro e
    have := a.nn x hxy.1
    have := a.nn y hxy.2.1
    exact hxy.2.2 (by omega)
  have hsub : ∀ n ∈ run.toList ++ S.line.map Int.toNat, n ∈ (List.range S.tasks.length).filter fun i => (S.tasks[i]?).elim false (fun t => decide (t.st ≠ 0)) := by
    intro n hn
    have key : ∀ t, S.tasks[n]? = some t → t.st ≠ 0 → n ∈ (List.range S.tasks.length).filter fun i => (S.tasks[i]?).elim false (fun t => decide (t.st ≠ 0)) := fun t ht h0 => by
      rw [List.mem_filter, List.mem_range]
      exact ⟨(List.getElem?_eq_some_iff.1 ht).1, by rw [ht]; simpa using h0⟩
    rcases List.mem_append.1 hn with h | h
    · obtain ⟨t, ht, h2⟩ := a.run1 n (by simpa using h)
      exact key t ht (by omega)
    · obtain ⟨x, hx, rfl⟩ := List.mem_map.1 h
      have h0 := a.nn x hx
      obtain ⟨t, ht, h2⟩ := (a.rdy x.toNat).1 (by rw [Int.toNat_of_nonneg h0]; exact hx)
      exact key t ht (by omega)
  have hnd : (run.toList ++ S.line.map Int.toNat).Nodup := by
    cases run with
    | none => simpa using h1
    | some i =>
      simp only [Option.toList_some, List.cons_append, List.nil_append, List.nodup_cons]
      refine ⟨fun h => ?_, h1⟩
      obtain ⟨x, hx, e⟩ := List.mem_map.1 h
      have h0 := a.nn x hx
      obtain ⟨t, ht, h2⟩ := a.run1 i rfl
      obtain ⟨t', ht', h3⟩ := (a.rdy i).1 (by rw [show (i : Int) = x by omega]; exact hx)
      rw [ht] at ht'
      cases ht'
      omega
  have := len_le_of_sub hnd hsub
  rw [range_count] at this
  unfold openA
  refine Nat.le_trans ?_ this
  cases run <;> simp <;> omega
end Go.Proofs.Ytaeckjhipmcddaa
