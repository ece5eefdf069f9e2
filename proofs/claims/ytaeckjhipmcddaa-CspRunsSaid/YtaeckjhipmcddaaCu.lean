/- Layer 15: the plain machine's step. -/
import Derived.Test.YtaeckjhipmcddaaCt
set_option maxRecDepth 100000
namespace Go.Proofs.Ytaeckjhipmcddaa
open Go Go.Eng
/-- a task in the midst: what becomes of it does not matter to the others' order -/
theorem AOkR.act {P : List (List (Int × Int × Int))} {S : AS} {i : Nat} {rest : Int} {d : Int × Int × Int} (a : AOkR S (some i)) : AOkR (S.act P i rest d) none := by
  obtain ⟨t, ht, h2⟩ := a.run1 i rfl
  unfold AS.act
  split
  · exact a.ready
  · split
    · rw [ht]; exact a.stop ht 3 (.inr rfl)
    · split
      · exact ((a.wake _ _).note _ _ _).ready
      · split
        · exact ((a.spawn _).note _ _ _).ready
        · split
          · exact a.ready.note _ _ _
          · split
            · exact (a.note _ _ _).ready
            · split
              · exact (a.note _ _ _).ready
              · rw [ht]; exact a.stop ht 0 (.inl rfl)
theorem without_erase {xs : List Int} {k : Nat} {y : Int} (hn : xs.Nodup) (h : xs[k]? = some y) : without xs k = xs.erase y := by
  have hk := (List.getElem?_eq_some_iff.1 h).1
  have e := (List.getElem?_eq_some_iff.1 h).2
  have e1 : xs = xs.take k ++ y :: xs.drop (k + 1) := by
    conv => lhs; rw [← List.take_append_drop k xs, List.drop_eq_getElem_cons hk, e]
  rw [without, if_neg (by omega)]
  simp only [Int.toNat_natCast]
  have hn' := hn
  rw [e1, List.nodup_append, List.nodup_cons] at hn'
  conv => rhs; rw [e1]
  rw [List.erase_append_right _ (fun hm => hn'.2.2 y hm y (by simp) rfl), List.erase_cons_head]
theorem AOkR.take {S : AS} (a : AOkR S none) {k i : Nat} (hk : S.line[k]? = some (i : Int)) {t : AT} (ht : S.tasks[i]? = some t) (pos : Nat) (why : Int) : AOkR ({ S with line := without S.line k, tasks := S.tasks.set i ⟨t.prog, pos, why, 2⟩ } : AS) (some i) := by
  rw [without_erase a.nd hk]
  have hm := List.mem_of_getElem? hk
  obtain ⟨t', ht', h1⟩ := (a.rdy i).1 hm
  rw [ht] at ht'; cases ht'
  refine a.change (t' := ⟨t.prog, pos, why, 2⟩) (ev' := S.ev) ht (by omega) (by simp) (a.nd.erase _) (fun x hx => a.nn x (List.mem_of_mem_erase hx)) (fun j => ?_) (fun j hj => by cases hj; exact .inl ⟨rfl, rfl⟩)
  rw [a.nd.mem_erase_iff]
  by_cases h : j = i
  · subst h; simp
  · rw [if_neg h]
    exact ⟨fun h => h.2, fun h' => ⟨by omega, h'⟩⟩
/-- the bounds that hold after n steps -/
structure AIn (np n : Nat) (S : AS) : Prop where
  ev : S.ev.length ≤ 2 * n
  tl : S.tasks.length ≤ 6 + n
  tp : ∀ t ∈ S.tasks, t.prog < np ∧ t.pos ≤ n
theorem AIn.mono {np n m : Nat} {S : AS} (b : AIn np n S) (h : n ≤ m) : AIn np m S := ⟨by have := b.ev; omega, by have := b.tl; omega, fun t ht => ⟨(b.tp t ht).1, by have := (b.tp t ht).2; omega⟩⟩
theorem tp_set {np n : Nat} {l : List AT} (h : ∀ t ∈ l, t.prog < np ∧ t.pos ≤ n) (i : Nat) {t : AT} (ht : t.prog < np ∧ t.pos ≤ n) : ∀ u ∈ l.set i t, u.prog < np ∧ u.pos ≤ n := fun u hu => by
  rcases List.mem_or_eq_of_mem_set hu with h1 | rfl
  · exact h u h1
  · exact ht
theorem ready_tp {np n : Nat} {S : AS} (h : ∀ t ∈ S.tasks, t.prog < np ∧ t.pos ≤ n) (i : Nat) : (∀ t ∈ (S.ready i).tasks, t.prog < np ∧ t.pos ≤ n) ∧ (S.ready i).tasks.length = S.tasks.length ∧ (S.ready i).ev = S.ev := by
  unfold AS.ready
  split
  · rename_i t ht
    exact ⟨tp_set h i (h t (List.mem_of_getElem? ht)), by simp, rfl⟩
  · exact ⟨h, rfl, rfl⟩
theorem wake_tp {np n : Nat} {S : AS} (h : ∀ t ∈ S.tasks, t.prog < np ∧ t.pos ≤ n) (id why : Int) : (∀ t ∈ (S.wake id why).1.tasks, t.prog < np ∧ t.pos ≤ n) ∧ (S.wake id why).1.tasks.length = S.tasks.length ∧ (S.wake id why).1.ev = S.ev := by
  unfold AS.wake
  split
  · split
    · rename_i t ht
      split
      · exact ⟨tp_set h _ (h t (List.mem_of_getElem? ht)), by simp, rfl⟩
      · exact ⟨h, rfl, rfl⟩
    · exact ⟨h, rfl, rfl⟩
  · exact ⟨h, rfl, rfl⟩
theorem spawn_tp {np n : Nat} {S : AS} (h : ∀ t ∈ S.tasks, t.prog < np ∧ t.pos ≤ n) {p : Nat} (hp : p < np) : (∀ t ∈ (S.spawn p).1.tasks, t.prog < np ∧ t.pos ≤ n) ∧ (S.spawn p).1.tasks.length ≤ S.tasks.length + 1 ∧ (S.spawn p).1.ev = S.ev := by
  unfold AS.spawn
  split
  · exact ⟨h, by simp, rfl⟩
  · refine ⟨fun t ht => ?_, by simp, rfl⟩
    rcases List.mem_append.1 ht with h1 | h1
    · exact h t h1
    · simp at h1; subst h1; exact ⟨hp, Nat.zero_le _⟩
theorem AIn.spawned {np n : Nat} {S : AS} (b : AIn np n S) {p : Nat} (hp : p < np) : (S.spawn p).1.ev = S.ev ∧ (S.spawn p).1.tasks.length ≤ S.tasks.length + 1 ∧ ∀ t ∈ (S.spawn p).1.tasks, t.prog < np ∧ t.pos ≤ n := ⟨(spawn_tp b.tp hp).2.2, (spawn_tp b.tp hp).2.1, (spawn_tp b.tp hp).1⟩
theorem act_in {P : List (List (Int × Int × Int))} {S : AS} {i n m : Nat} {rest : Int} {d : Int × Int × Int} (h : ∀ t ∈ S.tasks, t.prog < P.length ∧ t.pos ≤ n) (hP : 0 < P.length) (he : S.ev.length ≤ m) : (∀ t ∈ (S.act P i rest d).tasks, t.prog < P.length ∧ t.pos ≤ n) ∧ (S.act P i rest d).tasks.length ≤ S.tasks.length + 1 ∧ (S.act P i rest d).ev.length ≤ m + 1 := by
  have hpk : ∀ x : Int, pickN x P.length < P.length := fun x => by
    unfold pickN
    have h1 := Int.emod_nonneg x (b := (P.length : Int)) (by omega)
    have h2 := Int.emod_lt_of_pos x (b := (P.length : Int)) (by omega)
    omega
  have hst : ∀ k : Nat, (∀ t ∈ (match S.tasks[i]? with | some t => S.setT i { t with st := k } | none => S).tasks, t.prog < P.length ∧ t.pos ≤ n) ∧ (match S.tasks[i]? with | some t => S.setT i { t with st := k } | none => S).tasks.length ≤ S.tasks.length + 1 ∧ (match S.tasks[i]? with | some t => S.setT i { t with st := k } | none => S).ev.length ≤ m + 1 := fun k => by
    split
    · rename_i t ht
      exact ⟨tp_set h i (h t (List.mem_of_getElem? ht)), by simp [AS.setT], Nat.le_succ_of_le he⟩
    · exact ⟨h, by omega, by omega⟩
  have hr : ∀ S' : AS, (∀ t ∈ S'.tasks, t.prog < P.length ∧ t.pos ≤ n) → S'.tasks.length ≤ S.tasks.length + 1 → S'.ev.length ≤ m + 1 → (∀ t ∈ (S'.ready i).tasks, t.prog < P.length ∧ t.pos ≤ n) ∧ (S'.ready i).tasks.length ≤ S.tasks.length + 1 ∧ (S'.ready i).ev.length ≤ m + 1 := fun S' h1 h2 h3 => by
    obtain ⟨r1, r2, r3⟩ := ready_tp h1 i
    exact ⟨r1, by omega, by rw [r3]; exact h3⟩
  have hn : ∀ (S' : AS) (a b : Int), S'.ev.length ≤ m → (S'.note i a b).ev.length ≤ m + 1 := fun S' a b h => by simp [AS.note]; omega
  unfold AS.act
  split
  · exact hr S h (by omega) (by omega)
  · split
    · exact hst 3
    · split
      · obtain ⟨r1, r2, r3⟩ := wake_tp h d.2.1 d.2.2
        exact hr _ r1 (by show (S.wake d.2.1 d.2.2).1.tasks.length ≤ _; omega) (hn _ _ _ (by rw [r3]; exact he))
      · split
        · obtain ⟨r1, r2, r3⟩ := spawn_tp h (hpk d.2.1)
          exact hr _ r1 r2 (hn _ _ _ (by rw [r3]; exact he))
        · split
          · obtain ⟨r1, r2, r3⟩ := ready_tp h i
            exact ⟨r1, by show (S.ready i).tasks.length ≤ _; omega, hn _ _ _ (by rw [r3]; exact he)⟩
          · split
            · exact hr _ h (by show S.tasks.length ≤ _; omega) (hn _ _ _ he)
            · split
              · exact hr _ h (by show S.tasks.length ≤ _; omega) (hn _ _ _ he)
              · exact hst 0
/-- a step of the plain machine, laid out -/
theorem step_some {P : List (List (Int × Int × Int))} {S S' : AS} {p : Int} (h : S.step P p = some S') (a : AOkR S none) : ∃ (i : Nat) (t : AT), S.line[(p % (S.line.length : Int)).toNat]? = some (i : Int) ∧ S.tasks[i]? = some t ∧ t.st = 1 ∧ 0 < S.line.length ∧
    S' = AS.act P ((({ S with line := without S.line (p % (S.line.length : Int)) } : AS).setT i ⟨t.prog, t.pos + 1, 0, 2⟩).note i t.pos t.why) i (p / (S.line.length : Int)) (doAt P t.prog t.pos) := by
  unfold AS.step at h
  split at h
  · cases h
  · rename_i id hid
    have h0 := a.nn id (List.mem_of_getElem? hid)
    have e : ((id.toNat : Nat) : Int) = id := Int.toNat_of_nonneg h0
    split at h
    · cases h
    · rename_i t ht
      obtain ⟨t', ht', h1⟩ := (a.rdy id.toNat).1 (by rw [e]; exact List.mem_of_getElem? hid)
      rw [ht] at ht'; cases ht'
      refine ⟨id.toNat, t, by rw [hid, e], ht, h1, ?_, ?_⟩
      · have := (List.getElem?_eq_some_iff.1 hid).1; omega
      · cases h; rfl
theorem step_none {P : List (List (Int × Int × Int))} {S : AS} {p : Int} (h : S.step P p = none) (a : AOkR S none) : S.line = [] := by
  unfold AS.step at h
  split at h
  · rename_i hid
    cases hl : S.line with
    | nil => rfl
    | cons x l =>
      have hpos : (0 : Int) < (S.line.length : Int) := by rw [hl]; simp
      have h1 := Int.emod_nonneg p (b := (S.line.length : Int)) (by omega)
      have h2 := Int.emod_lt_of_pos p hpos
      rw [List.getElem?_eq_getElem (by omega)] at hid
      cases hid
  · rename_i id hid
    have h0 := a.nn id (List.mem_of_getElem? hid)
    have e : ((id.toNat : Nat) : Int) = id := Int.toNat_of_nonneg h0
    obtain ⟨t', ht', h1⟩ := (a.rdy id.toNat).1 (by rw [e]; exact List.mem_of_getElem? hid)
    rw [ht'] at h
    cases h
theorem toNat_emod {p : Int} {n : Nat} (hn : 0 < n) : ((p % (n : Int)).toNat : Int) = p % (n : Int) := Int.toNat_of_nonneg (Int.emod_nonneg _ (by omega))
theorem step_ok {P : List (List (Int × Int × Int))} {S S' : AS} {p : Int} (h : S.step P p = some S') (a : AOkR S none) : AOkR S' none := by
  obtain ⟨i, t, h1, h2, h3, h4, rfl⟩ := step_some h a
  have := a.take h1 h2 (t.pos + 1) 0
  rw [toNat_emod h4] at this
  exact (this.note i t.pos t.why).act
theorem step_in {P : List (List (Int × Int × Int))} {S S' : AS} {p : Int} {n : Nat} (h : S.step P p = some S') (a : AOkR S none) (b : AIn P.length n S) : AIn P.length (n + 1) S' := by
  obtain ⟨i, t, h1, h2, h3, h4, rfl⟩ := step_some h a
  have ht := b.tp t (List.mem_of_getElem? h2)
  have hb := b.mono (Nat.le_succ n)
  obtain ⟨r1, r2, r3⟩ := act_in (P := P) (S := ((({ S with line := without S.line (p % (S.line.length : Int)) } : AS).setT i ⟨t.prog, t.pos + 1, 0, 2⟩).note i t.pos t.why)) (i := i) (n := n + 1) (m := 2 * n + 1) (rest := p / (S.line.length : Int)) (d := doAt P t.prog t.pos) (tp_set hb.tp i ⟨ht.1, by simp; exact ht.2⟩) (by omega) (by have := b.ev; simp [AS.note, AS.setT]; omega)
  refine ⟨by omega, ?_, r1⟩
  have := b.tl
  have e : (((({ S with line := without S.line (p % (S.line.length : Int)) } : AS).setT i ⟨t.prog, t.pos + 1, 0, 2⟩).note i t.pos t.why)).tasks.length = S.tasks.length := by simp [AS.note, AS.setT]
  omega
end Go.Proofs.Ytaeckjhipmcddaa
