/-
  The engine, further: maps with keys that compare by their own: what they hold as a list of pairs.
-/
import Derived.Test.YtbaidcnalkdhgaaGreatEv
import Derived.MapKept
import Derived.Carry
namespace Go.Eng
open Go
section
variable {κ ν : Type} [DecidableEq κ]
def mget : List (κ × ν) → κ → Option ν
  | [], _ => none
  | (a, v) :: M, k => if k = a then some v else mget M k
def mset : List (κ × ν) → κ → ν → List (κ × ν)
  | [], k, v => [(k, v)]
  | (a, u) :: M, k, v => if k = a then (a, v) :: M else (a, u) :: mset M k v
def mdel : List (κ × ν) → κ → List (κ × ν)
  | [], _ => []
  | (a, u) :: M, k => if k = a then M else (a, u) :: mdel M k
def mfind : List (κ × ν) → κ → Nat → Option (Nat × ν)
  | [], _, _ => none
  | (a, v) :: M, k, i => if k = a then some (i, v) else mfind M k (i + 1)

theorem mget_mset (M : List (κ × ν)) (k k' : κ) (v : ν) : mget (mset M k v) k' = if k' = k then some v else mget M k' := by
  induction M with
  | nil => simp [mset, mget]
  | cons p M ih =>
    obtain ⟨a, u⟩ := p
    simp only [mset]
    split
    · rename_i h; subst h; simp only [mget]; split <;> rfl
    · rename_i h
      simp only [mget, ih]
      by_cases h1 : k' = a
      · subst h1; rw [if_pos rfl, if_pos rfl, if_neg (fun e => h e.symm)]
      · rw [if_neg h1, if_neg h1]
theorem mget_none {M : List (κ × ν)} {k : κ} : mget M k = none ↔ k ∉ M.map (·.1) := by
  induction M with
  | nil => simp [mget]
  | cons p M ih =>
    obtain ⟨a, u⟩ := p
    simp only [mget, List.map_cons, List.mem_cons, not_or]
    split
    · rename_i h; simp [h]
    · rename_i h; simp [ih, h]
theorem mset_keys (M : List (κ × ν)) (k : κ) (v : ν) : (mset M k v).map (·.1) = if k ∈ M.map (·.1) then M.map (·.1) else M.map (·.1) ++ [k] := by
  induction M with
  | nil => simp [mset]
  | cons p M ih =>
    obtain ⟨a, u⟩ := p
    simp only [mset]
    split
    · rename_i h; simp [h]
    · rename_i h
      simp only [List.map_cons, ih, List.mem_cons, h, false_or]
      split <;> rfl
theorem mdel_keys (M : List (κ × ν)) (k : κ) : (mdel M k).map (·.1) = (M.map (·.1)).erase k := by
  induction M with
  | nil => simp [mdel]
  | cons p M ih =>
    obtain ⟨a, u⟩ := p
    simp only [mdel]
    split
    · rename_i h; simp [h]
    · rename_i h
      simp only [List.map_cons, ih]
      rw [List.erase_cons_tail]
      simp
      exact fun e => h e.symm
theorem mget_mdel {M : List (κ × ν)} (hn : (M.map (·.1)).Nodup) (k k' : κ) : mget (mdel M k) k' = if k' = k then none else mget M k' := by
  induction M with
  | nil => simp [mdel, mget]
  | cons p M ih =>
    obtain ⟨a, u⟩ := p
    simp only [List.map_cons, List.nodup_cons] at hn
    simp only [mdel]
    split
    · rename_i h
      subst h
      by_cases h1 : k' = k
      · subst h1; rw [if_pos rfl]; exact mget_none.2 hn.1
      · rw [if_neg h1]; simp [mget, h1]
    · rename_i h
      simp only [mget, ih hn.2]
      by_cases h1 : k' = a
      · subst h1; rw [if_pos rfl, if_pos rfl, if_neg (fun e => h e.symm)]
      · rw [if_neg h1, if_neg h1]
theorem mfind_get (M : List (κ × ν)) (k : κ) : ∀ i, (mfind M k i).map (·.2) = mget M k := by
  induction M with
  | nil => intro i; rfl
  | cons p M ih =>
    intro i
    obtain ⟨a, u⟩ := p
    simp only [mfind, mget]
    split
    · rfl
    · exact ih _
theorem mfind_set {M : List (κ × ν)} {k : κ} : ∀ {i j : Nat} {u : ν}, mfind M k i = some (j, u) → i ≤ j ∧ j - i < M.length ∧ ∀ v, M.modify (j - i) (fun _ => (k, v)) = mset M k v := by
  induction M with
  | nil => intro i j u h; simp [mfind] at h
  | cons p M ih =>
    intro i j u h
    obtain ⟨a, x⟩ := p
    simp only [mfind] at h
    split at h
    · rename_i hk
      simp at h
      obtain ⟨rfl, rfl⟩ := h
      simp [mset, hk]
    · rename_i hk
      obtain ⟨h1, h2, h3⟩ := ih h
      refine ⟨by omega, by simp; omega, fun v => ?_⟩
      rw [show j - i = (j - (i + 1)) + 1 by omega]
      simp [mset, hk, h3 v]
theorem mfind_del {M : List (κ × ν)} {k : κ} : ∀ {i j : Nat} {u : ν}, mfind M k i = some (j, u) → i ≤ j ∧ M.eraseIdx (j - i) = mdel M k := by
  induction M with
  | nil => intro i j u h; simp [mfind] at h
  | cons p M ih =>
    intro i j u h
    obtain ⟨a, x⟩ := p
    simp only [mfind] at h
    split at h
    · rename_i hk
      simp at h
      obtain ⟨rfl, rfl⟩ := h
      simp [mdel, hk]
    · rename_i hk
      obtain ⟨h1, h3⟩ := ih h
      refine ⟨by omega, ?_⟩
      rw [show j - i = (j - (i + 1)) + 1 by omega]
      simp [mdel, hk, h3]
theorem mfind_no {M : List (κ × ν)} {k : κ} : ∀ {i : Nat}, mfind M k i = none → (∀ v, mset M k v = M ++ [(k, v)]) ∧ mdel M k = M := by
  induction M with
  | nil => intro i h; exact ⟨fun v => rfl, rfl⟩
  | cons p M ih =>
    intro i h
    obtain ⟨a, x⟩ := p
    simp only [mfind] at h
    split at h
    · cases h
    · rename_i hk
      obtain ⟨h1, h2⟩ := ih h
      exact ⟨fun v => by simp [mset, hk, h1 v], by simp [mdel, hk, h2]⟩
end

section
variable {κ : Type} [DecidableEq κ]
/-- a map that tells which things are in a list -/
structure MSet (M : List (κ × Bool)) (cur : List κ) : Prop where
  get : ∀ x, mget M x = if x ∈ cur then some true else none
  len : M.length = cur.length
  nd : (M.map (·.1)).Nodup
  nc : cur.Nodup
theorem MSet.nil : MSet ([] : List (κ × Bool)) [] := ⟨fun x => by simp [mget], rfl, by simp, by simp⟩
theorem MSet.mem {M : List (κ × Bool)} {cur : List κ} (m : MSet M cur) (x : κ) : x ∈ M.map (·.1) ↔ x ∈ cur := by
  have h := m.get x
  by_cases hx : x ∈ cur
  · rw [if_pos hx] at h
    refine ⟨fun _ => hx, fun _ => ?_⟩
    rcases Decidable.em (x ∈ M.map (·.1)) with h1 | h1
    · exact h1
    · rw [mget_none.2 h1] at h; cases h
  · rw [if_neg hx] at h
    exact ⟨fun h1 => absurd h1 (mget_none.1 h), fun h1 => absurd h1 hx⟩
theorem MSet.again {M : List (κ × Bool)} {cur : List κ} (m : MSet M cur) {x : κ} (hx : x ∈ cur) : MSet (mset M x true) cur := by
  have hk := mset_keys M x true
  rw [if_pos ((m.mem x).2 hx)] at hk
  refine ⟨fun y => ?_, ?_, by rw [hk]; exact m.nd, m.nc⟩
  · rw [mget_mset, m.get y]
    split
    · rename_i h; subst h; simp [hx]
    · rfl
  · have := congrArg List.length hk
    simpa [m.len] using this
theorem MSet.add {M : List (κ × Bool)} {cur : List κ} (m : MSet M cur) {x : κ} (hx : x ∉ cur) : MSet (mset M x true) (cur ++ [x]) := by
  have hx' : x ∉ M.map (·.1) := fun h => hx ((m.mem x).1 h)
  have hk := mset_keys M x true
  rw [if_neg hx'] at hk
  refine ⟨fun y => ?_, ?_, ?_, ?_⟩
  · rw [mget_mset, m.get y]
    by_cases h : y = x
    · subst h; simp
    · simp [h]
  · have := congrArg List.length hk
    simpa [m.len] using this
  · rw [hk, List.nodup_append]
    exact ⟨m.nd, by simp, fun a ha b hb => by simp at hb; subst hb; exact fun e => hx' (e ▸ ha)⟩
  · rw [List.nodup_append]
    exact ⟨m.nc, by simp, fun a ha b hb => by simp at hb; subst hb; exact fun e => hx (e ▸ ha)⟩
theorem MSet.del {M : List (κ × Bool)} {cur cur' : List κ} (m : MSet M cur) {x : κ} (hx : x ∈ cur) (hc : cur' = cur.erase x) : MSet (mdel M x) cur' := by
  subst hc
  have hk := mdel_keys M x
  refine ⟨fun y => ?_, ?_, ?_, m.nc.erase x⟩
  · rw [mget_mdel m.nd, m.get y]
    by_cases h : y = x
    · subst h; rw [if_pos rfl, if_neg]
      exact fun h => (List.Nodup.mem_erase_iff m.nc).1 h |>.1 rfl
    · rw [if_neg h]
      have : y ∈ cur.erase x ↔ y ∈ cur := by rw [List.Nodup.mem_erase_iff m.nc]; simp [h]
      simp only [this]
  · have := congrArg List.length hk
    simp only [List.length_map] at this
    rw [this, List.length_erase_of_mem ((m.mem x).2 hx), List.length_erase_of_mem hx]
    simp [m.len]
  · rw [hk]; exact m.nd.erase x
end
/-- keys of a kind that the model compares by what they are -/
class KyOk {κ : Type} [DecidableEq κ] (P : Program) (kt : TypeId) (kE : outParam (κ → Value)) : Prop where
  check : ∀ b k w, (Instr.checkKey b 10000 kt (kE k)).run P w = .ok () w
  find : ∀ (k : κ) (es : List MapEntry) (M : List (κ × Value)) w, es.map (fun e => (e.key, e.val)) = M.map (fun p => (kE p.1, p.2)) → (Instr.findKey kt (kE k) es).run P w = .ok (mfind M k 0) w
  bits : ∀ k, Instr.sameBits 10000 (kE k) (kE k) = true
  inj : ∀ a b, kE a = kE b → a = b

/-- each entry has a stamp of its own, below the clock -/
def Births (es : List MapEntry) (clock : Nat) : Prop := (es.map (·.born)).Nodup ∧ ∀ e ∈ es, e.born < clock
theorem Births.push {es : List MapEntry} {clock : Nat} (b : Births es clock) (k v : Value) : Births (es ++ [{ key := k, val := v, born := clock }]) (clock + 1) := by
  refine ⟨?_, fun e he => ?_⟩
  · rw [List.map_append, List.nodup_append]
    refine ⟨b.1, by simp, fun x hx y hy => ?_⟩
    obtain ⟨e, he, rfl⟩ := List.mem_map.1 hx
    simp at hy
    have := b.2 e he
    omega
  · rcases List.mem_append.1 he with h | h
    · have := b.2 e h; omega
    · simp at h; rw [h]; simp
theorem Births.modify {es : List MapEntry} {clock : Nat} (b : Births es clock) (i : Nat) (f : MapEntry → MapEntry) (hf : ∀ e, (f e).born = e.born) : Births (es.modify i f) clock := by
  have e1 : ∀ (l : List MapEntry) (i : Nat), (l.modify i f).map (·.born) = l.map (·.born) := by
    intro l
    induction l with
    | nil => intro i; cases i <;> rfl
    | cons x l ih =>
      intro i
      cases i with
      | zero => simp [hf]
      | succ i => simp [ih i]
  have e2 : (es.modify i f).map (·.born) = es.map (·.born) := e1 es i
  refine ⟨by rw [e2]; exact b.1, fun e he => ?_⟩
  have : e.born ∈ (es.modify i f).map (·.born) := List.mem_map_of_mem he
  rw [e2] at this
  obtain ⟨x, hx, hxe⟩ := List.mem_map.1 this
  rw [← hxe]; exact b.2 x hx
theorem Births.erase {es : List MapEntry} {clock : Nat} (b : Births es clock) (i : Nat) : Births (es.eraseIdx i) clock :=
  ⟨b.1.sublist ((List.eraseIdx_sublist _ _).map _), fun e he => b.2 e ((List.eraseIdx_sublist _ _).subset he)⟩
/-- block r is a map that holds the pairs of M -/
structure Mp {κ ν : Type} (h : Array Obj) (r : Nat) (kE : κ → Value) (vE : ν → Value) (M : List (κ × ν)) : Prop where
  out : ∃ es clock, h[r]? = some (.map es clock) ∧ es.toList.map (fun e => (e.key, e.val)) = M.map (fun p => (kE p.1, vE p.2)) ∧ Births es.toList clock
section
variable {κ ν : Type} {P : Program} {w : World} {kE : κ → Value} {vE : ν → Value} {M : List (κ × ν)} {r : Nat}
theorem Mp.lt {h : Array Obj} (m : Mp h r kE vE M) : r < h.size := by
  obtain ⟨es, c, h1, _⟩ := m.out
  exact (Array.getElem?_eq_some_iff.1 h1).1
theorem Mp.fr {F : Nat → Prop} {w' : World} (m : Mp w.heap r kE vE M) (hf : Fr F w w') (hn : ¬ F r) : Mp w'.heap r kE vE M := by
  have hl := m.lt
  obtain ⟨es, c, h1, h2⟩ := m.out
  exact ⟨es, c, (hf.blk r hl hn).trans h1, h2⟩
theorem Mp.frN {w' : World} (m : Mp w.heap r kE vE M) (hf : Fr No w w') : Mp w'.heap r kE vE M := m.fr hf (fun h => h)
theorem Mp.ne_blk {h : Array Obj} {b : Nat} {c : List Value} {T : TypeId} (m : Mp h r kE vE M) (hb : Blk h b c T) : b ≠ r := by
  rintro rfl
  obtain ⟨es, cl, h1, _⟩ := m.out
  rw [hb.get] at h1
  cases h1
theorem Mp.ne_own {α : Type} {h : Array Obj} {T sz : Nat} {enc : α → List Value} {v : Value} {xs : List α} (m : Mp h r kE vE M) (o : Own h T sz enc v xs) : own v ≠ some r := by
  intro hv
  rcases o.shape with ⟨rfl, _⟩ | ⟨g, cap, cs, rfl, hg, _⟩
  · cases hv
  · cases hv; exact m.ne_blk hg rfl
theorem Mp.new (kE : κ → Value) (vE : ν → Value) : Mp (w.alloc (.map #[] 0)).heap w.heap.size kE vE ([] : List (κ × ν)) :=
  ⟨#[], 0, by show (w.heap.push _)[w.heap.size]? = _; simp, rfl, by simp, by simp⟩
/-- a world in which one block has been replaced -/
theorem Fr.setObj {F : Nat → Prop} {a w : World} (h : Fr F a w) (b : Nat) (o : Obj) (hb : F b ∨ a.heap.size ≤ b) : Fr F a { w with heap := w.heap.setIfInBounds b o } :=
  ⟨h.os, h.tape, h.output, by simpa using h.size, fun i hi hn => by
    have hne : b ≠ i := by rintro rfl; rcases hb with hb | hb; exact hn hb; omega
    show (w.heap.setIfInBounds b o)[i]? = _
    rw [Array.getElem?_setIfInBounds_ne hne]
    exact h.blk i hi hn⟩
theorem map_eraseIdx' {α β : Type} (f : α → β) : ∀ (l : List α) (i : Nat), (l.eraseIdx i).map f = (l.map f).eraseIdx i
  | [], i => by simp
  | x :: l, 0 => by simp
  | x :: l, i + 1 => by simp [map_eraseIdx' f l i]
theorem Mp.ofSet {es : Array MapEntry} {c : Nat} (hlt : r < w.heap.size) (hb : Births es.toList c) (h2 : es.toList.map (fun e => (e.key, e.val)) = M.map (fun p => (kE p.1, vE p.2))) : Mp ({ w with heap := w.heap.setIfInBounds r (.map es c) } : World).heap r kE vE M := ⟨es, c, by simp [hlt], h2, hb⟩
theorem Mp.len (m : Mp w.heap r kE vE M) : ∃ es clock, w.heap[r]? = some (.map es clock) ∧ es.size = M.length := by
  obtain ⟨es, c, h1, h2, _⟩ := m.out
  refine ⟨es, c, h1, ?_⟩
  have := congrArg List.length h2
  simpa using this

variable {n : Nat} {e : Env} {Q : Post} {ops rest : List Oper} {d : Option Nat} {ty : TypeId} {p : String} {af : Array Edge} 
theorem opv_lenMap {x : Operand} {t k v : TypeId} [TUnd P t (.map k v)] (hx : ev e x = .map (some r)) (m : Mp w.heap r kE vE M) : OpV P ⟨d, .call ⟨.builtin .len, #[x], #[t]⟩, ty, p, af, none⟩ e w (.int .i64 M.length) w := by
  have hu := run_underlying (TUnd.out (P := P) (t := t)) w
  obtain ⟨es, c, h1, h2⟩ := m.len
  have hg := MapKept.run_getObj_map (P := P) h1
  simp [OpV, execOp, resolve, invoke, builtin, Builtin.len_, hx, hu, hg, h2, goInt]
theorem opv_lenMap' {x : Operand} {t k v : TypeId} {l : Nat} [TUnd P t (.map k v)] (hx : ev e x = .map (some r)) (m : Mp w.heap r kE vE M) (hl : M.length = l) : OpV P ⟨d, .call ⟨.builtin .len, #[x], #[t]⟩, ty, p, af, none⟩ e w (.int .i64 l) w := by rw [← hl]; exact opv_lenMap hx m
theorem opw_makeMap {t : TypeId} : OpV P ⟨d, .makeMap t none, ty, p, af, none⟩ e w (.map (some w.heap.size)) (w.alloc (.map #[] 0)) := by
  have : (Instr.makeMap t none).run P w = .ok (.map (some w.heap.size)) (w.alloc (.map #[] 0)) := rfl
  simp [OpV, execOp, this]
variable [DecidableEq κ] in
theorem mp_find {t k v : TypeId} [K : KyOk P k kE] {key : κ} {es : Array MapEntry} (h2 : es.toList.map (fun e => (e.key, e.val)) = M.map (fun p => (kE p.1, vE p.2))) : (Instr.findKey k (kE key) es.toList).run P w = .ok ((mfind M key 0).map (fun q => (q.1, vE q.2))) w := by
  have h := K.find key es.toList (M.map fun p => (p.1, vE p.2)) w (by rw [h2]; simp)
  rw [h]
  congr 1
  have : ∀ (M : List (κ × ν)) i, mfind (M.map fun p => (p.1, vE p.2)) key i = (mfind M key i).map (fun q => (q.1, vE q.2)) := by
    intro M
    induction M with
    | nil => intro i; rfl
    | cons p M ih =>
      intro i
      simp only [List.map_cons, mfind]
      split
      · rfl
      · exact ih _
  exact this M 0
variable [DecidableEq κ]
/-- m[k] -/
theorem opv_lookup {x y : Operand} {t k v : TypeId} {key : κ} {z : Value} [TUnd P t (.map k v)] [K : KyOk P k kE] [TZero P v z] (hx : ev e x = .map (some r)) (hy : ev e y = kE key) (m : Mp w.heap r kE vE M) :
    OpV P ⟨d, .lookup t x y false, ty, p, af, none⟩ e w (((mget M key).map vE).getD z) w := by
  obtain ⟨es, c, h1, h2, hb⟩ := m.out
  have hu := run_underlying (TUnd.out (P := P) (t := t)) w
  have hg := MapKept.run_getObj_map (P := P) h1
  have hf := mp_find (P := P) (w := w) (t := t) (k := k) (v := v) (key := key) h2
  have hz := run_zeroValue' (P := P) (t := v) (zv := z) w
  simp only [OpV, execOp, hx, hy, Instr.lookup, Sem.run_bind, hu, Result.andThen_ok, hg, Sem.run_pure, K.check, hf]
  rw [← mfind_get M key 0]
  cases mfind M key 0 with
  | none => simp [hz]
  | some q => simp
theorem opv_lookup' {x y : Operand} {t k v : TypeId} {key : κ} {z u : Value} [TUnd P t (.map k v)] [K : KyOk P k kE] [TZero P v z] (hx : ev e x = .map (some r)) (hy : ev e y = kE key) (m : Mp w.heap r kE vE M) (hv : ((mget M key).map vE).getD z = u) :
    OpV P ⟨d, .lookup t x y false, ty, p, af, none⟩ e w u w := by rw [← hv]; exact opv_lookup hx hy m
/-- v, ok := m[k] -/
theorem opv_lookupOk {x y : Operand} {t k v : TypeId} {key : κ} {z : Value} [TUnd P t (.map k v)] [K : KyOk P k kE] [TZero P v z] (hx : ev e x = .map (some r)) (hy : ev e y = kE key) (m : Mp w.heap r kE vE M) :
    OpV P ⟨d, .lookup t x y true, ty, p, af, none⟩ e w (.tuple #[((mget M key).map vE).getD z, .bool (mget M key).isSome]) w := by
  obtain ⟨es, c, h1, h2, hb⟩ := m.out
  have hu := run_underlying (TUnd.out (P := P) (t := t)) w
  have hg := MapKept.run_getObj_map (P := P) h1
  have hf := mp_find (P := P) (w := w) (t := t) (k := k) (v := v) (key := key) h2
  have hz := run_zeroValue' (P := P) (t := v) (zv := z) w
  simp only [OpV, execOp, hx, hy, Instr.lookup, Sem.run_bind, hu, Result.andThen_ok, hg, Sem.run_pure, K.check, hf]
  rw [← mfind_get M key 0]
  cases mfind M key 0 with
  | none => simp [hz]
  | some q => simp
/-- m[k] = v -/
theorem vL_mapUpdate {x y u : Operand} {t k v : TypeId} {key : κ} {val : ν} [TUnd P t (.map k v)] [K : KyOk P k kE] (hx : ev e x = .map (some r)) (hy : ev e y = kE key) (hu' : ev e u = vE val) (m : Mp w.heap r kE vE M)
    (h : ∀ w', Mp w'.heap r kE vE (mset M key val) → Fr (fun b => b = r) w w' → vL P n ops rest (updO e d undef) w' Q) : vL P n ops (⟨d, .mapUpdate t x y u, ty, p, af, none⟩ :: rest) e w Q := by
  obtain ⟨es, c, h1, h2, hb⟩ := m.out
  have hu := run_underlying (TUnd.out (P := P) (t := t)) w
  have hg := MapKept.run_getObj_map (P := P) h1
  have hf := mp_find (P := P) (w := w) (t := t) (k := k) (v := v) (key := key) h2
  have hlt := m.lt
  cases hq : mfind M key 0 with
  | none =>
    have hs := MapKept.run_setObj_map (P := P) (.map (es.push { key := kE key, val := vE val, born := c }) (c + 1)) h1
    refine vL_skip (w' := { w with heap := w.heap.setIfInBounds r (.map (es.push { key := kE key, val := vE val, born := c }) (c + 1)) }) ?_ (h _ (Mp.ofSet hlt (by simpa using hb.push _ _) ?_) ((Fr.refl _ w).setObj r _ (.inl rfl)))
    · simp only [OpS, execOp, hx, hy, hu', Instr.mapUpdate, Sem.run_bind, hu, Result.andThen_ok, hg, Sem.run_pure, K.check, hf, hq, Option.map_none, hs]
    · rw [(mfind_no hq).1]
      simp [h2]
  | some q =>
    obtain ⟨i, old⟩ := q
    obtain ⟨_, hi, hm⟩ := mfind_set hq
    simp only [Nat.sub_zero] at hi hm
    have hlen : es.size = M.length := by have := congrArg List.length h2; simpa using this
    have hkey : ((es[i]?).map (·.key)).getD (kE key) = kE key := by
      have hfd : ∀ (M : List (κ × ν)) (a : Nat) (j : Nat) (u : ν), mfind M key a = some (j, u) → a ≤ j ∧ M[j - a]? = some (key, u) := by
        intro M
        induction M with
        | nil => intro a j u h; simp [mfind] at h
        | cons p M ih =>
          intro a j u h
          obtain ⟨b, x⟩ := p
          simp only [mfind] at h
          split at h
          · rename_i hk
            simp at h
            obtain ⟨rfl, rfl⟩ := h
            simp [hk]
          · obtain ⟨h3, h4⟩ := ih _ _ _ h
            refine ⟨by omega, ?_⟩
            rw [show j - a = (j - (a + 1)) + 1 by omega]
            simpa using h4
      have h3 := (hfd M 0 i old hq).2
      simp only [Nat.sub_zero] at h3
      have h4 : (es.toList.map (fun e => (e.key, e.val)))[i]? = some (kE key, vE old) := by rw [h2]; simp [h3]
      simp only [List.getElem?_map, Array.getElem?_toList] at h4
      cases he : es[i]? with
      | none => rfl
      | some x => rw [he] at h4; simp at h4; simp [h4.1]
    have hs := MapKept.run_setObj_map (P := P) (.map (es.modify i fun e => { e with key := kE key, val := vE val }) c) h1
    refine vL_skip (w' := { w with heap := w.heap.setIfInBounds r (.map (es.modify i fun e => { e with key := kE key, val := vE val }) c) }) ?_ (h _ (Mp.ofSet hlt (by rw [Array.toList_modify]; exact hb.modify _ _ (fun _ => rfl)) ?_) ((Fr.refl _ w).setObj r _ (.inl rfl)))
    · simp only [OpS, execOp, hx, hy, hu', Instr.mapUpdate, Sem.run_bind, hu, Result.andThen_ok, hg, Sem.run_pure, K.check, hf, hq, Option.map_some, hkey, Instr.keyThatStays, K.bits, if_true, hs]
    · rw [← hm val, Array.toList_modify]
      apply List.ext_getElem?
      intro j
      have h4 : ∀ j : Nat, (es.toList[j]?).map (fun e => (e.key, e.val)) = (M[j]?).map (fun p => (kE p.1, vE p.2)) := fun j => by
        have := congrArg (·[j]?) h2
        simpa using this
      simp only [List.getElem?_map, List.getElem?_modify]
      have h5 := h4 j
      by_cases hj : i = j
      · subst hj
        simp only [if_true]
        cases h6 : es.toList[i]? <;> cases h7 : M[i]? <;> simp_all
      · simp only [hj, if_false]
        cases h6 : es.toList[j]? <;> cases h7 : M[j]? <;> simp_all
/-- delete(m, k) -/
theorem vL_mapDelete {x y : Operand} {t k v kt' : TypeId} {key : κ} [TUnd P t (.map k v)] [K : KyOk P k kE] (hx : ev e x = .map (some r)) (hy : ev e y = kE key) (m : Mp w.heap r kE vE M)
    (h : ∀ w', Mp w'.heap r kE vE (mdel M key) → Fr (fun b => b = r) w w' → vL P n ops rest (updO e d (.tuple #[])) w' Q) : vL P n ops (⟨d, .call ⟨.builtin .delete, #[x, y], #[t, kt']⟩, ty, p, af, none⟩ :: rest) e w Q := by
  obtain ⟨es, c, h1, h2, hb⟩ := m.out
  have hu := run_underlying (TUnd.out (P := P) (t := t)) w
  have hg := MapKept.run_getObj_map (P := P) h1
  have hf := mp_find (P := P) (w := w) (t := t) (k := k) (v := v) (key := key) h2
  have hlt := m.lt
  cases hq : mfind M key 0 with
  | none =>
    have hs := MapKept.run_setObj_map (P := P) (.map es c) h1
    refine vL_val (w' := { w with heap := w.heap.setIfInBounds r (.map es c) }) ?_ (h _ (Mp.ofSet hlt hb ?_) ((Fr.refl _ w).setObj r _ (.inl rfl)))
    · simp [OpV, execOp, resolve, invoke, builtin, Builtin.delete_, hx, hy, hu, hg, K.check, hf, hq, hs]
    · rw [(mfind_no hq).2]; exact h2
  | some q =>
    obtain ⟨i, old⟩ := q
    obtain ⟨_, hm⟩ := mfind_del hq
    simp only [Nat.sub_zero] at hm
    have hs := MapKept.run_setObj_map (P := P) (.map (es.eraseIdxIfInBounds i) c) h1
    refine vL_val (w' := { w with heap := w.heap.setIfInBounds r (.map (es.eraseIdxIfInBounds i) c) }) ?_ (h _ (Mp.ofSet hlt (by rw [Array.toList_eraseIdxIfInBounds]; exact hb.erase _) ?_) ((Fr.refl _ w).setObj r _ (.inl rfl)))
    · simp [OpV, execOp, resolve, invoke, builtin, Builtin.delete_, hx, hy, hu, hg, K.check, hf, hq, hs]
    · rw [← hm, Array.toList_eraseIdxIfInBounds, map_eraseIdx', h2, map_eraseIdx']
end

/-! ### keys that are numbers or texts -/
def ikE (n : Int) : Value := .int .i64 n
theorem findNow_int (k : Int) : ∀ (es : List MapEntry) (M : List (Int × Value)) i, es.map (fun e => (e.key, e.val)) = M.map (fun p => (ikE p.1, p.2)) → Instr.findNow (.int .i64) (ikE k) es i = some (mfind M k i)
  | [], [], i, _ => rfl
  | [], _ :: _, i, h => by simp at h
  | _ :: _, [], i, h => by simp at h
  | x :: es, (a, v) :: M, i, h => by
    simp only [List.map_cons, List.cons.injEq, Prod.mk.injEq] at h
    obtain ⟨⟨h1, h2⟩, h3⟩ := h
    have ih := findNow_int k es M (i + 1) h3
    unfold Instr.findNow
    rw [h1]
    simp only [ikE, Instr.sameNow, if_true, mfind]
    by_cases hk : k = a
    · subst hk; simp [h2]
    · have : (k == a) = false := by simp [hk]
      rw [this, if_neg hk]
      simpa [ikE] using ih
instance kyInt {P : Program} {t : TypeId} [h : TUnd P t (.int .i64)] : KyOk P t ikE where
  check b k w := MapKept.run_checkKey (n := 9999) h.out (by simp [MapKept.IsKey, ikE]) b
  find k es M w he := MapKept.run_findKey h.out (findNow_int k es M 0 he)
  bits k := by simp [Instr.sameBits, ikE]
  inj a b h := by simpa [ikE] using h
end Go.Eng
