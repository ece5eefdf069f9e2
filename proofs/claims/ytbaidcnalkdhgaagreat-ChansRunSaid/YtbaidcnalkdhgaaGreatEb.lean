/-
  The engine, second text: what the heap holds (blocks, slices that are read, slices that are owned), frames of the heap, type facts, and what each operation comes to.
-/
import Derived.Test.YtbaidcnalkdhgaaGreatEa
namespace Go.Eng
open Go

/-! ### type facts, found by instances -/
class TInfo (P : Program) (t : TypeId) (sz by' : outParam Nat) (z : outParam (List Value)) : Prop where
  out : ∃ i zv, P.info? t = some i ∧ i.size = sz ∧ i.bytes = by' ∧ i.zero = some zv ∧ zv.cells = z.toArray
class TUnd (P : Program) (t : TypeId) (d : outParam TypeDesc) : Prop where
  out : P.underlying t = some d
class FnOk (P : Program) (f : FuncId) : Prop where
  out : ∃ fn, P.funcs[f]? = some fn ∧ fn.body.isNone = false ∧ (fn.name == "runtime.NumGoroutine") = false
class Mixed (P : Program) : Prop where
  out : P.follows .mixedOrders = true

def aggD : TypeDesc → Bool
  | .struct _ => true
  | .array _ _ => true
  | _ => false

/-! ### blocks -/
/-- block b holds these cells, and may be written -/
class Blk (h : Array Obj) (b : Nat) (c : outParam (List Value)) (T : outParam TypeId) : Prop where
  get : h[b]? = some (.cells c.toArray T (0, 0))
/-- two blocks are not the same -/
class NeB (a b : Nat) : Prop where
  ne : a ≠ b
/-- a cell -/
def Cell (h : Array Obj) (b o : Nat) (v : Value) : Prop := ∃ c T f, h[b]? = some (.cells c T f) ∧ c[o]? = some v

theorem Cell.get {w : World} {b o : Nat} {v : Value} (h : Cell w.heap b o v) : w.cell? ⟨b, o, none⟩ = some v := by
  obtain ⟨c, T, f, h1, h2⟩ := h
  simp [World.cell?, h1, h2]
theorem Cell.of_get {w : World} {b o : Nat} {v : Value} (h : w.cell? ⟨b, o, none⟩ = some v) : Cell w.heap b o v := by
  unfold World.cell? at h
  split at h
  · rename_i c T f hb
    exact ⟨c, T, f, hb, by simpa using h⟩
  · cases h
theorem Blk.cell {h : Array Obj} {b o : Nat} {c : List Value} {T : TypeId} {v : Value} (hb : Blk h b c T) (hc : c[o]? = some v) : Cell h b o v :=
  ⟨_, _, _, hb.get, by simpa using hc⟩
theorem Cell.lt {h : Array Obj} {b o : Nat} {v : Value} (hc : Cell h b o v) : b < h.size := by
  obtain ⟨c, T, f, h1, _⟩ := hc
  exact (Array.getElem?_eq_some_iff.1 h1).1
theorem Blk.lt {h : Array Obj} {b : Nat} {c : List Value} {T : TypeId} (hb : Blk h b c T) : b < h.size := (Array.getElem?_eq_some_iff.1 hb.get).1
theorem Blk.ne_type {h : Array Obj} {b b' : Nat} {c c' : List Value} {T T' : TypeId} (hb : Blk h b c T) (hb' : Blk h b' c' T') (hne : T ≠ T') : b ≠ b' := by
  rintro rfl
  have h1 := hb.get
  rw [hb'.get] at h1
  cases h1
  exact hne rfl
theorem Blk.inj {h : Array Obj} {b : Nat} {c c' : List Value} {T T' : TypeId} (hb : Blk h b c T) (hb' : Blk h b c' T') : c = c' ∧ T = T' := by
  have h1 := hb'.get
  rw [hb.get] at h1
  simp at h1
  exact h1

/-- the world's steps: a new block, a block written, a draw -/
theorem alloc_old (w : World) (o : Obj) (k : Nat) (h : k < w.heap.size) : (w.alloc o).heap[k]? = w.heap[k]? := by
  show (w.heap.push o)[k]? = _
  rw [Array.getElem?_push, if_neg (by omega)]
theorem alloc_size (w : World) (o : Obj) : (w.alloc o).heap.size = w.heap.size + 1 := by show (w.heap.push o).size = _; simp
theorem Blk.alloc {w : World} {b : Nat} {c : List Value} {T : TypeId} {o : Obj} (hb : Blk w.heap b c T) : Blk (w.alloc o).heap b c T :=
  ⟨(alloc_old w o b hb.lt).trans hb.get⟩
theorem Blk.new {w : World} {c : List Value} {T : TypeId} : Blk (w.alloc (.cells c.toArray T)).heap w.heap.size c T := ⟨by
  show (w.heap.push _)[w.heap.size]? = _
  simp⟩
theorem Blk.set {w : World} {b : Nat} {c c' : List Value} {T : TypeId} (hb : Blk w.heap b c T) : Blk (w.setRow b c'.toArray).heap b c' T :=
  ⟨setRow_heap w b _ _ T (0, 0) hb.get⟩
theorem Blk.set_ne {w : World} {b b' : Nat} {c : List Value} {cs : Array Value} {T : TypeId} (hne : b ≠ b') (hb : Blk w.heap b c T) : Blk (w.setRow b' cs).heap b c T := ⟨(setRow_other _ _ _ _ hne).trans hb.get⟩
theorem Cell.alloc {w : World} {b o : Nat} {v : Value} {x : Obj} (hc : Cell w.heap b o v) : Cell (w.alloc x).heap b o v := by
  have hl := hc.lt
  obtain ⟨c, T, f, h1, h2⟩ := hc
  exact ⟨c, T, f, by rw [alloc_old _ _ _ hl]; exact h1, h2⟩
theorem Cell.set_ne {w : World} {b b' o : Nat} {v : Value} {cs : Array Value} (hne : b ≠ b') (hc : Cell w.heap b o v) : Cell (w.setRow b' cs).heap b o v := by
  obtain ⟨c, T, f, h1, h2⟩ := hc
  exact ⟨c, T, f, by rw [setRow_other _ _ _ _ hne]; exact h1, h2⟩

/-! ### frames of the heap -/
/-- of what was there, only blocks of F may have changed -/
structure Fr (F : Nat → Prop) (w w' : World) : Prop where
  os : w'.os = w.os
  tape : w'.tape = w.tape
  output : w'.output = w.output
  size : w.heap.size ≤ w'.heap.size
  blk : ∀ k, k < w.heap.size → ¬ F k → w'.heap[k]? = w.heap[k]?
def No : Nat → Prop := fun _ => False
theorem Fr.refl (F : Nat → Prop) (w : World) : Fr F w w := ⟨rfl, rfl, rfl, Nat.le_refl _, fun _ _ _ => rfl⟩
theorem Fr.trans {F : Nat → Prop} {a b c : World} (h : Fr F a b) (k : Fr F b c) : Fr F a c :=
  ⟨k.os.trans h.os, k.tape.trans h.tape, k.output.trans h.output, Nat.le_trans h.size k.size, fun i hi hn => (k.blk i (Nat.lt_of_lt_of_le hi h.size) hn).trans (h.blk i hi hn)⟩
theorem Fr.mono {F G : Nat → Prop} {a b : World} (h : Fr F a b) (hFG : ∀ k, k < a.heap.size → F k → G k) : Fr G a b :=
  ⟨h.os, h.tape, h.output, h.size, fun i hi hn => h.blk i hi (fun hf => hn (hFG i hi hf))⟩
/-- the second step may also change what the first one made -/
theorem Fr.trans' {F G : Nat → Prop} {a b c : World} (h : Fr F a b) (k : Fr G b c) (hG : ∀ i, G i → F i ∨ a.heap.size ≤ i) : Fr F a c :=
  ⟨k.os.trans h.os, k.tape.trans h.tape, k.output.trans h.output, Nat.le_trans h.size k.size, fun i hi hn => (k.blk i (Nat.lt_of_lt_of_le hi h.size) (fun hg => by rcases hG i hg with h1 | h1; exact hn h1; omega)).trans (h.blk i hi hn)⟩
theorem Fr.alloc {F : Nat → Prop} {a w : World} (h : Fr F a w) (o : Obj) : Fr F a (w.alloc o) :=
  ⟨h.os, h.tape, h.output, Nat.le_trans h.size (by rw [alloc_size]; omega), fun i hi hn => (alloc_old w o i (Nat.lt_of_lt_of_le hi h.size)).trans (h.blk i hi hn)⟩
theorem Fr.set {F : Nat → Prop} {a w : World} (h : Fr F a w) (b : Nat) (cs : Array Value) (hb : F b ∨ a.heap.size ≤ b) : Fr F a (w.setRow b cs) :=
  ⟨h.os, h.tape, h.output, by rw [setRow_size]; exact h.size, fun i hi hn => (setRow_other w b i cs (by rintro rfl; rcases hb with hb | hb; exact hn hb; omega)).trans (h.blk i hi hn)⟩
theorem Fr.drewN {F : Nat → Prop} {a w : World} (h : Fr F a w) (k : Nat) : Fr F a (w.drewN k) := ⟨h.os, h.tape, h.output, h.size, h.blk⟩
theorem Fr.drew {F : Nat → Prop} {a w : World} (h : Fr F a w) : Fr F a w.drew := ⟨h.os, h.tape, h.output, h.size, h.blk⟩
theorem Blk.fr {F : Nat → Prop} {w w' : World} {b : Nat} {c : List Value} {T : TypeId} (hf : Fr F w w') (hb : Blk w.heap b c T) (hn : ¬ F b) : Blk w'.heap b c T := ⟨(hf.blk b hb.lt hn).trans hb.get⟩
theorem Blk.frN {w w' : World} {b : Nat} {c : List Value} {T : TypeId} (hf : Fr No w w') (hb : Blk w.heap b c T) : Blk w'.heap b c T := hb.fr hf (fun h => h)
theorem Cell.fr {F : Nat → Prop} {w w' : World} {b o : Nat} {v : Value} (hf : Fr F w w') (hc : Cell w.heap b o v) (hn : ¬ F b) : Cell w'.heap b o v := by
  have hl := hc.lt
  obtain ⟨c, T, f, h1, h2⟩ := hc
  exact ⟨c, T, f, (hf.blk b hl hn).trans h1, h2⟩
theorem Fr.below {F : Nat → Prop} {w w' : World} {B : Nat} (h : Fr F w w') (hB : B ≤ w.heap.size) (hF : ∀ k, F k → B ≤ k) : RowKit.Below B w w' :=
  ⟨h.os, h.tape, h.output, h.size, fun k hk => h.blk k (by omega) (fun hf => by have := hF k hf; omega)⟩

/-! ### slices that are read -/
def adr : Value → Addr
  | .slice (some a) _ _ => a
  | _ => ⟨0, 0, none⟩
def own : Value → Option Nat
  | .slice (some a) _ _ => some a.block
  | _ => none

/-- the slice v reads as xs; each element is 'sz' cells by 'enc' -/
class Rd {α : outParam Type} (h : Array Obj) (sz : outParam Nat) (enc : outParam (α → List Value)) (v : Value) (xs : outParam (List α)) : Prop where
  shape : (xs = [] ∧ ∃ a, v = .slice a 0 0) ∨ ∃ b o c, v = .slice (some ⟨b, o, none⟩) xs.length c ∧ xs.length ≤ c
  small : xs.length < 9223372036854775808
  size : ∀ x, x ∈ xs → (enc x).length = sz
  cells : ∀ i x, xs[i]? = some x → ∀ j u, (enc x)[j]? = some u → Cell h (adr v).block ((adr v).off + i * sz + j) u

theorem Rd.len {α : Type} {h : Array Obj} {sz : Nat} {enc : α → List Value} {v : Value} {xs : List α} (r : Rd h sz enc v xs) : ∃ a c, v = .slice a xs.length c := by
  rcases r.shape with ⟨h2, a, h1⟩ | ⟨b, o, c, h1, _⟩
  · exact ⟨a, 0, by rw [h1, h2]; rfl⟩
  · exact ⟨_, _, h1⟩
theorem Rd.ptr {α : Type} {h : Array Obj} {sz : Nat} {enc : α → List Value} {v : Value} {xs : List α} (r : Rd h sz enc v xs) (hpos : 0 < xs.length) : ∃ c, v = Value.slice (some ⟨(adr v).block, (adr v).off, none⟩) xs.length c := by
  rcases r.shape with ⟨h2, _⟩ | ⟨b, o, c, h1, _⟩
  · rw [h2] at hpos; simp at hpos
  · exact ⟨c, by rw [h1]; rfl⟩
theorem Rd.map_heap {α : Type} {h h' : Array Obj} {sz : Nat} {enc : α → List Value} {v : Value} {xs : List α} (r : Rd h sz enc v xs) (hc : ∀ b o u, own v = some b → Cell h b o u → Cell h' b o u) : Rd h' sz enc v xs := by
  refine ⟨r.shape, r.small, r.size, fun i x hx j u hu => ?_⟩
  have hpos : 0 < xs.length := by have := (List.getElem?_eq_some_iff.1 hx).1; omega
  obtain ⟨c, hv⟩ := r.ptr hpos
  exact hc _ _ _ (by rw [hv]; rfl) (r.cells i x hx j u hu)
theorem Rd.alloc {α : Type} {w : World} {sz : Nat} {enc : α → List Value} {v : Value} {xs : List α} {o : Obj} (r : Rd w.heap sz enc v xs) : Rd (w.alloc o).heap sz enc v xs := r.map_heap fun _ _ _ _ h => h.alloc
theorem Rd.fr {α : Type} {F : Nat → Prop} {w w' : World} {sz : Nat} {enc : α → List Value} {v : Value} {xs : List α} (hf : Fr F w w') (r : Rd w.heap sz enc v xs) (hn : ∀ b, own v = some b → ¬ F b) : Rd w'.heap sz enc v xs := r.map_heap fun _ _ _ hb h => h.fr hf (hn _ hb)
theorem Rd.frN {α : Type} {w w' : World} {sz : Nat} {enc : α → List Value} {v : Value} {xs : List α} (hf : Fr No w w') (r : Rd w.heap sz enc v xs) : Rd w'.heap sz enc v xs := r.fr hf (fun _ _ h => h)
theorem Rd.set {α : Type} {w : World} {sz : Nat} {enc : α → List Value} {v : Value} {xs : List α} {b : Nat} {cs : Array Value} (r : Rd w.heap sz enc v xs) (hn : own v ≠ some b) : Rd (w.setRow b cs).heap sz enc v xs :=
  r.map_heap fun b' _ _ hb h => h.set_ne (by rintro rfl; exact hn hb)
theorem Rd.nil {α : Type} (h : Array Obj) (sz : Nat) (enc : α → List Value) : Rd h sz enc (.slice none 0 0) [] :=
  ⟨.inl ⟨rfl, none, rfl⟩, by simp, by simp, by simp⟩
theorem Rd.empty {α : Type} (h : Array Obj) (sz : Nat) (enc : α → List Value) (a : Option Addr) : Rd h sz enc (.slice a 0 0) [] :=
  ⟨.inl ⟨rfl, a, rfl⟩, by simp, by simp, by simp⟩

/-! ### slices that are owned: from the head of their block on, and nobody else's -/
class Own {α : outParam Type} (h : Array Obj) (T : outParam TypeId) (sz : outParam Nat) (enc : outParam (α → List Value)) (v : Value) (xs : outParam (List α)) : Prop where
  size : ∀ x, x ∈ xs → (enc x).length = sz
  shape : (v = .slice none 0 0 ∧ xs = []) ∨ ∃ g cap cs, v = .slice (some ⟨g, 0, none⟩) xs.length cap ∧ Blk h g cs T ∧ xs.length ≤ cap ∧ cap ≤ maxLen ∧ cs.length = cap * sz ∧ cs.take (xs.length * sz) = xs.flatMap enc

theorem flatMap_len {α : Type} {enc : α → List Value} {sz : Nat} : ∀ (xs : List α), (∀ x, x ∈ xs → (enc x).length = sz) → (xs.flatMap enc).length = xs.length * sz
  | [], _ => by simp
  | x :: xs, h => by
    rw [List.flatMap_cons, List.length_append, h x (by simp), flatMap_len xs (fun y hy => h y (by simp [hy])), List.length_cons, Nat.add_mul]
    omega
theorem flatMap_get {α : Type} {enc : α → List Value} {sz : Nat} : ∀ (xs : List α) (i j : Nat) (x : α) (u : Value), (∀ x, x ∈ xs → (enc x).length = sz) → xs[i]? = some x → (enc x)[j]? = some u → (xs.flatMap enc)[i * sz + j]? = some u
  | [], i, j, x, u, _, hx, _ => by simp at hx
  | y :: xs, 0, j, x, u, h, hx, hu => by
    simp at hx
    subst hx
    rw [List.flatMap_cons, Nat.zero_mul, Nat.zero_add, List.getElem?_append_left]
    · exact hu
    · exact (List.getElem?_eq_some_iff.1 hu).1
  | y :: xs, i + 1, j, x, u, h, hx, hu => by
    rw [List.flatMap_cons, List.getElem?_append_right (by rw [h y (by simp), Nat.add_mul]; omega), h y (by simp)]
    have := flatMap_get xs i j x u (fun y hy => h y (by simp [hy])) (by simpa using hx) hu
    rw [show (i + 1) * sz + j - sz = i * sz + j by rw [Nat.add_mul]; omega]
    exact this

theorem Own.rd {α : Type} {h : Array Obj} {T : TypeId} {sz : Nat} {enc : α → List Value} {v : Value} {xs : List α} (o : Own h T sz enc v xs) : Rd h sz enc v xs := by
  rcases o.shape with ⟨rfl, rfl⟩ | ⟨g, cap, cs, rfl, hb, hn, hm, hl, ht⟩
  · exact Rd.nil _ _ _
  · refine ⟨.inr ⟨g, 0, cap, rfl, hn⟩, by simp only [maxLen] at hm; omega, o.size, fun i x hx j u hu => ?_⟩
    have h1 := flatMap_get xs i j x u o.size hx hu
    rw [← ht, List.getElem?_take] at h1
    split at h1
    · simp only [adr, Nat.zero_add]
      exact hb.cell h1
    · cases h1
theorem Own.nil {α : Type} (h : Array Obj) (T : TypeId) (sz : Nat) (enc : α → List Value) : Own h T sz enc (.slice none 0 0) [] := ⟨by simp, .inl ⟨rfl, rfl⟩⟩
theorem Own.map_heap {α : Type} {h h' : Array Obj} {T : TypeId} {sz : Nat} {enc : α → List Value} {v : Value} {xs : List α} (o : Own h T sz enc v xs) (hc : ∀ b c, own v = some b → Blk h b c T → Blk h' b c T) : Own h' T sz enc v xs := by
  refine ⟨o.size, ?_⟩
  rcases o.shape with h1 | ⟨g, cap, cs, rfl, hb, r⟩
  · exact .inl h1
  · exact .inr ⟨g, cap, cs, rfl, hc _ _ rfl hb, r⟩
theorem Own.alloc {α : Type} {w : World} {T : TypeId} {sz : Nat} {enc : α → List Value} {v : Value} {xs : List α} {x : Obj} (o : Own w.heap T sz enc v xs) : Own (w.alloc x).heap T sz enc v xs := o.map_heap fun _ _ _ h => h.alloc
theorem Own.fr {α : Type} {F : Nat → Prop} {w w' : World} {T : TypeId} {sz : Nat} {enc : α → List Value} {v : Value} {xs : List α} (hf : Fr F w w') (o : Own w.heap T sz enc v xs) (hn : ∀ b, own v = some b → ¬ F b) : Own w'.heap T sz enc v xs := o.map_heap fun _ _ hb h => h.fr hf (hn _ hb)
theorem Own.frN {α : Type} {w w' : World} {T : TypeId} {sz : Nat} {enc : α → List Value} {v : Value} {xs : List α} (hf : Fr No w w') (o : Own w.heap T sz enc v xs) : Own w'.heap T sz enc v xs := o.fr hf (fun _ _ h => h)
theorem Own.set {α : Type} {w : World} {T : TypeId} {sz : Nat} {enc : α → List Value} {v : Value} {xs : List α} {b : Nat} {cs : Array Value} (o : Own w.heap T sz enc v xs) (hn : own v ≠ some b) : Own (w.setRow b cs).heap T sz enc v xs :=
  o.map_heap fun b' _ hb h => h.set_ne (by rintro rfl; exact hn hb)
theorem Own.lt {α : Type} {h : Array Obj} {T : TypeId} {sz : Nat} {enc : α → List Value} {v : Value} {xs : List α} (o : Own h T sz enc v xs) : ∀ b, own v = some b → b < h.size := by
  intro b hb
  rcases o.shape with ⟨rfl, _⟩ | ⟨g, cap, cs, rfl, hg, _⟩
  · cases hb
  · cases hb; exact hg.lt
theorem Own.ne_blk {α : Type} {h : Array Obj} {T T' : TypeId} {sz : Nat} {enc : α → List Value} {v : Value} {xs : List α} {b : Nat} {c : List Value} (o : Own h T sz enc v xs) (hb : Blk h b c T') (hne : T ≠ T') : own v ≠ some b := by
  intro hv
  rcases o.shape with ⟨rfl, _⟩ | ⟨g, cap, cs, rfl, hg, _⟩
  · cases hv
  · cases hv; exact (hg.ne_type hb hne) rfl
/-- a row that has just been made -/
theorem Own.new {α : Type} {w : World} {T : TypeId} {sz : Nat} {enc : α → List Value} {xs : List α} {cs : List Value} (hs : ∀ x, x ∈ xs → (enc x).length = sz) (hcs : cs = xs.flatMap enc) (hm : xs.length ≤ maxLen) :
    Own (w.alloc (.cells cs.toArray T)).heap T sz enc (.slice (some ⟨w.heap.size, 0, none⟩) xs.length xs.length) xs :=
  ⟨hs, .inr ⟨w.heap.size, xs.length, cs, rfl, Blk.new, Nat.le_refl _, hm, by rw [hcs, flatMap_len xs hs], by rw [hcs, List.take_of_length_le]; rw [flatMap_len xs hs]; exact Nat.le_refl _⟩⟩

/-! ### facts found by instances, through the world's steps -/
section
variable {w : World} {b b' : Nat} {c c' : List Value} {T : TypeId} {o : Obj} {cs : Array Value} {k : Nat}
instance instBlkNew : Blk (w.alloc (.cells c.toArray T)).heap w.heap.size c T := Blk.new
instance instBlkAlloc [h : Blk w.heap b c T] : Blk (w.alloc o).heap b c T := h.alloc
instance instBlkDrew [h : Blk w.heap b c T] : Blk w.drew.heap b c T := ⟨h.get⟩
instance instBlkSetNe [hn : NeB b b'] [h : Blk w.heap b c T] : Blk (w.setRow b' cs).heap b c T := h.set_ne hn.ne
instance instBlkSet [h : Blk w.heap b c T] : Blk (w.setRow b c'.toArray).heap b c' T := h.set
variable {α : Type} {sz : Nat} {enc : α → List Value} {v : Value} {xs : List α}
/-- a slice does not lie in a block -/
class OffB (v : Value) (b : Nat) : Prop where
  ne : own v ≠ some b
instance instRdAlloc [h : Rd w.heap sz enc v xs] : Rd (w.alloc o).heap sz enc v xs := h.alloc
instance instRdDrew [h : Rd w.heap sz enc v xs] : Rd w.drew.heap sz enc v xs := h
instance instRdSet [hn : OffB v b] [h : Rd w.heap sz enc v xs] : Rd (w.setRow b cs).heap sz enc v xs := h.set hn.ne
instance instOwnAlloc [h : Own w.heap T sz enc v xs] : Own (w.alloc o).heap T sz enc v xs := h.alloc
instance instOwnDrew [h : Own w.heap T sz enc v xs] : Own w.drew.heap T sz enc v xs := h
instance instOwnSet [hn : OffB v b] [h : Own w.heap T sz enc v xs] : Own (w.setRow b cs).heap T sz enc v xs := h.set hn.ne
instance instRdOwn {h : Array Obj} [o : Own h T sz enc v xs] : Rd h sz enc v xs := o.rd
end

/-- a world that came of another one by steps that change nothing that was there: what was known of the other is known of it -/
class From (w' : World) (w : outParam World) : Prop where
  fr : Fr No w w'
section
variable {w w' : World} {F : Nat → Prop} {b : Nat} {c : List Value} {T : TypeId}
instance instBlkFrom [hf : From w' w] [h : Blk w.heap b c T] : Blk w'.heap b c T := h.frN hf.fr
variable {α : Type} {sz : Nat} {enc : α → List Value} {v : Value} {xs : List α}
instance instRdFrom [hf : From w' w] [h : Rd w.heap sz enc v xs] : Rd w'.heap sz enc v xs := h.frN hf.fr
instance instOwnFrom [hf : From w' w] [h : Own w.heap T sz enc v xs] : Own w'.heap T sz enc v xs := h.frN hf.fr
end
end Go.Eng
