/-
  The engine, eleventh text: rows made of zeros; loads of a struct with its cells named.
-/
import Derived.Test.YtbaidcnalkdhgaaGreatEj
import Derived.Laws.MakeOwn
namespace Go.Eng
open Go
section
variable {P : Program} {n : Nat} {e : Env} {w : World} {Q : Post} {ops rest : List Oper} {d : Option Nat} {ty : TypeId} {p : String} {af : Array Edge}

theorem opv_loadbC {t : TypeId} {x : Operand} {D : TypeDesc} {b o sz by' : Nat} {z c cs : List Value} {T : TypeId} [TUnd P t D] [TInfo P t sz by' z] (hx : ev e x = .pointer (some ⟨b, o, none⟩)) (hD : aggD D = true) (hb : Blk w.heap b c T) (hcs : (c.drop o).take sz = cs) (hl : cs.length = sz) : OpV P ⟨d, .load t x, ty, p, af, none⟩ e w (.agg cs.toArray) w := by
  subst hcs
  exact opv_loadb hx hD hb hl

theorem zeros_eq {z : List Value} {sz n : Nat} (hz : z.length = sz) (hpos : 0 < sz) : madeCells z.toArray (n * sz) = (List.replicate n z).flatten.toArray := by
  have hl : ((List.replicate n z).flatten).length = n * sz := by simp [hz]
  apply Array.ext
  · rw [size_madeCells]; simp [hz]
  intro i h1 h2
  rw [size_madeCells] at h1
  have hm := Nat.mod_lt i hpos
  have hd : i / sz < n := (Nat.div_lt_iff_lt_mul hpos).2 h1
  have hg := flatMap_get (enc := fun _ : Unit => z) (sz := sz) (List.replicate n ()) (i / sz) (i % sz) () z[i % sz] (fun _ _ => hz) (by simp [hd]) (by simp)
  have hfl : (List.replicate n ()).flatMap (fun _ : Unit => z) = (List.replicate n z).flatten := by rw [List.flatMap_def, List.map_replicate]
  rw [hfl, show i / sz * sz + i % sz = i from Nat.div_add_mod' i sz] at hg
  have hlt : i < ((List.replicate n z).flatten).length := by omega
  have e2 := Option.some.inj ((List.getElem?_eq_getElem hlt).symm.trans hg)
  simp only [madeCells, Array.getElem_map, Array.getElem_range, List.getElem_toArray]
  rw [e2]
  simp [hz, hm]

end
theorem fr_allocSet (w : World) (o : Obj) (cs : Array Value) : Fr No w ((w.alloc o).setRow w.heap.size cs) := ((Fr.refl _ _).alloc o).set _ _ (.inr (Nat.le_refl _))
theorem Fr.allocSet {F : Nat → Prop} {a w : World} {o : Obj} {cs : Array Value} (h : Fr F a w) : Fr F a ((w.alloc o).setRow w.heap.size cs) := (h.alloc o).set _ _ (.inr h.size)
section
variable {w : World} {b : Nat} {c : List Value} {T : TypeId} {o : Obj} {cs : Array Value}
instance (priority := 1100) instBlkAllocSet [h : Blk w.heap b c T] : Blk ((w.alloc o).setRow w.heap.size cs).heap b c T := h.frN (fr_allocSet w o cs)
variable {α : Type} {sz : Nat} {enc : α → List Value} {v : Value} {xs : List α}
instance (priority := 1100) instRdAllocSet [h : Rd w.heap sz enc v xs] : Rd ((w.alloc o).setRow w.heap.size cs).heap sz enc v xs := h.frN (fr_allocSet w o cs)
instance (priority := 1100) instOwnAllocSet [h : Own w.heap T sz enc v xs] : Own ((w.alloc o).setRow w.heap.size cs).heap T sz enc v xs := h.frN (fr_allocSet w o cs)
end
end Go.Eng
