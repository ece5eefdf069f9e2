/-
  The engine, further: clear of a slice of records.
-/
import Derived.Test.YtbaidcnalkdhgaaGreatEk
import Derived.Test.YtbaidcnalkdhgaaGreatEs
namespace Go.Eng
open Go
theorem Blk.as {h : Array Obj} {b : Nat} {c c' : List Value} {T : TypeId} (hb : Blk h b c T) (e : c = c') : Blk h b c' T := e ▸ hb
section
variable {P : Program} {e : Env} {w : World} {ty : TypeId} {p : String} {af : Array Edge}
theorem opw_clearN {x : Operand} {t E b o n c by' sz : Nat} {z : List Value} {cs : List Value} {T : TypeId} [TUnd P t (.slice E)] [TInfo P E sz by' z] (hx : ev e x = .slice (some ⟨b, o, none⟩) n c) (hz : z.length = sz) (hpos : 0 < sz) (hz1 : ∀ u ∈ z, u.oneCell' = true) (hb : Blk w.heap b cs T) (ho : o + n * sz ≤ cs.length) :
    OpV P ⟨none, .call ⟨.builtin .clear, #[x], #[t]⟩, ty, p, af, none⟩ e w (.tuple #[]) (w.setRow b (cs.take o ++ (List.replicate n z).flatten ++ cs.drop (o + n * sz)).toArray) := by
  obtain ⟨i, zv, h1, h2, h3, h4, h5⟩ := TInfo.out (P := P) (t := E)
  have hzv : ∀ w, (zeroValue E).run P w = .ok zv w := fun w => by simp [zeroValue, run_typeInfo' h1, h4]
  have hzc : (Builtin.zeroCells zv.cells n).toList = (List.replicate n z).flatten := by
    rw [h5]
    show (madeCells z.toArray (n * z.toArray.size)).toList = _
    rw [List.size_toArray, hz, zeros_eq hz hpos]
  have hu := run_underlying (TUnd.out (P := P) (t := t)) w
  have hfl : ((List.replicate n z).flatten).length = n * sz := by simp [hz]
  cases n with
  | zero =>
    have e1 : (cs.take o ++ (List.replicate 0 z).flatten ++ cs.drop (o + 0 * sz)).toArray = cs.toArray := by simp
    rw [e1, setRow_id hb]
    simp [OpV, execOp, resolve, invoke, builtin, hx, Builtin.clear_, hu]
  | succ n =>
    have hst := run_storeCells_at (P := P) b o T ((List.replicate (n + 1) z).flatten) 0 cs.toArray w hb.get (by rw [hfl]; simpa using ho) (fun u hu => by
      obtain ⟨l, h1, h2⟩ := List.mem_flatten.1 hu
      rw [List.eq_of_mem_replicate h1] at h2
      exact hz1 u h2)
    simp only [Nat.add_zero] at hst
    simp [OpV, execOp, resolve, invoke, builtin, hx, Builtin.clear_, hu, hzv, hzc]
    rw [hfl] at hst
    rw [hst]
    simp only [List.append_assoc]
    rfl
end
section
variable {P : Program} {n : Nat} {e : Env} {w : World} {Q : Post} {ops rest : List Oper} {d : Option Nat} {ty : TypeId} {p : String} {af : Array Edge}
theorem flatMap_setS {α : Type} {enc : α → List Value} {sz j : Nat} {a x0 : α} {us : List Value} (ha : enc a = (enc x0).take j ++ us ++ (enc x0).drop (j + us.length)) (hj : j + us.length ≤ sz) : ∀ (xs : List α) (i : Nat), (∀ x, x ∈ xs → (enc x).length = sz) → xs[i]? = some x0 → (xs.set i a).flatMap enc = (xs.flatMap enc).take (i * sz + j) ++ us ++ (xs.flatMap enc).drop (i * sz + j + us.length)
  | [], i, _, h => by simp at h
  | x :: xs, 0, h, hx => by
    simp at hx
    subst hx
    have hl := h x (by simp)
    rw [List.set_cons_zero, List.flatMap_cons, List.flatMap_cons, ha, Nat.zero_mul, Nat.zero_add, List.take_append_of_le_length (by omega), List.drop_append_of_le_length (by omega)]
    simp only [List.append_assoc]
  | x :: xs, i + 1, h, hx => by
    have hl := h x (by simp)
    rw [List.set_cons_succ, List.flatMap_cons, List.flatMap_cons, flatMap_setS ha hj xs i (fun y hy => h y (by simp [hy])) (by simpa using hx)]
    have e1 : (i + 1) * sz + j = (enc x).length + (i * sz + j) := by rw [hl, Nat.add_mul]; omega
    rw [e1, Nat.add_assoc (enc x).length, List.take_length_add_append, List.drop_length_add_append]
    simp only [List.append_assoc]
theorem take_mid {α : Type} (cs us : List α) (o N : Nat) (h1 : o + us.length ≤ N) (h2 : N ≤ cs.length) : (cs.take o ++ us ++ cs.drop (o + us.length)).take N = (cs.take N).take o ++ us ++ (cs.take N).drop (o + us.length) := by
  have hA : (cs.take o ++ us).length = o + us.length := by rw [List.length_append, List.length_take]; omega
  rw [List.take_append, List.take_of_length_le (by omega), hA, List.take_take, Nat.min_eq_left (by omega), List.take_drop, show o + us.length + (N - (o + us.length)) = N by omega]
/-- a store into a part of an element -/
theorem vL_storeElS {α : Type} {x y : Operand} {t T sz m by' j : Nat} {z us : List Value} {enc : α → List Value} {v : Value} {xs : List α} {i : Int} {x0 : α} (a : α) [TInfo P t m by' z] [hz : EncOk enc sz] (hx : ev e x = .pointer (some (ea v sz i j))) (hy : ev e y = .agg us.toArray) (hx0 : xs[i.toNat]? = some x0) (ha : enc a = (enc x0).take j ++ us ++ (enc x0).drop (j + us.length)) (hone : ∀ u ∈ us, u.oneCell' = true) (hm : us.length = m) (hj : j + m ≤ sz) (ho : Own w.heap T sz enc v xs)
    (k : ∀ w', Own w'.heap T sz enc v (xs.set i.toNat a) → Fr (fun k => own v = some k) w w' → vL P n ops rest e w' Q) : vL P n ops (⟨none, .store t x y, ty, p, af, none⟩ :: rest) e w Q := by
  have hi := (List.getElem?_eq_some_iff.1 hx0).1
  rcases ho.shape with ⟨_, rfl⟩ | ⟨g, cap, cs, rfl, hb, hn, hmx, hl, ht⟩
  · simp at hi
  have hin : i.toNat * sz + j + us.length ≤ xs.length * sz := by
    have : i.toNat * sz + sz ≤ xs.length * sz := by rw [← Nat.succ_mul]; exact Nat.mul_le_mul_right _ hi
    omega
  have hcap : xs.length * sz ≤ cap * sz := Nat.mul_le_mul_right _ hn
  have hx' : ev e x = .pointer (some ⟨g, i.toNat * sz + j, none⟩) := by rw [hx]; simp [ea, adr]
  have hown : Own (w.setRow g (cs.take (i.toNat * sz + j) ++ us ++ cs.drop (i.toNat * sz + j + us.length)).toArray).heap T sz enc (.slice (some ⟨g, 0, none⟩) xs.length cap) (xs.set i.toNat a) := by
    refine ⟨fun x _ => hz.len x, .inr ⟨g, cap, _, by simp, Blk.set hb, by simpa using hn, hmx, ?_, ?_⟩⟩
    · simp only [List.length_append, List.length_take, List.length_drop]; omega
    · rw [List.length_set, flatMap_setS ha (by omega) xs _ ho.size hx0, ← ht, take_mid _ _ _ _ hin (by omega)]
  exact vL_skip (op := .store t x y) (d := none) (ops_storen (P := P) (d := none) (t := t) (ty := ty) hx' hy hm hone hb (by omega)) (k _ hown ((Fr.refl (fun k => own (Value.slice (some ⟨g, 0, none⟩) xs.length cap) = some k) w).set g _ (.inl rfl)))
end
end Go.Eng
