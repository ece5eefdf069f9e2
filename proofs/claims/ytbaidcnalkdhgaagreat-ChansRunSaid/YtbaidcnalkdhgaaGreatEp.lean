/-
  The engine, twelfth text: slices of slices with both bounds, clear, appends within the room, comparisons with nil.
-/
import Derived.Test.YtbaidcnalkdhgaaGreatEk
import Derived.Lib.SliceRun
namespace Go.Eng
open Go
section
variable {P : Program} {n : Nat} {e : Env} {w : World} {Q : Post} {ops rest : List Oper} {d : Option Nat} {ty : TypeId} {p : String} {af : Array Edge}

/-! ### nil -/
theorem guard_slice {t : TypeId} {op : BinOp} {x y : Operand} {a b : Option Addr} {n c n' c' : Nat} : (eqGuard op t x y (.slice a n c) (.slice b n' c')).run P w = .ok () w := by
  unfold eqGuard
  split <;> rfl
theorem opv_eql_snil {x y : Operand} {t E t' : TypeId} {a : Option Addr} {n c n' c' : Nat} [TUnd P t (.slice E)] (hx : ev e x = .slice a n c) (hy : ev e y = .slice none n' c') : OpV P ⟨d, .binOp .eql t x y t', ty, p, af, none⟩ e w (.bool a.isNone) w := by
  simp only [OpV, execOp, hx, hy, Sem.run_bind, guard_slice, Result.andThen_ok, Lib.run_eql_slice_nil w t E a n c n' c' (TUnd.out (P := P) (t := t))]
  rfl
theorem guard_fnil {t : TypeId} {op : BinOp} {x y : Operand} {v : Value} : (eqGuard op t x y v .nilFunc).run P w = .ok () w := by
  cases op <;> cases v <;> rfl
theorem opv_eql_fnil {x y : Operand} {t t' : TypeId} {ps rs : Array TypeId} {va : Bool} {f : FuncId} {cs fs : Array Value} [TUnd P t (.func ps rs va)] (hx : ev e x = .func (.func f) cs fs) (hy : ev e y = .nilFunc) : OpV P ⟨d, .binOp .eql t x y t', ty, p, af, none⟩ e w (.bool false) w := by
  have h : (Op.equal t (.func (.func f) cs fs) .nilFunc).run P w = .ok false w := by
    unfold Op.equal
    rw [show Op.maxDepth = 9999 + 1 from rfl]
    unfold Op.equalIn
    simp [run_underlying (TUnd.out (P := P) (t := t))]
  simp only [OpV, execOp, hx, hy, Sem.run_bind, guard_fnil, Result.andThen_ok, binOp, h]
  rfl
/-! ### slices with both bounds -/
theorem opv_slice_lh {x lo hi : Operand} {t E len c b o sz by' : Nat} {z : List Value} {k k' : IntKind} {i j : Int} [TUnd P t (.slice E)] [TInfo P E sz by' z] (hx : ev e x = .slice (some ⟨b, o, none⟩) len c) (hl : ev e lo = .int k i) (hh : ev e hi = .int k' j) (h0 : 0 ≤ i) (h1 : i ≤ j) (h2 : j ≤ c) : OpV P ⟨d, .slice t x (some lo) (some hi) none, ty, p, af, none⟩ e w (.slice (some (if c = i.toNat then ⟨b, o, none⟩ else ⟨b, o + i.toNat * sz, none⟩)) (j.toNat - i.toNat) (c - i.toNat)) w := by
  have hu := run_underlying (TUnd.out (P := P) (t := t)) w
  have hj := run_sliceBound (P := P) (w := w) (k := k') (m := c) (code := .sliceAcap) (show 0 ≤ j by omega) h2
  have hi' := run_sliceBound (P := P) (w := w) (k := k) (m := j.toNat) (code := .sliceB) h0 (by omega)
  simp only [OpV, execOp, Instr.sliceAt, Sem.run_bind, hu, Result.andThen_ok, Instr.slice, hx, Instr.sliceBounds, Option.map_some, Option.map_none, hl, hh, if_true, hj, Option.isSome_none, Bool.false_eq_true, if_false, hi', Sem.run_pure, run_sizeOf' (P := P) (t := E), add_off]
  congr 3
  split <;> rfl
theorem opv_slice3 {x lo hi mx : Operand} {t E len c b o sz by' : Nat} {z : List Value} {k k' k'' : IntKind} {i j m : Int} [TUnd P t (.slice E)] [TInfo P E sz by' z] (hx : ev e x = .slice (some ⟨b, o, none⟩) len c) (hl : ev e lo = .int k i) (hh : ev e hi = .int k' j) (hm : ev e mx = .int k'' m) (h0 : 0 ≤ i) (h1 : i ≤ j) (h2 : j ≤ m) (h3 : m ≤ c) : OpV P ⟨d, .slice t x (some lo) (some hi) (some mx), ty, p, af, none⟩ e w (.slice (some (if m.toNat = i.toNat then ⟨b, o, none⟩ else ⟨b, o + i.toNat * sz, none⟩)) (j.toNat - i.toNat) (m.toNat - i.toNat)) w := by
  have hu := run_underlying (TUnd.out (P := P) (t := t)) w
  have hm' := run_sliceBound (P := P) (w := w) (k := k'') (m := c) (code := .slice3Acap) (show 0 ≤ m by omega) h3
  have hj := run_sliceBound (P := P) (w := w) (k := k') (m := m.toNat) (code := .slice3B) (show 0 ≤ j by omega) (by omega)
  have hi' := run_sliceBound (P := P) (w := w) (k := k) (m := j.toNat) (code := .slice3C) h0 (by omega)
  simp only [OpV, execOp, Instr.sliceAt, Sem.run_bind, hu, Result.andThen_ok, Instr.slice, hx, Instr.sliceBounds, Option.map_some, hl, hh, hm, if_true, hm', hj, Option.isSome_some, hi', Sem.run_pure, run_sizeOf' (P := P) (t := E), add_off]
  congr 3
  split <;> rfl

/-! ### clear -/
theorem opw_clear {x : Operand} {t E b o n c by' : Nat} {z : Value} {cs : List Value} {T : TypeId} [TUnd P t (.slice E)] [TInfo P E 1 by' [z]] (hx : ev e x = .slice (some ⟨b, o, none⟩) n c) (hz : z.oneCell' = true) (hb : Blk w.heap b cs T) (ho : o + n ≤ cs.length) :
    OpV P ⟨none, .call ⟨.builtin .clear, #[x], #[t]⟩, ty, p, af, none⟩ e w (.tuple #[]) (w.setRow b (cs.take o ++ List.replicate n z ++ cs.drop (o + n)).toArray) := by
  obtain ⟨i, zv, h1, h2, h3, h4, h5⟩ := TInfo.out (P := P) (t := E)
  have hzv : ∀ w, (zeroValue E).run P w = .ok zv w := fun w => by simp [zeroValue, run_typeInfo' h1, h4]
  have hzc : (Builtin.zeroCells zv.cells n).toList = List.replicate n z := by
    rw [h5]
    simp [Builtin.zeroCells]
    apply List.ext_getElem
    · simp
    · intro i h1 h2
      simp [Nat.mod_one]
  have hu := run_underlying (TUnd.out (P := P) (t := t)) w
  cases n with
  | zero =>
    have e1 : (cs.take o ++ List.replicate 0 z ++ cs.drop (o + 0)).toArray = cs.toArray := by simp
    rw [e1, setRow_id hb]
    simp [OpV, execOp, resolve, invoke, builtin, hx, Builtin.clear_, hu]
  | succ n =>
    have hst := run_storeCells_at (P := P) b o T (List.replicate (n + 1) z) 0 cs.toArray w hb.get (by simpa using ho) (fun u hu => by rw [List.eq_of_mem_replicate hu]; exact hz)
    simp only [Nat.add_zero] at hst
    simp [OpV, execOp, resolve, invoke, builtin, hx, Builtin.clear_, hu, hzv, hzc]
    simp at hst
    rw [hst]
    rfl
theorem opv_slice_lh' {x lo hi : Operand} {t E len c b o sz by' : Nat} {z : List Value} {k k' : IntKind} {i j : Int} [TUnd P t (.slice E)] [TInfo P E sz by' z] (hx : ev e x = .slice (some ⟨b, o, none⟩) len c) (hl : ev e lo = .int k i) (hh : ev e hi = .int k' j) (h0 : 0 ≤ i) (h1 : i ≤ j) (h2 : j ≤ c) : OpV P ⟨d, .slice t x (some lo) (some hi) none, ty, p, af, none⟩ e w (.slice (some ⟨b, (if c = i.toNat then o else o + i.toNat * sz), none⟩) (j.toNat - i.toNat) (c - i.toNat)) w := by
  have := opv_slice_lh (P := P) (w := w) (d := d) (ty := ty) (p := p) (af := af) (t := t) hx hl hh h0 h1 h2
  split at this <;> rename_i h
  · rw [if_pos h]; exact this
  · rw [if_neg h]; exact this
theorem opv_slice_lo' {x lo : Operand} {t E len c b o sz by' : Nat} {z : List Value} {k : IntKind} {i : Int} [TUnd P t (.slice E)] [TInfo P E sz by' z] (hx : ev e x = .slice (some ⟨b, o, none⟩) len c) (hl : ev e lo = .int k i) (h0 : 0 ≤ i) (h1 : i ≤ len) : OpV P ⟨d, .slice t x (some lo) none none, ty, p, af, none⟩ e w (.slice (some ⟨b, (if c = i.toNat then o else o + i.toNat * sz), none⟩) (len - i.toNat) (c - i.toNat)) w := by
  have := opv_slice_lo (P := P) (w := w) (d := d) (ty := ty) (p := p) (af := af) (t := t) hx hl h0 h1
  split at this <;> rename_i h
  · rw [if_pos h]; exact this
  · rw [if_neg h]; exact this
theorem opv_slice_hi' {x hi : Operand} {t E len c b sz by' o : Nat} {z : List Value} {k : IntKind} {i : Int} [TUnd P t (.slice E)] [TInfo P E sz by' z] (hx : ev e x = .slice (some ⟨b, o, none⟩) len c) (hh : ev e hi = .int k i) (h0 : 0 ≤ i) (h1 : i ≤ c) : OpV P ⟨d, .slice t x none (some hi) none, ty, p, af, none⟩ e w (.slice (some ⟨b, o, none⟩) i.toNat c) w :=
  opv_slice_hi hx hh h0 h1 (fun w => ⟨sz, run_sizeOf' (P := P) (t := E) w⟩) (fun q hq => by cases hq; rfl)

/-! ### rows cut -/
theorem Own.isSlice {α : Type} {h : Array Obj} {T sz : Nat} {enc : α → List Value} {v : Value} {xs : List α} (o : Own h T sz enc v xs) : ∃ a n c, v = .slice a n c := by
  rcases o.shape with ⟨h1, _⟩ | ⟨g, cap, cs, h1, _⟩
  · exact ⟨_, _, _, h1⟩
  · exact ⟨_, _, _, h1⟩
theorem flatMap_take {α : Type} {enc : α → List Value} {sz : Nat} : ∀ (xs : List α) (i : Nat), (∀ x, x ∈ xs → (enc x).length = sz) → (xs.take i).flatMap enc = (xs.flatMap enc).take (i * sz)
  | [], i, _ => by simp
  | x :: xs, 0, _ => by simp
  | x :: xs, i + 1, h => by
    have hx := h x (by simp)
    rw [List.take_succ_cons, List.flatMap_cons, List.flatMap_cons, flatMap_take xs i (fun y hy => h y (by simp [hy])), List.take_append, hx, List.take_of_length_le (show (enc x).length ≤ (i + 1) * sz by rw [hx, Nat.add_mul]; omega)]
    congr 2
    rw [Nat.add_mul]; omega
theorem Rd.drop {α : Type} {h : Array Obj} {sz b o n cap : Nat} {enc : α → List Value} {xs : List α} (hr : Rd h sz enc (.slice (some ⟨b, o, none⟩) n cap) xs) {i : Nat} (hi : i ≤ xs.length) : Rd h sz enc (.slice (some ⟨b, o + i * sz, none⟩) (n - i) (cap - i)) (xs.drop i) := by
  obtain ⟨a, c, hv⟩ := hr.len
  cases hv
  have hc : xs.length ≤ cap := by
    rcases hr.shape with ⟨h1, _⟩ | ⟨_, _, _, h1, h2⟩
    · rw [h1]; exact Nat.zero_le _
    · cases h1; exact h2
  refine ⟨.inr ⟨b, o + i * sz, cap - i, by simp, by simp; omega⟩, by have := hr.small; simp; omega, fun x hx => hr.size x (List.mem_of_mem_drop hx), fun k x hk j u hj => ?_⟩
  have := hr.cells (i + k) x (by simpa using hk) j u hj
  simp only [adr] at this ⊢
  rw [show o + i * sz + k * sz + j = o + (i + k) * sz + j by rw [Nat.add_mul]; omega]
  exact this
theorem Rd.dropIf {α : Type} {h : Array Obj} {sz b o n cap : Nat} {enc : α → List Value} {xs : List α} (hr : Rd h sz enc (.slice (some ⟨b, o, none⟩) n cap) xs) {i : Nat} (hi : i ≤ xs.length) : Rd h sz enc (.slice (some ⟨b, (if cap = i then o else o + i * sz), none⟩) (n - i) (cap - i)) (xs.drop i) := by
  have h1 := hr.drop hi
  split
  · rename_i hc
    obtain ⟨a, c, hv⟩ := hr.len
    cases hv
    have hc' : xs.length ≤ cap := by
      rcases hr.shape with ⟨h1, _⟩ | ⟨_, _, _, h1, h2⟩
      · rw [h1]; exact Nat.zero_le _
      · cases h1; exact h2
    have hnil : xs.drop i = [] := List.drop_of_length_le (by omega)
    rw [hnil]
    exact ⟨.inr ⟨b, o, cap - i, by simp; omega, by simp⟩, by simp, by simp, by simp⟩
  · exact h1
theorem opw_append_room {α : Type} {x y : Operand} {t T sz by' g cap b o c : Nat} {z cs : List Value} {enc : α → List Value} {xs ys : List α} [TUnd P t (.slice T)] [TInfo P T sz by' z] [hz : EncOk enc sz] {n1 n2 : Nat} (hx : ev e x = .slice (some ⟨g, 0, none⟩) n1 cap) (hy : ev e y = .slice (some ⟨b, o, none⟩) n2 c) (h1 : n1 = xs.length) (h2 : n2 = ys.length)
    (hb : Blk w.heap g cs T) (hl : cs.length = cap * sz) (hr : Rd w.heap sz enc (.slice (some ⟨b, o, none⟩) n2 c) ys) (hroom : xs.length + ys.length ≤ cap) :
    OpV P ⟨d, .call ⟨.builtin .append, #[x, y], #[t, t]⟩, ty, p, af, none⟩ e w (.slice (some ⟨g, 0, none⟩) (xs.length + ys.length) cap) (w.setRow g (cs.take (xs.length * sz) ++ ys.flatMap enc ++ cs.drop (xs.length * sz + ys.length * sz)).toArray) := by
  subst h1 h2
  obtain ⟨i, zv, hi1, hi2, hi3, hi4, hi5⟩ := TInfo.out (P := P) (t := T)
  subst hi2
  have hnl : (ys.flatMap enc).length = ys.length * i.size := flatMap_len ys (fun x _ => hz.len x)
  have h1c : ∀ u ∈ ys.flatMap enc, u.oneCell' = true := by
    intro u hu
    obtain ⟨x, _, hx⟩ := List.mem_flatMap.1 hu
    exact hz.one x u hx
  have hnews : ∀ j u, (ys.flatMap enc)[j]? = some u → w.cell? ((⟨b, o, none⟩ : Addr).add j) = some u := by
    intro j u hj
    rw [add_off]
    exact (flat_cell hr j u hj).get
  have hfit : xs.length * i.size + (ys.flatMap enc).length ≤ cs.toArray.size := by
    simp only [hnl, List.size_toArray, hl, ← Nat.add_mul]
    exact Nat.mul_le_mul_right _ hroom
  have hrun := run_append_room (P := P) w t ty T i TUnd.out hi1 g xs.length cap cs.toArray hb.get ⟨b, o, none⟩ ys.length c (ys.flatMap enc) hnl hnews h1c hroom hfit
  rw [hnl] at hrun
  simp [OpV, execOp, resolve, invoke, builtin, hx, hy, hrun]
/-- the only operation that may come up, whatever it does to the world -/
theorem tkv {S : World → Prop} {listed : Array Bool} {fuel : Nat} {w' : World} {op : Op} {v : Value} (i : Nat) (hi : ops[i]? = some ⟨d, op, ty, p, af, none⟩) (hf : onlyB ops listed i = true) (hS : S w) (hy : OpV P ⟨d, op, ty, p, af, none⟩ e w v w') (h : vA P n ops S fuel (listed.setIfInBounds i true) (updO e d v) w' Q) : vA P n ops S (fuel + 1) listed e w Q :=
  vA_only i hi hf hS fun _ hK => vL_val hy (vL_nil ⟨rfl, hK _ _ h⟩)

/-! ### a store into an element -/
theorem flatMap_set1 {α : Type} {enc : α → List Value} {a : α} {u : Value} (ha : enc a = [u]) : ∀ (xs : List α) (i : Nat), (∀ x, x ∈ xs → (enc x).length = 1) → (xs.set i a).flatMap enc = (xs.flatMap enc).set i u
  | [], i, _ => by simp
  | x :: xs, 0, h => by
    obtain ⟨v, hv⟩ : ∃ v, enc x = [v] := List.length_eq_one_iff.1 (h x (by simp))
    simp [hv, ha]
  | x :: xs, i + 1, h => by
    obtain ⟨v, hv⟩ : ∃ v, enc x = [v] := List.length_eq_one_iff.1 (h x (by simp))
    simp [hv, flatMap_set1 ha xs i (fun y hy => h y (by simp [hy]))]
theorem vL_storeEl {α : Type} {x y : Operand} {t T by' : Nat} {z : List Value} {enc : α → List Value} {v u : Value} {xs : List α} {i : Int} (a : α) [TInfo P t 1 by' z] [hz : EncOk enc 1] (hx : ev e x = .pointer (some (ea v 1 i 0))) (hy : ev e y = u) (ha : enc a = [u]) (ho : Own w.heap T 1 enc v xs) (hi : i.toNat < xs.length)
    (k : ∀ w', Own w'.heap T 1 enc v (xs.set i.toNat a) → Fr (fun k => own v = some k) w w' → vL P n ops rest e w' Q) : vL P n ops (⟨none, .store t x y, ty, p, af, none⟩ :: rest) e w Q := by
  have hone : u.oneCell' = true := hz.one a u (by rw [ha]; simp)
  rcases ho.shape with ⟨_, rfl⟩ | ⟨g, cap, cs, rfl, hb, hn, hm, hl, ht⟩
  · simp at hi
  have hlt : i.toNat < cs.length := by omega
  have hx' : ev e x = .pointer (some ⟨g, i.toNat, none⟩) := by rw [hx]; simp [ea, adr]
  have hown : Own (w.setRow g (cs.set i.toNat u).toArray).heap T 1 enc (.slice (some ⟨g, 0, none⟩) xs.length cap) (xs.set i.toNat a) := by
    refine ⟨fun x _ => hz.len x, .inr ⟨g, cap, _, by simp, Blk.set hb, by simpa using hn, hm, by simpa using hl, ?_⟩⟩
    rw [flatMap_set1 ha xs _ ho.size, ← ht]
    simp [List.take_set]
  exact vL_skip (op := .store t x y) (d := none) (ops_store1 (P := P) (d := none) (t := t) (ty := ty) hx' hy hone hb (by omega)) (k _ hown ((Fr.refl (fun k => own (Value.slice (some ⟨g, 0, none⟩) xs.length cap) = some k) w).set g _ (.inl rfl)))
end
end Go.Eng
