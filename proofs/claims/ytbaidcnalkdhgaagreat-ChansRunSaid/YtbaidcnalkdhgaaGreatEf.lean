/-
  The engine, sixth text: append, slices of slices, make; regions that draw their order.
-/
import Derived.Test.YtbaidcnalkdhgaaGreatEe
namespace Go.Eng
open Go

theorem flat_cell {α : Type} {h : Array Obj} {sz : Nat} {enc : α → List Value} {v : Value} {xs : List α} (r : Rd h sz enc v xs) : ∀ j u, (xs.flatMap enc)[j]? = some u → Cell h (adr v).block ((adr v).off + j) u := by
  intro j u hj
  have key : ∀ (ys : List α) (n : Nat), (∀ x, x ∈ ys → (enc x).length = sz) → (∀ i x, ys[i]? = some x → ∀ j u, (enc x)[j]? = some u → Cell h (adr v).block ((adr v).off + (n + i) * sz + j) u) →
      ∀ j u, (ys.flatMap enc)[j]? = some u → Cell h (adr v).block ((adr v).off + n * sz + j) u := by
    intro ys
    induction ys with
    | nil => intro n _ _ j u hj; simp at hj
    | cons y ys ih =>
      intro n hs hc j u hj
      rw [List.flatMap_cons] at hj
      have hl := hs y (by simp)
      by_cases hlt : j < sz
      · rw [List.getElem?_append_left (by omega)] at hj
        have := hc 0 y (by simp) j u hj
        simpa using this
      · rw [List.getElem?_append_right (by omega), hl] at hj
        have := ih (n + 1) (fun x hx => hs x (by simp [hx])) (fun i x hx j u hu => by
          have := hc (i + 1) x (by simpa using hx) j u hu
          rwa [show n + (i + 1) = n + 1 + i by omega] at this) (j - sz) u hj
        rw [Nat.add_mul] at this
        rwa [show (adr v).off + (n * sz + 1 * sz) + (j - sz) = (adr v).off + n * sz + j by omega] at this
  have := key xs 0 r.size (fun i x hx j u hu => by simpa using r.cells i x hx j u hu) j u hj
  simpa using this

section
variable {P : Program}

theorem setRow_id {w : World} {g : Nat} {c : List Value} {T : TypeId} (hb : Blk w.heap g c T) : w.setRow g c.toArray = w := setRow_self w g c.toArray T (0, 0) hb.get

theorem append_own {α : Type} {w : World} {t ty T sz by' : Nat} {z : List Value} {enc : α → List Value} {v u : Value} {xs ys : List α} [ht : TUnd P t (.slice T)] [hi : TInfo P T sz by' z] [hz : EncOk enc sz] (hzl : z.length = sz) (hpos : 0 < sz)
    (ho : Own w.heap T sz enc v xs) (hr : Rd w.heap sz enc u ys) (hm : xs.length + ys.length ≤ maxLen) (hby : (xs.length + ys.length) * by' ≤ 140737488355328) :
    ∃ v' w', (Builtin.append_ #[t, t] ty #[v, u]).run P w = .ok v' w' ∧ Own w'.heap T sz enc v' (xs ++ ys) ∧ Fr (fun k => own v = some k) w w' ∧ (∀ b, own v' = some b → own v = some b ∨ w.heap.size ≤ b) ∧ v'.oneCell' = true ∧ (v' = .slice none 0 0 ↔ v = .slice none 0 0 ∧ ys = []) := by
  obtain ⟨i, zv, hi1, hi2, hi3, hi4, hi5⟩ := hi.out
  subst hi2
  subst hi3
  have htu := ht.out
  have hsmall : xs.length + ys.length ≤ 9223372036854775807 := by simp only [maxLen] at hm; omega
  have hnl : (ys.flatMap enc).length = ys.length * i.size := flatMap_len ys (fun x _ => hz.len x)
  have h1c : ∀ u ∈ ys.flatMap enc, u.oneCell' = true := by
    intro u hu
    obtain ⟨x, _, hx⟩ := List.mem_flatMap.1 hu
    exact hz.one x u hx
  have hsz' : ∀ x, x ∈ xs ++ ys → (enc x).length = i.size := fun x _ => hz.len x
  have newOwn : ∀ (cap : Nat) (w0 : World), xs.length + ys.length ≤ cap → cap ≤ maxLen → Own (w0.alloc (.cells ((xs.flatMap enc).toArray ++ (ys.flatMap enc).toArray ++ Builtin.zeroCells zv.cells (cap - (xs.length + ys.length))) T)).heap T i.size enc (.slice (some ⟨w0.heap.size, 0, none⟩) (xs.length + ys.length) cap) (xs ++ ys) := by
    intro cap w0 hc hcm
    refine ⟨hsz', .inr ⟨w0.heap.size, cap, xs.flatMap enc ++ ys.flatMap enc ++ (Builtin.zeroCells zv.cells (cap - (xs.length + ys.length))).toList, by simp, ?_, by simpa using hc, hcm, ?_, ?_⟩⟩
    · have := Blk.new (w := w0) (c := xs.flatMap enc ++ ys.flatMap enc ++ (Builtin.zeroCells zv.cells (cap - (xs.length + ys.length))).toList) (T := T)
      have ea : ((xs.flatMap enc).toArray ++ (ys.flatMap enc).toArray ++ Builtin.zeroCells zv.cells (cap - (xs.length + ys.length))) = (xs.flatMap enc ++ ys.flatMap enc ++ (Builtin.zeroCells zv.cells (cap - (xs.length + ys.length))).toList).toArray := Array.ext' (by simp)
      rw [ea]
      exact this
    · simp only [List.length_append, flatMap_len xs ho.size, hnl, Array.length_toList, size_zeroCells, hi5, List.size_toArray, hzl]
      rw [← Nat.add_mul, ← Nat.add_mul]
      congr 1
      omega
    · rw [List.flatMap_append, List.take_left' (by simp only [List.length_append, flatMap_len xs ho.size, hnl]; rw [Nat.add_mul])]
  rcases hr.shape with ⟨rfl, a0, rfl⟩ | ⟨b, o, c, rfl, hcap⟩
  · -- nothing is appended
    have hrun : (Builtin.append_ #[t, t] ty #[v, .slice a0 0 0]).run P w = .ok v w := by
      rcases ho.shape with ⟨rfl, rfl⟩ | ⟨g, cap, cs, rfl, hb, hn, hm', hl, htk⟩
      · cases a0 <;> simp [Builtin.append_, run_underlying htu, sizeOf, typeInfo, hi1, Builtin.lenOf, Builtin.firstCells, loadCells, loadCellsFrom]
      · cases a0 <;> simp [Builtin.append_, run_underlying htu, sizeOf, typeInfo, hi1, Builtin.lenOf, Builtin.firstCells, hn, storeCells, loadCells, loadCellsFrom]
    refine ⟨v, w, hrun, by simpa using ho, Fr.refl _ _, fun b hb => .inl hb, ?_, by simp⟩
    rcases ho.shape with ⟨rfl, _⟩ | ⟨g, cap, cs, rfl, _⟩ <;> rfl
  · have hnews : ∀ j u, (ys.flatMap enc)[j]? = some u → w.cell? ((⟨b, o, none⟩ : Addr).add j) = some u := by
      intro j u hj
      rw [add_off]
      exact (flat_cell hr j u hj).get
    have drewFr : ∀ (ob : Obj) (F : Nat → Prop), Fr F w (w.drew.alloc ob) := fun ob F => ((Fr.refl F w).drew).alloc ob
    rcases ho.shape with ⟨rfl, rfl⟩ | ⟨g, cap, cs, rfl, hb, hn, hm', hl, htk⟩
    · by_cases h0 : ys.length = 0
      · have hy : ys = [] := List.eq_nil_of_length_eq_zero h0
        subst hy
        refine ⟨.slice none 0 0, w, ?_, by simpa using Own.nil _ _ _ _, Fr.refl _ _, fun b hb => .inl hb, rfl, by simp⟩
        simp [Builtin.append_, run_underlying htu, sizeOf, typeInfo, hi1, Builtin.lenOf, Builtin.firstCells, loadCells, loadCellsFrom]
      · have hrun := run_append_nil (P := P) w t ty T i zv htu hi1 hi4 ⟨b, o, none⟩ ys.length c (ys.flatMap enc) hnl hnews (by omega) (by simp at hsmall; omega) (by simp only [List.length_nil, Nat.zero_add] at hby; omega)
        have hge := grownCap_ge w ys.length 0 T
        have hcm := grownCap_le_maxLen w ys.length 0 T (by simpa using hm)
        have hown := newOwn _ w.drew (by simpa using hge) hcm
        simp only [List.length_nil, Nat.zero_add, List.flatMap_nil, List.nil_append] at hown
        have e0 : (([] : List Value).toArray ++ (ys.flatMap enc).toArray) = (ys.flatMap enc).toArray := by simp
        rw [e0] at hown
        refine ⟨_, _, hrun, hown, drewFr _ _, fun b hb => .inr (by cases hb; exact Nat.le_refl _), rfl, ?_⟩
        have hne : ys ≠ [] := fun h => h0 (by rw [h]; rfl)
        simp [hne]
    · by_cases hroom : xs.length + ys.length ≤ cap
      · have hfit : xs.length * i.size + (ys.flatMap enc).length ≤ cs.toArray.size := by
          simp only [hnl, List.size_toArray, hl, ← Nat.add_mul]
          exact Nat.mul_le_mul_right _ hroom
        have hrun := run_append_room (P := P) w t ty T i htu hi1 g xs.length cap cs.toArray hb.get ⟨b, o, none⟩ ys.length c (ys.flatMap enc) hnl hnews h1c hroom hfit
        refine ⟨_, _, hrun, ⟨hsz', .inr ⟨g, cap, cs.take (xs.length * i.size) ++ ys.flatMap enc ++ cs.drop (xs.length * i.size + (ys.flatMap enc).length), by simp, ?_, by simpa using hroom, hm', ?_, ?_⟩⟩, (Fr.refl _ w).set g _ (.inl rfl), fun b hb => .inl hb, rfl, by simp⟩
        · exact Blk.set hb
        · simp only [List.size_toArray] at hfit
          simp only [List.length_append, List.length_take, List.length_drop]
          omega
        · rw [htk, ← List.flatMap_append, List.take_left']
          rw [flatMap_len _ hsz']
      · have holds : ∀ j u, (xs.flatMap enc)[j]? = some u → w.cell? ((⟨g, 0, none⟩ : Addr).add j) = some u := by
          intro j u hj
          rw [add_off]
          have := flat_cell ho.rd j u hj
          simpa [adr] using this.get
        have hrun := run_append_grow (P := P) w t ty T i zv htu hi1 hi4 ⟨g, 0, none⟩ xs.length cap (xs.flatMap enc) (flatMap_len xs ho.size) holds ⟨b, o, none⟩ ys.length c (ys.flatMap enc) hnl hnews (by omega) (by omega) (growslice_fits (by omega) hby)
        have hge := grownCap_ge w (xs.length + ys.length) cap T
        have hcm := grownCap_le_maxLen w (xs.length + ys.length) cap T hm
        exact ⟨_, _, hrun, newOwn _ w.drew hge hcm, drewFr _ _, fun b hb => .inr (by cases hb; exact Nat.le_refl _), rfl, by simp⟩

variable {n : Nat} {e : Env} {w : World} {Q : Post} {ops rest : List Oper} {d : Option Nat} {ty : TypeId} {p : String} {af : Array Edge}
theorem vL_append {α : Type} {x y : Operand} {t T sz by' : Nat} {z : List Value} {enc : α → List Value} {v u : Value} {xs ys : List α} [TUnd P t (.slice T)] [TInfo P T sz by' z] [EncOk enc sz] (hx : ev e x = v) (hy : ev e y = u)
    (ho : Own w.heap T sz enc v xs) (hr : Rd w.heap sz enc u ys) (hzl : z.length = sz) (hpos : 0 < sz) (hm : xs.length + ys.length ≤ maxLen) (hby : (xs.length + ys.length) * by' ≤ 140737488355328)
    (k : ∀ v' w', Own w'.heap T sz enc v' (xs ++ ys) → Fr (fun k => own v = some k) w w' → (∀ b, own v' = some b → own v = some b ∨ w.heap.size ≤ b) → v'.oneCell' = true → (v' = .slice none 0 0 ↔ v = .slice none 0 0 ∧ ys = []) → vL P n ops rest (updO e d v') w' Q) :
    vL P n ops (⟨d, .call ⟨.builtin .append, #[x, y], #[t, t]⟩, ty, p, af, none⟩ :: rest) e w Q := by
  obtain ⟨v', w', hrun, h1, h2, h3, h4, h5⟩ := append_own (P := P) (t := t) (ty := ty) hzl hpos ho hr hm hby
  refine vL_val ?_ (k v' w' h1 h2 h3 h4 h5)
  simp [OpV, execOp, resolve, invoke, builtin, hx, hy, hrun]

/-! ### slices of slices -/
theorem run_sliceBound {k : IntKind} {i : Int} {m : Nat} {code : BoundsCode} (h0 : 0 ≤ i) (h1 : i ≤ m) : (Instr.sliceBound (.int k i) m code).run P w = .ok i.toNat w := by
  simp [Instr.sliceBound, asIntOf, h0, h1]
theorem opv_slice_hi {x hi : Operand} {t E len c : Nat} {a : Option Addr} {k : IntKind} {i : Int} [TUnd P t (.slice E)] (hx : ev e x = .slice a len c) (hh : ev e hi = .int k i) (h0 : 0 ≤ i) (h1 : i ≤ c) (hs : ∀ w, ∃ sz, (sizeOf E).run P w = .ok sz w) (ha : ∀ q, a = some q → q.spot = none) : OpV P ⟨d, .slice t x none (some hi) none, ty, p, af, none⟩ e w (.slice a i.toNat c) w := by
  have hu := run_underlying (TUnd.out (P := P) (t := t)) w
  obtain ⟨sz, hs⟩ := hs w
  simp only [OpV, execOp, Instr.sliceAt, Sem.run_bind, hu, Result.andThen_ok, Instr.slice, hx, Instr.sliceBounds, Option.map_some, Option.map_none, hh, run_sliceBound h0 h1, Sem.run_pure, hs, Nat.sub_zero, Nat.zero_mul]
  have : (if c = 0 then a else Option.map (fun x => x.add 0) a) = a := by
    split
    · rfl
    · cases a with
      | none => rfl
      | some q => simp [Addr.add]
  rw [this]
theorem opv_slice_lo {x lo : Operand} {t E len c b o sz by' : Nat} {z : List Value} {k : IntKind} {i : Int} [TUnd P t (.slice E)] [TInfo P E sz by' z] (hx : ev e x = .slice (some ⟨b, o, none⟩) len c) (hh : ev e lo = .int k i) (h0 : 0 ≤ i) (h1 : i ≤ len) : OpV P ⟨d, .slice t x (some lo) none none, ty, p, af, none⟩ e w (.slice (some (if c = i.toNat then ⟨b, o, none⟩ else ⟨b, o + i.toNat * sz, none⟩)) (len - i.toNat) (c - i.toNat)) w := by
  have hu := run_underlying (TUnd.out (P := P) (t := t)) w
  simp only [OpV, execOp, Instr.sliceAt, Sem.run_bind, hu, Result.andThen_ok, Instr.slice, hx, Instr.sliceBounds, Option.map_some, Option.map_none, hh, run_sliceBound h0 h1, Sem.run_pure, run_sizeOf' (P := P) (t := E), add_off]
  congr 3
  split <;> rfl
end

/-! ### a region that draws its order, in an order of the prover's choice -/
def vA (P : Program) (n : Nat) (ops : List Oper) (S : World → Prop) (fuel : Nat) (listed : Array Bool) (e : Env) (w : World) (Q : Post) : Prop :=
  S w ∧ (okL n ops = true → ∀ a, Rep n a e → wpAnyH P .any ops.toArray (lift n Q) S fuel listed a w)
def freeB (ops : List Oper) (listed : Array Bool) (i : Nat) : Bool :=
  Region.noSelect ops.toArray && Region.free .any ops.toArray listed i && (Region.ready .any ops.toArray listed).contains i
def onlyB (ops : List Oper) (listed : Array Bool) (i : Nat) : Bool := decide (Region.ready .any ops.toArray listed = [i])
def doneB (ops : List Oper) (listed : Array Bool) : Bool := decide (Region.ready .any ops.toArray listed = [])

section
variable {P : Program} {n : Nat} {e : Env} {w : World} {Q : Post} {ops : List Oper} {S : World → Prop} {listed : Array Bool} {fuel i : Nat}
theorem okL_get : ∀ {ops : List Oper} {i : Nat} {o : Oper}, okL n ops = true → ops[i]? = some o → okD n o.dst = true
  | [], i, o, _, h => by simp at h
  | x :: ops, 0, o, hok, h => by simp [okL] at hok; simp at h; rw [← h]; exact hok.1
  | x :: ops, i + 1, o, hok, h => by simp [okL] at hok; exact okL_get hok.2 (by simpa using h)

theorem vC_draw [hm : Mixed P] {id : Nat} (S : World → Prop) (h : vA P n ops S ops.length (Array.replicate ops.length false) e w.drew Q) : vC P n (.region id ops.toArray true) e w Q := by
  intro hok a ha
  refine wp_region_held (S := S) hm.out ?_
  have := h.2 (by simpa [okC] using hok) a ha
  simpa using this
theorem vA_take {op : Op} {d : Option Nat} {ty : TypeId} {p : String} {af : Array Edge} {v : Value} (i : Nat) (hi : ops[i]? = some ⟨d, op, ty, p, af, none⟩) (hf : freeB ops listed i = true) (hy : ∀ w, S w → OpV P ⟨d, op, ty, p, af, none⟩ e w v w)
    (h : S w → vA P n ops S fuel (listed.setIfInBounds i true) (updO e d v) w Q) (hS : S w) : vA P n ops S (fuel + 1) listed e w Q := by
  refine ⟨hS, fun hok a ha => ?_⟩
  simp only [freeB, Bool.and_eq_true] at hf
  have hd := okL_get hok hi
  refine wpAnyH_take (oi := ⟨d, op, ty, p, af, none⟩) (v := v) (by simpa using hi) hf.1.1 hf.1.2 hf.2 (fun _ _ _ h => h) (.inl ⟨rfl, fun w hw => ?_⟩) hS ((h hS).2 hok _ (ha.put d v hd))
  rw [ha.eval]
  exact hy w hw
theorem vA_take_wanted {op : Op} {d : Option Nat} {ty : TypeId} {p : String} {af : Array Edge} {v : Value} {j : Nat} {want : Bool} (i : Nat) (hi : ops[i]? = some ⟨d, op, ty, p, af, some (j, want)⟩) (hg : yE ops e j = some want) (hf : freeB ops listed i = true) (hy : ∀ w, S w → OpV P ⟨d, op, ty, p, af, none⟩ e w v w)
    (h : S w → vA P n ops S fuel (listed.setIfInBounds i true) (updO e d v) w Q) (hS : S w) : vA P n ops S (fuel + 1) listed e w Q := by
  refine ⟨hS, fun hok a ha => ?_⟩
  simp only [freeB, Bool.and_eq_true] at hf
  have hd := okL_get hok hi
  refine wpAnyH_take (oi := ⟨d, op, ty, p, af, some (j, want)⟩) (v := v) (by simpa using hi) hf.1.1 hf.1.2 hf.2 (fun _ _ _ h => h) (.inl ⟨by simp [Region.wanted, yielded_eq ha, hg], fun w hw => ?_⟩) hS ((h hS).2 hok _ (ha.put d v hd))
  rw [ha.eval]
  exact hy w hw
theorem vA_take_unwanted {op : Op} {d : Option Nat} {ty : TypeId} {p : String} {af : Array Edge} {j : Nat} {want : Bool} (i : Nat) (hi : ops[i]? = some ⟨d, op, ty, p, af, some (j, want)⟩) (hg : yE ops e j ≠ some want) (hf : freeB ops listed i = true)
    (h : S w → vA P n ops S fuel (listed.setIfInBounds i true) (updO e d undef) w Q) (hS : S w) : vA P n ops S (fuel + 1) listed e w Q := by
  refine ⟨hS, fun hok a ha => ?_⟩
  simp only [freeB, Bool.and_eq_true] at hf
  have hd := okL_get hok hi
  exact wpAnyH_take (oi := ⟨d, op, ty, p, af, some (j, want)⟩) (v := undef) (by simpa using hi) hf.1.1 hf.1.2 hf.2 (fun _ _ _ h => h) (.inr ⟨by simp [Region.wanted, yielded_eq ha, hg], rfl⟩) hS ((h hS).2 hok _ (ha.put d undef hd))
/-- the only operation that may come up: it does what it does; S is to be shown behind it -/
theorem vA_only {op : Op} {d : Option Nat} {ty : TypeId} {p : String} {af : Array Edge} (i : Nat) (hi : ops[i]? = some ⟨d, op, ty, p, af, none⟩) (hf : onlyB ops listed i = true) (hS : S w)
    (h : ∀ K : Env → World → Prop, (∀ e w, vA P n ops S fuel (listed.setIfInBounds i true) e w Q → K e w) → vL P n ops [⟨d, op, ty, p, af, none⟩] e w (fun x e w => x = .normal ∧ K e w)) : vA P n ops S (fuel + 1) listed e w Q := by
  refine ⟨hS, fun hok a ha => ?_⟩
  simp only [onlyB, decide_eq_true_eq] at hf
  refine wpAnyH_all hf (by simp) ?_
  intro j hj
  have hji : j = i := by simpa using hj
  subst hji
  have hd := okL_get hok hi
  have h1 := h (fun e w => vA P n ops S fuel (listed.setIfInBounds j true) e w Q) (fun _ _ h => h) (by simp [okL, hd]) a ha
  unfold wpOp
  have hi' : ops.toArray[j]? = some ⟨d, op, ty, p, af, none⟩ := by simpa using hi
  simp only [hi']
  unfold wpList at h1
  rw [if_pos (show Region.wanted _ _ = true from rfl)] at h1 ⊢
  rcases h1 with h1 | ⟨_, a', w', h2⟩
  · left
    unfold Oper.wp at h1 ⊢
    generalize (execOp a.eval ⟨d, op, ty, p, af, none⟩).run P w = r at h1 ⊢
    have fin : ∀ a' w', lift n (fun x e w => x = .normal ∧ vA P n ops S fuel (listed.setIfInBounds j true) e w Q) .normal a' w' → S w' ∧ wpAnyH P .any ops.toArray (lift n Q) S fuel (listed.setIfInBounds j true) a' w' := by
      intro a' w' ⟨e', he', _, hv⟩
      exact ⟨hv.1, hv.2 hok a' he'⟩
    cases r with
    | ok x w' =>
      cases x <;> simp only [Oper.upon, wpList] at h1 ⊢
      case value v => exact fin _ _ h1
      case skip => exact fin _ _ h1
      case defer dd => exact fin _ _ h1
      case enter f args =>
        refine Calls.mono h1 ?_
        intro x w'' hx
        cases x with
        | returned v => exact fin _ _ hx
        | panicked c => exact hx.elim
        | outgrown => obtain ⟨_, _, hx⟩ := hx; exact hx.elim
      case row r args => exact Rows.mono h1 (fun _ _ h => fin _ _ h)
    | halt x w' =>
      cases x <;> simp only [Oper.upon] at h1 ⊢
      case panic v => exact h1.elim
  · exact h2.elim
theorem vA_done (hf : doneB ops listed = true) (hS : S w) (h : Q .normal e w) : vA P n ops S fuel listed e w Q :=
  ⟨hS, fun _ _ ha => wpAnyH_done (by simpa [doneB] using hf) ⟨e, ha, h⟩ fuel⟩
/-- S may be made stronger on the way -/
theorem wpAnyH_mono {md : Region.Mode} {ops : Array Oper} {Q : Exit → Act → World → Prop} {S S' : World → Prop} (hs : ∀ w, S' w → S w) : ∀ (fuel : Nat) (listed : Array Bool) (a : Act) (w : World), wpAnyH P md ops Q S' fuel listed a w → wpAnyH P md ops Q S fuel listed a w
  | 0, _, _, _, h => h
  | fuel + 1, _, _, _, h => ⟨h.1, fun i hi => wpOp_mono (fun a' w' h' => ⟨hs _ h'.1, wpAnyH_mono hs fuel _ a' w' h'.2⟩) (h.2 i hi)⟩
theorem vA_stronger {S' : World → Prop} (hs : ∀ w, S' w → S w) (h : vA P n ops S' fuel listed e w Q) : vA P n ops S fuel listed e w Q :=
  ⟨hs _ h.1, fun hok a ha => wpAnyH_mono hs _ _ _ _ (h.2 hok a ha)⟩
end
end Go.Eng
