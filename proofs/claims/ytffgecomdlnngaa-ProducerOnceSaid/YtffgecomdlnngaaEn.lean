/- The engine, further: m[k] op= v; keys that are structs or arrays of numbers and texts. -/
import Derived.Test.YtffgecomdlnngaaEm
import Derived.WideKeyRuns
namespace Go.Eng
open Go
section
variable {κ ν : Type} [DecidableEq κ]
theorem mfind_at {M : List (κ × ν)} {key : κ} : ∀ {a j : Nat} {u : ν}, mfind M key a = some (j, u) → a ≤ j ∧ M[j - a]? = some (key, u) := by
  induction M with
  | nil => intro a j u h; simp [mfind] at h
  | cons p M ih =>
    intro a j u h
    obtain ⟨b, x⟩ := p
    simp only [mfind] at h
    split at h
    · rename_i hk
      simp at h
      obtain ⟨rfl, rfl⟩ := h
      simp [hk]
    · obtain ⟨h3, h4⟩ := ih h
      refine ⟨by omega, ?_⟩
      rw [show j - a = (j - (a + 1)) + 1 by omega]
      simpa using h4
theorem mfind_new {M : List (κ × ν)} {key : κ} {z : ν} : ∀ {a : Nat}, mfind M key a = none → mfind (M ++ [(key, z)]) key a = some (a + M.length, z) := by
  induction M with
  | nil => intro a _; simp [mfind]
  | cons p M ih =>
    intro a h
    obtain ⟨b, x⟩ := p
    simp only [mfind] at h
    split at h
    · cases h
    · rename_i hk
      simp only [List.cons_append, mfind, hk, if_false, List.length_cons]
      rw [ih h]
      congr 2
      omega
end
/-- .. with the stamp of one entry -/
structure MpS {κ ν : Type} [DecidableEq κ] (h : Array Obj) (r : Nat) (kE : κ → Value) (vE : ν → Value) (M : List (κ × ν)) (key : κ) (stamp : Nat) : Prop where
  out : ∃ es clock i v e, h[r]? = some (.map es clock) ∧ es.toList.map (fun e => (e.key, e.val)) = M.map (fun p => (kE p.1, vE p.2)) ∧ Births es.toList clock ∧ mfind M key 0 = some (i, v) ∧ es.toList[i]? = some e ∧ e.born = stamp
section
variable {κ ν : Type} [DecidableEq κ] {P : Program} {w : World} {kE : κ → Value} {vE : ν → Value} {M : List (κ × ν)} {r : Nat}
theorem MpS.mp {h : Array Obj} {key : κ} {st : Nat} (m : MpS h r kE vE M key st) : Mp h r kE vE M := by
  obtain ⟨es, c, i, v, e, h1, h2, h3, _⟩ := m.out
  exact ⟨es, c, h1, h2, h3⟩
theorem MpS.lt {h : Array Obj} {key : κ} {st : Nat} (m : MpS h r kE vE M key st) : r < h.size := m.mp.lt
theorem MpS.fr {F : Nat → Prop} {w' : World} {key : κ} {st : Nat} (m : MpS w.heap r kE vE M key st) (hf : Fr F w w') (hn : ¬ F r) : MpS w'.heap r kE vE M key st := by
  have hl := m.lt
  obtain ⟨es, c, i, v, e, h1, h2⟩ := m.out
  exact ⟨es, c, i, v, e, (hf.blk r hl hn).trans h1, h2⟩
omit [DecidableEq κ] in
theorem pairs_get {es : List MapEntry} (h2 : es.map (fun e => (e.key, e.val)) = M.map (fun p => (kE p.1, vE p.2))) (i : Nat) : (es[i]?).map (fun e => (e.key, e.val)) = (M[i]?).map (fun p => (kE p.1, vE p.2)) := by
  have := congrArg (·[i]?) h2
  simpa using this
theorem pairs_modify {es : List MapEntry} (h2 : es.map (fun e => (e.key, e.val)) = M.map (fun p => (kE p.1, vE p.2))) {key : κ} {i : Nat} {u val : ν} (hq : mfind M key 0 = some (i, u)) (f : MapEntry → MapEntry) (hk : ∀ e, e.key = kE key → (f e).key = kE key ∧ (f e).val = vE val) :
    (es.modify i f).map (fun e => (e.key, e.val)) = (mset M key val).map (fun p => (kE p.1, vE p.2)) := by
  obtain ⟨_, hi, hm⟩ := mfind_set hq
  have ha := (mfind_at hq).2
  simp only [Nat.sub_zero] at hi hm ha
  rw [← hm val]
  apply List.ext_getElem?
  intro j
  simp only [List.getElem?_map, List.getElem?_modify]
  have h5 := pairs_get h2 j
  by_cases hj : i = j
  · subst hj
    simp only [if_true]
    rw [ha] at h5 ⊢
    cases h6 : es[i]? with
    | none => rw [h6] at h5; simp at h5
    | some e =>
      rw [h6] at h5
      simp only [Option.map_some, Option.some.injEq, Prod.mk.injEq] at h5
      simpa using hk e h5.1
  · simp only [hj, if_false]
    cases h6 : es[j]? <;> cases h7 : M[j]? <;> simp_all
variable {n : Nat} {e : Env} {Q : Post} {ops rest : List Oper} {d : Option Nat} {ty : TypeId} {p : String} {af : Array Edge}
/-- the entry of m[k] op= v: it is made if it is not there -/
theorem vL_mapEntry {x y : Operand} {t k v : TypeId} {key : κ} (z0 : ν) [TUnd P t (.map k v)] [K : KyOk P k kE] [TZero P v (vE z0)] (hx : ev e x = .map (some r)) (hy : ev e y = kE key) (m : Mp w.heap r kE vE M)
    (h : ∀ w' st, MpS w'.heap r kE vE (mset M key ((mget M key).getD z0)) key st → Fr (fun b => b = r) w w' → vL P n ops rest (updO e d (.tuple #[vE ((mget M key).getD z0), .int .i64 (st : Nat)])) w' Q) : vL P n ops (⟨d, .mapEntry t x y, ty, p, af, none⟩ :: rest) e w Q := by
  obtain ⟨es, c, h1, h2, hb⟩ := m.out
  have hu := run_underlying (TUnd.out (P := P) (t := t)) w
  have hg := MapKept.run_getObj_map (P := P) h1
  have hf := mp_find (P := P) (w := w) (t := t) (k := k) (v := v) (key := key) h2
  have hz := run_zeroValue' (P := P) (t := v) (zv := vE z0) w
  have hlt := m.lt
  have hmg := mfind_get M key 0
  have hlen : es.size = M.length := by have := congrArg List.length h2; simpa using this
  cases hq : mfind M key 0 with
  | none =>
    rw [hq] at hmg
    have hmg : mget M key = none := hmg.symm
    have hs := MapKept.run_setObj_map (P := P) (.map (es.push { key := kE key, val := vE z0, born := c }) (c + 1)) h1
    rw [hmg] at h
    simp only [Option.getD_none] at h
    refine vL_val (w' := { w with heap := w.heap.setIfInBounds r (.map (es.push { key := kE key, val := vE z0, born := c }) (c + 1)) }) (v := .tuple #[vE z0, .int .i64 (c : Nat)]) ?_ (h _ c ⟨es.push { key := kE key, val := vE z0, born := c }, c + 1, M.length, z0, { key := kE key, val := vE z0, born := c }, by simp [hlt], ?_, by simpa using hb.push _ _, ?_, ?_, rfl⟩ ((Fr.refl _ w).setObj r _ (.inl rfl)))
    · simp [OpV, execOp, hx, hy, Instr.mapEntry, hu, hg, K.check, hf, hq, hz, hs, goInt]
    · rw [(mfind_no hq).1]; simp [h2]
    · rw [(mfind_no hq).1]
      have := mfind_new (z := z0) hq
      simpa using this
    · simp [← hlen]
  | some q =>
    obtain ⟨i, old⟩ := q
    rw [hq] at hmg
    have hmg : mget M key = some old := hmg.symm
    have ha := (mfind_at hq).2
    simp only [Nat.sub_zero] at ha
    have hp := pairs_get h2 i
    rw [ha] at hp
    obtain ⟨e0, he0⟩ : ∃ e0, es[i]? = some e0 := by
      cases h6 : es[i]? with
      | none => rw [Array.getElem?_toList, h6] at hp; simp at hp
      | some e0 => exact ⟨e0, rfl⟩
    have he1 : e0.key = kE key := by rw [Array.getElem?_toList, he0] at hp; simp at hp; exact hp.1
    have hs := MapKept.run_setObj_map (P := P) (.map (es.modify i fun e => { e with key := kE key }) c) h1
    rw [hmg] at h
    simp only [Option.getD_some] at h
    refine vL_val (w' := { w with heap := w.heap.setIfInBounds r (.map (es.modify i fun e => { e with key := kE key }) c) }) (v := .tuple #[vE old, .int .i64 (e0.born : Nat)]) ?_ (h _ e0.born ⟨es.modify i fun e => { e with key := kE key }, c, i, old, { e0 with key := kE key }, by simp [hlt], ?_, by rw [Array.toList_modify]; exact hb.modify _ _ (fun _ => rfl), ?_, ?_, rfl⟩ ((Fr.refl _ w).setObj r _ (.inl rfl)))
    · simp [OpV, execOp, hx, hy, Instr.mapEntry, hu, hg, K.check, hf, hq, he0, he1, Instr.keyThatStays, K.bits, hs, goInt]
    · have hm : (mset M key old).map (fun p => (kE p.1, vE p.2)) = M.map (fun p => (kE p.1, vE p.2)) := by
        obtain ⟨_, hi, hm⟩ := mfind_set hq
        simp only [Nat.sub_zero] at hm
        rw [← hm old]
        congr 1
        apply List.ext_getElem?
        intro j
        rw [List.getElem?_modify]
        by_cases hj : i = j
        · subst hj; rw [ha]; simp
        · simp [hj]
      rw [Array.toList_modify, hm, ← h2]
      apply List.ext_getElem?
      intro j
      simp only [List.getElem?_map, List.getElem?_modify]
      by_cases hj : i = j
      · subst hj; rw [Array.getElem?_toList, he0]; simp [he1]
      · simp [hj]
    · have hm : ∀ (M : List (κ × ν)) (a : Nat) (j : Nat) (u : ν), mfind M key a = some (j, u) → mfind (mset M key u) key a = some (j, u) := by
        intro M
        induction M with
        | nil => intro a j u h; simp [mfind] at h
        | cons p M ih =>
          intro a j u h
          obtain ⟨b, x⟩ := p
          simp only [mfind] at h
          split at h
          · rename_i hk
            simp at h
            obtain ⟨rfl, rfl⟩ := h
            simp [mset, mfind, hk]
          · rename_i hk
            simp only [mset, mfind, hk, if_false]
            exact ih _ _ _ h
      exact hm M 0 i old hq
    · simp [Array.toList_modify, List.getElem?_modify, he0]
theorem vL_entryStore {x y u : Operand} {t : TypeId} {key : κ} {val : ν} {st : Nat} (hx : ev e x = .map (some r)) (hy : ev e y = .int .i64 (st : Nat)) (hu' : ev e u = vE val) (m : MpS w.heap r kE vE M key st)
    (h : ∀ w', Mp w'.heap r kE vE (mset M key val) → Fr (fun b => b = r) w w' → vL P n ops rest (updO e d undef) w' Q) : vL P n ops (⟨d, .entryStore t x y u, ty, p, af, none⟩ :: rest) e w Q := by
  obtain ⟨es, c, i, v, e0, h1, h2, hb, hq, he0, hst⟩ := m.out
  have hg := MapKept.run_getObj_map (P := P) h1
  have hlt := m.lt
  have hfi : es.findIdx? (fun e => (e.born : Int) == ((st : Nat) : Int)) = some i := by
    rw [Array.findIdx?_eq_some_iff_getElem]
    obtain ⟨hi, hei⟩ := List.getElem?_eq_some_iff.1 he0
    have hi' : i < es.size := by simpa using hi
    have hei' : es[i] = e0 := by simpa using hei
    refine ⟨hi', by rw [hei', hst]; simp, fun j hj => ?_⟩
    intro hc
    simp only [beq_iff_eq, Int.natCast_inj] at hc
    have e1 : (es.toList.map (·.born))[j]? = some st := by rw [List.getElem?_map, Array.getElem?_toList, Array.getElem?_eq_getElem (by omega)]; simp [hc]
    have e2 : (es.toList.map (·.born))[i]? = some st := by rw [List.getElem?_map, he0]; simp [hst]
    have h3 := (List.getElem?_eq_some_iff.1 e1)
    have h4 := (List.getElem?_eq_some_iff.1 e2)
    have := (List.getElem_inj (h₀ := h3.1) (h₁ := h4.1) hb.1).1 (h3.2.trans h4.2.symm)
    omega
  have hs := MapKept.run_setObj_map (P := P) (.map (es.modify i fun e => { e with val := vE val }) c) h1
  refine vL_skip (w' := { w with heap := w.heap.setIfInBounds r (.map (es.modify i fun e => { e with val := vE val }) c) }) ?_ (h _ (Mp.ofSet hlt (by rw [Array.toList_modify]; exact hb.modify _ _ (fun _ => rfl)) ?_) ((Fr.refl _ w).setObj r _ (.inl rfl)))
  · simp [OpS, execOp, hx, hy, hu', Instr.entryStore, hg, hfi, asInt, asIntOf, hs]
  · rw [Array.toList_modify]
    exact pairs_modify h2 hq _ (fun e he => ⟨he, rfl⟩)
end

/-! ### keys that are structs of a text and a number -/
def tkE (x : ByteArray × Int) : Value := .agg (tE x).toArray
theorem findAsking_flat {P : Program} {kt : TypeId} {w : World} {κ : Type} [DecidableEq κ] {kE : κ → Value} (heq : ∀ a b, (Op.equal kt (kE a) (kE b)).run P w = .ok (decide (a = b)) w) (k : κ) : ∀ (es : List MapEntry) (M : List (κ × Value)) i, es.map (fun e => (e.key, e.val)) = M.map (fun p => (kE p.1, p.2)) → (Instr.findAsking kt (kE k) es i).run P w = .ok (mfind M k i) w
  | [], [], i, _ => rfl
  | [], _ :: _, i, h => by simp at h
  | _ :: _, [], i, h => by simp at h
  | x :: es, (a, v) :: M, i, h => by
    simp only [List.map_cons, List.cons.injEq, Prod.mk.injEq] at h
    obtain ⟨⟨h1, h2⟩, h3⟩ := h
    have ih := findAsking_flat heq k es M (i + 1) h3
    unfold Instr.findAsking
    simp only [Sem.run_bind, h1, heq, Result.andThen_ok, mfind]
    by_cases hk : k = a
    · subst hk; simp [h2]
    · simp only [hk, decide_false, if_false, Bool.false_eq_true]
      exact ih
theorem tky_mk {P : Program} {kt : TypeId} {f0 f1 : Field} (hu : P.underlying kt = some (.struct #[f0, f1])) (h0 : P.underlying f0.type = some .string) (h1 : P.underlying f1.type = some (.int .i64)) (n0 : f0.name ≠ "_") (n1 : f1.name ≠ "_") (o0 : f0.offset = 0) (o1 : f1.offset = 1) [hfl : TFlat P kt [.s, .i .i64]] : KyOk P kt tkE where
  check b k w := by
    have p0 := part_kd (P := P) (w := w) (k := .s) (xs := tE k) (o := f0.offset) (v := .string k.1) h0 (by rw [o0]; rfl)
    have p1 := part_kd (P := P) (w := w) (k := .i .i64) (xs := tE k) (o := f1.offset) (v := .int .i64 k.2) h1 (by rw [o1]; rfl)
    have c0 := MapKept.run_checkKey (w := w) (n := 9998) h0 (k := .string k.1) (by simp [MapKept.IsKey]) b
    have c1 := MapKept.run_checkKey (w := w) (n := 9998) h1 (k := .int .i64 k.2) (by simp [MapKept.IsKey]) b
    show (Instr.checkKey b (9999 + 1) kt (tkE k)).run P w = _
    unfold Instr.checkKey
    simp only [tkE, Sem.run_bind, run_underlying hu, Result.andThen_ok]
    simp [n0, n1, p0, p1, c0, c1]
  find k es M w he := by
    rw [run_findKey_eq w (by rw [hu])]
    refine findAsking_flat (fun a b => ?_) k es M 0 he
    rw [← valsEq_tE]
    exact hfl.eq w (tE a) (tE b) 9998 ⟨rfl, rfl, trivial⟩ ⟨rfl, rfl, trivial⟩
  bits k := by
    have e : (k.1 == k.1) = true := by
      show (k.1.data == k.1.data) = true
      simp
    simp [Instr.sameBits, tkE, tE, e]
  inj a b h := by
    simp [tkE, tE] at h
    exact Prod.ext h.1 h.2
end Go.Eng
