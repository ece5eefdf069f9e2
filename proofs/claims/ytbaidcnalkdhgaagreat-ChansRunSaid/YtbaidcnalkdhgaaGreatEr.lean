/-
  The engine's way into a row: a law that returns true and writes to nothing old.
-/
import Derived.Test.YtbaidcnalkdhgaaGreatEk
import Derived.ProofKit
import Derived.SizedLaws
import Derived.Deep.Slices
namespace Go.Eng
open Go Go.ChangeShapes Go.WideShapes Go.ChangeAt Go.RowKit Go.WideElems

section
variable {H : Type} {enc : TypeId × Value → H} {P : Program}
theorem trodAll_keep {W W' : World} {sp' : Nat → Bool} (hl : laidOutB P = true) : ∀ {ts : List TypeId} {vs : List Value} {ds : List (DataW H)} {ps : List MemPlace}, (∀ t ∈ ts, P.readableRec t = true ∧ t < P.types.size) →
    DataW.TrodAll enc P W 0 (fun _ => true) true ts vs ds ps → (∀ p ∈ ps, W.sameAt W' p) → (∀ p ∈ ps, sp' p.block = true) → DataW.TrodAll enc P W' 0 sp' true ts vs ds ps := by
  intro ts
  induction ts with
  | nil => intro vs ds ps _ h _ _; obtain ⟨rfl, rfl, rfl⟩ := trodAll_nil h; exact rfl
  | cons t ts ih =>
    intro vs ds ps ht h hs hp
    obtain ⟨v, vs', d, ds', p, q, rfl, rfl, rfl, h1, h2⟩ := trodAll_cons h
    have ht0 := ht t (by simp)
    exact ⟨p, q, Trod_stays hl ht0.1 ht0.2 h1 (fun x hx => hs x (by simp [hx])) (fun x hx => hp x (by simp [hx])),
      ih (fun t' h' => ht t' (by simp [h'])) h2 (fun x hx => hs x (by simp [hx])) (fun x hx => hp x (by simp [hx])), rfl⟩
end

def trueSpec (s : ChangeSpec) (n : Nat) : Prop := s.vars = [] ∧ ∀ (H : Type) (ds : List (DataW H)), ds.length = n → s.fn H ds = { results := [.lit (.bool true)], args := ds, vars := [] }

theorem trodAll_length {H : Type} {enc : TypeId × Value → H} {P : Program} {W : World} {base : Nat} {sp : Nat → Bool} {hd : Bool} : ∀ {ts : List TypeId} {vs : List Value} {ds : List (DataW H)} {ps : List MemPlace}, DataW.TrodAll enc P W base sp hd ts vs ds ps → ds.length = ts.length := by
  intro ts
  induction ts with
  | nil => intro vs ds ps h; obtain ⟨_, rfl, _⟩ := trodAll_nil h; rfl
  | cons t ts ih =>
    intro vs ds ps h
    obtain ⟨v, vs', d, ds', p, q, rfl, rfl, rfl, h1, h2⟩ := trodAll_cons h
    simp [ih h2]

theorem lift_law {C : Checked} {os : Os} {H : Type} {enc : TypeId × Value → H} {f : FuncId} {fn : Func} {s : ChangeSpec} {tb : TypeId}
    (started : os.Started) (hown : ownKnob C.prog.godebug = none) (hni : C.prog.inits.idxOf? f = none) (hfn : C.prog.funcs[f]? = some fn)
    (hl : laidOutB C.prog = true) (hts : fn.params.toList.all (fun t => C.prog.readableRec t && decide (t < C.prog.types.size)) = true) (hres : fn.resultTypes = #[tb]) (htb : C.prog.underlying tb = some .bool)
    (hs : trueSpec s fn.params.toList.length)
    (witness : ∃ (w : World) (tape : Tape) (i : Input), w.os = os ∧ (w.forCall tape i).Shaped C.prog ∧ i.vars = [] ∧ Input.okWide C.prog (w.forCall tape i) .any w.heap.size f i ∧
      s.pre6 enc C.prog fn [] false (w.forCall tape i).memory i.args ∧ ({} : Assume).holds C.prog (lone (Frame.enter C.prog f i.args .normal) [] (w.forCall tape i)))
    (walk : ∀ (W : World) (base : Nat) (args : Array Value) (ds : List (DataW H)) (ps : List MemPlace),
      (∀ (j : Nat) t v, fn.params[j]? = some t → args[j]? = some v → Value.okWide C.prog W .any base t v) →
      DataW.TrodAll enc C.prog W 0 (fun _ => true) true fn.params.toList args.toList ds ps →
      (DataW.weightsEach C.prog fn.params.toList ds).all (· ≤ reachBytes) = true →
      Rets C.prog f args W fun u W' => u = .bool true ∧ Fr No W W') :
    ReturnsInHanded {} C os f .any (s.pre6 enc C.prog fn [] false) (s.post enc C.prog fn false true false false) := by
  refine returnsInHanded_of_change_sized hown started hni hfn witness ?_
  intro W base args ds gs before hval hW hcnd hsz _
  have hW' := hW
  obtain ⟨p, q, hA, hV, rfl, hfz, hnd⟩ := hW
  rw [hs.1] at hV
  obtain ⟨rfl, rfl⟩ := trodVars_none hV
  have hvt : s.plain.varTypes C.prog = [] := by simp [ChangeSpec.plain, DataSpec.varTypes, hs.1]
  rw [hvt] at hsz
  simp only [List.append_nil] at hsz hW'
  refine Calls.mono (walk W base args ds p hval hA hsz) fun e W' ⟨u, he, hu, hfr⟩ => ?_
  subst hu
  refine ⟨_, he, ?_⟩
  have hb : Below W.heap.size W W' := hfr.below (Nat.le_refl _) (fun k h => h.elim)
  have hlt : ∀ x ∈ p, x.block < W.heap.size := fun x hx => DataW.TrodAll.lt hA x hx
  have hfnl := hs.2 H ds (trodAll_length hA)
  refine ⟨ds, [], p, [], p, [], hW', ?_, ?_, ?_, hb.frame _, fun h => by cases h⟩
  · rw [List.append_nil, hfnl, hres]
    exact trodAll_mk1 (shut_bool htb true)
  · rw [List.append_nil, hfnl]
    refine trodAll_keep hl (fun t ht => ?_) hA (fun x hx => hb.same (hlt x hx)) (fun x hx => by simpa using hlt x hx)
    have := List.all_eq_true.1 hts t ht
    simpa using this
  · rw [List.append_nil, hfnl, hs.1]
    exact rfl

/-! ### opening slices -/
section
variable {H : Type} {enc : TypeId × Value → H} {P : Program} {W : World}
theorem add_at {a : Addr} (hs : a.spot = none) (n : Nat) : a.add n = ⟨a.block, a.off + n, none⟩ := by
  unfold Addr.add
  split
  · subst_vars; cases a; simp at hs; simp [hs]
  · rfl
theorem rd_open {α : Type} {t e sz base : Nat} {enc' : α → List Value} {v : Value} {d : DataW H} {ps : List MemPlace} {wf : α → Prop} (ht : P.underlying t = some (.slice e)) (hc : P.cellsOf e = sz) (hsz : ∀ x, (enc' x).length = sz)
    (hel : ∀ n cs y, DataW.trod enc P W 0 (fun _ => true) true n e cs = some y → ∃ x, cs = enc' x ∧ wf x)
    (hval : Value.okWide P W .any base t v) (h : DataW.Trod enc P W 0 (fun _ => true) true t v d ps) :
    ∃ xs : List α, Rd W.heap sz enc' v xs ∧ (∀ x ∈ xs, wf x) ∧ ((d = .nil ∧ xs = []) ∨ ∃ es spr, d = .slice es spr ∧ es.length = xs.length) := by
  obtain ⟨a0, len0, cap0, rfl⟩ := okWide_slice ht hval
  obtain ⟨fuel, hf⟩ := h
  rcases Deep.open_slice ht hf with ⟨h1, h2⟩ | ⟨a, len, cap, m, n, D, Pl, h1, _, hlc, hmx, hm, hx, hcell⟩
  · simp [Value.cells] at h1
    obtain ⟨rfl, rfl, rfl⟩ := h1
    simp only [Prod.mk.injEq] at h2
    exact ⟨[], Rd.nil _ _ _, by simp, .inl ⟨h2.1, rfl⟩⟩
  · simp [Value.cells] at h1
    obtain ⟨rfl, rfl, rfl⟩ := h1
    simp only [if_true] at hm
    subst hm
    have hsp : a.spot = none := by
      simp only [Value.okWide, ht, Cell.okWide, Cell.ok] at hval
      exact hval.2.2.2.1
    simp only [Prod.mk.injEq] at hx
    have key : ∀ i, i < len0 → ∃ x, (W.cells? 0 (a.add (i * P.cellsOf e)) (P.cellsOf e)) = some (enc' x) ∧ wf x := by
      intro i hi
      obtain ⟨cs', g1, g2⟩ := hcell i (by omega)
      obtain ⟨x, rfl, hw⟩ := hel _ _ _ g2
      exact ⟨x, g1, hw⟩
    have hxs : ∃ xs : List α, xs.length = len0 ∧ ∀ i x, xs[i]? = some x → (W.cells? 0 (a.add (i * P.cellsOf e)) (P.cellsOf e)) = some (enc' x) ∧ wf x := by
      clear hx hcell hval hf hlc
      induction len0 with
      | zero => exact ⟨[], rfl, by simp⟩
      | succ k ih =>
        obtain ⟨xs, g1, g2⟩ := ih (fun i hi => key i (by omega))
        obtain ⟨x, g3⟩ := key k (by omega)
        refine ⟨xs ++ [x], by simp [g1], fun i y hy => ?_⟩
        by_cases hi : i < xs.length
        · rw [List.getElem?_append_left hi] at hy; exact g2 i y hy
        · have : i = k := by have := (List.getElem?_eq_some_iff.1 hy).1; simp at this; omega
          subst this
          rw [List.getElem?_append_right (by omega)] at hy
          simp [g1] at hy
          subst hy; exact g3
    obtain ⟨xs, hlen, hxs⟩ := hxs
    refine ⟨xs, ⟨.inr ⟨a.block, a.off, m, ?_, by omega⟩, by unfold maxLen at hmx; omega, fun x _ => hsz x, ?_⟩, ?_, .inr ⟨_, _, hx.1, by simp [hlen]⟩⟩
    · rw [hlen]
      have : a = ⟨a.block, a.off, none⟩ := by cases a; simp at hsp; simp [hsp]
      rw [← this]
    · intro i x hi j u hu
      obtain ⟨_, hl', hg⟩ := World.cells?_some (hxs i x hi).1
      have hj : j < P.cellsOf e := by have := (List.getElem?_eq_some_iff.1 hu).1; rw [hsz] at this; omega
      have := hg j hj
      rw [hu, add_at hsp, hc] at this
      have e2 : (Addr.add ⟨a.block, a.off + i * sz, none⟩ j) = ⟨a.block, a.off + i * sz + j, none⟩ := add_at rfl j
      rw [e2] at this
      exact Cell.of_get this
    · intro x hx'
      obtain ⟨i, hi, rfl⟩ := List.getElem_of_mem hx'
      exact (hxs i _ (List.getElem?_eq_getElem hi)).2
end
theorem wf_i64 {n : Int} (h : (Lit.int .i64 n).wf = true) : -9223372036854775808 ≤ n ∧ n ≤ 9223372036854775807 := by
  simp only [Lit.wf, Bool.and_eq_true, decide_eq_true_eq] at h
  simpa [IntKind.min, IntKind.max, IntKind.signed, IntKind.bits] using h
end Go.Eng
