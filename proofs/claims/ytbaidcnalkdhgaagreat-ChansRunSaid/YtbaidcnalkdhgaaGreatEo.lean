/-
  The engine's way into a row, further: slices within slices.
-/
import Derived.Test.YtbaidcnalkdhgaaGreatEr
import Derived.Deep.Strs
namespace Go.Eng
open Go Go.ChangeShapes Go.WideShapes Go.ChangeAt Go.RowKit Go.WideElems
abbrev OVo := {v : Value // v.oneCell' = true}
section
variable {H : Type} {enc : TypeId × Value → H} {P : Program} {W : World}
theorem rd_openW {α : Type} {t e sz fuel : Nat} {enc' : α → List Value} {cs : List Value} {x : DataW H × List MemPlace} {wf : α → Prop} (ht : P.underlying t = some (.slice e)) (hc : P.cellsOf e = sz) (hpos : 0 < sz) (hsz : ∀ x, (enc' x).length = sz)
    (hel : ∀ n cs y, DataW.trod enc P W 0 (fun _ => true) true n e cs = some y → ∃ x, cs = enc' x ∧ wf x)
    (h : DataW.trod enc P W 0 (fun _ => true) true fuel t cs = some x) :
    ∃ (v : OVo) (xs : List α), cs = [v.1] ∧ Rd W.heap sz enc' v.1 xs ∧ ∀ x ∈ xs, wf x := by
  rcases Deep.open_slice ht h with ⟨h1, h2⟩ | ⟨a, len, cap, m, n, D, Pl, h1, _, hlc, hmx, hm, hx, hcell⟩
  · exact ⟨⟨.slice none 0 0, rfl⟩, [], h1, Rd.nil _ _ _, by simp⟩
  · simp only [if_true] at hm
    subst hm
    by_cases hcap : m = 0
    · subst hcap
      obtain rfl : len = 0 := by omega
      exact ⟨⟨.slice (some a) 0 0, rfl⟩, [], h1, Rd.empty _ _ _ _, by simp⟩
    have hsp : a.spot = none := by
      obtain ⟨cs', g1, _⟩ := hcell 0 (by omega)
      obtain ⟨_, _, hg⟩ := World.cells?_some g1
      have := hg 0 (by rw [hc]; exact hpos)
      have e0 : (a.add (0 * P.cellsOf e)).add 0 = a := by simp [Addr.add]
      rw [e0] at this
      obtain ⟨v, hv⟩ : ∃ v, cs'[0]? = some v := by
        obtain ⟨_, hl, _⟩ := World.cells?_some g1
        exact ⟨cs'[0]'(by rw [hl, hc]; exact hpos), List.getElem?_eq_getElem _⟩
      rw [hv] at this
      exact World.cell?_spot this
    have key : ∀ i, i < len → ∃ x, (W.cells? 0 (a.add (i * P.cellsOf e)) (P.cellsOf e)) = some (enc' x) ∧ wf x := by
      intro i hi
      obtain ⟨cs', g1, g2⟩ := hcell i (by omega)
      obtain ⟨x, rfl, hw⟩ := hel _ _ _ g2
      exact ⟨x, g1, hw⟩
    have hxs : ∃ xs : List α, xs.length = len ∧ ∀ (i : Nat) x, xs[i]? = some x → (W.cells? 0 (a.add (i * P.cellsOf e)) (P.cellsOf e)) = some (enc' x) ∧ wf x := by
      clear hx hcell h1 hlc
      induction len with
      | zero => exact ⟨[], rfl, by simp⟩
      | succ k ih =>
        obtain ⟨xs, g1, g2⟩ := ih (fun i hi => key i (by omega))
        obtain ⟨x, g3⟩ := key k (by omega)
        refine ⟨xs ++ [x], by simp [g1], fun i y hy => ?_⟩
        by_cases hi : i < xs.length
        · rw [List.getElem?_append_left hi] at hy; exact g2 i y hy
        · have : i = k := by have := (List.getElem?_eq_some_iff.1 hy).1; simp at this; omega
          subst this
          rw [List.getElem?_append_right (by omega)] at hy
          simp [g1] at hy
          subst hy; exact g3
    obtain ⟨xs, hlen, hxs⟩ := hxs
    refine ⟨⟨.slice (some a) len m, rfl⟩, xs, h1, ⟨.inr ⟨a.block, a.off, m, ?_, by omega⟩, by unfold maxLen at hmx; omega, fun x _ => hsz x, ?_⟩, ?_⟩
    · rw [hlen]
      have : a = ⟨a.block, a.off, none⟩ := by cases a; simp at hsp; simp [hsp]
      rw [← this]
    · intro i x hi j u hu
      obtain ⟨_, hl', hg⟩ := World.cells?_some (hxs i x hi).1
      have hj : j < P.cellsOf e := by have := (List.getElem?_eq_some_iff.1 hu).1; rw [hsz] at this; omega
      have := hg j hj
      rw [hu, add_at hsp, hc] at this
      have e2 : (Addr.add ⟨a.block, a.off + i * sz, none⟩ j) = ⟨a.block, a.off + i * sz + j, none⟩ := add_at rfl j
      rw [e2] at this
      exact Cell.of_get this
    · intro x hx'
      obtain ⟨i, hi, rfl⟩ := List.getElem_of_mem hx'
      exact (hxs i _ (List.getElem?_eq_getElem hi)).2
end
theorem wf_u64 {n : Int} (h : (Lit.int .u64 n).wf = true) : 0 ≤ n ∧ n ≤ 18446744073709551615 := by
  simp only [Lit.wf, Bool.and_eq_true, decide_eq_true_eq] at h
  simpa [IntKind.min, IntKind.max, IntKind.signed, IntKind.bits] using h
end Go.Eng
