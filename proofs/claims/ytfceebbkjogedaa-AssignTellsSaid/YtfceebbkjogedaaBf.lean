/- Layer 27: opening the members, with the sizes of the inner lists. -/
import Derived.Test.YtfceebbkjogedaaAo
import Derived.Test.YtfceebbkjogedaaEr
import Derived.Test.YtfceebbkjogedaaRows
import Derived.OpenShut
import Derived.ChangeSame
import Derived.Deep.Strs
set_option maxRecDepth 100000
namespace Go.Proofs.Ytfceebbkjogedaa
open Go Go.Eng Go.ChangeShapes Go.WideShapes Go.ChangeAt Go.RowKit
theorem mem_weightsAll {H : Type} {P : Program} {e : TypeId} : ∀ {l : List (DataW H)} {d : DataW H} {k : Nat}, d ∈ l → k ∈ d.weights P e → k ∈ DataW.weightsAll P e l
  | d0 :: l, d, k, hd, hk => by
    simp only [DataW.weightsAll, List.mem_append]
    rcases List.mem_cons.1 hd with rfl | h
    · exact .inl hk
    · exact .inr (mem_weightsAll h hk)
section
variable {H : Type} {enc : TypeId × Value → H} {W : World}
theorem rd_openD {α : Type} {t e sz fuel : Nat} {enc' : α → List Value} {cs : List Value} {x : DataW H × List MemPlace} {wf : α → Prop} (ht : Try.prog.underlying t = some (.slice e)) (hc : Try.prog.cellsOf e = sz) (hpos : 0 < sz) (hsz : ∀ x, (enc' x).length = sz)
    (hel : ∀ n cs y, DataW.trod enc Try.prog W 0 (fun _ => true) true n e cs = some y → (∀ k ∈ y.1.weights Try.prog e, k ≤ reachBytes) → ∃ x, cs = enc' x ∧ wf x)
    (h : DataW.trod enc Try.prog W 0 (fun _ => true) true fuel t cs = some x) (hwt : ∀ k ∈ x.1.weights Try.prog t, k ≤ reachBytes) :
    ∃ (v : OV) (xs : List α), cs = [v.1] ∧ Rd W.heap sz enc' v.1 xs ∧ (∀ x ∈ xs, wf x) ∧ xs.length * Try.prog.bytesOf e ≤ reachBytes := by
  rcases Deep.open_slice ht h with ⟨h1, h2⟩ | ⟨a, len, cap, m, n, D, Pl, h1, _, hlc, hmx, hm, hx, hcell⟩
  · exact ⟨⟨.slice none 0 0, rfl⟩, [], h1, Rd.nil _ _ _, by simp, by simp⟩
  · simp only [if_true] at hm
    subst hm
    by_cases hcap : m = 0
    · subst hcap
      obtain rfl : len = 0 := by omega
      exact ⟨⟨.slice (some a) 0 0, rfl⟩, [], h1, Rd.empty _ _ _ _, by simp, by simp⟩
    have hsp : a.spot = none := by
      obtain ⟨cs', g1, _⟩ := hcell 0 (by omega)
      obtain ⟨_, _, hg⟩ := World.cells?_some g1
      have := hg 0 (by rw [hc]; exact hpos)
      have e0 : (a.add (0 * Try.prog.cellsOf e)).add 0 = a := by simp [Addr.add]
      rw [e0] at this
      obtain ⟨v, hv⟩ : ∃ v, cs'[0]? = some v := by
        obtain ⟨_, hl, _⟩ := World.cells?_some g1
        exact ⟨cs'[0]'(by rw [hl, hc]; exact hpos), List.getElem?_eq_getElem _⟩
      rw [hv] at this
      exact World.cell?_spot this
    subst hx
    have hwt' : (len + (m - len)) * Try.prog.bytesOf e ≤ reachBytes ∧ ∀ i, i < len → ∀ k ∈ (D i).weights Try.prog e, k ≤ reachBytes := by
      simp only [DataW.weights, ht] at hwt
      refine ⟨?_, fun i hi k hk => hwt k ?_⟩
      · have := hwt _ (List.mem_cons_self ..)
        simpa using this
      · refine List.mem_cons_of_mem _ (List.mem_append_left _ ?_)
        exact mem_weightsAll (List.mem_map.2 ⟨i, by simpa using hi, rfl⟩) hk
    obtain ⟨hbig, hwe⟩ := hwt'
    have key : ∀ i, i < len → ∃ x, (W.cells? 0 (a.add (i * Try.prog.cellsOf e)) (Try.prog.cellsOf e)) = some (enc' x) ∧ wf x := by
      intro i hi
      obtain ⟨cs', g1, g2⟩ := hcell i (by omega)
      obtain ⟨x, rfl, hw⟩ := hel _ _ _ g2 (fun k hk => hwe i hi k hk)
      exact ⟨x, g1, hw⟩
    have hxs : ∃ xs : List α, xs.length = len ∧ ∀ (i : Nat) x, xs[i]? = some x → (W.cells? 0 (a.add (i * Try.prog.cellsOf e)) (Try.prog.cellsOf e)) = some (enc' x) ∧ wf x := by
      clear hcell h1 hlc hbig hwt hwe h
      induction len with
      | zero => exact ⟨[], rfl, by simp⟩
      | succ k ih =>
        obtain ⟨xs, g1, g2⟩ := ih (fun i hi => key i (by omega))
        obtain ⟨x, g3⟩ := key k (by omega)
        refine ⟨xs ++ [x], by simp [g1], fun i y hy => ?_⟩
        by_cases hi : i < xs.length
        · rw [List.getElem?_append_left hi] at hy; exact g2 i y hy
        · have : i = k := by have := (List.getElem?_eq_some_iff.1 hy).1; simp at this; omega
          subst this
          rw [List.getElem?_append_right (by omega)] at hy
          simp [g1] at hy
          subst hy; exact g3
    obtain ⟨xs, hlen, hxs⟩ := hxs
    refine ⟨⟨.slice (some a) len m, rfl⟩, xs, h1, ⟨.inr ⟨a.block, a.off, m, ?_, by omega⟩, by unfold maxLen at hmx; omega, fun x _ => hsz x, ?_⟩, ?_, by rw [hlen]; exact Nat.le_trans (Nat.mul_le_mul_right _ (Nat.le_add_right _ _)) hbig⟩
    · rw [hlen]
      have : a = ⟨a.block, a.off, none⟩ := by cases a; simp at hsp; simp [hsp]
      rw [← this]
    · intro i x hi j u hu
      obtain ⟨_, hl', hg⟩ := World.cells?_some (hxs i x hi).1
      have hj : j < Try.prog.cellsOf e := by have := (List.getElem?_eq_some_iff.1 hu).1; rw [hsz] at this; omega
      have := hg j hj
      rw [hu, add_at hsp, hc] at this
      have e2 : (Addr.add ⟨a.block, a.off + i * sz, none⟩ j) = ⟨a.block, a.off + i * sz + j, none⟩ := add_at rfl j
      rw [e2] at this
      exact Cell.of_get this
    · intro x hx'
      obtain ⟨i, hi, rfl⟩ := List.getElem_of_mem hx'
      exact (hxs i _ (List.getElem?_eq_getElem hi)).2
theorem trod_strsD {fuel : Nat} {cs : List Value} {x : DataW H × List MemPlace} (h : DataW.trod enc Try.prog W 0 (fun _ => true) true fuel 57 cs = some x) (hwt : ∀ k ∈ x.1.weights Try.prog 57, k ≤ reachBytes) :
    ∃ (v : OV) (xs : List ByteArray), cs = [v.1] ∧ Rd W.heap 1 sE v.1 xs ∧ (∀ x ∈ xs, x.size ≤ 9223372036854775807) ∧ xs.length * 16 ≤ 140737488355328 := by
  obtain ⟨v, xs, h1, h2, h3, h4⟩ := rd_openD Try.underlying57 cells_str (by decide) (fun _ => rfl) (wf := fun (x : ByteArray) => x.size ≤ 9223372036854775807) (enc' := sE) (fun n cs y hy _ => by
    obtain ⟨a, rfl, _, hw⟩ := DataW.trod_string Try.underlying9 hy
    exact ⟨a, rfl, by unfold maxLen at hw; exact hw⟩) h hwt
  rw [bytes_str] at h4
  exact ⟨v, xs, h1, h2, h3, by unfold reachBytes at h4; omega⟩
theorem open_subsD {base : Nat} {v : Value} {d : DataW H} {ps : List MemPlace} (hval : Value.okWide Try.prog W .any base 68 v) (h : DataW.Trod enc Try.prog W 0 (fun _ => true) true 68 v d ps) (hwt : ∀ k ∈ d.weights Try.prog 68, k ≤ reachBytes) :
    ∃ xs : List (ByteArray × OV × List ByteArray), Subs W.heap v xs ∧ ∀ x ∈ xs, x.2.2.length * 16 ≤ 140737488355328 := by
  obtain ⟨a0, len0, cap0, rfl⟩ := okWide_slice Try.underlying68 hval
  obtain ⟨fuel, hf⟩ := h
  obtain ⟨v, xs, h1, h2, h3, _⟩ := rd_openD (enc' := nE) (wf := fun (x : ByteArray × OV × List ByteArray) => Rd W.heap 1 sE x.2.1.1 x.2.2 ∧ x.1.size ≤ 9223372036854775807 ∧ (∀ s ∈ x.2.2, s.size ≤ 9223372036854775807) ∧ x.2.2.length * 16 ≤ 140737488355328) Try.underlying68 cells_sub (by decide) (fun _ => rfl) (fun n cs y hy hk => by
    obtain ⟨y0, y1, m, hy', hl, g0, g1⟩ := trod_struct2 Try.underlying84 hy
    subst hy'
    rw [cells_sub] at hl
    match cs, hl with
    | [c0, c1], _ =>
      rw [cells_str] at g0
      rw [cells_strs] at g1
      obtain ⟨a, h0, _, w0⟩ := DataW.trod_string Try.underlying9 g0
      obtain ⟨b, l, h1, hr, w1, w2⟩ := trod_strsD g1 (fun k hk' => hk k (by
        simp only [DataW.weights, Try.underlying84]
        exact DataW.weights_mem_each (j := 1) rfl rfl k hk'))
      simp at h0 h1
      subst h0; subst h1
      exact ⟨(a, b, l), rfl, hr, by unfold maxLen at w0; exact w0, w1, w2⟩) hf hwt
  simp [Value.cells] at h1
  rw [h1]
  exact ⟨xs, ⟨h2, fun x hx => (h3 x hx).1, fun x hx => ⟨(h3 x hx).2.1, (h3 x hx).2.2.1⟩⟩, fun x hx => (h3 x hx).2.2.2⟩
end
end Go.Proofs.Ytfceebbkjogedaa
