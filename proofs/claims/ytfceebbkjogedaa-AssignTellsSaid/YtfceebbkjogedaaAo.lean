/- Opening the arguments of the rows of layer 27. -/
import Derived.Test.YtfceebbkjogedaaAi
import Derived.Test.YtfceebbkjogedaaEr
import Derived.Test.YtfceebbkjogedaaRows
import Derived.OpenShut
import Derived.ChangeSame
import Derived.Deep.Strs
set_option maxRecDepth 100000
namespace Go.Proofs.Ytfceebbkjogedaa
open Go Go.Eng Go.ChangeShapes Go.WideShapes Go.ChangeAt Go.RowKit
theorem own_knob : ownKnob Try.prog.godebug = none := by kernel_rfl
theorem laid_out : laidOutB Try.prog = true := by kernel_rfl
theorem cells_int : Try.prog.cellsOf 3 = 1 := by kernel_rfl
theorem bytes_int : Try.prog.bytesOf 3 = 8 := by kernel_rfl
def wfI (n : Int) : Prop := -9223372036854775808 ≤ n ∧ n ≤ 9223372036854775807
theorem wf_u64 {n : Int} (h : (Lit.int .u64 n).wf = true) : 0 ≤ n ∧ n ≤ 18446744073709551615 := by
  simp only [Lit.wf, Bool.and_eq_true, decide_eq_true_eq] at h
  simpa [IntKind.min, IntKind.max, IntKind.signed, IntKind.bits] using h
section
variable {H : Type} {enc : TypeId × Value → H} {W : World}
theorem open_list_int {base : Nat} {v : Value} {d : DataW H} {ps : List MemPlace} (hval : Value.okWide Try.prog W .any base 26 v) (h : DataW.Trod enc Try.prog W 0 (fun _ => true) true 26 v d ps) :
    ∃ xs : List Int, Rd W.heap 1 iE v xs ∧ (∀ x ∈ xs, wfI x) ∧ ((d = .nil ∧ xs = []) ∨ ∃ es spr, d = .slice es spr ∧ es.length = xs.length) :=
  rd_open Try.underlying26 cells_int (fun _ => rfl) (fun n cs y hy => by
    obtain ⟨a, rfl, _, hw⟩ := DataW.trod_int Try.underlying3 hy
    exact ⟨a, rfl, wf_i64 hw⟩) hval h
theorem size_list_int {ts : List TypeId} {ds : List (DataW H)} {j : Nat} {d : DataW H} {xs : List Int} (h : (DataW.weightsEach Try.prog ts ds).all (· ≤ reachBytes) = true) (ht : ts[j]? = some 26) (hd : ds[j]? = some d) (hx : (d = .nil ∧ xs = []) ∨ ∃ es spr, d = .slice es spr ∧ es.length = xs.length) : xs.length * 8 ≤ 140737488351232 := by
  rcases hx with ⟨_, rfl⟩ | ⟨es, spr, rfl, hl⟩
  · simp
  · have := sized_slice h ht hd Try.underlying26
    rw [bytes_int, hl] at this
    unfold reachBytes at this
    omega
end
theorem cells_str : Try.prog.cellsOf 9 = 1 := by kernel_rfl
theorem bytes_str : Try.prog.bytesOf 9 = 16 := by kernel_rfl
section
variable {H : Type} {enc : TypeId × Value → H} {W : World}
theorem rd_openW {α : Type} {t e sz fuel : Nat} {enc' : α → List Value} {cs : List Value} {x : DataW H × List MemPlace} {wf : α → Prop} (ht : Try.prog.underlying t = some (.slice e)) (hc : Try.prog.cellsOf e = sz) (hpos : 0 < sz) (hsz : ∀ x, (enc' x).length = sz)
    (hel : ∀ n cs y, DataW.trod enc Try.prog W 0 (fun _ => true) true n e cs = some y → ∃ x, cs = enc' x ∧ wf x)
    (h : DataW.trod enc Try.prog W 0 (fun _ => true) true fuel t cs = some x) :
    ∃ (v : OV) (xs : List α), cs = [v.1] ∧ Rd W.heap sz enc' v.1 xs ∧ ∀ x ∈ xs, wf x := by
  rcases Deep.open_slice ht h with ⟨h1, h2⟩ | ⟨a, len, cap, m, n, D, Pl, h1, _, hlc, hmx, hm, hx, hcell⟩
  · exact ⟨⟨.slice none 0 0, rfl⟩, [], h1, Rd.nil _ _ _, by simp⟩
  · simp only [if_true] at hm
    subst hm
    by_cases hcap : m = 0
    · subst hcap
      obtain rfl : len = 0 := by omega
      exact ⟨⟨.slice (some a) 0 0, rfl⟩, [], h1, Rd.empty _ _ _ _, by simp⟩
    have hsp : a.spot = none := by
      obtain ⟨cs', g1, _⟩ := hcell 0 (by omega)
      obtain ⟨_, _, hg⟩ := World.cells?_some g1
      have := hg 0 (by rw [hc]; exact hpos)
      have e0 : (a.add (0 * Try.prog.cellsOf e)).add 0 = a := by simp [Addr.add]
      rw [e0] at this
      obtain ⟨v, hv⟩ : ∃ v, cs'[0]? = some v := by
        obtain ⟨_, hl, _⟩ := World.cells?_some g1
        exact ⟨cs'[0]'(by rw [hl, hc]; exact hpos), List.getElem?_eq_getElem _⟩
      rw [hv] at this
      exact World.cell?_spot this
    have key : ∀ i, i < len → ∃ x, (W.cells? 0 (a.add (i * Try.prog.cellsOf e)) (Try.prog.cellsOf e)) = some (enc' x) ∧ wf x := by
      intro i hi
      obtain ⟨cs', g1, g2⟩ := hcell i (by omega)
      obtain ⟨x, rfl, hw⟩ := hel _ _ _ g2
      exact ⟨x, g1, hw⟩
    have hxs : ∃ xs : List α, xs.length = len ∧ ∀ (i : Nat) x, xs[i]? = some x → (W.cells? 0 (a.add (i * Try.prog.cellsOf e)) (Try.prog.cellsOf e)) = some (enc' x) ∧ wf x := by
      clear hx hcell h1 hlc
      induction len with
      | zero => exact ⟨[], rfl, by simp⟩
      | succ k ih =>
        obtain ⟨xs, g1, g2⟩ := ih (fun i hi => key i (by omega))
        obtain ⟨x, g3⟩ := key k (by omega)
        refine ⟨xs ++ [x], by simp [g1], fun i y hy => ?_⟩
        by_cases hi : i < xs.length
        · rw [List.getElem?_append_left hi] at hy; exact g2 i y hy
        · have : i = k := by have := (List.getElem?_eq_some_iff.1 hy).1; simp at this; omega
          subst this
          rw [List.getElem?_append_right (by omega)] at hy
          simp [g1] at hy
          subst hy; exact g3
    obtain ⟨xs, hlen, hxs⟩ := hxs
    refine ⟨⟨.slice (some a) len m, rfl⟩, xs, h1, ⟨.inr ⟨a.block, a.off, m, ?_, by omega⟩, by unfold maxLen at hmx; omega, fun x _ => hsz x, ?_⟩, ?_⟩
    · rw [hlen]
      have : a = ⟨a.block, a.off, none⟩ := by cases a; simp at hsp; simp [hsp]
      rw [← this]
    · intro i x hi j u hu
      obtain ⟨_, hl', hg⟩ := World.cells?_some (hxs i x hi).1
      have hj : j < Try.prog.cellsOf e := by have := (List.getElem?_eq_some_iff.1 hu).1; rw [hsz] at this; omega
      have := hg j hj
      rw [hu, add_at hsp, hc] at this
      have e2 : (Addr.add ⟨a.block, a.off + i * sz, none⟩ j) = ⟨a.block, a.off + i * sz + j, none⟩ := add_at rfl j
      rw [e2] at this
      exact Cell.of_get this
    · intro x hx'
      obtain ⟨i, hi, rfl⟩ := List.getElem_of_mem hx'
      exact (hxs i _ (List.getElem?_eq_getElem hi)).2
theorem trod_strs {fuel : Nat} {cs : List Value} {x : DataW H × List MemPlace} (h : DataW.trod enc Try.prog W 0 (fun _ => true) true fuel 57 cs = some x) :
    ∃ (v : OV) (xs : List ByteArray), cs = [v.1] ∧ Rd W.heap 1 sE v.1 xs ∧ ∀ x ∈ xs, x.size ≤ 9223372036854775807 :=
  rd_openW Try.underlying57 cells_str (by decide) (fun _ => rfl) (fun n cs y hy => by
    obtain ⟨a, rfl, _, hw⟩ := DataW.trod_string Try.underlying9 hy
    exact ⟨a, rfl, by unfold maxLen at hw; exact hw⟩) h
end
theorem cells_top : Try.prog.cellsOf 91 = 2 := by kernel_rfl
theorem cells_sub : Try.prog.cellsOf 84 = 2 := by kernel_rfl
theorem cells_strs : Try.prog.cellsOf 57 = 1 := by kernel_rfl
section
variable {H : Type} {enc : TypeId × Value → H} {W : World}
theorem open_topics {base : Nat} {v : Value} {d : DataW H} {ps : List MemPlace} (hval : Value.okWide Try.prog W .any base 67 v) (h : DataW.Trod enc Try.prog W 0 (fun _ => true) true 67 v d ps) :
    ∃ xs : List (ByteArray × Int), Rd W.heap 2 tE v xs ∧ (∀ x ∈ xs, x.1.size ≤ 9223372036854775807 ∧ wfI x.2) ∧ ((d = .nil ∧ xs = []) ∨ ∃ es spr, d = .slice es spr ∧ es.length = xs.length) :=
  rd_open Try.underlying67 cells_top (fun _ => rfl) (fun n cs y hy => by
    obtain ⟨y0, y1, m, _, hl, g0, g1⟩ := trod_struct2 Try.underlying91 hy
    rw [cells_top] at hl
    match cs, hl with
    | [c0, c1], _ =>
      rw [cells_str] at g0
      rw [cells_int] at g1
      obtain ⟨a, h0, _, w0⟩ := DataW.trod_string Try.underlying9 g0
      obtain ⟨b, h1, _, w1⟩ := DataW.trod_int Try.underlying3 g1
      simp at h0 h1
      subst h0; subst h1
      exact ⟨(a, b), rfl, by unfold maxLen at w0; exact w0, wf_i64 w1⟩) hval h
theorem open_subs {base : Nat} {v : Value} {d : DataW H} {ps : List MemPlace} (hval : Value.okWide Try.prog W .any base 68 v) (h : DataW.Trod enc Try.prog W 0 (fun _ => true) true 68 v d ps) :
    ∃ xs : List (ByteArray × OV × List ByteArray), Subs W.heap v xs ∧ ((d = .nil ∧ xs = []) ∨ ∃ es spr, d = .slice es spr ∧ es.length = xs.length) := by
  obtain ⟨xs, h1, h2, h3⟩ := rd_open (enc' := nE) (wf := fun (x : ByteArray × OV × List ByteArray) => Rd W.heap 1 sE x.2.1.1 x.2.2 ∧ x.1.size ≤ 9223372036854775807 ∧ ∀ s ∈ x.2.2, s.size ≤ 9223372036854775807) Try.underlying68 cells_sub (fun _ => rfl) (fun n cs y hy => by
    obtain ⟨y0, y1, m, _, hl, g0, g1⟩ := trod_struct2 Try.underlying84 hy
    rw [cells_sub] at hl
    match cs, hl with
    | [c0, c1], _ =>
      rw [cells_str] at g0
      rw [cells_strs] at g1
      obtain ⟨a, h0, _, w0⟩ := DataW.trod_string Try.underlying9 g0
      obtain ⟨b, l, h1, hr, w1⟩ := trod_strs g1
      simp at h0 h1
      subst h0; subst h1
      exact ⟨(a, b, l), rfl, hr, by unfold maxLen at w0; exact w0, w1⟩) hval h
  exact ⟨xs, ⟨h1, fun x hx => (h2 x hx).1, fun x hx => (h2 x hx).2⟩, h3⟩
end
end Go.Proofs.Ytfceebbkjogedaa
