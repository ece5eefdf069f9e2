/- Opening the arguments of the rows of layer 25. -/
import Derived.Test.YtffgecomdlnngaaX3
import Derived.Test.YtffgecomdlnngaaEo
import Derived.Test.YtffgecomdlnngaaRows
import Derived.OpenShut
import Derived.ChangeSame
import Derived.Deep.Strs
import Derived.Lib.SmallJoins
set_option maxRecDepth 100000
namespace Go.Proofs.Ytffgecomdlnngaa
open Go Go.Eng Go.ChangeShapes Go.WideShapes Go.ChangeAt Go.RowKit
theorem own_knob : ownKnob Try.prog.godebug = none := by kernel_rfl
theorem laid_out : laidOutB Try.prog = true := by kernel_rfl
theorem cells_int : Try.prog.cellsOf 3 = 1 := by kernel_rfl
theorem cells_i64 : Try.prog.cellsOf 2 = 1 := by kernel_rfl
theorem cells_by : Try.prog.cellsOf 54 = 1 := by kernel_rfl
theorem cells_bys : Try.prog.cellsOf 31 = 1 := by kernel_rfl
theorem cells_u8 : Try.prog.cellsOf 5 = 1 := by kernel_rfl
theorem cells_rc : Try.prog.cellsOf 61 = 3 := by kernel_rfl
theorem cells_rcs : Try.prog.cellsOf 57 = 1 := by kernel_rfl
theorem cells_pr : Try.prog.cellsOf 59 = 4 := by kernel_rfl
theorem cells_bt : Try.prog.cellsOf 33 = 4 := by kernel_rfl
theorem cells_pair : Try.prog.cellsOf 52 = 8 := by kernel_rfl
section
variable {H : Type} {enc : TypeId × Value → H} {W : World}
theorem open_producers {base : Nat} {v : Value} {d : DataW H} {ps : List MemPlace} (hval : Value.okWide Try.prog W .any base 23 v) (h : DataW.Trod enc Try.prog W 0 (fun _ => true) true 23 v d ps) :
    ∃ l : List PR, Rd W.heap 4 prE v l ∧ RcIn W.heap l := by
  obtain ⟨a0, len0, cap0, rfl⟩ := okWide_slice Try.underlying23 hval
  obtain ⟨fuel, hf⟩ := h
  obtain ⟨v, l, h1, h2, h3⟩ := Go.Eng.rd_openW (enc' := prE) (wf := fun (p : PR) => Rd W.heap 3 rcE p.rv.1 p.rs) Try.underlying23 cells_pr (by decide) (fun _ => rfl) (fun n cs y hy => by
    obtain ⟨y0, y1, y2, y3, m, _, hl, g0, g1, g2, g3⟩ := Go.Joins.trod_struct4 Try.underlying59 hy
    rw [cells_pr] at hl
    match cs, hl with
    | [c0, c1, c2, c3], _ =>
      rw [cells_i64] at g0 g2
      rw [cells_int] at g1
      rw [cells_rcs] at g3
      obtain ⟨a, h0, _, w0⟩ := DataW.trod_int Try.underlying2 g0
      obtain ⟨b, h1, _, w1⟩ := DataW.trod_int Try.underlying3 g1
      obtain ⟨c, h2, _, w2⟩ := DataW.trod_int Try.underlying2 g2
      obtain ⟨u, rs, h3, hr, _⟩ := Go.Eng.rd_openW (enc' := rcE) (wf := fun _ => True) Try.underlying57 cells_rc (by decide) (fun _ => rfl) (fun n cs y hy => by
        obtain ⟨y0, y1, y2, m, _, hl, g0, g1, g2⟩ := Deep.trod_struct3 Try.underlying61 hy
        rw [cells_rc] at hl
        match cs, hl with
        | [c0, c1, c2], _ =>
          rw [cells_i64] at g0 g2
          rw [cells_int] at g1
          obtain ⟨a, h0, _, w0⟩ := DataW.trod_int Try.underlying2 g0
          obtain ⟨b, h1, _, w1⟩ := DataW.trod_int Try.underlying3 g1
          obtain ⟨c, h2, _, w2⟩ := DataW.trod_int Try.underlying2 g2
          simp at h0 h1 h2
          subst h0; subst h1; subst h2
          exact ⟨(a, b, c), rfl, trivial⟩) g3
      simp at h0 h1 h2 h3
      subst h0; subst h1; subst h2; subst h3
      exact ⟨⟨a, b, c, u, rs⟩, rfl, hr⟩) hf
  simp [Value.cells] at h1
  rw [h1]
  exact ⟨l, h2, h3⟩
theorem open_bytes {fuel : Nat} {cs : List Value} {x : DataW H × List MemPlace} (h : DataW.trod enc Try.prog W 0 (fun _ => true) true fuel 31 cs = some x) :
    ∃ (v : OV) (ys : List (OV × Nat)), cs = [v.1] ∧ Rd W.heap 1 byE v.1 ys ∧ ByOk ys := by
  obtain ⟨v, ys, h1, h2, h3⟩ := Go.Eng.rd_openW (enc' := byE) (wf := fun (y : OV × Nat) => ∃ a c, y.1.1 = .slice a y.2 c ∧ y.2 ≤ 9223372036854775807) Try.underlying31 cells_by (by decide) (fun _ => rfl) (fun n cs y hy => by
    obtain ⟨u, bs, h3, hr, _⟩ := Go.Eng.rd_openW (enc' := fun (a : Int) => [Value.int .u8 a]) (wf := fun _ => True) Try.underlying54 cells_u8 (by decide) (fun _ => rfl) (fun n cs y hy => by
      obtain ⟨a, rfl, _, hw⟩ := DataW.trod_int Try.underlying5 hy
      exact ⟨a, rfl, trivial⟩) hy
    obtain ⟨a, c, e⟩ := hr.len
    exact ⟨(u, bs.length), h3, a, c, e, by have := hr.small; omega⟩) h
  exact ⟨v, ys, h1, h2, h3⟩
theorem open_batch {fuel : Nat} {cs : List Value} {x : DataW H × List MemPlace} (h : DataW.trod enc Try.prog W 0 (fun _ => true) true fuel 33 cs = some x) :
    ∃ (a b c : Int) (v : OV) (ys : List (OV × Nat)), cs = [.int .i64 a, .int .i64 b, .int .i64 c, v.1] ∧ Rd W.heap 1 byE v.1 ys ∧ ByOk ys := by
  obtain ⟨y0, y1, y2, y3, m, _, hl, g0, g1, g2, g3⟩ := Go.Joins.trod_struct4 Try.underlying33 h
  rw [cells_bt] at hl
  match cs, hl with
  | [c0, c1, c2, c3], _ =>
    rw [cells_i64] at g0 g2
    rw [cells_int] at g1
    rw [cells_bys] at g3
    obtain ⟨a, h0, _, w0⟩ := DataW.trod_int Try.underlying2 g0
    obtain ⟨b, h1, _, w1⟩ := DataW.trod_int Try.underlying3 g1
    obtain ⟨c, h2, _, w2⟩ := DataW.trod_int Try.underlying2 g2
    obtain ⟨v, ys, h3, hr, hy⟩ := open_bytes g3
    simp at h0 h1 h2 h3
    subst h0; subst h1; subst h2; subst h3
    exact ⟨a, b, c, v, ys, rfl, hr, hy⟩
theorem open_pair {base : Nat} {v : Value} {d : DataW H} {ps : List MemPlace} (hval : Value.okWide Try.prog W .any base 52 v) (h : DataW.Trod enc Try.prog W 0 (fun _ => true) true 52 v d ps) :
    ∃ (p1 e1 f1 p2 e2 f2 : Int) (r1 r2 : OV) (y1 y2 : List (OV × Nat)), v = .agg #[.int .i64 p1, .int .i64 e1, .int .i64 f1, r1.1, .int .i64 p2, .int .i64 e2, .int .i64 f2, r2.1] ∧ Rd W.heap 1 byE r1.1 y1 ∧ ByOk y1 ∧ Rd W.heap 1 byE r2.1 y2 ∧ ByOk y2 := by
  obtain ⟨cs, rfl, _⟩ := okWide_struct Try.underlying52 hval
  obtain ⟨fuel, hf⟩ := h
  obtain ⟨y0, y1, m, _, hl, g0, g1⟩ := trod_struct2 Try.underlying52 hf
  rw [cells_pair] at hl
  have e : (Value.agg cs).cells = cs := rfl
  rw [e] at hl g0 g1
  obtain ⟨l, hcs⟩ : ∃ l, cs.toList = l := ⟨_, rfl⟩
  rw [hcs] at hl g0 g1
  rw [cells_bt] at g0 g1
  obtain ⟨p1, e1, f1, r1, z1, h1, hr1, hy1⟩ := open_batch g0
  obtain ⟨p2, e2, f2, r2, z2, h2, hr2, hy2⟩ := open_batch g1
  refine ⟨p1, e1, f1, p2, e2, f2, r1, r2, z1, z2, ?_, hr1, hy1, hr2, hy2⟩
  rw [← Array.toArray_toList (xs := cs), hcs]
  match l, hl with
  | [c0, c1, c2, c3, c4, c5, c6, c7], _ =>
    simp at h1 h2
    obtain ⟨rfl, rfl, rfl, rfl⟩ := h1
    obtain ⟨rfl, rfl, rfl, rfl⟩ := h2
    rfl
end
end Go.Proofs.Ytffgecomdlnngaa
