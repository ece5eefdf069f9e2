/- Opening the arguments of the rows: lists of numbers and of pairs. -/
import Derived.Test.YtfceebbkjogedaaRows
import Derived.Test.YtfceebbkjogedaaT
import Derived.Test.YtfceebbkjogedaaEr
import Derived.Test.YtfceebbkjogedaaIa
import Derived.OpenShut
set_option maxRecDepth 100000
namespace Go.Proofs.Ytfceebbkjogedaa
open Go Go.Eng Go.ChangeShapes Go.WideShapes Go.ChangeAt Go.RowKit

theorem own_knob : ownKnob Try.prog.godebug = none := by kernel_rfl
theorem laid_out : laidOutB Try.prog = true := by kernel_rfl
theorem cells_int : Try.prog.cellsOf 3 = 1 := by kernel_rfl
theorem cells_pair : Try.prog.cellsOf 27 = 2 := by kernel_rfl
theorem bytes_int : Try.prog.bytesOf 3 = 8 := by kernel_rfl

section
variable {H : Type} {enc : TypeId × Value → H} {W : World}
def wfI (n : Int) : Prop := -9223372036854775808 ≤ n ∧ n ≤ 9223372036854775807
theorem open_list_int {base : Nat} {v : Value} {d : DataW H} {ps : List MemPlace} (hval : Value.okWide Try.prog W .any base 26 v) (h : DataW.Trod enc Try.prog W 0 (fun _ => true) true 26 v d ps) :
    ∃ xs : List Int, Rd W.heap 1 iE v xs ∧ (∀ x ∈ xs, wfI x) ∧ ((d = .nil ∧ xs = []) ∨ ∃ es spr, d = .slice es spr ∧ es.length = xs.length) :=
  rd_open Try.underlying26 cells_int (fun _ => rfl) (fun n cs y hy => by
    obtain ⟨a, rfl, _, hw⟩ := DataW.trod_int Try.underlying3 hy
    exact ⟨a, rfl, wf_i64 hw⟩) hval h
theorem open_list_pair {base : Nat} {v : Value} {d : DataW H} {ps : List MemPlace} (hval : Value.okWide Try.prog W .any base 22 v) (h : DataW.Trod enc Try.prog W 0 (fun _ => true) true 22 v d ps) :
    ∃ xs : List (Int × Int), Rd W.heap 2 pE v xs ∧ (∀ x ∈ xs, wfI x.1 ∧ wfI x.2) ∧ ((d = .nil ∧ xs = []) ∨ ∃ es spr, d = .slice es spr ∧ es.length = xs.length) :=
  rd_open Try.underlying22 cells_pair (fun _ => rfl) (fun n cs y hy => by
    obtain ⟨xs, m, _, _, hl, hx, hg⟩ := DataW.trod_array Try.underlying27 hy
    rw [cells_pair] at hl
    match cs, hl with
    | [c0, c1], _ =>
      have g0 := hg 0 (by omega)
      have g1 := hg 1 (by omega)
      rw [cells_int] at g0 g1
      obtain ⟨x0, hx0⟩ : ∃ x, xs[0]? = some x := ⟨xs[0], by simp [hx]⟩
      obtain ⟨x1, hx1⟩ : ∃ x, xs[1]? = some x := ⟨xs[1], by simp [hx]⟩
      rw [hx0] at g0
      rw [hx1] at g1
      obtain ⟨a, h0, _, w0⟩ := DataW.trod_int Try.underlying3 g0
      obtain ⟨b, h1, _, w1⟩ := DataW.trod_int Try.underlying3 g1
      simp at h0 h1
      subst h0; subst h1
      exact ⟨(a, b), rfl, wf_i64 w0, wf_i64 w1⟩) hval h
theorem size_list_int {ts : List TypeId} {ds : List (DataW H)} {j : Nat} {d : DataW H} {xs : List Int} (h : (DataW.weightsEach Try.prog ts ds).all (· ≤ reachBytes) = true) (ht : ts[j]? = some 26) (hd : ds[j]? = some d) (hx : (d = .nil ∧ xs = []) ∨ ∃ es spr, d = .slice es spr ∧ es.length = xs.length) : xs.length * 8 ≤ 140737488351232 := by
  rcases hx with ⟨_, rfl⟩ | ⟨es, spr, rfl, hl⟩
  · simp
  · have := sized_slice h ht hd Try.underlying26
    rw [bytes_int, hl] at this
    unfold reachBytes at this
    omega
end

end Go.Proofs.Ytfceebbkjogedaa
