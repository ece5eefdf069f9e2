/- Opening the arguments of the rows of layer 14. -/
import Derived.Test.YtaeckjhipmcddaaSe
import Derived.Test.YtaeckjhipmcddaaEr
import Derived.Test.YtaeckjhipmcddaaRows
import Derived.OpenShut
import Derived.ChangeSame
import Derived.Deep.Strs
set_option maxRecDepth 100000
namespace Go.Proofs.Ytaeckjhipmcddaa
open Go Go.Eng Go.ChangeShapes Go.WideShapes Go.ChangeAt Go.RowKit
theorem own_knob : ownKnob Try.prog.godebug = none := by kernel_rfl
theorem laid_out : laidOutB Try.prog = true := by kernel_rfl
theorem cells_int : Try.prog.cellsOf 3 = 1 := by kernel_rfl
theorem bytes_int : Try.prog.bytesOf 3 = 8 := by kernel_rfl
def wfI (n : Int) : Prop := -9223372036854775808 ≤ n ∧ n ≤ 9223372036854775807
theorem wf_u64 {n : Int} (h : (Lit.int .u64 n).wf = true) : 0 ≤ n ∧ n ≤ 18446744073709551615 := by
  simp only [Lit.wf, Bool.and_eq_true, decide_eq_true_eq] at h
  simpa [IntKind.min, IntKind.max, IntKind.signed, IntKind.bits] using h
section
variable {H : Type} {enc : TypeId × Value → H} {W : World}
theorem open_list_int {base : Nat} {v : Value} {d : DataW H} {ps : List MemPlace} (hval : Value.okWide Try.prog W .any base 25 v) (h : DataW.Trod enc Try.prog W 0 (fun _ => true) true 25 v d ps) :
    ∃ xs : List Int, Rd W.heap 1 iE v xs ∧ (∀ x ∈ xs, wfI x) ∧ ((d = .nil ∧ xs = []) ∨ ∃ es spr, d = .slice es spr ∧ es.length = xs.length) :=
  rd_open Try.underlying25 cells_int (fun _ => rfl) (fun n cs y hy => by
    obtain ⟨a, rfl, _, hw⟩ := DataW.trod_int Try.underlying3 hy
    exact ⟨a, rfl, wf_i64 hw⟩) hval h
theorem size_list_int {ts : List TypeId} {ds : List (DataW H)} {j : Nat} {d : DataW H} {xs : List Int} (h : (DataW.weightsEach Try.prog ts ds).all (· ≤ reachBytes) = true) (ht : ts[j]? = some 25) (hd : ds[j]? = some d) (hx : (d = .nil ∧ xs = []) ∨ ∃ es spr, d = .slice es spr ∧ es.length = xs.length) : xs.length * 8 ≤ 140737488351232 := by
  rcases hx with ⟨_, rfl⟩ | ⟨es, spr, rfl, hl⟩
  · simp
  · have := sized_slice h ht hd Try.underlying25
    rw [bytes_int, hl] at this
    unfold reachBytes at this
    omega
end
theorem cells_u64 : Try.prog.cellsOf 26 = 1 := by kernel_rfl
theorem cells_bool : Try.prog.cellsOf 4 = 1 := by kernel_rfl
theorem cells_op : Try.prog.cellsOf 28 = 3 := by kernel_rfl
section
variable {H : Type} {enc : TypeId × Value → H} {W : World}
theorem open_list_op {base : Nat} {v : Value} {d : DataW H} {ps : List MemPlace} (hval : Value.okWide Try.prog W .any base 22 v) (h : DataW.Trod enc Try.prog W 0 (fun _ => true) true 22 v d ps) :
    ∃ xs : List (Int × Int × Int), Rd W.heap 3 oE v xs ∧ (∀ x ∈ xs, 0 ≤ x.2.2 ∧ x.2.2 ≤ 18446744073709551615) ∧ ((d = .nil ∧ xs = []) ∨ ∃ es spr, d = .slice es spr ∧ es.length = xs.length) :=
  rd_open Try.underlying22 cells_op (fun _ => rfl) (fun n cs y hy => by
    obtain ⟨y0, y1, y2, m, _, hl, g0, g1, g2⟩ := Deep.trod_struct3 Try.underlying28 hy
    rw [cells_op] at hl
    match cs, hl with
    | [c0, c1, c2], _ =>
      rw [cells_int] at g0 g1
      rw [cells_u64] at g2
      obtain ⟨a, h0, _, w0⟩ := DataW.trod_int Try.underlying3 g0
      obtain ⟨b, h1, _, w1⟩ := DataW.trod_int Try.underlying3 g1
      obtain ⟨c, h2, _, w2⟩ := DataW.trod_int Try.underlying26 g2
      simp at h0 h1 h2
      subst h0; subst h1; subst h2
      exact ⟨(a, b, c), rfl, wf_u64 w2⟩) hval h
theorem open_list_u64 {base : Nat} {v : Value} {d : DataW H} {ps : List MemPlace} (hval : Value.okWide Try.prog W .any base 48 v) (h : DataW.Trod enc Try.prog W 0 (fun _ => true) true 48 v d ps) :
    ∃ xs : List Int, Rd W.heap 1 uE v xs ∧ (∀ x ∈ xs, 0 ≤ x ∧ x ≤ 18446744073709551615) ∧ ((d = .nil ∧ xs = []) ∨ ∃ es spr, d = .slice es spr ∧ es.length = xs.length) :=
  rd_open Try.underlying48 cells_u64 (fun _ => rfl) (fun n cs y hy => by
    obtain ⟨a, rfl, _, hw⟩ := DataW.trod_int Try.underlying26 hy
    exact ⟨a, rfl, wf_u64 hw⟩) hval h
theorem open_list_bool {base : Nat} {v : Value} {d : DataW H} {ps : List MemPlace} (hval : Value.okWide Try.prog W .any base 49 v) (h : DataW.Trod enc Try.prog W 0 (fun _ => true) true 49 v d ps) :
    ∃ xs : List Bool, Rd W.heap 1 bE v xs ∧ (∀ x ∈ xs, True) ∧ ((d = .nil ∧ xs = []) ∨ ∃ es spr, d = .slice es spr ∧ es.length = xs.length) :=
  rd_open Try.underlying49 cells_bool (fun _ => rfl) (fun n cs y hy => by
    obtain ⟨a, rfl, _⟩ := DataW.trod_bool Try.underlying4 hy
    exact ⟨a, rfl, trivial⟩) hval h
end
end Go.Proofs.Ytaeckjhipmcddaa
