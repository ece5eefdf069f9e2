/- Opening the arguments of the rows of layer 13: lists of strings and of bools. -/
import Derived.Test.YtfceebbkjogedaaIs
import Derived.Test.YtfceebbkjogedaaQh
set_option maxRecDepth 100000
namespace Go.Proofs.Ytfceebbkjogedaa
open Go Go.Eng Go.ChangeShapes Go.WideShapes Go.ChangeAt Go.RowKit

theorem cells_str : Try.prog.cellsOf 9 = 1 := by kernel_rfl
theorem cells_bool : Try.prog.cellsOf 4 = 1 := by kernel_rfl
theorem bytes_str : Try.prog.bytesOf 9 = 16 := by kernel_rfl
section
variable {H : Type} {enc : TypeId × Value → H} {W : World}
theorem open_list_str {base : Nat} {v : Value} {d : DataW H} {ps : List MemPlace} (hval : Value.okWide Try.prog W .any base 57 v) (h : DataW.Trod enc Try.prog W 0 (fun _ => true) true 57 v d ps) :
    ∃ xs : List ByteArray, Rd W.heap 1 sE v xs ∧ (∀ x ∈ xs, x.size ≤ maxLen) ∧ ((d = .nil ∧ xs = []) ∨ ∃ es spr, d = .slice es spr ∧ es.length = xs.length) :=
  rd_open Try.underlying57 cells_str (fun _ => rfl) (fun n cs y hy => by
    obtain ⟨a, rfl, _, hw⟩ := DataW.trod_string Try.underlying9 hy
    exact ⟨a, rfl, hw⟩) hval h
theorem open_list_bool {base : Nat} {v : Value} {d : DataW H} {ps : List MemPlace} (hval : Value.okWide Try.prog W .any base 58 v) (h : DataW.Trod enc Try.prog W 0 (fun _ => true) true 58 v d ps) :
    ∃ xs : List Bool, Rd W.heap 1 bE v xs ∧ (∀ x ∈ xs, True) ∧ ((d = .nil ∧ xs = []) ∨ ∃ es spr, d = .slice es spr ∧ es.length = xs.length) :=
  rd_open Try.underlying58 cells_bool (fun _ => rfl) (fun n cs y hy => by
    obtain ⟨a, rfl, _⟩ := DataW.trod_bool Try.underlying4 hy
    exact ⟨a, rfl, trivial⟩) hval h
theorem size_list_str {ts : List TypeId} {ds : List (DataW H)} {j : Nat} {d : DataW H} {xs : List ByteArray} (h : (DataW.weightsEach Try.prog ts ds).all (· ≤ reachBytes) = true) (ht : ts[j]? = some 57) (hd : ds[j]? = some d) (hx : (d = .nil ∧ xs = []) ∨ ∃ es spr, d = .slice es spr ∧ es.length = xs.length) : xs.length * 16 ≤ 140737488351232 := by
  rcases hx with ⟨_, rfl⟩ | ⟨es, spr, rfl, hl⟩
  · simp
  · have := sized_slice h ht hd Try.underlying57
    rw [bytes_str, hl] at this
    unfold reachBytes at this
    omega
end

end Go.Proofs.Ytfceebbkjogedaa
