/- The row of ProducerRecent (the second form): the walk joined to the given statement. -/
import Derived.Test.YtffgecomdlnngaaX3
import Derived.Test.YtffgecomdlnngaaEo
import Derived.Test.YtffgecomdlnngaaEr
import Derived.Test.YtffgecomdlnngaaRows
import Derived.OpenShut
import Derived.ChangeSame
import Derived.JoinedCond
set_option maxRecDepth 100000
namespace Go.Proofs.Ytffgecomdlnngaa
open Go Go.Eng Go.ChangeShapes Go.WideShapes Go.ChangeAt Go.RowKit
theorem own_knobU : ownKnob Try.prog.godebug = none := by kernel_rfl
theorem laid_outU : laidOutB Try.prog = true := by kernel_rfl
theorem cells_intU : Try.prog.cellsOf 3 = 1 := by kernel_rfl
theorem true_post {C : Checked} {H : Type} {enc : TypeId × Value → H} {f : FuncId} {fn : Func} {s : ChangeSpec} {tb : TypeId} {W : World} {args : Array Value} {ds gs : List (DataW H)} {before : List MemPlace}
    (hl : laidOutB C.prog = true) (hts : fn.params.toList.all (fun t => C.prog.readableRec t && decide (t < C.prog.types.size)) = true) (hres : fn.resultTypes = #[tb]) (htb : C.prog.underlying tb = some .bool)
    (hs : trueSpec s fn.params.toList.length) (hW : DataW.Whole enc C.prog fn.params.toList s.vars false W args.toList ds gs before)
    (walk : ∀ p, DataW.TrodAll enc C.prog W 0 (fun _ => true) true fn.params.toList args.toList ds p → Rets C.prog f args W fun u W' => u = .bool true ∧ Fr No W W') :
    Calls C.prog f args W fun e W' => ∃ v, e = .returned v ∧ s.post enc C.prog fn false true false false W args v W' := by
  have hW' := hW
  obtain ⟨p, q, hA, hV, rfl, hfz, hnd⟩ := hW
  rw [hs.1] at hV
  obtain ⟨rfl, rfl⟩ := trodVars_none hV
  simp only [List.append_nil] at hW'
  refine Calls.mono (walk p hA) fun e W' ⟨u, he, hu, hfr⟩ => ?_
  subst hu
  refine ⟨_, he, ?_⟩
  have hb : Below W.heap.size W W' := hfr.below (Nat.le_refl _) (fun k h => h.elim)
  have hlt : ∀ x ∈ p, x.block < W.heap.size := fun x hx => DataW.TrodAll.lt hA x hx
  have hfnl := hs.2 H ds (trodAll_length hA)
  refine ⟨ds, [], p, [], p, [], hW', ?_, ?_, ?_, hb.frame _, fun h => by cases h⟩
  · rw [List.append_nil, hfnl, hres]
    exact trodAll_mk1 (shut_bool htb true)
  · rw [List.append_nil, hfnl]
    refine trodAll_keep hl (fun t ht => ?_) hA (fun x hx => hb.same (hlt x hx)) (fun x hx => by simpa using hlt x hx)
    have := List.all_eq_true.1 hts t ht
    simpa using this
  · rw [List.append_nil, hfnl, hs.1]
    exact rfl
section
variable {H : Type} {enc : TypeId × Value → H} {W : World}
theorem open_intsU {base : Nat} {v : Value} {d : DataW H} {ps : List MemPlace} (hval : Value.okWide Try.prog W .any base 47 v) (h : DataW.Trod enc Try.prog W 0 (fun _ => true) true 47 v d ps) :
    ∃ xs : List Int, Rd W.heap 1 iE v xs ∧ (∀ x ∈ xs, -9223372036854775808 ≤ x ∧ x ≤ 9223372036854775807) ∧ ((d = .nil ∧ xs = []) ∨ ∃ es spr, d = .slice es spr ∧ es.length = xs.length) :=
  rd_open Try.underlying47 cells_intU (fun _ => rfl) (fun n cs y hy => by
    obtain ⟨a, rfl, _, hw⟩ := DataW.trod_int Try.underlying3 hy
    exact ⟨a, rfl, wf_i64 hw⟩) hval h
end
theorem producer_recent_lifted (os : Os) (started : os.Started) (H : Type) (enc : TypeId × Value → H) (F : Stop.Interp) :
    ReturnsInHanded {} Try.checked os 4 .any ((Rows.OpenSpec.upto Rows.producerRecentSpec).pre6 enc Try.prog Try.f4 Rows.producerRecentUptoRow.domain false) (((Rows.OpenSpec.upto Rows.producerRecentSpec).at F).post enc Try.prog Try.f4 false true false false) := by
  refine returnsInHanded_of_cond (C := Try.checked) (s := Rows.OpenSpec.upto Rows.producerRecentSpec) (k := Rows.uptoSmall) rfl own_knobU started (by kernel_rfl) Try.func4
    (OpenSpec.witness (enc := enc) (C := Try.checked) (s := Rows.OpenSpec.upto Rows.producerRecentSpec) (k := Rows.uptoSmall) rfl false ⟨#[], #[.slice none 0 0, .int .i64 0], []⟩ 8 (by kernel_rfl) (by kernel_rfl) (by kernel_rfl)
      (x := ([.nil, .lit (.int .i64 0)], [], [])) (by kernel_rfl) rfl (by kernel_rfl)) ?_
  intro W base args ds gs before hval hW _ hk _
  refine true_post (s := Rows.producerRecentSpec) (tb := 4) laid_outU (by kernel_rfl) rfl Try.underlying4 ⟨rfl, fun H ds h => ?_⟩ hW ?_
  · match ds, h with
    | [_, _], _ => rfl
  intro p hA0
  have hA : DataW.TrodAll enc Try.prog W 0 (fun _ => true) true Try.f4.params.toList args.toList ds p := hA0
  rw [Try.params4] at hA hval
  obtain ⟨v0, v1, d0, d1, p0, p1, rfl, rfl, rfl, h0, h1⟩ := trodAll_two hA
  obtain ⟨xs, hx, wx, ex⟩ := open_intsU (hval 0 _ v0 rfl rfl) h0
  obtain ⟨o, rfl, rfl, rfl, wo⟩ := open_int Try.underlying2 (hval 1 2 v1 rfl rfl) h1
  exact recent25 v0 xs o W hx wx

theorem producer_recent_holds : Rows.ProducerRecentUptoSaid :=
  OpenClaim.holds_of_cond 4 Try.f4 rfl rfl rfl rfl rfl rfl rfl ⟨rfl, rfl, rfl, rfl, rfl⟩ rfl rfl rfl rfl rfl (by kernel_rfl) Try.func4 (by kernel_rfl)
    (of_decide_eq_true (by kernel_rfl)) (by unfold Func.isWrapper; first | (rw [if_pos (by decide +kernel)]; kernel_rfl) | (rw [if_neg (by decide +kernel)]; exact ⟨rfl, rfl⟩))
    (fun os started H enc _ F => producer_recent_lifted os started H enc F)

end Go.Proofs.Ytffgecomdlnngaa
