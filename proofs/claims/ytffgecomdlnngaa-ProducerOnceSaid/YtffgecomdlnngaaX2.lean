/- Layer 25: the walk of Judge.
Layer 25: copies of a list of producers and of one of batches.
Layer 25: the oldest batch is dropped.
Layer 25: slices.overlaps at two slices in two blocks (the model's own entry: it has no code).
Layer 25: a batch of n records.
Layer 25: copy of elements of several cells.
Layer 25: append of a make.
Layer 25: one producer is put in.
Layer 25: the list that Put builds: its producers, each with batches in memory of their own. -/
import Derived.Test.YtffgecomdlnngaaX1
import Derived.Test.YtffgecomdlnngaaEp
import Derived.Test.YtffgecomdlnngaaEk
import Derived.Lib.Overlaps
import Derived.KernelRfl
import Derived.Laws.IdiomCopy
import Derived.Lib.AppendZerosOnto
import Derived.Test.YtffgecomdlnngaaEs
set_option maxRecDepth 100000
namespace Go.Proofs.Ytffgecomdlnngaa
open Go Go.Eng
theorem judge25 (v : Value) (l : List PR) (pid ep fi : Int) (rv : OV) (ys : List (OV × Nat)) (w : World) (hr : Rd w.heap 4 prE v l) (hin : RcIn w.heap l) (hrb : Rd w.heap 1 byE rv.1 ys) (hy : ByOk ys) :
    Rets Try.prog 8 #[v, .agg #[.int .i64 pid, .int .i64 ep, .int .i64 fi, rv.1]] w fun u w' => (((mayB pid ep fi (ys.map (·.2)) = true ∧ RightOk l) → u = judgeV l pid ep fi ys.length) ∧ (¬ (mayB pid ep fi (ys.map (·.2)) = true ∧ RightOk l) → u = .tuple #[.int .i64 0, .bool false, .int .i64 2])) ∧ Fr No w w' := by
  have hrv := rv.2
  obtain ⟨va, vc, ev⟩ := hr.len
  refine rets_of Try.func8 rfl Try.ntmps8 rfl rfl (by kernel_rfl) ?_
  (repeat (first | with_reducible apply vC_seq | with_reducible apply vC_region | with_reducible apply seqP_normal | with_reducible apply vC_block | with_reducible apply vC_ret | with_reducible apply vC_skip | with_reducible apply vC_exit | with_reducible apply seqP_ret | with_reducible apply seqP_exit | with_reducible apply blockP_normal | with_reducible apply blockP_ret | with_reducible apply blockP_exit | ((with_reducible apply blockP_pass); exact rfl) | with_reducible apply loopP_normal | with_reducible apply vL_ac | with_reducible apply vL_an | with_reducible apply loopP_ret | with_reducible apply loopP_exit | ((with_reducible apply vC_cond_true); exact rfl) | ((with_reducible apply vC_cond_false); exact rfl) | with_reducible apply vC_scope | with_reducible apply gotoP_normal | with_reducible apply gotoP_ret | with_reducible apply gotoP_exit | with_reducible apply vC_label)); (repeat (first | ((with_reducible apply vL_val); (case h => first | ((with_reducible apply opv_E); exact rfl) | ((with_reducible apply opv_loadb1); exact rfl; exact rfl; (first | assumption | infer_instance); exact rfl) | ((with_reducible apply opv_fieldAddr); exact rfl) | ((with_reducible apply opv_move); ((conv => lhs; whnf) <;> exact rfl)) | ((with_reducible apply opv_assign); ((conv => lhs; whnf) <;> exact rfl)) | ((with_reducible apply opv_add); exact rfl; exact rfl; (first | omega | (simp only [List.length_map]; omega))) | ((with_reducible apply opv_sub); exact rfl; exact rfl; (first | omega | (simp only [List.length_map]; omega))) | ((with_reducible apply opv_indexAddr); (first | exact norm_eq rfl | ((conv => lhs; whnf) <;> exact rfl)); exact rfl; (first | assumption | infer_instance); (first | omega | (simp only [List.length_map]; omega)); (first | omega | (simp only [List.length_map]; omega))) | ((with_reducible apply opv_fieldAddr_ea); exact rfl) | ((with_reducible apply opv_ld_el); exact rfl; exact rfl; (first | assumption | infer_instance); assumption; exact rfl) | ((with_reducible apply opv_ld_eln); exact rfl; exact rfl; (first | assumption | infer_instance); assumption) | ((with_reducible apply opv_lenc); exact rfl) | ((with_reducible apply opv_len); (first | exact norm_eq rfl | ((conv => lhs; whnf) <;> exact rfl)); (first | assumption | infer_instance)) | ((with_reducible apply opv_not_d); exact rfl) | ((with_reducible apply opv_not); exact rfl) | ((with_reducible apply opv_loadbC); exact rfl; exact rfl; (first | assumption | infer_instance); (first | exact (rfl : _ = [_]) | exact (rfl : _ = [_, _]) | exact (rfl : _ = [_, _, _]) | exact (rfl : _ = [_, _, _, _]) | exact (rfl : _ = [_, _, _, _, _]) | exact (rfl : _ = [_, _, _, _, _, _]) | exact (rfl : _ = [_, _, _, _, _, _, _]) | exact (rfl : _ = [_, _, _, _, _, _, _, _]) | exact (rfl : _ = [_, _, _, _, _, _, _, _, _]) | exact (rfl : _ = [_, _, _, _, _, _, _, _, _, _]) | exact (rfl : _ = [_, _, _, _, _, _, _, _, _, _, _]) | exact (rfl : _ = [_, _, _, _, _, _, _, _, _, _, _, _])); exact rfl) | ((with_reducible apply opv_loadb); exact rfl; exact rfl; (first | assumption | infer_instance); exact rfl) | ((with_reducible apply opv_makeFunc); exact rfl) | ((with_reducible apply opv_eql_pnil); exact rfl; exact rfl; (simp; done)) | ((with_reducible apply opv_neq_pnil); exact rfl; exact rfl; (simp; done)) | ((with_reducible apply opv_indexAddr_arr); exact rfl; exact rfl; (first | omega | (simp only [List.length_map]; omega)); (first | omega | (simp only [List.length_map]; omega))) | ((with_reducible apply opv_indexAddr_ea); exact rfl; exact rfl; (first | omega | (simp only [List.length_map]; omega)); (first | omega | (simp only [List.length_map]; omega))) | ((with_reducible apply opv_len_str); exact rfl) | ((with_reducible apply opv_eql_str); exact rfl; exact rfl) | ((with_reducible apply opv_neq_str); exact rfl; exact rfl) | ((with_reducible apply opv_eql_bool); exact rfl; exact rfl) | ((with_reducible apply opv_neq_bool); exact rfl; exact rfl) | ((with_reducible apply opv_eql_agg); exact rfl; exact rfl; (first | exact ⟨rfl, rfl, trivial⟩ | exact ⟨rfl, trivial⟩ | exact ⟨rfl, rfl, rfl, trivial⟩ | exact ⟨rfl, rfl, rfl, rfl, trivial⟩ | exact ⟨rfl, rfl, rfl, rfl, rfl, trivial⟩); (first | exact ⟨rfl, rfl, trivial⟩ | exact ⟨rfl, trivial⟩ | exact ⟨rfl, rfl, rfl, trivial⟩ | exact ⟨rfl, rfl, rfl, rfl, trivial⟩ | exact ⟨rfl, rfl, rfl, rfl, rfl, trivial⟩)) | ((with_reducible apply opv_neq_agg); exact rfl; exact rfl; (first | exact ⟨rfl, rfl, trivial⟩ | exact ⟨rfl, trivial⟩ | exact ⟨rfl, rfl, rfl, trivial⟩ | exact ⟨rfl, rfl, rfl, rfl, trivial⟩ | exact ⟨rfl, rfl, rfl, rfl, rfl, trivial⟩); (first | exact ⟨rfl, rfl, trivial⟩ | exact ⟨rfl, trivial⟩ | exact ⟨rfl, rfl, rfl, trivial⟩ | exact ⟨rfl, rfl, rfl, rfl, trivial⟩ | exact ⟨rfl, rfl, rfl, rfl, rfl, trivial⟩)) | ((with_reducible apply opv_extract); (first | exact norm_eq rfl | ((conv => lhs; whnf) <;> exact rfl)); exact rfl) | ((with_reducible apply opv_field1); exact rfl; exact rfl) | ((with_reducible apply opv_fieldn); exact rfl) | ((with_reducible apply opv_mul); exact rfl; exact rfl; (first | omega | (simp only [List.length_map]; omega))) | ((with_reducible apply opv_neg); exact rfl; (first | omega | (simp only [List.length_map]; omega))) | ((with_reducible apply opv_rem); exact rfl; exact rfl; (first | omega | (simp only [List.length_map]; omega)); (first | omega | (simp only [List.length_map]; omega))) | ((with_reducible apply opv_quo); exact rfl; exact rfl; (first | omega | (simp only [List.length_map]; omega)); (first | omega | (simp only [List.length_map]; omega))) | ((with_reducible apply opv_quou); exact rfl; exact rfl; (first | omega | (simp only [List.length_map]; omega)); (first | omega | (simp only [List.length_map]; omega))) | ((with_reducible apply opv_buildA); exact rfl; (first | exact (rfl : _ = some []) | exact (rfl : _ = some [_]) | exact (rfl : _ = some [_, _]) | exact (rfl : _ = some [_, _, _]) | exact (rfl : _ = some [_, _, _, _]) | exact (rfl : _ = some [_, _, _, _, _]) | exact (rfl : _ = some [_, _, _, _, _, _]) | exact (rfl : _ = some [_, _, _, _, _, _, _]) | exact (rfl : _ = some [_, _, _, _, _, _, _, _]) | exact (rfl : _ = some [_, _, _, _, _, _, _, _, _]) | exact (rfl : _ = some [_, _, _, _, _, _, _, _, _, _]) | exact (rfl : _ = some [_, _, _, _, _, _, _, _, _, _, _]) | exact (rfl : _ = some [_, _, _, _, _, _, _, _, _, _, _, _]) | exact (rfl : _ = some [_, _, _, _, _, _, _, _, _, _, _, _, _]) | exact (rfl : _ = some [_, _, _, _, _, _, _, _, _, _, _, _, _, _]) | exact (rfl : _ = some [_, _, _, _, _, _, _, _, _, _, _, _, _, _, _]) | exact (rfl : _ = some [_, _, _, _, _, _, _, _, _, _, _, _, _, _, _, _]))) | ((with_reducible apply opv_buildS); exact rfl; (first | exact (rfl : _ = some []) | exact (rfl : _ = some [_]) | exact (rfl : _ = some [_, _]) | exact (rfl : _ = some [_, _, _]) | exact (rfl : _ = some [_, _, _, _]) | exact (rfl : _ = some [_, _, _, _, _]) | exact (rfl : _ = some [_, _, _, _, _, _]) | exact (rfl : _ = some [_, _, _, _, _, _, _]) | exact (rfl : _ = some [_, _, _, _, _, _, _, _]) | exact (rfl : _ = some [_, _, _, _, _, _, _, _, _]) | exact (rfl : _ = some [_, _, _, _, _, _, _, _, _, _]) | exact (rfl : _ = some [_, _, _, _, _, _, _, _, _, _, _]) | exact (rfl : _ = some [_, _, _, _, _, _, _, _, _, _, _, _]) | exact (rfl : _ = some [_, _, _, _, _, _, _, _, _, _, _, _, _]) | exact (rfl : _ = some [_, _, _, _, _, _, _, _, _, _, _, _, _, _]) | exact (rfl : _ = some [_, _, _, _, _, _, _, _, _, _, _, _, _, _, _]) | exact (rfl : _ = some [_, _, _, _, _, _, _, _, _, _, _, _, _, _, _, _]))) | ((with_reducible apply opv_eql_snil); exact rfl; exact rfl) | ((with_reducible apply opv_eql_fnil); exact rfl; exact rfl) | ((with_reducible apply opv_eql_fnil2); exact rfl; exact rfl) | ((with_reducible apply opv_slice_hi'); exact rfl; exact rfl; (first | omega | (simp only [List.length_map]; omega)); (first | omega | (simp only [List.length_map]; omega))) | ((with_reducible apply opv_slice_lo'); exact rfl; exact rfl; (first | omega | (simp only [List.length_map]; omega)); (first | omega | (simp only [List.length_map]; omega))) | ((with_reducible apply opv_slice_lh'); exact rfl; exact rfl; exact rfl; (first | omega | (simp only [List.length_map]; omega)); (first | omega | (simp only [List.length_map]; omega)); (first | omega | (simp only [List.length_map]; omega))) | ((with_reducible apply opv_slice3); exact rfl; exact rfl; exact rfl; exact rfl; (first | omega | (simp only [List.length_map]; omega)); (first | omega | (simp only [List.length_map]; omega)); (first | omega | (simp only [List.length_map]; omega)); (first | omega | (simp only [List.length_map]; omega))) | ((with_reducible apply opv_conv_u); exact rfl; (first | omega | (simp only [List.length_map]; omega))) | ((with_reducible apply opv_conv_i); exact rfl; (first | omega | (simp only [List.length_map]; omega))) | ((with_reducible apply opv_index_str); exact rfl; exact rfl; (first | omega | (simp only [List.length_map]; omega)); assumption) | ((with_reducible apply opv_geqS); exact rfl; exact rfl) | ((with_reducible apply opv_lssS); exact rfl; exact rfl) | ((with_reducible apply opv_leqS); exact rfl; exact rfl) | ((with_reducible apply opv_min); exact rfl; exact rfl) | ((with_reducible apply opv_max); exact rfl; exact rfl) | ((with_reducible apply opv_eql_ptr); exact rfl; exact rfl; exact rfl; (first | assumption | infer_instance); (first | assumption | infer_instance)) | ((with_reducible apply opv_neq_ptr); exact rfl; exact rfl; exact rfl; (first | assumption | infer_instance); (first | assumption | infer_instance)))) | with_reducible apply vL_nil | first | ((with_reducible apply vL_wanted); exact rfl) | ((with_reducible apply vL_unwanted'); exact rfl; exact rfl) | ((with_reducible apply vL_unwanted_none); exact rfl) | ((with_reducible apply vL_val); (case h => first | ((with_reducible apply opw_box1); (first | exact norm_eq rfl | ((conv => lhs; whnf) <;> exact rfl)); (first | rfl | assumption)) | ((with_reducible apply opw_boxn); exact rfl) | (with_reducible apply opw_alloc) | ((with_reducible apply opw_buildSl); exact rfl; exact rfl; exact rfl; (first | exact (rfl : _ = some []) | exact (rfl : _ = some [_]) | exact (rfl : _ = some [_, _]) | exact (rfl : _ = some [_, _, _]) | exact (rfl : _ = some [_, _, _, _]) | exact (rfl : _ = some [_, _, _, _, _]) | exact (rfl : _ = some [_, _, _, _, _, _]) | exact (rfl : _ = some [_, _, _, _, _, _, _]) | exact (rfl : _ = some [_, _, _, _, _, _, _, _]) | exact (rfl : _ = some [_, _, _, _, _, _, _, _, _]) | exact (rfl : _ = some [_, _, _, _, _, _, _, _, _, _]) | exact (rfl : _ = some [_, _, _, _, _, _, _, _, _, _, _]) | exact (rfl : _ = some [_, _, _, _, _, _, _, _, _, _, _, _]) | exact (rfl : _ = some [_, _, _, _, _, _, _, _, _, _, _, _, _]) | exact (rfl : _ = some [_, _, _, _, _, _, _, _, _, _, _, _, _, _]) | exact (rfl : _ = some [_, _, _, _, _, _, _, _, _, _, _, _, _, _, _]) | exact (rfl : _ = some [_, _, _, _, _, _, _, _, _, _, _, _, _, _, _, _]))) | ((with_reducible apply opw_makeSlice); exact rfl; exact rfl; exact rfl; decide; (first | omega | (simp only [List.length_map]; omega)); (first | decide | (first | omega | (simp only [List.length_map]; omega))); (first | omega | (simp only [List.length_map]; omega))))) | ((with_reducible apply vL_skip); (case h => first | ((with_reducible apply ops_store1); (first | exact norm_eq rfl | ((conv => lhs; whnf) <;> exact rfl)); (first | exact norm_eq rfl | ((conv => lhs; whnf) <;> exact rfl)); (first | rfl | assumption); (first | assumption | infer_instance); (first | decide | exact of_decide_eq_true rfl | (simp; done))) | ((with_reducible apply ops_storen); (first | exact norm_eq rfl | ((conv => lhs; whnf) <;> exact rfl)); (first | exact norm_eq rfl | ((conv => lhs; whnf) <;> exact rfl)); exact rfl; (first | exact (fun u hu => EncOk.one _ u hu) | (intro u hu; simp at hu; rcases hu with rfl | rfl <;> (first | rfl | assumption)) | (intro u hu; simp at hu; rcases hu with rfl | rfl | rfl <;> (first | rfl | assumption)) | (intro u hu; simp at hu; rcases hu with rfl | rfl | rfl | rfl <;> (first | rfl | assumption))); (first | assumption | infer_instance); (first | decide | exact of_decide_eq_true rfl | (simp; done))))))); with_reducible apply seqP_normal
  (repeat (first | with_reducible apply vC_seq | with_reducible apply vC_region | with_reducible apply seqP_normal | with_reducible apply vC_block | with_reducible apply vC_ret | with_reducible apply vC_skip | with_reducible apply vC_exit | with_reducible apply seqP_ret | with_reducible apply seqP_exit | with_reducible apply blockP_normal | with_reducible apply blockP_ret | with_reducible apply blockP_exit | ((with_reducible apply blockP_pass); exact rfl) | with_reducible apply loopP_normal | with_reducible apply vL_ac | with_reducible apply vL_an | with_reducible apply loopP_ret | with_reducible apply loopP_exit | ((with_reducible apply vC_cond_true); exact rfl) | ((with_reducible apply vC_cond_false); exact rfl) | with_reducible apply vC_scope | with_reducible apply gotoP_normal | with_reducible apply gotoP_ret | with_reducible apply gotoP_exit | with_reducible apply vC_label))
  refine vL_gen (fun w' => Fr No w w' ∧ Blk w'.heap w.heap.size (btE pid ep fi rv) 33) ⟨by (repeat (first | exact Fr.refl _ _ | assumption | with_reducible apply Fr.allocSet | with_reducible apply Fr.alloc | with_reducible apply Fr.drewN | with_reducible apply Fr.drew | ((with_reducible apply Fr.set); rotate_left; (right; ((try simp only [alloc_size]); omega))) | (refine Fr.trans ?_ (by assumption)))), (inferInstance : Blk _ _ [.int .i64 pid, .int .i64 ep, .int .i64 fi, rv.1] _)⟩ ?_
  rintro w1 ⟨hf1, hb1⟩
  generalize w.heap.size = bb at hb1 ⊢
  have hb1' := hb1
  rw [btE] at hb1'
  repeat (first | ((with_reducible apply vL_val); (case h => first | ((with_reducible apply opv_E); exact rfl) | ((with_reducible apply opv_loadb1); exact rfl; exact rfl; (first | assumption | infer_instance); exact rfl) | ((with_reducible apply opv_fieldAddr); exact rfl) | ((with_reducible apply opv_move); ((conv => lhs; whnf) <;> exact rfl)) | ((with_reducible apply opv_assign); ((conv => lhs; whnf) <;> exact rfl)) | ((with_reducible apply opv_add); exact rfl; exact rfl; (first | omega | (simp only [List.length_map]; omega))) | ((with_reducible apply opv_sub); exact rfl; exact rfl; (first | omega | (simp only [List.length_map]; omega))) | ((with_reducible apply opv_indexAddr); (first | exact norm_eq rfl | ((conv => lhs; whnf) <;> exact rfl)); exact rfl; (first | assumption | infer_instance); (first | omega | (simp only [List.length_map]; omega)); (first | omega | (simp only [List.length_map]; omega))) | ((with_reducible apply opv_fieldAddr_ea); exact rfl) | ((with_reducible apply opv_ld_el); exact rfl; exact rfl; (first | assumption | infer_instance); assumption; exact rfl) | ((with_reducible apply opv_ld_eln); exact rfl; exact rfl; (first | assumption | infer_instance); assumption) | ((with_reducible apply opv_lenc); exact rfl) | ((with_reducible apply opv_len); (first | exact norm_eq rfl | ((conv => lhs; whnf) <;> exact rfl)); (first | assumption | infer_instance)) | ((with_reducible apply opv_not_d); exact rfl) | ((with_reducible apply opv_not); exact rfl) | ((with_reducible apply opv_loadbC); exact rfl; exact rfl; (first | assumption | infer_instance); (first | exact (rfl : _ = [_]) | exact (rfl : _ = [_, _]) | exact (rfl : _ = [_, _, _]) | exact (rfl : _ = [_, _, _, _]) | exact (rfl : _ = [_, _, _, _, _]) | exact (rfl : _ = [_, _, _, _, _, _]) | exact (rfl : _ = [_, _, _, _, _, _, _]) | exact (rfl : _ = [_, _, _, _, _, _, _, _]) | exact (rfl : _ = [_, _, _, _, _, _, _, _, _]) | exact (rfl : _ = [_, _, _, _, _, _, _, _, _, _]) | exact (rfl : _ = [_, _, _, _, _, _, _, _, _, _, _]) | exact (rfl : _ = [_, _, _, _, _, _, _, _, _, _, _, _])); exact rfl) | ((with_reducible apply opv_loadb); exact rfl; exact rfl; (first | assumption | infer_instance); exact rfl) | ((with_reducible apply opv_makeFunc); exact rfl) | ((with_reducible apply opv_eql_pnil); exact rfl; exact rfl; (simp; done)) | ((with_reducible apply opv_neq_pnil); exact rfl; exact rfl; (simp; done)) | ((with_reducible apply opv_indexAddr_arr); exact rfl; exact rfl; (first | omega | (simp only [List.length_map]; omega)); (first | omega | (simp only [List.length_map]; omega))) | ((with_reducible apply opv_indexAddr_ea); exact rfl; exact rfl; (first | omega | (simp only [List.length_map]; omega)); (first | omega | (simp only [List.length_map]; omega))) | ((with_reducible apply opv_len_str); exact rfl) | ((with_reducible apply opv_eql_str); exact rfl; exact rfl) | ((with_reducible apply opv_neq_str); exact rfl; exact rfl) | ((with_reducible apply opv_eql_bool); exact rfl; exact rfl) | ((with_reducible apply opv_neq_bool); exact rfl; exact rfl) | ((with_reducible apply opv_eql_agg); exact rfl; exact rfl; (first | exact ⟨rfl, rfl, trivial⟩ | exact ⟨rfl, trivial⟩ | exact ⟨rfl, rfl, rfl, trivial⟩ | exact ⟨rfl, rfl, rfl, rfl, trivial⟩ | exact ⟨rfl, rfl, rfl, rfl, rfl, trivial⟩); (first | exact ⟨rfl, rfl, trivial⟩ | exact ⟨rfl, trivial⟩ | exact ⟨rfl, rfl, rfl, trivial⟩ | exact ⟨rfl, rfl, rfl, rfl, trivial⟩ | exact ⟨rfl, rfl, rfl, rfl, rfl, trivial⟩)) | ((with_reducible apply opv_neq_agg); exact rfl; exact rfl; (first | exact ⟨rfl, rfl, trivial⟩ | exact ⟨rfl, trivial⟩ | exact ⟨rfl, rfl, rfl, trivial⟩ | exact ⟨rfl, rfl, rfl, rfl, trivial⟩ | exact ⟨rfl, rfl, rfl, rfl, rfl, trivial⟩); (first | exact ⟨rfl, rfl, trivial⟩ | exact ⟨rfl, trivial⟩ | exact ⟨rfl, rfl, rfl, trivial⟩ | exact ⟨rfl, rfl, rfl, rfl, trivial⟩ | exact ⟨rfl, rfl, rfl, rfl, rfl, trivial⟩)) | ((with_reducible apply opv_extract); (first | exact norm_eq rfl | ((conv => lhs; whnf) <;> exact rfl)); exact rfl) | ((with_reducible apply opv_field1); exact rfl; exact rfl) | ((with_reducible apply opv_fieldn); exact rfl) | ((with_reducible apply opv_mul); exact rfl; exact rfl; (first | omega | (simp only [List.length_map]; omega))) | ((with_reducible apply opv_neg); exact rfl; (first | omega | (simp only [List.length_map]; omega))) | ((with_reducible apply opv_rem); exact rfl; exact rfl; (first | omega | (simp only [List.length_map]; omega)); (first | omega | (simp only [List.length_map]; omega))) | ((with_reducible apply opv_quo); exact rfl; exact rfl; (first | omega | (simp only [List.length_map]; omega)); (first | omega | (simp only [List.length_map]; omega))) | ((with_reducible apply opv_quou); exact rfl; exact rfl; (first | omega | (simp only [List.length_map]; omega)); (first | omega | (simp only [List.length_map]; omega))) | ((with_reducible apply opv_buildA); exact rfl; (first | exact (rfl : _ = some []) | exact (rfl : _ = some [_]) | exact (rfl : _ = some [_, _]) | exact (rfl : _ = some [_, _, _]) | exact (rfl : _ = some [_, _, _, _]) | exact (rfl : _ = some [_, _, _, _, _]) | exact (rfl : _ = some [_, _, _, _, _, _]) | exact (rfl : _ = some [_, _, _, _, _, _, _]) | exact (rfl : _ = some [_, _, _, _, _, _, _, _]) | exact (rfl : _ = some [_, _, _, _, _, _, _, _, _]) | exact (rfl : _ = some [_, _, _, _, _, _, _, _, _, _]) | exact (rfl : _ = some [_, _, _, _, _, _, _, _, _, _, _]) | exact (rfl : _ = some [_, _, _, _, _, _, _, _, _, _, _, _]) | exact (rfl : _ = some [_, _, _, _, _, _, _, _, _, _, _, _, _]) | exact (rfl : _ = some [_, _, _, _, _, _, _, _, _, _, _, _, _, _]) | exact (rfl : _ = some [_, _, _, _, _, _, _, _, _, _, _, _, _, _, _]) | exact (rfl : _ = some [_, _, _, _, _, _, _, _, _, _, _, _, _, _, _, _]))) | ((with_reducible apply opv_buildS); exact rfl; (first | exact (rfl : _ = some []) | exact (rfl : _ = some [_]) | exact (rfl : _ = some [_, _]) | exact (rfl : _ = some [_, _, _]) | exact (rfl : _ = some [_, _, _, _]) | exact (rfl : _ = some [_, _, _, _, _]) | exact (rfl : _ = some [_, _, _, _, _, _]) | exact (rfl : _ = some [_, _, _, _, _, _, _]) | exact (rfl : _ = some [_, _, _, _, _, _, _, _]) | exact (rfl : _ = some [_, _, _, _, _, _, _, _, _]) | exact (rfl : _ = some [_, _, _, _, _, _, _, _, _, _]) | exact (rfl : _ = some [_, _, _, _, _, _, _, _, _, _, _]) | exact (rfl : _ = some [_, _, _, _, _, _, _, _, _, _, _, _]) | exact (rfl : _ = some [_, _, _, _, _, _, _, _, _, _, _, _, _]) | exact (rfl : _ = some [_, _, _, _, _, _, _, _, _, _, _, _, _, _]) | exact (rfl : _ = some [_, _, _, _, _, _, _, _, _, _, _, _, _, _, _]) | exact (rfl : _ = some [_, _, _, _, _, _, _, _, _, _, _, _, _, _, _, _]))) | ((with_reducible apply opv_eql_snil); exact rfl; exact rfl) | ((with_reducible apply opv_eql_fnil); exact rfl; exact rfl) | ((with_reducible apply opv_eql_fnil2); exact rfl; exact rfl) | ((with_reducible apply opv_slice_hi'); exact rfl; exact rfl; (first | omega | (simp only [List.length_map]; omega)); (first | omega | (simp only [List.length_map]; omega))) | ((with_reducible apply opv_slice_lo'); exact rfl; exact rfl; (first | omega | (simp only [List.length_map]; omega)); (first | omega | (simp only [List.length_map]; omega))) | ((with_reducible apply opv_slice_lh'); exact rfl; exact rfl; exact rfl; (first | omega | (simp only [List.length_map]; omega)); (first | omega | (simp only [List.length_map]; omega)); (first | omega | (simp only [List.length_map]; omega))) | ((with_reducible apply opv_slice3); exact rfl; exact rfl; exact rfl; exact rfl; (first | omega | (simp only [List.length_map]; omega)); (first | omega | (simp only [List.length_map]; omega)); (first | omega | (simp only [List.length_map]; omega)); (first | omega | (simp only [List.length_map]; omega))) | ((with_reducible apply opv_conv_u); exact rfl; (first | omega | (simp only [List.length_map]; omega))) | ((with_reducible apply opv_conv_i); exact rfl; (first | omega | (simp only [List.length_map]; omega))) | ((with_reducible apply opv_index_str); exact rfl; exact rfl; (first | omega | (simp only [List.length_map]; omega)); assumption) | ((with_reducible apply opv_geqS); exact rfl; exact rfl) | ((with_reducible apply opv_lssS); exact rfl; exact rfl) | ((with_reducible apply opv_leqS); exact rfl; exact rfl) | ((with_reducible apply opv_min); exact rfl; exact rfl) | ((with_reducible apply opv_max); exact rfl; exact rfl) | ((with_reducible apply opv_eql_ptr); exact rfl; exact rfl; exact rfl; (first | assumption | infer_instance); (first | assumption | infer_instance)) | ((with_reducible apply opv_neq_ptr); exact rfl; exact rfl; exact rfl; (first | assumption | infer_instance); (first | assumption | infer_instance)))) | with_reducible apply vL_nil | first | ((with_reducible apply vL_wanted); exact rfl) | ((with_reducible apply vL_unwanted'); exact rfl; exact rfl) | ((with_reducible apply vL_unwanted_none); exact rfl) | ((with_reducible apply vL_val); (case h => first | ((with_reducible apply opw_box1); (first | exact norm_eq rfl | ((conv => lhs; whnf) <;> exact rfl)); (first | rfl | assumption)) | ((with_reducible apply opw_boxn); exact rfl) | (with_reducible apply opw_alloc) | ((with_reducible apply opw_buildSl); exact rfl; exact rfl; exact rfl; (first | exact (rfl : _ = some []) | exact (rfl : _ = some [_]) | exact (rfl : _ = some [_, _]) | exact (rfl : _ = some [_, _, _]) | exact (rfl : _ = some [_, _, _, _]) | exact (rfl : _ = some [_, _, _, _, _]) | exact (rfl : _ = some [_, _, _, _, _, _]) | exact (rfl : _ = some [_, _, _, _, _, _, _]) | exact (rfl : _ = some [_, _, _, _, _, _, _, _]) | exact (rfl : _ = some [_, _, _, _, _, _, _, _, _]) | exact (rfl : _ = some [_, _, _, _, _, _, _, _, _, _]) | exact (rfl : _ = some [_, _, _, _, _, _, _, _, _, _, _]) | exact (rfl : _ = some [_, _, _, _, _, _, _, _, _, _, _, _]) | exact (rfl : _ = some [_, _, _, _, _, _, _, _, _, _, _, _, _]) | exact (rfl : _ = some [_, _, _, _, _, _, _, _, _, _, _, _, _, _]) | exact (rfl : _ = some [_, _, _, _, _, _, _, _, _, _, _, _, _, _, _]) | exact (rfl : _ = some [_, _, _, _, _, _, _, _, _, _, _, _, _, _, _, _]))) | ((with_reducible apply opw_makeSlice); exact rfl; exact rfl; exact rfl; decide; (first | omega | (simp only [List.length_map]; omega)); (first | decide | (first | omega | (simp only [List.length_map]; omega))); (first | omega | (simp only [List.length_map]; omega))))) | ((with_reducible apply vL_skip); (case h => first | ((with_reducible apply ops_store1); (first | exact norm_eq rfl | ((conv => lhs; whnf) <;> exact rfl)); (first | exact norm_eq rfl | ((conv => lhs; whnf) <;> exact rfl)); (first | rfl | assumption); (first | assumption | infer_instance); (first | decide | exact of_decide_eq_true rfl | (simp; done))) | ((with_reducible apply ops_storen); (first | exact norm_eq rfl | ((conv => lhs; whnf) <;> exact rfl)); (first | exact norm_eq rfl | ((conv => lhs; whnf) <;> exact rfl)); exact rfl; (first | exact (fun u hu => EncOk.one _ u hu) | (intro u hu; simp at hu; rcases hu with rfl | rfl <;> (first | rfl | assumption)) | (intro u hu; simp at hu; rcases hu with rfl | rfl | rfl <;> (first | rfl | assumption)) | (intro u hu; simp at hu; rcases hu with rfl | rfl | rfl | rfl <;> (first | rfl | assumption))); (first | assumption | infer_instance); (first | decide | exact of_decide_eq_true rfl | (simp; done))))))
  refine vL_callF rfl (may25 pid ep fi rv ys w1 (hrb.frN hf1) hy) rfl ?_
  rintro _ w2 ⟨rfl, hf2⟩
  have hf12 := hf1.trans hf2
  cases hm : mayB pid ep fi (ys.map (·.2)) with
  | false =>
    (((apply vL_val); (case h => ((apply opv_not); exact rfl))); ((apply vL_val); (case h => ((apply opv_E); exact rfl))); (iterate 3 (((apply vL_unwanted'); exact rfl; exact rfl))); ((apply vL_val); (case h => ((apply opv_E); exact rfl))); apply vL_nil; apply seqP_normal; ((apply vC_cond_true); exact rfl); apply vC_seq; apply vC_region; (iterate 3 (((apply vL_val); (case h => ((apply opv_E); exact rfl))))); apply vL_nil; apply seqP_normal; apply vC_ret; apply seqP_ret)
    (apply ret3; (case h1 => (first | exact norm_eq rfl | ((conv => lhs; whnf) <;> exact rfl))); (case h2 => (first | exact norm_eq rfl | ((conv => lhs; whnf) <;> exact rfl))); (case h3 => (first | exact norm_eq rfl | ((conv => lhs; whnf) <;> exact rfl))))
    exact ⟨⟨fun h => absurd h.1 (by decide), fun _ => rfl⟩, hf12⟩
  | true =>
  (((apply vL_val); (case h => ((apply opv_not); exact rfl))); ((apply vL_val); (case h => ((apply opv_E); exact rfl))); ((apply vL_wanted); exact rfl); ((apply vL_val); (case h => ((apply opv_move); ((conv => lhs; whnf) <;> exact rfl)))); ((apply vL_wanted); exact rfl))
  refine vL_callF rfl (right25 v l w2 (hr.frN hf12) (hin.frN hf12)) rfl ?_
  rintro _ w3 ⟨⟨b, rfl, hb⟩, hf3⟩
  have hf13 := hf12.trans hf3
  have hbb := (hb1.frN hf2).frN hf3
  have hbb' := (hb1'.frN hf2).frN hf3
  cases b with
  | false =>
    have hbad : ¬ RightOk l := fun h => by have := hb.2 h; cases this
    (((apply vL_wanted); exact rfl); ((apply vL_val); (case h => ((apply opv_not); exact rfl))); ((apply vL_val); (case h => ((apply opv_E); exact rfl))); apply vL_nil; apply seqP_normal; ((apply vC_cond_true); exact rfl); apply vC_seq; apply vC_region; (iterate 3 (((apply vL_val); (case h => ((apply opv_E); exact rfl))))); apply vL_nil; apply seqP_normal; apply vC_ret; apply seqP_ret)
    (apply ret3; (case h1 => (first | exact norm_eq rfl | ((conv => lhs; whnf) <;> exact rfl))); (case h2 => (first | exact norm_eq rfl | ((conv => lhs; whnf) <;> exact rfl))); (case h3 => (first | exact norm_eq rfl | ((conv => lhs; whnf) <;> exact rfl))))
    exact ⟨⟨fun h => absurd h.2 hbad, fun _ => rfl⟩, hf13⟩
  | true =>
  have hok := hb.1 rfl
  have hri := (RightFrom.rising hok.1).1
  have hlen : l.length ≤ 64 := hok.2
  by_cases hp0 : pid = 0
  · (((apply vL_wanted); exact rfl); ((apply vL_val); (case h => ((apply opv_not); exact rfl))); ((apply vL_val); (case h => ((apply opv_E); exact rfl))); apply vL_nil; apply seqP_normal; ((apply vC_cond_false); exact rfl); apply vC_skip; apply seqP_normal; (iterate 2 (apply vC_seq)); apply vC_region; ((apply vL_val); (case h => ((apply opv_fieldAddr); exact rfl))); ((apply vL_val); (case h => ((apply opv_loadb1); exact rfl; exact rfl; (first | assumption | infer_instance); exact rfl))); ((apply vL_val); (case h => ((apply opv_E); exact rfl))); apply vL_nil; apply seqP_normal; (refine vC_cond_dec rfl (fun _ => ?_) (fun h => by omega)); apply vC_seq; apply vC_region; (iterate 3 (((apply vL_val); (case h => ((apply opv_E); exact rfl))))); apply vL_nil; apply seqP_normal; apply vC_ret; apply seqP_ret)
    (apply ret3; (case h1 => (first | exact norm_eq rfl | ((conv => lhs; whnf) <;> exact rfl))); (case h2 => (first | exact norm_eq rfl | ((conv => lhs; whnf) <;> exact rfl))); (case h3 => (first | exact norm_eq rfl | ((conv => lhs; whnf) <;> exact rfl))))
    exact ⟨⟨fun _ => by rw [judgeV, if_pos hp0], fun h => absurd ⟨rfl, hok⟩ h⟩, hf13⟩
  (((apply vL_wanted); exact rfl); ((apply vL_val); (case h => ((apply opv_not); exact rfl))); ((apply vL_val); (case h => ((apply opv_E); exact rfl))); apply vL_nil; apply seqP_normal; ((apply vC_cond_false); exact rfl); apply vC_skip; apply seqP_normal; (iterate 2 (apply vC_seq)); apply vC_region; ((apply vL_val); (case h => ((apply opv_fieldAddr); exact rfl))); ((apply vL_val); (case h => ((apply opv_loadb1); exact rfl; exact rfl; (first | assumption | infer_instance); exact rfl))); ((apply vL_val); (case h => ((apply opv_E); exact rfl))); apply vL_nil; apply seqP_normal; (refine vC_cond_dec rfl (fun h => by omega) (fun _ => ?_)); apply vC_skip; apply seqP_normal; apply vC_seq; apply vC_region; ((apply vL_val); (case h => ((apply opv_move); ((conv => lhs; whnf) <;> exact rfl)))); ((apply vL_val); (case h => ((apply opv_fieldAddr); exact rfl))); ((apply vL_val); (case h => ((apply opv_loadb1); exact rfl; exact rfl; (first | assumption | infer_instance); exact rfl))))
  refine vL_callF rfl (find25 v l pid w3 (hr.frN hf13) hri (by omega)) rfl ?_
  rintro _ w4 ⟨k, rfl, hk, h1, h2, hf4⟩
  have hf14 := hf13.trans hf4
  have hbb4 := hbb.frN hf4
  have hbb4' := hbb'.frN hf4
  have hr4 := hr.frN hf14
  haveI hne : NeB bb w4.heap.size := ⟨by have := hbb4.lt; omega⟩
  have hG := find_getP h1 h2 hri
  by_cases hfd : ∃ x, l[k]? = some x ∧ x.pid = pid
  rotate_left
  · have hd : decide ((l[k]?.map (·.pid)) = some pid) = false := decide_eq_false (fun h => by
      cases hx : l[k]? with
      | none => rw [hx] at h; cases h
      | some x => rw [hx] at h; exact hfd ⟨x, hx, Option.some.inj h⟩)
    rw [hd]
    have hg := hG.2 (fun x hx he => hfd ⟨x, hx, he⟩)
    by_cases h64 : l.length = 64
    · ((iterate 5 (((apply vL_val); (case h => ((apply opv_E); exact rfl))))); apply vL_nil; apply seqP_normal; (iterate 2 (apply vC_seq)); apply vC_region; ((apply vL_val); (case h => ((apply opv_E); exact rfl))); ((apply vL_val); (case h => ((apply opv_not); exact rfl))); ((apply vL_val); (case h => ((apply opv_E); exact rfl))); ((apply vL_wanted); exact rfl); ((apply vL_val); (case h => ((apply opv_move); ((conv => lhs; whnf) <;> exact rfl)))); ((apply vL_wanted); exact rfl); ((apply vL_val); (case h => ((apply opv_len); (first | exact norm_eq rfl | ((conv => lhs; whnf) <;> exact rfl)); (first | assumption | infer_instance)))); ((apply vL_wanted); exact rfl); (iterate 2 (((apply vL_val); (case h => ((apply opv_E); exact rfl))))); apply vL_nil; apply seqP_normal; (refine vC_cond_dec rfl (fun _ => ?_) (fun h => by omega)); apply vC_seq; apply vC_region; (iterate 3 (((apply vL_val); (case h => ((apply opv_E); exact rfl))))); apply vL_nil; apply seqP_normal; apply vC_ret; apply seqP_ret)
      (apply ret3; (case h1 => (first | exact norm_eq rfl | ((conv => lhs; whnf) <;> exact rfl))); (case h2 => (first | exact norm_eq rfl | ((conv => lhs; whnf) <;> exact rfl))); (case h3 => (first | exact norm_eq rfl | ((conv => lhs; whnf) <;> exact rfl))))
      exact ⟨⟨fun _ => by rw [judgeV, if_neg hp0, hg]; exact (if_pos h64).symm, fun h => absurd ⟨rfl, hok⟩ h⟩, hf14⟩
    have hJ : judgeV l pid ep fi ys.length = judge1 0 [] fi ys.length := by rw [judgeV, if_neg hp0, hg]; exact if_neg h64
    ((iterate 5 (((apply vL_val); (case h => ((apply opv_E); exact rfl))))); apply vL_nil; apply seqP_normal; (iterate 2 (apply vC_seq)); apply vC_region; ((apply vL_val); (case h => ((apply opv_E); exact rfl))); ((apply vL_val); (case h => ((apply opv_not); exact rfl))); ((apply vL_val); (case h => ((apply opv_E); exact rfl))); ((apply vL_wanted); exact rfl); ((apply vL_val); (case h => ((apply opv_move); ((conv => lhs; whnf) <;> exact rfl)))); ((apply vL_wanted); exact rfl); ((apply vL_val); (case h => ((apply opv_len); (first | exact norm_eq rfl | ((conv => lhs; whnf) <;> exact rfl)); (first | assumption | infer_instance)))); ((apply vL_wanted); exact rfl); (iterate 2 (((apply vL_val); (case h => ((apply opv_E); exact rfl))))); apply vL_nil; apply seqP_normal; (refine vC_cond_dec rfl (fun h => by omega) (fun _ => ?_)); apply vC_skip; apply seqP_normal; apply vC_seq; apply vC_region; ((apply vL_val); (case h => (apply opw_alloc))); apply vL_nil; apply seqP_normal; (iterate 2 (apply vC_seq)); apply vC_region; ((apply vL_val); (case h => ((apply opv_E); exact rfl))); apply vL_nil; apply seqP_normal; ((apply vC_cond_false); exact rfl); apply vC_skip; apply seqP_normal; apply vC_seq; apply vC_block; apply vC_seq; apply vC_region; (iterate 2 (((apply vL_val); (case h => ((apply opv_E); exact rfl))))); (iterate 5 (((apply vL_unwanted'); exact rfl; exact rfl))); (iterate 2 (((apply vL_val); (case h => ((apply opv_E); exact rfl))))); apply vL_nil; apply seqP_normal; ((apply vC_cond_false); exact rfl); apply vC_seq; apply vC_region; ((apply vL_val); (case h => ((apply opv_E); exact rfl))); ((apply vL_val); (case h => ((apply opv_not); exact rfl))); ((apply vL_val); (case h => ((apply opv_E); exact rfl))); (iterate 5 (((apply vL_unwanted'); exact rfl; exact rfl))); (iterate 2 (((apply vL_val); (case h => ((apply opv_E); exact rfl))))); apply vL_nil; apply seqP_normal; ((apply vC_cond_true); exact rfl); apply vC_region; ((apply vL_val); (case h => ((apply opv_buildS); exact rfl; (first | exact (rfl : _ = some []) | exact (rfl : _ = some [_]) | exact (rfl : _ = some [_, _]) | exact (rfl : _ = some [_, _, _]) | exact (rfl : _ = some [_, _, _, _]) | exact (rfl : _ = some [_, _, _, _, _]) | exact (rfl : _ = some [_, _, _, _, _, _]) | exact (rfl : _ = some [_, _, _, _, _, _, _]) | exact (rfl : _ = some [_, _, _, _, _, _, _, _]) | exact (rfl : _ = some [_, _, _, _, _, _, _, _, _]) | exact (rfl : _ = some [_, _, _, _, _, _, _, _, _, _]) | exact (rfl : _ = some [_, _, _, _, _, _, _, _, _, _, _]) | exact (rfl : _ = some [_, _, _, _, _, _, _, _, _, _, _, _]) | exact (rfl : _ = some [_, _, _, _, _, _, _, _, _, _, _, _, _]) | exact (rfl : _ = some [_, _, _, _, _, _, _, _, _, _, _, _, _, _]) | exact (rfl : _ = some [_, _, _, _, _, _, _, _, _, _, _, _, _, _, _]) | exact (rfl : _ = some [_, _, _, _, _, _, _, _, _, _, _, _, _, _, _, _]))))); ((apply vL_skip); (case h => ((apply ops_storen); (first | exact norm_eq rfl | ((conv => lhs; whnf) <;> exact rfl)); (first | exact norm_eq rfl | ((conv => lhs; whnf) <;> exact rfl)); exact rfl; (first | exact (fun u hu => EncOk.one _ u hu) | (intro u hu; simp at hu; rcases hu with rfl | rfl <;> (first | rfl | assumption)) | (intro u hu; simp at hu; rcases hu with rfl | rfl | rfl <;> (first | rfl | assumption)) | (intro u hu; simp at hu; rcases hu with rfl | rfl | rfl | rfl <;> (first | rfl | assumption))); (first | assumption | infer_instance); (first | decide | exact of_decide_eq_true rfl | (simp; done))))); apply vL_nil; apply blockP_normal; apply seqP_normal; (iterate 2 (apply vC_seq)); apply vC_region; ((apply vL_val); (case h => ((apply opv_fieldAddr); exact rfl))); ((apply vL_val); (case h => ((apply opv_loadb1); exact rfl; exact rfl; (first | assumption | infer_instance); exact rfl))); ((apply vL_val); (case h => ((apply opv_fieldAddr); exact rfl))); ((apply vL_val); (case h => ((apply opv_loadb1); exact rfl; exact rfl; (first | assumption | infer_instance); exact rfl))); ((apply vL_val); (case h => ((apply opv_E); exact rfl))); apply vL_nil; apply seqP_normal)
    refine vC_gen (fun w' => Fr No w4 w' ∧ Blk w'.heap w4.heap.size [.int .i64 0, .int .i64 0, .int .i64 0, .slice none 0 0] 59) ⟨by (repeat (first | exact Fr.refl _ _ | assumption | with_reducible apply Fr.allocSet | with_reducible apply Fr.alloc | with_reducible apply Fr.drewN | with_reducible apply Fr.drew | ((with_reducible apply Fr.set); rotate_left; (right; ((try simp only [alloc_size]); omega))) | (refine Fr.trans ?_ (by assumption)))), inferInstance⟩ ?_
    rintro w5 ⟨hf5, h9⟩
    generalize w4.heap.size = pb at h9 ⊢
    have hfw := hf14.trans hf5
    have hb5 := hbb4.frN hf5
    have hb5' := hbb4'.frN hf5
    have hrb5 := hrb.frN hfw
    have hr9 := Rd.nil w5.heap 3 rcE
    by_cases hfi : fi = (0 : Int)
    · ((refine vC_cond_dec rfl (fun _ => ?_) (fun h => by omega)); apply vC_seq; apply vC_region; (iterate 3 (((apply vL_val); (case h => ((apply opv_E); exact rfl))))); apply vL_nil; apply seqP_normal; apply vC_ret; apply seqP_ret)
      (apply ret3; (case h1 => (first | exact norm_eq rfl | ((conv => lhs; whnf) <;> exact rfl))); (case h2 => (first | exact norm_eq rfl | ((conv => lhs; whnf) <;> exact rfl))); (case h3 => (first | exact norm_eq rfl | ((conv => lhs; whnf) <;> exact rfl))))
      exact ⟨⟨fun _ => by rw [hJ, judge1, if_pos hfi], fun h => absurd ⟨rfl, hok⟩ h⟩, hfw⟩
    ((refine vC_cond_dec rfl (fun h => by omega) (fun _ => ?_)); apply vC_skip; apply seqP_normal; apply vC_seq; apply vC_region; ((apply vL_val); (case h => ((apply opv_makeFunc); exact rfl))); ((apply vL_val); (case h => ((apply opv_E); exact rfl))); apply vL_nil; apply seqP_normal; (iterate 2 (apply vC_seq)); apply vC_region; ((apply vL_val); (case h => ((apply opv_fieldAddr); exact rfl))); ((apply vL_val); (case h => ((apply opv_loadb1); exact rfl; exact rfl; (first | assumption | infer_instance); exact rfl))); ((apply vL_val); (case h => ((apply opv_E); exact rfl))))
    refine vL_callF rfl (indexFunc_rc _ _ (fun r => decide (r.1 = fi ∧ r.2.1 = (ys.length : Int))) [] _ 14 [pt bb] hr9 rfl (fun x w1 hx hf => judge1c x w1 (hb5.frN hf) (hrb5.frN hf))) rfl ?_
    rintro _ w9 ⟨hf9, ⟨rfl, hno⟩ | ⟨k9, rfl, hk9, ⟨x9, hx9, hxp⟩, hfirst⟩⟩
    · have hbn := hb5'.frN hf9
      have h9n := h9.frN hf9
      have hfwn := hfw.trans hf9
      by_cases hlt : fi < (0 : Int)
      · (((apply vL_val); (case h => ((apply opv_E); exact rfl))); apply vL_nil; apply seqP_normal; apply vC_seq; apply vC_region; (iterate 2 (((apply vL_val); (case h => ((apply opv_E); exact rfl))))); apply vL_nil; apply seqP_normal; ((apply vC_cond_false); exact rfl); apply vC_skip; apply seqP_normal; (iterate 2 (apply vC_seq)); apply vC_region; ((apply vL_val); (case h => ((apply opv_fieldAddr); exact rfl))); ((apply vL_val); (case h => ((apply opv_loadb1); exact rfl; exact rfl; (first | assumption | infer_instance); exact rfl))); ((apply vL_val); (case h => ((apply opv_fieldAddr); exact rfl))); ((apply vL_val); (case h => ((apply opv_loadb1); exact rfl; exact rfl; (first | assumption | infer_instance); exact rfl))); ((apply vL_val); (case h => ((apply opv_E); exact rfl))); apply vL_nil; apply seqP_normal; (refine vC_cond_dec rfl (fun _ => ?_) (fun h => by omega)); apply vC_seq; apply vC_region; (iterate 3 (((apply vL_val); (case h => ((apply opv_E); exact rfl))))); apply vL_nil; apply seqP_normal; apply vC_ret; apply seqP_ret)
        (apply ret3; (case h1 => (first | exact norm_eq rfl | ((conv => lhs; whnf) <;> exact rfl))); (case h2 => (first | exact norm_eq rfl | ((conv => lhs; whnf) <;> exact rfl))); (case h3 => (first | exact norm_eq rfl | ((conv => lhs; whnf) <;> exact rfl))))
        exact ⟨⟨fun _ => by rw [hJ, judge1, if_neg hfi, find_none hno]; exact (if_pos hlt).symm, fun h => absurd ⟨rfl, hok⟩ h⟩, hfwn⟩
      · (((apply vL_val); (case h => ((apply opv_E); exact rfl))); apply vL_nil; apply seqP_normal; apply vC_seq; apply vC_region; (iterate 2 (((apply vL_val); (case h => ((apply opv_E); exact rfl))))); apply vL_nil; apply seqP_normal; ((apply vC_cond_false); exact rfl); apply vC_skip; apply seqP_normal; (iterate 2 (apply vC_seq)); apply vC_region; ((apply vL_val); (case h => ((apply opv_fieldAddr); exact rfl))); ((apply vL_val); (case h => ((apply opv_loadb1); exact rfl; exact rfl; (first | assumption | infer_instance); exact rfl))); ((apply vL_val); (case h => ((apply opv_fieldAddr); exact rfl))); ((apply vL_val); (case h => ((apply opv_loadb1); exact rfl; exact rfl; (first | assumption | infer_instance); exact rfl))); ((apply vL_val); (case h => ((apply opv_E); exact rfl))); apply vL_nil; apply seqP_normal; (refine vC_cond_dec rfl (fun h => by omega) (fun _ => ?_)); apply vC_skip; apply seqP_normal; apply vC_seq; apply vC_region; (iterate 3 (((apply vL_val); (case h => ((apply opv_E); exact rfl))))); apply vL_nil; apply seqP_normal; apply vC_ret)
        (apply ret3; (case h1 => (first | exact norm_eq rfl | ((conv => lhs; whnf) <;> exact rfl))); (case h2 => (first | exact norm_eq rfl | ((conv => lhs; whnf) <;> exact rfl))); (case h3 => (first | exact norm_eq rfl | ((conv => lhs; whnf) <;> exact rfl))))
        exact ⟨⟨fun _ => by rw [hJ, judge1, if_neg hfi, find_none hno]; exact (if_neg hlt).symm, fun h => absurd ⟨rfl, hok⟩ h⟩, hfwn⟩
    · have h9n := h9.frN hf9
      have hr9n := hr9.frN hf9
      have hfwn := hfw.trans hf9
      (((apply vL_val); (case h => ((apply opv_E); exact rfl))); apply vL_nil; apply seqP_normal; apply vC_seq; apply vC_region; (iterate 2 (((apply vL_val); (case h => ((apply opv_E); exact rfl))))); apply vL_nil; apply seqP_normal; ((apply vC_cond_true); exact rfl); apply vC_seq; apply vC_region; ((apply vL_val); (case h => ((apply opv_fieldAddr); exact rfl))); ((apply vL_val); (case h => ((apply opv_loadb1); exact rfl; exact rfl; (first | assumption | infer_instance); exact rfl))); ((apply vL_val); (case h => ((apply opv_E); exact rfl))); ((apply vL_val); (case h => ((apply opv_indexAddr); (first | exact norm_eq rfl | ((conv => lhs; whnf) <;> exact rfl)); exact rfl; (first | assumption | infer_instance); (first | omega | (simp only [List.length_map]; omega)); (first | omega | (simp only [List.length_map]; omega))))); ((apply vL_val); (case h => ((apply opv_fieldAddr); exact rfl))); ((apply vL_val); (case h => ((apply opv_ld_el); exact rfl; exact rfl; (first | assumption | infer_instance); assumption; exact rfl))); (iterate 3 (((apply vL_val); (case h => ((apply opv_E); exact rfl))))); apply vL_nil; apply seqP_normal; apply vC_ret; apply seqP_ret)
      (apply ret3; (case h1 => (first | exact norm_eq rfl | ((conv => lhs; whnf) <;> exact rfl))); (case h2 => (first | exact norm_eq rfl | ((conv => lhs; whnf) <;> exact rfl))); (case h3 => (first | exact norm_eq rfl | ((conv => lhs; whnf) <;> exact rfl))))
      exact ⟨⟨fun _ => by rw [hJ, judge1, if_neg hfi, find_some hx9 hxp hfirst], fun h => absurd ⟨rfl, hok⟩ h⟩, hfwn⟩
  obtain ⟨x, hx, hxp⟩ := hfd
  have hkl : k < l.length := (List.getElem?_eq_some_iff.1 hx).1
  have hd : decide ((l[k]?.map (·.pid)) = some pid) = true := by rw [hx]; exact decide_eq_true (congrArg some hxp)
  rw [hd]
  have hg := hG.1 x hx hxp
  by_cases hep : ep < x.ep
  · ((iterate 5 (((apply vL_val); (case h => ((apply opv_E); exact rfl))))); apply vL_nil; apply seqP_normal; (iterate 2 (apply vC_seq)); apply vC_region; ((apply vL_val); (case h => ((apply opv_E); exact rfl))); ((apply vL_val); (case h => ((apply opv_not); exact rfl))); ((apply vL_val); (case h => ((apply opv_E); exact rfl))); (iterate 3 (((apply vL_unwanted'); exact rfl; exact rfl))); ((apply vL_val); (case h => ((apply opv_E); exact rfl))); apply vL_nil; apply seqP_normal; ((apply vC_cond_false); exact rfl); apply vC_skip; apply seqP_normal; apply vC_seq; apply vC_region; ((apply vL_val); (case h => (apply opw_alloc))); apply vL_nil; apply seqP_normal; (iterate 2 (apply vC_seq)); apply vC_region; ((apply vL_val); (case h => ((apply opv_E); exact rfl))); apply vL_nil; apply seqP_normal; ((apply vC_cond_true); exact rfl); apply vC_region; ((apply vL_val); (case h => ((apply opv_move); ((conv => lhs; whnf) <;> exact rfl)))); ((apply vL_val); (case h => ((apply opv_E); exact rfl))); ((apply vL_val); (case h => ((apply opv_indexAddr); (first | exact norm_eq rfl | ((conv => lhs; whnf) <;> exact rfl)); exact rfl; (first | assumption | infer_instance); (first | omega | (simp only [List.length_map]; omega)); (first | omega | (simp only [List.length_map]; omega))))); ((apply vL_val); (case h => ((apply opv_ld_eln); exact rfl; exact rfl; (first | assumption | infer_instance); assumption))); ((apply vL_skip); (case h => ((apply ops_storen); (first | exact norm_eq rfl | ((conv => lhs; whnf) <;> exact rfl)); (first | exact norm_eq rfl | ((conv => lhs; whnf) <;> exact rfl)); exact rfl; (first | exact (fun u hu => EncOk.one _ u hu) | (intro u hu; simp at hu; rcases hu with rfl | rfl <;> (first | rfl | assumption)) | (intro u hu; simp at hu; rcases hu with rfl | rfl | rfl <;> (first | rfl | assumption)) | (intro u hu; simp at hu; rcases hu with rfl | rfl | rfl | rfl <;> (first | rfl | assumption))); (first | assumption | infer_instance); (first | decide | exact of_decide_eq_true rfl | (simp; done))))); apply vL_nil; apply seqP_normal; apply vC_seq; apply vC_block; apply vC_seq; apply vC_region; (iterate 2 (((apply vL_val); (case h => ((apply opv_E); exact rfl))))); ((apply vL_wanted); exact rfl); ((apply vL_val); (case h => ((apply opv_fieldAddr); exact rfl))); ((apply vL_wanted); exact rfl); ((apply vL_val); (case h => ((apply opv_loadb1); exact rfl; exact rfl; (first | assumption | infer_instance); exact rfl))); ((apply vL_wanted); exact rfl); ((apply vL_val); (case h => ((apply opv_fieldAddr); exact rfl))); ((apply vL_wanted); exact rfl); ((apply vL_val); (case h => ((apply opv_loadb1); exact rfl; exact rfl; (first | assumption | infer_instance); exact rfl))); ((apply vL_wanted); exact rfl); (iterate 3 (((apply vL_val); (case h => ((apply opv_E); exact rfl))))); apply vL_nil; apply seqP_normal; (refine vC_cond_dec rfl (fun _ => ?_) (fun h => by omega)); apply vC_seq; apply vC_region; (iterate 3 (((apply vL_val); (case h => ((apply opv_E); exact rfl))))); apply vL_nil; apply seqP_normal; apply vC_ret; apply blockP_ret; apply seqP_ret)
    (apply ret3; (case h1 => (first | exact norm_eq rfl | ((conv => lhs; whnf) <;> exact rfl))); (case h2 => (first | exact norm_eq rfl | ((conv => lhs; whnf) <;> exact rfl))); (case h3 => (first | exact norm_eq rfl | ((conv => lhs; whnf) <;> exact rfl))))
    exact ⟨⟨fun _ => by rw [judgeV, if_neg hp0, hg]; exact (if_pos hep).symm, fun h => absurd ⟨rfl, hok⟩ h⟩, by (repeat (first | exact Fr.refl _ _ | assumption | with_reducible apply Fr.allocSet | with_reducible apply Fr.alloc | with_reducible apply Fr.drewN | with_reducible apply Fr.drew | ((with_reducible apply Fr.set); rotate_left; (right; ((try simp only [alloc_size]); omega))) | (refine Fr.trans ?_ (by assumption))))⟩
  by_cases hep2 : x.ep < ep
  · have hJ : judgeV l pid ep fi ys.length = judge1 0 [] fi ys.length := by rw [judgeV, if_neg hp0, hg]; exact (if_neg hep).trans (if_pos hep2)
    ((iterate 5 (((apply vL_val); (case h => ((apply opv_E); exact rfl))))); apply vL_nil; apply seqP_normal; (iterate 2 (apply vC_seq)); apply vC_region; ((apply vL_val); (case h => ((apply opv_E); exact rfl))); ((apply vL_val); (case h => ((apply opv_not); exact rfl))); ((apply vL_val); (case h => ((apply opv_E); exact rfl))); (iterate 3 (((apply vL_unwanted'); exact rfl; exact rfl))); ((apply vL_val); (case h => ((apply opv_E); exact rfl))); apply vL_nil; apply seqP_normal; ((apply vC_cond_false); exact rfl); apply vC_skip; apply seqP_normal; apply vC_seq; apply vC_region; ((apply vL_val); (case h => (apply opw_alloc))); apply vL_nil; apply seqP_normal; (iterate 2 (apply vC_seq)); apply vC_region; ((apply vL_val); (case h => ((apply opv_E); exact rfl))); apply vL_nil; apply seqP_normal; ((apply vC_cond_true); exact rfl); apply vC_region; ((apply vL_val); (case h => ((apply opv_move); ((conv => lhs; whnf) <;> exact rfl)))); ((apply vL_val); (case h => ((apply opv_E); exact rfl))); ((apply vL_val); (case h => ((apply opv_indexAddr); (first | exact norm_eq rfl | ((conv => lhs; whnf) <;> exact rfl)); exact rfl; (first | assumption | infer_instance); (first | omega | (simp only [List.length_map]; omega)); (first | omega | (simp only [List.length_map]; omega))))); ((apply vL_val); (case h => ((apply opv_ld_eln); exact rfl; exact rfl; (first | assumption | infer_instance); assumption))); ((apply vL_skip); (case h => ((apply ops_storen); (first | exact norm_eq rfl | ((conv => lhs; whnf) <;> exact rfl)); (first | exact norm_eq rfl | ((conv => lhs; whnf) <;> exact rfl)); exact rfl; (first | exact (fun u hu => EncOk.one _ u hu) | (intro u hu; simp at hu; rcases hu with rfl | rfl <;> (first | rfl | assumption)) | (intro u hu; simp at hu; rcases hu with rfl | rfl | rfl <;> (first | rfl | assumption)) | (intro u hu; simp at hu; rcases hu with rfl | rfl | rfl | rfl <;> (first | rfl | assumption))); (first | assumption | infer_instance); (first | decide | exact of_decide_eq_true rfl | (simp; done))))); apply vL_nil; apply seqP_normal; apply vC_seq; apply vC_block; apply vC_seq; apply vC_region; (iterate 2 (((apply vL_val); (case h => ((apply opv_E); exact rfl))))); ((apply vL_wanted); exact rfl); ((apply vL_val); (case h => ((apply opv_fieldAddr); exact rfl))); ((apply vL_wanted); exact rfl); ((apply vL_val); (case h => ((apply opv_loadb1); exact rfl; exact rfl; (first | assumption | infer_instance); exact rfl))); ((apply vL_wanted); exact rfl); ((apply vL_val); (case h => ((apply opv_fieldAddr); exact rfl))); ((apply vL_wanted); exact rfl); ((apply vL_val); (case h => ((apply opv_loadb1); exact rfl; exact rfl; (first | assumption | infer_instance); exact rfl))); ((apply vL_wanted); exact rfl); (iterate 3 (((apply vL_val); (case h => ((apply opv_E); exact rfl))))); apply vL_nil; apply seqP_normal; (refine vC_cond_dec rfl (fun h => by omega) (fun _ => ?_)); apply vC_seq; apply vC_region; ((apply vL_val); (case h => ((apply opv_E); exact rfl))); ((apply vL_val); (case h => ((apply opv_not); exact rfl))); ((apply vL_val); (case h => ((apply opv_E); exact rfl))); ((apply vL_wanted); exact rfl); ((apply vL_val); (case h => ((apply opv_fieldAddr); exact rfl))); ((apply vL_wanted); exact rfl); ((apply vL_val); (case h => ((apply opv_loadb1); exact rfl; exact rfl; (first | assumption | infer_instance); exact rfl))); ((apply vL_wanted); exact rfl); ((apply vL_val); (case h => ((apply opv_fieldAddr); exact rfl))); ((apply vL_wanted); exact rfl); ((apply vL_val); (case h => ((apply opv_loadb1); exact rfl; exact rfl; (first | assumption | infer_instance); exact rfl))); ((apply vL_wanted); exact rfl); (iterate 3 (((apply vL_val); (case h => ((apply opv_E); exact rfl))))); apply vL_nil; apply seqP_normal; (refine vC_cond_dec rfl (fun _ => ?_) (fun h => by omega)); apply vC_region; ((apply vL_val); (case h => ((apply opv_buildS); exact rfl; (first | exact (rfl : _ = some []) | exact (rfl : _ = some [_]) | exact (rfl : _ = some [_, _]) | exact (rfl : _ = some [_, _, _]) | exact (rfl : _ = some [_, _, _, _]) | exact (rfl : _ = some [_, _, _, _, _]) | exact (rfl : _ = some [_, _, _, _, _, _]) | exact (rfl : _ = some [_, _, _, _, _, _, _]) | exact (rfl : _ = some [_, _, _, _, _, _, _, _]) | exact (rfl : _ = some [_, _, _, _, _, _, _, _, _]) | exact (rfl : _ = some [_, _, _, _, _, _, _, _, _, _]) | exact (rfl : _ = some [_, _, _, _, _, _, _, _, _, _, _]) | exact (rfl : _ = some [_, _, _, _, _, _, _, _, _, _, _, _]) | exact (rfl : _ = some [_, _, _, _, _, _, _, _, _, _, _, _, _]) | exact (rfl : _ = some [_, _, _, _, _, _, _, _, _, _, _, _, _, _]) | exact (rfl : _ = some [_, _, _, _, _, _, _, _, _, _, _, _, _, _, _]) | exact (rfl : _ = some [_, _, _, _, _, _, _, _, _, _, _, _, _, _, _, _]))))); ((apply vL_skip); (case h => ((apply ops_storen); (first | exact norm_eq rfl | ((conv => lhs; whnf) <;> exact rfl)); (first | exact norm_eq rfl | ((conv => lhs; whnf) <;> exact rfl)); exact rfl; (first | exact (fun u hu => EncOk.one _ u hu) | (intro u hu; simp at hu; rcases hu with rfl | rfl <;> (first | rfl | assumption)) | (intro u hu; simp at hu; rcases hu with rfl | rfl | rfl <;> (first | rfl | assumption)) | (intro u hu; simp at hu; rcases hu with rfl | rfl | rfl | rfl <;> (first | rfl | assumption))); (first | assumption | infer_instance); (first | decide | exact of_decide_eq_true rfl | (simp; done))))); apply vL_nil; apply blockP_normal; apply seqP_normal; (iterate 2 (apply vC_seq)); apply vC_region; ((apply vL_val); (case h => ((apply opv_fieldAddr); exact rfl))); ((apply vL_val); (case h => ((apply opv_loadb1); exact rfl; exact rfl; (first | assumption | infer_instance); exact rfl))); ((apply vL_val); (case h => ((apply opv_fieldAddr); exact rfl))); ((apply vL_val); (case h => ((apply opv_loadb1); exact rfl; exact rfl; (first | assumption | infer_instance); exact rfl))); ((apply vL_val); (case h => ((apply opv_E); exact rfl))); apply vL_nil; apply seqP_normal)
    refine vC_gen (fun w' => Fr No w4 w' ∧ Blk w'.heap w4.heap.size [.int .i64 0, .int .i64 0, .int .i64 0, .slice none 0 0] 59) ⟨by (repeat (first | exact Fr.refl _ _ | assumption | with_reducible apply Fr.allocSet | with_reducible apply Fr.alloc | with_reducible apply Fr.drewN | with_reducible apply Fr.drew | ((with_reducible apply Fr.set); rotate_left; (right; ((try simp only [alloc_size]); omega))) | (refine Fr.trans ?_ (by assumption)))), inferInstance⟩ ?_
    rintro w5 ⟨hf5, h9⟩
    generalize w4.heap.size = pb at h9 ⊢
    have hfw := hf14.trans hf5
    have hb5 := hbb4.frN hf5
    have hb5' := hbb4'.frN hf5
    have hrb5 := hrb.frN hfw
    have hr9 := Rd.nil w5.heap 3 rcE
    by_cases hfi : fi = (0 : Int)
    · ((refine vC_cond_dec rfl (fun _ => ?_) (fun h => by omega)); apply vC_seq; apply vC_region; (iterate 3 (((apply vL_val); (case h => ((apply opv_E); exact rfl))))); apply vL_nil; apply seqP_normal; apply vC_ret; apply seqP_ret)
      (apply ret3; (case h1 => (first | exact norm_eq rfl | ((conv => lhs; whnf) <;> exact rfl))); (case h2 => (first | exact norm_eq rfl | ((conv => lhs; whnf) <;> exact rfl))); (case h3 => (first | exact norm_eq rfl | ((conv => lhs; whnf) <;> exact rfl))))
      exact ⟨⟨fun _ => by rw [hJ, judge1, if_pos hfi], fun h => absurd ⟨rfl, hok⟩ h⟩, hfw⟩
    ((refine vC_cond_dec rfl (fun h => by omega) (fun _ => ?_)); apply vC_skip; apply seqP_normal; apply vC_seq; apply vC_region; ((apply vL_val); (case h => ((apply opv_makeFunc); exact rfl))); ((apply vL_val); (case h => ((apply opv_E); exact rfl))); apply vL_nil; apply seqP_normal; (iterate 2 (apply vC_seq)); apply vC_region; ((apply vL_val); (case h => ((apply opv_fieldAddr); exact rfl))); ((apply vL_val); (case h => ((apply opv_loadb1); exact rfl; exact rfl; (first | assumption | infer_instance); exact rfl))); ((apply vL_val); (case h => ((apply opv_E); exact rfl))))
    refine vL_callF rfl (indexFunc_rc _ _ (fun r => decide (r.1 = fi ∧ r.2.1 = (ys.length : Int))) [] _ 14 [pt bb] hr9 rfl (fun x w1 hx hf => judge1c x w1 (hb5.frN hf) (hrb5.frN hf))) rfl ?_
    rintro _ w9 ⟨hf9, ⟨rfl, hno⟩ | ⟨k9, rfl, hk9, ⟨x9, hx9, hxp⟩, hfirst⟩⟩
    · have hbn := hb5'.frN hf9
      have h9n := h9.frN hf9
      have hfwn := hfw.trans hf9
      by_cases hlt : fi < (0 : Int)
      · (((apply vL_val); (case h => ((apply opv_E); exact rfl))); apply vL_nil; apply seqP_normal; apply vC_seq; apply vC_region; (iterate 2 (((apply vL_val); (case h => ((apply opv_E); exact rfl))))); apply vL_nil; apply seqP_normal; ((apply vC_cond_false); exact rfl); apply vC_skip; apply seqP_normal; (iterate 2 (apply vC_seq)); apply vC_region; ((apply vL_val); (case h => ((apply opv_fieldAddr); exact rfl))); ((apply vL_val); (case h => ((apply opv_loadb1); exact rfl; exact rfl; (first | assumption | infer_instance); exact rfl))); ((apply vL_val); (case h => ((apply opv_fieldAddr); exact rfl))); ((apply vL_val); (case h => ((apply opv_loadb1); exact rfl; exact rfl; (first | assumption | infer_instance); exact rfl))); ((apply vL_val); (case h => ((apply opv_E); exact rfl))); apply vL_nil; apply seqP_normal; (refine vC_cond_dec rfl (fun _ => ?_) (fun h => by omega)); apply vC_seq; apply vC_region; (iterate 3 (((apply vL_val); (case h => ((apply opv_E); exact rfl))))); apply vL_nil; apply seqP_normal; apply vC_ret; apply seqP_ret)
        (apply ret3; (case h1 => (first | exact norm_eq rfl | ((conv => lhs; whnf) <;> exact rfl))); (case h2 => (first | exact norm_eq rfl | ((conv => lhs; whnf) <;> exact rfl))); (case h3 => (first | exact norm_eq rfl | ((conv => lhs; whnf) <;> exact rfl))))
        exact ⟨⟨fun _ => by rw [hJ, judge1, if_neg hfi, find_none hno]; exact (if_pos hlt).symm, fun h => absurd ⟨rfl, hok⟩ h⟩, hfwn⟩
      · (((apply vL_val); (case h => ((apply opv_E); exact rfl))); apply vL_nil; apply seqP_normal; apply vC_seq; apply vC_region; (iterate 2 (((apply vL_val); (case h => ((apply opv_E); exact rfl))))); apply vL_nil; apply seqP_normal; ((apply vC_cond_false); exact rfl); apply vC_skip; apply seqP_normal; (iterate 2 (apply vC_seq)); apply vC_region; ((apply vL_val); (case h => ((apply opv_fieldAddr); exact rfl))); ((apply vL_val); (case h => ((apply opv_loadb1); exact rfl; exact rfl; (first | assumption | infer_instance); exact rfl))); ((apply vL_val); (case h => ((apply opv_fieldAddr); exact rfl))); ((apply vL_val); (case h => ((apply opv_loadb1); exact rfl; exact rfl; (first | assumption | infer_instance); exact rfl))); ((apply vL_val); (case h => ((apply opv_E); exact rfl))); apply vL_nil; apply seqP_normal; (refine vC_cond_dec rfl (fun h => by omega) (fun _ => ?_)); apply vC_skip; apply seqP_normal; apply vC_seq; apply vC_region; (iterate 3 (((apply vL_val); (case h => ((apply opv_E); exact rfl))))); apply vL_nil; apply seqP_normal; apply vC_ret)
        (apply ret3; (case h1 => (first | exact norm_eq rfl | ((conv => lhs; whnf) <;> exact rfl))); (case h2 => (first | exact norm_eq rfl | ((conv => lhs; whnf) <;> exact rfl))); (case h3 => (first | exact norm_eq rfl | ((conv => lhs; whnf) <;> exact rfl))))
        exact ⟨⟨fun _ => by rw [hJ, judge1, if_neg hfi, find_none hno]; exact (if_neg hlt).symm, fun h => absurd ⟨rfl, hok⟩ h⟩, hfwn⟩
    · have h9n := h9.frN hf9
      have hr9n := hr9.frN hf9
      have hfwn := hfw.trans hf9
      (((apply vL_val); (case h => ((apply opv_E); exact rfl))); apply vL_nil; apply seqP_normal; apply vC_seq; apply vC_region; (iterate 2 (((apply vL_val); (case h => ((apply opv_E); exact rfl))))); apply vL_nil; apply seqP_normal; ((apply vC_cond_true); exact rfl); apply vC_seq; apply vC_region; ((apply vL_val); (case h => ((apply opv_fieldAddr); exact rfl))); ((apply vL_val); (case h => ((apply opv_loadb1); exact rfl; exact rfl; (first | assumption | infer_instance); exact rfl))); ((apply vL_val); (case h => ((apply opv_E); exact rfl))); ((apply vL_val); (case h => ((apply opv_indexAddr); (first | exact norm_eq rfl | ((conv => lhs; whnf) <;> exact rfl)); exact rfl; (first | assumption | infer_instance); (first | omega | (simp only [List.length_map]; omega)); (first | omega | (simp only [List.length_map]; omega))))); ((apply vL_val); (case h => ((apply opv_fieldAddr); exact rfl))); ((apply vL_val); (case h => ((apply opv_ld_el); exact rfl; exact rfl; (first | assumption | infer_instance); assumption; exact rfl))); (iterate 3 (((apply vL_val); (case h => ((apply opv_E); exact rfl))))); apply vL_nil; apply seqP_normal; apply vC_ret; apply seqP_ret)
      (apply ret3; (case h1 => (first | exact norm_eq rfl | ((conv => lhs; whnf) <;> exact rfl))); (case h2 => (first | exact norm_eq rfl | ((conv => lhs; whnf) <;> exact rfl))); (case h3 => (first | exact norm_eq rfl | ((conv => lhs; whnf) <;> exact rfl))))
      exact ⟨⟨fun _ => by rw [hJ, judge1, if_neg hfi, find_some hx9 hxp hfirst], fun h => absurd ⟨rfl, hok⟩ h⟩, hfwn⟩
  have hJ : judgeV l pid ep fi ys.length = judge1 x.nx x.rs fi ys.length := by rw [judgeV, if_neg hp0, hg]; exact (if_neg hep).trans (if_neg hep2)
  ((iterate 5 (((apply vL_val); (case h => ((apply opv_E); exact rfl))))); apply vL_nil; apply seqP_normal; (iterate 2 (apply vC_seq)); apply vC_region; ((apply vL_val); (case h => ((apply opv_E); exact rfl))); ((apply vL_val); (case h => ((apply opv_not); exact rfl))); ((apply vL_val); (case h => ((apply opv_E); exact rfl))); (iterate 3 (((apply vL_unwanted'); exact rfl; exact rfl))); ((apply vL_val); (case h => ((apply opv_E); exact rfl))); apply vL_nil; apply seqP_normal; ((apply vC_cond_false); exact rfl); apply vC_skip; apply seqP_normal; apply vC_seq; apply vC_region; ((apply vL_val); (case h => (apply opw_alloc))); apply vL_nil; apply seqP_normal; (iterate 2 (apply vC_seq)); apply vC_region; ((apply vL_val); (case h => ((apply opv_E); exact rfl))); apply vL_nil; apply seqP_normal; ((apply vC_cond_true); exact rfl); apply vC_region; ((apply vL_val); (case h => ((apply opv_move); ((conv => lhs; whnf) <;> exact rfl)))); ((apply vL_val); (case h => ((apply opv_E); exact rfl))); ((apply vL_val); (case h => ((apply opv_indexAddr); (first | exact norm_eq rfl | ((conv => lhs; whnf) <;> exact rfl)); exact rfl; (first | assumption | infer_instance); (first | omega | (simp only [List.length_map]; omega)); (first | omega | (simp only [List.length_map]; omega))))); ((apply vL_val); (case h => ((apply opv_ld_eln); exact rfl; exact rfl; (first | assumption | infer_instance); assumption))); ((apply vL_skip); (case h => ((apply ops_storen); (first | exact norm_eq rfl | ((conv => lhs; whnf) <;> exact rfl)); (first | exact norm_eq rfl | ((conv => lhs; whnf) <;> exact rfl)); exact rfl; (first | exact (fun u hu => EncOk.one _ u hu) | (intro u hu; simp at hu; rcases hu with rfl | rfl <;> (first | rfl | assumption)) | (intro u hu; simp at hu; rcases hu with rfl | rfl | rfl <;> (first | rfl | assumption)) | (intro u hu; simp at hu; rcases hu with rfl | rfl | rfl | rfl <;> (first | rfl | assumption))); (first | assumption | infer_instance); (first | decide | exact of_decide_eq_true rfl | (simp; done))))); apply vL_nil; apply seqP_normal; apply vC_seq; apply vC_block; apply vC_seq; apply vC_region; (iterate 2 (((apply vL_val); (case h => ((apply opv_E); exact rfl))))); ((apply vL_wanted); exact rfl); ((apply vL_val); (case h => ((apply opv_fieldAddr); exact rfl))); ((apply vL_wanted); exact rfl); ((apply vL_val); (case h => ((apply opv_loadb1); exact rfl; exact rfl; (first | assumption | infer_instance); exact rfl))); ((apply vL_wanted); exact rfl); ((apply vL_val); (case h => ((apply opv_fieldAddr); exact rfl))); ((apply vL_wanted); exact rfl); ((apply vL_val); (case h => ((apply opv_loadb1); exact rfl; exact rfl; (first | assumption | infer_instance); exact rfl))); ((apply vL_wanted); exact rfl); (iterate 3 (((apply vL_val); (case h => ((apply opv_E); exact rfl))))); apply vL_nil; apply seqP_normal; (refine vC_cond_dec rfl (fun h => by omega) (fun _ => ?_)); apply vC_seq; apply vC_region; ((apply vL_val); (case h => ((apply opv_E); exact rfl))); ((apply vL_val); (case h => ((apply opv_not); exact rfl))); ((apply vL_val); (case h => ((apply opv_E); exact rfl))); ((apply vL_wanted); exact rfl); ((apply vL_val); (case h => ((apply opv_fieldAddr); exact rfl))); ((apply vL_wanted); exact rfl); ((apply vL_val); (case h => ((apply opv_loadb1); exact rfl; exact rfl; (first | assumption | infer_instance); exact rfl))); ((apply vL_wanted); exact rfl); ((apply vL_val); (case h => ((apply opv_fieldAddr); exact rfl))); ((apply vL_wanted); exact rfl); ((apply vL_val); (case h => ((apply opv_loadb1); exact rfl; exact rfl; (first | assumption | infer_instance); exact rfl))); ((apply vL_wanted); exact rfl); (iterate 3 (((apply vL_val); (case h => ((apply opv_E); exact rfl))))); apply vL_nil; apply seqP_normal; (refine vC_cond_dec rfl (fun h => by omega) (fun _ => ?_)); apply vC_skip; apply blockP_normal; apply seqP_normal; (iterate 2 (apply vC_seq)); apply vC_region; ((apply vL_val); (case h => ((apply opv_fieldAddr); exact rfl))); ((apply vL_val); (case h => ((apply opv_loadb1); exact rfl; exact rfl; (first | assumption | infer_instance); exact rfl))); ((apply vL_val); (case h => ((apply opv_fieldAddr); exact rfl))); ((apply vL_val); (case h => ((apply opv_loadb1); exact rfl; exact rfl; (first | assumption | infer_instance); exact rfl))); ((apply vL_val); (case h => ((apply opv_E); exact rfl))); apply vL_nil; apply seqP_normal)
  refine vC_gen (fun w' => Fr No w4 w' ∧ Blk w'.heap w4.heap.size [.int .i64 x.pid, .int .i64 x.ep, .int .i64 x.nx, x.rv.1] 59) ⟨by (repeat (first | exact Fr.refl _ _ | assumption | with_reducible apply Fr.allocSet | with_reducible apply Fr.alloc | with_reducible apply Fr.drewN | with_reducible apply Fr.drew | ((with_reducible apply Fr.set); rotate_left; (right; ((try simp only [alloc_size]); omega))) | (refine Fr.trans ?_ (by assumption)))), Blk.as (c := prE x) inferInstance rfl⟩ ?_
  rintro w5 ⟨hf5, h9⟩
  generalize w4.heap.size = pb at h9 ⊢
  have hxo := x.rv.2
  have hfw := hf14.trans hf5
  have hb5 := hbb4.frN hf5
  have hb5' := hbb4'.frN hf5
  have hrb5 := hrb.frN hfw
  have hr9 : Rd w5.heap 3 rcE x.rv.1 x.rs := (hin x (List.mem_of_getElem? hx)).frN hfw
  by_cases hfi : fi = x.nx
  · ((refine vC_cond_dec rfl (fun _ => ?_) (fun h => by omega)); apply vC_seq; apply vC_region; (iterate 3 (((apply vL_val); (case h => ((apply opv_E); exact rfl))))); apply vL_nil; apply seqP_normal; apply vC_ret; apply seqP_ret)
    (apply ret3; (case h1 => (first | exact norm_eq rfl | ((conv => lhs; whnf) <;> exact rfl))); (case h2 => (first | exact norm_eq rfl | ((conv => lhs; whnf) <;> exact rfl))); (case h3 => (first | exact norm_eq rfl | ((conv => lhs; whnf) <;> exact rfl))))
    exact ⟨⟨fun _ => by rw [hJ, judge1, if_pos hfi], fun h => absurd ⟨rfl, hok⟩ h⟩, hfw⟩
  ((refine vC_cond_dec rfl (fun h => by omega) (fun _ => ?_)); apply vC_skip; apply seqP_normal; apply vC_seq; apply vC_region; ((apply vL_val); (case h => ((apply opv_makeFunc); exact rfl))); ((apply vL_val); (case h => ((apply opv_E); exact rfl))); apply vL_nil; apply seqP_normal; (iterate 2 (apply vC_seq)); apply vC_region; ((apply vL_val); (case h => ((apply opv_fieldAddr); exact rfl))); ((apply vL_val); (case h => ((apply opv_loadb1); exact rfl; exact rfl; (first | assumption | infer_instance); exact rfl))); ((apply vL_val); (case h => ((apply opv_E); exact rfl))))
  refine vL_callF rfl (indexFunc_rc _ _ (fun r => decide (r.1 = fi ∧ r.2.1 = (ys.length : Int))) x.rs _ 14 [pt bb] hr9 rfl (fun x w1 hx hf => judge1c x w1 (hb5.frN hf) (hrb5.frN hf))) rfl ?_
  rintro _ w9 ⟨hf9, ⟨rfl, hno⟩ | ⟨k9, rfl, hk9, ⟨x9, hx9, hxp⟩, hfirst⟩⟩
  · have hbn := hb5'.frN hf9
    have h9n := h9.frN hf9
    have hfwn := hfw.trans hf9
    by_cases hlt : fi < x.nx
    · (((apply vL_val); (case h => ((apply opv_E); exact rfl))); apply vL_nil; apply seqP_normal; apply vC_seq; apply vC_region; (iterate 2 (((apply vL_val); (case h => ((apply opv_E); exact rfl))))); apply vL_nil; apply seqP_normal; ((apply vC_cond_false); exact rfl); apply vC_skip; apply seqP_normal; (iterate 2 (apply vC_seq)); apply vC_region; ((apply vL_val); (case h => ((apply opv_fieldAddr); exact rfl))); ((apply vL_val); (case h => ((apply opv_loadb1); exact rfl; exact rfl; (first | assumption | infer_instance); exact rfl))); ((apply vL_val); (case h => ((apply opv_fieldAddr); exact rfl))); ((apply vL_val); (case h => ((apply opv_loadb1); exact rfl; exact rfl; (first | assumption | infer_instance); exact rfl))); ((apply vL_val); (case h => ((apply opv_E); exact rfl))); apply vL_nil; apply seqP_normal; (refine vC_cond_dec rfl (fun _ => ?_) (fun h => by omega)); apply vC_seq; apply vC_region; (iterate 3 (((apply vL_val); (case h => ((apply opv_E); exact rfl))))); apply vL_nil; apply seqP_normal; apply vC_ret; apply seqP_ret)
      (apply ret3; (case h1 => (first | exact norm_eq rfl | ((conv => lhs; whnf) <;> exact rfl))); (case h2 => (first | exact norm_eq rfl | ((conv => lhs; whnf) <;> exact rfl))); (case h3 => (first | exact norm_eq rfl | ((conv => lhs; whnf) <;> exact rfl))))
      exact ⟨⟨fun _ => by rw [hJ, judge1, if_neg hfi, find_none hno]; exact (if_pos hlt).symm, fun h => absurd ⟨rfl, hok⟩ h⟩, hfwn⟩
    · (((apply vL_val); (case h => ((apply opv_E); exact rfl))); apply vL_nil; apply seqP_normal; apply vC_seq; apply vC_region; (iterate 2 (((apply vL_val); (case h => ((apply opv_E); exact rfl))))); apply vL_nil; apply seqP_normal; ((apply vC_cond_false); exact rfl); apply vC_skip; apply seqP_normal; (iterate 2 (apply vC_seq)); apply vC_region; ((apply vL_val); (case h => ((apply opv_fieldAddr); exact rfl))); ((apply vL_val); (case h => ((apply opv_loadb1); exact rfl; exact rfl; (first | assumption | infer_instance); exact rfl))); ((apply vL_val); (case h => ((apply opv_fieldAddr); exact rfl))); ((apply vL_val); (case h => ((apply opv_loadb1); exact rfl; exact rfl; (first | assumption | infer_instance); exact rfl))); ((apply vL_val); (case h => ((apply opv_E); exact rfl))); apply vL_nil; apply seqP_normal; (refine vC_cond_dec rfl (fun h => by omega) (fun _ => ?_)); apply vC_skip; apply seqP_normal; apply vC_seq; apply vC_region; (iterate 3 (((apply vL_val); (case h => ((apply opv_E); exact rfl))))); apply vL_nil; apply seqP_normal; apply vC_ret)
      (apply ret3; (case h1 => (first | exact norm_eq rfl | ((conv => lhs; whnf) <;> exact rfl))); (case h2 => (first | exact norm_eq rfl | ((conv => lhs; whnf) <;> exact rfl))); (case h3 => (first | exact norm_eq rfl | ((conv => lhs; whnf) <;> exact rfl))))
      exact ⟨⟨fun _ => by rw [hJ, judge1, if_neg hfi, find_none hno]; exact (if_neg hlt).symm, fun h => absurd ⟨rfl, hok⟩ h⟩, hfwn⟩
  · have h9n := h9.frN hf9
    have hr9n := hr9.frN hf9
    have hfwn := hfw.trans hf9
    (((apply vL_val); (case h => ((apply opv_E); exact rfl))); apply vL_nil; apply seqP_normal; apply vC_seq; apply vC_region; (iterate 2 (((apply vL_val); (case h => ((apply opv_E); exact rfl))))); apply vL_nil; apply seqP_normal; ((apply vC_cond_true); exact rfl); apply vC_seq; apply vC_region; ((apply vL_val); (case h => ((apply opv_fieldAddr); exact rfl))); ((apply vL_val); (case h => ((apply opv_loadb1); exact rfl; exact rfl; (first | assumption | infer_instance); exact rfl))); ((apply vL_val); (case h => ((apply opv_E); exact rfl))); ((apply vL_val); (case h => ((apply opv_indexAddr); (first | exact norm_eq rfl | ((conv => lhs; whnf) <;> exact rfl)); exact rfl; (first | assumption | infer_instance); (first | omega | (simp only [List.length_map]; omega)); (first | omega | (simp only [List.length_map]; omega))))); ((apply vL_val); (case h => ((apply opv_fieldAddr); exact rfl))); ((apply vL_val); (case h => ((apply opv_ld_el); exact rfl; exact rfl; (first | assumption | infer_instance); assumption; exact rfl))); (iterate 3 (((apply vL_val); (case h => ((apply opv_E); exact rfl))))); apply vL_nil; apply seqP_normal; apply vC_ret; apply seqP_ret)
    (apply ret3; (case h1 => (first | exact norm_eq rfl | ((conv => lhs; whnf) <;> exact rfl))); (case h2 => (first | exact norm_eq rfl | ((conv => lhs; whnf) <;> exact rfl))); (case h3 => (first | exact norm_eq rfl | ((conv => lhs; whnf) <;> exact rfl))))
    exact ⟨⟨fun _ => by rw [hJ, judge1, if_neg hfi, find_some hx9 hxp hfirst], fun h => absurd ⟨rfl, hok⟩ h⟩, hfwn⟩
end Go.Proofs.Ytffgecomdlnngaa

set_option maxRecDepth 100000
namespace Go.Proofs.Ytffgecomdlnngaa
open Go Go.Eng
theorem clone_pr (v : Value) (xs : List PR) (w : World) (hr : Rd w.heap 4 prE v xs) (hbig : xs.length * 48 ≤ 140737488355328) :
    Rets Try.prog 16 #[v] w fun u w' => Fr No w w' ∧ Own w'.heap 59 4 prE u xs ∧ (∀ b, own u = some b → w.heap.size ≤ b) ∧ u.oneCell' = true := by
  have hs := hr.small
  refine rets_of Try.func16 rfl Try.ntmps16 rfl rfl (by kernel_rfl) ?_
  rcases hr.shape with ⟨rfl, none | a, rfl⟩ | ⟨b, o, c, rfl, hc⟩
  · (apply vC_seq; apply vC_region; ((apply vL_val); (case h => ((apply opv_E); exact rfl))); apply vL_nil; apply seqP_normal; (iterate 2 (apply vC_seq)); apply vC_region; ((apply vL_val); (case h => ((apply opv_E); exact rfl))); ((apply vL_val); (case h => ((apply opv_eql_snil); exact rfl; exact rfl))); apply vL_nil; apply seqP_normal; ((apply vC_cond_true); exact rfl); apply vC_seq; apply vC_region; ((apply vL_val); (case h => ((apply opv_E); exact rfl))); apply vL_nil; apply seqP_normal; apply vC_ret; apply seqP_ret)
    (apply ret1; (case h1 => (first | exact norm_eq rfl | ((conv => lhs; whnf) <;> exact rfl))))
    exact ⟨Fr.refl _ _, Own.nil _ _ _ _, fun b hb => (by cases hb), rfl⟩
  · (apply vC_seq; apply vC_region; ((apply vL_val); (case h => ((apply opv_E); exact rfl))); apply vL_nil; apply seqP_normal; (iterate 2 (apply vC_seq)); apply vC_region; ((apply vL_val); (case h => ((apply opv_E); exact rfl))); ((apply vL_val); (case h => ((apply opv_eql_snil); exact rfl; exact rfl))); apply vL_nil; apply seqP_normal; ((apply vC_cond_false); exact rfl); apply vC_skip; apply seqP_normal; apply vC_seq; apply vC_region; ((apply vL_val); (case h => ((apply opw_buildSl); exact rfl; exact rfl; exact rfl; (first | exact (rfl : _ = some []) | exact (rfl : _ = some [_]) | exact (rfl : _ = some [_, _]) | exact (rfl : _ = some [_, _, _]) | exact (rfl : _ = some [_, _, _, _]) | exact (rfl : _ = some [_, _, _, _, _]) | exact (rfl : _ = some [_, _, _, _, _, _]) | exact (rfl : _ = some [_, _, _, _, _, _, _]) | exact (rfl : _ = some [_, _, _, _, _, _, _, _]) | exact (rfl : _ = some [_, _, _, _, _, _, _, _, _]) | exact (rfl : _ = some [_, _, _, _, _, _, _, _, _, _]) | exact (rfl : _ = some [_, _, _, _, _, _, _, _, _, _, _]) | exact (rfl : _ = some [_, _, _, _, _, _, _, _, _, _, _, _]) | exact (rfl : _ = some [_, _, _, _, _, _, _, _, _, _, _, _, _]) | exact (rfl : _ = some [_, _, _, _, _, _, _, _, _, _, _, _, _, _]) | exact (rfl : _ = some [_, _, _, _, _, _, _, _, _, _, _, _, _, _, _]) | exact (rfl : _ = some [_, _, _, _, _, _, _, _, _, _, _, _, _, _, _, _]))))); ((apply vL_val); (case h => ((apply opv_E); exact rfl))))
    refine vL_append (enc := prE) (xs := []) (ys := []) (T := 59) (sz := 4) (by (first | exact norm_eq rfl | ((conv => lhs; whnf) <;> exact rfl))) (by (first | exact norm_eq rfl | ((conv => lhs; whnf) <;> exact rfl))) (Own.newN prE [] rfl rfl (by decide)) inferInstance rfl (by decide) ?_ ?_ ?_
    · simp [maxLen]
    · simp
    intro v' w2 ho hf hfresh hone _
    (((apply vL_val); (case h => ((apply opv_assign); ((conv => lhs; whnf) <;> exact rfl)))); apply vL_nil; apply seqP_normal; apply vC_ret)
    (apply ret1; (case h1 => (first | exact norm_eq rfl | ((conv => lhs; whnf) <;> exact rfl))))
    refine ⟨((Fr.refl No w).alloc _).trans' hf (fun k hk => .inr (by cases hk; exact Nat.le_refl _)), ho, fun b hb => ?_, hone⟩
    rcases hfresh b hb with h | h
    · cases h; exact Nat.le_refl _
    · rw [alloc_size] at h; omega
  · (apply vC_seq; apply vC_region; ((apply vL_val); (case h => ((apply opv_E); exact rfl))); apply vL_nil; apply seqP_normal; (iterate 2 (apply vC_seq)); apply vC_region; ((apply vL_val); (case h => ((apply opv_E); exact rfl))); ((apply vL_val); (case h => ((apply opv_eql_snil); exact rfl; exact rfl))); apply vL_nil; apply seqP_normal; ((apply vC_cond_false); exact rfl); apply vC_skip; apply seqP_normal; apply vC_seq; apply vC_region; ((apply vL_val); (case h => ((apply opw_buildSl); exact rfl; exact rfl; exact rfl; (first | exact (rfl : _ = some []) | exact (rfl : _ = some [_]) | exact (rfl : _ = some [_, _]) | exact (rfl : _ = some [_, _, _]) | exact (rfl : _ = some [_, _, _, _]) | exact (rfl : _ = some [_, _, _, _, _]) | exact (rfl : _ = some [_, _, _, _, _, _]) | exact (rfl : _ = some [_, _, _, _, _, _, _]) | exact (rfl : _ = some [_, _, _, _, _, _, _, _]) | exact (rfl : _ = some [_, _, _, _, _, _, _, _, _]) | exact (rfl : _ = some [_, _, _, _, _, _, _, _, _, _]) | exact (rfl : _ = some [_, _, _, _, _, _, _, _, _, _, _]) | exact (rfl : _ = some [_, _, _, _, _, _, _, _, _, _, _, _]) | exact (rfl : _ = some [_, _, _, _, _, _, _, _, _, _, _, _, _]) | exact (rfl : _ = some [_, _, _, _, _, _, _, _, _, _, _, _, _, _]) | exact (rfl : _ = some [_, _, _, _, _, _, _, _, _, _, _, _, _, _, _]) | exact (rfl : _ = some [_, _, _, _, _, _, _, _, _, _, _, _, _, _, _, _]))))); ((apply vL_val); (case h => ((apply opv_E); exact rfl))))
    refine vL_append (enc := prE) (xs := []) (ys := xs) (T := 59) (sz := 4) (by (first | exact norm_eq rfl | ((conv => lhs; whnf) <;> exact rfl))) (by (first | exact norm_eq rfl | ((conv => lhs; whnf) <;> exact rfl))) (Own.newN prE [] rfl rfl (by decide)) inferInstance rfl (by decide) ?_ ?_ ?_
    · simp [maxLen]; omega
    · simpa using hbig
    intro v' w2 ho hf hfresh hone _
    (((apply vL_val); (case h => ((apply opv_assign); ((conv => lhs; whnf) <;> exact rfl)))); apply vL_nil; apply seqP_normal; apply vC_ret)
    (apply ret1; (case h1 => (first | exact norm_eq rfl | ((conv => lhs; whnf) <;> exact rfl))))
    refine ⟨((Fr.refl No w).alloc _).trans' hf (fun k hk => .inr (by cases hk; exact Nat.le_refl _)), ho, fun b hb => ?_, hone⟩
    rcases hfresh b hb with h | h
    · cases h; exact Nat.le_refl _
    · rw [alloc_size] at h; omega
theorem clone_rc (v : Value) (xs : List (Int × Int × Int)) (w : World) (hr : Rd w.heap 3 rcE v xs) (hbig : xs.length * 24 ≤ 140737488355328) :
    Rets Try.prog 17 #[v] w fun u w' => Fr No w w' ∧ Own w'.heap 61 3 rcE u xs ∧ (∀ b, own u = some b → w.heap.size ≤ b) ∧ u.oneCell' = true := by
  have hs := hr.small
  refine rets_of Try.func17 rfl Try.ntmps17 rfl rfl (by kernel_rfl) ?_
  rcases hr.shape with ⟨rfl, none | a, rfl⟩ | ⟨b, o, c, rfl, hc⟩
  · (apply vC_seq; apply vC_region; ((apply vL_val); (case h => ((apply opv_E); exact rfl))); apply vL_nil; apply seqP_normal; (iterate 2 (apply vC_seq)); apply vC_region; ((apply vL_val); (case h => ((apply opv_E); exact rfl))); ((apply vL_val); (case h => ((apply opv_eql_snil); exact rfl; exact rfl))); apply vL_nil; apply seqP_normal; ((apply vC_cond_true); exact rfl); apply vC_seq; apply vC_region; ((apply vL_val); (case h => ((apply opv_E); exact rfl))); apply vL_nil; apply seqP_normal; apply vC_ret; apply seqP_ret)
    (apply ret1; (case h1 => (first | exact norm_eq rfl | ((conv => lhs; whnf) <;> exact rfl))))
    exact ⟨Fr.refl _ _, Own.nil _ _ _ _, fun b hb => (by cases hb), rfl⟩
  · (apply vC_seq; apply vC_region; ((apply vL_val); (case h => ((apply opv_E); exact rfl))); apply vL_nil; apply seqP_normal; (iterate 2 (apply vC_seq)); apply vC_region; ((apply vL_val); (case h => ((apply opv_E); exact rfl))); ((apply vL_val); (case h => ((apply opv_eql_snil); exact rfl; exact rfl))); apply vL_nil; apply seqP_normal; ((apply vC_cond_false); exact rfl); apply vC_skip; apply seqP_normal; apply vC_seq; apply vC_region; ((apply vL_val); (case h => ((apply opw_buildSl); exact rfl; exact rfl; exact rfl; (first | exact (rfl : _ = some []) | exact (rfl : _ = some [_]) | exact (rfl : _ = some [_, _]) | exact (rfl : _ = some [_, _, _]) | exact (rfl : _ = some [_, _, _, _]) | exact (rfl : _ = some [_, _, _, _, _]) | exact (rfl : _ = some [_, _, _, _, _, _]) | exact (rfl : _ = some [_, _, _, _, _, _, _]) | exact (rfl : _ = some [_, _, _, _, _, _, _, _]) | exact (rfl : _ = some [_, _, _, _, _, _, _, _, _]) | exact (rfl : _ = some [_, _, _, _, _, _, _, _, _, _]) | exact (rfl : _ = some [_, _, _, _, _, _, _, _, _, _, _]) | exact (rfl : _ = some [_, _, _, _, _, _, _, _, _, _, _, _]) | exact (rfl : _ = some [_, _, _, _, _, _, _, _, _, _, _, _, _]) | exact (rfl : _ = some [_, _, _, _, _, _, _, _, _, _, _, _, _, _]) | exact (rfl : _ = some [_, _, _, _, _, _, _, _, _, _, _, _, _, _, _]) | exact (rfl : _ = some [_, _, _, _, _, _, _, _, _, _, _, _, _, _, _, _]))))); ((apply vL_val); (case h => ((apply opv_E); exact rfl))))
    refine vL_append (enc := rcE) (xs := []) (ys := []) (T := 61) (sz := 3) (by (first | exact norm_eq rfl | ((conv => lhs; whnf) <;> exact rfl))) (by (first | exact norm_eq rfl | ((conv => lhs; whnf) <;> exact rfl))) (Own.newN rcE [] rfl rfl (by decide)) inferInstance rfl (by decide) ?_ ?_ ?_
    · simp [maxLen]
    · simp
    intro v' w2 ho hf hfresh hone _
    (((apply vL_val); (case h => ((apply opv_assign); ((conv => lhs; whnf) <;> exact rfl)))); apply vL_nil; apply seqP_normal; apply vC_ret)
    (apply ret1; (case h1 => (first | exact norm_eq rfl | ((conv => lhs; whnf) <;> exact rfl))))
    refine ⟨((Fr.refl No w).alloc _).trans' hf (fun k hk => .inr (by cases hk; exact Nat.le_refl _)), ho, fun b hb => ?_, hone⟩
    rcases hfresh b hb with h | h
    · cases h; exact Nat.le_refl _
    · rw [alloc_size] at h; omega
  · (apply vC_seq; apply vC_region; ((apply vL_val); (case h => ((apply opv_E); exact rfl))); apply vL_nil; apply seqP_normal; (iterate 2 (apply vC_seq)); apply vC_region; ((apply vL_val); (case h => ((apply opv_E); exact rfl))); ((apply vL_val); (case h => ((apply opv_eql_snil); exact rfl; exact rfl))); apply vL_nil; apply seqP_normal; ((apply vC_cond_false); exact rfl); apply vC_skip; apply seqP_normal; apply vC_seq; apply vC_region; ((apply vL_val); (case h => ((apply opw_buildSl); exact rfl; exact rfl; exact rfl; (first | exact (rfl : _ = some []) | exact (rfl : _ = some [_]) | exact (rfl : _ = some [_, _]) | exact (rfl : _ = some [_, _, _]) | exact (rfl : _ = some [_, _, _, _]) | exact (rfl : _ = some [_, _, _, _, _]) | exact (rfl : _ = some [_, _, _, _, _, _]) | exact (rfl : _ = some [_, _, _, _, _, _, _]) | exact (rfl : _ = some [_, _, _, _, _, _, _, _]) | exact (rfl : _ = some [_, _, _, _, _, _, _, _, _]) | exact (rfl : _ = some [_, _, _, _, _, _, _, _, _, _]) | exact (rfl : _ = some [_, _, _, _, _, _, _, _, _, _, _]) | exact (rfl : _ = some [_, _, _, _, _, _, _, _, _, _, _, _]) | exact (rfl : _ = some [_, _, _, _, _, _, _, _, _, _, _, _, _]) | exact (rfl : _ = some [_, _, _, _, _, _, _, _, _, _, _, _, _, _]) | exact (rfl : _ = some [_, _, _, _, _, _, _, _, _, _, _, _, _, _, _]) | exact (rfl : _ = some [_, _, _, _, _, _, _, _, _, _, _, _, _, _, _, _]))))); ((apply vL_val); (case h => ((apply opv_E); exact rfl))))
    refine vL_append (enc := rcE) (xs := []) (ys := xs) (T := 61) (sz := 3) (by (first | exact norm_eq rfl | ((conv => lhs; whnf) <;> exact rfl))) (by (first | exact norm_eq rfl | ((conv => lhs; whnf) <;> exact rfl))) (Own.newN rcE [] rfl rfl (by decide)) inferInstance rfl (by decide) ?_ ?_ ?_
    · simp [maxLen]; omega
    · simpa using hbig
    intro v' w2 ho hf hfresh hone _
    (((apply vL_val); (case h => ((apply opv_assign); ((conv => lhs; whnf) <;> exact rfl)))); apply vL_nil; apply seqP_normal; apply vC_ret)
    (apply ret1; (case h1 => (first | exact norm_eq rfl | ((conv => lhs; whnf) <;> exact rfl))))
    refine ⟨((Fr.refl No w).alloc _).trans' hf (fun k hk => .inr (by cases hk; exact Nat.le_refl _)), ho, fun b hb => ?_, hone⟩
    rcases hfresh b hb with h | h
    · cases h; exact Nat.le_refl _
    · rw [alloc_size] at h; omega
end Go.Proofs.Ytffgecomdlnngaa

set_option maxRecDepth 100000
namespace Go.Proofs.Ytffgecomdlnngaa
open Go Go.Eng
section
variable {P : Program} {e : Env} {w : World} {ty : TypeId} {p : String} {af : Array Edge}
theorem opw_clearN {x : Operand} {t E b o n c by' sz : Nat} {z : List Value} {cs : List Value} {T : TypeId} [TUnd P t (.slice E)] [TInfo P E sz by' z] (hx : ev e x = .slice (some ⟨b, o, none⟩) n c) (hz : z.length = sz) (hpos : 0 < sz) (hz1 : ∀ u ∈ z, u.oneCell' = true) (hb : Blk w.heap b cs T) (ho : o + n * sz ≤ cs.length) :
    OpV P ⟨none, .call ⟨.builtin .clear, #[x], #[t]⟩, ty, p, af, none⟩ e w (.tuple #[]) (w.setRow b (cs.take o ++ (List.replicate n z).flatten ++ cs.drop (o + n * sz)).toArray) := by
  obtain ⟨i, zv, h1, h2, h3, h4, h5⟩ := TInfo.out (P := P) (t := E)
  have hzv : ∀ w, (zeroValue E).run P w = .ok zv w := fun w => by simp [zeroValue, run_typeInfo' h1, h4]
  have hzc : (Builtin.zeroCells zv.cells n).toList = (List.replicate n z).flatten := by
    rw [h5]
    show (madeCells z.toArray (n * z.toArray.size)).toList = _
    rw [List.size_toArray, hz, zeros_eq hz hpos]
  have hu := run_underlying (TUnd.out (P := P) (t := t)) w
  have hfl : ((List.replicate n z).flatten).length = n * sz := by simp [hz]
  cases n with
  | zero =>
    have e1 : (cs.take o ++ (List.replicate 0 z).flatten ++ cs.drop (o + 0 * sz)).toArray = cs.toArray := by simp
    rw [e1, setRow_id hb]
    simp [OpV, execOp, resolve, invoke, builtin, hx, Builtin.clear_, hu]
  | succ n =>
    have hst := run_storeCells_at (P := P) b o T ((List.replicate (n + 1) z).flatten) 0 cs.toArray w hb.get (by rw [hfl]; simpa using ho) (fun u hu => by
      obtain ⟨l, h1, h2⟩ := List.mem_flatten.1 hu
      rw [List.eq_of_mem_replicate h1] at h2
      exact hz1 u h2)
    simp only [Nat.add_zero] at hst
    simp [OpV, execOp, resolve, invoke, builtin, hx, Builtin.clear_, hu, hzv, hzc]
    rw [hfl] at hst
    rw [hst]
    simp only [List.append_assoc]
    rfl
end
theorem deleteN_rc (v : Value) (xs : List (Int × Int × Int)) (i : Nat) (w : World) (hi : i < xs.length) (ho : Own w.heap 61 3 rcE v xs) :
    Rets Try.prog 19 #[v, .int .i64 i, .int .i64 ((i : Int) + 1)] w fun u w' => Fr (fun k => own v = some k) w w' ∧ Own w'.heap 61 3 rcE u (xs.take i ++ xs.drop (i + 1)) ∧ own u = own v ∧ u.oneCell' = true := by
  have hs := ho.rd.small
  rcases ho.shape with ⟨_, rfl⟩ | ⟨g, cap, cs, rfl, hb, hn, hm, hl, ht⟩
  · simp at hi
  have hl1 : (xs.take i).length = i := by simp; omega
  have hl2 : (xs.drop (i + 1)).length = xs.length - (i + 1) := by simp
  have hm' : cap ≤ 9223372036854775807 := by unfold maxLen at hm; omega
  have hf1 : ((xs.take i ++ xs.drop (i + 1)).flatMap rcE).length = (i + (xs.length - (i + 1))) * 3 := by rw [flatMap_len _ (fun x _ => EncOk.len x)]; simp; omega
  have hf2 : ((xs.drop (i + 1)).flatMap rcE).length = (xs.length - (i + 1)) * 3 := by rw [flatMap_len _ (fun x _ => EncOk.len x)]; simp
  have htk : cs.take (i * 3) = (xs.take i).flatMap rcE := by rw [flatMap_take xs i ho.size, ← ht, List.take_take]; congr 1; omega
  have hrep : ∀ m : Nat, ((List.replicate m [Value.int .i64 0, Value.int .i64 0, Value.int .i64 0]).flatten).length = m * 3 := fun m => by simp
  refine rets_of Try.func19 rfl Try.ntmps19 rfl rfl (by kernel_rfl) ?_
  (apply vC_seq; apply vC_region; ((apply vL_val); (case h => ((apply opv_E); exact rfl))); apply vL_nil; apply seqP_normal; apply vC_seq; apply vC_region; (iterate 4 (((apply vL_val); (case h => ((apply opv_E); exact rfl))))); ((apply vL_val); (case h => ((apply opv_lenc); exact rfl))); ((apply vL_val); (case h => ((apply opv_slice3); exact rfl; exact rfl; exact rfl; exact rfl; (first | omega | (simp only [List.length_map]; omega)); (first | omega | (simp only [List.length_map]; omega)); (first | omega | (simp only [List.length_map]; omega)); (first | omega | (simp only [List.length_map]; omega))))); apply vL_nil; apply seqP_normal; (iterate 2 (apply vC_seq)); apply vC_region; (iterate 3 (((apply vL_val); (case h => ((apply opv_E); exact rfl))))); apply vL_nil; apply seqP_normal)
  refine vC_cond_dec rfl (fun h => by omega) (fun h => ?_)
  (apply vC_skip; apply seqP_normal; apply vC_seq; apply vC_region; ((apply vL_val); (case h => ((apply opv_E); exact rfl))); ((apply vL_val); (case h => ((apply opv_lenc); exact rfl))); ((apply vL_val); (case h => ((apply opv_E); exact rfl))); apply vL_nil; apply seqP_normal; apply vC_seq)
  refine vC_draw' (fun _ => True) trivial ?_
  ((apply (tk 0)); (case hi => exact rfl); (case hf => kernel_rfl); (case hS => trivial); (case hy => (intro _ _; (((apply opv_E); exact rfl)))))
  ((apply (tk 1)); (case hi => exact rfl); (case hf => kernel_rfl); (case hS => trivial); (case hy => (intro _ _; (((apply opv_E); exact rfl)))))
  ((apply (tk 2)); (case hi => exact rfl); (case hf => kernel_rfl); (case hS => trivial); (case hy => (intro _ _; (((apply opv_slice_hi'); exact rfl; exact rfl; (first | omega | (simp only [List.length_map]; omega)); (first | omega | (simp only [List.length_map]; omega)))))))
  ((apply (tk 3)); (case hi => exact rfl); (case hf => kernel_rfl); (case hS => trivial); (case hy => (intro _ _; (((apply opv_E); exact rfl)))))
  ((apply (tk 4)); (case hi => exact rfl); (case hf => kernel_rfl); (case hS => trivial); (case hy => (intro _ _; (((apply opv_E); exact rfl)))))
  ((apply (tk 5)); (case hi => exact rfl); (case hf => kernel_rfl); (case hS => trivial); (case hy => (intro _ _; (((apply opv_slice_lo'); exact rfl; exact rfl; (first | omega | (simp only [List.length_map]; omega)); (first | omega | (simp only [List.length_map]; omega)))))))
  have et : ((i : Int) + 1).toNat = i + 1 := by omega
  refine tkv 6 rfl (by kernel_rfl) trivial (opw_append_room (enc := rcE) (xs := xs.take i) (ys := xs.drop ((i : Int) + 1).toNat) (cs := cs) (by (first | exact norm_eq rfl | ((conv => lhs; whnf) <;> exact rfl))) (by (first | exact norm_eq rfl | ((conv => lhs; whnf) <;> exact rfl))) (by rw [hl1]; omega) (by rw [et, hl2]) hb hl (Rd.dropIf ho.rd (by omega)) (by rw [hl1, et, hl2]; omega)) ?_
  rw [et, hl1, hl2]
  ((apply (tk 7)); (case hi => exact rfl); (case hf => kernel_rfl); (case hS => trivial); (case hy => (intro _ _; (((apply opv_E); exact rfl)))))
  refine vA_done (by kernel_rfl) trivial ?_
  have hb2 := Blk.set (w := w.drew) (b := g) (c := cs) (T := 61) (c' := cs.take (i * 3) ++ (xs.drop (i + 1)).flatMap rcE ++ cs.drop (i * 3 + (xs.length - (i + 1)) * 3)) hb
  (apply seqP_normal; apply vC_seq; apply vC_region; (iterate 2 (((apply vL_val); (case h => ((apply opv_E); exact rfl))))); ((apply vL_val); (case h => ((apply opv_lenc); exact rfl))); ((apply vL_val); (case h => ((apply opv_E); exact rfl))); ((apply vL_val); (case h => ((apply opv_slice_lh'); exact rfl; exact rfl; exact rfl; (first | omega | (simp only [List.length_map]; omega)); (first | omega | (simp only [List.length_map]; omega)); (first | omega | (simp only [List.length_map]; omega))))))
  apply vL_val
  (case h => (refine opw_clearN (sz := 3) (z := [Value.int .i64 0, Value.int .i64 0, Value.int .i64 0]) (by (first | exact norm_eq rfl | ((conv => lhs; whnf) <;> exact rfl))) rfl (by decide) (by decide) hb2 ?_; rw [if_neg (by omega)]; simp only [List.length_append, List.length_take, List.length_drop, hf2]; omega))
  (apply vL_nil; apply seqP_normal; apply vC_seq; apply vC_region; (iterate 2 (((apply vL_val); (case h => ((apply opv_E); exact rfl))))); apply vL_nil; apply seqP_normal; apply vC_ret)
  (apply ret1; (case h1 => (first | exact norm_eq rfl | ((conv => lhs; whnf) <;> exact rfl))))
  refine ⟨?_, ?_, rfl, rfl⟩
  · exact Fr.set (Fr.set (Fr.drew (Fr.refl (fun k => own (Value.slice (some ⟨g, 0, none⟩) xs.length cap) = some k) w)) g _ (.inl rfl)) g _ (.inl rfl)
  · refine ⟨fun x _ => EncOk.len x, .inr ⟨g, cap, _, ?_, Blk.set hb2, ?_, hm, ?_, ?_⟩⟩
    · rw [List.length_append, hl1, hl2]
    · rw [List.length_append, hl1, hl2]; omega
    · rw [if_neg (by omega)]; simp only [List.length_append, List.length_take, List.length_drop, hrep, hf2]; omega
    · rw [if_neg (by omega)]
      have hpre : (cs.take (i * 3) ++ (xs.drop (i + 1)).flatMap rcE) = (xs.take i ++ xs.drop (i + 1)).flatMap rcE := by rw [List.flatMap_append, htk]
      rw [hpre]
      have hlen : (xs.take i ++ xs.drop (i + 1)).length * 3 = (i + (xs.length - (i + 1))) * 3 := by rw [List.length_append, hl1, hl2]
      rw [hlen, List.append_assoc (List.take _ _)]
      rw [show 0 + ((i + (xs.length - (i + 1)) : Nat) : Int).toNat * 3 = (i + (xs.length - (i + 1))) * 3 by omega]
      rw [List.take_append_of_le_length (l₁ := List.take _ _) (by simp only [List.length_append, List.length_take, hf1]; omega), List.take_take, Nat.min_self, List.take_left' hf1]
end Go.Proofs.Ytffgecomdlnngaa

set_option maxRecDepth 100000
namespace Go.Proofs.Ytffgecomdlnngaa
open Go Go.Eng
theorem run_overlaps25 (w : World) {a b oa ob la ca lb cb : Nat} {xs ys : List Value} {T U : TypeId} (ha : Blk w.heap a xs T) (hb : Blk w.heap b ys U) (hne : a ≠ b) (hy : 0 < ys.length) :
    (callFunc 24 #[.slice (some ⟨a, oa, none⟩) la ca, .slice (some ⟨b, ob, none⟩) lb cb]).run Try.prog w = .ok (.value (.bool false)) w := by
  have hsz : ∀ w, (Go.sizeOf 59).run Try.prog w = .ok 4 w := fun w => by
    obtain ⟨i, zv, h1, h2, h3, h4, h5⟩ := TInfo.out (P := Try.prog) (t := 59) (z := [.int .i64 0, .int .i64 0, .int .i64 0, .slice none 0 0])
    simp [Go.sizeOf, run_typeInfo' h1, h2]
  rw [run_callFunc_extern Try.func24 (by kernel_rfl) (by kernel_rfl) (by kernel_rfl) (e := Extern.SlicesOverlaps.overlaps #[23, 23] #[4]) (by kernel_rfl),
    Lib.run_overlaps_apart w 23 4 59 Try.underlying23 4 hsz ⟨a, oa, none⟩ ⟨b, ob, none⟩ la ca lb cb hne T U xs.length ys.length (by simp [World.shape?, ha.get]) (by simp [World.shape?, hb.get]) (by omega) (by simp [World.frozen?, ha.get]) (by simp [World.frozen?, ha.get])]
  rfl
end Go.Proofs.Ytffgecomdlnngaa

set_option maxRecDepth 100000
namespace Go.Proofs.Ytffgecomdlnngaa
open Go Go.Eng
theorem opv_conv_u8 {P : Program} {d : Option Nat} {ty t s : TypeId} {p : String} {af : Array Edge} {e : Env} {w : World} {D : TypeDesc} {x : Operand} {k : IntKind} {a : Int} [hs : TUnd P s D] [ht : TUnd P t (.int .u8)] (hx : ev e x = .int k a) (h : 0 ≤ a ∧ a ≤ 255) : OpV P ⟨d, .convert s t x, ty, p, af, none⟩ e w (.int .u8 a) w := by
  have hw : IntKind.u8.wrap a = a := by
    simp [IntKind.wrap, IntKind.bits, IntKind.signed]
    omega
  simp [OpV, execOp, hx, convert, run_underlying hs.out, run_underlying ht.out, Conv.intToInt, hw]
theorem batch25 (pid ep fi : Int) (n : Nat) (w : World) (hn : n ≤ 100) :
    Rets Try.prog 7 #[.int .i64 pid, .int .i64 ep, .int .i64 fi, .int .i64 n] w fun u w' => ∃ (rv : OV) (ys : List (OV × Nat)), u = .agg #[.int .i64 pid, .int .i64 ep, .int .i64 fi, rv.1] ∧ Own w'.heap 54 1 byE rv.1 ys ∧ ByOk ys ∧ ys.map (·.2) = List.replicate n 1 ∧ (∀ b, own rv.1 = some b → w.heap.size ≤ b) ∧ Fr No w w' := by
  refine rets_of Try.func7 rfl Try.ntmps7 rfl rfl (by kernel_rfl) ?_
  (apply vC_seq; apply vC_region; ((apply vL_val); (case h => (apply opw_alloc))); apply vL_nil; apply seqP_normal; apply vC_seq; apply vC_region; (iterate 3 (((apply vL_val); (case h => ((apply opv_E); exact rfl))))); ((apply vL_val); (case h => ((apply opv_buildS); exact rfl; (first | exact (rfl : _ = some []) | exact (rfl : _ = some [_]) | exact (rfl : _ = some [_, _]) | exact (rfl : _ = some [_, _, _]) | exact (rfl : _ = some [_, _, _, _]) | exact (rfl : _ = some [_, _, _, _, _]) | exact (rfl : _ = some [_, _, _, _, _, _]) | exact (rfl : _ = some [_, _, _, _, _, _, _]) | exact (rfl : _ = some [_, _, _, _, _, _, _, _]) | exact (rfl : _ = some [_, _, _, _, _, _, _, _, _]) | exact (rfl : _ = some [_, _, _, _, _, _, _, _, _, _]) | exact (rfl : _ = some [_, _, _, _, _, _, _, _, _, _, _]) | exact (rfl : _ = some [_, _, _, _, _, _, _, _, _, _, _, _]) | exact (rfl : _ = some [_, _, _, _, _, _, _, _, _, _, _, _, _]) | exact (rfl : _ = some [_, _, _, _, _, _, _, _, _, _, _, _, _, _]) | exact (rfl : _ = some [_, _, _, _, _, _, _, _, _, _, _, _, _, _, _]) | exact (rfl : _ = some [_, _, _, _, _, _, _, _, _, _, _, _, _, _, _, _]))))); ((apply vL_val); (case h => (apply opw_alloc))); ((apply vL_skip); (case h => ((apply ops_storen); (first | exact norm_eq rfl | ((conv => lhs; whnf) <;> exact rfl)); (first | exact norm_eq rfl | ((conv => lhs; whnf) <;> exact rfl)); exact rfl; (first | exact (fun u hu => EncOk.one _ u hu) | (intro u hu; simp at hu; rcases hu with rfl | rfl <;> (first | rfl | assumption)) | (intro u hu; simp at hu; rcases hu with rfl | rfl | rfl <;> (first | rfl | assumption)) | (intro u hu; simp at hu; rcases hu with rfl | rfl | rfl | rfl <;> (first | rfl | assumption))); (first | assumption | infer_instance); (first | decide | exact of_decide_eq_true rfl | (simp; done))))); apply vL_nil; apply seqP_normal; (iterate 2 (apply vC_seq)); apply vC_region; ((apply vL_val); (case h => ((apply opv_E); exact rfl))); apply vL_nil; apply seqP_normal; apply vC_block)
  have e9 : (w.alloc (.cells #[.int .i64 0, .int .i64 0, .int .i64 0, .slice none 0 0] 33)).heap.size = w.heap.size + 1 := by simp
  refine vC_gen (fun w' => Fr No w w' ∧ Blk w'.heap w.heap.size [.int .i64 0, .int .i64 0, .int .i64 0, .slice none 0 0] 33 ∧ Blk w'.heap (w.heap.size + 1) [.int .i64 pid, .int .i64 ep, .int .i64 fi, .slice none 0 0] 33) ?_ ?_
  · refine ⟨by (repeat (first | exact Fr.refl _ _ | assumption | with_reducible apply Fr.allocSet | with_reducible apply Fr.alloc | with_reducible apply Fr.drewN | with_reducible apply Fr.drew | ((with_reducible apply Fr.set); rotate_left; (right; ((try simp only [alloc_size]); omega))) | (refine Fr.trans ?_ (by assumption)))), inferInstance, ?_⟩
    rw [← e9]
    infer_instance
  rintro w1 ⟨hf1, h8, h9⟩
  rw [e9]
  have hb8 : w.heap.size ≤ w.heap.size := Nat.le_refl _
  have hb9 : w.heap.size ≤ w.heap.size + 1 := Nat.le_succ _
  have hne : w.heap.size ≠ w.heap.size + 1 := by omega
  have hb8' : ∃ b8, b8 = w.heap.size ∧ w.heap.size ≤ b8 := ⟨_, rfl, Nat.le_refl _⟩
  obtain ⟨b8, e8, hb8⟩ := hb8'
  obtain ⟨b9, e9', hb9⟩ : ∃ b9, b9 = w.heap.size + 1 ∧ w.heap.size ≤ b9 := ⟨_, rfl, Nat.le_succ _⟩
  rw [← e9'] at h9 ⊢
  rw [← e8] at h8 ⊢
  replace hne : b8 ≠ b9 := by omega
  (apply vC_loop1 268403712 10 (fun u w' => ∃ (k : Nat) (rv : OV) (ys : List (OV × Nat)), u = .int .i64 k ∧ k ≤ n ∧ Fr No w w' ∧ Blk w'.heap b8 [.int .i64 0, .int .i64 0, .int .i64 0, .slice none 0 0] 33 ∧ Blk w'.heap b9 [.int .i64 pid, .int .i64 ep, .int .i64 fi, rv.1] 33 ∧ Own w'.heap 54 1 byE rv.1 ys ∧ ByOk ys ∧ ys.map (·.2) = List.replicate k 1 ∧ ∀ b, own rv.1 = some b → w.heap.size ≤ b) (fun u _ => n - (RowKit.intOf u).toNat)); (case h1 => (first | exact norm_eq rfl | ((conv => lhs; whnf) <;> exact rfl)))
  case h0 => exact ⟨0, ⟨.slice none 0 0, rfl⟩, [], rfl, by omega, hf1, h8, h9, Own.nil _ _ _ _, fun y hy => (by cases hy), rfl, fun b hb => (by cases hb)⟩
  case round =>
  rintro junk _ w2 ⟨k, rv, ys, rfl, hk, hf2, h82, h92, ho, hy, hm, hfr⟩
  have hrv := rv.2
  by_cases hkn : k < n
  · ((iterate 2 (apply vC_seq)); apply vC_region; (iterate 3 (((apply vL_val); (case h => ((apply opv_E); exact rfl))))); apply vL_nil; apply seqP_normal; (refine vC_cond_dec rfl (fun _ => ?_) (fun h => by omega)); apply vC_skip; apply seqP_normal; apply vC_seq; apply vC_block; apply vC_region; ((apply vL_val); (case h => ((apply opv_fieldAddr); exact rfl))); ((apply vL_val); (case h => ((apply opv_loadb1); exact rfl; exact rfl; (first | assumption | infer_instance); exact rfl))); ((apply vL_val); (case h => ((apply opv_E); exact rfl))))
    refine vL_val (opv_conv_u8 rfl (by omega)) ?_
    ((iterate 2 (((apply vL_val); (case h => ((apply opw_buildSl); exact rfl; exact rfl; exact rfl; (first | exact (rfl : _ = some []) | exact (rfl : _ = some [_]) | exact (rfl : _ = some [_, _]) | exact (rfl : _ = some [_, _, _]) | exact (rfl : _ = some [_, _, _, _]) | exact (rfl : _ = some [_, _, _, _, _]) | exact (rfl : _ = some [_, _, _, _, _, _]) | exact (rfl : _ = some [_, _, _, _, _, _, _]) | exact (rfl : _ = some [_, _, _, _, _, _, _, _]) | exact (rfl : _ = some [_, _, _, _, _, _, _, _, _]) | exact (rfl : _ = some [_, _, _, _, _, _, _, _, _, _]) | exact (rfl : _ = some [_, _, _, _, _, _, _, _, _, _, _]) | exact (rfl : _ = some [_, _, _, _, _, _, _, _, _, _, _, _]) | exact (rfl : _ = some [_, _, _, _, _, _, _, _, _, _, _, _, _]) | exact (rfl : _ = some [_, _, _, _, _, _, _, _, _, _, _, _, _, _]) | exact (rfl : _ = some [_, _, _, _, _, _, _, _, _, _, _, _, _, _, _]) | exact (rfl : _ = some [_, _, _, _, _, _, _, _, _, _, _, _, _, _, _, _]))))))))
    have hyl : ys.length = k := by have := congrArg List.length hm; simpa using this
    refine vL_append (enc := byE) (xs := ys) (ys := [((⟨.slice (some ⟨w2.heap.size, 0, none⟩) 1 1, rfl⟩, 1) : OV × Nat)]) (by (first | exact norm_eq rfl | ((conv => lhs; whnf) <;> exact rfl))) (by (first | exact norm_eq rfl | ((conv => lhs; whnf) <;> exact rfl))) ((ho.frN (by (repeat (first | exact Fr.refl _ _ | assumption | with_reducible apply Fr.allocSet | with_reducible apply Fr.alloc | with_reducible apply Fr.drewN | with_reducible apply Fr.drew | ((with_reducible apply Fr.set); rotate_left; (right; ((try simp only [alloc_size]); omega))) | (refine Fr.trans ?_ (by assumption))))))) (Rd.new1 _ _ rfl) rfl (by decide) ?_ ?_ ?_
    · simp [maxLen]; omega
    · simp; omega
    intro v' w3 ho3 hf3 hfr3 hone3 hnil3
    have hfa : Fr No w2 ((w2.alloc (.cells #[.int .u8 (k : Int)] 5)).alloc (.cells #[.slice (some ⟨w2.heap.size, 0, none⟩) 1 1] 54)) := by (repeat (first | exact Fr.refl _ _ | assumption | with_reducible apply Fr.allocSet | with_reducible apply Fr.alloc | with_reducible apply Fr.drewN | with_reducible apply Fr.drew | ((with_reducible apply Fr.set); rotate_left; (right; ((try simp only [alloc_size]); omega))) | (refine Fr.trans ?_ (by assumption))))
    have hsa := hf2.size
    have h93 := (h92.frN hfa).fr hf3 (fun h => Own.ne_blk ho h92 (by decide) h)
    have h83 := (h82.frN hfa).fr hf3 (fun h => Own.ne_blk ho h82 (by decide) h)
    have hfw3 : Fr No w w3 := (hf2.trans hfa).trans' hf3 (fun j hj => .inr (hfr j hj))
    haveI hne1 : NeB b8 b9 := ⟨hne⟩
    (((apply vL_val); (case h => ((apply opv_fieldAddr); exact rfl))); ((apply vL_skip); (case h => ((apply ops_store1); (first | exact norm_eq rfl | ((conv => lhs; whnf) <;> exact rfl)); (first | exact norm_eq rfl | ((conv => lhs; whnf) <;> exact rfl)); (first | rfl | assumption); (first | assumption | infer_instance); (first | decide | exact of_decide_eq_true rfl | (simp; done))))); apply vL_nil; apply blockP_normal; apply seqP_normal; apply vC_region; ((apply vL_val); (case h => ((apply opv_E); exact rfl))); ((apply vL_val); (case h => ((apply opv_add); exact rfl; exact rfl; (first | omega | (simp only [List.length_map]; omega))))); ((apply vL_val); (case h => ((apply opv_E); exact rfl))); apply vL_nil; apply loopP_normal)
    (with_reducible apply end1); (case hs => (repeat (first | (with_reducible exact same_mask _ _ _) | with_reducible apply same_updN | ((with_reducible refine same_updO ?_ ?_); rotate_left; exact rfl) | ((with_reducible refine same_upd ?_ ?_); rotate_left; exact rfl) | ((with_reducible refine same_maskIn ?_ ?_); rotate_left; exact rfl)))); (case h1 => (first | exact norm_eq rfl | ((conv => lhs; whnf) <;> exact rfl)))
    · refine ⟨k + 1, ⟨v', hone3⟩, _, rfl, by omega, hfw3.set _ _ (.inr hb9), inferInstance, Blk.set h93, ho3.set (Own.ne_blk ho3 h93 (by decide)), fun y hy1 => ?_, ?_, fun b hb => ?_⟩
      · rcases List.mem_append.1 hy1 with h | h
        · exact hy y h
        · rw [List.mem_singleton.1 h]; exact ⟨_, _, rfl, by simp⟩
      · rw [List.map_append, hm, List.replicate_succ']; rfl
      · rcases hfr3 b hb with h | h
        · exact hfr b h
        · simp only [alloc_size] at h; omega
    · simp [RowKit.intOf]; omega
  · ((iterate 2 (apply vC_seq)); apply vC_region; (iterate 3 (((apply vL_val); (case h => ((apply opv_E); exact rfl))))); apply vL_nil; apply seqP_normal; (refine vC_cond_dec rfl (fun h => by omega) (fun _ => ?_)); apply vC_exit; apply seqP_exit; apply loopP_exit; apply blockP_exit; apply seqP_normal; apply vC_seq; apply vC_region; ((apply vL_val); (case h => ((apply opv_loadbC); exact rfl; exact rfl; (first | assumption | infer_instance); (first | exact (rfl : _ = [_]) | exact (rfl : _ = [_, _]) | exact (rfl : _ = [_, _, _]) | exact (rfl : _ = [_, _, _, _]) | exact (rfl : _ = [_, _, _, _, _]) | exact (rfl : _ = [_, _, _, _, _, _]) | exact (rfl : _ = [_, _, _, _, _, _, _]) | exact (rfl : _ = [_, _, _, _, _, _, _, _]) | exact (rfl : _ = [_, _, _, _, _, _, _, _, _]) | exact (rfl : _ = [_, _, _, _, _, _, _, _, _, _]) | exact (rfl : _ = [_, _, _, _, _, _, _, _, _, _, _]) | exact (rfl : _ = [_, _, _, _, _, _, _, _, _, _, _, _])); exact rfl))); ((apply vL_skip); (case h => ((apply ops_storen); (first | exact norm_eq rfl | ((conv => lhs; whnf) <;> exact rfl)); (first | exact norm_eq rfl | ((conv => lhs; whnf) <;> exact rfl)); exact rfl; (first | exact (fun u hu => EncOk.one _ u hu) | (intro u hu; simp at hu; rcases hu with rfl | rfl <;> (first | rfl | assumption)) | (intro u hu; simp at hu; rcases hu with rfl | rfl | rfl <;> (first | rfl | assumption)) | (intro u hu; simp at hu; rcases hu with rfl | rfl | rfl | rfl <;> (first | rfl | assumption))); (first | assumption | infer_instance); (first | decide | exact of_decide_eq_true rfl | (simp; done))))); apply vL_nil; apply seqP_normal; apply vC_ret)
    have hkn' : k = n := by omega
    subst hkn'
    have h84 := Blk.set (c' := [.int .i64 pid, .int .i64 ep, .int .i64 fi, rv.1]) h82
    (apply retC1; (case ha => exact rfl); (case hD => exact rfl); (case hb => (first | assumption | infer_instance)); (case hcs => (first | exact (rfl : _ = [_]) | exact (rfl : _ = [_, _]) | exact (rfl : _ = [_, _, _]) | exact (rfl : _ = [_, _, _, _]) | exact (rfl : _ = [_, _, _, _, _]) | exact (rfl : _ = [_, _, _, _, _, _]) | exact (rfl : _ = [_, _, _, _, _, _, _]) | exact (rfl : _ = [_, _, _, _, _, _, _, _]) | exact (rfl : _ = [_, _, _, _, _, _, _, _, _]) | exact (rfl : _ = [_, _, _, _, _, _, _, _, _, _]) | exact (rfl : _ = [_, _, _, _, _, _, _, _, _, _, _]) | exact (rfl : _ = [_, _, _, _, _, _, _, _, _, _, _, _]))); (case hl => exact rfl))
    exact ⟨rv, ys, rfl, ho.set (Own.ne_blk ho h82 (by decide)), hy, hm, fun b hb => by have := hfr b hb; omega, hf2.set _ _ (.inr hb8)⟩
end Go.Proofs.Ytffgecomdlnngaa

set_option maxRecDepth 100000
namespace Go.Proofs.Ytffgecomdlnngaa
open Go Go.Eng
section
variable {P : Program} {e : Env} {w : World} {ty : TypeId} {p : String} {af : Array Edge} {d : Option Nat}
theorem opw_copyN {α : Type} {x y : Operand} {t T sz by' g o dl dc b so c sl : Nat} {z : List Value} {enc : α → List Value} {ys : List α} {cs : List Value} {U : TypeId} [TUnd P t (.slice T)] [TInfo P T sz by' z] [EncOk enc sz] (hx : ev e x = .slice (some ⟨g, o, none⟩) dl dc) (hy : ev e y = .slice (some ⟨b, so, none⟩) sl c)
    (hr : Rd w.heap sz enc (.slice (some ⟨b, so, none⟩) sl c) ys) (hb : Blk w.heap g cs U) (hn : ys.length ≤ dl) (hm : (ys.length : Int) ≤ 9223372036854775807) (ho : o + ys.length * sz ≤ cs.length) :
    OpV P ⟨d, .call ⟨.builtin .copy, #[x, y], #[t, t]⟩, ty, p, af, none⟩ e w (goInt ys.length) (w.setRow g (cs.take o ++ ys.flatMap enc ++ cs.drop (o + ys.length * sz)).toArray) := by
  obtain ⟨i, zv, h1, h2, h3, h4, h5⟩ := TInfo.out (P := P) (t := T)
  have hu := run_underlying (TUnd.out (P := P) (t := t)) w
  have hsl : sl = ys.length := by
    obtain ⟨a, c', h⟩ := hr.len
    cases h; rfl
  subst hsl
  have hfl : (ys.flatMap enc).length = ys.length * sz := flatMap_len _ (fun x _ => EncOk.len x)
  have hnews : ∀ j u, (ys.flatMap enc)[j]? = some u → w.cell? ((⟨b, so, none⟩ : Addr).add j) = some u := by
    intro j u hj
    rw [add_off]
    exact (flat_cell hr j u hj).get
  have hl := run_loadCells_list (P := P) w ⟨b, so, none⟩ (ys.flatMap enc) hnews
  have hst := run_storeCells_at (P := P) g o U (ys.flatMap enc) 0 cs.toArray w hb.get (by rw [hfl]; simpa using ho) (fun u hu => by
    obtain ⟨y, _, hy⟩ := List.mem_flatMap.1 hu
    exact EncOk.one y u hy)
  simp only [Nat.add_zero] at hst
  rw [hfl] at hl hst
  have hmin : Nat.min ys.length dl = ys.length := Nat.min_eq_left hn
  simp [OpV, execOp, resolve, invoke, builtin, hx, hy, Builtin.copy_, hu, Builtin.lenOf, Builtin.firstCells, sizeOf, typeInfo, h1, h2, hmin, hl]
  rw [hst]
  simp only [List.append_assoc]
  rfl
end
end Go.Proofs.Ytffgecomdlnngaa

set_option maxRecDepth 100000
namespace Go.Proofs.Ytffgecomdlnngaa
open Go Go.Eng
section
variable {P : Program} {e : Env} {w : World} {ty : TypeId} {p : String} {af : Array Edge} {d : Option Nat}
theorem opw_appendZ {α : Type} {x y : Operand} {t tn T sz by' g cap m : Nat} {kn kq : IntKind} {z : List Value} {enc : α → List Value} {xs : List α} [TUnd P t (.slice T)] [TUnd P tn (.int kn)] [TInfo P T sz by' z] [EncOk enc sz] (hx : ev e x = .slice (some ⟨g, 0, none⟩) xs.length cap) (hy : ev e y = .int kq m)
    (hr : Rd w.heap sz enc (.slice (some ⟨g, 0, none⟩) xs.length cap) xs) (hzl : z.length = sz) (hpos : 0 < sz) (h0 : 0 < m) (hg : cap < xs.length + m) (hm : xs.length + m ≤ maxLen) (hby : (xs.length + m) * by' ≤ 140737488355328) :
    ∃ G, xs.length + m ≤ G ∧ G ≤ maxLen ∧ OpV P ⟨d, .call ⟨.builtin .append, #[x, y], #[t, tn]⟩, ty, p, af, none⟩ e w (.slice (some ⟨w.heap.size, 0, none⟩) (xs.length + m) G) (w.drew.alloc (.cells (xs.flatMap enc ++ (List.replicate m z).flatten ++ (List.replicate (G - (xs.length + m)) z).flatten).toArray T)) := by
  obtain ⟨i, zv, h1, h2, h3, h4, h5⟩ := TInfo.out (P := P) (t := T)
  have hge := grownCap_ge w (xs.length + m) cap T
  have hcm := grownCap_le_maxLen w (xs.length + m) cap T hm
  refine ⟨_, hge, hcm, ?_⟩
  have hfl : (xs.flatMap enc).length = xs.length * sz := flatMap_len _ (fun x _ => EncOk.len x)
  have hrd : Rd w.drew.heap sz enc (.slice (some ⟨g, 0, none⟩) xs.length cap) xs := hr
  have hnews : ∀ j u, (xs.flatMap enc)[j]? = some u → w.drew.cell? ((⟨g, 0, none⟩ : Addr).add j) = some u := by
    intro j u hj
    rw [add_off]
    exact (flat_cell hrd j u hj).get
  have hl := run_loadCells_list (P := P) w.drew ⟨g, 0, none⟩ (xs.flatMap enc) hnews
  rw [hfl] at hl
  have hzc : ∀ n, Builtin.zeroCells zv.cells n = ((List.replicate n z).flatten).toArray := fun n => by
    rw [h5]
    show madeCells z.toArray (n * z.toArray.size) = _
    rw [List.size_toArray, hzl, zeros_eq hzl hpos]
  have hmx : xs.length + m ≤ 9223372036854775807 := by unfold maxLen at hm; omega
  have hmb : m * by' ≤ (xs.length + m) * by' := Nat.mul_le_mul_right _ (by omega)
  have hrun := Go.Lib.run_append_grow_zeros (P := P) w t tn ty T i zv kq kn (TUnd.out (P := P) (t := t)) (TUnd.out (P := P) (t := tn)) h1 h4 (some ⟨g, 0, none⟩) xs.length cap (xs.flatMap enc) (by simp [Builtin.firstCells, h2, hl]) m h0 (by omega) hg (by omega) (by rw [h3]; omega) (by rw [h3]; exact growslice_fits (by omega) hby)
  rw [hzc, hzc] at hrun
  simp [OpV, execOp, resolve, invoke, builtin, hx, hy, hrun]
end
end Go.Proofs.Ytffgecomdlnngaa

set_option maxRecDepth 100000
namespace Go.Proofs.Ytffgecomdlnngaa
open Go Go.Eng
theorem opv_slice_nil {P : Program} {d : Option Nat} {ty : TypeId} {p : String} {af : Array Edge} {e : Env} {w : World} {x lo : Operand} {t E sz by' : Nat} {z : List Value} {k : IntKind} [TUnd P t (.slice E)] [TInfo P E sz by' z] (hx : ev e x = .slice none 0 0) (hl : ev e lo = .int k 0) : OpV P ⟨d, .slice t x (some lo) none none, ty, p, af, none⟩ e w (.slice none 0 0) w := by
  have hu := run_underlying (TUnd.out (P := P) (t := t)) w
  have g0 : (0 : Int) ≤ 0 := Int.le_refl 0
  have g1 : (0 : Int) ≤ ((0 : Nat) : Int) := Int.le_refl 0
  simp only [OpV, execOp, Instr.sliceAt, Sem.run_bind, hu, Result.andThen_ok, Instr.slice, hx, Instr.sliceBounds, Option.map_some, Option.map_none, hl, Go.Eng.run_sliceBound g0 g1, Sem.run_pure, run_sizeOf' (P := P) (t := E)]
  rfl
theorem opv_cap {P : Program} {d : Option Nat} {ty t E : TypeId} {p : String} {af : Array Edge} {e : Env} {w : World} {x : Operand} {a : Option Addr} {n c : Nat} [TUnd P t (.slice E)] (hx : ev e x = .slice a n c) : OpV P ⟨d, .call ⟨.builtin .cap, #[x], #[t]⟩, ty, p, af, none⟩ e w (.int .i64 c) w := by
  have hu := run_underlying (TUnd.out (P := P) (t := t)) w
  simp [OpV, execOp, resolve, invoke, builtin, Builtin.cap_, hx, hu, goInt]
theorem opw_copyD {P : Program} {e : Env} {w : World} {ty : TypeId} {p : String} {af : Array Edge} {d : Option Nat} {α : Type} {x y : Operand} {t T sz by' g o dl dc b so c c' sl : Nat} {z : List Value} {enc : α → List Value} {ys : List α} {cs : List Value} {U : TypeId} [TUnd P t (.slice T)] [TInfo P T sz by' z] [EncOk enc sz] (hx : ev e x = .slice (some ⟨g, o, none⟩) dl dc) (hy : ev e y = .slice (some ⟨b, so, none⟩) sl c)
    (hr : Rd w.heap sz enc (.slice (some ⟨b, so, none⟩) ys.length c') ys) (hb : Blk w.heap g cs U) (hn : dl = ys.length) (hsl : ys.length ≤ sl) (hm : (ys.length : Int) ≤ 9223372036854775807) (ho : o + ys.length * sz ≤ cs.length) :
    OpV P ⟨d, .call ⟨.builtin .copy, #[x, y], #[t, t]⟩, ty, p, af, none⟩ e w (goInt ys.length) (w.setRow g (cs.take o ++ ys.flatMap enc ++ cs.drop (o + ys.length * sz)).toArray) := by
  subst hn
  obtain ⟨i, zv, h1, h2, h3, h4, h5⟩ := TInfo.out (P := P) (t := T)
  have hu := run_underlying (TUnd.out (P := P) (t := t)) w
  have hfl : (ys.flatMap enc).length = ys.length * sz := flatMap_len _ (fun x _ => EncOk.len x)
  have hnews : ∀ j u, (ys.flatMap enc)[j]? = some u → w.cell? ((⟨b, so, none⟩ : Addr).add j) = some u := by
    intro j u hj
    rw [add_off]
    exact (flat_cell hr j u hj).get
  have hl := run_loadCells_list (P := P) w ⟨b, so, none⟩ (ys.flatMap enc) hnews
  have hst := run_storeCells_at (P := P) g o U (ys.flatMap enc) 0 cs.toArray w hb.get (by rw [hfl]; simpa using ho) (fun u hu => by
    obtain ⟨y, _, hy⟩ := List.mem_flatMap.1 hu
    exact EncOk.one y u hy)
  simp only [Nat.add_zero] at hst
  rw [hfl] at hl hst
  have hmin : Nat.min sl ys.length = ys.length := Nat.min_eq_right hsl
  simp [OpV, execOp, resolve, invoke, builtin, hx, hy, Builtin.copy_, hu, Builtin.lenOf, Builtin.firstCells, sizeOf, typeInfo, h1, h2, hmin, hl]
  rw [hst]
  simp only [List.append_assoc]
  rfl
theorem vL_appendZ {P : Program} {n : Nat} {ops rest : List Oper} {e : Env} {w : World} {Q : Exit → Env → World → Prop} {ty : TypeId} {p : String} {af : Array Edge} {d : Option Nat} {α : Type} {x y : Operand} {t tn T sz by' g cap m : Nat} {kn kq : IntKind} {z : List Value} {enc : α → List Value} {xs : List α} [TUnd P t (.slice T)] [TUnd P tn (.int kn)] [TInfo P T sz by' z] [EncOk enc sz] (hx : ev e x = .slice (some ⟨g, 0, none⟩) xs.length cap) (hy : ev e y = .int kq m)
    (hr : Rd w.heap sz enc (.slice (some ⟨g, 0, none⟩) xs.length cap) xs) (hzl : z.length = sz) (hpos : 0 < sz) (h0 : 0 < m) (hg : cap < xs.length + m) (hm : xs.length + m ≤ maxLen) (hby : (xs.length + m) * by' ≤ 140737488355328)
    (k : ∀ (G : Nat) (c0 : List Value) (w' : World), xs.length + m ≤ G → G ≤ maxLen → Fr No w w' → Blk w'.heap w.heap.size c0 T → c0.length = G * sz → c0.take (xs.length * sz) = xs.flatMap enc → vL P n ops rest (updO e d (.slice (some ⟨w.heap.size, 0, none⟩) (xs.length + m) G)) w' Q) :
    vL P n ops (⟨d, .call ⟨.builtin .append, #[x, y], #[t, tn]⟩, ty, p, af, none⟩ :: rest) e w Q := by
  obtain ⟨G, h1, h2, h3⟩ := opw_appendZ (P := P) (t := t) (tn := tn) (T := T) (d := d) (ty := ty) (p := p) (af := af) hx hy hr hzl hpos h0 hg hm hby
  have hfl : (xs.flatMap enc).length = xs.length * sz := flatMap_len _ (fun x _ => EncOk.len x)
  refine vL_val h3 (k G _ _ h1 h2 (by (repeat (first | exact Fr.refl _ _ | assumption | with_reducible apply Fr.allocSet | with_reducible apply Fr.alloc | with_reducible apply Fr.drewN | with_reducible apply Fr.drew | ((with_reducible apply Fr.set); rotate_left; (right; ((try simp only [alloc_size]); omega))) | (refine Fr.trans ?_ (by assumption))))) (Blk.new (w := w.drew)) ?_ ?_)
  · simp only [List.length_append, hfl, List.length_flatten, List.map_replicate, List.sum_replicate_nat, hzl]
    rw [← Nat.add_mul, ← Nat.add_mul]
    congr 1; omega
  · rw [List.append_assoc, List.take_left' hfl]
theorem two_copies (c0 A X D : List Value) (a m n : Nat) (ha : a ≤ c0.length) (h0 : c0.take a = A) (hX : X.length = m) (hD : D.length = n) (hl : a + m + n ≤ c0.length) :
    (((c0.take a ++ X ++ c0.drop (a + m)).take (a + m) ++ D ++ (c0.take a ++ X ++ c0.drop (a + m)).drop (a + m + n)).take (a + m + n) = A ++ X ++ D) ∧ ((c0.take a ++ X ++ c0.drop (a + m)).take (a + m) ++ D ++ (c0.take a ++ X ++ c0.drop (a + m)).drop (a + m + n)).length = c0.length := by
  have e1 : (A ++ X).length = a + m := by rw [List.length_append, ← h0, List.length_take, hX]; omega
  rw [h0]
  rw [List.take_left' e1]
  constructor
  · rw [List.take_left' (by rw [List.length_append, e1, hD])]
  · simp only [List.length_append] at e1
    simp only [List.length_append, List.length_drop]
    omega
theorem two_copies' (c0 A X D : List Value) (a m n : Nat) (ha : a ≤ c0.length) (h0 : c0.take a = A) (hX : X.length = m) (hD : D.length = n) (hl : a + m + n ≤ c0.length) :
    ((((c0.take (a + m) ++ D ++ c0.drop (a + m + n)).take a ++ X ++ (c0.take (a + m) ++ D ++ c0.drop (a + m + n)).drop (a + m))).take (a + m + n) = A ++ X ++ D) ∧ ((c0.take (a + m) ++ D ++ c0.drop (a + m + n)).take a ++ X ++ (c0.take (a + m) ++ D ++ c0.drop (a + m + n)).drop (a + m)).length = c0.length := by
  have e0 : (c0.take (a + m)).length = a + m := by rw [List.length_take]; omega
  have e1 : (c0.take (a + m) ++ D ++ c0.drop (a + m + n)).take a = A := by
    rw [List.append_assoc, List.take_append_of_le_length (by omega), List.take_take, Nat.min_eq_left (by omega), h0]
  have e2 : (c0.take (a + m) ++ D ++ c0.drop (a + m + n)).drop (a + m) = D ++ c0.drop (a + m + n) := by
    rw [List.append_assoc, List.drop_left' e0]
  have e3 : A.length = a := by rw [← h0, List.length_take]; omega
  rw [e1, e2]
  constructor
  · rw [← List.append_assoc, List.take_left' (by simp only [List.length_append]; omega)]
  · simp only [List.length_append, List.length_drop]
    omega
theorem opv_overlaps25 {e : Env} {w : World} {ty t t' : TypeId} {p : String} {af : Array Edge} {d : Option Nat} {x y : Operand} {a b oa ob la ca lb cb : Nat} {xs ys : List Value} {T U : TypeId} (hx : ev e x = .slice (some ⟨a, oa, none⟩) la ca) (hy : ev e y = .slice (some ⟨b, ob, none⟩) lb cb) (ha : Blk w.heap a xs T) (hb : Blk w.heap b ys U) (hne : a ≠ b) (hyl : 0 < ys.length) :
    OpV Try.prog ⟨d, .call ⟨.value (.func 24), #[x, y], #[t, t']⟩, ty, p, af, none⟩ e w (.bool false) w := by
  have h := run_overlaps25 w (oa := oa) (ob := ob) (la := la) (ca := ca) (lb := lb) (cb := cb) ha hb hne hyl
  have hf : ev e (.func 24) = .func (.func 24) #[] #[] := rfl
  simp [OpV, execOp, resolve, invoke, Deferred.ofValue, hf, hx, hy, h]
theorem insert25 (v : Value) (l : List PR) (k : Nat) (x : PR) (w : World) {b : Nat} {T : TypeId} (hk : k ≤ l.length) (hl : l.length ≤ 64) (ho : Own w.heap 59 4 prE v l) (hb : Blk w.heap b (prE x) T) (hbv : ∀ g, own v = some g → g ≠ b) (hx : Rd w.heap 4 prE (.slice (some ⟨b, 0, none⟩) 1 1) [x]) :
    Rets Try.prog 18 #[v, .int .i64 k, .slice (some ⟨b, 0, none⟩) 1 1] w fun u w' => Own w'.heap 59 4 prE u (l.take k ++ [x] ++ l.drop k) ∧ Fr (fun k => own v = some k) w w' ∧ (∀ b, own u = some b → own v = some b ∨ w.heap.size ≤ b) ∧ u.oneCell' = true := by
  have hs := ho.rd.small
  refine rets_of Try.func18 rfl Try.ntmps18 rfl rfl (by kernel_rfl) ?_
  rcases ho.shape with ⟨rfl, rfl⟩ | ⟨g, cap, cs, rfl, hg, hn, hm, hcl, ht⟩
  · have hk0 : k = 0 := by simpa using hk
    subst hk0
    (apply vC_seq; apply vC_region; ((apply vL_val); (case h => ((apply opv_E); exact rfl))); apply vL_nil; apply seqP_normal; apply vC_seq; apply vC_region; (iterate 2 (((apply vL_val); (case h => ((apply opv_E); exact rfl))))))
    refine vL_val (opv_slice_nil rfl rfl) ?_
    (apply vL_nil; apply seqP_normal; apply vC_seq; apply vC_region; ((apply vL_val); (case h => ((apply opv_E); exact rfl))); ((apply vL_val); (case h => ((apply opv_lenc); exact rfl))); ((apply vL_val); (case h => ((apply opv_E); exact rfl))); apply vL_nil; apply seqP_normal; (iterate 2 (apply vC_seq)); apply vC_region; (iterate 2 (((apply vL_val); (case h => ((apply opv_E); exact rfl))))); apply vL_nil; apply seqP_normal; ((apply vC_cond_false); exact rfl); apply vC_skip; apply seqP_normal; apply vC_seq; apply vC_region; ((apply vL_val); (case h => ((apply opv_E); exact rfl))); ((apply vL_val); (case h => ((apply opv_lenc); exact rfl))); ((apply vL_val); (case h => ((apply opv_E); exact rfl))); apply vL_nil; apply seqP_normal; (iterate 2 (apply vC_seq)); apply vC_region; (iterate 3 (((apply vL_val); (case h => ((apply opv_E); exact rfl))))); apply vL_nil; apply seqP_normal; ((apply vC_cond_true); exact rfl); apply vC_seq; apply vC_region; (iterate 2 (((apply vL_val); (case h => ((apply opv_E); exact rfl))))))
    refine vL_append (enc := prE) (xs := []) (ys := [x]) (T := 59) (sz := 4) (by (first | exact norm_eq rfl | ((conv => lhs; whnf) <;> exact rfl))) (by (first | exact norm_eq rfl | ((conv => lhs; whnf) <;> exact rfl))) (Own.nil _ _ _ _) hx rfl (by decide) (by simp [maxLen]) (by simp) ?_
    intro v' w2 ho2 hf2 hfr2 hone2 _
    (((apply vL_val); (case h => ((apply opv_assign); ((conv => lhs; whnf) <;> exact rfl)))); apply vL_nil; apply seqP_normal; apply vC_ret; apply seqP_ret)
    (apply ret1; (case h1 => (first | exact norm_eq rfl | ((conv => lhs; whnf) <;> exact rfl))))
    exact ⟨ho2, hf2, hfr2, hone2⟩
  · (apply vC_seq; apply vC_region; ((apply vL_val); (case h => ((apply opv_E); exact rfl))); apply vL_nil; apply seqP_normal; apply vC_seq; apply vC_region; (iterate 2 (((apply vL_val); (case h => ((apply opv_E); exact rfl))))); ((apply vL_val); (case h => ((apply opv_slice_lo'); exact rfl; exact rfl; (first | omega | (simp only [List.length_map]; omega)); (first | omega | (simp only [List.length_map]; omega))))); apply vL_nil; apply seqP_normal; apply vC_seq; apply vC_region; ((apply vL_val); (case h => ((apply opv_E); exact rfl))); ((apply vL_val); (case h => ((apply opv_lenc); exact rfl))); ((apply vL_val); (case h => ((apply opv_E); exact rfl))); apply vL_nil; apply seqP_normal; (iterate 2 (apply vC_seq)); apply vC_region; (iterate 2 (((apply vL_val); (case h => ((apply opv_E); exact rfl))))); apply vL_nil; apply seqP_normal; ((apply vC_cond_false); exact rfl); apply vC_skip; apply seqP_normal; apply vC_seq; apply vC_region; ((apply vL_val); (case h => ((apply opv_E); exact rfl))); ((apply vL_val); (case h => ((apply opv_lenc); exact rfl))); ((apply vL_val); (case h => ((apply opv_E); exact rfl))); apply vL_nil; apply seqP_normal; (iterate 2 (apply vC_seq)); apply vC_region; (iterate 3 (((apply vL_val); (case h => ((apply opv_E); exact rfl))))); apply vL_nil; apply seqP_normal)
    refine vC_cond_dec rfl (fun he => ?_) (fun he => ?_)
    · have he' : k = l.length := by omega
      subst he'
      (apply vC_seq; apply vC_region; (iterate 2 (((apply vL_val); (case h => ((apply opv_E); exact rfl))))))
      refine vL_append (enc := prE) (xs := l) (ys := [x]) (T := 59) (sz := 4) (by (first | exact norm_eq rfl | ((conv => lhs; whnf) <;> exact rfl))) (by (first | exact norm_eq rfl | ((conv => lhs; whnf) <;> exact rfl))) ho hx rfl (by decide) (by simp [maxLen]; omega) (by simp; omega) ?_
      intro v' w2 ho2 hf2 hfr2 hone2 _
      (((apply vL_val); (case h => ((apply opv_assign); ((conv => lhs; whnf) <;> exact rfl)))); apply vL_nil; apply seqP_normal; apply vC_ret; apply seqP_ret)
      (apply ret1; (case h1 => (first | exact norm_eq rfl | ((conv => lhs; whnf) <;> exact rfl))))
      rw [List.take_length, List.drop_length, List.append_nil]
      exact ⟨ho2, hf2, hfr2, hone2⟩
    (apply vC_skip; apply seqP_normal; (iterate 2 (apply vC_seq)); apply vC_region; (iterate 2 (((apply vL_val); (case h => ((apply opv_E); exact rfl))))); ((apply vL_val); (case h => ((apply opv_add); exact rfl; exact rfl; (first | omega | (simp only [List.length_map]; omega))))); ((apply vL_val); (case h => ((apply opv_E); exact rfl))))
    refine vL_val (opv_cap rfl) ?_
    (((apply vL_val); (case h => ((apply opv_E); exact rfl))); apply vL_nil; apply seqP_normal)
    refine vC_cond_dec rfl (fun hg1 => ?_) (fun hg1 => ?_)
    · (apply vC_seq; apply vC_region; (iterate 2 (((apply vL_val); (case h => ((apply opv_E); exact rfl))))); ((apply vL_val); (case h => ((apply opv_slice_hi'); exact rfl; exact rfl; (first | omega | (simp only [List.length_map]; omega)); (first | omega | (simp only [List.length_map]; omega))))); (iterate 2 (((apply vL_val); (case h => ((apply opv_E); exact rfl))))); ((apply vL_val); (case h => ((apply opv_add); exact rfl; exact rfl; (first | omega | (simp only [List.length_map]; omega))))); ((apply vL_val); (case h => ((apply opv_E); exact rfl))); ((apply vL_val); (case h => ((apply opv_sub); exact rfl; exact rfl; (first | omega | (simp only [List.length_map]; omega))))))
      have hlk : (l.take k).length = k := by simp; omega
      have htl : ((k : Int)).toNat = k := by omega
      refine vL_appendZ (enc := prE) (xs := l.take k) (m := l.length + 1 - k) (kq := .i64) (g := g) (cap := cap) (sz := 4) (T := 59) (by rw [hlk]; rfl) (show Value.int .i64 ((l.length : Int) + 1 - (k : Int)) = .int .i64 ((l.length + 1 - k : Nat) : Int) by congr 1; omega) (by rw [hlk]; exact Rd.take ho.rd hk) rfl (by decide) (by omega) (by rw [hlk]; omega) (by rw [hlk]; simp only [maxLen]; omega) (by rw [hlk]; omega) ?_
      intro G c0 w1 hG1 hG2 hf1 hB hc0 ht0
      rw [hlk] at hG1 ht0
      rw [hlk, show k + (l.length + 1 - k) = l.length + 1 by omega]
      (((apply vL_val); (case h => ((apply opv_E); exact rfl))); apply vL_nil; apply seqP_normal; apply vC_seq; apply vC_region; (iterate 2 (((apply vL_val); (case h => ((apply opv_E); exact rfl))))); ((apply vL_val); (case h => ((apply opv_slice_lo'); exact rfl; exact rfl; (first | omega | (simp only [List.length_map]; omega)); (first | omega | (simp only [List.length_map]; omega))))); ((apply vL_val); (case h => ((apply opv_E); exact rfl))))
      rw [htl, if_neg (show ¬ G = k by omega), Nat.zero_add]
      refine vL_val (opw_copyN (enc := prE) (ys := [x]) (cs := c0) (by (first | exact norm_eq rfl | ((conv => lhs; whnf) <;> exact rfl))) (by (first | exact norm_eq rfl | ((conv => lhs; whnf) <;> exact rfl))) (hx.frN hf1) hB (by simp; omega) (by simp) (by simp; omega)) ?_
      (apply vL_nil; apply seqP_normal; apply vC_seq)
      have hgs : g < w.heap.size := hg.lt
      have hfl1 : ([x].flatMap prE).length = 4 := rfl
      have hB1 := Blk.set (w := w1) (b := w.heap.size) (T := 59) (c' := c0.take (k * 4) ++ [x].flatMap prE ++ c0.drop (k * 4 + [x].length * 4)) hB
      have hr1 := (ho.frN hf1).set (b := w.heap.size) (cs := (c0.take (k * 4) ++ [x].flatMap prE ++ c0.drop (k * 4 + [x].length * 4)).toArray) (by intro h; injection h with h; simp only at h; omega)
      refine vC_draw' (fun _ => True) trivial ?_
      ((apply (tk 0)); (case hi => exact rfl); (case hf => kernel_rfl); (case hS => trivial); (case hy => (intro _ _; (((apply opv_E); exact rfl)))))
      ((apply (tk 1)); (case hi => exact rfl); (case hf => kernel_rfl); (case hS => trivial); (case hy => (intro _ _; (((apply opv_E); exact rfl)))))
      ((apply (tk 2)); (case hi => exact rfl); (case hf => kernel_rfl); (case hS => trivial); (case hy => (intro _ _; (((apply opv_E); exact rfl)))))
      ((apply (tk 3)); (case hi => exact rfl); (case hf => kernel_rfl); (case hS => trivial); (case hy => (intro _ _; (((apply opv_add); exact rfl; exact rfl; (first | omega | (simp only [List.length_map]; omega)))))))
      ((apply (tk 4)); (case hi => exact rfl); (case hf => kernel_rfl); (case hS => trivial); (case hy => (intro _ _; (((apply opv_slice_lo'); exact rfl; exact rfl; (first | omega | (simp only [List.length_map]; omega)); (first | omega | (simp only [List.length_map]; omega)))))))
      ((apply (tk 5)); (case hi => exact rfl); (case hf => kernel_rfl); (case hS => trivial); (case hy => (intro _ _; (((apply opv_E); exact rfl)))))
      ((apply (tk 6)); (case hi => exact rfl); (case hf => kernel_rfl); (case hS => trivial); (case hy => (intro _ _; (((apply opv_E); exact rfl)))))
      ((apply (tk 7)); (case hi => exact rfl); (case hf => kernel_rfl); (case hS => trivial); (case hy => (intro _ _; (((apply opv_slice_lo'); exact rfl; exact rfl; (first | omega | (simp only [List.length_map]; omega)); (first | omega | (simp only [List.length_map]; omega)))))))
      have hdl : (l.drop k).length = l.length - k := by simp
      rw [show ((k : Int) + ((1 : Nat) : Int)).toNat = k + 1 by omega, htl, if_neg (show ¬ G = k + 1 by omega), Nat.zero_add]
      refine tkv 8 rfl (by kernel_rfl) trivial (opw_copyN (enc := prE) (ys := l.drop k) (by (first | exact norm_eq rfl | ((conv => lhs; whnf) <;> exact rfl))) (by (first | exact norm_eq rfl | ((conv => lhs; whnf) <;> exact rfl))) (Rd.dropIf hr1.rd hk) hB1 (by rw [hdl]; omega) (by rw [hdl]; omega) (by rw [hdl]; simp only [List.length_append, List.length_take, List.length_drop, hfl1, hc0, List.length_singleton]; omega)) ?_
      refine vA_done (by kernel_rfl) trivial ?_
      (apply seqP_normal; apply vC_seq; apply vC_region; (iterate 2 (((apply vL_val); (case h => ((apply opv_E); exact rfl))))); apply vL_nil; apply seqP_normal; apply vC_ret; apply seqP_ret)
      (apply ret1; (case h1 => (first | exact norm_eq rfl | ((conv => lhs; whnf) <;> exact rfl))))
      have hfr2 : Fr No w (w1.setRow w.heap.size (c0.take (k * 4) ++ [x].flatMap prE ++ c0.drop (k * 4 + [x].length * 4)).toArray) := hf1.set _ _ (.inr (Nat.le_refl _))
      have hD : ((l.drop k).flatMap prE).length = (l.length - k) * 4 := by rw [flatMap_len _ (fun x _ => EncOk.len x), hdl]
      obtain ⟨e1, e2⟩ := two_copies c0 _ ([x].flatMap prE) ((l.drop k).flatMap prE) (k * 4) 4 ((l.length - k) * 4) (by omega) ht0 hfl1 hD (by omega)
      have hln : (l.take k ++ [x] ++ l.drop k).length = l.length + 1 := by simp; omega
      refine ⟨⟨fun x _ => EncOk.len x, .inr ⟨_, _, _, by rw [hln], Blk.set hB1, ?_, hG2, ?_, ?_⟩⟩, ?_, ?_, rfl⟩
      · rw [hln]; omega
      · simp only [List.length_singleton, hdl, show (k + 1) * 4 = k * 4 + 4 by omega, Nat.one_mul]
        rw [e2, hc0]
      · simp only [List.length_singleton, hdl, hln, show (k + 1) * 4 = k * 4 + 4 by omega, show (l.length + 1) * 4 = k * 4 + 4 + (l.length - k) * 4 by omega, Nat.one_mul]
        rw [e1, List.flatMap_append, List.flatMap_append]
      · exact (hfr2.drew.set _ _ (.inr (Nat.le_refl _))).mono (fun _ _ h => h.elim)
      · intro b hb
        injection hb with hb
        right
        simp only at hb
        omega
    · (apply vC_skip; apply seqP_normal; apply vC_seq; apply vC_region; (iterate 3 (((apply vL_val); (case h => ((apply opv_E); exact rfl))))); ((apply vL_val); (case h => ((apply opv_add); exact rfl; exact rfl; (first | omega | (simp only [List.length_map]; omega))))); ((apply vL_val); (case h => ((apply opv_slice_hi'); exact rfl; exact rfl; (first | omega | (simp only [List.length_map]; omega)); (first | omega | (simp only [List.length_map]; omega))))); ((apply vL_val); (case h => ((apply opv_E); exact rfl))); apply vL_nil; apply seqP_normal; (iterate 2 (apply vC_seq)); apply vC_region; (iterate 4 (((apply vL_val); (case h => ((apply opv_E); exact rfl))))); ((apply vL_val); (case h => ((apply opv_add); exact rfl; exact rfl; (first | omega | (simp only [List.length_map]; omega))))); ((apply vL_val); (case h => ((apply opv_slice_lo'); exact rfl; exact rfl; (first | omega | (simp only [List.length_map]; omega)); (first | omega | (simp only [List.length_map]; omega))))))
      have hgb : g ≠ b := hbv g rfl
      refine vL_val (opv_overlaps25 rfl rfl hb hg (Ne.symm hgb) (by omega)) ?_
      (((apply vL_val); (case h => ((apply opv_not); exact rfl))); apply vL_nil; apply seqP_normal; ((apply vC_cond_true); exact rfl); apply vC_seq)
      refine vC_draw' (fun _ => True) trivial ?_
      ((apply (tk 0)); (case hi => exact rfl); (case hf => kernel_rfl); (case hS => trivial); (case hy => (intro _ _; (((apply opv_E); exact rfl)))))
      ((apply (tk 1)); (case hi => exact rfl); (case hf => kernel_rfl); (case hS => trivial); (case hy => (intro _ _; (((apply opv_E); exact rfl)))))
      ((apply (tk 2)); (case hi => exact rfl); (case hf => kernel_rfl); (case hS => trivial); (case hy => (intro _ _; (((apply opv_E); exact rfl)))))
      ((apply (tk 3)); (case hi => exact rfl); (case hf => kernel_rfl); (case hS => trivial); (case hy => (intro _ _; (((apply opv_add); exact rfl; exact rfl; (first | omega | (simp only [List.length_map]; omega)))))))
      ((apply (tk 4)); (case hi => exact rfl); (case hf => kernel_rfl); (case hS => trivial); (case hy => (intro _ _; (((apply opv_slice_lo'); exact rfl; exact rfl; (first | omega | (simp only [List.length_map]; omega)); (first | omega | (simp only [List.length_map]; omega)))))))
      ((apply (tk 5)); (case hi => exact rfl); (case hf => kernel_rfl); (case hS => trivial); (case hy => (intro _ _; (((apply opv_E); exact rfl)))))
      ((apply (tk 6)); (case hi => exact rfl); (case hf => kernel_rfl); (case hS => trivial); (case hy => (intro _ _; (((apply opv_E); exact rfl)))))
      ((apply (tk 7)); (case hi => exact rfl); (case hf => kernel_rfl); (case hS => trivial); (case hy => (intro _ _; (((apply opv_slice_lo'); exact rfl; exact rfl; (first | omega | (simp only [List.length_map]; omega)); (first | omega | (simp only [List.length_map]; omega)))))))
      have hdl : (l.drop k).length = l.length - k := by simp
      have htl : ((k : Int)).toNat = k := by omega
      have hr0 := Rd.dropIf ho.rd hk
      rw [show ((k : Int) + ((1 : Nat) : Int)).toNat = k + 1 by omega, htl, if_neg (show ¬ cap = k + 1 by omega), if_neg (show ¬ cap = k by omega), Nat.zero_add, Nat.zero_add, show ((l.length : Int) + ((1 : Nat) : Int)).toNat = l.length + 1 by omega]
      rw [if_neg (show ¬ cap = k by omega), Nat.zero_add, ← hdl] at hr0
      refine tkv 8 rfl (by kernel_rfl) trivial (opw_copyD (enc := prE) (ys := l.drop k) (by (first | exact norm_eq rfl | ((conv => lhs; whnf) <;> exact rfl))) (by (first | exact norm_eq rfl | ((conv => lhs; whnf) <;> exact rfl))) hr0 hg (by rw [hdl]; omega) (by rw [hdl]; omega) (by rw [hdl]; omega) (by rw [hdl]; omega)) ?_
      refine vA_done (by kernel_rfl) trivial ?_
      have hD : ((l.drop k).flatMap prE).length = (l.length - k) * 4 := by rw [flatMap_len _ (fun x _ => EncOk.len x), hdl]
      have hfl1 : ([x].flatMap prE).length = 4 := rfl
      have hg1' := Blk.set (w := w) (b := g) (T := 59) (c' := cs.take ((k + 1) * 4) ++ (l.drop k).flatMap prE ++ cs.drop ((k + 1) * 4 + (l.drop k).length * 4)) hg
      have hx1 := hx.set (b := g) (cs := (cs.take ((k + 1) * 4) ++ (l.drop k).flatMap prE ++ cs.drop ((k + 1) * 4 + (l.drop k).length * 4)).toArray) (by intro h; injection h with h; simp only at h; omega)
      (apply seqP_normal; apply vC_seq; apply vC_region; (iterate 2 (((apply vL_val); (case h => ((apply opv_E); exact rfl))))); ((apply vL_val); (case h => ((apply opv_slice_lo'); exact rfl; exact rfl; (first | omega | (simp only [List.length_map]; omega)); (first | omega | (simp only [List.length_map]; omega))))); ((apply vL_val); (case h => ((apply opv_E); exact rfl))))
      rw [htl, if_neg (show ¬ cap = k by omega), Nat.zero_add]
      refine vL_val (opw_copyN (enc := prE) (ys := [x]) (by (first | exact norm_eq rfl | ((conv => lhs; whnf) <;> exact rfl))) (by (first | exact norm_eq rfl | ((conv => lhs; whnf) <;> exact rfl))) hx1 hg1' (by simp; omega) (by simp) ?_) ?_
      · simp only [List.length_append, List.length_take, List.length_drop, hcl, hD, List.length_singleton]; omega
      (apply vL_nil; apply seqP_normal; apply vC_seq; apply vC_region; (iterate 2 (((apply vL_val); (case h => ((apply opv_E); exact rfl))))); apply vL_nil; apply seqP_normal; apply vC_ret; apply seqP_ret)
      (apply ret1; (case h1 => (first | exact norm_eq rfl | ((conv => lhs; whnf) <;> exact rfl))))
      have ht0 : cs.take (k * 4) = (l.take k).flatMap prE := by rw [flatMap_take l k ho.size, ← ht, List.take_take]; congr 1; omega
      obtain ⟨e1, e2⟩ := two_copies' cs _ ([x].flatMap prE) ((l.drop k).flatMap prE) (k * 4) 4 ((l.length - k) * 4) (by omega) ht0 hfl1 hD (by omega)
      have hln : (l.take k ++ [x] ++ l.drop k).length = l.length + 1 := by simp; omega
      refine ⟨⟨fun x _ => EncOk.len x, .inr ⟨_, _, _, by rw [hln], Blk.set hg1', ?_, hm, ?_, ?_⟩⟩, ?_, ?_, rfl⟩
      · rw [hln]; omega
      · simp only [List.length_singleton, hdl, show (k + 1) * 4 = k * 4 + 4 by omega, Nat.one_mul]
        rw [e2, hcl]
      · simp only [List.length_singleton, hdl, hln, show (k + 1) * 4 = k * 4 + 4 by omega, show (l.length + 1) * 4 = k * 4 + 4 + (l.length - k) * 4 by omega, Nat.one_mul]
        rw [e1, List.flatMap_append, List.flatMap_append]
      · exact Fr.set (Fr.set (Fr.drew (Fr.refl (fun k => own (Value.slice (some ⟨g, 0, none⟩) l.length cap) = some k) w)) g _ (.inl rfl)) g _ (.inl rfl)
      · intro b hb
        exact .inl hb
end Go.Proofs.Ytffgecomdlnngaa

set_option maxRecDepth 100000
namespace Go.Proofs.Ytffgecomdlnngaa
open Go Go.Eng
def PR.f (p : PR) : Int × Int × Int × List (Int × Int × Int) := (p.pid, p.ep, p.nx, p.rs)
structure PqI (w0 w : World) (ov : Value) (l : List PR) (n : Nat) : Prop where
  ho : Own w.heap 59 4 prE ov l
  fo : ∀ b, own ov = some b → w0.heap.size ≤ b
  rc : ∀ (i : Nat) (p : PR), i < n → l[i]? = some p → Own w.heap 61 3 rcE p.rv.1 p.rs ∧ ∀ b, own p.rv.1 = some b → w0.heap.size ≤ b
  sep : ∀ (i j : Nat) (p q : PR) b, i < n → j < n → i ≠ j → l[i]? = some p → l[j]? = some q → own p.rv.1 = some b → own q.rv.1 ≠ some b
  fr : Fr No w0 w
theorem PqI.frN {w0 w w' : World} {ov : Value} {l : List PR} {n : Nat} (S : PqI w0 w ov l n) (h : Fr No w w') : PqI w0 w' ov l n :=
  ⟨S.ho.frN h, S.fo, fun i p hi hp => ⟨(S.rc i p hi hp).1.frN h, (S.rc i p hi hp).2⟩, S.sep, S.fr.trans h⟩
theorem set_get {l : List PR} {k : Nat} {q x : PR} {i : Nat} (h : (l.set k q)[i]? = some x) : (i = k ∧ x = q) ∨ (i ≠ k ∧ l[i]? = some x) := by
  rw [List.getElem?_set] at h
  by_cases e : k = i
  · rw [if_pos e] at h
    split at h
    · exact .inl ⟨e.symm, (Option.some.inj h).symm⟩
    · cases h
  · rw [if_neg e] at h
    exact .inr ⟨fun h' => e h'.symm, h⟩
theorem PqI.upd {w0 w w1 w2 : World} {ov : Value} {l : List PR} {n n' k : Nat} {p q : PR} (S : PqI w0 w ov l n) (hp : l[k]? = some p) (hn' : ∀ j, j < n' → j = k ∨ j < n) (h1 : Fr (fun b => k < n ∧ own p.rv.1 = some b) w w1)
    (hv : Own w1.heap 61 3 rcE q.rv.1 q.rs) (hfv : ∀ b, own q.rv.1 = some b → (k < n ∧ own p.rv.1 = some b) ∨ w.heap.size ≤ b) (h2 : Fr (fun b => own ov = some b) w1 w2) (ho : Own w2.heap 59 4 prE ov (l.set k q)) : PqI w0 w2 ov (l.set k q) n' := by
  have o1 : Own w1.heap 59 4 prE ov l := S.ho.fr h1 (fun b hb h => Own.ne_own S.ho (S.rc k p h.1 hp).1 (by decide) b hb h.2)
  have hs := S.fr.size
  have hs1 := h1.size
  have r1 : ∀ (i : Nat) (x : PR), i < n → i ≠ k → l[i]? = some x → Own w2.heap 61 3 rcE x.rv.1 x.rs := fun i x hi hik hx => by
    have hx1 := (S.rc i x hi hx).1.fr h1 (fun b hb h => S.sep i k x p b hi h.1 hik hx hp hb h.2)
    exact hx1.fr h2 (fun b hb h => Own.ne_own o1 hx1 (by decide) b h hb)
  have q1 : Own w2.heap 61 3 rcE q.rv.1 q.rs := hv.fr h2 (fun b hb h => Own.ne_own o1 hv (by decide) b h hb)
  have q2 : ∀ b, own q.rv.1 = some b → w0.heap.size ≤ b := fun b hb => by
    rcases hfv b hb with ⟨h3, h4⟩ | h3
    · exact (S.rc k p h3 hp).2 b h4
    · omega
  have q3 : ∀ (j : Nat) (x : PR) b, j < n → j ≠ k → l[j]? = some x → own q.rv.1 = some b → own x.rv.1 ≠ some b := fun j x b hj hjk hx hb h => by
    rcases hfv b hb with ⟨h3, h4⟩ | h3
    · exact S.sep k j p x b h3 hj (Ne.symm hjk) hp hx h4 h
    · have := (S.rc j x hj hx).1.lt b h; omega
  refine ⟨ho, S.fo, fun i x hi hx => ?_, fun i j x y b hi hj hij hx hy hb => ?_, ?_⟩
  · rcases set_get hx with ⟨rfl, rfl⟩ | ⟨hik, hx⟩
    · exact ⟨q1, q2⟩
    · rcases hn' i hi with h | h
      · exact absurd h hik
      · exact ⟨r1 i x h hik hx, (S.rc i x h hx).2⟩
  · rcases set_get hx with ⟨ei, ex⟩ | ⟨hik, hx2⟩
    · rcases set_get hy with ⟨ej, ey⟩ | ⟨hjk, hy2⟩
      · exact absurd (ei.trans ej.symm) hij
      · rcases hn' j hj with h | h
        · exact absurd h hjk
        · rw [ex] at hb; exact q3 j y b h hjk hy2 hb
    · rcases hn' i hi with h | h
      · exact absurd h hik
      rcases set_get hy with ⟨ej, ey⟩ | ⟨hjk, hy2⟩
      · rw [ey]; exact fun h' => q3 i x b h hik hx2 h' hb
      · rcases hn' j hj with h' | h'
        · exact absurd h' hjk
        · exact S.sep i j x y b h h' hij hx2 hy2 hb
  · refine (S.fr.trans' h1 (fun b hb => .inr ((S.rc k p hb.1 hp).2 b hb.2))).trans' h2 (fun b hb => .inr (S.fo b hb))
theorem ins_get {l : List PR} {k : Nat} {x y : PR} {i : Nat} (hk : k ≤ l.length) (h : (l.take k ++ [x] ++ l.drop k)[i]? = some y) : (i = k ∧ y = x) ∨ (i < k ∧ l[i]? = some y) ∨ (k < i ∧ l[i - 1]? = some y) := by
  have e1 : (l.take k ++ [x]).length = k + 1 := by simp; omega
  have e2 : (l.take k).length = k := by simp; omega
  by_cases h1 : i < k + 1
  · rw [List.getElem?_append_left (by omega)] at h
    by_cases h2 : i < k
    · rw [List.getElem?_append_left (by omega), List.getElem?_take, if_pos h2] at h
      exact .inr (.inl ⟨h2, h⟩)
    · have : i = k := by omega
      subst this
      rw [List.getElem?_append_right (by omega), e2, Nat.sub_self] at h
      exact .inl ⟨rfl, by simpa using h.symm⟩
  · rw [List.getElem?_append_right (by omega), e1, List.getElem?_drop] at h
    exact .inr (.inr ⟨by omega, by rw [← h]; congr 1; omega⟩)
theorem PqI.ins {w0 w w2 : World} {ov uv : Value} {l : List PR} {k : Nat} {x : PR} (S : PqI w0 w ov l l.length) (hk : k ≤ l.length) (hx : x.rv.1 = .slice none 0 0) (hxs : x.rs = []) (ho : Own w2.heap 59 4 prE uv (l.take k ++ [x] ++ l.drop k)) (h2 : Fr (fun b => own ov = some b) w w2) (hfu : ∀ b, own uv = some b → own ov = some b ∨ w.heap.size ≤ b) :
    PqI w0 w2 uv (l.take k ++ [x] ++ l.drop k) (l.take k ++ [x] ++ l.drop k).length := by
  have hs := S.fr.size
  have r1 : ∀ (i : Nat) (y : PR), l[i]? = some y → Own w2.heap 61 3 rcE y.rv.1 y.rs ∧ ∀ b, own y.rv.1 = some b → w0.heap.size ≤ b := fun i y hy => by
    have hi := (List.getElem?_eq_some_iff.1 hy).1
    exact ⟨(S.rc i y hi hy).1.fr h2 (fun b hb h => Own.ne_own S.ho (S.rc i y hi hy).1 (by decide) b h hb), (S.rc i y hi hy).2⟩
  have s1 : ∀ (i j : Nat) (y z : PR) b, i ≠ j → l[i]? = some y → l[j]? = some z → own y.rv.1 = some b → own z.rv.1 ≠ some b := fun i j y z b hij hy hz =>
    S.sep i j y z b (List.getElem?_eq_some_iff.1 hy).1 (List.getElem?_eq_some_iff.1 hz).1 hij hy hz
  have hxo : own x.rv.1 = none := by rw [hx]; rfl
  refine ⟨ho, fun b hb => ?_, fun i p _ hp => ?_, fun i j p q b _ _ hij hp hq hb => ?_, S.fr.trans' h2 (fun b hb => .inr (S.fo b hb))⟩
  · rcases hfu b hb with h | h
    · exact S.fo b h
    · omega
  · rcases ins_get hk hp with ⟨_, rfl⟩ | ⟨_, h⟩ | ⟨_, h⟩
    · exact ⟨by rw [hx, hxs]; exact Own.nil _ _ _ _, fun b hb => by rw [hxo] at hb; cases hb⟩
    · exact r1 _ _ h
    · exact r1 _ _ h
  · rcases ins_get hk hp with ⟨_, rfl⟩ | ⟨hi, h⟩ | ⟨hi, h⟩
    · rw [hxo] at hb; cases hb
    · rcases ins_get hk hq with ⟨_, rfl⟩ | ⟨hj, h'⟩ | ⟨hj, h'⟩
      · rw [hxo]; exact fun h => by cases h
      · exact s1 i j p q b hij h h' hb
      · exact s1 i (j - 1) p q b (by omega) h h' hb
    · rcases ins_get hk hq with ⟨_, rfl⟩ | ⟨hj, h'⟩ | ⟨hj, h'⟩
      · rw [hxo]; exact fun h => by cases h
      · exact s1 (i - 1) j p q b (by omega) h h' hb
      · exact s1 (i - 1) (j - 1) p q b (by omega) h h' hb
/-- what a batch that is new leaves of its producer -/
def newRs (ep ep0 : Int) (rs0 : List (Int × Int × Int)) (r : Int × Int × Int) : List (Int × Int × Int) :=
  if 5 < ((if ep0 = ep then rs0 else []) ++ [r]).length then ((if ep0 = ep then rs0 else []) ++ [r]).drop 1 else (if ep0 = ep then rs0 else []) ++ [r]
def okOff (off : Int) : Prop := 0 ≤ off ∧ off ≤ 4611686018427387904
/-- the five roads of Put -/
def PutR (l : List PR) (pid ep fi : Int) (ns : List Nat) (off er : Int) (m : List PR) : Prop :=
  (¬ (mayB pid ep fi ns = true ∧ RightOk l) ∧ er = 2 ∧ m = []) ∨
  ((mayB pid ep fi ns = true ∧ RightOk l) ∧ ∃ a g e, judgeV l pid ep fi ns.length = .tuple #[.int .i64 a, .bool g, .int .i64 e] ∧
    ((e ≠ 0 ∧ er = e ∧ m = []) ∨ (e = 0 ∧ ¬ okOff off ∧ er = 2 ∧ m = []) ∨ (e = 0 ∧ okOff off ∧ (g = true ∨ pid = 0) ∧ er = 0 ∧ m.map PR.f = l.map PR.f) ∨
      (e = 0 ∧ okOff off ∧ g = false ∧ pid ≠ 0 ∧ er = 0 ∧ ∃ (l1 : List PR) (k : Nat) (q : PR), l1.map PR.f = l.map PR.f ∧ k ≤ l1.length ∧ (∀ (j : Nat) p, j < k → l1[j]? = some p → p.pid < pid) ∧ (∀ (j : Nat) p, k ≤ j → l1[j]? = some p → pid ≤ p.pid) ∧
        ((∃ p, l1[k]? = some p ∧ p.pid = pid ∧ q.f = (pid, ep, fi + ns.length, newRs ep p.ep p.rs (fi, (ns.length : Int), off)) ∧ m = l1.set k q) ∨
         ((∀ p, l1[k]? = some p → p.pid ≠ pid) ∧ q.f = (pid, ep, fi + ns.length, newRs ep 0 [] (fi, (ns.length : Int), off)) ∧ m = l1.take k ++ [q] ++ l1.drop k)))))
theorem judge1_tup (nx : Int) (rs : List (Int × Int × Int)) (fi : Int) (n : Nat) : ∃ a g e, judge1 nx rs fi n = .tuple #[.int .i64 a, .bool g, .int .i64 e] := by
  unfold judge1
  split
  · exact ⟨_, _, _, rfl⟩
  · split
    · exact ⟨_, _, _, rfl⟩
    · split <;> exact ⟨_, _, _, rfl⟩
theorem judgeV_tup (l : List PR) (pid ep fi : Int) (n : Nat) : ∃ a g e, judgeV l pid ep fi n = .tuple #[.int .i64 a, .bool g, .int .i64 e] := by
  unfold judgeV
  split
  · exact ⟨_, _, _, rfl⟩
  · split
    · split
      · exact ⟨_, _, _, rfl⟩
      · exact judge1_tup _ _ _ _
    · split
      · exact ⟨_, _, _, rfl⟩
      · split
        · exact judge1_tup _ _ _ _
        · exact judge1_tup _ _ _ _
end Go.Proofs.Ytffgecomdlnngaa
