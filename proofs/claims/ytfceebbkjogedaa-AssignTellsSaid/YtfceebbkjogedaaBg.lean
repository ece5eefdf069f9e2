/- Layer 27: the law AssignTells, the walk. -/
import Derived.Test.YtfceebbkjogedaaBe
import Derived.Test.YtfceebbkjogedaaBa
import Derived.Test.YtfceebbkjogedaaAa
set_option maxRecDepth 100000
namespace Go.Proofs.Ytfceebbkjogedaa
open Go Go.Eng
theorem copy_subsW (v : Value) (subs : List (ByteArray × OV × List ByteArray)) (w : World) (hr : Rd w.heap 2 nE v subs) (hin : ∀ x ∈ subs, Rd w.heap 1 sE x.2.1.1 x.2.2 ∧ x.2.2.length * 16 ≤ 140737488355328) (hl : subs.length ≤ 4096) :
    Rets Try.prog 46 #[v] w fun u w' => Fr No w w' ∧ u.oneCell' = true ∧ ∃ subs', SubsO w'.heap w.heap.size u subs' ∧ subs'.map (fun x => (x.1, x.2.2)) = subs.map (fun x => (x.1, x.2.2)) := by
  refine rets_of Try.func46 rfl Try.ntmps46 rfl rfl (by kernel_rfl) ?_
  (apply vC_seq; apply vC_region; ((apply vL_val); (case h => ((apply opv_E); exact rfl))); apply vL_nil; apply seqP_normal; apply vC_seq; apply vC_region; ((apply vL_val); (case h => ((apply opv_E); exact rfl))); apply vL_nil; apply seqP_normal; (iterate 2 (apply vC_seq)); apply vC_region; ((apply vL_val); (case h => ((apply opv_E); exact rfl))); apply vL_nil; apply seqP_normal; apply vC_block)
  (apply vC_loop2 524280 4 3 (fun u v3 w' => ∃ (k : Nat) (l : List (ByteArray × OV × List ByteArray)), u = .int .i64 (k : Int) ∧ k ≤ subs.length ∧ Fr No w w' ∧ v3.oneCell' = true ∧ SubsO w'.heap w.heap.size v3 l ∧ l.map (fun x => (x.1, x.2.2)) = (subs.take k).map (fun x => (x.1, x.2.2))) (fun u _ _ => subs.length - (RowKit.intOf u).toNat)); (case h1 => (first | exact norm_eq rfl | ((conv => lhs; whnf) <;> exact rfl))); (case h2 => (first | exact norm_eq rfl | ((conv => lhs; whnf) <;> exact rfl)))
  case h0 => exact ⟨0, [], rfl, by omega, Fr.refl _ _, rfl, ⟨Own.nil _ _ _ _, by simp, fun b hb => (by cases hb)⟩, rfl⟩
  case round =>
  rintro junk _ v3 w1 ⟨k, l, rfl, hk, hf1, hone3, S, hC⟩
  have hr1 := hr.frN hf1
  have hll : l.length = k := by have := congrArg List.length hC; simp at this; omega
  by_cases hkl : k < subs.length
  · obtain ⟨x, hx⟩ : ∃ x, subs[k]? = some x := ⟨subs[k], by simp [hkl]⟩
    have hxm := List.mem_of_getElem? hx
    ((iterate 2 (apply vC_seq)); apply vC_region; ((apply vL_val); (case h => ((apply opv_E); exact rfl))); ((apply vL_val); (case h => ((apply opv_move); ((conv => lhs; whnf) <;> exact rfl)))); ((apply vL_val); (case h => ((apply opv_len); (first | exact norm_eq rfl | ((conv => lhs; whnf) <;> exact rfl)); (first | assumption | infer_instance)))); ((apply vL_val); (case h => ((apply opv_E); exact rfl))); apply vL_nil; apply seqP_normal; (refine vC_cond_dec rfl (fun _ => ?_) (fun h => by omega)); apply vC_skip; apply seqP_normal; apply vC_seq; apply vC_block; apply vC_region; (iterate 2 (((apply vL_val); (case h => ((apply opv_move); ((conv => lhs; whnf) <;> exact rfl)))))); ((apply vL_val); (case h => ((apply opv_E); exact rfl))); ((apply vL_val); (case h => ((apply opv_indexAddr); (first | exact norm_eq rfl | ((conv => lhs; whnf) <;> exact rfl)); exact rfl; (first | assumption | infer_instance); (first | omega | (simp only [List.length_map]; omega)); (first | omega | (simp only [List.length_map]; omega))))); ((apply vL_val); (case h => ((apply opv_ld_eln); exact rfl; exact rfl; (first | assumption | infer_instance); assumption))))
    refine vL_callF rfl (copy_sub x w1 ((hin x hxm).1.frN hf1) (hin x hxm).2) rfl ?_
    rintro _ w2 ⟨hf2, v2, rfl, ho2, hfr2⟩
    have S2 := S.frN hf2
    (((apply vL_val); (case h => ((apply opw_buildSl); exact rfl; exact rfl; exact rfl; (first | exact (rfl : _ = some []) | exact (rfl : _ = some [_]) | exact (rfl : _ = some [_, _]) | exact (rfl : _ = some [_, _, _]) | exact (rfl : _ = some [_, _, _, _]) | exact (rfl : _ = some [_, _, _, _, _]) | exact (rfl : _ = some [_, _, _, _, _, _]) | exact (rfl : _ = some [_, _, _, _, _, _, _]) | exact (rfl : _ = some [_, _, _, _, _, _, _, _]) | exact (rfl : _ = some [_, _, _, _, _, _, _, _, _]) | exact (rfl : _ = some [_, _, _, _, _, _, _, _, _, _]) | exact (rfl : _ = some [_, _, _, _, _, _, _, _, _, _, _]) | exact (rfl : _ = some [_, _, _, _, _, _, _, _, _, _, _, _]) | exact (rfl : _ = some [_, _, _, _, _, _, _, _, _, _, _, _, _]) | exact (rfl : _ = some [_, _, _, _, _, _, _, _, _, _, _, _, _, _]) | exact (rfl : _ = some [_, _, _, _, _, _, _, _, _, _, _, _, _, _, _]) | exact (rfl : _ = some [_, _, _, _, _, _, _, _, _, _, _, _, _, _, _, _]))))))
    refine vL_append (enc := nE) (xs := l) (ys := [(x.1, v2, x.2.2)]) (T := 84) (sz := 2) (by (first | exact norm_eq rfl | ((conv => lhs; whnf) <;> exact rfl))) (by (first | exact norm_eq rfl | ((conv => lhs; whnf) <;> exact rfl))) (Own.alloc S2.out) (Rd.new1 _ _ rfl) rfl (by decide) ?_ ?_ ?_
    · simp [maxLen]; omega
    · simp; omega
    intro v' w3 ho3 hf3 hfr3 hone4 _
    have hfa : Fr (fun j => own v3 = some j) w2 w3 := ((Fr.refl _ w2).alloc _).trans' hf3 (fun i hi => .inl hi)
    (((apply vL_val); (case h => ((apply opv_assign); ((conv => lhs; whnf) <;> exact rfl)))); apply vL_nil; apply blockP_normal; apply seqP_normal; apply vC_region; ((apply vL_val); (case h => ((apply opv_E); exact rfl))); ((apply vL_val); (case h => ((apply opv_add); exact rfl; exact rfl; (first | omega | (simp only [List.length_map]; omega))))); ((apply vL_val); (case h => ((apply opv_E); exact rfl))); apply vL_nil; apply loopP_normal)
    (with_reducible apply end2); (case hs => (repeat (first | (with_reducible exact same_mask _ _ _) | with_reducible apply same_updN | ((with_reducible refine same_updO ?_ ?_); rotate_left; exact rfl) | ((with_reducible refine same_upd ?_ ?_); rotate_left; exact rfl) | ((with_reducible refine same_maskIn ?_ ?_); rotate_left; exact rfl)))); (case h1 => (first | exact norm_eq rfl | ((conv => lhs; whnf) <;> exact rfl))); (case h2 => (first | exact norm_eq rfl | ((conv => lhs; whnf) <;> exact rfl)))
    · refine ⟨k + 1, _, rfl, by omega, (hf1.trans hf2).trans' hfa (fun i hi => .inr (S.frO i hi)), hone4, ⟨ho3, fun y hy => ?_, fun b hb => ?_⟩, ?_⟩
      · simp only [List.mem_append, List.mem_singleton] at hy
        rcases hy with hy | rfl
        · exact (S2.inner y hy).fr hfa (fun b hb h => Own.ne_own (S2.inner y hy) S2.out (by decide) b hb h)
        · exact ho2.fr hfa (fun b hb h => Own.ne_own ho2 S2.out (by decide) b hb h)
      · rcases hfr3 b hb with h | h
        · exact S.frO b h
        · have := (hf1.trans hf2).size; rw [alloc_size] at h; omega
      · rw [List.map_append, hC, take_next hx, List.map_append]; rfl
    · simp [RowKit.intOf]; omega
  have e : k = subs.length := by omega
  rw [e, List.take_length] at hC
  obtain ⟨va, vn, vc, rfl⟩ := S.out.isSlice
  ((iterate 2 (apply vC_seq)); apply vC_region; ((apply vL_val); (case h => ((apply opv_E); exact rfl))); ((apply vL_val); (case h => ((apply opv_move); ((conv => lhs; whnf) <;> exact rfl)))); ((apply vL_val); (case h => ((apply opv_len); (first | exact norm_eq rfl | ((conv => lhs; whnf) <;> exact rfl)); (first | assumption | infer_instance)))); ((apply vL_val); (case h => ((apply opv_E); exact rfl))); apply vL_nil; apply seqP_normal; (refine vC_cond_dec rfl (fun h => by omega) (fun _ => ?_)); apply vC_exit; apply seqP_exit; apply loopP_exit; apply blockP_exit; apply seqP_normal; apply vC_seq; apply vC_region; (iterate 2 (((apply vL_val); (case h => ((apply opv_E); exact rfl))))); apply vL_nil; apply seqP_normal; apply vC_ret)
  (apply ret1; (case h1 => (first | exact norm_eq rfl | ((conv => lhs; whnf) <;> exact rfl))))
  exact ⟨hf1, hone3, l, S, hC⟩


/-- what the members say, without where their lists lie -/
def ers (x : ByteArray × OV × List ByteArray) : ByteArray × OV × List ByteArray := (x.1, ⟨.slice none 0 0, rfl⟩, x.2.2)
theorem wantsAt_ers (subs : List (ByteArray × OV × List ByteArray)) (t : ByteArray) (i : Nat) : wantsAt (subs.map ers) t i = wantsAt subs t i := by
  unfold wantsAt
  rw [List.getElem?_map]
  cases subs[i]? <;> rfl
theorem rightB_ers (ts : List (ByteArray × Int)) (subs : List (ByteArray × OV × List ByteArray)) : rightB ts (subs.map ers) = rightB ts subs := by
  unfold rightB
  rw [List.all_map, List.map_map]
  rfl
theorem rangeS_ers (ts : List (ByteArray × Int)) (subs : List (ByteArray × OV × List ByteArray)) : rangeS ts (subs.map ers) = rangeS ts subs := by
  have hw : ∀ t k, whoN (subs.map ers) t k = whoN subs t k := fun t k => by
    unfold whoN
    congr 1
    funext i
    exact wantsAt_ers subs t i
  have hp : ∀ i, plc (subs.map ers) i = plc subs i := fun i => by
    funext t
    unfold plc
    rw [hw, List.length_map]
  unfold rangeS
  apply List.ext_getElem?
  intro i
  cases hi : subs[i]? with
  | none =>
    have hl := List.getElem?_eq_none_iff.1 hi
    rw [List.getElem?_eq_none (by rw [rangeC_len, List.length_map]; exact hl), List.getElem?_eq_none (by rw [rangeC_len]; exact hl)]
  | some s =>
    rw [rangeC_get (s := ers s) (by rw [List.getElem?_map, hi]; rfl), rangeC_get hi, hp]
    rfl
theorem ers_eq {subs subs' : List (ByteArray × OV × List ByteArray)} (h : subs'.map (fun x => (x.1, x.2.2)) = subs.map (fun x => (x.1, x.2.2))) : subs'.map ers = subs.map ers := by
  have := congrArg (List.map fun (y : ByteArray × List ByteArray) => ((y.1, ⟨.slice none 0 0, rfl⟩, y.2) : ByteArray × OV × List ByteArray)) h
  rw [List.map_map, List.map_map] at this
  exact this
theorem small_of {subs subs' : List (ByteArray × OV × List ByteArray)} (h : subs'.map (fun x => (x.1, x.2.2)) = subs.map (fun x => (x.1, x.2.2))) (hs : ∀ x ∈ subs, x.1.size ≤ 9223372036854775807 ∧ ∀ s ∈ x.2.2, s.size ≤ 9223372036854775807) : ∀ x ∈ subs', x.1.size ≤ 9223372036854775807 ∧ ∀ s ∈ x.2.2, s.size ≤ 9223372036854775807 := fun x hx => by
  have h1 : (x.1, x.2.2) ∈ subs'.map (fun x => (x.1, x.2.2)) := List.mem_map.2 ⟨x, hx, rfl⟩
  rw [h] at h1
  obtain ⟨y, hy, e⟩ := List.mem_map.1 h1
  simp only [Prod.mk.injEq] at e
  have := hs y hy
  rw [e.1, e.2] at this
  exact this
theorem res_uni {h : Array Obj} {B : Nat} {u : Value} {ts : List (ByteArray × Int)} {subs : List (ByteArray × OV × List ByteArray)} (hu : (rightB ts subs = false ∧ u = .tuple #[.slice none 0 0, .int .i64 2]) ∨ (rightB ts subs = true ∧ ∃ v shs, u = .tuple #[v, .int .i64 0] ∧ ShsL h B v shs ∧ shs.map (fun x => (x.1, x.2.2)) = rangeS ts subs)) :
    ∃ v shs, u = .tuple #[v, .int .i64 (if rightB ts subs then 0 else 2)] ∧ Shares h v shs ∧ shs.map (fun x => (x.1, x.2.2)) = (if rightB ts subs then rangeS ts subs else []) ∧ v.oneCell' = true := by
  rcases hu with ⟨h1, rfl⟩ | ⟨h1, v, shs, rfl, S, hC⟩
  · rw [h1]
    exact ⟨_, [], rfl, ⟨Rd.nil _ _ _, by simp⟩, rfl, rfl⟩
  · rw [h1]
    refine ⟨v, shs, rfl, S.shares, hC, ?_⟩
    obtain ⟨va, vn, vc, rfl⟩ := S.out.isSlice
    rfl
theorem own_uni (C : List (ByteArray × List (ByteArray × Int))) (p : ByteArray × Int) : ∃ m b, (match ownerOf C p with | some m => Value.tuple #[.string m, .bool true] | none => .tuple #[.string ⟨#[]⟩, .bool false]) = .tuple #[.string m, .bool b] := by
  cases ownerOf C p with
  | none => exact ⟨_, _, rfl⟩
  | some m => exact ⟨_, _, rfl⟩
section
variable {P : Program} {n : Nat} {e : Env} {w : World} {Q : Post} {ops : List Oper} {S : World → Prop} {listed : Array Bool} {fuel : Nat}
theorem vA_gB {b : Bool} (c : Bool) (dj : Nat) (hy : e dj = .bool b) (hb : b = c) (h : vA P n ops S fuel listed (upd e dj (.bool c)) w Q) : vA P n ops S fuel listed e w Q := by
  subst hb
  rwa [upd_self _ _ _ hy] at h
end
theorem Shares.none (h : Array Obj) : Shares h (.slice none 0 0) [] := ⟨Rd.nil _ _ _, by simp⟩

theorem tells27 (vt vs : Value) (p : ByteArray × Int) (ts : List (ByteArray × Int)) (subs : List (ByteArray × OV × List ByteArray)) (w : World) (ht : Rd w.heap 2 tE vt ts) (hs : Subs w.heap vs subs) (hts : ∀ t ∈ ts, t.1.size ≤ 9223372036854775807) (hin : ∀ x ∈ subs, x.2.2.length * 16 ≤ 140737488355328) (hp : p.1.size ≤ 9223372036854775807) :
    Rets Try.prog 9 #[vt, vs, .agg (tE p).toArray] w fun u w' => u = .bool true ∧ Fr No w w' := by
  have hrd := hs.rd
  have hsm1 := ht.small
  have hsm2 := hrd.small
  obtain ⟨ta, tc, rfl⟩ := ht.len
  obtain ⟨sa, sc, rfl⟩ := hrd.len
  refine rets_of Try.func9 rfl Try.ntmps9 rfl rfl (by kernel_rfl) ?_
  (apply vC_seq; apply vC_region; ((apply vL_val); (case h => ((apply opw_boxn); exact rfl))); ((apply vL_val); (case h => ((apply opv_E); exact rfl))); apply vL_nil; apply seqP_normal; (iterate 2 (apply vC_seq)); apply vC_region; ((apply vL_val); (case h => ((apply opv_E); exact rfl))); ((apply vL_val); (case h => ((apply opv_lenc); exact rfl))); (iterate 2 (((apply vL_val); (case h => ((apply opv_E); exact rfl))))))
  refine vL_gen (fun w' => Fr No w w' ∧ Blk w'.heap w.heap.size (tE p) 70) ⟨by (repeat (first | exact Fr.refl _ _ | assumption | with_reducible apply Fr.allocSet | with_reducible apply Fr.alloc | with_reducible apply Fr.drewN | with_reducible apply Fr.drew | ((with_reducible apply Fr.set); rotate_left; (right; ((try simp only [alloc_size]); omega))) | (refine Fr.trans ?_ (by assumption)))), inferInstance⟩ ?_
  rintro w1 ⟨hf1, hb1⟩
  generalize w.heap.size = pb at *
  skip
  rcases (by omega : 100 < ts.length ∨ (ts.length ≤ 100 ∧ 100 < subs.length) ∨ (ts.length ≤ 100 ∧ subs.length ≤ 100)) with hl | hl | hl
  · ((refine vL_or rfl rfl (fun h => by omega) (fun _ => ?_)); (iterate 2 (((apply vL_unwanted'); exact rfl; exact rfl))); ((apply vL_val); (case h => ((apply opv_E); exact rfl))); apply vL_nil; apply seqP_normal; ((apply vC_cond_true); exact rfl); apply vC_seq; apply vC_region)
    refine vL_callF rfl (awake27 _) rfl ?_
    rintro _ w2 ⟨rfl, hf2⟩
    (((apply vL_val); (case h => ((apply opv_E); exact rfl))); apply vL_nil; apply seqP_normal; apply vC_ret; apply seqP_ret)
    (apply ret1; (case h1 => (first | exact norm_eq rfl | ((conv => lhs; whnf) <;> exact rfl))))
    exact ⟨rfl, hf1.trans hf2⟩
  · ((refine vL_or rfl rfl (fun _ => ?_) (fun h => by omega)); ((apply vL_val); (case h => ((apply opv_E); exact rfl))); ((apply vL_wanted); exact rfl); ((apply vL_val); (case h => ((apply opv_lenc); exact rfl))); ((apply vL_wanted); exact rfl); (iterate 2 (((apply vL_val); (case h => ((apply opv_E); exact rfl))))); apply vL_nil; apply seqP_normal; (refine vC_cond_dec rfl (fun _ => ?_) (fun h => by omega)); apply vC_seq; apply vC_region)
    refine vL_callF rfl (awake27 _) rfl ?_
    rintro _ w2 ⟨rfl, hf2⟩
    (((apply vL_val); (case h => ((apply opv_E); exact rfl))); apply vL_nil; apply seqP_normal; apply vC_ret; apply seqP_ret)
    (apply ret1; (case h1 => (first | exact norm_eq rfl | ((conv => lhs; whnf) <;> exact rfl))))
    exact ⟨rfl, hf1.trans hf2⟩
  ((refine vL_or rfl rfl (fun _ => ?_) (fun h => by omega)); ((apply vL_val); (case h => ((apply opv_E); exact rfl))); ((apply vL_wanted); exact rfl); ((apply vL_val); (case h => ((apply opv_lenc); exact rfl))); ((apply vL_wanted); exact rfl); (iterate 2 (((apply vL_val); (case h => ((apply opv_E); exact rfl))))); apply vL_nil; apply seqP_normal; (refine vC_cond_dec rfl (fun h => by omega) (fun _ => ?_)); apply vC_skip; apply seqP_normal; apply vC_seq; apply vC_region; ((apply vL_val); (case h => ((apply opv_E); exact rfl))))
  refine vL_callF rfl (kit_copy_top _ ts w1 (ht.frN hf1) (by omega)) rfl ?_
  rintro vin w2 ⟨hf2, hto2, _, hone2⟩
  have hf02 := hf1.trans hf2
  (((apply vL_val); (case h => ((apply opv_E); exact rfl))))
  refine vL_callF rfl (copy_subsW _ subs w2 (hrd.frN hf02) (fun x hx => ⟨(hs.inner x hx).frN hf02, hin x hx⟩) (by omega)) rfl ?_
  rintro vl w3 ⟨hf3, hone3, subs', SO3, hC⟩
  have hf03 := hf02.trans hf3
  have hto3 := hto2.frN hf3
  have hsmall' := small_of hC hs.small
  have hR' : rightB ts subs' = rightB ts subs := by rw [← rightB_ers ts subs', ers_eq hC, rightB_ers]
  have hS' : rangeS ts subs' = rangeS ts subs := by rw [← rangeS_ers ts subs', ers_eq hC, rangeS_ers]
  have Ss3 : Subs w3.heap vl subs' := ⟨SO3.out.rd, fun x hx => (SO3.inner x hx).rd, hsmall'⟩
  ((iterate 2 (((apply vL_val); (case h => ((apply opv_assign); ((conv => lhs; whnf) <;> exact rfl)))))); apply vL_nil; apply seqP_normal; apply vC_seq; apply vC_region; (iterate 2 (((apply vL_val); (case h => ((apply opv_move); ((conv => lhs; whnf) <;> exact rfl)))))))
  refine vL_callF rfl (range27 vin vl ts subs' w3 hto3.rd Ss3 hts) rfl ?_
  rintro _ w4 ⟨hf4, ha⟩
  rw [hR', hS'] at ha
  obtain ⟨va, shA, rfl, SA4, hCA, honeA⟩ := res_uni (subs := subs) (ts := ts) ha
  have hf04 := hf03.trans hf4
  have hb4 := hb1.frN ((hf2.trans hf3).trans hf4)
  generalize hn : (if rightB ts subs = true then (0 : Int) else 2) = n at *
  generalize hCC : (if rightB ts subs = true then rangeS ts subs else []) = C at *
  obtain ⟨m, b, hmb⟩ := own_uni C p
  (((apply vL_val); (case h => ((apply opv_E); exact rfl))); ((apply vL_val); (case h => ((apply opv_extract); (first | exact norm_eq rfl | ((conv => lhs; whnf) <;> exact rfl)); exact rfl))); ((apply vL_val); (case h => ((apply opv_E); exact rfl))); ((apply vL_val); (case h => ((apply opv_assign); ((conv => lhs; whnf) <;> exact rfl)))); ((apply vL_val); (case h => ((apply opv_E); exact rfl))); apply vL_nil; apply seqP_normal; apply vC_seq; apply vC_region; (iterate 2 (((apply vL_val); (case h => ((apply opv_E); exact rfl))))))
  refine vL_callF rfl (range_ref _ _ ts subs w4 (ht.frN hf04) (hs.frN hf04) hts) rfl ?_
  rintro _ w5 ⟨hf5, hb⟩
  obtain ⟨vb, shB, rfl, SB5, hCB, honeB⟩ := res_uni hb
  rw [hn, hCC] at *
  have hf05 := hf04.trans hf5
  have hb5 := hb4.frN hf5
  have SA5 := SA4.frN hf5
  (((apply vL_val); (case h => ((apply opv_E); exact rfl))); ((apply vL_val); (case h => ((apply opv_extract); (first | exact norm_eq rfl | ((conv => lhs; whnf) <;> exact rfl)); exact rfl))); ((apply vL_val); (case h => ((apply opv_E); exact rfl))); ((apply vL_val); (case h => ((apply opv_assign); ((conv => lhs; whnf) <;> exact rfl)))); ((apply vL_val); (case h => ((apply opv_E); exact rfl))); apply vL_nil; apply seqP_normal; apply vC_seq; apply vC_region; ((apply vL_val); (case h => ((apply opv_move); ((conv => lhs; whnf) <;> exact rfl)))); ((apply vL_val); (case h => ((apply opv_loadbC); exact rfl; exact rfl; (first | assumption | infer_instance); (first | exact (rfl : _ = [_]) | exact (rfl : _ = [_, _]) | exact (rfl : _ = [_, _, _]) | exact (rfl : _ = [_, _, _, _]) | exact (rfl : _ = [_, _, _, _, _]) | exact (rfl : _ = [_, _, _, _, _, _]) | exact (rfl : _ = [_, _, _, _, _, _, _]) | exact (rfl : _ = [_, _, _, _, _, _, _, _]) | exact (rfl : _ = [_, _, _, _, _, _, _, _, _]) | exact (rfl : _ = [_, _, _, _, _, _, _, _, _, _]) | exact (rfl : _ = [_, _, _, _, _, _, _, _, _, _, _]) | exact (rfl : _ = [_, _, _, _, _, _, _, _, _, _, _, _])); exact rfl))))
  refine vL_callF rfl (owner27 va shA p w5 SA5) rfl ?_
  rintro u6 w6 ⟨hf6, hu6⟩
  rw [hCA] at hu6
  obtain rfl : u6 = .tuple #[.string m, .bool b] := hu6.trans hmb
  have hb6 := hb5.frN hf6
  ((iterate 5 (((apply vL_val); (case h => ((apply opv_E); exact rfl))))); apply vL_nil; apply seqP_normal; apply vC_seq; apply vC_region; ((apply vL_val); (case h => ((apply opv_move); ((conv => lhs; whnf) <;> exact rfl)))); ((apply vL_val); (case h => ((apply opv_loadbC); exact rfl; exact rfl; (first | assumption | infer_instance); (first | exact (rfl : _ = [_]) | exact (rfl : _ = [_, _]) | exact (rfl : _ = [_, _, _]) | exact (rfl : _ = [_, _, _, _]) | exact (rfl : _ = [_, _, _, _, _]) | exact (rfl : _ = [_, _, _, _, _, _]) | exact (rfl : _ = [_, _, _, _, _, _, _]) | exact (rfl : _ = [_, _, _, _, _, _, _, _]) | exact (rfl : _ = [_, _, _, _, _, _, _, _, _]) | exact (rfl : _ = [_, _, _, _, _, _, _, _, _, _]) | exact (rfl : _ = [_, _, _, _, _, _, _, _, _, _, _]) | exact (rfl : _ = [_, _, _, _, _, _, _, _, _, _, _, _])); exact rfl))))
  refine vL_callF rfl (owner_ref vb shB p w6 (SB5.frN hf6)) rfl ?_
  rintro u7 w7 ⟨hf7, hu7⟩
  rw [hCB] at hu7
  obtain rfl : u7 = .tuple #[.string m, .bool b] := hu7.trans hmb
  have hb7 := hb6.frN hf7
  have hf57 := hf6.trans hf7
  have SA7 := SA5.frN hf57
  have SB7 := SB5.frN hf57
  have hf07 := hf05.trans hf57
  have hf37 := (hf4.trans hf5).trans hf57
  have hto7 := hto3.frN hf37
  have SO7 := SO3.frN hf37
  have Ss7 := Ss3.frN hf37
  ((iterate 5 (((apply vL_val); (case h => ((apply opv_E); exact rfl))))); apply vL_nil; apply seqP_normal; (iterate 2 (apply vC_seq)))
  refine vC_draw' (fun wf => Fr No w7 wf) ((Fr.refl No w7).drew) ?_
  ((apply (tk 0)); (case hi => exact rfl); (case hf => kernel_rfl); (case hS => (repeat (first | exact Fr.refl _ _ | assumption | with_reducible apply Fr.allocSet | with_reducible apply Fr.alloc | with_reducible apply Fr.drewN | with_reducible apply Fr.drew | ((with_reducible apply Fr.set); rotate_left; (right; ((try simp only [alloc_size]); omega))) | (refine Fr.trans ?_ (by assumption))))); (case hy => (intro wf hwf; haveI := From.mk hwf; (((apply opv_move); ((conv => lhs; whnf) <;> exact rfl))))))
  ((apply (tk 1)); (case hi => exact rfl); (case hf => kernel_rfl); (case hS => (repeat (first | exact Fr.refl _ _ | assumption | with_reducible apply Fr.allocSet | with_reducible apply Fr.alloc | with_reducible apply Fr.drewN | with_reducible apply Fr.drew | ((with_reducible apply Fr.set); rotate_left; (right; ((try simp only [alloc_size]); omega))) | (refine Fr.trans ?_ (by assumption))))); (case hy => (intro wf hwf; haveI := From.mk hwf; (((apply opv_move); ((conv => lhs; whnf) <;> exact rfl))))))
  (refine tkc 2 rfl (by kernel_rfl) (by (repeat (first | exact Fr.refl _ _ | assumption | with_reducible apply Fr.allocSet | with_reducible apply Fr.alloc | with_reducible apply Fr.drewN | with_reducible apply Fr.drew | ((with_reducible apply Fr.set); rotate_left; (right; ((try simp only [alloc_size]); omega))) | (refine Fr.trans ?_ (by assumption))))) rfl (kit_same_shares va vb shA shB _ (SA7.rd.frN (Fr.refl No _).drew) (SB7.rd.frN (Fr.refl No _).drew) (fun x hx => (SA7.inner x hx).frN (Fr.refl No _).drew) (fun x hx => (SB7.inner x hx).frN (Fr.refl No _).drew)) rfl ?_)
  rintro u8 w8 ⟨hf8, hu8⟩
  rw [hCA, hCB] at hu8
  obtain rfl : u8 = .bool true := hu8.trans (congrArg Value.bool (decide_eq_true rfl))
  have hf78 : Fr No w7 w8 := ((Fr.refl No _).drew).trans hf8
  ((apply (tk 3)); (case hi => exact rfl); (case hf => kernel_rfl); (case hS => (repeat (first | exact Fr.refl _ _ | assumption | with_reducible apply Fr.allocSet | with_reducible apply Fr.alloc | with_reducible apply Fr.drewN | with_reducible apply Fr.drew | ((with_reducible apply Fr.set); rotate_left; (right; ((try simp only [alloc_size]); omega))) | (refine Fr.trans ?_ (by assumption))))); (case hy => (intro wf hwf; haveI := From.mk hwf; (((apply opv_not); exact rfl)))))
  ((apply (tk 4)); (case hi => exact rfl); (case hf => kernel_rfl); (case hS => (repeat (first | exact Fr.refl _ _ | assumption | with_reducible apply Fr.allocSet | with_reducible apply Fr.alloc | with_reducible apply Fr.drewN | with_reducible apply Fr.drew | ((with_reducible apply Fr.set); rotate_left; (right; ((try simp only [alloc_size]); omega))) | (refine Fr.trans ?_ (by assumption))))); (case hy => (intro wf hwf; haveI := From.mk hwf; (((apply opv_E); exact rfl)))))
  ((apply (tkw 5)); (case hi => exact rfl); (case hg => exact rfl); (case hf => kernel_rfl); (case hS => (repeat (first | exact Fr.refl _ _ | assumption | with_reducible apply Fr.allocSet | with_reducible apply Fr.alloc | with_reducible apply Fr.drewN | with_reducible apply Fr.drew | ((with_reducible apply Fr.set); rotate_left; (right; ((try simp only [alloc_size]); omega))) | (refine Fr.trans ?_ (by assumption))))); (case hy => (intro wf hwf; haveI := From.mk hwf; (((apply opv_E); exact rfl)))))
  ((apply (tkw 6)); (case hi => exact rfl); (case hg => exact rfl); (case hf => kernel_rfl); (case hS => (repeat (first | exact Fr.refl _ _ | assumption | with_reducible apply Fr.allocSet | with_reducible apply Fr.alloc | with_reducible apply Fr.drewN | with_reducible apply Fr.drew | ((with_reducible apply Fr.set); rotate_left; (right; ((try simp only [alloc_size]); omega))) | (refine Fr.trans ?_ (by assumption))))); (case hy => (intro wf hwf; haveI := From.mk hwf; (((apply opv_E); exact rfl)))))
  ((apply (tkw 7)); (case hi => exact rfl); (case hg => exact rfl); (case hf => kernel_rfl); (case hS => (repeat (first | exact Fr.refl _ _ | assumption | with_reducible apply Fr.allocSet | with_reducible apply Fr.alloc | with_reducible apply Fr.drewN | with_reducible apply Fr.drew | ((with_reducible apply Fr.set); rotate_left; (right; ((try simp only [alloc_size]); omega))) | (refine Fr.trans ?_ (by assumption))))); (case hy => (intro wf hwf; haveI := From.mk hwf; (((apply opv_E); exact rfl)))))
  ((apply (tk 8)); (case hi => exact rfl); (case hf => kernel_rfl); (case hS => (repeat (first | exact Fr.refl _ _ | assumption | with_reducible apply Fr.allocSet | with_reducible apply Fr.alloc | with_reducible apply Fr.drewN | with_reducible apply Fr.drew | ((with_reducible apply Fr.set); rotate_left; (right; ((try simp only [alloc_size]); omega))) | (refine Fr.trans ?_ (by assumption))))); (case hy => (intro wf hwf; haveI := From.mk hwf; (((apply opv_E); exact rfl)))))
  ((apply (tk 9)); (case hi => exact rfl); (case hf => kernel_rfl); (case hS => (repeat (first | exact Fr.refl _ _ | assumption | with_reducible apply Fr.allocSet | with_reducible apply Fr.alloc | with_reducible apply Fr.drewN | with_reducible apply Fr.drew | ((with_reducible apply Fr.set); rotate_left; (right; ((try simp only [alloc_size]); omega))) | (refine Fr.trans ?_ (by assumption))))); (case hy => (intro wf hwf; haveI := From.mk hwf; (((apply opv_E); exact rfl)))))
  refine vA_gB false 63 rfl (by simp) ?_
  ((apply (tkw 10)); (case hi => exact rfl); (case hg => exact rfl); (case hf => kernel_rfl); (case hS => (repeat (first | exact Fr.refl _ _ | assumption | with_reducible apply Fr.allocSet | with_reducible apply Fr.alloc | with_reducible apply Fr.drewN | with_reducible apply Fr.drew | ((with_reducible apply Fr.set); rotate_left; (right; ((try simp only [alloc_size]); omega))) | (refine Fr.trans ?_ (by assumption))))); (case hy => (intro wf hwf; haveI := From.mk hwf; (((apply opv_E); exact rfl)))))
  ((apply (tkw 11)); (case hi => exact rfl); (case hg => exact rfl); (case hf => kernel_rfl); (case hS => (repeat (first | exact Fr.refl _ _ | assumption | with_reducible apply Fr.allocSet | with_reducible apply Fr.alloc | with_reducible apply Fr.drewN | with_reducible apply Fr.drew | ((with_reducible apply Fr.set); rotate_left; (right; ((try simp only [alloc_size]); omega))) | (refine Fr.trans ?_ (by assumption))))); (case hy => (intro wf hwf; haveI := From.mk hwf; (((apply opv_E); exact rfl)))))
  ((apply (tkw 12)); (case hi => exact rfl); (case hg => exact rfl); (case hf => kernel_rfl); (case hS => (repeat (first | exact Fr.refl _ _ | assumption | with_reducible apply Fr.allocSet | with_reducible apply Fr.alloc | with_reducible apply Fr.drewN | with_reducible apply Fr.drew | ((with_reducible apply Fr.set); rotate_left; (right; ((try simp only [alloc_size]); omega))) | (refine Fr.trans ?_ (by assumption))))); (case hy => (intro wf hwf; haveI := From.mk hwf; (((apply opv_neq_str); exact rfl; exact rfl)))))
  ((apply (tk 13)); (case hi => exact rfl); (case hf => kernel_rfl); (case hS => (repeat (first | exact Fr.refl _ _ | assumption | with_reducible apply Fr.allocSet | with_reducible apply Fr.alloc | with_reducible apply Fr.drewN | with_reducible apply Fr.drew | ((with_reducible apply Fr.set); rotate_left; (right; ((try simp only [alloc_size]); omega))) | (refine Fr.trans ?_ (by assumption))))); (case hy => (intro wf hwf; haveI := From.mk hwf; (((apply opv_E); exact rfl)))))
  ((apply (tk 14)); (case hi => exact rfl); (case hf => kernel_rfl); (case hS => (repeat (first | exact Fr.refl _ _ | assumption | with_reducible apply Fr.allocSet | with_reducible apply Fr.alloc | with_reducible apply Fr.drewN | with_reducible apply Fr.drew | ((with_reducible apply Fr.set); rotate_left; (right; ((try simp only [alloc_size]); omega))) | (refine Fr.trans ?_ (by assumption))))); (case hy => (intro wf hwf; haveI := From.mk hwf; (((apply opv_E); exact rfl)))))
  refine vA_gB false 68 rfl (by simp) ?_
  ((apply (tkw 15)); (case hi => exact rfl); (case hg => exact rfl); (case hf => kernel_rfl); (case hS => (repeat (first | exact Fr.refl _ _ | assumption | with_reducible apply Fr.allocSet | with_reducible apply Fr.alloc | with_reducible apply Fr.drewN | with_reducible apply Fr.drew | ((with_reducible apply Fr.set); rotate_left; (right; ((try simp only [alloc_size]); omega))) | (refine Fr.trans ?_ (by assumption))))); (case hy => (intro wf hwf; haveI := From.mk hwf; (((apply opv_E); exact rfl)))))
  ((apply (tkw 16)); (case hi => exact rfl); (case hg => exact rfl); (case hf => kernel_rfl); (case hS => (repeat (first | exact Fr.refl _ _ | assumption | with_reducible apply Fr.allocSet | with_reducible apply Fr.alloc | with_reducible apply Fr.drewN | with_reducible apply Fr.drew | ((with_reducible apply Fr.set); rotate_left; (right; ((try simp only [alloc_size]); omega))) | (refine Fr.trans ?_ (by assumption))))); (case hy => (intro wf hwf; haveI := From.mk hwf; (((apply opv_E); exact rfl)))))
  ((apply (tkw 17)); (case hi => exact rfl); (case hg => exact rfl); (case hf => kernel_rfl); (case hS => (repeat (first | exact Fr.refl _ _ | assumption | with_reducible apply Fr.allocSet | with_reducible apply Fr.alloc | with_reducible apply Fr.drewN | with_reducible apply Fr.drew | ((with_reducible apply Fr.set); rotate_left; (right; ((try simp only [alloc_size]); omega))) | (refine Fr.trans ?_ (by assumption))))); (case hy => (intro wf hwf; haveI := From.mk hwf; (((apply opv_neq_bool); exact rfl; exact rfl)))))
  ((apply (tk 18)); (case hi => exact rfl); (case hf => kernel_rfl); (case hS => (repeat (first | exact Fr.refl _ _ | assumption | with_reducible apply Fr.allocSet | with_reducible apply Fr.alloc | with_reducible apply Fr.drewN | with_reducible apply Fr.drew | ((with_reducible apply Fr.set); rotate_left; (right; ((try simp only [alloc_size]); omega))) | (refine Fr.trans ?_ (by assumption))))); (case hy => (intro wf hwf; haveI := From.mk hwf; (((apply opv_E); exact rfl)))))
  ((apply (tk 19)); (case hi => exact rfl); (case hf => kernel_rfl); (case hS => (repeat (first | exact Fr.refl _ _ | assumption | with_reducible apply Fr.allocSet | with_reducible apply Fr.alloc | with_reducible apply Fr.drewN | with_reducible apply Fr.drew | ((with_reducible apply Fr.set); rotate_left; (right; ((try simp only [alloc_size]); omega))) | (refine Fr.trans ?_ (by assumption))))); (case hy => (intro wf hwf; haveI := From.mk hwf; (((apply opv_E); exact rfl)))))
  refine vA_gB false 73 rfl (by simp) ?_
  have hto8 := hto7.frN hf78
  have Ss8 := Ss7.frN hf78
  have hf08 := hf07.trans hf78
  ((apply (tkw 20)); (case hi => exact rfl); (case hg => exact rfl); (case hf => kernel_rfl); (case hS => (repeat (first | exact Fr.refl _ _ | assumption | with_reducible apply Fr.allocSet | with_reducible apply Fr.alloc | with_reducible apply Fr.drewN | with_reducible apply Fr.drew | ((with_reducible apply Fr.set); rotate_left; (right; ((try simp only [alloc_size]); omega))) | (refine Fr.trans ?_ (by assumption))))); (case hy => (intro wf hwf; haveI := From.mk hwf; (((apply opv_move); ((conv => lhs; whnf) <;> exact rfl))))))
  ((apply (tkw 21)); (case hi => exact rfl); (case hg => exact rfl); (case hf => kernel_rfl); (case hS => (repeat (first | exact Fr.refl _ _ | assumption | with_reducible apply Fr.allocSet | with_reducible apply Fr.alloc | with_reducible apply Fr.drewN | with_reducible apply Fr.drew | ((with_reducible apply Fr.set); rotate_left; (right; ((try simp only [alloc_size]); omega))) | (refine Fr.trans ?_ (by assumption))))); (case hy => (intro wf hwf; haveI := From.mk hwf; (((apply opv_move); ((conv => lhs; whnf) <;> exact rfl))))))
  ((apply (tkw 23)); (case hi => exact rfl); (case hg => exact rfl); (case hf => kernel_rfl); (case hS => (repeat (first | exact Fr.refl _ _ | assumption | with_reducible apply Fr.allocSet | with_reducible apply Fr.alloc | with_reducible apply Fr.drewN | with_reducible apply Fr.drew | ((with_reducible apply Fr.set); rotate_left; (right; ((try simp only [alloc_size]); omega))) | (refine Fr.trans ?_ (by assumption))))); (case hy => (intro wf hwf; haveI := From.mk hwf; (((apply opv_E); exact rfl)))))
  ((apply (tkw 24)); (case hi => exact rfl); (case hg => exact rfl); (case hf => kernel_rfl); (case hS => (repeat (first | exact Fr.refl _ _ | assumption | with_reducible apply Fr.allocSet | with_reducible apply Fr.alloc | with_reducible apply Fr.drewN | with_reducible apply Fr.drew | ((with_reducible apply Fr.set); rotate_left; (right; ((try simp only [alloc_size]); omega))) | (refine Fr.trans ?_ (by assumption))))); (case hy => (intro wf hwf; haveI := From.mk hwf; (((apply opv_E); exact rfl)))))
  (refine tkcw 22 rfl rfl (by kernel_rfl) (by (repeat (first | exact Fr.refl _ _ | assumption | with_reducible apply Fr.allocSet | with_reducible apply Fr.alloc | with_reducible apply Fr.drewN | with_reducible apply Fr.drew | ((with_reducible apply Fr.set); rotate_left; (right; ((try simp only [alloc_size]); omega))) | (refine Fr.trans ?_ (by assumption))))) rfl (right27 vin vl ts subs' _ hto8.rd Ss8 hts) rfl ?_)
  rintro _ w9 ⟨hf9, rfl⟩
  have hf79 := hf78.trans hf9
  have hf09 := hf08.trans hf9
  (refine tkcw 25 rfl rfl (by kernel_rfl) (by (repeat (first | exact Fr.refl _ _ | assumption | with_reducible apply Fr.allocSet | with_reducible apply Fr.alloc | with_reducible apply Fr.drewN | with_reducible apply Fr.drew | ((with_reducible apply Fr.set); rotate_left; (right; ((try simp only [alloc_size]); omega))) | (refine Fr.trans ?_ (by assumption))))) rfl (right_ref _ _ ts subs _ (ht.frN hf09) (hs.frN hf09) hts) rfl ?_)
  rintro _ w10 ⟨hd10, rfl⟩
  have hf910 : Fr No w9 w10 := hd10.fr
  have hf710 := hf79.trans hf910
  have hb10 := hb7.frN hf710
  ((apply (tkw 26)); (case hi => exact rfl); (case hg => exact rfl); (case hf => kernel_rfl); (case hS => (repeat (first | exact Fr.refl _ _ | assumption | with_reducible apply Fr.allocSet | with_reducible apply Fr.alloc | with_reducible apply Fr.drewN | with_reducible apply Fr.drew | ((with_reducible apply Fr.set); rotate_left; (right; ((try simp only [alloc_size]); omega))) | (refine Fr.trans ?_ (by assumption))))); (case hy => (intro wf hwf; haveI := From.mk hwf; (((apply opv_neq_bool); exact rfl; exact rfl)))))
  ((apply (tk 27)); (case hi => exact rfl); (case hf => kernel_rfl); (case hS => (repeat (first | exact Fr.refl _ _ | assumption | with_reducible apply Fr.allocSet | with_reducible apply Fr.alloc | with_reducible apply Fr.drewN | with_reducible apply Fr.drew | ((with_reducible apply Fr.set); rotate_left; (right; ((try simp only [alloc_size]); omega))) | (refine Fr.trans ?_ (by assumption))))); (case hy => (intro wf hwf; haveI := From.mk hwf; (((apply opv_E); exact rfl)))))
  ((apply (tk 28)); (case hi => exact rfl); (case hf => kernel_rfl); (case hS => (repeat (first | exact Fr.refl _ _ | assumption | with_reducible apply Fr.allocSet | with_reducible apply Fr.alloc | with_reducible apply Fr.drewN | with_reducible apply Fr.drew | ((with_reducible apply Fr.set); rotate_left; (right; ((try simp only [alloc_size]); omega))) | (refine Fr.trans ?_ (by assumption))))); (case hy => (intro wf hwf; haveI := From.mk hwf; (((apply opv_E); exact rfl)))))
  refine vA_gB false 82 rfl (by rw [hR']; simp) ?_
  ((apply (tkw 29)); (case hi => exact rfl); (case hg => exact rfl); (case hf => kernel_rfl); (case hS => (repeat (first | exact Fr.refl _ _ | assumption | with_reducible apply Fr.allocSet | with_reducible apply Fr.alloc | with_reducible apply Fr.drewN | with_reducible apply Fr.drew | ((with_reducible apply Fr.set); rotate_left; (right; ((try simp only [alloc_size]); omega))) | (refine Fr.trans ?_ (by assumption))))); (case hy => (intro wf hwf; haveI := From.mk hwf; (((apply opv_fieldAddr); exact rfl)))))
  ((apply (tkw 30)); (case hi => exact rfl); (case hg => exact rfl); (case hf => kernel_rfl); (case hS => (repeat (first | exact Fr.refl _ _ | assumption | with_reducible apply Fr.allocSet | with_reducible apply Fr.alloc | with_reducible apply Fr.drewN | with_reducible apply Fr.drew | ((with_reducible apply Fr.set); rotate_left; (right; ((try simp only [alloc_size]); omega))) | (refine Fr.trans ?_ (by assumption))))); (case hy => (intro wf hwf; haveI := From.mk hwf; (((apply opv_loadb1); exact rfl; exact rfl; (first | assumption | infer_instance); exact rfl)))))
  ((apply (tkw 32)); (case hi => exact rfl); (case hg => exact rfl); (case hf => kernel_rfl); (case hS => (repeat (first | exact Fr.refl _ _ | assumption | with_reducible apply Fr.allocSet | with_reducible apply Fr.alloc | with_reducible apply Fr.drewN | with_reducible apply Fr.drew | ((with_reducible apply Fr.set); rotate_left; (right; ((try simp only [alloc_size]); omega))) | (refine Fr.trans ?_ (by assumption))))); (case hy => (intro wf hwf; haveI := From.mk hwf; (((apply opv_fieldAddr); exact rfl)))))
  ((apply (tkw 33)); (case hi => exact rfl); (case hg => exact rfl); (case hf => kernel_rfl); (case hS => (repeat (first | exact Fr.refl _ _ | assumption | with_reducible apply Fr.allocSet | with_reducible apply Fr.alloc | with_reducible apply Fr.drewN | with_reducible apply Fr.drew | ((with_reducible apply Fr.set); rotate_left; (right; ((try simp only [alloc_size]); omega))) | (refine Fr.trans ?_ (by assumption))))); (case hy => (intro wf hwf; haveI := From.mk hwf; (((apply opv_loadb1); exact rfl; exact rfl; (first | assumption | infer_instance); exact rfl)))))
  (refine tkcw 31 rfl rfl (by kernel_rfl) (by (repeat (first | exact Fr.refl _ _ | assumption | with_reducible apply Fr.allocSet | with_reducible apply Fr.alloc | with_reducible apply Fr.drewN | with_reducible apply Fr.drew | ((with_reducible apply Fr.set); rotate_left; (right; ((try simp only [alloc_size]); omega))) | (refine Fr.trans ?_ (by assumption))))) rfl (name27 p.1 _ hp) rfl ?_)
  rintro _ _ ⟨rfl, rfl⟩
  (refine tkcw 34 rfl rfl (by kernel_rfl) (by (repeat (first | exact Fr.refl _ _ | assumption | with_reducible apply Fr.allocSet | with_reducible apply Fr.alloc | with_reducible apply Fr.drewN | with_reducible apply Fr.drew | ((with_reducible apply Fr.set); rotate_left; (right; ((try simp only [alloc_size]); omega))) | (refine Fr.trans ?_ (by assumption))))) rfl (name_ref p.1 _ hp) rfl ?_)
  rintro _ _ ⟨rfl, rfl⟩
  ((apply (tkw 35)); (case hi => exact rfl); (case hg => exact rfl); (case hf => kernel_rfl); (case hS => (repeat (first | exact Fr.refl _ _ | assumption | with_reducible apply Fr.allocSet | with_reducible apply Fr.alloc | with_reducible apply Fr.drewN | with_reducible apply Fr.drew | ((with_reducible apply Fr.set); rotate_left; (right; ((try simp only [alloc_size]); omega))) | (refine Fr.trans ?_ (by assumption))))); (case hy => (intro wf hwf; haveI := From.mk hwf; (((apply opv_neq_bool); exact rfl; exact rfl)))))
  ((apply (tk 36)); (case hi => exact rfl); (case hf => kernel_rfl); (case hS => (repeat (first | exact Fr.refl _ _ | assumption | with_reducible apply Fr.allocSet | with_reducible apply Fr.alloc | with_reducible apply Fr.drewN | with_reducible apply Fr.drew | ((with_reducible apply Fr.set); rotate_left; (right; ((try simp only [alloc_size]); omega))) | (refine Fr.trans ?_ (by assumption))))); (case hy => (intro wf hwf; haveI := From.mk hwf; (((apply opv_E); exact rfl)))))
  refine vA_done (by kernel_rfl) (by (first | exact trivial | ((repeat (first | exact Fr.refl _ _ | assumption | with_reducible apply Fr.allocSet | with_reducible apply Fr.alloc | with_reducible apply Fr.drewN | with_reducible apply Fr.drew | ((with_reducible apply Fr.set); rotate_left; (right; ((try simp only [alloc_size]); omega))) | (refine Fr.trans ?_ (by assumption)))); done))) ?_
  refine vC_condF rfl (by simp) ?_
  have hf010 := hf07.trans hf710
  have hto10 := hto7.frN hf710
  have SO10 := SO7.frN hf710
  (apply vC_skip; apply seqP_normal; apply vC_seq; apply vC_region; ((apply vL_val); (case h => ((apply opv_move); ((conv => lhs; whnf) <;> exact rfl)))); ((apply vL_val); (case h => ((apply opv_E); exact rfl))))
  refine vL_callF rfl (kit_same_top vin _ ts ts w10 hto10.rd (ht.frN hf010)) rfl ?_
  rintro u11 w11 ⟨hf11, hu11⟩
  obtain rfl : u11 = .bool true := hu11.trans (congrArg Value.bool (decide_eq_true rfl))
  have hf011 := hf010.trans hf11
  have SO11 := SO10.frN hf11
  (((apply vL_val); (case h => ((apply opv_E); exact rfl))); ((apply vL_wanted); exact rfl); ((apply vL_val); (case h => ((apply opv_move); ((conv => lhs; whnf) <;> exact rfl)))); ((apply vL_wanted); exact rfl); ((apply vL_val); (case h => ((apply opv_E); exact rfl))); ((apply vL_wanted); exact rfl))
  refine vL_callF rfl (kit_same_subs vl _ subs' subs w11 SO11.out.rd ((hs.frN hf011).rd) (fun x hx => (SO11.inner x hx).rd) (fun x hx => (hs.frN hf011).inner x hx)) rfl ?_
  rintro u12 w12 ⟨hf12, hu12⟩
  obtain rfl : u12 = .bool true := hu12.trans (congrArg Value.bool (decide_eq_true hC))
  ((iterate 2 (((apply vL_val); (case h => ((apply opv_E); exact rfl))))); ((apply vL_wanted); exact rfl))
  refine vL_callF rfl (awake27 w12) rfl ?_
  rintro _ w13 ⟨rfl, hf13⟩
  ((iterate 2 (((apply vL_val); (case h => ((apply opv_E); exact rfl))))); apply vL_nil; apply seqP_normal; apply vC_ret)
  (apply ret1; (case h1 => (first | exact norm_eq rfl | ((conv => lhs; whnf) <;> exact rfl))))
  exact ⟨rfl, (hf011.trans hf12).trans hf13⟩
end Go.Proofs.Ytfceebbkjogedaa
