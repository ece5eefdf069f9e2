/- Layer 15: the document's machine in memory; its small functions. -/
import Derived.Test.YtaeckjhipmcddaaCv
set_option maxRecDepth 100000
namespace Go.Proofs.Ytaeckjhipmcddaa
open Go Go.Eng
def atE (a : AT) : List Value := [.int .i64 a.prog, .int .i64 a.pos, .int .i64 a.st, .int .i64 a.why]
instance encAt : EncOk atE 4 := ⟨by intro x u h; simp [atE] at h; rcases h with rfl | rfl | rfl | rfl <;> rfl, fun _ => rfl⟩
structure Rf (w : World) (qb : Nat) (vp vt vl ve : Value) (S : AS) : Prop where
  hq : Blk w.heap qb [vp, vt, vl, ve] 69
  ht : Own w.heap 94 4 atE vt S.tasks
  hl : Own w.heap 3 1 iE vl S.line
  he : Own w.heap 62 3 eE ve S.ev
  op : vp.oneCell' = true
  ot : vt.oneCell' = true
  ol : vl.oneCell' = true
  oe : ve.oneCell' = true
def RfB (qb : Nat) (vt vl ve : Value) (k : Nat) : Prop := k = qb ∨ own vt = some k ∨ own vl = some k ∨ own ve = some k
structure RfTo (w w' : World) (qb : Nat) (vp vt vl ve vt' vl' ve' : Value) (S' : AS) : Prop where
  fr : Fr (RfB qb vt vl ve) w w'
  rf : Rf w' qb vp vt' vl' ve' S'
  fl : ∀ k, RfB qb vt' vl' ve' k → RfB qb vt vl ve k ∨ w.heap.size ≤ k
section
variable {w w' w'' : World} {qb : Nat} {vp vt vl ve vt' vl' ve' vt2 vl2 ve2 : Value} {S S' S2 : AS}
theorem RfTo.trans (h : RfTo w w' qb vp vt vl ve vt' vl' ve' S') (k : RfTo w' w'' qb vp vt' vl' ve' vt2 vl2 ve2 S2) : RfTo w w'' qb vp vt vl ve vt2 vl2 ve2 S2 :=
  ⟨h.fr.trans' k.fr h.fl, k.rf, fun b hb => by
    rcases k.fl b hb with h1 | h1
    · exact h.fl b h1
    · exact .inr (Nat.le_trans h.fr.size h1)⟩
theorem Rf.fr {F : Nat → Prop} (s : Rf w qb vp vt vl ve S) (hf : Fr F w w') (hF : ∀ k, RfB qb vt vl ve k → ¬ F k) : Rf w' qb vp vt vl ve S :=
  ⟨s.hq.fr hf (hF _ (.inl rfl)), s.ht.fr hf (fun b hb => hF _ (.inr (.inl hb))), s.hl.fr hf (fun b hb => hF _ (.inr (.inr (.inl hb)))), s.he.fr hf (fun b hb => hF _ (.inr (.inr (.inr hb)))), s.op, s.ot, s.ol, s.oe⟩
theorem Rf.frN (s : Rf w qb vp vt vl ve S) (hf : Fr No w w') : Rf w' qb vp vt vl ve S := s.fr hf (fun _ _ h => h)
theorem Rf.same (s : Rf w qb vp vt vl ve S) (hf : Fr No w w') : RfTo w w' qb vp vt vl ve vt vl ve S := ⟨hf.no_any, s.frN hf, fun _ h => .inl h⟩
theorem RfTo.after {w1 : World} (h : RfTo w1 w' qb vp vt vl ve vt' vl' ve' S') (hf : Fr No w w1) : RfTo w w' qb vp vt vl ve vt' vl' ve' S' := ⟨hf.no_any.trans h.fr, h.rf, fun k hk => (h.fl k hk).imp id (fun h1 => Nat.le_trans hf.size h1)⟩
theorem RfTo.then {w1 : World} (h : RfTo w w1 qb vp vt vl ve vt' vl' ve' S') (hf : Fr No w1 w') : RfTo w w' qb vp vt vl ve vt' vl' ve' S' := ⟨h.fr.trans hf.no_any, h.rf.frN hf, h.fl⟩
theorem Rf.lt (s : Rf w qb vp vt vl ve S) : ∀ k, RfB qb vt vl ve k → k < w.heap.size := fun k hk => by
  rcases hk with rfl | h | h | h
  · exact s.hq.lt
  · exact s.ht.lt k h
  · exact s.hl.lt k h
  · exact s.he.lt k h
theorem Rf.toEv {ev' : List (Int × Int × Int)} (s : Rf w qb vp vt vl ve S) (hf : Fr (fun k => k = qb ∨ own ve = some k) w w') (hq : Blk w'.heap qb [vp, vt, vl, ve'] 69) (ho : Own w'.heap 62 3 eE ve' ev') (hl : ∀ k, own ve' = some k → own ve = some k ∨ w.heap.size ≤ k) (hone : ve'.oneCell' = true) :
    RfTo w w' qb vp vt vl ve vt vl ve' { S with ev := ev' } := by
  refine ⟨hf.mono (fun k _ h => h.imp id (fun h => .inr (.inr h))), ⟨hq, s.ht.fr hf (fun b hb h => ?_), s.hl.fr hf (fun b hb h => ?_), ho, s.op, s.ot, s.ol, hone⟩, fun k hk => ?_⟩
  · rcases h with h | h
    · exact Own.ne_blk s.ht s.hq (by decide) (h ▸ hb)
    · exact Own.ne_own s.ht s.he (by decide) b hb h
  · rcases h with h | h
    · exact Own.ne_blk s.hl s.hq (by decide) (h ▸ hb)
    · exact Own.ne_own s.hl s.he (by decide) b hb h
  · rcases hk with h | h | h | h
    · exact .inl (.inl h)
    · exact .inl (.inr (.inl h))
    · exact .inl (.inr (.inr (.inl h)))
    · exact (hl k h).imp (fun h => .inr (.inr (.inr h))) id
theorem Rf.toLine {l' : List Int} (s : Rf w qb vp vt vl ve S) (hf : Fr (fun k => k = qb ∨ own vl = some k) w w') (hq : Blk w'.heap qb [vp, vt, vl', ve] 69) (ho : Own w'.heap 3 1 iE vl' l') (hl : ∀ k, own vl' = some k → own vl = some k ∨ w.heap.size ≤ k) (hone : vl'.oneCell' = true) :
    RfTo w w' qb vp vt vl ve vt vl' ve { S with line := l' } := by
  refine ⟨hf.mono (fun k _ h => h.imp id (fun h => .inr (.inl h))), ⟨hq, s.ht.fr hf (fun b hb h => ?_), ho, s.he.fr hf (fun b hb h => ?_), s.op, s.ot, hone, s.oe⟩, fun k hk => ?_⟩
  · rcases h with h | h
    · exact Own.ne_blk s.ht s.hq (by decide) (h ▸ hb)
    · exact Own.ne_own s.ht s.hl (by decide) b hb h
  · rcases h with h | h
    · exact Own.ne_blk s.he s.hq (by decide) (h ▸ hb)
    · exact Own.ne_own s.he s.hl (by decide) b hb h
  · rcases hk with h | h | h | h
    · exact .inl (.inl h)
    · exact .inl (.inr (.inl h))
    · exact (hl k h).imp (fun h => .inr (.inr (.inl h))) id
    · exact .inl (.inr (.inr (.inr h)))
theorem Rf.toTasks {t' : List AT} (s : Rf w qb vp vt vl ve S) (hf : Fr (fun k => k = qb ∨ own vt = some k) w w') (hq : Blk w'.heap qb [vp, vt', vl, ve] 69) (ho : Own w'.heap 94 4 atE vt' t') (hl : ∀ k, own vt' = some k → own vt = some k ∨ w.heap.size ≤ k) (hone : vt'.oneCell' = true) :
    RfTo w w' qb vp vt vl ve vt' vl ve { S with tasks := t' } := by
  refine ⟨hf.mono (fun k _ h => h.imp id (fun h => .inl h)), ⟨hq, ho, s.hl.fr hf (fun b hb h => ?_), s.he.fr hf (fun b hb h => ?_), s.op, hone, s.ol, s.oe⟩, fun k hk => ?_⟩
  · rcases h with h | h
    · exact Own.ne_blk s.hl s.hq (by decide) (h ▸ hb)
    · exact Own.ne_own s.hl s.ht (by decide) b hb h
  · rcases h with h | h
    · exact Own.ne_blk s.he s.hq (by decide) (h ▸ hb)
    · exact Own.ne_own s.he s.ht (by decide) b hb h
  · rcases hk with h | h | h | h
    · exact .inl (.inl h)
    · exact (hl k h).imp (fun h => .inr (.inl h)) id
    · exact .inl (.inr (.inr (.inl h)))
    · exact .inl (.inr (.inr (.inr h)))
/-- a task's row alone -/
theorem Rf.toRow {t' : List AT} (s : Rf w qb vp vt vl ve S) (hf : Fr (fun k => own vt = some k) w w') (ho : Own w'.heap 94 4 atE vt t') : RfTo w w' qb vp vt vl ve vt vl ve { S with tasks := t' } :=
  s.toTasks (hf.mono (fun _ _ h => .inr h)) (s.hq.fr hf (fun h => Own.ne_blk s.ht s.hq (by decide) h)) ho (fun _ h => .inl h) s.ot
theorem f_note (s : Rf w qb vp vt vl ve S) (a : Nat) (b c : Int) (hl : S.ev.length ≤ 1000000) :
    Rets Try.prog 67 #[pt qb, .int .i64 a, .int .i64 b, .int .i64 c] w fun _ w' => ∃ ve', RfTo w w' qb vp vt vl ve vt vl ve' (S.note a b c) := by
  have hq := s.hq
  have he := s.he
  have h1 := s.op
  have h2 := s.ot
  have h3 := s.ol
  refine rets_of Try.func67 rfl Try.ntmps67 rfl rfl (by kernel_rfl) ?_
  (apply vC_region; (iterate 3 (((apply vL_val); (case h => ((apply opv_E); exact rfl))))); ((apply vL_val); (case h => ((apply opv_fieldAddr); exact rfl))); ((apply vL_val); (case h => ((apply opv_loadb1); exact rfl; exact rfl; (first | assumption | infer_instance); exact rfl))); (iterate 3 (((apply vL_val); (case h => ((apply opv_E); exact rfl))))); ((apply vL_val); (case h => ((apply opv_buildS); exact rfl; (first | exact (rfl : _ = some []) | exact (rfl : _ = some [_]) | exact (rfl : _ = some [_, _]) | exact (rfl : _ = some [_, _, _]) | exact (rfl : _ = some [_, _, _, _]) | exact (rfl : _ = some [_, _, _, _, _]) | exact (rfl : _ = some [_, _, _, _, _, _]) | exact (rfl : _ = some [_, _, _, _, _, _, _]) | exact (rfl : _ = some [_, _, _, _, _, _, _, _]) | exact (rfl : _ = some [_, _, _, _, _, _, _, _, _]) | exact (rfl : _ = some [_, _, _, _, _, _, _, _, _, _]) | exact (rfl : _ = some [_, _, _, _, _, _, _, _, _, _, _]) | exact (rfl : _ = some [_, _, _, _, _, _, _, _, _, _, _, _]) | exact (rfl : _ = some [_, _, _, _, _, _, _, _, _, _, _, _, _]) | exact (rfl : _ = some [_, _, _, _, _, _, _, _, _, _, _, _, _, _]) | exact (rfl : _ = some [_, _, _, _, _, _, _, _, _, _, _, _, _, _, _]) | exact (rfl : _ = some [_, _, _, _, _, _, _, _, _, _, _, _, _, _, _, _]))))); ((apply vL_val); (case h => ((apply opw_buildSl); exact rfl; exact rfl; exact rfl; (first | exact (rfl : _ = some []) | exact (rfl : _ = some [_]) | exact (rfl : _ = some [_, _]) | exact (rfl : _ = some [_, _, _]) | exact (rfl : _ = some [_, _, _, _]) | exact (rfl : _ = some [_, _, _, _, _]) | exact (rfl : _ = some [_, _, _, _, _, _]) | exact (rfl : _ = some [_, _, _, _, _, _, _]) | exact (rfl : _ = some [_, _, _, _, _, _, _, _]) | exact (rfl : _ = some [_, _, _, _, _, _, _, _, _]) | exact (rfl : _ = some [_, _, _, _, _, _, _, _, _, _]) | exact (rfl : _ = some [_, _, _, _, _, _, _, _, _, _, _]) | exact (rfl : _ = some [_, _, _, _, _, _, _, _, _, _, _, _]) | exact (rfl : _ = some [_, _, _, _, _, _, _, _, _, _, _, _, _]) | exact (rfl : _ = some [_, _, _, _, _, _, _, _, _, _, _, _, _, _]) | exact (rfl : _ = some [_, _, _, _, _, _, _, _, _, _, _, _, _, _, _]) | exact (rfl : _ = some [_, _, _, _, _, _, _, _, _, _, _, _, _, _, _, _]))))))
  refine vL_append (enc := eE) (xs := S.ev) (ys := [((a : Int), b, c)]) (T := 62) (sz := 3) (by (first | exact norm_eq rfl | ((conv => lhs; whnf) <;> exact rfl))) (by (first | exact norm_eq rfl | ((conv => lhs; whnf) <;> exact rfl))) (Own.alloc he) (Rd.new1 _ _ rfl) rfl (by decide) ?_ ?_ ?_
  · simp [maxLen]; omega
  · simp; omega
  intro ve' w1 ho1 hf1 hfr1 hone1 _
  have hfa : Fr (fun j => own ve = some j) w w1 := ((Fr.refl _ w).alloc _).trans' hf1 (fun i hi => .inl hi)
  have hq1 := hq.fr hfa (fun h => Own.ne_blk he hq (by decide) h)
  (((apply vL_val); (case h => ((apply opv_E); exact rfl))); ((apply vL_val); (case h => ((apply opv_fieldAddr); exact rfl))); ((apply vL_skip); (case h => ((apply ops_store1); (first | exact norm_eq rfl | ((conv => lhs; whnf) <;> exact rfl)); (first | exact norm_eq rfl | ((conv => lhs; whnf) <;> exact rfl)); (first | rfl | assumption); (first | assumption | infer_instance); (first | decide | exact of_decide_eq_true rfl | (simp; done))))); apply vL_nil)
  (first | apply ret0 | apply ret0n)
  exact ⟨ve', s.toEv ((hfa.mono (fun k _ h => .inr h)).set _ _ (.inl (.inl rfl))) (show Blk _ qb [vp, vt, vl, ve'] 69 from inferInstance) (ho1.set (Own.ne_blk ho1 hq1 (by decide))) (fun k hk => (hfr1 k hk).imp id (fun h => by rw [alloc_size] at h; omega)) hone1⟩
theorem f_ready (s : Rf w qb vp vt vl ve S) (i : Nat) {t : AT} (ht : S.tasks[i]? = some t) (hl : S.line.length ≤ 1000000) :
    Rets Try.prog 68 #[pt qb, .int .i64 i] w fun _ w' => ∃ vl', RfTo w w' qb vp vt vl ve vt vl' ve (S.ready i) := by
  have hq := s.hq
  have hht := s.ht
  have h1 := s.op
  have h2 := s.ot
  have h3 := s.oe
  have hi := (List.getElem?_eq_some_iff.1 ht).1
  refine rets_of Try.func68 rfl Try.ntmps68 rfl rfl (by kernel_rfl) ?_
  (apply vC_seq; apply vC_region; (iterate 2 (((apply vL_val); (case h => ((apply opv_E); exact rfl))))); ((apply vL_val); (case h => ((apply opv_fieldAddr); exact rfl))); ((apply vL_val); (case h => ((apply opv_loadb1); exact rfl; exact rfl; (first | assumption | infer_instance); exact rfl))); ((apply vL_val); (case h => ((apply opv_E); exact rfl))); ((apply vL_val); (case h => ((apply opv_indexAddr); (first | exact norm_eq rfl | ((conv => lhs; whnf) <;> exact rfl)); exact rfl; (first | assumption | infer_instance); (first | omega | (simp only [List.length_map]; omega)); (first | omega | (simp only [List.length_map]; omega))))); ((apply vL_val); (case h => ((apply opv_fieldAddr); exact rfl))))
  refine vL_storeElF (enc := atE) (xs := S.tasks) (x0 := t) { t with st := 1 } rfl rfl ht rfl rfl (by decide) hht ?_
  intro w1 ho1 hf1
  have s1 := s.toRow hf1 ho1
  have hq1 := s1.rf.hq
  have hl1 := s1.rf.hl
  (apply vL_nil; apply seqP_normal; apply vC_region; (iterate 3 (((apply vL_val); (case h => ((apply opv_E); exact rfl))))); ((apply vL_val); (case h => ((apply opv_fieldAddr); exact rfl))); ((apply vL_val); (case h => ((apply opv_loadb1); exact rfl; exact rfl; (first | assumption | infer_instance); exact rfl))); ((apply vL_val); (case h => ((apply opv_E); exact rfl))); ((apply vL_val); (case h => ((apply opw_buildSl); exact rfl; exact rfl; exact rfl; (first | exact (rfl : _ = some []) | exact (rfl : _ = some [_]) | exact (rfl : _ = some [_, _]) | exact (rfl : _ = some [_, _, _]) | exact (rfl : _ = some [_, _, _, _]) | exact (rfl : _ = some [_, _, _, _, _]) | exact (rfl : _ = some [_, _, _, _, _, _]) | exact (rfl : _ = some [_, _, _, _, _, _, _]) | exact (rfl : _ = some [_, _, _, _, _, _, _, _]) | exact (rfl : _ = some [_, _, _, _, _, _, _, _, _]) | exact (rfl : _ = some [_, _, _, _, _, _, _, _, _, _]) | exact (rfl : _ = some [_, _, _, _, _, _, _, _, _, _, _]) | exact (rfl : _ = some [_, _, _, _, _, _, _, _, _, _, _, _]) | exact (rfl : _ = some [_, _, _, _, _, _, _, _, _, _, _, _, _]) | exact (rfl : _ = some [_, _, _, _, _, _, _, _, _, _, _, _, _, _]) | exact (rfl : _ = some [_, _, _, _, _, _, _, _, _, _, _, _, _, _, _]) | exact (rfl : _ = some [_, _, _, _, _, _, _, _, _, _, _, _, _, _, _, _]))))))
  refine vL_append (enc := iE) (xs := S.line) (ys := [(i : Int)]) (T := 3) (sz := 1) (by (first | exact norm_eq rfl | ((conv => lhs; whnf) <;> exact rfl))) (by (first | exact norm_eq rfl | ((conv => lhs; whnf) <;> exact rfl))) (Own.alloc hl1) (Rd.new1 _ _ rfl) rfl (by decide) ?_ ?_ ?_
  · simp [maxLen]; omega
  · simp; omega
  intro vl' w2 ho2 hf2 hfr2 hone2 _
  have hfa : Fr (fun j => own vl = some j) w1 w2 := ((Fr.refl _ w1).alloc _).trans' hf2 (fun i hi => .inl hi)
  have hq2 := hq1.fr hfa (fun h => Own.ne_blk hl1 hq1 (by decide) h)
  (((apply vL_val); (case h => ((apply opv_E); exact rfl))); ((apply vL_val); (case h => ((apply opv_fieldAddr); exact rfl))); ((apply vL_skip); (case h => ((apply ops_store1); (first | exact norm_eq rfl | ((conv => lhs; whnf) <;> exact rfl)); (first | exact norm_eq rfl | ((conv => lhs; whnf) <;> exact rfl)); (first | rfl | assumption); (first | assumption | infer_instance); (first | decide | exact of_decide_eq_true rfl | (simp; done))))); apply vL_nil)
  (first | apply ret0 | apply ret0n)
  have e : S.ready i = { S with tasks := S.tasks.set i { t with st := 1 }, line := S.line ++ [(i : Int)] } := by unfold AS.ready; rw [ht]
  rw [e]
  exact ⟨vl', s1.trans (s1.rf.toLine ((hfa.mono (fun k _ h => .inr h)).set _ _ (.inl (.inl rfl))) (show Blk _ qb [vp, vt, vl', ve] 69 from inferInstance) (ho2.set (Own.ne_blk ho2 hq2 (by decide))) (fun k hk => (hfr2 k hk).imp id (fun h => by rw [alloc_size] at h; omega)) hone2)⟩
theorem f_over (s : Rf w qb vp vt vl ve S) (i : Nat) {t : AT} (ht : S.tasks[i]? = some t) : Rets Try.prog 33 #[pt qb, .int .i64 i] w fun u w' => w = w' ∧ u = .bool (decide (t.st = 0)) := by
  have hq := s.hq
  have hht := s.ht
  have hi := (List.getElem?_eq_some_iff.1 ht).1
  have ht' : S.tasks[((i : Nat) : Int).toNat]? = some t := by rw [Int.toNat_natCast]; exact ht
  have hsm : S.tasks.length < 9223372036854775808 := hht.rd.small
  refine rets_of Try.func33 rfl Try.ntmps33 rfl rfl (by kernel_rfl) ?_
  (apply vC_seq; apply vC_region; ((apply vL_val); (case h => ((apply opv_E); exact rfl))); apply vL_nil; apply seqP_normal; apply vC_seq; apply vC_region; (iterate 3 (((apply vL_val); (case h => ((apply opv_E); exact rfl))))); ((apply vL_wanted); exact rfl); ((apply vL_val); (case h => ((apply opv_E); exact rfl))); ((apply vL_wanted); exact rfl); ((apply vL_val); (case h => ((apply opv_E); exact rfl))); ((apply vL_wanted); exact rfl); ((apply vL_val); (case h => ((apply opv_E); exact rfl))); ((apply vL_wanted); exact rfl); ((apply vL_val); (case h => ((apply opv_fieldAddr); exact rfl))); ((apply vL_wanted); exact rfl); ((apply vL_val); (case h => ((apply opv_loadb1); exact rfl; exact rfl; (first | assumption | infer_instance); exact rfl))); ((apply vL_wanted); exact rfl); ((apply vL_val); (case h => ((apply opv_len); (first | exact norm_eq rfl | ((conv => lhs; whnf) <;> exact rfl)); (first | assumption | infer_instance)))); ((apply vL_wanted); exact rfl); (iterate 3 (((apply vL_val); (case h => ((apply opv_E); exact rfl))))); (refine vL_and rfl rfl (fun _ => ?_) (fun h => by omega)); ((apply vL_val); (case h => ((apply opv_E); exact rfl))); ((apply vL_wanted); exact rfl); ((apply vL_val); (case h => ((apply opv_E); exact rfl))); ((apply vL_wanted); exact rfl); ((apply vL_val); (case h => ((apply opv_fieldAddr); exact rfl))); ((apply vL_wanted); exact rfl); ((apply vL_val); (case h => ((apply opv_loadb1); exact rfl; exact rfl; (first | assumption | infer_instance); exact rfl))); ((apply vL_wanted); exact rfl); ((apply vL_val); (case h => ((apply opv_E); exact rfl))); ((apply vL_wanted); exact rfl); ((apply vL_val); (case h => ((apply opv_indexAddr); (first | exact norm_eq rfl | ((conv => lhs; whnf) <;> exact rfl)); exact rfl; (first | assumption | infer_instance); (first | omega | (simp only [List.length_map]; omega)); (first | omega | (simp only [List.length_map]; omega))))); ((apply vL_wanted); exact rfl); ((apply vL_val); (case h => ((apply opv_fieldAddr); exact rfl))); ((apply vL_wanted); exact rfl); ((apply vL_val); (case h => ((apply opv_ld_el); exact rfl; exact rfl; (first | assumption | infer_instance); assumption; exact rfl))); ((apply vL_wanted); exact rfl); (iterate 3 (((apply vL_val); (case h => ((apply opv_E); exact rfl))))); apply vL_nil; apply seqP_normal; apply vC_ret)
  (apply ret1; (case h1 => (first | exact norm_eq rfl | ((conv => lhs; whnf) <;> exact rfl))))
  refine ⟨rfl, congrArg Value.bool (decide_eq_decide.2 ?_)⟩
  omega
theorem f_pick (x n : Int) (w : World) (hn : 1 ≤ n) (hn2 : n ≤ 4611686018427387904) : Rets Try.prog 70 #[.int .i64 x, .int .i64 n] w fun u w' => w = w' ∧ u = .int .i64 (x % n) := by
  have h1 : x.tmod n < n := Int.tmod_lt_of_pos x (by omega)
  have h2 : -n < x.tmod n := by
    have h3 := Int.tmod_lt_of_pos (-x) (b := n) (by omega)
    rw [Int.neg_tmod] at h3
    omega
  have h4 : x.tmod n = x - n * x.tdiv n := Int.tmod_def x n
  have key : ∀ k : Int, 0 ≤ x - n * k → x - n * k < n → x - n * k = x % n := fun k ha hb => by
    have := Int.emod_eq_of_lt ha hb
    rw [Int.sub_mul_emod_self_left] at this
    exact this.symm
  refine rets_of Try.func70 rfl Try.ntmps70 rfl rfl (by kernel_rfl) ?_
  (apply vC_seq; apply vC_region; ((apply vL_val); (case h => ((apply opv_E); exact rfl))); apply vL_nil; apply seqP_normal; apply vC_seq; apply vC_region; (iterate 2 (((apply vL_val); (case h => ((apply opv_E); exact rfl))))))
  apply vL_val
  (case h => ((with_reducible apply opv_rem_t); exact rfl; exact rfl; omega))
  (((apply vL_val); (case h => ((apply opv_E); exact rfl))); apply vL_nil; apply seqP_normal; (iterate 2 (apply vC_seq)); apply vC_region; (iterate 2 (((apply vL_val); (case h => ((apply opv_E); exact rfl))))); apply vL_nil; apply seqP_normal)
  refine vC_cond_dec rfl (fun hc => ?_) (fun hc => ?_)
  · (apply vC_region; (iterate 2 (((apply vL_val); (case h => ((apply opv_E); exact rfl))))); ((apply vL_val); (case h => ((apply opv_add); exact rfl; exact rfl; (first | omega | (simp only [List.length_map]; omega))))); ((apply vL_val); (case h => ((apply opv_E); exact rfl))); apply vL_nil; apply seqP_normal; apply vC_seq; apply vC_region; (iterate 2 (((apply vL_val); (case h => ((apply opv_E); exact rfl))))); apply vL_nil; apply seqP_normal; apply vC_ret)
    (apply ret1; (case h1 => (first | exact norm_eq rfl | ((conv => lhs; whnf) <;> exact rfl))))
    refine ⟨rfl, congrArg (Value.int .i64) ?_⟩
    have := key (x.tdiv n - 1) (by rw [Int.mul_sub]; omega) (by rw [Int.mul_sub]; omega)
    rw [Int.mul_sub] at this
    omega
  · (apply vC_skip; apply seqP_normal; apply vC_seq; apply vC_region; (iterate 2 (((apply vL_val); (case h => ((apply opv_E); exact rfl))))); apply vL_nil; apply seqP_normal; apply vC_ret)
    (apply ret1; (case h1 => (first | exact norm_eq rfl | ((conv => lhs; whnf) <;> exact rfl))))
    refine ⟨rfl, congrArg (Value.int .i64) ?_⟩
    have := key (x.tdiv n) (by omega) (by omega)
    omega
end
end Go.Proofs.Ytaeckjhipmcddaa
