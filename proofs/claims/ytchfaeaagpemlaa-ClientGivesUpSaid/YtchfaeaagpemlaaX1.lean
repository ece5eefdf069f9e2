/- Layer 31: requests, waits, sequences, clients in memory.
Layer 31: a request in memory of its own.
Layer 31: a part of an element; a client in memory of its own.
Layer 31: a client in memory of its own. -/
import Derived.Test.YtchfaeaagpemlaaT
import Derived.Test.YtchfaeaagpemlaaEs
import Derived.Test.YtchfaeaagpemlaaEv
import Derived.Test.YtchfaeaagpemlaaEk
set_option maxRecDepth 100000
namespace Go.Proofs.Ytchfaeaagpemlaa
open Go Go.Eng
theorem _root_.Go.Eng.Blk.as {h : Array Obj} {b : Nat} {c c' : List Value} {T : TypeId} (hb : Blk h b c T) (e : c = c') : Blk h b c' T := e ▸ hb
abbrev nilO : OV := ⟨.slice none 0 0, rfl⟩
def brE (y : OV × List Int) : List Value := [y.1.1]
def u8E (a : Int) : List Value := [.int .u8 a]
instance encBr : EncOk brE 1 := ⟨by intro x u h; simp [brE] at h; subst h; exact x.1.2, fun _ => rfl⟩
instance encU8 : EncOk u8E 1 := ⟨by intro x u h; simp [u8E] at h; subst h; rfl, fun _ => rfl⟩
/-- a request: brs, tps: what its two slices hold -/
structure RQ where
  k : Int
  cl : Int
  call : Int
  topic : ByteArray
  part : Int
  pid : Int
  ep : Int
  fi : Int
  brv : OV
  off : Int
  most : Int
  byt : Int
  mkd : Int
  grp : ByteArray
  nm : ByteArray
  n : Int
  trv : OV
  ptop : ByteArray
  ppart : Int
  moff : Int
  mnow : Int
  mcl : Int
  mcall : Int
  brs : List (OV × List Int)
  tps : List ByteArray
def rqE (r : RQ) : List Value := [.int .u8 r.k, .int .i64 r.cl, .int .i64 r.call, .string r.topic, .int .i64 r.part, .int .i64 r.pid, .int .i64 r.ep, .int .i64 r.fi, r.brv.1, .int .i64 r.off, .int .i64 r.most, .int .i64 r.byt, .int .u8 r.mkd, .string r.grp, .string r.nm, .int .i64 r.n, r.trv.1, .string r.ptop, .int .i64 r.ppart, .int .i64 r.moff, .int .i64 r.mnow, .int .i64 r.mcl, .int .i64 r.mcall]
structure WT where
  rq : RQ
  due : Int
  tries : Int
  broker : Int
def wtE (w : WT) : List Value := [.int .u8 w.rq.k, .int .i64 w.rq.cl, .int .i64 w.rq.call, .string w.rq.topic, .int .i64 w.rq.part, .int .i64 w.rq.pid, .int .i64 w.rq.ep, .int .i64 w.rq.fi, w.rq.brv.1, .int .i64 w.rq.off, .int .i64 w.rq.most, .int .i64 w.rq.byt, .int .u8 w.rq.mkd, .string w.rq.grp, .string w.rq.nm, .int .i64 w.rq.n, w.rq.trv.1, .string w.rq.ptop, .int .i64 w.rq.ppart, .int .i64 w.rq.moff, .int .i64 w.rq.mnow, .int .i64 w.rq.mcl, .int .i64 w.rq.mcall, .int .i64 w.due, .int .i64 w.tries, .int .i64 w.broker]
structure SQ where
  topic : ByteArray
  part : Int
  nx : Int
def sqE (s : SQ) : List Value := [.string s.topic, .int .i64 s.part, .int .i64 s.nx]
instance encRq : EncOk rqE 23 := ⟨by
  intro x u h
  simp only [rqE, List.mem_cons, List.not_mem_nil, or_false] at h
  rcases h with rfl | rfl | rfl | rfl | rfl | rfl | rfl | rfl | rfl | rfl | rfl | rfl | rfl | rfl | rfl | rfl | rfl | rfl | rfl | rfl | rfl | rfl | rfl
  · rfl
  · rfl
  · rfl
  · rfl
  · rfl
  · rfl
  · rfl
  · rfl
  · exact x.brv.2
  · rfl
  · rfl
  · rfl
  · rfl
  · rfl
  · rfl
  · rfl
  · exact x.trv.2
  · rfl
  · rfl
  · rfl
  · rfl
  · rfl
  · rfl
  , fun _ => rfl⟩
instance encWt : EncOk wtE 26 := ⟨by
  intro x u h
  simp only [wtE, List.mem_cons, List.not_mem_nil, or_false] at h
  rcases h with rfl | rfl | rfl | rfl | rfl | rfl | rfl | rfl | rfl | rfl | rfl | rfl | rfl | rfl | rfl | rfl | rfl | rfl | rfl | rfl | rfl | rfl | rfl | rfl | rfl | rfl
  · rfl
  · rfl
  · rfl
  · rfl
  · rfl
  · rfl
  · rfl
  · rfl
  · exact x.rq.brv.2
  · rfl
  · rfl
  · rfl
  · rfl
  · rfl
  · rfl
  · rfl
  · exact x.rq.trv.2
  · rfl
  · rfl
  · rfl
  · rfl
  · rfl
  · rfl
  · rfl
  · rfl
  · rfl
  , fun _ => rfl⟩
instance encSq : EncOk sqE 3 := ⟨by
  intro x u h
  simp only [sqE, List.mem_cons, List.not_mem_nil, or_false] at h
  rcases h with rfl | rfl | rfl
  · rfl
  · rfl
  · rfl
  , fun _ => rfl⟩
/-- what a request holds, without where it lies -/
def RQ.nf (r : RQ) : RQ := { r with brv := nilO, trv := nilO, brs := r.brs.map (fun y => (nilO, y.2)) }
def WT.nf (w : WT) : WT := { w with rq := w.rq.nf }
def RqRd (h : Array Obj) (r : RQ) : Prop := Rd h 1 brE r.brv.1 r.brs ∧ (∀ y ∈ r.brs, Rd h 1 u8E y.1.1 y.2) ∧ Rd h 1 sE r.trv.1 r.tps
def RqSz (r : RQ) : Prop := r.brs.length * 24 ≤ 140737488355328 ∧ (∀ y ∈ r.brs, y.2.length ≤ 140737488355328) ∧ r.tps.length * 16 ≤ 140737488355328
def RqOwn (h : Array Obj) (r : RQ) : Prop := Own h 71 1 brE r.brv.1 r.brs ∧ (∀ y ∈ r.brs, Own h 5 1 u8E y.1.1 y.2) ∧ Own h 9 1 sE r.trv.1 r.tps
theorem RqOwn.rd {h : Array Obj} {r : RQ} (o : RqOwn h r) : RqRd h r := ⟨o.1.rd, fun y hy => (o.2.1 y hy).rd, o.2.2.rd⟩
theorem RqRd.frN {w w' : World} {r : RQ} (o : RqRd w.heap r) (h : Fr No w w') : RqRd w'.heap r := ⟨o.1.frN h, fun y hy => (o.2.1 y hy).frN h, o.2.2.frN h⟩
theorem RqOwn.frN {w w' : World} {r : RQ} (o : RqOwn w.heap r) (h : Fr No w w') : RqOwn w'.heap r := ⟨o.1.frN h, fun y hy => (o.2.1 y hy).frN h, o.2.2.frN h⟩
/-- a write to a block of another type -/
theorem RqOwn.frOwn {w w' : World} {r : RQ} {T sz : Nat} {α : Type} {enc : α → List Value} {u : Value} {xs : List α} (o : RqOwn w.heap r) (hu : Own w.heap T sz enc u xs) (h1 : T ≠ 71) (h2 : T ≠ 5) (h3 : T ≠ 9) (h : Fr (fun b => own u = some b) w w') : RqOwn w'.heap r :=
  ⟨o.1.fr h (fun b hb e => Own.ne_own o.1 hu (Ne.symm h1) b hb e), fun y hy => (o.2.1 y hy).fr h (fun b hb e => Own.ne_own (o.2.1 y hy) hu (Ne.symm h2) b hb e), o.2.2.fr h (fun b hb e => Own.ne_own o.2.2 hu (Ne.symm h3) b hb e)⟩
theorem RqOwn.frBlk {w w' : World} {r : RQ} {T b : Nat} {cs : List Value} (o : RqOwn w.heap r) (hu : Blk w.heap b cs T) (h1 : T ≠ 71) (h2 : T ≠ 5) (h3 : T ≠ 9) (h : Fr (fun k => k = b) w w') : RqOwn w'.heap r :=
  ⟨o.1.fr h (fun b' hb e => Own.ne_blk o.1 hu (Ne.symm h1) (by rw [hb, e])), fun y hy => (o.2.1 y hy).fr h (fun b' hb e => Own.ne_blk (o.2.1 y hy) hu (Ne.symm h2) (by rw [hb, e])), o.2.2.fr h (fun b' hb e => Own.ne_blk o.2.2 hu (Ne.symm h3) (by rw [hb, e]))⟩
theorem clone_wt (v : Value) (xs : List WT) (w : World) (hr : Rd w.heap 26 wtE v xs) (hbig : xs.length * 272 ≤ 140737488355328) :
    Rets Try.prog 36 #[v] w fun u w' => Fr No w w' ∧ Own w'.heap 42 26 wtE u xs ∧ (∀ b, own u = some b → w.heap.size ≤ b) ∧ u.oneCell' = true := by
  have hs := hr.small
  refine rets_of Try.func36 rfl Try.ntmps36 rfl rfl (by kernel_rfl) ?_
  rcases hr.shape with ⟨rfl, none | a, rfl⟩ | ⟨b, o, c, rfl, hc⟩
  · (apply vC_seq; apply vC_region; ((apply vL_val); (case h => ((apply opv_E); exact rfl))); apply vL_nil; apply seqP_normal; (iterate 2 (apply vC_seq)); apply vC_region; ((apply vL_val); (case h => ((apply opv_E); exact rfl))); ((apply vL_val); (case h => ((apply opv_eql_snil); exact rfl; exact rfl))); apply vL_nil; apply seqP_normal; ((apply vC_cond_true); exact rfl); apply vC_seq; apply vC_region; ((apply vL_val); (case h => ((apply opv_E); exact rfl))); apply vL_nil; apply seqP_normal; apply vC_ret; apply seqP_ret)
    (apply ret1; (case h1 => (exact norm_eq rfl)))
    exact ⟨Fr.refl _ _, Own.nil _ _ _ _, fun b hb => (by cases hb), rfl⟩
  · (apply vC_seq; apply vC_region; ((apply vL_val); (case h => ((apply opv_E); exact rfl))); apply vL_nil; apply seqP_normal; (iterate 2 (apply vC_seq)); apply vC_region; ((apply vL_val); (case h => ((apply opv_E); exact rfl))); ((apply vL_val); (case h => ((apply opv_eql_snil); exact rfl; exact rfl))); apply vL_nil; apply seqP_normal; ((apply vC_cond_false); exact rfl); apply vC_skip; apply seqP_normal; apply vC_seq; apply vC_region; ((apply vL_val); (case h => ((apply opw_buildSl); exact rfl; exact rfl; exact rfl; exact (rfl : _ = some [])))); ((apply vL_val); (case h => ((apply opv_E); exact rfl))))
    refine vL_append (enc := wtE) (xs := []) (ys := []) (T := 42) (sz := 26) (by (exact norm_eq rfl)) (by (exact norm_eq rfl)) (Own.newN wtE [] rfl rfl (by decide)) inferInstance rfl (by decide) ?_ ?_ ?_
    · simp [maxLen]
    · simp
    intro v' w2 ho hf hfresh hone _
    (((apply vL_val); (case h => ((apply opv_assign); ((conv => lhs; whnf) <;> exact rfl)))); apply vL_nil; apply seqP_normal; apply vC_ret)
    (apply ret1; (case h1 => (((conv => lhs; whnf) <;> exact rfl))))
    refine ⟨((Fr.refl No w).alloc _).trans' hf (fun k hk => .inr (by cases hk; exact Nat.le_refl _)), ho, fun b hb => ?_, hone⟩
    rcases hfresh b hb with h | h
    · cases h; exact Nat.le_refl _
    · rw [alloc_size] at h; omega
  · (apply vC_seq; apply vC_region; ((apply vL_val); (case h => ((apply opv_E); exact rfl))); apply vL_nil; apply seqP_normal; (iterate 2 (apply vC_seq)); apply vC_region; ((apply vL_val); (case h => ((apply opv_E); exact rfl))); ((apply vL_val); (case h => ((apply opv_eql_snil); exact rfl; exact rfl))); apply vL_nil; apply seqP_normal; ((apply vC_cond_false); exact rfl); apply vC_skip; apply seqP_normal; apply vC_seq; apply vC_region; ((apply vL_val); (case h => ((apply opw_buildSl); exact rfl; exact rfl; exact rfl; exact (rfl : _ = some [])))); ((apply vL_val); (case h => ((apply opv_E); exact rfl))))
    refine vL_append (enc := wtE) (xs := []) (ys := xs) (T := 42) (sz := 26) (by (exact norm_eq rfl)) (by (exact norm_eq rfl)) (Own.newN wtE [] rfl rfl (by decide)) inferInstance rfl (by decide) ?_ ?_ ?_
    · simp [maxLen]; omega
    · simpa using hbig
    intro v' w2 ho hf hfresh hone _
    (((apply vL_val); (case h => ((apply opv_assign); ((conv => lhs; whnf) <;> exact rfl)))); apply vL_nil; apply seqP_normal; apply vC_ret)
    (apply ret1; (case h1 => (((conv => lhs; whnf) <;> exact rfl))))
    refine ⟨((Fr.refl No w).alloc _).trans' hf (fun k hk => .inr (by cases hk; exact Nat.le_refl _)), ho, fun b hb => ?_, hone⟩
    rcases hfresh b hb with h | h
    · cases h; exact Nat.le_refl _
    · rw [alloc_size] at h; omega
theorem clone_sq (v : Value) (xs : List SQ) (w : World) (hr : Rd w.heap 3 sqE v xs) (hbig : xs.length * 32 ≤ 140737488355328) :
    Rets Try.prog 37 #[v] w fun u w' => Fr No w w' ∧ Own w'.heap 65 3 sqE u xs ∧ (∀ b, own u = some b → w.heap.size ≤ b) ∧ u.oneCell' = true := by
  have hs := hr.small
  refine rets_of Try.func37 rfl Try.ntmps37 rfl rfl (by kernel_rfl) ?_
  rcases hr.shape with ⟨rfl, none | a, rfl⟩ | ⟨b, o, c, rfl, hc⟩
  · (apply vC_seq; apply vC_region; ((apply vL_val); (case h => ((apply opv_E); exact rfl))); apply vL_nil; apply seqP_normal; (iterate 2 (apply vC_seq)); apply vC_region; ((apply vL_val); (case h => ((apply opv_E); exact rfl))); ((apply vL_val); (case h => ((apply opv_eql_snil); exact rfl; exact rfl))); apply vL_nil; apply seqP_normal; ((apply vC_cond_true); exact rfl); apply vC_seq; apply vC_region; ((apply vL_val); (case h => ((apply opv_E); exact rfl))); apply vL_nil; apply seqP_normal; apply vC_ret; apply seqP_ret)
    (apply ret1; (case h1 => (exact norm_eq rfl)))
    exact ⟨Fr.refl _ _, Own.nil _ _ _ _, fun b hb => (by cases hb), rfl⟩
  · (apply vC_seq; apply vC_region; ((apply vL_val); (case h => ((apply opv_E); exact rfl))); apply vL_nil; apply seqP_normal; (iterate 2 (apply vC_seq)); apply vC_region; ((apply vL_val); (case h => ((apply opv_E); exact rfl))); ((apply vL_val); (case h => ((apply opv_eql_snil); exact rfl; exact rfl))); apply vL_nil; apply seqP_normal; ((apply vC_cond_false); exact rfl); apply vC_skip; apply seqP_normal; apply vC_seq; apply vC_region; ((apply vL_val); (case h => ((apply opw_buildSl); exact rfl; exact rfl; exact rfl; exact (rfl : _ = some [])))); ((apply vL_val); (case h => ((apply opv_E); exact rfl))))
    refine vL_append (enc := sqE) (xs := []) (ys := []) (T := 65) (sz := 3) (by (exact norm_eq rfl)) (by (exact norm_eq rfl)) (Own.newN sqE [] rfl rfl (by decide)) inferInstance rfl (by decide) ?_ ?_ ?_
    · simp [maxLen]
    · simp
    intro v' w2 ho hf hfresh hone _
    (((apply vL_val); (case h => ((apply opv_assign); ((conv => lhs; whnf) <;> exact rfl)))); apply vL_nil; apply seqP_normal; apply vC_ret)
    (apply ret1; (case h1 => (((conv => lhs; whnf) <;> exact rfl))))
    refine ⟨((Fr.refl No w).alloc _).trans' hf (fun k hk => .inr (by cases hk; exact Nat.le_refl _)), ho, fun b hb => ?_, hone⟩
    rcases hfresh b hb with h | h
    · cases h; exact Nat.le_refl _
    · rw [alloc_size] at h; omega
  · (apply vC_seq; apply vC_region; ((apply vL_val); (case h => ((apply opv_E); exact rfl))); apply vL_nil; apply seqP_normal; (iterate 2 (apply vC_seq)); apply vC_region; ((apply vL_val); (case h => ((apply opv_E); exact rfl))); ((apply vL_val); (case h => ((apply opv_eql_snil); exact rfl; exact rfl))); apply vL_nil; apply seqP_normal; ((apply vC_cond_false); exact rfl); apply vC_skip; apply seqP_normal; apply vC_seq; apply vC_region; ((apply vL_val); (case h => ((apply opw_buildSl); exact rfl; exact rfl; exact rfl; exact (rfl : _ = some [])))); ((apply vL_val); (case h => ((apply opv_E); exact rfl))))
    refine vL_append (enc := sqE) (xs := []) (ys := xs) (T := 65) (sz := 3) (by (exact norm_eq rfl)) (by (exact norm_eq rfl)) (Own.newN sqE [] rfl rfl (by decide)) inferInstance rfl (by decide) ?_ ?_ ?_
    · simp [maxLen]; omega
    · simpa using hbig
    intro v' w2 ho hf hfresh hone _
    (((apply vL_val); (case h => ((apply opv_assign); ((conv => lhs; whnf) <;> exact rfl)))); apply vL_nil; apply seqP_normal; apply vC_ret)
    (apply ret1; (case h1 => (((conv => lhs; whnf) <;> exact rfl))))
    refine ⟨((Fr.refl No w).alloc _).trans' hf (fun k hk => .inr (by cases hk; exact Nat.le_refl _)), ho, fun b hb => ?_, hone⟩
    rcases hfresh b hb with h | h
    · cases h; exact Nat.le_refl _
    · rw [alloc_size] at h; omega
theorem clone_br (v : Value) (xs : List (OV × List Int)) (w : World) (hr : Rd w.heap 1 brE v xs) (hbig : xs.length * 24 ≤ 140737488355328) :
    Rets Try.prog 23 #[v] w fun u w' => Fr No w w' ∧ Own w'.heap 71 1 brE u xs ∧ (∀ b, own u = some b → w.heap.size ≤ b) ∧ u.oneCell' = true := by
  have hs := hr.small
  refine rets_of Try.func23 rfl Try.ntmps23 rfl rfl (by kernel_rfl) ?_
  rcases hr.shape with ⟨rfl, none | a, rfl⟩ | ⟨b, o, c, rfl, hc⟩
  · (apply vC_seq; apply vC_region; ((apply vL_val); (case h => ((apply opv_E); exact rfl))); apply vL_nil; apply seqP_normal; (iterate 2 (apply vC_seq)); apply vC_region; ((apply vL_val); (case h => ((apply opv_E); exact rfl))); ((apply vL_val); (case h => ((apply opv_eql_snil); exact rfl; exact rfl))); apply vL_nil; apply seqP_normal; ((apply vC_cond_true); exact rfl); apply vC_seq; apply vC_region; ((apply vL_val); (case h => ((apply opv_E); exact rfl))); apply vL_nil; apply seqP_normal; apply vC_ret; apply seqP_ret)
    (apply ret1; (case h1 => (exact norm_eq rfl)))
    exact ⟨Fr.refl _ _, Own.nil _ _ _ _, fun b hb => (by cases hb), rfl⟩
  · (apply vC_seq; apply vC_region; ((apply vL_val); (case h => ((apply opv_E); exact rfl))); apply vL_nil; apply seqP_normal; (iterate 2 (apply vC_seq)); apply vC_region; ((apply vL_val); (case h => ((apply opv_E); exact rfl))); ((apply vL_val); (case h => ((apply opv_eql_snil); exact rfl; exact rfl))); apply vL_nil; apply seqP_normal; ((apply vC_cond_false); exact rfl); apply vC_skip; apply seqP_normal; apply vC_seq; apply vC_region; ((apply vL_val); (case h => ((apply opw_buildSl); exact rfl; exact rfl; exact rfl; exact (rfl : _ = some [])))); ((apply vL_val); (case h => ((apply opv_E); exact rfl))))
    refine vL_append (enc := brE) (xs := []) (ys := []) (T := 71) (sz := 1) (by (exact norm_eq rfl)) (by (exact norm_eq rfl)) (Own.newN brE [] rfl rfl (by decide)) inferInstance rfl (by decide) ?_ ?_ ?_
    · simp [maxLen]
    · simp
    intro v' w2 ho hf hfresh hone _
    (((apply vL_val); (case h => ((apply opv_assign); ((conv => lhs; whnf) <;> exact rfl)))); apply vL_nil; apply seqP_normal; apply vC_ret)
    (apply ret1; (case h1 => (((conv => lhs; whnf) <;> exact rfl))))
    refine ⟨((Fr.refl No w).alloc _).trans' hf (fun k hk => .inr (by cases hk; exact Nat.le_refl _)), ho, fun b hb => ?_, hone⟩
    rcases hfresh b hb with h | h
    · cases h; exact Nat.le_refl _
    · rw [alloc_size] at h; omega
  · (apply vC_seq; apply vC_region; ((apply vL_val); (case h => ((apply opv_E); exact rfl))); apply vL_nil; apply seqP_normal; (iterate 2 (apply vC_seq)); apply vC_region; ((apply vL_val); (case h => ((apply opv_E); exact rfl))); ((apply vL_val); (case h => ((apply opv_eql_snil); exact rfl; exact rfl))); apply vL_nil; apply seqP_normal; ((apply vC_cond_false); exact rfl); apply vC_skip; apply seqP_normal; apply vC_seq; apply vC_region; ((apply vL_val); (case h => ((apply opw_buildSl); exact rfl; exact rfl; exact rfl; exact (rfl : _ = some [])))); ((apply vL_val); (case h => ((apply opv_E); exact rfl))))
    refine vL_append (enc := brE) (xs := []) (ys := xs) (T := 71) (sz := 1) (by (exact norm_eq rfl)) (by (exact norm_eq rfl)) (Own.newN brE [] rfl rfl (by decide)) inferInstance rfl (by decide) ?_ ?_ ?_
    · simp [maxLen]; omega
    · simpa using hbig
    intro v' w2 ho hf hfresh hone _
    (((apply vL_val); (case h => ((apply opv_assign); ((conv => lhs; whnf) <;> exact rfl)))); apply vL_nil; apply seqP_normal; apply vC_ret)
    (apply ret1; (case h1 => (((conv => lhs; whnf) <;> exact rfl))))
    refine ⟨((Fr.refl No w).alloc _).trans' hf (fun k hk => .inr (by cases hk; exact Nat.le_refl _)), ho, fun b hb => ?_, hone⟩
    rcases hfresh b hb with h | h
    · cases h; exact Nat.le_refl _
    · rw [alloc_size] at h; omega
theorem clone_by (v : Value) (xs : List Int) (w : World) (hr : Rd w.heap 1 u8E v xs) (hbig : xs.length * 1 ≤ 140737488355328) :
    Rets Try.prog 24 #[v] w fun u w' => Fr No w w' ∧ Own w'.heap 5 1 u8E u xs ∧ (∀ b, own u = some b → w.heap.size ≤ b) ∧ u.oneCell' = true := by
  have hs := hr.small
  refine rets_of Try.func24 rfl Try.ntmps24 rfl rfl (by kernel_rfl) ?_
  rcases hr.shape with ⟨rfl, none | a, rfl⟩ | ⟨b, o, c, rfl, hc⟩
  · (apply vC_seq; apply vC_region; ((apply vL_val); (case h => ((apply opv_E); exact rfl))); apply vL_nil; apply seqP_normal; (iterate 2 (apply vC_seq)); apply vC_region; ((apply vL_val); (case h => ((apply opv_E); exact rfl))); ((apply vL_val); (case h => ((apply opv_eql_snil); exact rfl; exact rfl))); apply vL_nil; apply seqP_normal; ((apply vC_cond_true); exact rfl); apply vC_seq; apply vC_region; ((apply vL_val); (case h => ((apply opv_E); exact rfl))); apply vL_nil; apply seqP_normal; apply vC_ret; apply seqP_ret)
    (apply ret1; (case h1 => (exact norm_eq rfl)))
    exact ⟨Fr.refl _ _, Own.nil _ _ _ _, fun b hb => (by cases hb), rfl⟩
  · (apply vC_seq; apply vC_region; ((apply vL_val); (case h => ((apply opv_E); exact rfl))); apply vL_nil; apply seqP_normal; (iterate 2 (apply vC_seq)); apply vC_region; ((apply vL_val); (case h => ((apply opv_E); exact rfl))); ((apply vL_val); (case h => ((apply opv_eql_snil); exact rfl; exact rfl))); apply vL_nil; apply seqP_normal; ((apply vC_cond_false); exact rfl); apply vC_skip; apply seqP_normal; apply vC_seq; apply vC_region; ((apply vL_val); (case h => ((apply opw_buildSl); exact rfl; exact rfl; exact rfl; exact (rfl : _ = some [])))); ((apply vL_val); (case h => ((apply opv_E); exact rfl))))
    refine vL_append (enc := u8E) (xs := []) (ys := []) (T := 5) (sz := 1) (by (exact norm_eq rfl)) (by (exact norm_eq rfl)) (Own.newN u8E [] rfl rfl (by decide)) inferInstance rfl (by decide) ?_ ?_ ?_
    · simp [maxLen]
    · simp
    intro v' w2 ho hf hfresh hone _
    (((apply vL_val); (case h => ((apply opv_assign); ((conv => lhs; whnf) <;> exact rfl)))); apply vL_nil; apply seqP_normal; apply vC_ret)
    (apply ret1; (case h1 => (((conv => lhs; whnf) <;> exact rfl))))
    refine ⟨((Fr.refl No w).alloc _).trans' hf (fun k hk => .inr (by cases hk; exact Nat.le_refl _)), ho, fun b hb => ?_, hone⟩
    rcases hfresh b hb with h | h
    · cases h; exact Nat.le_refl _
    · rw [alloc_size] at h; omega
  · (apply vC_seq; apply vC_region; ((apply vL_val); (case h => ((apply opv_E); exact rfl))); apply vL_nil; apply seqP_normal; (iterate 2 (apply vC_seq)); apply vC_region; ((apply vL_val); (case h => ((apply opv_E); exact rfl))); ((apply vL_val); (case h => ((apply opv_eql_snil); exact rfl; exact rfl))); apply vL_nil; apply seqP_normal; ((apply vC_cond_false); exact rfl); apply vC_skip; apply seqP_normal; apply vC_seq; apply vC_region; ((apply vL_val); (case h => ((apply opw_buildSl); exact rfl; exact rfl; exact rfl; exact (rfl : _ = some [])))); ((apply vL_val); (case h => ((apply opv_E); exact rfl))))
    refine vL_append (enc := u8E) (xs := []) (ys := xs) (T := 5) (sz := 1) (by (exact norm_eq rfl)) (by (exact norm_eq rfl)) (Own.newN u8E [] rfl rfl (by decide)) inferInstance rfl (by decide) ?_ ?_ ?_
    · simp [maxLen]; omega
    · simpa using hbig
    intro v' w2 ho hf hfresh hone _
    (((apply vL_val); (case h => ((apply opv_assign); ((conv => lhs; whnf) <;> exact rfl)))); apply vL_nil; apply seqP_normal; apply vC_ret)
    (apply ret1; (case h1 => (((conv => lhs; whnf) <;> exact rfl))))
    refine ⟨((Fr.refl No w).alloc _).trans' hf (fun k hk => .inr (by cases hk; exact Nat.le_refl _)), ho, fun b hb => ?_, hone⟩
    rcases hfresh b hb with h | h
    · cases h; exact Nat.le_refl _
    · rw [alloc_size] at h; omega
theorem clone_tx (v : Value) (xs : List ByteArray) (w : World) (hr : Rd w.heap 1 sE v xs) (hbig : xs.length * 16 ≤ 140737488355328) :
    Rets Try.prog 47 #[v] w fun u w' => Fr No w w' ∧ Own w'.heap 9 1 sE u xs ∧ (∀ b, own u = some b → w.heap.size ≤ b) ∧ u.oneCell' = true := by
  have hs := hr.small
  refine rets_of Try.func47 rfl Try.ntmps47 rfl rfl (by kernel_rfl) ?_
  rcases hr.shape with ⟨rfl, none | a, rfl⟩ | ⟨b, o, c, rfl, hc⟩
  · (apply vC_seq; apply vC_region; ((apply vL_val); (case h => ((apply opv_E); exact rfl))); apply vL_nil; apply seqP_normal; (iterate 2 (apply vC_seq)); apply vC_region; ((apply vL_val); (case h => ((apply opv_E); exact rfl))); ((apply vL_val); (case h => ((apply opv_eql_snil); exact rfl; exact rfl))); apply vL_nil; apply seqP_normal; ((apply vC_cond_true); exact rfl); apply vC_seq; apply vC_region; ((apply vL_val); (case h => ((apply opv_E); exact rfl))); apply vL_nil; apply seqP_normal; apply vC_ret; apply seqP_ret)
    (apply ret1; (case h1 => (exact norm_eq rfl)))
    exact ⟨Fr.refl _ _, Own.nil _ _ _ _, fun b hb => (by cases hb), rfl⟩
  · (apply vC_seq; apply vC_region; ((apply vL_val); (case h => ((apply opv_E); exact rfl))); apply vL_nil; apply seqP_normal; (iterate 2 (apply vC_seq)); apply vC_region; ((apply vL_val); (case h => ((apply opv_E); exact rfl))); ((apply vL_val); (case h => ((apply opv_eql_snil); exact rfl; exact rfl))); apply vL_nil; apply seqP_normal; ((apply vC_cond_false); exact rfl); apply vC_skip; apply seqP_normal; apply vC_seq; apply vC_region; ((apply vL_val); (case h => ((apply opw_buildSl); exact rfl; exact rfl; exact rfl; exact (rfl : _ = some [])))); ((apply vL_val); (case h => ((apply opv_E); exact rfl))))
    refine vL_append (enc := sE) (xs := []) (ys := []) (T := 9) (sz := 1) (by (exact norm_eq rfl)) (by (exact norm_eq rfl)) (Own.newN sE [] rfl rfl (by decide)) inferInstance rfl (by decide) ?_ ?_ ?_
    · simp [maxLen]
    · simp
    intro v' w2 ho hf hfresh hone _
    (((apply vL_val); (case h => ((apply opv_assign); ((conv => lhs; whnf) <;> exact rfl)))); apply vL_nil; apply seqP_normal; apply vC_ret)
    (apply ret1; (case h1 => (((conv => lhs; whnf) <;> exact rfl))))
    refine ⟨((Fr.refl No w).alloc _).trans' hf (fun k hk => .inr (by cases hk; exact Nat.le_refl _)), ho, fun b hb => ?_, hone⟩
    rcases hfresh b hb with h | h
    · cases h; exact Nat.le_refl _
    · rw [alloc_size] at h; omega
  · (apply vC_seq; apply vC_region; ((apply vL_val); (case h => ((apply opv_E); exact rfl))); apply vL_nil; apply seqP_normal; (iterate 2 (apply vC_seq)); apply vC_region; ((apply vL_val); (case h => ((apply opv_E); exact rfl))); ((apply vL_val); (case h => ((apply opv_eql_snil); exact rfl; exact rfl))); apply vL_nil; apply seqP_normal; ((apply vC_cond_false); exact rfl); apply vC_skip; apply seqP_normal; apply vC_seq; apply vC_region; ((apply vL_val); (case h => ((apply opw_buildSl); exact rfl; exact rfl; exact rfl; exact (rfl : _ = some [])))); ((apply vL_val); (case h => ((apply opv_E); exact rfl))))
    refine vL_append (enc := sE) (xs := []) (ys := xs) (T := 9) (sz := 1) (by (exact norm_eq rfl)) (by (exact norm_eq rfl)) (Own.newN sE [] rfl rfl (by decide)) inferInstance rfl (by decide) ?_ ?_ ?_
    · simp [maxLen]; omega
    · simpa using hbig
    intro v' w2 ho hf hfresh hone _
    (((apply vL_val); (case h => ((apply opv_assign); ((conv => lhs; whnf) <;> exact rfl)))); apply vL_nil; apply seqP_normal; apply vC_ret)
    (apply ret1; (case h1 => (((conv => lhs; whnf) <;> exact rfl))))
    refine ⟨((Fr.refl No w).alloc _).trans' hf (fun k hk => .inr (by cases hk; exact Nat.le_refl _)), ho, fun b hb => ?_, hone⟩
    rcases hfresh b hb with h | h
    · cases h; exact Nat.le_refl _
    · rw [alloc_size] at h; omega
end Go.Proofs.Ytchfaeaagpemlaa

set_option maxRecDepth 100000
namespace Go.Proofs.Ytchfaeaagpemlaa
open Go Go.Eng
section
variable {P : Program} {e : Env} {w : World} {d : Option Nat} {ty : TypeId} {p : String} {af : Array Edge}
theorem opv_indexAddrR {α : Type} {x ix : Operand} {t E sz by' : Nat} {z : List Value} {k : IntKind} {i : Int} {enc : α → List Value} {v : Value} {xs : List α} {h : Array Obj} [TUnd P t (.slice E)] [TInfo P E sz by' z] (hx : ev e x = v) (hi : ev e ix = .int k i) (r : Rd h sz enc v xs) (h0 : 0 ≤ i) (h1 : i < xs.length) :
    OpV P ⟨d, .indexAddr t x ix, ty, p, af, none⟩ e w (.pointer (some (ea v sz i 0))) w := by
  have hu := run_underlying (TUnd.out (P := P) (t := t)) w
  obtain ⟨c, hv⟩ := r.ptr (by omega)
  simp only [OpV, execOp, Instr.indexAt, hx, hi]
  rw [hv]
  simp [asIntOf, hu, h0, h1, run_sizeOf' (P := P) (t := E), add_off, ea, adr]
end
abbrev rqZ : List Value := [.int .u8 0, .int .i64 0, .int .i64 0, .string ⟨#[]⟩, .int .i64 0, .int .i64 0, .int .i64 0, .int .i64 0, .slice none 0 0, .int .i64 0, .int .i64 0, .int .i64 0, .int .u8 0, .string ⟨#[]⟩, .string ⟨#[]⟩, .int .i64 0, .slice none 0 0, .string ⟨#[]⟩, .int .i64 0, .int .i64 0, .int .i64 0, .int .i64 0, .int .i64 0]
theorem brs_ext {l l' : List (OV × List Int)} (h : l.map (·.2) = l'.map (·.2)) : l.map (fun y => (nilO, y.2)) = l'.map (fun y => (nilO, y.2)) := by
  have := congrArg (List.map (fun z => (nilO, z))) h
  rw [List.map_map, List.map_map] at this
  exact this
theorem cloned31 (r : RQ) (w : World) (hr : RqRd w.heap r) (hs : RqSz r) :
    Rets Try.prog 38 #[.agg (rqE r).toArray] w fun u w' => ∃ r', u = .agg (rqE r').toArray ∧ r'.nf = r.nf ∧ RqOwn w'.heap r' ∧ Fr No w w' := by
  have hb0 := r.brv.2
  have ht0 := r.trv.2
  have hsm := hr.1.small
  refine rets_of Try.func38 rfl Try.ntmps38 rfl rfl (by kernel_rfl) ?_
  ((apply vC_seq; apply vC_region)); ((((apply vL_val); (case h => ((apply opw_boxn); exact rfl))); ((apply vL_val); (case h => (apply opw_alloc))); apply vL_nil)); with_reducible apply seqP_normal
  ((apply vC_seq; apply vC_region))
  refine vL_gen (fun w' => Fr No w w' ∧ Blk w'.heap w.heap.size (rqE r) 40 ∧ Blk w'.heap (w.alloc (.cells (rqE r).toArray 40)).heap.size rqZ 40) ⟨by ((iterate 2 (apply Fr.alloc)); exact Fr.refl _ _), inferInstance, inferInstance⟩ ?_
  rintro w1 ⟨hf1, h1, h2⟩
  have hne : w.heap.size ≠ (w.alloc (.cells (rqE r).toArray 40)).heap.size := by rw [alloc_size]; omega
  have hb2 : w.heap.size ≤ (w.alloc (.cells (rqE r).toArray 40)).heap.size := by rw [alloc_size]; omega
  generalize (w.alloc (.cells (rqE r).toArray 40)).heap.size = b2 at h2 hne hb2 ⊢
  obtain ⟨b1, eb1, hb1⟩ : ∃ b1, b1 = w.heap.size ∧ w.heap.size ≤ b1 := ⟨_, rfl, Nat.le_refl _⟩
  rw [← eb1] at h1 hne ⊢
  clear eb1
  ((iterate 2 (((apply vL_val); (case h => ((apply opv_fieldAddr); exact rfl))))); ((apply vL_val); (case h => ((apply opv_loadb1); exact rfl; exact rfl; assumption; exact rfl))))
  refine vL_callF rfl (clone_br r.brv.1 r.brs w1 (hr.1.frN hf1) hs.1) rfl ?_
  rintro nv w2 ⟨hf2, hn2, hfr2, hone2⟩
  have h12 := h1.frN hf2
  have h22 := h2.frN hf2
  have hf12 := hf1.trans hf2
  have hz1 := hf1.size
  (((iterate 2 (((apply vL_val); (case h => ((apply opv_fieldAddr); exact rfl))))); ((apply vL_skip); (case h => ((apply ops_store1); exact norm_eq rfl; ((conv => lhs; whnf) <;> exact rfl); (first | rfl | assumption); assumption; (first | decide | exact of_decide_eq_true rfl | (simp; done))))); apply vL_nil)); with_reducible apply seqP_normal
  (((iterate 2 (apply vC_seq)); apply vC_region))
  refine vL_gen (fun w' => Fr No w w' ∧ Blk w'.heap b1 (rqE { r with brv := ⟨nv, hone2⟩ }) 40 ∧ Blk w'.heap b2 rqZ 40 ∧ Own w'.heap 71 1 brE nv r.brs) ⟨hf12.set _ _ (.inr hb1), Blk.as (Blk.set h12) rfl, h22.set_ne (Ne.symm hne), hn2.set (Own.ne_blk hn2 h12 (by decide))⟩ ?_
  rintro w3 ⟨hf3, h13, h23, hn3⟩
  have hnf : ∀ b, own nv = some b → w.heap.size ≤ b := fun b hb => by have := hfr2 b hb; omega
  clear h1 h2 hf1 hf2 hn2 hfr2 h12 h22 hf12 hz1
  have hnl : nv.oneCell' = true := hone2
  ((iterate 2 (((apply vL_val); (case h => ((apply opv_fieldAddr); exact rfl))))); ((apply vL_val); (case h => ((apply opv_loadb1); exact rfl; exact rfl; assumption; exact rfl))); ((apply vL_val); (case h => ((apply opv_len); ((conv => lhs; whnf) <;> exact rfl); infer_instance))); ((apply vL_val); (case h => ((apply opv_E); exact rfl))); apply vL_nil; apply seqP_normal; apply vC_block)
  (apply vC_loop1 1073725448 14 (fun u w' => ∃ (i : Nat) (bs : List (OV × List Int)), u = .int .i64 i ∧ i ≤ r.brs.length ∧ Own w'.heap 71 1 brE nv bs ∧ bs.map (·.2) = r.brs.map (·.2) ∧ (∀ (j : Nat), i ≤ j → bs[j]? = r.brs[j]?) ∧ (∀ (j : Nat) y, j < i → bs[j]? = some y → Own w'.heap 5 1 u8E y.1.1 y.2) ∧ Fr No w w' ∧ Blk w'.heap b1 (rqE { r with brv := ⟨nv, hone2⟩ }) 40 ∧ Blk w'.heap b2 rqZ 40) (fun u _ => r.brs.length - (RowKit.intOf u).toNat)); (case h1 => (exact norm_eq rfl))
  case h0 => exact ⟨0, r.brs, rfl, Nat.zero_le _, hn3, rfl, fun _ _ => rfl, fun j y hj => absurd hj (Nat.not_lt_zero _), hf3, h13, h23⟩
  case round =>
  clear hf3 h13 h23 hn3
  rintro junk _ w4 ⟨i, bs, rfl, hi, hn4, hmap, hrest, hdone, hf4, h14, h24⟩
  have hlen : bs.length = r.brs.length := by have := congrArg List.length hmap; simpa using this
  by_cases hil : i < r.brs.length
  · obtain ⟨y, hy⟩ : ∃ y, r.brs[i]? = some y := ⟨r.brs[i], List.getElem?_eq_getElem hil⟩
    have hyb : bs[((i : Nat) : Int).toNat]? = some y := by rw [show ((i : Nat) : Int).toNat = i from rfl, hrest i (Nat.le_refl _)]; exact hy
    have hym := List.mem_of_getElem? hy
    have hil' : ((i : Nat) : Int) < bs.length := by omega
    (apply vC_seq; apply vC_region; ((apply vL_val); (case h => ((apply opv_E); exact rfl))); apply vL_nil; apply seqP_normal; apply vC_seq; (refine vC_cond_dec rfl (fun _ => ?_) (fun h => by omega)); apply vC_skip; apply seqP_normal; apply vC_seq; apply vC_block; apply vC_seq; apply vC_region; (iterate 2 (((apply vL_val); (case h => ((apply opv_E); exact rfl))))); apply vL_nil; apply seqP_normal)
    refine vC_draw' ((fun wf => Blk wf.heap b1 (rqE { r with brv := ⟨nv, hone2⟩ }) 40)) (by (first | exact trivial | assumption | infer_instance | (skip; done))) ?_
    ((apply (tk 0)); (case hi => exact rfl); (case hf => kernel_rfl); (case hS => (first | exact trivial | assumption | infer_instance | (skip; done))); (case hy => (intro wf hwf; (try dsimp only at hwf); (((apply opv_fieldAddr); exact rfl)))))
    ((apply (tk 1)); (case hi => exact rfl); (case hf => kernel_rfl); (case hS => (first | exact trivial | assumption | infer_instance | (skip; done))); (case hy => (intro wf hwf; (try dsimp only at hwf); (((apply opv_fieldAddr); exact rfl)))))
    ((apply (tk 2)); (case hi => exact rfl); (case hf => kernel_rfl); (case hS => (first | exact trivial | assumption | infer_instance | (skip; done))); (case hy => (intro wf hwf; (try dsimp only at hwf); (((apply opv_loadb1); exact rfl; exact rfl; assumption; exact rfl)))))
    ((apply (tk 3)); (case hi => exact rfl); (case hf => kernel_rfl); (case hS => (first | exact trivial | assumption | infer_instance | (skip; done))); (case hy => (intro wf hwf; (try dsimp only at hwf); (((apply opv_E); exact rfl)))))
    ((apply (tk 4)); (case hi => exact rfl); (case hf => kernel_rfl); (case hS => (first | exact trivial | assumption | infer_instance | (skip; done))); (case hy => (intro wf hwf; (try dsimp only at hwf); (((apply opv_fieldAddr); exact rfl)))))
    ((apply (tk 5)); (case hi => exact rfl); (case hf => kernel_rfl); (case hS => (first | exact trivial | assumption | infer_instance | (skip; done))); (case hy => (intro wf hwf; (try dsimp only at hwf); (((apply opv_fieldAddr); exact rfl)))))
    ((apply (tk 6)); (case hi => exact rfl); (case hf => kernel_rfl); (case hS => (first | exact trivial | assumption | infer_instance | (skip; done))); (case hy => (intro wf hwf; (try dsimp only at hwf); (((apply opv_loadb1); exact rfl; exact rfl; assumption; exact rfl)))))
    ((apply (tk 7)); (case hi => exact rfl); (case hf => kernel_rfl); (case hS => (first | exact trivial | assumption | infer_instance | (skip; done))); (case hy => (intro wf hwf; (try dsimp only at hwf); (((apply opv_E); exact rfl)))))
    ((apply (tk 8)); (case hi => exact rfl); (case hf => kernel_rfl); (case hS => (first | exact trivial | assumption | infer_instance | (skip; done))); (case hy => (intro wf hwf; exact opv_indexAddrR rfl rfl hn4.rd (by omega) (by omega))))
    refine vA_only 9 rfl (by kernel_rfl) (by (first | exact trivial | assumption | infer_instance | (skip; done))) (fun K hK => ?_)
    refine vL_val (opv_ld_el (enc := brE) (x0 := y) rfl rfl (hn4.frN (Fr.refl No w4).drew).rd hyb rfl) (vL_nil ⟨rfl, hK _ _ ?_⟩)
    (refine tkc 10 rfl (by kernel_rfl) (by (first | exact trivial | assumption | infer_instance | (skip; done))) rfl (clone_by y.1.1 y.2 _ ((hr.2.1 y hym).frN hf4.drew) (by have := hs.2.1 y hym; omega)) rfl ?_)
    rintro cv w5 ⟨hf5, hc5, _, hone5⟩
    have hf45 : Fr No w4 w5 := (Fr.refl No w4).drew.trans hf5
    have h15 := h14.frN hf45
    have h25 := h24.frN hf45
    have hn5 := hn4.frN hf45
    ((apply (tk 11)); (case hi => exact rfl); (case hf => kernel_rfl); (case hS => (first | exact trivial | assumption | infer_instance | (skip; done))); (case hy => (intro wf hwf; exact opv_indexAddrR rfl rfl hn4.rd (by omega) (by omega))))
    refine vA_only 12 rfl (by kernel_rfl) (by (first | exact trivial | assumption | infer_instance | (skip; done))) (fun K hK => ?_)
    refine vL_storeElF (enc := brE) (xs := bs) (x0 := y) (j := 0) ((⟨cv, hone5⟩, y.2) : OV × List Int) rfl rfl hyb rfl hone5 (by decide) hn5 ?_
    intro w6 hn6 hf6
    have h16 := h15.fr hf6 (fun h => Own.ne_blk hn5 h15 (by decide) h)
    have h26 := h25.fr hf6 (fun h => Own.ne_blk hn5 h25 (by decide) h)
    refine vL_nil ⟨rfl, hK _ _ ?_⟩
    refine vA_done (by kernel_rfl) (by (first | exact trivial | assumption | infer_instance | (skip; done))) ?_
    (apply blockP_normal; apply seqP_normal; apply vC_region; ((apply vL_val); (case h => ((apply opv_add); exact rfl; exact rfl; (first | omega | (simp only [List.length_map]; omega))))); ((apply vL_val); (case h => ((apply opv_E); exact rfl))); apply vL_nil; apply loopP_normal)
    (with_reducible apply end1); (case hs => ((iterate 17 (((refine same_updO ?_ ?_); rotate_left; exact rfl))); ((refine same_upd ?_ ?_); rotate_left; exact rfl); (exact same_mask _ _ _))); (case h1 => (exact norm_eq rfl))
    · refine ⟨i + 1, _, rfl, by omega, hn6, ?_, fun j hj => ?_, fun j z hj hz => ?_, (hf4.trans hf45).trans' hf6 (fun b hb => .inr (hnf b hb)), h16, h26⟩
      · rw [List.map_set, ← hmap]
        have e1 : (bs.map (·.2))[i]? = some y.2 := by rw [List.getElem?_map]; rw [show bs[i]? = some y from hyb]; rfl
        obtain ⟨e2, e3⟩ := List.getElem?_eq_some_iff.1 e1
        show (bs.map (·.2)).set i y.2 = _
        rw [← e3, List.set_getElem_self]
      · rw [show ((i : Nat) : Int).toNat = i from rfl, List.getElem?_set_ne (by omega)]
        exact hrest j (by omega)
      · rw [show ((i : Nat) : Int).toNat = i from rfl, List.getElem?_set] at hz
        by_cases e : i = j
        · rw [if_pos e] at hz
          split at hz
          · cases hz
            exact hc5.fr hf6 (fun b hb h => Own.ne_own hc5 hn5 (by decide) b hb h)
          · cases hz
        · rw [if_neg e] at hz
          have hz6 := (hdone j z (by omega) hz).frN hf45
          exact hz6.fr hf6 (fun b hb h => Own.ne_own hz6 hn5 (by decide) b hb h)
    · simp [RowKit.intOf]; omega
  · have hie : i = r.brs.length := by omega
    subst hie
    (apply vC_seq; apply vC_region; ((apply vL_val); (case h => ((apply opv_E); exact rfl))); apply vL_nil; apply seqP_normal; apply vC_seq; (refine vC_cond_dec rfl (fun h => by omega) (fun _ => ?_)); apply vC_exit; apply seqP_exit; apply loopP_exit; apply blockP_exit; apply seqP_normal; apply vC_seq; apply vC_region; (iterate 2 (((apply vL_val); (case h => ((apply opv_fieldAddr); exact rfl))))); ((apply vL_val); (case h => ((apply opv_loadb1); exact rfl; exact rfl; assumption; exact rfl))))
    refine vL_callF rfl (clone_tx r.trv.1 r.tps w4 (hr.2.2.frN hf4) hs.2.2) rfl ?_
    rintro tv w5 ⟨hf5, ht5, _, hone5⟩
    have h15 := h14.frN hf5
    have h25 := h24.frN hf5
    (((iterate 2 (((apply vL_val); (case h => ((apply opv_fieldAddr); exact rfl))))); ((apply vL_skip); (case h => ((apply ops_store1); exact norm_eq rfl; ((conv => lhs; whnf) <;> exact rfl); (first | rfl | assumption); assumption; (first | decide | exact of_decide_eq_true rfl | (simp; done))))); apply vL_nil)); with_reducible apply seqP_normal
    ((apply vC_seq; apply vC_region))
    have hne2 : b2 ≠ b1 := Ne.symm hne
    refine vL_gen (fun w' => Fr No w w' ∧ Blk w'.heap b1 (rqE { r with brv := ⟨nv, hone2⟩, trv := ⟨tv, hone5⟩ }) 40 ∧ Blk w'.heap b2 rqZ 40 ∧ RqOwn w'.heap { r with brv := ⟨nv, hone2⟩, brs := bs, trv := ⟨tv, hone5⟩ }) ⟨(hf4.trans hf5).set _ _ (.inr hb1), Blk.as (Blk.set h15) rfl, h25.set_ne hne2, ?_⟩ ?_
    · refine ⟨(hn4.frN hf5).set (Own.ne_blk (hn4.frN hf5) h15 (by decide)), fun z hz => ?_, ht5.set (Own.ne_blk ht5 h15 (by decide))⟩
      obtain ⟨j, hj, e⟩ := List.getElem_of_mem hz
      have hj' : j < bs.length := hj
      have hz5 := (hdone j z (by omega) (by rw [← e]; exact List.getElem?_eq_getElem hj)).frN hf5
      exact hz5.set (Own.ne_blk hz5 h15 (by decide))
    rintro w6 ⟨hf6, h16, h26, ho6⟩
    (((apply vL_val); (case h => ((apply opv_loadb); exact rfl; exact rfl; assumption; exact rfl))); ((apply vL_skip); (case h => ((apply ops_storen); exact norm_eq rfl; exact norm_eq rfl; exact rfl; exact (fun u hu => EncOk.one _ u (List.mem_of_mem_drop (List.mem_of_mem_take hu))); assumption; (first | decide | exact of_decide_eq_true rfl | (simp; done))))); apply vL_nil; apply seqP_normal; apply vC_ret)
    (apply retC1; (case ha => exact rfl); (case hD => exact rfl); (case hb => exact Blk.set h26); (case hcs => exact (rfl : _ = rqE { r with brv := ⟨nv, hone2⟩, brs := bs, trv := ⟨tv, hone5⟩ })); (case hl => exact rfl))
    refine ⟨{ r with brv := ⟨nv, hone2⟩, brs := bs, trv := ⟨tv, hone5⟩ }, rfl, ?_, ?_, ?_⟩
    · show ({ r with brv := nilO, trv := nilO, brs := bs.map (fun y => (nilO, y.2)) } : RQ) = { r with brv := nilO, trv := nilO, brs := r.brs.map (fun y => (nilO, y.2)) }
      rw [brs_ext hmap]
    · exact ho6.frBlk h26 (by decide) (by decide) (by decide) ((Fr.refl (fun k => k = b2) w6).set _ _ (.inl rfl))
    · exact hf6.set _ _ (.inr hb2)
end Go.Proofs.Ytchfaeaagpemlaa

set_option maxRecDepth 100000
namespace Go.Proofs.Ytchfaeaagpemlaa
open Go Go.Eng
section
variable {P : Program} {n : Nat} {e : Env} {w : World} {Q : Post} {ops rest : List Oper} {d : Option Nat} {ty : TypeId} {p : String} {af : Array Edge}
theorem opv_ld_elS {α : Type} {t : TypeId} {x : Operand} {D : TypeDesc} {sz m j0 by' : Nat} {z cs : List Value} {i : Int} {enc : α → List Value} {v : Value} {xs : List α} {x0 : α} [TUnd P t D] [TInfo P t m by' z] (hx : ev e x = .pointer (some (ea v sz i j0))) (hD : aggD D = true) (r : Rd w.heap sz enc v xs) (hi : xs[i.toNat]? = some x0) (hcs : ((enc x0).drop j0).take m = cs) (hl : cs.length = m) : OpV P ⟨d, .load t x, ty, p, af, none⟩ e w (.agg cs.toArray) w :=
  opv_loadn hx hD (fun j u hj => by
    rw [← hcs, List.getElem?_take] at hj
    split at hj
    · rw [List.getElem?_drop] at hj
      have := r.cells _ _ hi _ _ hj
      rw [← Nat.add_assoc] at this
      exact this
    · cases hj) hl
theorem flatMap_setS {α : Type} {enc : α → List Value} {sz j : Nat} {a x0 : α} {us : List Value} (ha : enc a = (enc x0).take j ++ us ++ (enc x0).drop (j + us.length)) (hj : j + us.length ≤ sz) : ∀ (xs : List α) (i : Nat), (∀ x, x ∈ xs → (enc x).length = sz) → xs[i]? = some x0 → (xs.set i a).flatMap enc = (xs.flatMap enc).take (i * sz + j) ++ us ++ (xs.flatMap enc).drop (i * sz + j + us.length)
  | [], i, _, h => by simp at h
  | x :: xs, 0, h, hx => by
    simp at hx
    subst hx
    have hl := h x (by simp)
    rw [List.set_cons_zero, List.flatMap_cons, List.flatMap_cons, ha, Nat.zero_mul, Nat.zero_add, List.take_append_of_le_length (by omega), List.drop_append_of_le_length (by omega)]
    simp only [List.append_assoc]
  | x :: xs, i + 1, h, hx => by
    have hl := h x (by simp)
    rw [List.set_cons_succ, List.flatMap_cons, List.flatMap_cons, flatMap_setS ha hj xs i (fun y hy => h y (by simp [hy])) (by simpa using hx)]
    have e1 : (i + 1) * sz + j = (enc x).length + (i * sz + j) := by rw [hl, Nat.add_mul]; omega
    rw [e1, Nat.add_assoc (enc x).length, List.take_length_add_append, List.drop_length_add_append]
    simp only [List.append_assoc]
theorem take_mid {α : Type} (cs us : List α) (o N : Nat) (h1 : o + us.length ≤ N) (h2 : N ≤ cs.length) : (cs.take o ++ us ++ cs.drop (o + us.length)).take N = (cs.take N).take o ++ us ++ (cs.take N).drop (o + us.length) := by
  have hA : (cs.take o ++ us).length = o + us.length := by rw [List.length_append, List.length_take]; omega
  rw [List.take_append, List.take_of_length_le (by omega), hA, List.take_take, Nat.min_eq_left (by omega), List.take_drop, show o + us.length + (N - (o + us.length)) = N by omega]
/-- a store into a part of an element -/
theorem vL_storeElS {α : Type} {x y : Operand} {t T sz m by' j : Nat} {z us : List Value} {enc : α → List Value} {v : Value} {xs : List α} {i : Int} {x0 : α} (a : α) [TInfo P t m by' z] [hz : EncOk enc sz] (hx : ev e x = .pointer (some (ea v sz i j))) (hy : ev e y = .agg us.toArray) (hx0 : xs[i.toNat]? = some x0) (ha : enc a = (enc x0).take j ++ us ++ (enc x0).drop (j + us.length)) (hone : ∀ u ∈ us, u.oneCell' = true) (hm : us.length = m) (hj : j + m ≤ sz) (ho : Own w.heap T sz enc v xs)
    (k : ∀ w', Own w'.heap T sz enc v (xs.set i.toNat a) → Fr (fun k => own v = some k) w w' → vL P n ops rest e w' Q) : vL P n ops (⟨none, .store t x y, ty, p, af, none⟩ :: rest) e w Q := by
  have hi := (List.getElem?_eq_some_iff.1 hx0).1
  rcases ho.shape with ⟨_, rfl⟩ | ⟨g, cap, cs, rfl, hb, hn, hmx, hl, ht⟩
  · simp at hi
  have hin : i.toNat * sz + j + us.length ≤ xs.length * sz := by
    have : i.toNat * sz + sz ≤ xs.length * sz := by rw [← Nat.succ_mul]; exact Nat.mul_le_mul_right _ hi
    omega
  have hcap : xs.length * sz ≤ cap * sz := Nat.mul_le_mul_right _ hn
  have hx' : ev e x = .pointer (some ⟨g, i.toNat * sz + j, none⟩) := by rw [hx]; simp [ea, adr]
  have hown : Own (w.setRow g (cs.take (i.toNat * sz + j) ++ us ++ cs.drop (i.toNat * sz + j + us.length)).toArray).heap T sz enc (.slice (some ⟨g, 0, none⟩) xs.length cap) (xs.set i.toNat a) := by
    refine ⟨fun x _ => hz.len x, .inr ⟨g, cap, _, by simp, Blk.set hb, by simpa using hn, hmx, ?_, ?_⟩⟩
    · simp only [List.length_append, List.length_take, List.length_drop]; omega
    · rw [List.length_set, flatMap_setS ha (by omega) xs _ ho.size hx0, ← ht, take_mid _ _ _ _ hin (by omega)]
  exact vL_skip (op := .store t x y) (d := none) (ops_storen (P := P) (d := none) (t := t) (ty := ty) hx' hy hm hone hb (by omega)) (k _ hown ((Fr.refl (fun k => own (Value.slice (some ⟨g, 0, none⟩) xs.length cap) = some k) w).set g _ (.inl rfl)))
end
structure CL where
  id : Int
  brokers : Int
  next : Int
  now : Int
  broker : Int
  wv : OV
  pid : Int
  ep : Int
  stale : Bool
  sv : OV
  ws : List WT
  ss : List SQ
def clE (c : CL) : List Value := [.int .i64 c.id, .int .i64 c.brokers, .int .i64 c.next, .int .i64 c.now, .int .i64 c.broker, c.wv.1, .int .i64 c.pid, .int .i64 c.ep, .bool c.stale, c.sv.1]
instance encCl : EncOk clE 10 := ⟨by
  intro x u h
  simp only [clE, List.mem_cons, List.not_mem_nil, or_false] at h
  rcases h with rfl | rfl | rfl | rfl | rfl | rfl | rfl | rfl | rfl | rfl
  all_goals first | rfl | exact x.wv.2 | exact x.sv.2, fun _ => rfl⟩
def CL.nf (c : CL) : CL := { c with wv := nilO, sv := nilO, ws := c.ws.map WT.nf }
abbrev clZ : List Value := [.int .i64 0, .int .i64 0, .int .i64 0, .int .i64 0, .int .i64 0, .slice none 0 0, .int .i64 0, .int .i64 0, .bool false, .slice none 0 0]
def ClRd (h : Array Obj) (c : CL) : Prop := Rd h 26 wtE c.wv.1 c.ws ∧ (∀ x ∈ c.ws, RqRd h x.rq) ∧ Rd h 3 sqE c.sv.1 c.ss
def ClSz (c : CL) : Prop := c.ws.length ≤ 1000 ∧ c.ss.length ≤ 1000 ∧ ∀ x ∈ c.ws, RqSz x.rq
def ClOwn (h : Array Obj) (c : CL) : Prop := Own h 42 26 wtE c.wv.1 c.ws ∧ (∀ x ∈ c.ws, RqOwn h x.rq) ∧ Own h 65 3 sqE c.sv.1 c.ss
theorem ClOwn.rd {h : Array Obj} {c : CL} (o : ClOwn h c) : ClRd h c := ⟨o.1.rd, fun x hx => (o.2.1 x hx).rd, o.2.2.rd⟩
theorem ClRd.frN {w w' : World} {c : CL} (o : ClRd w.heap c) (h : Fr No w w') : ClRd w'.heap c := ⟨o.1.frN h, fun x hx => (o.2.1 x hx).frN h, o.2.2.frN h⟩
theorem ClOwn.frN {w w' : World} {c : CL} (o : ClOwn w.heap c) (h : Fr No w w') : ClOwn w'.heap c := ⟨o.1.frN h, fun x hx => (o.2.1 x hx).frN h, o.2.2.frN h⟩
theorem ClOwn.frBlk {w w' : World} {c : CL} {T b : Nat} {cs : List Value} (o : ClOwn w.heap c) (hu : Blk w.heap b cs T) (h1 : T ≠ 71 ∧ T ≠ 5 ∧ T ≠ 9) (h2 : T ≠ 42 ∧ T ≠ 65) (h : Fr (fun k => k = b) w w') : ClOwn w'.heap c :=
  ⟨o.1.fr h (fun b' hb e => Own.ne_blk o.1 hu (Ne.symm h2.1) (by rw [hb, e])), fun x hx => (o.2.1 x hx).frBlk hu h1.1 h1.2.1 h1.2.2 h, o.2.2.fr h (fun b' hb e => Own.ne_blk o.2.2 hu (Ne.symm h2.2) (by rw [hb, e]))⟩
theorem wtE_rq (x : WT) (r : RQ) : wtE { x with rq := r } = (wtE x).take 0 ++ rqE r ++ (wtE x).drop (0 + (rqE r).length) := rfl
end Go.Proofs.Ytchfaeaagpemlaa

set_option maxRecDepth 100000
namespace Go.Proofs.Ytchfaeaagpemlaa
open Go Go.Eng
theorem clone31 (c : CL) (w : World) (hr : ClRd w.heap c) (hs : ClSz c) :
    Rets Try.prog 16 #[.agg (clE c).toArray] w fun u w' => ∃ c', u = .agg (clE c').toArray ∧ c'.nf = c.nf ∧ ClOwn w'.heap c' ∧ (∀ b, own c'.wv.1 = some b → w.heap.size ≤ b) ∧ (∀ b, own c'.sv.1 = some b → w.heap.size ≤ b) ∧ Fr No w w' := by
  have hw0 := c.wv.2
  have hs0 := c.sv.2
  have hsm := hr.1.small
  refine rets_of Try.func16 rfl Try.ntmps16 rfl rfl (by kernel_rfl) ?_
  ((apply vC_seq; apply vC_region)); ((((apply vL_val); (case h => ((apply opw_boxn); exact rfl))); ((apply vL_val); (case h => (apply opw_alloc))); apply vL_nil)); with_reducible apply seqP_normal
  ((apply vC_seq))
  refine vC_gen (fun w' => Fr No w w' ∧ Blk w'.heap w.heap.size (clE c) 25 ∧ Blk w'.heap (w.alloc (.cells (clE c).toArray 25)).heap.size clZ 25) ⟨by ((iterate 2 (apply Fr.alloc)); exact Fr.refl _ _), inferInstance, inferInstance⟩ ?_
  rintro w1 ⟨hf1, h1, h2⟩
  have hne : w.heap.size ≠ (w.alloc (.cells (clE c).toArray 25)).heap.size := by rw [alloc_size]; omega
  have hb2 : w.heap.size ≤ (w.alloc (.cells (clE c).toArray 25)).heap.size := by rw [alloc_size]; omega
  generalize (w.alloc (.cells (clE c).toArray 25)).heap.size = b2 at h2 hne hb2 ⊢
  obtain ⟨b1, eb1, hb1⟩ : ∃ b1, b1 = w.heap.size ∧ w.heap.size ≤ b1 := ⟨_, rfl, Nat.le_refl _⟩
  rw [← eb1] at h1 hne ⊢

  refine vC_draw' (fun _ => True) trivial ?_
  have hf1d := hf1.drew
  have h1d := h1.frN (Fr.refl No w1).drew
  have h2d := h2.frN (Fr.refl No w1).drew
  ((apply (tk 0)); (case hi => exact rfl); (case hf => kernel_rfl); (case hS => trivial); (case hy => (intro _ _; (((apply opv_fieldAddr); exact rfl)))))
  ((apply (tk 3)); (case hi => exact rfl); (case hf => kernel_rfl); (case hS => trivial); (case hy => (intro _ _; (((apply opv_fieldAddr); exact rfl)))))
  refine vA_two 1 4 rfl rfl (by kernel_rfl) trivial (fun K hK => ?_) (fun K hK => ?_)
  · (((apply vL_val); (case h => ((apply opv_loadb1); exact rfl; exact rfl; assumption; exact rfl))); apply vL_nil)
    refine ⟨rfl, hK _ _ ?_⟩
    refine vA_two 2 4 rfl rfl (by kernel_rfl) trivial (fun K hK => ?_) (fun K hK => ?_)
    · refine vL_callF rfl (clone_wt c.wv.1 c.ws _ (hr.1.frN hf1d) (by have := hs.1; omega)) rfl ?_
      rintro wv' w2 ⟨hf2, hw2, hfw2, honew⟩
      have h12 := h1d.frN hf2
      have h22 := h2d.frN hf2
      have hf12 := hf1d.trans hf2
      have hfw : ∀ b, own wv' = some b → w.heap.size ≤ b := fun b hb => by have := hfw2 b hb; have := hf1d.size; omega
      (apply vL_nil)
      refine ⟨rfl, hK _ _ ?_⟩
      refine vA_only 4 rfl (by kernel_rfl) trivial (fun K hK => ?_)
      (((apply vL_val); (case h => ((apply opv_loadb1); exact rfl; exact rfl; assumption; exact rfl))); apply vL_nil)
      refine ⟨rfl, hK _ _ ?_⟩
      ((apply (tk 6)); (case hi => exact rfl); (case hf => kernel_rfl); (case hS => trivial); (case hy => (intro _ _; (((apply opv_fieldAddr); exact rfl)))))
      refine tkc 5 rfl (by kernel_rfl) trivial rfl (clone_sq c.sv.1 c.ss _ (hr.2.2.frN hf12) (by have := hs.2.1; omega)) rfl ?_
      rintro sv' w3 ⟨hf3, hs3, hfs3, hones⟩
      have hf13 := (hf12).trans hf3
      have hw3 := hw2.frN hf3
      have h13 := h12.frN hf3
      have h23 := h22.frN hf3
      refine vA_only 7 rfl (by kernel_rfl) trivial (fun K hK => ?_)
      (((apply vL_skip); (case h => ((apply ops_store1); exact norm_eq rfl; ((conv => lhs; whnf) <;> exact rfl); (first | rfl | assumption); assumption; (first | decide | exact of_decide_eq_true rfl | (simp; done))))); apply vL_nil)
      refine ⟨rfl, hK _ _ ?_⟩
      ((apply (tk 8)); (case hi => exact rfl); (case hf => kernel_rfl); (case hS => trivial); (case hy => (intro _ _; (((apply opv_fieldAddr); exact rfl)))))
      refine vA_only 9 rfl (by kernel_rfl) trivial (fun K hK => ?_)
      (((apply vL_skip); (case h => ((apply ops_store1); exact norm_eq rfl; ((conv => lhs; whnf) <;> exact rfl); (first | rfl | assumption); infer_instance; (first | decide | exact of_decide_eq_true rfl | (simp; done))))); apply vL_nil)
      refine ⟨rfl, hK _ _ ?_⟩
      refine vA_done (by kernel_rfl) trivial ?_
      ((apply seqP_normal; (iterate 2 (apply vC_seq)); apply vC_region))
      refine vL_gen (fun w' => Fr No w w' ∧ Blk w'.heap b1 (clE { c with wv := ⟨wv', honew⟩, sv := ⟨sv', hones⟩ }) 25 ∧ Blk w'.heap b2 clZ 25 ∧ Own w'.heap 42 26 wtE wv' c.ws ∧ Own w'.heap 65 3 sqE sv' c.ss) ⟨(hf13.set _ _ (.inr hb1)).set _ _ (.inr hb1), Blk.as (Blk.set (Blk.set h13)) rfl, (h23.set_ne (Ne.symm hne)).set_ne (Ne.symm hne), (hw3.set (Own.ne_blk hw3 h13 (by decide))).set (Own.ne_blk hw3 h13 (by decide)), (hs3.set (Own.ne_blk hs3 h13 (by decide))).set (Own.ne_blk hs3 h13 (by decide))⟩ ?_
      rintro w4 ⟨hf4, h14, h24, hw4, hs4⟩
      have hfs : ∀ b, own sv' = some b → w.heap.size ≤ b := fun b hb => by have := hfs3 b hb; have := (hf12).size; omega
      clear hf3 hs3 hfs3 hf13 hw3 h13 h23 hw2 h12 h22 h1 h2
      (((apply vL_val); (case h => ((apply opv_fieldAddr); exact rfl))); ((apply vL_val); (case h => ((apply opv_loadb1); exact rfl; exact rfl; assumption; exact rfl))); ((apply vL_val); (case h => ((apply opv_len); ((conv => lhs; whnf) <;> exact rfl); infer_instance))); ((apply vL_val); (case h => ((apply opv_E); exact rfl))); apply vL_nil; apply seqP_normal; apply vC_block)
      (apply vC_loop1 2147450888 15 (fun u w' => ∃ (i : Nat) (ws : List WT), u = .int .i64 i ∧ i ≤ c.ws.length ∧ Own w'.heap 42 26 wtE wv' ws ∧ ws.map WT.nf = c.ws.map WT.nf ∧ (∀ (j : Nat), i ≤ j → ws[j]? = c.ws[j]?) ∧ (∀ (j : Nat) y, j < i → ws[j]? = some y → RqOwn w'.heap y.rq) ∧ Fr No w w' ∧ Blk w'.heap b1 (clE { c with wv := ⟨wv', honew⟩, sv := ⟨sv', hones⟩ }) 25 ∧ Blk w'.heap b2 clZ 25 ∧ Own w'.heap 65 3 sqE sv' c.ss) (fun u _ => c.ws.length - (RowKit.intOf u).toNat)); (case h1 => (exact norm_eq rfl))
      case h0 => exact ⟨0, c.ws, rfl, Nat.zero_le _, hw4, rfl, fun _ _ => rfl, fun j y hj => absurd hj (Nat.not_lt_zero _), hf4, h14, h24, hs4⟩
      case round =>
      clear hf4 h14 h24 hw4 hs4
      rintro junk _ w5 ⟨i, ws, rfl, hi, hw5, hmap, hrest, hdone, hf5, h15, h25, hs5⟩
      have hlen : ws.length = c.ws.length := by have := congrArg List.length hmap; simpa using this
      by_cases hil : i < c.ws.length
      · obtain ⟨y, hy⟩ : ∃ y, c.ws[i]? = some y := ⟨c.ws[i], List.getElem?_eq_getElem hil⟩
        have hyb : ws[((i : Nat) : Int).toNat]? = some y := by rw [show ((i : Nat) : Int).toNat = i from rfl, hrest i (Nat.le_refl _)]; exact hy
        have hym := List.mem_of_getElem? hy
        have hil' : ((i : Nat) : Int) < ws.length := by omega
        (apply vC_seq; apply vC_region; ((apply vL_val); (case h => ((apply opv_E); exact rfl))); apply vL_nil; apply seqP_normal; apply vC_seq; (refine vC_cond_dec rfl (fun _ => ?_) (fun h => by omega)); apply vC_skip; apply seqP_normal; apply vC_seq; apply vC_block; apply vC_seq; apply vC_region; (iterate 2 (((apply vL_val); (case h => ((apply opv_E); exact rfl))))); apply vL_nil; apply seqP_normal)
        refine vC_draw' ((fun wf => Blk wf.heap b1 (clE { c with wv := ⟨wv', honew⟩, sv := ⟨sv', hones⟩ }) 25)) (by (first | exact trivial | assumption | infer_instance | (skip; done))) ?_
        ((apply (tk 0)); (case hi => exact rfl); (case hf => kernel_rfl); (case hS => (first | exact trivial | assumption | infer_instance | (skip; done))); (case hy => (intro wf hwf; (try dsimp only at hwf); (((apply opv_fieldAddr); exact rfl)))))
        ((apply (tk 1)); (case hi => exact rfl); (case hf => kernel_rfl); (case hS => (first | exact trivial | assumption | infer_instance | (skip; done))); (case hy => (intro wf hwf; (try dsimp only at hwf); (((apply opv_loadb1); exact rfl; exact rfl; assumption; exact rfl)))))
        ((apply (tk 2)); (case hi => exact rfl); (case hf => kernel_rfl); (case hS => (first | exact trivial | assumption | infer_instance | (skip; done))); (case hy => (intro wf hwf; (try dsimp only at hwf); (((apply opv_E); exact rfl)))))
        ((apply (tk 3)); (case hi => exact rfl); (case hf => kernel_rfl); (case hS => (first | exact trivial | assumption | infer_instance | (skip; done))); (case hy => (intro wf hwf; (try dsimp only at hwf); (((apply opv_fieldAddr); exact rfl)))))
        ((apply (tk 4)); (case hi => exact rfl); (case hf => kernel_rfl); (case hS => (first | exact trivial | assumption | infer_instance | (skip; done))); (case hy => (intro wf hwf; (try dsimp only at hwf); (((apply opv_loadb1); exact rfl; exact rfl; assumption; exact rfl)))))
        ((apply (tk 5)); (case hi => exact rfl); (case hf => kernel_rfl); (case hS => (first | exact trivial | assumption | infer_instance | (skip; done))); (case hy => (intro wf hwf; (try dsimp only at hwf); (((apply opv_E); exact rfl)))))
        ((apply (tk 6)); (case hi => exact rfl); (case hf => kernel_rfl); (case hS => (first | exact trivial | assumption | infer_instance | (skip; done))); (case hy => (intro wf hwf; exact opv_indexAddrR rfl rfl hw5.rd (by omega) (by omega))))
        ((apply (tk 7)); (case hi => exact rfl); (case hf => kernel_rfl); (case hS => (first | exact trivial | assumption | infer_instance | (skip; done))); (case hy => (intro wf hwf; (try dsimp only at hwf); (((apply opv_fieldAddr); exact rfl)))))
        refine vA_only 8 rfl (by kernel_rfl) (by (first | exact trivial | assumption | infer_instance | (skip; done))) (fun K hK => ?_)
        refine vL_val (opv_ld_elS (enc := wtE) (x0 := y) (cs := rqE y.rq) rfl rfl (hw5.frN (Fr.refl No w5).drew).rd hyb rfl rfl) (vL_nil ⟨rfl, hK _ _ ?_⟩)
        (refine tkc 9 rfl (by kernel_rfl) (by (first | exact trivial | assumption | infer_instance | (skip; done))) rfl (cloned31 y.rq _ ((hr.2.1 y hym).frN hf5.drew) (hs.2.2 y hym)) rfl ?_)
        rintro _ w6 ⟨r', rfl, hnf, hr6, hf6⟩
        have hf56 : Fr No w5 w6 := (Fr.refl No w5).drew.trans hf6
        have h16 := h15.frN hf56
        have h26 := h25.frN hf56
        have hw6 := hw5.frN hf56
        have hs6 := hs5.frN hf56
        ((apply (tk 10)); (case hi => exact rfl); (case hf => kernel_rfl); (case hS => (first | exact trivial | assumption | infer_instance | (skip; done))); (case hy => (intro wf hwf; exact opv_indexAddrR rfl rfl hw5.rd (by omega) (by omega))))
        ((apply (tk 11)); (case hi => exact rfl); (case hf => kernel_rfl); (case hS => (first | exact trivial | assumption | infer_instance | (skip; done))); (case hy => (intro wf hwf; (try dsimp only at hwf); (((apply opv_fieldAddr); exact rfl)))))
        refine vA_only 12 rfl (by kernel_rfl) (by (first | exact trivial | assumption | infer_instance | (skip; done))) (fun K hK => ?_)
        refine vL_storeElS (enc := wtE) (xs := ws) (x0 := y) (j := 0) (us := rqE r') ({ y with rq := r' } : WT) rfl rfl hyb (wtE_rq y r') (fun u hu => EncOk.one _ u hu) rfl (show 0 + 23 ≤ 26 from by decide) hw6 ?_
        intro w7 hw7 hf7
        have h17 := h16.fr hf7 (fun h => Own.ne_blk hw6 h16 (by decide) h)
        have h27 := h26.fr hf7 (fun h => Own.ne_blk hw6 h26 (by decide) h)
        have hs7 := hs6.fr hf7 (fun b hb h => Own.ne_own hs6 hw6 (by decide) b hb h)
        refine vL_nil ⟨rfl, hK _ _ ?_⟩
        refine vA_done (by kernel_rfl) (by (first | exact trivial | assumption | infer_instance | (skip; done))) ?_
        (apply blockP_normal; apply seqP_normal; apply vC_region; ((apply vL_val); (case h => ((apply opv_add); exact rfl; exact rfl; (first | omega | (simp only [List.length_map]; omega))))); ((apply vL_val); (case h => ((apply opv_E); exact rfl))); apply vL_nil; apply loopP_normal)
        (with_reducible apply end1); (case hs => ((iterate 17 (((refine same_updO ?_ ?_); rotate_left; exact rfl))); ((refine same_upd ?_ ?_); rotate_left; exact rfl); (exact same_mask _ _ _))); (case h1 => (exact norm_eq rfl))
        · refine ⟨i + 1, _, rfl, by omega, hw7, ?_, fun j hj => ?_, fun j z hj hz => ?_, (hf5.trans hf56).trans' hf7 (fun b hb => .inr (hfw b hb)), h17, h27, hs7⟩
          · rw [List.map_set, ← hmap]
            have e1 : (ws.map WT.nf)[i]? = some y.nf := by rw [List.getElem?_map]; rw [show ws[i]? = some y from hyb]; rfl
            obtain ⟨e2, e3⟩ := List.getElem?_eq_some_iff.1 e1
            have e4 : WT.nf { y with rq := r' } = y.nf := by show ({ y with rq := r'.nf } : WT) = { y with rq := y.rq.nf }; rw [hnf]
            rw [e4]
            show (ws.map WT.nf).set i y.nf = _
            rw [← e3, List.set_getElem_self]
          · rw [show ((i : Nat) : Int).toNat = i from rfl, List.getElem?_set_ne (by omega)]
            exact hrest j (by omega)
          · rw [show ((i : Nat) : Int).toNat = i from rfl, List.getElem?_set] at hz
            by_cases e : i = j
            · rw [if_pos e] at hz
              split at hz
              · cases hz
                exact hr6.frOwn hw6 (by decide) (by decide) (by decide) hf7
              · cases hz
            · rw [if_neg e] at hz
              exact ((hdone j z (by omega) hz).frN hf56).frOwn hw6 (by decide) (by decide) (by decide) hf7
        · simp [RowKit.intOf]; omega
      · have hie : i = c.ws.length := by omega
        subst hie
        (apply vC_seq; apply vC_region; ((apply vL_val); (case h => ((apply opv_E); exact rfl))); apply vL_nil; apply seqP_normal; apply vC_seq; (refine vC_cond_dec rfl (fun h => by omega) (fun _ => ?_)); apply vC_exit; apply seqP_exit; apply loopP_exit; apply blockP_exit; apply seqP_normal; apply vC_seq; apply vC_region; ((apply vL_val); (case h => ((apply opv_loadbC); exact rfl; exact rfl; assumption; exact (rfl : _ = [_, _, _, _, _, _, _, _, _, _]); exact rfl))); ((apply vL_skip); (case h => ((apply ops_storen); exact norm_eq rfl; exact norm_eq rfl; exact rfl; (intro u hu; simp only [List.mem_cons, List.not_mem_nil, or_false] at hu; rcases hu with rfl | rfl | rfl | rfl | rfl | rfl | rfl | rfl | rfl | rfl <;> (first | rfl | assumption)); assumption; (first | decide | exact of_decide_eq_true rfl | (simp; done))))); apply vL_nil; apply seqP_normal; apply vC_ret)
        (apply retC1; (case ha => exact rfl); (case hD => exact rfl); (case hb => exact Blk.set h25); (case hcs => exact (rfl : _ = clE { c with wv := ⟨wv', honew⟩, sv := ⟨sv', hones⟩, ws := ws })); (case hl => exact rfl))
        refine ⟨{ c with wv := ⟨wv', honew⟩, sv := ⟨sv', hones⟩, ws := ws }, rfl, ?_, ?_, (fun b hb => by rw [eb1]; exact hfw b hb), (fun b hb => by rw [eb1]; exact hfs b hb), hf5.set _ _ (.inr hb2)⟩
        · show ({ c with wv := nilO, sv := nilO, ws := ws.map WT.nf } : CL) = { c with wv := nilO, sv := nilO, ws := c.ws.map WT.nf }
          rw [hmap]
        · refine ClOwn.frBlk (T := 25) (cs := clZ) (b := b2) ⟨hw5, fun z hz => ?_, hs5⟩ h25 ⟨by decide, by decide, by decide⟩ ⟨by decide, by decide⟩ ((Fr.refl (fun k => k = b2) w5).set _ _ (.inl rfl))
          obtain ⟨j, hj, e⟩ := List.getElem_of_mem hz
          have hj' : j < ws.length := hj
          exact hdone j z (by omega) (by rw [← e]; exact List.getElem?_eq_getElem hj)
    · (((apply vL_val); (case h => ((apply opv_loadb1); exact rfl; exact rfl; assumption; exact rfl))); apply vL_nil)
      refine ⟨rfl, hK _ _ ?_⟩
      refine vA_only 2 rfl (by kernel_rfl) trivial (fun K hK => ?_)
      refine vL_callF rfl (clone_wt c.wv.1 c.ws _ (hr.1.frN hf1d) (by have := hs.1; omega)) rfl ?_
      rintro wv' w2 ⟨hf2, hw2, hfw2, honew⟩
      have h12 := h1d.frN hf2
      have h22 := h2d.frN hf2
      have hf12 := hf1d.trans hf2
      have hfw : ∀ b, own wv' = some b → w.heap.size ≤ b := fun b hb => by have := hfw2 b hb; have := hf1d.size; omega
      (apply vL_nil)
      refine ⟨rfl, hK _ _ ?_⟩
      ((apply (tk 6)); (case hi => exact rfl); (case hf => kernel_rfl); (case hS => trivial); (case hy => (intro _ _; (((apply opv_fieldAddr); exact rfl)))))
      refine tkc 5 rfl (by kernel_rfl) trivial rfl (clone_sq c.sv.1 c.ss _ (hr.2.2.frN hf12) (by have := hs.2.1; omega)) rfl ?_
      rintro sv' w3 ⟨hf3, hs3, hfs3, hones⟩
      have hf13 := (hf12).trans hf3
      have hw3 := hw2.frN hf3
      have h13 := h12.frN hf3
      have h23 := h22.frN hf3
      refine vA_only 7 rfl (by kernel_rfl) trivial (fun K hK => ?_)
      (((apply vL_skip); (case h => ((apply ops_store1); exact norm_eq rfl; ((conv => lhs; whnf) <;> exact rfl); (first | rfl | assumption); assumption; (first | decide | exact of_decide_eq_true rfl | (simp; done))))); apply vL_nil)
      refine ⟨rfl, hK _ _ ?_⟩
      ((apply (tk 8)); (case hi => exact rfl); (case hf => kernel_rfl); (case hS => trivial); (case hy => (intro _ _; (((apply opv_fieldAddr); exact rfl)))))
      refine vA_only 9 rfl (by kernel_rfl) trivial (fun K hK => ?_)
      (((apply vL_skip); (case h => ((apply ops_store1); exact norm_eq rfl; ((conv => lhs; whnf) <;> exact rfl); (first | rfl | assumption); infer_instance; (first | decide | exact of_decide_eq_true rfl | (simp; done))))); apply vL_nil)
      refine ⟨rfl, hK _ _ ?_⟩
      refine vA_done (by kernel_rfl) trivial ?_
      ((apply seqP_normal; (iterate 2 (apply vC_seq)); apply vC_region))
      refine vL_gen (fun w' => Fr No w w' ∧ Blk w'.heap b1 (clE { c with wv := ⟨wv', honew⟩, sv := ⟨sv', hones⟩ }) 25 ∧ Blk w'.heap b2 clZ 25 ∧ Own w'.heap 42 26 wtE wv' c.ws ∧ Own w'.heap 65 3 sqE sv' c.ss) ⟨(hf13.set _ _ (.inr hb1)).set _ _ (.inr hb1), Blk.as (Blk.set (Blk.set h13)) rfl, (h23.set_ne (Ne.symm hne)).set_ne (Ne.symm hne), (hw3.set (Own.ne_blk hw3 h13 (by decide))).set (Own.ne_blk hw3 h13 (by decide)), (hs3.set (Own.ne_blk hs3 h13 (by decide))).set (Own.ne_blk hs3 h13 (by decide))⟩ ?_
      rintro w4 ⟨hf4, h14, h24, hw4, hs4⟩
      have hfs : ∀ b, own sv' = some b → w.heap.size ≤ b := fun b hb => by have := hfs3 b hb; have := (hf12).size; omega
      clear hf3 hs3 hfs3 hf13 hw3 h13 h23 hw2 h12 h22 h1 h2
      (((apply vL_val); (case h => ((apply opv_fieldAddr); exact rfl))); ((apply vL_val); (case h => ((apply opv_loadb1); exact rfl; exact rfl; assumption; exact rfl))); ((apply vL_val); (case h => ((apply opv_len); ((conv => lhs; whnf) <;> exact rfl); infer_instance))); ((apply vL_val); (case h => ((apply opv_E); exact rfl))); apply vL_nil; apply seqP_normal; apply vC_block)
      (apply vC_loop1 2147450888 15 (fun u w' => ∃ (i : Nat) (ws : List WT), u = .int .i64 i ∧ i ≤ c.ws.length ∧ Own w'.heap 42 26 wtE wv' ws ∧ ws.map WT.nf = c.ws.map WT.nf ∧ (∀ (j : Nat), i ≤ j → ws[j]? = c.ws[j]?) ∧ (∀ (j : Nat) y, j < i → ws[j]? = some y → RqOwn w'.heap y.rq) ∧ Fr No w w' ∧ Blk w'.heap b1 (clE { c with wv := ⟨wv', honew⟩, sv := ⟨sv', hones⟩ }) 25 ∧ Blk w'.heap b2 clZ 25 ∧ Own w'.heap 65 3 sqE sv' c.ss) (fun u _ => c.ws.length - (RowKit.intOf u).toNat)); (case h1 => (exact norm_eq rfl))
      case h0 => exact ⟨0, c.ws, rfl, Nat.zero_le _, hw4, rfl, fun _ _ => rfl, fun j y hj => absurd hj (Nat.not_lt_zero _), hf4, h14, h24, hs4⟩
      case round =>
      clear hf4 h14 h24 hw4 hs4
      rintro junk _ w5 ⟨i, ws, rfl, hi, hw5, hmap, hrest, hdone, hf5, h15, h25, hs5⟩
      have hlen : ws.length = c.ws.length := by have := congrArg List.length hmap; simpa using this
      by_cases hil : i < c.ws.length
      · obtain ⟨y, hy⟩ : ∃ y, c.ws[i]? = some y := ⟨c.ws[i], List.getElem?_eq_getElem hil⟩
        have hyb : ws[((i : Nat) : Int).toNat]? = some y := by rw [show ((i : Nat) : Int).toNat = i from rfl, hrest i (Nat.le_refl _)]; exact hy
        have hym := List.mem_of_getElem? hy
        have hil' : ((i : Nat) : Int) < ws.length := by omega
        (apply vC_seq; apply vC_region; ((apply vL_val); (case h => ((apply opv_E); exact rfl))); apply vL_nil; apply seqP_normal; apply vC_seq; (refine vC_cond_dec rfl (fun _ => ?_) (fun h => by omega)); apply vC_skip; apply seqP_normal; apply vC_seq; apply vC_block; apply vC_seq; apply vC_region; (iterate 2 (((apply vL_val); (case h => ((apply opv_E); exact rfl))))); apply vL_nil; apply seqP_normal)
        refine vC_draw' ((fun wf => Blk wf.heap b1 (clE { c with wv := ⟨wv', honew⟩, sv := ⟨sv', hones⟩ }) 25)) (by (first | exact trivial | assumption | infer_instance | (skip; done))) ?_
        ((apply (tk 0)); (case hi => exact rfl); (case hf => kernel_rfl); (case hS => (first | exact trivial | assumption | infer_instance | (skip; done))); (case hy => (intro wf hwf; (try dsimp only at hwf); (((apply opv_fieldAddr); exact rfl)))))
        ((apply (tk 1)); (case hi => exact rfl); (case hf => kernel_rfl); (case hS => (first | exact trivial | assumption | infer_instance | (skip; done))); (case hy => (intro wf hwf; (try dsimp only at hwf); (((apply opv_loadb1); exact rfl; exact rfl; assumption; exact rfl)))))
        ((apply (tk 2)); (case hi => exact rfl); (case hf => kernel_rfl); (case hS => (first | exact trivial | assumption | infer_instance | (skip; done))); (case hy => (intro wf hwf; (try dsimp only at hwf); (((apply opv_E); exact rfl)))))
        ((apply (tk 3)); (case hi => exact rfl); (case hf => kernel_rfl); (case hS => (first | exact trivial | assumption | infer_instance | (skip; done))); (case hy => (intro wf hwf; (try dsimp only at hwf); (((apply opv_fieldAddr); exact rfl)))))
        ((apply (tk 4)); (case hi => exact rfl); (case hf => kernel_rfl); (case hS => (first | exact trivial | assumption | infer_instance | (skip; done))); (case hy => (intro wf hwf; (try dsimp only at hwf); (((apply opv_loadb1); exact rfl; exact rfl; assumption; exact rfl)))))
        ((apply (tk 5)); (case hi => exact rfl); (case hf => kernel_rfl); (case hS => (first | exact trivial | assumption | infer_instance | (skip; done))); (case hy => (intro wf hwf; (try dsimp only at hwf); (((apply opv_E); exact rfl)))))
        ((apply (tk 6)); (case hi => exact rfl); (case hf => kernel_rfl); (case hS => (first | exact trivial | assumption | infer_instance | (skip; done))); (case hy => (intro wf hwf; exact opv_indexAddrR rfl rfl hw5.rd (by omega) (by omega))))
        ((apply (tk 7)); (case hi => exact rfl); (case hf => kernel_rfl); (case hS => (first | exact trivial | assumption | infer_instance | (skip; done))); (case hy => (intro wf hwf; (try dsimp only at hwf); (((apply opv_fieldAddr); exact rfl)))))
        refine vA_only 8 rfl (by kernel_rfl) (by (first | exact trivial | assumption | infer_instance | (skip; done))) (fun K hK => ?_)
        refine vL_val (opv_ld_elS (enc := wtE) (x0 := y) (cs := rqE y.rq) rfl rfl (hw5.frN (Fr.refl No w5).drew).rd hyb rfl rfl) (vL_nil ⟨rfl, hK _ _ ?_⟩)
        (refine tkc 9 rfl (by kernel_rfl) (by (first | exact trivial | assumption | infer_instance | (skip; done))) rfl (cloned31 y.rq _ ((hr.2.1 y hym).frN hf5.drew) (hs.2.2 y hym)) rfl ?_)
        rintro _ w6 ⟨r', rfl, hnf, hr6, hf6⟩
        have hf56 : Fr No w5 w6 := (Fr.refl No w5).drew.trans hf6
        have h16 := h15.frN hf56
        have h26 := h25.frN hf56
        have hw6 := hw5.frN hf56
        have hs6 := hs5.frN hf56
        ((apply (tk 10)); (case hi => exact rfl); (case hf => kernel_rfl); (case hS => (first | exact trivial | assumption | infer_instance | (skip; done))); (case hy => (intro wf hwf; exact opv_indexAddrR rfl rfl hw5.rd (by omega) (by omega))))
        ((apply (tk 11)); (case hi => exact rfl); (case hf => kernel_rfl); (case hS => (first | exact trivial | assumption | infer_instance | (skip; done))); (case hy => (intro wf hwf; (try dsimp only at hwf); (((apply opv_fieldAddr); exact rfl)))))
        refine vA_only 12 rfl (by kernel_rfl) (by (first | exact trivial | assumption | infer_instance | (skip; done))) (fun K hK => ?_)
        refine vL_storeElS (enc := wtE) (xs := ws) (x0 := y) (j := 0) (us := rqE r') ({ y with rq := r' } : WT) rfl rfl hyb (wtE_rq y r') (fun u hu => EncOk.one _ u hu) rfl (show 0 + 23 ≤ 26 from by decide) hw6 ?_
        intro w7 hw7 hf7
        have h17 := h16.fr hf7 (fun h => Own.ne_blk hw6 h16 (by decide) h)
        have h27 := h26.fr hf7 (fun h => Own.ne_blk hw6 h26 (by decide) h)
        have hs7 := hs6.fr hf7 (fun b hb h => Own.ne_own hs6 hw6 (by decide) b hb h)
        refine vL_nil ⟨rfl, hK _ _ ?_⟩
        refine vA_done (by kernel_rfl) (by (first | exact trivial | assumption | infer_instance | (skip; done))) ?_
        (apply blockP_normal; apply seqP_normal; apply vC_region; ((apply vL_val); (case h => ((apply opv_add); exact rfl; exact rfl; (first | omega | (simp only [List.length_map]; omega))))); ((apply vL_val); (case h => ((apply opv_E); exact rfl))); apply vL_nil; apply loopP_normal)
        (with_reducible apply end1); (case hs => ((iterate 17 (((refine same_updO ?_ ?_); rotate_left; exact rfl))); ((refine same_upd ?_ ?_); rotate_left; exact rfl); (exact same_mask _ _ _))); (case h1 => (exact norm_eq rfl))
        · refine ⟨i + 1, _, rfl, by omega, hw7, ?_, fun j hj => ?_, fun j z hj hz => ?_, (hf5.trans hf56).trans' hf7 (fun b hb => .inr (hfw b hb)), h17, h27, hs7⟩
          · rw [List.map_set, ← hmap]
            have e1 : (ws.map WT.nf)[i]? = some y.nf := by rw [List.getElem?_map]; rw [show ws[i]? = some y from hyb]; rfl
            obtain ⟨e2, e3⟩ := List.getElem?_eq_some_iff.1 e1
            have e4 : WT.nf { y with rq := r' } = y.nf := by show ({ y with rq := r'.nf } : WT) = { y with rq := y.rq.nf }; rw [hnf]
            rw [e4]
            show (ws.map WT.nf).set i y.nf = _
            rw [← e3, List.set_getElem_self]
          · rw [show ((i : Nat) : Int).toNat = i from rfl, List.getElem?_set_ne (by omega)]
            exact hrest j (by omega)
          · rw [show ((i : Nat) : Int).toNat = i from rfl, List.getElem?_set] at hz
            by_cases e : i = j
            · rw [if_pos e] at hz
              split at hz
              · cases hz
                exact hr6.frOwn hw6 (by decide) (by decide) (by decide) hf7
              · cases hz
            · rw [if_neg e] at hz
              exact ((hdone j z (by omega) hz).frN hf56).frOwn hw6 (by decide) (by decide) (by decide) hf7
        · simp [RowKit.intOf]; omega
      · have hie : i = c.ws.length := by omega
        subst hie
        (apply vC_seq; apply vC_region; ((apply vL_val); (case h => ((apply opv_E); exact rfl))); apply vL_nil; apply seqP_normal; apply vC_seq; (refine vC_cond_dec rfl (fun h => by omega) (fun _ => ?_)); apply vC_exit; apply seqP_exit; apply loopP_exit; apply blockP_exit; apply seqP_normal; apply vC_seq; apply vC_region; ((apply vL_val); (case h => ((apply opv_loadbC); exact rfl; exact rfl; assumption; exact (rfl : _ = [_, _, _, _, _, _, _, _, _, _]); exact rfl))); ((apply vL_skip); (case h => ((apply ops_storen); exact norm_eq rfl; exact norm_eq rfl; exact rfl; (intro u hu; simp only [List.mem_cons, List.not_mem_nil, or_false] at hu; rcases hu with rfl | rfl | rfl | rfl | rfl | rfl | rfl | rfl | rfl | rfl <;> (first | rfl | assumption)); assumption; (first | decide | exact of_decide_eq_true rfl | (simp; done))))); apply vL_nil; apply seqP_normal; apply vC_ret)
        (apply retC1; (case ha => exact rfl); (case hD => exact rfl); (case hb => exact Blk.set h25); (case hcs => exact (rfl : _ = clE { c with wv := ⟨wv', honew⟩, sv := ⟨sv', hones⟩, ws := ws })); (case hl => exact rfl))
        refine ⟨{ c with wv := ⟨wv', honew⟩, sv := ⟨sv', hones⟩, ws := ws }, rfl, ?_, ?_, (fun b hb => by rw [eb1]; exact hfw b hb), (fun b hb => by rw [eb1]; exact hfs b hb), hf5.set _ _ (.inr hb2)⟩
        · show ({ c with wv := nilO, sv := nilO, ws := ws.map WT.nf } : CL) = { c with wv := nilO, sv := nilO, ws := c.ws.map WT.nf }
          rw [hmap]
        · refine ClOwn.frBlk (T := 25) (cs := clZ) (b := b2) ⟨hw5, fun z hz => ?_, hs5⟩ h25 ⟨by decide, by decide, by decide⟩ ⟨by decide, by decide⟩ ((Fr.refl (fun k => k = b2) w5).set _ _ (.inl rfl))
          obtain ⟨j, hj, e⟩ := List.getElem_of_mem hz
          have hj' : j < ws.length := hj
          exact hdone j z (by omega) (by rw [← e]; exact List.getElem?_eq_getElem hj)
  · (((apply vL_val); (case h => ((apply opv_loadb1); exact rfl; exact rfl; assumption; exact rfl))); apply vL_nil)
    refine ⟨rfl, hK _ _ ?_⟩
    refine vA_only 1 rfl (by kernel_rfl) trivial (fun K hK => ?_)
    (((apply vL_val); (case h => ((apply opv_loadb1); exact rfl; exact rfl; assumption; exact rfl))); apply vL_nil)
    refine ⟨rfl, hK _ _ ?_⟩
    refine vA_only 2 rfl (by kernel_rfl) trivial (fun K hK => ?_)
    refine vL_callF rfl (clone_wt c.wv.1 c.ws _ (hr.1.frN hf1d) (by have := hs.1; omega)) rfl ?_
    rintro wv' w2 ⟨hf2, hw2, hfw2, honew⟩
    have h12 := h1d.frN hf2
    have h22 := h2d.frN hf2
    have hf12 := hf1d.trans hf2
    have hfw : ∀ b, own wv' = some b → w.heap.size ≤ b := fun b hb => by have := hfw2 b hb; have := hf1d.size; omega
    (apply vL_nil)
    refine ⟨rfl, hK _ _ ?_⟩
    ((apply (tk 6)); (case hi => exact rfl); (case hf => kernel_rfl); (case hS => trivial); (case hy => (intro _ _; (((apply opv_fieldAddr); exact rfl)))))
    refine tkc 5 rfl (by kernel_rfl) trivial rfl (clone_sq c.sv.1 c.ss _ (hr.2.2.frN hf12) (by have := hs.2.1; omega)) rfl ?_
    rintro sv' w3 ⟨hf3, hs3, hfs3, hones⟩
    have hf13 := (hf12).trans hf3
    have hw3 := hw2.frN hf3
    have h13 := h12.frN hf3
    have h23 := h22.frN hf3
    refine vA_only 7 rfl (by kernel_rfl) trivial (fun K hK => ?_)
    (((apply vL_skip); (case h => ((apply ops_store1); exact norm_eq rfl; ((conv => lhs; whnf) <;> exact rfl); (first | rfl | assumption); assumption; (first | decide | exact of_decide_eq_true rfl | (simp; done))))); apply vL_nil)
    refine ⟨rfl, hK _ _ ?_⟩
    ((apply (tk 8)); (case hi => exact rfl); (case hf => kernel_rfl); (case hS => trivial); (case hy => (intro _ _; (((apply opv_fieldAddr); exact rfl)))))
    refine vA_only 9 rfl (by kernel_rfl) trivial (fun K hK => ?_)
    (((apply vL_skip); (case h => ((apply ops_store1); exact norm_eq rfl; ((conv => lhs; whnf) <;> exact rfl); (first | rfl | assumption); infer_instance; (first | decide | exact of_decide_eq_true rfl | (simp; done))))); apply vL_nil)
    refine ⟨rfl, hK _ _ ?_⟩
    refine vA_done (by kernel_rfl) trivial ?_
    ((apply seqP_normal; (iterate 2 (apply vC_seq)); apply vC_region))
    refine vL_gen (fun w' => Fr No w w' ∧ Blk w'.heap b1 (clE { c with wv := ⟨wv', honew⟩, sv := ⟨sv', hones⟩ }) 25 ∧ Blk w'.heap b2 clZ 25 ∧ Own w'.heap 42 26 wtE wv' c.ws ∧ Own w'.heap 65 3 sqE sv' c.ss) ⟨(hf13.set _ _ (.inr hb1)).set _ _ (.inr hb1), Blk.as (Blk.set (Blk.set h13)) rfl, (h23.set_ne (Ne.symm hne)).set_ne (Ne.symm hne), (hw3.set (Own.ne_blk hw3 h13 (by decide))).set (Own.ne_blk hw3 h13 (by decide)), (hs3.set (Own.ne_blk hs3 h13 (by decide))).set (Own.ne_blk hs3 h13 (by decide))⟩ ?_
    rintro w4 ⟨hf4, h14, h24, hw4, hs4⟩
    have hfs : ∀ b, own sv' = some b → w.heap.size ≤ b := fun b hb => by have := hfs3 b hb; have := (hf12).size; omega
    clear hf3 hs3 hfs3 hf13 hw3 h13 h23 hw2 h12 h22 h1 h2
    (((apply vL_val); (case h => ((apply opv_fieldAddr); exact rfl))); ((apply vL_val); (case h => ((apply opv_loadb1); exact rfl; exact rfl; assumption; exact rfl))); ((apply vL_val); (case h => ((apply opv_len); ((conv => lhs; whnf) <;> exact rfl); infer_instance))); ((apply vL_val); (case h => ((apply opv_E); exact rfl))); apply vL_nil; apply seqP_normal; apply vC_block)
    (apply vC_loop1 2147450888 15 (fun u w' => ∃ (i : Nat) (ws : List WT), u = .int .i64 i ∧ i ≤ c.ws.length ∧ Own w'.heap 42 26 wtE wv' ws ∧ ws.map WT.nf = c.ws.map WT.nf ∧ (∀ (j : Nat), i ≤ j → ws[j]? = c.ws[j]?) ∧ (∀ (j : Nat) y, j < i → ws[j]? = some y → RqOwn w'.heap y.rq) ∧ Fr No w w' ∧ Blk w'.heap b1 (clE { c with wv := ⟨wv', honew⟩, sv := ⟨sv', hones⟩ }) 25 ∧ Blk w'.heap b2 clZ 25 ∧ Own w'.heap 65 3 sqE sv' c.ss) (fun u _ => c.ws.length - (RowKit.intOf u).toNat)); (case h1 => (exact norm_eq rfl))
    case h0 => exact ⟨0, c.ws, rfl, Nat.zero_le _, hw4, rfl, fun _ _ => rfl, fun j y hj => absurd hj (Nat.not_lt_zero _), hf4, h14, h24, hs4⟩
    case round =>
    clear hf4 h14 h24 hw4 hs4
    rintro junk _ w5 ⟨i, ws, rfl, hi, hw5, hmap, hrest, hdone, hf5, h15, h25, hs5⟩
    have hlen : ws.length = c.ws.length := by have := congrArg List.length hmap; simpa using this
    by_cases hil : i < c.ws.length
    · obtain ⟨y, hy⟩ : ∃ y, c.ws[i]? = some y := ⟨c.ws[i], List.getElem?_eq_getElem hil⟩
      have hyb : ws[((i : Nat) : Int).toNat]? = some y := by rw [show ((i : Nat) : Int).toNat = i from rfl, hrest i (Nat.le_refl _)]; exact hy
      have hym := List.mem_of_getElem? hy
      have hil' : ((i : Nat) : Int) < ws.length := by omega
      (apply vC_seq; apply vC_region; ((apply vL_val); (case h => ((apply opv_E); exact rfl))); apply vL_nil; apply seqP_normal; apply vC_seq; (refine vC_cond_dec rfl (fun _ => ?_) (fun h => by omega)); apply vC_skip; apply seqP_normal; apply vC_seq; apply vC_block; apply vC_seq; apply vC_region; (iterate 2 (((apply vL_val); (case h => ((apply opv_E); exact rfl))))); apply vL_nil; apply seqP_normal)
      refine vC_draw' ((fun wf => Blk wf.heap b1 (clE { c with wv := ⟨wv', honew⟩, sv := ⟨sv', hones⟩ }) 25)) (by (first | exact trivial | assumption | infer_instance | (skip; done))) ?_
      ((apply (tk 0)); (case hi => exact rfl); (case hf => kernel_rfl); (case hS => (first | exact trivial | assumption | infer_instance | (skip; done))); (case hy => (intro wf hwf; (try dsimp only at hwf); (((apply opv_fieldAddr); exact rfl)))))
      ((apply (tk 1)); (case hi => exact rfl); (case hf => kernel_rfl); (case hS => (first | exact trivial | assumption | infer_instance | (skip; done))); (case hy => (intro wf hwf; (try dsimp only at hwf); (((apply opv_loadb1); exact rfl; exact rfl; assumption; exact rfl)))))
      ((apply (tk 2)); (case hi => exact rfl); (case hf => kernel_rfl); (case hS => (first | exact trivial | assumption | infer_instance | (skip; done))); (case hy => (intro wf hwf; (try dsimp only at hwf); (((apply opv_E); exact rfl)))))
      ((apply (tk 3)); (case hi => exact rfl); (case hf => kernel_rfl); (case hS => (first | exact trivial | assumption | infer_instance | (skip; done))); (case hy => (intro wf hwf; (try dsimp only at hwf); (((apply opv_fieldAddr); exact rfl)))))
      ((apply (tk 4)); (case hi => exact rfl); (case hf => kernel_rfl); (case hS => (first | exact trivial | assumption | infer_instance | (skip; done))); (case hy => (intro wf hwf; (try dsimp only at hwf); (((apply opv_loadb1); exact rfl; exact rfl; assumption; exact rfl)))))
      ((apply (tk 5)); (case hi => exact rfl); (case hf => kernel_rfl); (case hS => (first | exact trivial | assumption | infer_instance | (skip; done))); (case hy => (intro wf hwf; (try dsimp only at hwf); (((apply opv_E); exact rfl)))))
      ((apply (tk 6)); (case hi => exact rfl); (case hf => kernel_rfl); (case hS => (first | exact trivial | assumption | infer_instance | (skip; done))); (case hy => (intro wf hwf; exact opv_indexAddrR rfl rfl hw5.rd (by omega) (by omega))))
      ((apply (tk 7)); (case hi => exact rfl); (case hf => kernel_rfl); (case hS => (first | exact trivial | assumption | infer_instance | (skip; done))); (case hy => (intro wf hwf; (try dsimp only at hwf); (((apply opv_fieldAddr); exact rfl)))))
      refine vA_only 8 rfl (by kernel_rfl) (by (first | exact trivial | assumption | infer_instance | (skip; done))) (fun K hK => ?_)
      refine vL_val (opv_ld_elS (enc := wtE) (x0 := y) (cs := rqE y.rq) rfl rfl (hw5.frN (Fr.refl No w5).drew).rd hyb rfl rfl) (vL_nil ⟨rfl, hK _ _ ?_⟩)
      (refine tkc 9 rfl (by kernel_rfl) (by (first | exact trivial | assumption | infer_instance | (skip; done))) rfl (cloned31 y.rq _ ((hr.2.1 y hym).frN hf5.drew) (hs.2.2 y hym)) rfl ?_)
      rintro _ w6 ⟨r', rfl, hnf, hr6, hf6⟩
      have hf56 : Fr No w5 w6 := (Fr.refl No w5).drew.trans hf6
      have h16 := h15.frN hf56
      have h26 := h25.frN hf56
      have hw6 := hw5.frN hf56
      have hs6 := hs5.frN hf56
      ((apply (tk 10)); (case hi => exact rfl); (case hf => kernel_rfl); (case hS => (first | exact trivial | assumption | infer_instance | (skip; done))); (case hy => (intro wf hwf; exact opv_indexAddrR rfl rfl hw5.rd (by omega) (by omega))))
      ((apply (tk 11)); (case hi => exact rfl); (case hf => kernel_rfl); (case hS => (first | exact trivial | assumption | infer_instance | (skip; done))); (case hy => (intro wf hwf; (try dsimp only at hwf); (((apply opv_fieldAddr); exact rfl)))))
      refine vA_only 12 rfl (by kernel_rfl) (by (first | exact trivial | assumption | infer_instance | (skip; done))) (fun K hK => ?_)
      refine vL_storeElS (enc := wtE) (xs := ws) (x0 := y) (j := 0) (us := rqE r') ({ y with rq := r' } : WT) rfl rfl hyb (wtE_rq y r') (fun u hu => EncOk.one _ u hu) rfl (show 0 + 23 ≤ 26 from by decide) hw6 ?_
      intro w7 hw7 hf7
      have h17 := h16.fr hf7 (fun h => Own.ne_blk hw6 h16 (by decide) h)
      have h27 := h26.fr hf7 (fun h => Own.ne_blk hw6 h26 (by decide) h)
      have hs7 := hs6.fr hf7 (fun b hb h => Own.ne_own hs6 hw6 (by decide) b hb h)
      refine vL_nil ⟨rfl, hK _ _ ?_⟩
      refine vA_done (by kernel_rfl) (by (first | exact trivial | assumption | infer_instance | (skip; done))) ?_
      (apply blockP_normal; apply seqP_normal; apply vC_region; ((apply vL_val); (case h => ((apply opv_add); exact rfl; exact rfl; (first | omega | (simp only [List.length_map]; omega))))); ((apply vL_val); (case h => ((apply opv_E); exact rfl))); apply vL_nil; apply loopP_normal)
      (with_reducible apply end1); (case hs => ((iterate 17 (((refine same_updO ?_ ?_); rotate_left; exact rfl))); ((refine same_upd ?_ ?_); rotate_left; exact rfl); (exact same_mask _ _ _))); (case h1 => (exact norm_eq rfl))
      · refine ⟨i + 1, _, rfl, by omega, hw7, ?_, fun j hj => ?_, fun j z hj hz => ?_, (hf5.trans hf56).trans' hf7 (fun b hb => .inr (hfw b hb)), h17, h27, hs7⟩
        · rw [List.map_set, ← hmap]
          have e1 : (ws.map WT.nf)[i]? = some y.nf := by rw [List.getElem?_map]; rw [show ws[i]? = some y from hyb]; rfl
          obtain ⟨e2, e3⟩ := List.getElem?_eq_some_iff.1 e1
          have e4 : WT.nf { y with rq := r' } = y.nf := by show ({ y with rq := r'.nf } : WT) = { y with rq := y.rq.nf }; rw [hnf]
          rw [e4]
          show (ws.map WT.nf).set i y.nf = _
          rw [← e3, List.set_getElem_self]
        · rw [show ((i : Nat) : Int).toNat = i from rfl, List.getElem?_set_ne (by omega)]
          exact hrest j (by omega)
        · rw [show ((i : Nat) : Int).toNat = i from rfl, List.getElem?_set] at hz
          by_cases e : i = j
          · rw [if_pos e] at hz
            split at hz
            · cases hz
              exact hr6.frOwn hw6 (by decide) (by decide) (by decide) hf7
            · cases hz
          · rw [if_neg e] at hz
            exact ((hdone j z (by omega) hz).frN hf56).frOwn hw6 (by decide) (by decide) (by decide) hf7
      · simp [RowKit.intOf]; omega
    · have hie : i = c.ws.length := by omega
      subst hie
      (apply vC_seq; apply vC_region; ((apply vL_val); (case h => ((apply opv_E); exact rfl))); apply vL_nil; apply seqP_normal; apply vC_seq; (refine vC_cond_dec rfl (fun h => by omega) (fun _ => ?_)); apply vC_exit; apply seqP_exit; apply loopP_exit; apply blockP_exit; apply seqP_normal; apply vC_seq; apply vC_region; ((apply vL_val); (case h => ((apply opv_loadbC); exact rfl; exact rfl; assumption; exact (rfl : _ = [_, _, _, _, _, _, _, _, _, _]); exact rfl))); ((apply vL_skip); (case h => ((apply ops_storen); exact norm_eq rfl; exact norm_eq rfl; exact rfl; (intro u hu; simp only [List.mem_cons, List.not_mem_nil, or_false] at hu; rcases hu with rfl | rfl | rfl | rfl | rfl | rfl | rfl | rfl | rfl | rfl <;> (first | rfl | assumption)); assumption; (first | decide | exact of_decide_eq_true rfl | (simp; done))))); apply vL_nil; apply seqP_normal; apply vC_ret)
      (apply retC1; (case ha => exact rfl); (case hD => exact rfl); (case hb => exact Blk.set h25); (case hcs => exact (rfl : _ = clE { c with wv := ⟨wv', honew⟩, sv := ⟨sv', hones⟩, ws := ws })); (case hl => exact rfl))
      refine ⟨{ c with wv := ⟨wv', honew⟩, sv := ⟨sv', hones⟩, ws := ws }, rfl, ?_, ?_, (fun b hb => by rw [eb1]; exact hfw b hb), (fun b hb => by rw [eb1]; exact hfs b hb), hf5.set _ _ (.inr hb2)⟩
      · show ({ c with wv := nilO, sv := nilO, ws := ws.map WT.nf } : CL) = { c with wv := nilO, sv := nilO, ws := c.ws.map WT.nf }
        rw [hmap]
      · refine ClOwn.frBlk (T := 25) (cs := clZ) (b := b2) ⟨hw5, fun z hz => ?_, hs5⟩ h25 ⟨by decide, by decide, by decide⟩ ⟨by decide, by decide⟩ ((Fr.refl (fun k => k = b2) w5).set _ _ (.inl rfl))
        obtain ⟨j, hj, e⟩ := List.getElem_of_mem hz
        have hj' : j < ws.length := hj
        exact hdone j z (by omega) (by rw [← e]; exact List.getElem?_eq_getElem hj)
end Go.Proofs.Ytchfaeaagpemlaa
