/- Layer 25: the plain law: producers without their memory.
Layer 25: the chapter's example.
Layer 25: the plain law: a list stays right; others are judged as before.
Layer 25: the plain law of ProducerRecent.
Layer 25: the law ProducerRecent: its walk. -/
import Derived.Test.YtffgecomdlnngaaPn
set_option maxRecDepth 100000
namespace Go.Proofs.Ytffgecomdlnngaa
open Go Go.Eng
abbrev F25 := Int × Int × Int × List (Int × Int × Int)
def j1 (nx : Int) (rs : List (Int × Int × Int)) (fi : Int) (n : Nat) : Int × Bool × Int :=
  if fi = nx then (0, false, 0) else match rs.find? (fun r => decide (r.1 = fi ∧ r.2.1 = (n : Int))) with
  | some r => (r.2.2, true, 0)
  | none => if fi < nx then (0, false, 251) else (0, false, 252)
def gF (fl : List F25) (pid : Int) : Option F25 := fl.find? (fun p => decide (p.1 = pid))
def jF (fl : List F25) (pid ep fi : Int) (n : Nat) : Int × Bool × Int :=
  if pid = 0 then (0, false, 0) else match gF fl pid with
  | none => if fl.length = 64 then (0, false, 5) else j1 0 [] fi n
  | some p => if ep < p.2.1 then (0, false, 250) else if p.2.1 < ep then j1 0 [] fi n else j1 p.2.2.1 p.2.2.2 fi n
def tJ (t : Int × Bool × Int) : Value := .tuple #[.int .i64 t.1, .bool t.2.1, .int .i64 t.2.2]
theorem j1_tup (nx : Int) (rs : List (Int × Int × Int)) (fi : Int) (n : Nat) : judge1 nx rs fi n = tJ (j1 nx rs fi n) := by
  unfold judge1 j1
  by_cases h : fi = nx
  · rw [if_pos h, if_pos h]; rfl
  · rw [if_neg h, if_neg h]
    cases rs.find? (fun r => decide (r.1 = fi ∧ r.2.1 = (n : Int))) with
    | some r => rfl
    | none =>
      by_cases h2 : fi < nx
      · exact (if_pos h2).trans (by rw [show (if fi < nx then ((0 : Int), false, (251 : Int)) else (0, false, 252)) = (0, false, 251) from if_pos h2]; rfl)
      · exact (if_neg h2).trans (by rw [show (if fi < nx then ((0 : Int), false, (251 : Int)) else (0, false, 252)) = (0, false, 252) from if_neg h2]; rfl)
theorem gF_map (l : List PR) (pid : Int) : gF (l.map PR.f) pid = (getP l pid).map PR.f := by
  unfold gF getP
  rw [List.find?_map]
  rfl
theorem judgeV_F (l : List PR) (pid ep fi : Int) (n : Nat) : judgeV l pid ep fi n = tJ (jF (l.map PR.f) pid ep fi n) := by
  unfold judgeV jF
  by_cases h : pid = 0
  · rw [if_pos h, if_pos h]; rfl
  rw [if_neg h, if_neg h, gF_map, List.length_map]
  cases getP l pid with
  | none =>
    by_cases h2 : l.length = 64
    · exact (if_pos h2).trans (by show _ = tJ (if l.length = 64 then _ else _); rw [if_pos h2]; rfl)
    · refine (if_neg h2).trans (by show _ = tJ (if l.length = 64 then _ else _); rw [if_neg h2]; exact j1_tup _ _ _ _)
  | some p =>
    show (if ep < p.ep then _ else if p.ep < ep then _ else _) = tJ (if ep < p.ep then _ else if p.ep < ep then _ else _)
    by_cases h2 : ep < p.ep
    · rw [if_pos h2, if_pos h2]; rfl
    rw [if_neg h2, if_neg h2]
    by_cases h3 : p.ep < ep
    · rw [if_pos h3, if_pos h3]; exact j1_tup _ _ _ _
    · rw [if_neg h3, if_neg h3]; exact j1_tup _ _ _ _
def PrF (last : Int) (p : F25) : Prop := (last < p.1 ∧ p.1 ≤ 4611686018427387904 ∧ 0 ≤ p.2.1 ∧ p.2.1 ≤ 1073741824 ∧ 1 ≤ p.2.2.1 ∧ p.2.2.1 ≤ 4611686018427388160 ∧ p.2.2.2.length ≤ 5) ∧ RcOk p.2.2.1 p.2.2.2
def RF (last : Int) : List F25 → Prop
  | [] => True
  | p :: t => PrF last p ∧ RF p.1 t
def RightF (fl : List F25) : Prop := RF 0 fl ∧ fl.length ≤ 64
theorem rightFrom_F (l : List PR) : ∀ last, RightFrom last l ↔ RF last (l.map PR.f) := by
  induction l with
  | nil => intro last; exact Iff.rfl
  | cons p t ih => intro last; exact and_congr Iff.rfl (ih p.pid)
theorem right_F (l : List PR) : RightOk l ↔ RightF (l.map PR.f) := by
  unfold RightOk RightF
  rw [rightFrom_F, List.length_map]
/-- a producer behind a batch that was new -/
def nwF (pid ep fi : Int) (n : Nat) (off : Int) (ep0 : Int) (rs0 : List (Int × Int × Int)) : F25 := (pid, ep, fi + n, newRs ep ep0 rs0 (fi, (n : Int), off))
def insF (pid ep fi : Int) (n : Nat) (off : Int) : List F25 → List F25
  | [] => [nwF pid ep fi n off 0 []]
  | p :: t => if p.1 < pid then p :: insF pid ep fi n off t else if p.1 = pid then nwF pid ep fi n off p.2.1 p.2.2.2 :: t else nwF pid ep fi n off 0 [] :: p :: t
theorem insF_at {pid ep fi : Int} {n : Nat} {off : Int} : ∀ (l : List PR) (k : Nat), k ≤ l.length → (∀ (j : Nat) p, j < k → l[j]? = some p → p.pid < pid) → (∀ (j : Nat) p, k ≤ j → l[j]? = some p → pid ≤ p.pid) → ∀ (q : PR),
    (∀ p, l[k]? = some p → p.pid = pid → q.f = nwF pid ep fi n off p.ep p.rs → (l.set k q).map PR.f = insF pid ep fi n off (l.map PR.f)) ∧
    ((∀ p, l[k]? = some p → p.pid ≠ pid) → q.f = nwF pid ep fi n off 0 [] → (l.take k ++ [q] ++ l.drop k).map PR.f = insF pid ep fi n off (l.map PR.f))
  | [], k, hk, _, _, q => by
    have : k = 0 := by simpa using hk
    subst this
    exact ⟨fun p hp => by simp at hp, fun _ hq => by simp [insF, hq]⟩
  | x :: t, 0, _, _, h2, q => by
    have h3 := h2 0 x (Nat.le_refl _) rfl
    have e1 : ¬ x.f.1 < pid := by show ¬ x.pid < pid; omega
    refine ⟨fun p hp he hq => ?_, fun h hq => ?_⟩
    · cases hp
      simp only [List.set_cons_zero, List.map_cons, insF, if_neg e1]
      rw [if_pos (show x.f.1 = pid from he), hq]
      rfl
    · simp only [List.take_zero, List.drop_zero, List.nil_append, List.singleton_append, List.map_cons, insF, if_neg e1]
      rw [if_neg (show ¬ x.f.1 = pid from h x rfl), hq]
  | x :: t, k + 1, hk, h1, h2, q => by
    have h3 := h1 0 x (by omega) rfl
    have e1 : x.f.1 < pid := h3
    have ih := insF_at (ep := ep) (fi := fi) (n := n) (off := off) t k (by simpa using hk) (fun j p hj hp => h1 (j + 1) p (by omega) (by simpa using hp)) (fun j p hj hp => h2 (j + 1) p (by omega) (by simpa using hp)) q
    refine ⟨fun p hp he hq => ?_, fun h hq => ?_⟩
    · simp only [List.set_cons_succ, List.map_cons, insF, if_pos e1]
      rw [ih.1 p (by simpa using hp) he hq]
    · simp only [List.take_succ_cons, List.drop_succ_cons, List.cons_append, List.map_cons, insF, if_pos e1]
      rw [← ih.2 (fun p hp => h p (by simpa using hp)) hq]
theorem PutR.cases {l m : List PR} {pid ep fi off er : Int} {ns : List Nat} (h : PutR l pid ep fi ns off er m) :
    (er ≠ 0 ∧ m = []) ∨ ((mayB pid ep fi ns = true ∧ RightF (l.map PR.f)) ∧ okOff off ∧ er = 0 ∧ (jF (l.map PR.f) pid ep fi ns.length).2.2 = 0 ∧
      (((jF (l.map PR.f) pid ep fi ns.length).2.1 = true ∨ pid = 0) ∧ m.map PR.f = l.map PR.f ∨ (jF (l.map PR.f) pid ep fi ns.length).2.1 = false ∧ pid ≠ 0 ∧ m.map PR.f = insF pid ep fi ns.length off (l.map PR.f))) := by
  rcases h with ⟨_, rfl, rfl⟩ | ⟨⟨hm, hr⟩, a, g, e, hJ, h⟩
  · exact .inl ⟨by decide, rfl⟩
  have hF := (judgeV_F l pid ep fi ns.length).symm.trans hJ
  have hj : (jF (l.map PR.f) pid ep fi ns.length) = (a, g, e) := by
    generalize jF (l.map PR.f) pid ep fi ns.length = t at hF ⊢
    obtain ⟨t1, t2, t3⟩ := t
    simp only [tJ] at hF
    injection hF with hF
    simp at hF
    simp [hF]
  rw [hj]
  have hr' := (right_F l).1 hr
  rcases h with ⟨he, rfl, rfl⟩ | ⟨_, _, rfl, rfl⟩ | ⟨rfl, ho, hg, rfl, hmf⟩ | ⟨rfl, ho, hg, hp, rfl, l1, k, q, hl1, hk, hlo, hhi, hq⟩
  · exact .inl ⟨he, rfl⟩
  · exact .inl ⟨by decide, rfl⟩
  · exact .inr ⟨⟨hm, hr'⟩, ho, rfl, rfl, .inl ⟨hg, hmf⟩⟩
  · refine .inr ⟨⟨hm, hr'⟩, ho, rfl, rfl, .inr ⟨hg, hp, ?_⟩⟩
    have hi := insF_at (ep := ep) (fi := fi) (n := ns.length) (off := off) l1 k hk hlo hhi q
    rw [← hl1]
    rcases hq with ⟨p, hp1, hp2, hq, rfl⟩ | ⟨hn, hq, rfl⟩
    · exact hi.1 p hp1 hp2 hq
    · exact hi.2 hn hq
theorem PutR.new {l m : List PR} {pid ep fi off er : Int} {ns : List Nat} (h : PutR l pid ep fi ns off er m) (hm : mayB pid ep fi ns = true) (hr : RightF (l.map PR.f)) (ho : okOff off) (h0 : (jF (l.map PR.f) pid ep fi ns.length).2.2 = 0) (hg : (jF (l.map PR.f) pid ep fi ns.length).2.1 = false) (hp : pid ≠ 0) :
    er = 0 ∧ m.map PR.f = insF pid ep fi ns.length off (l.map PR.f) := by
  rcases h with ⟨hn, _, _⟩ | ⟨_, a, g, e, hJ, h⟩
  · exact absurd ⟨hm, (right_F l).2 hr⟩ hn
  have hF := (judgeV_F l pid ep fi ns.length).symm.trans hJ
  have hj : (jF (l.map PR.f) pid ep fi ns.length) = (a, g, e) := by
    generalize jF (l.map PR.f) pid ep fi ns.length = t at hF ⊢
    obtain ⟨t1, t2, t3⟩ := t
    simp only [tJ] at hF
    injection hF with hF
    simp at hF
    simp [hF]
  rw [hj] at h0 hg
  rcases h with ⟨he, rfl, rfl⟩ | ⟨_, hb, rfl, rfl⟩ | ⟨rfl, _, hg', rfl, hmf⟩ | ⟨rfl, _, _, _, rfl, l1, k, q, hl1, hk, hlo, hhi, hq⟩
  · exact absurd h0 he
  · exact absurd ho hb
  · rcases hg' with h | h
    · rw [h] at hg; cases hg
    · exact absurd h hp
  · refine ⟨rfl, ?_⟩
    have hi := insF_at (ep := ep) (fi := fi) (n := ns.length) (off := off) l1 k hk hlo hhi q
    rw [← hl1]
    rcases hq with ⟨p, hp1, hp2, hq, rfl⟩ | ⟨hn, hq, rfl⟩
    · exact hi.1 p hp1 hp2 hq
    · exact hi.2 hn hq
end Go.Proofs.Ytffgecomdlnngaa

set_option maxRecDepth 100000
namespace Go.Proofs.Ytffgecomdlnngaa
open Go Go.Eng
theorem PqI.rcIn {w0 w : World} {v : Value} {m : List PR} (S : PqI w0 w v m m.length) : RcIn w.heap m := fun p hp => by
  obtain ⟨i, hi, e⟩ := List.getElem_of_mem hp
  exact (S.rc i p hi (by rw [← e]; exact List.getElem?_eq_getElem hi)).1.rd
theorem judgeX {v : Value} {l : List PR} {L : List F25} {pid ep fi : Int} {rv : OV} {ys : List (OV × Nat)} {n : Nat} {res : Int × Bool × Int} {w : World} (hr : Rd w.heap 4 prE v l) (hin : RcIn w.heap l) (hrb : Rd w.heap 1 byE rv.1 ys) (hy : ByOk ys) (hL : l.map PR.f = L) (hn : ys.map (·.2) = List.replicate n 1) (hm : mayB pid ep fi (List.replicate n 1) = true) (hR : RightF L) (hres : jF L pid ep fi n = res) :
    Rets Try.prog 8 #[v, .agg #[.int .i64 pid, .int .i64 ep, .int .i64 fi, rv.1]] w fun u w' => u = tJ res ∧ Fr No w w' := by
  refine (judge25 v l pid ep fi rv ys w hr hin hrb hy).mono ?_
  rintro u w' ⟨⟨h1, _⟩, hf⟩
  have hl : ys.length = n := by have := congrArg List.length hn; simpa using this
  refine ⟨?_, hf⟩
  rw [h1 ⟨by rw [hn]; exact hm, (right_F l).2 (by rw [hL]; exact hR)⟩, judgeV_F, hL, hl, hres]
theorem putX {v : Value} {l : List PR} {L L' : List F25} {pid ep fi off : Int} {rv : OV} {ys : List (OV × Nat)} {n : Nat} {a : Int} {w : World} (hr : Rd w.heap 4 prE v l) (hin : RcIn w.heap l) (hrb : Rd w.heap 1 byE rv.1 ys) (hy : ByOk ys) (hL : l.map PR.f = L) (hn : ys.map (·.2) = List.replicate n 1) (hm : mayB pid ep fi (List.replicate n 1) = true) (hR : RightF L) (hres : jF L pid ep fi n = (a, false, 0)) (hp : pid ≠ 0) (ho : okOff off) (hL' : insF pid ep fi n off L = L') :
    Rets Try.prog 9 #[v, .agg #[.int .i64 pid, .int .i64 ep, .int .i64 fi, rv.1], .int .i64 off] w fun u w' => ∃ uv m, u = .tuple #[uv, .int .i64 0] ∧ PqI w w' uv m m.length ∧ uv.oneCell' = true ∧ m.map PR.f = L' := by
  refine (put25 v l pid ep fi off rv ys w hr hin hrb hy).mono ?_
  rintro u w' ⟨uv, er, m, rfl, S, hone, hP⟩
  have hl : (ys.map (·.2)).length = n := by have := congrArg List.length hn; simpa using this
  have := hP.new (by rw [hn]; exact hm) (by rw [hL]; exact hR) ho (by rw [hL, hl, hres]) (by rw [hL, hl, hres]) hp
  rw [hL, hl, hL'] at this
  obtain ⟨rfl, h⟩ := this
  exact ⟨uv, m, rfl, S, hone, h⟩
theorem rightX {v : Value} {l : List PR} {L : List F25} {w : World} (hr : Rd w.heap 4 prE v l) (hin : RcIn w.heap l) (hL : l.map PR.f = L) (hR : RightF L) : Rets Try.prog 10 #[v] w fun u w' => u = .bool true ∧ Fr No w w' := by
  refine (right25 v l w hr hin).mono ?_
  rintro u w' ⟨⟨b, rfl, hb⟩, hf⟩
  exact ⟨by rw [hb.2 ((right_F l).2 (by rw [hL]; exact hR))], hf⟩
theorem awake25 (w : World) : Rets Try.prog 11 #[] w fun u w' => u = .bool true ∧ Fr No w w' := by
  have hR1 : RightF [(7, 0, 2, [(0, 2, 10)])] := by simp [RightF, RF, PrF, RcOk, rOk]
  have hR2 : RightF [(7, 1, 1, [(0, 1, 12)])] := by simp [RightF, RF, PrF, RcOk, rOk]
  have hR0 : RightF [] := by simp [RightF, RF]
  have j0 : jF [] 7 0 0 2 = (0, false, 0) := by decide
  have i0 : insF 7 0 0 2 10 [] = [(7, 0, 2, [(0, 2, 10)])] := rfl
  have j1' : jF [(7, 0, 2, [(0, 2, 10)])] 7 0 0 2 = (10, true, 0) := by decide
  have j2' : jF [(7, 0, 2, [(0, 2, 10)])] 7 0 3 1 = (0, false, 252) := by decide
  have j3' : jF [(7, 0, 2, [(0, 2, 10)])] 7 0 1 1 = (0, false, 251) := by decide
  have j4' : jF [(7, 0, 2, [(0, 2, 10)])] 7 1 0 1 = (0, false, 0) := by decide
  have i1 : insF 7 1 0 1 12 [(7, 0, 2, [(0, 2, 10)])] = [(7, 1, 1, [(0, 1, 12)])] := rfl
  have j5' : jF [(7, 1, 1, [(0, 1, 12)])] 7 0 2 1 = (0, false, 250) := by decide
  refine rets_of Try.func11 rfl Try.ntmps11 rfl rfl (by kernel_rfl) ?_
  (apply vC_seq; apply vC_region; ((apply vL_val); (case h => ((apply opv_E); exact rfl))); apply vL_nil; apply seqP_normal; apply vC_seq; apply vC_region)
  refine vL_callF rfl (batch25 7 0 0 2 w (by decide)) rfl ?_
  rintro _ w1 ⟨r1, y1, rfl, o1, k1, n1, _, hf1⟩
  skip
  refine vL_callF rfl (putX (Rd.nil w1.heap 4 prE) (fun p hp => (by cases hp)) o1.rd k1 rfl n1 (by decide) hR0 j0 (by decide) ⟨by decide, by decide⟩ i0) rfl ?_
  rintro _ w2 ⟨v2, m2, rfl, S2, _, hm2⟩
  have hf2 := hf1.trans S2.fr
  obtain ⟨p2, rfl, hp2⟩ := List.map_eq_singleton_iff.1 hm2
  have hnx : p2.nx = 2 := congrArg (fun z => z.2.2.1) hp2
  have hg2 : ([p2] : List PR)[(0 : Int).toNat]? = some p2 := rfl
  have hl2 : (0 : Int) < (([p2] : List PR).length : Int) := Int.zero_lt_one
  have ho2 := S2.ho
  have hc2 := S2.rcIn
  clear S2
  (((apply vL_val); (case h => ((apply opv_E); exact rfl))); ((apply vL_val); (case h => ((apply opv_extract); (first | exact norm_eq rfl | ((conv => lhs; whnf) <;> exact rfl)); exact rfl))); ((apply vL_val); (case h => ((apply opv_E); exact rfl))); ((apply vL_val); (case h => ((apply opv_assign); ((conv => lhs; whnf) <;> exact rfl)))); ((apply vL_val); (case h => ((apply opv_E); exact rfl))); apply vL_nil; apply seqP_normal; (iterate 2 (apply vC_seq)); apply vC_region; (iterate 3 (((apply vL_val); (case h => ((apply opv_E); exact rfl))))); ((apply vL_wanted); exact rfl); ((apply vL_val); (case h => ((apply opv_move); ((conv => lhs; whnf) <;> exact rfl)))); ((apply vL_wanted); exact rfl); ((apply vL_val); (case h => ((apply opv_len); (first | exact norm_eq rfl | ((conv => lhs; whnf) <;> exact rfl)); (first | assumption | infer_instance)))); ((apply vL_wanted); exact rfl); (iterate 3 (((apply vL_val); (case h => ((apply opv_E); exact rfl))))); ((apply vL_wanted); exact rfl); ((apply vL_val); (case h => ((apply opv_move); ((conv => lhs; whnf) <;> exact rfl)))); ((apply vL_wanted); exact rfl); ((apply vL_val); (case h => ((apply opv_indexAddr); (first | exact norm_eq rfl | ((conv => lhs; whnf) <;> exact rfl)); exact rfl; (first | assumption | infer_instance); (first | omega | (simp only [List.length_map]; omega)); (first | omega | (simp only [List.length_map]; omega))))); ((apply vL_wanted); exact rfl); ((apply vL_val); (case h => ((apply opv_fieldAddr); exact rfl))); ((apply vL_wanted); exact rfl); ((apply vL_val); (case h => ((apply opv_ld_el); exact rfl; exact rfl; (first | assumption | infer_instance); assumption; exact rfl))); ((apply vL_wanted); exact rfl); (iterate 3 (((apply vL_val); (case h => ((apply opv_E); exact rfl))))); (refine vL_or rfl rfl (fun _ => ?_) (fun h => by omega)); ((apply vL_val); (case h => ((apply opv_move); ((conv => lhs; whnf) <;> exact rfl)))); ((apply vL_wanted); exact rfl))
  refine vL_callF rfl (rightX ho2.rd hc2 hm2 hR1) rfl ?_
  rintro _ w3 ⟨rfl, hf3⟩
  (((apply vL_wanted); exact rfl); ((apply vL_val); (case h => ((apply opv_not); exact rfl))); ((apply vL_val); (case h => ((apply opv_E); exact rfl))); apply vL_nil; apply seqP_normal; ((apply vC_cond_false); exact rfl); apply vC_skip; apply seqP_normal; apply vC_seq; apply vC_region; ((apply vL_val); (case h => ((apply opv_move); ((conv => lhs; whnf) <;> exact rfl)))))
  have g3 := hf3
  refine vL_callF rfl (batch25 7 0 0 2 w3 (by decide)) rfl ?_
  rintro _ w4 ⟨r4, y4, rfl, o4, k4, n4, _, hf4⟩
  have g4 := g3.trans hf4
  skip
  refine vL_callF rfl (judgeX (ho2.frN g4).rd (hc2.frN g4) o4.rd k4 hm2 n4 (by decide) hR1 j1') rfl ?_
  rintro _ w5 ⟨rfl, hf5⟩
  have g5 := g4.trans hf5
  clear o4 k4 n4 hf4 hf5 g4
  ((iterate 7 (((apply vL_val); (case h => ((apply opv_E); exact rfl))))); apply vL_nil; apply seqP_normal; apply vC_seq; apply vC_region; ((apply vL_val); (case h => ((apply opv_move); ((conv => lhs; whnf) <;> exact rfl)))))
  refine vL_callF rfl (batch25 7 0 3 1 w5 (by decide)) rfl ?_
  rintro _ w6 ⟨r6, y6, rfl, o6, k6, n6, _, hf6⟩
  have g6 := g5.trans hf6
  skip
  refine vL_callF rfl (judgeX (ho2.frN g6).rd (hc2.frN g6) o6.rd k6 hm2 n6 (by decide) hR1 j2') rfl ?_
  rintro _ w7 ⟨rfl, hf7⟩
  have g7 := g6.trans hf7
  clear o6 k6 n6 hf6 hf7 g6
  ((iterate 7 (((apply vL_val); (case h => ((apply opv_E); exact rfl))))); apply vL_nil; apply seqP_normal; apply vC_seq; apply vC_region; ((apply vL_val); (case h => ((apply opv_move); ((conv => lhs; whnf) <;> exact rfl)))))
  refine vL_callF rfl (batch25 7 0 1 1 w7 (by decide)) rfl ?_
  rintro _ w8 ⟨r8, y8, rfl, o8, k8, n8, _, hf8⟩
  have g8 := g7.trans hf8
  skip
  refine vL_callF rfl (judgeX (ho2.frN g8).rd (hc2.frN g8) o8.rd k8 hm2 n8 (by decide) hR1 j3') rfl ?_
  rintro _ w9 ⟨rfl, hf9⟩
  have g9 := g8.trans hf9
  clear o8 k8 n8 hf8 hf9 g8
  ((iterate 7 (((apply vL_val); (case h => ((apply opv_E); exact rfl))))); apply vL_nil; apply seqP_normal; apply vC_seq; apply vC_region; ((apply vL_val); (case h => ((apply opv_move); ((conv => lhs; whnf) <;> exact rfl)))))
  refine vL_callF rfl (batch25 7 1 0 1 w9 (by decide)) rfl ?_
  rintro _ w10 ⟨r10, y10, rfl, o10, k10, n10, _, hf10⟩
  have g10 := g9.trans hf10
  skip
  refine vL_callF rfl (judgeX (ho2.frN g10).rd (hc2.frN g10) o10.rd k10 hm2 n10 (by decide) hR1 j4') rfl ?_
  rintro _ w11 ⟨rfl, hf11⟩
  have g11 := g10.trans hf11
  clear o10 k10 n10 hf10 hf11 g10
  ((iterate 7 (((apply vL_val); (case h => ((apply opv_E); exact rfl))))); apply vL_nil; apply seqP_normal; apply vC_seq; apply vC_region; ((apply vL_val); (case h => ((apply opv_move); ((conv => lhs; whnf) <;> exact rfl)))))
  refine vL_callF rfl (batch25 7 1 0 1 w11 (by decide)) rfl ?_
  rintro _ w12 ⟨r12, y12, rfl, o12, k12, n12, _, hf12⟩
  have g12 := g11.trans hf12
  skip
  refine vL_callF rfl (putX (ho2.frN g12).rd (hc2.frN g12) o12.rd k12 hm2 n12 (by decide) hR1 j4' (by decide) ⟨by decide, by decide⟩ i1) rfl ?_
  rintro _ w13 ⟨v13, m13, rfl, S13, _, hm13⟩
  have g13 := g12.trans S13.fr
  (((apply vL_val); (case h => ((apply opv_E); exact rfl))); ((apply vL_val); (case h => ((apply opv_extract); (first | exact norm_eq rfl | ((conv => lhs; whnf) <;> exact rfl)); exact rfl))); ((apply vL_val); (case h => ((apply opv_E); exact rfl))); ((apply vL_val); (case h => ((apply opv_assign); ((conv => lhs; whnf) <;> exact rfl)))); ((apply vL_val); (case h => ((apply opv_E); exact rfl))); apply vL_nil; apply seqP_normal; apply vC_seq; apply vC_region; ((apply vL_val); (case h => ((apply opv_move); ((conv => lhs; whnf) <;> exact rfl)))))
  refine vL_callF rfl (batch25 7 0 2 1 w13 (by decide)) rfl ?_
  rintro _ w14 ⟨r14, y14, rfl, o14, k14, n14, _, hf14⟩
  have g14 := g13.trans hf14
  skip
  refine vL_callF rfl (judgeX (S13.ho.frN hf14).rd (S13.rcIn.frN hf14) o14.rd k14 hm13 n14 (by decide) hR2 j5') rfl ?_
  rintro _ w15 ⟨rfl, hf15⟩
  have g15 := g14.trans hf15
  ((iterate 7 (((apply vL_val); (case h => ((apply opv_E); exact rfl))))); apply vL_nil; apply seqP_normal; apply vC_seq; apply vC_region; (iterate 3 (((apply vL_val); (case h => ((apply opv_E); exact rfl))))); ((apply vL_wanted); exact rfl); (iterate 3 (((apply vL_val); (case h => ((apply opv_E); exact rfl))))); ((apply vL_wanted); exact rfl); ((apply vL_val); (case h => ((apply opv_E); exact rfl))); ((apply vL_wanted); exact rfl); (iterate 3 (((apply vL_val); (case h => ((apply opv_E); exact rfl))))); ((apply vL_wanted); exact rfl); ((apply vL_val); (case h => ((apply opv_E); exact rfl))); ((apply vL_wanted); exact rfl); (iterate 3 (((apply vL_val); (case h => ((apply opv_E); exact rfl))))); ((apply vL_wanted); exact rfl); ((apply vL_val); (case h => ((apply opv_E); exact rfl))); ((apply vL_wanted); exact rfl); (iterate 3 (((apply vL_val); (case h => ((apply opv_E); exact rfl))))); ((apply vL_wanted); exact rfl); ((apply vL_val); (case h => ((apply opv_E); exact rfl))); ((apply vL_wanted); exact rfl); ((apply vL_val); (case h => ((apply opv_not); exact rfl))); (iterate 2 (((apply vL_val); (case h => ((apply opv_E); exact rfl))))); ((apply vL_wanted); exact rfl); ((apply vL_val); (case h => ((apply opv_E); exact rfl))); ((apply vL_wanted); exact rfl); (iterate 3 (((apply vL_val); (case h => ((apply opv_E); exact rfl))))); ((apply vL_wanted); exact rfl); ((apply vL_val); (case h => ((apply opv_E); exact rfl))); ((apply vL_wanted); exact rfl); (iterate 3 (((apply vL_val); (case h => ((apply opv_E); exact rfl))))); ((apply vL_wanted); exact rfl); ((apply vL_val); (case h => ((apply opv_E); exact rfl))); ((apply vL_wanted); exact rfl); (iterate 3 (((apply vL_val); (case h => ((apply opv_E); exact rfl))))); apply vL_nil; apply seqP_normal; apply vC_ret)
  (apply ret1; (case h1 => (first | exact norm_eq rfl | ((conv => lhs; whnf) <;> exact rfl))))
  exact ⟨rfl, hf2.trans g15⟩
end Go.Proofs.Ytffgecomdlnngaa

set_option maxRecDepth 100000
namespace Go.Proofs.Ytffgecomdlnngaa
open Go Go.Eng
theorem RcOk.app {r : Int × Int × Int} (hr : rOk r) : ∀ (rs : List (Int × Int × Int)), (rs = [] ∨ RcOk r.1 rs) → RcOk (r.1 + r.2.1) (rs ++ [r])
  | [], _ => ⟨hr, rfl⟩
  | [x], h => by
    rcases h with h | h
    · cases h
    · exact ⟨h.1, h.2.symm, hr, rfl⟩
  | x :: y :: t, h => by
    rcases h with h | h
    · cases h
    · exact ⟨h.1, h.2.1, RcOk.app hr (y :: t) (.inr h.2.2)⟩
theorem newRs_ok {ep ep0 : Int} {rs0 : List (Int × Int × Int)} {r : Int × Int × Int} (hr : rOk r) (hl : rs0.length ≤ 5) (h : ep0 = ep → rs0 = [] ∨ RcOk r.1 rs0) : RcOk (r.1 + r.2.1) (newRs ep ep0 rs0 r) ∧ (newRs ep ep0 rs0 r).length ≤ 5 := by
  unfold newRs
  have key : RcOk (r.1 + r.2.1) ((if ep0 = ep then rs0 else []) ++ [r]) ∧ (if ep0 = ep then rs0 else []).length ≤ 5 := by
    by_cases he : ep0 = ep
    · rw [if_pos he]; exact ⟨RcOk.app hr _ (h he), hl⟩
    · rw [if_neg he]; exact ⟨RcOk.app hr _ (.inl rfl), Nat.zero_le 5⟩
  generalize (if ep0 = ep then rs0 else []) = X at key ⊢
  obtain ⟨k1, k2⟩ := key
  by_cases h5 : 5 < (X ++ [r]).length
  · rw [if_pos h5]
    simp only [List.length_append, List.length_singleton] at h5
    match X, k1, k2, h5 with
    | x :: y :: t, k1, k2, _ => exact ⟨k1.2.2, by simp at k2 ⊢; omega⟩
    | [x], _, _, h5 => simp at h5
    | [], _, _, h5 => simp at h5
  · rw [if_neg h5]
    exact ⟨k1, by omega⟩
theorem gF_cons (p : F25) (t : List F25) (pid : Int) : gF (p :: t) pid = if p.1 = pid then some p else gF t pid := by
  unfold gF
  rw [List.find?_cons]
  by_cases h : p.1 = pid
  · rw [decide_eq_true h, if_pos h]
  · rw [decide_eq_false h, if_neg h]
theorem RF.lt : ∀ {l : List F25} {last : Int}, RF last l → ∀ p ∈ l, last < p.1
  | [], _, _, p, hp => by cases hp
  | x :: t, last, h, p, hp => by
    rcases List.mem_cons.1 hp with rfl | hp
    · exact h.1.1.1
    · have := RF.lt h.2 p hp
      have := h.1.1.1
      omega
theorem RF.none {l : List F25} {last pid : Int} (h : RF last l) (hp : pid ≤ last) : gF l pid = none :=
  find_none (fun x hx => decide_eq_false (fun he => by have := RF.lt h x hx; omega))
/-- what is asked of the producer that a new batch finds -/
def Meets (o : Option F25) (ep fi : Int) : Prop := match o with
  | none => fi = 0
  | some p => p.2.1 ≤ ep ∧ (p.2.1 < ep → fi = 0) ∧ (p.2.1 = ep → fi = p.2.2.1)
theorem jF_new {L : List F25} {pid ep fi : Int} {n : Nat} (h0 : (jF L pid ep fi n).2.2 = 0) (hg : (jF L pid ep fi n).2.1 = false) (hp : pid ≠ 0) : Meets (gF L pid) ep fi ∧ (gF L pid = none → L.length ≠ 64) := by
  have key : ∀ nx rs, (j1 nx rs fi n).2.2 = 0 → (j1 nx rs fi n).2.1 = false → fi = nx := by
    intro nx rs h1 h2
    unfold j1 at h1 h2
    by_cases h : fi = nx
    · exact h
    rw [if_neg h] at h1 h2
    cases hf : rs.find? (fun r => decide (r.1 = fi ∧ r.2.1 = (n : Int))) with
    | some r => rw [hf] at h2; cases h2
    | none =>
      rw [hf] at h1
      simp only at h1
      split at h1 <;> cases h1
  unfold jF at h0 hg
  rw [if_neg hp] at h0 hg
  cases hG : gF L pid with
  | none =>
    rw [hG] at h0 hg
    simp only at h0 hg
    by_cases h64 : L.length = 64
    · rw [if_pos h64] at h0; cases h0
    · rw [if_neg h64] at h0 hg
      exact ⟨key _ _ h0 hg, fun _ => h64⟩
  | some p =>
    rw [hG] at h0 hg
    simp only at h0 hg
    refine ⟨?_, fun h => by cases h⟩
    by_cases h1 : ep < p.2.1
    · rw [if_pos h1] at h0; cases h0
    rw [if_neg h1] at h0 hg
    by_cases h2 : p.2.1 < ep
    · rw [if_pos h2] at h0 hg
      have := key _ _ h0 hg
      exact ⟨by omega, fun _ => this, fun h => by omega⟩
    · rw [if_neg h2] at h0 hg
      have := key _ _ h0 hg
      exact ⟨by omega, fun h => by omega, fun _ => this⟩
theorem ins_right {pid ep fi : Int} {n : Nat} {off : Int} (hpb : pid ≤ 4611686018427387904) (hep : 0 ≤ ep ∧ ep ≤ 1073741824) (hfi : 0 ≤ fi ∧ fi ≤ 4611686018427387904) (hn : 1 ≤ n ∧ n ≤ 256) (ho : okOff off) : ∀ (L : List F25) (last : Int), RF last L → last < pid → Meets (gF L pid) ep fi →
    RF last (insF pid ep fi n off L) ∧ (insF pid ep fi n off L).length = L.length + (if gF L pid = none then 1 else 0) := by
  have hr : rOk (fi, (n : Int), off) := ⟨by show (1 : Int) ≤ n; omega, by show (n : Int) ≤ 256; omega, hfi.1, hfi.2, ho.1, ho.2⟩
  have new0 : ∀ last, last < pid → fi = 0 → PrF last (nwF pid ep fi n off 0 []) := fun last hl h0 => by
    obtain ⟨h1, h2⟩ := newRs_ok (ep := ep) (ep0 := 0) (rs0 := []) hr (Nat.zero_le 5) (fun _ => .inl rfl)
    exact ⟨⟨hl, hpb, hep.1, hep.2, by show (1 : Int) ≤ fi + n; omega, by show fi + (n : Int) ≤ 4611686018427388160; omega, h2⟩, h1⟩
  intro L
  induction L with
  | nil =>
    intro last _ hl hm
    exact ⟨⟨new0 last hl hm, trivial⟩, rfl⟩
  | cons p t ih =>
    intro last hR hl hm
    rw [gF_cons] at hm
    rw [gF_cons]
    unfold insF
    by_cases h1 : p.1 < pid
    · rw [if_pos h1]
      rw [if_neg (show ¬ p.1 = pid by omega)] at hm ⊢
      obtain ⟨i1, i2⟩ := ih p.1 hR.2 h1 hm
      exact ⟨⟨hR.1, i1⟩, by rw [List.length_cons, List.length_cons, i2]; omega⟩
    rw [if_neg h1]
    by_cases h2 : p.1 = pid
    · rw [if_pos h2] at hm
      rw [if_pos h2, if_pos h2]
      obtain ⟨m1, m2, m3⟩ := hm
      obtain ⟨h3, h4⟩ := newRs_ok (ep := ep) (ep0 := p.2.1) (rs0 := p.2.2.2) hr hR.1.1.2.2.2.2.2.2 (fun he => .inr (by rw [show (fi, (n : Int), off).1 = p.2.2.1 from m3 he]; exact hR.1.2))
      refine ⟨⟨⟨⟨hl, hpb, hep.1, hep.2, by show (1 : Int) ≤ fi + n; omega, by show fi + (n : Int) ≤ 4611686018427388160; omega, h4⟩, h3⟩, ?_⟩, by simp⟩
      rw [show (nwF pid ep fi n off p.2.1 p.2.2.2).1 = p.1 from h2.symm]
      exact hR.2
    · rw [if_neg h2] at hm
      rw [if_neg h2, if_neg h2]
      have hno : gF t pid = none := RF.none hR.2 (by omega)
      rw [hno] at hm
      refine ⟨⟨new0 last hl hm, ⟨⟨by show pid < p.1; omega, hR.1.1.2⟩, hR.1.2⟩, hR.2⟩, by rw [hno]; rfl⟩
theorem gF_ins_other {pid ep fi : Int} {n : Nat} {off o : Int} (h : o ≠ pid) : ∀ (L : List F25), gF (insF pid ep fi n off L) o = gF L o := by
  intro L
  have hq : ∀ ep0 rs0, ¬ (nwF pid ep fi n off ep0 rs0).1 = o := fun _ _ he => h he.symm
  induction L with
  | nil => unfold insF; rw [gF_cons, if_neg (hq _ _)]
  | cons p t ih =>
    unfold insF
    by_cases h1 : p.1 < pid
    · rw [if_pos h1, gF_cons, gF_cons, ih]
    rw [if_neg h1]
    by_cases h2 : p.1 = pid
    · rw [if_pos h2, gF_cons, if_neg (hq _ _), gF_cons, if_neg (by omega)]
    · rw [if_neg h2, gF_cons, if_neg (hq _ _)]
def was (o : Option F25) : Int × List (Int × Int × Int) := match o with | none => (0, []) | some p => (p.2.1, p.2.2.2)
theorem gF_ins_same {pid ep fi : Int} {n : Nat} {off : Int} : ∀ (L : List F25) (last : Int), RF last L → gF (insF pid ep fi n off L) pid = some (nwF pid ep fi n off (was (gF L pid)).1 (was (gF L pid)).2) := by
  have hq : ∀ ep0 rs0, (nwF pid ep fi n off ep0 rs0).1 = pid := fun _ _ => rfl
  intro L
  induction L with
  | nil => intro last _; unfold insF; rw [gF_cons, if_pos (hq _ _)]; rfl
  | cons p t ih =>
    intro last hR
    unfold insF
    by_cases h1 : p.1 < pid
    · rw [if_pos h1, gF_cons, if_neg (by omega), gF_cons, if_neg (by omega), ih p.1 hR.2]
    rw [if_neg h1]
    by_cases h2 : p.1 = pid
    · rw [if_pos h2, gF_cons, if_pos (hq _ _), gF_cons, if_pos h2]; rfl
    · rw [if_neg h2, gF_cons, if_pos (hq _ _), gF_cons, if_neg h2, RF.none hR.2 (show pid ≤ p.1 by omega)]; rfl
theorem may_iff {pid ep fi : Int} {ns : List Nat} (h : mayB pid ep fi ns = true) : 0 ≤ pid ∧ pid ≤ 4611686018427387904 ∧ (0 ≤ ep ∧ ep ≤ 1073741824) ∧ (0 ≤ fi ∧ fi ≤ 4611686018427387904) ∧ (1 ≤ ns.length ∧ ns.length ≤ 256) := by
  have := of_decide_eq_true h
  exact ⟨this.1.1, this.1.2.1, ⟨this.1.2.2.1, this.1.2.2.2.1⟩, this.1.2.2.2.2, this.2.1.1, this.2.1.2.1⟩
theorem ins_rightF {L : List F25} {pid ep fi : Int} {ns : List Nat} {off : Int} (hm : mayB pid ep fi ns = true) (ho : okOff off) (hR : RightF L) (h0 : (jF L pid ep fi ns.length).2.2 = 0) (hg : (jF L pid ep fi ns.length).2.1 = false) (hp : pid ≠ 0) : RightF (insF pid ep fi ns.length off L) ∧ L.length ≤ (insF pid ep fi ns.length off L).length := by
  obtain ⟨m1, m2, m3, m4, m5⟩ := may_iff hm
  obtain ⟨n1, n2⟩ := jF_new h0 hg hp
  obtain ⟨r1, r2⟩ := ins_right m2 m3 m4 m5 ho L 0 hR.1 (by omega) n1
  refine ⟨⟨r1, ?_⟩, by rw [r2]; omega⟩
  rw [r2]
  have := hR.2
  by_cases hG : gF L pid = none
  · rw [if_pos hG]; have := n2 hG; omega
  · rw [if_neg hG]; omega
end Go.Proofs.Ytffgecomdlnngaa

set_option maxRecDepth 100000
namespace Go.Proofs.Ytffgecomdlnngaa
open Go Go.Eng
/-- a batch that came: its first sequence, how many records, its offset; its records in the heap -/
structure BT where
  fi : Int
  n : Nat
  off : Int
  rv : OV
  ys : List (OV × Nat)
def BT.r (b : BT) : Int × Int × Int := (b.fi, (b.n : Int), b.off)
def btX (b : BT) : List Value := [.int .i64 9, .int .i64 3, .int .i64 b.fi, b.rv.1]
instance encBt : EncOk btX 4 := ⟨by intro x u h; simp [btX] at h; rcases h with rfl | rfl | rfl | rfl; rfl; rfl; rfl; exact x.rv.2, fun _ => rfl⟩
def LF (all : List BT) (fi : Int) : List F25 := if all.length = 0 then [] else [(9, 3, fi, (all.map BT.r).drop (all.length - 5))]
structure PlR (all : List BT) (fi off0 : Int) : Prop where
  lo : 0 ≤ fi
  hi : fi ≤ 6 * all.length
  n1 : ∀ (i : Nat) b, all[i]? = some b → 1 ≤ b.n ∧ b.n ≤ 6
  bd : ∀ (i : Nat) b, all[i]? = some b → b.fi + b.n ≤ fi
  up : ∀ (i j : Nat) a b, i < j → all[i]? = some a → all[j]? = some b → a.fi + a.n ≤ b.fi
  at0 : ∀ (i : Nat) b, all[i]? = some b → 0 ≤ b.fi ∧ b.off = off0 + b.fi
  z : all.length = 0 → fi = 0
theorem snoc_get {α : Type} {l : List α} {x y : α} {i : Nat} (h : (l ++ [x])[i]? = some y) : l[i]? = some y ∨ (i = l.length ∧ y = x) := by
  by_cases hi : i < l.length
  · rw [List.getElem?_append_left hi] at h; exact .inl h
  · have h2 := (List.getElem?_eq_some_iff.1 h).1
    rw [List.length_append, List.length_singleton] at h2
    have : i = l.length := by omega
    subst this
    rw [List.getElem?_append_right (Nat.le_refl _), Nat.sub_self] at h
    exact .inr ⟨rfl, (Option.some.inj h).symm⟩
theorem PlR.nil (off0 : Int) : PlR [] 0 off0 := ⟨by decide, by decide, fun i b h => by simp at h, fun i b h => by simp at h, fun i j a b _ h => by simp at h, fun i b h => by simp at h, fun _ => rfl⟩
theorem PlR.snoc {all : List BT} {fi off0 : Int} (P : PlR all fi off0) {n : Nat} (hn : 1 ≤ n ∧ n ≤ 6) (rv : OV) (ys : List (OV × Nat)) : PlR (all ++ [⟨fi, n, off0 + fi, rv, ys⟩]) (fi + n) off0 := by
  have h1 := P.lo
  have h2 := P.hi
  refine ⟨by omega, by rw [List.length_append, List.length_singleton]; omega, fun i b h => ?_, fun i b h => ?_, fun i j a b hij ha hb => ?_, fun i b h => ?_, fun h => by simp at h⟩
  · rcases snoc_get h with h | ⟨_, rfl⟩
    · exact P.n1 i b h
    · exact hn
  · rcases snoc_get h with h | ⟨_, rfl⟩
    · have := P.bd i b h; omega
    · exact Int.le_refl _
  · have hja : j < (all ++ [(⟨fi, n, off0 + fi, rv, ys⟩ : BT)]).length := (List.getElem?_eq_some_iff.1 hb).1
    rw [List.length_append, List.length_singleton] at hja
    rcases snoc_get ha with ha | ⟨h, _⟩
    · rcases snoc_get hb with hb | ⟨_, rfl⟩
      · exact P.up i j a b hij ha hb
      · exact P.bd i a ha
    · omega
  · rcases snoc_get h with h | ⟨_, rfl⟩
    · exact P.at0 i b h
    · exact ⟨h1, rfl⟩
theorem PlR.new {all : List BT} {fi off0 : Int} (P : PlR all fi off0) (n : Nat) : jF (LF all fi) 9 3 fi n = (0, false, 0) := by
  unfold LF
  by_cases h : all.length = 0
  · rw [if_pos h, P.z h]
    simp [jF, gF, j1]
  · rw [if_neg h]
    simp [jF, gF, j1]
theorem LF_snoc {all : List BT} {fi off0 : Int} (P : PlR all fi off0) (n : Nat) (rv : OV) (ys : List (OV × Nat)) : insF 9 3 fi n (off0 + fi) (LF all fi) = LF (all ++ [⟨fi, n, off0 + fi, rv, ys⟩]) (fi + n) := by
  unfold LF
  have hl : (all ++ [(⟨fi, n, off0 + fi, rv, ys⟩ : BT)]).length = all.length + 1 := by simp
  rw [hl, if_neg (show ¬ all.length + 1 = 0 by omega), List.map_append]
  show _ = [((9 : Int), (3 : Int), fi + (n : Int), (all.map BT.r ++ [(fi, (n : Int), off0 + fi)]).drop (all.length + 1 - 5))]
  by_cases h : all.length = 0
  · rw [if_pos h]
    have : all = [] := List.length_eq_zero_iff.1 h
    subst this
    simp [insF, nwF, newRs]
  · rw [if_neg h]
    have hrl : (all.map BT.r).length = all.length := by simp
    have hd : ((all.map BT.r).drop (all.length - 5) ++ [(fi, (n : Int), off0 + fi)]) = (all.map BT.r ++ [(fi, (n : Int), off0 + fi)]).drop (all.length - 5) := by
      rw [List.drop_append_of_le_length (by rw [hrl]; omega)]
    have hn : newRs 3 3 ((all.map BT.r).drop (all.length - 5)) (fi, (n : Int), off0 + fi) = (all.map BT.r ++ [(fi, (n : Int), off0 + fi)]).drop (all.length + 1 - 5) := by
      unfold newRs
      rw [if_pos rfl, hd]
      have hln : ((all.map BT.r ++ [(fi, (n : Int), off0 + fi)]).drop (all.length - 5)).length = all.length + 1 - (all.length - 5) := by simp
      by_cases h5 : 5 < ((all.map BT.r ++ [(fi, (n : Int), off0 + fi)]).drop (all.length - 5)).length
      · rw [if_pos h5, List.drop_drop]
        congr 1
        omega
      · rw [if_neg h5]
        congr 1
        omega
    simp only [insF, nwF, hn]
    rw [if_neg (by decide), if_pos trivial]
theorem PlR.judge {all : List BT} {fi off0 : Int} (P : PlR all fi off0) {k : Nat} {b : BT} (hb : all[k]? = some b) : jF (LF all fi) 9 3 b.fi b.n = if all.length ≤ k + 5 then (b.off, true, 0) else (0, false, 251) := by
  have hk := (List.getElem?_eq_some_iff.1 hb).1
  have h1 := P.bd k b hb
  have h2 := (P.n1 k b hb).1
  have hj : jF (LF all fi) 9 3 b.fi b.n = j1 fi ((all.map BT.r).drop (all.length - 5)) b.fi b.n := by
    unfold LF
    rw [if_neg (by omega)]
    simp [jF, gF]
  have hrs : ∀ (j : Nat) y, ((all.map BT.r).drop (all.length - 5))[j]? = some y → ∃ a, all[all.length - 5 + j]? = some a ∧ y = a.r := fun j y hy => by
    rw [List.getElem?_drop, List.getElem?_map] at hy
    cases ha : all[all.length - 5 + j]? with
    | none => rw [ha] at hy; cases hy
    | some a => rw [ha] at hy; exact ⟨a, rfl, (Option.some.inj hy).symm⟩
  rw [hj]
  unfold j1
  rw [if_neg (by omega)]
  by_cases h5 : all.length ≤ k + 5
  · rw [if_pos h5]
    have hx : ((all.map BT.r).drop (all.length - 5))[k - (all.length - 5)]? = some b.r := by
      rw [List.getElem?_drop, List.getElem?_map, show all.length - 5 + (k - (all.length - 5)) = k by omega, hb]
      rfl
    rw [find_some hx (decide_eq_true ⟨rfl, rfl⟩) (fun j hj y hy => decide_eq_false (fun he => by
      obtain ⟨a, ha, rfl⟩ := hrs j y hy
      have h3 := P.up _ k a b (by omega) ha hb
      have h4 := (P.n1 _ a ha).1
      have h6 : a.fi = b.fi := he.1
      omega))]
    rfl
  · rw [if_neg h5]
    rw [find_none (fun y hy => decide_eq_false (fun he => by
      obtain ⟨j, hj, e⟩ := List.getElem_of_mem hy
      obtain ⟨a, ha, rfl⟩ := hrs j y (by rw [← e]; exact List.getElem?_eq_getElem hj)
      have h3 := P.up k _ b a (by omega) hb ha
      have h6 : a.fi = b.fi := he.1
      omega))]
    show (if b.fi < fi then _ else _) = _
    rw [if_pos (by omega)]
end Go.Proofs.Ytffgecomdlnngaa

set_option maxRecDepth 100000
namespace Go.Proofs.Ytffgecomdlnngaa
open Go Go.Eng
theorem pick_kit (x n : Int) (w : World) (hn : 1 ≤ n) (hn2 : n ≤ 4611686018427387904) : Rets Try.prog 6 #[.int .i64 x, .int .i64 n] w fun u w' => w = w' ∧ ∃ r : Int, u = .int .i64 r ∧ 0 ≤ r ∧ r < n := by
  have h1 : x.tmod n < n := Int.tmod_lt_of_pos x (by omega)
  have h2 : -n < x.tmod n := by
    have h3 := Int.tmod_lt_of_pos (-x) (b := n) (by omega)
    rw [Int.neg_tmod] at h3
    omega
  refine rets_of Try.func6 rfl Try.ntmps6 rfl rfl (by kernel_rfl) ?_
  (apply vC_seq; apply vC_region; ((apply vL_val); (case h => ((apply opv_E); exact rfl))); apply vL_nil; apply seqP_normal; (iterate 2 (apply vC_seq)); apply vC_region; (iterate 2 (((apply vL_val); (case h => ((apply opv_E); exact rfl))))); apply vL_nil; apply seqP_normal; (refine vC_cond_dec rfl (fun h => by omega) (fun _ => ?_)); apply vC_skip; apply seqP_normal; apply vC_seq; apply vC_region; (iterate 2 (((apply vL_val); (case h => ((apply opv_E); exact rfl))))))
  apply vL_val
  (case h => ((with_reducible apply opv_rem_t); exact rfl; exact rfl; omega))
  (((apply vL_val); (case h => ((apply opv_E); exact rfl))); apply vL_nil; apply seqP_normal; (iterate 2 (apply vC_seq)); apply vC_region; (iterate 2 (((apply vL_val); (case h => ((apply opv_E); exact rfl))))); apply vL_nil; apply seqP_normal)
  refine vC_cond_dec rfl (fun hc => ?_) (fun hc => ?_)
  · (apply vC_region; (iterate 2 (((apply vL_val); (case h => ((apply opv_E); exact rfl))))); ((apply vL_val); (case h => ((apply opv_add); exact rfl; exact rfl; (first | omega | (simp only [List.length_map]; omega))))); ((apply vL_val); (case h => ((apply opv_E); exact rfl))); apply vL_nil; apply seqP_normal; apply vC_seq; apply vC_region; (iterate 2 (((apply vL_val); (case h => ((apply opv_E); exact rfl))))); apply vL_nil; apply seqP_normal; apply vC_ret)
    (apply ret1; (case h1 => (first | exact norm_eq rfl | ((conv => lhs; whnf) <;> exact rfl))))
    exact ⟨rfl, _, rfl, by omega, by omega⟩
  · (apply vC_skip; apply seqP_normal; apply vC_seq; apply vC_region; (iterate 2 (((apply vL_val); (case h => ((apply opv_E); exact rfl))))); apply vL_nil; apply seqP_normal; apply vC_ret)
    (apply ret1; (case h1 => (first | exact norm_eq rfl | ((conv => lhs; whnf) <;> exact rfl))))
    exact ⟨rfl, _, rfl, by omega, by omega⟩
theorem PqI.base {w0 w1 w : World} {v : Value} {l : List PR} {n : Nat} (S : PqI w1 w v l n) (hs : w0.heap.size ≤ w1.heap.size) (hf : Fr No w0 w) : PqI w0 w v l n :=
  ⟨S.ho, fun b hb => by have := S.fo b hb; omega, fun i p hi hp => ⟨(S.rc i p hi hp).1, fun b hb => by have := (S.rc i p hi hp).2 b hb; omega⟩, S.sep, hf⟩
theorem PqI.frOwn {w0 w w' : World} {v : Value} {l : List PR} {n T sz : Nat} {α : Type} {enc : α → List Value} {u : Value} {xs : List α} (S : PqI w0 w v l n) (o : Own w.heap T sz enc u xs) (hT : T ≠ 59 ∧ T ≠ 61) (hfo : ∀ b, own u = some b → w0.heap.size ≤ b) (h : Fr (fun b => own u = some b) w w') : PqI w0 w' v l n :=
  ⟨S.ho.fr h (fun b hb h => Own.ne_own S.ho o (Ne.symm hT.1) b hb h), S.fo, fun i p hi hp => ⟨(S.rc i p hi hp).1.fr h (fun b hb h => Own.ne_own (S.rc i p hi hp).1 o (Ne.symm hT.2) b hb h), (S.rc i p hi hp).2⟩, S.sep, S.fr.trans' h (fun b hb => .inr (hfo b hb))⟩
def BIn (h : Array Obj) (all : List BT) : Prop := ∀ x ∈ all, Own h 54 1 byE x.rv.1 x.ys ∧ ByOk x.ys ∧ x.ys.map (·.2) = List.replicate x.n 1
theorem BIn.frN {w w' : World} {all : List BT} (h : BIn w.heap all) (hf : Fr No w w') : BIn w'.heap all := fun x hx => ⟨(h x hx).1.frN hf, (h x hx).2⟩
theorem BIn.frOwn {w w' : World} {all : List BT} {T sz : Nat} {α : Type} {enc : α → List Value} {u : Value} {xs : List α} (h : BIn w.heap all) (o : Own w.heap T sz enc u xs) (hT : T ≠ 54) (hf : Fr (fun b => own u = some b) w w') : BIn w'.heap all :=
  fun x hx => ⟨(h x hx).1.fr hf (fun b hb h' => Own.ne_own (h x hx).1 o (Ne.symm hT) b hb h'), (h x hx).2⟩
structure RS (w0 w : World) (sv av tv : Value) (all : List BT) (m : List PR) (fi off0 : Int) : Prop where
  s : PqI w0 w sv m m.length
  a : Own w.heap 33 4 btX av all
  af : ∀ b, own av = some b → w0.heap.size ≤ b
  t : Own w.heap 2 1 iE tv (all.map BT.off)
  tf : ∀ b, own tv = some b → w0.heap.size ≤ b
  b : BIn w.heap all
  hm : m.map PR.f = LF all fi
  pl : PlR all fi off0
  rt : RightF (LF all fi)
theorem RS.frN {w0 w w' : World} {sv av tv : Value} {all : List BT} {m : List PR} {fi off0 : Int} (S : RS w0 w sv av tv all m fi off0) (h : Fr No w w') : RS w0 w' sv av tv all m fi off0 :=
  ⟨S.s.frN h, S.a.frN h, S.af, S.t.frN h, S.tf, S.b.frN h, S.hm, S.pl, S.rt⟩
theorem may_rep (fi : Int) (n : Nat) (h : 0 ≤ fi ∧ fi ≤ 1000) (hn : 1 ≤ n ∧ n ≤ 6) : mayB 9 3 fi (List.replicate n 1) = true := by
  refine decide_eq_true ⟨⟨by decide, by decide, by decide, by decide, h.1, by omega⟩, ⟨?_, ?_, fun x hx => ?_⟩, .inl (by decide)⟩
  · rw [List.length_replicate]; exact hn.1
  · rw [List.length_replicate]; omega
  · rw [List.eq_of_mem_replicate hx]; decide
theorem recent25 (v : Value) (xs : List Int) (off : Int) (w : World) (hr : Rd w.heap 1 iE v xs) (hx : ∀ x ∈ xs, -9223372036854775808 ≤ x ∧ x ≤ 9223372036854775807) : Rets Try.prog 4 #[v, .int .i64 off] w fun u w' => u = .bool true ∧ Fr No w w' := by
  have hsm := hr.small
  refine rets_of Try.func4 rfl Try.ntmps4 rfl rfl (by kernel_rfl) ?_
  by_cases c1 : off < 0
  · (apply vC_seq; apply vC_region; ((apply vL_val); (case h => ((apply opv_E); exact rfl))); apply vL_nil; apply seqP_normal; (iterate 2 (apply vC_seq)); apply vC_region; (iterate 3 (((apply vL_val); (case h => ((apply opv_E); exact rfl))))); (refine vL_or rfl rfl (fun h => by omega) (fun _ => ?_)); ((apply vL_unwanted'); exact rfl; exact rfl); ((apply vL_val); (case h => ((apply opv_E); exact rfl))); apply vL_nil; apply seqP_normal; ((apply vC_cond_true); exact rfl); apply vC_seq; apply vC_region)
    refine vL_callF rfl (awake25 w) rfl ?_
    rintro _ w3 ⟨rfl, hf3⟩
    (((apply vL_val); (case h => ((apply opv_E); exact rfl))); apply vL_nil; apply seqP_normal; apply vC_ret; apply seqP_ret)
    (apply ret1; (case h1 => (first | exact norm_eq rfl | ((conv => lhs; whnf) <;> exact rfl))))
    exact ⟨rfl, hf3⟩
  by_cases c2 : 1099511627776 < off
  · (apply vC_seq; apply vC_region; ((apply vL_val); (case h => ((apply opv_E); exact rfl))); apply vL_nil; apply seqP_normal; (iterate 2 (apply vC_seq)); apply vC_region; (iterate 3 (((apply vL_val); (case h => ((apply opv_E); exact rfl))))); (refine vL_or rfl rfl (fun _ => ?_) (fun h => by omega)); ((apply vL_val); (case h => ((apply opv_E); exact rfl))); ((apply vL_wanted); exact rfl); (iterate 2 (((apply vL_val); (case h => ((apply opv_E); exact rfl))))); apply vL_nil; apply seqP_normal; (refine vC_cond_dec rfl (fun _ => ?_) (fun h => by omega)); apply vC_seq; apply vC_region)
    refine vL_callF rfl (awake25 w) rfl ?_
    rintro _ w3 ⟨rfl, hf3⟩
    (((apply vL_val); (case h => ((apply opv_E); exact rfl))); apply vL_nil; apply seqP_normal; apply vC_ret; apply seqP_ret)
    (apply ret1; (case h1 => (first | exact norm_eq rfl | ((conv => lhs; whnf) <;> exact rfl))))
    exact ⟨rfl, hf3⟩
  (apply vC_seq; apply vC_region; ((apply vL_val); (case h => ((apply opv_E); exact rfl))); apply vL_nil; apply seqP_normal; (iterate 2 (apply vC_seq)); apply vC_region; (iterate 3 (((apply vL_val); (case h => ((apply opv_E); exact rfl))))); (refine vL_or rfl rfl (fun _ => ?_) (fun h => by omega)); ((apply vL_val); (case h => ((apply opv_E); exact rfl))); ((apply vL_wanted); exact rfl); (iterate 2 (((apply vL_val); (case h => ((apply opv_E); exact rfl))))); apply vL_nil; apply seqP_normal; (refine vC_cond_dec rfl (fun h => by omega) (fun _ => ?_)); apply vC_skip; apply seqP_normal; apply vC_seq; apply vC_region; ((apply vL_val); (case h => ((apply opv_E); exact rfl))); apply vL_nil; apply seqP_normal; apply vC_seq; apply vC_region; ((apply vL_val); (case h => ((apply opv_E); exact rfl))); apply vL_nil; apply seqP_normal; apply vC_seq; apply vC_region; ((apply vL_val); (case h => ((apply opv_E); exact rfl))); apply vL_nil; apply seqP_normal; apply vC_seq; apply vC_region; ((apply vL_val); (case h => ((apply opv_E); exact rfl))); apply vL_nil; apply seqP_normal; (iterate 2 (apply vC_seq)); apply vC_region; ((apply vL_val); (case h => ((apply opv_E); exact rfl))); apply vL_nil; apply seqP_normal; apply vC_block)
  have hR0 : RightF (LF [] 0) := by simp [LF, RightF, RF]
  (apply vC_loop6 1298074214633706907132624065658866 1 5 6 7 8 9 (fun u1 u5 u6 u7 u8 u9 w' => ∃ (all : List BT) (m : List PR) (fi : Int), u1 = .int .i64 (off + fi) ∧ u8 = .int .i64 fi ∧ u9 = .int .i64 all.length ∧ all.length ≤ 30 ∧ RS w w' u5 u6 u7 all m fi off) (fun _ _ _ _ _ u9 _ => 30 - (RowKit.intOf u9).toNat)); (case h1 => (first | exact norm_eq rfl | ((conv => lhs; whnf) <;> exact rfl))); (case h2 => (first | exact norm_eq rfl | ((conv => lhs; whnf) <;> exact rfl))); (case h3 => (first | exact norm_eq rfl | ((conv => lhs; whnf) <;> exact rfl))); (case h4 => (first | exact norm_eq rfl | ((conv => lhs; whnf) <;> exact rfl))); (case h5 => (first | exact norm_eq rfl | ((conv => lhs; whnf) <;> exact rfl))); (case h6 => (first | exact norm_eq rfl | ((conv => lhs; whnf) <;> exact rfl)))
  case h0 => exact ⟨[], [], 0, by rw [Int.add_zero], rfl, rfl, Nat.zero_le _, PqI.nil (Fr.refl _ _), Own.nil _ _ _ _, fun b hb => (by cases hb), Own.nil _ _ _ _, fun b hb => (by cases hb), fun x hx => (by cases hx), rfl, PlR.nil off, hR0⟩
  case round =>
  rintro junk _ sv av tv _ _ w2 ⟨all, m, fi, rfl, rfl, rfl, hl30, S2⟩
  have hP2 := S2.pl
  have hlo := hP2.lo
  have hhi := hP2.hi
  have hr2 := hr.frN S2.s.fr
  by_cases hi1 : all.length < xs.length
  rotate_left
  · ((iterate 2 (apply vC_seq)); apply vC_region; ((apply vL_val); (case h => ((apply opv_E); exact rfl))); ((apply vL_val); (case h => ((apply opv_move); ((conv => lhs; whnf) <;> exact rfl)))); ((apply vL_val); (case h => ((apply opv_len); (first | exact norm_eq rfl | ((conv => lhs; whnf) <;> exact rfl)); (first | assumption | infer_instance)))); (iterate 2 (((apply vL_val); (case h => ((apply opv_E); exact rfl))))); (refine vL_and rfl rfl (fun h => by omega) (fun _ => ?_)); ((apply vL_unwanted'); exact rfl; exact rfl); ((apply vL_val); (case h => ((apply opv_E); exact rfl))); apply vL_nil; apply seqP_normal; ((apply vC_cond_false); exact rfl); apply vC_exit; apply seqP_exit; apply loopP_exit; apply blockP_exit; apply seqP_normal; apply vC_seq; apply vC_region)
    refine vL_callF rfl (awake25 w2) rfl ?_
    rintro _ w3 ⟨rfl, hf3⟩
    (((apply vL_val); (case h => ((apply opv_E); exact rfl))); apply vL_nil; apply seqP_normal; apply vC_ret)
    (apply ret1; (case h1 => (first | exact norm_eq rfl | ((conv => lhs; whnf) <;> exact rfl))))
    exact ⟨rfl, S2.s.fr.trans hf3⟩
  by_cases hi2 : all.length < 30
  rotate_left
  · ((iterate 2 (apply vC_seq)); apply vC_region; ((apply vL_val); (case h => ((apply opv_E); exact rfl))); ((apply vL_val); (case h => ((apply opv_move); ((conv => lhs; whnf) <;> exact rfl)))); ((apply vL_val); (case h => ((apply opv_len); (first | exact norm_eq rfl | ((conv => lhs; whnf) <;> exact rfl)); (first | assumption | infer_instance)))); (iterate 2 (((apply vL_val); (case h => ((apply opv_E); exact rfl))))); (refine vL_and rfl rfl (fun _ => ?_) (fun h => by omega)); ((apply vL_val); (case h => ((apply opv_E); exact rfl))); ((apply vL_wanted); exact rfl); (iterate 2 (((apply vL_val); (case h => ((apply opv_E); exact rfl))))); apply vL_nil; apply seqP_normal; (refine vC_cond_dec rfl (fun h => by omega) (fun _ => ?_)); apply vC_exit; apply seqP_exit; apply loopP_exit; apply blockP_exit; apply seqP_normal; apply vC_seq; apply vC_region)
    refine vL_callF rfl (awake25 w2) rfl ?_
    rintro _ w3 ⟨rfl, hf3⟩
    (((apply vL_val); (case h => ((apply opv_E); exact rfl))); apply vL_nil; apply seqP_normal; apply vC_ret)
    (apply ret1; (case h1 => (first | exact norm_eq rfl | ((conv => lhs; whnf) <;> exact rfl))))
    exact ⟨rfl, S2.s.fr.trans hf3⟩
  obtain ⟨x, hxi⟩ : ∃ x, xs[all.length]? = some x := ⟨xs[all.length], List.getElem?_eq_getElem hi1⟩
  have hxi' : xs[((all.length : Nat) : Int).toNat]? = some x := hxi
  have hxw := hx x (List.mem_of_getElem? hxi)
  ((iterate 2 (apply vC_seq)); apply vC_region; ((apply vL_val); (case h => ((apply opv_E); exact rfl))); ((apply vL_val); (case h => ((apply opv_move); ((conv => lhs; whnf) <;> exact rfl)))); ((apply vL_val); (case h => ((apply opv_len); (first | exact norm_eq rfl | ((conv => lhs; whnf) <;> exact rfl)); (first | assumption | infer_instance)))); (iterate 2 (((apply vL_val); (case h => ((apply opv_E); exact rfl))))); (refine vL_and rfl rfl (fun _ => ?_) (fun h => by omega)); ((apply vL_val); (case h => ((apply opv_E); exact rfl))); ((apply vL_wanted); exact rfl); (iterate 2 (((apply vL_val); (case h => ((apply opv_E); exact rfl))))); apply vL_nil; apply seqP_normal; (refine vC_cond_dec rfl (fun _ => ?_) (fun h => by omega)); apply vC_skip; apply seqP_normal; apply vC_seq; apply vC_block; apply vC_seq; apply vC_region; ((apply vL_val); (case h => ((apply opv_E); exact rfl))); ((apply vL_val); (case h => ((apply opv_move); ((conv => lhs; whnf) <;> exact rfl)))); ((apply vL_val); (case h => ((apply opv_E); exact rfl))); ((apply vL_val); (case h => ((apply opv_indexAddr); (first | exact norm_eq rfl | ((conv => lhs; whnf) <;> exact rfl)); exact rfl; (first | assumption | infer_instance); (first | omega | (simp only [List.length_map]; omega)); (first | omega | (simp only [List.length_map]; omega))))); ((apply vL_val); (case h => ((apply opv_ld_el); exact rfl; exact rfl; (first | assumption | infer_instance); assumption; exact rfl))))
  refine vL_callF rfl (pick_kit x 6 w2 (by decide) (by decide)) rfl ?_
  rintro _ _ ⟨rfl, r, rfl, h0, h6⟩
  obtain ⟨n, hn⟩ : ∃ n : Nat, 1 + r = (n : Int) := ⟨(1 + r).toNat, by omega⟩
  have hn6 : 1 ≤ n ∧ n ≤ 6 := by omega
  (((apply vL_val); (case h => ((apply opv_add); exact rfl; exact rfl; (first | omega | (simp only [List.length_map]; omega))))))
  rw [hn]
  refine vL_callF rfl (batch25 9 3 fi n w2 (by omega)) rfl ?_
  rintro _ w3 ⟨rv, ys, rfl, o3, k3, n3, fr3, hf3⟩
  have hrv := rv.2
  have S3 := S2.frN hf3
  have hs3 := S3.s.fr.size
  have hyl : ys.length = n := by have := congrArg List.length n3; simpa using this
  (((apply vL_val); (case h => (apply opw_alloc))); ((apply vL_skip); (case h => ((apply ops_storen); (first | exact norm_eq rfl | ((conv => lhs; whnf) <;> exact rfl)); (first | exact norm_eq rfl | ((conv => lhs; whnf) <;> exact rfl)); exact rfl; (first | exact (fun u hu => EncOk.one _ u hu) | (intro u hu; simp at hu; rcases hu with rfl | rfl <;> (first | rfl | assumption)) | (intro u hu; simp at hu; rcases hu with rfl | rfl | rfl <;> (first | rfl | assumption)) | (intro u hu; simp at hu; rcases hu with rfl | rfl | rfl | rfl <;> (first | rfl | assumption))); (first | assumption | infer_instance); (first | decide | exact of_decide_eq_true rfl | (simp; done))))); apply vL_nil; apply seqP_normal; apply vC_seq; apply vC_region; ((apply vL_val); (case h => ((apply opv_move); ((conv => lhs; whnf) <;> exact rfl)))); ((apply vL_val); (case h => ((apply opv_loadbC); exact rfl; exact rfl; (first | assumption | infer_instance); (first | exact (rfl : _ = [_]) | exact (rfl : _ = [_, _]) | exact (rfl : _ = [_, _, _]) | exact (rfl : _ = [_, _, _, _]) | exact (rfl : _ = [_, _, _, _, _]) | exact (rfl : _ = [_, _, _, _, _, _]) | exact (rfl : _ = [_, _, _, _, _, _, _]) | exact (rfl : _ = [_, _, _, _, _, _, _, _]) | exact (rfl : _ = [_, _, _, _, _, _, _, _, _]) | exact (rfl : _ = [_, _, _, _, _, _, _, _, _, _]) | exact (rfl : _ = [_, _, _, _, _, _, _, _, _, _, _]) | exact (rfl : _ = [_, _, _, _, _, _, _, _, _, _, _, _])); exact rfl))); ((apply vL_val); (case h => ((apply opv_E); exact rfl))))
  refine vL_gen (fun w' => Fr No w3 w' ∧ w3.heap.size < w'.heap.size ∧ Blk w'.heap w3.heap.size [.int .i64 9, .int .i64 3, .int .i64 fi, rv.1] 33) ⟨by (repeat (first | exact Fr.refl _ _ | assumption | with_reducible apply Fr.allocSet | with_reducible apply Fr.alloc | with_reducible apply Fr.drewN | with_reducible apply Fr.drew | ((with_reducible apply Fr.set); rotate_left; (right; ((try simp only [alloc_size]); omega))) | (refine Fr.trans ?_ (by assumption)))), by simp, inferInstance⟩ ?_
  rintro w4 ⟨hf4, hz4, hb4⟩
  have hav3 : ∀ b, own av = some b → b < w3.heap.size := S3.a.lt
  generalize w3.heap.size = bb at hb4 hz4 hav3 ⊢
  have S4 := S3.frN hf4
  have o4 := o3.frN hf4
  have hmay := may_rep fi n (by omega) hn6
  have hoo : okOff (off + fi) := ⟨by omega, by omega⟩
  refine vL_callF rfl (putX S4.s.ho.rd S4.s.rcIn o4.rd k3 S4.hm n3 hmay S4.rt (S4.pl.new n) (by decide) hoo (LF_snoc S4.pl n rv ys)) rfl ?_
  rintro _ w5 ⟨uv, m', rfl, S5', hone5, hm5⟩
  have S5 := S4.frN S5'.fr
  have o5 := o4.frN S5'.fr
  have hb5 := hb4.frN S5'.fr
  have hs4 := S4.s.fr.size
  have S5b : PqI w w5 uv m' m'.length := S5'.base hs4 S5.s.fr
  have hrt : RightF (LF (all ++ [⟨fi, n, off + fi, rv, ys⟩]) (fi + n)) := by
    have := (ins_rightF (pid := 9) (ep := 3) (fi := fi) (ns := List.replicate n 1) (off := off + fi) hmay hoo S5.rt (by rw [List.length_replicate, S5.pl.new n]) (by rw [List.length_replicate, S5.pl.new n]) (by decide)).1
    rwa [List.length_replicate, LF_snoc S5.pl n rv ys] at this
  clear S5' S4 S3 o4 o3 hb4 S2 hr2
  (((apply vL_val); (case h => ((apply opv_E); exact rfl))); ((apply vL_val); (case h => ((apply opv_extract); (first | exact norm_eq rfl | ((conv => lhs; whnf) <;> exact rfl)); exact rfl))); ((apply vL_val); (case h => ((apply opv_E); exact rfl))); ((apply vL_val); (case h => ((apply opv_assign); ((conv => lhs; whnf) <;> exact rfl)))); ((apply vL_val); (case h => ((apply opv_E); exact rfl))); apply vL_nil; apply seqP_normal; (iterate 2 (apply vC_seq)); apply vC_region; (iterate 2 (((apply vL_val); (case h => ((apply opv_E); exact rfl))))); apply vL_nil; apply seqP_normal; ((apply vC_cond_false); exact rfl); apply vC_skip; apply seqP_normal; apply vC_seq; apply vC_region; (iterate 2 (((apply vL_val); (case h => ((apply opv_move); ((conv => lhs; whnf) <;> exact rfl)))))); ((apply vL_val); (case h => ((apply opv_loadbC); exact rfl; exact rfl; (first | assumption | infer_instance); (first | exact (rfl : _ = [_]) | exact (rfl : _ = [_, _]) | exact (rfl : _ = [_, _, _]) | exact (rfl : _ = [_, _, _, _]) | exact (rfl : _ = [_, _, _, _, _]) | exact (rfl : _ = [_, _, _, _, _, _]) | exact (rfl : _ = [_, _, _, _, _, _, _]) | exact (rfl : _ = [_, _, _, _, _, _, _, _]) | exact (rfl : _ = [_, _, _, _, _, _, _, _, _]) | exact (rfl : _ = [_, _, _, _, _, _, _, _, _, _]) | exact (rfl : _ = [_, _, _, _, _, _, _, _, _, _, _]) | exact (rfl : _ = [_, _, _, _, _, _, _, _, _, _, _, _])); exact rfl))); ((apply vL_val); (case h => ((apply opw_buildSl); exact rfl; exact rfl; exact rfl; (first | exact (rfl : _ = some []) | exact (rfl : _ = some [_]) | exact (rfl : _ = some [_, _]) | exact (rfl : _ = some [_, _, _]) | exact (rfl : _ = some [_, _, _, _]) | exact (rfl : _ = some [_, _, _, _, _]) | exact (rfl : _ = some [_, _, _, _, _, _]) | exact (rfl : _ = some [_, _, _, _, _, _, _]) | exact (rfl : _ = some [_, _, _, _, _, _, _, _]) | exact (rfl : _ = some [_, _, _, _, _, _, _, _, _]) | exact (rfl : _ = some [_, _, _, _, _, _, _, _, _, _]) | exact (rfl : _ = some [_, _, _, _, _, _, _, _, _, _, _]) | exact (rfl : _ = some [_, _, _, _, _, _, _, _, _, _, _, _]) | exact (rfl : _ = some [_, _, _, _, _, _, _, _, _, _, _, _, _]) | exact (rfl : _ = some [_, _, _, _, _, _, _, _, _, _, _, _, _, _]) | exact (rfl : _ = some [_, _, _, _, _, _, _, _, _, _, _, _, _, _, _]) | exact (rfl : _ = some [_, _, _, _, _, _, _, _, _, _, _, _, _, _, _, _]))))))
  refine vL_append (enc := btX) (xs := all) (ys := [(⟨fi, n, off + fi, rv, ys⟩ : BT)]) (by (first | exact norm_eq rfl | ((conv => lhs; whnf) <;> exact rfl))) (by (first | exact norm_eq rfl | ((conv => lhs; whnf) <;> exact rfl))) ((Own.alloc S5.a)) (Rd.new1 _ _ rfl) rfl (by decide) ?_ ?_ ?_
  · simp [maxLen]; omega
  · simp; omega
  intro av' w6 a6 hf6 hfr6 hone6 _
  have hfa : Fr (fun j => own av = some j) w5 w6 := ((Fr.refl _ w5).alloc _).trans' hf6 (fun i hi => .inl hi)
  have s6 := S5b.frOwn S5.a ⟨by decide, by decide⟩ S5.af hfa
  have t6 := S5.t.fr hfa (fun b hb h => Own.ne_own S5.t S5.a (by decide) b hb h)
  have b5 : BIn w5.heap (all ++ [⟨fi, n, off + fi, rv, ys⟩]) := fun y hy => by
    rcases List.mem_append.1 hy with hy | hy
    · exact S5.b y hy
    · rw [List.mem_singleton.1 hy]; exact ⟨o5, k3, n3⟩
  have b6 := b5.frOwn S5.a (by decide) hfa
  have hb6 := hb5.fr hfa (fun h => by have := hav3 _ h; omega)
  have haf6 : ∀ b, own av' = some b → w.heap.size ≤ b := fun b hb => by
    rcases hfr6 b hb with h | h
    · exact S5.af b h
    · rw [alloc_size] at h; have := S5b.fr.size; omega
  (((apply vL_val); (case h => ((apply opv_move); ((conv => lhs; whnf) <;> exact rfl)))); ((apply vL_val); (case h => ((apply opv_E); exact rfl))); ((apply vL_val); (case h => ((apply opw_buildSl); exact rfl; exact rfl; exact rfl; (first | exact (rfl : _ = some []) | exact (rfl : _ = some [_]) | exact (rfl : _ = some [_, _]) | exact (rfl : _ = some [_, _, _]) | exact (rfl : _ = some [_, _, _, _]) | exact (rfl : _ = some [_, _, _, _, _]) | exact (rfl : _ = some [_, _, _, _, _, _]) | exact (rfl : _ = some [_, _, _, _, _, _, _]) | exact (rfl : _ = some [_, _, _, _, _, _, _, _]) | exact (rfl : _ = some [_, _, _, _, _, _, _, _, _]) | exact (rfl : _ = some [_, _, _, _, _, _, _, _, _, _]) | exact (rfl : _ = some [_, _, _, _, _, _, _, _, _, _, _]) | exact (rfl : _ = some [_, _, _, _, _, _, _, _, _, _, _, _]) | exact (rfl : _ = some [_, _, _, _, _, _, _, _, _, _, _, _, _]) | exact (rfl : _ = some [_, _, _, _, _, _, _, _, _, _, _, _, _, _]) | exact (rfl : _ = some [_, _, _, _, _, _, _, _, _, _, _, _, _, _, _]) | exact (rfl : _ = some [_, _, _, _, _, _, _, _, _, _, _, _, _, _, _, _]))))))
  refine vL_append (enc := iE) (xs := (all.map BT.off)) (ys := [(off + fi)]) (by (first | exact norm_eq rfl | ((conv => lhs; whnf) <;> exact rfl))) (by (first | exact norm_eq rfl | ((conv => lhs; whnf) <;> exact rfl))) ((Own.alloc t6)) (Rd.new1 _ _ rfl) rfl (by decide) ?_ ?_ ?_
  · simp [maxLen]; omega
  · simp; omega
  intro tv' w7 t7 hf7 hfr7 hone7 _
  have hft : Fr (fun j => own tv = some j) w6 w7 := ((Fr.refl _ w6).alloc _).trans' hf7 (fun i hi => .inl hi)
  have s7 := s6.frOwn t6 ⟨by decide, by decide⟩ S5.tf hft
  have a7 := a6.fr hft (fun b hb h => Own.ne_own a6 t6 (by decide) b hb h)
  have b7 := b6.frOwn t6 (by decide) hft
  have hb7 := hb6.fr hft (fun h => Own.ne_blk t6 hb6 (by decide) h)
  have hrd7 := (b7 ⟨fi, n, off + fi, rv, ys⟩ (List.mem_append_right _ (List.mem_singleton_self _))).1.rd
  have htf7 : ∀ b, own tv' = some b → w.heap.size ≤ b := fun b hb => by
    rcases hfr7 b hb with h | h
    · exact S5.tf b h
    · rw [alloc_size] at h; have := s6.fr.size; omega
  obtain ⟨all', eall⟩ : ∃ all', all' = all ++ [(⟨fi, n, off + fi, rv, ys⟩ : BT)] := ⟨_, rfl⟩
  have S7 : RS w w7 uv av' tv' all' m' (fi + n) off := by
    rw [eall]
    exact ⟨s7, a7, haf6, by rw [List.map_append]; exact t7, htf7, b7, hm5, S5.pl.snoc hn6 rv ys, hrt⟩
  have hal : all'.length = all.length + 1 := by rw [eall]; simp
  rw [← eall] at a7
  clear S5 S5b s6 s7 t6 t7 b5 b6 b7 hb5 hb6 a6 hfa hft hf6 hf7 hrt
  ((iterate 3 (((apply vL_val); (case h => ((apply opv_assign); ((conv => lhs; whnf) <;> exact rfl)))))); apply vL_nil; apply seqP_normal; apply vC_seq; apply vC_region; ((apply vL_val); (case h => ((apply opv_E); exact rfl))); ((apply vL_val); (case h => ((apply opv_fieldAddr); exact rfl))); ((apply vL_val); (case h => ((apply opv_loadb1); exact rfl; exact rfl; (first | assumption | infer_instance); exact rfl))); ((apply vL_val); (case h => ((apply opv_len); (first | exact norm_eq rfl | ((conv => lhs; whnf) <;> exact rfl)); (first | assumption | infer_instance)))); ((apply vL_val); (case h => ((apply opv_add); exact rfl; exact rfl; (first | omega | (simp only [List.length_map]; omega))))); ((apply vL_val); (case h => ((apply opv_E); exact rfl))); apply vL_nil; apply seqP_normal; apply vC_seq; apply vC_region; ((apply vL_val); (case h => ((apply opv_E); exact rfl))); ((apply vL_val); (case h => ((apply opv_fieldAddr); exact rfl))); ((apply vL_val); (case h => ((apply opv_loadb1); exact rfl; exact rfl; (first | assumption | infer_instance); exact rfl))); ((apply vL_val); (case h => ((apply opv_len); (first | exact norm_eq rfl | ((conv => lhs; whnf) <;> exact rfl)); (first | assumption | infer_instance)))); ((apply vL_val); (case h => ((apply opv_add); exact rfl; exact rfl; (first | omega | (simp only [List.length_map]; omega))))); ((apply vL_val); (case h => ((apply opv_E); exact rfl))); apply vL_nil; apply seqP_normal; apply vC_seq; apply vC_region; ((apply vL_val); (case h => ((apply opv_move); ((conv => lhs; whnf) <;> exact rfl)))); ((apply vL_val); (case h => ((apply opv_len); (first | exact norm_eq rfl | ((conv => lhs; whnf) <;> exact rfl)); (first | assumption | infer_instance)))); ((apply vL_val); (case h => ((apply opv_E); exact rfl))); apply vL_nil; apply seqP_normal; apply vC_block)
  rw [hyl]
  (apply vC_loop1 1298074214628984540649754437214224 72 (fun u w' => ∃ k : Nat, u = .int .i64 k ∧ k ≤ all'.length ∧ Fr No w7 w') (fun u _ => all'.length - (RowKit.intOf u).toNat)); (case h1 => (first | exact norm_eq rfl | ((conv => lhs; whnf) <;> exact rfl)))
  case h0 => exact ⟨0, rfl, Nat.zero_le _, Fr.refl _ _⟩
  case round =>
  rintro junk2 _ w8 ⟨k, rfl, hk, hf8⟩
  have S8 := S7.frN hf8
  have a8 := S8.a
  have t8 := S8.t
  have htl : ((all'.map BT.off).length : Int) = all'.length := by rw [List.length_map]
  by_cases hkl : k < all'.length
  · obtain ⟨y, hy⟩ : ∃ y, all'[k]? = some y := ⟨all'[k], List.getElem?_eq_getElem hkl⟩
    have hy' : all'[((k : Nat) : Int).toNat]? = some y := hy
    have hyo : (all'.map BT.off)[((k : Nat) : Int).toNat]? = some y.off := by rw [List.getElem?_map, hy']; rfl
    have hyb := S8.b y (List.mem_of_getElem? hy)
    have hyn := S8.pl.n1 k y hy
    have hyd := S8.pl.bd k y hy
    have hy0 := (S8.pl.at0 k y hy).1
    have hyone := y.rv.2
    (apply vC_seq; apply vC_region; ((apply vL_val); (case h => ((apply opv_E); exact rfl))); apply vL_nil; apply seqP_normal; apply vC_seq; (refine vC_cond_dec rfl (fun _ => ?_) (fun h => by omega)); apply vC_skip; apply seqP_normal; apply vC_seq; apply vC_block; apply vC_seq; apply vC_region; (iterate 2 (((apply vL_val); (case h => ((apply opv_E); exact rfl))))); apply vL_nil; apply seqP_normal; apply vC_seq; apply vC_region; (iterate 2 (((apply vL_val); (case h => ((apply opv_move); ((conv => lhs; whnf) <;> exact rfl)))))); ((apply vL_val); (case h => ((apply opv_E); exact rfl))); ((apply vL_val); (case h => ((apply opv_indexAddr); (first | exact norm_eq rfl | ((conv => lhs; whnf) <;> exact rfl)); exact rfl; (first | assumption | infer_instance); (first | omega | (simp only [List.length_map]; omega)); (first | omega | (simp only [List.length_map]; omega))))); ((apply vL_val); (case h => ((apply opv_ld_eln); exact rfl; exact rfl; (first | assumption | infer_instance); assumption))))
    refine vL_callF rfl (judgeX S8.s.ho.rd S8.s.rcIn hyb.1.rd hyb.2.1 S8.hm hyb.2.2 (may_rep y.fi y.n (by omega) hyn) S8.rt (S8.pl.judge hy)) rfl ?_
    rintro u9 w9 ⟨hu9, hf9⟩
    have a9 := a8.frN hf9
    have t9 := t8.frN hf9
    have hf79 := hf8.trans hf9
    by_cases h5 : all'.length ≤ k + 5
    · rw [if_pos h5] at hu9
      replace hu9 : u9 = .tuple #[.int .i64 y.off, .bool true, .int .i64 0] := hu9
      subst hu9
      ((iterate 7 (((apply vL_val); (case h => ((apply opv_E); exact rfl))))); apply vL_nil; apply seqP_normal; apply vC_seq; apply vC_region; ((apply vL_val); (case h => ((apply opv_E); exact rfl))); ((apply vL_val); (case h => ((apply opv_move); ((conv => lhs; whnf) <;> exact rfl)))); ((apply vL_val); (case h => ((apply opv_len); (first | exact norm_eq rfl | ((conv => lhs; whnf) <;> exact rfl)); (first | assumption | infer_instance)))); ((apply vL_val); (case h => ((apply opv_sub); exact rfl; exact rfl; (first | omega | (simp only [List.length_map]; omega))))); ((apply vL_val); (case h => ((apply opv_E); exact rfl))); apply vL_nil; apply seqP_normal; (refine vC_cond_dec rfl (fun _ => ?_) (fun h => by omega)); apply vC_seq; apply vC_region; (iterate 3 (((apply vL_val); (case h => ((apply opv_E); exact rfl))))); ((apply vL_wanted); exact rfl); ((apply vL_val); (case h => ((apply opv_E); exact rfl))); ((apply vL_wanted); exact rfl); ((apply vL_val); (case h => ((apply opv_not); exact rfl))); (iterate 2 (((apply vL_val); (case h => ((apply opv_E); exact rfl))))); ((apply vL_wanted); exact rfl); ((apply vL_val); (case h => ((apply opv_E); exact rfl))); ((apply vL_wanted); exact rfl); ((apply vL_val); (case h => ((apply opv_move); ((conv => lhs; whnf) <;> exact rfl)))); ((apply vL_wanted); exact rfl); ((apply vL_val); (case h => ((apply opv_E); exact rfl))); ((apply vL_wanted); exact rfl); ((apply vL_val); (case h => ((apply opv_indexAddr); (first | exact norm_eq rfl | ((conv => lhs; whnf) <;> exact rfl)); exact rfl; (first | assumption | infer_instance); (first | omega | (simp only [List.length_map]; omega)); (first | omega | (simp only [List.length_map]; omega))))); ((apply vL_wanted); exact rfl); ((apply vL_val); (case h => ((apply opv_ld_el); exact rfl; exact rfl; (first | assumption | infer_instance); assumption; exact rfl))); ((apply vL_wanted); exact rfl); (iterate 2 (((apply vL_val); (case h => ((apply opv_E); exact rfl))))); apply vL_nil; apply seqP_normal; (refine vC_cond_dec rfl (fun h => by omega) (fun _ => ?_)); apply vC_skip; apply blockP_normal; apply seqP_normal; apply vC_region; ((apply vL_val); (case h => ((apply opv_add); exact rfl; exact rfl; (first | omega | (simp only [List.length_map]; omega))))); ((apply vL_val); (case h => ((apply opv_E); exact rfl))); apply vL_nil; apply loopP_normal)
      (with_reducible apply end1); (case hs => (repeat (first | (with_reducible exact same_mask _ _ _) | with_reducible apply same_updN | ((with_reducible refine same_updO ?_ ?_); rotate_left; exact rfl) | ((with_reducible refine same_upd ?_ ?_); rotate_left; exact rfl) | ((with_reducible refine same_maskIn ?_ ?_); rotate_left; exact rfl)))); (case h1 => (first | exact norm_eq rfl | ((conv => lhs; whnf) <;> exact rfl)))
      · exact ⟨k + 1, rfl, by omega, hf79⟩
      · simp [RowKit.intOf]; omega
    · rw [if_neg h5] at hu9
      replace hu9 : u9 = .tuple #[.int .i64 0, .bool false, .int .i64 251] := hu9
      subst hu9
      ((iterate 7 (((apply vL_val); (case h => ((apply opv_E); exact rfl))))); apply vL_nil; apply seqP_normal; apply vC_seq; apply vC_region; ((apply vL_val); (case h => ((apply opv_E); exact rfl))); ((apply vL_val); (case h => ((apply opv_move); ((conv => lhs; whnf) <;> exact rfl)))); ((apply vL_val); (case h => ((apply opv_len); (first | exact norm_eq rfl | ((conv => lhs; whnf) <;> exact rfl)); (first | assumption | infer_instance)))); ((apply vL_val); (case h => ((apply opv_sub); exact rfl; exact rfl; (first | omega | (simp only [List.length_map]; omega))))); ((apply vL_val); (case h => ((apply opv_E); exact rfl))); apply vL_nil; apply seqP_normal; (refine vC_cond_dec rfl (fun h => by omega) (fun _ => ?_)); apply vC_seq; apply vC_region; (iterate 3 (((apply vL_val); (case h => ((apply opv_E); exact rfl))))); ((apply vL_wanted); exact rfl); (iterate 2 (((apply vL_val); (case h => ((apply opv_E); exact rfl))))); apply vL_nil; apply seqP_normal; ((apply vC_cond_false); exact rfl); apply vC_skip; apply blockP_normal; apply seqP_normal; apply vC_region; ((apply vL_val); (case h => ((apply opv_add); exact rfl; exact rfl; (first | omega | (simp only [List.length_map]; omega))))); ((apply vL_val); (case h => ((apply opv_E); exact rfl))); apply vL_nil; apply loopP_normal)
      (with_reducible apply end1); (case hs => (repeat (first | (with_reducible exact same_mask _ _ _) | with_reducible apply same_updN | ((with_reducible refine same_updO ?_ ?_); rotate_left; exact rfl) | ((with_reducible refine same_upd ?_ ?_); rotate_left; exact rfl) | ((with_reducible refine same_maskIn ?_ ?_); rotate_left; exact rfl)))); (case h1 => (first | exact norm_eq rfl | ((conv => lhs; whnf) <;> exact rfl)))
      · exact ⟨k + 1, rfl, by omega, hf79⟩
      · simp [RowKit.intOf]; omega
  · (apply vC_seq; apply vC_region; ((apply vL_val); (case h => ((apply opv_E); exact rfl))); apply vL_nil; apply seqP_normal; apply vC_seq; (refine vC_cond_dec rfl (fun h => by omega) (fun _ => ?_)); apply vC_exit; apply seqP_exit; apply loopP_exit; apply blockP_exit; apply blockP_normal; apply seqP_normal; apply vC_region; ((apply vL_val); (case h => ((apply opv_E); exact rfl))); ((apply vL_val); (case h => ((apply opv_add); exact rfl; exact rfl; (first | omega | (simp only [List.length_map]; omega))))); ((apply vL_val); (case h => ((apply opv_E); exact rfl))); apply vL_nil; apply loopP_normal)
    (with_reducible apply end6); (case hs => (repeat (first | (with_reducible exact same_mask _ _ _) | with_reducible apply same_updN | ((with_reducible refine same_updO ?_ ?_); rotate_left; exact rfl) | ((with_reducible refine same_upd ?_ ?_); rotate_left; exact rfl) | ((with_reducible refine same_maskIn ?_ ?_); rotate_left; exact rfl)))); (case h1 => (first | exact norm_eq rfl | ((conv => lhs; whnf) <;> exact rfl))); (case h2 => (first | exact norm_eq rfl | ((conv => lhs; whnf) <;> exact rfl))); (case h3 => (first | exact norm_eq rfl | ((conv => lhs; whnf) <;> exact rfl))); (case h4 => (first | exact norm_eq rfl | ((conv => lhs; whnf) <;> exact rfl))); (case h5 => (first | exact norm_eq rfl | ((conv => lhs; whnf) <;> exact rfl))); (case h6 => (first | exact norm_eq rfl | ((conv => lhs; whnf) <;> exact rfl)))
    · exact ⟨all', m', fi + n, by rw [Int.add_assoc], rfl, by rw [hal]; rfl, by omega, S8⟩
    · simp [RowKit.intOf]; omega
end Go.Proofs.Ytffgecomdlnngaa
