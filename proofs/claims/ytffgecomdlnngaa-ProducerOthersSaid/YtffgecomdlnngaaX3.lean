/- Layer 25: the plain law: producers without their memory.
Layer 25: the chapter's example.
Layer 25: the plain law: a list stays right; others are judged as before.
Layer 25: the law ProducerOthers: its walk. -/
import Derived.Test.YtffgecomdlnngaaPn
set_option maxRecDepth 100000
namespace Go.Proofs.Ytffgecomdlnngaa
open Go Go.Eng
abbrev F25 := Int × Int × Int × List (Int × Int × Int)
def j1 (nx : Int) (rs : List (Int × Int × Int)) (fi : Int) (n : Nat) : Int × Bool × Int :=
  if fi = nx then (0, false, 0) else match rs.find? (fun r => decide (r.1 = fi ∧ r.2.1 = (n : Int))) with
  | some r => (r.2.2, true, 0)
  | none => if fi < nx then (0, false, 251) else (0, false, 252)
def gF (fl : List F25) (pid : Int) : Option F25 := fl.find? (fun p => decide (p.1 = pid))
def jF (fl : List F25) (pid ep fi : Int) (n : Nat) : Int × Bool × Int :=
  if pid = 0 then (0, false, 0) else match gF fl pid with
  | none => if fl.length = 64 then (0, false, 5) else j1 0 [] fi n
  | some p => if ep < p.2.1 then (0, false, 250) else if p.2.1 < ep then j1 0 [] fi n else j1 p.2.2.1 p.2.2.2 fi n
def tJ (t : Int × Bool × Int) : Value := .tuple #[.int .i64 t.1, .bool t.2.1, .int .i64 t.2.2]
theorem j1_tup (nx : Int) (rs : List (Int × Int × Int)) (fi : Int) (n : Nat) : judge1 nx rs fi n = tJ (j1 nx rs fi n) := by
  unfold judge1 j1
  by_cases h : fi = nx
  · rw [if_pos h, if_pos h]; rfl
  · rw [if_neg h, if_neg h]
    cases rs.find? (fun r => decide (r.1 = fi ∧ r.2.1 = (n : Int))) with
    | some r => rfl
    | none =>
      by_cases h2 : fi < nx
      · exact (if_pos h2).trans (by rw [show (if fi < nx then ((0 : Int), false, (251 : Int)) else (0, false, 252)) = (0, false, 251) from if_pos h2]; rfl)
      · exact (if_neg h2).trans (by rw [show (if fi < nx then ((0 : Int), false, (251 : Int)) else (0, false, 252)) = (0, false, 252) from if_neg h2]; rfl)
theorem gF_map (l : List PR) (pid : Int) : gF (l.map PR.f) pid = (getP l pid).map PR.f := by
  unfold gF getP
  rw [List.find?_map]
  rfl
theorem judgeV_F (l : List PR) (pid ep fi : Int) (n : Nat) : judgeV l pid ep fi n = tJ (jF (l.map PR.f) pid ep fi n) := by
  unfold judgeV jF
  by_cases h : pid = 0
  · rw [if_pos h, if_pos h]; rfl
  rw [if_neg h, if_neg h, gF_map, List.length_map]
  cases getP l pid with
  | none =>
    by_cases h2 : l.length = 64
    · exact (if_pos h2).trans (by show _ = tJ (if l.length = 64 then _ else _); rw [if_pos h2]; rfl)
    · refine (if_neg h2).trans (by show _ = tJ (if l.length = 64 then _ else _); rw [if_neg h2]; exact j1_tup _ _ _ _)
  | some p =>
    show (if ep < p.ep then _ else if p.ep < ep then _ else _) = tJ (if ep < p.ep then _ else if p.ep < ep then _ else _)
    by_cases h2 : ep < p.ep
    · rw [if_pos h2, if_pos h2]; rfl
    rw [if_neg h2, if_neg h2]
    by_cases h3 : p.ep < ep
    · rw [if_pos h3, if_pos h3]; exact j1_tup _ _ _ _
    · rw [if_neg h3, if_neg h3]; exact j1_tup _ _ _ _
def PrF (last : Int) (p : F25) : Prop := (last < p.1 ∧ p.1 ≤ 4611686018427387904 ∧ 0 ≤ p.2.1 ∧ p.2.1 ≤ 1073741824 ∧ 1 ≤ p.2.2.1 ∧ p.2.2.1 ≤ 4611686018427388160 ∧ p.2.2.2.length ≤ 5) ∧ RcOk p.2.2.1 p.2.2.2
def RF (last : Int) : List F25 → Prop
  | [] => True
  | p :: t => PrF last p ∧ RF p.1 t
def RightF (fl : List F25) : Prop := RF 0 fl ∧ fl.length ≤ 64
theorem rightFrom_F (l : List PR) : ∀ last, RightFrom last l ↔ RF last (l.map PR.f) := by
  induction l with
  | nil => intro last; exact Iff.rfl
  | cons p t ih => intro last; exact and_congr Iff.rfl (ih p.pid)
theorem right_F (l : List PR) : RightOk l ↔ RightF (l.map PR.f) := by
  unfold RightOk RightF
  rw [rightFrom_F, List.length_map]
/-- a producer behind a batch that was new -/
def nwF (pid ep fi : Int) (n : Nat) (off : Int) (ep0 : Int) (rs0 : List (Int × Int × Int)) : F25 := (pid, ep, fi + n, newRs ep ep0 rs0 (fi, (n : Int), off))
def insF (pid ep fi : Int) (n : Nat) (off : Int) : List F25 → List F25
  | [] => [nwF pid ep fi n off 0 []]
  | p :: t => if p.1 < pid then p :: insF pid ep fi n off t else if p.1 = pid then nwF pid ep fi n off p.2.1 p.2.2.2 :: t else nwF pid ep fi n off 0 [] :: p :: t
theorem insF_at {pid ep fi : Int} {n : Nat} {off : Int} : ∀ (l : List PR) (k : Nat), k ≤ l.length → (∀ (j : Nat) p, j < k → l[j]? = some p → p.pid < pid) → (∀ (j : Nat) p, k ≤ j → l[j]? = some p → pid ≤ p.pid) → ∀ (q : PR),
    (∀ p, l[k]? = some p → p.pid = pid → q.f = nwF pid ep fi n off p.ep p.rs → (l.set k q).map PR.f = insF pid ep fi n off (l.map PR.f)) ∧
    ((∀ p, l[k]? = some p → p.pid ≠ pid) → q.f = nwF pid ep fi n off 0 [] → (l.take k ++ [q] ++ l.drop k).map PR.f = insF pid ep fi n off (l.map PR.f))
  | [], k, hk, _, _, q => by
    have : k = 0 := by simpa using hk
    subst this
    exact ⟨fun p hp => by simp at hp, fun _ hq => by simp [insF, hq]⟩
  | x :: t, 0, _, _, h2, q => by
    have h3 := h2 0 x (Nat.le_refl _) rfl
    have e1 : ¬ x.f.1 < pid := by show ¬ x.pid < pid; omega
    refine ⟨fun p hp he hq => ?_, fun h hq => ?_⟩
    · cases hp
      simp only [List.set_cons_zero, List.map_cons, insF, if_neg e1]
      rw [if_pos (show x.f.1 = pid from he), hq]
      rfl
    · simp only [List.take_zero, List.drop_zero, List.nil_append, List.singleton_append, List.map_cons, insF, if_neg e1]
      rw [if_neg (show ¬ x.f.1 = pid from h x rfl), hq]
  | x :: t, k + 1, hk, h1, h2, q => by
    have h3 := h1 0 x (by omega) rfl
    have e1 : x.f.1 < pid := h3
    have ih := insF_at (ep := ep) (fi := fi) (n := n) (off := off) t k (by simpa using hk) (fun j p hj hp => h1 (j + 1) p (by omega) (by simpa using hp)) (fun j p hj hp => h2 (j + 1) p (by omega) (by simpa using hp)) q
    refine ⟨fun p hp he hq => ?_, fun h hq => ?_⟩
    · simp only [List.set_cons_succ, List.map_cons, insF, if_pos e1]
      rw [ih.1 p (by simpa using hp) he hq]
    · simp only [List.take_succ_cons, List.drop_succ_cons, List.cons_append, List.map_cons, insF, if_pos e1]
      rw [← ih.2 (fun p hp => h p (by simpa using hp)) hq]
theorem PutR.cases {l m : List PR} {pid ep fi off er : Int} {ns : List Nat} (h : PutR l pid ep fi ns off er m) :
    (er ≠ 0 ∧ m = []) ∨ ((mayB pid ep fi ns = true ∧ RightF (l.map PR.f)) ∧ okOff off ∧ er = 0 ∧ (jF (l.map PR.f) pid ep fi ns.length).2.2 = 0 ∧
      (((jF (l.map PR.f) pid ep fi ns.length).2.1 = true ∨ pid = 0) ∧ m.map PR.f = l.map PR.f ∨ (jF (l.map PR.f) pid ep fi ns.length).2.1 = false ∧ pid ≠ 0 ∧ m.map PR.f = insF pid ep fi ns.length off (l.map PR.f))) := by
  rcases h with ⟨_, rfl, rfl⟩ | ⟨⟨hm, hr⟩, a, g, e, hJ, h⟩
  · exact .inl ⟨by decide, rfl⟩
  have hF := (judgeV_F l pid ep fi ns.length).symm.trans hJ
  have hj : (jF (l.map PR.f) pid ep fi ns.length) = (a, g, e) := by
    generalize jF (l.map PR.f) pid ep fi ns.length = t at hF ⊢
    obtain ⟨t1, t2, t3⟩ := t
    simp only [tJ] at hF
    injection hF with hF
    simp at hF
    simp [hF]
  rw [hj]
  have hr' := (right_F l).1 hr
  rcases h with ⟨he, rfl, rfl⟩ | ⟨_, _, rfl, rfl⟩ | ⟨rfl, ho, hg, rfl, hmf⟩ | ⟨rfl, ho, hg, hp, rfl, l1, k, q, hl1, hk, hlo, hhi, hq⟩
  · exact .inl ⟨he, rfl⟩
  · exact .inl ⟨by decide, rfl⟩
  · exact .inr ⟨⟨hm, hr'⟩, ho, rfl, rfl, .inl ⟨hg, hmf⟩⟩
  · refine .inr ⟨⟨hm, hr'⟩, ho, rfl, rfl, .inr ⟨hg, hp, ?_⟩⟩
    have hi := insF_at (ep := ep) (fi := fi) (n := ns.length) (off := off) l1 k hk hlo hhi q
    rw [← hl1]
    rcases hq with ⟨p, hp1, hp2, hq, rfl⟩ | ⟨hn, hq, rfl⟩
    · exact hi.1 p hp1 hp2 hq
    · exact hi.2 hn hq
theorem PutR.new {l m : List PR} {pid ep fi off er : Int} {ns : List Nat} (h : PutR l pid ep fi ns off er m) (hm : mayB pid ep fi ns = true) (hr : RightF (l.map PR.f)) (ho : okOff off) (h0 : (jF (l.map PR.f) pid ep fi ns.length).2.2 = 0) (hg : (jF (l.map PR.f) pid ep fi ns.length).2.1 = false) (hp : pid ≠ 0) :
    er = 0 ∧ m.map PR.f = insF pid ep fi ns.length off (l.map PR.f) := by
  rcases h with ⟨hn, _, _⟩ | ⟨_, a, g, e, hJ, h⟩
  · exact absurd ⟨hm, (right_F l).2 hr⟩ hn
  have hF := (judgeV_F l pid ep fi ns.length).symm.trans hJ
  have hj : (jF (l.map PR.f) pid ep fi ns.length) = (a, g, e) := by
    generalize jF (l.map PR.f) pid ep fi ns.length = t at hF ⊢
    obtain ⟨t1, t2, t3⟩ := t
    simp only [tJ] at hF
    injection hF with hF
    simp at hF
    simp [hF]
  rw [hj] at h0 hg
  rcases h with ⟨he, rfl, rfl⟩ | ⟨_, hb, rfl, rfl⟩ | ⟨rfl, _, hg', rfl, hmf⟩ | ⟨rfl, _, _, _, rfl, l1, k, q, hl1, hk, hlo, hhi, hq⟩
  · exact absurd h0 he
  · exact absurd ho hb
  · rcases hg' with h | h
    · rw [h] at hg; cases hg
    · exact absurd h hp
  · refine ⟨rfl, ?_⟩
    have hi := insF_at (ep := ep) (fi := fi) (n := ns.length) (off := off) l1 k hk hlo hhi q
    rw [← hl1]
    rcases hq with ⟨p, hp1, hp2, hq, rfl⟩ | ⟨hn, hq, rfl⟩
    · exact hi.1 p hp1 hp2 hq
    · exact hi.2 hn hq
end Go.Proofs.Ytffgecomdlnngaa

set_option maxRecDepth 100000
namespace Go.Proofs.Ytffgecomdlnngaa
open Go Go.Eng
theorem PqI.rcIn {w0 w : World} {v : Value} {m : List PR} (S : PqI w0 w v m m.length) : RcIn w.heap m := fun p hp => by
  obtain ⟨i, hi, e⟩ := List.getElem_of_mem hp
  exact (S.rc i p hi (by rw [← e]; exact List.getElem?_eq_getElem hi)).1.rd
theorem judgeX {v : Value} {l : List PR} {L : List F25} {pid ep fi : Int} {rv : OV} {ys : List (OV × Nat)} {n : Nat} {res : Int × Bool × Int} {w : World} (hr : Rd w.heap 4 prE v l) (hin : RcIn w.heap l) (hrb : Rd w.heap 1 byE rv.1 ys) (hy : ByOk ys) (hL : l.map PR.f = L) (hn : ys.map (·.2) = List.replicate n 1) (hm : mayB pid ep fi (List.replicate n 1) = true) (hR : RightF L) (hres : jF L pid ep fi n = res) :
    Rets Try.prog 8 #[v, .agg #[.int .i64 pid, .int .i64 ep, .int .i64 fi, rv.1]] w fun u w' => u = tJ res ∧ Fr No w w' := by
  refine (judge25 v l pid ep fi rv ys w hr hin hrb hy).mono ?_
  rintro u w' ⟨⟨h1, _⟩, hf⟩
  have hl : ys.length = n := by have := congrArg List.length hn; simpa using this
  refine ⟨?_, hf⟩
  rw [h1 ⟨by rw [hn]; exact hm, (right_F l).2 (by rw [hL]; exact hR)⟩, judgeV_F, hL, hl, hres]
theorem putX {v : Value} {l : List PR} {L L' : List F25} {pid ep fi off : Int} {rv : OV} {ys : List (OV × Nat)} {n : Nat} {a : Int} {w : World} (hr : Rd w.heap 4 prE v l) (hin : RcIn w.heap l) (hrb : Rd w.heap 1 byE rv.1 ys) (hy : ByOk ys) (hL : l.map PR.f = L) (hn : ys.map (·.2) = List.replicate n 1) (hm : mayB pid ep fi (List.replicate n 1) = true) (hR : RightF L) (hres : jF L pid ep fi n = (a, false, 0)) (hp : pid ≠ 0) (ho : okOff off) (hL' : insF pid ep fi n off L = L') :
    Rets Try.prog 9 #[v, .agg #[.int .i64 pid, .int .i64 ep, .int .i64 fi, rv.1], .int .i64 off] w fun u w' => ∃ uv m, u = .tuple #[uv, .int .i64 0] ∧ PqI w w' uv m m.length ∧ uv.oneCell' = true ∧ m.map PR.f = L' := by
  refine (put25 v l pid ep fi off rv ys w hr hin hrb hy).mono ?_
  rintro u w' ⟨uv, er, m, rfl, S, hone, hP⟩
  have hl : (ys.map (·.2)).length = n := by have := congrArg List.length hn; simpa using this
  have := hP.new (by rw [hn]; exact hm) (by rw [hL]; exact hR) ho (by rw [hL, hl, hres]) (by rw [hL, hl, hres]) hp
  rw [hL, hl, hL'] at this
  obtain ⟨rfl, h⟩ := this
  exact ⟨uv, m, rfl, S, hone, h⟩
theorem rightX {v : Value} {l : List PR} {L : List F25} {w : World} (hr : Rd w.heap 4 prE v l) (hin : RcIn w.heap l) (hL : l.map PR.f = L) (hR : RightF L) : Rets Try.prog 10 #[v] w fun u w' => u = .bool true ∧ Fr No w w' := by
  refine (right25 v l w hr hin).mono ?_
  rintro u w' ⟨⟨b, rfl, hb⟩, hf⟩
  exact ⟨by rw [hb.2 ((right_F l).2 (by rw [hL]; exact hR))], hf⟩
theorem awake25 (w : World) : Rets Try.prog 11 #[] w fun u w' => u = .bool true ∧ Fr No w w' := by
  have hR1 : RightF [(7, 0, 2, [(0, 2, 10)])] := by simp [RightF, RF, PrF, RcOk, rOk]
  have hR2 : RightF [(7, 1, 1, [(0, 1, 12)])] := by simp [RightF, RF, PrF, RcOk, rOk]
  have hR0 : RightF [] := by simp [RightF, RF]
  have j0 : jF [] 7 0 0 2 = (0, false, 0) := by decide
  have i0 : insF 7 0 0 2 10 [] = [(7, 0, 2, [(0, 2, 10)])] := rfl
  have j1' : jF [(7, 0, 2, [(0, 2, 10)])] 7 0 0 2 = (10, true, 0) := by decide
  have j2' : jF [(7, 0, 2, [(0, 2, 10)])] 7 0 3 1 = (0, false, 252) := by decide
  have j3' : jF [(7, 0, 2, [(0, 2, 10)])] 7 0 1 1 = (0, false, 251) := by decide
  have j4' : jF [(7, 0, 2, [(0, 2, 10)])] 7 1 0 1 = (0, false, 0) := by decide
  have i1 : insF 7 1 0 1 12 [(7, 0, 2, [(0, 2, 10)])] = [(7, 1, 1, [(0, 1, 12)])] := rfl
  have j5' : jF [(7, 1, 1, [(0, 1, 12)])] 7 0 2 1 = (0, false, 250) := by decide
  refine rets_of Try.func11 rfl Try.ntmps11 rfl rfl (by kernel_rfl) ?_
  (apply vC_seq; apply vC_region; ((apply vL_val); (case h => ((apply opv_E); exact rfl))); apply vL_nil; apply seqP_normal; apply vC_seq; apply vC_region)
  refine vL_callF rfl (batch25 7 0 0 2 w (by decide)) rfl ?_
  rintro _ w1 ⟨r1, y1, rfl, o1, k1, n1, _, hf1⟩
  skip
  refine vL_callF rfl (putX (Rd.nil w1.heap 4 prE) (fun p hp => (by cases hp)) o1.rd k1 rfl n1 (by decide) hR0 j0 (by decide) ⟨by decide, by decide⟩ i0) rfl ?_
  rintro _ w2 ⟨v2, m2, rfl, S2, _, hm2⟩
  have hf2 := hf1.trans S2.fr
  obtain ⟨p2, rfl, hp2⟩ := List.map_eq_singleton_iff.1 hm2
  have hnx : p2.nx = 2 := congrArg (fun z => z.2.2.1) hp2
  have hg2 : ([p2] : List PR)[(0 : Int).toNat]? = some p2 := rfl
  have hl2 : (0 : Int) < (([p2] : List PR).length : Int) := Int.zero_lt_one
  have ho2 := S2.ho
  have hc2 := S2.rcIn
  clear S2
  (((apply vL_val); (case h => ((apply opv_E); exact rfl))); ((apply vL_val); (case h => ((apply opv_extract); (first | exact norm_eq rfl | ((conv => lhs; whnf) <;> exact rfl)); exact rfl))); ((apply vL_val); (case h => ((apply opv_E); exact rfl))); ((apply vL_val); (case h => ((apply opv_assign); ((conv => lhs; whnf) <;> exact rfl)))); ((apply vL_val); (case h => ((apply opv_E); exact rfl))); apply vL_nil; apply seqP_normal; (iterate 2 (apply vC_seq)); apply vC_region; (iterate 3 (((apply vL_val); (case h => ((apply opv_E); exact rfl))))); ((apply vL_wanted); exact rfl); ((apply vL_val); (case h => ((apply opv_move); ((conv => lhs; whnf) <;> exact rfl)))); ((apply vL_wanted); exact rfl); ((apply vL_val); (case h => ((apply opv_len); (first | exact norm_eq rfl | ((conv => lhs; whnf) <;> exact rfl)); (first | assumption | infer_instance)))); ((apply vL_wanted); exact rfl); (iterate 3 (((apply vL_val); (case h => ((apply opv_E); exact rfl))))); ((apply vL_wanted); exact rfl); ((apply vL_val); (case h => ((apply opv_move); ((conv => lhs; whnf) <;> exact rfl)))); ((apply vL_wanted); exact rfl); ((apply vL_val); (case h => ((apply opv_indexAddr); (first | exact norm_eq rfl | ((conv => lhs; whnf) <;> exact rfl)); exact rfl; (first | assumption | infer_instance); (first | omega | (simp only [List.length_map]; omega)); (first | omega | (simp only [List.length_map]; omega))))); ((apply vL_wanted); exact rfl); ((apply vL_val); (case h => ((apply opv_fieldAddr); exact rfl))); ((apply vL_wanted); exact rfl); ((apply vL_val); (case h => ((apply opv_ld_el); exact rfl; exact rfl; (first | assumption | infer_instance); assumption; exact rfl))); ((apply vL_wanted); exact rfl); (iterate 3 (((apply vL_val); (case h => ((apply opv_E); exact rfl))))); (refine vL_or rfl rfl (fun _ => ?_) (fun h => by omega)); ((apply vL_val); (case h => ((apply opv_move); ((conv => lhs; whnf) <;> exact rfl)))); ((apply vL_wanted); exact rfl))
  refine vL_callF rfl (rightX ho2.rd hc2 hm2 hR1) rfl ?_
  rintro _ w3 ⟨rfl, hf3⟩
  (((apply vL_wanted); exact rfl); ((apply vL_val); (case h => ((apply opv_not); exact rfl))); ((apply vL_val); (case h => ((apply opv_E); exact rfl))); apply vL_nil; apply seqP_normal; ((apply vC_cond_false); exact rfl); apply vC_skip; apply seqP_normal; apply vC_seq; apply vC_region; ((apply vL_val); (case h => ((apply opv_move); ((conv => lhs; whnf) <;> exact rfl)))))
  have g3 := hf3
  refine vL_callF rfl (batch25 7 0 0 2 w3 (by decide)) rfl ?_
  rintro _ w4 ⟨r4, y4, rfl, o4, k4, n4, _, hf4⟩
  have g4 := g3.trans hf4
  skip
  refine vL_callF rfl (judgeX (ho2.frN g4).rd (hc2.frN g4) o4.rd k4 hm2 n4 (by decide) hR1 j1') rfl ?_
  rintro _ w5 ⟨rfl, hf5⟩
  have g5 := g4.trans hf5
  clear o4 k4 n4 hf4 hf5 g4
  ((iterate 7 (((apply vL_val); (case h => ((apply opv_E); exact rfl))))); apply vL_nil; apply seqP_normal; apply vC_seq; apply vC_region; ((apply vL_val); (case h => ((apply opv_move); ((conv => lhs; whnf) <;> exact rfl)))))
  refine vL_callF rfl (batch25 7 0 3 1 w5 (by decide)) rfl ?_
  rintro _ w6 ⟨r6, y6, rfl, o6, k6, n6, _, hf6⟩
  have g6 := g5.trans hf6
  skip
  refine vL_callF rfl (judgeX (ho2.frN g6).rd (hc2.frN g6) o6.rd k6 hm2 n6 (by decide) hR1 j2') rfl ?_
  rintro _ w7 ⟨rfl, hf7⟩
  have g7 := g6.trans hf7
  clear o6 k6 n6 hf6 hf7 g6
  ((iterate 7 (((apply vL_val); (case h => ((apply opv_E); exact rfl))))); apply vL_nil; apply seqP_normal; apply vC_seq; apply vC_region; ((apply vL_val); (case h => ((apply opv_move); ((conv => lhs; whnf) <;> exact rfl)))))
  refine vL_callF rfl (batch25 7 0 1 1 w7 (by decide)) rfl ?_
  rintro _ w8 ⟨r8, y8, rfl, o8, k8, n8, _, hf8⟩
  have g8 := g7.trans hf8
  skip
  refine vL_callF rfl (judgeX (ho2.frN g8).rd (hc2.frN g8) o8.rd k8 hm2 n8 (by decide) hR1 j3') rfl ?_
  rintro _ w9 ⟨rfl, hf9⟩
  have g9 := g8.trans hf9
  clear o8 k8 n8 hf8 hf9 g8
  ((iterate 7 (((apply vL_val); (case h => ((apply opv_E); exact rfl))))); apply vL_nil; apply seqP_normal; apply vC_seq; apply vC_region; ((apply vL_val); (case h => ((apply opv_move); ((conv => lhs; whnf) <;> exact rfl)))))
  refine vL_callF rfl (batch25 7 1 0 1 w9 (by decide)) rfl ?_
  rintro _ w10 ⟨r10, y10, rfl, o10, k10, n10, _, hf10⟩
  have g10 := g9.trans hf10
  skip
  refine vL_callF rfl (judgeX (ho2.frN g10).rd (hc2.frN g10) o10.rd k10 hm2 n10 (by decide) hR1 j4') rfl ?_
  rintro _ w11 ⟨rfl, hf11⟩
  have g11 := g10.trans hf11
  clear o10 k10 n10 hf10 hf11 g10
  ((iterate 7 (((apply vL_val); (case h => ((apply opv_E); exact rfl))))); apply vL_nil; apply seqP_normal; apply vC_seq; apply vC_region; ((apply vL_val); (case h => ((apply opv_move); ((conv => lhs; whnf) <;> exact rfl)))))
  refine vL_callF rfl (batch25 7 1 0 1 w11 (by decide)) rfl ?_
  rintro _ w12 ⟨r12, y12, rfl, o12, k12, n12, _, hf12⟩
  have g12 := g11.trans hf12
  skip
  refine vL_callF rfl (putX (ho2.frN g12).rd (hc2.frN g12) o12.rd k12 hm2 n12 (by decide) hR1 j4' (by decide) ⟨by decide, by decide⟩ i1) rfl ?_
  rintro _ w13 ⟨v13, m13, rfl, S13, _, hm13⟩
  have g13 := g12.trans S13.fr
  (((apply vL_val); (case h => ((apply opv_E); exact rfl))); ((apply vL_val); (case h => ((apply opv_extract); (first | exact norm_eq rfl | ((conv => lhs; whnf) <;> exact rfl)); exact rfl))); ((apply vL_val); (case h => ((apply opv_E); exact rfl))); ((apply vL_val); (case h => ((apply opv_assign); ((conv => lhs; whnf) <;> exact rfl)))); ((apply vL_val); (case h => ((apply opv_E); exact rfl))); apply vL_nil; apply seqP_normal; apply vC_seq; apply vC_region; ((apply vL_val); (case h => ((apply opv_move); ((conv => lhs; whnf) <;> exact rfl)))))
  refine vL_callF rfl (batch25 7 0 2 1 w13 (by decide)) rfl ?_
  rintro _ w14 ⟨r14, y14, rfl, o14, k14, n14, _, hf14⟩
  have g14 := g13.trans hf14
  skip
  refine vL_callF rfl (judgeX (S13.ho.frN hf14).rd (S13.rcIn.frN hf14) o14.rd k14 hm13 n14 (by decide) hR2 j5') rfl ?_
  rintro _ w15 ⟨rfl, hf15⟩
  have g15 := g14.trans hf15
  ((iterate 7 (((apply vL_val); (case h => ((apply opv_E); exact rfl))))); apply vL_nil; apply seqP_normal; apply vC_seq; apply vC_region; (iterate 3 (((apply vL_val); (case h => ((apply opv_E); exact rfl))))); ((apply vL_wanted); exact rfl); (iterate 3 (((apply vL_val); (case h => ((apply opv_E); exact rfl))))); ((apply vL_wanted); exact rfl); ((apply vL_val); (case h => ((apply opv_E); exact rfl))); ((apply vL_wanted); exact rfl); (iterate 3 (((apply vL_val); (case h => ((apply opv_E); exact rfl))))); ((apply vL_wanted); exact rfl); ((apply vL_val); (case h => ((apply opv_E); exact rfl))); ((apply vL_wanted); exact rfl); (iterate 3 (((apply vL_val); (case h => ((apply opv_E); exact rfl))))); ((apply vL_wanted); exact rfl); ((apply vL_val); (case h => ((apply opv_E); exact rfl))); ((apply vL_wanted); exact rfl); (iterate 3 (((apply vL_val); (case h => ((apply opv_E); exact rfl))))); ((apply vL_wanted); exact rfl); ((apply vL_val); (case h => ((apply opv_E); exact rfl))); ((apply vL_wanted); exact rfl); ((apply vL_val); (case h => ((apply opv_not); exact rfl))); (iterate 2 (((apply vL_val); (case h => ((apply opv_E); exact rfl))))); ((apply vL_wanted); exact rfl); ((apply vL_val); (case h => ((apply opv_E); exact rfl))); ((apply vL_wanted); exact rfl); (iterate 3 (((apply vL_val); (case h => ((apply opv_E); exact rfl))))); ((apply vL_wanted); exact rfl); ((apply vL_val); (case h => ((apply opv_E); exact rfl))); ((apply vL_wanted); exact rfl); (iterate 3 (((apply vL_val); (case h => ((apply opv_E); exact rfl))))); ((apply vL_wanted); exact rfl); ((apply vL_val); (case h => ((apply opv_E); exact rfl))); ((apply vL_wanted); exact rfl); (iterate 3 (((apply vL_val); (case h => ((apply opv_E); exact rfl))))); apply vL_nil; apply seqP_normal; apply vC_ret)
  (apply ret1; (case h1 => (first | exact norm_eq rfl | ((conv => lhs; whnf) <;> exact rfl))))
  exact ⟨rfl, hf2.trans g15⟩
end Go.Proofs.Ytffgecomdlnngaa

set_option maxRecDepth 100000
namespace Go.Proofs.Ytffgecomdlnngaa
open Go Go.Eng
theorem RcOk.app {r : Int × Int × Int} (hr : rOk r) : ∀ (rs : List (Int × Int × Int)), (rs = [] ∨ RcOk r.1 rs) → RcOk (r.1 + r.2.1) (rs ++ [r])
  | [], _ => ⟨hr, rfl⟩
  | [x], h => by
    rcases h with h | h
    · cases h
    · exact ⟨h.1, h.2.symm, hr, rfl⟩
  | x :: y :: t, h => by
    rcases h with h | h
    · cases h
    · exact ⟨h.1, h.2.1, RcOk.app hr (y :: t) (.inr h.2.2)⟩
theorem newRs_ok {ep ep0 : Int} {rs0 : List (Int × Int × Int)} {r : Int × Int × Int} (hr : rOk r) (hl : rs0.length ≤ 5) (h : ep0 = ep → rs0 = [] ∨ RcOk r.1 rs0) : RcOk (r.1 + r.2.1) (newRs ep ep0 rs0 r) ∧ (newRs ep ep0 rs0 r).length ≤ 5 := by
  unfold newRs
  have key : RcOk (r.1 + r.2.1) ((if ep0 = ep then rs0 else []) ++ [r]) ∧ (if ep0 = ep then rs0 else []).length ≤ 5 := by
    by_cases he : ep0 = ep
    · rw [if_pos he]; exact ⟨RcOk.app hr _ (h he), hl⟩
    · rw [if_neg he]; exact ⟨RcOk.app hr _ (.inl rfl), Nat.zero_le 5⟩
  generalize (if ep0 = ep then rs0 else []) = X at key ⊢
  obtain ⟨k1, k2⟩ := key
  by_cases h5 : 5 < (X ++ [r]).length
  · rw [if_pos h5]
    simp only [List.length_append, List.length_singleton] at h5
    match X, k1, k2, h5 with
    | x :: y :: t, k1, k2, _ => exact ⟨k1.2.2, by simp at k2 ⊢; omega⟩
    | [x], _, _, h5 => simp at h5
    | [], _, _, h5 => simp at h5
  · rw [if_neg h5]
    exact ⟨k1, by omega⟩
theorem gF_cons (p : F25) (t : List F25) (pid : Int) : gF (p :: t) pid = if p.1 = pid then some p else gF t pid := by
  unfold gF
  rw [List.find?_cons]
  by_cases h : p.1 = pid
  · rw [decide_eq_true h, if_pos h]
  · rw [decide_eq_false h, if_neg h]
theorem RF.lt : ∀ {l : List F25} {last : Int}, RF last l → ∀ p ∈ l, last < p.1
  | [], _, _, p, hp => by cases hp
  | x :: t, last, h, p, hp => by
    rcases List.mem_cons.1 hp with rfl | hp
    · exact h.1.1.1
    · have := RF.lt h.2 p hp
      have := h.1.1.1
      omega
theorem RF.none {l : List F25} {last pid : Int} (h : RF last l) (hp : pid ≤ last) : gF l pid = none :=
  find_none (fun x hx => decide_eq_false (fun he => by have := RF.lt h x hx; omega))
/-- what is asked of the producer that a new batch finds -/
def Meets (o : Option F25) (ep fi : Int) : Prop := match o with
  | none => fi = 0
  | some p => p.2.1 ≤ ep ∧ (p.2.1 < ep → fi = 0) ∧ (p.2.1 = ep → fi = p.2.2.1)
theorem jF_new {L : List F25} {pid ep fi : Int} {n : Nat} (h0 : (jF L pid ep fi n).2.2 = 0) (hg : (jF L pid ep fi n).2.1 = false) (hp : pid ≠ 0) : Meets (gF L pid) ep fi ∧ (gF L pid = none → L.length ≠ 64) := by
  have key : ∀ nx rs, (j1 nx rs fi n).2.2 = 0 → (j1 nx rs fi n).2.1 = false → fi = nx := by
    intro nx rs h1 h2
    unfold j1 at h1 h2
    by_cases h : fi = nx
    · exact h
    rw [if_neg h] at h1 h2
    cases hf : rs.find? (fun r => decide (r.1 = fi ∧ r.2.1 = (n : Int))) with
    | some r => rw [hf] at h2; cases h2
    | none =>
      rw [hf] at h1
      simp only at h1
      split at h1 <;> cases h1
  unfold jF at h0 hg
  rw [if_neg hp] at h0 hg
  cases hG : gF L pid with
  | none =>
    rw [hG] at h0 hg
    simp only at h0 hg
    by_cases h64 : L.length = 64
    · rw [if_pos h64] at h0; cases h0
    · rw [if_neg h64] at h0 hg
      exact ⟨key _ _ h0 hg, fun _ => h64⟩
  | some p =>
    rw [hG] at h0 hg
    simp only at h0 hg
    refine ⟨?_, fun h => by cases h⟩
    by_cases h1 : ep < p.2.1
    · rw [if_pos h1] at h0; cases h0
    rw [if_neg h1] at h0 hg
    by_cases h2 : p.2.1 < ep
    · rw [if_pos h2] at h0 hg
      have := key _ _ h0 hg
      exact ⟨by omega, fun _ => this, fun h => by omega⟩
    · rw [if_neg h2] at h0 hg
      have := key _ _ h0 hg
      exact ⟨by omega, fun h => by omega, fun _ => this⟩
theorem ins_right {pid ep fi : Int} {n : Nat} {off : Int} (hpb : pid ≤ 4611686018427387904) (hep : 0 ≤ ep ∧ ep ≤ 1073741824) (hfi : 0 ≤ fi ∧ fi ≤ 4611686018427387904) (hn : 1 ≤ n ∧ n ≤ 256) (ho : okOff off) : ∀ (L : List F25) (last : Int), RF last L → last < pid → Meets (gF L pid) ep fi →
    RF last (insF pid ep fi n off L) ∧ (insF pid ep fi n off L).length = L.length + (if gF L pid = none then 1 else 0) := by
  have hr : rOk (fi, (n : Int), off) := ⟨by show (1 : Int) ≤ n; omega, by show (n : Int) ≤ 256; omega, hfi.1, hfi.2, ho.1, ho.2⟩
  have new0 : ∀ last, last < pid → fi = 0 → PrF last (nwF pid ep fi n off 0 []) := fun last hl h0 => by
    obtain ⟨h1, h2⟩ := newRs_ok (ep := ep) (ep0 := 0) (rs0 := []) hr (Nat.zero_le 5) (fun _ => .inl rfl)
    exact ⟨⟨hl, hpb, hep.1, hep.2, by show (1 : Int) ≤ fi + n; omega, by show fi + (n : Int) ≤ 4611686018427388160; omega, h2⟩, h1⟩
  intro L
  induction L with
  | nil =>
    intro last _ hl hm
    exact ⟨⟨new0 last hl hm, trivial⟩, rfl⟩
  | cons p t ih =>
    intro last hR hl hm
    rw [gF_cons] at hm
    rw [gF_cons]
    unfold insF
    by_cases h1 : p.1 < pid
    · rw [if_pos h1]
      rw [if_neg (show ¬ p.1 = pid by omega)] at hm ⊢
      obtain ⟨i1, i2⟩ := ih p.1 hR.2 h1 hm
      exact ⟨⟨hR.1, i1⟩, by rw [List.length_cons, List.length_cons, i2]; omega⟩
    rw [if_neg h1]
    by_cases h2 : p.1 = pid
    · rw [if_pos h2] at hm
      rw [if_pos h2, if_pos h2]
      obtain ⟨m1, m2, m3⟩ := hm
      obtain ⟨h3, h4⟩ := newRs_ok (ep := ep) (ep0 := p.2.1) (rs0 := p.2.2.2) hr hR.1.1.2.2.2.2.2.2 (fun he => .inr (by rw [show (fi, (n : Int), off).1 = p.2.2.1 from m3 he]; exact hR.1.2))
      refine ⟨⟨⟨⟨hl, hpb, hep.1, hep.2, by show (1 : Int) ≤ fi + n; omega, by show fi + (n : Int) ≤ 4611686018427388160; omega, h4⟩, h3⟩, ?_⟩, by simp⟩
      rw [show (nwF pid ep fi n off p.2.1 p.2.2.2).1 = p.1 from h2.symm]
      exact hR.2
    · rw [if_neg h2] at hm
      rw [if_neg h2, if_neg h2]
      have hno : gF t pid = none := RF.none hR.2 (by omega)
      rw [hno] at hm
      refine ⟨⟨new0 last hl hm, ⟨⟨by show pid < p.1; omega, hR.1.1.2⟩, hR.1.2⟩, hR.2⟩, by rw [hno]; rfl⟩
theorem gF_ins_other {pid ep fi : Int} {n : Nat} {off o : Int} (h : o ≠ pid) : ∀ (L : List F25), gF (insF pid ep fi n off L) o = gF L o := by
  intro L
  have hq : ∀ ep0 rs0, ¬ (nwF pid ep fi n off ep0 rs0).1 = o := fun _ _ he => h he.symm
  induction L with
  | nil => unfold insF; rw [gF_cons, if_neg (hq _ _)]
  | cons p t ih =>
    unfold insF
    by_cases h1 : p.1 < pid
    · rw [if_pos h1, gF_cons, gF_cons, ih]
    rw [if_neg h1]
    by_cases h2 : p.1 = pid
    · rw [if_pos h2, gF_cons, if_neg (hq _ _), gF_cons, if_neg (by omega)]
    · rw [if_neg h2, gF_cons, if_neg (hq _ _)]
def was (o : Option F25) : Int × List (Int × Int × Int) := match o with | none => (0, []) | some p => (p.2.1, p.2.2.2)
theorem gF_ins_same {pid ep fi : Int} {n : Nat} {off : Int} : ∀ (L : List F25) (last : Int), RF last L → gF (insF pid ep fi n off L) pid = some (nwF pid ep fi n off (was (gF L pid)).1 (was (gF L pid)).2) := by
  have hq : ∀ ep0 rs0, (nwF pid ep fi n off ep0 rs0).1 = pid := fun _ _ => rfl
  intro L
  induction L with
  | nil => intro last _; unfold insF; rw [gF_cons, if_pos (hq _ _)]; rfl
  | cons p t ih =>
    intro last hR
    unfold insF
    by_cases h1 : p.1 < pid
    · rw [if_pos h1, gF_cons, if_neg (by omega), gF_cons, if_neg (by omega), ih p.1 hR.2]
    rw [if_neg h1]
    by_cases h2 : p.1 = pid
    · rw [if_pos h2, gF_cons, if_pos (hq _ _), gF_cons, if_pos h2]; rfl
    · rw [if_neg h2, gF_cons, if_pos (hq _ _), gF_cons, if_neg h2, RF.none hR.2 (show pid ≤ p.1 by omega)]; rfl
theorem may_iff {pid ep fi : Int} {ns : List Nat} (h : mayB pid ep fi ns = true) : 0 ≤ pid ∧ pid ≤ 4611686018427387904 ∧ (0 ≤ ep ∧ ep ≤ 1073741824) ∧ (0 ≤ fi ∧ fi ≤ 4611686018427387904) ∧ (1 ≤ ns.length ∧ ns.length ≤ 256) := by
  have := of_decide_eq_true h
  exact ⟨this.1.1, this.1.2.1, ⟨this.1.2.2.1, this.1.2.2.2.1⟩, this.1.2.2.2.2, this.2.1.1, this.2.1.2.1⟩
theorem ins_rightF {L : List F25} {pid ep fi : Int} {ns : List Nat} {off : Int} (hm : mayB pid ep fi ns = true) (ho : okOff off) (hR : RightF L) (h0 : (jF L pid ep fi ns.length).2.2 = 0) (hg : (jF L pid ep fi ns.length).2.1 = false) (hp : pid ≠ 0) : RightF (insF pid ep fi ns.length off L) ∧ L.length ≤ (insF pid ep fi ns.length off L).length := by
  obtain ⟨m1, m2, m3, m4, m5⟩ := may_iff hm
  obtain ⟨n1, n2⟩ := jF_new h0 hg hp
  obtain ⟨r1, r2⟩ := ins_right m2 m3 m4 m5 ho L 0 hR.1 (by omega) n1
  refine ⟨⟨r1, ?_⟩, by rw [r2]; omega⟩
  rw [r2]
  have := hR.2
  by_cases hG : gF L pid = none
  · rw [if_pos hG]; have := n2 hG; omega
  · rw [if_neg hG]; omega
end Go.Proofs.Ytffgecomdlnngaa

set_option maxRecDepth 100000
namespace Go.Proofs.Ytffgecomdlnngaa
open Go Go.Eng
def judgeP (L : List F25) (pid ep fi : Int) (ns : List Nat) (t : Int × Bool × Int) : Prop := ((mayB pid ep fi ns = true ∧ RightF L) → t = jF L pid ep fi ns.length) ∧ (¬ (mayB pid ep fi ns = true ∧ RightF L) → t = (0, false, 2))
theorem judgeG {v : Value} {l : List PR} {pid ep fi : Int} {rv : OV} {ys : List (OV × Nat)} {w : World} (hr : Rd w.heap 4 prE v l) (hin : RcIn w.heap l) (hrb : Rd w.heap 1 byE rv.1 ys) (hy : ByOk ys) :
    Rets Try.prog 8 #[v, .agg #[.int .i64 pid, .int .i64 ep, .int .i64 fi, rv.1]] w fun u w' => ∃ t, u = tJ t ∧ judgeP (l.map PR.f) pid ep fi (ys.map (·.2)) t ∧ Fr No w w' := by
  refine (judge25 v l pid ep fi rv ys w hr hin hrb hy).mono ?_
  rintro u w' ⟨⟨h1, h2⟩, hf⟩
  have hl : (ys.map (·.2)).length = ys.length := List.length_map ..
  by_cases h : mayB pid ep fi (ys.map (·.2)) = true ∧ RightOk l
  · refine ⟨_, ?_, ⟨fun _ => rfl, fun hn => absurd ⟨h.1, (right_F l).1 h.2⟩ hn⟩, hf⟩
    rw [h1 h, judgeV_F, hl]
  · exact ⟨(0, false, 2), h2 h, ⟨fun hn => absurd ⟨hn.1, (right_F l).2 hn.2⟩ h, fun _ => rfl⟩, hf⟩
theorem jF_ne2 (L : List F25) (pid ep fi : Int) (n : Nat) : (jF L pid ep fi n).2.2 ≠ 2 := by
  have key : ∀ nx rs, (j1 nx rs fi n).2.2 ≠ 2 := by
    intro nx rs
    unfold j1
    split
    · decide
    · split
      · show (0 : Int) ≠ 2; decide
      · split <;> (first | (show (251 : Int) ≠ 2; decide) | (show (252 : Int) ≠ 2; decide))
  unfold jF
  split
  · decide
  · split
    · split
      · decide
      · exact key _ _
    · split
      · decide
      · split
        · exact key _ _
        · exact key _ _
theorem others_plain {l m : List PR} {pid ep fi off er : Int} {ns : List Nat} {t1 t2 : Int × Bool × Int} {o oe of : Int} {os : List Nat} (h : PutR l pid ep fi ns off er m) (he : er = 0) (hne : o ≠ pid) (h1 : judgeP (l.map PR.f) o oe of os t1) (h2 : judgeP (m.map PR.f) o oe of os t2) :
    t1 = t2 ∨ (t2.2.2 = 5 ∧ m.length = 64 ∧ t1.2.2 ≠ 2) := by
  rcases h.cases with ⟨h, _⟩ | ⟨⟨hm, hR⟩, ho, _, h0, h⟩
  · exact absurd he h
  have hRM : RightF (m.map PR.f) ∧ (l.map PR.f).length ≤ (m.map PR.f).length ∧ gF (m.map PR.f) o = gF (l.map PR.f) o := by
    rcases h with ⟨_, h⟩ | ⟨hg, hp, h⟩
    · rw [h]; exact ⟨hR, Nat.le_refl _, rfl⟩
    · rw [h]
      obtain ⟨r1, r2⟩ := ins_rightF hm ho hR h0 hg hp
      exact ⟨r1, r2, gF_ins_other hne _⟩
  by_cases hmo : mayB o oe of os = true
  rotate_left
  · exact .inl ((h1.2 (fun h => hmo h.1)).trans (h2.2 (fun h => hmo h.1)).symm)
  have e1 := h1.1 ⟨hmo, hR⟩
  have e2 := h2.1 ⟨hmo, hRM.1⟩
  have hne2 : t1.2.2 ≠ 2 := by rw [e1]; exact jF_ne2 _ _ _ _ _
  by_cases ho0 : o = 0
  · left; rw [e1, e2]; unfold jF; rw [if_pos ho0, if_pos ho0]
  unfold jF at e1 e2
  rw [if_neg ho0] at e1 e2
  rw [hRM.2.2] at e2
  cases hG : gF (l.map PR.f) o with
  | some p =>
    rw [hG] at e1 e2
    exact .inl (e1.trans e2.symm)
  | none =>
    rw [hG] at e1 e2
    simp only at e1 e2
    by_cases h64 : (m.map PR.f).length = 64
    · rw [if_pos h64] at e2
      exact .inr ⟨by rw [e2], by simpa using h64, hne2⟩
    · have := hRM.1.2
      have := hRM.2.1
      rw [if_neg h64] at e2
      rw [if_neg (by omega)] at e1
      exact .inl (e1.trans e2.symm)
theorem others25 (v : Value) (l : List PR) (p1 e1 f1 p2 e2 f2 off : Int) (r1 r2 : OV) (y1 y2 : List (OV × Nat)) (w : World) (hr : Rd w.heap 4 prE v l) (hin : RcIn w.heap l) (hr1 : Rd w.heap 1 byE r1.1 y1) (hy1 : ByOk y1) (hr2 : Rd w.heap 1 byE r2.1 y2) (hy2 : ByOk y2) :
    Rets Try.prog 5 #[v, .agg #[.int .i64 p1, .int .i64 e1, .int .i64 f1, r1.1, .int .i64 p2, .int .i64 e2, .int .i64 f2, r2.1], .int .i64 off] w fun u w' => u = .bool true ∧ Fr No w w' := by
  have ho1 := r1.2
  have ho2 := r2.2
  obtain ⟨va, vc, ev⟩ := hr.len
  have hsm := hr.small
  have hs1 := hr1.small
  have hs2 := hr2.small
  obtain ⟨a1, c1, er1⟩ := hr1.len
  obtain ⟨a2, c2, er2⟩ := hr2.len
  refine rets_of Try.func5 rfl Try.ntmps5 rfl rfl (by kernel_rfl) ?_
  (repeat (first | with_reducible apply vC_seq | with_reducible apply vC_region | with_reducible apply seqP_normal | with_reducible apply vC_block | with_reducible apply vC_ret | with_reducible apply vC_skip | with_reducible apply vC_exit | with_reducible apply seqP_ret | with_reducible apply seqP_exit | with_reducible apply blockP_normal | with_reducible apply blockP_ret | with_reducible apply blockP_exit | ((with_reducible apply blockP_pass); exact rfl) | with_reducible apply loopP_normal | with_reducible apply vL_ac | with_reducible apply vL_an | with_reducible apply loopP_ret | with_reducible apply loopP_exit | ((with_reducible apply vC_cond_true); exact rfl) | ((with_reducible apply vC_cond_false); exact rfl) | with_reducible apply vC_scope | with_reducible apply gotoP_normal | with_reducible apply gotoP_ret | with_reducible apply gotoP_exit | with_reducible apply vC_label)); (repeat (first | ((with_reducible apply vL_val); (case h => first | ((with_reducible apply opv_E); exact rfl) | ((with_reducible apply opv_loadb1); exact rfl; exact rfl; (first | assumption | infer_instance); exact rfl) | ((with_reducible apply opv_fieldAddr); exact rfl) | ((with_reducible apply opv_move); ((conv => lhs; whnf) <;> exact rfl)) | ((with_reducible apply opv_assign); ((conv => lhs; whnf) <;> exact rfl)) | ((with_reducible apply opv_add); exact rfl; exact rfl; (first | omega | (simp only [List.length_map]; omega))) | ((with_reducible apply opv_sub); exact rfl; exact rfl; (first | omega | (simp only [List.length_map]; omega))) | ((with_reducible apply opv_indexAddr); (first | exact norm_eq rfl | ((conv => lhs; whnf) <;> exact rfl)); exact rfl; (first | assumption | infer_instance); (first | omega | (simp only [List.length_map]; omega)); (first | omega | (simp only [List.length_map]; omega))) | ((with_reducible apply opv_fieldAddr_ea); exact rfl) | ((with_reducible apply opv_ld_el); exact rfl; exact rfl; (first | assumption | infer_instance); assumption; exact rfl) | ((with_reducible apply opv_ld_eln); exact rfl; exact rfl; (first | assumption | infer_instance); assumption) | ((with_reducible apply opv_lenc); exact rfl) | ((with_reducible apply opv_len); (first | exact norm_eq rfl | ((conv => lhs; whnf) <;> exact rfl)); (first | assumption | infer_instance)) | ((with_reducible apply opv_not_d); exact rfl) | ((with_reducible apply opv_not); exact rfl) | ((with_reducible apply opv_loadbC); exact rfl; exact rfl; (first | assumption | infer_instance); (first | exact (rfl : _ = [_]) | exact (rfl : _ = [_, _]) | exact (rfl : _ = [_, _, _]) | exact (rfl : _ = [_, _, _, _]) | exact (rfl : _ = [_, _, _, _, _]) | exact (rfl : _ = [_, _, _, _, _, _]) | exact (rfl : _ = [_, _, _, _, _, _, _]) | exact (rfl : _ = [_, _, _, _, _, _, _, _]) | exact (rfl : _ = [_, _, _, _, _, _, _, _, _]) | exact (rfl : _ = [_, _, _, _, _, _, _, _, _, _]) | exact (rfl : _ = [_, _, _, _, _, _, _, _, _, _, _]) | exact (rfl : _ = [_, _, _, _, _, _, _, _, _, _, _, _])); exact rfl) | ((with_reducible apply opv_loadb); exact rfl; exact rfl; (first | assumption | infer_instance); exact rfl) | ((with_reducible apply opv_makeFunc); exact rfl) | ((with_reducible apply opv_eql_pnil); exact rfl; exact rfl; (simp; done)) | ((with_reducible apply opv_neq_pnil); exact rfl; exact rfl; (simp; done)) | ((with_reducible apply opv_indexAddr_arr); exact rfl; exact rfl; (first | omega | (simp only [List.length_map]; omega)); (first | omega | (simp only [List.length_map]; omega))) | ((with_reducible apply opv_indexAddr_ea); exact rfl; exact rfl; (first | omega | (simp only [List.length_map]; omega)); (first | omega | (simp only [List.length_map]; omega))) | ((with_reducible apply opv_len_str); exact rfl) | ((with_reducible apply opv_eql_str); exact rfl; exact rfl) | ((with_reducible apply opv_neq_str); exact rfl; exact rfl) | ((with_reducible apply opv_eql_bool); exact rfl; exact rfl) | ((with_reducible apply opv_neq_bool); exact rfl; exact rfl) | ((with_reducible apply opv_eql_agg); exact rfl; exact rfl; (first | exact ⟨rfl, rfl, trivial⟩ | exact ⟨rfl, trivial⟩ | exact ⟨rfl, rfl, rfl, trivial⟩ | exact ⟨rfl, rfl, rfl, rfl, trivial⟩ | exact ⟨rfl, rfl, rfl, rfl, rfl, trivial⟩); (first | exact ⟨rfl, rfl, trivial⟩ | exact ⟨rfl, trivial⟩ | exact ⟨rfl, rfl, rfl, trivial⟩ | exact ⟨rfl, rfl, rfl, rfl, trivial⟩ | exact ⟨rfl, rfl, rfl, rfl, rfl, trivial⟩)) | ((with_reducible apply opv_neq_agg); exact rfl; exact rfl; (first | exact ⟨rfl, rfl, trivial⟩ | exact ⟨rfl, trivial⟩ | exact ⟨rfl, rfl, rfl, trivial⟩ | exact ⟨rfl, rfl, rfl, rfl, trivial⟩ | exact ⟨rfl, rfl, rfl, rfl, rfl, trivial⟩); (first | exact ⟨rfl, rfl, trivial⟩ | exact ⟨rfl, trivial⟩ | exact ⟨rfl, rfl, rfl, trivial⟩ | exact ⟨rfl, rfl, rfl, rfl, trivial⟩ | exact ⟨rfl, rfl, rfl, rfl, rfl, trivial⟩)) | ((with_reducible apply opv_extract); (first | exact norm_eq rfl | ((conv => lhs; whnf) <;> exact rfl)); exact rfl) | ((with_reducible apply opv_field1); exact rfl; exact rfl) | ((with_reducible apply opv_fieldn); exact rfl) | ((with_reducible apply opv_mul); exact rfl; exact rfl; (first | omega | (simp only [List.length_map]; omega))) | ((with_reducible apply opv_neg); exact rfl; (first | omega | (simp only [List.length_map]; omega))) | ((with_reducible apply opv_rem); exact rfl; exact rfl; (first | omega | (simp only [List.length_map]; omega)); (first | omega | (simp only [List.length_map]; omega))) | ((with_reducible apply opv_quo); exact rfl; exact rfl; (first | omega | (simp only [List.length_map]; omega)); (first | omega | (simp only [List.length_map]; omega))) | ((with_reducible apply opv_quou); exact rfl; exact rfl; (first | omega | (simp only [List.length_map]; omega)); (first | omega | (simp only [List.length_map]; omega))) | ((with_reducible apply opv_buildA); exact rfl; (first | exact (rfl : _ = some []) | exact (rfl : _ = some [_]) | exact (rfl : _ = some [_, _]) | exact (rfl : _ = some [_, _, _]) | exact (rfl : _ = some [_, _, _, _]) | exact (rfl : _ = some [_, _, _, _, _]) | exact (rfl : _ = some [_, _, _, _, _, _]) | exact (rfl : _ = some [_, _, _, _, _, _, _]) | exact (rfl : _ = some [_, _, _, _, _, _, _, _]) | exact (rfl : _ = some [_, _, _, _, _, _, _, _, _]) | exact (rfl : _ = some [_, _, _, _, _, _, _, _, _, _]) | exact (rfl : _ = some [_, _, _, _, _, _, _, _, _, _, _]) | exact (rfl : _ = some [_, _, _, _, _, _, _, _, _, _, _, _]) | exact (rfl : _ = some [_, _, _, _, _, _, _, _, _, _, _, _, _]) | exact (rfl : _ = some [_, _, _, _, _, _, _, _, _, _, _, _, _, _]) | exact (rfl : _ = some [_, _, _, _, _, _, _, _, _, _, _, _, _, _, _]) | exact (rfl : _ = some [_, _, _, _, _, _, _, _, _, _, _, _, _, _, _, _]))) | ((with_reducible apply opv_buildS); exact rfl; (first | exact (rfl : _ = some []) | exact (rfl : _ = some [_]) | exact (rfl : _ = some [_, _]) | exact (rfl : _ = some [_, _, _]) | exact (rfl : _ = some [_, _, _, _]) | exact (rfl : _ = some [_, _, _, _, _]) | exact (rfl : _ = some [_, _, _, _, _, _]) | exact (rfl : _ = some [_, _, _, _, _, _, _]) | exact (rfl : _ = some [_, _, _, _, _, _, _, _]) | exact (rfl : _ = some [_, _, _, _, _, _, _, _, _]) | exact (rfl : _ = some [_, _, _, _, _, _, _, _, _, _]) | exact (rfl : _ = some [_, _, _, _, _, _, _, _, _, _, _]) | exact (rfl : _ = some [_, _, _, _, _, _, _, _, _, _, _, _]) | exact (rfl : _ = some [_, _, _, _, _, _, _, _, _, _, _, _, _]) | exact (rfl : _ = some [_, _, _, _, _, _, _, _, _, _, _, _, _, _]) | exact (rfl : _ = some [_, _, _, _, _, _, _, _, _, _, _, _, _, _, _]) | exact (rfl : _ = some [_, _, _, _, _, _, _, _, _, _, _, _, _, _, _, _]))) | ((with_reducible apply opv_eql_snil); exact rfl; exact rfl) | ((with_reducible apply opv_eql_fnil); exact rfl; exact rfl) | ((with_reducible apply opv_eql_fnil2); exact rfl; exact rfl) | ((with_reducible apply opv_slice_hi'); exact rfl; exact rfl; (first | omega | (simp only [List.length_map]; omega)); (first | omega | (simp only [List.length_map]; omega))) | ((with_reducible apply opv_slice_lo'); exact rfl; exact rfl; (first | omega | (simp only [List.length_map]; omega)); (first | omega | (simp only [List.length_map]; omega))) | ((with_reducible apply opv_slice_lh'); exact rfl; exact rfl; exact rfl; (first | omega | (simp only [List.length_map]; omega)); (first | omega | (simp only [List.length_map]; omega)); (first | omega | (simp only [List.length_map]; omega))) | ((with_reducible apply opv_slice3); exact rfl; exact rfl; exact rfl; exact rfl; (first | omega | (simp only [List.length_map]; omega)); (first | omega | (simp only [List.length_map]; omega)); (first | omega | (simp only [List.length_map]; omega)); (first | omega | (simp only [List.length_map]; omega))) | ((with_reducible apply opv_conv_u); exact rfl; (first | omega | (simp only [List.length_map]; omega))) | ((with_reducible apply opv_conv_i); exact rfl; (first | omega | (simp only [List.length_map]; omega))) | ((with_reducible apply opv_index_str); exact rfl; exact rfl; (first | omega | (simp only [List.length_map]; omega)); assumption) | ((with_reducible apply opv_geqS); exact rfl; exact rfl) | ((with_reducible apply opv_lssS); exact rfl; exact rfl) | ((with_reducible apply opv_leqS); exact rfl; exact rfl) | ((with_reducible apply opv_min); exact rfl; exact rfl) | ((with_reducible apply opv_max); exact rfl; exact rfl) | ((with_reducible apply opv_eql_ptr); exact rfl; exact rfl; exact rfl; (first | assumption | infer_instance); (first | assumption | infer_instance)) | ((with_reducible apply opv_neq_ptr); exact rfl; exact rfl; exact rfl; (first | assumption | infer_instance); (first | assumption | infer_instance)))) | with_reducible apply vL_nil | first | ((with_reducible apply vL_wanted); exact rfl) | ((with_reducible apply vL_unwanted'); exact rfl; exact rfl) | ((with_reducible apply vL_unwanted_none); exact rfl) | ((with_reducible apply vL_val); (case h => first | ((with_reducible apply opw_box1); (first | exact norm_eq rfl | ((conv => lhs; whnf) <;> exact rfl)); (first | rfl | assumption)) | ((with_reducible apply opw_boxn); exact rfl) | (with_reducible apply opw_alloc) | ((with_reducible apply opw_buildSl); exact rfl; exact rfl; exact rfl; (first | exact (rfl : _ = some []) | exact (rfl : _ = some [_]) | exact (rfl : _ = some [_, _]) | exact (rfl : _ = some [_, _, _]) | exact (rfl : _ = some [_, _, _, _]) | exact (rfl : _ = some [_, _, _, _, _]) | exact (rfl : _ = some [_, _, _, _, _, _]) | exact (rfl : _ = some [_, _, _, _, _, _, _]) | exact (rfl : _ = some [_, _, _, _, _, _, _, _]) | exact (rfl : _ = some [_, _, _, _, _, _, _, _, _]) | exact (rfl : _ = some [_, _, _, _, _, _, _, _, _, _]) | exact (rfl : _ = some [_, _, _, _, _, _, _, _, _, _, _]) | exact (rfl : _ = some [_, _, _, _, _, _, _, _, _, _, _, _]) | exact (rfl : _ = some [_, _, _, _, _, _, _, _, _, _, _, _, _]) | exact (rfl : _ = some [_, _, _, _, _, _, _, _, _, _, _, _, _, _]) | exact (rfl : _ = some [_, _, _, _, _, _, _, _, _, _, _, _, _, _, _]) | exact (rfl : _ = some [_, _, _, _, _, _, _, _, _, _, _, _, _, _, _, _]))) | ((with_reducible apply opw_makeSlice); exact rfl; exact rfl; exact rfl; decide; (first | omega | (simp only [List.length_map]; omega)); (first | decide | (first | omega | (simp only [List.length_map]; omega))); (first | omega | (simp only [List.length_map]; omega))))) | ((with_reducible apply vL_skip); (case h => first | ((with_reducible apply ops_store1); (first | exact norm_eq rfl | ((conv => lhs; whnf) <;> exact rfl)); (first | exact norm_eq rfl | ((conv => lhs; whnf) <;> exact rfl)); (first | rfl | assumption); (first | assumption | infer_instance); (first | decide | exact of_decide_eq_true rfl | (simp; done))) | ((with_reducible apply ops_storen); (first | exact norm_eq rfl | ((conv => lhs; whnf) <;> exact rfl)); (first | exact norm_eq rfl | ((conv => lhs; whnf) <;> exact rfl)); exact rfl; (first | exact (fun u hu => EncOk.one _ u hu) | (intro u hu; simp at hu; rcases hu with rfl | rfl <;> (first | rfl | assumption)) | (intro u hu; simp at hu; rcases hu with rfl | rfl | rfl <;> (first | rfl | assumption)) | (intro u hu; simp at hu; rcases hu with rfl | rfl | rfl | rfl <;> (first | rfl | assumption))); (first | assumption | infer_instance); (first | decide | exact of_decide_eq_true rfl | (simp; done))))))); with_reducible apply seqP_normal
  (repeat (first | with_reducible apply vC_seq | with_reducible apply vC_region | with_reducible apply seqP_normal | with_reducible apply vC_block | with_reducible apply vC_ret | with_reducible apply vC_skip | with_reducible apply vC_exit | with_reducible apply seqP_ret | with_reducible apply seqP_exit | with_reducible apply blockP_normal | with_reducible apply blockP_ret | with_reducible apply blockP_exit | ((with_reducible apply blockP_pass); exact rfl) | with_reducible apply loopP_normal | with_reducible apply vL_ac | with_reducible apply vL_an | with_reducible apply loopP_ret | with_reducible apply loopP_exit | ((with_reducible apply vC_cond_true); exact rfl) | ((with_reducible apply vC_cond_false); exact rfl) | with_reducible apply vC_scope | with_reducible apply gotoP_normal | with_reducible apply gotoP_ret | with_reducible apply gotoP_exit | with_reducible apply vC_label))
  refine vC_gen (fun w' => Fr No w w' ∧ w.heap.size < w'.heap.size ∧ Blk w'.heap w.heap.size [.int .i64 p1, .int .i64 e1, .int .i64 f1, r1.1, .int .i64 p2, .int .i64 e2, .int .i64 f2, r2.1] 52) ⟨by (repeat (first | exact Fr.refl _ _ | assumption | with_reducible apply Fr.allocSet | with_reducible apply Fr.alloc | with_reducible apply Fr.drewN | with_reducible apply Fr.drew | ((with_reducible apply Fr.set); rotate_left; (right; ((try simp only [alloc_size]); omega))) | (refine Fr.trans ?_ (by assumption)))), by simp, inferInstance⟩ ?_
  rintro w1 ⟨hf1, hz1, hb1⟩
  generalize hbb : w.heap.size = bb at hb1 hz1 ⊢
  refine vC_draw' ((fun wf => Fr No w1 wf)) (by (first | exact trivial | assumption | infer_instance | ((repeat (first | exact Fr.refl _ _ | assumption | with_reducible apply Fr.allocSet | with_reducible apply Fr.alloc | with_reducible apply Fr.drewN | with_reducible apply Fr.drew | ((with_reducible apply Fr.set); rotate_left; (right; ((try simp only [alloc_size]); omega))) | (refine Fr.trans ?_ (by assumption)))); done))) ?_
  ((apply (tk 0)); (case hi => exact rfl); (case hf => kernel_rfl); (case hS => (repeat (first | exact Fr.refl _ _ | assumption | with_reducible apply Fr.allocSet | with_reducible apply Fr.alloc | with_reducible apply Fr.drewN | with_reducible apply Fr.drew | ((with_reducible apply Fr.set); rotate_left; (right; ((try simp only [alloc_size]); omega))) | (refine Fr.trans ?_ (by assumption))))); (case hy => (intro wf hwf; haveI := From.mk hwf; (((apply opv_fieldAddr); exact rfl)))))
  ((apply (tk 1)); (case hi => exact rfl); (case hf => kernel_rfl); (case hS => (repeat (first | exact Fr.refl _ _ | assumption | with_reducible apply Fr.allocSet | with_reducible apply Fr.alloc | with_reducible apply Fr.drewN | with_reducible apply Fr.drew | ((with_reducible apply Fr.set); rotate_left; (right; ((try simp only [alloc_size]); omega))) | (refine Fr.trans ?_ (by assumption))))); (case hy => (intro wf hwf; haveI := From.mk hwf; (((apply opv_loadbC); exact rfl; exact rfl; (first | assumption | infer_instance); (first | exact (rfl : _ = [_]) | exact (rfl : _ = [_, _]) | exact (rfl : _ = [_, _, _]) | exact (rfl : _ = [_, _, _, _]) | exact (rfl : _ = [_, _, _, _, _]) | exact (rfl : _ = [_, _, _, _, _, _]) | exact (rfl : _ = [_, _, _, _, _, _, _]) | exact (rfl : _ = [_, _, _, _, _, _, _, _]) | exact (rfl : _ = [_, _, _, _, _, _, _, _, _]) | exact (rfl : _ = [_, _, _, _, _, _, _, _, _, _]) | exact (rfl : _ = [_, _, _, _, _, _, _, _, _, _, _]) | exact (rfl : _ = [_, _, _, _, _, _, _, _, _, _, _, _])); exact rfl)))))
  ((apply (tk 2)); (case hi => exact rfl); (case hf => kernel_rfl); (case hS => (repeat (first | exact Fr.refl _ _ | assumption | with_reducible apply Fr.allocSet | with_reducible apply Fr.alloc | with_reducible apply Fr.drewN | with_reducible apply Fr.drew | ((with_reducible apply Fr.set); rotate_left; (right; ((try simp only [alloc_size]); omega))) | (refine Fr.trans ?_ (by assumption))))); (case hy => (intro wf hwf; haveI := From.mk hwf; (((apply opv_fieldAddr); exact rfl)))))
  ((apply (tk 3)); (case hi => exact rfl); (case hf => kernel_rfl); (case hS => (repeat (first | exact Fr.refl _ _ | assumption | with_reducible apply Fr.allocSet | with_reducible apply Fr.alloc | with_reducible apply Fr.drewN | with_reducible apply Fr.drew | ((with_reducible apply Fr.set); rotate_left; (right; ((try simp only [alloc_size]); omega))) | (refine Fr.trans ?_ (by assumption))))); (case hy => (intro wf hwf; haveI := From.mk hwf; (((apply opv_loadbC); exact rfl; exact rfl; (first | assumption | infer_instance); (first | exact (rfl : _ = [_]) | exact (rfl : _ = [_, _]) | exact (rfl : _ = [_, _, _]) | exact (rfl : _ = [_, _, _, _]) | exact (rfl : _ = [_, _, _, _, _]) | exact (rfl : _ = [_, _, _, _, _, _]) | exact (rfl : _ = [_, _, _, _, _, _, _]) | exact (rfl : _ = [_, _, _, _, _, _, _, _]) | exact (rfl : _ = [_, _, _, _, _, _, _, _, _]) | exact (rfl : _ = [_, _, _, _, _, _, _, _, _, _]) | exact (rfl : _ = [_, _, _, _, _, _, _, _, _, _, _]) | exact (rfl : _ = [_, _, _, _, _, _, _, _, _, _, _, _])); exact rfl)))))
  have ed : w1.drew.heap.size = w1.heap.size := rfl
  haveI k1 : NeB w1.drew.heap.size (w1.drew.alloc (.cells #[.int .i64 0, .int .i64 0, .int .i64 0, .slice none 0 0] 33)).heap.size := ⟨by rw [alloc_size]; omega⟩
  haveI k2 : NeB (w1.drew.alloc (.cells #[.int .i64 0, .int .i64 0, .int .i64 0, .slice none 0 0] 33)).heap.size w1.drew.heap.size := ⟨by rw [alloc_size]; omega⟩
  refine vA_two 4 5 rfl rfl (by kernel_rfl) (by (first | exact trivial | assumption | infer_instance | ((repeat (first | exact Fr.refl _ _ | assumption | with_reducible apply Fr.allocSet | with_reducible apply Fr.alloc | with_reducible apply Fr.drewN | with_reducible apply Fr.drew | ((with_reducible apply Fr.set); rotate_left; (right; ((try simp only [alloc_size]); omega))) | (refine Fr.trans ?_ (by assumption)))); done))) (fun K hK => ?_) (fun K hK => ?_)
  · (((apply vL_val); (case h => (apply opw_alloc))); apply vL_nil)
    refine ⟨rfl, hK _ _ ?_⟩
    refine vA_only 5 rfl (by kernel_rfl) (by (first | exact trivial | assumption | infer_instance | ((repeat (first | exact Fr.refl _ _ | assumption | with_reducible apply Fr.allocSet | with_reducible apply Fr.alloc | with_reducible apply Fr.drewN | with_reducible apply Fr.drew | ((with_reducible apply Fr.set); rotate_left; (right; ((try simp only [alloc_size]); omega))) | (refine Fr.trans ?_ (by assumption)))); done))) (fun K hK => ?_)
    (((apply vL_val); (case h => (apply opw_alloc))); apply vL_nil)
    refine ⟨rfl, hK _ _ ?_⟩
    refine vA_only 6 rfl (by kernel_rfl) (by (first | exact trivial | assumption | infer_instance | ((repeat (first | exact Fr.refl _ _ | assumption | with_reducible apply Fr.allocSet | with_reducible apply Fr.alloc | with_reducible apply Fr.drewN | with_reducible apply Fr.drew | ((with_reducible apply Fr.set); rotate_left; (right; ((try simp only [alloc_size]); omega))) | (refine Fr.trans ?_ (by assumption)))); done))) (fun K hK => ?_)
    (((apply vL_skip); (case h => ((apply ops_storen); (first | exact norm_eq rfl | ((conv => lhs; whnf) <;> exact rfl)); (first | exact norm_eq rfl | ((conv => lhs; whnf) <;> exact rfl)); exact rfl; (first | exact (fun u hu => EncOk.one _ u hu) | (intro u hu; simp at hu; rcases hu with rfl | rfl <;> (first | rfl | assumption)) | (intro u hu; simp at hu; rcases hu with rfl | rfl | rfl <;> (first | rfl | assumption)) | (intro u hu; simp at hu; rcases hu with rfl | rfl | rfl | rfl <;> (first | rfl | assumption))); (first | assumption | infer_instance); (first | decide | exact of_decide_eq_true rfl | (simp; done))))); apply vL_nil)
    refine ⟨rfl, hK _ _ ?_⟩
    refine vA_only 7 rfl (by kernel_rfl) (by (first | exact trivial | assumption | infer_instance | ((repeat (first | exact Fr.refl _ _ | assumption | with_reducible apply Fr.allocSet | with_reducible apply Fr.alloc | with_reducible apply Fr.drewN | with_reducible apply Fr.drew | ((with_reducible apply Fr.set); rotate_left; (right; ((try simp only [alloc_size]); omega))) | (refine Fr.trans ?_ (by assumption)))); done))) (fun K hK => ?_)
    (((apply vL_skip); (case h => ((apply ops_storen); (first | exact norm_eq rfl | ((conv => lhs; whnf) <;> exact rfl)); (first | exact norm_eq rfl | ((conv => lhs; whnf) <;> exact rfl)); exact rfl; (first | exact (fun u hu => EncOk.one _ u hu) | (intro u hu; simp at hu; rcases hu with rfl | rfl <;> (first | rfl | assumption)) | (intro u hu; simp at hu; rcases hu with rfl | rfl | rfl <;> (first | rfl | assumption)) | (intro u hu; simp at hu; rcases hu with rfl | rfl | rfl | rfl <;> (first | rfl | assumption))); (first | assumption | infer_instance); (first | decide | exact of_decide_eq_true rfl | (simp; done))))); apply vL_nil)
    refine ⟨rfl, hK _ _ ?_⟩
    refine vA_done (by kernel_rfl) (by (first | exact trivial | assumption | infer_instance | ((repeat (first | exact Fr.refl _ _ | assumption | with_reducible apply Fr.allocSet | with_reducible apply Fr.alloc | with_reducible apply Fr.drewN | with_reducible apply Fr.drew | ((with_reducible apply Fr.set); rotate_left; (right; ((try simp only [alloc_size]); omega))) | (refine Fr.trans ?_ (by assumption)))); done))) ?_
    refine vC_slots [0, 2, 7, 8] (fun vs w' => ∃ b7 b8, vs = [v, .int .i64 off, pt b7, pt b8] ∧ Fr No w w' ∧ Blk w'.heap b7 [.int .i64 p1, .int .i64 e1, .int .i64 f1, r1.1] 33 ∧ Blk w'.heap b8 [.int .i64 p2, .int .i64 e2, .int .i64 f2, r2.1] 33) ?_ ?_
    · exact ⟨_, _, rfl, hf1.trans (by (repeat (first | exact Fr.refl _ _ | assumption | with_reducible apply Fr.allocSet | with_reducible apply Fr.alloc | with_reducible apply Fr.drewN | with_reducible apply Fr.drew | ((with_reducible apply Fr.set); rotate_left; (right; ((try simp only [alloc_size]); omega))) | (refine Fr.trans ?_ (by assumption))))), inferInstance, inferInstance⟩
    rintro e2x _ w2 ⟨b7, b8, rfl, hf2, h7, h8⟩
    simp only [setAll]
    clear hb1 hz1 hf1 ed k1 k2
    have hrl := hr.frN hf2
    have hrl1 := hr1.frN hf2
    have hrl2 := hr2.frN hf2
    by_cases c1 : 100 < l.length
    · ((iterate 2 (apply vC_seq)); apply vC_region; ((apply vL_val); (case h => ((apply opv_move); ((conv => lhs; whnf) <;> exact rfl)))); ((apply vL_val); (case h => ((apply opv_len); (first | exact norm_eq rfl | ((conv => lhs; whnf) <;> exact rfl)); (first | assumption | infer_instance)))); (iterate 2 (((apply vL_val); (case h => ((apply opv_E); exact rfl))))); (refine vL_or rfl rfl (fun h => by omega) (fun _ => ?_)); (iterate 7 (((apply vL_unwanted'); exact rfl; exact rfl))); (iterate 2 (((apply vL_val); (case h => ((apply opv_E); exact rfl))))); (iterate 5 (((apply vL_unwanted'); exact rfl; exact rfl))); ((apply vL_val); (case h => ((apply opv_E); exact rfl))); apply vL_nil; apply seqP_normal; ((apply vC_cond_true); exact rfl); apply vC_seq; apply vC_region)
      refine vL_callF rfl (awake25 w2) rfl ?_
      rintro _ w3 ⟨rfl, hf3⟩
      (((apply vL_val); (case h => ((apply opv_E); exact rfl))); apply vL_nil; apply seqP_normal; apply vC_ret; apply seqP_ret)
      (apply ret1; (case h1 => (first | exact norm_eq rfl | ((conv => lhs; whnf) <;> exact rfl))))
      exact ⟨rfl, hf2.trans hf3⟩
    ((iterate 2 (apply vC_seq)); apply vC_region; ((apply vL_val); (case h => ((apply opv_move); ((conv => lhs; whnf) <;> exact rfl)))); ((apply vL_val); (case h => ((apply opv_len); (first | exact norm_eq rfl | ((conv => lhs; whnf) <;> exact rfl)); (first | assumption | infer_instance)))); (iterate 2 (((apply vL_val); (case h => ((apply opv_E); exact rfl))))); (refine vL_or rfl rfl (fun _ => ?_) (fun h => by omega)); ((apply vL_val); (case h => ((apply opv_fieldAddr); exact rfl))); ((apply vL_wanted); exact rfl); ((apply vL_val); (case h => ((apply opv_loadb1); exact rfl; exact rfl; (first | assumption | infer_instance); exact rfl))); ((apply vL_wanted); exact rfl); ((apply vL_val); (case h => ((apply opv_len); (first | exact norm_eq rfl | ((conv => lhs; whnf) <;> exact rfl)); (first | assumption | infer_instance)))); ((apply vL_wanted); exact rfl); ((apply vL_val); (case h => ((apply opv_fieldAddr); exact rfl))); ((apply vL_wanted); exact rfl); ((apply vL_val); (case h => ((apply opv_loadb1); exact rfl; exact rfl; (first | assumption | infer_instance); exact rfl))); ((apply vL_wanted); exact rfl); ((apply vL_val); (case h => ((apply opv_len); (first | exact norm_eq rfl | ((conv => lhs; whnf) <;> exact rfl)); (first | assumption | infer_instance)))); ((apply vL_wanted); exact rfl))
    refine vL_val (opv_add_w rfl rfl) ?_
    generalize IntKind.i64.wrap _ = sm
    by_cases c2 : 600 < sm
    · (((apply vL_wanted); exact rfl); (iterate 3 (((apply vL_val); (case h => ((apply opv_E); exact rfl))))); (refine vL_or rfl rfl (fun h => by omega) (fun _ => ?_)); (iterate 4 (((apply vL_unwanted'); exact rfl; exact rfl))); ((apply vL_val); (case h => ((apply opv_E); exact rfl))); apply vL_nil; apply seqP_normal; ((apply vC_cond_true); exact rfl); apply vC_seq; apply vC_region)
      refine vL_callF rfl (awake25 w2) rfl ?_
      rintro _ w3 ⟨rfl, hf3⟩
      (((apply vL_val); (case h => ((apply opv_E); exact rfl))); apply vL_nil; apply seqP_normal; apply vC_ret; apply seqP_ret)
      (apply ret1; (case h1 => (first | exact norm_eq rfl | ((conv => lhs; whnf) <;> exact rfl))))
      exact ⟨rfl, hf2.trans hf3⟩
    by_cases c3 : p2 = p1
    · (((apply vL_wanted); exact rfl); (iterate 3 (((apply vL_val); (case h => ((apply opv_E); exact rfl))))); (refine vL_or rfl rfl (fun _ => ?_) (fun h => by omega)); ((apply vL_val); (case h => ((apply opv_fieldAddr); exact rfl))); ((apply vL_wanted); exact rfl); ((apply vL_val); (case h => ((apply opv_loadb1); exact rfl; exact rfl; (first | assumption | infer_instance); exact rfl))); ((apply vL_wanted); exact rfl); ((apply vL_val); (case h => ((apply opv_fieldAddr); exact rfl))); ((apply vL_wanted); exact rfl); ((apply vL_val); (case h => ((apply opv_loadb1); exact rfl; exact rfl; (first | assumption | infer_instance); exact rfl))); ((apply vL_wanted); exact rfl); (iterate 2 (((apply vL_val); (case h => ((apply opv_E); exact rfl))))); apply vL_nil; apply seqP_normal; (refine vC_cond_dec rfl (fun _ => ?_) (fun h => by omega)); apply vC_seq; apply vC_region)
      refine vL_callF rfl (awake25 w2) rfl ?_
      rintro _ w3 ⟨rfl, hf3⟩
      (((apply vL_val); (case h => ((apply opv_E); exact rfl))); apply vL_nil; apply seqP_normal; apply vC_ret; apply seqP_ret)
      (apply ret1; (case h1 => (first | exact norm_eq rfl | ((conv => lhs; whnf) <;> exact rfl))))
      exact ⟨rfl, hf2.trans hf3⟩
    (((apply vL_wanted); exact rfl); (iterate 3 (((apply vL_val); (case h => ((apply opv_E); exact rfl))))); (refine vL_or rfl rfl (fun _ => ?_) (fun h => by omega)); ((apply vL_val); (case h => ((apply opv_fieldAddr); exact rfl))); ((apply vL_wanted); exact rfl); ((apply vL_val); (case h => ((apply opv_loadb1); exact rfl; exact rfl; (first | assumption | infer_instance); exact rfl))); ((apply vL_wanted); exact rfl); ((apply vL_val); (case h => ((apply opv_fieldAddr); exact rfl))); ((apply vL_wanted); exact rfl); ((apply vL_val); (case h => ((apply opv_loadb1); exact rfl; exact rfl; (first | assumption | infer_instance); exact rfl))); ((apply vL_wanted); exact rfl); (iterate 2 (((apply vL_val); (case h => ((apply opv_E); exact rfl))))); apply vL_nil; apply seqP_normal; (refine vC_cond_dec rfl (fun h => by omega) (fun _ => ?_)); apply vC_skip; apply seqP_normal; apply vC_seq; apply vC_region; ((apply vL_val); (case h => ((apply opv_move); ((conv => lhs; whnf) <;> exact rfl)))); ((apply vL_val); (case h => ((apply opv_loadbC); exact rfl; exact rfl; (first | assumption | infer_instance); (first | exact (rfl : _ = [_]) | exact (rfl : _ = [_, _]) | exact (rfl : _ = [_, _, _]) | exact (rfl : _ = [_, _, _, _]) | exact (rfl : _ = [_, _, _, _, _]) | exact (rfl : _ = [_, _, _, _, _, _]) | exact (rfl : _ = [_, _, _, _, _, _, _]) | exact (rfl : _ = [_, _, _, _, _, _, _, _]) | exact (rfl : _ = [_, _, _, _, _, _, _, _, _]) | exact (rfl : _ = [_, _, _, _, _, _, _, _, _, _]) | exact (rfl : _ = [_, _, _, _, _, _, _, _, _, _, _]) | exact (rfl : _ = [_, _, _, _, _, _, _, _, _, _, _, _])); exact rfl))); ((apply vL_val); (case h => ((apply opv_E); exact rfl))))
    refine vL_callF rfl (put25 v l p1 e1 f1 off r1 y1 w2 hrl (hin.frN hf2) hrl1 hy1) rfl ?_
    rintro _ w3 ⟨uv, er, m, rfl, S3, hone3, hP⟩
    have hf3 := S3.fr
    have hfw3 := hf2.trans hf3
    have hm3 := S3.ho
    have hc3 := S3.rcIn
    have hms := hm3.rd.small
    have hml := hm3.rd.len
    have h73 := h7.frN hf3
    have h83 := h8.frN hf3
    by_cases he : er = 0
    rotate_left
    · rcases hP.cases with ⟨_, rfl⟩ | ⟨_, _, h, _⟩
      rotate_left
      · exact absurd h he
      have hz3 : (([] : List PR).length : Int) = 0 := rfl
      (((apply vL_val); (case h => ((apply opv_E); exact rfl))); ((apply vL_val); (case h => ((apply opv_extract); (first | exact norm_eq rfl | ((conv => lhs; whnf) <;> exact rfl)); exact rfl))); ((apply vL_val); (case h => ((apply opv_E); exact rfl))); ((apply vL_val); (case h => ((apply opv_assign); ((conv => lhs; whnf) <;> exact rfl)))); ((apply vL_val); (case h => ((apply opv_E); exact rfl))); apply vL_nil; apply seqP_normal; (iterate 2 (apply vC_seq)); apply vC_region; (iterate 2 (((apply vL_val); (case h => ((apply opv_E); exact rfl))))); apply vL_nil; apply seqP_normal; (refine vC_cond_dec rfl (fun _ => ?_) (fun h => by omega)); apply vC_seq; apply vC_region; ((apply vL_val); (case h => ((apply opv_move); ((conv => lhs; whnf) <;> exact rfl)))); ((apply vL_val); (case h => ((apply opv_len); (first | exact norm_eq rfl | ((conv => lhs; whnf) <;> exact rfl)); (first | assumption | infer_instance)))); (iterate 2 (((apply vL_val); (case h => ((apply opv_E); exact rfl))))); ((apply vL_wanted); exact rfl))
      refine vL_callF rfl (awake25 w3) rfl ?_
      rintro _ w4 ⟨rfl, hf4⟩
      ((iterate 2 (((apply vL_val); (case h => ((apply opv_E); exact rfl))))); apply vL_nil; apply seqP_normal; apply vC_ret; apply seqP_ret)
      (apply ret1; (case h1 => (first | exact norm_eq rfl | ((conv => lhs; whnf) <;> exact rfl))))
      exact ⟨rfl, hfw3.trans hf4⟩
    (((apply vL_val); (case h => ((apply opv_E); exact rfl))); ((apply vL_val); (case h => ((apply opv_extract); (first | exact norm_eq rfl | ((conv => lhs; whnf) <;> exact rfl)); exact rfl))); ((apply vL_val); (case h => ((apply opv_E); exact rfl))); ((apply vL_val); (case h => ((apply opv_assign); ((conv => lhs; whnf) <;> exact rfl)))); ((apply vL_val); (case h => ((apply opv_E); exact rfl))); apply vL_nil; apply seqP_normal; (iterate 2 (apply vC_seq)); apply vC_region; (iterate 2 (((apply vL_val); (case h => ((apply opv_E); exact rfl))))); apply vL_nil; apply seqP_normal; (refine vC_cond_dec rfl (fun h => by omega) (fun _ => ?_)); apply vC_skip; apply seqP_normal; apply vC_seq; apply vC_region; ((apply vL_val); (case h => ((apply opv_move); ((conv => lhs; whnf) <;> exact rfl)))); ((apply vL_val); (case h => ((apply opv_loadbC); exact rfl; exact rfl; (first | assumption | infer_instance); (first | exact (rfl : _ = [_]) | exact (rfl : _ = [_, _]) | exact (rfl : _ = [_, _, _]) | exact (rfl : _ = [_, _, _, _]) | exact (rfl : _ = [_, _, _, _, _]) | exact (rfl : _ = [_, _, _, _, _, _]) | exact (rfl : _ = [_, _, _, _, _, _, _]) | exact (rfl : _ = [_, _, _, _, _, _, _, _]) | exact (rfl : _ = [_, _, _, _, _, _, _, _, _]) | exact (rfl : _ = [_, _, _, _, _, _, _, _, _, _]) | exact (rfl : _ = [_, _, _, _, _, _, _, _, _, _, _]) | exact (rfl : _ = [_, _, _, _, _, _, _, _, _, _, _, _])); exact rfl))))
    refine vL_callF rfl (judgeG (hr.frN hfw3) (hin.frN hfw3) (hr2.frN hfw3) hy2) rfl ?_
    rintro _ w4 ⟨⟨ta, tb, tc⟩, rfl, hj1, hf4⟩
    have hfw4 := hfw3.trans hf4
    have hm4 := hm3.frN hf4
    have h84 := h83.frN hf4
    ((iterate 7 (((apply vL_val); (case h => ((apply opv_E); exact rfl))))); apply vL_nil; apply seqP_normal; apply vC_seq; apply vC_region; ((apply vL_val); (case h => ((apply opv_move); ((conv => lhs; whnf) <;> exact rfl)))); ((apply vL_val); (case h => ((apply opv_loadbC); exact rfl; exact rfl; (first | assumption | infer_instance); (first | exact (rfl : _ = [_]) | exact (rfl : _ = [_, _]) | exact (rfl : _ = [_, _, _]) | exact (rfl : _ = [_, _, _, _]) | exact (rfl : _ = [_, _, _, _, _]) | exact (rfl : _ = [_, _, _, _, _, _]) | exact (rfl : _ = [_, _, _, _, _, _, _]) | exact (rfl : _ = [_, _, _, _, _, _, _, _]) | exact (rfl : _ = [_, _, _, _, _, _, _, _, _]) | exact (rfl : _ = [_, _, _, _, _, _, _, _, _, _]) | exact (rfl : _ = [_, _, _, _, _, _, _, _, _, _, _]) | exact (rfl : _ = [_, _, _, _, _, _, _, _, _, _, _, _])); exact rfl))))
    refine vL_callF rfl (judgeG hm4.rd (hc3.frN hf4) (hr2.frN hfw4) hy2) rfl ?_
    rintro _ w5 ⟨⟨sa, sb, sc⟩, rfl, hj2, hf5⟩
    have hfw5 := hfw4.trans hf5
    have hm5 := hm4.frN hf5
    have hpl := others_plain hP he c3 hj1 hj2
    simp only [tJ, Prod.mk.injEq] at hpl ⊢
    by_cases d1 : sc = 5 ∧ m.length = 64 ∧ tc ≠ 2
    · obtain ⟨d1, d2, d3⟩ := d1
      ((iterate 7 (((apply vL_val); (case h => ((apply opv_E); exact rfl))))); apply vL_nil; apply seqP_normal; (iterate 2 (apply vC_seq)); apply vC_region; (iterate 3 (((apply vL_val); (case h => ((apply opv_E); exact rfl))))); (refine vL_and rfl rfl (fun _ => ?_) (fun h => by omega)); ((apply vL_val); (case h => ((apply opv_move); ((conv => lhs; whnf) <;> exact rfl)))); ((apply vL_wanted); exact rfl); ((apply vL_val); (case h => ((apply opv_len); (first | exact norm_eq rfl | ((conv => lhs; whnf) <;> exact rfl)); (first | assumption | infer_instance)))); ((apply vL_wanted); exact rfl); (iterate 3 (((apply vL_val); (case h => ((apply opv_E); exact rfl))))); (refine vL_and rfl rfl (fun _ => ?_) (fun h => by omega)); ((apply vL_val); (case h => ((apply opv_E); exact rfl))); ((apply vL_wanted); exact rfl); (iterate 2 (((apply vL_val); (case h => ((apply opv_E); exact rfl))))); apply vL_nil; apply seqP_normal; (refine vC_cond_dec rfl (fun _ => ?_) (fun h => by omega)); apply vC_seq; apply vC_region)
      refine vL_callF rfl (awake25 w5) rfl ?_
      rintro _ w6 ⟨rfl, hf6⟩
      (((apply vL_val); (case h => ((apply opv_E); exact rfl))); apply vL_nil; apply seqP_normal; apply vC_ret; apply seqP_ret)
      (apply ret1; (case h1 => (first | exact norm_eq rfl | ((conv => lhs; whnf) <;> exact rfl))))
      exact ⟨rfl, hfw5.trans hf6⟩
    have hpl' : ta = sa ∧ tb = sb ∧ tc = sc := hpl.resolve_right d1
    obtain ⟨rfl, rfl, rfl⟩ := hpl'
    rcases (by omega : tc ≠ 5 ∨ (tc = 5 ∧ m.length ≠ 64)) with d2 | d2 <;> cases tb
    · ((iterate 7 (((apply vL_val); (case h => ((apply opv_E); exact rfl))))); apply vL_nil; apply seqP_normal; (iterate 2 (apply vC_seq)); apply vC_region; (iterate 3 (((apply vL_val); (case h => ((apply opv_E); exact rfl))))); (refine vL_and rfl rfl (fun h => by omega) (fun _ => ?_)); (iterate 2 (((apply vL_unwanted'); exact rfl; exact rfl))); (iterate 2 (((apply vL_val); (case h => ((apply opv_E); exact rfl))))); (iterate 2 (((apply vL_unwanted'); exact rfl; exact rfl))); ((apply vL_val); (case h => ((apply opv_E); exact rfl))); apply vL_nil; apply seqP_normal; ((apply vC_cond_false); exact rfl); apply vC_skip; apply seqP_normal; apply vC_seq; apply vC_region; (iterate 4 (((apply vL_val); (case h => ((apply opv_E); exact rfl))))); (refine vL_and rfl rfl (fun _ => ?_) (fun h => by omega)); ((apply vL_val); (case h => ((apply opv_E); exact rfl))); ((apply vL_wanted); exact rfl); ((apply vL_val); (case h => ((apply opv_E); exact rfl))); ((apply vL_wanted); exact rfl); ((apply vL_val); (case h => ((apply opv_eql_bool); exact rfl; exact rfl))); (iterate 2 (((apply vL_val); (case h => ((apply opv_E); exact rfl))))); ((apply vL_wanted); exact rfl); ((apply vL_val); (case h => ((apply opv_E); exact rfl))); ((apply vL_wanted); exact rfl); ((apply vL_val); (case h => ((apply opv_E); exact rfl))); ((apply vL_wanted); exact rfl); (iterate 3 (((apply vL_val); (case h => ((apply opv_E); exact rfl))))); (refine vL_and rfl rfl (fun _ => ?_) (fun h => by omega)))
      refine vL_callF rfl (awake25 w5) rfl ?_
      rintro _ w6 ⟨rfl, hf6⟩
      ((iterate 2 (((apply vL_val); (case h => ((apply opv_E); exact rfl))))); apply vL_nil; apply seqP_normal; apply vC_ret)
      (apply ret1; (case h1 => (first | exact norm_eq rfl | ((conv => lhs; whnf) <;> exact rfl))))
      exact ⟨rfl, hfw5.trans hf6⟩
    · ((iterate 7 (((apply vL_val); (case h => ((apply opv_E); exact rfl))))); apply vL_nil; apply seqP_normal; (iterate 2 (apply vC_seq)); apply vC_region; (iterate 3 (((apply vL_val); (case h => ((apply opv_E); exact rfl))))); (refine vL_and rfl rfl (fun h => by omega) (fun _ => ?_)); (iterate 2 (((apply vL_unwanted'); exact rfl; exact rfl))); (iterate 2 (((apply vL_val); (case h => ((apply opv_E); exact rfl))))); (iterate 2 (((apply vL_unwanted'); exact rfl; exact rfl))); ((apply vL_val); (case h => ((apply opv_E); exact rfl))); apply vL_nil; apply seqP_normal; ((apply vC_cond_false); exact rfl); apply vC_skip; apply seqP_normal; apply vC_seq; apply vC_region; (iterate 4 (((apply vL_val); (case h => ((apply opv_E); exact rfl))))); (refine vL_and rfl rfl (fun _ => ?_) (fun h => by omega)); ((apply vL_val); (case h => ((apply opv_E); exact rfl))); ((apply vL_wanted); exact rfl); ((apply vL_val); (case h => ((apply opv_E); exact rfl))); ((apply vL_wanted); exact rfl); ((apply vL_val); (case h => ((apply opv_eql_bool); exact rfl; exact rfl))); (iterate 2 (((apply vL_val); (case h => ((apply opv_E); exact rfl))))); ((apply vL_wanted); exact rfl); ((apply vL_val); (case h => ((apply opv_E); exact rfl))); ((apply vL_wanted); exact rfl); ((apply vL_val); (case h => ((apply opv_E); exact rfl))); ((apply vL_wanted); exact rfl); (iterate 3 (((apply vL_val); (case h => ((apply opv_E); exact rfl))))); (refine vL_and rfl rfl (fun _ => ?_) (fun h => by omega)))
      refine vL_callF rfl (awake25 w5) rfl ?_
      rintro _ w6 ⟨rfl, hf6⟩
      ((iterate 2 (((apply vL_val); (case h => ((apply opv_E); exact rfl))))); apply vL_nil; apply seqP_normal; apply vC_ret)
      (apply ret1; (case h1 => (first | exact norm_eq rfl | ((conv => lhs; whnf) <;> exact rfl))))
      exact ⟨rfl, hfw5.trans hf6⟩
    · ((iterate 7 (((apply vL_val); (case h => ((apply opv_E); exact rfl))))); apply vL_nil; apply seqP_normal; (iterate 2 (apply vC_seq)); apply vC_region; (iterate 3 (((apply vL_val); (case h => ((apply opv_E); exact rfl))))); (refine vL_and rfl rfl (fun _ => ?_) (fun h => by omega)); ((apply vL_val); (case h => ((apply opv_move); ((conv => lhs; whnf) <;> exact rfl)))); ((apply vL_wanted); exact rfl); ((apply vL_val); (case h => ((apply opv_len); (first | exact norm_eq rfl | ((conv => lhs; whnf) <;> exact rfl)); (first | assumption | infer_instance)))); ((apply vL_wanted); exact rfl); (iterate 3 (((apply vL_val); (case h => ((apply opv_E); exact rfl))))); (refine vL_and rfl rfl (fun h => by omega) (fun _ => ?_)); ((apply vL_unwanted'); exact rfl; exact rfl); ((apply vL_val); (case h => ((apply opv_E); exact rfl))); apply vL_nil; apply seqP_normal; ((apply vC_cond_false); exact rfl); apply vC_skip; apply seqP_normal; apply vC_seq; apply vC_region; (iterate 4 (((apply vL_val); (case h => ((apply opv_E); exact rfl))))); (refine vL_and rfl rfl (fun _ => ?_) (fun h => by omega)); ((apply vL_val); (case h => ((apply opv_E); exact rfl))); ((apply vL_wanted); exact rfl); ((apply vL_val); (case h => ((apply opv_E); exact rfl))); ((apply vL_wanted); exact rfl); ((apply vL_val); (case h => ((apply opv_eql_bool); exact rfl; exact rfl))); (iterate 2 (((apply vL_val); (case h => ((apply opv_E); exact rfl))))); ((apply vL_wanted); exact rfl); ((apply vL_val); (case h => ((apply opv_E); exact rfl))); ((apply vL_wanted); exact rfl); ((apply vL_val); (case h => ((apply opv_E); exact rfl))); ((apply vL_wanted); exact rfl); (iterate 3 (((apply vL_val); (case h => ((apply opv_E); exact rfl))))); (refine vL_and rfl rfl (fun _ => ?_) (fun h => by omega)))
      refine vL_callF rfl (awake25 w5) rfl ?_
      rintro _ w6 ⟨rfl, hf6⟩
      ((iterate 2 (((apply vL_val); (case h => ((apply opv_E); exact rfl))))); apply vL_nil; apply seqP_normal; apply vC_ret)
      (apply ret1; (case h1 => (first | exact norm_eq rfl | ((conv => lhs; whnf) <;> exact rfl))))
      exact ⟨rfl, hfw5.trans hf6⟩
    · ((iterate 7 (((apply vL_val); (case h => ((apply opv_E); exact rfl))))); apply vL_nil; apply seqP_normal; (iterate 2 (apply vC_seq)); apply vC_region; (iterate 3 (((apply vL_val); (case h => ((apply opv_E); exact rfl))))); (refine vL_and rfl rfl (fun _ => ?_) (fun h => by omega)); ((apply vL_val); (case h => ((apply opv_move); ((conv => lhs; whnf) <;> exact rfl)))); ((apply vL_wanted); exact rfl); ((apply vL_val); (case h => ((apply opv_len); (first | exact norm_eq rfl | ((conv => lhs; whnf) <;> exact rfl)); (first | assumption | infer_instance)))); ((apply vL_wanted); exact rfl); (iterate 3 (((apply vL_val); (case h => ((apply opv_E); exact rfl))))); (refine vL_and rfl rfl (fun h => by omega) (fun _ => ?_)); ((apply vL_unwanted'); exact rfl; exact rfl); ((apply vL_val); (case h => ((apply opv_E); exact rfl))); apply vL_nil; apply seqP_normal; ((apply vC_cond_false); exact rfl); apply vC_skip; apply seqP_normal; apply vC_seq; apply vC_region; (iterate 4 (((apply vL_val); (case h => ((apply opv_E); exact rfl))))); (refine vL_and rfl rfl (fun _ => ?_) (fun h => by omega)); ((apply vL_val); (case h => ((apply opv_E); exact rfl))); ((apply vL_wanted); exact rfl); ((apply vL_val); (case h => ((apply opv_E); exact rfl))); ((apply vL_wanted); exact rfl); ((apply vL_val); (case h => ((apply opv_eql_bool); exact rfl; exact rfl))); (iterate 2 (((apply vL_val); (case h => ((apply opv_E); exact rfl))))); ((apply vL_wanted); exact rfl); ((apply vL_val); (case h => ((apply opv_E); exact rfl))); ((apply vL_wanted); exact rfl); ((apply vL_val); (case h => ((apply opv_E); exact rfl))); ((apply vL_wanted); exact rfl); (iterate 3 (((apply vL_val); (case h => ((apply opv_E); exact rfl))))); (refine vL_and rfl rfl (fun _ => ?_) (fun h => by omega)))
      refine vL_callF rfl (awake25 w5) rfl ?_
      rintro _ w6 ⟨rfl, hf6⟩
      ((iterate 2 (((apply vL_val); (case h => ((apply opv_E); exact rfl))))); apply vL_nil; apply seqP_normal; apply vC_ret)
      (apply ret1; (case h1 => (first | exact norm_eq rfl | ((conv => lhs; whnf) <;> exact rfl))))
      exact ⟨rfl, hfw5.trans hf6⟩
  · (((apply vL_val); (case h => (apply opw_alloc))); apply vL_nil)
    refine ⟨rfl, hK _ _ ?_⟩
    refine vA_only 4 rfl (by kernel_rfl) (by (first | exact trivial | assumption | infer_instance | ((repeat (first | exact Fr.refl _ _ | assumption | with_reducible apply Fr.allocSet | with_reducible apply Fr.alloc | with_reducible apply Fr.drewN | with_reducible apply Fr.drew | ((with_reducible apply Fr.set); rotate_left; (right; ((try simp only [alloc_size]); omega))) | (refine Fr.trans ?_ (by assumption)))); done))) (fun K hK => ?_)
    (((apply vL_val); (case h => (apply opw_alloc))); apply vL_nil)
    refine ⟨rfl, hK _ _ ?_⟩
    refine vA_only 6 rfl (by kernel_rfl) (by (first | exact trivial | assumption | infer_instance | ((repeat (first | exact Fr.refl _ _ | assumption | with_reducible apply Fr.allocSet | with_reducible apply Fr.alloc | with_reducible apply Fr.drewN | with_reducible apply Fr.drew | ((with_reducible apply Fr.set); rotate_left; (right; ((try simp only [alloc_size]); omega))) | (refine Fr.trans ?_ (by assumption)))); done))) (fun K hK => ?_)
    (((apply vL_skip); (case h => ((apply ops_storen); (first | exact norm_eq rfl | ((conv => lhs; whnf) <;> exact rfl)); (first | exact norm_eq rfl | ((conv => lhs; whnf) <;> exact rfl)); exact rfl; (first | exact (fun u hu => EncOk.one _ u hu) | (intro u hu; simp at hu; rcases hu with rfl | rfl <;> (first | rfl | assumption)) | (intro u hu; simp at hu; rcases hu with rfl | rfl | rfl <;> (first | rfl | assumption)) | (intro u hu; simp at hu; rcases hu with rfl | rfl | rfl | rfl <;> (first | rfl | assumption))); (first | assumption | infer_instance); (first | decide | exact of_decide_eq_true rfl | (simp; done))))); apply vL_nil)
    refine ⟨rfl, hK _ _ ?_⟩
    refine vA_only 7 rfl (by kernel_rfl) (by (first | exact trivial | assumption | infer_instance | ((repeat (first | exact Fr.refl _ _ | assumption | with_reducible apply Fr.allocSet | with_reducible apply Fr.alloc | with_reducible apply Fr.drewN | with_reducible apply Fr.drew | ((with_reducible apply Fr.set); rotate_left; (right; ((try simp only [alloc_size]); omega))) | (refine Fr.trans ?_ (by assumption)))); done))) (fun K hK => ?_)
    (((apply vL_skip); (case h => ((apply ops_storen); (first | exact norm_eq rfl | ((conv => lhs; whnf) <;> exact rfl)); (first | exact norm_eq rfl | ((conv => lhs; whnf) <;> exact rfl)); exact rfl; (first | exact (fun u hu => EncOk.one _ u hu) | (intro u hu; simp at hu; rcases hu with rfl | rfl <;> (first | rfl | assumption)) | (intro u hu; simp at hu; rcases hu with rfl | rfl | rfl <;> (first | rfl | assumption)) | (intro u hu; simp at hu; rcases hu with rfl | rfl | rfl | rfl <;> (first | rfl | assumption))); (first | assumption | infer_instance); (first | decide | exact of_decide_eq_true rfl | (simp; done))))); apply vL_nil)
    refine ⟨rfl, hK _ _ ?_⟩
    refine vA_done (by kernel_rfl) (by (first | exact trivial | assumption | infer_instance | ((repeat (first | exact Fr.refl _ _ | assumption | with_reducible apply Fr.allocSet | with_reducible apply Fr.alloc | with_reducible apply Fr.drewN | with_reducible apply Fr.drew | ((with_reducible apply Fr.set); rotate_left; (right; ((try simp only [alloc_size]); omega))) | (refine Fr.trans ?_ (by assumption)))); done))) ?_
    refine vC_slots [0, 2, 7, 8] (fun vs w' => ∃ b7 b8, vs = [v, .int .i64 off, pt b7, pt b8] ∧ Fr No w w' ∧ Blk w'.heap b7 [.int .i64 p1, .int .i64 e1, .int .i64 f1, r1.1] 33 ∧ Blk w'.heap b8 [.int .i64 p2, .int .i64 e2, .int .i64 f2, r2.1] 33) ?_ ?_
    · exact ⟨_, _, rfl, hf1.trans (by (repeat (first | exact Fr.refl _ _ | assumption | with_reducible apply Fr.allocSet | with_reducible apply Fr.alloc | with_reducible apply Fr.drewN | with_reducible apply Fr.drew | ((with_reducible apply Fr.set); rotate_left; (right; ((try simp only [alloc_size]); omega))) | (refine Fr.trans ?_ (by assumption))))), inferInstance, inferInstance⟩
    rintro e2x _ w2 ⟨b7, b8, rfl, hf2, h7, h8⟩
    simp only [setAll]
    clear hb1 hz1 hf1 ed k1 k2
    have hrl := hr.frN hf2
    have hrl1 := hr1.frN hf2
    have hrl2 := hr2.frN hf2
    by_cases c1 : 100 < l.length
    · ((iterate 2 (apply vC_seq)); apply vC_region; ((apply vL_val); (case h => ((apply opv_move); ((conv => lhs; whnf) <;> exact rfl)))); ((apply vL_val); (case h => ((apply opv_len); (first | exact norm_eq rfl | ((conv => lhs; whnf) <;> exact rfl)); (first | assumption | infer_instance)))); (iterate 2 (((apply vL_val); (case h => ((apply opv_E); exact rfl))))); (refine vL_or rfl rfl (fun h => by omega) (fun _ => ?_)); (iterate 7 (((apply vL_unwanted'); exact rfl; exact rfl))); (iterate 2 (((apply vL_val); (case h => ((apply opv_E); exact rfl))))); (iterate 5 (((apply vL_unwanted'); exact rfl; exact rfl))); ((apply vL_val); (case h => ((apply opv_E); exact rfl))); apply vL_nil; apply seqP_normal; ((apply vC_cond_true); exact rfl); apply vC_seq; apply vC_region)
      refine vL_callF rfl (awake25 w2) rfl ?_
      rintro _ w3 ⟨rfl, hf3⟩
      (((apply vL_val); (case h => ((apply opv_E); exact rfl))); apply vL_nil; apply seqP_normal; apply vC_ret; apply seqP_ret)
      (apply ret1; (case h1 => (first | exact norm_eq rfl | ((conv => lhs; whnf) <;> exact rfl))))
      exact ⟨rfl, hf2.trans hf3⟩
    ((iterate 2 (apply vC_seq)); apply vC_region; ((apply vL_val); (case h => ((apply opv_move); ((conv => lhs; whnf) <;> exact rfl)))); ((apply vL_val); (case h => ((apply opv_len); (first | exact norm_eq rfl | ((conv => lhs; whnf) <;> exact rfl)); (first | assumption | infer_instance)))); (iterate 2 (((apply vL_val); (case h => ((apply opv_E); exact rfl))))); (refine vL_or rfl rfl (fun _ => ?_) (fun h => by omega)); ((apply vL_val); (case h => ((apply opv_fieldAddr); exact rfl))); ((apply vL_wanted); exact rfl); ((apply vL_val); (case h => ((apply opv_loadb1); exact rfl; exact rfl; (first | assumption | infer_instance); exact rfl))); ((apply vL_wanted); exact rfl); ((apply vL_val); (case h => ((apply opv_len); (first | exact norm_eq rfl | ((conv => lhs; whnf) <;> exact rfl)); (first | assumption | infer_instance)))); ((apply vL_wanted); exact rfl); ((apply vL_val); (case h => ((apply opv_fieldAddr); exact rfl))); ((apply vL_wanted); exact rfl); ((apply vL_val); (case h => ((apply opv_loadb1); exact rfl; exact rfl; (first | assumption | infer_instance); exact rfl))); ((apply vL_wanted); exact rfl); ((apply vL_val); (case h => ((apply opv_len); (first | exact norm_eq rfl | ((conv => lhs; whnf) <;> exact rfl)); (first | assumption | infer_instance)))); ((apply vL_wanted); exact rfl))
    refine vL_val (opv_add_w rfl rfl) ?_
    generalize IntKind.i64.wrap _ = sm
    by_cases c2 : 600 < sm
    · (((apply vL_wanted); exact rfl); (iterate 3 (((apply vL_val); (case h => ((apply opv_E); exact rfl))))); (refine vL_or rfl rfl (fun h => by omega) (fun _ => ?_)); (iterate 4 (((apply vL_unwanted'); exact rfl; exact rfl))); ((apply vL_val); (case h => ((apply opv_E); exact rfl))); apply vL_nil; apply seqP_normal; ((apply vC_cond_true); exact rfl); apply vC_seq; apply vC_region)
      refine vL_callF rfl (awake25 w2) rfl ?_
      rintro _ w3 ⟨rfl, hf3⟩
      (((apply vL_val); (case h => ((apply opv_E); exact rfl))); apply vL_nil; apply seqP_normal; apply vC_ret; apply seqP_ret)
      (apply ret1; (case h1 => (first | exact norm_eq rfl | ((conv => lhs; whnf) <;> exact rfl))))
      exact ⟨rfl, hf2.trans hf3⟩
    by_cases c3 : p2 = p1
    · (((apply vL_wanted); exact rfl); (iterate 3 (((apply vL_val); (case h => ((apply opv_E); exact rfl))))); (refine vL_or rfl rfl (fun _ => ?_) (fun h => by omega)); ((apply vL_val); (case h => ((apply opv_fieldAddr); exact rfl))); ((apply vL_wanted); exact rfl); ((apply vL_val); (case h => ((apply opv_loadb1); exact rfl; exact rfl; (first | assumption | infer_instance); exact rfl))); ((apply vL_wanted); exact rfl); ((apply vL_val); (case h => ((apply opv_fieldAddr); exact rfl))); ((apply vL_wanted); exact rfl); ((apply vL_val); (case h => ((apply opv_loadb1); exact rfl; exact rfl; (first | assumption | infer_instance); exact rfl))); ((apply vL_wanted); exact rfl); (iterate 2 (((apply vL_val); (case h => ((apply opv_E); exact rfl))))); apply vL_nil; apply seqP_normal; (refine vC_cond_dec rfl (fun _ => ?_) (fun h => by omega)); apply vC_seq; apply vC_region)
      refine vL_callF rfl (awake25 w2) rfl ?_
      rintro _ w3 ⟨rfl, hf3⟩
      (((apply vL_val); (case h => ((apply opv_E); exact rfl))); apply vL_nil; apply seqP_normal; apply vC_ret; apply seqP_ret)
      (apply ret1; (case h1 => (first | exact norm_eq rfl | ((conv => lhs; whnf) <;> exact rfl))))
      exact ⟨rfl, hf2.trans hf3⟩
    (((apply vL_wanted); exact rfl); (iterate 3 (((apply vL_val); (case h => ((apply opv_E); exact rfl))))); (refine vL_or rfl rfl (fun _ => ?_) (fun h => by omega)); ((apply vL_val); (case h => ((apply opv_fieldAddr); exact rfl))); ((apply vL_wanted); exact rfl); ((apply vL_val); (case h => ((apply opv_loadb1); exact rfl; exact rfl; (first | assumption | infer_instance); exact rfl))); ((apply vL_wanted); exact rfl); ((apply vL_val); (case h => ((apply opv_fieldAddr); exact rfl))); ((apply vL_wanted); exact rfl); ((apply vL_val); (case h => ((apply opv_loadb1); exact rfl; exact rfl; (first | assumption | infer_instance); exact rfl))); ((apply vL_wanted); exact rfl); (iterate 2 (((apply vL_val); (case h => ((apply opv_E); exact rfl))))); apply vL_nil; apply seqP_normal; (refine vC_cond_dec rfl (fun h => by omega) (fun _ => ?_)); apply vC_skip; apply seqP_normal; apply vC_seq; apply vC_region; ((apply vL_val); (case h => ((apply opv_move); ((conv => lhs; whnf) <;> exact rfl)))); ((apply vL_val); (case h => ((apply opv_loadbC); exact rfl; exact rfl; (first | assumption | infer_instance); (first | exact (rfl : _ = [_]) | exact (rfl : _ = [_, _]) | exact (rfl : _ = [_, _, _]) | exact (rfl : _ = [_, _, _, _]) | exact (rfl : _ = [_, _, _, _, _]) | exact (rfl : _ = [_, _, _, _, _, _]) | exact (rfl : _ = [_, _, _, _, _, _, _]) | exact (rfl : _ = [_, _, _, _, _, _, _, _]) | exact (rfl : _ = [_, _, _, _, _, _, _, _, _]) | exact (rfl : _ = [_, _, _, _, _, _, _, _, _, _]) | exact (rfl : _ = [_, _, _, _, _, _, _, _, _, _, _]) | exact (rfl : _ = [_, _, _, _, _, _, _, _, _, _, _, _])); exact rfl))); ((apply vL_val); (case h => ((apply opv_E); exact rfl))))
    refine vL_callF rfl (put25 v l p1 e1 f1 off r1 y1 w2 hrl (hin.frN hf2) hrl1 hy1) rfl ?_
    rintro _ w3 ⟨uv, er, m, rfl, S3, hone3, hP⟩
    have hf3 := S3.fr
    have hfw3 := hf2.trans hf3
    have hm3 := S3.ho
    have hc3 := S3.rcIn
    have hms := hm3.rd.small
    have hml := hm3.rd.len
    have h73 := h7.frN hf3
    have h83 := h8.frN hf3
    by_cases he : er = 0
    rotate_left
    · rcases hP.cases with ⟨_, rfl⟩ | ⟨_, _, h, _⟩
      rotate_left
      · exact absurd h he
      have hz3 : (([] : List PR).length : Int) = 0 := rfl
      (((apply vL_val); (case h => ((apply opv_E); exact rfl))); ((apply vL_val); (case h => ((apply opv_extract); (first | exact norm_eq rfl | ((conv => lhs; whnf) <;> exact rfl)); exact rfl))); ((apply vL_val); (case h => ((apply opv_E); exact rfl))); ((apply vL_val); (case h => ((apply opv_assign); ((conv => lhs; whnf) <;> exact rfl)))); ((apply vL_val); (case h => ((apply opv_E); exact rfl))); apply vL_nil; apply seqP_normal; (iterate 2 (apply vC_seq)); apply vC_region; (iterate 2 (((apply vL_val); (case h => ((apply opv_E); exact rfl))))); apply vL_nil; apply seqP_normal; (refine vC_cond_dec rfl (fun _ => ?_) (fun h => by omega)); apply vC_seq; apply vC_region; ((apply vL_val); (case h => ((apply opv_move); ((conv => lhs; whnf) <;> exact rfl)))); ((apply vL_val); (case h => ((apply opv_len); (first | exact norm_eq rfl | ((conv => lhs; whnf) <;> exact rfl)); (first | assumption | infer_instance)))); (iterate 2 (((apply vL_val); (case h => ((apply opv_E); exact rfl))))); ((apply vL_wanted); exact rfl))
      refine vL_callF rfl (awake25 w3) rfl ?_
      rintro _ w4 ⟨rfl, hf4⟩
      ((iterate 2 (((apply vL_val); (case h => ((apply opv_E); exact rfl))))); apply vL_nil; apply seqP_normal; apply vC_ret; apply seqP_ret)
      (apply ret1; (case h1 => (first | exact norm_eq rfl | ((conv => lhs; whnf) <;> exact rfl))))
      exact ⟨rfl, hfw3.trans hf4⟩
    (((apply vL_val); (case h => ((apply opv_E); exact rfl))); ((apply vL_val); (case h => ((apply opv_extract); (first | exact norm_eq rfl | ((conv => lhs; whnf) <;> exact rfl)); exact rfl))); ((apply vL_val); (case h => ((apply opv_E); exact rfl))); ((apply vL_val); (case h => ((apply opv_assign); ((conv => lhs; whnf) <;> exact rfl)))); ((apply vL_val); (case h => ((apply opv_E); exact rfl))); apply vL_nil; apply seqP_normal; (iterate 2 (apply vC_seq)); apply vC_region; (iterate 2 (((apply vL_val); (case h => ((apply opv_E); exact rfl))))); apply vL_nil; apply seqP_normal; (refine vC_cond_dec rfl (fun h => by omega) (fun _ => ?_)); apply vC_skip; apply seqP_normal; apply vC_seq; apply vC_region; ((apply vL_val); (case h => ((apply opv_move); ((conv => lhs; whnf) <;> exact rfl)))); ((apply vL_val); (case h => ((apply opv_loadbC); exact rfl; exact rfl; (first | assumption | infer_instance); (first | exact (rfl : _ = [_]) | exact (rfl : _ = [_, _]) | exact (rfl : _ = [_, _, _]) | exact (rfl : _ = [_, _, _, _]) | exact (rfl : _ = [_, _, _, _, _]) | exact (rfl : _ = [_, _, _, _, _, _]) | exact (rfl : _ = [_, _, _, _, _, _, _]) | exact (rfl : _ = [_, _, _, _, _, _, _, _]) | exact (rfl : _ = [_, _, _, _, _, _, _, _, _]) | exact (rfl : _ = [_, _, _, _, _, _, _, _, _, _]) | exact (rfl : _ = [_, _, _, _, _, _, _, _, _, _, _]) | exact (rfl : _ = [_, _, _, _, _, _, _, _, _, _, _, _])); exact rfl))))
    refine vL_callF rfl (judgeG (hr.frN hfw3) (hin.frN hfw3) (hr2.frN hfw3) hy2) rfl ?_
    rintro _ w4 ⟨⟨ta, tb, tc⟩, rfl, hj1, hf4⟩
    have hfw4 := hfw3.trans hf4
    have hm4 := hm3.frN hf4
    have h84 := h83.frN hf4
    ((iterate 7 (((apply vL_val); (case h => ((apply opv_E); exact rfl))))); apply vL_nil; apply seqP_normal; apply vC_seq; apply vC_region; ((apply vL_val); (case h => ((apply opv_move); ((conv => lhs; whnf) <;> exact rfl)))); ((apply vL_val); (case h => ((apply opv_loadbC); exact rfl; exact rfl; (first | assumption | infer_instance); (first | exact (rfl : _ = [_]) | exact (rfl : _ = [_, _]) | exact (rfl : _ = [_, _, _]) | exact (rfl : _ = [_, _, _, _]) | exact (rfl : _ = [_, _, _, _, _]) | exact (rfl : _ = [_, _, _, _, _, _]) | exact (rfl : _ = [_, _, _, _, _, _, _]) | exact (rfl : _ = [_, _, _, _, _, _, _, _]) | exact (rfl : _ = [_, _, _, _, _, _, _, _, _]) | exact (rfl : _ = [_, _, _, _, _, _, _, _, _, _]) | exact (rfl : _ = [_, _, _, _, _, _, _, _, _, _, _]) | exact (rfl : _ = [_, _, _, _, _, _, _, _, _, _, _, _])); exact rfl))))
    refine vL_callF rfl (judgeG hm4.rd (hc3.frN hf4) (hr2.frN hfw4) hy2) rfl ?_
    rintro _ w5 ⟨⟨sa, sb, sc⟩, rfl, hj2, hf5⟩
    have hfw5 := hfw4.trans hf5
    have hm5 := hm4.frN hf5
    have hpl := others_plain hP he c3 hj1 hj2
    simp only [tJ, Prod.mk.injEq] at hpl ⊢
    by_cases d1 : sc = 5 ∧ m.length = 64 ∧ tc ≠ 2
    · obtain ⟨d1, d2, d3⟩ := d1
      ((iterate 7 (((apply vL_val); (case h => ((apply opv_E); exact rfl))))); apply vL_nil; apply seqP_normal; (iterate 2 (apply vC_seq)); apply vC_region; (iterate 3 (((apply vL_val); (case h => ((apply opv_E); exact rfl))))); (refine vL_and rfl rfl (fun _ => ?_) (fun h => by omega)); ((apply vL_val); (case h => ((apply opv_move); ((conv => lhs; whnf) <;> exact rfl)))); ((apply vL_wanted); exact rfl); ((apply vL_val); (case h => ((apply opv_len); (first | exact norm_eq rfl | ((conv => lhs; whnf) <;> exact rfl)); (first | assumption | infer_instance)))); ((apply vL_wanted); exact rfl); (iterate 3 (((apply vL_val); (case h => ((apply opv_E); exact rfl))))); (refine vL_and rfl rfl (fun _ => ?_) (fun h => by omega)); ((apply vL_val); (case h => ((apply opv_E); exact rfl))); ((apply vL_wanted); exact rfl); (iterate 2 (((apply vL_val); (case h => ((apply opv_E); exact rfl))))); apply vL_nil; apply seqP_normal; (refine vC_cond_dec rfl (fun _ => ?_) (fun h => by omega)); apply vC_seq; apply vC_region)
      refine vL_callF rfl (awake25 w5) rfl ?_
      rintro _ w6 ⟨rfl, hf6⟩
      (((apply vL_val); (case h => ((apply opv_E); exact rfl))); apply vL_nil; apply seqP_normal; apply vC_ret; apply seqP_ret)
      (apply ret1; (case h1 => (first | exact norm_eq rfl | ((conv => lhs; whnf) <;> exact rfl))))
      exact ⟨rfl, hfw5.trans hf6⟩
    have hpl' : ta = sa ∧ tb = sb ∧ tc = sc := hpl.resolve_right d1
    obtain ⟨rfl, rfl, rfl⟩ := hpl'
    rcases (by omega : tc ≠ 5 ∨ (tc = 5 ∧ m.length ≠ 64)) with d2 | d2 <;> cases tb
    · ((iterate 7 (((apply vL_val); (case h => ((apply opv_E); exact rfl))))); apply vL_nil; apply seqP_normal; (iterate 2 (apply vC_seq)); apply vC_region; (iterate 3 (((apply vL_val); (case h => ((apply opv_E); exact rfl))))); (refine vL_and rfl rfl (fun h => by omega) (fun _ => ?_)); (iterate 2 (((apply vL_unwanted'); exact rfl; exact rfl))); (iterate 2 (((apply vL_val); (case h => ((apply opv_E); exact rfl))))); (iterate 2 (((apply vL_unwanted'); exact rfl; exact rfl))); ((apply vL_val); (case h => ((apply opv_E); exact rfl))); apply vL_nil; apply seqP_normal; ((apply vC_cond_false); exact rfl); apply vC_skip; apply seqP_normal; apply vC_seq; apply vC_region; (iterate 4 (((apply vL_val); (case h => ((apply opv_E); exact rfl))))); (refine vL_and rfl rfl (fun _ => ?_) (fun h => by omega)); ((apply vL_val); (case h => ((apply opv_E); exact rfl))); ((apply vL_wanted); exact rfl); ((apply vL_val); (case h => ((apply opv_E); exact rfl))); ((apply vL_wanted); exact rfl); ((apply vL_val); (case h => ((apply opv_eql_bool); exact rfl; exact rfl))); (iterate 2 (((apply vL_val); (case h => ((apply opv_E); exact rfl))))); ((apply vL_wanted); exact rfl); ((apply vL_val); (case h => ((apply opv_E); exact rfl))); ((apply vL_wanted); exact rfl); ((apply vL_val); (case h => ((apply opv_E); exact rfl))); ((apply vL_wanted); exact rfl); (iterate 3 (((apply vL_val); (case h => ((apply opv_E); exact rfl))))); (refine vL_and rfl rfl (fun _ => ?_) (fun h => by omega)))
      refine vL_callF rfl (awake25 w5) rfl ?_
      rintro _ w6 ⟨rfl, hf6⟩
      ((iterate 2 (((apply vL_val); (case h => ((apply opv_E); exact rfl))))); apply vL_nil; apply seqP_normal; apply vC_ret)
      (apply ret1; (case h1 => (first | exact norm_eq rfl | ((conv => lhs; whnf) <;> exact rfl))))
      exact ⟨rfl, hfw5.trans hf6⟩
    · ((iterate 7 (((apply vL_val); (case h => ((apply opv_E); exact rfl))))); apply vL_nil; apply seqP_normal; (iterate 2 (apply vC_seq)); apply vC_region; (iterate 3 (((apply vL_val); (case h => ((apply opv_E); exact rfl))))); (refine vL_and rfl rfl (fun h => by omega) (fun _ => ?_)); (iterate 2 (((apply vL_unwanted'); exact rfl; exact rfl))); (iterate 2 (((apply vL_val); (case h => ((apply opv_E); exact rfl))))); (iterate 2 (((apply vL_unwanted'); exact rfl; exact rfl))); ((apply vL_val); (case h => ((apply opv_E); exact rfl))); apply vL_nil; apply seqP_normal; ((apply vC_cond_false); exact rfl); apply vC_skip; apply seqP_normal; apply vC_seq; apply vC_region; (iterate 4 (((apply vL_val); (case h => ((apply opv_E); exact rfl))))); (refine vL_and rfl rfl (fun _ => ?_) (fun h => by omega)); ((apply vL_val); (case h => ((apply opv_E); exact rfl))); ((apply vL_wanted); exact rfl); ((apply vL_val); (case h => ((apply opv_E); exact rfl))); ((apply vL_wanted); exact rfl); ((apply vL_val); (case h => ((apply opv_eql_bool); exact rfl; exact rfl))); (iterate 2 (((apply vL_val); (case h => ((apply opv_E); exact rfl))))); ((apply vL_wanted); exact rfl); ((apply vL_val); (case h => ((apply opv_E); exact rfl))); ((apply vL_wanted); exact rfl); ((apply vL_val); (case h => ((apply opv_E); exact rfl))); ((apply vL_wanted); exact rfl); (iterate 3 (((apply vL_val); (case h => ((apply opv_E); exact rfl))))); (refine vL_and rfl rfl (fun _ => ?_) (fun h => by omega)))
      refine vL_callF rfl (awake25 w5) rfl ?_
      rintro _ w6 ⟨rfl, hf6⟩
      ((iterate 2 (((apply vL_val); (case h => ((apply opv_E); exact rfl))))); apply vL_nil; apply seqP_normal; apply vC_ret)
      (apply ret1; (case h1 => (first | exact norm_eq rfl | ((conv => lhs; whnf) <;> exact rfl))))
      exact ⟨rfl, hfw5.trans hf6⟩
    · ((iterate 7 (((apply vL_val); (case h => ((apply opv_E); exact rfl))))); apply vL_nil; apply seqP_normal; (iterate 2 (apply vC_seq)); apply vC_region; (iterate 3 (((apply vL_val); (case h => ((apply opv_E); exact rfl))))); (refine vL_and rfl rfl (fun _ => ?_) (fun h => by omega)); ((apply vL_val); (case h => ((apply opv_move); ((conv => lhs; whnf) <;> exact rfl)))); ((apply vL_wanted); exact rfl); ((apply vL_val); (case h => ((apply opv_len); (first | exact norm_eq rfl | ((conv => lhs; whnf) <;> exact rfl)); (first | assumption | infer_instance)))); ((apply vL_wanted); exact rfl); (iterate 3 (((apply vL_val); (case h => ((apply opv_E); exact rfl))))); (refine vL_and rfl rfl (fun h => by omega) (fun _ => ?_)); ((apply vL_unwanted'); exact rfl; exact rfl); ((apply vL_val); (case h => ((apply opv_E); exact rfl))); apply vL_nil; apply seqP_normal; ((apply vC_cond_false); exact rfl); apply vC_skip; apply seqP_normal; apply vC_seq; apply vC_region; (iterate 4 (((apply vL_val); (case h => ((apply opv_E); exact rfl))))); (refine vL_and rfl rfl (fun _ => ?_) (fun h => by omega)); ((apply vL_val); (case h => ((apply opv_E); exact rfl))); ((apply vL_wanted); exact rfl); ((apply vL_val); (case h => ((apply opv_E); exact rfl))); ((apply vL_wanted); exact rfl); ((apply vL_val); (case h => ((apply opv_eql_bool); exact rfl; exact rfl))); (iterate 2 (((apply vL_val); (case h => ((apply opv_E); exact rfl))))); ((apply vL_wanted); exact rfl); ((apply vL_val); (case h => ((apply opv_E); exact rfl))); ((apply vL_wanted); exact rfl); ((apply vL_val); (case h => ((apply opv_E); exact rfl))); ((apply vL_wanted); exact rfl); (iterate 3 (((apply vL_val); (case h => ((apply opv_E); exact rfl))))); (refine vL_and rfl rfl (fun _ => ?_) (fun h => by omega)))
      refine vL_callF rfl (awake25 w5) rfl ?_
      rintro _ w6 ⟨rfl, hf6⟩
      ((iterate 2 (((apply vL_val); (case h => ((apply opv_E); exact rfl))))); apply vL_nil; apply seqP_normal; apply vC_ret)
      (apply ret1; (case h1 => (first | exact norm_eq rfl | ((conv => lhs; whnf) <;> exact rfl))))
      exact ⟨rfl, hfw5.trans hf6⟩
    · ((iterate 7 (((apply vL_val); (case h => ((apply opv_E); exact rfl))))); apply vL_nil; apply seqP_normal; (iterate 2 (apply vC_seq)); apply vC_region; (iterate 3 (((apply vL_val); (case h => ((apply opv_E); exact rfl))))); (refine vL_and rfl rfl (fun _ => ?_) (fun h => by omega)); ((apply vL_val); (case h => ((apply opv_move); ((conv => lhs; whnf) <;> exact rfl)))); ((apply vL_wanted); exact rfl); ((apply vL_val); (case h => ((apply opv_len); (first | exact norm_eq rfl | ((conv => lhs; whnf) <;> exact rfl)); (first | assumption | infer_instance)))); ((apply vL_wanted); exact rfl); (iterate 3 (((apply vL_val); (case h => ((apply opv_E); exact rfl))))); (refine vL_and rfl rfl (fun h => by omega) (fun _ => ?_)); ((apply vL_unwanted'); exact rfl; exact rfl); ((apply vL_val); (case h => ((apply opv_E); exact rfl))); apply vL_nil; apply seqP_normal; ((apply vC_cond_false); exact rfl); apply vC_skip; apply seqP_normal; apply vC_seq; apply vC_region; (iterate 4 (((apply vL_val); (case h => ((apply opv_E); exact rfl))))); (refine vL_and rfl rfl (fun _ => ?_) (fun h => by omega)); ((apply vL_val); (case h => ((apply opv_E); exact rfl))); ((apply vL_wanted); exact rfl); ((apply vL_val); (case h => ((apply opv_E); exact rfl))); ((apply vL_wanted); exact rfl); ((apply vL_val); (case h => ((apply opv_eql_bool); exact rfl; exact rfl))); (iterate 2 (((apply vL_val); (case h => ((apply opv_E); exact rfl))))); ((apply vL_wanted); exact rfl); ((apply vL_val); (case h => ((apply opv_E); exact rfl))); ((apply vL_wanted); exact rfl); ((apply vL_val); (case h => ((apply opv_E); exact rfl))); ((apply vL_wanted); exact rfl); (iterate 3 (((apply vL_val); (case h => ((apply opv_E); exact rfl))))); (refine vL_and rfl rfl (fun _ => ?_) (fun h => by omega)))
      refine vL_callF rfl (awake25 w5) rfl ?_
      rintro _ w6 ⟨rfl, hf6⟩
      ((iterate 2 (((apply vL_val); (case h => ((apply opv_E); exact rfl))))); apply vL_nil; apply seqP_normal; apply vC_ret)
      (apply ret1; (case h1 => (first | exact norm_eq rfl | ((conv => lhs; whnf) <;> exact rfl))))
      exact ⟨rfl, hfw5.trans hf6⟩
end Go.Proofs.Ytffgecomdlnngaa
