/- Layer 15: a step of the law's runtime is a step of the plain machine. -/
import Derived.Test.YtaeckjhipmcddaaCu
set_option maxRecDepth 100000
namespace Go.Proofs.Ytaeckjhipmcddaa
open Go Go.Eng
/-- what is always about: the programs, as the world began -/
structure Pg (X : Nat → Prop) (h : Array Obj) (vp : Value) (P : List (OV × List (Int × Int × Int))) : Prop where
  z : Pz X h vp P
  hPb : ∀ y ∈ P, ∀ q ∈ y.2, q.2.1 ≤ 9223372036854775807
  len : 0 < P.length ∧ P.length ≤ 6
theorem Pg.frF {X F : Nat → Prop} {w w' : World} {vp : Value} {P : List (OV × List (Int × Int × Int))} (g : Pg X w.heap vp P) (hf : Fr F w w') (hF : ∀ k, X k → ¬ F k) : Pg X w'.heap vp P := ⟨g.z.frF hf hF, g.hPb, g.len⟩
theorem Pg.fr {X K : Nat → Prop} {w w' : World} {vp : Value} {P : List (OV × List (Int × Int × Int))} (g : Pg X w.heap vp P) (hf : Fr (LF X K) w w') : Pg X w'.heap vp P := ⟨g.z.fr hf, g.hPb, g.len⟩
theorem Pg.frN {X : Nat → Prop} {w w' : World} {vp : Value} {P : List (OV × List (Int × Int × Int))} (g : Pg X w.heap vp P) (hf : Fr No w w') : Pg X w'.heap vp P := ⟨g.z.frN hf, g.hPb, g.len⟩
/-- between turns -/
def Wq (X K : Nat → Prop) (w : World) (wb rb : Nat) (vp : Value) (S : AS) : Prop := ∃ rest ts, Wst X K w wb rb vp none rest none ts S
theorem w_step {X K : Nat → Prop} {w : World} {wb rb : Nat} {vp : Value} {S : AS} {n : Nat} {P : List (OV × List (Int × Int × Int))} (g : Pg X w.heap vp P) (W : Wq X K w wb rb vp S) (a : AOkR S none) (b : AIn P.length n S) (hn : n ≤ 10000) (p : Int) (hp : 0 ≤ p ∧ p ≤ 18446744073709551615) :
    Rets Try.prog 26 #[pt rb, .int .u64 p] w fun u w' => (S.step (P.map (·.2)) p = none ∧ u = .bool false ∧ w = w') ∨
      ∃ S' K', S.step (P.map (·.2)) p = some S' ∧ u = .bool true ∧ Wq X K' w' wb rb vp S' ∧ KX w K K' ∧ Fr (LF X K) w w' := by
  obtain ⟨rest, ts, sb, qb, lv, tv, wt, we, L, T⟩ := W
  have hlen := a.len
  have hfew := a.few
  cases hst : S.step (P.map (·.2)) p with
  | none =>
    have hl := step_none hst a
    have R := L.rt
    rw [hl] at R
    exact (r_step_none R p hp).mono fun u w' ⟨h1, h2⟩ => .inl ⟨rfl, h2, h1⟩
  | some S' =>
    obtain ⟨i, t, h1, h2, h3, h4, hS'⟩ := step_some hst a
    obtain ⟨x, hx⟩ : ∃ x, ts[i]? = some x := ⟨ts[i]'(by rw [T.1]; exact (List.getElem?_eq_some_iff.1 h2).1), List.getElem?_eq_getElem _⟩
    have k := T.2 i x t (by simp) hx h2
    have ht := b.tp t (List.mem_of_getElem? h2)
    obtain ⟨f, cap, hnx, hf, hcall⟩ := next_calls (k.nx h3) (by omega)
    haveI := hf
    have hi := (List.getElem?_eq_some_iff.1 hx).1
    have hr1 : 0 ≤ p / (S.line.length : Int) := Int.ediv_nonneg hp.1 (by omega)
    have hr2 : p / (S.line.length : Int) ≤ p := Int.ediv_le_self _ hp.1
    have hov : x.2.over = false := by rw [k.over, h3]; rfl
    have hpk : x.2.parked = false := by rw [k.parked, h3]; rfl
    have a1 := a.take h1 h2 (t.pos + 1) 0
    rw [toNat_emod h4] at a1
    refine (r_step L.rt p hp (by omega) h1 hx cap hnx (fun w2 Z2 ready2 ts2 y => ∃ K' rest' sb' qb' lv' tv' wt' we', Z2 = LZ X K' wb wt' we' ∧ Lw X K' w2 wb rb sb' qb' lv' tv' wt' we' vp (some x.1) rest' ready2 ts2 S'.ev ∧ ready2 = S'.line ∧ TsOk w2.heap K' wb (some i) ts2 S'.tasks ∧ KX w K K' ∧ Fr (LF X K) w w2 ∧ y.over = false ∧ ∃ c, S'.tasks[i]? = some c ∧ ((c.st = 0 ∧ y.said = false ∧ y.parked = false) ∨ (y.said = true ∧ TkOk w2.heap K' wb (x.1, y) c))) (fun w1 lv1 R1 F1 => ?_)).mono fun u w' h => ?_
    · obtain ⟨L1, G1⟩ := L.call (K' := K) F1 (fun _ h => .inl h) R1 (set_fst hx)
      have hno : ∀ k, K k → ¬ LF X K k := fun k h h' => h'.2 h
      have T1 : TsOk w1.heap K wb (some i) (ts.set i (x.1, { x.2 with next := ⟨.nilFunc, rfl⟩, said := false })) (S.tasks.set i ⟨t.prog, t.pos + 1, 0, 2⟩) := by
        refine ⟨by simp only [List.length_set]; exact T.1, fun j z c hr hz hc => ?_⟩
        have hji : i ≠ j := fun e => hr (by rw [e])
        rw [List.getElem?_set, if_neg hji] at hz hc
        exact (T.2 j z c (by simp) hz hc).fr G1 hno (fun _ h => h)
      obtain ⟨f', cap', hnx', hf', hcall'⟩ := next_calls ((k.nx h3).fr G1 hno (fun _ h => h)) (by omega)
      rw [hnx] at hnx'
      simp only [Value.func.injEq, Fn.func.injEq, true_and] at hnx'
      obtain ⟨e1, e2⟩ := hnx'
      have e3 : cap = cap' := by simpa using e2
      subst e1
      subst e3
      refine hcall' _ ?_
      refine (w_turn (S := { S with line := without S.line (p % (S.line.length : Int)), tasks := S.tasks.set i ⟨t.prog, t.pos + 1, 0, 2⟩ }) (i := i) (x := (x.1, { x.2 with next := ⟨.nilFunc, rfl⟩, said := false })) P (g.z.fr G1) (set_at hx) L1 T1 a1 rfl hpk hov t.why (by show (S.tasks.set i _)[i]? = _; rw [List.getElem?_set, if_pos rfl, if_pos (by rw [← T.1]; exact hi)]) ht.1 g.len.2 g.hPb (by show S.ev.length ≤ _; have := b.ev; omega) (by rw [List.length_set, T.1]; have := b.tl; omega) (by omega) ⟨hr1, by omega⟩).mono fun u2 w2 U => ?_
      obtain ⟨F2, K', rest', ts2, y, ⟨sb', qb', lv', tv', wt', we', L2, T2⟩, hy, hK, hyo, c, hc, hcc⟩ := U
      have hSe : AS.act (P.map (·.2)) (({ S with line := without S.line (p % (S.line.length : Int)), tasks := S.tasks.set i ⟨t.prog, t.pos + 1, 0, 2⟩ } : AS).note i t.pos t.why) i (p / (S.line.length : Int)) (doAt (P.map (·.2)) t.prog t.pos) = S' := hS'.symm
      rw [hSe] at L2 T2 hc
      exact ⟨LZ X K' wb wt' we', sb', qb', lv', tv', rest', S'.line, ts2, y, L2.rt, hy, K', rest', sb', qb', lv', tv', wt', we', rfl, L2, rfl, T2, ⟨hK.1, fun b hb => (hK.2 b hb).imp id (fun h => Nat.le_trans G1.size h)⟩, G1.trans F2, hyo, c, hc, hcc⟩
    · obtain ⟨rfl, w2, Z2, sb2, qb2, lv2, tv2, ready2, ts2, y, ⟨K', rest', sb', qb', lv', tv', wt', we', rfl, L2, rfl, T2, hK, F2, hyo, c, hc, hcc⟩, hy, R2, G2⟩ := h
      obtain ⟨L3, G3⟩ := L2.call (K' := K') G2 (fun _ h => .inl h) R2 (set_fst (x := (x.1, y)) hy)
      have hno : ∀ k, K' k → ¬ LF X K' k := fun k h h' => h'.2 h
      refine .inr ⟨S', K', rfl, rfl, ⟨0, _, sb2, qb2, lv2, tv2, wt', we', L3, by simp only [List.length_set]; exact T2.1, fun j z d _ hz hd => ?_⟩, hK, F2.trans' G3 (fun k hk => .inl ⟨hk.1, fun h => hk.2 (hK.1 k h)⟩)⟩
      by_cases e : i = j
      · subst e
        rw [set_at hy] at hz
        rw [hc] at hd
        cases hz; cases hd
        rcases hcc with ⟨c1, c2, c3⟩ | ⟨c2, c3⟩
        · refine ⟨?_, ?_, fun h => by omega, fun h => by omega⟩
          · show (!y.said) = _
            rw [c2, c1]; rfl
          · show y.parked = _
            rw [c3, c1]; rfl
        · have c4 := c3.fr G3 hno (fun _ h => h)
          refine ⟨?_, c4.parked, c4.nx, c4.wk⟩
          show (!y.said) = _
          rw [c2, ← c3.over]
          exact hyo.symm
      · rw [List.getElem?_set, if_neg e] at hz
        exact (T2.2 j z d (fun h => e (Option.some.inj h).symm) hz hd).fr G3 hno (fun _ h => h)
end Go.Proofs.Ytaeckjhipmcddaa
