/- Layer 25: maps with keys of two and three numbers.
Layer 25: the plain law of ProducerOnce.
Layer 25: the law ProducerOnce: its walk. -/
import Derived.Test.YtffgecomdlnngaaX3
import Derived.Test.YtffgecomdlnngaaEn
set_option maxRecDepth 100000
namespace Go.Proofs.Ytffgecomdlnngaa
open Go Go.Eng
abbrev I2 := Int × Int
abbrev I3 := Int × Int × Int
def k2L (x : I2) : List Value := [.int .i64 x.1, .int .i64 x.2]
def k3L (x : I3) : List Value := [.int .i64 x.1, .int .i64 x.2.1, .int .i64 x.2.2]
def k2E (x : I2) : Value := .agg (k2L x).toArray
def k3E (x : I3) : Value := .agg (k3L x).toArray
theorem valsEq_k2 (a b : I2) : valsEq (k2L a) (k2L b) = decide (a = b) := by
  obtain ⟨a1, a2⟩ := a
  obtain ⟨b1, b2⟩ := b
  simp only [k2L, valsEq, valEq, Bool.and_true, Prod.mk.injEq]
  by_cases h1 : a1 = b1 <;> by_cases h2 : a2 = b2 <;> simp [h1, h2]
theorem valsEq_k3 (a b : I3) : valsEq (k3L a) (k3L b) = decide (a = b) := by
  obtain ⟨a1, a2, a3⟩ := a
  obtain ⟨b1, b2, b3⟩ := b
  simp only [k3L, valsEq, valEq, Bool.and_true, Prod.mk.injEq]
  by_cases h1 : a1 = b1 <;> by_cases h2 : a2 = b2 <;> by_cases h3 : a3 = b3 <;> simp [h1, h2, h3]
theorem ky2 {P : Program} {kt E by' : Nat} {z : List Value} (hu : P.underlying kt = some (.array 2 E)) (hE : P.underlying E = some (.int .i64)) [TInfo P E 1 by' z] [hfl : TFlat P kt [.i .i64, .i .i64]] : KyOk P kt k2E where
  check b k w := by
    have p0 := part_kd (P := P) (w := w) (k := .i .i64) (xs := k2L k) (o := 0) (v := .int .i64 k.1) hE rfl
    have p1 := part_kd (P := P) (w := w) (k := .i .i64) (xs := k2L k) (o := 1) (v := .int .i64 k.2) hE rfl
    have c0 := MapKept.run_checkKey (w := w) (n := 9998) hE (k := .int .i64 k.1) (by simp [MapKept.IsKey]) b
    have c1 := MapKept.run_checkKey (w := w) (n := 9998) hE (k := .int .i64 k.2) (by simp [MapKept.IsKey]) b
    have hs := run_sizeOf' (P := P) (t := E) w
    show (Instr.checkKey b (9999 + 1) kt (k2E k)).run P w = _
    unfold Instr.checkKey
    simp only [k2E, Sem.run_bind, run_underlying hu, Result.andThen_ok]
    simp [Std.Legacy.Range.forIn_eq_forIn_range', List.range'_succ, Std.Legacy.Range.size, hs, p0, p1, c0, c1]
  find k es M w he := by
    rw [run_findKey_eq w (by rw [hu])]
    refine findAsking_flat (fun a b => ?_) k es M 0 he
    rw [← valsEq_k2]
    exact hfl.eq w (k2L a) (k2L b) 9998 ⟨rfl, rfl, trivial⟩ ⟨rfl, rfl, trivial⟩
  bits k := by simp [Instr.sameBits, k2E, k2L]
  inj a b h := by
    simp [k2E, k2L] at h
    exact Prod.ext h.1 h.2
theorem ky3 {P : Program} {kt E by' : Nat} {z : List Value} (hu : P.underlying kt = some (.array 3 E)) (hE : P.underlying E = some (.int .i64)) [TInfo P E 1 by' z] [hfl : TFlat P kt [.i .i64, .i .i64, .i .i64]] : KyOk P kt k3E where
  check b k w := by
    have p0 := part_kd (P := P) (w := w) (k := .i .i64) (xs := k3L k) (o := 0) (v := .int .i64 k.1) hE rfl
    have p1 := part_kd (P := P) (w := w) (k := .i .i64) (xs := k3L k) (o := 1) (v := .int .i64 k.2.1) hE rfl
    have p2 := part_kd (P := P) (w := w) (k := .i .i64) (xs := k3L k) (o := 2) (v := .int .i64 k.2.2) hE rfl
    have c0 := MapKept.run_checkKey (w := w) (n := 9998) hE (k := .int .i64 k.1) (by simp [MapKept.IsKey]) b
    have c1 := MapKept.run_checkKey (w := w) (n := 9998) hE (k := .int .i64 k.2.1) (by simp [MapKept.IsKey]) b
    have c2 := MapKept.run_checkKey (w := w) (n := 9998) hE (k := .int .i64 k.2.2) (by simp [MapKept.IsKey]) b
    have hs := run_sizeOf' (P := P) (t := E) w
    show (Instr.checkKey b (9999 + 1) kt (k3E k)).run P w = _
    unfold Instr.checkKey
    simp only [k3E, Sem.run_bind, run_underlying hu, Result.andThen_ok]
    simp [Std.Legacy.Range.forIn_eq_forIn_range', List.range'_succ, Std.Legacy.Range.size, hs, p0, p1, p2, c0, c1, c2]
  find k es M w he := by
    rw [run_findKey_eq w (by rw [hu])]
    refine findAsking_flat (fun a b => ?_) k es M 0 he
    rw [← valsEq_k3]
    exact hfl.eq w (k3L a) (k3L b) 9998 ⟨rfl, rfl, rfl, trivial⟩ ⟨rfl, rfl, rfl, trivial⟩
  bits k := by simp [Instr.sameBits, k3E, k3L]
  inj a b h := by
    simp [k3E, k3L] at h
    exact Prod.ext h.1 (Prod.ext h.2.1 h.2.2)
instance kyI2 : KyOk Try.prog 41 k2E := ky2 Try.underlying41 Try.underlying3
instance kyI3 : KyOk Try.prog 38 k3E := ky3 Try.underlying38 Try.underlying3
end Go.Proofs.Ytffgecomdlnngaa

set_option maxRecDepth 100000
namespace Go.Proofs.Ytffgecomdlnngaa
open Go Go.Eng
structure OI (L : List F25) (N : List (I2 × Int)) (Wm Z : List (I3 × Int)) (T : List (Int × Int)) (en : Int) (cnt : Nat) : Prop where
  rt : RightF L
  pd : ∀ p ∈ L, p.1 ≤ 4
  top : ∀ pid, mget T pid = (gF L pid).map (·.2.1)
  nx1 : ∀ pid p, gF L pid = some p → mget N (pid, p.2.1) = some p.2.2.1
  nx0 : ∀ pid ep, (∀ p, gF L pid = some p → p.2.1 < ep) → mget N (pid, ep) = none
  wh : ∀ pid p r, gF L pid = some p → r ∈ p.2.2.2 → mget Wm (pid, p.2.1, r.1) = some r.2.2 ∧ mget Z (pid, p.2.1, r.1) = some r.2.1
  e0 : 0 ≤ en ∧ en ≤ 5 * cnt
theorem OI.nil : OI [] [] [] [] [] 0 0 :=
  ⟨by simp [RightF, RF], fun p h => (by cases h), fun _ => rfl, fun _ _ h => (by cases h), fun _ _ _ => rfl, fun _ _ _ h => (by cases h), by decide⟩
theorem RF.len4 : ∀ {L : List F25} {last : Int}, RF last L → (∀ p ∈ L, p.1 ≤ 4) → last ≤ 4 → (L.length : Int) ≤ 4 - last
  | [], last, _, _, h => by simp; omega
  | p :: t, last, h, hp, _ => by
    have h1 := hp p (List.mem_cons_self ..)
    have h2 := h.1.1.1
    have := RF.len4 h.2 (fun q hq => hp q (List.mem_cons_of_mem _ hq)) h1
    rw [List.length_cons]
    omega
def eff (L : List F25) (pid ep : Int) : Int × List (Int × Int × Int) := match gF L pid with
  | none => (0, [])
  | some p => if p.2.1 < ep then (0, []) else (p.2.2.1, p.2.2.2)
theorem gF_mem {L : List F25} {pid : Int} {p : F25} (h : gF L pid = some p) : p ∈ L ∧ p.1 = pid := ⟨List.mem_of_find?_eq_some h, by have := List.find?_some (p := fun p : F25 => decide (p.1 = pid)) h; simpa using this⟩
theorem OI.judge {L : List F25} {N : List (I2 × Int)} {Wm Z : List (I3 × Int)} {T : List (Int × Int)} {en : Int} {cnt : Nat} (I : OI L N Wm Z T en cnt) {pid ep fi : Int} {n : Nat} (hp : 1 ≤ pid) :
    (∃ p, gF L pid = some p ∧ ep < p.2.1 ∧ jF L pid ep fi n = (0, false, 250)) ∨ ((∀ p, gF L pid = some p → p.2.1 ≤ ep) ∧ jF L pid ep fi n = j1 (eff L pid ep).1 (eff L pid ep).2 fi n ∧ (mget N (pid, ep)).getD 0 = (eff L pid ep).1 ∧
      ∀ r ∈ (eff L pid ep).2, mget Wm (pid, ep, r.1) = some r.2.2 ∧ mget Z (pid, ep, r.1) = some r.2.1) := by
  have hl := RF.len4 I.rt.1 I.pd (by decide)
  unfold jF eff
  rw [if_neg (by omega)]
  cases hG : gF L pid with
  | none =>
    refine .inr ⟨fun p h => (by cases h), ?_, ?_, fun r hr => (by cases hr)⟩
    · exact if_neg (by omega)
    · rw [I.nx0 pid ep (fun p h => by rw [hG] at h; cases h)]; rfl
  | some p =>
    simp only
    by_cases h1 : ep < p.2.1
    · exact .inl ⟨p, rfl, h1, by rw [if_pos h1]⟩
    right
    rw [if_neg h1]
    refine ⟨fun q hq => by cases hq; omega, ?_⟩
    by_cases h2 : p.2.1 < ep
    · rw [if_pos h2, if_pos h2]
      refine ⟨rfl, ?_, fun r hr => (by cases hr)⟩
      rw [I.nx0 pid ep (fun q h => by rw [hG] at h; cases h; exact h2)]; rfl
    · rw [if_neg h2, if_neg h2]
      have he : p.2.1 = ep := by omega
      refine ⟨rfl, ?_, fun r hr => ?_⟩
      · rw [← he, I.nx1 pid p hG]; rfl
      · rw [← he]; exact I.wh pid p r hG hr
theorem j1_cases (nx : Int) (rs : List (Int × Int × Int)) (fi : Int) (n : Nat) : (fi = nx ∧ j1 nx rs fi n = (0, false, 0)) ∨ (∃ r ∈ rs, r.1 = fi ∧ r.2.1 = (n : Int) ∧ j1 nx rs fi n = (r.2.2, true, 0)) ∨ (fi < nx ∧ j1 nx rs fi n = (0, false, 251)) ∨ (nx < fi ∧ j1 nx rs fi n = (0, false, 252)) := by
  unfold j1
  by_cases h : fi = nx
  · exact .inl ⟨h, if_pos h⟩
  rw [if_neg h]
  cases hf : rs.find? (fun r => decide (r.1 = fi ∧ r.2.1 = (n : Int))) with
  | some r =>
    have h1 : r.1 = fi ∧ r.2.1 = (n : Int) := by have := List.find?_some (p := fun r : Int × Int × Int => decide (r.1 = fi ∧ r.2.1 = (n : Int))) hf; simpa using this
    exact .inr (.inl ⟨r, List.mem_of_find?_eq_some hf, h1.1, h1.2, rfl⟩)
  | none =>
    by_cases h2 : fi < nx
    · exact .inr (.inr (.inl ⟨h2, if_pos h2⟩))
    · exact .inr (.inr (.inr ⟨by omega, if_neg h2⟩))
theorem RcOk.lt {nx : Int} : ∀ {rs : List (Int × Int × Int)}, RcOk nx rs → ∀ r ∈ rs, r.1 < nx
  | [x], h, r, hr => by
    rw [List.mem_singleton.1 hr]
    have := h.1.1; have := h.2; omega
  | x :: y :: t, h, r, hr => by
    rcases List.mem_cons.1 hr with rfl | hr
    · have h1 := RcOk.lt h.2.2 y (List.mem_cons_self ..)
      have := h.1.1; have := h.2.1; omega
    · exact RcOk.lt h.2.2 r hr
theorem newRs_mem {ep ep0 : Int} {rs0 : List (Int × Int × Int)} {x r : Int × Int × Int} (h : r ∈ newRs ep ep0 rs0 x) : r = x ∨ (ep0 = ep ∧ r ∈ rs0) := by
  have h1 : r ∈ (if ep0 = ep then rs0 else []) ++ [x] := by
    unfold newRs at h
    generalize (if ep0 = ep then rs0 else []) ++ [x] = X at h ⊢
    split at h
    · exact List.mem_of_mem_drop h
    · exact h
  rcases List.mem_append.1 h1 with h2 | h2
  · by_cases he : ep0 = ep
    · rw [if_pos he] at h2; exact .inr ⟨he, h2⟩
    · rw [if_neg he] at h2; cases h2
  · exact .inl (List.mem_singleton.1 h2)
theorem ins_mem {pid ep fi : Int} {n : Nat} {off : Int} : ∀ {L : List F25} {p : F25}, p ∈ insF pid ep fi n off L → p ∈ L ∨ p.1 = pid := by
  intro L
  induction L with
  | nil => intro p h; unfold insF at h; rw [List.mem_singleton.1 h]; exact .inr rfl
  | cons x t ih =>
    intro p h
    unfold insF at h
    split at h
    · rcases List.mem_cons.1 h with rfl | h
      · exact .inl (List.mem_cons_self ..)
      · exact (ih h).imp (List.mem_cons_of_mem _) id
    · split at h
      · rcases List.mem_cons.1 h with rfl | h
        · exact .inr rfl
        · exact .inl (List.mem_cons_of_mem _ h)
      · rcases List.mem_cons.1 h with rfl | h
        · exact .inr rfl
        · exact .inl h
theorem OI.next {L : List F25} {N : List (I2 × Int)} {Wm Z : List (I3 × Int)} {T : List (Int × Int)} {en : Int} {cnt : Nat} (I : OI L N Wm Z T en cnt) {pid ep fi : Int} {n : Nat} (hp : 1 ≤ pid ∧ pid ≤ 4) (hep : 0 ≤ ep ∧ ep ≤ 3) (hfi : 0 ≤ fi ∧ fi ≤ 40) (hn : 1 ≤ n ∧ n ≤ 5) (hc : cnt ≤ 200)
    (hnf : ∀ p, gF L pid = some p → p.2.1 ≤ ep) (he : fi = (eff L pid ep).1) : OI (insF pid ep fi n en L) (mset N (pid, ep) (fi + n)) (mset Wm (pid, ep, fi) en) (mset Z (pid, ep, fi) n) (mset T pid ep) (en + n) (cnt + 1) := by
  have h0 := I.e0
  have hmeet : Meets (gF L pid) ep fi := by
    unfold Meets
    unfold eff at he
    cases hG : gF L pid with
    | none => rw [hG] at he; exact he
    | some p =>
      rw [hG] at he
      simp only at he ⊢
      have := hnf p hG
      refine ⟨this, fun h => ?_, fun h => ?_⟩
      · rw [if_pos h] at he; exact he
      · rw [if_neg (by omega)] at he; exact he
  obtain ⟨r1, r2⟩ := ins_right (pid := pid) (ep := ep) (fi := fi) (n := n) (off := en) (by omega) (by omega) (by omega) (by omega) ⟨h0.1, by omega⟩ L 0 I.rt.1 (by omega) hmeet
  have hpd : ∀ p ∈ insF pid ep fi n en L, p.1 ≤ 4 := fun p hp' => by
    rcases ins_mem hp' with h | h
    · exact I.pd p h
    · omega
  have hsame := gF_ins_same (pid := pid) (ep := ep) (fi := fi) (n := n) (off := en) L 0 I.rt.1
  have hoth : ∀ o, o ≠ pid → gF (insF pid ep fi n en L) o = gF L o := fun o h => gF_ins_other h L
  have hl4 := RF.len4 r1 hpd (by decide)
  refine ⟨⟨r1, by omega⟩, hpd, fun o => ?_, fun o p h => ?_, fun o e' h => ?_, fun o p r h hr => ?_, by omega⟩
  · rw [mget_mset]
    by_cases ho : o = pid
    · subst ho; rw [if_pos rfl, hsame]; rfl
    · rw [if_neg ho, hoth o ho]; exact I.top o
  · rw [mget_mset]
    by_cases ho : o = pid
    · subst ho
      rw [hsame] at h; cases h
      exact if_pos rfl
    · rw [if_neg (fun h => ho (congrArg Prod.fst h)), ]
      rw [hoth o ho] at h
      exact I.nx1 o p h
  · rw [mget_mset]
    by_cases ho : o = pid
    · subst ho
      have h1 : ep < e' := h _ hsame
      rw [if_neg (fun h => by have := congrArg Prod.snd h; simp only at this; omega)]
      exact I.nx0 o e' (fun p hp' => by have := hnf p hp'; omega)
    · rw [if_neg (fun h => ho (congrArg Prod.fst h))]
      exact I.nx0 o e' (fun p hp' => h p (by rw [hoth o ho]; exact hp'))
  · rw [mget_mset, mget_mset]
    by_cases ho : o = pid
    · subst ho
      rw [hsame] at h; cases h
      rcases newRs_mem hr with rfl | ⟨h1, h2⟩
      · exact ⟨if_pos rfl, if_pos rfl⟩
      · cases hG : gF L o with
        | none => rw [hG] at h2; cases h2
        | some q =>
          rw [hG] at h1 h2
          replace h1 : q.2.1 = ep := h1
          replace h2 : r ∈ q.2.2.2 := h2
          have hne : r.1 ≠ fi := by
            unfold eff at he
            rw [hG] at he
            simp only at he
            rw [if_neg (by omega)] at he
            have := RcOk.lt (show RcOk q.2.2.1 q.2.2.2 from ?_) r h2
            · omega
            · clear he hsame hoth r1 r2 hpd hl4
              have hmq := (gF_mem hG).1
              have key : ∀ {L : List F25} {last : Int}, RF last L → q ∈ L → RcOk q.2.2.1 q.2.2.2 := by
                intro L
                induction L with
                | nil => intro _ _ h; cases h
                | cons y t ih =>
                  intro last h hm
                  rcases List.mem_cons.1 hm with rfl | hm
                  · exact h.1.2
                  · exact ih h.2 hm
              exact key I.rt.1 hmq
          have hk : ¬ ((o, (nwF o ep fi n en (was (some q)).1 (was (some q)).2).2.1, r.1) : I3) = (o, ep, fi) := fun h => hne (congrArg (fun z : I3 => z.2.2) h)
          rw [if_neg hk, if_neg hk]
          have := I.wh o q r hG h2
          rw [h1] at this
          exact this
    · rw [hoth o ho] at h
      rw [if_neg (fun h => ho (congrArg Prod.fst h)), if_neg (fun h => ho (congrArg Prod.fst h))]
      exact I.wh o p r h hr
end Go.Proofs.Ytffgecomdlnngaa

set_option maxRecDepth 100000
namespace Go.Proofs.Ytffgecomdlnngaa
open Go Go.Eng
abbrev ivE (n : Int) : Value := .int .i64 n
theorem mset_twice {κ ν : Type} [DecidableEq κ] (M : List (κ × ν)) (k : κ) (u v : ν) : mset (mset M k u) k v = mset M k v := by
  induction M with
  | nil => simp [mset]
  | cons p M ih =>
    obtain ⟨a, x⟩ := p
    simp only [mset]
    split
    · rename_i h; simp [mset, h]
    · rename_i h; simp [mset, h, ih]
def cmE (x : Int × Int × Int × Int) : List Value := [.int .i64 x.1, .int .i64 x.2.1, .int .i64 x.2.2.1, .int .i64 x.2.2.2]
instance encCm : EncOk cmE 4 := ⟨by intro x u h; simp [cmE] at h; rcases h with rfl | rfl | rfl | rfl <;> rfl, fun _ => rfl⟩
theorem PqI.frMp {κ ν : Type} [DecidableEq κ] {w0 w w' : World} {v : Value} {l : List PR} {n r : Nat} {kE : κ → Value} {vE : ν → Value} {M : List (κ × ν)} (S : PqI w0 w v l n) (o : Mp w.heap r kE vE M) (hr : w0.heap.size ≤ r) (h : Fr (fun b => b = r) w w') : PqI w0 w' v l n :=
  ⟨S.ho.fr h (fun b hb e => by subst e; exact o.ne_own S.ho hb), S.fo, fun i p hi hp => ⟨(S.rc i p hi hp).1.fr h (fun b hb e => by subst e; exact o.ne_own (S.rc i p hi hp).1 hb), (S.rc i p hi hp).2⟩, S.sep, S.fr.trans' h (fun b hb => by subst hb; exact .inr hr)⟩
structure OS (w0 w : World) (r1 r2 r3 r4 : Nat) (sv : Value) (m : List PR) (N : List (I2 × Int)) (Wm Z : List (I3 × Int)) (T : List (Int × Int)) : Prop where
  s : PqI w0 w sv m m.length
  n : Mp w.heap r1 k2E ivE N
  a : Mp w.heap r2 k3E ivE Wm
  z : Mp w.heap r3 k3E ivE Z
  t : Mp w.heap r4 ikE ivE T
structure Dq (w0 : World) (r1 r2 r3 r4 : Nat) : Prop where
  g1 : w0.heap.size ≤ r1
  g2 : w0.heap.size ≤ r2
  g3 : w0.heap.size ≤ r3
  g4 : w0.heap.size ≤ r4
  n12 : r1 ≠ r2
  n13 : r1 ≠ r3
  n14 : r1 ≠ r4
  n23 : r2 ≠ r3
  n24 : r2 ≠ r4
  n34 : r3 ≠ r4
section
variable {w0 w w' : World} {r1 r2 r3 r4 : Nat} {sv : Value} {m : List PR} {N N' : List (I2 × Int)} {Wm Wm' Z Z' : List (I3 × Int)} {T T' : List (Int × Int)}
theorem OS.frN (S : OS w0 w r1 r2 r3 r4 sv m N Wm Z T) (h : Fr No w w') : OS w0 w' r1 r2 r3 r4 sv m N Wm Z T := ⟨S.s.frN h, S.n.frN h, S.a.frN h, S.z.frN h, S.t.frN h⟩
theorem OS.u1 (D : Dq w0 r1 r2 r3 r4) (S : OS w0 w r1 r2 r3 r4 sv m N Wm Z T) (h : Fr (fun b => b = r1) w w') (hn : Mp w'.heap r1 k2E ivE N') : OS w0 w' r1 r2 r3 r4 sv m N' Wm Z T :=
  ⟨S.s.frMp S.n D.g1 h, hn, S.a.fr h (Ne.symm D.n12), S.z.fr h (Ne.symm D.n13), S.t.fr h (Ne.symm D.n14)⟩
theorem OS.u2 (D : Dq w0 r1 r2 r3 r4) (S : OS w0 w r1 r2 r3 r4 sv m N Wm Z T) (h : Fr (fun b => b = r2) w w') (hn : Mp w'.heap r2 k3E ivE Wm') : OS w0 w' r1 r2 r3 r4 sv m N Wm' Z T :=
  ⟨S.s.frMp S.a D.g2 h, S.n.fr h D.n12, hn, S.z.fr h (Ne.symm D.n23), S.t.fr h (Ne.symm D.n24)⟩
theorem OS.u3 (D : Dq w0 r1 r2 r3 r4) (S : OS w0 w r1 r2 r3 r4 sv m N Wm Z T) (h : Fr (fun b => b = r3) w w') (hn : Mp w'.heap r3 k3E ivE Z') : OS w0 w' r1 r2 r3 r4 sv m N Wm Z' T :=
  ⟨S.s.frMp S.z D.g3 h, S.n.fr h D.n13, S.a.fr h D.n23, hn, S.t.fr h (Ne.symm D.n34)⟩
theorem OS.u4 (D : Dq w0 r1 r2 r3 r4) (S : OS w0 w r1 r2 r3 r4 sv m N Wm Z T) (h : Fr (fun b => b = r4) w w') (hn : Mp w'.heap r4 ikE ivE T') : OS w0 w' r1 r2 r3 r4 sv m N Wm Z T' :=
  ⟨S.s.frMp S.t D.g4 h, S.n.fr h D.n14, S.a.fr h D.n24, S.z.fr h D.n34, hn⟩
end
theorem OI.more {L : List F25} {N : List (I2 × Int)} {Wm Z : List (I3 × Int)} {T : List (Int × Int)} {en : Int} {cnt : Nat} (I : OI L N Wm Z T en cnt) : OI L N Wm Z T en (cnt + 1) := ⟨I.rt, I.pd, I.top, I.nx1, I.nx0, I.wh, by have := I.e0; omega⟩
theorem may_once {pid ep fi : Int} {n : Nat} (hp : 1 ≤ pid ∧ pid ≤ 4) (hep : 0 ≤ ep ∧ ep ≤ 3) (hfi : 0 ≤ fi ∧ fi ≤ 40) (hn : 1 ≤ n ∧ n ≤ 5) : mayB pid ep fi (List.replicate n 1) = true := by
  refine decide_eq_true ⟨⟨by omega, by omega, by omega, by omega, by omega, by omega⟩, ⟨?_, ?_, fun x hx => ?_⟩, .inl (by omega)⟩
  · rw [List.length_replicate]; exact hn.1
  · rw [List.length_replicate]; omega
  · rw [List.eq_of_mem_replicate hx]; decide
theorem once25 (v : Value) (xs : List (Int × Int × Int × Int)) (w : World) (hr : Rd w.heap 4 cmE v xs) : Rets Try.prog 3 #[v] w fun u w' => u = .bool true ∧ Fr No w w' := by
  have hsm := hr.small
  refine rets_of Try.func3 rfl Try.ntmps3 rfl rfl (by kernel_rfl) ?_
  (apply vC_seq; apply vC_region; ((apply vL_val); (case h => ((apply opv_E); exact rfl))); apply vL_nil; apply seqP_normal; apply vC_seq; apply vC_region; ((apply vL_val); (case h => ((apply opv_E); exact rfl))); apply vL_nil; apply seqP_normal; apply vC_seq; apply vC_region)
  refine vL_val opw_makeMap ?_
  (((apply vL_val); (case h => ((apply opv_assign); ((conv => lhs; whnf) <;> exact rfl)))); apply vL_nil; apply seqP_normal; apply vC_seq; apply vC_region)
  refine vL_val opw_makeMap ?_
  (((apply vL_val); (case h => ((apply opv_assign); ((conv => lhs; whnf) <;> exact rfl)))); apply vL_nil; apply seqP_normal; apply vC_seq; apply vC_region)
  refine vL_val opw_makeMap ?_
  (((apply vL_val); (case h => ((apply opv_assign); ((conv => lhs; whnf) <;> exact rfl)))); apply vL_nil; apply seqP_normal; apply vC_seq; apply vC_region)
  refine vL_val opw_makeMap ?_
  (((apply vL_val); (case h => ((apply opv_assign); ((conv => lhs; whnf) <;> exact rfl)))); apply vL_nil; apply seqP_normal; apply vC_seq; apply vC_region; ((apply vL_val); (case h => ((apply opv_E); exact rfl))); apply vL_nil; apply seqP_normal; (iterate 2 (apply vC_seq)); apply vC_region; ((apply vL_val); (case h => ((apply opv_E); exact rfl))); apply vL_nil; apply seqP_normal; apply vC_block)
  refine vC_slots [0, 4, 5, 6, 7, 3, 8, 9] (fun vs w' => ∃ r1 r2 r3 r4, vs = [v, .map (some r1), .map (some r2), .map (some r3), .map (some r4), .slice none 0 0, .int .i64 0, .int .i64 0] ∧ Dq w r1 r2 r3 r4 ∧ OS w w' r1 r2 r3 r4 (.slice none 0 0) [] [] [] [] []) ?_ ?_
  · refine ⟨_, _, _, _, rfl, ⟨?_, ?_, ?_, ?_, ?_, ?_, ?_, ?_, ?_, ?_⟩, ⟨PqI.nil (((((Fr.refl No w).alloc _).alloc _).alloc _).alloc _), ?_, ?_, ?_, Mp.new _ _⟩⟩
    · (try simp only [alloc_size]); omega
    · (try simp only [alloc_size]); omega
    · (try simp only [alloc_size]); omega
    · (try simp only [alloc_size]); omega
    · (try simp only [alloc_size]); omega
    · (try simp only [alloc_size]); omega
    · (try simp only [alloc_size]); omega
    · (try simp only [alloc_size]); omega
    · (try simp only [alloc_size]); omega
    · (try simp only [alloc_size]); omega
    · exact ((Mp.new k2E ivE).frN ((Fr.refl No _).alloc _)).frN (((Fr.refl No _).alloc _).alloc _)
    · exact (Mp.new k3E ivE).frN (((Fr.refl No _).alloc _).alloc _)
    · exact (Mp.new k3E ivE).frN ((Fr.refl No _).alloc _)
  rintro e2x _ w1 ⟨r1, r2, r3, r4, rfl, D, S1⟩
  simp only [setAll]
  (apply vC_loop3 49039857307708443467467104868809893875799651908868636428 3 8 9 (fun u3 u8 u9 w' => ∃ (i : Nat) (en : Int) (m : List PR) (N : List (I2 × Int)) (Wm Z : List (I3 × Int)) (T : List (Int × Int)), u8 = .int .i64 en ∧ u9 = .int .i64 i ∧ i ≤ 120 ∧ OS w w' r1 r2 r3 r4 u3 m N Wm Z T ∧ OI (m.map PR.f) N Wm Z T en i) (fun _ _ u9 _ => 120 - (RowKit.intOf u9).toNat)); (case h1 => (first | exact norm_eq rfl | ((conv => lhs; whnf) <;> exact rfl))); (case h2 => (first | exact norm_eq rfl | ((conv => lhs; whnf) <;> exact rfl))); (case h3 => (first | exact norm_eq rfl | ((conv => lhs; whnf) <;> exact rfl)))
  case h0 => exact ⟨0, 0, [], [], [], [], [], rfl, rfl, by decide, S1, OI.nil⟩
  case round =>
  rintro junk sv _ _ w2 ⟨i, en, m, N, Wm, Z, T, rfl, rfl, hi120, S2, I⟩
  have hr2 := hr.frN S2.s.fr
  by_cases hi1 : i < xs.length
  rotate_left
  · ((iterate 2 (apply vC_seq)); apply vC_region; ((apply vL_val); (case h => ((apply opv_E); exact rfl))); ((apply vL_val); (case h => ((apply opv_move); ((conv => lhs; whnf) <;> exact rfl)))); ((apply vL_val); (case h => ((apply opv_len); (first | exact norm_eq rfl | ((conv => lhs; whnf) <;> exact rfl)); (first | assumption | infer_instance)))); (iterate 2 (((apply vL_val); (case h => ((apply opv_E); exact rfl))))); (refine vL_and rfl rfl (fun h => by omega) (fun _ => ?_)); ((apply vL_unwanted'); exact rfl; exact rfl); ((apply vL_val); (case h => ((apply opv_E); exact rfl))); apply vL_nil; apply seqP_normal; ((apply vC_cond_false); exact rfl); apply vC_exit; apply seqP_exit; apply loopP_exit; apply blockP_exit; apply seqP_normal; apply vC_seq; apply vC_region)
    refine vL_callF rfl (awake25 w2) rfl ?_
    rintro _ w3 ⟨rfl, hf3⟩
    (((apply vL_val); (case h => ((apply opv_E); exact rfl))); apply vL_nil; apply seqP_normal; apply vC_ret)
    (apply ret1; (case h1 => (first | exact norm_eq rfl | ((conv => lhs; whnf) <;> exact rfl))))
    exact ⟨rfl, S2.s.fr.trans hf3⟩
  by_cases hi2 : i < 120
  rotate_left
  · ((iterate 2 (apply vC_seq)); apply vC_region; ((apply vL_val); (case h => ((apply opv_E); exact rfl))); ((apply vL_val); (case h => ((apply opv_move); ((conv => lhs; whnf) <;> exact rfl)))); ((apply vL_val); (case h => ((apply opv_len); (first | exact norm_eq rfl | ((conv => lhs; whnf) <;> exact rfl)); (first | assumption | infer_instance)))); (iterate 2 (((apply vL_val); (case h => ((apply opv_E); exact rfl))))); (refine vL_and rfl rfl (fun _ => ?_) (fun h => by omega)); ((apply vL_val); (case h => ((apply opv_E); exact rfl))); ((apply vL_wanted); exact rfl); (iterate 2 (((apply vL_val); (case h => ((apply opv_E); exact rfl))))); apply vL_nil; apply seqP_normal; (refine vC_cond_dec rfl (fun h => by omega) (fun _ => ?_)); apply vC_exit; apply seqP_exit; apply loopP_exit; apply blockP_exit; apply seqP_normal; apply vC_seq; apply vC_region)
    refine vL_callF rfl (awake25 w2) rfl ?_
    rintro _ w3 ⟨rfl, hf3⟩
    (((apply vL_val); (case h => ((apply opv_E); exact rfl))); apply vL_nil; apply seqP_normal; apply vC_ret)
    (apply ret1; (case h1 => (first | exact norm_eq rfl | ((conv => lhs; whnf) <;> exact rfl))))
    exact ⟨rfl, S2.s.fr.trans hf3⟩
  obtain ⟨x, hxi⟩ : ∃ x, xs[i]? = some x := ⟨xs[i], List.getElem?_eq_getElem hi1⟩
  have hxi' : xs[((i : Nat) : Int).toNat]? = some x := hxi
  have he0 := I.e0
  ((iterate 2 (apply vC_seq)); apply vC_region; ((apply vL_val); (case h => ((apply opv_E); exact rfl))); ((apply vL_val); (case h => ((apply opv_move); ((conv => lhs; whnf) <;> exact rfl)))); ((apply vL_val); (case h => ((apply opv_len); (first | exact norm_eq rfl | ((conv => lhs; whnf) <;> exact rfl)); (first | assumption | infer_instance)))); (iterate 2 (((apply vL_val); (case h => ((apply opv_E); exact rfl))))); (refine vL_and rfl rfl (fun _ => ?_) (fun h => by omega)); ((apply vL_val); (case h => ((apply opv_E); exact rfl))); ((apply vL_wanted); exact rfl); (iterate 2 (((apply vL_val); (case h => ((apply opv_E); exact rfl))))); apply vL_nil; apply seqP_normal; (refine vC_cond_dec rfl (fun _ => ?_) (fun h => by omega)); apply vC_skip; apply seqP_normal; apply vC_seq; apply vC_block; apply vC_seq; apply vC_region; ((apply vL_val); (case h => ((apply opv_move); ((conv => lhs; whnf) <;> exact rfl)))); ((apply vL_val); (case h => ((apply opv_E); exact rfl))); ((apply vL_val); (case h => ((apply opv_indexAddr); (first | exact norm_eq rfl | ((conv => lhs; whnf) <;> exact rfl)); exact rfl; (first | assumption | infer_instance); (first | omega | (simp only [List.length_map]; omega)); (first | omega | (simp only [List.length_map]; omega))))); ((apply vL_val); (case h => ((apply opv_ld_eln); exact rfl; exact rfl; (first | assumption | infer_instance); assumption))); ((apply vL_val); (case h => (apply opw_alloc))); ((apply vL_skip); (case h => ((apply ops_storen); (first | exact norm_eq rfl | ((conv => lhs; whnf) <;> exact rfl)); (first | exact norm_eq rfl | ((conv => lhs; whnf) <;> exact rfl)); exact rfl; (first | exact (fun u hu => EncOk.one _ u hu) | (intro u hu; simp at hu; rcases hu with rfl | rfl <;> (first | rfl | assumption)) | (intro u hu; simp at hu; rcases hu with rfl | rfl | rfl <;> (first | rfl | assumption)) | (intro u hu; simp at hu; rcases hu with rfl | rfl | rfl | rfl <;> (first | rfl | assumption))); (first | assumption | infer_instance); (first | decide | exact of_decide_eq_true rfl | (simp; done))))); apply vL_nil; apply seqP_normal; apply vC_seq)
  refine vC_gen (fun w' => Fr No w2 w' ∧ Blk w'.heap w2.heap.size [.int .i64 x.1, .int .i64 x.2.1, .int .i64 x.2.2.1, .int .i64 x.2.2.2] 29) ⟨by (repeat (first | exact Fr.refl _ _ | assumption | with_reducible apply Fr.allocSet | with_reducible apply Fr.alloc | with_reducible apply Fr.drewN | with_reducible apply Fr.drew | ((with_reducible apply Fr.set); rotate_left; (right; ((try simp only [alloc_size]); omega))) | (refine Fr.trans ?_ (by assumption)))), Blk.as (c := cmE x) inferInstance rfl⟩ ?_
  rintro w3 ⟨hf3, hb3⟩
  generalize w2.heap.size = b10 at hb3 ⊢
  have S3 := S2.frN hf3
  clear S2 hr2
  refine vC_draw' (fun wf => Fr No w3 wf) ((Fr.refl No w3).drew) ?_
  ((apply (tk 0)); (case hi => exact rfl); (case hf => kernel_rfl); (case hS => (repeat (first | exact Fr.refl _ _ | assumption | with_reducible apply Fr.allocSet | with_reducible apply Fr.alloc | with_reducible apply Fr.drewN | with_reducible apply Fr.drew | ((with_reducible apply Fr.set); rotate_left; (right; ((try simp only [alloc_size]); omega))) | (refine Fr.trans ?_ (by assumption))))); (case hy => (intro wf hwf; haveI := From.mk hwf; (((apply opv_fieldAddr); exact rfl)))))
  ((apply (tk 1)); (case hi => exact rfl); (case hf => kernel_rfl); (case hS => (repeat (first | exact Fr.refl _ _ | assumption | with_reducible apply Fr.allocSet | with_reducible apply Fr.alloc | with_reducible apply Fr.drewN | with_reducible apply Fr.drew | ((with_reducible apply Fr.set); rotate_left; (right; ((try simp only [alloc_size]); omega))) | (refine Fr.trans ?_ (by assumption))))); (case hy => (intro wf hwf; haveI := From.mk hwf; (((apply opv_loadb1); exact rfl; exact rfl; (first | assumption | infer_instance); exact rfl)))))
  ((apply (tk 4)); (case hi => exact rfl); (case hf => kernel_rfl); (case hS => (repeat (first | exact Fr.refl _ _ | assumption | with_reducible apply Fr.allocSet | with_reducible apply Fr.alloc | with_reducible apply Fr.drewN | with_reducible apply Fr.drew | ((with_reducible apply Fr.set); rotate_left; (right; ((try simp only [alloc_size]); omega))) | (refine Fr.trans ?_ (by assumption))))); (case hy => (intro wf hwf; haveI := From.mk hwf; (((apply opv_fieldAddr); exact rfl)))))
  ((apply (tk 5)); (case hi => exact rfl); (case hf => kernel_rfl); (case hS => (repeat (first | exact Fr.refl _ _ | assumption | with_reducible apply Fr.allocSet | with_reducible apply Fr.alloc | with_reducible apply Fr.drewN | with_reducible apply Fr.drew | ((with_reducible apply Fr.set); rotate_left; (right; ((try simp only [alloc_size]); omega))) | (refine Fr.trans ?_ (by assumption))))); (case hy => (intro wf hwf; haveI := From.mk hwf; (((apply opv_loadb1); exact rfl; exact rfl; (first | assumption | infer_instance); exact rfl)))))
  ((apply (tk 7)); (case hi => exact rfl); (case hf => kernel_rfl); (case hS => (repeat (first | exact Fr.refl _ _ | assumption | with_reducible apply Fr.allocSet | with_reducible apply Fr.alloc | with_reducible apply Fr.drewN | with_reducible apply Fr.drew | ((with_reducible apply Fr.set); rotate_left; (right; ((try simp only [alloc_size]); omega))) | (refine Fr.trans ?_ (by assumption))))); (case hy => (intro wf hwf; haveI := From.mk hwf; (((apply opv_fieldAddr); exact rfl)))))
  ((apply (tk 8)); (case hi => exact rfl); (case hf => kernel_rfl); (case hS => (repeat (first | exact Fr.refl _ _ | assumption | with_reducible apply Fr.allocSet | with_reducible apply Fr.alloc | with_reducible apply Fr.drewN | with_reducible apply Fr.drew | ((with_reducible apply Fr.set); rotate_left; (right; ((try simp only [alloc_size]); omega))) | (refine Fr.trans ?_ (by assumption))))); (case hy => (intro wf hwf; haveI := From.mk hwf; (((apply opv_loadb1); exact rfl; exact rfl; (first | assumption | infer_instance); exact rfl)))))
  (refine tkc 2 rfl (by kernel_rfl) (by (repeat (first | exact Fr.refl _ _ | assumption | with_reducible apply Fr.allocSet | with_reducible apply Fr.alloc | with_reducible apply Fr.drewN | with_reducible apply Fr.drew | ((with_reducible apply Fr.set); rotate_left; (right; ((try simp only [alloc_size]); omega))) | (refine Fr.trans ?_ (by assumption))))) rfl (pick_kit x.1 4 _ (by decide) (by decide)) rfl ?_)
  rintro _ _ ⟨rfl, p, rfl, hp0, hp4⟩
  ((apply (tk 3)); (case hi => exact rfl); (case hf => kernel_rfl); (case hS => (repeat (first | exact Fr.refl _ _ | assumption | with_reducible apply Fr.allocSet | with_reducible apply Fr.alloc | with_reducible apply Fr.drewN | with_reducible apply Fr.drew | ((with_reducible apply Fr.set); rotate_left; (right; ((try simp only [alloc_size]); omega))) | (refine Fr.trans ?_ (by assumption))))); (case hy => (intro wf hwf; haveI := From.mk hwf; (((apply opv_add); exact rfl; exact rfl; (first | omega | (simp only [List.length_map]; omega)))))))
  (refine tkc 6 rfl (by kernel_rfl) (by (repeat (first | exact Fr.refl _ _ | assumption | with_reducible apply Fr.allocSet | with_reducible apply Fr.alloc | with_reducible apply Fr.drewN | with_reducible apply Fr.drew | ((with_reducible apply Fr.set); rotate_left; (right; ((try simp only [alloc_size]); omega))) | (refine Fr.trans ?_ (by assumption))))) rfl (pick_kit x.2.1 4 _ (by decide) (by decide)) rfl ?_)
  rintro _ _ ⟨rfl, ep, rfl, hep0, hep4⟩
  (refine tkc 9 rfl (by kernel_rfl) (by (repeat (first | exact Fr.refl _ _ | assumption | with_reducible apply Fr.allocSet | with_reducible apply Fr.alloc | with_reducible apply Fr.drewN | with_reducible apply Fr.drew | ((with_reducible apply Fr.set); rotate_left; (right; ((try simp only [alloc_size]); omega))) | (refine Fr.trans ?_ (by assumption))))) rfl (pick_kit x.2.2.2 5 _ (by decide) (by decide)) rfl ?_)
  rintro _ _ ⟨rfl, q, rfl, hq0, hq5⟩
  ((apply (tk 10)); (case hi => exact rfl); (case hf => kernel_rfl); (case hS => (repeat (first | exact Fr.refl _ _ | assumption | with_reducible apply Fr.allocSet | with_reducible apply Fr.alloc | with_reducible apply Fr.drewN | with_reducible apply Fr.drew | ((with_reducible apply Fr.set); rotate_left; (right; ((try simp only [alloc_size]); omega))) | (refine Fr.trans ?_ (by assumption))))); (case hy => (intro wf hwf; haveI := From.mk hwf; (((apply opv_add); exact rfl; exact rfl; (first | omega | (simp only [List.length_map]; omega)))))))
  ((apply (tk 11)); (case hi => exact rfl); (case hf => kernel_rfl); (case hS => (repeat (first | exact Fr.refl _ _ | assumption | with_reducible apply Fr.allocSet | with_reducible apply Fr.alloc | with_reducible apply Fr.drewN | with_reducible apply Fr.drew | ((with_reducible apply Fr.set); rotate_left; (right; ((try simp only [alloc_size]); omega))) | (refine Fr.trans ?_ (by assumption))))); (case hy => (intro wf hwf; haveI := From.mk hwf; (((apply opv_E); exact rfl)))))
  ((apply (tk 12)); (case hi => exact rfl); (case hf => kernel_rfl); (case hS => (repeat (first | exact Fr.refl _ _ | assumption | with_reducible apply Fr.allocSet | with_reducible apply Fr.alloc | with_reducible apply Fr.drewN | with_reducible apply Fr.drew | ((with_reducible apply Fr.set); rotate_left; (right; ((try simp only [alloc_size]); omega))) | (refine Fr.trans ?_ (by assumption))))); (case hy => (intro wf hwf; haveI := From.mk hwf; (((apply opv_E); exact rfl)))))
  ((apply (tk 13)); (case hi => exact rfl); (case hf => kernel_rfl); (case hS => (repeat (first | exact Fr.refl _ _ | assumption | with_reducible apply Fr.allocSet | with_reducible apply Fr.alloc | with_reducible apply Fr.drewN | with_reducible apply Fr.drew | ((with_reducible apply Fr.set); rotate_left; (right; ((try simp only [alloc_size]); omega))) | (refine Fr.trans ?_ (by assumption))))); (case hy => (intro wf hwf; haveI := From.mk hwf; (((apply opv_E); exact rfl)))))
  refine vA_done (by kernel_rfl) (by (first | exact trivial | ((repeat (first | exact Fr.refl _ _ | assumption | with_reducible apply Fr.allocSet | with_reducible apply Fr.alloc | with_reducible apply Fr.drewN | with_reducible apply Fr.drew | ((with_reducible apply Fr.set); rotate_left; (right; ((try simp only [alloc_size]); omega))) | (refine Fr.trans ?_ (by assumption)))); done))) ?_
  obtain ⟨n, hn⟩ : ∃ n : Nat, 1 + q = (n : Int) := ⟨(1 + q).toNat, by omega⟩
  obtain ⟨pid, hpid⟩ : ∃ pid : Int, 1 + p = pid := ⟨_, rfl⟩
  rw [hn, hpid]
  have hn5 : 1 ≤ n ∧ n ≤ 5 := by omega
  have hp14 : 1 ≤ pid ∧ pid ≤ 4 := by omega
  have hep3 : 0 ≤ ep ∧ ep ≤ 3 := by omega
  refine vC_gen (fun w' => Fr No w3 w') ((Fr.refl No w3).drew) ?_
  intro w4 hf4
  have hb4 := hb3.frN hf4
  have S4 := S3.frN hf4
  clear S3 hb3 hf3 hf4
  (apply vC_seq; apply vC_region; ((apply vL_val); (case h => ((apply opv_fieldAddr); exact rfl))); ((apply vL_val); (case h => ((apply opv_loadb1); exact rfl; exact rfl; (first | assumption | infer_instance); exact rfl))))
  refine vL_callF rfl (pick_kit x.2.2.1 40 _ (by decide) (by decide)) rfl ?_
  rintro _ _ ⟨rfl, fi, rfl, hfi0, hfi40⟩
  (((apply vL_val); (case h => ((apply opv_E); exact rfl))); apply vL_nil; apply seqP_normal; apply vC_seq; apply vC_region; (iterate 4 (((apply vL_val); (case h => ((apply opv_E); exact rfl))))))
  refine vL_callF rfl (batch25 pid ep fi n w4 (by omega)) rfl ?_
  rintro _ w5 ⟨rv, ys, rfl, o5, k5, n5, fr5, hf5⟩
  have hrv := rv.2
  have S5 := S4.frN hf5
  have hyl : ys.length = n := by have := congrArg List.length n5; simpa using this
  (((apply vL_val); (case h => (apply opw_alloc))); ((apply vL_skip); (case h => ((apply ops_storen); (first | exact norm_eq rfl | ((conv => lhs; whnf) <;> exact rfl)); (first | exact norm_eq rfl | ((conv => lhs; whnf) <;> exact rfl)); exact rfl; (first | exact (fun u hu => EncOk.one _ u hu) | (intro u hu; simp at hu; rcases hu with rfl | rfl <;> (first | rfl | assumption)) | (intro u hu; simp at hu; rcases hu with rfl | rfl | rfl <;> (first | rfl | assumption)) | (intro u hu; simp at hu; rcases hu with rfl | rfl | rfl | rfl <;> (first | rfl | assumption))); (first | assumption | infer_instance); (first | decide | exact of_decide_eq_true rfl | (simp; done))))); apply vL_nil; apply seqP_normal; apply vC_seq; apply vC_region; ((apply vL_val); (case h => ((apply opv_move); ((conv => lhs; whnf) <;> exact rfl)))); ((apply vL_val); (case h => ((apply opv_loadbC); exact rfl; exact rfl; (first | assumption | infer_instance); (first | exact (rfl : _ = [_]) | exact (rfl : _ = [_, _]) | exact (rfl : _ = [_, _, _]) | exact (rfl : _ = [_, _, _, _]) | exact (rfl : _ = [_, _, _, _, _]) | exact (rfl : _ = [_, _, _, _, _, _]) | exact (rfl : _ = [_, _, _, _, _, _, _]) | exact (rfl : _ = [_, _, _, _, _, _, _, _]) | exact (rfl : _ = [_, _, _, _, _, _, _, _, _]) | exact (rfl : _ = [_, _, _, _, _, _, _, _, _, _]) | exact (rfl : _ = [_, _, _, _, _, _, _, _, _, _, _]) | exact (rfl : _ = [_, _, _, _, _, _, _, _, _, _, _, _])); exact rfl))))
  refine vL_gen (fun w' => Fr No w5 w' ∧ Blk w'.heap w5.heap.size [.int .i64 pid, .int .i64 ep, .int .i64 fi, rv.1] 33) ⟨by (repeat (first | exact Fr.refl _ _ | assumption | with_reducible apply Fr.allocSet | with_reducible apply Fr.alloc | with_reducible apply Fr.drewN | with_reducible apply Fr.drew | ((with_reducible apply Fr.set); rotate_left; (right; ((try simp only [alloc_size]); omega))) | (refine Fr.trans ?_ (by assumption)))), inferInstance⟩ ?_
  rintro w6 ⟨hf6, hb6⟩
  generalize w5.heap.size = b15 at hb6 ⊢
  have S6 := S5.frN hf6
  have o6 := o5.frN hf6
  clear S4 S5 o5 hb4 hf6 hf5 fr5
  have hmay := may_once hp14 hep3 (show 0 ≤ fi ∧ fi ≤ 40 by omega) hn5
  refine vL_callF rfl (judgeX S6.s.ho.rd S6.s.rcIn o6.rd k5 rfl n5 hmay I.rt rfl) rfl ?_
  rintro u7 w7 ⟨hu7, hf7⟩
  obtain ⟨ja, jb, jc, hj⟩ : ∃ ja jb jc, jF (m.map PR.f) pid ep fi n = (ja, jb, jc) := ⟨_, _, _, rfl⟩
  rw [hj] at hu7
  replace hu7 : u7 = .tuple #[.int .i64 ja, .bool jb, .int .i64 jc] := hu7
  subst hu7
  have S7 := S6.frN hf7
  have o7 := o6.frN hf7
  have hb7 := hb6.frN hf7
  clear S6 o6 hb6 hf7
  ((iterate 7 (((apply vL_val); (case h => ((apply opv_E); exact rfl))))); apply vL_nil; apply seqP_normal; apply vC_seq; apply vC_region; (iterate 3 (((apply vL_val); (case h => ((apply opv_E); exact rfl))))); ((apply vL_val); (case h => ((apply opv_buildA); exact rfl; (first | exact (rfl : _ = some []) | exact (rfl : _ = some [_]) | exact (rfl : _ = some [_, _]) | exact (rfl : _ = some [_, _, _]) | exact (rfl : _ = some [_, _, _, _]) | exact (rfl : _ = some [_, _, _, _, _]) | exact (rfl : _ = some [_, _, _, _, _, _]) | exact (rfl : _ = some [_, _, _, _, _, _, _]) | exact (rfl : _ = some [_, _, _, _, _, _, _, _]) | exact (rfl : _ = some [_, _, _, _, _, _, _, _, _]) | exact (rfl : _ = some [_, _, _, _, _, _, _, _, _, _]) | exact (rfl : _ = some [_, _, _, _, _, _, _, _, _, _, _]) | exact (rfl : _ = some [_, _, _, _, _, _, _, _, _, _, _, _]) | exact (rfl : _ = some [_, _, _, _, _, _, _, _, _, _, _, _, _]) | exact (rfl : _ = some [_, _, _, _, _, _, _, _, _, _, _, _, _, _]) | exact (rfl : _ = some [_, _, _, _, _, _, _, _, _, _, _, _, _, _, _]) | exact (rfl : _ = some [_, _, _, _, _, _, _, _, _, _, _, _, _, _, _, _]))))); ((apply vL_val); (case h => (apply opw_alloc))); ((apply vL_skip); (case h => ((apply ops_storen); (first | exact norm_eq rfl | ((conv => lhs; whnf) <;> exact rfl)); (first | exact norm_eq rfl | ((conv => lhs; whnf) <;> exact rfl)); exact rfl; (first | exact (fun u hu => EncOk.one _ u hu) | (intro u hu; simp at hu; rcases hu with rfl | rfl <;> (first | rfl | assumption)) | (intro u hu; simp at hu; rcases hu with rfl | rfl | rfl <;> (first | rfl | assumption)) | (intro u hu; simp at hu; rcases hu with rfl | rfl | rfl | rfl <;> (first | rfl | assumption))); (first | assumption | infer_instance); (first | decide | exact of_decide_eq_true rfl | (simp; done))))); apply vL_nil; apply seqP_normal; apply vC_seq; apply vC_region; ((apply vL_val); (case h => ((apply opv_move); ((conv => lhs; whnf) <;> exact rfl)))); ((apply vL_val); (case h => ((apply opv_E); exact rfl))))
  refine vL_gen (fun w' => Fr No w7 w' ∧ w7.heap.size < w'.heap.size ∧ Blk w'.heap w7.heap.size [.int .i64 pid, .int .i64 ep, .int .i64 fi] 38) ⟨by (repeat (first | exact Fr.refl _ _ | assumption | with_reducible apply Fr.allocSet | with_reducible apply Fr.alloc | with_reducible apply Fr.drewN | with_reducible apply Fr.drew | ((with_reducible apply Fr.set); rotate_left; (right; ((try simp only [alloc_size]); omega))) | (refine Fr.trans ?_ (by assumption)))), by simp, inferInstance⟩ ?_
  rintro w8 ⟨hf8, hz8, hb8⟩
  have hb7l := hb7.lt
  have hne15 : b15 ≠ w7.heap.size := by omega
  generalize w7.heap.size = b19 at hb8 hz8 hne15 ⊢
  have S8 := S7.frN hf8
  have o8 := o7.frN hf8
  have hb15 := hb7.frN hf8
  clear S7 o7 hb7 hf8 hb7l
  refine vL_val (opv_lookupOk (kE := ikE) (vE := ivE) (key := pid) rfl rfl S8.t) ?_
  rw [I.top pid]
  have hJ := I.judge (ep := ep) (fi := fi) (n := n) hp14.1
  rw [hj] at hJ
  rcases hJ with ⟨pp, hG, hlt, hj⟩ | ⟨hnf, hj, hNe, hW⟩
  · rw [hG]
    injection hj with e1 e2
    injection e2 with e2 e3
    subst e1; subst e2; subst e3
    ((iterate 5 (((apply vL_val); (case h => ((apply opv_E); exact rfl))))); apply vL_nil; apply seqP_normal; apply vC_block; apply vC_seq; apply vC_region; (iterate 2 (((apply vL_val); (case h => ((apply opv_E); exact rfl))))); ((apply vL_wanted); exact rfl); ((apply vL_val); (case h => ((apply opv_E); exact rfl))); ((apply vL_wanted); exact rfl); ((apply vL_val); (case h => ((apply opv_E); exact rfl))); ((apply vL_wanted); exact rfl); (iterate 3 (((apply vL_val); (case h => ((apply opv_E); exact rfl))))); apply vL_nil; apply seqP_normal; (refine vC_condT rfl (by ((simp only [Bool.not_eq_true', Bool.not_eq_false', Bool.not_not, decide_eq_true_eq, decide_eq_false_iff_not]); omega)) ?_); apply vC_seq; apply vC_region; (iterate 2 (((apply vL_val); (case h => ((apply opv_E); exact rfl))))); apply vL_nil; apply seqP_normal; ((apply vC_cond_false); exact rfl); apply vC_skip; (iterate 2 (apply blockP_normal)); apply seqP_normal; apply vC_region; ((apply vL_val); (case h => ((apply opv_E); exact rfl))); ((apply vL_val); (case h => ((apply opv_add); exact rfl; exact rfl; (first | omega | (simp only [List.length_map]; omega))))); ((apply vL_val); (case h => ((apply opv_E); exact rfl))); apply vL_nil; apply loopP_normal)
    (with_reducible apply end3); (case hs => (repeat (first | (with_reducible exact same_mask _ _ _) | with_reducible apply same_updN | ((with_reducible refine same_updO ?_ ?_); rotate_left; exact rfl) | ((with_reducible refine same_upd ?_ ?_); rotate_left; exact rfl) | ((with_reducible refine same_maskIn ?_ ?_); rotate_left; exact rfl)))); (case h1 => (first | exact norm_eq rfl | ((conv => lhs; whnf) <;> exact rfl))); (case h2 => (first | exact norm_eq rfl | ((conv => lhs; whnf) <;> exact rfl))); (case h3 => (first | exact norm_eq rfl | ((conv => lhs; whnf) <;> exact rfl)))
    · exact ⟨i + 1, en, m, N, Wm, Z, T, rfl, rfl, by omega, S8, I.more⟩
    · simp [RowKit.intOf]; omega
  have hNv : ∀ y, y = (eff (m.map PR.f) pid ep).1 → ((mget N ((pid, ep) : I2)).map ivE).getD (.int .i64 0) = .int .i64 y := fun y hy => by
    rw [hy, ← hNe]
    cases mget N ((pid, ep) : I2) <;> rfl
  cases hG : gF (m.map PR.f) pid with
  | none =>
    have hmx : (if (0 : Int) < ep then ep else 0) = ep := by split <;> omega
    ((iterate 5 (((apply vL_val); (case h => ((apply opv_E); exact rfl))))); apply vL_nil; apply seqP_normal; apply vC_block; apply vC_seq; apply vC_region; (iterate 2 (((apply vL_val); (case h => ((apply opv_E); exact rfl))))); (iterate 3 (((apply vL_unwanted'); exact rfl; exact rfl))); (iterate 2 (((apply vL_val); (case h => ((apply opv_E); exact rfl))))); apply vL_nil; apply seqP_normal; ((apply vC_cond_false); exact rfl); apply vC_seq; apply vC_region; (iterate 3 (((apply vL_val); (case h => ((apply opv_E); exact rfl))))))
    rcases j1_cases (eff (m.map PR.f) pid ep).1 (eff (m.map PR.f) pid ep).2 fi n with ⟨hfe, hv⟩ | ⟨r, hrm, hrf, hrn, hv⟩ | ⟨hlt, hv⟩ | ⟨hgt, hv⟩
    · rw [hv] at hj
      injection hj with e1 e2
      injection e2 with e2 e3
      subst e1; subst e2; subst e3
      (((apply vL_wanted); exact rfl); (iterate 3 (((apply vL_val); (case h => ((apply opv_E); exact rfl))))); apply vL_nil; apply seqP_normal; ((apply vC_cond_false); exact rfl); apply vC_seq; apply vC_region; (iterate 3 (((apply vL_val); (case h => ((apply opv_E); exact rfl))))); apply vL_nil; apply seqP_normal; ((apply vC_cond_true); exact rfl); (iterate 2 (apply vC_seq)); apply vC_region; ((apply vL_val); (case h => ((apply opv_move); ((conv => lhs; whnf) <;> exact rfl)))); (iterate 2 (((apply vL_val); (case h => ((apply opv_E); exact rfl))))); ((apply vL_val); (case h => ((apply opv_buildA); exact rfl; (first | exact (rfl : _ = some []) | exact (rfl : _ = some [_]) | exact (rfl : _ = some [_, _]) | exact (rfl : _ = some [_, _, _]) | exact (rfl : _ = some [_, _, _, _]) | exact (rfl : _ = some [_, _, _, _, _]) | exact (rfl : _ = some [_, _, _, _, _, _]) | exact (rfl : _ = some [_, _, _, _, _, _, _]) | exact (rfl : _ = some [_, _, _, _, _, _, _, _]) | exact (rfl : _ = some [_, _, _, _, _, _, _, _, _]) | exact (rfl : _ = some [_, _, _, _, _, _, _, _, _, _]) | exact (rfl : _ = some [_, _, _, _, _, _, _, _, _, _, _]) | exact (rfl : _ = some [_, _, _, _, _, _, _, _, _, _, _, _]) | exact (rfl : _ = some [_, _, _, _, _, _, _, _, _, _, _, _, _]) | exact (rfl : _ = some [_, _, _, _, _, _, _, _, _, _, _, _, _, _]) | exact (rfl : _ = some [_, _, _, _, _, _, _, _, _, _, _, _, _, _, _]) | exact (rfl : _ = some [_, _, _, _, _, _, _, _, _, _, _, _, _, _, _, _]))))))
      refine vL_val (opv_lookup' (kE := k2E) (vE := ivE) (key := ((pid, ep) : I2)) rfl rfl S8.n (hNv fi hfe)) ?_
      ((iterate 2 (((apply vL_val); (case h => ((apply opv_E); exact rfl))))); apply vL_nil; apply seqP_normal; (refine vC_cond_dec rfl (fun h => by omega) (fun _ => ?_)); apply vC_skip; apply seqP_normal; apply vC_seq; apply vC_region; ((apply vL_val); (case h => ((apply opv_move); ((conv => lhs; whnf) <;> exact rfl)))); ((apply vL_val); (case h => ((apply opv_loadbC); exact rfl; exact rfl; (first | assumption | infer_instance); (first | exact (rfl : _ = [_]) | exact (rfl : _ = [_, _]) | exact (rfl : _ = [_, _, _]) | exact (rfl : _ = [_, _, _, _]) | exact (rfl : _ = [_, _, _, _, _]) | exact (rfl : _ = [_, _, _, _, _, _]) | exact (rfl : _ = [_, _, _, _, _, _, _]) | exact (rfl : _ = [_, _, _, _, _, _, _, _]) | exact (rfl : _ = [_, _, _, _, _, _, _, _, _]) | exact (rfl : _ = [_, _, _, _, _, _, _, _, _, _]) | exact (rfl : _ = [_, _, _, _, _, _, _, _, _, _, _]) | exact (rfl : _ = [_, _, _, _, _, _, _, _, _, _, _, _])); exact rfl))); ((apply vL_val); (case h => ((apply opv_E); exact rfl))))
      refine vL_callF rfl (putX S8.s.ho.rd S8.s.rcIn o8.rd k5 rfl n5 hmay I.rt hj (by omega) ⟨by omega, by omega⟩ rfl) rfl ?_
      rintro _ w9 ⟨uv, m', rfl, S9', hone9, hm9⟩
      have S9 := S8.frN S9'.fr
      have s9 := S9'.base S8.s.fr.size S9.s.fr
      have hI' := I.next hp14 hep3 (show 0 ≤ fi ∧ fi ≤ 40 by omega) hn5 (by omega) hnf hfe
      rw [← hm9] at hI'
      have hb19 := hb8.frN S9'.fr
      (((apply vL_val); (case h => ((apply opv_E); exact rfl))); ((apply vL_val); (case h => ((apply opv_extract); (first | exact norm_eq rfl | ((conv => lhs; whnf) <;> exact rfl)); exact rfl))); ((apply vL_val); (case h => ((apply opv_E); exact rfl))); ((apply vL_val); (case h => ((apply opv_assign); ((conv => lhs; whnf) <;> exact rfl)))); ((apply vL_val); (case h => ((apply opv_E); exact rfl))); apply vL_nil; apply seqP_normal; (iterate 2 (apply vC_seq)); apply vC_region; (iterate 3 (((apply vL_val); (case h => ((apply opv_E); exact rfl))))); ((apply vL_wanted); exact rfl); ((apply vL_val); (case h => ((apply opv_move); ((conv => lhs; whnf) <;> exact rfl)))); ((apply vL_wanted); exact rfl))
      refine vL_callF rfl (rightX S9'.ho.rd S9'.rcIn rfl hI'.rt) rfl ?_
      rintro _ w10 ⟨rfl, hf10⟩
      have S10 : OS w w10 r1 r2 r3 r4 uv m' N Wm Z T := ⟨s9.frN hf10, S9.n.frN hf10, S9.a.frN hf10, S9.z.frN hf10, S9.t.frN hf10⟩
      have hb10' := hb19.frN hf10
      have hl1 : ((mget (mset N ((pid, ep) : I2) ((mget N ((pid, ep) : I2)).getD 0)) ((pid, ep) : I2)).map ivE).getD (.int .i64 0) = .int .i64 fi := by rw [mget_mset, if_pos rfl, hNe, ← hfe]; rfl
      clear S9' S9 s9 hb19 hf10 S8 o8 hb15 hb8
      (((apply vL_wanted); exact rfl); ((apply vL_val); (case h => ((apply opv_not); exact rfl))); ((apply vL_val); (case h => ((apply opv_E); exact rfl))); apply vL_nil; apply seqP_normal; ((apply vC_cond_false); exact rfl); apply vC_skip; apply seqP_normal; apply vC_seq; apply vC_region; ((apply vL_val); (case h => ((apply opv_move); ((conv => lhs; whnf) <;> exact rfl)))); ((apply vL_val); (case h => ((apply opv_assign); ((conv => lhs; whnf) <;> exact rfl)))); apply vL_nil; apply seqP_normal; apply vC_seq)
      have S10d := S10.frN (Fr.refl No w10).drew
      have hb10d := hb10'.frN (Fr.refl No w10).drew
      refine vC_draw' (fun _ => True) trivial ?_
      ((apply (tk 0)); (case hi => exact rfl); (case hf => kernel_rfl); (case hS => trivial); (case hy => (intro _ _; (((apply opv_move); ((conv => lhs; whnf) <;> exact rfl))))))
      ((apply (tk 1)); (case hi => exact rfl); (case hf => kernel_rfl); (case hS => trivial); (case hy => (intro _ _; (((apply opv_E); exact rfl)))))
      ((apply (tk 2)); (case hi => exact rfl); (case hf => kernel_rfl); (case hS => trivial); (case hy => (intro _ _; (((apply opv_E); exact rfl)))))
      ((apply (tk 3)); (case hi => exact rfl); (case hf => kernel_rfl); (case hS => trivial); (case hy => (intro _ _; (((apply opv_buildA); exact rfl; (first | exact (rfl : _ = some []) | exact (rfl : _ = some [_]) | exact (rfl : _ = some [_, _]) | exact (rfl : _ = some [_, _, _]) | exact (rfl : _ = some [_, _, _, _]) | exact (rfl : _ = some [_, _, _, _, _]) | exact (rfl : _ = some [_, _, _, _, _, _]) | exact (rfl : _ = some [_, _, _, _, _, _, _]) | exact (rfl : _ = some [_, _, _, _, _, _, _, _]) | exact (rfl : _ = some [_, _, _, _, _, _, _, _, _]) | exact (rfl : _ = some [_, _, _, _, _, _, _, _, _, _]) | exact (rfl : _ = some [_, _, _, _, _, _, _, _, _, _, _]) | exact (rfl : _ = some [_, _, _, _, _, _, _, _, _, _, _, _]) | exact (rfl : _ = some [_, _, _, _, _, _, _, _, _, _, _, _, _]) | exact (rfl : _ = some [_, _, _, _, _, _, _, _, _, _, _, _, _, _]) | exact (rfl : _ = some [_, _, _, _, _, _, _, _, _, _, _, _, _, _, _]) | exact (rfl : _ = some [_, _, _, _, _, _, _, _, _, _, _, _, _, _, _, _])))))))
      ((apply (tk 5)); (case hi => exact rfl); (case hf => kernel_rfl); (case hS => trivial); (case hy => (intro _ _; (((apply opv_E); exact rfl)))))
      refine vA_two 4 7 rfl rfl (by kernel_rfl) trivial (fun K hK => ?_) (fun K hK => ?_)
      · refine vL_val (opv_lookup' (kE := k2E) (vE := ivE) (key := ((pid, ep) : I2)) rfl rfl S10d.n (hNv fi hfe)) (vL_nil ⟨rfl, hK _ _ ?_⟩)
        ((apply (tk 6)); (case hi => exact rfl); (case hf => kernel_rfl); (case hS => trivial); (case hy => (intro _ _; (((apply opv_add); exact rfl; exact rfl; (first | omega | (simp only [List.length_map]; omega)))))))
        refine vA_only 7 rfl (by kernel_rfl) trivial (fun K hK => ?_)
        refine vL_mapEntry (kE := k2E) (vE := ivE) (key := ((pid, ep) : I2)) (0 : Int) rfl rfl S10d.n ?_
        intro w11 st hms hf11
        refine vL_nil ⟨rfl, hK _ _ ?_⟩
        ((apply (tk 8)); (case hi => exact rfl); (case hf => kernel_rfl); (case hS => trivial); (case hy => (intro _ _; (((apply opv_E); exact rfl)))))
        refine vA_only 9 rfl (by kernel_rfl) trivial (fun K hK => ?_)
        refine vL_entryStore (kE := k2E) (vE := ivE) (key := ((pid, ep) : I2)) (val := fi + (n : Int)) rfl rfl rfl hms ?_
        intro w12 hm12 hf12
        refine vL_nil ⟨rfl, hK _ _ ?_⟩
        refine vA_done (by kernel_rfl) trivial ?_
        rw [mset_twice] at hm12
        have hfr := hf11.trans hf12
        have S12 := S10d.u1 D hfr hm12
        have hb12 := hb10d.fr hfr (fun h => S10d.n.ne_blk hb10d h)
        clear hm12 hms hf11 hf12 hfr
        (apply seqP_normal; apply vC_seq)
        refine vC_draw' ((fun wf => Blk wf.heap b19 [.int .i64 pid, .int .i64 ep, .int .i64 fi] 38)) (by (first | exact trivial | assumption | infer_instance | ((repeat (first | exact Fr.refl _ _ | assumption | with_reducible apply Fr.allocSet | with_reducible apply Fr.alloc | with_reducible apply Fr.drewN | with_reducible apply Fr.drew | ((with_reducible apply Fr.set); rotate_left; (right; ((try simp only [alloc_size]); omega))) | (refine Fr.trans ?_ (by assumption)))); done))) ?_
        have S12d := S12.frN (Fr.refl No w12).drew
        have hb12d := hb12.frN (Fr.refl No w12).drew
        ((apply (tk 0)); (case hi => exact rfl); (case hf => kernel_rfl); (case hS => (first | exact trivial | assumption | infer_instance | ((repeat (first | exact Fr.refl _ _ | assumption | with_reducible apply Fr.allocSet | with_reducible apply Fr.alloc | with_reducible apply Fr.drewN | with_reducible apply Fr.drew | ((with_reducible apply Fr.set); rotate_left; (right; ((try simp only [alloc_size]); omega))) | (refine Fr.trans ?_ (by assumption)))); done))); (case hy => (intro wf hwf; (try dsimp only at hwf); (((apply opv_move); ((conv => lhs; whnf) <;> exact rfl))))))
        ((apply (tk 1)); (case hi => exact rfl); (case hf => kernel_rfl); (case hS => (first | exact trivial | assumption | infer_instance | ((repeat (first | exact Fr.refl _ _ | assumption | with_reducible apply Fr.allocSet | with_reducible apply Fr.alloc | with_reducible apply Fr.drewN | with_reducible apply Fr.drew | ((with_reducible apply Fr.set); rotate_left; (right; ((try simp only [alloc_size]); omega))) | (refine Fr.trans ?_ (by assumption)))); done))); (case hy => (intro wf hwf; (try dsimp only at hwf); (((apply opv_loadbC); exact rfl; exact rfl; (first | assumption | infer_instance); (first | exact (rfl : _ = [_]) | exact (rfl : _ = [_, _]) | exact (rfl : _ = [_, _, _]) | exact (rfl : _ = [_, _, _, _]) | exact (rfl : _ = [_, _, _, _, _]) | exact (rfl : _ = [_, _, _, _, _, _]) | exact (rfl : _ = [_, _, _, _, _, _, _]) | exact (rfl : _ = [_, _, _, _, _, _, _, _]) | exact (rfl : _ = [_, _, _, _, _, _, _, _, _]) | exact (rfl : _ = [_, _, _, _, _, _, _, _, _, _]) | exact (rfl : _ = [_, _, _, _, _, _, _, _, _, _, _]) | exact (rfl : _ = [_, _, _, _, _, _, _, _, _, _, _, _])); exact rfl)))))
        ((apply (tk 2)); (case hi => exact rfl); (case hf => kernel_rfl); (case hS => (first | exact trivial | assumption | infer_instance | ((repeat (first | exact Fr.refl _ _ | assumption | with_reducible apply Fr.allocSet | with_reducible apply Fr.alloc | with_reducible apply Fr.drewN | with_reducible apply Fr.drew | ((with_reducible apply Fr.set); rotate_left; (right; ((try simp only [alloc_size]); omega))) | (refine Fr.trans ?_ (by assumption)))); done))); (case hy => (intro wf hwf; (try dsimp only at hwf); (((apply opv_move); ((conv => lhs; whnf) <;> exact rfl))))))
        ((apply (tk 3)); (case hi => exact rfl); (case hf => kernel_rfl); (case hS => (first | exact trivial | assumption | infer_instance | ((repeat (first | exact Fr.refl _ _ | assumption | with_reducible apply Fr.allocSet | with_reducible apply Fr.alloc | with_reducible apply Fr.drewN | with_reducible apply Fr.drew | ((with_reducible apply Fr.set); rotate_left; (right; ((try simp only [alloc_size]); omega))) | (refine Fr.trans ?_ (by assumption)))); done))); (case hy => (intro wf hwf; (try dsimp only at hwf); (((apply opv_loadbC); exact rfl; exact rfl; (first | assumption | infer_instance); (first | exact (rfl : _ = [_]) | exact (rfl : _ = [_, _]) | exact (rfl : _ = [_, _, _]) | exact (rfl : _ = [_, _, _, _]) | exact (rfl : _ = [_, _, _, _, _]) | exact (rfl : _ = [_, _, _, _, _, _]) | exact (rfl : _ = [_, _, _, _, _, _, _]) | exact (rfl : _ = [_, _, _, _, _, _, _, _]) | exact (rfl : _ = [_, _, _, _, _, _, _, _, _]) | exact (rfl : _ = [_, _, _, _, _, _, _, _, _, _]) | exact (rfl : _ = [_, _, _, _, _, _, _, _, _, _, _]) | exact (rfl : _ = [_, _, _, _, _, _, _, _, _, _, _, _])); exact rfl)))))
        ((apply (tk 4)); (case hi => exact rfl); (case hf => kernel_rfl); (case hS => (first | exact trivial | assumption | infer_instance | ((repeat (first | exact Fr.refl _ _ | assumption | with_reducible apply Fr.allocSet | with_reducible apply Fr.alloc | with_reducible apply Fr.drewN | with_reducible apply Fr.drew | ((with_reducible apply Fr.set); rotate_left; (right; ((try simp only [alloc_size]); omega))) | (refine Fr.trans ?_ (by assumption)))); done))); (case hy => (intro wf hwf; (try dsimp only at hwf); (((apply opv_E); exact rfl)))))
        ((apply (tk 5)); (case hi => exact rfl); (case hf => kernel_rfl); (case hS => (first | exact trivial | assumption | infer_instance | ((repeat (first | exact Fr.refl _ _ | assumption | with_reducible apply Fr.allocSet | with_reducible apply Fr.alloc | with_reducible apply Fr.drewN | with_reducible apply Fr.drew | ((with_reducible apply Fr.set); rotate_left; (right; ((try simp only [alloc_size]); omega))) | (refine Fr.trans ?_ (by assumption)))); done))); (case hy => (intro wf hwf; (try dsimp only at hwf); (((apply opv_E); exact rfl)))))
        refine vA_only 6 rfl (by kernel_rfl) (by (first | exact trivial | assumption | infer_instance | ((repeat (first | exact Fr.refl _ _ | assumption | with_reducible apply Fr.allocSet | with_reducible apply Fr.alloc | with_reducible apply Fr.drewN | with_reducible apply Fr.drew | ((with_reducible apply Fr.set); rotate_left; (right; ((try simp only [alloc_size]); omega))) | (refine Fr.trans ?_ (by assumption)))); done))) (fun K hK => ?_)
        refine vL_mapUpdate (kE := k3E) (vE := ivE) (key := ((pid, ep, fi) : I3)) (val := en) rfl rfl rfl S12d.a ?_
        intro w13 hm13 hf13
        have S13 := S12d.u2 D hf13 hm13
        have hb13 := hb12d.fr hf13 (fun h => S12d.a.ne_blk hb12d h)
        refine vL_nil ⟨rfl, hK _ _ ?_⟩
        refine vA_only 7 rfl (by kernel_rfl) (by (first | exact trivial | assumption | infer_instance | ((repeat (first | exact Fr.refl _ _ | assumption | with_reducible apply Fr.allocSet | with_reducible apply Fr.alloc | with_reducible apply Fr.drewN | with_reducible apply Fr.drew | ((with_reducible apply Fr.set); rotate_left; (right; ((try simp only [alloc_size]); omega))) | (refine Fr.trans ?_ (by assumption)))); done))) (fun K hK => ?_)
        refine vL_mapUpdate (kE := k3E) (vE := ivE) (key := ((pid, ep, fi) : I3)) (val := (n : Int)) rfl rfl rfl S13.z ?_
        intro w14 hm14 hf14
        have S14 := S13.u3 D hf14 hm14
        have hb14 := hb13.fr hf14 (fun h => S13.z.ne_blk hb13 h)
        refine vL_nil ⟨rfl, hK _ _ ?_⟩
        refine vA_done (by kernel_rfl) (by (first | exact trivial | assumption | infer_instance | ((repeat (first | exact Fr.refl _ _ | assumption | with_reducible apply Fr.allocSet | with_reducible apply Fr.alloc | with_reducible apply Fr.drewN | with_reducible apply Fr.drew | ((with_reducible apply Fr.set); rotate_left; (right; ((try simp only [alloc_size]); omega))) | (refine Fr.trans ?_ (by assumption)))); done))) ?_
        clear hm13 hm14 hf13 hf14 S13 S12 S12d hb12 hb12d hb13
        (apply seqP_normal; apply vC_seq; apply vC_region; ((apply vL_val); (case h => ((apply opv_move); ((conv => lhs; whnf) <;> exact rfl)))); (iterate 3 (((apply vL_val); (case h => ((apply opv_E); exact rfl))))); ((apply vL_val); (case h => ((apply opv_max); exact rfl; exact rfl))))
        refine vL_mapUpdate (kE := ikE) (vE := ivE) (key := pid) (val := ep) rfl rfl (show Value.int .i64 (if (0) < ep then ep else (0)) = .int .i64 ep by rw [hmx]) S14.t ?_
        intro w15 hm15 hf15
        have S15 := S14.u4 D hf15 hm15
        clear hm15 hf15 S14 hb14
        (apply vL_nil; apply seqP_normal; apply vC_region; (iterate 2 (((apply vL_val); (case h => ((apply opv_E); exact rfl))))); ((apply vL_val); (case h => ((apply opv_add); exact rfl; exact rfl; (first | omega | (simp only [List.length_map]; omega))))); ((apply vL_val); (case h => ((apply opv_E); exact rfl))); apply vL_nil; (iterate 2 (apply blockP_normal)); apply seqP_normal; apply vC_region; ((apply vL_val); (case h => ((apply opv_E); exact rfl))); ((apply vL_val); (case h => ((apply opv_add); exact rfl; exact rfl; (first | omega | (simp only [List.length_map]; omega))))); ((apply vL_val); (case h => ((apply opv_E); exact rfl))); apply vL_nil; apply loopP_normal)
        (with_reducible apply end3); (case hs => (repeat (first | (with_reducible exact same_mask _ _ _) | with_reducible apply same_updN | ((with_reducible refine same_updO ?_ ?_); rotate_left; exact rfl) | ((with_reducible refine same_upd ?_ ?_); rotate_left; exact rfl) | ((with_reducible refine same_maskIn ?_ ?_); rotate_left; exact rfl)))); (case h1 => (first | exact norm_eq rfl | ((conv => lhs; whnf) <;> exact rfl))); (case h2 => (first | exact norm_eq rfl | ((conv => lhs; whnf) <;> exact rfl))); (case h3 => (first | exact norm_eq rfl | ((conv => lhs; whnf) <;> exact rfl)))
        · exact ⟨i + 1, en + n, m', _, _, _, _, rfl, rfl, by omega, S15, hI'⟩
        · simp [RowKit.intOf]; omega
      · refine vL_mapEntry (kE := k2E) (vE := ivE) (key := ((pid, ep) : I2)) (0 : Int) rfl rfl S10d.n ?_
        intro w11 st hms hf11
        refine vL_nil ⟨rfl, hK _ _ ?_⟩
        ((apply (tk 8)); (case hi => exact rfl); (case hf => kernel_rfl); (case hS => trivial); (case hy => (intro _ _; (((apply opv_E); exact rfl)))))
        refine vA_only 4 rfl (by kernel_rfl) trivial (fun K hK => ?_)
        refine vL_val (opv_lookup' (kE := k2E) (vE := ivE) (key := ((pid, ep) : I2)) rfl rfl hms.mp hl1) (vL_nil ⟨rfl, hK _ _ ?_⟩)
        ((apply (tk 6)); (case hi => exact rfl); (case hf => kernel_rfl); (case hS => trivial); (case hy => (intro _ _; (((apply opv_add); exact rfl; exact rfl; (first | omega | (simp only [List.length_map]; omega)))))))
        refine vA_only 9 rfl (by kernel_rfl) trivial (fun K hK => ?_)
        refine vL_entryStore (kE := k2E) (vE := ivE) (key := ((pid, ep) : I2)) (val := fi + (n : Int)) rfl rfl rfl hms ?_
        intro w12 hm12 hf12
        refine vL_nil ⟨rfl, hK _ _ ?_⟩
        refine vA_done (by kernel_rfl) trivial ?_
        rw [mset_twice] at hm12
        have hfr := hf11.trans hf12
        have S12 := S10d.u1 D hfr hm12
        have hb12 := hb10d.fr hfr (fun h => S10d.n.ne_blk hb10d h)
        clear hm12 hms hf11 hf12 hfr
        (apply seqP_normal; apply vC_seq)
        refine vC_draw' ((fun wf => Blk wf.heap b19 [.int .i64 pid, .int .i64 ep, .int .i64 fi] 38)) (by (first | exact trivial | assumption | infer_instance | ((repeat (first | exact Fr.refl _ _ | assumption | with_reducible apply Fr.allocSet | with_reducible apply Fr.alloc | with_reducible apply Fr.drewN | with_reducible apply Fr.drew | ((with_reducible apply Fr.set); rotate_left; (right; ((try simp only [alloc_size]); omega))) | (refine Fr.trans ?_ (by assumption)))); done))) ?_
        have S12d := S12.frN (Fr.refl No w12).drew
        have hb12d := hb12.frN (Fr.refl No w12).drew
        ((apply (tk 0)); (case hi => exact rfl); (case hf => kernel_rfl); (case hS => (first | exact trivial | assumption | infer_instance | ((repeat (first | exact Fr.refl _ _ | assumption | with_reducible apply Fr.allocSet | with_reducible apply Fr.alloc | with_reducible apply Fr.drewN | with_reducible apply Fr.drew | ((with_reducible apply Fr.set); rotate_left; (right; ((try simp only [alloc_size]); omega))) | (refine Fr.trans ?_ (by assumption)))); done))); (case hy => (intro wf hwf; (try dsimp only at hwf); (((apply opv_move); ((conv => lhs; whnf) <;> exact rfl))))))
        ((apply (tk 1)); (case hi => exact rfl); (case hf => kernel_rfl); (case hS => (first | exact trivial | assumption | infer_instance | ((repeat (first | exact Fr.refl _ _ | assumption | with_reducible apply Fr.allocSet | with_reducible apply Fr.alloc | with_reducible apply Fr.drewN | with_reducible apply Fr.drew | ((with_reducible apply Fr.set); rotate_left; (right; ((try simp only [alloc_size]); omega))) | (refine Fr.trans ?_ (by assumption)))); done))); (case hy => (intro wf hwf; (try dsimp only at hwf); (((apply opv_loadbC); exact rfl; exact rfl; (first | assumption | infer_instance); (first | exact (rfl : _ = [_]) | exact (rfl : _ = [_, _]) | exact (rfl : _ = [_, _, _]) | exact (rfl : _ = [_, _, _, _]) | exact (rfl : _ = [_, _, _, _, _]) | exact (rfl : _ = [_, _, _, _, _, _]) | exact (rfl : _ = [_, _, _, _, _, _, _]) | exact (rfl : _ = [_, _, _, _, _, _, _, _]) | exact (rfl : _ = [_, _, _, _, _, _, _, _, _]) | exact (rfl : _ = [_, _, _, _, _, _, _, _, _, _]) | exact (rfl : _ = [_, _, _, _, _, _, _, _, _, _, _]) | exact (rfl : _ = [_, _, _, _, _, _, _, _, _, _, _, _])); exact rfl)))))
        ((apply (tk 2)); (case hi => exact rfl); (case hf => kernel_rfl); (case hS => (first | exact trivial | assumption | infer_instance | ((repeat (first | exact Fr.refl _ _ | assumption | with_reducible apply Fr.allocSet | with_reducible apply Fr.alloc | with_reducible apply Fr.drewN | with_reducible apply Fr.drew | ((with_reducible apply Fr.set); rotate_left; (right; ((try simp only [alloc_size]); omega))) | (refine Fr.trans ?_ (by assumption)))); done))); (case hy => (intro wf hwf; (try dsimp only at hwf); (((apply opv_move); ((conv => lhs; whnf) <;> exact rfl))))))
        ((apply (tk 3)); (case hi => exact rfl); (case hf => kernel_rfl); (case hS => (first | exact trivial | assumption | infer_instance | ((repeat (first | exact Fr.refl _ _ | assumption | with_reducible apply Fr.allocSet | with_reducible apply Fr.alloc | with_reducible apply Fr.drewN | with_reducible apply Fr.drew | ((with_reducible apply Fr.set); rotate_left; (right; ((try simp only [alloc_size]); omega))) | (refine Fr.trans ?_ (by assumption)))); done))); (case hy => (intro wf hwf; (try dsimp only at hwf); (((apply opv_loadbC); exact rfl; exact rfl; (first | assumption | infer_instance); (first | exact (rfl : _ = [_]) | exact (rfl : _ = [_, _]) | exact (rfl : _ = [_, _, _]) | exact (rfl : _ = [_, _, _, _]) | exact (rfl : _ = [_, _, _, _, _]) | exact (rfl : _ = [_, _, _, _, _, _]) | exact (rfl : _ = [_, _, _, _, _, _, _]) | exact (rfl : _ = [_, _, _, _, _, _, _, _]) | exact (rfl : _ = [_, _, _, _, _, _, _, _, _]) | exact (rfl : _ = [_, _, _, _, _, _, _, _, _, _]) | exact (rfl : _ = [_, _, _, _, _, _, _, _, _, _, _]) | exact (rfl : _ = [_, _, _, _, _, _, _, _, _, _, _, _])); exact rfl)))))
        ((apply (tk 4)); (case hi => exact rfl); (case hf => kernel_rfl); (case hS => (first | exact trivial | assumption | infer_instance | ((repeat (first | exact Fr.refl _ _ | assumption | with_reducible apply Fr.allocSet | with_reducible apply Fr.alloc | with_reducible apply Fr.drewN | with_reducible apply Fr.drew | ((with_reducible apply Fr.set); rotate_left; (right; ((try simp only [alloc_size]); omega))) | (refine Fr.trans ?_ (by assumption)))); done))); (case hy => (intro wf hwf; (try dsimp only at hwf); (((apply opv_E); exact rfl)))))
        ((apply (tk 5)); (case hi => exact rfl); (case hf => kernel_rfl); (case hS => (first | exact trivial | assumption | infer_instance | ((repeat (first | exact Fr.refl _ _ | assumption | with_reducible apply Fr.allocSet | with_reducible apply Fr.alloc | with_reducible apply Fr.drewN | with_reducible apply Fr.drew | ((with_reducible apply Fr.set); rotate_left; (right; ((try simp only [alloc_size]); omega))) | (refine Fr.trans ?_ (by assumption)))); done))); (case hy => (intro wf hwf; (try dsimp only at hwf); (((apply opv_E); exact rfl)))))
        refine vA_only 6 rfl (by kernel_rfl) (by (first | exact trivial | assumption | infer_instance | ((repeat (first | exact Fr.refl _ _ | assumption | with_reducible apply Fr.allocSet | with_reducible apply Fr.alloc | with_reducible apply Fr.drewN | with_reducible apply Fr.drew | ((with_reducible apply Fr.set); rotate_left; (right; ((try simp only [alloc_size]); omega))) | (refine Fr.trans ?_ (by assumption)))); done))) (fun K hK => ?_)
        refine vL_mapUpdate (kE := k3E) (vE := ivE) (key := ((pid, ep, fi) : I3)) (val := en) rfl rfl rfl S12d.a ?_
        intro w13 hm13 hf13
        have S13 := S12d.u2 D hf13 hm13
        have hb13 := hb12d.fr hf13 (fun h => S12d.a.ne_blk hb12d h)
        refine vL_nil ⟨rfl, hK _ _ ?_⟩
        refine vA_only 7 rfl (by kernel_rfl) (by (first | exact trivial | assumption | infer_instance | ((repeat (first | exact Fr.refl _ _ | assumption | with_reducible apply Fr.allocSet | with_reducible apply Fr.alloc | with_reducible apply Fr.drewN | with_reducible apply Fr.drew | ((with_reducible apply Fr.set); rotate_left; (right; ((try simp only [alloc_size]); omega))) | (refine Fr.trans ?_ (by assumption)))); done))) (fun K hK => ?_)
        refine vL_mapUpdate (kE := k3E) (vE := ivE) (key := ((pid, ep, fi) : I3)) (val := (n : Int)) rfl rfl rfl S13.z ?_
        intro w14 hm14 hf14
        have S14 := S13.u3 D hf14 hm14
        have hb14 := hb13.fr hf14 (fun h => S13.z.ne_blk hb13 h)
        refine vL_nil ⟨rfl, hK _ _ ?_⟩
        refine vA_done (by kernel_rfl) (by (first | exact trivial | assumption | infer_instance | ((repeat (first | exact Fr.refl _ _ | assumption | with_reducible apply Fr.allocSet | with_reducible apply Fr.alloc | with_reducible apply Fr.drewN | with_reducible apply Fr.drew | ((with_reducible apply Fr.set); rotate_left; (right; ((try simp only [alloc_size]); omega))) | (refine Fr.trans ?_ (by assumption)))); done))) ?_
        clear hm13 hm14 hf13 hf14 S13 S12 S12d hb12 hb12d hb13
        (apply seqP_normal; apply vC_seq; apply vC_region; ((apply vL_val); (case h => ((apply opv_move); ((conv => lhs; whnf) <;> exact rfl)))); (iterate 3 (((apply vL_val); (case h => ((apply opv_E); exact rfl))))); ((apply vL_val); (case h => ((apply opv_max); exact rfl; exact rfl))))
        refine vL_mapUpdate (kE := ikE) (vE := ivE) (key := pid) (val := ep) rfl rfl (show Value.int .i64 (if (0) < ep then ep else (0)) = .int .i64 ep by rw [hmx]) S14.t ?_
        intro w15 hm15 hf15
        have S15 := S14.u4 D hf15 hm15
        clear hm15 hf15 S14 hb14
        (apply vL_nil; apply seqP_normal; apply vC_region; (iterate 2 (((apply vL_val); (case h => ((apply opv_E); exact rfl))))); ((apply vL_val); (case h => ((apply opv_add); exact rfl; exact rfl; (first | omega | (simp only [List.length_map]; omega))))); ((apply vL_val); (case h => ((apply opv_E); exact rfl))); apply vL_nil; (iterate 2 (apply blockP_normal)); apply seqP_normal; apply vC_region; ((apply vL_val); (case h => ((apply opv_E); exact rfl))); ((apply vL_val); (case h => ((apply opv_add); exact rfl; exact rfl; (first | omega | (simp only [List.length_map]; omega))))); ((apply vL_val); (case h => ((apply opv_E); exact rfl))); apply vL_nil; apply loopP_normal)
        (with_reducible apply end3); (case hs => (repeat (first | (with_reducible exact same_mask _ _ _) | with_reducible apply same_updN | ((with_reducible refine same_updO ?_ ?_); rotate_left; exact rfl) | ((with_reducible refine same_upd ?_ ?_); rotate_left; exact rfl) | ((with_reducible refine same_maskIn ?_ ?_); rotate_left; exact rfl)))); (case h1 => (first | exact norm_eq rfl | ((conv => lhs; whnf) <;> exact rfl))); (case h2 => (first | exact norm_eq rfl | ((conv => lhs; whnf) <;> exact rfl))); (case h3 => (first | exact norm_eq rfl | ((conv => lhs; whnf) <;> exact rfl)))
        · exact ⟨i + 1, en + n, m', _, _, _, _, rfl, rfl, by omega, S15, hI'⟩
        · simp [RowKit.intOf]; omega
    · rw [hv] at hj
      injection hj with e1 e2
      injection e2 with e2 e3
      subst e1; subst e2; subst e3
      have hrw := hW r hrm
      rw [hrf] at hrw
      (((apply vL_wanted); exact rfl); (iterate 3 (((apply vL_val); (case h => ((apply opv_E); exact rfl))))); apply vL_nil; apply seqP_normal; ((apply vC_cond_true); exact rfl); apply vC_seq; apply vC_region; ((apply vL_val); (case h => ((apply opv_move); ((conv => lhs; whnf) <;> exact rfl)))); ((apply vL_val); (case h => ((apply opv_loadbC); exact rfl; exact rfl; (first | assumption | infer_instance); (first | exact (rfl : _ = [_]) | exact (rfl : _ = [_, _]) | exact (rfl : _ = [_, _, _]) | exact (rfl : _ = [_, _, _, _]) | exact (rfl : _ = [_, _, _, _, _]) | exact (rfl : _ = [_, _, _, _, _, _]) | exact (rfl : _ = [_, _, _, _, _, _, _]) | exact (rfl : _ = [_, _, _, _, _, _, _, _]) | exact (rfl : _ = [_, _, _, _, _, _, _, _, _]) | exact (rfl : _ = [_, _, _, _, _, _, _, _, _, _]) | exact (rfl : _ = [_, _, _, _, _, _, _, _, _, _, _]) | exact (rfl : _ = [_, _, _, _, _, _, _, _, _, _, _, _])); exact rfl))))
      refine vL_val (opv_lookupOk (kE := k3E) (vE := ivE) (key := ((pid, ep, fi) : I3)) rfl rfl S8.a) ?_
      rw [hrw.1]
      ((iterate 5 (((apply vL_val); (case h => ((apply opv_E); exact rfl))))); apply vL_nil; apply seqP_normal; apply vC_seq; apply vC_region; ((apply vL_val); (case h => ((apply opv_E); exact rfl))); ((apply vL_val); (case h => ((apply opv_not); exact rfl))); ((apply vL_val); (case h => ((apply opv_E); exact rfl))); ((apply vL_wanted); exact rfl); ((apply vL_val); (case h => ((apply opv_E); exact rfl))); ((apply vL_wanted); exact rfl); ((apply vL_val); (case h => ((apply opv_E); exact rfl))); ((apply vL_wanted); exact rfl); (iterate 3 (((apply vL_val); (case h => ((apply opv_E); exact rfl))))); (refine vL_or rfl rfl (fun _ => ?_) (fun h => by omega)); ((apply vL_val); (case h => ((apply opv_move); ((conv => lhs; whnf) <;> exact rfl)))); ((apply vL_wanted); exact rfl); ((apply vL_val); (case h => ((apply opv_loadbC); exact rfl; exact rfl; (first | assumption | infer_instance); (first | exact (rfl : _ = [_]) | exact (rfl : _ = [_, _]) | exact (rfl : _ = [_, _, _]) | exact (rfl : _ = [_, _, _, _]) | exact (rfl : _ = [_, _, _, _, _]) | exact (rfl : _ = [_, _, _, _, _, _]) | exact (rfl : _ = [_, _, _, _, _, _, _]) | exact (rfl : _ = [_, _, _, _, _, _, _, _]) | exact (rfl : _ = [_, _, _, _, _, _, _, _, _]) | exact (rfl : _ = [_, _, _, _, _, _, _, _, _, _]) | exact (rfl : _ = [_, _, _, _, _, _, _, _, _, _, _]) | exact (rfl : _ = [_, _, _, _, _, _, _, _, _, _, _, _])); exact rfl))); ((apply vL_wanted); exact rfl))
      refine vL_val (opv_lookup' (kE := k3E) (vE := ivE) (key := ((pid, ep, fi) : I3)) rfl rfl S8.z (by rw [hrw.2, hrn])) ?_
      (((apply vL_wanted); exact rfl); ((apply vL_val); (case h => ((apply opv_E); exact rfl))); ((apply vL_wanted); exact rfl); (iterate 2 (((apply vL_val); (case h => ((apply opv_E); exact rfl))))); apply vL_nil; apply seqP_normal; (refine vC_cond_dec rfl (fun h => by omega) (fun _ => ?_)); apply vC_skip; (iterate 2 (apply blockP_normal)); apply seqP_normal; apply vC_region; ((apply vL_val); (case h => ((apply opv_E); exact rfl))); ((apply vL_val); (case h => ((apply opv_add); exact rfl; exact rfl; (first | omega | (simp only [List.length_map]; omega))))); ((apply vL_val); (case h => ((apply opv_E); exact rfl))); apply vL_nil; apply loopP_normal)
      (with_reducible apply end3); (case hs => (repeat (first | (with_reducible exact same_mask _ _ _) | with_reducible apply same_updN | ((with_reducible refine same_updO ?_ ?_); rotate_left; exact rfl) | ((with_reducible refine same_upd ?_ ?_); rotate_left; exact rfl) | ((with_reducible refine same_maskIn ?_ ?_); rotate_left; exact rfl)))); (case h1 => (first | exact norm_eq rfl | ((conv => lhs; whnf) <;> exact rfl))); (case h2 => (first | exact norm_eq rfl | ((conv => lhs; whnf) <;> exact rfl))); (case h3 => (first | exact norm_eq rfl | ((conv => lhs; whnf) <;> exact rfl)))
      · exact ⟨i + 1, en, m, N, Wm, Z, T, rfl, rfl, by omega, S8, I.more⟩
      · simp [RowKit.intOf]; omega
    · rw [hv] at hj
      injection hj with e1 e2
      injection e2 with e2 e3
      subst e1; subst e2; subst e3
      (((apply vL_unwanted'); exact rfl; exact rfl); (iterate 2 (((apply vL_val); (case h => ((apply opv_E); exact rfl))))); apply vL_nil; apply seqP_normal; ((apply vC_cond_false); exact rfl); apply vC_seq; apply vC_region; (iterate 3 (((apply vL_val); (case h => ((apply opv_E); exact rfl))))); apply vL_nil; apply seqP_normal; ((apply vC_cond_false); exact rfl); apply vC_seq; apply vC_region; (iterate 3 (((apply vL_val); (case h => ((apply opv_E); exact rfl))))); apply vL_nil; apply seqP_normal; ((apply vC_cond_true); exact rfl); apply vC_seq; apply vC_region; ((apply vL_val); (case h => ((apply opv_E); exact rfl))); ((apply vL_val); (case h => ((apply opv_move); ((conv => lhs; whnf) <;> exact rfl)))); (iterate 2 (((apply vL_val); (case h => ((apply opv_E); exact rfl))))); ((apply vL_val); (case h => ((apply opv_buildA); exact rfl; (first | exact (rfl : _ = some []) | exact (rfl : _ = some [_]) | exact (rfl : _ = some [_, _]) | exact (rfl : _ = some [_, _, _]) | exact (rfl : _ = some [_, _, _, _]) | exact (rfl : _ = some [_, _, _, _, _]) | exact (rfl : _ = some [_, _, _, _, _, _]) | exact (rfl : _ = some [_, _, _, _, _, _, _]) | exact (rfl : _ = some [_, _, _, _, _, _, _, _]) | exact (rfl : _ = some [_, _, _, _, _, _, _, _, _]) | exact (rfl : _ = some [_, _, _, _, _, _, _, _, _, _]) | exact (rfl : _ = some [_, _, _, _, _, _, _, _, _, _, _]) | exact (rfl : _ = some [_, _, _, _, _, _, _, _, _, _, _, _]) | exact (rfl : _ = some [_, _, _, _, _, _, _, _, _, _, _, _, _]) | exact (rfl : _ = some [_, _, _, _, _, _, _, _, _, _, _, _, _, _]) | exact (rfl : _ = some [_, _, _, _, _, _, _, _, _, _, _, _, _, _, _]) | exact (rfl : _ = some [_, _, _, _, _, _, _, _, _, _, _, _, _, _, _, _]))))))
      refine vL_val (opv_lookup' (kE := k2E) (vE := ivE) (key := ((pid, ep) : I2)) rfl rfl S8.n (hNv _ rfl)) ?_
      (((apply vL_val); (case h => ((apply opv_E); exact rfl))); apply vL_nil; apply seqP_normal; (refine vC_cond_dec rfl (fun h => by omega) (fun _ => ?_)); apply vC_skip; (iterate 2 (apply blockP_normal)); apply seqP_normal; apply vC_region; ((apply vL_val); (case h => ((apply opv_E); exact rfl))); ((apply vL_val); (case h => ((apply opv_add); exact rfl; exact rfl; (first | omega | (simp only [List.length_map]; omega))))); ((apply vL_val); (case h => ((apply opv_E); exact rfl))); apply vL_nil; apply loopP_normal)
      (with_reducible apply end3); (case hs => (repeat (first | (with_reducible exact same_mask _ _ _) | with_reducible apply same_updN | ((with_reducible refine same_updO ?_ ?_); rotate_left; exact rfl) | ((with_reducible refine same_upd ?_ ?_); rotate_left; exact rfl) | ((with_reducible refine same_maskIn ?_ ?_); rotate_left; exact rfl)))); (case h1 => (first | exact norm_eq rfl | ((conv => lhs; whnf) <;> exact rfl))); (case h2 => (first | exact norm_eq rfl | ((conv => lhs; whnf) <;> exact rfl))); (case h3 => (first | exact norm_eq rfl | ((conv => lhs; whnf) <;> exact rfl)))
      · exact ⟨i + 1, en, m, N, Wm, Z, T, rfl, rfl, by omega, S8, I.more⟩
      · simp [RowKit.intOf]; omega
    · rw [hv] at hj
      injection hj with e1 e2
      injection e2 with e2 e3
      subst e1; subst e2; subst e3
      (((apply vL_unwanted'); exact rfl; exact rfl); (iterate 2 (((apply vL_val); (case h => ((apply opv_E); exact rfl))))); apply vL_nil; apply seqP_normal; ((apply vC_cond_false); exact rfl); apply vC_seq; apply vC_region; (iterate 3 (((apply vL_val); (case h => ((apply opv_E); exact rfl))))); apply vL_nil; apply seqP_normal; ((apply vC_cond_false); exact rfl); apply vC_seq; apply vC_region; (iterate 3 (((apply vL_val); (case h => ((apply opv_E); exact rfl))))); apply vL_nil; apply seqP_normal; ((apply vC_cond_false); exact rfl); apply vC_seq; apply vC_region; (iterate 3 (((apply vL_val); (case h => ((apply opv_E); exact rfl))))); ((apply vL_wanted); exact rfl); ((apply vL_val); (case h => ((apply opv_E); exact rfl))); ((apply vL_wanted); exact rfl); ((apply vL_val); (case h => ((apply opv_move); ((conv => lhs; whnf) <;> exact rfl)))); ((apply vL_wanted); exact rfl); ((apply vL_val); (case h => ((apply opv_E); exact rfl))); ((apply vL_wanted); exact rfl); ((apply vL_val); (case h => ((apply opv_E); exact rfl))); ((apply vL_wanted); exact rfl); ((apply vL_val); (case h => ((apply opv_buildA); exact rfl; (first | exact (rfl : _ = some []) | exact (rfl : _ = some [_]) | exact (rfl : _ = some [_, _]) | exact (rfl : _ = some [_, _, _]) | exact (rfl : _ = some [_, _, _, _]) | exact (rfl : _ = some [_, _, _, _, _]) | exact (rfl : _ = some [_, _, _, _, _, _]) | exact (rfl : _ = some [_, _, _, _, _, _, _]) | exact (rfl : _ = some [_, _, _, _, _, _, _, _]) | exact (rfl : _ = some [_, _, _, _, _, _, _, _, _]) | exact (rfl : _ = some [_, _, _, _, _, _, _, _, _, _]) | exact (rfl : _ = some [_, _, _, _, _, _, _, _, _, _, _]) | exact (rfl : _ = some [_, _, _, _, _, _, _, _, _, _, _, _]) | exact (rfl : _ = some [_, _, _, _, _, _, _, _, _, _, _, _, _]) | exact (rfl : _ = some [_, _, _, _, _, _, _, _, _, _, _, _, _, _]) | exact (rfl : _ = some [_, _, _, _, _, _, _, _, _, _, _, _, _, _, _]) | exact (rfl : _ = some [_, _, _, _, _, _, _, _, _, _, _, _, _, _, _, _]))))); ((apply vL_wanted); exact rfl))
      refine vL_val (opv_lookup' (kE := k2E) (vE := ivE) (key := ((pid, ep) : I2)) rfl rfl S8.n (hNv _ rfl)) ?_
      (((apply vL_wanted); exact rfl); (iterate 3 (((apply vL_val); (case h => ((apply opv_E); exact rfl))))); apply vL_nil; apply seqP_normal; (refine vC_cond_dec rfl (fun h => by omega) (fun _ => ?_)); apply vC_skip; (iterate 2 (apply blockP_normal)); apply seqP_normal; apply vC_region; ((apply vL_val); (case h => ((apply opv_E); exact rfl))); ((apply vL_val); (case h => ((apply opv_add); exact rfl; exact rfl; (first | omega | (simp only [List.length_map]; omega))))); ((apply vL_val); (case h => ((apply opv_E); exact rfl))); apply vL_nil; apply loopP_normal)
      (with_reducible apply end3); (case hs => (repeat (first | (with_reducible exact same_mask _ _ _) | with_reducible apply same_updN | ((with_reducible refine same_updO ?_ ?_); rotate_left; exact rfl) | ((with_reducible refine same_upd ?_ ?_); rotate_left; exact rfl) | ((with_reducible refine same_maskIn ?_ ?_); rotate_left; exact rfl)))); (case h1 => (first | exact norm_eq rfl | ((conv => lhs; whnf) <;> exact rfl))); (case h2 => (first | exact norm_eq rfl | ((conv => lhs; whnf) <;> exact rfl))); (case h3 => (first | exact norm_eq rfl | ((conv => lhs; whnf) <;> exact rfl)))
      · exact ⟨i + 1, en, m, N, Wm, Z, T, rfl, rfl, by omega, S8, I.more⟩
      · simp [RowKit.intOf]; omega
  | some pp =>
    have hnf' := hnf pp hG
    have hmx : (if pp.2.1 < ep then ep else pp.2.1) = ep := by split <;> omega
    ((iterate 5 (((apply vL_val); (case h => ((apply opv_E); exact rfl))))); apply vL_nil; apply seqP_normal; apply vC_block; apply vC_seq; apply vC_region; (iterate 2 (((apply vL_val); (case h => ((apply opv_E); exact rfl))))); ((apply vL_wanted); exact rfl); ((apply vL_val); (case h => ((apply opv_E); exact rfl))); ((apply vL_wanted); exact rfl); ((apply vL_val); (case h => ((apply opv_E); exact rfl))); ((apply vL_wanted); exact rfl); (iterate 3 (((apply vL_val); (case h => ((apply opv_E); exact rfl))))); apply vL_nil; apply seqP_normal; (refine vC_condF rfl (by ((simp only [Bool.not_eq_true', Bool.not_eq_false', Bool.not_not, decide_eq_true_eq, decide_eq_false_iff_not]); omega)) ?_); apply vC_seq; apply vC_region; (iterate 3 (((apply vL_val); (case h => ((apply opv_E); exact rfl))))))
    rcases j1_cases (eff (m.map PR.f) pid ep).1 (eff (m.map PR.f) pid ep).2 fi n with ⟨hfe, hv⟩ | ⟨r, hrm, hrf, hrn, hv⟩ | ⟨hlt, hv⟩ | ⟨hgt, hv⟩
    · rw [hv] at hj
      injection hj with e1 e2
      injection e2 with e2 e3
      subst e1; subst e2; subst e3
      (((apply vL_wanted); exact rfl); (iterate 3 (((apply vL_val); (case h => ((apply opv_E); exact rfl))))); apply vL_nil; apply seqP_normal; ((apply vC_cond_false); exact rfl); apply vC_seq; apply vC_region; (iterate 3 (((apply vL_val); (case h => ((apply opv_E); exact rfl))))); apply vL_nil; apply seqP_normal; ((apply vC_cond_true); exact rfl); (iterate 2 (apply vC_seq)); apply vC_region; ((apply vL_val); (case h => ((apply opv_move); ((conv => lhs; whnf) <;> exact rfl)))); (iterate 2 (((apply vL_val); (case h => ((apply opv_E); exact rfl))))); ((apply vL_val); (case h => ((apply opv_buildA); exact rfl; (first | exact (rfl : _ = some []) | exact (rfl : _ = some [_]) | exact (rfl : _ = some [_, _]) | exact (rfl : _ = some [_, _, _]) | exact (rfl : _ = some [_, _, _, _]) | exact (rfl : _ = some [_, _, _, _, _]) | exact (rfl : _ = some [_, _, _, _, _, _]) | exact (rfl : _ = some [_, _, _, _, _, _, _]) | exact (rfl : _ = some [_, _, _, _, _, _, _, _]) | exact (rfl : _ = some [_, _, _, _, _, _, _, _, _]) | exact (rfl : _ = some [_, _, _, _, _, _, _, _, _, _]) | exact (rfl : _ = some [_, _, _, _, _, _, _, _, _, _, _]) | exact (rfl : _ = some [_, _, _, _, _, _, _, _, _, _, _, _]) | exact (rfl : _ = some [_, _, _, _, _, _, _, _, _, _, _, _, _]) | exact (rfl : _ = some [_, _, _, _, _, _, _, _, _, _, _, _, _, _]) | exact (rfl : _ = some [_, _, _, _, _, _, _, _, _, _, _, _, _, _, _]) | exact (rfl : _ = some [_, _, _, _, _, _, _, _, _, _, _, _, _, _, _, _]))))))
      refine vL_val (opv_lookup' (kE := k2E) (vE := ivE) (key := ((pid, ep) : I2)) rfl rfl S8.n (hNv fi hfe)) ?_
      ((iterate 2 (((apply vL_val); (case h => ((apply opv_E); exact rfl))))); apply vL_nil; apply seqP_normal; (refine vC_cond_dec rfl (fun h => by omega) (fun _ => ?_)); apply vC_skip; apply seqP_normal; apply vC_seq; apply vC_region; ((apply vL_val); (case h => ((apply opv_move); ((conv => lhs; whnf) <;> exact rfl)))); ((apply vL_val); (case h => ((apply opv_loadbC); exact rfl; exact rfl; (first | assumption | infer_instance); (first | exact (rfl : _ = [_]) | exact (rfl : _ = [_, _]) | exact (rfl : _ = [_, _, _]) | exact (rfl : _ = [_, _, _, _]) | exact (rfl : _ = [_, _, _, _, _]) | exact (rfl : _ = [_, _, _, _, _, _]) | exact (rfl : _ = [_, _, _, _, _, _, _]) | exact (rfl : _ = [_, _, _, _, _, _, _, _]) | exact (rfl : _ = [_, _, _, _, _, _, _, _, _]) | exact (rfl : _ = [_, _, _, _, _, _, _, _, _, _]) | exact (rfl : _ = [_, _, _, _, _, _, _, _, _, _, _]) | exact (rfl : _ = [_, _, _, _, _, _, _, _, _, _, _, _])); exact rfl))); ((apply vL_val); (case h => ((apply opv_E); exact rfl))))
      refine vL_callF rfl (putX S8.s.ho.rd S8.s.rcIn o8.rd k5 rfl n5 hmay I.rt hj (by omega) ⟨by omega, by omega⟩ rfl) rfl ?_
      rintro _ w9 ⟨uv, m', rfl, S9', hone9, hm9⟩
      have S9 := S8.frN S9'.fr
      have s9 := S9'.base S8.s.fr.size S9.s.fr
      have hI' := I.next hp14 hep3 (show 0 ≤ fi ∧ fi ≤ 40 by omega) hn5 (by omega) hnf hfe
      rw [← hm9] at hI'
      have hb19 := hb8.frN S9'.fr
      (((apply vL_val); (case h => ((apply opv_E); exact rfl))); ((apply vL_val); (case h => ((apply opv_extract); (first | exact norm_eq rfl | ((conv => lhs; whnf) <;> exact rfl)); exact rfl))); ((apply vL_val); (case h => ((apply opv_E); exact rfl))); ((apply vL_val); (case h => ((apply opv_assign); ((conv => lhs; whnf) <;> exact rfl)))); ((apply vL_val); (case h => ((apply opv_E); exact rfl))); apply vL_nil; apply seqP_normal; (iterate 2 (apply vC_seq)); apply vC_region; (iterate 3 (((apply vL_val); (case h => ((apply opv_E); exact rfl))))); ((apply vL_wanted); exact rfl); ((apply vL_val); (case h => ((apply opv_move); ((conv => lhs; whnf) <;> exact rfl)))); ((apply vL_wanted); exact rfl))
      refine vL_callF rfl (rightX S9'.ho.rd S9'.rcIn rfl hI'.rt) rfl ?_
      rintro _ w10 ⟨rfl, hf10⟩
      have S10 : OS w w10 r1 r2 r3 r4 uv m' N Wm Z T := ⟨s9.frN hf10, S9.n.frN hf10, S9.a.frN hf10, S9.z.frN hf10, S9.t.frN hf10⟩
      have hb10' := hb19.frN hf10
      have hl1 : ((mget (mset N ((pid, ep) : I2) ((mget N ((pid, ep) : I2)).getD 0)) ((pid, ep) : I2)).map ivE).getD (.int .i64 0) = .int .i64 fi := by rw [mget_mset, if_pos rfl, hNe, ← hfe]; rfl
      clear S9' S9 s9 hb19 hf10 S8 o8 hb15 hb8
      (((apply vL_wanted); exact rfl); ((apply vL_val); (case h => ((apply opv_not); exact rfl))); ((apply vL_val); (case h => ((apply opv_E); exact rfl))); apply vL_nil; apply seqP_normal; ((apply vC_cond_false); exact rfl); apply vC_skip; apply seqP_normal; apply vC_seq; apply vC_region; ((apply vL_val); (case h => ((apply opv_move); ((conv => lhs; whnf) <;> exact rfl)))); ((apply vL_val); (case h => ((apply opv_assign); ((conv => lhs; whnf) <;> exact rfl)))); apply vL_nil; apply seqP_normal; apply vC_seq)
      have S10d := S10.frN (Fr.refl No w10).drew
      have hb10d := hb10'.frN (Fr.refl No w10).drew
      refine vC_draw' (fun _ => True) trivial ?_
      ((apply (tk 0)); (case hi => exact rfl); (case hf => kernel_rfl); (case hS => trivial); (case hy => (intro _ _; (((apply opv_move); ((conv => lhs; whnf) <;> exact rfl))))))
      ((apply (tk 1)); (case hi => exact rfl); (case hf => kernel_rfl); (case hS => trivial); (case hy => (intro _ _; (((apply opv_E); exact rfl)))))
      ((apply (tk 2)); (case hi => exact rfl); (case hf => kernel_rfl); (case hS => trivial); (case hy => (intro _ _; (((apply opv_E); exact rfl)))))
      ((apply (tk 3)); (case hi => exact rfl); (case hf => kernel_rfl); (case hS => trivial); (case hy => (intro _ _; (((apply opv_buildA); exact rfl; (first | exact (rfl : _ = some []) | exact (rfl : _ = some [_]) | exact (rfl : _ = some [_, _]) | exact (rfl : _ = some [_, _, _]) | exact (rfl : _ = some [_, _, _, _]) | exact (rfl : _ = some [_, _, _, _, _]) | exact (rfl : _ = some [_, _, _, _, _, _]) | exact (rfl : _ = some [_, _, _, _, _, _, _]) | exact (rfl : _ = some [_, _, _, _, _, _, _, _]) | exact (rfl : _ = some [_, _, _, _, _, _, _, _, _]) | exact (rfl : _ = some [_, _, _, _, _, _, _, _, _, _]) | exact (rfl : _ = some [_, _, _, _, _, _, _, _, _, _, _]) | exact (rfl : _ = some [_, _, _, _, _, _, _, _, _, _, _, _]) | exact (rfl : _ = some [_, _, _, _, _, _, _, _, _, _, _, _, _]) | exact (rfl : _ = some [_, _, _, _, _, _, _, _, _, _, _, _, _, _]) | exact (rfl : _ = some [_, _, _, _, _, _, _, _, _, _, _, _, _, _, _]) | exact (rfl : _ = some [_, _, _, _, _, _, _, _, _, _, _, _, _, _, _, _])))))))
      ((apply (tk 5)); (case hi => exact rfl); (case hf => kernel_rfl); (case hS => trivial); (case hy => (intro _ _; (((apply opv_E); exact rfl)))))
      refine vA_two 4 7 rfl rfl (by kernel_rfl) trivial (fun K hK => ?_) (fun K hK => ?_)
      · refine vL_val (opv_lookup' (kE := k2E) (vE := ivE) (key := ((pid, ep) : I2)) rfl rfl S10d.n (hNv fi hfe)) (vL_nil ⟨rfl, hK _ _ ?_⟩)
        ((apply (tk 6)); (case hi => exact rfl); (case hf => kernel_rfl); (case hS => trivial); (case hy => (intro _ _; (((apply opv_add); exact rfl; exact rfl; (first | omega | (simp only [List.length_map]; omega)))))))
        refine vA_only 7 rfl (by kernel_rfl) trivial (fun K hK => ?_)
        refine vL_mapEntry (kE := k2E) (vE := ivE) (key := ((pid, ep) : I2)) (0 : Int) rfl rfl S10d.n ?_
        intro w11 st hms hf11
        refine vL_nil ⟨rfl, hK _ _ ?_⟩
        ((apply (tk 8)); (case hi => exact rfl); (case hf => kernel_rfl); (case hS => trivial); (case hy => (intro _ _; (((apply opv_E); exact rfl)))))
        refine vA_only 9 rfl (by kernel_rfl) trivial (fun K hK => ?_)
        refine vL_entryStore (kE := k2E) (vE := ivE) (key := ((pid, ep) : I2)) (val := fi + (n : Int)) rfl rfl rfl hms ?_
        intro w12 hm12 hf12
        refine vL_nil ⟨rfl, hK _ _ ?_⟩
        refine vA_done (by kernel_rfl) trivial ?_
        rw [mset_twice] at hm12
        have hfr := hf11.trans hf12
        have S12 := S10d.u1 D hfr hm12
        have hb12 := hb10d.fr hfr (fun h => S10d.n.ne_blk hb10d h)
        clear hm12 hms hf11 hf12 hfr
        (apply seqP_normal; apply vC_seq)
        refine vC_draw' ((fun wf => Blk wf.heap b19 [.int .i64 pid, .int .i64 ep, .int .i64 fi] 38)) (by (first | exact trivial | assumption | infer_instance | ((repeat (first | exact Fr.refl _ _ | assumption | with_reducible apply Fr.allocSet | with_reducible apply Fr.alloc | with_reducible apply Fr.drewN | with_reducible apply Fr.drew | ((with_reducible apply Fr.set); rotate_left; (right; ((try simp only [alloc_size]); omega))) | (refine Fr.trans ?_ (by assumption)))); done))) ?_
        have S12d := S12.frN (Fr.refl No w12).drew
        have hb12d := hb12.frN (Fr.refl No w12).drew
        ((apply (tk 0)); (case hi => exact rfl); (case hf => kernel_rfl); (case hS => (first | exact trivial | assumption | infer_instance | ((repeat (first | exact Fr.refl _ _ | assumption | with_reducible apply Fr.allocSet | with_reducible apply Fr.alloc | with_reducible apply Fr.drewN | with_reducible apply Fr.drew | ((with_reducible apply Fr.set); rotate_left; (right; ((try simp only [alloc_size]); omega))) | (refine Fr.trans ?_ (by assumption)))); done))); (case hy => (intro wf hwf; (try dsimp only at hwf); (((apply opv_move); ((conv => lhs; whnf) <;> exact rfl))))))
        ((apply (tk 1)); (case hi => exact rfl); (case hf => kernel_rfl); (case hS => (first | exact trivial | assumption | infer_instance | ((repeat (first | exact Fr.refl _ _ | assumption | with_reducible apply Fr.allocSet | with_reducible apply Fr.alloc | with_reducible apply Fr.drewN | with_reducible apply Fr.drew | ((with_reducible apply Fr.set); rotate_left; (right; ((try simp only [alloc_size]); omega))) | (refine Fr.trans ?_ (by assumption)))); done))); (case hy => (intro wf hwf; (try dsimp only at hwf); (((apply opv_loadbC); exact rfl; exact rfl; (first | assumption | infer_instance); (first | exact (rfl : _ = [_]) | exact (rfl : _ = [_, _]) | exact (rfl : _ = [_, _, _]) | exact (rfl : _ = [_, _, _, _]) | exact (rfl : _ = [_, _, _, _, _]) | exact (rfl : _ = [_, _, _, _, _, _]) | exact (rfl : _ = [_, _, _, _, _, _, _]) | exact (rfl : _ = [_, _, _, _, _, _, _, _]) | exact (rfl : _ = [_, _, _, _, _, _, _, _, _]) | exact (rfl : _ = [_, _, _, _, _, _, _, _, _, _]) | exact (rfl : _ = [_, _, _, _, _, _, _, _, _, _, _]) | exact (rfl : _ = [_, _, _, _, _, _, _, _, _, _, _, _])); exact rfl)))))
        ((apply (tk 2)); (case hi => exact rfl); (case hf => kernel_rfl); (case hS => (first | exact trivial | assumption | infer_instance | ((repeat (first | exact Fr.refl _ _ | assumption | with_reducible apply Fr.allocSet | with_reducible apply Fr.alloc | with_reducible apply Fr.drewN | with_reducible apply Fr.drew | ((with_reducible apply Fr.set); rotate_left; (right; ((try simp only [alloc_size]); omega))) | (refine Fr.trans ?_ (by assumption)))); done))); (case hy => (intro wf hwf; (try dsimp only at hwf); (((apply opv_move); ((conv => lhs; whnf) <;> exact rfl))))))
        ((apply (tk 3)); (case hi => exact rfl); (case hf => kernel_rfl); (case hS => (first | exact trivial | assumption | infer_instance | ((repeat (first | exact Fr.refl _ _ | assumption | with_reducible apply Fr.allocSet | with_reducible apply Fr.alloc | with_reducible apply Fr.drewN | with_reducible apply Fr.drew | ((with_reducible apply Fr.set); rotate_left; (right; ((try simp only [alloc_size]); omega))) | (refine Fr.trans ?_ (by assumption)))); done))); (case hy => (intro wf hwf; (try dsimp only at hwf); (((apply opv_loadbC); exact rfl; exact rfl; (first | assumption | infer_instance); (first | exact (rfl : _ = [_]) | exact (rfl : _ = [_, _]) | exact (rfl : _ = [_, _, _]) | exact (rfl : _ = [_, _, _, _]) | exact (rfl : _ = [_, _, _, _, _]) | exact (rfl : _ = [_, _, _, _, _, _]) | exact (rfl : _ = [_, _, _, _, _, _, _]) | exact (rfl : _ = [_, _, _, _, _, _, _, _]) | exact (rfl : _ = [_, _, _, _, _, _, _, _, _]) | exact (rfl : _ = [_, _, _, _, _, _, _, _, _, _]) | exact (rfl : _ = [_, _, _, _, _, _, _, _, _, _, _]) | exact (rfl : _ = [_, _, _, _, _, _, _, _, _, _, _, _])); exact rfl)))))
        ((apply (tk 4)); (case hi => exact rfl); (case hf => kernel_rfl); (case hS => (first | exact trivial | assumption | infer_instance | ((repeat (first | exact Fr.refl _ _ | assumption | with_reducible apply Fr.allocSet | with_reducible apply Fr.alloc | with_reducible apply Fr.drewN | with_reducible apply Fr.drew | ((with_reducible apply Fr.set); rotate_left; (right; ((try simp only [alloc_size]); omega))) | (refine Fr.trans ?_ (by assumption)))); done))); (case hy => (intro wf hwf; (try dsimp only at hwf); (((apply opv_E); exact rfl)))))
        ((apply (tk 5)); (case hi => exact rfl); (case hf => kernel_rfl); (case hS => (first | exact trivial | assumption | infer_instance | ((repeat (first | exact Fr.refl _ _ | assumption | with_reducible apply Fr.allocSet | with_reducible apply Fr.alloc | with_reducible apply Fr.drewN | with_reducible apply Fr.drew | ((with_reducible apply Fr.set); rotate_left; (right; ((try simp only [alloc_size]); omega))) | (refine Fr.trans ?_ (by assumption)))); done))); (case hy => (intro wf hwf; (try dsimp only at hwf); (((apply opv_E); exact rfl)))))
        refine vA_only 6 rfl (by kernel_rfl) (by (first | exact trivial | assumption | infer_instance | ((repeat (first | exact Fr.refl _ _ | assumption | with_reducible apply Fr.allocSet | with_reducible apply Fr.alloc | with_reducible apply Fr.drewN | with_reducible apply Fr.drew | ((with_reducible apply Fr.set); rotate_left; (right; ((try simp only [alloc_size]); omega))) | (refine Fr.trans ?_ (by assumption)))); done))) (fun K hK => ?_)
        refine vL_mapUpdate (kE := k3E) (vE := ivE) (key := ((pid, ep, fi) : I3)) (val := en) rfl rfl rfl S12d.a ?_
        intro w13 hm13 hf13
        have S13 := S12d.u2 D hf13 hm13
        have hb13 := hb12d.fr hf13 (fun h => S12d.a.ne_blk hb12d h)
        refine vL_nil ⟨rfl, hK _ _ ?_⟩
        refine vA_only 7 rfl (by kernel_rfl) (by (first | exact trivial | assumption | infer_instance | ((repeat (first | exact Fr.refl _ _ | assumption | with_reducible apply Fr.allocSet | with_reducible apply Fr.alloc | with_reducible apply Fr.drewN | with_reducible apply Fr.drew | ((with_reducible apply Fr.set); rotate_left; (right; ((try simp only [alloc_size]); omega))) | (refine Fr.trans ?_ (by assumption)))); done))) (fun K hK => ?_)
        refine vL_mapUpdate (kE := k3E) (vE := ivE) (key := ((pid, ep, fi) : I3)) (val := (n : Int)) rfl rfl rfl S13.z ?_
        intro w14 hm14 hf14
        have S14 := S13.u3 D hf14 hm14
        have hb14 := hb13.fr hf14 (fun h => S13.z.ne_blk hb13 h)
        refine vL_nil ⟨rfl, hK _ _ ?_⟩
        refine vA_done (by kernel_rfl) (by (first | exact trivial | assumption | infer_instance | ((repeat (first | exact Fr.refl _ _ | assumption | with_reducible apply Fr.allocSet | with_reducible apply Fr.alloc | with_reducible apply Fr.drewN | with_reducible apply Fr.drew | ((with_reducible apply Fr.set); rotate_left; (right; ((try simp only [alloc_size]); omega))) | (refine Fr.trans ?_ (by assumption)))); done))) ?_
        clear hm13 hm14 hf13 hf14 S13 S12 S12d hb12 hb12d hb13
        (apply seqP_normal; apply vC_seq; apply vC_region; ((apply vL_val); (case h => ((apply opv_move); ((conv => lhs; whnf) <;> exact rfl)))); (iterate 3 (((apply vL_val); (case h => ((apply opv_E); exact rfl))))); ((apply vL_val); (case h => ((apply opv_max); exact rfl; exact rfl))))
        refine vL_mapUpdate (kE := ikE) (vE := ivE) (key := pid) (val := ep) rfl rfl (show Value.int .i64 (if (pp.2.1) < ep then ep else (pp.2.1)) = .int .i64 ep by rw [hmx]) S14.t ?_
        intro w15 hm15 hf15
        have S15 := S14.u4 D hf15 hm15
        clear hm15 hf15 S14 hb14
        (apply vL_nil; apply seqP_normal; apply vC_region; (iterate 2 (((apply vL_val); (case h => ((apply opv_E); exact rfl))))); ((apply vL_val); (case h => ((apply opv_add); exact rfl; exact rfl; (first | omega | (simp only [List.length_map]; omega))))); ((apply vL_val); (case h => ((apply opv_E); exact rfl))); apply vL_nil; (iterate 2 (apply blockP_normal)); apply seqP_normal; apply vC_region; ((apply vL_val); (case h => ((apply opv_E); exact rfl))); ((apply vL_val); (case h => ((apply opv_add); exact rfl; exact rfl; (first | omega | (simp only [List.length_map]; omega))))); ((apply vL_val); (case h => ((apply opv_E); exact rfl))); apply vL_nil; apply loopP_normal)
        (with_reducible apply end3); (case hs => (repeat (first | (with_reducible exact same_mask _ _ _) | with_reducible apply same_updN | ((with_reducible refine same_updO ?_ ?_); rotate_left; exact rfl) | ((with_reducible refine same_upd ?_ ?_); rotate_left; exact rfl) | ((with_reducible refine same_maskIn ?_ ?_); rotate_left; exact rfl)))); (case h1 => (first | exact norm_eq rfl | ((conv => lhs; whnf) <;> exact rfl))); (case h2 => (first | exact norm_eq rfl | ((conv => lhs; whnf) <;> exact rfl))); (case h3 => (first | exact norm_eq rfl | ((conv => lhs; whnf) <;> exact rfl)))
        · exact ⟨i + 1, en + n, m', _, _, _, _, rfl, rfl, by omega, S15, hI'⟩
        · simp [RowKit.intOf]; omega
      · refine vL_mapEntry (kE := k2E) (vE := ivE) (key := ((pid, ep) : I2)) (0 : Int) rfl rfl S10d.n ?_
        intro w11 st hms hf11
        refine vL_nil ⟨rfl, hK _ _ ?_⟩
        ((apply (tk 8)); (case hi => exact rfl); (case hf => kernel_rfl); (case hS => trivial); (case hy => (intro _ _; (((apply opv_E); exact rfl)))))
        refine vA_only 4 rfl (by kernel_rfl) trivial (fun K hK => ?_)
        refine vL_val (opv_lookup' (kE := k2E) (vE := ivE) (key := ((pid, ep) : I2)) rfl rfl hms.mp hl1) (vL_nil ⟨rfl, hK _ _ ?_⟩)
        ((apply (tk 6)); (case hi => exact rfl); (case hf => kernel_rfl); (case hS => trivial); (case hy => (intro _ _; (((apply opv_add); exact rfl; exact rfl; (first | omega | (simp only [List.length_map]; omega)))))))
        refine vA_only 9 rfl (by kernel_rfl) trivial (fun K hK => ?_)
        refine vL_entryStore (kE := k2E) (vE := ivE) (key := ((pid, ep) : I2)) (val := fi + (n : Int)) rfl rfl rfl hms ?_
        intro w12 hm12 hf12
        refine vL_nil ⟨rfl, hK _ _ ?_⟩
        refine vA_done (by kernel_rfl) trivial ?_
        rw [mset_twice] at hm12
        have hfr := hf11.trans hf12
        have S12 := S10d.u1 D hfr hm12
        have hb12 := hb10d.fr hfr (fun h => S10d.n.ne_blk hb10d h)
        clear hm12 hms hf11 hf12 hfr
        (apply seqP_normal; apply vC_seq)
        refine vC_draw' ((fun wf => Blk wf.heap b19 [.int .i64 pid, .int .i64 ep, .int .i64 fi] 38)) (by (first | exact trivial | assumption | infer_instance | ((repeat (first | exact Fr.refl _ _ | assumption | with_reducible apply Fr.allocSet | with_reducible apply Fr.alloc | with_reducible apply Fr.drewN | with_reducible apply Fr.drew | ((with_reducible apply Fr.set); rotate_left; (right; ((try simp only [alloc_size]); omega))) | (refine Fr.trans ?_ (by assumption)))); done))) ?_
        have S12d := S12.frN (Fr.refl No w12).drew
        have hb12d := hb12.frN (Fr.refl No w12).drew
        ((apply (tk 0)); (case hi => exact rfl); (case hf => kernel_rfl); (case hS => (first | exact trivial | assumption | infer_instance | ((repeat (first | exact Fr.refl _ _ | assumption | with_reducible apply Fr.allocSet | with_reducible apply Fr.alloc | with_reducible apply Fr.drewN | with_reducible apply Fr.drew | ((with_reducible apply Fr.set); rotate_left; (right; ((try simp only [alloc_size]); omega))) | (refine Fr.trans ?_ (by assumption)))); done))); (case hy => (intro wf hwf; (try dsimp only at hwf); (((apply opv_move); ((conv => lhs; whnf) <;> exact rfl))))))
        ((apply (tk 1)); (case hi => exact rfl); (case hf => kernel_rfl); (case hS => (first | exact trivial | assumption | infer_instance | ((repeat (first | exact Fr.refl _ _ | assumption | with_reducible apply Fr.allocSet | with_reducible apply Fr.alloc | with_reducible apply Fr.drewN | with_reducible apply Fr.drew | ((with_reducible apply Fr.set); rotate_left; (right; ((try simp only [alloc_size]); omega))) | (refine Fr.trans ?_ (by assumption)))); done))); (case hy => (intro wf hwf; (try dsimp only at hwf); (((apply opv_loadbC); exact rfl; exact rfl; (first | assumption | infer_instance); (first | exact (rfl : _ = [_]) | exact (rfl : _ = [_, _]) | exact (rfl : _ = [_, _, _]) | exact (rfl : _ = [_, _, _, _]) | exact (rfl : _ = [_, _, _, _, _]) | exact (rfl : _ = [_, _, _, _, _, _]) | exact (rfl : _ = [_, _, _, _, _, _, _]) | exact (rfl : _ = [_, _, _, _, _, _, _, _]) | exact (rfl : _ = [_, _, _, _, _, _, _, _, _]) | exact (rfl : _ = [_, _, _, _, _, _, _, _, _, _]) | exact (rfl : _ = [_, _, _, _, _, _, _, _, _, _, _]) | exact (rfl : _ = [_, _, _, _, _, _, _, _, _, _, _, _])); exact rfl)))))
        ((apply (tk 2)); (case hi => exact rfl); (case hf => kernel_rfl); (case hS => (first | exact trivial | assumption | infer_instance | ((repeat (first | exact Fr.refl _ _ | assumption | with_reducible apply Fr.allocSet | with_reducible apply Fr.alloc | with_reducible apply Fr.drewN | with_reducible apply Fr.drew | ((with_reducible apply Fr.set); rotate_left; (right; ((try simp only [alloc_size]); omega))) | (refine Fr.trans ?_ (by assumption)))); done))); (case hy => (intro wf hwf; (try dsimp only at hwf); (((apply opv_move); ((conv => lhs; whnf) <;> exact rfl))))))
        ((apply (tk 3)); (case hi => exact rfl); (case hf => kernel_rfl); (case hS => (first | exact trivial | assumption | infer_instance | ((repeat (first | exact Fr.refl _ _ | assumption | with_reducible apply Fr.allocSet | with_reducible apply Fr.alloc | with_reducible apply Fr.drewN | with_reducible apply Fr.drew | ((with_reducible apply Fr.set); rotate_left; (right; ((try simp only [alloc_size]); omega))) | (refine Fr.trans ?_ (by assumption)))); done))); (case hy => (intro wf hwf; (try dsimp only at hwf); (((apply opv_loadbC); exact rfl; exact rfl; (first | assumption | infer_instance); (first | exact (rfl : _ = [_]) | exact (rfl : _ = [_, _]) | exact (rfl : _ = [_, _, _]) | exact (rfl : _ = [_, _, _, _]) | exact (rfl : _ = [_, _, _, _, _]) | exact (rfl : _ = [_, _, _, _, _, _]) | exact (rfl : _ = [_, _, _, _, _, _, _]) | exact (rfl : _ = [_, _, _, _, _, _, _, _]) | exact (rfl : _ = [_, _, _, _, _, _, _, _, _]) | exact (rfl : _ = [_, _, _, _, _, _, _, _, _, _]) | exact (rfl : _ = [_, _, _, _, _, _, _, _, _, _, _]) | exact (rfl : _ = [_, _, _, _, _, _, _, _, _, _, _, _])); exact rfl)))))
        ((apply (tk 4)); (case hi => exact rfl); (case hf => kernel_rfl); (case hS => (first | exact trivial | assumption | infer_instance | ((repeat (first | exact Fr.refl _ _ | assumption | with_reducible apply Fr.allocSet | with_reducible apply Fr.alloc | with_reducible apply Fr.drewN | with_reducible apply Fr.drew | ((with_reducible apply Fr.set); rotate_left; (right; ((try simp only [alloc_size]); omega))) | (refine Fr.trans ?_ (by assumption)))); done))); (case hy => (intro wf hwf; (try dsimp only at hwf); (((apply opv_E); exact rfl)))))
        ((apply (tk 5)); (case hi => exact rfl); (case hf => kernel_rfl); (case hS => (first | exact trivial | assumption | infer_instance | ((repeat (first | exact Fr.refl _ _ | assumption | with_reducible apply Fr.allocSet | with_reducible apply Fr.alloc | with_reducible apply Fr.drewN | with_reducible apply Fr.drew | ((with_reducible apply Fr.set); rotate_left; (right; ((try simp only [alloc_size]); omega))) | (refine Fr.trans ?_ (by assumption)))); done))); (case hy => (intro wf hwf; (try dsimp only at hwf); (((apply opv_E); exact rfl)))))
        refine vA_only 6 rfl (by kernel_rfl) (by (first | exact trivial | assumption | infer_instance | ((repeat (first | exact Fr.refl _ _ | assumption | with_reducible apply Fr.allocSet | with_reducible apply Fr.alloc | with_reducible apply Fr.drewN | with_reducible apply Fr.drew | ((with_reducible apply Fr.set); rotate_left; (right; ((try simp only [alloc_size]); omega))) | (refine Fr.trans ?_ (by assumption)))); done))) (fun K hK => ?_)
        refine vL_mapUpdate (kE := k3E) (vE := ivE) (key := ((pid, ep, fi) : I3)) (val := en) rfl rfl rfl S12d.a ?_
        intro w13 hm13 hf13
        have S13 := S12d.u2 D hf13 hm13
        have hb13 := hb12d.fr hf13 (fun h => S12d.a.ne_blk hb12d h)
        refine vL_nil ⟨rfl, hK _ _ ?_⟩
        refine vA_only 7 rfl (by kernel_rfl) (by (first | exact trivial | assumption | infer_instance | ((repeat (first | exact Fr.refl _ _ | assumption | with_reducible apply Fr.allocSet | with_reducible apply Fr.alloc | with_reducible apply Fr.drewN | with_reducible apply Fr.drew | ((with_reducible apply Fr.set); rotate_left; (right; ((try simp only [alloc_size]); omega))) | (refine Fr.trans ?_ (by assumption)))); done))) (fun K hK => ?_)
        refine vL_mapUpdate (kE := k3E) (vE := ivE) (key := ((pid, ep, fi) : I3)) (val := (n : Int)) rfl rfl rfl S13.z ?_
        intro w14 hm14 hf14
        have S14 := S13.u3 D hf14 hm14
        have hb14 := hb13.fr hf14 (fun h => S13.z.ne_blk hb13 h)
        refine vL_nil ⟨rfl, hK _ _ ?_⟩
        refine vA_done (by kernel_rfl) (by (first | exact trivial | assumption | infer_instance | ((repeat (first | exact Fr.refl _ _ | assumption | with_reducible apply Fr.allocSet | with_reducible apply Fr.alloc | with_reducible apply Fr.drewN | with_reducible apply Fr.drew | ((with_reducible apply Fr.set); rotate_left; (right; ((try simp only [alloc_size]); omega))) | (refine Fr.trans ?_ (by assumption)))); done))) ?_
        clear hm13 hm14 hf13 hf14 S13 S12 S12d hb12 hb12d hb13
        (apply seqP_normal; apply vC_seq; apply vC_region; ((apply vL_val); (case h => ((apply opv_move); ((conv => lhs; whnf) <;> exact rfl)))); (iterate 3 (((apply vL_val); (case h => ((apply opv_E); exact rfl))))); ((apply vL_val); (case h => ((apply opv_max); exact rfl; exact rfl))))
        refine vL_mapUpdate (kE := ikE) (vE := ivE) (key := pid) (val := ep) rfl rfl (show Value.int .i64 (if (pp.2.1) < ep then ep else (pp.2.1)) = .int .i64 ep by rw [hmx]) S14.t ?_
        intro w15 hm15 hf15
        have S15 := S14.u4 D hf15 hm15
        clear hm15 hf15 S14 hb14
        (apply vL_nil; apply seqP_normal; apply vC_region; (iterate 2 (((apply vL_val); (case h => ((apply opv_E); exact rfl))))); ((apply vL_val); (case h => ((apply opv_add); exact rfl; exact rfl; (first | omega | (simp only [List.length_map]; omega))))); ((apply vL_val); (case h => ((apply opv_E); exact rfl))); apply vL_nil; (iterate 2 (apply blockP_normal)); apply seqP_normal; apply vC_region; ((apply vL_val); (case h => ((apply opv_E); exact rfl))); ((apply vL_val); (case h => ((apply opv_add); exact rfl; exact rfl; (first | omega | (simp only [List.length_map]; omega))))); ((apply vL_val); (case h => ((apply opv_E); exact rfl))); apply vL_nil; apply loopP_normal)
        (with_reducible apply end3); (case hs => (repeat (first | (with_reducible exact same_mask _ _ _) | with_reducible apply same_updN | ((with_reducible refine same_updO ?_ ?_); rotate_left; exact rfl) | ((with_reducible refine same_upd ?_ ?_); rotate_left; exact rfl) | ((with_reducible refine same_maskIn ?_ ?_); rotate_left; exact rfl)))); (case h1 => (first | exact norm_eq rfl | ((conv => lhs; whnf) <;> exact rfl))); (case h2 => (first | exact norm_eq rfl | ((conv => lhs; whnf) <;> exact rfl))); (case h3 => (first | exact norm_eq rfl | ((conv => lhs; whnf) <;> exact rfl)))
        · exact ⟨i + 1, en + n, m', _, _, _, _, rfl, rfl, by omega, S15, hI'⟩
        · simp [RowKit.intOf]; omega
    · rw [hv] at hj
      injection hj with e1 e2
      injection e2 with e2 e3
      subst e1; subst e2; subst e3
      have hrw := hW r hrm
      rw [hrf] at hrw
      (((apply vL_wanted); exact rfl); (iterate 3 (((apply vL_val); (case h => ((apply opv_E); exact rfl))))); apply vL_nil; apply seqP_normal; ((apply vC_cond_true); exact rfl); apply vC_seq; apply vC_region; ((apply vL_val); (case h => ((apply opv_move); ((conv => lhs; whnf) <;> exact rfl)))); ((apply vL_val); (case h => ((apply opv_loadbC); exact rfl; exact rfl; (first | assumption | infer_instance); (first | exact (rfl : _ = [_]) | exact (rfl : _ = [_, _]) | exact (rfl : _ = [_, _, _]) | exact (rfl : _ = [_, _, _, _]) | exact (rfl : _ = [_, _, _, _, _]) | exact (rfl : _ = [_, _, _, _, _, _]) | exact (rfl : _ = [_, _, _, _, _, _, _]) | exact (rfl : _ = [_, _, _, _, _, _, _, _]) | exact (rfl : _ = [_, _, _, _, _, _, _, _, _]) | exact (rfl : _ = [_, _, _, _, _, _, _, _, _, _]) | exact (rfl : _ = [_, _, _, _, _, _, _, _, _, _, _]) | exact (rfl : _ = [_, _, _, _, _, _, _, _, _, _, _, _])); exact rfl))))
      refine vL_val (opv_lookupOk (kE := k3E) (vE := ivE) (key := ((pid, ep, fi) : I3)) rfl rfl S8.a) ?_
      rw [hrw.1]
      ((iterate 5 (((apply vL_val); (case h => ((apply opv_E); exact rfl))))); apply vL_nil; apply seqP_normal; apply vC_seq; apply vC_region; ((apply vL_val); (case h => ((apply opv_E); exact rfl))); ((apply vL_val); (case h => ((apply opv_not); exact rfl))); ((apply vL_val); (case h => ((apply opv_E); exact rfl))); ((apply vL_wanted); exact rfl); ((apply vL_val); (case h => ((apply opv_E); exact rfl))); ((apply vL_wanted); exact rfl); ((apply vL_val); (case h => ((apply opv_E); exact rfl))); ((apply vL_wanted); exact rfl); (iterate 3 (((apply vL_val); (case h => ((apply opv_E); exact rfl))))); (refine vL_or rfl rfl (fun _ => ?_) (fun h => by omega)); ((apply vL_val); (case h => ((apply opv_move); ((conv => lhs; whnf) <;> exact rfl)))); ((apply vL_wanted); exact rfl); ((apply vL_val); (case h => ((apply opv_loadbC); exact rfl; exact rfl; (first | assumption | infer_instance); (first | exact (rfl : _ = [_]) | exact (rfl : _ = [_, _]) | exact (rfl : _ = [_, _, _]) | exact (rfl : _ = [_, _, _, _]) | exact (rfl : _ = [_, _, _, _, _]) | exact (rfl : _ = [_, _, _, _, _, _]) | exact (rfl : _ = [_, _, _, _, _, _, _]) | exact (rfl : _ = [_, _, _, _, _, _, _, _]) | exact (rfl : _ = [_, _, _, _, _, _, _, _, _]) | exact (rfl : _ = [_, _, _, _, _, _, _, _, _, _]) | exact (rfl : _ = [_, _, _, _, _, _, _, _, _, _, _]) | exact (rfl : _ = [_, _, _, _, _, _, _, _, _, _, _, _])); exact rfl))); ((apply vL_wanted); exact rfl))
      refine vL_val (opv_lookup' (kE := k3E) (vE := ivE) (key := ((pid, ep, fi) : I3)) rfl rfl S8.z (by rw [hrw.2, hrn])) ?_
      (((apply vL_wanted); exact rfl); ((apply vL_val); (case h => ((apply opv_E); exact rfl))); ((apply vL_wanted); exact rfl); (iterate 2 (((apply vL_val); (case h => ((apply opv_E); exact rfl))))); apply vL_nil; apply seqP_normal; (refine vC_cond_dec rfl (fun h => by omega) (fun _ => ?_)); apply vC_skip; (iterate 2 (apply blockP_normal)); apply seqP_normal; apply vC_region; ((apply vL_val); (case h => ((apply opv_E); exact rfl))); ((apply vL_val); (case h => ((apply opv_add); exact rfl; exact rfl; (first | omega | (simp only [List.length_map]; omega))))); ((apply vL_val); (case h => ((apply opv_E); exact rfl))); apply vL_nil; apply loopP_normal)
      (with_reducible apply end3); (case hs => (repeat (first | (with_reducible exact same_mask _ _ _) | with_reducible apply same_updN | ((with_reducible refine same_updO ?_ ?_); rotate_left; exact rfl) | ((with_reducible refine same_upd ?_ ?_); rotate_left; exact rfl) | ((with_reducible refine same_maskIn ?_ ?_); rotate_left; exact rfl)))); (case h1 => (first | exact norm_eq rfl | ((conv => lhs; whnf) <;> exact rfl))); (case h2 => (first | exact norm_eq rfl | ((conv => lhs; whnf) <;> exact rfl))); (case h3 => (first | exact norm_eq rfl | ((conv => lhs; whnf) <;> exact rfl)))
      · exact ⟨i + 1, en, m, N, Wm, Z, T, rfl, rfl, by omega, S8, I.more⟩
      · simp [RowKit.intOf]; omega
    · rw [hv] at hj
      injection hj with e1 e2
      injection e2 with e2 e3
      subst e1; subst e2; subst e3
      (((apply vL_unwanted'); exact rfl; exact rfl); (iterate 2 (((apply vL_val); (case h => ((apply opv_E); exact rfl))))); apply vL_nil; apply seqP_normal; ((apply vC_cond_false); exact rfl); apply vC_seq; apply vC_region; (iterate 3 (((apply vL_val); (case h => ((apply opv_E); exact rfl))))); apply vL_nil; apply seqP_normal; ((apply vC_cond_false); exact rfl); apply vC_seq; apply vC_region; (iterate 3 (((apply vL_val); (case h => ((apply opv_E); exact rfl))))); apply vL_nil; apply seqP_normal; ((apply vC_cond_true); exact rfl); apply vC_seq; apply vC_region; ((apply vL_val); (case h => ((apply opv_E); exact rfl))); ((apply vL_val); (case h => ((apply opv_move); ((conv => lhs; whnf) <;> exact rfl)))); (iterate 2 (((apply vL_val); (case h => ((apply opv_E); exact rfl))))); ((apply vL_val); (case h => ((apply opv_buildA); exact rfl; (first | exact (rfl : _ = some []) | exact (rfl : _ = some [_]) | exact (rfl : _ = some [_, _]) | exact (rfl : _ = some [_, _, _]) | exact (rfl : _ = some [_, _, _, _]) | exact (rfl : _ = some [_, _, _, _, _]) | exact (rfl : _ = some [_, _, _, _, _, _]) | exact (rfl : _ = some [_, _, _, _, _, _, _]) | exact (rfl : _ = some [_, _, _, _, _, _, _, _]) | exact (rfl : _ = some [_, _, _, _, _, _, _, _, _]) | exact (rfl : _ = some [_, _, _, _, _, _, _, _, _, _]) | exact (rfl : _ = some [_, _, _, _, _, _, _, _, _, _, _]) | exact (rfl : _ = some [_, _, _, _, _, _, _, _, _, _, _, _]) | exact (rfl : _ = some [_, _, _, _, _, _, _, _, _, _, _, _, _]) | exact (rfl : _ = some [_, _, _, _, _, _, _, _, _, _, _, _, _, _]) | exact (rfl : _ = some [_, _, _, _, _, _, _, _, _, _, _, _, _, _, _]) | exact (rfl : _ = some [_, _, _, _, _, _, _, _, _, _, _, _, _, _, _, _]))))))
      refine vL_val (opv_lookup' (kE := k2E) (vE := ivE) (key := ((pid, ep) : I2)) rfl rfl S8.n (hNv _ rfl)) ?_
      (((apply vL_val); (case h => ((apply opv_E); exact rfl))); apply vL_nil; apply seqP_normal; (refine vC_cond_dec rfl (fun h => by omega) (fun _ => ?_)); apply vC_skip; (iterate 2 (apply blockP_normal)); apply seqP_normal; apply vC_region; ((apply vL_val); (case h => ((apply opv_E); exact rfl))); ((apply vL_val); (case h => ((apply opv_add); exact rfl; exact rfl; (first | omega | (simp only [List.length_map]; omega))))); ((apply vL_val); (case h => ((apply opv_E); exact rfl))); apply vL_nil; apply loopP_normal)
      (with_reducible apply end3); (case hs => (repeat (first | (with_reducible exact same_mask _ _ _) | with_reducible apply same_updN | ((with_reducible refine same_updO ?_ ?_); rotate_left; exact rfl) | ((with_reducible refine same_upd ?_ ?_); rotate_left; exact rfl) | ((with_reducible refine same_maskIn ?_ ?_); rotate_left; exact rfl)))); (case h1 => (first | exact norm_eq rfl | ((conv => lhs; whnf) <;> exact rfl))); (case h2 => (first | exact norm_eq rfl | ((conv => lhs; whnf) <;> exact rfl))); (case h3 => (first | exact norm_eq rfl | ((conv => lhs; whnf) <;> exact rfl)))
      · exact ⟨i + 1, en, m, N, Wm, Z, T, rfl, rfl, by omega, S8, I.more⟩
      · simp [RowKit.intOf]; omega
    · rw [hv] at hj
      injection hj with e1 e2
      injection e2 with e2 e3
      subst e1; subst e2; subst e3
      (((apply vL_unwanted'); exact rfl; exact rfl); (iterate 2 (((apply vL_val); (case h => ((apply opv_E); exact rfl))))); apply vL_nil; apply seqP_normal; ((apply vC_cond_false); exact rfl); apply vC_seq; apply vC_region; (iterate 3 (((apply vL_val); (case h => ((apply opv_E); exact rfl))))); apply vL_nil; apply seqP_normal; ((apply vC_cond_false); exact rfl); apply vC_seq; apply vC_region; (iterate 3 (((apply vL_val); (case h => ((apply opv_E); exact rfl))))); apply vL_nil; apply seqP_normal; ((apply vC_cond_false); exact rfl); apply vC_seq; apply vC_region; (iterate 3 (((apply vL_val); (case h => ((apply opv_E); exact rfl))))); ((apply vL_wanted); exact rfl); ((apply vL_val); (case h => ((apply opv_E); exact rfl))); ((apply vL_wanted); exact rfl); ((apply vL_val); (case h => ((apply opv_move); ((conv => lhs; whnf) <;> exact rfl)))); ((apply vL_wanted); exact rfl); ((apply vL_val); (case h => ((apply opv_E); exact rfl))); ((apply vL_wanted); exact rfl); ((apply vL_val); (case h => ((apply opv_E); exact rfl))); ((apply vL_wanted); exact rfl); ((apply vL_val); (case h => ((apply opv_buildA); exact rfl; (first | exact (rfl : _ = some []) | exact (rfl : _ = some [_]) | exact (rfl : _ = some [_, _]) | exact (rfl : _ = some [_, _, _]) | exact (rfl : _ = some [_, _, _, _]) | exact (rfl : _ = some [_, _, _, _, _]) | exact (rfl : _ = some [_, _, _, _, _, _]) | exact (rfl : _ = some [_, _, _, _, _, _, _]) | exact (rfl : _ = some [_, _, _, _, _, _, _, _]) | exact (rfl : _ = some [_, _, _, _, _, _, _, _, _]) | exact (rfl : _ = some [_, _, _, _, _, _, _, _, _, _]) | exact (rfl : _ = some [_, _, _, _, _, _, _, _, _, _, _]) | exact (rfl : _ = some [_, _, _, _, _, _, _, _, _, _, _, _]) | exact (rfl : _ = some [_, _, _, _, _, _, _, _, _, _, _, _, _]) | exact (rfl : _ = some [_, _, _, _, _, _, _, _, _, _, _, _, _, _]) | exact (rfl : _ = some [_, _, _, _, _, _, _, _, _, _, _, _, _, _, _]) | exact (rfl : _ = some [_, _, _, _, _, _, _, _, _, _, _, _, _, _, _, _]))))); ((apply vL_wanted); exact rfl))
      refine vL_val (opv_lookup' (kE := k2E) (vE := ivE) (key := ((pid, ep) : I2)) rfl rfl S8.n (hNv _ rfl)) ?_
      (((apply vL_wanted); exact rfl); (iterate 3 (((apply vL_val); (case h => ((apply opv_E); exact rfl))))); apply vL_nil; apply seqP_normal; (refine vC_cond_dec rfl (fun h => by omega) (fun _ => ?_)); apply vC_skip; (iterate 2 (apply blockP_normal)); apply seqP_normal; apply vC_region; ((apply vL_val); (case h => ((apply opv_E); exact rfl))); ((apply vL_val); (case h => ((apply opv_add); exact rfl; exact rfl; (first | omega | (simp only [List.length_map]; omega))))); ((apply vL_val); (case h => ((apply opv_E); exact rfl))); apply vL_nil; apply loopP_normal)
      (with_reducible apply end3); (case hs => (repeat (first | (with_reducible exact same_mask _ _ _) | with_reducible apply same_updN | ((with_reducible refine same_updO ?_ ?_); rotate_left; exact rfl) | ((with_reducible refine same_upd ?_ ?_); rotate_left; exact rfl) | ((with_reducible refine same_maskIn ?_ ?_); rotate_left; exact rfl)))); (case h1 => (first | exact norm_eq rfl | ((conv => lhs; whnf) <;> exact rfl))); (case h2 => (first | exact norm_eq rfl | ((conv => lhs; whnf) <;> exact rfl))); (case h3 => (first | exact norm_eq rfl | ((conv => lhs; whnf) <;> exact rfl)))
      · exact ⟨i + 1, en, m, N, Wm, Z, T, rfl, rfl, by omega, S8, I.more⟩
      · simp [RowKit.intOf]; omega
end Go.Proofs.Ytffgecomdlnngaa
