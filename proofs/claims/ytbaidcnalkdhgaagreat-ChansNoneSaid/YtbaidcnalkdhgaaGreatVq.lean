/- Layer 16: the document's machine in memory. Layer 16: at a closed channel nobody waits: plain. Layer 16: the document's machine: tasks are begun. Layer 16: both worlds are begun. Layer 16: the chapter's example. Layer 16: the chapter's example: the walk. -/
import Derived.Test.YtbaidcnalkdhgaaGreatVj
set_option maxRecDepth 100000
namespace Go.Proofs.YtbaidcnalkdhgaaGreat
open Go Go.Eng
theorem _root_.Go.Eng.At.fld {α : Type} {qb TB T sz : Nat} {L : List Value} {enc : α → List Value} {v : Value} {xs : List α} {R : Asr} {w0 w : World} {F0 : Nat → Prop} [Lcl R] (S : At (Pt qb L TB * (Ow T sz enc v xs * R)) w0 F0 w) : Blk w.heap qb L TB ∧ Own w.heap T sz enc v xs ∧ v.oneCell' = true ∧
    ∀ (L' : List Value) v' xs' w', Fr (fun k => k = qb ∨ own v = some k) w w' → Blk w'.heap qb L' TB → Own w'.heap T sz enc v' xs' → v'.oneCell' = true → (∀ k, own v' = some k → own v = some k ∨ w.heap.size ≤ k) → At (Pt qb L' TB * (Ow T sz enc v' xs' * R)) w0 F0 w' := by
  have S1 := S.ac (show _ = (Pt qb L TB * Ow T sz enc v xs) * R by ac_rfl)
  obtain ⟨_, ⟨_, F2, ⟨F3, F4, ⟨hb, rfl⟩, ⟨ho, h1, rfl⟩, d1, rfl⟩, r, d, rfl⟩, hf, hn⟩ := S1.out
  refine ⟨hb, ho, h1, fun L' v' xs' w' hf' hb' ho' hone hl => ?_⟩
  have : At ((Pt qb L' TB * Ow T sz enc v' xs') * R) w0 F0 w' := by
    refine at_step (F1 := fun k => k = qb ∨ own v = some k) r d hf hn ?_
    refine ⟨_, ⟨_, _, ⟨hb', rfl⟩, ⟨ho', hone, rfl⟩, fun k e h => ?_, rfl⟩, hf', fun k hk => ?_⟩
    · subst e
      rcases hl k h with h2 | h2
      · exact d1 k rfl h2
      · have := hb.lt; omega
    · rcases hk with h | h
      · exact .inl (.inl h)
      · exact (hl k h).imp .inr id
  exact this.ac (by ac_rfl)
structure Wt where
  task : Int
  tk : Int
  which : Int
  v : Int
def wtE (x : Wt) : List Value := [.int .i64 x.task, .int .i64 x.tk, .int .i64 x.which, .int .i64 x.v]
instance encWt : EncOk wtE 4 := ⟨by intro x u h; simp [wtE] at h; rcases h with rfl | rfl | rfl | rfl <;> rfl, fun _ => rfl⟩
/-- a channel's row, with what its lists hold -/
structure RR where
  size : Int
  bv : OV
  sv : OV
  rv : OV
  closed : Bool
  buf : List Int
  snd : List Wt
  rcv : List Wt
def rrE (x : RR) : List Value := [.int .i64 x.size, x.bv.1, x.sv.1, x.rv.1, .bool x.closed]
instance encRR : EncOk rrE 5 := ⟨by intro x u h; simp [rrE] at h; rcases h with rfl | rfl | rfl | rfl | rfl <;> first | rfl | exact x.bv.2 | exact x.sv.2 | exact x.rv.2, fun _ => rfl⟩
def RrA (x : RR) : Asr := Ow 3 1 iE x.bv.1 x.buf * (Ow 271 4 wtE x.sv.1 x.snd * Ow 271 4 wtE x.rv.1 x.rcv)
instance instLclRrA (x : RR) : Lcl (RrA x) := by unfold RrA; infer_instance
def toE (x : To) : List Value := [.int .i64 x.c, .int .i64 x.v, .bool x.ok]
instance encTo : EncOk toE 3 := ⟨by intro x u h; simp [toE] at h; rcases h with rfl | rfl | rfl <;> rfl, fun _ => rfl⟩
structure RW where
  ch : List RR
  at_ : List Int
  to : List To
  ov : List Bool
  li : List Int
  ev : List Ev5
  fi : List Bool
  rest : Int
structure RV where
  ch : Value
  at_ : Value
  to : Value
  ov : Value
  li : Value
  ev : Value
  fi : Value
def rwL (vp : Value) (v : RV) (rest : Int) : List Value := [vp, v.ch, v.at_, v.to, v.ov, v.li, v.ev, v.fi, .int .i64 0, .slice none 0 0, .int .i64 0, .int .u64 rest]
def RwP (qb : Nat) (vp : Value) (v : RV) (T : RW) : Asr := Pt qb (rwL vp v T.rest) 97 * (Ow 125 5 rrE v.ch T.ch * (Ow 3 1 iE v.at_ T.at_ * (Ow 171 3 toE v.to T.to * (Ow 4 1 bE v.ov T.ov * (Ow 3 1 iE v.li T.li * (Ow 100 5 ev5 v.ev T.ev * (Ow 4 1 bE v.fi T.fi)))))))
instance instLclRwP (qb : Nat) (vp : Value) (v : RV) (T : RW) : Lcl (RwP qb vp v T) := by unfold RwP; infer_instance
def RwA (qb : Nat) (vp : Value) (T : RW) : Asr := Ex fun v : RV => RwP qb vp v T * Big (T.ch.map RrA)
instance instLclRwA (qb : Nat) (vp : Value) (T : RW) : Lcl (RwA qb vp T) := by unfold RwA; infer_instance
section
variable {w w0 : World} {F0 : Nat → Prop} {R : Asr} {qb : Nat} {vp : Value} {v : RV} {T : RW}
theorem rw_open (S : At (RwA qb vp T * R) w0 F0 w) : ∃ v, At (RwP qb vp v T * (Big (T.ch.map RrA) * R)) w0 F0 w := by
  unfold RwA at S
  obtain ⟨v, S⟩ := S.ex
  exact ⟨v, S.ac (star_assoc _ _ _)⟩
theorem rw_shut (S : At (RwP qb vp v T * (Big (T.ch.map RrA) * R)) w0 F0 w) : At (RwA qb vp T * R) w0 F0 w := by
  unfold RwA
  exact At.intro v (S.ac (star_assoc _ _ _).symm)
theorem rw_blk (S : At (RwP qb vp v T * R) w0 F0 w) : Blk w.heap qb (rwL vp v T.rest) 97 := by
  unfold RwP at S
  exact (S.ac (star_assoc _ _ _)).blk
theorem rw_ch [Lcl R] (S : At (RwP qb vp v T * R) w0 F0 w) : Own w.heap 125 5 rrE v.ch T.ch ∧ v.ch.oneCell' = true ∧ ∀ v' xs' w', Fr (fun k => k = qb ∨ own v.ch = some k) w w' → Blk w'.heap qb (rwL vp { v with ch := v' } T.rest) 97 → Own w'.heap 125 5 rrE v' xs' → v'.oneCell' = true → (∀ k, own v' = some k → own v.ch = some k ∨ w.heap.size ≤ k) → At (RwP qb vp { v with ch := v' } { T with ch := xs' } * R) w0 F0 w' := by
  obtain ⟨_, h1, h2, h3⟩ := (S.ac (show _ = Pt qb (rwL vp v T.rest) 97 * (Ow 125 5 rrE v.ch T.ch * (Ow 3 1 iE v.at_ T.at_ * (Ow 171 3 toE v.to T.to * (Ow 4 1 bE v.ov T.ov * (Ow 3 1 iE v.li T.li * (Ow 100 5 ev5 v.ev T.ev * (Ow 4 1 bE v.fi T.fi * R))))))) by unfold RwP; ac_rfl)).fld
  exact ⟨h1, h2, fun v' xs' w' a b c d e => (h3 _ v' xs' w' a b c d e).ac (by unfold RwP; dsimp only; ac_rfl)⟩
theorem rw_at_ [Lcl R] (S : At (RwP qb vp v T * R) w0 F0 w) : Own w.heap 3 1 iE v.at_ T.at_ ∧ v.at_.oneCell' = true ∧ ∀ v' xs' w', Fr (fun k => k = qb ∨ own v.at_ = some k) w w' → Blk w'.heap qb (rwL vp { v with at_ := v' } T.rest) 97 → Own w'.heap 3 1 iE v' xs' → v'.oneCell' = true → (∀ k, own v' = some k → own v.at_ = some k ∨ w.heap.size ≤ k) → At (RwP qb vp { v with at_ := v' } { T with at_ := xs' } * R) w0 F0 w' := by
  obtain ⟨_, h1, h2, h3⟩ := (S.ac (show _ = Pt qb (rwL vp v T.rest) 97 * (Ow 3 1 iE v.at_ T.at_ * (Ow 125 5 rrE v.ch T.ch * (Ow 171 3 toE v.to T.to * (Ow 4 1 bE v.ov T.ov * (Ow 3 1 iE v.li T.li * (Ow 100 5 ev5 v.ev T.ev * (Ow 4 1 bE v.fi T.fi * R))))))) by unfold RwP; ac_rfl)).fld
  exact ⟨h1, h2, fun v' xs' w' a b c d e => (h3 _ v' xs' w' a b c d e).ac (by unfold RwP; dsimp only; ac_rfl)⟩
theorem rw_to [Lcl R] (S : At (RwP qb vp v T * R) w0 F0 w) : Own w.heap 171 3 toE v.to T.to ∧ v.to.oneCell' = true ∧ ∀ v' xs' w', Fr (fun k => k = qb ∨ own v.to = some k) w w' → Blk w'.heap qb (rwL vp { v with to := v' } T.rest) 97 → Own w'.heap 171 3 toE v' xs' → v'.oneCell' = true → (∀ k, own v' = some k → own v.to = some k ∨ w.heap.size ≤ k) → At (RwP qb vp { v with to := v' } { T with to := xs' } * R) w0 F0 w' := by
  obtain ⟨_, h1, h2, h3⟩ := (S.ac (show _ = Pt qb (rwL vp v T.rest) 97 * (Ow 171 3 toE v.to T.to * (Ow 125 5 rrE v.ch T.ch * (Ow 3 1 iE v.at_ T.at_ * (Ow 4 1 bE v.ov T.ov * (Ow 3 1 iE v.li T.li * (Ow 100 5 ev5 v.ev T.ev * (Ow 4 1 bE v.fi T.fi * R))))))) by unfold RwP; ac_rfl)).fld
  exact ⟨h1, h2, fun v' xs' w' a b c d e => (h3 _ v' xs' w' a b c d e).ac (by unfold RwP; dsimp only; ac_rfl)⟩
theorem rw_ov [Lcl R] (S : At (RwP qb vp v T * R) w0 F0 w) : Own w.heap 4 1 bE v.ov T.ov ∧ v.ov.oneCell' = true ∧ ∀ v' xs' w', Fr (fun k => k = qb ∨ own v.ov = some k) w w' → Blk w'.heap qb (rwL vp { v with ov := v' } T.rest) 97 → Own w'.heap 4 1 bE v' xs' → v'.oneCell' = true → (∀ k, own v' = some k → own v.ov = some k ∨ w.heap.size ≤ k) → At (RwP qb vp { v with ov := v' } { T with ov := xs' } * R) w0 F0 w' := by
  obtain ⟨_, h1, h2, h3⟩ := (S.ac (show _ = Pt qb (rwL vp v T.rest) 97 * (Ow 4 1 bE v.ov T.ov * (Ow 125 5 rrE v.ch T.ch * (Ow 3 1 iE v.at_ T.at_ * (Ow 171 3 toE v.to T.to * (Ow 3 1 iE v.li T.li * (Ow 100 5 ev5 v.ev T.ev * (Ow 4 1 bE v.fi T.fi * R))))))) by unfold RwP; ac_rfl)).fld
  exact ⟨h1, h2, fun v' xs' w' a b c d e => (h3 _ v' xs' w' a b c d e).ac (by unfold RwP; dsimp only; ac_rfl)⟩
theorem rw_li [Lcl R] (S : At (RwP qb vp v T * R) w0 F0 w) : Own w.heap 3 1 iE v.li T.li ∧ v.li.oneCell' = true ∧ ∀ v' xs' w', Fr (fun k => k = qb ∨ own v.li = some k) w w' → Blk w'.heap qb (rwL vp { v with li := v' } T.rest) 97 → Own w'.heap 3 1 iE v' xs' → v'.oneCell' = true → (∀ k, own v' = some k → own v.li = some k ∨ w.heap.size ≤ k) → At (RwP qb vp { v with li := v' } { T with li := xs' } * R) w0 F0 w' := by
  obtain ⟨_, h1, h2, h3⟩ := (S.ac (show _ = Pt qb (rwL vp v T.rest) 97 * (Ow 3 1 iE v.li T.li * (Ow 125 5 rrE v.ch T.ch * (Ow 3 1 iE v.at_ T.at_ * (Ow 171 3 toE v.to T.to * (Ow 4 1 bE v.ov T.ov * (Ow 100 5 ev5 v.ev T.ev * (Ow 4 1 bE v.fi T.fi * R))))))) by unfold RwP; ac_rfl)).fld
  exact ⟨h1, h2, fun v' xs' w' a b c d e => (h3 _ v' xs' w' a b c d e).ac (by unfold RwP; dsimp only; ac_rfl)⟩
theorem rw_ev [Lcl R] (S : At (RwP qb vp v T * R) w0 F0 w) : Own w.heap 100 5 ev5 v.ev T.ev ∧ v.ev.oneCell' = true ∧ ∀ v' xs' w', Fr (fun k => k = qb ∨ own v.ev = some k) w w' → Blk w'.heap qb (rwL vp { v with ev := v' } T.rest) 97 → Own w'.heap 100 5 ev5 v' xs' → v'.oneCell' = true → (∀ k, own v' = some k → own v.ev = some k ∨ w.heap.size ≤ k) → At (RwP qb vp { v with ev := v' } { T with ev := xs' } * R) w0 F0 w' := by
  obtain ⟨_, h1, h2, h3⟩ := (S.ac (show _ = Pt qb (rwL vp v T.rest) 97 * (Ow 100 5 ev5 v.ev T.ev * (Ow 125 5 rrE v.ch T.ch * (Ow 3 1 iE v.at_ T.at_ * (Ow 171 3 toE v.to T.to * (Ow 4 1 bE v.ov T.ov * (Ow 3 1 iE v.li T.li * (Ow 4 1 bE v.fi T.fi * R))))))) by unfold RwP; ac_rfl)).fld
  exact ⟨h1, h2, fun v' xs' w' a b c d e => (h3 _ v' xs' w' a b c d e).ac (by unfold RwP; dsimp only; ac_rfl)⟩
theorem rw_fi [Lcl R] (S : At (RwP qb vp v T * R) w0 F0 w) : Own w.heap 4 1 bE v.fi T.fi ∧ v.fi.oneCell' = true ∧ ∀ v' xs' w', Fr (fun k => k = qb ∨ own v.fi = some k) w w' → Blk w'.heap qb (rwL vp { v with fi := v' } T.rest) 97 → Own w'.heap 4 1 bE v' xs' → v'.oneCell' = true → (∀ k, own v' = some k → own v.fi = some k ∨ w.heap.size ≤ k) → At (RwP qb vp { v with fi := v' } { T with fi := xs' } * R) w0 F0 w' := by
  obtain ⟨_, h1, h2, h3⟩ := (S.ac (show _ = Pt qb (rwL vp v T.rest) 97 * (Ow 4 1 bE v.fi T.fi * (Ow 125 5 rrE v.ch T.ch * (Ow 3 1 iE v.at_ T.at_ * (Ow 171 3 toE v.to T.to * (Ow 4 1 bE v.ov T.ov * (Ow 3 1 iE v.li T.li * (Ow 100 5 ev5 v.ev T.ev * R))))))) by unfold RwP; ac_rfl)).fld
  exact ⟨h1, h2, fun v' xs' w' a b c d e => (h3 _ v' xs' w' a b c d e).ac (by unfold RwP; dsimp only; ac_rfl)⟩
theorem rw_ones [Lcl R] (S : At (RwP qb vp v T * R) w0 F0 w) : v.ch.oneCell' = true ∧ v.at_.oneCell' = true ∧ v.to.oneCell' = true ∧ v.ov.oneCell' = true ∧ v.li.oneCell' = true ∧ v.ev.oneCell' = true ∧ v.fi.oneCell' = true :=
  ⟨(rw_ch S).2.1, (rw_at_ S).2.1, (rw_to S).2.1, (rw_ov S).2.1, (rw_li S).2.1, (rw_ev S).2.1, (rw_fi S).2.1⟩
end
end Go.Proofs.YtbaidcnalkdhgaaGreat
set_option maxRecDepth 100000
namespace Go.Proofs.YtbaidcnalkdhgaaGreat
open Go Go.Eng
section
variable {κ : Type}
def NoW (S : PS κ) : Prop := ∀ (j : Nat) d, S.cs[j]? = some d → d.closed = true → d.snd = [] ∧ d.rcv = []
variable {S T : PS κ} {i j m : Nat}
theorem NoW.same (h : NoW S) (e : T.cs = S.cs) : NoW T := fun j d hd => h j d (e ▸ hd)
theorem NoW.setC (h : NoW S) (j : Nat) {d' : C16} (hd' : d'.closed = true → d'.snd = [] ∧ d'.rcv = []) : NoW (S.setC j d') := fun i d hd => by
  have hd : (S.cs.set j d')[i]? = some d := hd
  by_cases e : i = j
  · subst e
    by_cases hl : i < S.cs.length
    · rw [List.getElem?_set_self hl] at hd
      cases hd
      exact hd'
    · rw [List.getElem?_eq_none (by simpa using hl)] at hd; cases hd
  · rw [List.getElem?_set_ne (Ne.symm e)] at hd
    exact h i d hd
theorem wokeS_cs (S : PS κ) (m : Nat) (ok : Bool) : (S.wokeS m ok).cs = S.cs := by
  unfold PS.wokeS; split <;> rfl
theorem wokeR_cs (S : PS κ) (m : Nat) (v : Int) (ok : Bool) : (S.wokeR m v ok).cs = S.cs := by
  unfold PS.wokeR; split <;> rfl
theorem allR_cs (l : List Nat) : ∀ (S : PS κ), (S.allR l).cs = S.cs := by
  induction l with
  | nil => exact fun S => rfl
  | cons m r ih => exact fun S => (ih _).trans (wokeR_cs S m 0 false)
theorem allS_cs (l : List Nat) : ∀ (S : PS κ), (S.allS l).cs = S.cs := by
  induction l with
  | nil => exact fun S => rfl
  | cons m r ih => exact fun S => (ih _).trans (wokeS_cs S m false)
theorem NoW.trySend (h : NoW S) (j : Nat) (v : Int) : NoW (S.trySend j v).1 := by
  unfold PS.trySend
  split
  · exact h
  · rename_i d hd
    split
    · exact h
    · rename_i hcl
      split
      · rename_i m r _
        exact (h.setC j (d' := { d with rcv := r }) (fun hc => absurd hc hcl)).same (wokeR_cs _ _ _ _)
      · split
        · exact h
        · exact h.setC j (fun hc => absurd hc hcl)
theorem NoW.tryRecv (h : NoW S) (j : Nat) : NoW (S.tryRecv j).1 := by
  unfold PS.tryRecv
  split
  · exact h
  · rename_i d hd
    split
    · rename_i m r hr
      refine (h.setC j (d' := { d with buf := rbuf d.buf (S.valS m), snd := r }) (fun hc => ?_)).same (wokeS_cs _ _ _)
      have := (h j d hd hc).1
      rw [hr] at this; cases this
    · rename_i hr
      exact h.setC j (fun hc => ⟨hr, (h j d hd hc).2⟩)
theorem close_cs {d : C16} (hd : S.cs[j]? = some d) (hc : d.closed = false) : (S.close j).1.cs = S.cs.set j { d with closed := true, snd := [], rcv := [] } := by
  unfold PS.close
  simp only [hd]
  rw [if_neg (by rw [hc]; simp)]
  unfold PS.ends
  rw [allS_cs, allR_cs]
  rfl
theorem NoW.close (h : NoW S) (j : Nat) : NoW (S.close j).1 := by
  cases hd : S.cs[j]? with
  | none => unfold PS.close; simp only [hd]; exact h
  | some d =>
    cases hc : d.closed with
    | true => unfold PS.close; simp only [hd]; rw [if_pos hc]; exact h
    | false => exact (h.setC j (d' := { d with closed := true, snd := [], rcv := [] }) (fun _ => ⟨rfl, rfl⟩)).same (close_cs hd hc)
theorem NoW.send (h : NoW S) (i j : Nat) (v : Int) (k : κ) : NoW (S.send i j v k) := by
  unfold PS.send
  simp only []
  split
  · exact (h.trySend j v).same rfl
  · rename_i hn
    split
    · exact h
    · rename_i d hd
      have hcl := (trySend_no hd (by simpa using hn)).2.1
      exact (h.setC j (d' := { d with snd := d.snd ++ [i] }) (fun hc => by rw [show ({ d with snd := d.snd ++ [i] } : C16).closed = d.closed from rfl, hcl] at hc; cases hc)).same rfl
theorem NoW.recv (h : NoW S) (i j : Nat) (k : κ) : NoW (S.recv i j k) := by
  unfold PS.recv
  simp only []
  split
  · exact (h.tryRecv j).same rfl
  · rename_i hn
    split
    · exact h
    · rename_i d hd
      have hcl := (tryRecv_no hd (by simpa using hn)).2.1
      exact (h.setC j (d' := { d with rcv := d.rcv ++ [i] }) (fun hc => by rw [show ({ d with rcv := d.rcv ++ [i] } : C16).closed = d.closed from rfl, hcl] at hc; cases hc)).same rfl
theorem NoW.endTurn (h : NoW S) (i : Nat) : NoW (S.endTurn i) := by
  unfold PS.endTurn; split <;> exact h.same rfl
/-- after a close -/
theorem close_done (h : NoW S) {d : C16} (hd : S.cs[j]? = some d) : ∃ d', (S.close j).1.cs[j]? = some d' ∧ d'.closed = true ∧ d'.snd = [] ∧ d'.rcv = [] ∧ d'.buf = d.buf ∧ d'.cb = d.cb := by
  cases hc : d.closed with
  | true =>
    obtain ⟨h1, h2⟩ := h j d hd hc
    refine ⟨d, ?_, hc, h1, h2, rfl, rfl⟩
    unfold PS.close; simp only [hd]; rw [if_pos hc]; exact hd
  | false =>
    refine ⟨{ d with closed := true, snd := [], rcv := [] }, ?_, rfl, rfl, rfl, rfl, rfl⟩
    rw [close_cs hd hc, List.getElem?_set_self (List.getElem?_eq_some_iff.1 hd).1]
theorem close_told {d : C16} (hd : S.cs[j]? = some d) : (S.close j).2 = !d.closed := by
  unfold PS.close; simp only [hd]; split <;> simp_all
theorem trySend_closed {d : C16} (hd : S.cs[j]? = some d) (hc : d.closed = true) (v : Int) : S.trySend j v = (S, false, true) := by
  unfold PS.trySend; simp only [hd]; rw [if_pos hc]
theorem tryRecv_left {d : C16} (hd : S.cs[j]? = some d) (hs : d.snd = []) : S.tryRecv j = (S.setC j { d with buf := d.buf.tail }, d.buf.headD 0, !d.buf.isEmpty, !d.buf.isEmpty || d.closed) := by
  unfold PS.tryRecv; simp only [hd]; rw [hs]
end
theorem NoW.act {S : PS K16} (h : NoW S) (i tb prog pos : Nat) (d : Do5) : NoW (act16 S i tb prog pos d) := by
  unfold act16
  split
  · exact h.same rfl
  split
  · exact h.send _ _ _ _
  split
  · exact h.recv _ _ _
  split
  · exact (h.close _).same rfl
  split
  · exact (h.trySend _ _).same rfl
  split
  · exact (h.tryRecv _).same rfl
  · exact h
theorem NoW.step {P : List (List Do5)} {T T' : T16} {p : Int} (h : NoW T.1) (hs : step16 P T p = some T') : NoW T'.1 := by
  unfold step16 at hs
  split at hs
  · cases hs
  · split at hs
    · cases hs
    · split at hs
      · cases hs
      · cases hs
        exact ((NoW.same (T := T.1.start _ _) h rfl).act _ _ _ _ _).endTurn _
end Go.Proofs.YtbaidcnalkdhgaaGreat
set_option maxRecDepth 100000
namespace Go.Proofs.YtbaidcnalkdhgaaGreat
open Go Go.Eng
def rwI (ch : List RR) (k : Nat) : RW := ⟨ch, List.replicate k 0, List.replicate k ⟨0, 0, false⟩, List.replicate k false, (List.range k).map fun (n : Nat) => (n : Int), [], [], 0⟩
section
variable {w w0 : World} {R : Asr} {qb : Nat} {vp : Value} {ch : List RR}
theorem rf_spawn [Lcl R] {P : List (OV × List Do5)} (z : Pz16 w0.heap vp P) (hP6 : P.length ≤ 6) (S : At (RwA qb vp (rwI ch 0) * R) w0 No w) :
    Rets Tryz.prog 109 #[pt qb] w fun _ w' => At (RwA qb vp (rwI ch P.length) * R) w0 No w' := by
  obtain ⟨va, vc, hvp⟩ := z.hP.len
  have hv1 := z.one
  refine rets_of Tryz.func109 rfl Tryz.ntmps109 rfl rfl (by kernel_rfl) ?_
  (apply vC_seq; apply vC_region; ((apply vL_val); (case h => ((apply opv_E); exact rfl))); apply vL_nil; apply seqP_normal; apply vC_block)
  (apply vC_loop1 1125899906842620 2 (fun u w' => ∃ k : Nat, u = .int .i64 (k : Int) ∧ k ≤ P.length ∧ At (RwA qb vp (rwI ch k) * R) w0 No w') (fun u _ => P.length - (RowKit.intOf u).toNat)); (case h1 => (exact norm_eq rfl))
  case h0 => exact ⟨0, rfl, Nat.zero_le _, S⟩
  clear S
  case round =>
  rintro junk _ w1 ⟨k, rfl, hk, S⟩
  obtain ⟨v, S⟩ := rw_open S
  have hb := rw_blk S
  rw [rwL, hvp] at hb
  have hones := rw_ones S
  obtain ⟨g1, g2, g3, g4, g5, g6, g7⟩ := hones
  by_cases hlt : k < P.length
  · ((iterate 2 (apply vC_seq)); apply vC_region; (iterate 3 (((apply vL_val); (case h => ((apply opv_E); exact rfl))))); ((apply vL_val); (case h => ((apply opv_fieldAddr); exact rfl))); ((apply vL_val); (case h => ((apply opv_loadb1); exact rfl; exact rfl; assumption; exact rfl))); ((apply vL_val); (case h => ((apply opv_lenc); exact rfl))); ((apply vL_val); (case h => ((apply opv_E); exact rfl))); apply vL_nil; apply seqP_normal; (refine vC_cond_dec rfl (fun _ => ?_) (fun h => by omega)); apply vC_skip; apply seqP_normal; apply vC_seq; apply vC_block; apply vC_seq; apply vC_region; (iterate 3 (((apply vL_val); (case h => ((apply opv_E); exact rfl))))); ((apply vL_val); (case h => ((apply opv_fieldAddr); exact rfl))); ((apply vL_val); (case h => ((apply opv_loadb1); exact rfl; exact rfl; assumption; exact rfl))); ((apply vL_val); (case h => ((apply opw_buildSl); exact rfl; exact rfl; exact rfl; exact (rfl : _ = some [_])))))
    have hl0 : ∀ k, (rwI ch k).at_.length = k ∧ (rwI ch k).to.length = k ∧ (rwI ch k).ov.length = k ∧ (rwI ch k).li.length = k := fun k => by simp [rwI]
    generalize hA : rwI ch k = A at *
    have hl : A.at_.length = k ∧ A.to.length = k ∧ A.ov.length = k ∧ A.li.length = k := hA ▸ hl0 k
    obtain ⟨l1, l2, l3, l4⟩ := hl
    obtain ⟨o, oo, up⟩ := rw_at_ S
    refine vL_append (enc := iE) (xs := A.at_) (ys := [(0 : Int)]) (T := 3) (sz := 1) (by (((conv => lhs; whnf) <;> exact rfl))) (by (exact norm_eq rfl)) (Own.alloc o) (Rd.new1 _ _ rfl) rfl (by decide) ?_ ?_ ?_
    · simp [maxLen, l1]; omega
    · simp [l1]; omega
    intro v' w2 ho hf hfr hone _
    have hfa : Fr (fun j => own v.at_ = some j) w1 w2 := ((Fr.refl _ w1).alloc _).trans' hf (fun i hi => .inl hi)
    have hb2 := hb.fr hfa (fun h => Own.ne_blk o hb (by decide) h)
    ((((apply vL_val); (case h => ((apply opv_E); exact rfl))); ((apply vL_val); (case h => ((apply opv_fieldAddr); exact rfl))); ((apply vL_skip); (case h => ((apply ops_store1); exact norm_eq rfl; ((conv => lhs; whnf) <;> exact rfl); (first | rfl | assumption); assumption; (first | decide | exact of_decide_eq_true rfl | (simp; done))))); apply vL_nil))
    (first | with_reducible apply seqP_normal | (with_reducible apply blockP_normal; with_reducible apply seqP_normal))
    refine vC_gen (fun w' => At (RwP qb vp { v with at_ := v' } { A with at_ := A.at_ ++ [(0 : Int)] } * (Big (A.ch.map RrA) * R)) w0 No w') (up v' _ _ ((hfa.mono (fun k _ h => .inr h)).set _ _ (.inl (.inl rfl))) (Blk.as (Blk.set hb2) (by rw [rwL, hvp]; rfl)) (ho.set (Own.ne_blk ho hb2 (by decide))) hone (fun k hk => (hfr k hk).imp id (fun h => by rw [alloc_size] at h; omega))) ?_
    clear S up o oo ho hf hfr hfa hb hb2 g1 g2 g3 g4 g5 g6 g7
    generalize ({ v with at_ := v' } : RV) = v1
    generalize hA1 : ({ A with at_ := A.at_ ++ [(0 : Int)] } : RW) = A1
    intro w3 S
    have hb := rw_blk S
    rw [rwL, hvp] at hb
    have hones := rw_ones S
    obtain ⟨g1, g2, g3, g4, g5, g6, g7⟩ := hones
    (apply vC_seq; apply vC_region; (iterate 3 (((apply vL_val); (case h => ((apply opv_E); exact rfl))))); ((apply vL_val); (case h => ((apply opv_fieldAddr); exact rfl))); ((apply vL_val); (case h => ((apply opv_loadb1); exact rfl; exact rfl; assumption; exact rfl))); ((apply vL_val); (case h => ((apply opv_buildS); exact rfl; exact (rfl : _ = some [_, _, _])))); ((apply vL_val); (case h => ((apply opw_buildSl); exact rfl; exact rfl; exact rfl; exact (rfl : _ = some [_, _, _])))))
    obtain ⟨o, oo, up⟩ := rw_to S
    refine vL_append (enc := toE) (xs := A1.to) (ys := [(⟨0, 0, false⟩ : To)]) (T := 171) (sz := 3) (by (((conv => lhs; whnf) <;> exact rfl))) (by (exact norm_eq rfl)) (Own.alloc o) (Rd.new1 _ _ rfl) rfl (by decide) ?_ ?_ ?_
    · simp [maxLen, ← hA1, l2]; omega
    · simp [← hA1, l2]; omega
    intro v' w2 ho hf hfr hone _
    have hfa : Fr (fun j => own v1.to = some j) w3 w2 := ((Fr.refl _ w3).alloc _).trans' hf (fun i hi => .inl hi)
    have hb2 := hb.fr hfa (fun h => Own.ne_blk o hb (by decide) h)
    ((((apply vL_val); (case h => ((apply opv_E); exact rfl))); ((apply vL_val); (case h => ((apply opv_fieldAddr); exact rfl))); ((apply vL_skip); (case h => ((apply ops_store1); exact norm_eq rfl; ((conv => lhs; whnf) <;> exact rfl); (first | rfl | assumption); assumption; (first | decide | exact of_decide_eq_true rfl | (simp; done))))); apply vL_nil))
    (first | with_reducible apply seqP_normal | (with_reducible apply blockP_normal; with_reducible apply seqP_normal))
    refine vC_gen (fun w' => At (RwP qb vp { v1 with to := v' } { A1 with to := A1.to ++ [(⟨0, 0, false⟩ : To)] } * (Big (A.ch.map RrA) * R)) w0 No w') (up v' _ _ ((hfa.mono (fun k _ h => .inr h)).set _ _ (.inl (.inl rfl))) (Blk.as (Blk.set hb2) (by rw [rwL, hvp]; rfl)) (ho.set (Own.ne_blk ho hb2 (by decide))) hone (fun k hk => (hfr k hk).imp id (fun h => by rw [alloc_size] at h; omega))) ?_
    clear S up o oo ho hf hfr hfa hb hb2 g1 g2 g3 g4 g5 g6 g7
    generalize ({ v1 with to := v' } : RV) = v11
    generalize hA11 : ({ A1 with to := A1.to ++ [(⟨0, 0, false⟩ : To)] } : RW) = A11
    intro w4 S
    have hb := rw_blk S
    rw [rwL, hvp] at hb
    have hones := rw_ones S
    obtain ⟨g1, g2, g3, g4, g5, g6, g7⟩ := hones
    (apply vC_seq; apply vC_region; (iterate 3 (((apply vL_val); (case h => ((apply opv_E); exact rfl))))); ((apply vL_val); (case h => ((apply opv_fieldAddr); exact rfl))); ((apply vL_val); (case h => ((apply opv_loadb1); exact rfl; exact rfl; assumption; exact rfl))); ((apply vL_val); (case h => ((apply opw_buildSl); exact rfl; exact rfl; exact rfl; exact (rfl : _ = some [_])))))
    obtain ⟨o, oo, up⟩ := rw_ov S
    refine vL_append (enc := bE) (xs := A11.ov) (ys := [false]) (T := 4) (sz := 1) (by (((conv => lhs; whnf) <;> exact rfl))) (by (exact norm_eq rfl)) (Own.alloc o) (Rd.new1 _ _ rfl) rfl (by decide) ?_ ?_ ?_
    · simp [maxLen, ← hA11, ← hA1, l3]; omega
    · simp [← hA11, ← hA1, l3]; omega
    intro v' w2 ho hf hfr hone _
    have hfa : Fr (fun j => own v11.ov = some j) w4 w2 := ((Fr.refl _ w4).alloc _).trans' hf (fun i hi => .inl hi)
    have hb2 := hb.fr hfa (fun h => Own.ne_blk o hb (by decide) h)
    ((((apply vL_val); (case h => ((apply opv_E); exact rfl))); ((apply vL_val); (case h => ((apply opv_fieldAddr); exact rfl))); ((apply vL_skip); (case h => ((apply ops_store1); exact norm_eq rfl; ((conv => lhs; whnf) <;> exact rfl); (first | rfl | assumption); assumption; (first | decide | exact of_decide_eq_true rfl | (simp; done))))); apply vL_nil))
    (first | with_reducible apply seqP_normal | (with_reducible apply blockP_normal; with_reducible apply seqP_normal))
    refine vC_gen (fun w' => At (RwP qb vp { v11 with ov := v' } { A11 with ov := A11.ov ++ [false] } * (Big (A.ch.map RrA) * R)) w0 No w') (up v' _ _ ((hfa.mono (fun k _ h => .inr h)).set _ _ (.inl (.inl rfl))) (Blk.as (Blk.set hb2) (by rw [rwL, hvp]; rfl)) (ho.set (Own.ne_blk ho hb2 (by decide))) hone (fun k hk => (hfr k hk).imp id (fun h => by rw [alloc_size] at h; omega))) ?_
    clear S up o oo ho hf hfr hfa hb hb2 g1 g2 g3 g4 g5 g6 g7
    generalize ({ v11 with ov := v' } : RV) = v111
    generalize hA111 : ({ A11 with ov := A11.ov ++ [false] } : RW) = A111
    intro w5 S
    have hb := rw_blk S
    rw [rwL, hvp] at hb
    have hones := rw_ones S
    obtain ⟨g1, g2, g3, g4, g5, g6, g7⟩ := hones
    (apply vC_region; (iterate 3 (((apply vL_val); (case h => ((apply opv_E); exact rfl))))); ((apply vL_val); (case h => ((apply opv_fieldAddr); exact rfl))); ((apply vL_val); (case h => ((apply opv_loadb1); exact rfl; exact rfl; assumption; exact rfl))); ((apply vL_val); (case h => ((apply opv_E); exact rfl))); ((apply vL_val); (case h => ((apply opw_buildSl); exact rfl; exact rfl; exact rfl; exact (rfl : _ = some [_])))))
    obtain ⟨o, oo, up⟩ := rw_li S
    refine vL_append (enc := iE) (xs := A111.li) (ys := [(k : Int)]) (T := 3) (sz := 1) (by (((conv => lhs; whnf) <;> exact rfl))) (by (exact norm_eq rfl)) (Own.alloc o) (Rd.new1 _ _ rfl) rfl (by decide) ?_ ?_ ?_
    · simp [maxLen, ← hA111, ← hA11, ← hA1, l4]; omega
    · simp [← hA111, ← hA11, ← hA1, l4]; omega
    intro v' w2 ho hf hfr hone _
    have hfa : Fr (fun j => own v111.li = some j) w5 w2 := ((Fr.refl _ w5).alloc _).trans' hf (fun i hi => .inl hi)
    have hb2 := hb.fr hfa (fun h => Own.ne_blk o hb (by decide) h)
    ((((apply vL_val); (case h => ((apply opv_E); exact rfl))); ((apply vL_val); (case h => ((apply opv_fieldAddr); exact rfl))); ((apply vL_skip); (case h => ((apply ops_store1); exact norm_eq rfl; ((conv => lhs; whnf) <;> exact rfl); (first | rfl | assumption); assumption; (first | decide | exact of_decide_eq_true rfl | (simp; done))))); apply vL_nil))
    (first | with_reducible apply seqP_normal | (with_reducible apply blockP_normal; with_reducible apply seqP_normal))
    refine vC_gen (fun w' => At (RwP qb vp { v111 with li := v' } { A111 with li := A111.li ++ [(k : Int)] } * (Big (A.ch.map RrA) * R)) w0 No w') (up v' _ _ ((hfa.mono (fun k _ h => .inr h)).set _ _ (.inl (.inl rfl))) (Blk.as (Blk.set hb2) (by rw [rwL, hvp]; rfl)) (ho.set (Own.ne_blk ho hb2 (by decide))) hone (fun k hk => (hfr k hk).imp id (fun h => by rw [alloc_size] at h; omega))) ?_
    clear S up o oo ho hf hfr hfa hb hb2 g1 g2 g3 g4 g5 g6 g7
    generalize ({ v111 with li := v' } : RV) = v1111
    generalize hA1111 : ({ A111 with li := A111.li ++ [(k : Int)] } : RW) = A1111
    intro w6 S
    have hb := rw_blk S
    rw [rwL, hvp] at hb
    have hones := rw_ones S
    obtain ⟨g1, g2, g3, g4, g5, g6, g7⟩ := hones
    have hfin : A1111 = rwI ch (k + 1) := by
      rw [← hA1111, ← hA111, ← hA11, ← hA1, ← hA]
      simp [rwI, List.replicate_succ', List.range_succ]
    have hch : (rwI ch (k + 1)).ch = A.ch := by rw [← hA]; rfl
    rw [hfin] at S
    rw [← hch] at S
    (apply vC_region; ((apply vL_val); (case h => ((apply opv_E); exact rfl))); ((apply vL_val); (case h => ((apply opv_add); exact rfl; exact rfl; (first | omega | (simp only [List.length_map]; omega))))); ((apply vL_val); (case h => ((apply opv_E); exact rfl))); apply vL_nil; apply loopP_normal)
    (with_reducible apply end1); (case hs => ((iterate 52 (first | with_reducible apply same_updN | ((with_reducible refine same_updO ?_ ?_); rotate_left; exact rfl))); ((refine same_upd ?_ ?_); rotate_left; exact rfl); (exact same_mask _ _ _))); (case h1 => (exact norm_eq rfl))
    · exact ⟨k + 1, rfl, by omega, rw_shut S⟩
    · simp [RowKit.intOf]; omega
  · ((iterate 2 (apply vC_seq)); apply vC_region; (iterate 3 (((apply vL_val); (case h => ((apply opv_E); exact rfl))))); ((apply vL_val); (case h => ((apply opv_fieldAddr); exact rfl))); ((apply vL_val); (case h => ((apply opv_loadb1); exact rfl; exact rfl; assumption; exact rfl))); ((apply vL_val); (case h => ((apply opv_lenc); exact rfl))); ((apply vL_val); (case h => ((apply opv_E); exact rfl))); apply vL_nil; apply seqP_normal; (refine vC_cond_dec rfl (fun h => by omega) (fun _ => ?_)); apply vC_exit; apply seqP_exit; apply loopP_exit; apply blockP_exit)
    (first | apply ret0 | apply ret0n)
    have e : k = P.length := by omega
    subst e
    exact rw_shut S
end
end Go.Proofs.YtbaidcnalkdhgaaGreat
set_option maxRecDepth 100000
namespace Go.Proofs.YtbaidcnalkdhgaaGreat
open Go Go.Eng
def c16 (x : Nat × Int) : C16 := ⟨x.1, x.2, [], [], [], false⟩
def row0 (s : Int) : RR := ⟨s, ⟨.slice none 0 0, rfl⟩, ⟨.slice none 0 0, rfl⟩, ⟨.slice none 0 0, rfl⟩, false, [], [], []⟩
def born16 (tl : List Nat) : List (St K16) := tl.mapIdx fun i t => .rdyY ⟨t, i, 0, ⟨0, 0, false⟩⟩
def ps0 (cl : List (Nat × Int)) (tl : List Nat) : PS K16 := ⟨born16 tl, tl, cl.map c16, (List.range tl.length).map fun (n : Nat) => (n : Int)⟩
theorem rrA0 (s : Int) : RrA (row0 s) = Emp := by
  have e : ∀ {α : Type} (T sz : Nat) (enc : α → List Value), Ow T sz enc (.slice none 0 0) ([] : List α) = Emp := fun {α} T sz enc => Asr.ext fun h F => ⟨fun x => x.2.2.trans (funext fun k => propext ⟨fun h => (by cases h), fun h => h.elim⟩), fun x => ⟨Own.nil _ _ _ _, rfl, Eq.trans (show F = No from x) (funext fun k => propext ⟨fun h => h.elim, fun h => (by cases h)⟩)⟩⟩
  unfold RrA row0
  simp only [e, star_emp]
theorem bigRow0 (l : List Int) : Big ((l.map row0).map RrA) = Emp := by
  induction l with
  | nil => rfl
  | cons s r ih => show RrA (row0 s) * Big ((r.map row0).map RrA) = Emp; rw [rrA0, ih, star_emp]
theorem readyL_push {l : List Int} {i : Nat} (h : (i : Int) ∉ l) (hl : l.length < 256) : readyL l i = l ++ [(i : Int)] := by
  unfold readyL
  rw [if_neg (by omega), if_neg h, if_neg (by omega)]
theorem ps0_addT (cl : List (Nat × Int)) (tl : List Nat) (tb : Nat) (ht : tl.length ≤ 100) : (ps0 cl tl).addT tb ⟨tb, tl.length, 0, ⟨0, 0, false⟩⟩ = ps0 cl (tl ++ [tb]) := by
  unfold PS.addT ps0 born16
  simp only [List.length_mapIdx, List.mapIdx_append, List.length_append, List.length_singleton, List.range_succ, List.map_append, List.map_cons, List.map_nil]
  rw [readyL_push (by simp; omega) (by simp; omega)]
  simp
def nil7 : RV := ⟨.slice none 0 0, .slice none 0 0, .slice none 0 0, .slice none 0 0, .slice none 0 0, .slice none 0 0, .slice none 0 0⟩
theorem rw_nil {w0 w : World} {F0 : Nat → Prop} {R : Asr} {qb : Nat} {vp : Value} (S : At (Pt qb (rwL vp nil7 0) 97 * R) w0 F0 w) : At (RwA qb vp (rwI [] 0) * R) w0 F0 w := by
  refine rw_shut (v := nil7) ?_
  have h := At.nil 125 5 rrE (At.nil 3 1 iE (At.nil 171 3 toE (At.nil 4 1 bE (At.nil 3 1 iE (At.nil 100 5 ev5 (At.nil 4 1 bE S))))))
  refine h.ac ?_
  show _ = RwP qb vp nil7 ⟨[], [], [], [], [], [], [], 0⟩ * (Emp * R)
  rw [emp_star]
  unfold RwP nil7
  dsimp only
  ac_rfl
theorem wa_nil {w0 w : World} {F0 : Nat → Prop} {R : Asr} {wb rb : Nat} {vp : Value} (S : At (Pt wb [pt rb, vp, .slice none 0 0, .slice none 0 0, .slice none 0 0, .bool false] 61 * R) w0 F0 w) : At (WA wb rb vp [] [] [] false * R) w0 F0 w := by
  have h := At.nil 28 1 ptE (At.nil 34 1 ptE (At.nil 100 5 ev5 S))
  exact wa_shut (h.ac (by ac_rfl))
theorem rw_chown {w0 w : World} {F0 : Nat → Prop} {R : Asr} {qb : Nat} {vp : Value} {v : RV} {T : RW} (S : At (RwP qb vp v T * R) w0 F0 w) : ∀ k, own v.ch = some k → F0 k ∨ w0.heap.size ≤ k := fun k hk => by
  unfold RwP at S
  have h1 : At (Ow 125 5 rrE v.ch T.ch * (Pt qb (rwL vp v T.rest) 97 * (Ow 3 1 iE v.at_ T.at_ * (Ow 171 3 toE v.to T.to * (Ow 4 1 bE v.ov T.ov * (Ow 3 1 iE v.li T.li * (Ow 100 5 ev5 v.ev T.ev * (Ow 4 1 bE v.fi T.fi * R)))))))) w0 F0 w := S.ac (by ac_rfl)
  obtain ⟨_, ⟨F1, F2, ⟨a, b, rfl⟩, r, d, rfl⟩, hf, hn⟩ := h1.out
  exact hn k (.inl hk)
section
variable {w : World}
theorem begun16 {vp vs : Value} {P : List (OV × List Do5)} {sizes : List Int} (z : Pz16 w.heap vp P) (hP6 : P.length ≤ 6) (hs : Rd w.heap 1 iE vs sizes) (hs6 : sizes.length ≤ 6) (hsz : ∀ x ∈ sizes, 0 ≤ x ∧ x ≤ 64) (hso : vs.oneCell' = true) :
    Rets Tryz.prog 30 #[vp, vs] w fun u w' => ∃ wb qb rb cl tl kb, u = .tuple #[pt wb, pt qb] ∧ cl.map (·.2) = sizes ∧ tl.length = P.length ∧ At (PWA (L16 wb) rb none 0 kb (ps0 cl tl) * (WA wb rb vp (cl.map (·.1)) tl [] false * RwA qb vp (rwI (sizes.map row0) P.length))) w No w' := by
  have hv1 := z.one
  have hPs := z.hP.small
  have hss := hs.small
  obtain ⟨va, vc, rfl⟩ := z.hP.len
  obtain ⟨sa, sc, rfl⟩ := hs.len
  refine rets_of Tryz.func30 rfl Tryz.ntmps30 rfl rfl (by kernel_rfl) ?_
  (apply vC_seq; apply vC_region; (iterate 2 (((apply vL_val); (case h => ((apply opv_E); exact rfl))))); apply vL_nil; apply seqP_normal; apply vC_seq; apply vC_region)
  refine vL_callF rfl (r_newA (At.of_emp (Fr.refl No w))) rfl ?_
  rintro _ w1 ⟨rb, rfl, S1⟩
  (((apply vL_val); (case h => ((apply opv_E); exact rfl))); ((apply vL_val); (case h => ((apply opv_buildS); exact rfl; exact (rfl : _ = some [_, _, _, _, _, _])))); ((apply vL_val); (case h => ((apply opw_boxn); exact rfl))); ((apply vL_val); (case h => (apply opw_alloc))); ((apply vL_skip); (case h => ((apply ops_store1); exact norm_eq rfl; exact norm_eq rfl; (first | rfl | assumption); infer_instance; (first | decide | exact of_decide_eq_true rfl | (simp; done))))); (iterate 16 (first | with_reducible apply vC_seq | with_reducible apply vC_region | with_reducible apply seqP_normal | ((with_reducible apply vL_val); (case h => ((with_reducible apply opv_E); exact rfl))) | ((with_reducible apply vL_val); (case h => ((with_reducible apply opv_buildS); exact rfl; exact (rfl : _ = some [_, _, _, _, _, _, _, _, _, _, _, _])))) | with_reducible apply vL_nil | ((with_reducible apply vL_val); (case h => ((with_reducible apply opw_boxn); exact rfl))))); apply vC_block)
  have S2 := (((S1.alloc (cs := [pt rb, .slice va P.length vc, .slice none 0 0, .slice none 0 0, .slice none 0 0, .bool false]) (T := 61)).alloc (cs := [.pointer none]) (T := 53)).set (cs' := ([.pointer none] : List Value).set 0 (pt w1.heap.size))).alloc (cs := rwL (.slice va P.length vc) nil7 0) (T := 97)
  refine vC_gen (fun w' => At _ w No w') S2 ?_
  intro w2 S3
  clear S2 S1
  generalize (((w1.alloc (.cells #[pt rb, .slice va P.length vc, .slice none 0 0, .slice none 0 0, .slice none 0 0, .bool false] 61)).alloc (.cells #[.pointer none] 53)).setRow (w1.alloc (.cells #[pt rb, .slice va P.length vc, .slice none 0 0, .slice none 0 0, .slice none 0 0, .bool false] 61)).heap.size (([.pointer none] : List Value).set 0 (pt w1.heap.size)).toArray).heap.size = qb at S3 ⊢
  generalize (w1.alloc (.cells #[pt rb, .slice va P.length vc, .slice none 0 0, .slice none 0 0, .slice none 0 0, .bool false] 61)).heap.size = tx at S3 ⊢
  generalize w1.heap.size = wb at S3 ⊢
  rw [show ([.pointer none] : List Value).set 0 (pt wb) = [pt wb] from rfl] at S3
  have S4 : At (PWA (L16 wb) rb none 0 [(tx, [pt wb], 53)] (ps0 [] []) * (WA wb rb (.slice va P.length vc) [] [] [] false * RwA qb (.slice va P.length vc) (rwI [] 0))) w No w2 := by
    have h1 := rw_nil S3
    have h2 := wa_nil (h1.ac (show _ = Pt wb [pt rb, .slice va P.length vc, .slice none 0 0, .slice none 0 0, .slice none 0 0, .bool false] 61 * (RtA rb none 0 [] [] * (Pt tx [pt wb] 53 * RwA qb (.slice va P.length vc) (rwI [] 0))) by rw [star_emp]; ac_rfl))
    have h3 := pw_init (L := L16 wb) (h2.ac (show _ = RtA rb none 0 [] [] * (Pt tx [pt wb] 53 * (WA wb rb (.slice va P.length vc) [] [] [] false * RwA qb (.slice va P.length vc) (rwI [] 0))) by ac_rfl))
    exact pw_box (h3.ac (by ac_rfl))
  clear S3
  (apply vC_loop1 36893488147417007920 8 (fun u w' => ∃ (i : Nat) (cl : List (Nat × Int)) (kb : List Bx), u = .int .i64 (i : Int) ∧ i ≤ sizes.length ∧ cl.map (·.2) = sizes.take i ∧ (tx, [pt wb], 53) ∈ kb ∧ At (PWA (L16 wb) rb none 0 kb (ps0 cl []) * (WA wb rb (.slice va P.length vc) (cl.map (·.1)) [] [] false * RwA qb (.slice va P.length vc) (rwI ((sizes.take i).map row0) 0))) w No w') (fun u _ => sizes.length - (RowKit.intOf u).toNat)); (case h1 => (exact norm_eq rfl))
  case h0 => exact ⟨0, [], _, rfl, Nat.zero_le _, rfl, List.mem_cons_self, S4⟩
  clear S4
  case round =>
  rintro junk _ w3 ⟨i, cl, kb, rfl, hi, hcl, mt, S5⟩
  have hci : cl.length = i := by
    have := congrArg List.length hcl
    simp at this; omega
  by_cases hlt : i < sizes.length
  · obtain ⟨x, hx⟩ : ∃ x, sizes[i]? = some x := ⟨_, List.getElem?_eq_getElem hlt⟩
    have hx' : sizes[((i : Nat) : Int).toNat]? = some x := by rw [Int.toNat_natCast]; exact hx
    have hxb := hsz x (List.mem_of_getElem? hx)
    have htk : sizes.take (i + 1) = sizes.take i ++ [x] := by rw [List.take_add_one, hx]; rfl
    obtain ⟨cv, tv, ev, S6⟩ := wa_open (S5.ac (show _ = WA wb rb (.slice va P.length vc) (cl.map (·.1)) [] [] false * (PWA (L16 wb) rb none 0 kb (ps0 cl []) * RwA qb (.slice va P.length vc) (rwI ((sizes.take i).map row0) 0)) by ac_rfl))
    have etx := pw_bx S5 mt
    have ewb := S6.blk
    have hs3 := hs.frN S5.fr
    ((iterate 2 (apply vC_seq)); apply vC_region; (iterate 2 (((apply vL_val); (case h => ((apply opv_E); exact rfl))))); ((apply vL_val); (case h => ((apply opv_lenc); exact rfl))); ((apply vL_val); (case h => ((apply opv_E); exact rfl))); apply vL_nil; apply seqP_normal; (refine vC_cond_dec rfl (fun _ => ?_) (fun h => by omega)); apply vC_skip; apply seqP_normal; apply vC_seq; apply vC_block; apply vC_seq)
    refine vC_draw' ((fun wf => Blk wf.heap tx [pt wb] 53 ∧ Blk wf.heap wb [pt rb, (.slice va P.length vc), cv, tv, ev, .bool false] 61 ∧ Rd wf.heap 1 iE (.slice sa sizes.length sc) sizes)) (by (first | exact trivial | assumption | infer_instance | (refine ⟨?_, ?_, ?_⟩ <;> (first | assumption | infer_instance)) | (skip; done))) ?_
    ((apply (tk 0)); (case hi => exact rfl); (case hf => kernel_rfl); (case hS => (first | exact trivial | assumption | infer_instance | (refine ⟨?_, ?_, ?_⟩ <;> (first | assumption | infer_instance)) | (skip; done))); (case hy => (rintro wf ⟨hwa, hwb, hwc⟩; (((apply opv_loadb1); exact rfl; exact rfl; assumption; exact rfl)))))
    ((apply (tk 1)); (case hi => exact rfl); (case hf => kernel_rfl); (case hS => (first | exact trivial | assumption | infer_instance | (refine ⟨?_, ?_, ?_⟩ <;> (first | assumption | infer_instance)) | (skip; done))); (case hy => (rintro wf ⟨hwa, hwb, hwc⟩; (((apply opv_E); exact rfl)))))
    ((apply (tk 2)); (case hi => exact rfl); (case hf => kernel_rfl); (case hS => (first | exact trivial | assumption | infer_instance | (refine ⟨?_, ?_, ?_⟩ <;> (first | assumption | infer_instance)) | (skip; done))); (case hy => (rintro wf ⟨hwa, hwb, hwc⟩; (((apply opv_fieldAddr); exact rfl)))))
    ((apply (tk 3)); (case hi => exact rfl); (case hf => kernel_rfl); (case hS => (first | exact trivial | assumption | infer_instance | (refine ⟨?_, ?_, ?_⟩ <;> (first | assumption | infer_instance)) | (skip; done))); (case hy => (rintro wf ⟨hwa, hwb, hwc⟩; (((apply opv_loadb1); exact rfl; exact rfl; assumption; exact rfl)))))
    ((apply (tk 4)); (case hi => exact rfl); (case hf => kernel_rfl); (case hS => (first | exact trivial | assumption | infer_instance | (refine ⟨?_, ?_, ?_⟩ <;> (first | assumption | infer_instance)) | (skip; done))); (case hy => (rintro wf ⟨hwa, hwb, hwc⟩; (((apply opv_E); exact rfl)))))
    ((apply (tk 5)); (case hi => exact rfl); (case hf => kernel_rfl); (case hS => (first | exact trivial | assumption | infer_instance | (refine ⟨?_, ?_, ?_⟩ <;> (first | assumption | infer_instance)) | (skip; done))); (case hy => (rintro wf ⟨hwa, hwb, hwc⟩; (((apply opv_E); exact rfl)))))
    ((apply (tk 6)); (case hi => exact rfl); (case hf => kernel_rfl); (case hS => (first | exact trivial | assumption | infer_instance | (refine ⟨?_, ?_, ?_⟩ <;> (first | assumption | infer_instance)) | (skip; done))); (case hy => (rintro wf ⟨hwa, hwb, hwc⟩; (((apply opv_indexAddr); exact norm_eq rfl; exact rfl; assumption; (first | omega | (simp only [List.length_map]; omega)); (first | omega | (simp only [List.length_map]; omega)))))))
    ((apply (tk 7)); (case hi => exact rfl); (case hf => kernel_rfl); (case hS => (first | exact trivial | assumption | infer_instance | (refine ⟨?_, ?_, ?_⟩ <;> (first | assumption | infer_instance)) | (skip; done))); (case hy => (rintro wf ⟨hwa, hwb, hwc⟩; (((apply opv_ld_el); exact rfl; exact rfl; assumption; assumption; exact rfl)))))
    refine tkc 8 rfl (by kernel_rfl) (by (first | exact trivial | assumption | infer_instance | (refine ⟨?_, ?_, ?_⟩ <;> (first | assumption | infer_instance)) | (skip; done))) rfl (pw_make (S6.drew.ac (show _ = PWA (L16 wb) rb none 0 kb (ps0 cl []) * (Pt wb [pt rb, (.slice va P.length vc), cv, tv, ev, .bool false] 61 * (Ow 28 1 ptE cv (cl.map (·.1)) * (Ow 34 1 ptE tv [] * (Ow 100 5 ev5 ev [] * RwA qb (.slice va P.length vc) (rwI ((sizes.take i).map row0) 0))))) by ac_rfl)) x hxb) rfl ?_
    rintro _ w4 ⟨cb, rfl, S7⟩
    have hps : (ps0 cl []).addC ⟨cb, x, [], [], [], false⟩ = ps0 (cl ++ [(cb, x)]) [] := by unfold PS.addC ps0; simp [c16, born16]
    rw [hps] at S7
    have etx4 := pw_bx S7 mt
    have S8 := S7.ac (show _ = Pt wb [pt rb, (.slice va P.length vc), cv, tv, ev, .bool false] 61 * (Ow 28 1 ptE cv (cl.map (·.1)) * (Ow 34 1 ptE tv [] * (Ow 100 5 ev5 ev [] * (PWA (L16 wb) rb none 0 kb (ps0 (cl ++ [(cb, x)]) []) * RwA qb (.slice va P.length vc) (rwI ((sizes.take i).map row0) 0))))) by ac_rfl)
    have ewb4 := S8.blk
    have hs4 := hs.frN S8.fr
    ((apply (tk 9)); (case hi => exact rfl); (case hf => kernel_rfl); (case hS => (first | exact trivial | assumption | infer_instance | (refine ⟨?_, ?_, ?_⟩ <;> (first | assumption | infer_instance)) | (skip; done))); (case hy => (rintro wf ⟨hwa, hwb, hwc⟩; (((apply opv_E); exact rfl)))))
    ((apply (tk 10)); (case hi => exact rfl); (case hf => kernel_rfl); (case hS => (first | exact trivial | assumption | infer_instance | (refine ⟨?_, ?_, ?_⟩ <;> (first | assumption | infer_instance)) | (skip; done))); (case hy => (rintro wf ⟨hwa, hwb, hwc⟩; (((apply opv_E); exact rfl)))))
    ((apply (tk 11)); (case hi => exact rfl); (case hf => kernel_rfl); (case hS => (first | exact trivial | assumption | infer_instance | (refine ⟨?_, ?_, ?_⟩ <;> (first | assumption | infer_instance)) | (skip; done))); (case hy => (rintro wf ⟨hwa, hwb, hwc⟩; (((apply opv_E); exact rfl)))))
    ((apply (tk 12)); (case hi => exact rfl); (case hf => kernel_rfl); (case hS => (first | exact trivial | assumption | infer_instance | (refine ⟨?_, ?_, ?_⟩ <;> (first | assumption | infer_instance)) | (skip; done))); (case hy => (rintro wf ⟨hwa, hwb, hwc⟩; (((apply opv_E); exact rfl)))))
    ((apply (tk 13)); (case hi => exact rfl); (case hf => kernel_rfl); (case hS => (first | exact trivial | assumption | infer_instance | (refine ⟨?_, ?_, ?_⟩ <;> (first | assumption | infer_instance)) | (skip; done))); (case hy => (rintro wf ⟨hwa, hwb, hwc⟩; (((apply opv_E); exact rfl)))))
    refine vA_done (by kernel_rfl) (by (first | exact trivial | assumption | infer_instance | (refine ⟨?_, ?_, ?_⟩ <;> (first | assumption | infer_instance)) | (skip; done))) ?_
    clear S7 S6 S5 etx ewb hs3
    (apply seqP_normal; (iterate 2 (apply vC_seq)); apply vC_region; (iterate 2 (((apply vL_val); (case h => ((apply opv_E); exact rfl))))); apply vL_nil; apply seqP_normal; ((apply vC_cond_false); exact rfl); apply vC_skip; apply seqP_normal; apply vC_seq)
    refine vC_meet0 2249600790429696 (fun w' => ∃ cv', At (Pt wb [pt rb, (.slice va P.length vc), cv', tv, ev, .bool false] 61 * (Ow 28 1 ptE cv' (cl.map (·.1) ++ [cb]) * (Ow 34 1 ptE tv [] * (Ow 100 5 ev5 ev [] * (PWA (L16 wb) rb none 0 kb (ps0 (cl ++ [(cb, x)]) []) * RwA qb (.slice va P.length vc) (rwI ((sizes.take i).map row0) 0)))))) w No w') ?_ ?_
    · skip
      refine vC_draw' ((fun wf => Blk wf.heap tx [pt wb] 53)) (by (first | exact trivial | assumption | infer_instance | (skip; done))) ?_
      ((apply (tk 0)); (case hi => exact rfl); (case hf => kernel_rfl); (case hS => (first | exact trivial | assumption | infer_instance | (skip; done))); (case hy => (intro wf hwf; (try dsimp only at hwf); (((apply opv_loadb1); exact rfl; exact rfl; assumption; exact rfl)))))
      ((apply (tk 1)); (case hi => exact rfl); (case hf => kernel_rfl); (case hS => (first | exact trivial | assumption | infer_instance | (skip; done))); (case hy => (intro wf hwf; (try dsimp only at hwf); (((apply opv_loadb1); exact rfl; exact rfl; assumption; exact rfl)))))
      ((apply (tk 2)); (case hi => exact rfl); (case hf => kernel_rfl); (case hS => (first | exact trivial | assumption | infer_instance | (skip; done))); (case hy => (intro wf hwf; (try dsimp only at hwf); (((apply opv_E); exact rfl)))))
      ((apply (tk 3)); (case hi => exact rfl); (case hf => kernel_rfl); (case hS => (first | exact trivial | assumption | infer_instance | (skip; done))); (case hy => (intro wf hwf; (try dsimp only at hwf); (((apply opv_fieldAddr); exact rfl)))))
      ((apply (tk 5)); (case hi => exact rfl); (case hf => kernel_rfl); (case hS => (first | exact trivial | assumption | infer_instance | (skip; done))); (case hy => (intro wf hwf; (try dsimp only at hwf); (((apply opv_E); exact rfl)))))
      refine vA_two 4 6 rfl rfl (by kernel_rfl) (by (first | exact trivial | assumption | infer_instance | (skip; done))) (fun K hK => ?_) (fun K hK => ?_)
      · (((apply vL_val); (case h => ((apply opv_loadb1); exact rfl; exact rfl; assumption; exact rfl))); apply vL_nil)
        refine ⟨rfl, hK _ _ ?_⟩
        refine vA_only 6 rfl (by kernel_rfl) (by (first | exact trivial | assumption | infer_instance | (skip; done))) (fun K hK => ?_)
        (((apply vL_val); (case h => ((apply opw_buildSl); exact rfl; exact rfl; exact rfl; exact (rfl : _ = some [_])))); apply vL_nil)
        refine ⟨rfl, hK _ _ ?_⟩
        refine vA_only 7 rfl (by kernel_rfl) (by (first | exact trivial | assumption | infer_instance | (skip; done))) (fun K hK => ?_)
        have S9 := S8.ac (show _ = Ow 28 1 ptE cv (cl.map (·.1)) * (Pt wb [pt rb, (.slice va P.length vc), cv, tv, ev, .bool false] 61 * (Ow 34 1 ptE tv [] * (Ow 100 5 ev5 ev [] * (PWA (L16 wb) rb none 0 kb (ps0 (cl ++ [(cb, x)]) []) * RwA qb (.slice va P.length vc) (rwI ((sizes.take i).map row0) 0))))) by ac_rfl)
        have o9 := S9.own
        refine vL_append (enc := ptE) (xs := cl.map (·.1)) (ys := [cb]) (T := 28) (sz := 1) (by (((conv => lhs; whnf) <;> exact rfl))) (by (exact norm_eq rfl)) (Own.alloc (o9.1.frN ((Fr.refl No _).drew))) (Rd.new1 _ _ rfl) rfl (by decide) ?_ ?_ ?_
        · simp [maxLen]; omega
        · simp; omega
        intro v' w7 ho7 hf7 hfr7 hone7 _
        have hfa : Fr (fun j => own cv = some j) w4 w7 := (((Fr.refl _ w4).drew).alloc _).trans' hf7 (fun i hi => .inl hi)
        have S10 := S9.owTo hfa ho7 hone7 (fun k hk => (hfr7 k hk).imp id (fun h => by rw [alloc_size] at h; exact Nat.le_trans (Nat.le_succ _) h))
        have etx7 := etx4.fr hfa (fun h => Own.ne_blk o9.1 etx4 (by decide) h)
        have S11 := S10.ac (show _ = Pt wb [pt rb, (.slice va P.length vc), cv, tv, ev, .bool false] 61 * (Ow 28 1 ptE v' (cl.map (·.1) ++ [cb]) * (Ow 34 1 ptE tv [] * (Ow 100 5 ev5 ev [] * (PWA (L16 wb) rb none 0 kb (ps0 (cl ++ [(cb, x)]) []) * RwA qb (.slice va P.length vc) (rwI ((sizes.take i).map row0) 0))))) by ac_rfl)
        have ewb7 := S11.blk
        refine vL_nil ⟨rfl, hK _ _ ?_⟩
        ((apply (tk 8)); (case hi => exact rfl); (case hf => kernel_rfl); (case hS => (first | exact trivial | assumption | infer_instance | (skip; done))); (case hy => (intro wf hwf; (try dsimp only at hwf); (((apply opv_E); exact rfl)))))
        ((apply (tk 9)); (case hi => exact rfl); (case hf => kernel_rfl); (case hS => (first | exact trivial | assumption | infer_instance | (skip; done))); (case hy => (intro wf hwf; (try dsimp only at hwf); (((apply opv_fieldAddr); exact rfl)))))
        refine vA_only 10 rfl (by kernel_rfl) (by (first | exact trivial | assumption | infer_instance | (skip; done))) (fun K hK => ?_)
        (((apply vL_skip); (case h => ((apply ops_store1); exact norm_eq rfl; ((conv => lhs; whnf) <;> exact rfl); (first | rfl | assumption); assumption; (first | decide | exact of_decide_eq_true rfl | (simp; done))))); apply vL_nil)
        refine ⟨rfl, hK _ _ ?_⟩
        have S12 := S11.set (cs' := [pt rb, (.slice va P.length vc), v', tv, ev, .bool false])
        have etx8 := etx7.fr (F := fun k => k = wb) ((Fr.refl _ w7).set wb ([pt rb, (.slice va P.length vc), v', tv, ev, .bool false] : List Value).toArray (.inl rfl)) (Blk.ne_type etx7 ewb7 (by decide))
        refine vA_done (by kernel_rfl) (by (first | exact trivial | assumption | infer_instance | (skip; done))) ?_
        exact ⟨rfl, by ((apply same_updN; (iterate 10 (((refine same_updO ?_ ?_); rotate_left; exact rfl)))); exact fun _ _ => rfl), v', S12⟩
      · (((apply vL_val); (case h => ((apply opw_buildSl); exact rfl; exact rfl; exact rfl; exact (rfl : _ = some [_])))); apply vL_nil)
        refine ⟨rfl, hK _ _ ?_⟩
        refine vA_only 4 rfl (by kernel_rfl) (by (first | exact trivial | assumption | infer_instance | (skip; done))) (fun K hK => ?_)
        (((apply vL_val); (case h => ((apply opv_loadb1); exact rfl; exact rfl; infer_instance; exact rfl))); apply vL_nil)
        refine ⟨rfl, hK _ _ ?_⟩
        refine vA_only 7 rfl (by kernel_rfl) (by (first | exact trivial | assumption | infer_instance | (skip; done))) (fun K hK => ?_)
        have S9 := S8.ac (show _ = Ow 28 1 ptE cv (cl.map (·.1)) * (Pt wb [pt rb, (.slice va P.length vc), cv, tv, ev, .bool false] 61 * (Ow 34 1 ptE tv [] * (Ow 100 5 ev5 ev [] * (PWA (L16 wb) rb none 0 kb (ps0 (cl ++ [(cb, x)]) []) * RwA qb (.slice va P.length vc) (rwI ((sizes.take i).map row0) 0))))) by ac_rfl)
        have o9 := S9.own
        refine vL_append (enc := ptE) (xs := cl.map (·.1)) (ys := [cb]) (T := 28) (sz := 1) (by (((conv => lhs; whnf) <;> exact rfl))) (by (exact norm_eq rfl)) (Own.alloc (o9.1.frN ((Fr.refl No _).drew))) (Rd.new1 _ _ rfl) rfl (by decide) ?_ ?_ ?_
        · simp [maxLen]; omega
        · simp; omega
        intro v' w7 ho7 hf7 hfr7 hone7 _
        have hfa : Fr (fun j => own cv = some j) w4 w7 := (((Fr.refl _ w4).drew).alloc _).trans' hf7 (fun i hi => .inl hi)
        have S10 := S9.owTo hfa ho7 hone7 (fun k hk => (hfr7 k hk).imp id (fun h => by rw [alloc_size] at h; exact Nat.le_trans (Nat.le_succ _) h))
        have etx7 := etx4.fr hfa (fun h => Own.ne_blk o9.1 etx4 (by decide) h)
        have S11 := S10.ac (show _ = Pt wb [pt rb, (.slice va P.length vc), cv, tv, ev, .bool false] 61 * (Ow 28 1 ptE v' (cl.map (·.1) ++ [cb]) * (Ow 34 1 ptE tv [] * (Ow 100 5 ev5 ev [] * (PWA (L16 wb) rb none 0 kb (ps0 (cl ++ [(cb, x)]) []) * RwA qb (.slice va P.length vc) (rwI ((sizes.take i).map row0) 0))))) by ac_rfl)
        have ewb7 := S11.blk
        refine vL_nil ⟨rfl, hK _ _ ?_⟩
        ((apply (tk 8)); (case hi => exact rfl); (case hf => kernel_rfl); (case hS => (first | exact trivial | assumption | infer_instance | (skip; done))); (case hy => (intro wf hwf; (try dsimp only at hwf); (((apply opv_E); exact rfl)))))
        ((apply (tk 9)); (case hi => exact rfl); (case hf => kernel_rfl); (case hS => (first | exact trivial | assumption | infer_instance | (skip; done))); (case hy => (intro wf hwf; (try dsimp only at hwf); (((apply opv_fieldAddr); exact rfl)))))
        refine vA_only 10 rfl (by kernel_rfl) (by (first | exact trivial | assumption | infer_instance | (skip; done))) (fun K hK => ?_)
        (((apply vL_skip); (case h => ((apply ops_store1); exact norm_eq rfl; ((conv => lhs; whnf) <;> exact rfl); (first | rfl | assumption); assumption; (first | decide | exact of_decide_eq_true rfl | (simp; done))))); apply vL_nil)
        refine ⟨rfl, hK _ _ ?_⟩
        have S12 := S11.set (cs' := [pt rb, (.slice va P.length vc), v', tv, ev, .bool false])
        have etx8 := etx7.fr (F := fun k => k = wb) ((Fr.refl _ w7).set wb ([pt rb, (.slice va P.length vc), v', tv, ev, .bool false] : List Value).toArray (.inl rfl)) (Blk.ne_type etx7 ewb7 (by decide))
        refine vA_done (by kernel_rfl) (by (first | exact trivial | assumption | infer_instance | (skip; done))) ?_
        exact ⟨rfl, by ((apply same_updN; (iterate 10 (((refine same_updO ?_ ?_); rotate_left; exact rfl)))); exact fun _ _ => rfl), v', S12⟩
    rintro junk9 w5 ⟨cv', S9⟩
    have hrow : Big (((sizes.take i).map row0).map RrA) = Emp := bigRow0 _
    have S10 := wa_shut (S9.ac (show _ = Pt wb [pt rb, (.slice va P.length vc), cv', tv, ev, .bool false] 61 * (Ow 28 1 ptE cv' ((cl ++ [(cb, x)]).map (·.1)) * (Ow 34 1 ptE tv [] * (Ow 100 5 ev5 ev [] * (PWA (L16 wb) rb none 0 kb (ps0 (cl ++ [(cb, x)]) []) * RwA qb (.slice va P.length vc) (rwI ((sizes.take i).map row0) 0))))) by rw [List.map_append]; rfl))
    obtain ⟨T0, hT0⟩ : ∃ T0, T0 = rwI ((sizes.take i).map row0) 0 := ⟨_, rfl⟩
    have hTl : T0.ch.length = i := by rw [hT0]; simp [rwI]; omega
    rw [← hT0] at S10
    obtain ⟨vr, S11⟩ := rw_open (S10.ac (show _ = RwA qb (.slice va P.length vc) T0 * (WA wb rb (.slice va P.length vc) ((cl ++ [(cb, x)]).map (·.1)) [] [] false * PWA (L16 wb) rb none 0 kb (ps0 (cl ++ [(cb, x)]) [])) by ac_rfl))
    have hbq := rw_blk S11
    obtain ⟨o, oo, up⟩ := rw_ch S11
    have S11own : ∀ k, own vr.ch = some k → No k ∨ w.heap.size ≤ k := fun k hk => by
      exact rw_chown S11 k hk
    rw [rwL] at hbq
    obtain ⟨g1, g2, g3, g4, g5, g6, g7⟩ := rw_ones S11
    have hs5 := hs.frN S11.fr
    first | with_reducible apply vC_seq | with_reducible apply vC_region | with_reducible apply seqP_normal | with_reducible apply vC_block | with_reducible apply vC_ret | with_reducible apply vC_skip | with_reducible apply vC_exit | with_reducible apply seqP_ret | with_reducible apply seqP_exit | with_reducible apply blockP_normal | with_reducible apply blockP_ret | with_reducible apply blockP_exit | ((with_reducible apply blockP_pass); exact rfl) | with_reducible apply loopP_normal | with_reducible apply vL_ac | with_reducible apply vL_an | with_reducible apply loopP_ret | with_reducible apply loopP_exit | ((with_reducible apply vC_cond_true); exact rfl) | ((with_reducible apply vC_cond_false); exact rfl) | with_reducible apply vC_scope | with_reducible apply gotoP_normal | with_reducible apply gotoP_ret | with_reducible apply gotoP_exit | with_reducible apply vC_label
    refine vC_meet0 36891236347605417984 (fun w' => ∃ vr', At (RwP qb (.slice va P.length vc) vr' { T0 with ch := T0.ch ++ [row0 x] } * (Big (T0.ch.map RrA) * (WA wb rb (.slice va P.length vc) ((cl ++ [(cb, x)]).map (·.1)) [] [] false * PWA (L16 wb) rb none 0 kb (ps0 (cl ++ [(cb, x)]) [])))) w No w') ?_ ?_
    · skip
      have f5 := S11.fr
      refine vC_draw' (fun wf => Fr No w wf) f5.drew ?_
      ((apply (tk 0)); (case hi => exact rfl); (case hf => kernel_rfl); (case hS => (apply Fr.drew; assumption)); (case hy => (intro wf hwf; haveI := From.mk hwf; (((apply opv_E); exact rfl)))))
      ((apply (tk 1)); (case hi => exact rfl); (case hf => kernel_rfl); (case hS => (apply Fr.drew; assumption)); (case hy => (intro wf hwf; haveI := From.mk hwf; (((apply opv_E); exact rfl)))))
      ((apply (tk 2)); (case hi => exact rfl); (case hf => kernel_rfl); (case hS => (apply Fr.drew; assumption)); (case hy => (intro wf hwf; haveI := From.mk hwf; (((apply opv_E); exact rfl)))))
      ((apply (tk 3)); (case hi => exact rfl); (case hf => kernel_rfl); (case hS => (apply Fr.drew; assumption)); (case hy => (intro wf hwf; haveI := From.mk hwf; (((apply opv_fieldAddr); exact rfl)))))
      ((apply (tk 5)); (case hi => exact rfl); (case hf => kernel_rfl); (case hS => (apply Fr.drew; assumption)); (case hy => (intro wf hwf; haveI := From.mk hwf; (((apply opv_E); exact rfl)))))
      ((apply (tk 6)); (case hi => exact rfl); (case hf => kernel_rfl); (case hS => (apply Fr.drew; assumption)); (case hy => (intro wf hwf; haveI := From.mk hwf; (((apply opv_E); exact rfl)))))
      ((apply (tk 7)); (case hi => exact rfl); (case hf => kernel_rfl); (case hS => (apply Fr.drew; assumption)); (case hy => (intro wf hwf; haveI := From.mk hwf; (((apply opv_indexAddr); exact norm_eq rfl; exact rfl; infer_instance; (first | omega | (simp only [List.length_map]; omega)); (first | omega | (simp only [List.length_map]; omega)))))))
      ((apply (tk 8)); (case hi => exact rfl); (case hf => kernel_rfl); (case hS => (apply Fr.drew; assumption)); (case hy => (intro wf hwf; haveI := From.mk hwf; (((apply opv_ld_el); exact rfl; exact rfl; infer_instance; assumption; exact rfl)))))
      ((apply (tk 9)); (case hi => exact rfl); (case hf => kernel_rfl); (case hS => (apply Fr.drew; assumption)); (case hy => (intro wf hwf; haveI := From.mk hwf; (((apply opv_buildS); exact rfl; exact (rfl : _ = some [_, _, _, _, _]))))))
      refine vA_two 4 10 rfl rfl (by kernel_rfl) (by (apply Fr.drew; assumption)) (fun K hK => ?_) (fun K hK => ?_)
      · (((apply vL_val); (case h => ((apply opv_loadb1); exact rfl; exact rfl; assumption; exact rfl))); apply vL_nil)
        refine ⟨rfl, hK _ _ ?_⟩
        refine vA_only 10 rfl (by kernel_rfl) (by (apply Fr.drew; assumption)) (fun K hK => ?_)
      
        (((apply vL_val); (case h => ((apply opw_buildSl); exact rfl; exact rfl; exact rfl; exact (rfl : _ = some [_, _, _, _, _])))); apply vL_nil)
        refine ⟨rfl, hK _ _ ?_⟩
        refine vA_only 11 rfl (by kernel_rfl) (by (apply Fr.alloc; apply Fr.drew; assumption)) (fun K hK => ?_)
        refine vL_append (enc := rrE) (xs := T0.ch) (ys := [row0 x]) (T := 125) (sz := 5) (by (((conv => lhs; whnf) <;> exact rfl))) (by (exact norm_eq rfl)) (Own.alloc (o.frN ((Fr.refl No _).drew))) (Rd.new1 _ _ rfl) rfl (by decide) ?_ ?_ ?_
        · simp [maxLen, hTl]; omega
        · simp [hTl]; omega
        intro v' w7 ho7 hf7 hfr7 hone7 _
        have hfa : Fr (fun j => own vr.ch = some j) w5 w7 := (((Fr.refl _ w5).drew).alloc _).trans' hf7 (fun i hi => .inl hi)
        have hbq7 := hbq.fr hfa (fun h => Own.ne_blk o hbq (by decide) h)
        have hw7 : Fr No w w7 := S11.fr.trans' hfa (fun k hk => S11own k hk)
        refine vL_nil ⟨rfl, hK _ _ ?_⟩
        ((apply (tk 12)); (case hi => exact rfl); (case hf => kernel_rfl); (case hS => (assumption)); (case hy => (intro wf hwf; haveI := From.mk hwf; (((apply opv_E); exact rfl)))))
        ((apply (tk 13)); (case hi => exact rfl); (case hf => kernel_rfl); (case hS => (assumption)); (case hy => (intro wf hwf; haveI := From.mk hwf; (((apply opv_fieldAddr); exact rfl)))))
        refine vA_only 14 rfl (by kernel_rfl) (by (assumption)) (fun K hK => ?_)
        (((apply vL_skip); (case h => ((apply ops_store1); exact norm_eq rfl; ((conv => lhs; whnf) <;> exact rfl); (first | rfl | assumption); assumption; (first | decide | exact of_decide_eq_true rfl | (simp; done))))); apply vL_nil)
        refine ⟨rfl, hK _ _ ?_⟩
        have key : ∀ cs', cs' = rwL (.slice va P.length vc) { vr with ch := v' } T0.rest → At (RwP qb (.slice va P.length vc) { vr with ch := v' } { T0 with ch := T0.ch ++ [row0 x] } * (Big (T0.ch.map RrA) * (WA wb rb (.slice va P.length vc) ((cl ++ [(cb, x)]).map (·.1)) [] [] false * PWA (L16 wb) rb none 0 kb (ps0 (cl ++ [(cb, x)]) [])))) w No (w7.setRow qb cs'.toArray) := fun cs' e => by
          subst e
          exact up v' _ _ ((hfa.mono (fun k _ h => .inr h)).set _ _ (.inl (.inl rfl))) (Blk.set hbq7) (ho7.set (Own.ne_blk ho7 hbq7 (by decide))) hone7 (fun k hk => (hfr7 k hk).imp id (fun h => by rw [alloc_size] at h; exact Nat.le_trans (Nat.le_succ _) h))
        refine vA_done (by kernel_rfl) ((key _ rfl).fr) ?_
        exact ⟨rfl, by ((apply same_updN; (iterate 14 (((refine same_updO ?_ ?_); rotate_left; exact rfl)))); exact fun _ _ => rfl), _, key _ rfl⟩
      · (((apply vL_val); (case h => ((apply opw_buildSl); exact rfl; exact rfl; exact rfl; exact (rfl : _ = some [_, _, _, _, _])))); apply vL_nil)
        refine ⟨rfl, hK _ _ ?_⟩
        refine vA_only 4 rfl (by kernel_rfl) (by (apply Fr.alloc; apply Fr.drew; assumption)) (fun K hK => ?_)
        (((apply vL_val); (case h => ((apply opv_loadb1); exact rfl; exact rfl; infer_instance; exact rfl))); apply vL_nil)
        refine ⟨rfl, hK _ _ ?_⟩
        refine vA_only 11 rfl (by kernel_rfl) (by (apply Fr.alloc; apply Fr.drew; assumption)) (fun K hK => ?_)
        refine vL_append (enc := rrE) (xs := T0.ch) (ys := [row0 x]) (T := 125) (sz := 5) (by (((conv => lhs; whnf) <;> exact rfl))) (by (exact norm_eq rfl)) (Own.alloc (o.frN ((Fr.refl No _).drew))) (Rd.new1 _ _ rfl) rfl (by decide) ?_ ?_ ?_
        · simp [maxLen, hTl]; omega
        · simp [hTl]; omega
        intro v' w7 ho7 hf7 hfr7 hone7 _
        have hfa : Fr (fun j => own vr.ch = some j) w5 w7 := (((Fr.refl _ w5).drew).alloc _).trans' hf7 (fun i hi => .inl hi)
        have hbq7 := hbq.fr hfa (fun h => Own.ne_blk o hbq (by decide) h)
        have hw7 : Fr No w w7 := S11.fr.trans' hfa (fun k hk => S11own k hk)
        refine vL_nil ⟨rfl, hK _ _ ?_⟩
        ((apply (tk 12)); (case hi => exact rfl); (case hf => kernel_rfl); (case hS => (assumption)); (case hy => (intro wf hwf; haveI := From.mk hwf; (((apply opv_E); exact rfl)))))
        ((apply (tk 13)); (case hi => exact rfl); (case hf => kernel_rfl); (case hS => (assumption)); (case hy => (intro wf hwf; haveI := From.mk hwf; (((apply opv_fieldAddr); exact rfl)))))
        refine vA_only 14 rfl (by kernel_rfl) (by (assumption)) (fun K hK => ?_)
        (((apply vL_skip); (case h => ((apply ops_store1); exact norm_eq rfl; ((conv => lhs; whnf) <;> exact rfl); (first | rfl | assumption); assumption; (first | decide | exact of_decide_eq_true rfl | (simp; done))))); apply vL_nil)
        refine ⟨rfl, hK _ _ ?_⟩
        have key : ∀ cs', cs' = rwL (.slice va P.length vc) { vr with ch := v' } T0.rest → At (RwP qb (.slice va P.length vc) { vr with ch := v' } { T0 with ch := T0.ch ++ [row0 x] } * (Big (T0.ch.map RrA) * (WA wb rb (.slice va P.length vc) ((cl ++ [(cb, x)]).map (·.1)) [] [] false * PWA (L16 wb) rb none 0 kb (ps0 (cl ++ [(cb, x)]) [])))) w No (w7.setRow qb cs'.toArray) := fun cs' e => by
          subst e
          exact up v' _ _ ((hfa.mono (fun k _ h => .inr h)).set _ _ (.inl (.inl rfl))) (Blk.set hbq7) (ho7.set (Own.ne_blk ho7 hbq7 (by decide))) hone7 (fun k hk => (hfr7 k hk).imp id (fun h => by rw [alloc_size] at h; exact Nat.le_trans (Nat.le_succ _) h))
        refine vA_done (by kernel_rfl) ((key _ rfl).fr) ?_
        exact ⟨rfl, by ((apply same_updN; (iterate 14 (((refine same_updO ?_ ?_); rotate_left; exact rfl)))); exact fun _ _ => rfl), _, key _ rfl⟩
    rintro junk10 w6 ⟨vr', S12⟩
    have hT1 : ({ T0 with ch := T0.ch ++ [row0 x] } : RW) = rwI ((sizes.take (i + 1)).map row0) 0 := by rw [hT0, htk]; simp [rwI]
    have eB : Big (T0.ch.map RrA) = Big ((rwI ((sizes.take (i + 1)).map row0) 0).ch.map RrA) := by rw [hT0]; exact (bigRow0 _).trans (bigRow0 _).symm
    rw [hT1, eB] at S12
    have S13 := rw_shut S12
    (apply blockP_normal; apply seqP_normal; apply vC_region; ((apply vL_val); (case h => ((apply opv_E); exact rfl))); ((apply vL_val); (case h => ((apply opv_add); exact rfl; exact rfl; (first | omega | (simp only [List.length_map]; omega))))); ((apply vL_val); (case h => ((apply opv_E); exact rfl))); apply vL_nil; apply loopP_normal)
    (with_reducible apply end1); (case hs => ((iterate 25 (first | ((with_reducible refine same_updO ?_ ?_); rotate_left; exact rfl) | ((with_reducible refine same_maskIn ?_ ?_); rotate_left; exact rfl))); ((refine same_upd ?_ ?_); rotate_left; exact rfl); (exact same_mask _ _ _))); (case h1 => (exact norm_eq rfl))
    · exact ⟨i + 1, cl ++ [(cb, x)], kb, rfl, by omega, by rw [List.map_append, hcl, htk]; rfl, mt, S13.ac (by ac_rfl)⟩
    · simp [RowKit.intOf]; omega
  · ((iterate 2 (apply vC_seq)); apply vC_region; (iterate 2 (((apply vL_val); (case h => ((apply opv_E); exact rfl))))); ((apply vL_val); (case h => ((apply opv_lenc); exact rfl))); ((apply vL_val); (case h => ((apply opv_E); exact rfl))); apply vL_nil; apply seqP_normal; (refine vC_cond_dec rfl (fun h => by omega) (fun _ => ?_)); apply vC_exit; apply seqP_exit; apply loopP_exit; apply blockP_exit; apply seqP_normal; (iterate 2 (apply vC_seq)); apply vC_region; ((apply vL_val); (case h => ((apply opv_E); exact rfl))); ((apply vL_val); (case h => ((apply opv_lenc); exact rfl))); ((apply vL_val); (case h => ((apply opv_E); exact rfl))); apply vL_nil; apply seqP_normal; apply vC_block)
    obtain rfl : i = sizes.length := by omega
    rw [List.take_length] at hcl S5
    clear hlt
    (apply vC_loop1 4951760009567568509920098352 67 (fun u w' => ∃ (k : Nat) (tl : List Nat) (kb : List Bx), u = .int .i64 (k : Int) ∧ k ≤ P.length ∧ tl.length = k ∧ (tx, [pt wb], 53) ∈ kb ∧ At (PWA (L16 wb) rb none 0 kb (ps0 cl tl) * (WA wb rb (.slice va P.length vc) (cl.map (·.1)) tl [] false * RwA qb (.slice va P.length vc) (rwI (sizes.map row0) 0))) w No w') (fun u _ => P.length - (RowKit.intOf u).toNat)); (case h1 => (exact norm_eq rfl))
    case h0 => exact ⟨0, [], kb, rfl, Nat.zero_le _, rfl, mt, S5⟩
    clear S5 mt kb
    case round =>
    rintro junk2 _ w4 ⟨k, tl, kb, rfl, hk, htl, mt, S5⟩
    by_cases hlt : k < P.length
    · have etx := pw_bx S5 mt
      obtain ⟨_, _, _, S6⟩ := wa_open (S5.ac (show _ = WA wb rb (.slice va P.length vc) (cl.map (·.1)) tl [] false * (PWA (L16 wb) rb none 0 kb (ps0 cl tl) * RwA qb (.slice va P.length vc) (rwI (sizes.map row0) 0)) by ac_rfl))
      have ewb := S6.blk
      (apply vC_seq; apply vC_region; ((apply vL_val); (case h => ((apply opv_E); exact rfl))); apply vL_nil; apply seqP_normal; apply vC_seq; (refine vC_cond_dec rfl (fun _ => ?_) (fun h => by omega)); apply vC_skip; apply seqP_normal; apply vC_seq; apply vC_block; apply vC_seq; apply vC_region; ((apply vL_val); (case h => ((apply opv_E); exact rfl))); ((apply vL_val); (case h => (apply opw_alloc))); ((apply vL_skip); (case h => ((apply ops_store1); exact norm_eq rfl; exact norm_eq rfl; (first | rfl | assumption); infer_instance; (first | decide | exact of_decide_eq_true rfl | (simp; done))))); apply vL_nil; apply seqP_normal; apply vC_seq; apply vC_region; ((apply vL_val); (case h => ((apply opv_loadb1); exact rfl; exact rfl; infer_instance; exact rfl))); ((apply vL_val); (case h => ((apply opv_E); exact rfl))); ((apply vL_val); (case h => ((apply opv_fieldAddr); exact rfl))); ((apply vL_val); (case h => ((apply opv_loadb1); exact rfl; exact rfl; infer_instance; exact rfl))); ((apply vL_val); (case h => ((apply opv_makeFunc); exact rfl))))
      refine vL_gen (fun w' => At (Pt w4.heap.size [.int .i64 k] 3 * (PWA (L16 wb) rb none 0 kb (ps0 cl tl) * (WA wb rb (.slice va P.length vc) (cl.map (·.1)) tl [] false * RwA qb (.slice va P.length vc) (rwI (sizes.map row0) 0)))) w No w') (S5.new (by (apply Fr.allocSet; exact Fr.refl _ _)) (Blk.as inferInstance rfl) (Nat.le_refl _)) ?_
      clear etx ewb S6 S5
      intro w5 S6
      generalize w4.heap.size = px at S6 ⊢
      have S7 := pw_box S6
      have hst : (ps0 cl tl).sts.length = tl.length := by simp [ps0, born16]
      refine vL_callF rfl (pw_spawn S7 (by omega) _ _ (fun tb => ⟨tb, k, 0, ⟨0, 0, false⟩⟩) (fun tb fb tx' kb' hsub h1 h2 => ⟨rfl, .born fb tx' tx px h1 h2 (hsub _ (List.mem_cons_of_mem _ mt)) (hsub _ List.mem_cons_self) rfl rfl⟩)) rfl ?_
      rintro _ w6 ⟨tb, rfl, kb2, hkb, S8⟩
      have mt2 := hkb _ (List.mem_cons_of_mem _ mt)
      rw [show (ps0 cl tl).addT tb ⟨tb, k, 0, ⟨0, 0, false⟩⟩ = ps0 cl (tl ++ [tb]) by rw [← htl]; exact ps0_addT cl tl tb (by omega)] at S8
      have etx6 := pw_bx S8 mt2
      obtain ⟨cv, tv, ev, S9⟩ := wa_open (S8.ac (show _ = WA wb rb (.slice va P.length vc) (cl.map (·.1)) tl [] false * (PWA (L16 wb) rb none 0 kb2 (ps0 cl (tl ++ [tb])) * RwA qb (.slice va P.length vc) (rwI (sizes.map row0) 0)) by ac_rfl))
      have ewb6 := S9.blk
      ((iterate 5 (((apply vL_val); (case h => ((apply opv_E); exact rfl))))); apply vL_nil; apply seqP_normal; (iterate 2 (apply vC_seq)); apply vC_region; (iterate 2 (((apply vL_val); (case h => ((apply opv_E); exact rfl))))); apply vL_nil; apply seqP_normal; ((apply vC_cond_false); exact rfl); apply vC_skip; apply seqP_normal)
      refine vC_meet0 2473462226931531291448836096 (fun w' => ∃ tv', At (Pt wb [pt rb, (.slice va P.length vc), cv, tv', ev, .bool false] 61 * (Ow 34 1 ptE tv' (tl ++ [tb]) * (Ow 28 1 ptE cv (cl.map (·.1)) * (Ow 100 5 ev5 ev [] * (PWA (L16 wb) rb none 0 kb2 (ps0 cl (tl ++ [tb])) * RwA qb (.slice va P.length vc) (rwI (sizes.map row0) 0)))))) w No w') ?_ ?_
      · skip
        refine vC_draw' ((fun wf => Blk wf.heap tx [pt wb] 53)) (by (first | exact trivial | assumption | infer_instance | (skip; done))) ?_
        ((apply (tk 0)); (case hi => exact rfl); (case hf => kernel_rfl); (case hS => (first | exact trivial | assumption | infer_instance | (skip; done))); (case hy => (intro wf hwf; (try dsimp only at hwf); (((apply opv_loadb1); exact rfl; exact rfl; assumption; exact rfl)))))
        ((apply (tk 1)); (case hi => exact rfl); (case hf => kernel_rfl); (case hS => (first | exact trivial | assumption | infer_instance | (skip; done))); (case hy => (intro wf hwf; (try dsimp only at hwf); (((apply opv_loadb1); exact rfl; exact rfl; assumption; exact rfl)))))
        ((apply (tk 2)); (case hi => exact rfl); (case hf => kernel_rfl); (case hS => (first | exact trivial | assumption | infer_instance | (skip; done))); (case hy => (intro wf hwf; (try dsimp only at hwf); (((apply opv_E); exact rfl)))))
        ((apply (tk 3)); (case hi => exact rfl); (case hf => kernel_rfl); (case hS => (first | exact trivial | assumption | infer_instance | (skip; done))); (case hy => (intro wf hwf; (try dsimp only at hwf); (((apply opv_fieldAddr); exact rfl)))))
        ((apply (tk 5)); (case hi => exact rfl); (case hf => kernel_rfl); (case hS => (first | exact trivial | assumption | infer_instance | (skip; done))); (case hy => (intro wf hwf; (try dsimp only at hwf); (((apply opv_E); exact rfl)))))
        refine vA_two 4 6 rfl rfl (by kernel_rfl) (by (first | exact trivial | assumption | infer_instance | (skip; done))) (fun K hK => ?_) (fun K hK => ?_)
        · (((apply vL_val); (case h => ((apply opv_loadb1); exact rfl; exact rfl; assumption; exact rfl))); apply vL_nil)
          refine ⟨rfl, hK _ _ ?_⟩
          refine vA_only 6 rfl (by kernel_rfl) (by (first | exact trivial | assumption | infer_instance | (skip; done))) (fun K hK => ?_)
          (((apply vL_val); (case h => ((apply opw_buildSl); exact rfl; exact rfl; exact rfl; exact (rfl : _ = some [_])))); apply vL_nil)
          refine ⟨rfl, hK _ _ ?_⟩
          refine vA_only 7 rfl (by kernel_rfl) (by (first | exact trivial | assumption | infer_instance | (skip; done))) (fun K hK => ?_)
          have S9 := S9.ac (show _ = Ow 34 1 ptE tv (tl) * (Pt wb [pt rb, (.slice va P.length vc), cv, tv, ev, .bool false] 61 * (Ow 28 1 ptE cv (cl.map (·.1)) * (Ow 100 5 ev5 ev [] * (PWA (L16 wb) rb none 0 kb2 (ps0 cl (tl ++ [tb])) * RwA qb (.slice va P.length vc) (rwI (sizes.map row0) 0))))) by ac_rfl)
          have o9 := S9.own
          refine vL_append (enc := ptE) (xs := tl) (ys := [tb]) (T := 34) (sz := 1) (by (((conv => lhs; whnf) <;> exact rfl))) (by (exact norm_eq rfl)) (Own.alloc (o9.1.frN ((Fr.refl No _).drew))) (Rd.new1 _ _ rfl) rfl (by decide) ?_ ?_ ?_
          · simp [maxLen]; omega
          · simp; omega
          intro v' w7 ho7 hf7 hfr7 hone7 _
          have hfa : Fr (fun j => own tv = some j) w6 w7 := (((Fr.refl _ w6).drew).alloc _).trans' hf7 (fun i hi => .inl hi)
          have S10 := S9.owTo hfa ho7 hone7 (fun k hk => (hfr7 k hk).imp id (fun h => by rw [alloc_size] at h; exact Nat.le_trans (Nat.le_succ _) h))
          have etx7 := etx6.fr hfa (fun h => Own.ne_blk o9.1 etx6 (by decide) h)
          have S11 := S10.ac (show _ = Pt wb [pt rb, (.slice va P.length vc), cv, tv, ev, .bool false] 61 * (Ow 34 1 ptE v' (tl ++ [tb]) * (Ow 28 1 ptE cv (cl.map (·.1)) * (Ow 100 5 ev5 ev [] * (PWA (L16 wb) rb none 0 kb2 (ps0 cl (tl ++ [tb])) * RwA qb (.slice va P.length vc) (rwI (sizes.map row0) 0))))) by ac_rfl)
          have ewb7 := S11.blk
          refine vL_nil ⟨rfl, hK _ _ ?_⟩
          ((apply (tk 8)); (case hi => exact rfl); (case hf => kernel_rfl); (case hS => (first | exact trivial | assumption | infer_instance | (skip; done))); (case hy => (intro wf hwf; (try dsimp only at hwf); (((apply opv_E); exact rfl)))))
          ((apply (tk 9)); (case hi => exact rfl); (case hf => kernel_rfl); (case hS => (first | exact trivial | assumption | infer_instance | (skip; done))); (case hy => (intro wf hwf; (try dsimp only at hwf); (((apply opv_fieldAddr); exact rfl)))))
          refine vA_only 10 rfl (by kernel_rfl) (by (first | exact trivial | assumption | infer_instance | (skip; done))) (fun K hK => ?_)
          (((apply vL_skip); (case h => ((apply ops_store1); exact norm_eq rfl; ((conv => lhs; whnf) <;> exact rfl); (first | rfl | assumption); assumption; (first | decide | exact of_decide_eq_true rfl | (simp; done))))); apply vL_nil)
          refine ⟨rfl, hK _ _ ?_⟩
          have S12 := S11.set (cs' := [pt rb, (.slice va P.length vc), cv, v', ev, .bool false])
          have etx8 := etx7.fr (F := fun k => k = wb) ((Fr.refl _ w7).set wb ([pt rb, (.slice va P.length vc), cv, v', ev, .bool false] : List Value).toArray (.inl rfl)) (Blk.ne_type etx7 ewb7 (by decide))
          refine vA_done (by kernel_rfl) (by (first | exact trivial | assumption | infer_instance | (skip; done))) ?_
          exact ⟨rfl, by ((apply same_updN; (iterate 10 (((refine same_updO ?_ ?_); rotate_left; exact rfl)))); exact fun _ _ => rfl), v', S12⟩
        · (((apply vL_val); (case h => ((apply opw_buildSl); exact rfl; exact rfl; exact rfl; exact (rfl : _ = some [_])))); apply vL_nil)
          refine ⟨rfl, hK _ _ ?_⟩
          refine vA_only 4 rfl (by kernel_rfl) (by (first | exact trivial | assumption | infer_instance | (skip; done))) (fun K hK => ?_)
          (((apply vL_val); (case h => ((apply opv_loadb1); exact rfl; exact rfl; infer_instance; exact rfl))); apply vL_nil)
          refine ⟨rfl, hK _ _ ?_⟩
          refine vA_only 7 rfl (by kernel_rfl) (by (first | exact trivial | assumption | infer_instance | (skip; done))) (fun K hK => ?_)
          have S9 := S9.ac (show _ = Ow 34 1 ptE tv (tl) * (Pt wb [pt rb, (.slice va P.length vc), cv, tv, ev, .bool false] 61 * (Ow 28 1 ptE cv (cl.map (·.1)) * (Ow 100 5 ev5 ev [] * (PWA (L16 wb) rb none 0 kb2 (ps0 cl (tl ++ [tb])) * RwA qb (.slice va P.length vc) (rwI (sizes.map row0) 0))))) by ac_rfl)
          have o9 := S9.own
          refine vL_append (enc := ptE) (xs := tl) (ys := [tb]) (T := 34) (sz := 1) (by (((conv => lhs; whnf) <;> exact rfl))) (by (exact norm_eq rfl)) (Own.alloc (o9.1.frN ((Fr.refl No _).drew))) (Rd.new1 _ _ rfl) rfl (by decide) ?_ ?_ ?_
          · simp [maxLen]; omega
          · simp; omega
          intro v' w7 ho7 hf7 hfr7 hone7 _
          have hfa : Fr (fun j => own tv = some j) w6 w7 := (((Fr.refl _ w6).drew).alloc _).trans' hf7 (fun i hi => .inl hi)
          have S10 := S9.owTo hfa ho7 hone7 (fun k hk => (hfr7 k hk).imp id (fun h => by rw [alloc_size] at h; exact Nat.le_trans (Nat.le_succ _) h))
          have etx7 := etx6.fr hfa (fun h => Own.ne_blk o9.1 etx6 (by decide) h)
          have S11 := S10.ac (show _ = Pt wb [pt rb, (.slice va P.length vc), cv, tv, ev, .bool false] 61 * (Ow 34 1 ptE v' (tl ++ [tb]) * (Ow 28 1 ptE cv (cl.map (·.1)) * (Ow 100 5 ev5 ev [] * (PWA (L16 wb) rb none 0 kb2 (ps0 cl (tl ++ [tb])) * RwA qb (.slice va P.length vc) (rwI (sizes.map row0) 0))))) by ac_rfl)
          have ewb7 := S11.blk
          refine vL_nil ⟨rfl, hK _ _ ?_⟩
          ((apply (tk 8)); (case hi => exact rfl); (case hf => kernel_rfl); (case hS => (first | exact trivial | assumption | infer_instance | (skip; done))); (case hy => (intro wf hwf; (try dsimp only at hwf); (((apply opv_E); exact rfl)))))
          ((apply (tk 9)); (case hi => exact rfl); (case hf => kernel_rfl); (case hS => (first | exact trivial | assumption | infer_instance | (skip; done))); (case hy => (intro wf hwf; (try dsimp only at hwf); (((apply opv_fieldAddr); exact rfl)))))
          refine vA_only 10 rfl (by kernel_rfl) (by (first | exact trivial | assumption | infer_instance | (skip; done))) (fun K hK => ?_)
          (((apply vL_skip); (case h => ((apply ops_store1); exact norm_eq rfl; ((conv => lhs; whnf) <;> exact rfl); (first | rfl | assumption); assumption; (first | decide | exact of_decide_eq_true rfl | (simp; done))))); apply vL_nil)
          refine ⟨rfl, hK _ _ ?_⟩
          have S12 := S11.set (cs' := [pt rb, (.slice va P.length vc), cv, v', ev, .bool false])
          have etx8 := etx7.fr (F := fun k => k = wb) ((Fr.refl _ w7).set wb ([pt rb, (.slice va P.length vc), cv, v', ev, .bool false] : List Value).toArray (.inl rfl)) (Blk.ne_type etx7 ewb7 (by decide))
          refine vA_done (by kernel_rfl) (by (first | exact trivial | assumption | infer_instance | (skip; done))) ?_
          exact ⟨rfl, by ((apply same_updN; (iterate 10 (((refine same_updO ?_ ?_); rotate_left; exact rfl)))); exact fun _ _ => rfl), v', S12⟩
      rintro junk9 w7 ⟨tv', S10⟩
      have S11 := wa_shut (S10.ac (show _ = Pt wb [pt rb, (.slice va P.length vc), cv, tv', ev, .bool false] 61 * (Ow 28 1 ptE cv (cl.map (·.1)) * (Ow 34 1 ptE tv' (tl ++ [tb]) * (Ow 100 5 ev5 ev [] * (PWA (L16 wb) rb none 0 kb2 (ps0 cl (tl ++ [tb])) * RwA qb (.slice va P.length vc) (rwI (sizes.map row0) 0))))) by ac_rfl))
      (apply blockP_normal; apply seqP_normal; apply vC_region; ((apply vL_val); (case h => ((apply opv_add); exact rfl; exact rfl; (first | omega | (simp only [List.length_map]; omega))))); ((apply vL_val); (case h => ((apply opv_E); exact rfl))); apply vL_nil; apply loopP_normal)
      (with_reducible apply end1); (case hs => ((iterate 20 (first | with_reducible apply same_updN | ((with_reducible refine same_updO ?_ ?_); rotate_left; exact rfl) | ((with_reducible refine same_maskIn ?_ ?_); rotate_left; exact rfl))); ((refine same_upd ?_ ?_); rotate_left; exact rfl); (exact same_mask _ _ _))); (case h1 => (exact norm_eq rfl))
      · exact ⟨k + 1, tl ++ [tb], kb2, rfl, by omega, by simp [htl], mt2, S11.ac (by ac_rfl)⟩
      · simp [RowKit.intOf]; omega
    · (apply vC_seq; apply vC_region; ((apply vL_val); (case h => ((apply opv_E); exact rfl))); apply vL_nil; apply seqP_normal; apply vC_seq; (refine vC_cond_dec rfl (fun h => by omega) (fun _ => ?_)); apply vC_exit; apply seqP_exit; apply loopP_exit; apply blockP_exit; apply seqP_normal; apply vC_seq; apply vC_region; ((apply vL_val); (case h => ((apply opv_E); exact rfl))))
      obtain rfl : k = P.length := by omega
      refine vL_callF rfl (rf_spawn z hP6 (S5.ac (show _ = RwA qb (.slice va P.length vc) (rwI (sizes.map row0) 0) * (PWA (L16 wb) rb none 0 kb (ps0 cl tl) * WA wb rb (.slice va P.length vc) (cl.map (·.1)) tl [] false) by ac_rfl))) rfl ?_
      intro _ w5 S6
      have etx := pw_bx (S6.ac (show _ = PWA (L16 wb) rb none 0 kb (ps0 cl tl) * (WA wb rb (.slice va P.length vc) (cl.map (·.1)) tl [] false * RwA qb (.slice va P.length vc) (rwI (sizes.map row0) P.length)) by ac_rfl)) mt
      (apply vL_nil; apply seqP_normal; apply vC_seq; apply vC_region; ((apply vL_val); (case h => ((apply opv_loadb1); exact rfl; exact rfl; assumption; exact rfl))); (iterate 3 (((apply vL_val); (case h => ((apply opv_E); exact rfl))))); apply vL_nil; apply seqP_normal; apply vC_ret)
      (apply ret2; (case h1 => (exact norm_eq rfl)); (case h2 => (exact norm_eq rfl)))
      exact ⟨wb, qb, rb, cl, tl, kb, rfl, hcl, htl, S6.ac (by ac_rfl)⟩
end
end Go.Proofs.YtbaidcnalkdhgaaGreat
set_option maxRecDepth 100000
namespace Go.Proofs.YtbaidcnalkdhgaaGreat
open Go Go.Eng
theorem rd_lit {α : Type} {enc : α → List Value} {sz : Nat} [ie : EncOk enc sz] {h : Array Obj} {b : Nat} {cs : List Value} {T : TypeId} (xs : List α) (hb : Blk h b cs T) (hc : xs.flatMap enc = cs) (hl : xs.length ≤ 10) : Rd h sz enc (.slice (some ⟨b, 0, none⟩) xs.length xs.length) xs := by
  have : Own h T sz enc (.slice (some ⟨b, 0, none⟩) xs.length xs.length) xs := ⟨fun x _ => ie.len x, .inr ⟨b, xs.length, cs, rfl, hb, Nat.le_refl _, by simp [maxLen]; omega, by rw [← hc, flatMap_len xs (fun x _ => ie.len x)], by rw [← hc, List.take_of_length_le]; rw [flatMap_len xs (fun x _ => ie.len x)]; exact Nat.le_refl _⟩⟩
  exact this.rd
theorem inv16_init {P : List (List Do5)} {cl : List (Nat × Int)} {tl : List Nat} (h : tl.length = P.length) : Inv16 P cl tl (ps0 cl tl, []) := by
  have hk : (ps0 cl tl).sts.map St.key = tl.mapIdx fun i t => some ⟨t, i, 0, ⟨0, 0, false⟩⟩ := by
    unfold ps0 born16
    refine List.ext_getElem? fun i => ?_
    rw [List.getElem?_map, List.getElem?_mapIdx, List.getElem?_mapIdx]
    cases tl[i]? <;> rfl
  refine ⟨?_, rfl, ?_, h, fun i k hi => ?_⟩
  · show (cl.map c16).map C16.cbz = cl
    rw [List.map_map]
    exact List.map_id cl
  · show (born16 tl).length = _
    unfold born16
    rw [List.length_mapIdx, h]
  · have hi : ((ps0 cl tl).sts.map St.key)[i]? = some (some k) := hi
    rw [hk, List.getElem?_mapIdx] at hi
    cases ht : tl[i]? with
    | none => rw [ht] at hi; cases hi
    | some t =>
      rw [ht] at hi
      cases hi
      exact ⟨rfl, rfl, Nat.zero_le _⟩
/-- the law's world -/
def W16 (wb rb : Nat) (vp : Value) (cl : List (Nat × Int)) (tl : List Nat) (T : T16) : Asr := Ex fun kb : List Bx => PWA (L16 wb) rb none 0 kb T.1 * WA wb rb vp (cl.map (·.1)) tl T.2 false
instance instLclW16 (wb rb : Nat) (vp : Value) (cl : List (Nat × Int)) (tl : List Nat) (T : T16) : Lcl (W16 wb rb vp cl tl T) := by unfold W16; infer_instance
section
variable {w w0 : World} {R : Asr} {wb rb : Nat} {vp : Value} {cl : List (Nat × Int)} {tl : List Nat} {T : T16} {F0 : Nat → Prop}
theorem w16_open (S : At (W16 wb rb vp cl tl T * R) w0 F0 w) : ∃ kb, At (PWA (L16 wb) rb none 0 kb T.1 * (WA wb rb vp (cl.map (·.1)) tl T.2 false * R)) w0 F0 w := by
  unfold W16 at S
  obtain ⟨kb, S⟩ := S.ex
  exact ⟨kb, S.ac (star_assoc _ _ _)⟩
theorem w16_shut {kb : List Bx} (S : At (PWA (L16 wb) rb none 0 kb T.1 * (WA wb rb vp (cl.map (·.1)) tl T.2 false * R)) w0 F0 w) : At (W16 wb rb vp cl tl T * R) w0 F0 w := by
  unfold W16
  exact At.intro kb (S.ac (star_assoc _ _ _).symm)
/-- what the programs are: kept all along -/
structure Pr16 (w0 : World) (vp : Value) (P : List (OV × List Do5)) (cl : List (Nat × Int)) : Prop where
  z : Pz16 w0.heap vp P
  six : P.length ≤ 6
  ch : ∀ y ∈ P, ∀ (d : Do5), d ∈ y.2 → 0 ≤ d.c ∧ d.c < (cl.length : Int)
  pos : 0 < cl.length
theorem w16_step [Lcl R] {P : List (OV × List Do5)} (p : Pr16 w0 vp P cl) (S : At (W16 wb rb vp cl tl T * R) w0 No w) (I : Inv16 (P.map (·.2)) cl tl T) (hev : T.2.length ≤ 100000) (k : Int) (hk : 0 ≤ k ∧ k ≤ 18446744073709551615) :
    Rets Tryz.prog 24 #[pt rb, .int .u64 k] w fun u w' => (step16 (P.map (·.2)) T k = none ∧ u = .bool false ∧ At (W16 wb rb vp cl tl T * R) w0 No w') ∨ ∃ T', step16 (P.map (·.2)) T k = some T' ∧ Inv16 (P.map (·.2)) cl tl T' ∧ T'.2.length = T.2.length + 1 ∧ u = .bool true ∧ At (W16 wb rb vp cl tl T' * R) w0 No w' := by
  obtain ⟨kb, S1⟩ := w16_open S
  refine (w_step p.z p.six S1 I p.ch p.pos hev k hk).mono fun u w' h => ?_
  rcases h with ⟨h1, h2, rfl, rfl⟩ | ⟨T', h1, h2, h3, rfl, kb', _, h4⟩
  · exact .inl ⟨h2, rfl, S⟩
  · exact .inr ⟨T', h1, h2, h3, rfl, w16_shut h4⟩
/-- what can be seen of it -/
theorem w16_see [Lcl R] (S : At (W16 wb rb vp cl tl T * R) w0 F0 w) : ∃ cv tv ev, Blk w.heap wb [pt rb, vp, cv, tv, ev, .bool false] 61 ∧ Own w.heap 28 1 ptE cv (cl.map (·.1)) ∧ Own w.heap 34 1 ptE tv tl ∧ Own w.heap 100 5 ev5 ev T.2 ∧ cv.oneCell' = true ∧ tv.oneCell' = true ∧ ev.oneCell' = true := by
  obtain ⟨kb, S1⟩ := w16_open S
  obtain ⟨cv, tv, ev, S2⟩ := wa_open (S1.ac (show _ = WA wb rb vp (cl.map (·.1)) tl T.2 false * (PWA (L16 wb) rb none 0 kb T.1 * R) by ac_rfl))
  have h1 := (S2.ac (show _ = Ow 28 1 ptE cv (cl.map (·.1)) * (Pt wb [pt rb, vp, cv, tv, ev, .bool false] 61 * (Ow 34 1 ptE tv tl * (Ow 100 5 ev5 ev T.2 * (PWA (L16 wb) rb none 0 kb T.1 * R)))) by ac_rfl)).own
  have h2 := (S2.ac (show _ = Ow 34 1 ptE tv tl * (Pt wb [pt rb, vp, cv, tv, ev, .bool false] 61 * (Ow 28 1 ptE cv (cl.map (·.1)) * (Ow 100 5 ev5 ev T.2 * (PWA (L16 wb) rb none 0 kb T.1 * R)))) by ac_rfl)).own
  have h3 := (S2.ac (show _ = Ow 100 5 ev5 ev T.2 * (Pt wb [pt rb, vp, cv, tv, ev, .bool false] 61 * (Ow 28 1 ptE cv (cl.map (·.1)) * (Ow 34 1 ptE tv tl * (PWA (L16 wb) rb none 0 kb T.1 * R)))) by ac_rfl)).own
  exact ⟨cv, tv, ev, S2.blk, h1.1, h2.1, h3.1, h1.2, h2.2, h3.2⟩
end
end Go.Proofs.YtbaidcnalkdhgaaGreat
set_option maxRecDepth 100000
namespace Go.Proofs.YtbaidcnalkdhgaaGreat
open Go Go.Eng
theorem len1 {α : Type} : ∀ {l : List α}, l.length = 1 → ∃ x, l = [x]
  | [x], _ => ⟨x, rfl⟩
theorem len2 {α : Type} : ∀ {l : List α}, l.length = 2 → ∃ x y, l = [x, y]
  | [x, y], _ => ⟨x, y, rfl⟩
def nl0 : OV := ⟨.slice none 0 0, rfl⟩
def pa16 (b1 b2 : Nat) : List (OV × List Do5) := [(⟨.slice (some ⟨b1, 0, none⟩) 2 2, rfl⟩, [⟨2, 0, 5, nl0, false⟩, ⟨4, 0, 0, nl0, false⟩]), (⟨.slice (some ⟨b2, 0, none⟩) 2 2, rfl⟩, [⟨3, 0, 0, nl0, false⟩, ⟨3, 0, 0, nl0, false⟩])]
def Qa16 : List (List Do5) := [[⟨2, 0, 5, nl0, false⟩, ⟨4, 0, 0, nl0, false⟩], [⟨3, 0, 0, nl0, false⟩, ⟨3, 0, 0, nl0, false⟩]]
/-- the last that task 1 was told as it went on the first time -/
def lastE (E : List Ev5) (k : Nat) : Ev5 := (E.take k).foldl (fun acc e => if e.t = 1 ∧ e.a = 1 then e else acc) ⟨0, 0, 0, 0, false⟩
theorem run16a (t0 t1 cb : Nat) : runF (step16 Qa16) [1, 0] 20 0 (⟨[.rdyS ⟨t0, 0, 1, ⟨0, 0, false⟩⟩ true, .rdyR ⟨t1, 1, 1, ⟨0, 0, false⟩⟩ 5 true], [t0, t1], [⟨cb, 0, [], [], [], false⟩], [0, 1]⟩, [⟨0, 0, 0, 0, false⟩, ⟨1, 0, 0, 0, false⟩]) = (4, (⟨[.over, .over], [t0, t1], [⟨cb, 0, [], [], [], true⟩], []⟩, [⟨0, 0, 0, 0, false⟩, ⟨1, 0, 0, 0, false⟩, ⟨1, 1, 0, 5, true⟩, ⟨0, 1, 0, 0, true⟩, ⟨0, 2, 0, 0, true⟩, ⟨1, 2, 0, 0, false⟩])) := by
  rw [runF_some (s' := (⟨[.rdyS ⟨t0, 0, 1, ⟨0, 0, false⟩⟩ true, .wR ⟨t1, 1, 2, ⟨0, 0, false⟩⟩ 0], [t0, t1], [⟨cb, 0, [], [], [1], false⟩], [0]⟩, [⟨0, 0, 0, 0, false⟩, ⟨1, 0, 0, 0, false⟩, ⟨1, 1, 0, 5, true⟩])) (show step16 Qa16 (⟨[.rdyS ⟨t0, 0, 1, ⟨0, 0, false⟩⟩ true, .rdyR ⟨t1, 1, 1, ⟨0, 0, false⟩⟩ 5 true], [t0, t1], [⟨cb, 0, [], [], [], false⟩], [0, 1]⟩, [⟨0, 0, 0, 0, false⟩, ⟨1, 0, 0, 0, false⟩]) (pkA [1, 0] 0) = _ from rfl)]
  rw [runF_some (s' := (⟨[.rdyY ⟨t0, 0, 2, ⟨0, 0, true⟩⟩, .rdyR ⟨t1, 1, 2, ⟨0, 0, false⟩⟩ 0 false], [t0, t1], [⟨cb, 0, [], [], [], true⟩], [1, 0]⟩, [⟨0, 0, 0, 0, false⟩, ⟨1, 0, 0, 0, false⟩, ⟨1, 1, 0, 5, true⟩, ⟨0, 1, 0, 0, true⟩])) (show step16 Qa16 (⟨[.rdyS ⟨t0, 0, 1, ⟨0, 0, false⟩⟩ true, .wR ⟨t1, 1, 2, ⟨0, 0, false⟩⟩ 0], [t0, t1], [⟨cb, 0, [], [], [1], false⟩], [0]⟩, [⟨0, 0, 0, 0, false⟩, ⟨1, 0, 0, 0, false⟩, ⟨1, 1, 0, 5, true⟩]) (pkA [1, 0] 1) = _ from rfl)]
  rw [runF_some (s' := (⟨[.over, .rdyR ⟨t1, 1, 2, ⟨0, 0, false⟩⟩ 0 false], [t0, t1], [⟨cb, 0, [], [], [], true⟩], [1]⟩, [⟨0, 0, 0, 0, false⟩, ⟨1, 0, 0, 0, false⟩, ⟨1, 1, 0, 5, true⟩, ⟨0, 1, 0, 0, true⟩, ⟨0, 2, 0, 0, true⟩])) (show step16 Qa16 (⟨[.rdyY ⟨t0, 0, 2, ⟨0, 0, true⟩⟩, .rdyR ⟨t1, 1, 2, ⟨0, 0, false⟩⟩ 0 false], [t0, t1], [⟨cb, 0, [], [], [], true⟩], [1, 0]⟩, [⟨0, 0, 0, 0, false⟩, ⟨1, 0, 0, 0, false⟩, ⟨1, 1, 0, 5, true⟩, ⟨0, 1, 0, 0, true⟩]) (pkA [1, 0] 2) = _ from rfl)]
  rw [runF_some (s' := (⟨[.over, .over], [t0, t1], [⟨cb, 0, [], [], [], true⟩], []⟩, [⟨0, 0, 0, 0, false⟩, ⟨1, 0, 0, 0, false⟩, ⟨1, 1, 0, 5, true⟩, ⟨0, 1, 0, 0, true⟩, ⟨0, 2, 0, 0, true⟩, ⟨1, 2, 0, 0, false⟩])) (show step16 Qa16 (⟨[.over, .rdyR ⟨t1, 1, 2, ⟨0, 0, false⟩⟩ 0 false], [t0, t1], [⟨cb, 0, [], [], [], true⟩], [1]⟩, [⟨0, 0, 0, 0, false⟩, ⟨1, 0, 0, 0, false⟩, ⟨1, 1, 0, 5, true⟩, ⟨0, 1, 0, 0, true⟩, ⟨0, 2, 0, 0, true⟩]) (pkA [1, 0] 3) = _ from rfl)]
  exact runF_none (show step16 Qa16 (⟨[.over, .over], [t0, t1], [⟨cb, 0, [], [], [], true⟩], []⟩, [⟨0, 0, 0, 0, false⟩, ⟨1, 0, 0, 0, false⟩, ⟨1, 1, 0, 5, true⟩, ⟨0, 1, 0, 0, true⟩, ⟨0, 2, 0, 0, true⟩, ⟨1, 2, 0, 0, false⟩]) (pkA [1, 0] 4) = none from rfl)
theorem awake16 (w : World) : Rets Tryz.prog 28 #[] w fun u w' => u = .bool true ∧ Fr No w w' := by
  refine rets_of Tryz.func28 rfl Tryz.ntmps28 rfl rfl (by kernel_rfl) ?_
  (apply vC_seq; apply vC_region; ((apply vL_val); (case h => ((apply opv_E); exact rfl))); apply vL_nil; apply seqP_normal; apply vC_seq; apply vC_region; (iterate 6 (first | ((with_reducible apply vL_val); (case h => ((with_reducible apply opv_buildS); exact rfl; exact (rfl : _ = some [_, _, _, _, _])))) | ((with_reducible apply vL_val); (case h => ((with_reducible apply opw_buildSl); exact rfl; exact rfl; exact rfl; exact (rfl : _ = some [_, _, _, _, _, _, _, _, _, _])))))); ((apply vL_val); (case h => ((apply opw_buildSl); exact rfl; exact rfl; exact rfl; exact (rfl : _ = some [_, _])))); ((apply vL_val); (case h => ((apply opw_buildSl); exact rfl; exact rfl; exact rfl; exact (rfl : _ = some [_])))))
  refine vL_gen (fun w' => Fr No w w' ∧ Blk w'.heap w.heap.size [.int .i64 2, .int .i64 0, .int .i64 5, .slice none 0 0, .bool false, .int .i64 4, .int .i64 0, .int .i64 0, .slice none 0 0, .bool false] 167 ∧ Blk w'.heap (w.alloc (.cells #[.int .i64 2, .int .i64 0, .int .i64 5, .slice none 0 0, .bool false, .int .i64 4, .int .i64 0, .int .i64 0, .slice none 0 0, .bool false] 167)).heap.size [.int .i64 3, .int .i64 0, .int .i64 0, .slice none 0 0, .bool false, .int .i64 3, .int .i64 0, .int .i64 0, .slice none 0 0, .bool false] 167 ∧ Blk w'.heap ((w.alloc (.cells #[.int .i64 2, .int .i64 0, .int .i64 5, .slice none 0 0, .bool false, .int .i64 4, .int .i64 0, .int .i64 0, .slice none 0 0, .bool false] 167)).alloc (.cells #[.int .i64 3, .int .i64 0, .int .i64 0, .slice none 0 0, .bool false, .int .i64 3, .int .i64 0, .int .i64 0, .slice none 0 0, .bool false] 167)).heap.size [.slice (some ⟨w.heap.size, 0, none⟩) 2 2, .slice (some ⟨(w.alloc (.cells #[.int .i64 2, .int .i64 0, .int .i64 5, .slice none 0 0, .bool false, .int .i64 4, .int .i64 0, .int .i64 0, .slice none 0 0, .bool false] 167)).heap.size, 0, none⟩) 2 2] 168 ∧ Blk w'.heap (((w.alloc (.cells #[.int .i64 2, .int .i64 0, .int .i64 5, .slice none 0 0, .bool false, .int .i64 4, .int .i64 0, .int .i64 0, .slice none 0 0, .bool false] 167)).alloc (.cells #[.int .i64 3, .int .i64 0, .int .i64 0, .slice none 0 0, .bool false, .int .i64 3, .int .i64 0, .int .i64 0, .slice none 0 0, .bool false] 167)).alloc (.cells #[.slice (some ⟨w.heap.size, 0, none⟩) 2 2, .slice (some ⟨(w.alloc (.cells #[.int .i64 2, .int .i64 0, .int .i64 5, .slice none 0 0, .bool false, .int .i64 4, .int .i64 0, .int .i64 0, .slice none 0 0, .bool false] 167)).heap.size, 0, none⟩) 2 2] 168)).heap.size [.int .i64 0] 3) ⟨by ((iterate 4 (apply Fr.alloc)); exact Fr.refl _ _), Blk.as inferInstance rfl, Blk.as inferInstance rfl, Blk.as inferInstance rfl, Blk.as inferInstance rfl⟩ ?_
  rintro w4 ⟨hf4, k1, k2, k3, k4⟩
  generalize (((w.alloc (.cells #[.int .i64 2, .int .i64 0, .int .i64 5, .slice none 0 0, .bool false, .int .i64 4, .int .i64 0, .int .i64 0, .slice none 0 0, .bool false] 167)).alloc (.cells #[.int .i64 3, .int .i64 0, .int .i64 0, .slice none 0 0, .bool false, .int .i64 3, .int .i64 0, .int .i64 0, .slice none 0 0, .bool false] 167)).alloc (.cells #[.slice (some ⟨w.heap.size, 0, none⟩) 2 2, .slice (some ⟨(w.alloc (.cells #[.int .i64 2, .int .i64 0, .int .i64 5, .slice none 0 0, .bool false, .int .i64 4, .int .i64 0, .int .i64 0, .slice none 0 0, .bool false] 167)).heap.size, 0, none⟩) 2 2] 168)).heap.size = b4 at *
  generalize ((w.alloc (.cells #[.int .i64 2, .int .i64 0, .int .i64 5, .slice none 0 0, .bool false, .int .i64 4, .int .i64 0, .int .i64 0, .slice none 0 0, .bool false] 167)).alloc (.cells #[.int .i64 3, .int .i64 0, .int .i64 0, .slice none 0 0, .bool false, .int .i64 3, .int .i64 0, .int .i64 0, .slice none 0 0, .bool false] 167)).heap.size = b3 at *
  generalize (w.alloc (.cells #[.int .i64 2, .int .i64 0, .int .i64 5, .slice none 0 0, .bool false, .int .i64 4, .int .i64 0, .int .i64 0, .slice none 0 0, .bool false] 167)).heap.size = b2 at *
  generalize w.heap.size = b1 at *
  have z : Pz16 w4.heap (.slice (some ⟨b3, 0, none⟩) 2 2) (pa16 b1 b2) := ⟨rd_lit (enc := oE) (pa16 b1 b2) k3 rfl (show 2 ≤ 10 by decide), fun y hy => by
    simp only [pa16, List.mem_cons, List.not_mem_nil, or_false] at hy
    rcases hy with rfl | rfl
    · exact rd_lit (enc := do5) [⟨2, 0, 5, nl0, false⟩, ⟨4, 0, 0, nl0, false⟩] k1 rfl (by decide)
    · exact rd_lit (enc := do5) [⟨3, 0, 0, nl0, false⟩, ⟨3, 0, 0, nl0, false⟩] k2 rfl (by decide), rfl⟩
  have hs : Rd w4.heap 1 iE (.slice (some ⟨b4, 0, none⟩) 1 1) [0] := rd_lit (enc := iE) [0] k4 rfl (by decide)
  have hPm : (pa16 b1 b2).map (·.2) = Qa16 := rfl
  refine vL_callF rfl (begun16 z (show 2 ≤ 6 by decide) hs (by decide) (by decide) rfl) rfl ?_
  rintro _ w5 ⟨wb, qb, rb, cl, tl, kb, rfl, hcl, htl, S5⟩
  obtain ⟨⟨cb, c0⟩, rfl⟩ : ∃ x, cl = [x] := len1 (by have := congrArg List.length hcl; simpa using this)
  obtain rfl : c0 = 0 := by simpa using hcl
  obtain ⟨t0, t1, rfl⟩ : ∃ t0 t1, tl = [t0, t1] := len2 htl
  have I0 : Inv16 ((pa16 b1 b2).map (·.2)) [(cb, 0)] [t0, t1] (ps0 [(cb, 0)] [t0, t1], []) := inv16_init rfl
  have pr : Pr16 w4 (.slice (some ⟨b3, 0, none⟩) 2 2) (pa16 b1 b2) [(cb, 0)] := ⟨z, show 2 ≤ 6 by decide, fun y hy d hd => by
    simp only [pa16, List.mem_cons, List.not_mem_nil, or_false] at hy
    rcases hy with rfl | rfl <;> (simp only [List.mem_cons, List.not_mem_nil, or_false] at hd; rcases hd with rfl | rfl <;> exact ⟨Int.le_refl _, show (0 : Int) < 1 by decide⟩), Nat.one_pos⟩
  generalize (.slice (some ⟨b3, 0, none⟩) 2 2 : Value) = vp at *
  have S6 : At (W16 wb rb vp [(cb, 0)] [t0, t1] (ps0 [(cb, 0)] [t0, t1], []) * RwA qb vp (rwI ([0].map row0) (pa16 b1 b2).length)) w4 No w5 := w16_shut S5
  clear S5 k1 k2 k3 k4 hs z
  obtain ⟨_, _, _, h51, h52, h53, h54, h55, h56, h57⟩ := w16_see S6
  ((iterate 5 (((apply vL_val); (case h => ((apply opv_E); exact rfl))))); apply vL_nil; apply seqP_normal; (iterate 2 (apply vC_seq)); apply vC_region; (iterate 8 (first | ((with_reducible apply vL_val); (case h => ((with_reducible apply opv_E); exact rfl))) | ((with_reducible apply vL_val); (case h => ((with_reducible apply opv_eql_pnil); exact rfl; exact rfl; (simp; done)))) | ((with_reducible apply vL_wanted); exact rfl))); ((apply vL_val); (case h => ((apply opv_fieldAddr); exact rfl))); ((apply vL_wanted); exact rfl); ((apply vL_val); (case h => ((apply opv_loadb1); exact rfl; exact rfl; assumption; exact rfl))); ((apply vL_wanted); exact rfl))
  refine vL_callF rfl (w16_step pr S6 I0 (Nat.zero_le _) 0 (by decide)) rfl ?_
  rw [hPm]
  have hs1 : step16 Qa16 (ps0 [(cb, 0)] [t0, t1], []) 0 = some (⟨[.wS ⟨t0, 0, 1, ⟨0, 0, false⟩⟩ 0 5, .rdyY ⟨t1, 1, 0, ⟨0, 0, false⟩⟩], [t0, t1], [⟨cb, 0, [], [0], [], false⟩], [1]⟩, [⟨0, 0, 0, 0, false⟩]) := rfl
  rw [hs1]
  rintro _ w6 (⟨h, _⟩ | ⟨T1, h, I1, hl1, rfl, S7⟩)
  · cases h
  obtain rfl := Option.some.inj h
  clear h hs1 h51 h52 h53 h54 S6 hl1 I0
  obtain ⟨_, _, _, h61, h62, h63, h64, h65, h66, h67⟩ := w16_see S7
  (((apply vL_wanted); exact rfl); ((apply vL_val); (case h => ((apply opv_not); exact rfl))); (iterate 7 (first | ((with_reducible apply vL_val); (case h => ((with_reducible apply opv_E); exact rfl))) | ((with_reducible apply vL_wanted); exact rfl))); ((apply vL_val); (case h => ((apply opv_fieldAddr); exact rfl))); ((apply vL_wanted); exact rfl); ((apply vL_val); (case h => ((apply opv_loadb1); exact rfl; exact rfl; assumption; exact rfl))); ((apply vL_wanted); exact rfl))
  obtain ⟨kb1, S8⟩ := w16_open S7
  refine vL_callF rfl (pw_parked S8) rfl ?_
  intro v7 w7 S9
  have o9 : Own w7.heap 3 1 iE v7 [0] := S9.own.1
  have S10 := w16_shut S9.drop
  obtain ⟨_, _, _, h71, h72, h73, h74, h75, h76, h77⟩ := w16_see S10
  obtain ⟨ra, rn, rc, rfl⟩ := o9.isSlice
  clear h61 h62 h63 h64 S7 S8 S9
  (((apply vL_wanted); exact rfl); ((apply vL_val); (case h => ((apply opw_buildSl); exact rfl; exact rfl; exact rfl; exact (rfl : _ = some [_])))); ((apply vL_wanted); exact rfl))
  refine vL_callF rfl (kit_same_int _ _ [0] [0] _ (o9.rd.alloc) (Rd.new1 iE 0 rfl)) rfl ?_
  rintro _ w8 ⟨⟨k8, rfl⟩, rfl⟩
  have S11 := S10.frN (show Fr No w7 ((w7.alloc (.cells #[.int .i64 0] 3)).drewN k8) by (apply Fr.drewN; apply Fr.alloc; exact Fr.refl _ _))
  obtain ⟨_, _, _, h81, h82, h83, h84, h85, h86, h87⟩ := w16_see S11
  clear h71 h72 h73 h74 S10 o9
  generalize (w7.alloc (.cells #[.int .i64 0] 3)).drewN k8 = w8 at *
  (((apply vL_wanted); exact rfl); ((apply vL_val); (case h => ((apply opv_not); exact rfl))); (iterate 7 (first | ((with_reducible apply vL_val); (case h => ((with_reducible apply opv_E); exact rfl))) | ((with_reducible apply vL_wanted); exact rfl))); ((apply vL_val); (case h => ((apply opv_fieldAddr); exact rfl))); ((apply vL_wanted); exact rfl); ((apply vL_val); (case h => ((apply opv_loadb1); exact rfl; exact rfl; assumption; exact rfl))); ((apply vL_wanted); exact rfl))
  refine vL_callF rfl (w16_step pr S11 I1 (show 1 ≤ 100000 by decide) 0 (by decide)) rfl ?_
  rw [hPm]
  have hs2 : step16 Qa16 (⟨[.wS ⟨t0, 0, 1, ⟨0, 0, false⟩⟩ 0 5, .rdyY ⟨t1, 1, 0, ⟨0, 0, false⟩⟩], [t0, t1], [⟨cb, 0, [], [0], [], false⟩], [1]⟩, [⟨0, 0, 0, 0, false⟩]) 0 = some (⟨[.rdyS ⟨t0, 0, 1, ⟨0, 0, false⟩⟩ true, .rdyR ⟨t1, 1, 1, ⟨0, 0, false⟩⟩ 5 true], [t0, t1], [⟨cb, 0, [], [], [], false⟩], [0, 1]⟩, [⟨0, 0, 0, 0, false⟩, ⟨1, 0, 0, 0, false⟩]) := rfl
  rw [hs2]
  rintro _ w9 (⟨h, _⟩ | ⟨T1, h, I2, hl2, rfl, S12⟩)
  · cases h
  obtain rfl := Option.some.inj h
  clear h hs2 h81 h82 h83 h84 S11 hl2 I1
  obtain ⟨_, _, _, h91, h92, h93, h94, h95, h96, h97⟩ := w16_see S12
  (((apply vL_wanted); exact rfl); ((apply vL_val); (case h => ((apply opv_not); exact rfl))); (iterate 7 (first | ((with_reducible apply vL_val); (case h => ((with_reducible apply opv_E); exact rfl))) | ((with_reducible apply vL_wanted); exact rfl))); ((apply vL_val); (case h => ((apply opv_fieldAddr); exact rfl))); ((apply vL_wanted); exact rfl); ((apply vL_val); (case h => ((apply opv_loadb1); exact rfl; exact rfl; assumption; exact rfl))); ((apply vL_wanted); exact rfl))
  obtain ⟨kb2, S13⟩ := w16_open S12
  refine vL_callF rfl (pw_ready S13) rfl ?_
  intro v10 w10 S14
  have o10 : Own w10.heap 3 1 iE v10 [0, 1] := S14.own.1
  have S15 := w16_shut S14.drop
  obtain ⟨_, _, _, h101, h102, h103, h104, h105, h106, h107⟩ := w16_see S15
  obtain ⟨qa, qn, qc, rfl⟩ := o10.isSlice
  clear h91 h92 h93 h94 S12 S13 S14
  (((apply vL_wanted); exact rfl); ((apply vL_val); (case h => ((apply opw_buildSl); exact rfl; exact rfl; exact rfl; exact (rfl : _ = some [_, _])))); ((apply vL_wanted); exact rfl))
  refine vL_callF rfl (kit_same_int _ _ [0, 1] [0, 1] _ (o10.rd.alloc) (Rd.newN iE [0, 1] rfl rfl (by decide))) rfl ?_
  rintro _ w11 ⟨⟨k11, rfl⟩, rfl⟩
  have S16 := S15.frN (show Fr No w10 ((w10.alloc (.cells #[.int .i64 0, .int .i64 1] 3)).drewN k11) by (apply Fr.drewN; apply Fr.alloc; exact Fr.refl _ _))
  obtain ⟨_, _, _, h111, h112, h113, h114, h115, h116, h117⟩ := w16_see S16
  clear h101 h102 h103 h104 S15 o10
  generalize (w10.alloc (.cells #[.int .i64 0, .int .i64 1] 3)).drewN k11 = w11 at *
  (((apply vL_wanted); exact rfl); ((apply vL_val); (case h => ((apply opv_not); exact rfl))); ((apply vL_val); (case h => ((apply opv_E); exact rfl))); apply vL_nil; apply seqP_normal; ((apply vC_cond_false); exact rfl); apply vC_skip; apply seqP_normal; apply vC_seq; apply vC_region; (iterate 2 (((apply vL_val); (case h => ((apply opv_E); exact rfl))))); ((apply vL_val); (case h => ((apply opv_fieldAddr); exact rfl))); ((apply vL_val); (case h => ((apply opv_loadb1); exact rfl; exact rfl; assumption; exact rfl))); ((apply vL_val); (case h => ((apply opw_buildSl); exact rfl; exact rfl; exact rfl; exact (rfl : _ = some [_, _])))))
  refine vL_gen (fun w' => At (Pt w11.heap.size [.int .u64 1, .int .u64 0] 43 * (W16 wb rb vp [(cb, 0)] [t0, t1] (⟨[.rdyS ⟨t0, 0, 1, ⟨0, 0, false⟩⟩ true, .rdyR ⟨t1, 1, 1, ⟨0, 0, false⟩⟩ 5 true], [t0, t1], [⟨cb, 0, [], [], [], false⟩], [0, 1]⟩, [⟨0, 0, 0, 0, false⟩, ⟨1, 0, 0, 0, false⟩]) * RwA qb vp (rwI ([0].map row0) (pa16 b1 b2).length))) w4 No w') S16.alloc ?_
  clear h111 h112 h113 h114 S16
  intro w12 S17
  generalize w11.heap.size = bk at *
  have hrg := run_gen (fun T => W16 wb rb vp [(cb, 0)] [t0, t1] T) (step16 Qa16) (fun n T => Inv16 Qa16 [(cb, 0)] [t0, t1] T ∧ T.2.length ≤ n + 2) (R := Pt bk [.int .u64 1, .int .u64 0] 43 * RwA qb vp (rwI ([0].map row0) (pa16 b1 b2).length)) (picks := [1, 0]) 20 (by decide) (fun n T p w' hn hG hp S => (w16_step pr S hG.1 (by omega) p hp).mono fun u w'' h => h.imp (fun h => h) (fun ⟨T', g1, g2, g3, g4, g5⟩ => ⟨T', g1, ⟨g2, by omega⟩, g4, g5⟩)) (fun T w' S => rd_lit (enc := uE) [1, 0] (S.ac (show _ = Pt bk [.int .u64 1, .int .u64 0] 43 * (RwA qb vp (rwI ([0].map row0) (pa16 b1 b2).length) * W16 wb rb vp [(cb, 0)] [t0, t1] T) by ac_rfl)).blk rfl (by decide)) (by decide) _ ⟨I2, Nat.le_refl _⟩ (S17.ac (by ac_rfl))
  refine vL_callF rfl (hrg) rfl ?_
  rintro _ w13 ⟨n, T3, hrun, rfl, ⟨I3, _⟩, S18⟩
  have hr4 := (run16a t0 t1 cb).symm.trans hrun
  obtain ⟨rfl, rfl⟩ := Prod.mk.inj hr4
  clear hr4 hrun hrg
  obtain ⟨R4, hR4⟩ : ∃ R4, R4 = Pt bk [.int .u64 1, .int .u64 0] 43 * RwA qb vp (rwI ([0].map row0) (pa16 b1 b2).length) := ⟨_, rfl⟩
  rw [← hR4] at S18
  haveI : Lcl R4 := by rw [hR4]; infer_instance
  clear hR4 S17
  obtain ⟨kb3, S19⟩ := w16_open S18
  obtain ⟨E, hE⟩ : ∃ E : List Ev5, E = [⟨0, 0, 0, 0, false⟩, ⟨1, 0, 0, 0, false⟩, ⟨1, 1, 0, 5, true⟩, ⟨0, 1, 0, 0, true⟩, ⟨0, 2, 0, 0, true⟩, ⟨1, 2, 0, 0, false⟩] := ⟨_, rfl⟩
  simp only [← hE] at S19
  obtain ⟨cv, tv, ev, S20⟩ := wa_open (S19.ac (show _ = WA wb rb vp [cb] [t0, t1] E false * (PWA (L16 wb) rb none 0 kb3 ⟨[.over, .over], [t0, t1], [⟨cb, 0, [], [], [], true⟩], []⟩ * R4) by ac_rfl))
  have hb20 := S20.blk
  have hE6 : E.length = 6 := by rw [hE]; rfl
  obtain ⟨R5, hR5⟩ : ∃ R5, R5 = Pt wb [pt rb, vp, cv, tv, ev, .bool false] 61 * (Ow 28 1 ptE cv [cb] * (Ow 34 1 ptE tv [t0, t1] * (PWA (L16 wb) rb none 0 kb3 ⟨[.over, .over], [t0, t1], [⟨cb, 0, [], [], [], true⟩], []⟩ * R4))) := ⟨_, rfl⟩
  have S21 : At (Ow 100 5 ev5 ev E * R5) w4 No w13 := S20.ac (by rw [hR5]; ac_rfl)
  haveI : Lcl R5 := by rw [hR5]; infer_instance
  have o21 := S21.own.1
  have o211 := S21.own.2
  obtain ⟨ea, ec, rfl⟩ := o21.rd.len
  clear S18 S19 S20
  (apply vL_nil; apply seqP_normal; apply vC_seq; apply vC_region; ((apply vL_val); (case h => ((apply opv_buildS); exact rfl; exact (rfl : _ = some [_, _, _, _, _])))); ((apply vL_val); (case h => (apply opw_alloc))); ((apply vL_skip); (case h => ((apply ops_storen); exact norm_eq rfl; exact norm_eq rfl; exact rfl; (intro u hu; simp at hu; rcases hu with rfl | rfl <;> (first | rfl | assumption)); infer_instance; (first | decide | exact of_decide_eq_true rfl | (simp; done))))); apply vL_nil; apply seqP_normal; (iterate 2 (apply vC_seq)); apply vC_region; (iterate 2 (((apply vL_val); (case h => ((apply opv_E); exact rfl))))); ((apply vL_val); (case h => ((apply opv_fieldAddr); exact rfl))); ((apply vL_val); (case h => ((apply opv_loadb1); exact rfl; exact rfl; infer_instance; exact rfl))); ((apply vL_val); (case h => ((apply opv_lenc); exact rfl))); ((apply vL_val); (case h => ((apply opv_E); exact rfl))); apply vL_nil; apply seqP_normal; apply vC_block)
  refine vC_gen (fun w' => At (Pt w13.heap.size (ev5 (lastE E 0)) 100 * (Ow 100 5 ev5 (.slice ea E.length ec) E * R5)) w4 No w') (S21.new (by (apply Fr.allocSet; exact Fr.refl _ _)) (Blk.as inferInstance rfl) (Nat.le_refl _)) ?_
  clear S21 hb20 o21
  intro w14 S22
  generalize w13.heap.size = bt at *
  (apply vC_loop1 4835408130553337345998880 68 (fun u w' => ∃ k : Nat, u = .int .i64 (k : Int) ∧ k ≤ 6 ∧ At (Pt bt (ev5 (lastE E k)) 100 * (Ow 100 5 ev5 (.slice ea E.length ec) E * R5)) w4 No w') (fun u _ => 6 - (RowKit.intOf u).toNat)); (case h1 => (exact norm_eq rfl))
  case h0 => exact ⟨0, rfl, by decide, S22⟩
  clear S22
  case round =>
  rintro junk5 _ w15 ⟨k, rfl, hk, S23⟩
  have hbt := S23.blk
  have o23 := S23.swap.ac (star_assoc _ _ _) |>.own.1
  by_cases hlt : k < 6
  · obtain ⟨x, hx⟩ : ∃ x, E[k]? = some x := ⟨_, List.getElem?_eq_getElem (by omega)⟩
    have hx' : E[((k : Nat) : Int).toNat]? = some x := by rw [Int.toNat_natCast]; exact hx
    rw [ev5] at hbt
    have hls : lastE E (k + 1) = if x.t = 1 ∧ x.a = 1 then x else lastE E k := by unfold lastE; rw [List.take_add_one, hx]; simp
    have hbt' := hbt
    by_cases h1 : x.t = 1
    · by_cases h2 : x.a = 1
      · rw [if_pos ⟨h1, h2⟩] at hls
        (apply vC_seq; apply vC_region; ((apply vL_val); (case h => ((apply opv_E); exact rfl))); apply vL_nil; apply seqP_normal; apply vC_seq; (refine vC_cond_dec rfl (fun _ => ?_) (fun h => by omega)); apply vC_skip; apply seqP_normal; apply vC_seq; apply vC_block; apply vC_seq; apply vC_region; ((apply vL_val); (case h => ((apply opv_indexAddr); exact norm_eq rfl; exact rfl; infer_instance; (first | omega | (simp only [List.length_map]; omega)); (first | omega | (simp only [List.length_map]; omega))))); ((apply vL_val); (case h => ((apply opv_ld_eln); exact rfl; exact rfl; infer_instance; assumption))); ((apply vL_val); (case h => (apply opw_alloc))); ((apply vL_skip); (case h => ((apply ops_storen); exact norm_eq rfl; exact norm_eq rfl; exact rfl; exact (fun u hu => EncOk.one _ u hu); infer_instance; (first | decide | exact of_decide_eq_true rfl | (simp; done))))); apply vL_nil; apply seqP_normal; apply vC_seq; apply vC_region; (iterate 11 (first | ((with_reducible apply vL_val); (case h => ((with_reducible apply opv_E); exact rfl))) | ((with_reducible apply vL_val); (case h => ((with_reducible apply opv_loadb1); exact rfl; exact rfl; infer_instance; exact rfl))) | ((with_reducible apply vL_val); (case h => ((with_reducible apply opv_fieldAddr); exact rfl))) | ((with_reducible apply vL_wanted); exact rfl) | (refine vL_and rfl rfl (fun _ => ?_) (fun h => by omega)))); apply vL_nil; apply seqP_normal; (refine vC_cond_dec rfl (fun _ => ?_) (fun h => by omega)); apply vC_region; ((apply vL_val); (case h => ((apply opv_loadbC); exact rfl; exact rfl; infer_instance; exact (rfl : _ = [_, _, _, _, _]); exact rfl))); ((apply vL_skip); (case h => ((apply ops_storen); exact norm_eq rfl; exact norm_eq rfl; exact rfl; (intro u hu; simp only [List.mem_cons, List.not_mem_nil, or_false] at hu; rcases hu with rfl | rfl | rfl | rfl | rfl | rfl | rfl | rfl | rfl | rfl <;> (first | rfl | assumption)); infer_instance; (first | decide | exact of_decide_eq_true rfl | (simp; done))))); apply vL_nil; apply blockP_normal; apply seqP_normal; apply vC_region; ((apply vL_val); (case h => ((apply opv_add); exact rfl; exact rfl; (first | omega | (simp only [List.length_map]; omega))))); ((apply vL_val); (case h => ((apply opv_E); exact rfl))); apply vL_nil; apply loopP_normal)
        (with_reducible apply end1); (case hs => ((iterate 19 (first | with_reducible apply same_updN | ((with_reducible refine same_updO ?_ ?_); rotate_left; exact rfl) | ((with_reducible refine same_upd ?_ ?_); rotate_left; exact rfl))); (exact same_mask _ _ _))); (case h1 => (exact norm_eq rfl))
        · refine ⟨k + 1, rfl, by omega, ?_⟩
          rw [hls]
          exact S23.put (((((Fr.refl _ w15).alloc _).set _ _ (.inr (Nat.le_refl _)))).set _ _ (.inl rfl)) (Blk.as inferInstance rfl)
        · simp [RowKit.intOf]; omega
      · rw [if_neg (fun h => h2 h.2)] at hls
        (apply vC_seq; apply vC_region; ((apply vL_val); (case h => ((apply opv_E); exact rfl))); apply vL_nil; apply seqP_normal; apply vC_seq; (refine vC_cond_dec rfl (fun _ => ?_) (fun h => by omega)); apply vC_skip; apply seqP_normal; apply vC_seq; apply vC_block; apply vC_seq; apply vC_region; ((apply vL_val); (case h => ((apply opv_indexAddr); exact norm_eq rfl; exact rfl; infer_instance; (first | omega | (simp only [List.length_map]; omega)); (first | omega | (simp only [List.length_map]; omega))))); ((apply vL_val); (case h => ((apply opv_ld_eln); exact rfl; exact rfl; infer_instance; assumption))); ((apply vL_val); (case h => (apply opw_alloc))); ((apply vL_skip); (case h => ((apply ops_storen); exact norm_eq rfl; exact norm_eq rfl; exact rfl; exact (fun u hu => EncOk.one _ u hu); infer_instance; (first | decide | exact of_decide_eq_true rfl | (simp; done))))); apply vL_nil; apply seqP_normal; apply vC_seq; apply vC_region; (iterate 11 (first | ((with_reducible apply vL_val); (case h => ((with_reducible apply opv_E); exact rfl))) | ((with_reducible apply vL_val); (case h => ((with_reducible apply opv_loadb1); exact rfl; exact rfl; infer_instance; exact rfl))) | ((with_reducible apply vL_val); (case h => ((with_reducible apply opv_fieldAddr); exact rfl))) | ((with_reducible apply vL_wanted); exact rfl) | (refine vL_and rfl rfl (fun _ => ?_) (fun h => by omega)))); apply vL_nil; apply seqP_normal; (refine vC_cond_dec rfl (fun h => by omega) (fun _ => ?_)); apply vC_skip; apply blockP_normal; apply seqP_normal; apply vC_region; ((apply vL_val); (case h => ((apply opv_add); exact rfl; exact rfl; (first | omega | (simp only [List.length_map]; omega))))); ((apply vL_val); (case h => ((apply opv_E); exact rfl))); apply vL_nil; apply loopP_normal)
        (with_reducible apply end1); (case hs => ((iterate 17 (first | with_reducible apply same_updN | ((with_reducible refine same_updO ?_ ?_); rotate_left; exact rfl) | ((with_reducible refine same_upd ?_ ?_); rotate_left; exact rfl))); (exact same_mask _ _ _))); (case h1 => (exact norm_eq rfl))
        · refine ⟨k + 1, rfl, by omega, ?_⟩
          rw [hls]
          exact S23.frN (by (apply Fr.allocSet; exact Fr.refl _ _))
        · simp [RowKit.intOf]; omega
    · rw [if_neg (fun h => h1 h.1)] at hls
      (apply vC_seq; apply vC_region; ((apply vL_val); (case h => ((apply opv_E); exact rfl))); apply vL_nil; apply seqP_normal; apply vC_seq; (refine vC_cond_dec rfl (fun _ => ?_) (fun h => by omega)); apply vC_skip; apply seqP_normal; apply vC_seq; apply vC_block; apply vC_seq; apply vC_region; ((apply vL_val); (case h => ((apply opv_indexAddr); exact norm_eq rfl; exact rfl; infer_instance; (first | omega | (simp only [List.length_map]; omega)); (first | omega | (simp only [List.length_map]; omega))))); ((apply vL_val); (case h => ((apply opv_ld_eln); exact rfl; exact rfl; infer_instance; assumption))); ((apply vL_val); (case h => (apply opw_alloc))); ((apply vL_skip); (case h => ((apply ops_storen); exact norm_eq rfl; exact norm_eq rfl; exact rfl; exact (fun u hu => EncOk.one _ u hu); infer_instance; (first | decide | exact of_decide_eq_true rfl | (simp; done))))); apply vL_nil; apply seqP_normal; apply vC_seq; apply vC_region; ((apply vL_val); (case h => ((apply opv_fieldAddr); exact rfl))); ((apply vL_val); (case h => ((apply opv_loadb1); exact rfl; exact rfl; infer_instance; exact rfl))); (iterate 2 (((apply vL_val); (case h => ((apply opv_E); exact rfl))))); (refine vL_and rfl rfl (fun h => by omega) (fun _ => ?_)); (iterate 2 (((apply vL_unwanted'); exact rfl; exact rfl))); ((apply vL_val); (case h => ((apply opv_E); exact rfl))); apply vL_nil; apply seqP_normal; ((apply vC_cond_false); exact rfl); apply vC_skip; apply blockP_normal; apply seqP_normal; apply vC_region; ((apply vL_val); (case h => ((apply opv_add); exact rfl; exact rfl; (first | omega | (simp only [List.length_map]; omega))))); ((apply vL_val); (case h => ((apply opv_E); exact rfl))); apply vL_nil; apply loopP_normal)
      (with_reducible apply end1); (case hs => ((iterate 17 (first | with_reducible apply same_updN | ((with_reducible refine same_updO ?_ ?_); rotate_left; exact rfl) | ((with_reducible refine same_upd ?_ ?_); rotate_left; exact rfl))); (exact same_mask _ _ _))); (case h1 => (exact norm_eq rfl))
      · refine ⟨k + 1, rfl, by omega, ?_⟩
        rw [hls]
        exact S23.frN (by (apply Fr.allocSet; exact Fr.refl _ _))
      · simp [RowKit.intOf]; omega
  · obtain rfl : k = 6 := by omega
    have hl6 : lastE E 6 = ⟨1, 1, 0, 5, true⟩ := by rw [hE]; rfl
    rw [hl6, ev5] at hbt
    have S24 : At (PWA (L16 wb) rb none 0 kb3 ⟨[.over, .over], [t0, t1], [⟨cb, 0, [], [], [], true⟩], []⟩ * (Pt wb [pt rb, vp, cv, tv, .slice ea E.length ec, .bool false] 61 * (Ow 28 1 ptE cv [cb] * (Ow 34 1 ptE tv [t0, t1] * (Pt bt (ev5 (lastE E 6)) 100 * (Ow 100 5 ev5 (.slice ea E.length ec) E * R4)))))) w4 No w15 := S23.ac (by rw [hR5]; ac_rfl)
    have hwb := (S24.swap.ac (star_assoc _ _ _)).blk
    have hcv := (S24.ac (show _ = Ow 28 1 ptE cv [cb] * (Pt wb [pt rb, vp, cv, tv, .slice ea E.length ec, .bool false] 61 * (PWA (L16 wb) rb none 0 kb3 ⟨[.over, .over], [t0, t1], [⟨cb, 0, [], [], [], true⟩], []⟩ * (Ow 34 1 ptE tv [t0, t1] * (Pt bt (ev5 (lastE E 6)) 100 * (Ow 100 5 ev5 (.slice ea E.length ec) E * R4))))) by ac_rfl)).own
    obtain ⟨hcv1, hcv2⟩ := hcv
    have hd0 : (⟨[.over, .over], [t0, t1], [⟨cb, 0, [], [], [], true⟩], []⟩ : PS K16).cs[0]? = some ⟨cb, 0, [], [], [], true⟩ := rfl
    have hcl1 : ([cb] : List Nat).length = 1 := rfl
    have hcb : ([cb] : List Nat)[(0 : Int).toNat]? = some cb := rfl
    (apply vC_seq; apply vC_region; ((apply vL_val); (case h => ((apply opv_E); exact rfl))); apply vL_nil; apply seqP_normal; apply vC_seq; (refine vC_cond_dec rfl (fun h => by omega) (fun _ => ?_)); apply vC_exit; apply seqP_exit; apply loopP_exit; apply blockP_exit; apply seqP_normal; apply vC_seq; apply vC_region; (iterate 19 (first | ((with_reducible apply vL_val); (case h => ((with_reducible apply opv_E); exact rfl))) | ((with_reducible apply vL_val); (case h => ((with_reducible apply opv_loadb1); exact rfl; exact rfl; assumption; exact rfl))) | ((with_reducible apply vL_val); (case h => ((with_reducible apply opv_fieldAddr); exact rfl))) | ((with_reducible apply vL_wanted); exact rfl))); ((apply vL_val); (case h => ((apply opv_indexAddr); ((conv => lhs; whnf) <;> exact rfl); exact rfl; infer_instance; (first | omega | (simp only [List.length_map]; omega)); (first | omega | (simp only [List.length_map]; omega))))); ((apply vL_wanted); exact rfl); ((apply vL_val); (case h => ((apply opv_ld_el); exact rfl; exact rfl; infer_instance; assumption; exact rfl))); ((apply vL_wanted); exact rfl))
    refine vL_callF rfl (pw_close S24 hd0) rfl ?_
    rintro _ w16 ⟨rfl, kb4, _, S25⟩
    rw [show (if (PS.close (⟨[.over, .over], [t0, t1], [⟨cb, 0, [], [], [], true⟩], []⟩ : PS K16) 0).2 then (0 : Int) else 150) = 150 from rfl]
    have e25 : (PS.close (⟨[.over, .over], [t0, t1], [⟨cb, 0, [], [], [], true⟩], []⟩ : PS K16) 0).1 = ⟨[.over, .over], [t0, t1], [⟨cb, 0, [], [], [], true⟩], []⟩ := rfl
    rw [e25] at S25
    have hwb2 := (S25.swap.ac (star_assoc _ _ _)).blk
    have htv := (S25.ac (show _ = Ow 34 1 ptE tv [t0, t1] * (Pt wb [pt rb, vp, cv, tv, .slice ea E.length ec, .bool false] 61 * (PWA (L16 wb) rb none 0 kb4 ⟨[.over, .over], [t0, t1], [⟨cb, 0, [], [], [], true⟩], []⟩ * (Ow 28 1 ptE cv [cb] * (Pt bt (ev5 (lastE E 6)) 100 * (Ow 100 5 ev5 (.slice ea E.length ec) E * R4))))) by ac_rfl)).own
    obtain ⟨htv1, htv2⟩ := htv
    have htl1 : ([t0, t1] : List Nat).length = 2 := rfl
    have ht1 : ([t0, t1] : List Nat)[(1 : Int).toNat]? = some t1 := rfl
    clear hwb hcv1 hbt o23
    ((iterate 25 (first | ((with_reducible apply vL_val); (case h => ((with_reducible apply opv_E); exact rfl))) | ((with_reducible apply vL_val); (case h => ((with_reducible apply opv_loadb1); exact rfl; exact rfl; assumption; exact rfl))) | ((with_reducible apply vL_val); (case h => ((with_reducible apply opv_fieldAddr); exact rfl))) | ((with_reducible apply vL_val); (case h => ((with_reducible apply opv_not); exact rfl))) | ((with_reducible apply vL_wanted); exact rfl))); ((apply vL_val); (case h => ((apply opv_indexAddr); ((conv => lhs; whnf) <;> exact rfl); exact rfl; infer_instance; (first | omega | (simp only [List.length_map]; omega)); (first | omega | (simp only [List.length_map]; omega))))); ((apply vL_wanted); exact rfl); ((apply vL_val); (case h => ((apply opv_ld_el); exact rfl; exact rfl; infer_instance; assumption; exact rfl))); ((apply vL_wanted); exact rfl))
    refine vL_callF rfl (pw_over S25 (i := 1) (s := .over) (tb := t1) (show ([.over, .over] : List (St K16))[1]? = some .over from rfl) (show ([t0, t1] : List Nat)[1]? = some t1 from rfl)) rfl ?_
    rintro _ _ ⟨rfl, rfl⟩
    ((iterate 2 (((apply vL_val); (case h => ((apply opv_E); exact rfl))))); apply vL_nil; apply seqP_normal; apply vC_ret)
    (apply ret1; (case h1 => (exact norm_eq rfl)))
    exact ⟨rfl, hf4.trans S25.fr⟩
end Go.Proofs.YtbaidcnalkdhgaaGreat
