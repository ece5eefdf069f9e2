/- Layer 16: ChansRun: the law's machine goes with the document's: plain. Layer 16: ChansRun: plain: serving, sending, receiving. Layer 16: ChansRun: plain: closing, waiting, a whole step. Layers 16 to 18: the document's machine: who waits in vain is taken out. Layers 16 to 18: the document's machine: Clean. Layers 16 to 18: the document's machine: yields, ticket. Layers 16 to 18: the document's machine: serve. Layers 16 to 18: the document's machine: can it be sent, be received, now? Layers 16 to 18: the document's machine: Send. -/
import Derived.Test.YtbaidcnalkdhgaaGreatVo
import Derived.Test.YtbaidcnalkdhgaaGreatEq
set_option maxRecDepth 100000
namespace Go.Proofs.YtbaidcnalkdhgaaGreat
open Go Go.Eng
section
variable {κ : Type}
/-- what is plain of a plain world -/
structure PInv (S : PS κ) : Prop where
  few : S.sts.length ≤ 200
  nd : S.line.Nodup
  nn : ∀ z ∈ S.line, 0 ≤ z
  rdy : ∀ i : Nat, ((i : Int) ∈ S.line ↔ ∃ s, S.sts[i]? = some s ∧ s.rdy = true)
  nsnd : ∀ (j : Nat) d, S.cs[j]? = some d → d.snd.Nodup
  nrcv : ∀ (j : Nat) d, S.cs[j]? = some d → d.rcv.Nodup
  snd : ∀ (j : Nat) d m, S.cs[j]? = some d → m ∈ d.snd → ∃ k v, S.sts[m]? = some (.wS k j v)
  rcv : ∀ (j : Nat) d m, S.cs[j]? = some d → m ∈ d.rcv → ∃ k, S.sts[m]? = some (.wR k j)
  room : ∀ (j : Nat) d, S.cs[j]? = some d → (d.buf.length : Int) ≤ d.size ∧ d.size ≤ 64
theorem PRel.pinv {L : LawP κ} {q : Q16} {nowi : Option Nat} {kb : List Bx} {S : PS κ} (p : PRel L q nowi kb S) : PInv S :=
  ⟨p.few, p.nd, p.nn, p.rdy, fun j d hd => (by obtain ⟨c, hc⟩ := p.cget hd; exact (p.ch j c d hc hd).nds), fun j d hd => (by obtain ⟨c, hc⟩ := p.cget hd; exact (p.ch j c d hc hd).ndr),
    fun j d m hd hm => (by obtain ⟨c, hc⟩ := p.cget hd; exact (p.ch j c d hc hd).mem_snd hm), fun j d m hd hm => (by obtain ⟨c, hc⟩ := p.cget hd; exact (p.ch j c d hc hd).mem_rcv hm), fun j d hd => (by obtain ⟨c, hc⟩ := p.cget hd; exact (p.ch j c d hc hd).room)⟩
variable {S : PS κ}
def St.atsnd : St κ → Option Nat
  | .wS _ j _ => some j
  | _ => none
def St.atrcv : St κ → Option Nat
  | .wR _ j => some j
  | _ => none
theorem St.notBoth {s : St κ} {i j : Nat} (h1 : s.atsnd = some i) (h2 : s.atrcv = some j) : False := by
  cases s <;> first | (cases h1; done) | (cases h2; done)
theorem PInv.psnd (p : PInv S) {j m : Nat} {d : C16} (hd : S.cs[j]? = some d) (hm : m ∈ d.snd) : ∃ s, S.sts[m]? = some s ∧ s.atsnd = some j := by
  obtain ⟨k, v, e⟩ := p.snd j d m hd hm
  exact ⟨_, e, rfl⟩
theorem PInv.prcv (p : PInv S) {j m : Nat} {d : C16} (hd : S.cs[j]? = some d) (hm : m ∈ d.rcv) : ∃ s, S.sts[m]? = some s ∧ s.atrcv = some j := by
  obtain ⟨k, e⟩ := p.rcv j d m hd hm
  exact ⟨_, e, rfl⟩
theorem PInv.line_lt (p : PInv S) {z : Int} (hz : z ∈ S.line) : ∃ i : Nat, z = i ∧ i < S.sts.length := by
  have h0 := p.nn z hz
  obtain ⟨i, rfl⟩ : ∃ i : Nat, z = i := ⟨z.toNat, by omega⟩
  obtain ⟨s, h1, _⟩ := (p.rdy i).1 hz
  exact ⟨i, rfl, (List.getElem?_eq_some_iff.1 h1).1⟩
theorem PInv.line_len (p : PInv S) : S.line.length ≤ 200 := by
  have h1 := len_sub_q (l' := (List.range S.sts.length).map fun (n : Nat) => (n : Int)) p.nd (fun x hx => by
    obtain ⟨i, rfl, hi⟩ := p.line_lt hx
    exact List.mem_map.2 ⟨i, List.mem_range.2 hi, rfl⟩)
  simp only [List.length_map, List.length_range] at h1
  have := p.few
  omega
theorem PInv.push (p : PInv S) {i : Nat} {s : St κ} (hs : S.sts[i]? = some s) (hr : s.rdy = false) : readyL S.line i = S.line ++ [(i : Int)] :=
  readyL_push (fun h => by
    obtain ⟨s', h1, h2⟩ := (p.rdy i).1 h
    rw [hs] at h1; cases h1
    rw [hr] at h2; cases h2) (by have := p.line_len; omega)
theorem PInv.out (p : PInv S) {i : Nat} {s : St κ} (hs : S.sts[i]? = some s) (hw : s.waits = false) : ∀ (j : Nat) d, S.cs[j]? = some d → i ∉ d.snd ∧ i ∉ d.rcv := fun j d hd =>
  ⟨fun h => (by obtain ⟨k, v, e⟩ := p.snd j d i hd h; rw [hs] at e; cases e; cases hw), fun h => (by obtain ⟨k, e⟩ := p.rcv j d i hd h; rw [hs] at e; cases e; cases hw)⟩
end
/-- a wait of the document's machine, and who waits -/
def WtS (S : PS K16) (D : MW) (x : Wt) (m : Nat) : Prop := x.task = m ∧ x.which = 0 ∧ x.v = S.valS m ∧ 0 ≤ x.tk ∧ D.fi[x.tk.toNat]? = some false
def WtR (S : PS K16) (D : MW) (x : Wt) (m : Nat) : Prop := x.task = m ∧ x.which = 0 ∧ True ∧ 0 ≤ x.tk ∧ D.fi[x.tk.toNat]? = some false
structure SimC (S : PS K16) (D : MW) (d : C16) (c : MC) : Prop where
  size : c.size = d.size
  buf : c.buf = d.buf
  closed : c.closed = d.closed
  snd : Zip (WtS S D) c.snd d.snd
  rcv : Zip (WtR S D) c.rcv d.rcv
structure Sim (S : PS K16) (D : MW) : Prop where
  li : D.li = S.line
  la : D.at_.length = S.sts.length
  lt : D.to.length = S.sts.length
  lo : D.ov.length = S.sts.length
  lc : D.ch.length = S.cs.length
  ch : ∀ (j : Nat) d c, S.cs[j]? = some d → D.ch[j]? = some c → SimC S D d c
  pos : ∀ (i : Nat) s k, S.sts[i]? = some s → s.key = some k → D.at_[i]? = some (k.pos : Int)
  to : ∀ (i : Nat) s, S.sts[i]? = some s → s.rdy = true → D.to[i]? = some s.told
  tk : ∀ (j j' : Nat) c c' x x', D.ch[j]? = some c → D.ch[j']? = some c' → x ∈ c.snd ++ c.rcv → x' ∈ c'.snd ++ c'.rcv → x.tk.toNat = x'.tk.toNat → x.task = x'.task
section
variable {S : PS K16} {D : MW} {i j m : Nat}
theorem Sim.cget (h : Sim S D) {d : C16} (hd : S.cs[j]? = some d) : ∃ c, D.ch[j]? = some c := ⟨_, List.getElem?_eq_getElem (by rw [h.lc]; exact (List.getElem?_eq_some_iff.1 hd).1)⟩
theorem Sim.dget (h : Sim S D) {c : MC} (hc : D.ch[j]? = some c) : ∃ d, S.cs[j]? = some d := ⟨_, List.getElem?_eq_getElem (by rw [← h.lc]; exact (List.getElem?_eq_some_iff.1 hc).1)⟩
/-- whose wait it is -/
theorem Sim.whosnd (h : Sim S D) (p : PInv S) {c : MC} {x : Wt} (hc : D.ch[j]? = some c) (hx : x ∈ c.snd) : ∃ d m s, S.cs[j]? = some d ∧ m ∈ d.snd ∧ x.task = (m : Nat) ∧ S.sts[m]? = some s ∧ s.atsnd = some j ∧ 0 ≤ x.tk ∧ D.fi[x.tk.toNat]? = some false := by
  obtain ⟨d, hd⟩ := h.dget hc
  obtain ⟨m, hm, h1, _, _, h2, h3⟩ := (h.ch j d c hd hc).snd.mem' hx
  obtain ⟨k, v, e⟩ := p.snd j d m hd hm
  exact ⟨d, m, _, hd, hm, h1, e, rfl, h2, h3⟩
theorem Sim.whorcv (h : Sim S D) (p : PInv S) {c : MC} {x : Wt} (hc : D.ch[j]? = some c) (hx : x ∈ c.rcv) : ∃ d m s, S.cs[j]? = some d ∧ m ∈ d.rcv ∧ x.task = (m : Nat) ∧ S.sts[m]? = some s ∧ s.atrcv = some j ∧ 0 ≤ x.tk ∧ D.fi[x.tk.toNat]? = some false := by
  obtain ⟨d, hd⟩ := h.dget hc
  obtain ⟨m, hm, h1, _, _, h2, h3⟩ := (h.ch j d c hd hc).rcv.mem' hx
  obtain ⟨k, e⟩ := p.rcv j d m hd hm
  exact ⟨d, m, _, hd, hm, h1, e, rfl, h2, h3⟩
theorem filter_keep {fi : List Bool} {t : Nat} {l : List Wt} (h : ∀ y ∈ l, fi[y.tk.toNat]? = some false ∧ y.tk.toNat ≠ t) : l.filter (lvW (fi.set t true)) = l := by
  refine List.filter_eq_self.2 (fun y hy => ?_)
  obtain ⟨h1, h2⟩ := h y hy
  unfold lvW
  rw [List.getElem?_set_ne (Ne.symm h2), h1]
  rfl
theorem filter_head {fi : List Bool} {x : Wt} {l : List Wt} (hx : fi[x.tk.toNat]? = some false) (h : ∀ y ∈ l, fi[y.tk.toNat]? = some false ∧ y.tk.toNat ≠ x.tk.toNat) : (x :: l).filter (lvW (fi.set x.tk.toNat true)) = l := by
  rw [List.filter_cons, filter_keep h]
  have : lvW (fi.set x.tk.toNat true) x = false := by
    unfold lvW
    rw [List.getElem?_set_self (List.getElem?_eq_some_iff.1 hx).1]
    rfl
  rw [this]; rfl
/-- who waits at the head: his wait is taken out -/
theorem sim_takercv (h : Sim S D) (p : PInv S) {d : C16} {c : MC} (hd : S.cs[j]? = some d) (hc : D.ch[j]? = some c) {r : List Nat} (hr : d.rcv = m :: r) {x : Wt} {xs : List Wt} (hx : c.rcv = x :: xs) :
    (({ D with fi := D.fi.set x.tk.toNat true } : MW).clean).ch = D.ch.set j { c with rcv := xs } ∧ Sim (S.setC j { d with rcv := r }) ({ D with fi := D.fi.set x.tk.toNat true } : MW).clean ∧ PInv (S.setC j { d with rcv := r }) ∧
      (∀ (i : Nat) d', (S.setC j { d with rcv := r }).cs[i]? = some d' → m ∉ d'.snd ∧ m ∉ d'.rcv) := by
  have hz := (h.ch j d c hd hc).rcv
  rw [hr, hx] at hz
  obtain ⟨⟨ht, _, _, ht0, htf⟩, hzt⟩ := hz.tail
  obtain ⟨n1, n2⟩ := List.nodup_cons.1 (show (m :: r).Nodup by rw [← hr]; exact p.nrcv j d hd)
  obtain ⟨s0, hm, hs0⟩ := p.prcv hd (m := m) (by rw [hr]; exact List.mem_cons_self)
  have hjl := (List.getElem?_eq_some_iff.1 hc).1
  have hjd := (List.getElem?_eq_some_iff.1 hd).1
  have hxm : x ∈ c.snd ++ c.rcv := List.mem_append_right _ (by rw [hx]; exact List.mem_cons_self)
  have oB : ∀ (i : Nat) ci y, D.ch[i]? = some ci → y ∈ ci.snd → D.fi[y.tk.toNat]? = some false ∧ y.tk.toNat ≠ x.tk.toNat := fun i ci y hci hy => by
    obtain ⟨d', m', s', _, _, e1, e2, e3, _, e4⟩ := h.whosnd p hci hy
    refine ⟨e4, fun e => ?_⟩
    have := h.tk i j ci c y x hci hc (List.mem_append_left _ hy) hxm e
    rw [e1, ht] at this
    obtain rfl : m' = m := by omega
    rw [hm] at e2; cases e2; exact St.notBoth e3 hs0
  have oA : ∀ (i : Nat) ci y, i ≠ j → D.ch[i]? = some ci → y ∈ ci.rcv → D.fi[y.tk.toNat]? = some false ∧ y.tk.toNat ≠ x.tk.toNat := fun i ci y hij hci hy => by
    obtain ⟨d', m', s', _, _, e1, e2, e3, _, e4⟩ := h.whorcv p hci hy
    refine ⟨e4, fun e => ?_⟩
    have := h.tk i j ci c y x hci hc (List.mem_append_right _ hy) hxm e
    rw [e1, ht] at this
    obtain rfl : m' = m := by omega
    rw [hm] at e2; cases e2; rw [hs0] at e3; cases e3; exact hij rfl
  have oJ : ∀ y ∈ xs, D.fi[y.tk.toNat]? = some false ∧ y.tk.toNat ≠ x.tk.toNat := fun y hy => by
    obtain ⟨m', hm', e1, _, _, _, e4⟩ := hzt.mem' hy
    refine ⟨e4, fun e => ?_⟩
    have := h.tk j j c c y x hc hc (List.mem_append_right _ (by rw [hx]; exact List.mem_cons_of_mem _ hy)) hxm e
    rw [e1, ht] at this
    obtain rfl : m' = m := by omega
    exact n1 hm'
  have ech : (({ D with fi := D.fi.set x.tk.toNat true } : MW).clean).ch = D.ch.set j { c with rcv := xs } := by
    show D.ch.map (MC.clean (D.fi.set x.tk.toNat true)) = _
    refine List.ext_getElem? (fun i => ?_)
    rw [List.getElem?_map]
    by_cases e : i = j
    · subst e
      rw [hc, List.getElem?_set_self hjl]
      show some (MC.clean _ c) = _
      unfold MC.clean
      rw [filter_keep (fun y hy => oB i c y hc hy), hx, filter_head htf oJ]
    · rw [List.getElem?_set_ne (Ne.symm e)]
      cases hci : D.ch[i]? with
      | none => rfl
      | some ci =>
        show some (MC.clean _ ci) = _
        unfold MC.clean
        rw [filter_keep (fun y hy => oB i ci y hci hy), filter_keep (fun y hy => oA i ci y e hci hy)]
  have ffi : ∀ t : Nat, D.fi[t]? = some false → t ≠ x.tk.toNat → (D.fi.set x.tk.toNat true)[t]? = some false := fun t h1 h2 => by rw [List.getElem?_set_ne (Ne.symm h2)]; exact h1
  have key : ∀ (i : Nat) d' c', (S.cs.set j { d with rcv := r })[i]? = some d' → (D.ch.set j { c with rcv := xs })[i]? = some c' → ∃ d0 c0, S.cs[i]? = some d0 ∧ D.ch[i]? = some c0 ∧ c'.snd = c0.snd ∧ d'.snd = d0.snd ∧ c'.size = c0.size ∧ d'.size = d0.size ∧ c'.buf = c0.buf ∧ d'.buf = d0.buf ∧ c'.closed = c0.closed ∧ d'.closed = d0.closed ∧ ((i = j ∧ c'.rcv = xs ∧ d'.rcv = r) ∨ (i ≠ j ∧ c'.rcv = c0.rcv ∧ d'.rcv = d0.rcv)) := fun i d' c' h1 h2 => by
    by_cases e : i = j
    · subst e
      rw [List.getElem?_set_self hjd] at h1
      rw [List.getElem?_set_self hjl] at h2
      cases h1; cases h2
      exact ⟨d, c, hd, hc, rfl, rfl, rfl, rfl, rfl, rfl, rfl, rfl, .inl ⟨rfl, rfl, rfl⟩⟩
    · rw [List.getElem?_set_ne (Ne.symm e)] at h1 h2
      exact ⟨d', c', h1, h2, rfl, rfl, rfl, rfl, rfl, rfl, rfl, rfl, .inr ⟨e, rfl, rfl⟩⟩
  have key2 : ∀ (i : Nat) d', (S.cs.set j { d with rcv := r })[i]? = some d' → ∃ d0, S.cs[i]? = some d0 ∧ d'.snd = d0.snd ∧ d'.size = d0.size ∧ d'.buf = d0.buf ∧ ((i = j ∧ d'.rcv = r) ∨ (i ≠ j ∧ d'.rcv = d0.rcv)) := fun i d' h1 => by
    by_cases e : i = j
    · subst e
      rw [List.getElem?_set_self hjd] at h1
      cases h1
      exact ⟨d, hd, rfl, rfl, rfl, .inl ⟨rfl, rfl⟩⟩
    · rw [List.getElem?_set_ne (Ne.symm e)] at h1
      exact ⟨d', h1, rfl, rfl, rfl, .inr ⟨e, rfl⟩⟩
  have hsim : Sim (S.setC j { d with rcv := r }) ({ D with fi := D.fi.set x.tk.toNat true } : MW).clean := by
    refine ⟨h.li, h.la, h.lt, h.lo, ?_, fun i d' c' h1 h2 => ?_, h.pos, h.to, fun i i' c1 c2 y y' h1 h2 h3 h4 h5 => ?_⟩
    · rw [ech]
      show (D.ch.set j _).length = (S.cs.set j _).length
      rw [List.length_set, List.length_set]; exact h.lc
    · rw [ech] at h2
      obtain ⟨d0, c0, g1, g2, g3, g4, g5, g6, g7, g8, g9, g10, g11⟩ := key i d' c' h1 h2
      have s := h.ch i d0 c0 g1 g2
      have zB : Zip (WtS (S.setC j { d with rcv := r }) ({ D with fi := D.fi.set x.tk.toNat true } : MW).clean) c'.snd d'.snd := by
        rw [g3, g4]
        refine ⟨s.snd.1, fun t a b ha hb => ?_⟩
        obtain ⟨q1, q2, q3, q4, q5⟩ := s.snd.2 t a b ha hb
        exact ⟨q1, q2, q3, q4, ffi _ q5 (oB i c0 a g2 (List.mem_of_getElem? ha)).2⟩
      have zA : Zip (WtR (S.setC j { d with rcv := r }) ({ D with fi := D.fi.set x.tk.toNat true } : MW).clean) c'.rcv d'.rcv := by
        rcases g11 with ⟨rfl, e1, e2⟩ | ⟨e0, e1, e2⟩
        · rw [e1, e2]
          refine ⟨hzt.1, fun t a b ha hb => ?_⟩
          obtain ⟨q1, q2, q3, q4, q5⟩ := hzt.2 t a b ha hb
          exact ⟨q1, q2, q3, q4, ffi _ q5 (oJ a (List.mem_of_getElem? ha)).2⟩
        · rw [e1, e2]
          refine ⟨s.rcv.1, fun t a b ha hb => ?_⟩
          obtain ⟨q1, q2, q3, q4, q5⟩ := s.rcv.2 t a b ha hb
          exact ⟨q1, q2, q3, q4, ffi _ q5 (oA i c0 a e0 g2 (List.mem_of_getElem? ha)).2⟩
      exact { size := by rw [g5, g6]; exact s.size, buf := by rw [g7, g8]; exact s.buf, closed := by rw [g9, g10]; exact s.closed, snd := zB, rcv := zA }
    · rw [ech] at h1 h2
      have sub : ∀ (i : Nat) c1 y, (D.ch.set j { c with rcv := xs })[i]? = some c1 → y ∈ c1.snd ++ c1.rcv → ∃ c0, D.ch[i]? = some c0 ∧ y ∈ c0.snd ++ c0.rcv := fun i c1 y g1 g2 => by
        by_cases e : i = j
        · subst e
          rw [List.getElem?_set_self hjl] at g1
          cases g1
          refine ⟨c, hc, ?_⟩
          rcases List.mem_append.1 g2 with g | g
          · first | exact List.mem_append_left _ g | exact List.mem_append_left _ (by rw [hx]; exact List.mem_cons_of_mem _ g)
          · first | exact List.mem_append_right _ g | exact List.mem_append_right _ (by rw [hx]; exact List.mem_cons_of_mem _ g)
        · rw [List.getElem?_set_ne (Ne.symm e)] at g1
          exact ⟨c1, g1, g2⟩
      obtain ⟨c1', a1, a2⟩ := sub i c1 y h1 h3
      obtain ⟨c2', b1, b2⟩ := sub i' c2 y' h2 h4
      exact h.tk i i' c1' c2' y y' a1 b1 a2 b2 h5
  have outs : ∀ (i : Nat) d', (S.cs.set j { d with rcv := r })[i]? = some d' → m ∉ d'.snd ∧ m ∉ d'.rcv := fun i d' hd' => by
    obtain ⟨d0, g1, g2, _, _, g11⟩ := key2 i d' hd'
    have pB : m ∉ d'.snd := fun hm' => by
      rw [g2] at hm'
      obtain ⟨s', e, e'⟩ := p.psnd g1 hm'
      rw [hm] at e; cases e; have e3 := e'; exact St.notBoth e3 hs0
    have pA : m ∉ d'.rcv := fun hm' => by
      rcases g11 with ⟨rfl, e2⟩ | ⟨e0, e2⟩
      · rw [e2] at hm'; exact n1 hm'
      · rw [e2] at hm'
        obtain ⟨s', e, e'⟩ := p.prcv g1 hm'
        rw [hm] at e; cases e; rw [hs0] at e'; cases e'; exact e0 rfl
    exact ⟨pB, pA⟩
  have yB : ∀ (i : Nat) d', (S.cs.set j { d with rcv := r })[i]? = some d' → d'.snd.Nodup := fun i d' hd' => by
    obtain ⟨d0, g1, g2, g6, g8, g11⟩ := key2 i d' hd'
    rw [g2]; exact p.nsnd i d0 g1
  have yA : ∀ (i : Nat) d', (S.cs.set j { d with rcv := r })[i]? = some d' → d'.rcv.Nodup := fun i d' hd' => by
    obtain ⟨d0, g1, g2, g6, g8, g11⟩ := key2 i d' hd'
    rcases g11 with ⟨rfl, e2⟩ | ⟨e0, e2⟩
    · rw [e2]; exact n2
    · rw [e2]; exact p.nrcv i d0 g1
  have wB : ∀ (i : Nat) d' m', (S.cs.set j { d with rcv := r })[i]? = some d' → m' ∈ d'.snd → ∃ k v, S.sts[m']? = some (.wS k i v) := fun i d' m' hd' hm' => by
    obtain ⟨d0, g1, g2, g6, g8, g11⟩ := key2 i d' hd'
    rw [g2] at hm'; exact p.snd i d0 m' g1 hm'
  have wA : ∀ (i : Nat) d' m', (S.cs.set j { d with rcv := r })[i]? = some d' → m' ∈ d'.rcv → ∃ k, S.sts[m']? = some (.wR k i) := fun i d' m' hd' hm' => by
    obtain ⟨d0, g1, g2, g6, g8, g11⟩ := key2 i d' hd'
    rcases g11 with ⟨rfl, e2⟩ | ⟨e0, e2⟩
    · rw [e2] at hm'
      exact p.rcv i d m' hd (by rw [hr]; exact List.mem_cons_of_mem _ hm')
    · rw [e2] at hm'; exact p.rcv i d0 m' g1 hm'
  have wr : ∀ (i : Nat) d', (S.cs.set j { d with rcv := r })[i]? = some d' → (d'.buf.length : Int) ≤ d'.size ∧ d'.size ≤ 64 := fun i d' hd' => by
    obtain ⟨d0, g1, g2, g6, g8, g11⟩ := key2 i d' hd'
    rw [g8, g6]; exact p.room i d0 g1
  have hp : PInv (S.setC j { d with rcv := r }) := { few := p.few, nd := p.nd, nn := p.nn, rdy := p.rdy, nsnd := yB, nrcv := yA, snd := wB, rcv := wA, room := wr }
  exact ⟨ech, hsim, hp, outs⟩
/-- who waits at the head: his wait is taken out -/
theorem sim_takesnd (h : Sim S D) (p : PInv S) {d : C16} {c : MC} (hd : S.cs[j]? = some d) (hc : D.ch[j]? = some c) {r : List Nat} (hr : d.snd = m :: r) {x : Wt} {xs : List Wt} (hx : c.snd = x :: xs) :
    (({ D with fi := D.fi.set x.tk.toNat true } : MW).clean).ch = D.ch.set j { c with snd := xs } ∧ Sim (S.setC j { d with snd := r }) ({ D with fi := D.fi.set x.tk.toNat true } : MW).clean ∧ PInv (S.setC j { d with snd := r }) ∧
      (∀ (i : Nat) d', (S.setC j { d with snd := r }).cs[i]? = some d' → m ∉ d'.snd ∧ m ∉ d'.rcv) := by
  have hz := (h.ch j d c hd hc).snd
  rw [hr, hx] at hz
  obtain ⟨⟨ht, _, _, ht0, htf⟩, hzt⟩ := hz.tail
  obtain ⟨n1, n2⟩ := List.nodup_cons.1 (show (m :: r).Nodup by rw [← hr]; exact p.nsnd j d hd)
  obtain ⟨s0, hm, hs0⟩ := p.psnd hd (m := m) (by rw [hr]; exact List.mem_cons_self)
  have hjl := (List.getElem?_eq_some_iff.1 hc).1
  have hjd := (List.getElem?_eq_some_iff.1 hd).1
  have hxm : x ∈ c.snd ++ c.rcv := List.mem_append_left _ (by rw [hx]; exact List.mem_cons_self)
  have oB : ∀ (i : Nat) ci y, D.ch[i]? = some ci → y ∈ ci.rcv → D.fi[y.tk.toNat]? = some false ∧ y.tk.toNat ≠ x.tk.toNat := fun i ci y hci hy => by
    obtain ⟨d', m', s', _, _, e1, e2, e3, _, e4⟩ := h.whorcv p hci hy
    refine ⟨e4, fun e => ?_⟩
    have := h.tk i j ci c y x hci hc (List.mem_append_right _ hy) hxm e
    rw [e1, ht] at this
    obtain rfl : m' = m := by omega
    rw [hm] at e2; cases e2; exact St.notBoth hs0 e3
  have oA : ∀ (i : Nat) ci y, i ≠ j → D.ch[i]? = some ci → y ∈ ci.snd → D.fi[y.tk.toNat]? = some false ∧ y.tk.toNat ≠ x.tk.toNat := fun i ci y hij hci hy => by
    obtain ⟨d', m', s', _, _, e1, e2, e3, _, e4⟩ := h.whosnd p hci hy
    refine ⟨e4, fun e => ?_⟩
    have := h.tk i j ci c y x hci hc (List.mem_append_left _ hy) hxm e
    rw [e1, ht] at this
    obtain rfl : m' = m := by omega
    rw [hm] at e2; cases e2; rw [hs0] at e3; cases e3; exact hij rfl
  have oJ : ∀ y ∈ xs, D.fi[y.tk.toNat]? = some false ∧ y.tk.toNat ≠ x.tk.toNat := fun y hy => by
    obtain ⟨m', hm', e1, _, _, _, e4⟩ := hzt.mem' hy
    refine ⟨e4, fun e => ?_⟩
    have := h.tk j j c c y x hc hc (List.mem_append_left _ (by rw [hx]; exact List.mem_cons_of_mem _ hy)) hxm e
    rw [e1, ht] at this
    obtain rfl : m' = m := by omega
    exact n1 hm'
  have ech : (({ D with fi := D.fi.set x.tk.toNat true } : MW).clean).ch = D.ch.set j { c with snd := xs } := by
    show D.ch.map (MC.clean (D.fi.set x.tk.toNat true)) = _
    refine List.ext_getElem? (fun i => ?_)
    rw [List.getElem?_map]
    by_cases e : i = j
    · subst e
      rw [hc, List.getElem?_set_self hjl]
      show some (MC.clean _ c) = _
      unfold MC.clean
      rw [filter_keep (fun y hy => oB i c y hc hy), hx, filter_head htf oJ]
    · rw [List.getElem?_set_ne (Ne.symm e)]
      cases hci : D.ch[i]? with
      | none => rfl
      | some ci =>
        show some (MC.clean _ ci) = _
        unfold MC.clean
        rw [filter_keep (fun y hy => oB i ci y hci hy), filter_keep (fun y hy => oA i ci y e hci hy)]
  have ffi : ∀ t : Nat, D.fi[t]? = some false → t ≠ x.tk.toNat → (D.fi.set x.tk.toNat true)[t]? = some false := fun t h1 h2 => by rw [List.getElem?_set_ne (Ne.symm h2)]; exact h1
  have key : ∀ (i : Nat) d' c', (S.cs.set j { d with snd := r })[i]? = some d' → (D.ch.set j { c with snd := xs })[i]? = some c' → ∃ d0 c0, S.cs[i]? = some d0 ∧ D.ch[i]? = some c0 ∧ c'.rcv = c0.rcv ∧ d'.rcv = d0.rcv ∧ c'.size = c0.size ∧ d'.size = d0.size ∧ c'.buf = c0.buf ∧ d'.buf = d0.buf ∧ c'.closed = c0.closed ∧ d'.closed = d0.closed ∧ ((i = j ∧ c'.snd = xs ∧ d'.snd = r) ∨ (i ≠ j ∧ c'.snd = c0.snd ∧ d'.snd = d0.snd)) := fun i d' c' h1 h2 => by
    by_cases e : i = j
    · subst e
      rw [List.getElem?_set_self hjd] at h1
      rw [List.getElem?_set_self hjl] at h2
      cases h1; cases h2
      exact ⟨d, c, hd, hc, rfl, rfl, rfl, rfl, rfl, rfl, rfl, rfl, .inl ⟨rfl, rfl, rfl⟩⟩
    · rw [List.getElem?_set_ne (Ne.symm e)] at h1 h2
      exact ⟨d', c', h1, h2, rfl, rfl, rfl, rfl, rfl, rfl, rfl, rfl, .inr ⟨e, rfl, rfl⟩⟩
  have key2 : ∀ (i : Nat) d', (S.cs.set j { d with snd := r })[i]? = some d' → ∃ d0, S.cs[i]? = some d0 ∧ d'.rcv = d0.rcv ∧ d'.size = d0.size ∧ d'.buf = d0.buf ∧ ((i = j ∧ d'.snd = r) ∨ (i ≠ j ∧ d'.snd = d0.snd)) := fun i d' h1 => by
    by_cases e : i = j
    · subst e
      rw [List.getElem?_set_self hjd] at h1
      cases h1
      exact ⟨d, hd, rfl, rfl, rfl, .inl ⟨rfl, rfl⟩⟩
    · rw [List.getElem?_set_ne (Ne.symm e)] at h1
      exact ⟨d', h1, rfl, rfl, rfl, .inr ⟨e, rfl⟩⟩
  have hsim : Sim (S.setC j { d with snd := r }) ({ D with fi := D.fi.set x.tk.toNat true } : MW).clean := by
    refine ⟨h.li, h.la, h.lt, h.lo, ?_, fun i d' c' h1 h2 => ?_, h.pos, h.to, fun i i' c1 c2 y y' h1 h2 h3 h4 h5 => ?_⟩
    · rw [ech]
      show (D.ch.set j _).length = (S.cs.set j _).length
      rw [List.length_set, List.length_set]; exact h.lc
    · rw [ech] at h2
      obtain ⟨d0, c0, g1, g2, g3, g4, g5, g6, g7, g8, g9, g10, g11⟩ := key i d' c' h1 h2
      have s := h.ch i d0 c0 g1 g2
      have zB : Zip (WtR (S.setC j { d with snd := r }) ({ D with fi := D.fi.set x.tk.toNat true } : MW).clean) c'.rcv d'.rcv := by
        rw [g3, g4]
        refine ⟨s.rcv.1, fun t a b ha hb => ?_⟩
        obtain ⟨q1, q2, q3, q4, q5⟩ := s.rcv.2 t a b ha hb
        exact ⟨q1, q2, q3, q4, ffi _ q5 (oB i c0 a g2 (List.mem_of_getElem? ha)).2⟩
      have zA : Zip (WtS (S.setC j { d with snd := r }) ({ D with fi := D.fi.set x.tk.toNat true } : MW).clean) c'.snd d'.snd := by
        rcases g11 with ⟨rfl, e1, e2⟩ | ⟨e0, e1, e2⟩
        · rw [e1, e2]
          refine ⟨hzt.1, fun t a b ha hb => ?_⟩
          obtain ⟨q1, q2, q3, q4, q5⟩ := hzt.2 t a b ha hb
          exact ⟨q1, q2, q3, q4, ffi _ q5 (oJ a (List.mem_of_getElem? ha)).2⟩
        · rw [e1, e2]
          refine ⟨s.snd.1, fun t a b ha hb => ?_⟩
          obtain ⟨q1, q2, q3, q4, q5⟩ := s.snd.2 t a b ha hb
          exact ⟨q1, q2, q3, q4, ffi _ q5 (oA i c0 a e0 g2 (List.mem_of_getElem? ha)).2⟩
      exact { size := by rw [g5, g6]; exact s.size, buf := by rw [g7, g8]; exact s.buf, closed := by rw [g9, g10]; exact s.closed, rcv := zB, snd := zA }
    · rw [ech] at h1 h2
      have sub : ∀ (i : Nat) c1 y, (D.ch.set j { c with snd := xs })[i]? = some c1 → y ∈ c1.snd ++ c1.rcv → ∃ c0, D.ch[i]? = some c0 ∧ y ∈ c0.snd ++ c0.rcv := fun i c1 y g1 g2 => by
        by_cases e : i = j
        · subst e
          rw [List.getElem?_set_self hjl] at g1
          cases g1
          refine ⟨c, hc, ?_⟩
          rcases List.mem_append.1 g2 with g | g
          · first | exact List.mem_append_left _ g | exact List.mem_append_left _ (by rw [hx]; exact List.mem_cons_of_mem _ g)
          · first | exact List.mem_append_right _ g | exact List.mem_append_right _ (by rw [hx]; exact List.mem_cons_of_mem _ g)
        · rw [List.getElem?_set_ne (Ne.symm e)] at g1
          exact ⟨c1, g1, g2⟩
      obtain ⟨c1', a1, a2⟩ := sub i c1 y h1 h3
      obtain ⟨c2', b1, b2⟩ := sub i' c2 y' h2 h4
      exact h.tk i i' c1' c2' y y' a1 b1 a2 b2 h5
  have outs : ∀ (i : Nat) d', (S.cs.set j { d with snd := r })[i]? = some d' → m ∉ d'.snd ∧ m ∉ d'.rcv := fun i d' hd' => by
    obtain ⟨d0, g1, g2, _, _, g11⟩ := key2 i d' hd'
    have pB : m ∉ d'.rcv := fun hm' => by
      rw [g2] at hm'
      obtain ⟨s', e, e'⟩ := p.prcv g1 hm'
      rw [hm] at e; cases e; have e3 := e'; exact St.notBoth hs0 e3
    have pA : m ∉ d'.snd := fun hm' => by
      rcases g11 with ⟨rfl, e2⟩ | ⟨e0, e2⟩
      · rw [e2] at hm'; exact n1 hm'
      · rw [e2] at hm'
        obtain ⟨s', e, e'⟩ := p.psnd g1 hm'
        rw [hm] at e; cases e; rw [hs0] at e'; cases e'; exact e0 rfl
    exact ⟨pA, pB⟩
  have yB : ∀ (i : Nat) d', (S.cs.set j { d with snd := r })[i]? = some d' → d'.rcv.Nodup := fun i d' hd' => by
    obtain ⟨d0, g1, g2, g6, g8, g11⟩ := key2 i d' hd'
    rw [g2]; exact p.nrcv i d0 g1
  have yA : ∀ (i : Nat) d', (S.cs.set j { d with snd := r })[i]? = some d' → d'.snd.Nodup := fun i d' hd' => by
    obtain ⟨d0, g1, g2, g6, g8, g11⟩ := key2 i d' hd'
    rcases g11 with ⟨rfl, e2⟩ | ⟨e0, e2⟩
    · rw [e2]; exact n2
    · rw [e2]; exact p.nsnd i d0 g1
  have wB : ∀ (i : Nat) d' m', (S.cs.set j { d with snd := r })[i]? = some d' → m' ∈ d'.rcv → ∃ k, S.sts[m']? = some (.wR k i) := fun i d' m' hd' hm' => by
    obtain ⟨d0, g1, g2, g6, g8, g11⟩ := key2 i d' hd'
    rw [g2] at hm'; exact p.rcv i d0 m' g1 hm'
  have wA : ∀ (i : Nat) d' m', (S.cs.set j { d with snd := r })[i]? = some d' → m' ∈ d'.snd → ∃ k v, S.sts[m']? = some (.wS k i v) := fun i d' m' hd' hm' => by
    obtain ⟨d0, g1, g2, g6, g8, g11⟩ := key2 i d' hd'
    rcases g11 with ⟨rfl, e2⟩ | ⟨e0, e2⟩
    · rw [e2] at hm'
      exact p.snd i d m' hd (by rw [hr]; exact List.mem_cons_of_mem _ hm')
    · rw [e2] at hm'; exact p.snd i d0 m' g1 hm'
  have wr : ∀ (i : Nat) d', (S.cs.set j { d with snd := r })[i]? = some d' → (d'.buf.length : Int) ≤ d'.size ∧ d'.size ≤ 64 := fun i d' hd' => by
    obtain ⟨d0, g1, g2, g6, g8, g11⟩ := key2 i d' hd'
    rw [g8, g6]; exact p.room i d0 g1
  have hp : PInv (S.setC j { d with snd := r }) := { few := p.few, nd := p.nd, nn := p.nn, rdy := p.rdy, nrcv := yB, nsnd := yA, rcv := wB, snd := wA, room := wr }
  exact ⟨ech, hsim, hp, outs⟩
end
end Go.Proofs.YtbaidcnalkdhgaaGreat
set_option maxRecDepth 100000
namespace Go.Proofs.YtbaidcnalkdhgaaGreat
open Go Go.Eng
section
variable {S : PS K16} {D : MW} {i j m : Nat}
/-- a task that waits nowhere gets ready -/
theorem sim_ready (h : Sim S D) (p : PInv S) {s0 s' : St K16} (hs : S.sts[i]? = some s0) (hr0 : s0.rdy = false) (hout : ∀ (j : Nat) d, S.cs[j]? = some d → i ∉ d.snd ∧ i ∉ d.rcv) (hr : s'.rdy = true) {k : K16} (hk : s'.key = some k) (hpos : D.at_[i]? = some (k.pos : Int)) :
    Sim ⟨S.sts.set i s', S.tbs, S.cs, readyL S.line i⟩ (D.yields i s'.told) ∧ PInv ⟨S.sts.set i s', S.tbs, S.cs, readyL S.line i⟩ := by
  have hil := (List.getElem?_eq_some_iff.1 hs).1
  have hni : (i : Int) ∉ S.line := fun hm => by
    obtain ⟨s, h1, h2⟩ := (p.rdy i).1 hm
    rw [hs] at h1; cases h1; rw [hr0] at h2; cases h2
  rw [p.push hs hr0]
  constructor
  · refine ⟨?_, ?_, ?_, ?_, h.lc, fun j d c hd hc => ?_, fun a s k' ha hk' => ?_, fun a s ha hs' => ?_, h.tk⟩
    · show D.li ++ _ = S.line ++ _
      rw [h.li]
    · show D.at_.length = (S.sts.set i s').length
      rw [List.length_set]; exact h.la
    · show (D.to.set _ _).length = (S.sts.set i s').length
      rw [List.length_set, List.length_set]; exact h.lt
    · show D.ov.length = (S.sts.set i s').length
      rw [List.length_set]; exact h.lo
    · have s := h.ch j d c hd hc
      refine ⟨s.size, s.buf, s.closed, ⟨s.snd.1, fun t a b ha hb => ?_⟩, s.rcv⟩
      obtain ⟨q1, q2, q3, q4, q5⟩ := s.snd.2 t a b ha hb
      refine ⟨q1, q2, ?_, q4, q5⟩
      have hne : b ≠ i := fun e => (hout j d hd).1 (e ▸ List.mem_of_getElem? hb)
      rw [q3]
      unfold PS.valS
      dsimp only
      rw [List.getElem?_set_ne (Ne.symm hne)]
    · have ha : (S.sts.set i s')[a]? = some s := ha
      by_cases e : a = i
      · subst e
        rw [List.getElem?_set_self hil] at ha
        cases ha
        rw [hk] at hk'; cases hk'
        exact hpos
      · rw [List.getElem?_set_ne (Ne.symm e)] at ha
        exact h.pos a s k' ha hk'
    · have ha : (S.sts.set i s')[a]? = some s := ha
      show (D.to.set ((i : Nat) : Int).toNat s'.told)[a]? = _
      rw [Int.toNat_natCast]
      by_cases e : a = i
      · subst e
        rw [List.getElem?_set_self hil] at ha
        cases ha
        rw [List.getElem?_set_self (by rw [h.lt]; exact hil)]
      · rw [List.getElem?_set_ne (Ne.symm e)] at ha ⊢
        exact h.to a s ha hs'
  · refine ⟨by show (S.sts.set i s').length ≤ _; rw [List.length_set]; exact p.few, ?_, ?_, fun a => ?_, p.nsnd, p.nrcv, fun j d a hd ha => ?_, fun j d a hd ha => ?_, p.room⟩
    · exact List.nodup_append.2 ⟨p.nd, List.nodup_cons.2 ⟨by simp, List.nodup_nil⟩, fun a ha b hb => by
        rw [List.mem_singleton] at hb; subst hb; exact fun e => hni (e ▸ ha)⟩
    · intro z hz
      rcases List.mem_append.1 hz with hz | hz
      · exact p.nn z hz
      · rw [List.mem_singleton] at hz; omega
    · show (a : Int) ∈ S.line ++ [(i : Int)] ↔ ∃ s, (S.sts.set i s')[a]? = some s ∧ s.rdy = true
      by_cases e : a = i
      · subst e
        rw [List.getElem?_set_self hil]
        exact ⟨fun _ => ⟨_, rfl, hr⟩, fun _ => List.mem_append_right _ List.mem_cons_self⟩
      · rw [List.getElem?_set_ne (Ne.symm e), ← p.rdy a]
        constructor
        · intro hz
          rcases List.mem_append.1 hz with hz | hz
          · exact hz
          · rw [List.mem_singleton] at hz; omega
        · exact fun hz => List.mem_append_left _ hz
    · have hne : a ≠ i := fun e => (hout j d hd).1 (e ▸ ha)
      obtain ⟨k', v', e⟩ := p.snd j d a hd ha
      exact ⟨k', v', by show (S.sts.set i s')[a]? = _; rw [List.getElem?_set_ne (Ne.symm hne)]; exact e⟩
    · have hne : a ≠ i := fun e => (hout j d hd).2 (e ▸ ha)
      obtain ⟨k', e⟩ := p.rcv j d a hd ha
      exact ⟨k', by show (S.sts.set i s')[a]? = _; rw [List.getElem?_set_ne (Ne.symm hne)]; exact e⟩
theorem sim_wokeR (h : Sim S D) (p : PInv S) {d : C16} {c : MC} (hd : S.cs[j]? = some d) (hc : D.ch[j]? = some c) {r : List Nat} (hr : d.rcv = m :: r) {x : Wt} {xs : List Wt} (hx : c.rcv = x :: xs) (v : Int) (ok : Bool) :
    Sim ((S.setC j { d with rcv := r }).wokeR m v ok) (D.serve x v ok) ∧ PInv ((S.setC j { d with rcv := r }).wokeR m v ok) := by
  obtain ⟨ech, h1, p1, out⟩ := sim_takercv h p hd hc hr hx
  obtain ⟨k, hm⟩ := p.rcv j d m hd (by rw [hr]; exact List.mem_cons_self)
  have hz := (h.ch j d c hd hc).rcv
  rw [hr, hx] at hz
  obtain ⟨⟨ht, hw, _, ht0, htf⟩, _⟩ := hz.tail
  rw [wokeR_w hm]
  have hpos := h.pos m _ k hm rfl
  have := sim_ready (s' := .rdyR k v ok) h1 p1 (show (S.setC j { d with rcv := r }).sts[m]? = _ from hm) rfl out rfl rfl (show _ = some (k.pos : Int) from hpos)
  unfold MW.serve
  rw [if_pos (by omega), ht, hw]
  exact this
theorem sim_wokeS (h : Sim S D) (p : PInv S) {d : C16} {c : MC} (hd : S.cs[j]? = some d) (hc : D.ch[j]? = some c) {r : List Nat} (hr : d.snd = m :: r) {x : Wt} {xs : List Wt} (hx : c.snd = x :: xs) (ok : Bool) :
    Sim ((S.setC j { d with snd := r }).wokeS m ok) (D.serve x 0 ok) ∧ PInv ((S.setC j { d with snd := r }).wokeS m ok) := by
  obtain ⟨ech, h1, p1, out⟩ := sim_takesnd h p hd hc hr hx
  obtain ⟨k, v, hm⟩ := p.snd j d m hd (by rw [hr]; exact List.mem_cons_self)
  have hz := (h.ch j d c hd hc).snd
  rw [hr, hx] at hz
  obtain ⟨⟨ht, hw, _, ht0, htf⟩, _⟩ := hz.tail
  rw [wokeS_w hm]
  have hpos := h.pos m _ k hm rfl
  have := sim_ready (s' := .rdyS k ok) h1 p1 (show (S.setC j { d with snd := r }).sts[m]? = _ from hm) rfl out rfl rfl (show _ = some (k.pos : Int) from hpos)
  unfold MW.serve
  rw [if_pos (by omega), ht, hw]
  exact this
/-- a channel's buffer, or that it is closed, changes in both -/
theorem sim_setC (h : Sim S D) (p : PInv S) {d d' : C16} {c c' : MC} (hd : S.cs[j]? = some d) (hc : D.ch[j]? = some c) (e1 : d'.snd = d.snd) (e2 : d'.rcv = d.rcv) (e3 : c'.snd = c.snd) (e4 : c'.rcv = c.rcv) (e5 : c'.size = d'.size) (e6 : c'.buf = d'.buf) (e7 : c'.closed = d'.closed) (e8 : (d'.buf.length : Int) ≤ d'.size ∧ d'.size ≤ 64) :
    Sim (S.setC j d') (D.setC j c') ∧ PInv (S.setC j d') := by
  have hjl := (List.getElem?_eq_some_iff.1 hc).1
  have hjd := (List.getElem?_eq_some_iff.1 hd).1
  have k1 : ∀ (i : Nat) x, (S.cs.set j d')[i]? = some x → ∃ x0, S.cs[i]? = some x0 ∧ x.snd = x0.snd ∧ x.rcv = x0.rcv ∧ ((i = j ∧ x = d') ∨ (i ≠ j ∧ x = x0)) := fun i x hx => by
    by_cases e : i = j
    · subst e
      rw [List.getElem?_set_self hjd] at hx
      cases hx
      exact ⟨d, hd, e1, e2, .inl ⟨rfl, rfl⟩⟩
    · rw [List.getElem?_set_ne (Ne.symm e)] at hx
      exact ⟨x, hx, rfl, rfl, .inr ⟨e, rfl⟩⟩
  have k2 : ∀ (i : Nat) x, (D.ch.set j c')[i]? = some x → ∃ x0, D.ch[i]? = some x0 ∧ x.snd = x0.snd ∧ x.rcv = x0.rcv ∧ ((i = j ∧ x = c') ∨ (i ≠ j ∧ x = x0)) := fun i x hx => by
    by_cases e : i = j
    · subst e
      rw [List.getElem?_set_self hjl] at hx
      cases hx
      exact ⟨c, hc, e3, e4, .inl ⟨rfl, rfl⟩⟩
    · rw [List.getElem?_set_ne (Ne.symm e)] at hx
      exact ⟨x, hx, rfl, rfl, .inr ⟨e, rfl⟩⟩
  constructor
  · refine ⟨h.li, h.la, h.lt, h.lo, ?_, fun i x y hx hy => ?_, h.pos, h.to, fun i i' y y' x x' hy hy' hx hx' => ?_⟩
    · show (D.ch.set j c').length = (S.cs.set j d').length
      rw [List.length_set, List.length_set]; exact h.lc
    · obtain ⟨x0, a1, a2, a3, a4⟩ := k1 i x hx
      obtain ⟨y0, b1, b2, b3, b4⟩ := k2 i y hy
      have s := h.ch i x0 y0 a1 b1
      have hS : Zip (WtS (S.setC j d') (D.setC j c')) y.snd x.snd := by rw [a2, b2]; exact s.snd
      have hR : Zip (WtR (S.setC j d') (D.setC j c')) y.rcv x.rcv := by rw [a3, b3]; exact s.rcv
      rcases a4 with ⟨e, rfl⟩ | ⟨e, rfl⟩
      · rcases b4 with ⟨_, rfl⟩ | ⟨e', _⟩
        · exact ⟨e5, e6, e7, hS, hR⟩
        · exact absurd e e'
      · rcases b4 with ⟨e', _⟩ | ⟨_, rfl⟩
        · exact absurd e' e
        · exact ⟨s.size, s.buf, s.closed, hS, hR⟩
    · obtain ⟨y0, b1, b2, b3, _⟩ := k2 i y hy
      obtain ⟨z0, c1, c2, c3, _⟩ := k2 i' y' hy'
      rw [b2, b3] at hx
      rw [c2, c3] at hx'
      exact h.tk i i' y0 z0 x x' b1 c1 hx hx'
  · refine ⟨p.few, p.nd, p.nn, p.rdy, fun i x hx => ?_, fun i x hx => ?_, fun i x m hx hm => ?_, fun i x m hx hm => ?_, fun i x hx => ?_⟩
    all_goals obtain ⟨x0, a1, a2, a3, a4⟩ := k1 i x hx
    · rw [a2]; exact p.nsnd i x0 a1
    · rw [a3]; exact p.nrcv i x0 a1
    · rw [a2] at hm; exact p.snd i x0 m a1 hm
    · rw [a3] at hm; exact p.rcv i x0 m a1 hm
    · rcases a4 with ⟨_, rfl⟩ | ⟨_, rfl⟩
      · exact e8
      · exact p.room i x a1
theorem setC_self {κ : Type} {S : PS κ} {j : Nat} {d : C16} (hd : S.cs[j]? = some d) : S.setC j d = S := by
  unfold PS.setC
  rw [set_same hd]
theorem sim_trySend (h : Sim S D) (p : PInv S) {d : C16} (hd : S.cs[j]? = some d) (v : Int) :
    D.can ⟨true, (j : Int), v⟩ = (S.trySend j v).2.2 ∧ ((S.trySend j v).2.2 = true → Sim (S.trySend j v).1 (D.send j v).1 ∧ PInv (S.trySend j v).1 ∧ (D.send j v).2 = (S.trySend j v).2.1) := by
  obtain ⟨c, hc⟩ := h.cget hd
  have s := h.ch j d c hd hc
  have hroom := p.room j d hd
  have ecan : D.can ⟨true, (j : Int), v⟩ = c.canS := by unfold MW.can; simp only [Int.toNat_natCast, hc]; rfl
  have hl := s.rcv.1
  rw [ecan]
  unfold PS.trySend MW.send MC.canS
  simp only [hd, hc, s.closed, s.buf, s.size]
  cases hcl : d.closed with
  | true => exact ⟨rfl, fun _ => ⟨h, p, rfl⟩⟩
  | false =>
    simp only [Bool.false_eq_true, if_false, Bool.false_or]
    cases hr : d.rcv with
    | cons m r =>
      obtain ⟨x, xs, hx⟩ : ∃ x xs, c.rcv = x :: xs := by
        rw [hr] at hl
        cases hq : c.rcv with
        | nil => rw [hq] at hl; simp at hl
        | cons x xs => exact ⟨x, xs, rfl⟩
      simp only [hx]
      refine ⟨by simp, fun _ => ?_⟩
      obtain ⟨a, b⟩ := sim_wokeR h p hd hc hr hx v true
      simp only [hcl] at a b
      exact ⟨a, b, trivial⟩
    | nil =>
      have hx : c.rcv = [] := by
        rw [hr] at hl
        cases hq : c.rcv with
        | nil => rfl
        | cons x xs => rw [hq] at hl; simp at hl
      simp only [hx]
      by_cases hfull : (d.buf.length : Int) = d.size
      · rw [if_pos hfull]
        refine ⟨?_, fun hf => by cases hf⟩
        simp [hfull]
      · rw [if_neg hfull]
        refine ⟨?_, fun _ => ?_⟩
        · have : (d.buf.length : Int) < d.size := by omega
          simp [this]
        · obtain ⟨a, b⟩ := sim_setC h p (d' := { d with buf := d.buf ++ [v] }) (c' := { c with buf := c.buf ++ [v] }) hd hc rfl rfl rfl rfl s.size (by rw [s.buf]) s.closed (by simp only [List.length_append, List.length_singleton]; omega)
          simp only [hcl, hr, hx, s.closed, s.buf, s.size] at a b
          exact ⟨a, b, rfl⟩
theorem sim_tryRecv (h : Sim S D) (p : PInv S) {d : C16} (hd : S.cs[j]? = some d) (v : Int) :
    D.can ⟨false, (j : Int), v⟩ = (S.tryRecv j).2.2.2 ∧ ((S.tryRecv j).2.2.2 = true → Sim (S.tryRecv j).1 (D.recv j).1 ∧ PInv (S.tryRecv j).1 ∧ (D.recv j).2 = ((S.tryRecv j).2.1, (S.tryRecv j).2.2.1)) := by
  obtain ⟨c, hc⟩ := h.cget hd
  have s := h.ch j d c hd hc
  have hroom := p.room j d hd
  have ecan : D.can ⟨false, (j : Int), v⟩ = c.canR := by unfold MW.can; simp only [Int.toNat_natCast, hc]; rfl
  have hl := s.snd.1
  have hjl := (List.getElem?_eq_some_iff.1 hc).1
  have hjd := (List.getElem?_eq_some_iff.1 hd).1
  rw [ecan]
  unfold PS.tryRecv MW.recv MC.canR
  simp only [hd, hc, s.closed, s.buf, s.size]
  cases hr : d.snd with
  | cons m r =>
    obtain ⟨x, xs, hx⟩ : ∃ x xs, c.snd = x :: xs := by
      rw [hr] at hl
      cases hq : c.snd with
      | nil => rw [hq] at hl; simp at hl
      | cons x xs => exact ⟨x, xs, rfl⟩
    have hv : x.v = S.valS m := by
      have hz := s.snd
      rw [hr, hx] at hz
      exact hz.tail.1.2.2.1
    simp only [hx]
    refine ⟨by simp, fun _ => ?_⟩
    cases hb : d.buf with
    | nil =>
      obtain ⟨a, b⟩ := sim_wokeS h p hd hc hr hx true
      have e : ({ d with snd := r } : C16) = { d with buf := rbuf [] (S.valS m), snd := r } := by
        rw [show rbuf [] (S.valS m) = [] from rfl]
        cases d; simp only at hb ⊢; rw [hb]
      rw [e] at a b
      exact ⟨a, b, by rw [hv]; rfl⟩
    | cons y ys =>
      simp only []
      obtain ⟨a1, b1⟩ := sim_setC h p (d' := { d with buf := ys ++ [S.valS m] }) (c' := { c with buf := ys ++ [x.v] }) hd hc rfl rfl rfl rfl s.size (by show ys ++ [x.v] = _; rw [hv]) s.closed (by
        rw [hb] at hroom
        simp only [List.length_append, List.length_singleton, List.length_cons] at hroom ⊢
        omega)
      obtain ⟨a, b⟩ := sim_wokeS a1 b1 (show (S.cs.set j _)[j]? = some _ from List.getElem?_set_self hjd) (show (D.ch.set j _)[j]? = some _ from List.getElem?_set_self hjl) hr hx true
      have e : (S.setC j { d with buf := ys ++ [S.valS m] }).setC j { d with buf := ys ++ [S.valS m], snd := r } = S.setC j { d with buf := rbuf (y :: ys) (S.valS m), snd := r } := by
        unfold PS.setC rbuf
        simp only [List.set_set]
      have a' : Sim (((S.setC j { d with buf := ys ++ [S.valS m] }).setC j { d with buf := ys ++ [S.valS m], snd := r }).wokeS m true) _ := a
      have b' : PInv (((S.setC j { d with buf := ys ++ [S.valS m] }).setC j { d with buf := ys ++ [S.valS m], snd := r }).wokeS m true) := b
      rw [e] at a' b'
      simp only [hx, s.closed, s.size] at a'
      exact ⟨a', b', rfl⟩
  | nil =>
    have hx : c.snd = [] := by
      rw [hr] at hl
      cases hq : c.snd with
      | nil => rfl
      | cons x xs => rw [hq] at hl; simp at hl
    simp only [hx]
    cases hb : d.buf with
    | nil =>
      have e : ({ cb := d.cb, size := d.size, buf := ([] : List Int).tail, snd := [], rcv := d.rcv, closed := d.closed } : C16) = d := by
        cases d; simp only at hb hr ⊢; rw [hb, hr]; rfl
      refine ⟨by simp, fun _ => ?_⟩
      refine ⟨?_, ?_, rfl⟩
      · show Sim (S.setC j _) D
        rw [e, setC_self hd]; exact h
      · show PInv (S.setC j _)
        rw [e, setC_self hd]; exact p
    | cons y ys =>
      refine ⟨by simp, fun _ => ?_⟩
      obtain ⟨a1, b1⟩ := sim_setC h p (d' := { d with buf := ys }) (c' := { c with buf := ys }) hd hc rfl rfl rfl rfl s.size rfl s.closed (by
        rw [hb] at hroom
        simp only [List.length_cons] at hroom ⊢
        omega)
      have e : ({ cb := d.cb, size := d.size, buf := (y :: ys).tail, snd := [], rcv := d.rcv, closed := d.closed } : C16) = { d with buf := ys } := by
        cases d; simp only at hr ⊢; rw [hr]; rfl
      have ec : ({ size := d.size, buf := ys, snd := [], rcv := c.rcv, closed := d.closed } : MC) = { c with buf := ys } := by
        have h1 := s.size
        have h2 := s.closed
        cases c; simp only at hx h1 h2 ⊢; rw [hx, h1, h2]
      refine ⟨?_, ?_, rfl⟩
      · show Sim (S.setC j _) (D.setC j _)
        rw [e]
        simp only [hx, s.closed, s.size] at a1
        exact a1
      · show PInv (S.setC j _)
        rw [e]; exact b1
end
end Go.Proofs.YtbaidcnalkdhgaaGreat
set_option maxRecDepth 100000
namespace Go.Proofs.YtbaidcnalkdhgaaGreat
open Go Go.Eng
section
variable {κ : Type}
theorem wokeR_setC (S : PS κ) (j m : Nat) (v : Int) (ok : Bool) (d : C16) : (S.setC j d).wokeR m v ok = (S.wokeR m v ok).setC j d := by
  unfold PS.wokeR PS.setC
  dsimp only
  cases S.sts[m]? with
  | none => rfl
  | some s => cases s <;> rfl
theorem wokeS_setC (S : PS κ) (j m : Nat) (ok : Bool) (d : C16) : (S.setC j d).wokeS m ok = (S.wokeS m ok).setC j d := by
  unfold PS.wokeS PS.setC
  dsimp only
  cases S.sts[m]? with
  | none => rfl
  | some s => cases s <;> rfl
theorem allR_setC (j : Nat) (d : C16) : ∀ (l : List Nat) (S : PS κ), (S.setC j d).allR l = (S.allR l).setC j d
  | [], S => rfl
  | m :: r, S => by
    show ((S.setC j d).wokeR m 0 false).allR r = ((S.wokeR m 0 false).allR r).setC j d
    rw [wokeR_setC, allR_setC j d r]
theorem setC_setC (S : PS κ) (j : Nat) (d d' : C16) : (S.setC j d).setC j d' = S.setC j d' := by
  unfold PS.setC
  simp only [List.set_set]
end
section
variable {S S' : PS K16} {D D' : MW} {i j m : Nat}
theorem sim_endsR : ∀ (r : List Nat) {S : PS K16} {D : MW} {d : C16}, Sim S D → PInv S → S.cs[j]? = some d → d.rcv = r → Sim ((S.setC j { d with rcv := [] }).allR r) (MW.endsR j r.length D) ∧ PInv ((S.setC j { d with rcv := [] }).allR r)
  | [], S, D, d, h, p, hd, hr => by
    have e : ({ d with rcv := [] } : C16) = d := by cases d; simp only at hr ⊢; rw [hr]
    rw [e, setC_self hd]
    exact ⟨h, p⟩
  | m :: r, S, D, d, h, p, hd, hr => by
    obtain ⟨c, hc⟩ := h.cget hd
    have hl := (h.ch j d c hd hc).rcv.1
    obtain ⟨x, xs, hx⟩ : ∃ x xs, c.rcv = x :: xs := by
      rw [hr] at hl
      cases hq : c.rcv with
      | nil => rw [hq] at hl; simp at hl
      | cons x xs => exact ⟨x, xs, rfl⟩
    obtain ⟨a, b⟩ := sim_wokeR h p hd hc hr hx 0 false
    have e1 : MW.endsR j (r.length + 1) D = MW.endsR j r.length (D.serve x 0 false) := by
      rw [MW.endsR, hc]; simp only []; rw [hx]
    have hcs : ((S.setC j { d with rcv := r }).wokeR m 0 false).cs[j]? = some { d with rcv := r } := by
      rw [wokeR_cs]
      exact List.getElem?_set_self (List.getElem?_eq_some_iff.1 hd).1
    have := sim_endsR r a b hcs rfl
    have e2 : (((S.setC j { d with rcv := r }).wokeR m 0 false).setC j { d with rcv := [] }).allR r = (S.setC j { d with rcv := [] }).allR (m :: r) := by
      rw [← wokeR_setC]
      show _ = ((S.setC j { d with rcv := [] }).wokeR m 0 false).allR r
      unfold PS.setC
      simp only [List.set_set]
    rw [List.length_cons, e1, ← e2]
    exact this
theorem sim_endsS : ∀ (r : List Nat) {S : PS K16} {D : MW} {d : C16}, Sim S D → PInv S → S.cs[j]? = some d → d.snd = r → Sim ((S.setC j { d with snd := [] }).allS r) (MW.endsS j r.length D) ∧ PInv ((S.setC j { d with snd := [] }).allS r)
  | [], S, D, d, h, p, hd, hr => by
    have e : ({ d with snd := [] } : C16) = d := by cases d; simp only at hr ⊢; rw [hr]
    rw [e, setC_self hd]
    exact ⟨h, p⟩
  | m :: r, S, D, d, h, p, hd, hr => by
    obtain ⟨c, hc⟩ := h.cget hd
    have hl := (h.ch j d c hd hc).snd.1
    obtain ⟨x, xs, hx⟩ : ∃ x xs, c.snd = x :: xs := by
      rw [hr] at hl
      cases hq : c.snd with
      | nil => rw [hq] at hl; simp at hl
      | cons x xs => exact ⟨x, xs, rfl⟩
    obtain ⟨a, b⟩ := sim_wokeS h p hd hc hr hx  false
    have e1 : MW.endsS j (r.length + 1) D = MW.endsS j r.length (D.serve x 0 false) := by
      rw [MW.endsS, hc]; simp only []; rw [hx]
    have hcs : ((S.setC j { d with snd := r }).wokeS m  false).cs[j]? = some { d with snd := r } := by
      rw [wokeS_cs]
      exact List.getElem?_set_self (List.getElem?_eq_some_iff.1 hd).1
    have := sim_endsS r a b hcs rfl
    have e2 : (((S.setC j { d with snd := r }).wokeS m  false).setC j { d with snd := [] }).allS r = (S.setC j { d with snd := [] }).allS (m :: r) := by
      rw [← wokeS_setC]
      show _ = ((S.setC j { d with snd := [] }).wokeS m  false).allS r
      unfold PS.setC
      simp only [List.set_set]
    rw [List.length_cons, e1, ← e2]
    exact this
theorem sim_close (h : Sim S D) (p : PInv S) {d : C16} (hd : S.cs[j]? = some d) : Sim (S.close j).1 (D.close j).1 ∧ PInv (S.close j).1 ∧ (D.close j).2 = (S.close j).2 := by
  obtain ⟨c, hc⟩ := h.cget hd
  have s := h.ch j d c hd hc
  have hjl := (List.getElem?_eq_some_iff.1 hc).1
  have hjd := (List.getElem?_eq_some_iff.1 hd).1
  unfold PS.close MW.close
  simp only [hd, hc, s.closed]
  cases hcl : d.closed with
  | true => exact ⟨h, p, rfl⟩
  | false =>
    simp only [Bool.false_eq_true, if_false]
    obtain ⟨a0, b0⟩ := sim_setC h p (d' := { d with closed := true }) (c' := { c with closed := true }) hd hc rfl rfl rfl rfl s.size s.buf rfl (p.room j d hd)
    have hd0 : (S.setC j { d with closed := true }).cs[j]? = some { d with closed := true } := List.getElem?_set_self hjd
    obtain ⟨a1, b1⟩ := sim_endsR d.rcv a0 b0 hd0 rfl
    have e1 : D.close1 j c = MW.endsR j d.rcv.length (D.setC j { c with closed := true }) := by unfold MW.close1; rw [s.rcv.1]
    rw [setC_setC] at a1 b1
    have hd1 : ((S.setC j { d with closed := true, rcv := [] }).allR d.rcv).cs[j]? = some { d with closed := true, rcv := [] } := by
      rw [allR_cs]; exact List.getElem?_set_self hjd
    obtain ⟨a2, b2⟩ := sim_endsS d.snd a1 b1 hd1 rfl
    rw [← allR_setC, setC_setC] at a2 b2
    have e2 : (D.close1 j c).sndL j = d.snd.length := by
      rw [e1]
      obtain ⟨c1, hc1⟩ := a1.cget hd1
      unfold MW.sndL
      rw [hc1]
      exact (a1.ch j _ c1 hd1 hc1).snd.1
    refine ⟨?_, ?_, trivial⟩
    · rw [e2, e1]; exact a2
    · exact b2
theorem WtS.keep {x : Wt} (h : WtS S D x m) (hs : S'.sts[m]? = S.sts[m]?) (hf : ∀ t : Nat, D.fi[t]? = some false → D'.fi[t]? = some false) : WtS S' D' x m :=
  ⟨h.1, h.2.1, by rw [h.2.2.1]; unfold PS.valS; rw [hs], h.2.2.2.1, hf _ h.2.2.2.2⟩
theorem WtR.keep {x : Wt} (h : WtR S D x m) (hs : S'.sts[m]? = S.sts[m]?) (hf : ∀ t : Nat, D.fi[t]? = some false → D'.fi[t]? = some false) : WtR S' D' x m :=
  ⟨h.1, h.2.1, trivial, h.2.2.2.1, hf _ h.2.2.2.2⟩
theorem valS_at {k : K16} {v : Int} {tbs : List Nat} {cs : List C16} {line : List Int} (hil : i < S.sts.length) : v = PS.valS ⟨S.sts.set i (.wS k j v), tbs, cs, line⟩ i := by
  unfold PS.valS
  dsimp only
  rw [List.getElem?_set_self hil]
theorem sim_waitsnd (h : Sim S D) (p : PInv S) (hi : S.sts[i]? = some .run) {d : C16} {c : MC} (hd : S.cs[j]? = some d) (hc : D.ch[j]? = some c) (k : K16) (v : Int) (hpos : D.at_[i]? = some (k.pos : Int)) :
    Sim ⟨S.sts.set i (.wS k j v), S.tbs, S.cs.set j { d with snd := d.snd ++ [i] }, S.line⟩ (({ D with fi := D.fi ++ [false] } : MW).setC j { c with snd := c.snd ++ [⟨i, D.fi.length, 0, v⟩] }) := by
  have hjl := (List.getElem?_eq_some_iff.1 hc).1
  have hjd := (List.getElem?_eq_some_iff.1 hd).1
  have hil := (List.getElem?_eq_some_iff.1 hi).1
  have hout := p.out hi rfl
  have hfi : ∀ t : Nat, D.fi[t]? = some false → (D.fi ++ [false])[t]? = some false := fun t ht => by rw [List.getElem?_append_left (List.getElem?_eq_some_iff.1 ht).1]; exact ht
  have hlt : ∀ (a : Nat) ca y, D.ch[a]? = some ca → y ∈ ca.snd ++ ca.rcv → y.tk.toNat < D.fi.length := fun a ca y ha hy => by
    rcases List.mem_append.1 hy with hy | hy
    · obtain ⟨_, _, _, _, _, _, _, _, _, e⟩ := h.whosnd p ha hy
      exact (List.getElem?_eq_some_iff.1 e).1
    · obtain ⟨_, _, _, _, _, _, _, _, _, e⟩ := h.whorcv p ha hy
      exact (List.getElem?_eq_some_iff.1 e).1
  have keepA : ∀ {l : List Wt} {l' : List Nat}, (∀ b ∈ l', b ≠ i) → Zip (WtS S D) l l' → Zip (WtS ⟨S.sts.set i (.wS k j v), S.tbs, S.cs.set j { d with snd := d.snd ++ [i] }, S.line⟩ (({ D with fi := D.fi ++ [false] } : MW).setC j { c with snd := c.snd ++ [⟨i, D.fi.length, 0, v⟩] })) l l' := fun {l l'} hne z =>
    ⟨z.1, fun t a b ha hb => (z.2 t a b ha hb).keep (List.getElem?_set_ne (Ne.symm (hne b (List.mem_of_getElem? hb)))) hfi⟩
  have keepB : ∀ {l : List Wt} {l' : List Nat}, (∀ b ∈ l', b ≠ i) → Zip (WtR S D) l l' → Zip (WtR ⟨S.sts.set i (.wS k j v), S.tbs, S.cs.set j { d with snd := d.snd ++ [i] }, S.line⟩ (({ D with fi := D.fi ++ [false] } : MW).setC j { c with snd := c.snd ++ [⟨i, D.fi.length, 0, v⟩] })) l l' := fun {l l'} hne z =>
    ⟨z.1, fun t a b ha hb => (z.2 t a b ha hb).keep (List.getElem?_set_ne (Ne.symm (hne b (List.mem_of_getElem? hb)))) hfi⟩
  refine ⟨h.li, ?_, ?_, ?_, ?_, fun a x y hx hy => ?_, fun a s k' ha hk' => ?_, fun a s ha hs => ?_, fun a a' y y' x x' hy hy' hx hx' e => ?_⟩
  · show D.at_.length = (S.sts.set i _).length
    rw [List.length_set]; exact h.la
  · show D.to.length = (S.sts.set i _).length
    rw [List.length_set]; exact h.lt
  · show D.ov.length = (S.sts.set i _).length
    rw [List.length_set]; exact h.lo
  · show (D.ch.set j _).length = (S.cs.set j _).length
    rw [List.length_set, List.length_set]; exact h.lc
  · have hx : (S.cs.set j { d with snd := d.snd ++ [i] })[a]? = some x := hx
    have hy : (D.ch.set j { c with snd := c.snd ++ [⟨i, D.fi.length, 0, v⟩] })[a]? = some y := hy
    by_cases e : a = j
    · subst e
      rw [List.getElem?_set_self hjd] at hx
      rw [List.getElem?_set_self hjl] at hy
      cases hx; cases hy
      have s := h.ch a d c hd hc
      have hnew : (D.fi ++ [false])[((D.fi.length : Nat) : Int).toNat]? = some false := by
        rw [Int.toNat_natCast, List.getElem?_append_right (Nat.le_refl _), Nat.sub_self]; rfl
      have zA := (keepA (fun b hb e => (hout a d hd).1 (e ▸ hb)) s.snd).snoc (a := ⟨i, D.fi.length, 0, v⟩) (b := i) ⟨rfl, rfl, valS_at hil, Int.natCast_nonneg _, hnew⟩
      have zB := keepB (fun b hb e => (hout a d hd).2 (e ▸ hb)) s.rcv
      exact { size := s.size, buf := s.buf, closed := s.closed, snd := zA, rcv := zB }
    · rw [List.getElem?_set_ne (Ne.symm e)] at hx hy
      have s := h.ch a x y hx hy
      have zA := keepA (fun b hb e => (hout a x hx).1 (e ▸ hb)) s.snd
      have zB := keepB (fun b hb e => (hout a x hx).2 (e ▸ hb)) s.rcv
      exact { size := s.size, buf := s.buf, closed := s.closed, snd := zA, rcv := zB }
  · have ha : (S.sts.set i (.wS k j v))[a]? = some s := ha
    by_cases e : a = i
    · subst e
      rw [List.getElem?_set_self hil] at ha
      cases ha; cases hk'
      exact hpos
    · rw [List.getElem?_set_ne (Ne.symm e)] at ha
      exact h.pos a s k' ha hk'
  · have ha : (S.sts.set i (.wS k j v))[a]? = some s := ha
    by_cases e : a = i
    · subst e
      rw [List.getElem?_set_self hil] at ha
      cases ha; cases hs
    · rw [List.getElem?_set_ne (Ne.symm e)] at ha
      exact h.to a s ha hs
  · have sub : ∀ (a : Nat) y x, (D.ch.set j { c with snd := c.snd ++ [⟨i, D.fi.length, 0, v⟩] })[a]? = some y → x ∈ y.snd ++ y.rcv → (∃ y0, D.ch[a]? = some y0 ∧ x ∈ y0.snd ++ y0.rcv) ∨ x = ⟨i, D.fi.length, 0, v⟩ := fun a y x hy hx => by
      by_cases e : a = j
      · subst e
        rw [List.getElem?_set_self hjl] at hy
        cases hy
        rcases List.mem_append.1 hx with g | g
        · first
          | exact .inl ⟨c, hc, List.mem_append_left _ g⟩
          | (rcases List.mem_append.1 g with g | g
             · exact .inl ⟨c, hc, List.mem_append_left _ g⟩
             · exact .inr (List.mem_singleton.1 g))
        · first
          | exact .inl ⟨c, hc, List.mem_append_right _ g⟩
          | (rcases List.mem_append.1 g with g | g
             · exact .inl ⟨c, hc, List.mem_append_right _ g⟩
             · exact .inr (List.mem_singleton.1 g))
      · rw [List.getElem?_set_ne (Ne.symm e)] at hy
        exact .inl ⟨y, hy, hx⟩
    rcases sub a y x hy hx with ⟨y0, a1, a2⟩ | rfl
    · rcases sub a' y' x' hy' hx' with ⟨z0, b1, b2⟩ | rfl
      · exact h.tk a a' y0 z0 x x' a1 b1 a2 b2 e
      · have := hlt a y0 x a1 a2
        have e : x.tk.toNat = ((D.fi.length : Nat) : Int).toNat := e
        rw [Int.toNat_natCast] at e; omega
    · rcases sub a' y' x' hy' hx' with ⟨z0, b1, b2⟩ | rfl
      · have := hlt a' z0 x' b1 b2
        have e : ((D.fi.length : Nat) : Int).toNat = x'.tk.toNat := e
        rw [Int.toNat_natCast] at e; omega
      · rfl
theorem sim_waitrcv (h : Sim S D) (p : PInv S) (hi : S.sts[i]? = some .run) {d : C16} {c : MC} (hd : S.cs[j]? = some d) (hc : D.ch[j]? = some c) (k : K16) (v : Int) (hpos : D.at_[i]? = some (k.pos : Int)) :
    Sim ⟨S.sts.set i (.wR k j), S.tbs, S.cs.set j { d with rcv := d.rcv ++ [i] }, S.line⟩ (({ D with fi := D.fi ++ [false] } : MW).setC j { c with rcv := c.rcv ++ [⟨i, D.fi.length, 0, v⟩] }) := by
  have hjl := (List.getElem?_eq_some_iff.1 hc).1
  have hjd := (List.getElem?_eq_some_iff.1 hd).1
  have hil := (List.getElem?_eq_some_iff.1 hi).1
  have hout := p.out hi rfl
  have hfi : ∀ t : Nat, D.fi[t]? = some false → (D.fi ++ [false])[t]? = some false := fun t ht => by rw [List.getElem?_append_left (List.getElem?_eq_some_iff.1 ht).1]; exact ht
  have hlt : ∀ (a : Nat) ca y, D.ch[a]? = some ca → y ∈ ca.snd ++ ca.rcv → y.tk.toNat < D.fi.length := fun a ca y ha hy => by
    rcases List.mem_append.1 hy with hy | hy
    · obtain ⟨_, _, _, _, _, _, _, _, _, e⟩ := h.whosnd p ha hy
      exact (List.getElem?_eq_some_iff.1 e).1
    · obtain ⟨_, _, _, _, _, _, _, _, _, e⟩ := h.whorcv p ha hy
      exact (List.getElem?_eq_some_iff.1 e).1
  have keepA : ∀ {l : List Wt} {l' : List Nat}, (∀ b ∈ l', b ≠ i) → Zip (WtR S D) l l' → Zip (WtR ⟨S.sts.set i (.wR k j), S.tbs, S.cs.set j { d with rcv := d.rcv ++ [i] }, S.line⟩ (({ D with fi := D.fi ++ [false] } : MW).setC j { c with rcv := c.rcv ++ [⟨i, D.fi.length, 0, v⟩] })) l l' := fun {l l'} hne z =>
    ⟨z.1, fun t a b ha hb => (z.2 t a b ha hb).keep (List.getElem?_set_ne (Ne.symm (hne b (List.mem_of_getElem? hb)))) hfi⟩
  have keepB : ∀ {l : List Wt} {l' : List Nat}, (∀ b ∈ l', b ≠ i) → Zip (WtS S D) l l' → Zip (WtS ⟨S.sts.set i (.wR k j), S.tbs, S.cs.set j { d with rcv := d.rcv ++ [i] }, S.line⟩ (({ D with fi := D.fi ++ [false] } : MW).setC j { c with rcv := c.rcv ++ [⟨i, D.fi.length, 0, v⟩] })) l l' := fun {l l'} hne z =>
    ⟨z.1, fun t a b ha hb => (z.2 t a b ha hb).keep (List.getElem?_set_ne (Ne.symm (hne b (List.mem_of_getElem? hb)))) hfi⟩
  refine ⟨h.li, ?_, ?_, ?_, ?_, fun a x y hx hy => ?_, fun a s k' ha hk' => ?_, fun a s ha hs => ?_, fun a a' y y' x x' hy hy' hx hx' e => ?_⟩
  · show D.at_.length = (S.sts.set i _).length
    rw [List.length_set]; exact h.la
  · show D.to.length = (S.sts.set i _).length
    rw [List.length_set]; exact h.lt
  · show D.ov.length = (S.sts.set i _).length
    rw [List.length_set]; exact h.lo
  · show (D.ch.set j _).length = (S.cs.set j _).length
    rw [List.length_set, List.length_set]; exact h.lc
  · have hx : (S.cs.set j { d with rcv := d.rcv ++ [i] })[a]? = some x := hx
    have hy : (D.ch.set j { c with rcv := c.rcv ++ [⟨i, D.fi.length, 0, v⟩] })[a]? = some y := hy
    by_cases e : a = j
    · subst e
      rw [List.getElem?_set_self hjd] at hx
      rw [List.getElem?_set_self hjl] at hy
      cases hx; cases hy
      have s := h.ch a d c hd hc
      have hnew : (D.fi ++ [false])[((D.fi.length : Nat) : Int).toNat]? = some false := by
        rw [Int.toNat_natCast, List.getElem?_append_right (Nat.le_refl _), Nat.sub_self]; rfl
      have zA := (keepA (fun b hb e => (hout a d hd).2 (e ▸ hb)) s.rcv).snoc (a := ⟨i, D.fi.length, 0, v⟩) (b := i) ⟨rfl, rfl, trivial, Int.natCast_nonneg _, hnew⟩
      have zB := keepB (fun b hb e => (hout a d hd).1 (e ▸ hb)) s.snd
      exact { size := s.size, buf := s.buf, closed := s.closed, rcv := zA, snd := zB }
    · rw [List.getElem?_set_ne (Ne.symm e)] at hx hy
      have s := h.ch a x y hx hy
      have zA := keepA (fun b hb e => (hout a x hx).2 (e ▸ hb)) s.rcv
      have zB := keepB (fun b hb e => (hout a x hx).1 (e ▸ hb)) s.snd
      exact { size := s.size, buf := s.buf, closed := s.closed, rcv := zA, snd := zB }
  · have ha : (S.sts.set i (.wR k j))[a]? = some s := ha
    by_cases e : a = i
    · subst e
      rw [List.getElem?_set_self hil] at ha
      cases ha; cases hk'
      exact hpos
    · rw [List.getElem?_set_ne (Ne.symm e)] at ha
      exact h.pos a s k' ha hk'
  · have ha : (S.sts.set i (.wR k j))[a]? = some s := ha
    by_cases e : a = i
    · subst e
      rw [List.getElem?_set_self hil] at ha
      cases ha; cases hs
    · rw [List.getElem?_set_ne (Ne.symm e)] at ha
      exact h.to a s ha hs
  · have sub : ∀ (a : Nat) y x, (D.ch.set j { c with rcv := c.rcv ++ [⟨i, D.fi.length, 0, v⟩] })[a]? = some y → x ∈ y.snd ++ y.rcv → (∃ y0, D.ch[a]? = some y0 ∧ x ∈ y0.snd ++ y0.rcv) ∨ x = ⟨i, D.fi.length, 0, v⟩ := fun a y x hy hx => by
      by_cases e : a = j
      · subst e
        rw [List.getElem?_set_self hjl] at hy
        cases hy
        rcases List.mem_append.1 hx with g | g
        · first
          | exact .inl ⟨c, hc, List.mem_append_left _ g⟩
          | (rcases List.mem_append.1 g with g | g
             · exact .inl ⟨c, hc, List.mem_append_left _ g⟩
             · exact .inr (List.mem_singleton.1 g))
        · first
          | exact .inl ⟨c, hc, List.mem_append_right _ g⟩
          | (rcases List.mem_append.1 g with g | g
             · exact .inl ⟨c, hc, List.mem_append_right _ g⟩
             · exact .inr (List.mem_singleton.1 g))
      · rw [List.getElem?_set_ne (Ne.symm e)] at hy
        exact .inl ⟨y, hy, hx⟩
    rcases sub a y x hy hx with ⟨y0, a1, a2⟩ | rfl
    · rcases sub a' y' x' hy' hx' with ⟨z0, b1, b2⟩ | rfl
      · exact h.tk a a' y0 z0 x x' a1 b1 a2 b2 e
      · have := hlt a y0 x a1 a2
        have e : x.tk.toNat = ((D.fi.length : Nat) : Int).toNat := e
        rw [Int.toNat_natCast] at e; omega
    · rcases sub a' y' x' hy' hx' with ⟨z0, b1, b2⟩ | rfl
      · have := hlt a' z0 x' b1 b2
        have e : ((D.fi.length : Nat) : Int).toNat = x'.tk.toNat := e
        rw [Int.toNat_natCast] at e; omega
      · rfl
theorem choose1 (D : MW) (id : Int) (x : Cs) : D.choose id [x] false = if D.can x then D.go id [x] 0 else ({ D with fi := D.fi ++ [false] } : MW).wait1 id D.fi.length 0 x := by
  have e : D.cans [x] 1 = if D.can x then [0] else [] := by
    unfold MW.cans
    rw [show List.range 1 = [0] from rfl]
    cases hx : D.can x <;> simp [hx]
  unfold MW.choose
  rw [show ([x] : List Cs).length = 1 from rfl, e]
  cases hx : D.can x
  · rfl
  · rfl
theorem endTurn_set {κ : Type} {S : PS κ} {i : Nat} {s : St κ} (hs : S.sts[i]? = some s) (hr : s.isRun = false) : S.endTurn i = S := by
  unfold PS.endTurn
  rw [hs]
  cases s <;> first | rfl | (cases hr; done)
theorem sim_send (h : Sim S D) (p : PInv S) (hi : S.sts[i]? = some .run) {d : C16} (hd : S.cs[j]? = some d) (v : Int) (k : K16) (hpos : D.at_[i]? = some (k.pos : Int)) : Sim ((S.send i j v k).endTurn i) (D.choose i [⟨true, j, v⟩] false) := by
  obtain ⟨c, hc⟩ := h.cget hd
  obtain ⟨e1, h1⟩ := sim_trySend h p hd v
  have hil := (List.getElem?_eq_some_iff.1 hi).1
  rw [choose1, e1]
  unfold PS.send
  simp only []
  cases hcan : (S.trySend j v).2.2 with
  | true =>
    obtain ⟨a, b, e⟩ := h1 hcan
    simp only [if_true]
    have hrun := trySend_keep (j := j) (v := v) hi rfl
    have hl := (List.getElem?_eq_some_iff.1 hrun).1
    rw [endTurn_set (s := .rdyS k (S.trySend j v).2.1) (List.getElem?_set_self hl) rfl]
    have := (sim_ready (s' := .rdyS k (S.trySend j v).2.1) (k := k) a b hrun rfl (b.out hrun rfl) rfl rfl (by rw [(send_mkp D j v).at_]; exact hpos)).1
    unfold MW.go
    simp only [Int.toNat_zero, List.getElem?_cons_zero, if_true, Int.toNat_natCast]
    rw [e]
    exact this
  | false =>
    simp only [Bool.false_eq_true, if_false, hd]
    have hset : (S.sts.set i (.wS k j v))[i]? = some (.wS k j v) := List.getElem?_set_self hil
    rw [endTurn_set (s := .wS k j v) hset rfl]
    have := sim_waitsnd h p hi hd hc k v hpos
    unfold MW.wait1
    simp only [Int.toNat_natCast, hc]
    exact this
theorem sim_recv (h : Sim S D) (p : PInv S) (hi : S.sts[i]? = some .run) {d : C16} (hd : S.cs[j]? = some d) (k : K16) (hpos : D.at_[i]? = some (k.pos : Int)) : Sim ((S.recv i j k).endTurn i) (D.choose i [⟨false, j, 0⟩] false) := by
  obtain ⟨c, hc⟩ := h.cget hd
  obtain ⟨e1, h1⟩ := sim_tryRecv h p hd 0
  have hil := (List.getElem?_eq_some_iff.1 hi).1
  rw [choose1, e1]
  unfold PS.recv
  simp only []
  cases hcan : (S.tryRecv j).2.2.2 with
  | true =>
    obtain ⟨a, b, e⟩ := h1 hcan
    simp only [if_true]
    have hrun := tryRecv_keep (j := j) hi rfl
    have hl := (List.getElem?_eq_some_iff.1 hrun).1
    rw [endTurn_set (s := .rdyR k (S.tryRecv j).2.1 (S.tryRecv j).2.2.1) (List.getElem?_set_self hl) rfl]
    have := (sim_ready (s' := .rdyR k (S.tryRecv j).2.1 (S.tryRecv j).2.2.1) (k := k) a b hrun rfl (b.out hrun rfl) rfl rfl (by rw [(recv_mkp D j).at_]; exact hpos)).1
    unfold MW.go
    simp only [Int.toNat_zero, List.getElem?_cons_zero, Bool.false_eq_true, if_false, Int.toNat_natCast]
    rw [e]
    exact this
  | false =>
    simp only [Bool.false_eq_true, if_false, hd]
    have hset : (S.sts.set i (.wR k j))[i]? = some (.wR k j) := List.getElem?_set_self hil
    rw [endTurn_set (s := .wR k j) hset rfl]
    have := sim_waitrcv h p hi hd hc k 0 hpos
    unfold MW.wait1
    simp only [Int.toNat_natCast, hc]
    exact this
theorem sim_yield (h : Sim S D) (p : PInv S) (hi : S.sts[i]? = some .run) (k : K16) (hpos : D.at_[i]? = some (k.pos : Int)) : Sim ((S.yield i k).endTurn i) (D.yields i k.told) := by
  have hil := (List.getElem?_eq_some_iff.1 hi).1
  have e : (S.yield i k).endTurn i = S.yield i k := endTurn_set (s := .rdyY k) (List.getElem?_set_self hil) rfl
  rw [e]
  exact (sim_ready (s' := .rdyY k) h p hi rfl (p.out hi rfl) rfl rfl hpos).1
theorem sim_over (h : Sim S D) (p : PInv S) (hi : S.sts[i]? = some .run) : Sim (S.endTurn i) { D with ov := D.ov.set i true } := by
  have hil := (List.getElem?_eq_some_iff.1 hi).1
  have e : S.endTurn i = ⟨S.sts.set i .over, S.tbs, S.cs, S.line⟩ := by unfold PS.endTurn; rw [hi]
  rw [e]
  refine ⟨h.li, ?_, ?_, ?_, h.lc, fun a x y hx hy => ?_, fun a s k' ha hk' => ?_, fun a s ha hs => ?_, h.tk⟩
  · show D.at_.length = (S.sts.set i _).length
    rw [List.length_set]; exact h.la
  · show D.to.length = (S.sts.set i _).length
    rw [List.length_set]; exact h.lt
  · show (D.ov.set i true).length = (S.sts.set i _).length
    rw [List.length_set, List.length_set]; exact h.lo
  · have s := h.ch a x y hx hy
    exact ⟨s.size, s.buf, s.closed, ⟨s.snd.1, fun t u b hu hb => (s.snd.2 t u b hu hb).keep (List.getElem?_set_ne (fun e => ((p.out hi rfl) a x hx).1 (by rw [e]; exact List.mem_of_getElem? hb))) (fun _ h => h)⟩, s.rcv⟩
  · have ha : (S.sts.set i .over)[a]? = some s := ha
    by_cases e : a = i
    · subst e
      rw [List.getElem?_set_self hil] at ha
      cases ha; cases hk'
    · rw [List.getElem?_set_ne (Ne.symm e)] at ha
      exact h.pos a s k' ha hk'
  · have ha : (S.sts.set i .over)[a]? = some s := ha
    by_cases e : a = i
    · subst e
      rw [List.getElem?_set_self hil] at ha
      cases ha; cases hs
    · rw [List.getElem?_set_ne (Ne.symm e)] at ha
      exact h.to a s ha hs
theorem sim_act (h : Sim S D) (p : PInv S) (hi : S.sts[i]? = some .run) (tb prog pos : Nat) (d : Do5) (cs : List Cs) (hd : 0 ≤ d.c ∧ d.c < S.cs.length) (hk : d.k ≠ 5 ∧ d.k ≤ 7) (hpos : D.at_[i]? = some ((pos + 1 : Nat) : Int)) :
    Sim ((act16 S i tb prog pos d).endTurn i) (D.act i d cs) := by
  obtain ⟨x, hx⟩ : ∃ x, S.cs[d.c.toNat]? = some x := ⟨_, List.getElem?_eq_getElem (by omega)⟩
  have ec : ((d.c.toNat : Nat) : Int) = d.c := by omega
  have hrun : ∀ {T : PS K16}, T = T := fun {T} => rfl
  unfold act16 MW.act
  by_cases k1 : d.k = 1
  · rw [if_pos k1, if_pos k1]
    exact sim_yield h p hi (k16 tb prog pos ⟨0, 0, false⟩) hpos
  rw [if_neg k1, if_neg k1]
  by_cases k2 : d.k = 2
  · rw [if_pos k2, if_pos k2]
    have := sim_send h p hi hx d.v (k16 tb prog pos ⟨0, 0, false⟩) hpos
    rw [ec] at this
    exact this
  rw [if_neg k2, if_neg k2]
  by_cases k3 : d.k = 3
  · rw [if_pos k3, if_pos k3]
    have := sim_recv h p hi hx (k16 tb prog pos ⟨0, 0, false⟩) hpos
    rw [ec] at this
    exact this
  rw [if_neg k3, if_neg k3]
  by_cases k4 : d.k = 4
  · rw [if_pos k4, if_pos k4]
    obtain ⟨a, b, e⟩ := sim_close h p hx
    obtain ⟨n, hn⟩ := close_mkp D d.c.toNat
    have := sim_yield a b (close_keep d.c.toNat hi rfl).1 (k16 tb prog pos ⟨0, 0, (S.close d.c.toNat).2⟩) (by rw [hn.at_]; exact hpos)
    rw [e]
    exact this
  rw [if_neg k4, if_neg k4, if_neg hk.1]
  by_cases k6 : d.k = 6
  · rw [if_pos k6, if_pos k6]
    obtain ⟨e1, h1⟩ := sim_trySend h p hx d.v
    rw [ec] at e1
    rw [e1]
    cases hcan : (S.trySend d.c.toNat d.v).2.2 with
    | true =>
      obtain ⟨a, b, e⟩ := h1 hcan
      have := sim_yield a b (trySend_keep hi rfl) (k16 tb prog pos ⟨0, 0, (S.trySend d.c.toNat d.v).2.1⟩) (by rw [(send_mkp D _ _).at_]; exact hpos)
      rw [if_pos rfl, e]
      exact this
    | false =>
      have e0 := trySend_no hx hcan
      have e2 : (S.trySend d.c.toNat d.v).2.1 = false := by
        cases hq : (S.trySend d.c.toNat d.v).2.1 with
        | false => rfl
        | true => rw [trySend_can S _ _ hq] at hcan; cases hcan
      rw [e0.1, e2]
      exact sim_yield h p hi (k16 tb prog pos ⟨0, 0, false⟩) hpos
  rw [if_neg k6, if_neg k6]
  by_cases k7 : d.k = 7
  · rw [if_pos k7, if_pos k7]
    obtain ⟨e1, h1⟩ := sim_tryRecv h p hx 0
    rw [ec] at e1
    rw [e1]
    cases hcan : (S.tryRecv d.c.toNat).2.2.2 with
    | true =>
      obtain ⟨a, b, e⟩ := h1 hcan
      have := sim_yield a b (tryRecv_keep hi rfl) (k16 tb prog pos ⟨0, (S.tryRecv d.c.toNat).2.1, (S.tryRecv d.c.toNat).2.2.1⟩) (by rw [(recv_mkp D _).at_]; exact hpos)
      rw [if_pos rfl, if_pos rfl, e]
      exact this
    | false =>
      obtain ⟨e0, f1, f2, f3⟩ := tryRecv_no hx hcan
      have e2 : (S.tryRecv d.c.toNat).2.1 = 0 ∧ (S.tryRecv d.c.toNat).2.2.1 = false := by
        unfold PS.tryRecv
        simp only [hx]
        rw [f2, f3]
        exact ⟨rfl, rfl⟩
      rw [e0, e2.1, e2.2]
      exact sim_yield h p hi (k16 tb prog pos ⟨1, 0, false⟩) hpos
  rw [if_neg k7, if_neg k7, if_neg (by omega), if_neg (by omega)]
  exact sim_over h p hi
end
end Go.Proofs.YtbaidcnalkdhgaaGreat
set_option maxRecDepth 100000
namespace Go.Proofs.YtbaidcnalkdhgaaGreat
open Go Go.Eng
section
variable {w w0 : World} {F0 : Nat → Prop} {R : Asr} {qb : Nat} {vp : Value} {v : GV} {rows : List RR} {S : MW}
theorem take_next' {α : Type} {l : List α} {k : Nat} {x : α} (h : l[k]? = some x) : l.take (k + 1) = l.take k ++ [x] := by
  rw [List.take_add_one, h]; rfl
theorem g_live {nw md rs : Int} {u : Value} {fi : List Bool} {xs : List Wt} (hb : Blk w.heap qb (gwL vp v nw md rs) 97) (hf : Rd w.heap 1 bE v.fi fi) (hl : Rd w.heap 4 wtE u xs) (htk : ∀ x ∈ xs, 0 ≤ x.tk ∧ x.tk < fi.length) (hxl : xs.length ≤ 1000000) :
    Rets Tryz.prog 235 #[pt qb, u] w fun r w' => Fr No w w' ∧ Own w'.heap 271 4 wtE r (xs.filter (lvW fi)) ∧ (∀ k, own r = some k → w.heap.size ≤ k) ∧ r.oneCell' = true := by
  rw [gwL] at hb
  refine rets_of Tryz.func235 rfl Tryz.ntmps235 rfl rfl (by kernel_rfl) ?_
  ((iterate 16 (first | with_reducible apply vC_seq | with_reducible apply vC_region | with_reducible apply seqP_normal | (refine vE rfl ?_) | with_reducible apply vL_nil)); apply vC_block)
  (apply vC_loop2 4294967264 6 5 (fun u v5 w' => ∃ k : Nat, u = .int .i64 (k : Int) ∧ k ≤ xs.length ∧ Fr No w w' ∧ Own w'.heap 271 4 wtE v5 ((xs.take k).filter (lvW fi)) ∧ (∀ b, own v5 = some b → w.heap.size ≤ b) ∧ v5.oneCell' = true) (fun u _ _ => xs.length - (RowKit.intOf u).toNat)); (case h1 => (exact norm_eq rfl)); (case h2 => (exact norm_eq rfl))
  case h0 => exact ⟨0, rfl, by omega, Fr.refl _ _, Own.nil _ _ _ _, fun b hb => (by cases hb), rfl⟩
  case round =>
  rintro junk _ v5 w1 ⟨k, rfl, hk, hf1, ho1, hfr1, hone1⟩
  have hb1 := hb.frN hf1
  have hfi1 := hf.frN hf1
  have hl1 := hl.frN hf1
  by_cases hkl : k < xs.length
  · obtain ⟨x, hx⟩ : ∃ x, xs[k]? = some x := ⟨xs[k], by simp [hkl]⟩
    have hx' : xs[((k : Nat) : Int).toNat]? = some x := by rw [Int.toNat_natCast]; exact hx
    obtain ⟨t0, t1⟩ := htk x (List.mem_of_getElem? hx)
    obtain ⟨b, hfb⟩ : ∃ b, fi[x.tk.toNat]? = some b := ⟨_, List.getElem?_eq_getElem (by omega)⟩
    have hnx := take_next' hx
    have hlen : ((xs.take k).filter (lvW fi)).length ≤ k := Nat.le_trans (List.length_filter_le _ _) (by simp; omega)
    have hlv : lvW fi x = !b := by unfold lvW; rw [hfb]; rfl
    obtain ⟨va, vn, vc, rfl⟩ := ho1.isSlice
    ((iterate 2 (apply vC_seq)); apply vC_region; (refine vE rfl ?_); ((apply vL_val); (case h => ((apply opv_move); ((conv => lhs; whnf) <;> exact rfl)))); ((apply vL_val); (case h => ((apply opv_len); ((conv => lhs; whnf) <;> exact rfl); assumption))); (refine vE rfl ?_); apply vL_nil; apply seqP_normal; (refine vC_cond_dec rfl (fun _ => ?_) (fun h => by omega)); apply vC_skip; apply seqP_normal; apply vC_seq; apply vC_block; apply vC_seq)
    (with_reducible apply vC_drawQ); ((iterate 11 (first | ((with_reducible apply vQ_op); (case hi => exact rfl); (case hf => kernel_rfl); (case hS => exact Dr.refl _); (case hy => (intro j; ((with_reducible apply opv_E); exact rfl)))) | ((with_reducible apply vQ_op); (case hi => exact rfl); (case hf => kernel_rfl); (case hS => exact Dr.refl _); (case hy => (intro j; ((with_reducible apply opv_loadb1); exact rfl; exact rfl; assumption; exact rfl)))) | ((with_reducible apply vQ_op); (case hi => exact rfl); (case hf => kernel_rfl); (case hS => exact Dr.refl _); (case hy => (intro j; ((with_reducible apply opv_fieldAddr); exact rfl)))) | ((with_reducible apply vQ_op); (case hi => exact rfl); (case hf => kernel_rfl); (case hS => exact Dr.refl _); (case hy => (intro j; ((with_reducible apply opv_move); ((conv => lhs; whnf) <;> exact rfl))))) | ((with_reducible apply vQ_op); (case hi => exact rfl); (case hf => kernel_rfl); (case hS => exact Dr.refl _); (case hy => (intro j; ((with_reducible apply opv_indexAddr); ((conv => lhs; whnf) <;> exact rfl); exact rfl; assumption; (first | omega | (simp only [List.length_map]; omega)); (first | omega | (simp only [List.length_map]; omega)))))) | ((with_reducible apply vQ_op); (case hi => exact rfl); (case hf => kernel_rfl); (case hS => exact Dr.refl _); (case hy => (intro j; ((with_reducible apply opv_ld_el); exact rfl; exact rfl; assumption; assumption; exact rfl)))))); ((apply vQ_op); (case hi => exact rfl); (case hf => kernel_rfl); (case hS => exact Dr.refl _); (case hy => (intro j; ((apply opv_not); exact rfl)))); ((apply vQ_end); (case hi => exact rfl); (case hf => kernel_rfl); (case hS => exact Dr.refl _)))
    cases b with
    | false =>
      (apply seqP_normal; ((apply vC_cond_true); exact rfl); apply vC_region; (refine vE rfl ?_); ((apply vL_val); (case h => ((apply opv_move); ((conv => lhs; whnf) <;> exact rfl)))); (refine vE rfl ?_); ((apply vL_val); (case h => ((apply opv_indexAddr); ((conv => lhs; whnf) <;> exact rfl); exact rfl; assumption; (first | omega | (simp only [List.length_map]; omega)); (first | omega | (simp only [List.length_map]; omega))))); ((apply vL_val); (case h => ((apply opv_ld_eln); exact rfl; exact rfl; assumption; assumption))); ((apply vL_val); (case h => ((apply opw_buildSl); exact rfl; exact rfl; exact rfl; exact (rfl : _ = some [_, _, _, _])))))
      refine vL_append (enc := wtE) (xs := ((xs.take k).filter (lvW fi))) (ys := [x]) (by (exact norm_eq rfl)) (by (exact norm_eq rfl)) (Own.alloc (Own.frN ((Fr.refl No w1).drew) ho1)) (Rd.new1 _ _ rfl) rfl (by decide) ?_ ?_ ?_
      · simp [maxLen]; omega
      · simp; omega
      intro v' w2 ho2 hf2 hfr2 hone2 _
      obtain ⟨va2, vn2, vc2, rfl⟩ := ho2.isSlice
      have hfB : Fr No w w2 := ((hf1.drew).alloc _).trans' hf2 (fun i hi => .inr (hfr1 i hi))
      ((refine vE rfl ?_); apply vL_nil; apply blockP_normal; apply seqP_normal; apply vC_region; (refine vE rfl ?_); ((apply vL_val); (case h => ((apply opv_add); exact rfl; exact rfl; (first | omega | (simp only [List.length_map]; omega))))); (refine vE rfl ?_); apply vL_nil; apply loopP_normal)
      (with_reducible apply end2); (case hs => ((iterate 27 (((refine same_updO ?_ ?_); rotate_left; exact rfl))); (iterate 2 (((refine same_upd ?_ ?_); rotate_left; exact rfl))); (exact same_mask _ _ _))); (case h1 => (exact norm_eq rfl)); (case h2 => (exact norm_eq rfl))
      · refine ⟨k + 1, rfl, by omega, hfB, by rw [hnx, List.filter_append, show [x].filter (lvW fi) = [x] by simp [hlv]]; exact ho2, fun b hb => ?_, rfl⟩
        rcases hfr2 b hb with h | h
        · exact hfr1 b h
        · have := hf1.size; rw [alloc_size] at h; exact Nat.le_trans this (Nat.le_trans (Nat.le_succ _) h)
      · simp [RowKit.intOf]; omega
    | true =>
      (apply seqP_normal; ((apply vC_cond_false); exact rfl); apply vC_skip; apply blockP_normal; apply seqP_normal; apply vC_region; (refine vE rfl ?_); ((apply vL_val); (case h => ((apply opv_add); exact rfl; exact rfl; (first | omega | (simp only [List.length_map]; omega))))); (refine vE rfl ?_); apply vL_nil; apply loopP_normal)
      (with_reducible apply end2); (case hs => ((iterate 19 (((refine same_updO ?_ ?_); rotate_left; exact rfl))); (iterate 2 (((refine same_upd ?_ ?_); rotate_left; exact rfl))); (exact same_mask _ _ _))); (case h1 => (exact norm_eq rfl)); (case h2 => (exact norm_eq rfl))
      · exact ⟨k + 1, rfl, by omega, hf1.drew, by rw [hnx, List.filter_append, show [x].filter (lvW fi) = [] by simp [hlv], List.append_nil]; exact ho1, hfr1, hone1⟩
      · simp [RowKit.intOf]; omega
  · have e : k = xs.length := by omega
    subst e
    rw [List.take_length] at ho1
    obtain ⟨va, vn, vc, rfl⟩ := ho1.isSlice
    ((iterate 2 (apply vC_seq)); apply vC_region; (refine vE rfl ?_); ((apply vL_val); (case h => ((apply opv_move); ((conv => lhs; whnf) <;> exact rfl)))); ((apply vL_val); (case h => ((apply opv_len); ((conv => lhs; whnf) <;> exact rfl); assumption))); (refine vE rfl ?_); apply vL_nil; apply seqP_normal; (refine vC_cond_dec rfl (fun h => by omega) (fun _ => ?_)); apply vC_exit; apply seqP_exit; apply loopP_exit; apply blockP_exit; apply seqP_normal; apply vC_seq; apply vC_region; (iterate 2 ((refine vE rfl ?_))); apply vL_nil; apply seqP_normal; apply vC_ret)
    (apply ret1; (case h1 => (exact norm_eq rfl)))
    exact ⟨hf1, ho1, hfr1, hone1⟩
end
end Go.Proofs.YtbaidcnalkdhgaaGreat
set_option maxRecDepth 100000
namespace Go.Proofs.YtbaidcnalkdhgaaGreat
open Go Go.Eng
section
variable {P : Program} {e : Env} {w : World} {d : Option Nat} {ty : TypeId} {p : String} {af : Array Edge}
theorem opv_indexAddrR {α : Type} {x ix : Operand} {t E sz by' : Nat} {z : List Value} {k : IntKind} {i : Int} {enc : α → List Value} {v : Value} {xs : List α} {h : Array Obj} [TUnd P t (.slice E)] [TInfo P E sz by' z] (hx : ev e x = v) (hi : ev e ix = .int k i) (r : Rd h sz enc v xs) (h0 : 0 ≤ i) (h1 : i < xs.length) :
    OpV P ⟨d, .indexAddr t x ix, ty, p, af, none⟩ e w (.pointer (some (ea v sz i 0))) w := by
  have hu := run_underlying (TUnd.out (P := P) (t := t)) w
  obtain ⟨c, hv⟩ := r.ptr (by omega)
  simp only [OpV, execOp, Instr.indexAt, hx, hi]
  rw [hv]
  simp [asIntOf, hu, h0, h1, run_sizeOf' (P := P) (t := E), add_off, ea, adr]
end
/-- the first i channels are clean -/
def MW.cleanN (S : MW) (i : Nat) : MW := { S with ch := (S.ch.take i).map (MC.clean S.fi) ++ S.ch.drop i }
section
variable {w w0 : World} {F0 : Nat → Prop} {R : Asr} {qb : Nat} {vp : Value} {S T : MW}
theorem cleanN_get {i : Nat} {d : MC} (hd : S.ch[i]? = some d) : (S.cleanN i).ch[i]? = some d := by
  have hl := (List.getElem?_eq_some_iff.1 hd).1
  show ((S.ch.take i).map (MC.clean S.fi) ++ S.ch.drop i)[i]? = _
  rw [List.getElem?_append_right (by simp; omega), List.length_map, List.length_take, Nat.min_eq_left (by omega), Nat.sub_self, List.getElem?_drop]
  exact hd
theorem cleanN_set {i : Nat} {d : MC} (hd : S.ch[i]? = some d) : (S.cleanN i).ch.set i (d.clean S.fi) = (S.cleanN (i + 1)).ch := by
  have hl := (List.getElem?_eq_some_iff.1 hd).1
  refine List.ext_getElem? (fun j => ?_)
  show (((S.ch.take i).map (MC.clean S.fi) ++ S.ch.drop i).set i (d.clean S.fi))[j]? = ((S.ch.take (i + 1)).map (MC.clean S.fi) ++ S.ch.drop (i + 1))[j]?
  rw [List.getElem?_set]
  simp only [List.getElem?_append, List.length_map, List.length_take, List.getElem?_map, List.getElem?_take, List.getElem?_drop, List.length_append, List.length_drop]
  by_cases e : i = j
  · subst e
    rw [if_pos rfl, if_pos (by omega), if_pos (by omega), if_pos (by omega), hd]; rfl
  · rw [if_neg e]
    by_cases h1 : j < i
    · rw [if_pos (by omega), if_pos h1, if_pos (by omega), if_pos (by omega)]
    · rw [if_neg (by omega), if_neg (by omega)]
      congr 1; omega
theorem rows_get2 {rows : List RR} {l : List MC} {j : Nat} {d : MC} (h : rows.map RR.m = l) (hd : l[j]? = some d) : ∃ r, rows[j]? = some r ∧ r.m = d := by
  rw [← h, List.getElem?_map] at hd
  cases hr : rows[j]? with
  | none => rw [hr] at hd; cases hd
  | some r => rw [hr] at hd; exact ⟨r, rfl, Option.some.inj hd⟩
theorem g_clean [Lcl R] (hgo : ∀ d ∈ S.ch, (d.snd.length ≤ 1000000 ∧ ∀ x ∈ d.snd, 0 ≤ x.tk ∧ x.tk < S.fi.length) ∧ (d.rcv.length ≤ 1000000 ∧ ∀ x ∈ d.rcv, 0 ≤ x.tk ∧ x.tk < S.fi.length)) (S1 : At (GwA qb vp S * R) w0 F0 w) :
    Rets Tryz.prog 230 #[pt qb] w fun _ w' => At (GwA qb vp S.clean * R) w0 F0 w' := by
  have hnc : S.ch.length < 9223372036854775808 := by
    obtain ⟨v, rows, hrows, S3⟩ := gw_open S1
    have := (gw_ch S3).1.rd.small
    rw [← hrows, List.length_map]; exact this
  refine rets_of Tryz.func230 rfl Tryz.ntmps230 rfl rfl (by kernel_rfl) ?_
  (apply vC_seq; apply vC_region; (refine vE rfl ?_); apply vL_nil; apply seqP_normal; apply vC_block)
  (apply vC_loop1 70368744177660 2 (fun u w' => ∃ i : Nat, u = .int .i64 (i : Int) ∧ i ≤ S.ch.length ∧ At (GwA qb vp (S.cleanN i) * R) w0 F0 w') (fun u _ => S.ch.length - (RowKit.intOf u).toNat)); (case h1 => (exact norm_eq rfl))
  case h0 => exact ⟨0, rfl, Nat.zero_le _, S1⟩
  clear S1
  case round =>
  rintro junk _ w1 ⟨i, rfl, hi, S2⟩
  obtain ⟨v, rows, hrows, S3⟩ := gw_open S2
  have hrc : rows.length = S.ch.length := by
    have := congrArg List.length hrows
    rw [List.length_map] at this
    rw [this]
    show ((S.ch.take i).map (MC.clean S.fi) ++ S.ch.drop i).length = _
    simp; omega
  have hb0 : Blk w1.heap qb (gwL vp v S.now S.made S.rest) 97 := gw_blk S3
  rw [gwL] at hb0
  have hch0 := (gw_ch S3).1.rd
  by_cases hil : i < S.ch.length
  · obtain ⟨d, hd⟩ : ∃ d, S.ch[i]? = some d := ⟨_, List.getElem?_eq_getElem hil⟩
    have hd3 := cleanN_get hd
    have hok := hgo d (List.mem_of_getElem? hd)
    ((iterate 2 (apply vC_seq)); apply vC_region; (iterate 3 ((refine vE rfl ?_))); (refine vL_val (opv_fieldAddr rfl) ?_); ((apply vL_val); (case h => ((apply opv_loadb1); exact rfl; exact rfl; assumption; exact rfl))); ((apply vL_val); (case h => ((apply opv_len); ((conv => lhs; whnf) <;> exact rfl); assumption))); (refine vE rfl ?_); apply vL_nil; apply seqP_normal; (refine vC_cond_dec rfl (fun _ => ?_) (fun h => by omega)); apply vC_skip; apply seqP_normal; apply vC_seq; apply vC_block; apply vC_seq)
    clear hb0 hch0
    have hdm : d.snd = d.snd := rfl
    obtain ⟨r, hr, hrm⟩ := rows_get2 hrows hd3
    have hrl := (List.getElem?_eq_some_iff.1 hr).1
    have hr' : rows[((i : Nat) : Int).toNat]? = some r := by rw [Int.toNat_natCast]; exact hr
    have hbL : Blk w1.heap qb (gwL vp v S.now S.made S.rest) 97 := gw_blk S3
    have hbq := hbL
    rw [gwL] at hbq
    have hch := (gw_ch S3).1.rd
    have hfi : Rd w1.heap 1 bE v.fi S.fi := (gw_fi S3).1.rd
    have S4 := (gw_row hr S3).drew
    have hsn := (S4.ac (show _ = Ow 271 4 wtE r.sv.1 r.snd * (Ow 3 1 iE r.bv.1 r.buf * (Ow 271 4 wtE r.rv.1 r.rcv * (GwP qb vp v rows (S.cleanN i) * (Big ((rows.eraseIdx i).map RrA) * R)))) by ac_rfl)).own.1.rd
    have hrF : r.snd = d.snd := by rw [← hdm, ← hrm]; rfl
    have hto := r.sv.2
    refine vC_draw' ((fun wf => Blk wf.heap qb [vp, v.ch, v.at_, v.to, v.ov, v.li, v.ev, v.fi, .int .i64 S.now, v.tm, .int .i64 S.made, .int .u64 S.rest] 97)) (by first | assumption | infer_instance) ?_
    (refine tkE 0 rfl (by kernel_rfl) (by first | assumption | infer_instance) rfl ?_)
    (refine tkE 1 rfl (by kernel_rfl) (by first | assumption | infer_instance) rfl ?_)
    (refine tk 2 rfl (by kernel_rfl) (by first | assumption | infer_instance) (by intro wf hwf; (try dsimp only at hwf); (((apply opv_fieldAddr); exact rfl))) ?_)
    (refine tk 3 rfl (by kernel_rfl) (by first | assumption | infer_instance) (by intro wf hwf; (try dsimp only at hwf); (((apply opv_loadb1); exact rfl; exact rfl; assumption; exact rfl))) ?_)
    (refine tkE 4 rfl (by kernel_rfl) (by first | assumption | infer_instance) rfl ?_)
    (refine tkE 5 rfl (by kernel_rfl) (by first | assumption | infer_instance) rfl ?_)
    (refine tkE 6 rfl (by kernel_rfl) (by first | assumption | infer_instance) rfl ?_)
    (refine tkE 7 rfl (by kernel_rfl) (by first | assumption | infer_instance) rfl ?_)
    (refine tk 8 rfl (by kernel_rfl) (by first | assumption | infer_instance) (by intro wf hwf; (try dsimp only at hwf); (((apply opv_fieldAddr); exact rfl))) ?_)
    (refine tk 9 rfl (by kernel_rfl) (by first | assumption | infer_instance) (by intro wf hwf; (try dsimp only at hwf); (((apply opv_loadb1); exact rfl; exact rfl; assumption; exact rfl))) ?_)
    (refine tkE 10 rfl (by kernel_rfl) (by first | assumption | infer_instance) rfl ?_)
    (refine tk 11 rfl (by kernel_rfl) (by first | assumption | infer_instance) (by intro wf hwf; exact opv_indexAddrR rfl rfl hch (by omega) (by omega)) ?_)
    (refine tk 12 rfl (by kernel_rfl) (by first | assumption | infer_instance) (by intro wf hwf; (try dsimp only at hwf); (((apply opv_fieldAddr); exact rfl))) ?_)
    refine vA_only 13 rfl (by kernel_rfl) (by first | assumption | infer_instance) (fun K hK => ?_)
    (((apply vL_val); (case h => ((apply opv_ld_el); exact rfl; exact rfl; assumption; assumption; exact rfl))); apply vL_nil)
    refine ⟨rfl, hK _ _ ?_⟩
    (refine tkc 14 rfl (by kernel_rfl) (by first | assumption | infer_instance) rfl (g_live (hbL.frN (by (apply Fr.drew; exact Fr.refl _ _))) (hfi.frN (by (apply Fr.drew; exact Fr.refl _ _))) hsn (by rw [hrF]; exact hok.1.2) (by rw [hrF]; exact hok.1.1)) rfl ?_)
    rintro u2 w2 ⟨hf2, ho2, hfr2, hone2⟩
    have hbq2 := hbq.frN (Fr.trans ((Fr.refl No w1).drew) hf2)
    (refine tk 15 rfl (by kernel_rfl) (by first | assumption | infer_instance) (by intro wf hwf; exact opv_indexAddrR rfl rfl hch (by omega) (by omega)) ?_)
    (refine tk 16 rfl (by kernel_rfl) (by first | assumption | infer_instance) (by intro wf hwf; (try dsimp only at hwf); (((apply opv_fieldAddr); exact rfl))) ?_)
    have S5 := S4.gain (A := Ow 271 4 wtE u2 (r.snd.filter (lvW S.fi))) hf2 ⟨_, ⟨ho2, hone2, rfl⟩, hfr2⟩
    have S6 := (S5.ac (show _ = Ow 271 4 wtE r.sv.1 r.snd * (GwP qb vp v rows (S.cleanN i) * (Ow 3 1 iE r.bv.1 r.buf * (Ow 271 4 wtE u2 (r.snd.filter (lvW S.fi)) * (Ow 271 4 wtE r.rv.1 r.rcv * (Big ((rows.eraseIdx i).map RrA) * R))))) by ac_rfl)).drop
    refine vA_only 17 rfl (by kernel_rfl) (by first | assumption | infer_instance) (fun K hK => ?_)
    refine vL_storeElF (enc := rrE) (xs := rows) (x0 := r) { r with sv := ⟨u2, hone2⟩, snd := r.snd.filter (lvW S.fi) } rfl rfl hr' rfl hone2 (by decide) (gw_ch S6).1 ?_
    intro w3 ho3 hf3
    rw [Int.toNat_natCast] at ho3
    have S7 := gw_rows S6 hf3 ho3
    have hbq3 : Blk w3.heap qb (gwL vp v S.now S.made S.rest) 97 := gw_blk S7
    rw [gwL] at hbq3
    refine vL_nil ⟨rfl, hK _ _ ?_⟩
    refine vA_done (by kernel_rfl) (by first | assumption | infer_instance) ?_
    have S8 := gw_unrow (qb := qb) (vp := vp) (v := v) (S := S.cleanN i) (R := R) (r' := { r with sv := ⟨u2, hone2⟩, snd := r.snd.filter (lvW S.fi) }) hrl (S7.ac (by dsimp only; ac_rfl))
    have hd4 : ({ d with snd := d.snd.filter (lvW S.fi) } : MC) = { d with snd := d.snd.filter (lvW S.fi) } := rfl
    have hrows2 : (rows.set i { r with sv := ⟨u2, hone2⟩, snd := r.snd.filter (lvW S.fi) }).map RR.m = (S.cleanN i).ch.set i { d with snd := d.snd.filter (lvW S.fi) } := by
      rw [List.map_set, hrows]
      congr 1
      rw [← hrm]; rfl
    have hd5 : ((S.cleanN i).ch.set i { d with snd := d.snd.filter (lvW S.fi) })[i]? = some { d with snd := d.snd.filter (lvW S.fi) } := List.getElem?_set_self (List.getElem?_eq_some_iff.1 hd3).1
    generalize (rows.set i { r with sv := ⟨u2, hone2⟩, snd := r.snd.filter (lvW S.fi) }) = rows1 at S8 hrows2
    clear S7 S6 S5 S4 S3 hch hfi hsn hbq hbL hr hr' hrl hrF hto hrm hbq3 hf3 ho3 hbq2 hf2 ho2 hfr2 hrows hrc
    (apply seqP_normal)
    obtain ⟨d', hd'⟩ : ∃ d', d' = ({ d with snd := d.snd.filter (lvW S.fi) } : MC) := ⟨_, rfl⟩
    have hdr : d'.rcv = d.rcv := by rw [hd']
    rw [← hd'] at hrows2 hd5
    obtain ⟨r, hr, hrm⟩ := rows_get2 hrows2 hd5
    have hrl := (List.getElem?_eq_some_iff.1 hr).1
    have hr' : rows1[((i : Nat) : Int).toNat]? = some r := by rw [Int.toNat_natCast]; exact hr
    have hbL : Blk w3.heap qb (gwL vp v S.now S.made S.rest) 97 := gw_blk S8
    have hbq := hbL
    rw [gwL] at hbq
    have hch := (gw_ch S8).1.rd
    have hfi : Rd w3.heap 1 bE v.fi S.fi := (gw_fi S8).1.rd
    have S4 := (gw_row hr S8).drew
    have hsn := (S4.ac (show _ = Ow 271 4 wtE r.rv.1 r.rcv * (Ow 3 1 iE r.bv.1 r.buf * (Ow 271 4 wtE r.sv.1 r.snd * (GwP qb vp v rows1 (S.cleanN i) * (Big ((rows1.eraseIdx i).map RrA) * R)))) by ac_rfl)).own.1.rd
    have hrF : r.rcv = d.rcv := by rw [← hdr, ← hrm]; rfl
    have hto := r.rv.2
    refine vC_draw' ((fun wf => Blk wf.heap qb [vp, v.ch, v.at_, v.to, v.ov, v.li, v.ev, v.fi, .int .i64 S.now, v.tm, .int .i64 S.made, .int .u64 S.rest] 97)) (by first | assumption | infer_instance) ?_
    (refine tkE 0 rfl (by kernel_rfl) (by first | assumption | infer_instance) rfl ?_)
    (refine tkE 1 rfl (by kernel_rfl) (by first | assumption | infer_instance) rfl ?_)
    (refine tk 2 rfl (by kernel_rfl) (by first | assumption | infer_instance) (by intro wf hwf; (try dsimp only at hwf); (((apply opv_fieldAddr); exact rfl))) ?_)
    (refine tk 3 rfl (by kernel_rfl) (by first | assumption | infer_instance) (by intro wf hwf; (try dsimp only at hwf); (((apply opv_loadb1); exact rfl; exact rfl; assumption; exact rfl))) ?_)
    (refine tkE 4 rfl (by kernel_rfl) (by first | assumption | infer_instance) rfl ?_)
    (refine tkE 5 rfl (by kernel_rfl) (by first | assumption | infer_instance) rfl ?_)
    (refine tkE 6 rfl (by kernel_rfl) (by first | assumption | infer_instance) rfl ?_)
    (refine tkE 7 rfl (by kernel_rfl) (by first | assumption | infer_instance) rfl ?_)
    (refine tk 8 rfl (by kernel_rfl) (by first | assumption | infer_instance) (by intro wf hwf; (try dsimp only at hwf); (((apply opv_fieldAddr); exact rfl))) ?_)
    (refine tk 9 rfl (by kernel_rfl) (by first | assumption | infer_instance) (by intro wf hwf; (try dsimp only at hwf); (((apply opv_loadb1); exact rfl; exact rfl; assumption; exact rfl))) ?_)
    (refine tkE 10 rfl (by kernel_rfl) (by first | assumption | infer_instance) rfl ?_)
    (refine tk 11 rfl (by kernel_rfl) (by first | assumption | infer_instance) (by intro wf hwf; exact opv_indexAddrR rfl rfl hch (by omega) (by omega)) ?_)
    (refine tk 12 rfl (by kernel_rfl) (by first | assumption | infer_instance) (by intro wf hwf; (try dsimp only at hwf); (((apply opv_fieldAddr); exact rfl))) ?_)
    refine vA_only 13 rfl (by kernel_rfl) (by first | assumption | infer_instance) (fun K hK => ?_)
    (((apply vL_val); (case h => ((apply opv_ld_el); exact rfl; exact rfl; assumption; assumption; exact rfl))); apply vL_nil)
    refine ⟨rfl, hK _ _ ?_⟩
    (refine tkc 14 rfl (by kernel_rfl) (by first | assumption | infer_instance) rfl (g_live (hbL.frN (by (apply Fr.drew; exact Fr.refl _ _))) (hfi.frN (by (apply Fr.drew; exact Fr.refl _ _))) hsn (by rw [hrF]; exact hok.2.2) (by rw [hrF]; exact hok.2.1)) rfl ?_)
    rintro u4 w4 ⟨hf4, ho4, hfr4, hone4⟩
    have hbq4 := hbq.frN (Fr.trans ((Fr.refl No w3).drew) hf4)
    (refine tk 15 rfl (by kernel_rfl) (by first | assumption | infer_instance) (by intro wf hwf; exact opv_indexAddrR rfl rfl hch (by omega) (by omega)) ?_)
    (refine tk 16 rfl (by kernel_rfl) (by first | assumption | infer_instance) (by intro wf hwf; (try dsimp only at hwf); (((apply opv_fieldAddr); exact rfl))) ?_)
    have S5 := S4.gain (A := Ow 271 4 wtE u4 (r.rcv.filter (lvW S.fi))) hf4 ⟨_, ⟨ho4, hone4, rfl⟩, hfr4⟩
    have S6 := (S5.ac (show _ = Ow 271 4 wtE r.rv.1 r.rcv * (GwP qb vp v rows1 (S.cleanN i) * (Ow 3 1 iE r.bv.1 r.buf * (Ow 271 4 wtE u4 (r.rcv.filter (lvW S.fi)) * (Ow 271 4 wtE r.sv.1 r.snd * (Big ((rows1.eraseIdx i).map RrA) * R))))) by ac_rfl)).drop
    refine vA_only 17 rfl (by kernel_rfl) (by first | assumption | infer_instance) (fun K hK => ?_)
    refine vL_storeElF (enc := rrE) (xs := rows1) (x0 := r) { r with rv := ⟨u4, hone4⟩, rcv := r.rcv.filter (lvW S.fi) } rfl rfl hr' rfl hone4 (by decide) (gw_ch S6).1 ?_
    intro w5 ho5 hf5
    rw [Int.toNat_natCast] at ho5
    have S7 := gw_rows S6 hf5 ho5
    have hbq5 : Blk w5.heap qb (gwL vp v S.now S.made S.rest) 97 := gw_blk S7
    rw [gwL] at hbq5
    refine vL_nil ⟨rfl, hK _ _ ?_⟩
    refine vA_done (by kernel_rfl) (by first | assumption | infer_instance) ?_
    have S8 := gw_unrow (qb := qb) (vp := vp) (v := v) (S := S.cleanN i) (R := R) (r' := { r with rv := ⟨u4, hone4⟩, rcv := r.rcv.filter (lvW S.fi) }) hrl (S7.ac (by dsimp only; ac_rfl))
    have hrows3 : (rows1.set i { r with rv := ⟨u4, hone4⟩, rcv := r.rcv.filter (lvW S.fi) }).map RR.m = (S.cleanN (i + 1)).ch := by
      rw [List.map_set, hrows2, List.set_set, ← cleanN_set hd]
      congr 1
      show ({ r.m with rcv := r.m.rcv.filter (lvW S.fi) } : MC) = _
      rw [hrm, hd']; rfl
    have S9 := gw_shut (S := S.cleanN (i + 1)) hrows3 S8
    (apply blockP_normal; apply seqP_normal; apply vC_region; (refine vE rfl ?_); ((apply vL_val); (case h => ((apply opv_add); exact rfl; exact rfl; (first | omega | (simp only [List.length_map]; omega))))); (refine vE rfl ?_); apply vL_nil; apply loopP_normal)
    (with_reducible apply end1); (case hs => ((iterate 44 (((refine same_updO ?_ ?_); rotate_left; exact rfl))); ((refine same_upd ?_ ?_); rotate_left; exact rfl); (exact same_mask _ _ _))); (case h1 => (exact norm_eq rfl))
    · exact ⟨i + 1, rfl, by omega, S9⟩
    · simp [RowKit.intOf]; omega
  · ((iterate 2 (apply vC_seq)); apply vC_region; (iterate 3 ((refine vE rfl ?_))); (refine vL_val (opv_fieldAddr rfl) ?_); ((apply vL_val); (case h => ((apply opv_loadb1); exact rfl; exact rfl; assumption; exact rfl))); ((apply vL_val); (case h => ((apply opv_len); ((conv => lhs; whnf) <;> exact rfl); assumption))); (refine vE rfl ?_); apply vL_nil; apply seqP_normal; (refine vC_cond_dec rfl (fun h => by omega) (fun _ => ?_)); apply vC_exit; apply seqP_exit; apply loopP_exit; apply blockP_exit)
    (first | apply ret0 | apply ret0n)
    have e : i = S.ch.length := by omega
    subst e
    have e2 : S.cleanN S.ch.length = S.clean := by
      unfold MW.cleanN MW.clean
      rw [List.take_length, List.drop_length, List.append_nil]
    rw [← e2]
    exact S2
end
end Go.Proofs.YtbaidcnalkdhgaaGreat
set_option maxRecDepth 100000
namespace Go.Proofs.YtbaidcnalkdhgaaGreat
open Go Go.Eng
section
variable {w w0 : World} {F0 : Nat → Prop} {R : Asr} {qb : Nat} {vp : Value} {S T : MW}
theorem g_yields [Lcl R] (S1 : At (GwA qb vp S * R) w0 F0 w) (hp1 : vp.oneCell' = true) (id : Int) (t : To) (h0 : 0 ≤ id) (h1 : id < S.to.length) (hl : S.li.length ≤ 1000000) :
    Rets Tryz.prog 130 #[pt qb, .int .i64 id, toV t] w fun _ w' => At (GwA qb vp (S.yields id t) * R) w0 F0 w' := by
  obtain ⟨v, rows, hrows, S2⟩ := gw_open S1
  unfold toV
  obtain ⟨t0, ht0⟩ : ∃ t0, S.to[id.toNat]? = some t0 := ⟨_, List.getElem?_eq_getElem (by omega)⟩
  refine rets_of Tryz.func130 rfl Tryz.ntmps130 rfl rfl (by kernel_rfl) ?_
  (apply vC_seq; apply vC_region; (refine vL_val (opw_boxn rfl) ?_); apply vL_nil; apply seqP_normal; apply vC_seq)
  refine vC_gen (fun w' => At (GwP qb vp v rows S * (Big (rows.map RrA) * R)) w0 F0 w' ∧ Blk w'.heap w.heap.size [.int .i64 t.c, .int .i64 t.v, .bool t.ok] 171 ∧ own v.to ≠ some w.heap.size) ⟨S2.frN (by (apply Fr.alloc; exact Fr.refl _ _)), Blk.as inferInstance rfl, fun h => by have := (gw_to S2).1.lt _ h; omega⟩ ?_
  rintro w1 ⟨S3, hbt, hno⟩
  generalize w.heap.size = tb at *
  have hb : Blk w1.heap qb (gwL vp v S.now S.made S.rest) 97 := gw_blk S3
  rw [gwL] at hb
  have hto := (gw_to S3).1
  refine vC_draw' ((fun wf => Blk wf.heap qb [vp, v.ch, v.at_, v.to, v.ov, v.li, v.ev, v.fi, .int .i64 S.now, v.tm, .int .i64 S.made, .int .u64 S.rest] 97 ∧ Blk wf.heap tb [.int .i64 t.c, .int .i64 t.v, .bool t.ok] 171)) (by refine ⟨?_, ?_⟩ <;> first | assumption | infer_instance) ?_
  (refine tkE 0 rfl (by kernel_rfl) (by refine ⟨?_, ?_⟩ <;> first | assumption | infer_instance) rfl ?_)
  (refine tkE 1 rfl (by kernel_rfl) (by refine ⟨?_, ?_⟩ <;> first | assumption | infer_instance) rfl ?_)
  (refine tk 2 rfl (by kernel_rfl) (by refine ⟨?_, ?_⟩ <;> first | assumption | infer_instance) (by rintro wf ⟨hwa, hwb⟩; (((apply opv_fieldAddr); exact rfl))) ?_)
  (refine tk 3 rfl (by kernel_rfl) (by refine ⟨?_, ?_⟩ <;> first | assumption | infer_instance) (by rintro wf ⟨hwa, hwb⟩; (((apply opv_loadb1); exact rfl; exact rfl; assumption; exact rfl))) ?_)
  (refine tkE 4 rfl (by kernel_rfl) (by refine ⟨?_, ?_⟩ <;> first | assumption | infer_instance) rfl ?_)
  (refine tk 5 rfl (by kernel_rfl) (by refine ⟨?_, ?_⟩ <;> first | assumption | infer_instance) (by rintro wf ⟨hwa, hwb⟩; (((apply opv_loadbC); exact rfl; exact rfl; assumption; exact (rfl : _ = [_, _, _]); exact rfl))) ?_)
  (refine tk 6 rfl (by kernel_rfl) (by refine ⟨?_, ?_⟩ <;> first | assumption | infer_instance) (by intro wf hwf; exact opv_indexAddrR rfl rfl hto.rd (by omega) (by omega)) ?_)
  refine vA_only 7 rfl (by kernel_rfl) (by refine ⟨?_, ?_⟩ <;> first | assumption | infer_instance) (fun K hK => ?_)
  refine vL_storeElS (enc := toE) (xs := S.to) (x0 := t0) (us := [.int .i64 t.c, .int .i64 t.v, .bool t.ok]) t rfl rfl ht0 rfl (by intro u hu; simp at hu; rcases hu with rfl | rfl | rfl <;> rfl) rfl (by simp) (hto.frN (Fr.refl No w1).drew) ?_
  intro w2 ho2 hf2
  have S4 := gw_sto (S3.drew) hf2 ho2
  have hb2 := gw_blk S4
  rw [gwL] at hb2
  dsimp only at hb2
  have hbt2 : Blk w2.heap tb [.int .i64 t.c, .int .i64 t.v, .bool t.ok] 171 := (hbt.frN (Fr.refl No w1).drew).fr hf2 hno
  refine vL_nil ⟨rfl, hK _ _ ?_⟩
  refine vA_done (by kernel_rfl) (by refine ⟨?_, ?_⟩ <;> first | assumption | infer_instance) ?_
  obtain ⟨g1, g2, g3, g4, g5, g6, g7, g8⟩ := gw_ones S4
  (apply seqP_normal; apply vC_region; (iterate 3 ((refine vE rfl ?_))); (refine vL_val (opv_fieldAddr rfl) ?_); ((apply vL_val); (case h => ((apply opv_loadb1); exact rfl; exact rfl; assumption; exact rfl))); (refine vE rfl ?_); ((apply vL_val); (case h => ((apply opw_buildSl); exact rfl; exact rfl; exact rfl; exact (rfl : _ = some [_])))))
  obtain ⟨o5, oo5, up5⟩ := gw_li S4
  have hb5 := gw_blk S4
  refine vL_append (enc := iE) (xs := ({ S with to := S.to.set id.toNat t } : MW).li) (ys := [id]) (T := 3) (sz := 1) (by (((conv => lhs; whnf) <;> exact rfl))) (by (exact norm_eq rfl)) (Own.alloc o5) (Rd.new1 _ _ rfl) rfl (by decide) ?_ ?_ ?_
  · simp [maxLen]; omega
  · simp; omega
  intro v5 w5 ho5 hf5 hfr5 hone5 _
  have hfa5 : Fr (fun j => own v.li = some j) w2 w5 := ((Fr.refl _ w2).alloc _).trans' hf5 (fun i hi => .inl hi)
  have hb25 := hb5.fr hfa5 (fun h => Own.ne_blk o5 hb5 (by decide) h)
  have key5 : ∀ cs', cs' = gwL vp { v with li := v5 } ({ S with to := S.to.set id.toNat t } : MW).now ({ S with to := S.to.set id.toNat t } : MW).made ({ S with to := S.to.set id.toNat t } : MW).rest → At (GwP qb vp { v with li := v5 } rows { ({ S with to := S.to.set id.toNat t } : MW) with li := ({ S with to := S.to.set id.toNat t } : MW).li ++ [id] } * (Big (rows.map RrA) * R)) w0 F0 (w5.setRow qb cs'.toArray) := fun cs' e => by
    subst e
    exact up5 v5 _ _ ((hfa5.mono (fun k _ h => .inr h)).set _ _ (.inl (.inl rfl))) (Blk.set hb25) (ho5.set (Own.ne_blk ho5 hb25 (by decide))) hone5 (fun k hk => (hfr5 k hk).imp (fun h => h) (fun h => by rw [alloc_size] at h; omega))
  rw [gwL] at hb25
  try dsimp only at hb25
  ((refine vE rfl ?_); (refine vL_val (opv_fieldAddr rfl) ?_); ((apply vL_skip); (case h => ((apply ops_store1); exact norm_eq rfl; ((conv => lhs; whnf) <;> exact rfl); (first | rfl | assumption); assumption; (first | decide | exact of_decide_eq_true rfl | (simp; done))))); apply vL_nil)
  (first | apply ret0 | apply ret0n)
  exact gw_shut hrows (key5 _ rfl)
theorem g_ticket [Lcl R] (S1 : At (GwA qb vp S * R) w0 F0 w) (hp1 : vp.oneCell' = true) (hl : S.fi.length ≤ 1000000) :
    Rets Tryz.prog 216 #[pt qb] w fun u w' => u = .int .i64 S.fi.length ∧ At (GwA qb vp { S with fi := S.fi ++ [false] } * R) w0 F0 w' := by
  obtain ⟨v, rows, hrows, S2⟩ := gw_open S1
  have hb : Blk w.heap qb (gwL vp v S.now S.made S.rest) 97 := gw_blk S2
  rw [gwL] at hb
  obtain ⟨g1, g2, g3, g4, g5, g6, g7, g8⟩ := gw_ones S2
  refine rets_of Tryz.func216 rfl Tryz.ntmps216 rfl rfl (by kernel_rfl) ?_
  (apply vC_seq; apply vC_region; (refine vE rfl ?_); apply vL_nil; apply seqP_normal; apply vC_seq; apply vC_region; (iterate 3 ((refine vE rfl ?_))); (refine vL_val (opv_fieldAddr rfl) ?_); ((apply vL_val); (case h => ((apply opv_loadb1); exact rfl; exact rfl; assumption; exact rfl))); ((apply vL_val); (case h => ((apply opw_buildSl); exact rfl; exact rfl; exact rfl; exact (rfl : _ = some [_])))))
  obtain ⟨o5, oo5, up5⟩ := gw_fi S2
  have hb5 := gw_blk S2
  refine vL_append (enc := bE) (xs := S.fi) (ys := [false]) (T := 4) (sz := 1) (by (((conv => lhs; whnf) <;> exact rfl))) (by (exact norm_eq rfl)) (Own.alloc o5) (Rd.new1 _ _ rfl) rfl (by decide) ?_ ?_ ?_
  · simp [maxLen]; omega
  · simp; omega
  intro v5 w5 ho5 hf5 hfr5 hone5 _
  have hfa5 : Fr (fun j => own v.fi = some j) w w5 := ((Fr.refl _ w).alloc _).trans' hf5 (fun i hi => .inl hi)
  have hb25 := hb5.fr hfa5 (fun h => Own.ne_blk o5 hb5 (by decide) h)
  have key5 : ∀ cs', cs' = gwL vp { v with fi := v5 } S.now S.made S.rest → At (GwP qb vp { v with fi := v5 } rows { S with fi := S.fi ++ [false] } * (Big (rows.map RrA) * R)) w0 F0 (w5.setRow qb cs'.toArray) := fun cs' e => by
    subst e
    exact up5 v5 _ _ ((hfa5.mono (fun k _ h => .inr h)).set _ _ (.inl (.inl rfl))) (Blk.set hb25) (ho5.set (Own.ne_blk ho5 hb25 (by decide))) hone5 (fun k hk => (hfr5 k hk).imp (fun h => h) (fun h => by rw [alloc_size] at h; omega))
  rw [gwL] at hb25
  try dsimp only at hb25
  (((refine vE rfl ?_); (refine vL_val (opv_fieldAddr rfl) ?_); ((apply vL_skip); (case h => ((apply ops_store1); exact norm_eq rfl; ((conv => lhs; whnf) <;> exact rfl); (first | rfl | assumption); assumption; (first | decide | exact of_decide_eq_true rfl | (simp; done))))); apply vL_nil))
  with_reducible apply seqP_normal
  refine vC_gen (fun w' => At (GwP qb vp { v with fi := v5 } rows { S with fi := S.fi ++ [false] } * (Big (rows.map RrA) * R)) w0 F0 w') (key5 _ rfl) ?_
  intro w6 S6
  have hb6 := gw_blk S6
  rw [gwL] at hb6
  dsimp only at hb6
  have hf6 : Rd w6.heap 1 bE v5 (S.fi ++ [false]) := (gw_fi S6).1.rd
  have hlen : (S.fi ++ [false]).length = S.fi.length + 1 := by simp
  (apply vC_seq; apply vC_region; (iterate 2 ((refine vE rfl ?_))); (refine vL_val (opv_fieldAddr rfl) ?_); ((apply vL_val); (case h => ((apply opv_loadb1); exact rfl; exact rfl; assumption; exact rfl))); ((apply vL_val); (case h => ((apply opv_len); ((conv => lhs; whnf) <;> exact rfl); assumption))); ((apply vL_val); (case h => ((apply opv_sub); exact rfl; exact rfl; (first | omega | (simp only [List.length_map]; omega))))); (refine vE rfl ?_); apply vL_nil; apply seqP_normal; apply vC_ret)
  (apply ret1; (case h1 => (exact norm_eq rfl)))
  refine ⟨congrArg (Value.int .i64) (by rw [hlen]; omega), gw_shut hrows S6⟩
end
end Go.Proofs.YtbaidcnalkdhgaaGreat
set_option maxRecDepth 100000
namespace Go.Proofs.YtbaidcnalkdhgaaGreat
open Go Go.Eng
/-- every wait's ticket and task are there; no list is too long -/
def GCh (S : MW) : Prop := ∀ d ∈ S.ch, (d.snd.length ≤ 1000000 ∧ ∀ x ∈ d.snd, 0 ≤ x.tk ∧ x.tk < S.fi.length ∧ x.task < S.to.length) ∧ (d.rcv.length ≤ 1000000 ∧ ∀ x ∈ d.rcv, 0 ≤ x.tk ∧ x.tk < S.fi.length ∧ x.task < S.to.length)
section
variable {S T : MW} {j : Nat}
theorem GCh.to (h : GCh S) (hf : T.fi.length = S.fi.length) (ht : T.to.length = S.to.length) (hc : ∀ d ∈ T.ch, ∃ d0 ∈ S.ch, d.snd.length ≤ d0.snd.length ∧ d.rcv.length ≤ d0.rcv.length ∧ (∀ x ∈ d.snd, x ∈ d0.snd) ∧ (∀ x ∈ d.rcv, x ∈ d0.rcv)) : GCh T := fun d hd => by
  obtain ⟨d0, h0, h1, h2, h3, h4⟩ := hc d hd
  obtain ⟨⟨a1, a2⟩, ⟨b1, b2⟩⟩ := h d0 h0
  rw [hf, ht]
  exact ⟨⟨Nat.le_trans h1 a1, fun x hx => a2 x (h3 x hx)⟩, ⟨Nat.le_trans h2 b1, fun x hx => b2 x (h4 x hx)⟩⟩
theorem GCh.clean (h : GCh S) (k : Nat) : GCh (({ S with fi := S.fi.set k true } : MW).clean) := h.to List.length_set rfl (fun d hd => by
  obtain ⟨d0, h0, rfl⟩ := List.mem_map.1 hd
  exact ⟨d0, h0, List.length_filter_le _ _, List.length_filter_le _ _, fun x hx => (List.mem_filter.1 hx).1, fun x hx => (List.mem_filter.1 hx).1⟩)
theorem GCh.yields (h : GCh S) (id : Int) (t : To) : GCh (S.yields id t) := h.to rfl List.length_set (fun d hd => ⟨d, hd, Nat.le_refl _, Nat.le_refl _, fun _ h => h, fun _ h => h⟩)
theorem GCh.serve (h : GCh S) (x : Wt) (v : Int) (ok : Bool) : GCh (S.serve x v ok) := by
  unfold MW.serve
  split
  · exact (h.clean _).yields _ _
  · exact h.clean _
theorem GCh.setC (h : GCh S) {d d' : MC} (hd : S.ch[j]? = some d) (e1 : d'.snd = d.snd) (e2 : d'.rcv = d.rcv) : GCh (S.setC j d') := h.to rfl rfl (fun x hx => by
  have hx : x ∈ S.ch.set j d' := hx
  rcases List.mem_or_eq_of_mem_set hx with h1 | rfl
  · exact ⟨x, h1, Nat.le_refl _, Nat.le_refl _, fun _ h => h, fun _ h => h⟩
  · exact ⟨d, List.mem_of_getElem? hd, by rw [e1]; exact Nat.le_refl _, by rw [e2]; exact Nat.le_refl _, fun y hy => by rw [e1] at hy; exact hy, fun y hy => by rw [e2] at hy; exact hy⟩)
end
def wtV (x : Wt) : Value := .agg #[.int .i64 x.task, .int .i64 x.tk, .int .i64 x.which, .int .i64 x.v]
section
variable {w w0 : World} {F0 : Nat → Prop} {R : Asr} {qb : Nat} {vp : Value} {S T : MW}
theorem g_serve [Lcl R] (hgo : GCh S) (S1 : At (GwA qb vp S * R) w0 F0 w) (hp1 : vp.oneCell' = true) (x : Wt) (hx : 0 ≤ x.tk ∧ x.tk < S.fi.length ∧ x.task < S.to.length) (v : Int) (ok : Bool) (hl : S.li.length ≤ 1000000) :
    Rets Tryz.prog 217 #[pt qb, wtV x, .int .i64 v, .bool ok] w fun _ w' => At (GwA qb vp (S.serve x v ok) * R) w0 F0 w' := by
  obtain ⟨x0, x1, x2⟩ := hx
  obtain ⟨b0, hb0⟩ : ∃ b0, S.fi[x.tk.toNat]? = some b0 := ⟨_, List.getElem?_eq_getElem (by omega)⟩
  unfold wtV
  refine rets_of Tryz.func217 rfl Tryz.ntmps217 rfl rfl (by kernel_rfl) ?_
  (apply vC_seq; apply vC_region; (refine vL_val (opw_boxn rfl) ?_); apply vL_nil; apply seqP_normal; apply vC_seq)
  have S2 := (S1.alloc (cs := [.int .i64 x.task, .int .i64 x.tk, .int .i64 x.which, .int .i64 x.v]) (T := 271)).ac (show _ = GwA qb vp S * (Pt w.heap.size [.int .i64 x.task, .int .i64 x.tk, .int .i64 x.which, .int .i64 x.v] 271 * R) by ac_rfl)
  refine vC_gen (fun w' => At _ w0 F0 w') S2 ?_
  clear S2 S1
  intro w1 S3
  generalize w.heap.size = b5 at *
  obtain ⟨v1, rows, hrows, S4⟩ := gw_open S3
  have hb5 := (S4.ac (show _ = Pt b5 [.int .i64 x.task, .int .i64 x.tk, .int .i64 x.which, .int .i64 x.v] 271 * (GwP qb vp v1 rows S * (Big (rows.map RrA) * R)) by ac_rfl)).blk
  have hb := gw_blk S4
  rw [gwL] at hb
  have hfi := (gw_fi S4).1
  refine vC_draw' ((fun wf => Blk wf.heap qb [vp, v1.ch, v1.at_, v1.to, v1.ov, v1.li, v1.ev, v1.fi, .int .i64 S.now, v1.tm, .int .i64 S.made, .int .u64 S.rest] 97 ∧ Blk wf.heap b5 [.int .i64 x.task, .int .i64 x.tk, .int .i64 x.which, .int .i64 x.v] 271)) (by refine ⟨?_, ?_⟩ <;> first | assumption | infer_instance) ?_
  (refine tkE 0 rfl (by kernel_rfl) (by refine ⟨?_, ?_⟩ <;> first | assumption | infer_instance) rfl ?_)
  (refine tkE 1 rfl (by kernel_rfl) (by refine ⟨?_, ?_⟩ <;> first | assumption | infer_instance) rfl ?_)
  (refine tk 2 rfl (by kernel_rfl) (by refine ⟨?_, ?_⟩ <;> first | assumption | infer_instance) (by rintro wf ⟨hwa, hwb⟩; (((apply opv_fieldAddr); exact rfl))) ?_)
  (refine tk 3 rfl (by kernel_rfl) (by refine ⟨?_, ?_⟩ <;> first | assumption | infer_instance) (by rintro wf ⟨hwa, hwb⟩; (((apply opv_loadb1); exact rfl; exact rfl; assumption; exact rfl))) ?_)
  (refine tk 4 rfl (by kernel_rfl) (by refine ⟨?_, ?_⟩ <;> first | assumption | infer_instance) (by rintro wf ⟨hwa, hwb⟩; (((apply opv_fieldAddr); exact rfl))) ?_)
  (refine tk 5 rfl (by kernel_rfl) (by refine ⟨?_, ?_⟩ <;> first | assumption | infer_instance) (by rintro wf ⟨hwa, hwb⟩; (((apply opv_loadb1); exact rfl; exact rfl; assumption; exact rfl))) ?_)
  (refine tk 6 rfl (by kernel_rfl) (by refine ⟨?_, ?_⟩ <;> first | assumption | infer_instance) (by intro wf hwf; exact opv_indexAddrR rfl rfl hfi.rd (by omega) (by omega)) ?_)
  refine vA_only 7 rfl (by kernel_rfl) (by refine ⟨?_, ?_⟩ <;> first | assumption | infer_instance) (fun K hK => ?_)
  refine vL_storeEl (enc := bE) (xs := S.fi) (i := x.tk) true rfl rfl rfl (hfi.frN (Fr.refl No w1).drew) (by omega) ?_
  intro w2 ho2 hf2
  have S5 := gw_sfi (S4.drew) hf2 ho2
  have hb2 := gw_blk S5
  rw [gwL] at hb2
  try dsimp only at hb2
  have hb52 := (S5.ac (show _ = Pt b5 [.int .i64 x.task, .int .i64 x.tk, .int .i64 x.which, .int .i64 x.v] 271 * (GwP qb vp v1 rows { S with fi := S.fi.set x.tk.toNat true } * (Big (rows.map RrA) * R)) by ac_rfl)).blk
  refine vL_nil ⟨rfl, hK _ _ ?_⟩
  refine vA_done (by kernel_rfl) (by refine ⟨?_, ?_⟩ <;> first | assumption | infer_instance) ?_
  have S6 : At (GwA qb vp { S with fi := S.fi.set x.tk.toNat true } * (Pt b5 [.int .i64 x.task, .int .i64 x.tk, .int .i64 x.which, .int .i64 x.v] 271 * R)) w0 F0 w2 := gw_shut hrows S5
  have hgc : ∀ d ∈ ({ S with fi := S.fi.set x.tk.toNat true } : MW).ch, (d.snd.length ≤ 1000000 ∧ ∀ y ∈ d.snd, 0 ≤ y.tk ∧ y.tk < ({ S with fi := S.fi.set x.tk.toNat true } : MW).fi.length) ∧ (d.rcv.length ≤ 1000000 ∧ ∀ y ∈ d.rcv, 0 ≤ y.tk ∧ y.tk < ({ S with fi := S.fi.set x.tk.toNat true } : MW).fi.length) := fun d hd => by
    obtain ⟨⟨a1, a2⟩, ⟨b1, b2⟩⟩ := hgo d hd
    have e : ({ S with fi := S.fi.set x.tk.toNat true } : MW).fi.length = S.fi.length := List.length_set
    rw [e]
    exact ⟨⟨a1, fun y hy => ⟨(a2 y hy).1, (a2 y hy).2.1⟩⟩, ⟨b1, fun y hy => ⟨(b2 y hy).1, (b2 y hy).2.1⟩⟩⟩
  (apply seqP_normal; apply vC_seq; apply vC_region; (refine vE rfl ?_))
  refine vL_callF rfl (g_clean hgc S6) rfl ?_
  intro _ w3 S7
  have hsv : S.serve x v ok = if 0 ≤ x.task then (({ S with fi := S.fi.set x.tk.toNat true } : MW).clean).yields x.task ⟨x.which, v, ok⟩ else ({ S with fi := S.fi.set x.tk.toNat true } : MW).clean := rfl
  have hto3 : (({ S with fi := S.fi.set x.tk.toNat true } : MW).clean).to.length = S.to.length := rfl
  have hli3 : (({ S with fi := S.fi.set x.tk.toNat true } : MW).clean).li.length = S.li.length := rfl
  generalize ({ S with fi := S.fi.set x.tk.toNat true } : MW).clean = S' at *
  clear S6 S5 hb2 hb52 hgc ho2 hf2 hfi hb hb5 S4 hrows S3
  have hb53 := (S7.ac (show _ = Pt b5 [.int .i64 x.task, .int .i64 x.tk, .int .i64 x.which, .int .i64 x.v] 271 * (GwA qb vp S' * R) by ac_rfl)).blk
  by_cases h0 : 0 ≤ x.task
  · rw [hsv, if_pos h0]
    obtain ⟨t0, ht0⟩ : ∃ t0, S'.to[x.task.toNat]? = some t0 := ⟨_, List.getElem?_eq_getElem (by omega)⟩
    obtain ⟨v3, rows3, hrows3, S8⟩ := gw_open S7
    have hb3 := gw_blk S8
    rw [gwL] at hb3
    have hto := (gw_to S8).1
    (apply vL_nil; apply seqP_normal; apply vC_seq; apply vC_region; (refine vL_val (opv_fieldAddr rfl) ?_); ((apply vL_val); (case h => ((apply opv_loadb1); exact rfl; exact rfl; assumption; exact rfl))); (refine vE rfl ?_); apply vL_nil; apply seqP_normal; (refine vC_cond_dec rfl (fun _ => ?_) (fun h => by omega)); apply vC_seq)
    refine vC_draw' ((fun wf => Blk wf.heap qb [vp, v3.ch, v3.at_, v3.to, v3.ov, v3.li, v3.ev, v3.fi, .int .i64 S'.now, v3.tm, .int .i64 S'.made, .int .u64 S'.rest] 97 ∧ Blk wf.heap b5 [.int .i64 x.task, .int .i64 x.tk, .int .i64 x.which, .int .i64 x.v] 271)) (by refine ⟨?_, ?_⟩ <;> first | assumption | infer_instance) ?_
    (refine tkE 0 rfl (by kernel_rfl) (by refine ⟨?_, ?_⟩ <;> first | assumption | infer_instance) rfl ?_)
    (refine tkE 1 rfl (by kernel_rfl) (by refine ⟨?_, ?_⟩ <;> first | assumption | infer_instance) rfl ?_)
    (refine tk 2 rfl (by kernel_rfl) (by refine ⟨?_, ?_⟩ <;> first | assumption | infer_instance) (by rintro wf ⟨hwa, hwb⟩; (((apply opv_fieldAddr); exact rfl))) ?_)
    (refine tk 3 rfl (by kernel_rfl) (by refine ⟨?_, ?_⟩ <;> first | assumption | infer_instance) (by rintro wf ⟨hwa, hwb⟩; (((apply opv_loadb1); exact rfl; exact rfl; assumption; exact rfl))) ?_)
    (refine tk 4 rfl (by kernel_rfl) (by refine ⟨?_, ?_⟩ <;> first | assumption | infer_instance) (by rintro wf ⟨hwa, hwb⟩; (((apply opv_fieldAddr); exact rfl))) ?_)
    (refine tk 5 rfl (by kernel_rfl) (by refine ⟨?_, ?_⟩ <;> first | assumption | infer_instance) (by rintro wf ⟨hwa, hwb⟩; (((apply opv_loadb1); exact rfl; exact rfl; assumption; exact rfl))) ?_)
    (refine tk 6 rfl (by kernel_rfl) (by refine ⟨?_, ?_⟩ <;> first | assumption | infer_instance) (by rintro wf ⟨hwa, hwb⟩; (((apply opv_fieldAddr); exact rfl))) ?_)
    (refine tk 7 rfl (by kernel_rfl) (by refine ⟨?_, ?_⟩ <;> first | assumption | infer_instance) (by rintro wf ⟨hwa, hwb⟩; (((apply opv_loadb1); exact rfl; exact rfl; assumption; exact rfl))) ?_)
    (refine tkE 8 rfl (by kernel_rfl) (by refine ⟨?_, ?_⟩ <;> first | assumption | infer_instance) rfl ?_)
    (refine tkE 9 rfl (by kernel_rfl) (by refine ⟨?_, ?_⟩ <;> first | assumption | infer_instance) rfl ?_)
    (refine tk 10 rfl (by kernel_rfl) (by refine ⟨?_, ?_⟩ <;> first | assumption | infer_instance) (by rintro wf ⟨hwa, hwb⟩; (((apply opv_buildS); exact rfl; exact (rfl : _ = some [_, _, _])))) ?_)
    (refine tk 11 rfl (by kernel_rfl) (by refine ⟨?_, ?_⟩ <;> first | assumption | infer_instance) (by intro wf hwf; exact opv_indexAddrR rfl rfl hto.rd (by omega) (by omega)) ?_)
    refine vA_only 12 rfl (by kernel_rfl) (by refine ⟨?_, ?_⟩ <;> first | assumption | infer_instance) (fun K hK => ?_)
    refine vL_storeElS (enc := toE) (xs := S'.to) (x0 := t0) (us := [.int .i64 x.which, .int .i64 v, .bool ok]) ⟨x.which, v, ok⟩ rfl rfl ht0 rfl (by intro u hu; simp at hu; rcases hu with rfl | rfl | rfl <;> rfl) rfl (by simp) (hto.frN (Fr.refl No w3).drew) ?_
    intro w4 ho4 hf4
    have S9 := gw_sto (S8.drew) hf4 ho4
    have hb4 := gw_blk S9
    rw [gwL] at hb4
    try dsimp only at hb4
    have hb54 := (S9.ac (show _ = Pt b5 [.int .i64 x.task, .int .i64 x.tk, .int .i64 x.which, .int .i64 x.v] 271 * (GwP qb vp v3 rows3 { S' with to := S'.to.set x.task.toNat ⟨x.which, v, ok⟩ } * (Big (rows3.map RrA) * R)) by ac_rfl)).blk
    refine vL_nil ⟨rfl, hK _ _ ?_⟩
    refine vA_done (by kernel_rfl) (by refine ⟨?_, ?_⟩ <;> first | assumption | infer_instance) ?_
    clear hb3 hb53 S8 S7
    obtain ⟨g1, g2, g3, g4, g5, g6, g7, g8⟩ := gw_ones S9
    haveI n5 : NeB b5 qb := ⟨Blk.ne_type hb54 hb4 (by decide)⟩
    with_reducible apply seqP_normal
    refine vC_draw' ((fun wf => Blk wf.heap b5 [.int .i64 x.task, .int .i64 x.tk, .int .i64 x.which, .int .i64 x.v] 271)) (by first | assumption | infer_instance) ?_
    (refine tkE 0 rfl (by kernel_rfl) (by first | assumption | infer_instance) rfl ?_)
    (refine tkE 1 rfl (by kernel_rfl) (by first | assumption | infer_instance) rfl ?_)
    (refine tkE 2 rfl (by kernel_rfl) (by first | assumption | infer_instance) rfl ?_)
    (refine tk 3 rfl (by kernel_rfl) (by first | assumption | infer_instance) (by intro wf hwf; (try dsimp only at hwf); (((apply opv_fieldAddr); exact rfl))) ?_)
    (refine tk 5 rfl (by kernel_rfl) (by first | assumption | infer_instance) (by intro wf hwf; (try dsimp only at hwf); (((apply opv_fieldAddr); exact rfl))) ?_)
    (refine tk 6 rfl (by kernel_rfl) (by first | assumption | infer_instance) (by intro wf hwf; (try dsimp only at hwf); (((apply opv_loadb1); exact rfl; exact rfl; assumption; exact rfl))) ?_)
    refine vA_two 4 7 rfl rfl (by kernel_rfl) (by first | assumption | infer_instance) (fun K hK => ?_) (fun K hK => ?_)
    · (((apply vL_val); (case h => ((apply opv_loadb1); exact rfl; exact rfl; assumption; exact rfl))); apply vL_nil)
      refine ⟨rfl, hK _ _ ?_⟩
      refine vA_only 7 rfl (by kernel_rfl) (by first | assumption | infer_instance) (fun K hK => ?_)
      (((apply vL_val); (case h => ((apply opw_buildSl); exact rfl; exact rfl; exact rfl; exact (rfl : _ = some [_])))); apply vL_nil)
      refine ⟨rfl, hK _ _ ?_⟩
      refine vA_only 8 rfl (by kernel_rfl) (by first | assumption | infer_instance) (fun K hK => ?_)
      obtain ⟨o6, oo6, up6⟩ := gw_li S9.drew
      have hb6 := gw_blk S9.drew
      refine vL_append (enc := iE) (xs := ({ S' with to := S'.to.set x.task.toNat ⟨x.which, v, ok⟩ } : MW).li) (ys := [x.task]) (T := 3) (sz := 1) (by (((conv => lhs; whnf) <;> exact rfl))) (by (exact norm_eq rfl)) (Own.alloc o6) (Rd.new1 _ _ rfl) rfl (by decide) ?_ ?_ ?_
      · simp [maxLen]; omega
      · simp; omega
      intro v6 w6 ho6 hf6 hfr6 hone6 _
      have hfa6 : Fr (fun j => own v3.li = some j) w4.drew w6 := ((Fr.refl _ w4.drew).alloc _).trans' hf6 (fun i hi => .inl hi)
      have hb26 := hb6.fr hfa6 (fun h => Own.ne_blk o6 hb6 (by decide) h)
      have key6 : ∀ cs', cs' = gwL vp { v3 with li := v6 } ({ S' with to := S'.to.set x.task.toNat ⟨x.which, v, ok⟩ } : MW).now ({ S' with to := S'.to.set x.task.toNat ⟨x.which, v, ok⟩ } : MW).made ({ S' with to := S'.to.set x.task.toNat ⟨x.which, v, ok⟩ } : MW).rest → At (GwP qb vp { v3 with li := v6 } rows3 { ({ S' with to := S'.to.set x.task.toNat ⟨x.which, v, ok⟩ } : MW) with li := ({ S' with to := S'.to.set x.task.toNat ⟨x.which, v, ok⟩ } : MW).li ++ [x.task] } * (Big (rows3.map RrA) * (Pt b5 [.int .i64 x.task, .int .i64 x.tk, .int .i64 x.which, .int .i64 x.v] 271 * R))) w0 F0 (w6.setRow qb cs'.toArray) := fun cs' e => by
        subst e
        exact up6 v6 _ _ ((hfa6.mono (fun k _ h => .inr h)).set _ _ (.inl (.inl rfl))) (Blk.set hb26) (ho6.set (Own.ne_blk ho6 hb26 (by decide))) hone6 (fun k hk => (hfr6 k hk).imp (fun h => h) (fun h => by rw [alloc_size] at h; omega))
      rw [gwL] at hb26
      try dsimp only at hb26
      have hb56 := (hb54.frN (Fr.refl No w4).drew).fr hfa6 (fun h => Own.ne_blk o6 (hb54.frN (Fr.refl No w4).drew) (by decide) h)
      refine vL_nil ⟨rfl, hK _ _ ?_⟩
      (refine tkE 9 rfl (by kernel_rfl) (by first | assumption | infer_instance) rfl ?_)
      (refine tk 10 rfl (by kernel_rfl) (by first | assumption | infer_instance) (by intro wf hwf; (try dsimp only at hwf); (((apply opv_fieldAddr); exact rfl))) ?_)
      refine vA_only 11 rfl (by kernel_rfl) (by first | assumption | infer_instance) (fun K hK => ?_)
      (((apply vL_skip); (case h => ((apply ops_store1); exact norm_eq rfl; ((conv => lhs; whnf) <;> exact rfl); (first | rfl | assumption); assumption; (first | decide | exact of_decide_eq_true rfl | (simp; done))))); apply vL_nil)
      refine ⟨rfl, hK _ _ ?_⟩
      refine vA_done (by kernel_rfl) (by first | assumption | infer_instance) ?_
      skip
      (first | apply ret0 | apply ret0n)
      have S12 : At (GwA qb vp (S'.yields x.task ⟨x.which, v, ok⟩) * (Pt b5 [.int .i64 x.task, .int .i64 x.tk, .int .i64 x.which, .int .i64 x.v] 271 * R)) w0 F0 _ := gw_shut hrows3 (key6 _ rfl)
      exact (S12.ac (show _ = Pt b5 [.int .i64 x.task, .int .i64 x.tk, .int .i64 x.which, .int .i64 x.v] 271 * (GwA qb vp (S'.yields x.task ⟨x.which, v, ok⟩) * R) by ac_rfl)).drop
    · (((apply vL_val); (case h => ((apply opw_buildSl); exact rfl; exact rfl; exact rfl; exact (rfl : _ = some [_])))); apply vL_nil)
      refine ⟨rfl, hK _ _ ?_⟩
      refine vA_only 4 rfl (by kernel_rfl) (by first | assumption | infer_instance) (fun K hK => ?_)
      (((apply vL_val); (case h => ((apply opv_loadb1); exact rfl; exact rfl; infer_instance; exact rfl))); apply vL_nil)
      refine ⟨rfl, hK _ _ ?_⟩
      refine vA_only 8 rfl (by kernel_rfl) (by first | assumption | infer_instance) (fun K hK => ?_)
      obtain ⟨o6, oo6, up6⟩ := gw_li S9.drew
      have hb6 := gw_blk S9.drew
      refine vL_append (enc := iE) (xs := ({ S' with to := S'.to.set x.task.toNat ⟨x.which, v, ok⟩ } : MW).li) (ys := [x.task]) (T := 3) (sz := 1) (by (((conv => lhs; whnf) <;> exact rfl))) (by (exact norm_eq rfl)) (Own.alloc o6) (Rd.new1 _ _ rfl) rfl (by decide) ?_ ?_ ?_
      · simp [maxLen]; omega
      · simp; omega
      intro v6 w6 ho6 hf6 hfr6 hone6 _
      have hfa6 : Fr (fun j => own v3.li = some j) w4.drew w6 := ((Fr.refl _ w4.drew).alloc _).trans' hf6 (fun i hi => .inl hi)
      have hb26 := hb6.fr hfa6 (fun h => Own.ne_blk o6 hb6 (by decide) h)
      have key6 : ∀ cs', cs' = gwL vp { v3 with li := v6 } ({ S' with to := S'.to.set x.task.toNat ⟨x.which, v, ok⟩ } : MW).now ({ S' with to := S'.to.set x.task.toNat ⟨x.which, v, ok⟩ } : MW).made ({ S' with to := S'.to.set x.task.toNat ⟨x.which, v, ok⟩ } : MW).rest → At (GwP qb vp { v3 with li := v6 } rows3 { ({ S' with to := S'.to.set x.task.toNat ⟨x.which, v, ok⟩ } : MW) with li := ({ S' with to := S'.to.set x.task.toNat ⟨x.which, v, ok⟩ } : MW).li ++ [x.task] } * (Big (rows3.map RrA) * (Pt b5 [.int .i64 x.task, .int .i64 x.tk, .int .i64 x.which, .int .i64 x.v] 271 * R))) w0 F0 (w6.setRow qb cs'.toArray) := fun cs' e => by
        subst e
        exact up6 v6 _ _ ((hfa6.mono (fun k _ h => .inr h)).set _ _ (.inl (.inl rfl))) (Blk.set hb26) (ho6.set (Own.ne_blk ho6 hb26 (by decide))) hone6 (fun k hk => (hfr6 k hk).imp (fun h => h) (fun h => by rw [alloc_size] at h; omega))
      rw [gwL] at hb26
      try dsimp only at hb26
      have hb56 := (hb54.frN (Fr.refl No w4).drew).fr hfa6 (fun h => Own.ne_blk o6 (hb54.frN (Fr.refl No w4).drew) (by decide) h)
      refine vL_nil ⟨rfl, hK _ _ ?_⟩
      (refine tkE 9 rfl (by kernel_rfl) (by first | assumption | infer_instance) rfl ?_)
      (refine tk 10 rfl (by kernel_rfl) (by first | assumption | infer_instance) (by intro wf hwf; (try dsimp only at hwf); (((apply opv_fieldAddr); exact rfl))) ?_)
      refine vA_only 11 rfl (by kernel_rfl) (by first | assumption | infer_instance) (fun K hK => ?_)
      (((apply vL_skip); (case h => ((apply ops_store1); exact norm_eq rfl; ((conv => lhs; whnf) <;> exact rfl); (first | rfl | assumption); assumption; (first | decide | exact of_decide_eq_true rfl | (simp; done))))); apply vL_nil)
      refine ⟨rfl, hK _ _ ?_⟩
      refine vA_done (by kernel_rfl) (by first | assumption | infer_instance) ?_
      skip
      (first | apply ret0 | apply ret0n)
      have S12 : At (GwA qb vp (S'.yields x.task ⟨x.which, v, ok⟩) * (Pt b5 [.int .i64 x.task, .int .i64 x.tk, .int .i64 x.which, .int .i64 x.v] 271 * R)) w0 F0 _ := gw_shut hrows3 (key6 _ rfl)
      exact (S12.ac (show _ = Pt b5 [.int .i64 x.task, .int .i64 x.tk, .int .i64 x.which, .int .i64 x.v] 271 * (GwA qb vp (S'.yields x.task ⟨x.which, v, ok⟩) * R) by ac_rfl)).drop
  · rw [hsv, if_neg h0]
    (apply vL_nil; apply seqP_normal; apply vC_seq; apply vC_region; (refine vL_val (opv_fieldAddr rfl) ?_); ((apply vL_val); (case h => ((apply opv_loadb1); exact rfl; exact rfl; assumption; exact rfl))); (refine vE rfl ?_); apply vL_nil; apply seqP_normal; (refine vC_cond_dec rfl (fun h => by omega) (fun _ => ?_)); apply vC_skip)
    (first | apply ret0 | apply ret0n)
    exact (S7.ac (show _ = Pt b5 [.int .i64 x.task, .int .i64 x.tk, .int .i64 x.which, .int .i64 x.v] 271 * (GwA qb vp S' * R) by ac_rfl)).drop
end
end Go.Proofs.YtbaidcnalkdhgaaGreat
set_option maxRecDepth 100000
namespace Go.Proofs.YtbaidcnalkdhgaaGreat
open Go Go.Eng
section
variable {w w0 : World} {F0 : Nat → Prop} {R : Asr} {qb : Nat} {vp : Value} {v : GV} {rows : List RR} {S : MW} {j : Nat} {r : RR}
theorem row_buf (hr : rows[j]? = some r) (S1 : At (GwP qb vp v rows S * (Big (rows.map RrA) * R)) w0 F0 w) : Own w.heap 3 1 iE r.bv.1 r.buf := (gw_row hr S1).own.1
theorem row_snd (hr : rows[j]? = some r) (S1 : At (GwP qb vp v rows S * (Big (rows.map RrA) * R)) w0 F0 w) : Own w.heap 271 4 wtE r.sv.1 r.snd := ((gw_row hr S1).ac (show _ = Ow 271 4 wtE r.sv.1 r.snd * (Ow 3 1 iE r.bv.1 r.buf * (Ow 271 4 wtE r.rv.1 r.rcv * (GwP qb vp v rows S * (Big ((rows.eraseIdx j).map RrA) * R)))) by ac_rfl)).own.1
theorem row_rcv (hr : rows[j]? = some r) (S1 : At (GwP qb vp v rows S * (Big (rows.map RrA) * R)) w0 F0 w) : Own w.heap 271 4 wtE r.rv.1 r.rcv := ((gw_row hr S1).ac (show _ = Ow 271 4 wtE r.rv.1 r.rcv * (Ow 3 1 iE r.bv.1 r.buf * (Ow 271 4 wtE r.sv.1 r.snd * (GwP qb vp v rows S * (Big ((rows.eraseIdx j).map RrA) * R)))) by ac_rfl)).own.1
theorem g_canS [Lcl R] (S1 : At (GwA qb vp S * R) w0 F0 w) {c : Int} {d : MC} (h0 : 0 ≤ c) (hd : S.ch[c.toNat]? = some d) :
    Rets Tryz.prog 189 #[pt qb, .int .i64 c] w fun u w' => Fr No w w' ∧ u = .bool d.canS := by
  obtain ⟨v, rows, hrows, S2⟩ := gw_open S1
  obtain ⟨r, hr, rfl⟩ := rows_get hrows hd
  have hb := gw_blk S2
  rw [gwL] at hb
  have hch := (gw_ch S2).1.rd
  have hbv := (row_buf hr S2).rd
  have hrv := (row_rcv hr S2).rd
  have hlr := (List.getElem?_eq_some_iff.1 hr).1
  obtain ⟨size, ⟨bv, obv⟩, ⟨sv, osv⟩, ⟨rv, orv⟩, closed, buf, snd, rcv⟩ := r
  simp only [] at hbv hrv
  unfold RR.m MC.canS
  dsimp only
  have hs1 := hbv.small
  have hs2 := hrv.small
  refine rets_of Tryz.func189 rfl Tryz.ntmps189 rfl rfl (by kernel_rfl) ?_
  (apply vC_seq; apply vC_region; (refine vE rfl ?_); apply vL_nil; apply seqP_normal; apply vC_seq; apply vC_region; (iterate 2 ((refine vE rfl ?_))); (refine vL_val (opv_fieldAddr rfl) ?_); ((apply vL_val); (case h => ((apply opv_loadb1); exact rfl; exact rfl; assumption; exact rfl))); (refine vE rfl ?_); ((apply vL_val); (case h => ((apply opv_indexAddr); ((conv => lhs; whnf) <;> exact rfl); exact rfl; assumption; (first | omega | (simp only [List.length_map]; omega)); (first | omega | (simp only [List.length_map]; omega))))); ((apply vL_val); (case h => ((apply opv_ld_eln); exact rfl; exact rfl; assumption; assumption))); ((apply vL_val); (case h => (apply opw_alloc))); ((apply vL_skip); (case h => ((apply ops_storen); exact norm_eq rfl; exact norm_eq rfl; exact rfl; exact (fun u hu => EncOk.one _ u hu); infer_instance; (first | decide | exact of_decide_eq_true rfl | (simp; done))))); apply vL_nil; apply seqP_normal; apply vC_seq; apply vC_region; (refine vL_val (opv_fieldAddr rfl) ?_); ((apply vL_val); (case h => ((apply opv_loadb1); exact rfl; exact rfl; infer_instance; exact rfl))); (refine vE rfl ?_))
  cases closed with
  | true =>
    ((iterate 14 (first | (refine vE rfl ?_) | ((with_reducible apply vL_unwanted'); exact rfl; exact rfl))); apply vL_nil; apply seqP_normal; apply vC_ret)
    (apply ret1; (case h1 => (exact norm_eq rfl)))
    exact ⟨by (apply Fr.allocSet; exact Fr.refl _ _), rfl⟩
  | false =>
    by_cases h1 : 0 < rcv.length
    · (((apply vL_wanted); exact rfl); (refine vL_val (opv_fieldAddr rfl) ?_); ((apply vL_wanted); exact rfl); ((apply vL_val); (case h => ((apply opv_loadb1); exact rfl; exact rfl; infer_instance; exact rfl))); ((apply vL_wanted); exact rfl); ((apply vL_val); (case h => ((apply opv_len); ((conv => lhs; whnf) <;> exact rfl); infer_instance))); ((apply vL_wanted); exact rfl); (iterate 11 (first | (refine vE rfl ?_) | ((with_reducible apply vL_unwanted'); exact rfl; exact rfl) | (refine vL_or rfl rfl (fun h => by omega) (fun _ => ?_)))); apply vL_nil; apply seqP_normal; apply vC_ret)
      (apply ret1; (case h1 => (exact norm_eq rfl)))
      exact ⟨by (apply Fr.allocSet; exact Fr.refl _ _), by simp [h1]⟩
    · ((iterate 24 (first | (refine vE rfl ?_) | ((with_reducible apply vL_val); (case h => ((with_reducible apply opv_loadb1); exact rfl; exact rfl; infer_instance; exact rfl))) | (refine vL_val (opv_fieldAddr rfl) ?_) | ((with_reducible apply vL_val); (case h => ((with_reducible apply opv_len); ((conv => lhs; whnf) <;> exact rfl); infer_instance))) | ((with_reducible apply vL_wanted); exact rfl) | (refine vL_or rfl rfl (fun _ => ?_) (fun h => by omega)))); apply vL_nil; apply seqP_normal; apply vC_ret)
      (apply ret1; (case h1 => (exact norm_eq rfl)))
      exact ⟨by (apply Fr.allocSet; exact Fr.refl _ _), by simp [h1]⟩
theorem g_canR [Lcl R] (S1 : At (GwA qb vp S * R) w0 F0 w) {c : Int} {d : MC} (h0 : 0 ≤ c) (hd : S.ch[c.toNat]? = some d) :
    Rets Tryz.prog 191 #[pt qb, .int .i64 c] w fun u w' => Fr No w w' ∧ u = .bool d.canR := by
  obtain ⟨v, rows, hrows, S2⟩ := gw_open S1
  obtain ⟨r, hr, rfl⟩ := rows_get hrows hd
  have hb := gw_blk S2
  rw [gwL] at hb
  have hch := (gw_ch S2).1.rd
  have hbv := (row_buf hr S2).rd
  have hrv := (row_snd hr S2).rd
  have hlr := (List.getElem?_eq_some_iff.1 hr).1
  obtain ⟨size, ⟨bv, obv⟩, ⟨sv, osv⟩, ⟨rv, orv⟩, closed, buf, snd, rcv⟩ := r
  simp only [] at hbv hrv
  unfold RR.m MC.canR
  dsimp only
  have hs1 := hbv.small
  have hs2 := hrv.small
  refine rets_of Tryz.func191 rfl Tryz.ntmps191 rfl rfl (by kernel_rfl) ?_
  (apply vC_seq; apply vC_region; (refine vE rfl ?_); apply vL_nil; apply seqP_normal; apply vC_seq; apply vC_region; (iterate 2 ((refine vE rfl ?_))); (refine vL_val (opv_fieldAddr rfl) ?_); ((apply vL_val); (case h => ((apply opv_loadb1); exact rfl; exact rfl; assumption; exact rfl))); (refine vE rfl ?_); ((apply vL_val); (case h => ((apply opv_indexAddr); ((conv => lhs; whnf) <;> exact rfl); exact rfl; assumption; (first | omega | (simp only [List.length_map]; omega)); (first | omega | (simp only [List.length_map]; omega))))); ((apply vL_val); (case h => ((apply opv_ld_eln); exact rfl; exact rfl; assumption; assumption))); ((apply vL_val); (case h => (apply opw_alloc))); ((apply vL_skip); (case h => ((apply ops_storen); exact norm_eq rfl; exact norm_eq rfl; exact rfl; exact (fun u hu => EncOk.one _ u hu); infer_instance; (first | decide | exact of_decide_eq_true rfl | (simp; done))))); apply vL_nil; apply seqP_normal; apply vC_seq; apply vC_region; (refine vL_val (opv_fieldAddr rfl) ?_); ((apply vL_val); (case h => ((apply opv_loadb1); exact rfl; exact rfl; infer_instance; exact rfl))); (refine vE rfl ?_))
  cases closed with
  | true =>
    ((iterate 12 (first | (refine vE rfl ?_) | ((with_reducible apply vL_unwanted'); exact rfl; exact rfl))); apply vL_nil; apply seqP_normal; apply vC_ret)
    (apply ret1; (case h1 => (exact norm_eq rfl)))
    exact ⟨by (apply Fr.allocSet; exact Fr.refl _ _), rfl⟩
  | false =>
    by_cases h1 : 0 < buf.length
    · (((apply vL_wanted); exact rfl); (refine vL_val (opv_fieldAddr rfl) ?_); ((apply vL_wanted); exact rfl); ((apply vL_val); (case h => ((apply opv_loadb1); exact rfl; exact rfl; infer_instance; exact rfl))); ((apply vL_wanted); exact rfl); ((apply vL_val); (case h => ((apply opv_len); ((conv => lhs; whnf) <;> exact rfl); infer_instance))); ((apply vL_wanted); exact rfl); (iterate 9 (first | (refine vE rfl ?_) | ((with_reducible apply vL_unwanted'); exact rfl; exact rfl) | (refine vL_or rfl rfl (fun h => by omega) (fun _ => ?_)))); apply vL_nil; apply seqP_normal; apply vC_ret)
      (apply ret1; (case h1 => (exact norm_eq rfl)))
      exact ⟨by (apply Fr.allocSet; exact Fr.refl _ _), by simp [h1]⟩
    · ((iterate 20 (first | (refine vE rfl ?_) | ((with_reducible apply vL_val); (case h => ((with_reducible apply opv_loadb1); exact rfl; exact rfl; infer_instance; exact rfl))) | (refine vL_val (opv_fieldAddr rfl) ?_) | ((with_reducible apply vL_val); (case h => ((with_reducible apply opv_len); ((conv => lhs; whnf) <;> exact rfl); infer_instance))) | ((with_reducible apply vL_wanted); exact rfl) | (refine vL_or rfl rfl (fun _ => ?_) (fun h => by omega)))); apply vL_nil; apply seqP_normal; apply vC_ret)
      (apply ret1; (case h1 => (exact norm_eq rfl)))
      exact ⟨by (apply Fr.allocSet; exact Fr.refl _ _), by simp [h1]⟩
end
end Go.Proofs.YtbaidcnalkdhgaaGreat
set_option maxRecDepth 100000
namespace Go.Proofs.YtbaidcnalkdhgaaGreat
open Go Go.Eng
section
variable {w w0 : World} {F0 : Nat → Prop} {R : Asr} {qb : Nat} {vp : Value} {v : GV} {rows : List RR} {S : MW} {j : Nat} {r : RR}
theorem send_closed {d : MC} {v : Int} (hd : S.ch[j]? = some d) (h : d.closed = true) : S.send j v = (S, false) := by
  unfold MW.send; simp only [hd]; rw [if_pos h]
theorem send_serve {d : MC} {v : Int} {x : Wt} {xs : List Wt} (hd : S.ch[j]? = some d) (h : d.closed = false) (hx : d.rcv = x :: xs) : S.send j v = (S.serve x v true, true) := by
  unfold MW.send; simp only [hd]; rw [if_neg (by rw [h]; simp), hx]
theorem send_push {d : MC} {v : Int} (hd : S.ch[j]? = some d) (h : d.closed = false) (hx : d.rcv = []) : S.send j v = (S.setC j { d with buf := d.buf ++ [v] }, true) := by
  unfold MW.send; simp only [hd]; rw [if_neg (by rw [h]; simp), hx]
theorem g_send [Lcl R] (hgo : GCh S) (S1 : At (GwA qb vp S * R) w0 F0 w) (hp1 : vp.oneCell' = true) {c : Int} {d : MC} (h0 : 0 ≤ c) (hd : S.ch[c.toNat]? = some d) (y : Int) (hl : S.li.length ≤ 1000000) (hbl : d.buf.length ≤ 1000000) :
    Rets Tryz.prog 190 #[pt qb, .int .i64 c, .int .i64 y] w fun u w' => u = .bool (S.send c.toNat y).2 ∧ At (GwA qb vp (S.send c.toNat y).1 * R) w0 F0 w' := by
  obtain ⟨v, rows, hrows, S2⟩ := gw_open S1
  obtain ⟨r, hr, hrm⟩ := rows_get hrows hd
  have hb := gw_blk S2
  rw [gwL] at hb
  have hch := (gw_ch S2).1.rd
  have hrv := (row_rcv hr S2).rd
  have hlr := (List.getElem?_eq_some_iff.1 hr).1
  have hgd := hgo d (List.mem_of_getElem? hd)
  obtain ⟨size, ⟨bv, obv⟩, ⟨sv, osv⟩, ⟨rv, orv⟩, closed, buf, snd, rcv⟩ := r
  obtain rfl : d = ⟨size, buf, snd, rcv, closed⟩ := hrm.symm
  simp only [] at hrv hbl
  have hs2 := hrv.small
  refine rets_of Tryz.func190 rfl Tryz.ntmps190 rfl rfl (by kernel_rfl) ?_
  ((iterate 22 (first | with_reducible apply vC_seq | with_reducible apply vC_region | with_reducible apply seqP_normal | (refine vE rfl ?_) | ((with_reducible apply vL_val); (case h => ((with_reducible apply opv_loadb1); exact rfl; exact rfl; assumption; exact rfl))) | (refine vL_val (opv_fieldAddr rfl) ?_) | ((with_reducible apply vL_val); (case h => ((with_reducible apply opv_indexAddr); ((conv => lhs; whnf) <;> exact rfl); exact rfl; assumption; (first | omega | (simp only [List.length_map]; omega)); (first | omega | (simp only [List.length_map]; omega))))) | with_reducible apply vL_nil)); ((apply vL_val); (case h => ((apply opv_ld_el); exact rfl; exact rfl; assumption; assumption; exact rfl))); apply vL_nil; apply seqP_normal)
  cases closed with
  | true =>
    rw [send_closed hd rfl]
    (((apply vC_cond_true); exact rfl); apply vC_seq; apply vC_region; (refine vE rfl ?_); apply vL_nil; apply seqP_normal; apply vC_ret; apply seqP_ret)
    (apply ret1; (case h1 => (exact norm_eq rfl)))
    exact ⟨rfl, S1⟩
  | false =>
    cases rcv with
    | cons x xs =>
      rw [send_serve hd rfl rfl]
      have hx0 : (x :: xs)[(0 : Int).toNat]? = some x := rfl
      have hlx : (x :: xs).length = xs.length + 1 := rfl
      (((apply vC_cond_false); exact rfl); apply vC_skip; apply seqP_normal; (iterate 2 (apply vC_seq)); apply vC_region; (iterate 2 ((refine vE rfl ?_))); (refine vL_val (opv_fieldAddr rfl) ?_); ((apply vL_val); (case h => ((apply opv_ld_el); exact rfl; exact rfl; assumption; assumption; exact rfl))); ((apply vL_val); (case h => ((apply opv_len); ((conv => lhs; whnf) <;> exact rfl); assumption))); (refine vE rfl ?_); apply vL_nil; apply seqP_normal; (refine vC_cond_dec rfl (fun _ => ?_) (fun h => by omega)); apply vC_seq; apply vC_region; (iterate 3 ((refine vE rfl ?_))); (refine vL_val (opv_fieldAddr rfl) ?_); ((apply vL_val); (case h => ((apply opv_ld_el); exact rfl; exact rfl; assumption; assumption; exact rfl))); ((apply vL_val); (case h => ((apply opv_indexAddr); ((conv => lhs; whnf) <;> exact rfl); exact rfl; assumption; (first | omega | (simp only [List.length_map]; omega)); (first | omega | (simp only [List.length_map]; omega))))); ((apply vL_val); (case h => ((apply opv_ld_eln); exact rfl; exact rfl; assumption; assumption))); (refine vE rfl ?_))
      refine vL_callF rfl (g_serve hgo S1 hp1 x (hgd.2.2 x List.mem_cons_self) y true hl) rfl ?_
      intro _ w3 S3
      (apply vL_nil; apply seqP_normal; apply vC_seq; apply vC_region; (refine vE rfl ?_); apply vL_nil; apply seqP_normal; apply vC_ret; apply seqP_ret)
      (apply ret1; (case h1 => (exact norm_eq rfl)))
      exact ⟨rfl, S3⟩
    | nil =>
      rw [send_push hd rfl rfl]
      have hl0 : ([] : List Wt).length = 0 := rfl
      have S3 := gw_row hr S2
      simp only [] at S3
      (((apply vC_cond_false); exact rfl); apply vC_skip; apply seqP_normal; (iterate 2 (apply vC_seq)); apply vC_region; (iterate 2 ((refine vE rfl ?_))); (refine vL_val (opv_fieldAddr rfl) ?_); ((apply vL_val); (case h => ((apply opv_ld_el); exact rfl; exact rfl; assumption; assumption; exact rfl))); ((apply vL_val); (case h => ((apply opv_len); ((conv => lhs; whnf) <;> exact rfl); assumption))); (refine vE rfl ?_); apply vL_nil; apply seqP_normal; ((apply vC_cond_false); exact rfl); apply vC_skip; apply seqP_normal; apply vC_seq; apply vC_region; (iterate 3 ((refine vE rfl ?_))); (refine vL_val (opv_fieldAddr rfl) ?_); ((apply vL_val); (case h => ((apply opv_ld_el); exact rfl; exact rfl; assumption; assumption; exact rfl))); (refine vE rfl ?_); ((apply vL_val); (case h => ((apply opw_buildSl); exact rfl; exact rfl; exact rfl; exact (rfl : _ = some [_])))))
      have oR5 := (S3).own.1
      refine vL_append (enc := iE) (xs := buf) (ys := [y]) (T := 3) (sz := 1) (by (((conv => lhs; whnf) <;> exact rfl))) (by (exact norm_eq rfl)) (Own.alloc oR5) (Rd.new1 _ _ rfl) rfl (by decide) ?_ ?_ ?_
      · simp [maxLen]; omega
      · simp; omega
      intro v5 w5 ho5 hf5 hfr5 hone5 _
      have hfa5 : Fr (fun j => own bv = some j) w w5 := ((Fr.refl _ w).alloc _).trans' hf5 (fun i hi => .inl hi)
      have SR5 := (S3).owTo hfa5 ho5 hone5 (fun k hk => (hfr5 k hk).imp (fun h => h) (fun h => by rw [alloc_size] at h; omega))
      have S6 := SR5.ac (show _ = GwP qb vp v rows S * (Ow 3 1 iE v5 (buf ++ [y]) * (Ow 271 4 wtE sv snd * (Ow 271 4 wtE rv [] * (Big ((rows.eraseIdx c.toNat).map RrA) * R)))) by ac_rfl)
      ((refine vE rfl ?_); (refine vL_val (opv_fieldAddr rfl) ?_))
      refine vL_storeElF (enc := rrE) (xs := rows) (i := c) (x0 := ⟨size, ⟨bv, obv⟩, ⟨sv, osv⟩, ⟨rv, orv⟩, false, buf, snd, []⟩) ⟨size, ⟨v5, hone5⟩, ⟨sv, osv⟩, ⟨rv, orv⟩, false, buf ++ [y], snd, []⟩ rfl rfl hr rfl hone5 (by decide) (gw_ch S6).1 ?_
      intro w6 ho6 hf6
      have S7 := gw_rows S6 hf6 ho6
      have S8 := gw_unrow (qb := qb) (vp := vp) (v := v) (S := S) (R := R) (r' := ⟨size, ⟨v5, hone5⟩, ⟨sv, osv⟩, ⟨rv, orv⟩, false, buf ++ [y], snd, []⟩) hlr (S7.ac (by dsimp only; ac_rfl))
      (apply vL_nil; apply seqP_normal; apply vC_seq; apply vC_region; (refine vE rfl ?_); apply vL_nil; apply seqP_normal; apply vC_ret)
      (apply ret1; (case h1 => (exact norm_eq rfl)))
      exact ⟨rfl, gw_shut (rows_set hrows rfl) S8⟩
end
end Go.Proofs.YtbaidcnalkdhgaaGreat
