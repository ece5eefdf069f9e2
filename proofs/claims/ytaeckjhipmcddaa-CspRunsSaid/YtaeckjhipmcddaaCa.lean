/- Layer 15: a runtime's state. -/
import Derived.Test.YtaeckjhipmcddaaSc
set_option maxRecDepth 100000
namespace Go.Proofs.Ytaeckjhipmcddaa
open Go Go.Eng
/-- a task's record, but for its number and its runtime -/
structure TK where
  next : OV
  wake : OV
  said : Bool
  parked : Bool
  over : Bool
def tkL (rb : Nat) (i : Int) (x : TK) : List Value := [.pointer (some ⟨rb, 0, none⟩), .int .i64 i, x.next.1, x.wake.1, .bool x.said, .bool x.parked, .bool x.over]
def ptE (b : Nat) : List Value := [.pointer (some ⟨b, 0, none⟩)]
instance encPt : EncOk ptE 1 := ⟨by intro x u h; simp [ptE] at h; subst h; rfl, fun _ => rfl⟩
def nowV : Option Nat → Value
  | none => .pointer none
  | some b => .pointer (some ⟨b, 0, none⟩)
/-- the blocks that a runtime may change -/
def RtB (rb sb qb : Nat) (lv tv : Value) (ts : List (Nat × TK)) (k : Nat) : Prop := k = rb ∨ k = sb ∨ k = qb ∨ own lv = some k ∨ own tv = some k ∨ ∃ x ∈ ts, k = x.1
/-- a runtime; Z: what is not its own -/
structure Rt (Z : Nat → Prop) (w : World) (rb sb qb : Nat) (lv tv : Value) (now : Option Nat) (rest : Int) (ready : List Int) (ts : List (Nat × TK)) : Prop where
  hr : Blk w.heap rb [.pointer (some ⟨sb, 0, none⟩), tv, nowV now, .int .u64 rest] 82
  sc : Sc w sb qb lv ready
  ht : Own w.heap 64 1 ptE tv (ts.map (·.1))
  tk : ∀ (i : Nat) x, ts[i]? = some x → Blk w.heap x.1 (tkL rb i x.2) 75
  one : tv.oneCell' = true
  hn : ∀ b, now = some b → b ∈ ts.map (·.1)
  zs : ∀ k, Z k → k < w.heap.size
  zn : ∀ k, RtB rb sb qb lv tv ts k → ¬ Z k
section
variable {Z Z' : Nat → Prop} {w w' : World} {rb sb qb : Nat} {lv tv : Value} {now : Option Nat} {rest : Int} {ready : List Int} {ts : List (Nat × TK)}
theorem Rt.lt (s : Rt Z w rb sb qb lv tv now rest ready ts) : ∀ k, RtB rb sb qb lv tv ts k → k < w.heap.size := fun k hk => by
  rcases hk with rfl | rfl | rfl | h | h | ⟨x, hx, rfl⟩
  · exact s.hr.lt
  · exact s.sc.hs.lt
  · exact s.sc.hb.lt
  · exact s.sc.ho.lt k h
  · exact s.ht.lt k h
  · obtain ⟨i, hi, rfl⟩ := List.getElem_of_mem hx
    exact (s.tk i _ (List.getElem?_eq_getElem hi)).lt
/-- what others do -/
theorem Rt.fr (s : Rt Z w rb sb qb lv tv now rest ready ts) (hf : Fr Z w w') (hz : ∀ k, Z' k → k < w'.heap.size ∧ (Z k ∨ w.heap.size ≤ k)) : Rt Z' w' rb sb qb lv tv now rest ready ts :=
  ⟨s.hr.fr hf (s.zn _ (.inl rfl)), ⟨s.sc.hs.fr hf (s.zn _ (.inr (.inl rfl))), s.sc.hb.fr hf (s.zn _ (.inr (.inr (.inl rfl)))), s.sc.ho.fr hf (fun b hb => s.zn _ (.inr (.inr (.inr (.inl hb))))), s.sc.one⟩,
    s.ht.fr hf (fun b hb => s.zn _ (.inr (.inr (.inr (.inr (.inl hb)))))), fun i x hx => (s.tk i x hx).fr hf (s.zn _ (.inr (.inr (.inr (.inr (.inr ⟨x, List.mem_of_getElem? hx, rfl⟩)))))), s.one, s.hn, fun k hk => (hz k hk).1, fun k hk hz' => by
      rcases (hz k hz').2 with h | h
      · exact s.zn k hk h
      · have := s.lt k hk; omega⟩
theorem Rt.frN (s : Rt Z w rb sb qb lv tv now rest ready ts) (hf : Fr No w w') : Rt Z w' rb sb qb lv tv now rest ready ts := s.fr hf.no_any (fun k hk => ⟨Nat.lt_of_lt_of_le (s.zs k hk) hf.size, .inl hk⟩)
/-- Z may be less, and more of what is new -/
theorem Rt.re (s : Rt Z w rb sb qb lv tv now rest ready ts) (hz : ∀ k, Z' k → Z k) : Rt Z' w rb sb qb lv tv now rest ready ts := s.fr (Fr.refl _ _) (fun k hk => ⟨s.zs k (hz k hk), .inl (hz k hk)⟩)
/-- the line's own calls -/
theorem Rt.line {lv' : Value} {ready' : List Int} (s : Rt Z w rb sb qb lv tv now rest ready ts) (h : ScTo w w' sb qb lv lv' ready') : Rt Z w' rb sb qb lv' tv now rest ready' ts ∧ Fr (fun k => ¬ Z k) w w' := by
  have hr : ¬ (rb = qb ∨ own lv = some rb) := fun h => by
    rcases h with h | h
    · exact Blk.ne_type s.hr s.sc.hb (by decide) h
    · exact Own.ne_blk s.sc.ho s.hr (by decide) h
  refine ⟨⟨s.hr.fr h.fr hr, h.sc, s.ht.fr h.fr (fun b hb h' => ?_), fun i x hx => (s.tk i x hx).fr h.fr (fun h' => ?_), s.one, s.hn, fun k hk => Nat.lt_of_lt_of_le (s.zs k hk) h.fr.size, fun k hk hz => ?_⟩, h.fr.mono (fun k _ hk => ?_)⟩
  · rcases h' with rfl | h'
    · exact Own.ne_blk s.ht s.sc.hb (by decide) hb
    · exact Own.ne_own s.ht s.sc.ho (by decide) b hb h'
  · rcases h' with h' | h'
    · exact Blk.ne_type (s.tk i x hx) s.sc.hb (by decide) h'
    · exact Own.ne_blk s.sc.ho (s.tk i x hx) (by decide) h'
  · rcases hk with rfl | rfl | rfl | h1 | h1 | ⟨x, hx, rfl⟩
    · exact s.zn _ (.inl rfl) hz
    · exact s.zn _ (.inr (.inl rfl)) hz
    · exact s.zn _ (.inr (.inr (.inl rfl))) hz
    · rcases h.fl k h1 with h2 | h2
      · exact s.zn _ (.inr (.inr (.inr (.inl h2)))) hz
      · have := s.zs k hz; omega
    · exact s.zn _ (.inr (.inr (.inr (.inr (.inl h1))))) hz
    · exact s.zn _ (.inr (.inr (.inr (.inr (.inr ⟨x, hx, rfl⟩))))) hz
  · rcases hk with rfl | h1
    · exact s.zn _ (.inr (.inr (.inl rfl)))
    · exact s.zn _ (.inr (.inr (.inr (.inl h1))))
theorem Rt.inj (s : Rt Z w rb sb qb lv tv now rest ready ts) {i j : Nat} {x y} (hx : ts[i]? = some x) (hy : ts[j]? = some y) (h : x.1 = y.1) : i = j := by
  have h1 := s.tk i x hx
  have h2 := s.tk j y hy
  rw [h] at h1
  have h3 := (h1.inj h2).1
  simp only [tkL, List.cons.injEq, Value.int.injEq, true_and] at h3
  exact Int.ofNat.inj h3.1
theorem set_fst {α β : Type} {l : List (α × β)} {i : Nat} {x : α × β} {y : β} (h : l[i]? = some x) : (l.set i (x.1, y)).map (·.1) = l.map (·.1) := by
  rw [List.map_set]
  apply List.ext_getElem?
  intro j
  rw [List.getElem?_set]
  split
  · rename_i e; subst e
    rw [List.getElem?_map, h]
    split
    · rfl
    · rename_i hh
      rw [List.length_map] at hh
      exact absurd (List.getElem?_eq_some_iff.1 h).1 hh
  · rfl
/-- a task's record changes -/
theorem Rt.task {i : Nat} {x : Nat × TK} {y : TK} (s : Rt Z w rb sb qb lv tv now rest ready ts) (hx : ts[i]? = some x) (hf : Fr (fun k => k = x.1) w w') (hb : Blk w'.heap x.1 (tkL rb i y) 75) : Rt Z w' rb sb qb lv tv now rest ready (ts.set i (x.1, y)) ∧ Fr (fun k => ¬ Z k) w w' := by
  have hB := s.tk i x hx
  have hi := (List.getElem?_eq_some_iff.1 hx).1
  have hzx : ¬ Z x.1 := s.zn _ (.inr (.inr (.inr (.inr (.inr ⟨x, List.mem_of_getElem? hx, rfl⟩)))))
  refine ⟨⟨s.hr.fr hf (Blk.ne_type s.hr hB (by decide)), ⟨s.sc.hs.fr hf (Blk.ne_type s.sc.hs hB (by decide)), s.sc.hb.fr hf (Blk.ne_type s.sc.hb hB (by decide)), s.sc.ho.fr hf (fun b hb' h => Own.ne_blk s.sc.ho hB (by decide) (h ▸ hb')), s.sc.one⟩, ?_, fun j z hz => ?_, s.one, fun b hb => by rw [set_fst hx]; exact s.hn b hb, fun k hk => Nat.lt_of_lt_of_le (s.zs k hk) hf.size, fun k hk => ?_⟩, hf.mono (fun k _ hk => by rw [hk]; exact hzx)⟩
  · rw [set_fst hx]
    exact s.ht.fr hf (fun b hb' h => Own.ne_blk s.ht hB (by decide) (h ▸ hb'))
  · rw [List.getElem?_set] at hz
    by_cases e : i = j
    · subst e; rw [if_pos rfl, if_pos hi] at hz; cases hz; exact hb
    · rw [if_neg e] at hz
      exact (s.tk j z hz).fr hf (fun h => e (s.inj hx hz h.symm))
  · rcases hk with h1 | h1 | h1 | h1 | h1 | ⟨z, hz, rfl⟩
    · exact s.zn _ (.inl h1)
    · exact s.zn _ (.inr (.inl h1))
    · exact s.zn _ (.inr (.inr (.inl h1)))
    · exact s.zn _ (.inr (.inr (.inr (.inl h1))))
    · exact s.zn _ (.inr (.inr (.inr (.inr (.inl h1)))))
    · rcases List.mem_or_eq_of_mem_set hz with h2 | rfl
      · exact s.zn _ (.inr (.inr (.inr (.inr (.inr ⟨z, h2, rfl⟩)))))
      · exact hzx
/-- the runtime's own record changes -/
theorem Rt.self {now' : Option Nat} {rest' : Int} (s : Rt Z w rb sb qb lv tv now rest ready ts) (hn : ∀ b, now' = some b → b ∈ ts.map (·.1)) (hf : Fr (fun k => k = rb) w w') (hb : Blk w'.heap rb [.pointer (some ⟨sb, 0, none⟩), tv, nowV now', .int .u64 rest'] 82) : Rt Z w' rb sb qb lv tv now' rest' ready ts ∧ Fr (fun k => ¬ Z k) w w' :=
  ⟨⟨hb, ⟨s.sc.hs.fr hf (Blk.ne_type s.sc.hs s.hr (by decide)), s.sc.hb.fr hf (Blk.ne_type s.sc.hb s.hr (by decide)), s.sc.ho.fr hf (fun b hb' h => Own.ne_blk s.sc.ho s.hr (by decide) (h ▸ hb')), s.sc.one⟩, s.ht.fr hf (fun b hb' h => Own.ne_blk s.ht s.hr (by decide) (h ▸ hb')), fun i x hx => (s.tk i x hx).fr hf (Blk.ne_type (s.tk i x hx) s.hr (by decide)), s.one, hn, fun k hk => Nat.lt_of_lt_of_le (s.zs k hk) hf.size, s.zn⟩, hf.mono (fun k _ hk => by rw [hk]; exact s.zn _ (.inl rfl))⟩
end
end Go.Proofs.Ytaeckjhipmcddaa
