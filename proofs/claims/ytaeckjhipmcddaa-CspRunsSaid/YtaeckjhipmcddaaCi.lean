/- Layer 15: the law's world. -/
import Derived.Test.YtaeckjhipmcddaaCh
set_option maxRecDepth 100000
namespace Go.Proofs.Ytaeckjhipmcddaa
open Go Go.Eng
def eE (q : Int × Int × Int) : List Value := [.int .i64 q.1, .int .i64 q.2.1, .int .i64 q.2.2]
instance encE : EncOk eE 3 := ⟨by intro x u h; simp [eE] at h; rcases h with rfl | rfl | rfl <;> rfl, fun _ => rfl⟩
def LZ (X K : Nat → Prop) (wb : Nat) (wt we : Value) (k : Nat) : Prop := X k ∨ K k ∨ k = wb ∨ own wt = some k ∨ own we = some k
/-- what is frozen afterwards: what was, and new things -/
def KX (w : World) (K K' : Nat → Prop) : Prop := (∀ k, K k → K' k) ∧ ∀ k, K' k → K k ∨ w.heap.size ≤ k
theorem KX.refl (w : World) (K : Nat → Prop) : KX w K K := ⟨fun _ h => h, fun _ h => .inl h⟩
theorem KX.trans {w w' : World} {K K' K'' : Nat → Prop} (h : KX w K K') (k : KX w' K' K'') (hs : w.heap.size ≤ w'.heap.size) : KX w K K'' := ⟨fun b hb => k.1 b (h.1 b hb), fun b hb => by
  rcases k.2 b hb with h1 | h1
  · exact h.2 b h1
  · exact .inr (Nat.le_trans hs h1)⟩
def LF (X K : Nat → Prop) (k : Nat) : Prop := ¬ X k ∧ ¬ K k
/-- the law's world and its runtime; X: what is foreign to it; K: what it has made and no longer changes -/
structure Lw (X K : Nat → Prop) (w : World) (wb rb sb qb : Nat) (lv tv wt we vp : Value) (now : Option Nat) (rest : Int) (ready : List Int) (ts : List (Nat × TK)) (ev : List (Int × Int × Int)) : Prop where
  hw : Blk w.heap wb [.pointer (some ⟨rb, 0, none⟩), vp, wt, we] 60
  hwt : Own w.heap 64 1 ptE wt (ts.map (·.1))
  hev : Own w.heap 62 3 eE we ev
  rt : Rt (LZ X K wb wt we) w rb sb qb lv tv now rest ready ts
  ow : wt.oneCell' = true
  oe : we.oneCell' = true
  op : vp.oneCell' = true
  zx : ∀ k, (k = wb ∨ own wt = some k ∨ own we = some k) → ¬ X k ∧ ¬ K k
section
variable {X K K' : Nat → Prop} {w w' : World} {wb rb sb qb : Nat} {lv tv wt we vp : Value} {now : Option Nat} {rest : Int} {ready : List Int} {ts : List (Nat × TK)} {ev : List (Int × Int × Int)}
/-- a call of the runtime's -/
theorem Lw.call {sb' qb' : Nat} {lv' tv' : Value} {now' : Option Nat} {rest' : Int} {ready' : List Int} {ts' : List (Nat × TK)} (s : Lw X K w wb rb sb qb lv tv wt we vp now rest ready ts ev) (hf : Fr (fun k => ¬ LZ X K wb wt we k) w w') (hK : ∀ k, K' k → K k ∨ w.heap.size ≤ k)
    (h : Rt (LZ X K' wb wt we) w' rb sb' qb' lv' tv' now' rest' ready' ts') (hts : ts'.map (·.1) = ts.map (·.1)) : Lw X K' w' wb rb sb' qb' lv' tv' wt we vp now' rest' ready' ts' ev ∧ Fr (LF X K) w w' := by
  refine ⟨⟨s.hw.fr hf (fun h => h (.inr (.inr (.inl rfl)))), ?_, s.hev.fr hf (fun b hb h => h (.inr (.inr (.inr (.inr hb))))), h, s.ow, s.oe, s.op, fun k hk => ⟨(s.zx k hk).1, fun h' => ?_⟩⟩, hf.mono (fun k _ hk => ⟨fun h => hk (.inl h), fun h => hk (.inr (.inl h))⟩)⟩
  · rw [hts]
    exact s.hwt.fr hf (fun b hb h => h (.inr (.inr (.inr (.inl hb)))))
  · rcases hK k h' with h1 | h1
    · exact (s.zx k hk).2 h1
    · rcases hk with rfl | hk | hk
      · have := s.hw.lt; omega
      · have := s.hwt.lt k hk; omega
      · have := s.hev.lt k hk; omega
/-- boxes are made -/
theorem Lw.box (s : Lw X K w wb rb sb qb lv tv wt we vp now rest ready ts ev) (hf : Fr No w w') (hK : ∀ k, K' k → K k ∨ (w.heap.size ≤ k ∧ k < w'.heap.size)) : Lw X K' w' wb rb sb qb lv tv wt we vp now rest ready ts ev := by
  have h : Rt (LZ X K' wb wt we) w' rb sb qb lv tv now rest ready ts := s.rt.fr hf.no_any (fun k hk => by
    rcases hk with h | h | h
    · exact ⟨Nat.lt_of_lt_of_le (s.rt.zs k (.inl h)) hf.size, .inl (.inl h)⟩
    · rcases hK k h with h1 | h1
      · exact ⟨Nat.lt_of_lt_of_le (s.rt.zs k (.inr (.inl h1))) hf.size, .inl (.inr (.inl h1))⟩
      · exact ⟨h1.2, .inr h1.1⟩
    · exact ⟨Nat.lt_of_lt_of_le (s.rt.zs k (.inr (.inr h))) hf.size, .inl (.inr (.inr h))⟩)
  exact (s.call hf.no_any (fun k hk => (hK k hk).imp id (·.1)) h rfl).1
/-- what others do -/
theorem Lw.other {X' : Nat → Prop} (s : Lw X K w wb rb sb qb lv tv wt we vp now rest ready ts ev) (hf : Fr X w w') (hX : ∀ k, X' k → k < w'.heap.size ∧ (X k ∨ w.heap.size ≤ k)) : Lw X' K w' wb rb sb qb lv tv wt we vp now rest ready ts ev := by
  have hlt : ∀ k, (k = wb ∨ own wt = some k ∨ own we = some k) → k < w.heap.size := fun k hk => s.rt.zs k (.inr (.inr hk))
  refine ⟨s.hw.fr hf (s.zx wb (.inl rfl)).1, s.hwt.fr hf (fun b hb => (s.zx b (.inr (.inl hb))).1), s.hev.fr hf (fun b hb => (s.zx b (.inr (.inr hb))).1), s.rt.fr (hf.mono (fun k _ h => .inl h)) (fun k hk => ?_), s.ow, s.oe, s.op, fun k hk => ⟨fun h => ?_, (s.zx k hk).2⟩⟩
  · rcases hk with h | h | h
    · exact ⟨(hX k h).1, (hX k h).2.imp .inl id⟩
    · exact ⟨Nat.lt_of_lt_of_le (s.rt.zs k (.inr (.inl h))) hf.size, .inl (.inr (.inl h))⟩
    · exact ⟨Nat.lt_of_lt_of_le (s.rt.zs k (.inr (.inr h))) hf.size, .inl (.inr (.inr h))⟩
  · rcases (hX k h).2 with h1 | h1
    · exact (s.zx k hk).1 h1
    · have := hlt k hk; omega
theorem Lw.frN (s : Lw X K w wb rb sb qb lv tv wt we vp now rest ready ts ev) (hf : Fr No w w') : Lw X K w' wb rb sb qb lv tv wt we vp now rest ready ts ev := s.box hf (fun k hk => .inl hk)
/-- one event more -/
theorem Lw.noted {we' : Value} {ev' : List (Int × Int × Int)} (s : Lw X K w wb rb sb qb lv tv wt we vp now rest ready ts ev) (hf : Fr (fun k => k = wb ∨ own we = some k) w w') (hw : Blk w'.heap wb [.pointer (some ⟨rb, 0, none⟩), vp, wt, we'] 60) (ho : Own w'.heap 62 3 eE we' ev')
    (hl : ∀ k, own we' = some k → own we = some k ∨ w.heap.size ≤ k) (hone : we'.oneCell' = true) : Lw X K w' wb rb sb qb lv tv wt we' vp now rest ready ts ev' ∧ Fr (LF X K) w w' := by
  have hfz : Fr (LZ X K wb wt we) w w' := hf.mono (fun k _ h => by rcases h with h | h; exact .inr (.inr (.inl h)); exact .inr (.inr (.inr (.inr h))))
  refine ⟨⟨hw, s.hwt.fr hf (fun b hb h => ?_), ho, s.rt.fr hfz (fun k hk => ?_), s.ow, hone, s.op, fun k hk => ?_⟩, hf.mono (fun k _ h => ?_)⟩
  · rcases h with h | h
    · exact Own.ne_blk s.hwt s.hw (by decide) (h ▸ hb)
    · exact Own.ne_own s.hwt s.hev (by decide) b hb h
  · rcases hk with h | h | h | h | h
    · exact ⟨Nat.lt_of_lt_of_le (s.rt.zs k (.inl h)) hf.size, .inl (.inl h)⟩
    · exact ⟨Nat.lt_of_lt_of_le (s.rt.zs k (.inr (.inl h))) hf.size, .inl (.inr (.inl h))⟩
    · exact ⟨Nat.lt_of_lt_of_le (s.rt.zs k (.inr (.inr (.inl h)))) hf.size, .inl (.inr (.inr (.inl h)))⟩
    · exact ⟨Nat.lt_of_lt_of_le (s.rt.zs k (.inr (.inr (.inr (.inl h))))) hf.size, .inl (.inr (.inr (.inr (.inl h))))⟩
    · exact ⟨ho.lt k h, (hl k h).imp (fun h => .inr (.inr (.inr (.inr h)))) id⟩
  · rcases hk with h | h | h
    · exact s.zx k (.inl h)
    · exact s.zx k (.inr (.inl h))
    · rcases hl k h with h1 | h1
      · exact s.zx k (.inr (.inr h1))
      · exact ⟨fun hx => by have := s.rt.zs k (.inl hx); omega, fun hx => by have := s.rt.zs k (.inr (.inl hx)); omega⟩
  · rcases h with h | h
    · exact s.zx k (.inl h)
    · exact s.zx k (.inr (.inr h))
theorem w_note (s : Lw X K w wb rb sb qb lv tv wt we vp now rest ready ts ev) (a b c : Int) (hl : ev.length ≤ 1000000) :
    Rets Try.prog 83 #[.pointer (some ⟨wb, 0, none⟩), .int .i64 a, .int .i64 b, .int .i64 c] w fun u w' => ∃ we', Lw X K w' wb rb sb qb lv tv wt we' vp now rest ready ts (ev ++ [(a, b, c)]) ∧ Fr (LF X K) w w' := by
  have hw := s.hw
  have hev := s.hev
  have h1 := s.ow
  have h2 := s.oe
  have h3 := s.op
  refine rets_of Try.func83 rfl Try.ntmps83 rfl rfl (by kernel_rfl) ?_
  (apply vC_region; (iterate 3 (((apply vL_val); (case h => ((apply opv_E); exact rfl))))); ((apply vL_val); (case h => ((apply opv_fieldAddr); exact rfl))); ((apply vL_val); (case h => ((apply opv_loadb1); exact rfl; exact rfl; (first | assumption | infer_instance); exact rfl))); (iterate 3 (((apply vL_val); (case h => ((apply opv_E); exact rfl))))); ((apply vL_val); (case h => ((apply opv_buildS); exact rfl; (first | exact (rfl : _ = some []) | exact (rfl : _ = some [_]) | exact (rfl : _ = some [_, _]) | exact (rfl : _ = some [_, _, _]) | exact (rfl : _ = some [_, _, _, _]) | exact (rfl : _ = some [_, _, _, _, _]) | exact (rfl : _ = some [_, _, _, _, _, _]) | exact (rfl : _ = some [_, _, _, _, _, _, _]) | exact (rfl : _ = some [_, _, _, _, _, _, _, _]) | exact (rfl : _ = some [_, _, _, _, _, _, _, _, _]) | exact (rfl : _ = some [_, _, _, _, _, _, _, _, _, _]) | exact (rfl : _ = some [_, _, _, _, _, _, _, _, _, _, _]) | exact (rfl : _ = some [_, _, _, _, _, _, _, _, _, _, _, _]) | exact (rfl : _ = some [_, _, _, _, _, _, _, _, _, _, _, _, _]) | exact (rfl : _ = some [_, _, _, _, _, _, _, _, _, _, _, _, _, _]) | exact (rfl : _ = some [_, _, _, _, _, _, _, _, _, _, _, _, _, _, _]) | exact (rfl : _ = some [_, _, _, _, _, _, _, _, _, _, _, _, _, _, _, _]))))); ((apply vL_val); (case h => ((apply opw_buildSl); exact rfl; exact rfl; exact rfl; (first | exact (rfl : _ = some []) | exact (rfl : _ = some [_]) | exact (rfl : _ = some [_, _]) | exact (rfl : _ = some [_, _, _]) | exact (rfl : _ = some [_, _, _, _]) | exact (rfl : _ = some [_, _, _, _, _]) | exact (rfl : _ = some [_, _, _, _, _, _]) | exact (rfl : _ = some [_, _, _, _, _, _, _]) | exact (rfl : _ = some [_, _, _, _, _, _, _, _]) | exact (rfl : _ = some [_, _, _, _, _, _, _, _, _]) | exact (rfl : _ = some [_, _, _, _, _, _, _, _, _, _]) | exact (rfl : _ = some [_, _, _, _, _, _, _, _, _, _, _]) | exact (rfl : _ = some [_, _, _, _, _, _, _, _, _, _, _, _]) | exact (rfl : _ = some [_, _, _, _, _, _, _, _, _, _, _, _, _]) | exact (rfl : _ = some [_, _, _, _, _, _, _, _, _, _, _, _, _, _]) | exact (rfl : _ = some [_, _, _, _, _, _, _, _, _, _, _, _, _, _, _]) | exact (rfl : _ = some [_, _, _, _, _, _, _, _, _, _, _, _, _, _, _, _]))))))
  refine vL_append (enc := eE) (xs := ev) (ys := [(a, b, c)]) (T := 62) (sz := 3) (by (first | exact norm_eq rfl | ((conv => lhs; whnf) <;> exact rfl))) (by (first | exact norm_eq rfl | ((conv => lhs; whnf) <;> exact rfl))) (Own.alloc hev) (Rd.new1 _ _ rfl) rfl (by decide) ?_ ?_ ?_
  · simp [maxLen]; omega
  · simp; omega
  intro we' w1 ho1 hf1 hfr1 hone1 _
  have hfa : Fr (fun j => own we = some j) w w1 := ((Fr.refl _ w).alloc _).trans' hf1 (fun i hi => .inl hi)
  have hw1 := hw.fr hfa (fun h => Own.ne_blk hev hw (by decide) h)
  (((apply vL_val); (case h => ((apply opv_E); exact rfl))); ((apply vL_val); (case h => ((apply opv_fieldAddr); exact rfl))); ((apply vL_skip); (case h => ((apply ops_store1); (first | exact norm_eq rfl | ((conv => lhs; whnf) <;> exact rfl)); (first | exact norm_eq rfl | ((conv => lhs; whnf) <;> exact rfl)); (first | rfl | assumption); (first | assumption | infer_instance); (first | decide | exact of_decide_eq_true rfl | (simp; done))))); apply vL_nil)
  (first | apply ret0 | apply ret0n)
  exact ⟨we', s.noted (hfa.mono (fun k _ h => .inr h) |>.set _ _ (.inl (.inl rfl))) (show Blk _ wb [.pointer (some ⟨rb, 0, none⟩), vp, wt, we'] 60 from inferInstance) (ho1.set (Own.ne_blk ho1 hw1 (by decide))) (fun k hk => (hfr1 k hk).imp id (fun h => by rw [alloc_size] at h; omega)) hone1⟩
end
end Go.Proofs.Ytaeckjhipmcddaa
