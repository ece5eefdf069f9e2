/- Layer 27: Range. -/
import Derived.Test.YtfceebbkjogedaaAc
set_option maxRecDepth 100000
namespace Go.Proofs.Ytfceebbkjogedaa
open Go Go.Eng
theorem index_str (v : Value) (xs : List ByteArray) (y : ByteArray) (w : World) (hr : Rd w.heap 1 sE v xs) :
    Rets Try.prog 91 #[v, .string y] w fun u w' => w = w' ∧ ((u = .int .i64 (-1) ∧ y ∉ xs) ∨ ∃ k : Nat, u = .int .i64 k ∧ k < xs.length ∧ xs[k]? = some y) := by
  have hs := hr.small
  refine rets_of Try.func91 rfl Try.ntmps91 rfl rfl (by kernel_rfl) ?_
  (apply vC_seq; apply vC_region; ((apply vL_val); (case h => ((apply opv_E); exact rfl))); apply vL_nil; apply seqP_normal; (iterate 2 (apply vC_seq)); apply vC_region; ((apply vL_val); (case h => ((apply opv_move); ((conv => lhs; whnf) <;> exact rfl)))); ((apply vL_val); (case h => ((apply opv_len); (first | exact norm_eq rfl | ((conv => lhs; whnf) <;> exact rfl)); (first | assumption | infer_instance)))); ((apply vL_val); (case h => ((apply opv_E); exact rfl))); apply vL_nil; apply seqP_normal; apply vC_block)
  (apply vC_loop1 524080 8 (fun u w' => ∃ k : Nat, u = .int .i64 k ∧ k ≤ xs.length ∧ w = w' ∧ ∀ j : Nat, j < k → ∀ x, xs[j]? = some x → x ≠ y) (fun u _ => xs.length - (RowKit.intOf u).toNat)); (case h1 => (first | exact norm_eq rfl | ((conv => lhs; whnf) <;> exact rfl)))
  case h0 => exact ⟨0, rfl, by omega, rfl, by omega⟩
  case round =>
  rintro junk _ _ ⟨k, rfl, hk, rfl, hp⟩
  (apply vC_seq; apply vC_region; ((apply vL_val); (case h => ((apply opv_E); exact rfl))); apply vL_nil; apply seqP_normal; apply vC_seq)
  refine vC_cond_dec rfl (fun h => ?_) (fun h => ?_)
  · have hk' : k < xs.length := by omega
    obtain ⟨x, hx⟩ : ∃ x, xs[k]? = some x := ⟨xs[k], by simp [hk']⟩
    (apply vC_skip; apply seqP_normal; apply vC_seq; apply vC_block; apply vC_seq; apply vC_region; (iterate 2 (((apply vL_val); (case h => ((apply opv_E); exact rfl))))); apply vL_nil; apply seqP_normal; apply vC_seq; apply vC_region; ((apply vL_val); (case h => ((apply opv_E); exact rfl))); ((apply vL_val); (case h => ((apply opv_move); ((conv => lhs; whnf) <;> exact rfl)))); ((apply vL_val); (case h => ((apply opv_E); exact rfl))); ((apply vL_val); (case h => ((apply opv_indexAddr); (first | exact norm_eq rfl | ((conv => lhs; whnf) <;> exact rfl)); exact rfl; (first | assumption | infer_instance); (first | omega | (simp only [List.length_map]; omega)); (first | omega | (simp only [List.length_map]; omega))))); ((apply vL_val); (case h => ((apply opv_ld_el); exact rfl; exact rfl; (first | assumption | infer_instance); assumption; exact rfl))); ((apply vL_val); (case h => ((apply opv_eql_str); exact rfl; exact rfl))); apply vL_nil; apply seqP_normal)
    refine vC_cond_dec rfl (fun hpx => ?_) (fun hpx => ?_)
    · (apply vC_seq; apply vC_region; (iterate 2 (((apply vL_val); (case h => ((apply opv_E); exact rfl))))); apply vL_nil; apply seqP_normal; apply vC_ret; apply blockP_ret; apply seqP_ret; apply loopP_ret; apply blockP_ret; apply seqP_ret)
      (apply ret1; (case h1 => (first | exact norm_eq rfl | ((conv => lhs; whnf) <;> exact rfl))))
      exact ⟨rfl, .inr ⟨k, rfl, hk', by rw [hx, hpx]⟩⟩
    · (apply vC_skip; apply blockP_normal; apply seqP_normal; apply vC_region; ((apply vL_val); (case h => ((apply opv_add); exact rfl; exact rfl; (first | omega | (simp only [List.length_map]; omega))))); ((apply vL_val); (case h => ((apply opv_E); exact rfl))); apply vL_nil; apply loopP_normal)
      (with_reducible apply end1); (case hs => (repeat (first | (with_reducible exact same_mask _ _ _) | with_reducible apply same_updN | ((with_reducible refine same_updO ?_ ?_); rotate_left; exact rfl) | ((with_reducible refine same_upd ?_ ?_); rotate_left; exact rfl) | ((with_reducible refine same_maskIn ?_ ?_); rotate_left; exact rfl)))); (case h1 => (first | exact norm_eq rfl | ((conv => lhs; whnf) <;> exact rfl)))
      · exact ⟨k + 1, rfl, by omega, rfl, fun j hj z hz => by
          by_cases e : j = k
          · subst e; rw [hx] at hz; cases hz; exact fun h => hpx h.symm
          · exact hp j (by omega) z hz⟩
      · simp [RowKit.intOf]; omega
  · (apply vC_exit; apply seqP_exit; apply loopP_exit; apply blockP_exit; apply seqP_normal; apply vC_seq; apply vC_region; ((apply vL_val); (case h => ((apply opv_E); exact rfl))); apply vL_nil; apply seqP_normal; apply vC_ret)
    (apply ret1; (case h1 => (first | exact norm_eq rfl | ((conv => lhs; whnf) <;> exact rfl))))
    refine ⟨rfl, .inl ⟨rfl, fun hy => ?_⟩⟩
    obtain ⟨j, hj, e⟩ := List.getElem_of_mem hy
    exact hp j (by omega) y (by rw [← e]; exact List.getElem?_eq_getElem hj) rfl
theorem contains_str (v : Value) (xs : List ByteArray) (y : ByteArray) (w : World) (hr : Rd w.heap 1 sE v xs) :
    Rets Try.prog 74 #[v, .string y] w fun u w' => w = w' ∧ u = .bool (decide (y ∈ xs)) := by
  refine rets_of Try.func74 rfl Try.ntmps74 rfl rfl (by kernel_rfl) ?_
  (apply vC_seq; apply vC_region; ((apply vL_val); (case h => ((apply opv_E); exact rfl))); apply vL_nil; apply seqP_normal; apply vC_seq; apply vC_region; ((apply vL_val); (case h => ((apply opv_move); ((conv => lhs; whnf) <;> exact rfl)))); ((apply vL_val); (case h => ((apply opv_E); exact rfl))))
  refine vL_callF rfl (index_str v xs y w hr) rfl ?_
  rintro _ _ ⟨rfl, ⟨rfl, h⟩ | ⟨k, rfl, hk, h⟩⟩
  · ((iterate 2 (((apply vL_val); (case h => ((apply opv_E); exact rfl))))); apply vL_nil; apply seqP_normal; apply vC_ret)
    (apply ret1; (case h1 => (first | exact norm_eq rfl | ((conv => lhs; whnf) <;> exact rfl))))
    exact ⟨rfl, by rw [decide_eq_false h]; rfl⟩
  · ((iterate 2 (((apply vL_val); (case h => ((apply opv_E); exact rfl))))); apply vL_nil; apply seqP_normal; apply vC_ret)
    (apply ret1; (case h1 => (first | exact norm_eq rfl | ((conv => lhs; whnf) <;> exact rfl))))
    exact ⟨rfl, by rw [decide_eq_true (List.mem_of_getElem? h), decide_eq_true (by omega)]⟩

def wantsAt (subs : List (ByteArray × OV × List ByteArray)) (t : ByteArray) (i : Nat) : Bool := match subs[i]? with | some s => decide (t ∈ s.2.2) | none => false
def whoN (subs : List (ByteArray × OV × List ByteArray)) (t : ByteArray) (k : Nat) : List Nat := (List.range k).filter (wantsAt subs t)
def whoI (subs : List (ByteArray × OV × List ByteArray)) (t : ByteArray) (k : Nat) : List Int := (whoN subs t k).map fun (n : Nat) => (n : Int)
def atP (q m p : Nat) : Nat := if q % m ≤ p / (q / m + 1) then q % m + (p - q % m * (q / m + 1)) / (q / m) else p / (q / m + 1)
def plcTo (who : List Nat) (t : ByteArray) (q : Nat) (i : Nat) (p : Nat) : List (ByteArray × Int) := ((List.range p).filter fun p => decide (who[atP q who.length p]? = some i)).map fun (p : Nat) => (t, (p : Int))
def plc (subs : List (ByteArray × OV × List ByteArray)) (i : Nat) (t : ByteArray × Int) : List (ByteArray × Int) := plcTo (whoN subs t.1 subs.length) t.1 t.2.toNat i t.2.toNat
/-- what Range tells -/
def rangeC (subs : List (ByteArray × OV × List ByteArray)) (c : Nat → List (ByteArray × Int)) : List (ByteArray × List (ByteArray × Int)) := subs.zipIdx.map fun x => (x.1.1, c x.2)
def rangeS (ts : List (ByteArray × Int)) (subs : List (ByteArray × OV × List ByteArray)) : List (ByteArray × List (ByteArray × Int)) := rangeC subs fun i => ts.flatMap (plc subs i)

theorem at_check : ((List.range 9).all fun q => (List.range 17).all fun m => (List.range q).all fun p => Nat.beq m 0 || ((!Nat.ble (q % m) (p / (q / m + 1)) || (Nat.blt 0 (q / m) && Nat.ble (q % m * (q / m + 1)) p)) && Nat.blt (atP q m p) m)) = true := by decide +kernel
theorem at_facts {q m p : Nat} (hq : q < 9) (hm : m < 17) (h0 : 0 < m) (hp : p < q) : (q % m ≤ p / (q / m + 1) → 0 < q / m ∧ q % m * (q / m + 1) ≤ p) ∧ atP q m p < m := by
  have h := at_check
  simp only [List.all_eq_true, List.mem_range] at h
  have h1 := h q hq m hm p hp
  simp only [Bool.or_eq_true, Bool.and_eq_true, Bool.not_eq_true', Nat.beq_eq, Nat.blt_eq, Nat.ble_eq] at h1
  rcases h1 with h1 | ⟨h1, h2⟩
  · omega
  · refine ⟨fun hle => ?_, h2⟩
    rcases h1 with h1 | h1
    · have := Nat.ble_eq_true_of_le hle; rw [h1] at this; cases this
    · exact h1
theorem whoN_next {subs : List (ByteArray × OV × List ByteArray)} {t : ByteArray} {k : Nat} {s} (hs : subs[k]? = some s) : whoN subs t (k + 1) = if t ∈ s.2.2 then whoN subs t k ++ [k] else whoN subs t k := by
  unfold whoN
  rw [List.range_succ, List.filter_append]
  have : wantsAt subs t k = decide (t ∈ s.2.2) := by simp [wantsAt, hs]
  split
  · rename_i h; simp [this, h]
  · rename_i h; simp [this, h]
theorem whoN_len (subs : List (ByteArray × OV × List ByteArray)) (t : ByteArray) (k : Nat) : (whoN subs t k).length ≤ k := by
  have := List.length_filter_le (wantsAt subs t) (List.range k)
  simpa [whoN] using this
theorem whoN_lt {subs : List (ByteArray × OV × List ByteArray)} {t : ByteArray} {k i : Nat} (h : i ∈ whoN subs t k) : i < k := by
  simp [whoN] at h; exact h.1
theorem plcTo_len (who : List Nat) (t : ByteArray) (q i p : Nat) : (plcTo who t q i p).length ≤ p := by
  have := List.length_filter_le (fun p => decide (who[atP q who.length p]? = some i)) (List.range p)
  simpa [plcTo] using this
theorem plcTo_next (who : List Nat) (t : ByteArray) (q i p : Nat) : plcTo who t q i (p + 1) = if who[atP q who.length p]? = some i then plcTo who t q i p ++ [(t, (p : Int))] else plcTo who t q i p := by
  unfold plcTo
  rw [List.range_succ, List.filter_append, List.map_append]
  split
  · rename_i h; simp [h]
  · rename_i h; simp [h]
theorem rangeC_get {subs : List (ByteArray × OV × List ByteArray)} {c : Nat → List (ByteArray × Int)} {i : Nat} {s} (hs : subs[i]? = some s) : (rangeC subs c)[i]? = some (s.1, c i) := by
  simp [rangeC, hs]
theorem rangeC_len (subs : List (ByteArray × OV × List ByteArray)) (c : Nat → List (ByteArray × Int)) : (rangeC subs c).length = subs.length := by simp [rangeC]
theorem rangeC_set {subs : List (ByteArray × OV × List ByteArray)} {c c' : Nat → List (ByteArray × Int)} {i : Nat} {s} (hs : subs[i]? = some s) (hc : ∀ j, j ≠ i → c' j = c j) : (rangeC subs c).set i (s.1, c' i) = rangeC subs c' := by
  apply List.ext_getElem?
  intro j
  rw [List.getElem?_set]
  have hi := (List.getElem?_eq_some_iff.1 hs).1
  by_cases h : i = j
  · subst h
    rw [if_pos rfl, if_pos (by rw [rangeC_len]; exact hi), rangeC_get hs]
  · rw [if_neg h]
    cases hj : subs[j]? with
    | none => simp [rangeC, hj]
    | some s' => rw [rangeC_get hj, rangeC_get hj, hc j (fun e => h e.symm)]

/-- shares in memory of their own -/
structure ShsL (h : Array Obj) (B : Nat) (v : Value) (shs : List (ByteArray × OV × List (ByteArray × Int))) : Prop where
  out : Own h 89 2 nE v shs
  inner : ∀ (i : Nat) x, shs[i]? = some x → Own h 70 2 tE x.2.1.1 x.2.2
  dis : ∀ (i j : Nat) x y, i ≠ j → shs[i]? = some x → shs[j]? = some y → ∀ b, own x.2.1.1 = some b → own y.2.1.1 ≠ some b
  frI : ∀ (i : Nat) x, shs[i]? = some x → ∀ b, own x.2.1.1 = some b → B ≤ b
  frO : ∀ b, own v = some b → B ≤ b
theorem ShsL.frN {w w' : World} {B : Nat} {v : Value} {shs : List (ByteArray × OV × List (ByteArray × Int))} (s : ShsL w.heap B v shs) (hf : Fr No w w') : ShsL w'.heap B v shs := ⟨s.out.frN hf, fun i x hx => (s.inner i x hx).frN hf, s.dis, s.frI, s.frO⟩
theorem ShsL.upd {w w1 w2 : World} {B i : Nat} {v v' : Value} {shs : List (ByteArray × OV × List (ByteArray × Int))} {x} {ys : List (ByteArray × Int)} (s : ShsL w.heap B v shs) (hx : shs[i]? = some x) (hf1 : Fr (fun k => own x.2.1.1 = some k) w w1) (ho : Own w1.heap 70 2 tE v' ys) (hfr : ∀ k, own v' = some k → own x.2.1.1 = some k ∨ w.heap.size ≤ k) (hB : B ≤ w.heap.size) (hone : v'.oneCell' = true)
    (hf2 : Fr (fun k => own v = some k) w1 w2) (hown : Own w2.heap 89 2 nE v (shs.set i (x.1, ⟨v', hone⟩, ys))) : ShsL w2.heap B v (shs.set i (x.1, ⟨v', hone⟩, ys)) := by
  have hi := (List.getElem?_eq_some_iff.1 hx).1
  have s1 : Own w1.heap 89 2 nE v shs := s.out.fr hf1 (fun b hb h => Own.ne_own s.out (s.inner i x hx) (by decide) b hb h)
  have hin : ∀ (j : Nat) y, j ≠ i → shs[j]? = some y → Own w2.heap 70 2 tE y.2.1.1 y.2.2 := fun j y hj hy => by
    have h1 := (s.inner j y hy).fr hf1 (fun b hb h => s.dis j i y x hj hy hx b hb h)
    exact h1.fr hf2 (fun b hb h => Own.ne_own h1 s1 (by decide) b hb h)
  have hget : ∀ (j : Nat) y, (shs.set i (x.1, ⟨v', hone⟩, ys))[j]? = some y → (j = i ∧ y = (x.1, ⟨v', hone⟩, ys)) ∨ (j ≠ i ∧ shs[j]? = some y) := fun j y hy => by
    rw [List.getElem?_set] at hy
    by_cases h : i = j
    · subst h; rw [if_pos rfl, if_pos hi] at hy; exact .inl ⟨rfl, (Option.some.inj hy).symm⟩
    · rw [if_neg h] at hy; exact .inr ⟨fun e => h e.symm, hy⟩
  have hnew : ∀ b, own v' = some b → ∀ (j : Nat) y, j ≠ i → shs[j]? = some y → own y.2.1.1 ≠ some b := fun b hb j y hj hy h => by
    rcases hfr b hb with h1 | h1
    · exact s.dis i j x y (fun e => hj e.symm) hx hy b h1 h
    · have := (s.inner j y hy).lt b h; omega
  refine ⟨hown, fun j y hy => ?_, fun j k y z hjk hy hz b hb hb' => ?_, fun j y hy b hb => ?_, s.frO⟩
  · rcases hget j y hy with ⟨rfl, rfl⟩ | ⟨hj, hy'⟩
    · exact ho.fr hf2 (fun b hb h => Own.ne_own ho s1 (by decide) b hb h)
    · exact hin j y hj hy'
  · rcases hget j y hy with ⟨rfl, rfl⟩ | ⟨hj, hy'⟩ <;> rcases hget k z hz with ⟨rfl, rfl⟩ | ⟨hk, hz'⟩
    · exact hjk rfl
    · exact hnew b hb k z hk hz' hb'
    · exact hnew b hb' j y hj hy' hb
    · exact s.dis j k y z hjk hy' hz' b hb hb'
  · rcases hget j y hy with ⟨rfl, rfl⟩ | ⟨hj, hy'⟩
    · rcases hfr b hb with h | h
      · exact s.frI j x hx b h
      · omega
    · exact s.frI j y hy' b hb
theorem ShsL.updM {w w2 : World} {B i : Nat} {v : Value} {shs : List (ByteArray × OV × List (ByteArray × Int))} {x} {m : ByteArray} (s : ShsL w.heap B v shs) (hx : shs[i]? = some x)
    (hf2 : Fr (fun k => own v = some k) w w2) (hown : Own w2.heap 89 2 nE v (shs.set i (m, x.2))) : ShsL w2.heap B v (shs.set i (m, x.2)) := by
  have hi := (List.getElem?_eq_some_iff.1 hx).1
  have hget : ∀ (j : Nat) y, (shs.set i (m, x.2))[j]? = some y → ∃ y', shs[j]? = some y' ∧ y.2 = y'.2 := fun j y hy => by
    rw [List.getElem?_set] at hy
    by_cases h : i = j
    · subst h; rw [if_pos rfl, if_pos hi] at hy; exact ⟨x, hx, by rw [← Option.some.inj hy]⟩
    · rw [if_neg h] at hy; exact ⟨y, hy, rfl⟩
  refine ⟨hown, fun j y hy => ?_, fun j k y z hjk hy hz b hb hb' => ?_, fun j y hy b hb => ?_, s.frO⟩
  · obtain ⟨y', h1, h2⟩ := hget j y hy
    rw [h2]
    exact (s.inner j y' h1).fr hf2 (fun b hb h => Own.ne_own (s.inner j y' h1) s.out (by decide) b hb h)
  · obtain ⟨y', h1, h2⟩ := hget j y hy
    obtain ⟨z', h3, h4⟩ := hget k z hz
    rw [h2] at hb
    rw [h4] at hb'
    exact s.dis j k y' z' hjk h1 h3 b hb hb'
  · obtain ⟨y', h1, h2⟩ := hget j y hy
    rw [h2] at hb
    exact s.frI j y' h1 b hb
theorem map_set {α β : Type} (f : α → β) (l : List α) (i : Nat) (a : α) : (l.set i a).map f = (l.map f).set i (f a) := List.map_set
end Go.Proofs.Ytfceebbkjogedaa
