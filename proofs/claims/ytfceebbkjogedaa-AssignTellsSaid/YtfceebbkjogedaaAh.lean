/- Layer 27: plain laws of the division. -/
import Derived.Test.YtfceebbkjogedaaAf
set_option maxRecDepth 100000
namespace Go.Proofs.Ytfceebbkjogedaa
open Go Go.Eng
/-! ### the order of names -/
theorem bl_irrefl : ∀ (x : List UInt8), Op.bytesLess x x = false
  | [] => rfl
  | a :: x => by simp [Op.bytesLess, bl_irrefl x]
theorem bl_trans : ∀ (x y z : List UInt8), Op.bytesLess x y = true → Op.bytesLess y z = true → Op.bytesLess x z = true
  | [], _, [], _, h => by cases h2 : Op.bytesLess _ ([] : List UInt8) <;> simp_all [Op.bytesLess]
  | [], _, _ :: _, _, _ => rfl
  | a :: x, [], _, h, _ => by simp [Op.bytesLess] at h
  | a :: x, b :: y, [], _, h => by simp [Op.bytesLess] at h
  | a :: x, b :: y, c :: z, h1, h2 => by
    simp only [Op.bytesLess, Bool.or_eq_true, decide_eq_true_eq, Bool.and_eq_true, beq_iff_eq] at h1 h2 ⊢
    rcases h1 with h1 | ⟨rfl, h1⟩ <;> rcases h2 with h2 | ⟨rfl, h2⟩
    · exact .inl (UInt8.lt_trans h1 h2)
    · exact .inl h1
    · exact .inl h2
    · exact .inr ⟨rfl, bl_trans x y z h1 h2⟩
theorem less_trans {a b c : ByteArray} (h1 : lessB a b = true) (h2 : lessB b c = true) : lessB a c = true := bl_trans _ _ _ h1 h2
theorem less_ne {a b : ByteArray} (h : lessB a b = true) : a ≠ b := by
  rintro rfl
  have := bl_irrefl a.toList
  unfold lessB at h
  rw [this] at h
  cases h
theorem asc_pairwise : ∀ {l : List ByteArray}, ascB l = true → l.Pairwise (fun a b => lessB a b = true)
  | [], _ => .nil
  | [a], _ => by simp
  | a :: b :: l, h => by
    simp only [ascB, Bool.and_eq_true] at h
    have ih := asc_pairwise h.2
    rw [List.pairwise_cons]
    refine ⟨fun c hc => ?_, ih⟩
    rcases List.mem_cons.1 hc with rfl | hc
    · exact h.1
    · exact less_trans h.1 ((List.pairwise_cons.1 ih).1 c hc)
theorem asc_of_pairwise : ∀ {l : List ByteArray}, l.Pairwise (fun a b => lessB a b = true) → ascB l = true
  | [], _ => rfl
  | [a], _ => rfl
  | a :: b :: l, h => by
    rw [List.pairwise_cons] at h
    simp only [ascB, Bool.and_eq_true]
    exact ⟨h.1 b (by simp), asc_of_pairwise h.2⟩
theorem asc_nodup {l : List ByteArray} (h : ascB l = true) : l.Nodup := (asc_pairwise h).imp (fun h => less_ne h)
theorem risingB_asc {l : List ByteArray} {most : Nat} (h : risingB l most = true) : ascB l = true := by
  unfold risingB at h
  simp only [Bool.and_eq_true] at h
  exact h.1.2

/-! ### who gets which -/
def cutP (q m j : Nat) : Nat := j * (q / m) + min j (q % m)
def szP (q m j : Nat) : Nat := cutP q m (j + 1) - cutP q m j
theorem iv_check : ((List.range 9).all fun q => (List.range 17).all fun m => (List.range m).all fun j => decide ((List.range q).filter (fun p => decide (atP q m p = j)) = List.range' (cutP q m j) (szP q m j)) && (Nat.beq (szP q m j) (q / m) || Nat.beq (szP q m j) (q / m + 1))) = true := by decide +kernel
theorem iv_facts {q m j : Nat} (hq : q < 9) (hm : m < 17) (hj : j < m) : (List.range q).filter (fun p => decide (atP q m p = j)) = List.range' (cutP q m j) (szP q m j) ∧ (szP q m j = q / m ∨ szP q m j = q / m + 1) := by
  have h := iv_check
  simp only [List.all_eq_true, List.mem_range] at h
  have h1 := h q hq m hm j hj
  simp only [Bool.and_eq_true, decide_eq_true_eq, Bool.or_eq_true, Nat.beq_eq] at h1
  exact h1
theorem whoN_nodup (subs : List (ByteArray × OV × List ByteArray)) (t : ByteArray) (k : Nat) : (whoN subs t k).Nodup := List.Nodup.sublist List.filter_sublist List.nodup_range
theorem nodup_get {α : Type} {l : List α} (h : l.Nodup) {i j : Nat} {x : α} (hi : l[i]? = some x) (hj : l[j]? = some x) : i = j := by
  have h1 := (List.getElem?_eq_some_iff.1 hi)
  have h2 := (List.getElem?_eq_some_iff.1 hj)
  exact (List.getElem_inj (h₀ := h1.1) (h₁ := h2.1) h).1 (h1.2.trans h2.2.symm)
theorem plcTo_iv {who : List Nat} {t : ByteArray} {q j i : Nat} (hn : who.Nodup) (hq : q < 9) (hm : who.length < 17) (hj : who[j]? = some i) : plcTo who t q i q = (List.range' (cutP q who.length j) (szP q who.length j)).map fun (p : Nat) => (t, (p : Int)) := by
  have hjl := (List.getElem?_eq_some_iff.1 hj).1
  unfold plcTo
  rw [← (iv_facts hq hm hjl).1]
  congr 1
  apply List.filter_congr
  intro p _
  by_cases h : atP q who.length p = j
  · rw [h, hj]; simp
  · rw [decide_eq_false h, decide_eq_false (fun h' => h (nodup_get hn h' hj))]
theorem plcTo_none {who : List Nat} {t : ByteArray} {q i p : Nat} (h : i ∉ who) : plcTo who t q i p = [] := by
  unfold plcTo
  rw [List.map_eq_nil_iff, List.filter_eq_nil_iff]
  intro p _ hp
  exact h (List.mem_of_getElem? (of_decide_eq_true hp))
theorem mem_who {subs : List (ByteArray × OV × List ByteArray)} {t : ByteArray} {i : Nat} {s} (hs : subs[i]? = some s) : i ∈ whoN subs t subs.length ↔ t ∈ s.2.2 := by
  obtain ⟨h1, h2⟩ := List.getElem?_eq_some_iff.1 hs
  simp [whoN, wantsAt, h1, h2]
theorem plc_name {subs : List (ByteArray × OV × List ByteArray)} {i : Nat} {t : ByteArray × Int} {p : ByteArray × Int} (h : p ∈ plc subs i t) : p.1 = t.1 := by
  simp only [plc, plcTo, List.mem_map] at h
  obtain ⟨k, _, rfl⟩ := h
  rfl
/-- of a share's places, those of one topic -/
theorem filter_plc {subs : List (ByteArray × OV × List ByteArray)} {i : Nat} : ∀ {ts : List (ByteArray × Int)} {t : ByteArray × Int}, (ts.map (·.1)).Nodup → t ∈ ts → (ts.flatMap (plc subs i)).filter (fun p => decide (p.1 = t.1)) = plc subs i t
  | [], t, _, h => by simp at h
  | s :: ts, t, hn, h => by
    rw [List.map_cons, List.nodup_cons] at hn
    rw [List.flatMap_cons, List.filter_append]
    rcases List.mem_cons.1 h with rfl | h
    · have h1 : (plc subs i t).filter (fun p => decide (p.1 = t.1)) = plc subs i t := by
        rw [List.filter_eq_self]; intro p hp; simp [plc_name hp]
      have h2 : (ts.flatMap (plc subs i)).filter (fun p => decide (p.1 = t.1)) = [] := by
        rw [List.filter_eq_nil_iff]
        intro p hp
        obtain ⟨s, hs, hp⟩ := List.mem_flatMap.1 hp
        have := plc_name hp
        simp only [decide_eq_true_eq]
        intro e
        exact hn.1 (e ▸ this ▸ List.mem_map_of_mem hs)
      rw [h1, h2, List.append_nil]
    · have h1 : (plc subs i s).filter (fun p => decide (p.1 = t.1)) = [] := by
        rw [List.filter_eq_nil_iff]
        intro p hp
        have := plc_name hp
        simp only [decide_eq_true_eq]
        intro e
        exact hn.1 (this ▸ e ▸ List.mem_map_of_mem h)
      rw [h1, filter_plc hn.2 h, List.nil_append]
structure RightP (ts : List (ByteArray × Int)) (subs : List (ByteArray × OV × List ByteArray)) : Prop where
  parts : ∀ t ∈ ts, 1 ≤ t.2 ∧ t.2 ≤ 8
  tops : ∀ s ∈ subs, risingB s.2.2 16 = true
  names : risingB (ts.map (·.1)) 16 = true
  members : risingB (subs.map (·.1)) 16 = true
theorem rightP {ts : List (ByteArray × Int)} {subs : List (ByteArray × OV × List ByteArray)} : rightB ts subs = true ↔ RightP ts subs := by
  unfold rightB
  simp only [Bool.and_eq_true, decide_eq_true_eq, List.all_eq_true, and_assoc]
  exact ⟨fun ⟨a, b, c, d⟩ => ⟨a, b, c, d⟩, fun ⟨a, b, c, d⟩ => ⟨a, b, c, d⟩⟩
theorem RightP.lens {ts : List (ByteArray × Int)} {subs : List (ByteArray × OV × List ByteArray)} (r : RightP ts subs) : ts.length ≤ 16 ∧ subs.length ≤ 16 := by
  have h1 := (risingB_iff.1 r.names).2.2
  have h2 := (risingB_iff.1 r.members).2.2
  simp only [List.length_map] at h1 h2
  exact ⟨h1, h2⟩
theorem rangeS_get {ts : List (ByteArray × Int)} {subs : List (ByteArray × OV × List ByteArray)} {shs : List (ByteArray × OV × List (ByteArray × Int))} (hC : shs.map (fun x => (x.1, x.2.2)) = rangeS ts subs) {i : Nat} {x s} (hx : shs[i]? = some x) (hs : subs[i]? = some s) : x.1 = s.1 ∧ x.2.2 = ts.flatMap (plc subs i) := by
  have h := congrArg (·[i]?) hC
  simp only [rangeS] at h
  rw [rangeC_get hs, List.getElem?_map, hx] at h
  simpa using h
theorem rangeS_len {ts : List (ByteArray × Int)} {subs : List (ByteArray × OV × List ByteArray)} {shs : List (ByteArray × OV × List (ByteArray × Int))} (hC : shs.map (fun x => (x.1, x.2.2)) = rangeS ts subs) : shs.length = subs.length := by
  have h := congrArg List.length hC
  simpa [rangeS, rangeC] using h
/-- the places of one topic that one member has -/
theorem share_iv {ts : List (ByteArray × Int)} {subs : List (ByteArray × OV × List ByteArray)} (r : RightP ts subs) {i : Nat} {s t} (hs : subs[i]? = some s) (ht : t ∈ ts) (hw : t.1 ∈ s.2.2) :
    ∃ a c j, (whoN subs t.1 subs.length)[j]? = some i ∧ c = szP t.2.toNat (whoN subs t.1 subs.length).length j ∧ (c = t.2.toNat / (whoN subs t.1 subs.length).length ∨ c = t.2.toNat / (whoN subs t.1 subs.length).length + 1) ∧ plc subs i t = ((List.range' a c).map fun (p : Nat) => (t.1, (p : Int))) ∧ ∀ n, n < c → a + n < t.2.toNat := by
  obtain ⟨j, hj, hji⟩ := List.getElem_of_mem ((mem_who hs).2 hw)
  have hj' : (whoN subs t.1 subs.length)[j]? = some i := by rw [List.getElem?_eq_getElem hj, hji]
  have hq : t.2.toNat < 9 := by have := r.parts t ht; omega
  have hm : (whoN subs t.1 subs.length).length < 17 := by have := whoN_len subs t.1 subs.length; have := r.lens.2; omega
  refine ⟨_, _, j, hj', rfl, (iv_facts hq hm hj).2, plcTo_iv (whoN_nodup _ _ _) hq hm hj', fun n hn => ?_⟩
  have h1 : cutP t.2.toNat (whoN subs t.1 subs.length).length j + n ∈ List.range' (cutP t.2.toNat (whoN subs t.1 subs.length).length j) (szP t.2.toNat (whoN subs t.1 subs.length).length j) := by rw [List.mem_range'_1]; omega
  rw [← (iv_facts hq hm hj).1, List.mem_filter, List.mem_range] at h1
  exact h1.1
end Go.Proofs.Ytfceebbkjogedaa
