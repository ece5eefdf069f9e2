/- Layer 27: the law AssignMore. -/
import Derived.Test.YtfceebbkjogedaaAg
import Derived.Test.YtfceebbkjogedaaAh
import Derived.Test.YtfceebbkjogedaaAj
set_option maxRecDepth 100000
namespace Go.Proofs.Ytfceebbkjogedaa
open Go Go.Eng
def skipN (o i : Nat) : Nat := if i < o then i else i + 1
theorem mono_check : ((List.range 9).all fun q => (List.range 17).all fun m => (List.range m).all fun j => (Nat.ble (m - 1) j || Nat.ble (szP q m j) (szP q (m - 1) j)) && (Nat.beq j 0 || Nat.ble (szP q m j) (szP q (m - 1) (j - 1)))) = true := by decide +kernel
theorem mono_facts {q m j : Nat} (hq : q < 9) (hm : m < 17) (hj : j < m) : (j < m - 1 → szP q m j ≤ szP q (m - 1) j) ∧ (0 < j → szP q m j ≤ szP q (m - 1) (j - 1)) := by
  have h := mono_check
  simp only [List.all_eq_true, List.mem_range] at h
  have h1 := h q hq m hm j hj
  simp only [Bool.and_eq_true, Bool.or_eq_true, Nat.beq_eq, Nat.ble_eq] at h1
  omega
/-- a member's place among those that want a topic -/
theorem who_rank {subs : List (ByteArray × OV × List ByteArray)} {t : ByteArray} {n k j : Nat} (h : (whoN subs t n)[j]? = some k) : j = (whoN subs t k).length ∧ k < n ∧ wantsAt subs t k = true := by
  have hkn := whoN_lt (List.mem_of_getElem? h)
  have hw : wantsAt subs t k = true := by
    have := List.mem_of_getElem? h
    simp [whoN] at this; exact this.2
  refine ⟨?_, hkn, hw⟩
  have e : whoN subs t n = whoN subs t k ++ k :: ((List.range' (k + 1) (n - (k + 1))).filter (wantsAt subs t)) := by
    unfold whoN
    have : List.range n = List.range k ++ k :: List.range' (k + 1) (n - (k + 1)) := by
      rw [List.range_eq_range', List.range_eq_range', show n = k + (1 + (n - (k + 1))) by omega, ← List.range'_append_1, ← List.range'_append_1]
      simp
      congr 1
      omega
    rw [this, List.filter_append, List.filter_cons_of_pos hw]
  have h2 : (whoN subs t n)[(whoN subs t k).length]? = some k := by rw [e]; simp
  exact nodup_get (whoN_nodup subs t n) h h2
theorem who_skip {subs rest : List (ByteArray × OV × List ByteArray)} {t : ByteArray} {o : Nat} (hw : ∀ i, wantsAt rest t i = wantsAt subs t (skipN o i)) :
    ∀ i, (whoN rest t i).length + (if o < skipN o i ∧ wantsAt subs t o = true then 1 else 0) = (whoN subs t (skipN o i)).length := by
  have len_succ : ∀ (l : List (ByteArray × OV × List ByteArray)) n, (whoN l t (n + 1)).length = (whoN l t n).length + (if wantsAt l t n = true then 1 else 0) := fun l n => by
    unfold whoN
    rw [List.range_succ, List.filter_append, List.length_append]
    by_cases h : wantsAt l t n = true
    · simp [h]
    · simp [h]
  have sl : ∀ i, i < o → skipN o i = i := fun i h => by unfold skipN; rw [if_pos h]
  have sg : ∀ i, ¬ i < o → skipN o i = i + 1 := fun i h => by unfold skipN; rw [if_neg h]
  have iz : ∀ (p : Prop) [Decidable p], ¬ p → (if p then 1 else 0 : Nat) = 0 := fun p _ h => if_neg h
  have io : ∀ (p : Prop) [Decidable p], p → (if p then 1 else 0 : Nat) = 1 := fun p _ h => if_pos h
  intro i
  induction i with
  | zero =>
    by_cases h : 0 < o
    · rw [sl 0 h, iz _ (by omega)]; simp [whoN]
    · have h0 : o = 0 := by omega
      rw [sg 0 h, len_succ, h0]
      simp [whoN]
  | succ i ih =>
    rw [len_succ, hw i]
    by_cases h1 : i + 1 < o
    · rw [sl _ (show i < o by omega), iz _ (by omega)] at ih
      rw [sl _ (show i < o by omega), sl _ h1, iz (o < i + 1 ∧ _) (by omega), len_succ]
      omega
    · by_cases h2 : i < o
      · have h0 : o = i + 1 := by omega
        rw [sl _ h2, iz _ (by omega)] at ih
        rw [sl _ h2, sg _ h1, len_succ, len_succ]
        by_cases h3 : wantsAt subs t o = true
        · rw [io (o < i + 1 + 1 ∧ _) ⟨by omega, h3⟩, ← h0, io (wantsAt subs t o = true) h3]; omega
        · rw [iz (o < i + 1 + 1 ∧ _) (fun h => h3 h.2), ← h0, iz (wantsAt subs t o = true) h3]; omega
      · rw [sg _ h2] at ih
        rw [sg _ h2, sg _ h1, len_succ]
        by_cases h3 : wantsAt subs t o = true
        · rw [io (o < i + 1 + 1 ∧ _) ⟨by omega, h3⟩]
          rw [io (o < i + 1 ∧ _) ⟨by omega, h3⟩] at ih
          omega
        · rw [iz (o < i + 1 + 1 ∧ _) (fun h => h3 h.2)]
          rw [iz (o < i + 1 ∧ _) (fun h => h3 h.2)] at ih
          omega
theorem plc_len {ts : List (ByteArray × Int)} {subs : List (ByteArray × OV × List ByteArray)} (r : RightP ts subs) {i : Nat} {s t} (hs : subs[i]? = some s) (ht : t ∈ ts) :
    (wantsAt subs t.1 i = true ∧ (plc subs i t).length = szP t.2.toNat (whoN subs t.1 subs.length).length (whoN subs t.1 i).length ∧ (whoN subs t.1 i).length < (whoN subs t.1 subs.length).length) ∨ (wantsAt subs t.1 i = false ∧ (plc subs i t).length = 0) := by
  by_cases hw : t.1 ∈ s.2.2
  · obtain ⟨a, c, j, hj, hc, _, hp, _⟩ := share_iv r hs ht hw
    obtain ⟨hr, _, hwa⟩ := who_rank hj
    refine .inl ⟨hwa, ?_, ?_⟩
    · rw [hp, hc, ← hr]; simp
    · rw [← hr]; exact (List.getElem?_eq_some_iff.1 hj).1
  · refine .inr ⟨by simp [wantsAt, hs, hw], ?_⟩
    have : i ∉ whoN subs t.1 subs.length := fun h => hw ((mem_who hs).1 h)
    simp [plc, plcTo_none this]
theorem more_le {ts : List (ByteArray × Int)} {subs rest : List (ByteArray × OV × List ByteArray)} (r : RightP ts subs) (r' : RightP ts rest) {o i : Nat} {s s' t} (ho : o < subs.length) (hl : rest.length = subs.length - 1) (hw : ∀ i, wantsAt rest t.1 i = wantsAt subs t.1 (skipN o i)) (hs' : rest[i]? = some s') (hs : subs[skipN o i]? = some s) (ht : t ∈ ts) :
    (plc subs (skipN o i) t).length ≤ (plc rest i t).length := by
  have hil := (List.getElem?_eq_some_iff.1 hs').1
  have hq : t.2.toNat < 9 := by have := r.parts t ht; omega
  have hm : (whoN subs t.1 subs.length).length < 17 := by have := whoN_len subs t.1 subs.length; have := r.lens.2; omega
  have k1 := who_skip hw i
  have k2 := who_skip hw (subs.length - 1)
  have e2 : skipN o (subs.length - 1) = subs.length := by unfold skipN; rw [if_neg (by omega)]; omega
  rw [e2] at k2
  rw [← hl] at k2
  rcases plc_len r hs ht with ⟨h1, h2, h3⟩ | ⟨_, h2⟩
  · rcases plc_len r' hs' ht with ⟨h4, h5, h6⟩ | ⟨h4, _⟩
    · rw [h2, h5]
      have hf := mono_facts hq hm h3
      by_cases hb : wantsAt subs t.1 o = true
      · rw [if_pos ⟨by omega, hb⟩] at k2
        by_cases hk : o < skipN o i
        · rw [if_pos ⟨hk, hb⟩] at k1
          rw [show (whoN rest t.1 rest.length).length = (whoN subs t.1 subs.length).length - 1 by omega, show (whoN rest t.1 i).length = (whoN subs t.1 (skipN o i)).length - 1 by omega]
          exact hf.2 (by omega)
        · rw [if_neg (fun h => hk h.1)] at k1
          rw [show (whoN rest t.1 rest.length).length = (whoN subs t.1 subs.length).length - 1 by omega, show (whoN rest t.1 i).length = (whoN subs t.1 (skipN o i)).length by omega]
          exact hf.1 (by omega)
      · rw [if_neg (fun h => hb h.2)] at k1 k2
        rw [show (whoN rest t.1 rest.length).length = (whoN subs t.1 subs.length).length by omega, show (whoN rest t.1 i).length = (whoN subs t.1 (skipN o i)).length by omega]
        exact Nat.le_refl _
    · rw [hw i, h1] at h4; cases h4
  · rw [h2]; exact Nat.zero_le _
theorem rest_get {subs : List (ByteArray × OV × List ByteArray)} {o i : Nat} (ho : o < subs.length) : (subs.take o ++ subs.drop (o + 1))[i]? = subs[skipN o i]? := by
  unfold skipN
  by_cases h : i < o
  · rw [if_pos h, List.getElem?_append_left (by simp; omega), List.getElem?_take_of_lt h]
  · rw [if_neg h, List.getElem?_append_right (by simp; omega), List.getElem?_drop]
    congr 1
    simp
    omega
theorem right_rest {ts : List (ByteArray × Int)} {subs rest : List (ByteArray × OV × List ByteArray)} (r : RightP ts subs) {o : Nat} (hC : rest.map (fun x => (x.1, x.2.2)) = (subs.take o ++ subs.drop (o + 1)).map (fun x => (x.1, x.2.2))) : RightP ts rest := by
  have hsub : (subs.take o ++ subs.drop (o + 1)).Sublist subs := by rw [← List.eraseIdx_eq_take_drop_succ]; exact List.eraseIdx_sublist ..
  have hm : rest.map (·.1) = (subs.take o ++ subs.drop (o + 1)).map (·.1) := by
    have h := congrArg (List.map (·.1)) hC
    simpa [List.map_map, Function.comp_def] using h
  refine ⟨r.parts, fun s hs => ?_, r.names, ?_⟩
  · have h1 : (s.1, s.2.2) ∈ rest.map (fun x => (x.1, x.2.2)) := List.mem_map_of_mem hs
    rw [hC] at h1
    obtain ⟨y, hy, e⟩ := List.mem_map.1 h1
    have := r.tops y (hsub.subset hy)
    simp only [Prod.mk.injEq] at e
    rw [← e.2]; exact this
  · have h0 := risingB_iff.1 r.members
    have hs2 : (rest.map (·.1)).Sublist (subs.map (·.1)) := by rw [hm]; exact hsub.map _
    unfold risingB
    have ha := r.members
    unfold risingB at ha
    simp only [Bool.and_eq_true, decide_eq_true_eq, List.all_eq_true] at ha ⊢
    exact ⟨⟨fun s hs => ha.1.1 s (hs2.subset hs), asc_of_pairwise ((asc_pairwise ha.1.2).sublist hs2)⟩, Nat.le_trans hs2.length_le ha.2⟩
theorem wants_rest {subs rest : List (ByteArray × OV × List ByteArray)} {o : Nat} (ho : o < subs.length) (hC : rest.map (fun x => (x.1, x.2.2)) = (subs.take o ++ subs.drop (o + 1)).map (fun x => (x.1, x.2.2))) (t : ByteArray) (i : Nat) : wantsAt rest t i = wantsAt subs t (skipN o i) := by
  have h := congrArg (·[i]?) hC
  simp only [List.getElem?_map, rest_get ho] at h
  unfold wantsAt
  cases h1 : rest[i]? with
  | none =>
    rw [h1] at h
    cases h2 : subs[skipN o i]? with
    | none => rfl
    | some y => rw [h2] at h; cases h
  | some x =>
    rw [h1] at h
    cases h2 : subs[skipN o i]? with
    | none => rw [h2] at h; cases h
    | some y =>
      rw [h2] at h
      simp only [Option.map_some, Option.some.injEq, Prod.mk.injEq] at h
      simp [h.2]
end Go.Proofs.Ytfceebbkjogedaa
