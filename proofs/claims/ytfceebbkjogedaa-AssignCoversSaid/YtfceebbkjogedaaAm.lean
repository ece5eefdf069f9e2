/- Layer 27: plain laws for AssignCovers. -/
import Derived.Test.YtfceebbkjogedaaAg
import Derived.Test.YtfceebbkjogedaaAh
import Derived.Test.YtfceebbkjogedaaEn
set_option maxRecDepth 100000
namespace Go.Proofs.Ytfceebbkjogedaa
open Go Go.Eng
theorem len_le_of_sub {α : Type} [DecidableEq α] : ∀ {l l' : List α}, l.Nodup → (∀ x ∈ l, x ∈ l') → l.length ≤ l'.length
  | [], _, _, _ => Nat.zero_le _
  | a :: l, l', hn, h => by
    rw [List.nodup_cons] at hn
    have ha := h a (by simp)
    have ih := len_le_of_sub (l := l) (l' := l'.erase a) hn.2 (fun x hx => by
      have hne : x ≠ a := fun e => hn.1 (e ▸ hx)
      exact (List.mem_erase_of_ne hne).2 (h x (by simp [hx])))
    rw [List.length_erase_of_mem ha] at ih
    have : 0 < l'.length := List.length_pos_of_mem ha
    simp only [List.length_cons]
    omega
/-- all places that are dealt out -/
def dealt (ts : List (ByteArray × Int)) (subs : List (ByteArray × OV × List ByteArray)) (k : Nat) : List (ByteArray × Int) := (List.range k).flatMap fun i => ts.flatMap (plc subs i)
def wantedB (subs : List (ByteArray × OV × List ByteArray)) (t : ByteArray) (k : Nat) : Bool := (List.range k).any (wantsAt subs t)
/-- all places that somebody wants -/
def asked (subs : List (ByteArray × OV × List ByteArray)) (ts : List (ByteArray × Int)) : List (ByteArray × Int) := ts.flatMap fun t => if wantedB subs t.1 subs.length then (List.range t.2.toNat).map fun (p : Nat) => (t.1, (p : Int)) else []
theorem mem_plc {subs : List (ByteArray × OV × List ByteArray)} {i : Nat} {t : ByteArray × Int} {p : ByteArray × Int} : p ∈ plc subs i t ↔ ∃ k : Nat, k < t.2.toNat ∧ p = (t.1, (k : Int)) ∧ (whoN subs t.1 subs.length)[atP t.2.toNat (whoN subs t.1 subs.length).length k]? = some i := by
  simp only [plc, plcTo, List.mem_map, List.mem_filter, List.mem_range, decide_eq_true_eq]
  constructor
  · rintro ⟨k, ⟨h1, h2⟩, rfl⟩; exact ⟨k, h1, rfl, h2⟩
  · rintro ⟨k, h1, rfl, h2⟩; exact ⟨k, ⟨h1, h2⟩, rfl⟩
theorem names_inj {ts : List (ByteArray × Int)} (hn : (ts.map (·.1)).Nodup) {t t' : ByteArray × Int} (h : t ∈ ts) (h' : t' ∈ ts) (e : t.1 = t'.1) : t = t' := by
  obtain ⟨i, hi, rfl⟩ := List.getElem_of_mem h
  obtain ⟨j, hj, rfl⟩ := List.getElem_of_mem h'
  have : i = j := nodup_get (x := ts[i].1) hn (by simp [hi]) (by simp [hj, e])
  subst this; rfl
theorem plc_nodup (subs : List (ByteArray × OV × List ByteArray)) (i : Nat) (t : ByteArray × Int) : (plc subs i t).Nodup := by
  unfold plc plcTo
  rw [List.nodup_iff_pairwise_ne, List.pairwise_map]
  refine List.Pairwise.imp ?_ (List.nodup_iff_pairwise_ne.1 (List.Nodup.sublist List.filter_sublist List.nodup_range))
  intro a b h e
  simp only [Prod.mk.injEq, true_and] at e
  omega
theorem cont_nodup {ts : List (ByteArray × Int)} (hn : (ts.map (·.1)).Nodup) (subs : List (ByteArray × OV × List ByteArray)) (i : Nat) : (ts.flatMap (plc subs i)).Nodup := by
  rw [List.nodup_iff_pairwise_ne, List.pairwise_flatMap]
  refine ⟨fun t _ => plc_nodup subs i t, ?_⟩
  rw [List.nodup_iff_pairwise_ne, List.pairwise_map] at hn
  exact hn.imp fun h x hx y hy e => h (by rw [← plc_name hx, ← plc_name hy, e])
theorem dealt_nodup {ts : List (ByteArray × Int)} (hn : (ts.map (·.1)).Nodup) (subs : List (ByteArray × OV × List ByteArray)) (k : Nat) : (dealt ts subs k).Nodup := by
  unfold dealt
  rw [List.nodup_iff_pairwise_ne, List.pairwise_flatMap]
  refine ⟨fun i _ => cont_nodup hn subs i, ?_⟩
  refine List.Pairwise.imp ?_ (List.nodup_iff_pairwise_ne.1 List.nodup_range)
  intro i j hij x hx y hy e
  subst e
  obtain ⟨t, ht, hx⟩ := List.mem_flatMap.1 hx
  obtain ⟨t', ht', hy⟩ := List.mem_flatMap.1 hy
  have : t = t' := names_inj hn ht ht' (by rw [← plc_name hx, ← plc_name hy])
  subst this
  obtain ⟨a, _, e1, h1⟩ := mem_plc.1 hx
  obtain ⟨b, _, e2, h2⟩ := mem_plc.1 hy
  have : a = b := by have := e1.symm.trans e2; simp only [Prod.mk.injEq, true_and] at this; omega
  subst this
  exact hij (Option.some.inj (h1.symm.trans h2))
theorem asked_nodup {ts : List (ByteArray × Int)} (hn : (ts.map (·.1)).Nodup) (subs : List (ByteArray × OV × List ByteArray)) : (asked subs ts).Nodup := by
  have hname : ∀ (t x : ByteArray × Int), x ∈ (if wantedB subs t.1 subs.length then (List.range t.2.toNat).map fun (p : Nat) => (t.1, (p : Int)) else []) → x.1 = t.1 := by
    intro t x h
    split at h
    · obtain ⟨k, _, rfl⟩ := List.mem_map.1 h; rfl
    · simp at h
  unfold asked
  rw [List.nodup_iff_pairwise_ne, List.pairwise_flatMap]
  refine ⟨fun t _ => ?_, ?_⟩
  · split
    · rw [List.pairwise_map]
      refine List.Pairwise.imp ?_ (List.nodup_iff_pairwise_ne.1 List.nodup_range)
      intro a b h e
      simp only [Prod.mk.injEq, true_and] at e
      omega
    · exact .nil
  · rw [List.nodup_iff_pairwise_ne, List.pairwise_map] at hn
    exact hn.imp fun h x hx y hy e => h (by rw [← hname _ _ hx, ← hname _ _ hy, e])
theorem wantedB_who {subs : List (ByteArray × OV × List ByteArray)} {t : ByteArray} : wantedB subs t subs.length = true ↔ 0 < (whoN subs t subs.length).length := by
  unfold wantedB whoN
  rw [List.any_eq_true, List.length_pos_iff_exists_mem]
  constructor
  · rintro ⟨x, h1, h2⟩; exact ⟨x, List.mem_filter.2 ⟨h1, h2⟩⟩
  · rintro ⟨x, h⟩; exact ⟨x, List.mem_filter.1 h⟩
/-- what is asked for is dealt, and nothing else -/
theorem mem_dealt {ts : List (ByteArray × Int)} {subs : List (ByteArray × OV × List ByteArray)} (r : RightP ts subs) (p : ByteArray × Int) : p ∈ dealt ts subs subs.length ↔ p ∈ asked subs ts := by
  unfold dealt asked
  simp only [List.mem_flatMap, List.mem_range]
  constructor
  · rintro ⟨i, hi, t, ht, hp⟩
    obtain ⟨k, hk, rfl, hw⟩ := mem_plc.1 hp
    refine ⟨t, ht, ?_⟩
    rw [if_pos (wantedB_who.2 (List.length_pos_of_mem (List.mem_of_getElem? hw)))]
    exact List.mem_map.2 ⟨k, List.mem_range.2 hk, rfl⟩
  · rintro ⟨t, ht, hp⟩
    split at hp
    · rename_i hw
      obtain ⟨k, hk, rfl⟩ := List.mem_map.1 hp
      have hk := List.mem_range.1 hk
      have hq : t.2.toNat < 9 := by have := r.parts t ht; omega
      have hm : (whoN subs t.1 subs.length).length < 17 := by have := whoN_len subs t.1 subs.length; have := r.lens.2; omega
      have hat := (at_facts hq hm (wantedB_who.1 hw) hk).2
      obtain ⟨i, hi⟩ : ∃ i, (whoN subs t.1 subs.length)[atP t.2.toNat (whoN subs t.1 subs.length).length k]? = some i := ⟨_, List.getElem?_eq_getElem hat⟩
      exact ⟨i, whoN_lt (List.mem_of_getElem? hi), t, ht, mem_plc.2 ⟨k, hk, rfl, hi⟩⟩
    · simp at hp
theorem dealt_len {ts : List (ByteArray × Int)} {subs : List (ByteArray × OV × List ByteArray)} (r : RightP ts subs) : (dealt ts subs subs.length).length = (asked subs ts).length := by
  have hn := asc_nodup (risingB_asc r.names)
  exact Nat.le_antisymm (len_le_of_sub (dealt_nodup hn subs _) (fun x hx => (mem_dealt r x).1 hx)) (len_le_of_sub (asked_nodup hn subs) (fun x hx => (mem_dealt r x).2 hx))
theorem dealt_next (ts : List (ByteArray × Int)) (subs : List (ByteArray × OV × List ByteArray)) (k : Nat) : dealt ts subs (k + 1) = dealt ts subs k ++ ts.flatMap (plc subs k) := by
  unfold dealt; rw [List.range_succ, List.flatMap_append]; simp
theorem asked_next {subs : List (ByteArray × OV × List ByteArray)} {ts : List (ByteArray × Int)} {k : Nat} {t : ByteArray × Int} (h : ts[k]? = some t) : (asked subs (ts.take (k + 1))).length = (asked subs (ts.take k)).length + if wantedB subs t.1 subs.length then t.2.toNat else 0 := by
  unfold asked
  rw [take_next h, List.flatMap_append, List.length_append]
  congr 1
  simp only [List.flatMap_cons, List.flatMap_nil, List.append_nil]
  split <;> simp
theorem wantedB_next {subs : List (ByteArray × OV × List ByteArray)} {t : ByteArray} {k : Nat} {s} (h : subs[k]? = some s) : wantedB subs t (k + 1) = (wantedB subs t k || decide (t ∈ s.2.2)) := by
  unfold wantedB
  rw [List.range_succ, List.any_append]
  simp [wantsAt, h]
/-- a map that counts each thing once -/
theorem mget_ones {κ : Type} [DecidableEq κ] (L : List κ) (k : κ) : mget (L.map fun p => (p, (1 : Int))) k = if k ∈ L then some 1 else none := by
  induction L with
  | nil => simp [mget]
  | cons a L ih =>
    simp only [List.map_cons, mget, List.mem_cons]
    by_cases h : k = a
    · simp [h]
    · simp [h, ih]
theorem mset_new {κ ν : Type} [DecidableEq κ] {M : List (κ × ν)} {k : κ} (h : mget M k = none) (v : ν) : mset M k v = M ++ [(k, v)] := by
  have : mfind M k 0 = none := by
    have := mfind_get M k 0
    rw [h] at this
    cases hq : mfind M k 0 with
    | none => rfl
    | some q => rw [hq] at this; cases this
  exact (mfind_no this).1 v
theorem mset_twice {κ ν : Type} [DecidableEq κ] (M : List (κ × ν)) (k : κ) (u v : ν) : mset (mset M k u) k v = mset M k v := by
  induction M with
  | nil => simp [mset]
  | cons p M ih =>
    obtain ⟨a, x⟩ := p
    simp only [mset]
    split
    · rename_i h; simp [mset, h]
    · rename_i h; simp [mset, h, ih]
theorem asked_owner {ts : List (ByteArray × Int)} {subs : List (ByteArray × OV × List ByteArray)} {shs : List (ByteArray × OV × List (ByteArray × Int))} (r : RightP ts subs) (hC : shs.map (fun x => (x.1, x.2.2)) = rangeS ts subs) {p : ByteArray × Int} (hp : p ∈ asked subs ts) : ∃ m, ownerOf (shs.map fun x => (x.1, x.2.2)) p = some m ∧ m ≠ ⟨#[]⟩ := by
  have hp := (mem_dealt r p).2 hp
  unfold dealt at hp
  simp only [List.mem_flatMap, List.mem_range] at hp
  obtain ⟨i, hi, hp⟩ := hp
  obtain ⟨s, hs⟩ : ∃ s, subs[i]? = some s := ⟨subs[i], by simp [hi]⟩
  unfold ownerOf
  have hne : ∀ s ∈ subs, s.1 ≠ (⟨#[]⟩ : ByteArray) := fun s hs e => by
    have h1 := r.members
    unfold risingB at h1
    simp only [Bool.and_eq_true, List.all_eq_true] at h1
    have := h1.1.1 s.1 (List.mem_map_of_mem hs)
    rw [e, nameB_nil rfl] at this
    cases this
  cases hf : (shs.map fun x => (x.1, x.2.2)).find? (fun x => decide (p ∈ x.2)) with
  | none =>
    rw [List.find?_eq_none] at hf
    have : (s.1, ts.flatMap (plc subs i)) ∈ shs.map fun x => (x.1, x.2.2) := by
      rw [hC]; exact List.mem_of_getElem? (rangeC_get (c := fun i => ts.flatMap (plc subs i)) hs)
    have := hf _ this
    simp only [decide_eq_true_eq, List.mem_flatMap] at this
    exact absurd (List.mem_flatMap.1 (by simpa [List.mem_flatMap] using hp)) this
  | some x =>
    refine ⟨x.1, rfl, ?_⟩
    have hx := List.mem_of_find?_eq_some hf
    rw [hC] at hx
    obtain ⟨j, hj, e⟩ := List.getElem_of_mem hx
    have hjl : j < subs.length := by have h := hj; unfold rangeS at h; rw [rangeC_len] at h; exact h
    obtain ⟨s', hs'⟩ : ∃ s, subs[j]? = some s := ⟨subs[j], by simp [hjl]⟩
    have h1 : (rangeS ts subs)[j]? = some (s'.1, ts.flatMap (plc subs j)) := rangeC_get (c := fun i => ts.flatMap (plc subs i)) hs'
    rw [List.getElem?_eq_getElem hj, e] at h1
    rw [Option.some.inj h1]
    exact hne s' (List.mem_of_getElem? hs')
end Go.Proofs.Ytfceebbkjogedaa
