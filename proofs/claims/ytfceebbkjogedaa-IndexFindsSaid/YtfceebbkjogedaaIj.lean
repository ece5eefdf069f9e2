/- The plain law of IndexFinds. -/
import Derived.Test.YtfceebbkjogedaaIh
set_option maxRecDepth 100000
namespace Go.Proofs.Ytfceebbkjogedaa
open Go Go.Eng

def preS (xs : List Int) (k : Nat) : Int := (xs.take k).sum
theorem preS_zero (xs : List Int) : preS xs 0 = 0 := by simp [preS]
theorem preS_succ {xs : List Int} {k : Nat} {n : Int} (h : xs[k]? = some n) : preS xs (k + 1) = preS xs k + n := by
  have hk : k < xs.length := (List.getElem?_eq_some_iff.1 h).1
  have hx : xs[k] = n := (List.getElem?_eq_some_iff.1 h).2
  unfold preS
  rw [List.take_succ_eq_append_getElem hk, List.sum_append, hx]
  simp
theorem preS_mono {xs : List Int} (h : xs.any badSize = false) : ∀ (d k : Nat), k + d ≤ xs.length → preS xs k ≤ preS xs (k + d) ∧ preS xs (k + d) ≤ preS xs k + (d : Int) * 1073741824 := by
  intro d k
  induction d with
  | zero => intro _; simp
  | succ d ih =>
    intro hk
    have hx : xs[k + d]? = some xs[k + d] := List.getElem?_eq_getElem (by omega)
    have hg := good_of h hx
    have := ih (by omega)
    rw [show k + (d + 1) = k + d + 1 by omega, preS_succ hx]
    omega
structure Goodx (xs : List Int) (every : Int) (k : Nat) (st : List (Int × Int) × Int × Int) : Prop where
  at' : st.2.1 = preS xs k
  pos : 0 < st.1.length
  first : st.1[0]? = some (0, 0)
  last : ∃ a, st.1[st.1.length - 1]? = some (a, st.2.2)
  ent : ∀ (i : Nat) (q : Int × Int), st.1[i]? = some q → 0 ≤ q.1 ∧ (q.1 < k ∨ q.1 = 0) ∧ q.2 = preS xs q.1.toNat
  up : ∀ (i : Nat) (q r : Int × Int), st.1[i]? = some q → st.1[i + 1]? = some r → q.1 < r.1 ∧ q.2 ≤ r.2
  gap : ∀ (i : Nat) (q : Int × Int), st.1[i]? = some q → ∀ j : Nat, q.1 ≤ j → j < k → (∀ (i' : Nat) (r : Int × Int), i < i' → st.1[i']? = some r → (j : Int) < r.1) → preS xs j - q.2 < every

theorem goodx {xs : List Int} {every : Int} (hev : 1 ≤ every) (h : xs.any badSize = false) : ∀ k, k ≤ xs.length → Goodx xs every k (buildS xs every k) := by
  intro k
  induction k with
  | zero =>
    intro _
    refine ⟨by simp [buildS, preS], by simp [buildS], by simp [buildS], ⟨0, by simp [buildS]⟩, fun i q hq => ?_, fun i q r hq hr => ?_, fun i q hq j _ hj => by omega⟩
    · have : i = 0 := by have := (List.getElem?_eq_some_iff.1 hq).1; simp [buildS] at this; omega
      subst this
      simp [buildS] at hq
      subst hq
      simp [preS]
    · have := (List.getElem?_eq_some_iff.1 hr).1
      simp [buildS] at this
  | succ k ih =>
    intro hk
    have hx : xs[k]? = some xs[k] := List.getElem?_eq_getElem (by omega)
    have ih := ih (by omega)
    have hg := good_of h hx
    rw [buildS_succ hx]
    generalize buildS xs every k = st at ih
    obtain ⟨out, at0, last⟩ := st
    obtain ⟨h1, h2, h3, ⟨a, h4⟩, h5, h6, h7⟩ := ih
    simp only at h1 h2 h3 h4 h5 h6 h7
    unfold stepB
    simp only
    split
    · rename_i hc
      have hk0 : k ≠ 0 := fun e => by
        subst e
        have := (h5 _ _ h4)
        have e0 : a = 0 := by omega
        subst e0
        simp [preS] at this h1
        omega
      refine ⟨by simp [preS_succ hx, h1], by simp, ?_, ⟨(k : Int), by simp⟩, fun i q hq => ?_, fun i q r hq hr => ?_, fun i q hq j hj1 hj2 hno => ?_⟩
      · simp only
        rw [List.getElem?_append_left h2]; exact h3
      · simp only at hq
        by_cases hi : i < out.length
        · rw [List.getElem?_append_left hi] at hq
          have := h5 i q hq
          exact ⟨this.1, by omega, this.2.2⟩
        · have e : i = out.length := by have := (List.getElem?_eq_some_iff.1 hq).1; simp at this; omega
          subst e
          simp at hq
          subst hq
          exact ⟨by simp, .inl (by simp; omega), by simp [h1]⟩
      · simp only at hq hr
        by_cases hi : i + 1 < out.length
        · rw [List.getElem?_append_left hi] at hr
          rw [List.getElem?_append_left (by omega)] at hq
          exact h6 i q r hq hr
        · have e : i + 1 = out.length := by have := (List.getElem?_eq_some_iff.1 hr).1; simp at this; omega
          rw [List.getElem?_append_left (by omega)] at hq
          rw [e] at hr
          simp at hr
          subst hr
          have := h5 i q hq
          refine ⟨by simp; omega, ?_⟩
          simp only [h1]
          rw [this.2.2]
          have := (preS_mono h (k - q.1.toNat) q.1.toNat (by omega)).1
          rw [show q.1.toNat + (k - q.1.toNat) = k by omega] at this
          exact this
      · simp only at hq hno
        by_cases hi : i < out.length
        · rw [List.getElem?_append_left hi] at hq
          have hjk : (j : Int) < k := hno out.length ((k : Int), at0) hi (by simp)
          exact h7 i q hq j hj1 (by omega) (fun i' r hi' hr => hno i' r hi' (by rw [List.getElem?_append_left (List.getElem?_eq_some_iff.1 hr).1]; exact hr))
        · have e : i = out.length := by have := (List.getElem?_eq_some_iff.1 hq).1; simp at this; omega
          subst e
          simp at hq
          subst hq
          have : j = k := by simp at hj1; omega
          subst this
          simp [h1]; omega
    · rename_i hc
      refine ⟨by simp [preS_succ hx, h1], h2, h3, ⟨a, h4⟩, fun i q hq => ?_, h6, fun i q hq j hj1 hj2 hno => ?_⟩
      · have := h5 i q hq
        exact ⟨this.1, by omega, this.2.2⟩
      · by_cases hj : j < k
        · exact h7 i q hq j hj1 hj hno
        · have e : j = k := by omega
          subst e
          by_cases hi : i = out.length - 1
          · subst hi
            simp only at hq
            rw [h4] at hq; cases hq
            omega
          · exfalso
            have hlt := (List.getElem?_eq_some_iff.1 hq).1
            simp only at hlt
            have hr := hno (out.length - 1) (a, last) (by omega) h4
            have := h5 _ _ h4
            have hz := h5 i q hq
            simp only at hr this
            omega

theorem build_right {xs : List Int} {every : Int} (hev : 1 ≤ every) (h : xs.any badSize = false) (hl : xs.length ≤ 65536) : rightL (buildS xs every xs.length).1 := by
  have g := goodx hev h xs.length (Nat.le_refl _)
  refine ⟨g.first, fun j hj a b ha hb => ?_⟩
  have h1 := g.up j a b ha hb
  have h2 := g.ent (j + 1) b hb
  have h3 := (preS_mono h b.1.toNat 0 (by omega)).2
  rw [preS_zero, show (0 : Nat) + b.1.toNat = b.1.toNat by omega] at h3
  simp [okPair]
  omega
end Go.Proofs.Ytfceebbkjogedaa
