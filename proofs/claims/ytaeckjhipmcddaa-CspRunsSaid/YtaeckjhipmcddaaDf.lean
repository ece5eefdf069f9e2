/- Layer 15: the chapter's example. -/
import Derived.Test.YtaeckjhipmcddaaDe
set_option maxRecDepth 100000
namespace Go.Proofs.Ytaeckjhipmcddaa
open Go Go.Eng
theorem awake15 (w : World) : Rets Try.prog 22 #[] w fun u w' => u = .bool true ∧ Fr No w w' := by
  refine rets_of Try.func22 rfl Try.ntmps22 rfl rfl (by kernel_rfl) ?_
  (apply vC_seq; apply vC_region; ((apply vL_val); (case h => ((apply opv_E); exact rfl))); apply vL_nil; apply seqP_normal; apply vC_seq; apply vC_region)
  refine vL_callF rfl (r_new w) rfl ?_
  rintro _ w1 ⟨rb, sb, qb, lv, rfl, hf1, hrb, R⟩
  (((apply vL_val); (case h => ((apply opv_buildS); exact rfl; (first | exact (rfl : _ = some []) | exact (rfl : _ = some [_]) | exact (rfl : _ = some [_, _]) | exact (rfl : _ = some [_, _, _]) | exact (rfl : _ = some [_, _, _, _]) | exact (rfl : _ = some [_, _, _, _, _]) | exact (rfl : _ = some [_, _, _, _, _, _]) | exact (rfl : _ = some [_, _, _, _, _, _, _]) | exact (rfl : _ = some [_, _, _, _, _, _, _, _]) | exact (rfl : _ = some [_, _, _, _, _, _, _, _, _]) | exact (rfl : _ = some [_, _, _, _, _, _, _, _, _, _]) | exact (rfl : _ = some [_, _, _, _, _, _, _, _, _, _, _]) | exact (rfl : _ = some [_, _, _, _, _, _, _, _, _, _, _, _]) | exact (rfl : _ = some [_, _, _, _, _, _, _, _, _, _, _, _, _]) | exact (rfl : _ = some [_, _, _, _, _, _, _, _, _, _, _, _, _, _]) | exact (rfl : _ = some [_, _, _, _, _, _, _, _, _, _, _, _, _, _, _]) | exact (rfl : _ = some [_, _, _, _, _, _, _, _, _, _, _, _, _, _, _, _]))))); ((apply vL_val); (case h => ((apply opw_buildSl); exact rfl; exact rfl; exact rfl; (first | exact (rfl : _ = some []) | exact (rfl : _ = some [_]) | exact (rfl : _ = some [_, _]) | exact (rfl : _ = some [_, _, _]) | exact (rfl : _ = some [_, _, _, _]) | exact (rfl : _ = some [_, _, _, _, _]) | exact (rfl : _ = some [_, _, _, _, _, _]) | exact (rfl : _ = some [_, _, _, _, _, _, _]) | exact (rfl : _ = some [_, _, _, _, _, _, _, _]) | exact (rfl : _ = some [_, _, _, _, _, _, _, _, _]) | exact (rfl : _ = some [_, _, _, _, _, _, _, _, _, _]) | exact (rfl : _ = some [_, _, _, _, _, _, _, _, _, _, _]) | exact (rfl : _ = some [_, _, _, _, _, _, _, _, _, _, _, _]) | exact (rfl : _ = some [_, _, _, _, _, _, _, _, _, _, _, _, _]) | exact (rfl : _ = some [_, _, _, _, _, _, _, _, _, _, _, _, _, _]) | exact (rfl : _ = some [_, _, _, _, _, _, _, _, _, _, _, _, _, _, _]) | exact (rfl : _ = some [_, _, _, _, _, _, _, _, _, _, _, _, _, _, _, _]))))); ((apply vL_val); (case h => ((apply opv_buildS); exact rfl; (first | exact (rfl : _ = some []) | exact (rfl : _ = some [_]) | exact (rfl : _ = some [_, _]) | exact (rfl : _ = some [_, _, _]) | exact (rfl : _ = some [_, _, _, _]) | exact (rfl : _ = some [_, _, _, _, _]) | exact (rfl : _ = some [_, _, _, _, _, _]) | exact (rfl : _ = some [_, _, _, _, _, _, _]) | exact (rfl : _ = some [_, _, _, _, _, _, _, _]) | exact (rfl : _ = some [_, _, _, _, _, _, _, _, _]) | exact (rfl : _ = some [_, _, _, _, _, _, _, _, _, _]) | exact (rfl : _ = some [_, _, _, _, _, _, _, _, _, _, _]) | exact (rfl : _ = some [_, _, _, _, _, _, _, _, _, _, _, _]) | exact (rfl : _ = some [_, _, _, _, _, _, _, _, _, _, _, _, _]) | exact (rfl : _ = some [_, _, _, _, _, _, _, _, _, _, _, _, _, _]) | exact (rfl : _ = some [_, _, _, _, _, _, _, _, _, _, _, _, _, _, _]) | exact (rfl : _ = some [_, _, _, _, _, _, _, _, _, _, _, _, _, _, _, _]))))); (iterate 2 (((apply vL_val); (case h => ((apply opw_buildSl); exact rfl; exact rfl; exact rfl; (first | exact (rfl : _ = some []) | exact (rfl : _ = some [_]) | exact (rfl : _ = some [_, _]) | exact (rfl : _ = some [_, _, _]) | exact (rfl : _ = some [_, _, _, _]) | exact (rfl : _ = some [_, _, _, _, _]) | exact (rfl : _ = some [_, _, _, _, _, _]) | exact (rfl : _ = some [_, _, _, _, _, _, _]) | exact (rfl : _ = some [_, _, _, _, _, _, _, _]) | exact (rfl : _ = some [_, _, _, _, _, _, _, _, _]) | exact (rfl : _ = some [_, _, _, _, _, _, _, _, _, _]) | exact (rfl : _ = some [_, _, _, _, _, _, _, _, _, _, _]) | exact (rfl : _ = some [_, _, _, _, _, _, _, _, _, _, _, _]) | exact (rfl : _ = some [_, _, _, _, _, _, _, _, _, _, _, _, _]) | exact (rfl : _ = some [_, _, _, _, _, _, _, _, _, _, _, _, _, _]) | exact (rfl : _ = some [_, _, _, _, _, _, _, _, _, _, _, _, _, _, _]) | exact (rfl : _ = some [_, _, _, _, _, _, _, _, _, _, _, _, _, _, _, _]))))))); ((apply vL_val); (case h => ((apply opv_buildS); exact rfl; (first | exact (rfl : _ = some []) | exact (rfl : _ = some [_]) | exact (rfl : _ = some [_, _]) | exact (rfl : _ = some [_, _, _]) | exact (rfl : _ = some [_, _, _, _]) | exact (rfl : _ = some [_, _, _, _, _]) | exact (rfl : _ = some [_, _, _, _, _, _]) | exact (rfl : _ = some [_, _, _, _, _, _, _]) | exact (rfl : _ = some [_, _, _, _, _, _, _, _]) | exact (rfl : _ = some [_, _, _, _, _, _, _, _, _]) | exact (rfl : _ = some [_, _, _, _, _, _, _, _, _, _]) | exact (rfl : _ = some [_, _, _, _, _, _, _, _, _, _, _]) | exact (rfl : _ = some [_, _, _, _, _, _, _, _, _, _, _, _]) | exact (rfl : _ = some [_, _, _, _, _, _, _, _, _, _, _, _, _]) | exact (rfl : _ = some [_, _, _, _, _, _, _, _, _, _, _, _, _, _]) | exact (rfl : _ = some [_, _, _, _, _, _, _, _, _, _, _, _, _, _, _]) | exact (rfl : _ = some [_, _, _, _, _, _, _, _, _, _, _, _, _, _, _, _]))))); ((apply vL_val); (case h => ((apply opw_boxn); exact rfl))); ((apply vL_val); (case h => ((apply opv_E); exact rfl))); apply vL_nil; apply seqP_normal; (iterate 2 (apply vC_seq)); apply vC_region; (iterate 2 (((apply vL_val); (case h => ((apply opv_E); exact rfl))))); ((apply vL_val); (case h => ((apply opv_fieldAddr); exact rfl))); ((apply vL_val); (case h => ((apply opv_loadb1); exact rfl; exact rfl; (first | assumption | infer_instance); exact rfl))); ((apply vL_val); (case h => ((apply opv_eql_pnil); exact rfl; exact rfl; (simp; done)))); ((apply vL_val); (case h => ((apply opv_E); exact rfl))); ((apply vL_wanted); exact rfl); ((apply vL_val); (case h => ((apply opv_E); exact rfl))); ((apply vL_wanted); exact rfl))
  have eP : ∀ w' : World, Rd w'.heap 3 eE (.slice (some ⟨0, 0, none⟩) 0 0) [] := fun w' => Rd.empty _ _ _ _
  refine vL_gen (fun w' => Fr No w1 w' ∧ w'.heap.size = w1.heap.size + 4 ∧
    Blk w'.heap w1.heap.size [.int .i64 1, .int .i64 0, .int .i64 0] 90 ∧
    Blk w'.heap (w1.alloc (.cells #[.int .i64 1, .int .i64 0, .int .i64 0] 90)).heap.size [.int .i64 2, .int .i64 0, .int .i64 0] 90 ∧
    Blk w'.heap ((w1.alloc (.cells #[.int .i64 1, .int .i64 0, .int .i64 0] 90)).alloc (.cells #[.int .i64 2, .int .i64 0, .int .i64 0] 90)).heap.size [.slice (some ⟨w1.heap.size, 0, none⟩) 1 1, .slice (some ⟨(w1.alloc (.cells #[.int .i64 1, .int .i64 0, .int .i64 0] 90)).heap.size, 0, none⟩) 1 1] 91 ∧
    Blk w'.heap (((w1.alloc (.cells #[.int .i64 1, .int .i64 0, .int .i64 0] 90)).alloc (.cells #[.int .i64 2, .int .i64 0, .int .i64 0] 90)).alloc (.cells #[.slice (some ⟨w1.heap.size, 0, none⟩) 1 1, .slice (some ⟨(w1.alloc (.cells #[.int .i64 1, .int .i64 0, .int .i64 0] 90)).heap.size, 0, none⟩) 1 1] 91)).heap.size [pt rb, .slice (some ⟨((w1.alloc (.cells #[.int .i64 1, .int .i64 0, .int .i64 0] 90)).alloc (.cells #[.int .i64 2, .int .i64 0, .int .i64 0] 90)).heap.size, 0, none⟩) 2 2, .slice none 0 0, .slice none 0 0] 60) ⟨by (repeat (first | exact Fr.refl _ _ | assumption | with_reducible apply Fr.allocSet | with_reducible apply Fr.alloc | with_reducible apply Fr.drewN | with_reducible apply Fr.drew | ((with_reducible apply Fr.set); rotate_left; (right; ((try simp only [alloc_size]); omega))) | (refine Fr.trans ?_ (by assumption)))), by simp, inferInstance, inferInstance, Blk.as inferInstance rfl, Blk.as inferInstance rfl⟩ ?_
  have e2 : (w1.alloc (.cells #[.int .i64 1, .int .i64 0, .int .i64 0] 90)).heap.size = w1.heap.size + 1 := by simp
  have e3 : ((w1.alloc (.cells #[.int .i64 1, .int .i64 0, .int .i64 0] 90)).alloc (.cells #[.int .i64 2, .int .i64 0, .int .i64 0] 90)).heap.size = w1.heap.size + 2 := by simp
  have e4 : (((w1.alloc (.cells #[.int .i64 1, .int .i64 0, .int .i64 0] 90)).alloc (.cells #[.int .i64 2, .int .i64 0, .int .i64 0] 90)).alloc (.cells #[.slice (some ⟨w1.heap.size, 0, none⟩) 1 1, .slice (some ⟨(w1.alloc (.cells #[.int .i64 1, .int .i64 0, .int .i64 0] 90)).heap.size, 0, none⟩) 1 1] 91)).heap.size = w1.heap.size + 3 := by simp
  rintro w2 ⟨hf2, hs2, k1, k2, k3, k4⟩
  generalize (((w1.alloc (.cells #[.int .i64 1, .int .i64 0, .int .i64 0] 90)).alloc (.cells #[.int .i64 2, .int .i64 0, .int .i64 0] 90)).alloc (.cells #[.slice (some ⟨w1.heap.size, 0, none⟩) 1 1, .slice (some ⟨(w1.alloc (.cells #[.int .i64 1, .int .i64 0, .int .i64 0] 90)).heap.size, 0, none⟩) 1 1] 91)).heap.size = wb at *
  generalize ((w1.alloc (.cells #[.int .i64 1, .int .i64 0, .int .i64 0] 90)).alloc (.cells #[.int .i64 2, .int .i64 0, .int .i64 0] 90)).heap.size = b3 at *
  generalize (w1.alloc (.cells #[.int .i64 1, .int .i64 0, .int .i64 0] 90)).heap.size = b2 at *
  obtain ⟨P, hPd⟩ : ∃ P : List (OV × List (Int × Int × Int)), P = [(⟨.slice (some ⟨w1.heap.size, 0, none⟩) 1 1, rfl⟩, [(1, 0, 0)]), (⟨.slice (some ⟨b2, 0, none⟩) 1 1, rfl⟩, [(2, 0, 0)])] := ⟨_, rfl⟩
  have hPm : P.map (·.2) = [[(1, 0, 0)], [(2, 0, 0)]] := by rw [hPd]; rfl
  have rdOf : ∀ {α : Type} {enc : α → List Value} {sz : Nat} [EncOk enc sz] {b : Nat} {cs : List Value} {T : TypeId} (xs : List α), Blk w2.heap b cs T → xs.flatMap enc = cs → xs.length ≤ 10 → Rd w2.heap sz enc (.slice (some ⟨b, 0, none⟩) xs.length xs.length) xs := fun {α enc sz} ie {b cs T} xs hb hc hl => by
    have : Own w2.heap T sz enc (.slice (some ⟨b, 0, none⟩) xs.length xs.length) xs := ⟨fun x _ => ie.len x, .inr ⟨b, xs.length, cs, rfl, hb, Nat.le_refl _, by simp [maxLen]; omega, by rw [← hc, flatMap_len xs (fun x _ => ie.len x)], by rw [← hc, List.take_of_length_le]; rw [flatMap_len xs (fun x _ => ie.len x)]; exact Nat.le_refl _⟩⟩
    exact this.rd
  have G2 : Pg (fun k => k < w.heap.size ∨ (w1.heap.size ≤ k ∧ k < w1.heap.size + 3)) w2.heap (.slice (some ⟨b3, 0, none⟩) 2 2) P := by
    refine ⟨⟨?_, ?_, ?_, ?_⟩, ?_, by rw [hPd]; exact ⟨by simp, by simp⟩⟩
    · rw [hPd]
      exact rdOf (enc := oE) [(⟨.slice (some ⟨w1.heap.size, 0, none⟩) 1 1, rfl⟩, [(1, 0, 0)]), (⟨.slice (some ⟨b2, 0, none⟩) 1 1, rfl⟩, [(2, 0, 0)])] k3 rfl (by simp)
    · rw [hPd]
      intro y hy
      simp at hy
      rcases hy with rfl | rfl
      · exact rdOf (enc := eE) [(1, 0, 0)] k1 rfl (by simp)
      · exact rdOf (enc := eE) [(2, 0, 0)] k2 rfl (by simp)
    · intro b hb _
      obtain rfl : b3 = b := Option.some.inj hb
      exact .inr ⟨by omega, by omega⟩
    · rw [hPd]
      intro y hy b hb _
      simp at hy
      rcases hy with rfl | rfl
      · obtain rfl : w1.heap.size = b := Option.some.inj hb
        exact .inr ⟨by omega, by omega⟩
      · obtain rfl : b2 = b := Option.some.inj hb
        exact .inr ⟨by omega, by omega⟩
    · rw [hPd]
      intro y hy q hq
      simp at hy
      rcases hy with rfl | rfl
      · simp at hq; subst hq; decide
      · simp at hq; subst hq; decide
  have hs1 := hf1.size
  have hPl : P.length = 2 := by rw [hPd]; rfl
  have W2 : Wq (fun k => k < w.heap.size ∨ (w1.heap.size ≤ k ∧ k < w1.heap.size + 3)) (fun _ => False) w2 wb rb (.slice (some ⟨b3, 0, none⟩) 2 2) ⟨[], [], []⟩ := Wq.init R hf2 k4 (by omega) (fun k hk => by
    rcases hk with h | h
    · exact ⟨by omega, .inl h, by omega⟩
    · exact ⟨by omega, .inr h.1, by omega⟩) rfl
  have j0 : Jw (fun k => k < w.heap.size ∨ (w1.heap.size ≤ k ∧ k < w1.heap.size + 3)) w w2 wb rb (.slice (some ⟨b3, 0, none⟩) 2 2) (fun _ => False) P 0 ⟨[], [], []⟩ := ⟨W2, G2, AOkR.init, AIn.init _, hf1.trans hf2, fun k hk => .inl hk⟩
  clear W2 G2 rdOf k1 k2 k3 R hf1 hf2 e2 e3 e4 hs2 hs1 hPd eP
  generalize (fun k => k < w.heap.size ∨ (w1.heap.size ≤ k ∧ k < w1.heap.size + 3)) = X at *
  generalize (Value.slice (some ⟨b3, 0, none⟩) 2 2) = vp at *
  refine vL_callF rfl (j0.spawn (by decide) (by decide) (pg := 0) (by omega)) rfl ?_
  rintro _ w3 ⟨rfl, K3, j3⟩
  have hs3 : (AS.spawn ⟨[], [], []⟩ 0) = (⟨[⟨0, 0, 0, 1⟩], [0], []⟩, 0) := rfl
  rw [hs3] at j3
  rw [hs3]
  obtain ⟨wt3, we3, bs3, h31, h32, h33, h34, h35, h36, h37, h38⟩ := j3.W.see
  (((apply vL_wanted); exact rfl); (iterate 3 (((apply vL_val); (case h => ((apply opv_E); exact rfl))))); ((apply vL_wanted); exact rfl); ((apply vL_val); (case h => ((apply opv_E); exact rfl))); ((apply vL_wanted); exact rfl))
  refine vL_callF rfl (j3.spawn (by decide) (by decide) (pg := 1) (by omega)) rfl ?_
  rintro _ w4 ⟨rfl, K4, j4⟩
  have hs4 : (AS.spawn ⟨[⟨0, 0, 0, 1⟩], [0], []⟩ 1) = (⟨[⟨0, 0, 0, 1⟩, ⟨1, 0, 0, 1⟩], [0, 1], []⟩, 0) := rfl
  rw [hs4] at j4
  rw [hs4]
  obtain ⟨wt4, we4, bs4, h41, h42, h43, h44, h45, h46, h47, h48⟩ := j4.W.see
  (((apply vL_wanted); exact rfl); (iterate 3 (((apply vL_val); (case h => ((apply opv_E); exact rfl))))); ((apply vL_wanted); exact rfl); ((apply vL_val); (case h => ((apply opv_E); exact rfl))); ((apply vL_wanted); exact rfl); ((apply vL_val); (case h => ((apply opv_E); exact rfl))); ((apply vL_wanted); exact rfl); ((apply vL_val); (case h => ((apply opv_fieldAddr); exact rfl))); ((apply vL_wanted); exact rfl); ((apply vL_val); (case h => ((apply opv_loadb1); exact rfl; exact rfl; (first | assumption | infer_instance); exact rfl))); ((apply vL_wanted); exact rfl))
  have hs5 : AS.step [[(1, 0, 0)], [(2, 0, 0)]] ⟨[⟨0, 0, 0, 1⟩, ⟨1, 0, 0, 1⟩], [0, 1], []⟩ 0 = some ⟨[⟨0, 1, 0, 1⟩, ⟨1, 0, 0, 1⟩], [1, 0], [(0, 0, 0)]⟩ := rfl
  refine vL_callF rfl (j4.step (by decide) 0 (by decide)) rfl ?_
  rw [hPm, hs5]
  rintro _ w5 (⟨h, _⟩ | ⟨S5, K5, h, rfl, j5⟩)
  · cases h
  obtain rfl := Option.some.inj h
  clear h
  obtain ⟨wt5, we5, bs5, h51, h52, h53, h54, h55, h56, h57, h58⟩ := j5.W.see
  (((apply vL_wanted); exact rfl); ((apply vL_val); (case h => ((apply opv_not); exact rfl))); (iterate 2 (((apply vL_val); (case h => ((apply opv_E); exact rfl))))); ((apply vL_wanted); exact rfl); ((apply vL_val); (case h => ((apply opv_E); exact rfl))); ((apply vL_wanted); exact rfl); ((apply vL_val); (case h => ((apply opv_E); exact rfl))); ((apply vL_wanted); exact rfl); ((apply vL_val); (case h => ((apply opv_fieldAddr); exact rfl))); ((apply vL_wanted); exact rfl); ((apply vL_val); (case h => ((apply opv_loadb1); exact rfl; exact rfl; (first | assumption | infer_instance); exact rfl))); ((apply vL_wanted); exact rfl))
  have hs6 : AS.step [[(1, 0, 0)], [(2, 0, 0)]] ⟨[⟨0, 1, 0, 1⟩, ⟨1, 0, 0, 1⟩], [1, 0], [(0, 0, 0)]⟩ 0 = some ⟨[⟨0, 1, 0, 1⟩, ⟨1, 1, 0, 3⟩], [0], [(0, 0, 0), (1, 0, 0)]⟩ := rfl
  refine vL_callF rfl (j5.step (by decide) 0 (by decide)) rfl ?_
  rw [hPm, hs6]
  rintro _ w6 (⟨h, _⟩ | ⟨S6, K6, h, rfl, j6⟩)
  · cases h
  obtain rfl := Option.some.inj h
  clear h
  obtain ⟨wt6, we6, bs6, h61, h62, h63, h64, h65, h66, h67, h68⟩ := j6.W.see
  (((apply vL_wanted); exact rfl); ((apply vL_val); (case h => ((apply opv_not); exact rfl))); ((apply vL_val); (case h => ((apply opv_E); exact rfl))); apply vL_nil; apply seqP_normal; ((apply vC_cond_false); exact rfl); apply vC_skip; apply seqP_normal; (iterate 2 (apply vC_seq)); apply vC_region; (iterate 2 (((apply vL_val); (case h => ((apply opv_E); exact rfl))))); ((apply vL_val); (case h => ((apply opv_fieldAddr); exact rfl))); ((apply vL_val); (case h => ((apply opv_loadb1); exact rfl; exact rfl; (first | assumption | infer_instance); exact rfl))))
  refine vL_callF rfl (wq_ready j6.W j6.a) rfl ?_
  rintro v7 w7 ⟨hf7, ho7, hone7, hfr7⟩
  obtain ⟨ra, rn, rc, rfl⟩ := ho7.isSlice
  (((apply vL_val); (case h => ((apply opw_buildSl); exact rfl; exact rfl; exact rfl; (first | exact (rfl : _ = some []) | exact (rfl : _ = some [_]) | exact (rfl : _ = some [_, _]) | exact (rfl : _ = some [_, _, _]) | exact (rfl : _ = some [_, _, _, _]) | exact (rfl : _ = some [_, _, _, _, _]) | exact (rfl : _ = some [_, _, _, _, _, _]) | exact (rfl : _ = some [_, _, _, _, _, _, _]) | exact (rfl : _ = some [_, _, _, _, _, _, _, _]) | exact (rfl : _ = some [_, _, _, _, _, _, _, _, _]) | exact (rfl : _ = some [_, _, _, _, _, _, _, _, _, _]) | exact (rfl : _ = some [_, _, _, _, _, _, _, _, _, _, _]) | exact (rfl : _ = some [_, _, _, _, _, _, _, _, _, _, _, _]) | exact (rfl : _ = some [_, _, _, _, _, _, _, _, _, _, _, _, _]) | exact (rfl : _ = some [_, _, _, _, _, _, _, _, _, _, _, _, _, _]) | exact (rfl : _ = some [_, _, _, _, _, _, _, _, _, _, _, _, _, _, _]) | exact (rfl : _ = some [_, _, _, _, _, _, _, _, _, _, _, _, _, _, _, _]))))))
  refine vL_callF rfl (kit_same_int _ _ [0] [0] _ (ho7.rd.alloc) (Rd.new1 iE 0 rfl)) rfl ?_
  rintro _ w8 ⟨⟨k8, rfl⟩, rfl⟩
  have hf8 : Fr No w6 ((w7.alloc (.cells #[.int .i64 0] 3)).drewN k8) := (hf7.alloc _).drewN k8
  have j8 := j6.frN hf8
  have h81 := h61.frN hf8
  (((apply vL_val); (case h => ((apply opv_not); exact rfl))); ((apply vL_val); (case h => ((apply opv_E); exact rfl))); ((apply vL_wanted); exact rfl); ((apply vL_val); (case h => ((apply opv_E); exact rfl))); ((apply vL_wanted); exact rfl); ((apply vL_val); (case h => ((apply opv_E); exact rfl))); ((apply vL_wanted); exact rfl); ((apply vL_val); (case h => ((apply opv_fieldAddr); exact rfl))); ((apply vL_wanted); exact rfl); ((apply vL_val); (case h => ((apply opv_loadb1); exact rfl; exact rfl; (first | assumption | infer_instance); exact rfl))); ((apply vL_wanted); exact rfl))
  refine vL_callF rfl (wq_parked j8.W (by decide)) rfl ?_
  rintro v9 w9 ⟨hf9, ho9, hone9, hfr9⟩
  have hpk : parkedA [(⟨0, 1, 0, 1⟩ : AT), ⟨1, 1, 0, 3⟩] 2 = [1] := rfl
  rw [show ([(⟨0, 1, 0, 1⟩ : AT), ⟨1, 1, 0, 3⟩] : List AT).length = 2 from rfl, hpk] at ho9
  obtain ⟨qa, qn, qc, rfl⟩ := ho9.isSlice
  (((apply vL_wanted); exact rfl); ((apply vL_val); (case h => ((apply opw_buildSl); exact rfl; exact rfl; exact rfl; (first | exact (rfl : _ = some []) | exact (rfl : _ = some [_]) | exact (rfl : _ = some [_, _]) | exact (rfl : _ = some [_, _, _]) | exact (rfl : _ = some [_, _, _, _]) | exact (rfl : _ = some [_, _, _, _, _]) | exact (rfl : _ = some [_, _, _, _, _, _]) | exact (rfl : _ = some [_, _, _, _, _, _, _]) | exact (rfl : _ = some [_, _, _, _, _, _, _, _]) | exact (rfl : _ = some [_, _, _, _, _, _, _, _, _]) | exact (rfl : _ = some [_, _, _, _, _, _, _, _, _, _]) | exact (rfl : _ = some [_, _, _, _, _, _, _, _, _, _, _]) | exact (rfl : _ = some [_, _, _, _, _, _, _, _, _, _, _, _]) | exact (rfl : _ = some [_, _, _, _, _, _, _, _, _, _, _, _, _]) | exact (rfl : _ = some [_, _, _, _, _, _, _, _, _, _, _, _, _, _]) | exact (rfl : _ = some [_, _, _, _, _, _, _, _, _, _, _, _, _, _, _]) | exact (rfl : _ = some [_, _, _, _, _, _, _, _, _, _, _, _, _, _, _, _]))))); ((apply vL_wanted); exact rfl))
  refine vL_callF rfl (kit_same_int _ _ [1] [1] _ (ho9.rd.alloc) (Rd.new1 iE 1 rfl)) rfl ?_
  rintro _ w10 ⟨⟨k10, rfl⟩, rfl⟩
  have hf10 : Fr No w6 ((w9.alloc (.cells #[.int .i64 1] 3)).drewN k10) := hf8.trans ((hf9.alloc _).drewN k10)
  have j10 := j6.frN hf10
  have h101 := h61.frN hf10
  clear j6 j8 h81 h61 h62 h63 h64 h65 h66 h67 h68 hf8 hf7 hf9 ho7 ho9
  generalize (w9.alloc (.cells #[.int .i64 1] 3)).drewN k10 = w11 at *
  (((apply vL_wanted); exact rfl); ((apply vL_val); (case h => ((apply opv_not); exact rfl))); (iterate 2 (((apply vL_val); (case h => ((apply opv_E); exact rfl))))); ((apply vL_wanted); exact rfl); ((apply vL_val); (case h => ((apply opv_E); exact rfl))); ((apply vL_wanted); exact rfl); ((apply vL_val); (case h => ((apply opv_E); exact rfl))); ((apply vL_wanted); exact rfl); ((apply vL_val); (case h => ((apply opv_fieldAddr); exact rfl))); ((apply vL_wanted); exact rfl); ((apply vL_val); (case h => ((apply opv_loadb1); exact rfl; exact rfl; (first | assumption | infer_instance); exact rfl))); ((apply vL_wanted); exact rfl))
  have hs11 : AS.step [[(1, 0, 0)], [(2, 0, 0)]] ⟨[⟨0, 1, 0, 1⟩, ⟨1, 1, 0, 3⟩], [0], [(0, 0, 0), (1, 0, 0)]⟩ 0 = some ⟨[⟨0, 2, 0, 0⟩, ⟨1, 1, 0, 3⟩], [], [(0, 0, 0), (1, 0, 0), (0, 1, 0)]⟩ := rfl
  refine vL_callF rfl (j10.step (by decide) 0 (by decide)) rfl ?_
  rw [hPm, hs11]
  rintro _ w12 (⟨h, _⟩ | ⟨S11, K11, h, rfl, j11⟩)
  · cases h
  obtain rfl := Option.some.inj h
  clear h
  obtain ⟨wt11, we11, bs11, h111, h112, h113, h114, h115, h116, h117, h118⟩ := j11.W.see
  (((apply vL_wanted); exact rfl); ((apply vL_val); (case h => ((apply opv_not); exact rfl))); (iterate 2 (((apply vL_val); (case h => ((apply opv_E); exact rfl))))); ((apply vL_wanted); exact rfl); ((apply vL_val); (case h => ((apply opv_E); exact rfl))); ((apply vL_wanted); exact rfl); ((apply vL_val); (case h => ((apply opv_E); exact rfl))); ((apply vL_wanted); exact rfl); ((apply vL_val); (case h => ((apply opv_fieldAddr); exact rfl))); ((apply vL_wanted); exact rfl); ((apply vL_val); (case h => ((apply opv_loadb1); exact rfl; exact rfl; (first | assumption | infer_instance); exact rfl))); ((apply vL_wanted); exact rfl))
  have hs12 : AS.step [[(1, 0, 0)], [(2, 0, 0)]] ⟨[⟨0, 2, 0, 0⟩, ⟨1, 1, 0, 3⟩], [], [(0, 0, 0), (1, 0, 0), (0, 1, 0)]⟩ 0 = none := rfl
  refine vL_callF rfl (j11.step (by decide) 0 (by decide)) rfl ?_
  rw [hPm, hs12]
  rintro _ w13 (⟨_, rfl, rfl⟩ | ⟨S13, K13, h, _⟩)
  rotate_left
  · cases h
  have hbl : bs11.length = 2 := h117
  obtain ⟨ba, bb, rfl⟩ : ∃ ba bb, bs11 = [ba, bb] := by
    match bs11, hbl with
    | [ba, bb], _ => exact ⟨ba, bb, rfl⟩
  obtain ⟨x0, hx0, hov0⟩ := h118 0 ba ⟨0, 2, 0, 0⟩ rfl rfl
  have hba : ([ba, bb] : List Nat)[(0 : Int).toNat]? = some ba := rfl
  have hbb : ([ba, bb] : List Nat)[(1 : Int).toNat]? = some bb := rfl
  ((iterate 2 (((apply vL_val); (case h => ((apply opv_E); exact rfl))))); ((apply vL_wanted); exact rfl); ((apply vL_val); (case h => ((apply opv_E); exact rfl))); ((apply vL_wanted); exact rfl); ((apply vL_val); (case h => ((apply opv_E); exact rfl))); ((apply vL_wanted); exact rfl); ((apply vL_val); (case h => ((apply opv_fieldAddr); exact rfl))); ((apply vL_wanted); exact rfl); ((apply vL_val); (case h => ((apply opv_loadb1); exact rfl; exact rfl; (first | assumption | infer_instance); exact rfl))); ((apply vL_wanted); exact rfl); ((apply vL_val); (case h => ((apply opv_indexAddr); (first | exact norm_eq rfl | ((conv => lhs; whnf) <;> exact rfl)); exact rfl; (first | assumption | infer_instance); (first | omega | (simp only [List.length_map]; omega)); (first | omega | (simp only [List.length_map]; omega))))); ((apply vL_wanted); exact rfl); ((apply vL_val); (case h => ((apply opv_ld_el); exact rfl; exact rfl; (first | assumption | infer_instance); assumption; exact rfl))); ((apply vL_wanted); exact rfl))
  refine vL_callF rfl (t_over hx0) rfl ?_
  rintro _ _ ⟨rfl, rfl⟩
  rw [hov0]
  (((apply vL_wanted); exact rfl); ((apply vL_val); (case h => ((apply opv_not); exact rfl))); ((apply vL_val); (case h => ((apply opv_E); exact rfl))); apply vL_nil; apply seqP_normal; ((apply vC_cond_false); exact rfl); apply vC_skip; apply seqP_normal; apply vC_seq; apply vC_region; (iterate 2 (((apply vL_val); (case h => ((apply opv_E); exact rfl))))); ((apply vL_val); (case h => ((apply opv_fieldAddr); exact rfl))); ((apply vL_val); (case h => ((apply opv_loadb1); exact rfl; exact rfl; (first | assumption | infer_instance); exact rfl))); ((apply vL_val); (case h => ((apply opv_indexAddr); (first | exact norm_eq rfl | ((conv => lhs; whnf) <;> exact rfl)); exact rfl; (first | assumption | infer_instance); (first | omega | (simp only [List.length_map]; omega)); (first | omega | (simp only [List.length_map]; omega))))); ((apply vL_val); (case h => ((apply opv_ld_el); exact rfl; exact rfl; (first | assumption | infer_instance); assumption; exact rfl))))
  refine vL_callF rfl (j11.wake h111 h112 (i := 1) (bb := bb) (b := ⟨1, 1, 0, 3⟩) rfl rfl 7) rfl ?_
  have hs14 : AS.wake ⟨[⟨0, 2, 0, 0⟩, ⟨1, 1, 0, 3⟩], [], [(0, 0, 0), (1, 0, 0), (0, 1, 0)]⟩ (1 : Nat) 7 = (⟨[⟨0, 2, 0, 0⟩, ⟨1, 1, 7, 1⟩], [1], [(0, 0, 0), (1, 0, 0), (0, 1, 0)]⟩, 0) := rfl
  rw [hs14]
  rintro _ w14 ⟨rfl, K14, j14⟩
  obtain ⟨wt14, we14, bs14, h141, h142, h143, h144, h145, h146, h147, h148⟩ := j14.W.see
  ((iterate 2 (((apply vL_val); (case h => ((apply opv_E); exact rfl))))); ((apply vL_wanted); exact rfl); ((apply vL_val); (case h => ((apply opv_E); exact rfl))); ((apply vL_wanted); exact rfl); ((apply vL_val); (case h => ((apply opv_E); exact rfl))); ((apply vL_wanted); exact rfl); ((apply vL_val); (case h => ((apply opv_fieldAddr); exact rfl))); ((apply vL_wanted); exact rfl); ((apply vL_val); (case h => ((apply opv_loadb1); exact rfl; exact rfl; (first | assumption | infer_instance); exact rfl))); ((apply vL_wanted); exact rfl))
  have hs15 : AS.step [[(1, 0, 0)], [(2, 0, 0)]] ⟨[⟨0, 2, 0, 0⟩, ⟨1, 1, 7, 1⟩], [1], [(0, 0, 0), (1, 0, 0), (0, 1, 0)]⟩ 0 = some ⟨[⟨0, 2, 0, 0⟩, ⟨1, 2, 0, 0⟩], [], [(0, 0, 0), (1, 0, 0), (0, 1, 0), (1, 1, 7)]⟩ := rfl
  refine vL_callF rfl (j14.step (by decide) 0 (by decide)) rfl ?_
  rw [hPm, hs15]
  rintro _ w15 (⟨h, _⟩ | ⟨S15, K15, h, rfl, j15⟩)
  · cases h
  obtain rfl := Option.some.inj h
  clear h
  obtain ⟨wt15, we15, bs15, h151, h152, h153, h154, h155, h156, h157, h158⟩ := j15.W.see
  have hle3 : ([(0, 0, 0), (1, 0, 0), (0, 1, 0), (1, 1, 7)] : List (Int × Int × Int)).length = 4 := rfl
  have he3 : ([(0, 0, 0), (1, 0, 0), (0, 1, 0), (1, 1, 7)] : List (Int × Int × Int))[(3 : Int).toNat]? = some (1, 1, 7) := rfl
  ((iterate 2 (((apply vL_val); (case h => ((apply opv_E); exact rfl))))); ((apply vL_wanted); exact rfl); ((apply vL_val); (case h => ((apply opv_E); exact rfl))); ((apply vL_wanted); exact rfl); ((apply vL_val); (case h => ((apply opv_E); exact rfl))); ((apply vL_wanted); exact rfl); ((apply vL_val); (case h => ((apply opv_fieldAddr); exact rfl))); ((apply vL_wanted); exact rfl); ((apply vL_val); (case h => ((apply opv_loadb1); exact rfl; exact rfl; (first | assumption | infer_instance); exact rfl))); ((apply vL_wanted); exact rfl); ((apply vL_val); (case h => ((apply opv_len); (first | exact norm_eq rfl | ((conv => lhs; whnf) <;> exact rfl)); (first | assumption | infer_instance)))); ((apply vL_wanted); exact rfl); (iterate 3 (((apply vL_val); (case h => ((apply opv_E); exact rfl))))); ((apply vL_wanted); exact rfl); ((apply vL_val); (case h => ((apply opv_E); exact rfl))); ((apply vL_wanted); exact rfl); ((apply vL_val); (case h => ((apply opv_E); exact rfl))); ((apply vL_wanted); exact rfl); ((apply vL_val); (case h => ((apply opv_fieldAddr); exact rfl))); ((apply vL_wanted); exact rfl); ((apply vL_val); (case h => ((apply opv_loadb1); exact rfl; exact rfl; (first | assumption | infer_instance); exact rfl))); ((apply vL_wanted); exact rfl); ((apply vL_val); (case h => ((apply opv_indexAddr); (first | exact norm_eq rfl | ((conv => lhs; whnf) <;> exact rfl)); exact rfl; (first | assumption | infer_instance); (first | omega | (simp only [List.length_map]; omega)); (first | omega | (simp only [List.length_map]; omega))))); ((apply vL_wanted); exact rfl); ((apply vL_val); (case h => ((apply opv_fieldAddr); exact rfl))); ((apply vL_wanted); exact rfl); ((apply vL_val); (case h => ((apply opv_ld_el); exact rfl; exact rfl; (first | assumption | infer_instance); assumption; exact rfl))); ((apply vL_wanted); exact rfl); (iterate 3 (((apply vL_val); (case h => ((apply opv_E); exact rfl))))); apply vL_nil; apply seqP_normal; apply vC_ret)
  (apply ret1; (case h1 => (first | exact norm_eq rfl | ((conv => lhs; whnf) <;> exact rfl))))
  exact ⟨rfl, j15.fr⟩
end Go.Proofs.Ytaeckjhipmcddaa
