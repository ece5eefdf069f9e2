/- Layer 16: the chapter's example: the walk. Layer 16: several wait to receive at one channel, each with a ticket of his own. Layer 16: who was served what: plain. Layer 16: ChansForget: the walk. Layer 16: programs that are tame. -/
import Derived.Test.YtbaidcnalkdhgaaGreatVp
set_option maxRecDepth 100000
namespace Go.Proofs.YtbaidcnalkdhgaaGreat
open Go Go.Eng
theorem len1 {α : Type} : ∀ {l : List α}, l.length = 1 → ∃ x, l = [x]
  | [x], _ => ⟨x, rfl⟩
theorem len2 {α : Type} : ∀ {l : List α}, l.length = 2 → ∃ x y, l = [x, y]
  | [x, y], _ => ⟨x, y, rfl⟩
def nl0 : OV := ⟨.slice none 0 0, rfl⟩
def pa16 (b1 b2 : Nat) : List (OV × List Do5) := [(⟨.slice (some ⟨b1, 0, none⟩) 2 2, rfl⟩, [⟨2, 0, 5, nl0, false⟩, ⟨4, 0, 0, nl0, false⟩]), (⟨.slice (some ⟨b2, 0, none⟩) 2 2, rfl⟩, [⟨3, 0, 0, nl0, false⟩, ⟨3, 0, 0, nl0, false⟩])]
def Qa16 : List (List Do5) := [[⟨2, 0, 5, nl0, false⟩, ⟨4, 0, 0, nl0, false⟩], [⟨3, 0, 0, nl0, false⟩, ⟨3, 0, 0, nl0, false⟩]]
/-- the last that task 1 was told as it went on the first time -/
def lastE (E : List Ev5) (k : Nat) : Ev5 := (E.take k).foldl (fun acc e => if e.t = 1 ∧ e.a = 1 then e else acc) ⟨0, 0, 0, 0, false⟩
theorem run16a (t0 t1 cb : Nat) : runF (step16 Qa16) [1, 0] 20 0 (⟨[.rdyS ⟨t0, 0, 1, ⟨0, 0, false⟩⟩ true, .rdyR ⟨t1, 1, 1, ⟨0, 0, false⟩⟩ 5 true], [t0, t1], [⟨cb, 0, [], [], [], false⟩], [0, 1]⟩, [⟨0, 0, 0, 0, false⟩, ⟨1, 0, 0, 0, false⟩]) = (4, (⟨[.over, .over], [t0, t1], [⟨cb, 0, [], [], [], true⟩], []⟩, [⟨0, 0, 0, 0, false⟩, ⟨1, 0, 0, 0, false⟩, ⟨1, 1, 0, 5, true⟩, ⟨0, 1, 0, 0, true⟩, ⟨0, 2, 0, 0, true⟩, ⟨1, 2, 0, 0, false⟩])) := by
  rw [runF_some (s' := (⟨[.rdyS ⟨t0, 0, 1, ⟨0, 0, false⟩⟩ true, .wR ⟨t1, 1, 2, ⟨0, 0, false⟩⟩ 0], [t0, t1], [⟨cb, 0, [], [], [1], false⟩], [0]⟩, [⟨0, 0, 0, 0, false⟩, ⟨1, 0, 0, 0, false⟩, ⟨1, 1, 0, 5, true⟩])) (show step16 Qa16 (⟨[.rdyS ⟨t0, 0, 1, ⟨0, 0, false⟩⟩ true, .rdyR ⟨t1, 1, 1, ⟨0, 0, false⟩⟩ 5 true], [t0, t1], [⟨cb, 0, [], [], [], false⟩], [0, 1]⟩, [⟨0, 0, 0, 0, false⟩, ⟨1, 0, 0, 0, false⟩]) (pkA [1, 0] 0) = _ from rfl)]
  rw [runF_some (s' := (⟨[.rdyY ⟨t0, 0, 2, ⟨0, 0, true⟩⟩, .rdyR ⟨t1, 1, 2, ⟨0, 0, false⟩⟩ 0 false], [t0, t1], [⟨cb, 0, [], [], [], true⟩], [1, 0]⟩, [⟨0, 0, 0, 0, false⟩, ⟨1, 0, 0, 0, false⟩, ⟨1, 1, 0, 5, true⟩, ⟨0, 1, 0, 0, true⟩])) (show step16 Qa16 (⟨[.rdyS ⟨t0, 0, 1, ⟨0, 0, false⟩⟩ true, .wR ⟨t1, 1, 2, ⟨0, 0, false⟩⟩ 0], [t0, t1], [⟨cb, 0, [], [], [1], false⟩], [0]⟩, [⟨0, 0, 0, 0, false⟩, ⟨1, 0, 0, 0, false⟩, ⟨1, 1, 0, 5, true⟩]) (pkA [1, 0] 1) = _ from rfl)]
  rw [runF_some (s' := (⟨[.over, .rdyR ⟨t1, 1, 2, ⟨0, 0, false⟩⟩ 0 false], [t0, t1], [⟨cb, 0, [], [], [], true⟩], [1]⟩, [⟨0, 0, 0, 0, false⟩, ⟨1, 0, 0, 0, false⟩, ⟨1, 1, 0, 5, true⟩, ⟨0, 1, 0, 0, true⟩, ⟨0, 2, 0, 0, true⟩])) (show step16 Qa16 (⟨[.rdyY ⟨t0, 0, 2, ⟨0, 0, true⟩⟩, .rdyR ⟨t1, 1, 2, ⟨0, 0, false⟩⟩ 0 false], [t0, t1], [⟨cb, 0, [], [], [], true⟩], [1, 0]⟩, [⟨0, 0, 0, 0, false⟩, ⟨1, 0, 0, 0, false⟩, ⟨1, 1, 0, 5, true⟩, ⟨0, 1, 0, 0, true⟩]) (pkA [1, 0] 2) = _ from rfl)]
  rw [runF_some (s' := (⟨[.over, .over], [t0, t1], [⟨cb, 0, [], [], [], true⟩], []⟩, [⟨0, 0, 0, 0, false⟩, ⟨1, 0, 0, 0, false⟩, ⟨1, 1, 0, 5, true⟩, ⟨0, 1, 0, 0, true⟩, ⟨0, 2, 0, 0, true⟩, ⟨1, 2, 0, 0, false⟩])) (show step16 Qa16 (⟨[.over, .rdyR ⟨t1, 1, 2, ⟨0, 0, false⟩⟩ 0 false], [t0, t1], [⟨cb, 0, [], [], [], true⟩], [1]⟩, [⟨0, 0, 0, 0, false⟩, ⟨1, 0, 0, 0, false⟩, ⟨1, 1, 0, 5, true⟩, ⟨0, 1, 0, 0, true⟩, ⟨0, 2, 0, 0, true⟩]) (pkA [1, 0] 3) = _ from rfl)]
  exact runF_none (show step16 Qa16 (⟨[.over, .over], [t0, t1], [⟨cb, 0, [], [], [], true⟩], []⟩, [⟨0, 0, 0, 0, false⟩, ⟨1, 0, 0, 0, false⟩, ⟨1, 1, 0, 5, true⟩, ⟨0, 1, 0, 0, true⟩, ⟨0, 2, 0, 0, true⟩, ⟨1, 2, 0, 0, false⟩]) (pkA [1, 0] 4) = none from rfl)
theorem awake16 (w : World) : Rets Tryz.prog 28 #[] w fun u w' => u = .bool true ∧ Fr No w w' := by
  refine rets_of Tryz.func28 rfl Tryz.ntmps28 rfl rfl (by kernel_rfl) ?_
  (apply vC_seq; apply vC_region; ((apply vL_val); (case h => ((apply opv_E); exact rfl))); apply vL_nil; apply seqP_normal; apply vC_seq; apply vC_region; (iterate 6 (first | ((with_reducible apply vL_val); (case h => ((with_reducible apply opv_buildS); exact rfl; exact (rfl : _ = some [_, _, _, _, _])))) | ((with_reducible apply vL_val); (case h => ((with_reducible apply opw_buildSl); exact rfl; exact rfl; exact rfl; exact (rfl : _ = some [_, _, _, _, _, _, _, _, _, _])))))); ((apply vL_val); (case h => ((apply opw_buildSl); exact rfl; exact rfl; exact rfl; exact (rfl : _ = some [_, _])))); ((apply vL_val); (case h => ((apply opw_buildSl); exact rfl; exact rfl; exact rfl; exact (rfl : _ = some [_])))))
  refine vL_gen (fun w' => Fr No w w' ∧ Blk w'.heap w.heap.size [.int .i64 2, .int .i64 0, .int .i64 5, .slice none 0 0, .bool false, .int .i64 4, .int .i64 0, .int .i64 0, .slice none 0 0, .bool false] 167 ∧ Blk w'.heap (w.alloc (.cells #[.int .i64 2, .int .i64 0, .int .i64 5, .slice none 0 0, .bool false, .int .i64 4, .int .i64 0, .int .i64 0, .slice none 0 0, .bool false] 167)).heap.size [.int .i64 3, .int .i64 0, .int .i64 0, .slice none 0 0, .bool false, .int .i64 3, .int .i64 0, .int .i64 0, .slice none 0 0, .bool false] 167 ∧ Blk w'.heap ((w.alloc (.cells #[.int .i64 2, .int .i64 0, .int .i64 5, .slice none 0 0, .bool false, .int .i64 4, .int .i64 0, .int .i64 0, .slice none 0 0, .bool false] 167)).alloc (.cells #[.int .i64 3, .int .i64 0, .int .i64 0, .slice none 0 0, .bool false, .int .i64 3, .int .i64 0, .int .i64 0, .slice none 0 0, .bool false] 167)).heap.size [.slice (some ⟨w.heap.size, 0, none⟩) 2 2, .slice (some ⟨(w.alloc (.cells #[.int .i64 2, .int .i64 0, .int .i64 5, .slice none 0 0, .bool false, .int .i64 4, .int .i64 0, .int .i64 0, .slice none 0 0, .bool false] 167)).heap.size, 0, none⟩) 2 2] 168 ∧ Blk w'.heap (((w.alloc (.cells #[.int .i64 2, .int .i64 0, .int .i64 5, .slice none 0 0, .bool false, .int .i64 4, .int .i64 0, .int .i64 0, .slice none 0 0, .bool false] 167)).alloc (.cells #[.int .i64 3, .int .i64 0, .int .i64 0, .slice none 0 0, .bool false, .int .i64 3, .int .i64 0, .int .i64 0, .slice none 0 0, .bool false] 167)).alloc (.cells #[.slice (some ⟨w.heap.size, 0, none⟩) 2 2, .slice (some ⟨(w.alloc (.cells #[.int .i64 2, .int .i64 0, .int .i64 5, .slice none 0 0, .bool false, .int .i64 4, .int .i64 0, .int .i64 0, .slice none 0 0, .bool false] 167)).heap.size, 0, none⟩) 2 2] 168)).heap.size [.int .i64 0] 3) ⟨by ((iterate 4 (apply Fr.alloc)); exact Fr.refl _ _), Blk.as inferInstance rfl, Blk.as inferInstance rfl, Blk.as inferInstance rfl, Blk.as inferInstance rfl⟩ ?_
  rintro w4 ⟨hf4, k1, k2, k3, k4⟩
  generalize (((w.alloc (.cells #[.int .i64 2, .int .i64 0, .int .i64 5, .slice none 0 0, .bool false, .int .i64 4, .int .i64 0, .int .i64 0, .slice none 0 0, .bool false] 167)).alloc (.cells #[.int .i64 3, .int .i64 0, .int .i64 0, .slice none 0 0, .bool false, .int .i64 3, .int .i64 0, .int .i64 0, .slice none 0 0, .bool false] 167)).alloc (.cells #[.slice (some ⟨w.heap.size, 0, none⟩) 2 2, .slice (some ⟨(w.alloc (.cells #[.int .i64 2, .int .i64 0, .int .i64 5, .slice none 0 0, .bool false, .int .i64 4, .int .i64 0, .int .i64 0, .slice none 0 0, .bool false] 167)).heap.size, 0, none⟩) 2 2] 168)).heap.size = b4 at *
  generalize ((w.alloc (.cells #[.int .i64 2, .int .i64 0, .int .i64 5, .slice none 0 0, .bool false, .int .i64 4, .int .i64 0, .int .i64 0, .slice none 0 0, .bool false] 167)).alloc (.cells #[.int .i64 3, .int .i64 0, .int .i64 0, .slice none 0 0, .bool false, .int .i64 3, .int .i64 0, .int .i64 0, .slice none 0 0, .bool false] 167)).heap.size = b3 at *
  generalize (w.alloc (.cells #[.int .i64 2, .int .i64 0, .int .i64 5, .slice none 0 0, .bool false, .int .i64 4, .int .i64 0, .int .i64 0, .slice none 0 0, .bool false] 167)).heap.size = b2 at *
  generalize w.heap.size = b1 at *
  have z : Pz16 w4.heap (.slice (some ⟨b3, 0, none⟩) 2 2) (pa16 b1 b2) := ⟨rd_lit (enc := oE) (pa16 b1 b2) k3 rfl (show 2 ≤ 10 by decide), fun y hy => by
    simp only [pa16, List.mem_cons, List.not_mem_nil, or_false] at hy
    rcases hy with rfl | rfl
    · exact rd_lit (enc := do5) [⟨2, 0, 5, nl0, false⟩, ⟨4, 0, 0, nl0, false⟩] k1 rfl (by decide)
    · exact rd_lit (enc := do5) [⟨3, 0, 0, nl0, false⟩, ⟨3, 0, 0, nl0, false⟩] k2 rfl (by decide), rfl⟩
  have hs : Rd w4.heap 1 iE (.slice (some ⟨b4, 0, none⟩) 1 1) [0] := rd_lit (enc := iE) [0] k4 rfl (by decide)
  have hPm : (pa16 b1 b2).map (·.2) = Qa16 := rfl
  refine vL_callF rfl (begun16 z (show 2 ≤ 6 by decide) hs (by decide) (by decide) rfl) rfl ?_
  rintro _ w5 ⟨wb, qb, rb, cl, tl, kb, rfl, hcl, htl, S5⟩
  obtain ⟨⟨cb, c0⟩, rfl⟩ : ∃ x, cl = [x] := len1 (by have := congrArg List.length hcl; simpa using this)
  obtain rfl : c0 = 0 := by simpa using hcl
  obtain ⟨t0, t1, rfl⟩ : ∃ t0 t1, tl = [t0, t1] := len2 htl
  have I0 : Inv16 ((pa16 b1 b2).map (·.2)) [(cb, 0)] [t0, t1] (ps0 [(cb, 0)] [t0, t1], []) := inv16_init rfl
  have pr : Pr16 w4 (.slice (some ⟨b3, 0, none⟩) 2 2) (pa16 b1 b2) [(cb, 0)] := ⟨z, show 2 ≤ 6 by decide, fun y hy d hd => by
    simp only [pa16, List.mem_cons, List.not_mem_nil, or_false] at hy
    rcases hy with rfl | rfl <;> (simp only [List.mem_cons, List.not_mem_nil, or_false] at hd; rcases hd with rfl | rfl <;> exact ⟨Int.le_refl _, show (0 : Int) < 1 by decide⟩), Nat.one_pos⟩
  generalize (.slice (some ⟨b3, 0, none⟩) 2 2 : Value) = vp at *
  have S6 : At (W16 wb rb vp [(cb, 0)] [t0, t1] (ps0 [(cb, 0)] [t0, t1], []) * RwA qb vp (rwI ([0].map row0) (pa16 b1 b2).length)) w4 No w5 := w16_shut S5
  clear S5 k1 k2 k3 k4 hs z
  obtain ⟨_, _, _, h51, h52, h53, h54, h55, h56, h57⟩ := w16_see S6
  ((iterate 5 (((apply vL_val); (case h => ((apply opv_E); exact rfl))))); apply vL_nil; apply seqP_normal; (iterate 2 (apply vC_seq)); apply vC_region; (iterate 8 (first | ((with_reducible apply vL_val); (case h => ((with_reducible apply opv_E); exact rfl))) | ((with_reducible apply vL_val); (case h => ((with_reducible apply opv_eql_pnil); exact rfl; exact rfl; (simp; done)))) | ((with_reducible apply vL_wanted); exact rfl))); ((apply vL_val); (case h => ((apply opv_fieldAddr); exact rfl))); ((apply vL_wanted); exact rfl); ((apply vL_val); (case h => ((apply opv_loadb1); exact rfl; exact rfl; assumption; exact rfl))); ((apply vL_wanted); exact rfl))
  refine vL_callF rfl (w16_step pr S6 I0 (Nat.zero_le _) 0 (by decide)) rfl ?_
  rw [hPm]
  have hs1 : step16 Qa16 (ps0 [(cb, 0)] [t0, t1], []) 0 = some (⟨[.wS ⟨t0, 0, 1, ⟨0, 0, false⟩⟩ 0 5, .rdyY ⟨t1, 1, 0, ⟨0, 0, false⟩⟩], [t0, t1], [⟨cb, 0, [], [0], [], false⟩], [1]⟩, [⟨0, 0, 0, 0, false⟩]) := rfl
  rw [hs1]
  rintro _ w6 (⟨h, _⟩ | ⟨T1, h, I1, hl1, rfl, S7⟩)
  · cases h
  obtain rfl := Option.some.inj h
  clear h hs1 h51 h52 h53 h54 S6 hl1 I0
  obtain ⟨_, _, _, h61, h62, h63, h64, h65, h66, h67⟩ := w16_see S7
  (((apply vL_wanted); exact rfl); ((apply vL_val); (case h => ((apply opv_not); exact rfl))); (iterate 7 (first | ((with_reducible apply vL_val); (case h => ((with_reducible apply opv_E); exact rfl))) | ((with_reducible apply vL_wanted); exact rfl))); ((apply vL_val); (case h => ((apply opv_fieldAddr); exact rfl))); ((apply vL_wanted); exact rfl); ((apply vL_val); (case h => ((apply opv_loadb1); exact rfl; exact rfl; assumption; exact rfl))); ((apply vL_wanted); exact rfl))
  obtain ⟨kb1, S8⟩ := w16_open S7
  refine vL_callF rfl (pw_parked S8) rfl ?_
  intro v7 w7 S9
  have o9 : Own w7.heap 3 1 iE v7 [0] := S9.own.1
  have S10 := w16_shut S9.drop
  obtain ⟨_, _, _, h71, h72, h73, h74, h75, h76, h77⟩ := w16_see S10
  obtain ⟨ra, rn, rc, rfl⟩ := o9.isSlice
  clear h61 h62 h63 h64 S7 S8 S9
  (((apply vL_wanted); exact rfl); ((apply vL_val); (case h => ((apply opw_buildSl); exact rfl; exact rfl; exact rfl; exact (rfl : _ = some [_])))); ((apply vL_wanted); exact rfl))
  refine vL_callF rfl (kit_same_int _ _ [0] [0] _ (o9.rd.alloc) (Rd.new1 iE 0 rfl)) rfl ?_
  rintro _ w8 ⟨⟨k8, rfl⟩, rfl⟩
  have S11 := S10.frN (show Fr No w7 ((w7.alloc (.cells #[.int .i64 0] 3)).drewN k8) by (apply Fr.drewN; apply Fr.alloc; exact Fr.refl _ _))
  obtain ⟨_, _, _, h81, h82, h83, h84, h85, h86, h87⟩ := w16_see S11
  clear h71 h72 h73 h74 S10 o9
  generalize (w7.alloc (.cells #[.int .i64 0] 3)).drewN k8 = w8 at *
  (((apply vL_wanted); exact rfl); ((apply vL_val); (case h => ((apply opv_not); exact rfl))); (iterate 7 (first | ((with_reducible apply vL_val); (case h => ((with_reducible apply opv_E); exact rfl))) | ((with_reducible apply vL_wanted); exact rfl))); ((apply vL_val); (case h => ((apply opv_fieldAddr); exact rfl))); ((apply vL_wanted); exact rfl); ((apply vL_val); (case h => ((apply opv_loadb1); exact rfl; exact rfl; assumption; exact rfl))); ((apply vL_wanted); exact rfl))
  refine vL_callF rfl (w16_step pr S11 I1 (show 1 ≤ 100000 by decide) 0 (by decide)) rfl ?_
  rw [hPm]
  have hs2 : step16 Qa16 (⟨[.wS ⟨t0, 0, 1, ⟨0, 0, false⟩⟩ 0 5, .rdyY ⟨t1, 1, 0, ⟨0, 0, false⟩⟩], [t0, t1], [⟨cb, 0, [], [0], [], false⟩], [1]⟩, [⟨0, 0, 0, 0, false⟩]) 0 = some (⟨[.rdyS ⟨t0, 0, 1, ⟨0, 0, false⟩⟩ true, .rdyR ⟨t1, 1, 1, ⟨0, 0, false⟩⟩ 5 true], [t0, t1], [⟨cb, 0, [], [], [], false⟩], [0, 1]⟩, [⟨0, 0, 0, 0, false⟩, ⟨1, 0, 0, 0, false⟩]) := rfl
  rw [hs2]
  rintro _ w9 (⟨h, _⟩ | ⟨T1, h, I2, hl2, rfl, S12⟩)
  · cases h
  obtain rfl := Option.some.inj h
  clear h hs2 h81 h82 h83 h84 S11 hl2 I1
  obtain ⟨_, _, _, h91, h92, h93, h94, h95, h96, h97⟩ := w16_see S12
  (((apply vL_wanted); exact rfl); ((apply vL_val); (case h => ((apply opv_not); exact rfl))); (iterate 7 (first | ((with_reducible apply vL_val); (case h => ((with_reducible apply opv_E); exact rfl))) | ((with_reducible apply vL_wanted); exact rfl))); ((apply vL_val); (case h => ((apply opv_fieldAddr); exact rfl))); ((apply vL_wanted); exact rfl); ((apply vL_val); (case h => ((apply opv_loadb1); exact rfl; exact rfl; assumption; exact rfl))); ((apply vL_wanted); exact rfl))
  obtain ⟨kb2, S13⟩ := w16_open S12
  refine vL_callF rfl (pw_ready S13) rfl ?_
  intro v10 w10 S14
  have o10 : Own w10.heap 3 1 iE v10 [0, 1] := S14.own.1
  have S15 := w16_shut S14.drop
  obtain ⟨_, _, _, h101, h102, h103, h104, h105, h106, h107⟩ := w16_see S15
  obtain ⟨qa, qn, qc, rfl⟩ := o10.isSlice
  clear h91 h92 h93 h94 S12 S13 S14
  (((apply vL_wanted); exact rfl); ((apply vL_val); (case h => ((apply opw_buildSl); exact rfl; exact rfl; exact rfl; exact (rfl : _ = some [_, _])))); ((apply vL_wanted); exact rfl))
  refine vL_callF rfl (kit_same_int _ _ [0, 1] [0, 1] _ (o10.rd.alloc) (Rd.newN iE [0, 1] rfl rfl (by decide))) rfl ?_
  rintro _ w11 ⟨⟨k11, rfl⟩, rfl⟩
  have S16 := S15.frN (show Fr No w10 ((w10.alloc (.cells #[.int .i64 0, .int .i64 1] 3)).drewN k11) by (apply Fr.drewN; apply Fr.alloc; exact Fr.refl _ _))
  obtain ⟨_, _, _, h111, h112, h113, h114, h115, h116, h117⟩ := w16_see S16
  clear h101 h102 h103 h104 S15 o10
  generalize (w10.alloc (.cells #[.int .i64 0, .int .i64 1] 3)).drewN k11 = w11 at *
  (((apply vL_wanted); exact rfl); ((apply vL_val); (case h => ((apply opv_not); exact rfl))); ((apply vL_val); (case h => ((apply opv_E); exact rfl))); apply vL_nil; apply seqP_normal; ((apply vC_cond_false); exact rfl); apply vC_skip; apply seqP_normal; apply vC_seq; apply vC_region; (iterate 2 (((apply vL_val); (case h => ((apply opv_E); exact rfl))))); ((apply vL_val); (case h => ((apply opv_fieldAddr); exact rfl))); ((apply vL_val); (case h => ((apply opv_loadb1); exact rfl; exact rfl; assumption; exact rfl))); ((apply vL_val); (case h => ((apply opw_buildSl); exact rfl; exact rfl; exact rfl; exact (rfl : _ = some [_, _])))))
  refine vL_gen (fun w' => At (Pt w11.heap.size [.int .u64 1, .int .u64 0] 43 * (W16 wb rb vp [(cb, 0)] [t0, t1] (⟨[.rdyS ⟨t0, 0, 1, ⟨0, 0, false⟩⟩ true, .rdyR ⟨t1, 1, 1, ⟨0, 0, false⟩⟩ 5 true], [t0, t1], [⟨cb, 0, [], [], [], false⟩], [0, 1]⟩, [⟨0, 0, 0, 0, false⟩, ⟨1, 0, 0, 0, false⟩]) * RwA qb vp (rwI ([0].map row0) (pa16 b1 b2).length))) w4 No w') S16.alloc ?_
  clear h111 h112 h113 h114 S16
  intro w12 S17
  generalize w11.heap.size = bk at *
  have hrg := run_gen (fun T => W16 wb rb vp [(cb, 0)] [t0, t1] T) (step16 Qa16) (fun n T => Inv16 Qa16 [(cb, 0)] [t0, t1] T ∧ T.2.length ≤ n + 2) (R := Pt bk [.int .u64 1, .int .u64 0] 43 * RwA qb vp (rwI ([0].map row0) (pa16 b1 b2).length)) (picks := [1, 0]) 20 (by decide) (fun n T p w' hn hG hp S => (w16_step pr S hG.1 (by omega) p hp).mono fun u w'' h => h.imp (fun h => h) (fun ⟨T', g1, g2, g3, g4, g5⟩ => ⟨T', g1, ⟨g2, by omega⟩, g4, g5⟩)) (fun T w' S => rd_lit (enc := uE) [1, 0] (S.ac (show _ = Pt bk [.int .u64 1, .int .u64 0] 43 * (RwA qb vp (rwI ([0].map row0) (pa16 b1 b2).length) * W16 wb rb vp [(cb, 0)] [t0, t1] T) by ac_rfl)).blk rfl (by decide)) (by decide) _ ⟨I2, Nat.le_refl _⟩ (S17.ac (by ac_rfl))
  refine vL_callF rfl (hrg) rfl ?_
  rintro _ w13 ⟨n, T3, hrun, rfl, ⟨I3, _⟩, S18⟩
  have hr4 := (run16a t0 t1 cb).symm.trans hrun
  obtain ⟨rfl, rfl⟩ := Prod.mk.inj hr4
  clear hr4 hrun hrg
  obtain ⟨R4, hR4⟩ : ∃ R4, R4 = Pt bk [.int .u64 1, .int .u64 0] 43 * RwA qb vp (rwI ([0].map row0) (pa16 b1 b2).length) := ⟨_, rfl⟩
  rw [← hR4] at S18
  haveI : Lcl R4 := by rw [hR4]; infer_instance
  clear hR4 S17
  obtain ⟨kb3, S19⟩ := w16_open S18
  obtain ⟨E, hE⟩ : ∃ E : List Ev5, E = [⟨0, 0, 0, 0, false⟩, ⟨1, 0, 0, 0, false⟩, ⟨1, 1, 0, 5, true⟩, ⟨0, 1, 0, 0, true⟩, ⟨0, 2, 0, 0, true⟩, ⟨1, 2, 0, 0, false⟩] := ⟨_, rfl⟩
  simp only [← hE] at S19
  obtain ⟨cv, tv, ev, S20⟩ := wa_open (S19.ac (show _ = WA wb rb vp [cb] [t0, t1] E false * (PWA (L16 wb) rb none 0 kb3 ⟨[.over, .over], [t0, t1], [⟨cb, 0, [], [], [], true⟩], []⟩ * R4) by ac_rfl))
  have hb20 := S20.blk
  have hE6 : E.length = 6 := by rw [hE]; rfl
  obtain ⟨R5, hR5⟩ : ∃ R5, R5 = Pt wb [pt rb, vp, cv, tv, ev, .bool false] 61 * (Ow 28 1 ptE cv [cb] * (Ow 34 1 ptE tv [t0, t1] * (PWA (L16 wb) rb none 0 kb3 ⟨[.over, .over], [t0, t1], [⟨cb, 0, [], [], [], true⟩], []⟩ * R4))) := ⟨_, rfl⟩
  have S21 : At (Ow 100 5 ev5 ev E * R5) w4 No w13 := S20.ac (by rw [hR5]; ac_rfl)
  haveI : Lcl R5 := by rw [hR5]; infer_instance
  have o21 := S21.own.1
  have o211 := S21.own.2
  obtain ⟨ea, ec, rfl⟩ := o21.rd.len
  clear S18 S19 S20
  (apply vL_nil; apply seqP_normal; apply vC_seq; apply vC_region; ((apply vL_val); (case h => ((apply opv_buildS); exact rfl; exact (rfl : _ = some [_, _, _, _, _])))); ((apply vL_val); (case h => (apply opw_alloc))); ((apply vL_skip); (case h => ((apply ops_storen); exact norm_eq rfl; exact norm_eq rfl; exact rfl; (intro u hu; simp at hu; rcases hu with rfl | rfl <;> (first | rfl | assumption)); infer_instance; (first | decide | exact of_decide_eq_true rfl | (simp; done))))); apply vL_nil; apply seqP_normal; (iterate 2 (apply vC_seq)); apply vC_region; (iterate 2 (((apply vL_val); (case h => ((apply opv_E); exact rfl))))); ((apply vL_val); (case h => ((apply opv_fieldAddr); exact rfl))); ((apply vL_val); (case h => ((apply opv_loadb1); exact rfl; exact rfl; infer_instance; exact rfl))); ((apply vL_val); (case h => ((apply opv_lenc); exact rfl))); ((apply vL_val); (case h => ((apply opv_E); exact rfl))); apply vL_nil; apply seqP_normal; apply vC_block)
  refine vC_gen (fun w' => At (Pt w13.heap.size (ev5 (lastE E 0)) 100 * (Ow 100 5 ev5 (.slice ea E.length ec) E * R5)) w4 No w') (S21.new (by (apply Fr.allocSet; exact Fr.refl _ _)) (Blk.as inferInstance rfl) (Nat.le_refl _)) ?_
  clear S21 hb20 o21
  intro w14 S22
  generalize w13.heap.size = bt at *
  (apply vC_loop1 4835408130553337345998880 68 (fun u w' => ∃ k : Nat, u = .int .i64 (k : Int) ∧ k ≤ 6 ∧ At (Pt bt (ev5 (lastE E k)) 100 * (Ow 100 5 ev5 (.slice ea E.length ec) E * R5)) w4 No w') (fun u _ => 6 - (RowKit.intOf u).toNat)); (case h1 => (exact norm_eq rfl))
  case h0 => exact ⟨0, rfl, by decide, S22⟩
  clear S22
  case round =>
  rintro junk5 _ w15 ⟨k, rfl, hk, S23⟩
  have hbt := S23.blk
  have o23 := S23.swap.ac (star_assoc _ _ _) |>.own.1
  by_cases hlt : k < 6
  · obtain ⟨x, hx⟩ : ∃ x, E[k]? = some x := ⟨_, List.getElem?_eq_getElem (by omega)⟩
    have hx' : E[((k : Nat) : Int).toNat]? = some x := by rw [Int.toNat_natCast]; exact hx
    rw [ev5] at hbt
    have hls : lastE E (k + 1) = if x.t = 1 ∧ x.a = 1 then x else lastE E k := by unfold lastE; rw [List.take_add_one, hx]; simp
    have hbt' := hbt
    by_cases h1 : x.t = 1
    · by_cases h2 : x.a = 1
      · rw [if_pos ⟨h1, h2⟩] at hls
        (apply vC_seq; apply vC_region; ((apply vL_val); (case h => ((apply opv_E); exact rfl))); apply vL_nil; apply seqP_normal; apply vC_seq; (refine vC_cond_dec rfl (fun _ => ?_) (fun h => by omega)); apply vC_skip; apply seqP_normal; apply vC_seq; apply vC_block; apply vC_seq; apply vC_region; ((apply vL_val); (case h => ((apply opv_indexAddr); exact norm_eq rfl; exact rfl; infer_instance; (first | omega | (simp only [List.length_map]; omega)); (first | omega | (simp only [List.length_map]; omega))))); ((apply vL_val); (case h => ((apply opv_ld_eln); exact rfl; exact rfl; infer_instance; assumption))); ((apply vL_val); (case h => (apply opw_alloc))); ((apply vL_skip); (case h => ((apply ops_storen); exact norm_eq rfl; exact norm_eq rfl; exact rfl; exact (fun u hu => EncOk.one _ u hu); infer_instance; (first | decide | exact of_decide_eq_true rfl | (simp; done))))); apply vL_nil; apply seqP_normal; apply vC_seq; apply vC_region; (iterate 11 (first | ((with_reducible apply vL_val); (case h => ((with_reducible apply opv_E); exact rfl))) | ((with_reducible apply vL_val); (case h => ((with_reducible apply opv_loadb1); exact rfl; exact rfl; infer_instance; exact rfl))) | ((with_reducible apply vL_val); (case h => ((with_reducible apply opv_fieldAddr); exact rfl))) | ((with_reducible apply vL_wanted); exact rfl) | (refine vL_and rfl rfl (fun _ => ?_) (fun h => by omega)))); apply vL_nil; apply seqP_normal; (refine vC_cond_dec rfl (fun _ => ?_) (fun h => by omega)); apply vC_region; ((apply vL_val); (case h => ((apply opv_loadbC); exact rfl; exact rfl; infer_instance; exact (rfl : _ = [_, _, _, _, _]); exact rfl))); ((apply vL_skip); (case h => ((apply ops_storen); exact norm_eq rfl; exact norm_eq rfl; exact rfl; (intro u hu; simp only [List.mem_cons, List.not_mem_nil, or_false] at hu; rcases hu with rfl | rfl | rfl | rfl | rfl | rfl | rfl | rfl | rfl | rfl <;> (first | rfl | assumption)); infer_instance; (first | decide | exact of_decide_eq_true rfl | (simp; done))))); apply vL_nil; apply blockP_normal; apply seqP_normal; apply vC_region; ((apply vL_val); (case h => ((apply opv_add); exact rfl; exact rfl; (first | omega | (simp only [List.length_map]; omega))))); ((apply vL_val); (case h => ((apply opv_E); exact rfl))); apply vL_nil; apply loopP_normal)
        (with_reducible apply end1); (case hs => ((iterate 19 (first | with_reducible apply same_updN | ((with_reducible refine same_updO ?_ ?_); rotate_left; exact rfl) | ((with_reducible refine same_upd ?_ ?_); rotate_left; exact rfl))); (exact same_mask _ _ _))); (case h1 => (exact norm_eq rfl))
        · refine ⟨k + 1, rfl, by omega, ?_⟩
          rw [hls]
          exact S23.put (((((Fr.refl _ w15).alloc _).set _ _ (.inr (Nat.le_refl _)))).set _ _ (.inl rfl)) (Blk.as inferInstance rfl)
        · simp [RowKit.intOf]; omega
      · rw [if_neg (fun h => h2 h.2)] at hls
        (apply vC_seq; apply vC_region; ((apply vL_val); (case h => ((apply opv_E); exact rfl))); apply vL_nil; apply seqP_normal; apply vC_seq; (refine vC_cond_dec rfl (fun _ => ?_) (fun h => by omega)); apply vC_skip; apply seqP_normal; apply vC_seq; apply vC_block; apply vC_seq; apply vC_region; ((apply vL_val); (case h => ((apply opv_indexAddr); exact norm_eq rfl; exact rfl; infer_instance; (first | omega | (simp only [List.length_map]; omega)); (first | omega | (simp only [List.length_map]; omega))))); ((apply vL_val); (case h => ((apply opv_ld_eln); exact rfl; exact rfl; infer_instance; assumption))); ((apply vL_val); (case h => (apply opw_alloc))); ((apply vL_skip); (case h => ((apply ops_storen); exact norm_eq rfl; exact norm_eq rfl; exact rfl; exact (fun u hu => EncOk.one _ u hu); infer_instance; (first | decide | exact of_decide_eq_true rfl | (simp; done))))); apply vL_nil; apply seqP_normal; apply vC_seq; apply vC_region; (iterate 11 (first | ((with_reducible apply vL_val); (case h => ((with_reducible apply opv_E); exact rfl))) | ((with_reducible apply vL_val); (case h => ((with_reducible apply opv_loadb1); exact rfl; exact rfl; infer_instance; exact rfl))) | ((with_reducible apply vL_val); (case h => ((with_reducible apply opv_fieldAddr); exact rfl))) | ((with_reducible apply vL_wanted); exact rfl) | (refine vL_and rfl rfl (fun _ => ?_) (fun h => by omega)))); apply vL_nil; apply seqP_normal; (refine vC_cond_dec rfl (fun h => by omega) (fun _ => ?_)); apply vC_skip; apply blockP_normal; apply seqP_normal; apply vC_region; ((apply vL_val); (case h => ((apply opv_add); exact rfl; exact rfl; (first | omega | (simp only [List.length_map]; omega))))); ((apply vL_val); (case h => ((apply opv_E); exact rfl))); apply vL_nil; apply loopP_normal)
        (with_reducible apply end1); (case hs => ((iterate 17 (first | with_reducible apply same_updN | ((with_reducible refine same_updO ?_ ?_); rotate_left; exact rfl) | ((with_reducible refine same_upd ?_ ?_); rotate_left; exact rfl))); (exact same_mask _ _ _))); (case h1 => (exact norm_eq rfl))
        · refine ⟨k + 1, rfl, by omega, ?_⟩
          rw [hls]
          exact S23.frN (by (apply Fr.allocSet; exact Fr.refl _ _))
        · simp [RowKit.intOf]; omega
    · rw [if_neg (fun h => h1 h.1)] at hls
      (apply vC_seq; apply vC_region; ((apply vL_val); (case h => ((apply opv_E); exact rfl))); apply vL_nil; apply seqP_normal; apply vC_seq; (refine vC_cond_dec rfl (fun _ => ?_) (fun h => by omega)); apply vC_skip; apply seqP_normal; apply vC_seq; apply vC_block; apply vC_seq; apply vC_region; ((apply vL_val); (case h => ((apply opv_indexAddr); exact norm_eq rfl; exact rfl; infer_instance; (first | omega | (simp only [List.length_map]; omega)); (first | omega | (simp only [List.length_map]; omega))))); ((apply vL_val); (case h => ((apply opv_ld_eln); exact rfl; exact rfl; infer_instance; assumption))); ((apply vL_val); (case h => (apply opw_alloc))); ((apply vL_skip); (case h => ((apply ops_storen); exact norm_eq rfl; exact norm_eq rfl; exact rfl; exact (fun u hu => EncOk.one _ u hu); infer_instance; (first | decide | exact of_decide_eq_true rfl | (simp; done))))); apply vL_nil; apply seqP_normal; apply vC_seq; apply vC_region; ((apply vL_val); (case h => ((apply opv_fieldAddr); exact rfl))); ((apply vL_val); (case h => ((apply opv_loadb1); exact rfl; exact rfl; infer_instance; exact rfl))); (iterate 2 (((apply vL_val); (case h => ((apply opv_E); exact rfl))))); (refine vL_and rfl rfl (fun h => by omega) (fun _ => ?_)); (iterate 2 (((apply vL_unwanted'); exact rfl; exact rfl))); ((apply vL_val); (case h => ((apply opv_E); exact rfl))); apply vL_nil; apply seqP_normal; ((apply vC_cond_false); exact rfl); apply vC_skip; apply blockP_normal; apply seqP_normal; apply vC_region; ((apply vL_val); (case h => ((apply opv_add); exact rfl; exact rfl; (first | omega | (simp only [List.length_map]; omega))))); ((apply vL_val); (case h => ((apply opv_E); exact rfl))); apply vL_nil; apply loopP_normal)
      (with_reducible apply end1); (case hs => ((iterate 17 (first | with_reducible apply same_updN | ((with_reducible refine same_updO ?_ ?_); rotate_left; exact rfl) | ((with_reducible refine same_upd ?_ ?_); rotate_left; exact rfl))); (exact same_mask _ _ _))); (case h1 => (exact norm_eq rfl))
      · refine ⟨k + 1, rfl, by omega, ?_⟩
        rw [hls]
        exact S23.frN (by (apply Fr.allocSet; exact Fr.refl _ _))
      · simp [RowKit.intOf]; omega
  · obtain rfl : k = 6 := by omega
    have hl6 : lastE E 6 = ⟨1, 1, 0, 5, true⟩ := by rw [hE]; rfl
    rw [hl6, ev5] at hbt
    have S24 : At (PWA (L16 wb) rb none 0 kb3 ⟨[.over, .over], [t0, t1], [⟨cb, 0, [], [], [], true⟩], []⟩ * (Pt wb [pt rb, vp, cv, tv, .slice ea E.length ec, .bool false] 61 * (Ow 28 1 ptE cv [cb] * (Ow 34 1 ptE tv [t0, t1] * (Pt bt (ev5 (lastE E 6)) 100 * (Ow 100 5 ev5 (.slice ea E.length ec) E * R4)))))) w4 No w15 := S23.ac (by rw [hR5]; ac_rfl)
    have hwb := (S24.swap.ac (star_assoc _ _ _)).blk
    have hcv := (S24.ac (show _ = Ow 28 1 ptE cv [cb] * (Pt wb [pt rb, vp, cv, tv, .slice ea E.length ec, .bool false] 61 * (PWA (L16 wb) rb none 0 kb3 ⟨[.over, .over], [t0, t1], [⟨cb, 0, [], [], [], true⟩], []⟩ * (Ow 34 1 ptE tv [t0, t1] * (Pt bt (ev5 (lastE E 6)) 100 * (Ow 100 5 ev5 (.slice ea E.length ec) E * R4))))) by ac_rfl)).own
    obtain ⟨hcv1, hcv2⟩ := hcv
    have hd0 : (⟨[.over, .over], [t0, t1], [⟨cb, 0, [], [], [], true⟩], []⟩ : PS K16).cs[0]? = some ⟨cb, 0, [], [], [], true⟩ := rfl
    have hcl1 : ([cb] : List Nat).length = 1 := rfl
    have hcb : ([cb] : List Nat)[(0 : Int).toNat]? = some cb := rfl
    (apply vC_seq; apply vC_region; ((apply vL_val); (case h => ((apply opv_E); exact rfl))); apply vL_nil; apply seqP_normal; apply vC_seq; (refine vC_cond_dec rfl (fun h => by omega) (fun _ => ?_)); apply vC_exit; apply seqP_exit; apply loopP_exit; apply blockP_exit; apply seqP_normal; apply vC_seq; apply vC_region; (iterate 19 (first | ((with_reducible apply vL_val); (case h => ((with_reducible apply opv_E); exact rfl))) | ((with_reducible apply vL_val); (case h => ((with_reducible apply opv_loadb1); exact rfl; exact rfl; assumption; exact rfl))) | ((with_reducible apply vL_val); (case h => ((with_reducible apply opv_fieldAddr); exact rfl))) | ((with_reducible apply vL_wanted); exact rfl))); ((apply vL_val); (case h => ((apply opv_indexAddr); ((conv => lhs; whnf) <;> exact rfl); exact rfl; infer_instance; (first | omega | (simp only [List.length_map]; omega)); (first | omega | (simp only [List.length_map]; omega))))); ((apply vL_wanted); exact rfl); ((apply vL_val); (case h => ((apply opv_ld_el); exact rfl; exact rfl; infer_instance; assumption; exact rfl))); ((apply vL_wanted); exact rfl))
    refine vL_callF rfl (pw_close S24 hd0) rfl ?_
    rintro _ w16 ⟨rfl, kb4, _, S25⟩
    rw [show (if (PS.close (⟨[.over, .over], [t0, t1], [⟨cb, 0, [], [], [], true⟩], []⟩ : PS K16) 0).2 then (0 : Int) else 150) = 150 from rfl]
    have e25 : (PS.close (⟨[.over, .over], [t0, t1], [⟨cb, 0, [], [], [], true⟩], []⟩ : PS K16) 0).1 = ⟨[.over, .over], [t0, t1], [⟨cb, 0, [], [], [], true⟩], []⟩ := rfl
    rw [e25] at S25
    have hwb2 := (S25.swap.ac (star_assoc _ _ _)).blk
    have htv := (S25.ac (show _ = Ow 34 1 ptE tv [t0, t1] * (Pt wb [pt rb, vp, cv, tv, .slice ea E.length ec, .bool false] 61 * (PWA (L16 wb) rb none 0 kb4 ⟨[.over, .over], [t0, t1], [⟨cb, 0, [], [], [], true⟩], []⟩ * (Ow 28 1 ptE cv [cb] * (Pt bt (ev5 (lastE E 6)) 100 * (Ow 100 5 ev5 (.slice ea E.length ec) E * R4))))) by ac_rfl)).own
    obtain ⟨htv1, htv2⟩ := htv
    have htl1 : ([t0, t1] : List Nat).length = 2 := rfl
    have ht1 : ([t0, t1] : List Nat)[(1 : Int).toNat]? = some t1 := rfl
    clear hwb hcv1 hbt o23
    ((iterate 25 (first | ((with_reducible apply vL_val); (case h => ((with_reducible apply opv_E); exact rfl))) | ((with_reducible apply vL_val); (case h => ((with_reducible apply opv_loadb1); exact rfl; exact rfl; assumption; exact rfl))) | ((with_reducible apply vL_val); (case h => ((with_reducible apply opv_fieldAddr); exact rfl))) | ((with_reducible apply vL_val); (case h => ((with_reducible apply opv_not); exact rfl))) | ((with_reducible apply vL_wanted); exact rfl))); ((apply vL_val); (case h => ((apply opv_indexAddr); ((conv => lhs; whnf) <;> exact rfl); exact rfl; infer_instance; (first | omega | (simp only [List.length_map]; omega)); (first | omega | (simp only [List.length_map]; omega))))); ((apply vL_wanted); exact rfl); ((apply vL_val); (case h => ((apply opv_ld_el); exact rfl; exact rfl; infer_instance; assumption; exact rfl))); ((apply vL_wanted); exact rfl))
    refine vL_callF rfl (pw_over S25 (i := 1) (s := .over) (tb := t1) (show ([.over, .over] : List (St K16))[1]? = some .over from rfl) (show ([t0, t1] : List Nat)[1]? = some t1 from rfl)) rfl ?_
    rintro _ _ ⟨rfl, rfl⟩
    ((iterate 2 (((apply vL_val); (case h => ((apply opv_E); exact rfl))))); apply vL_nil; apply seqP_normal; apply vC_ret)
    (apply ret1; (case h1 => (exact norm_eq rfl)))
    exact ⟨rfl, hf4.trans S25.fr⟩
end Go.Proofs.YtbaidcnalkdhgaaGreat
set_option maxRecDepth 100000
namespace Go.Proofs.YtbaidcnalkdhgaaGreat
open Go Go.Eng
def gE (l : List Int) : List Value := l.map fun x => .int .i64 x
structure En where
  ib : Nat
  b : Nat
def enF (gb : Nat) (x : En) : RE := ⟨x.b, ⟨.func (.func 43) #[] #[pt gb, pt x.ib], rfl⟩⟩
def enT (f : Bool) (x : En) : TKT := ⟨x.b, ⟨.func (.func 42) #[] #[], rfl⟩, f⟩
def esAt (es : List En) (i : Nat) : En := (es[i]?).getD ⟨0, 0⟩
def fgC (cb bq sq rq gb : Nat) (es : List En) (L : List Nat) : CH := ⟨cb, bq, sq, rq, 0, [], [], L.map fun i => enF gb (esAt es i), false⟩
def fgT (es : List En) (fs : Nat → Bool) : List TKT := es.mapIdx fun i x => enT (fs i) x
def fgB (es : List En) : List Bx := es.mapIdx fun i x => (x.ib, [.int .i64 (i : Int)], 3)
theorem fget1 (w : World) : Rets Tryz.prog 42 #[] w fun u w' => w = w' := by
  refine rets_of Tryz.func42 rfl Tryz.ntmps42 rfl rfl (by kernel_rfl) ?_
  (apply vC_skip)
  (first | apply ret0 | apply ret0n)
  rfl
theorem fget2 (gb ib i : Nat) (l : List Int) (hl : l.length = 7) (hi : i < 7) (v : Int) (ok : Bool) : Sp Tryz.prog 43 #[.int .i64 v, .bool ok, pt gb, pt ib] (Pt gb (gE l) 79 * Pt ib [.int .i64 i] 3) (fun _ => Pt gb (gE (l.set i v)) 79 * Pt ib [.int .i64 i] 3) := by
  intro w F hA
  have S : At (Pt gb (gE l) 79 * Pt ib [.int .i64 i] 3) w F w := At.init hA
  have hg := S.blk
  have hb := S.swap.blk
  have hgl : (gE l).length = 7 := by unfold gE; rw [List.length_map, hl]
  refine rets_of Tryz.func43 rfl Tryz.ntmps43 rfl rfl (by kernel_rfl) ?_
  (apply vC_region; ((apply vL_val); (case h => ((apply opv_loadb1); exact rfl; exact rfl; assumption; exact rfl))); ((apply vL_val); (case h => ((apply opv_E); exact rfl))); ((apply vL_val); (case h => ((apply opv_indexAddr_arr); exact rfl; exact rfl; (first | omega | (simp only [List.length_map]; omega)); (first | omega | (simp only [List.length_map]; omega))))))
  refine vL_skip (ops_store1 rfl rfl rfl hg (by rw [hgl]; show 0 + ((i : Nat) : Int).toNat * 1 < 7; omega)) ?_
  (apply vL_nil)
  (first | apply ret0 | apply ret0n)
  refine S.put ((Fr.refl _ w).set _ _ (.inl rfl)) (Blk.as (Blk.set hg) ?_)
  have e : 0 + ((i : Nat) : Int).toNat * 1 = i := by omega
  rw [e]
  unfold gE
  rw [List.map_set]
  rfl
section
variable {w w0 : World} {F0 : Nat → Prop} {R : Asr} {rb cb bq sq rq gb : Nat} {es : List En} {L : List Nat} {fs : Nat → Bool} {got : List Int}
theorem esAt_get {i : Nat} (hi : i < es.length) : es[i]? = some (esAt es i) := by unfold esAt; rw [List.getElem?_eq_getElem hi]; rfl
theorem fgT_get {i : Nat} (hi : i < es.length) : (fgT es fs)[i]? = some (enT (fs i) (esAt es i)) := by
  unfold fgT
  rw [List.getElem?_mapIdx, esAt_get hi]; rfl
/-- who waits: known, not fired, each once -/
structure FgOk (es : List En) (L : List Nat) (fs : Nat → Bool) : Prop where
  lt : ∀ i ∈ L, i < es.length
  nf : ∀ i ∈ L, fs i = false
  inj : ∀ i j, i < es.length → j < es.length → (esAt es i).b = (esAt es j).b → i = j
theorem FgOk.mem1 (h : FgOk es L fs) : ∀ x ∈ (fgC cb bq sq rq gb es L).rcv, ∃ t ∈ fgT es fs, x.k = t.b := fun x hx => by
  obtain ⟨i, hi, rfl⟩ := List.mem_map.1 hx
  exact ⟨_, List.mem_of_getElem? (fgT_get (h.lt i hi)), rfl⟩
theorem FgOk.mem2 : ∀ x ∈ (fgC cb bq sq rq gb es L).snd, ∃ t ∈ fgT es fs, x.k = t.b := fun x hx => by cases hx
theorem FgOk.isF (h : FgOk es L fs) {i : Nat} (hi : i < es.length) : isF (fgT es fs) (esAt es i).b = fs i := by
  unfold Go.Proofs.YtbaidcnalkdhgaaGreat.isF
  cases hf : fs i with
  | true => exact List.any_eq_true.2 ⟨_, List.mem_of_getElem? (fgT_get hi), by simp [enT, hf]⟩
  | false =>
    refine List.any_eq_false.2 fun t ht => ?_
    obtain ⟨j, hj, e⟩ := List.getElem_of_mem ht
    have hj' : j < es.length := by simpa [fgT] using hj
    have e2 : (fgT es fs)[j]? = some t := by rw [List.getElem?_eq_getElem hj, e]
    rw [fgT_get hj'] at e2
    cases e2
    by_cases he : (esAt es j).b = (esAt es i).b
    · obtain rfl := h.inj j i hj' hi he
      simp [enT, hf]
    · simp [enT, he]
theorem FgOk.cleaned (h : FgOk es L fs) : (fgC cb bq sq rq gb es L).cleaned (fgT es fs) = fgC cb bq sq rq gb es L := by
  unfold CH.cleaned fgC
  simp only [List.filter_nil, CH.mk.injEq, true_and, and_true]
  refine List.filter_eq_self.2 fun x hx => ?_
  obtain ⟨i, hi, rfl⟩ := List.mem_map.1 hx
  rw [show (enF gb (esAt es i)).k = (esAt es i).b from rfl, h.isF (h.lt i hi), h.nf i hi]; rfl
theorem FgOk.sub {L' : List Nat} (h : FgOk es L fs) (hs : ∀ i ∈ L', i ∈ L) : FgOk es L' fs := ⟨fun i hi => h.lt i (hs i hi), fun i hi => h.nf i (hs i hi), h.inj⟩
theorem fg_forget [Lcl R] (h : FgOk es L fs) (S : At (ChA_i rb (fgC cb bq sq rq gb es L) * (TksA (fgT es fs) * R)) w0 F0 w) (hL : L.length ≤ 1000) {a : Nat} (ha : a < es.length) :
    Rets Tryz.prog 41 #[pt cb, pt (esAt es a).b] w fun u w' => u = .int .i64 ((L.length : Int) - (L.filter (fun i => !decide (i = a))).length) ∧ At (ChA_i rb (fgC cb bq sq rq gb es (L.filter fun i => !decide (i = a))) * (TksA (fgT es fs) * R)) w0 F0 w' := by
  have e1 : (fgC cb bq sq rq gb es L).without (esAt es a).b = fgC cb bq sq rq gb es (L.filter fun i => !decide (i = a)) := by
    unfold CH.without fgC
    simp only [List.filter_nil, CH.mk.injEq, true_and, and_true]
    rw [List.filter_map]
    congr 1
    refine List.filter_congr fun i hi => ?_
    show (!decide ((esAt es i).b = (esAt es a).b)) = _
    congr 1
    exact decide_eq_decide.2 ⟨fun e => h.inj i a (h.lt i hi) ha e, fun e => by rw [e]⟩
  have := ch_forget_i S ⟨Nat.zero_le _, by show (L.map _).length ≤ _; rw [List.length_map]; omega⟩ FgOk.mem2 h.mem1 (List.mem_of_getElem? (fgT_get ha))
  rw [h.cleaned] at this
  refine this.mono fun u w' ⟨h1, h2⟩ => ⟨?_, ?_⟩
  · rw [h1]
    rw [show (enT (fs a) (esAt es a)).b = (esAt es a).b from rfl, e1]
    congr 1
    show ((0 : Nat) : Int) - ((0 : Nat) : Int) + (((L.map _).length : Nat) - (((L.filter _).map _).length : Nat) : Int) = _
    rw [List.length_map, List.length_map]; omega
  · rw [show (enT (fs a) (esAt es a)).b = (esAt es a).b from rfl, e1] at h2
    exact h2
theorem fg_waits [Lcl R] (h : FgOk es L fs) (S : At (ChA_i rb (fgC cb bq sq rq gb es L) * (TksA (fgT es fs) * R)) w0 F0 w) :
    Rets Tryz.prog 25 #[pt cb] w fun u w' => u = .tuple #[.int .i64 0, .int .i64 L.length] ∧ At (ChA_i rb (fgC cb bq sq rq gb es L) * (TksA (fgT es fs) * R)) w0 F0 w' := by
  have := ch_waits_i S FgOk.mem2 h.mem1
  rw [h.cleaned] at this
  refine this.mono fun u w' ⟨h1, h2⟩ => ⟨?_, h2⟩
  rw [h1]
  show Value.tuple #[.int .i64 ((0 : Nat) : Int), .int .i64 ((L.map _).length : Nat)] = _
  rw [List.length_map]; rfl
theorem fg_send0 [Lcl R] (h : FgOk es [] fs) (S : At (ChA_i rb (fgC cb bq sq rq gb es []) * (TksA (fgT es fs) * R)) w0 F0 w) (v : Int) :
    Rets Tryz.prog 33 #[pt cb, .int .i64 v] w fun u w' => u = .tuple #[.bool false, .bool false] ∧ At (ChA_i rb (fgC cb bq sq rq gb es []) * (TksA (fgT es fs) * R)) w0 F0 w' := by
  have hcl := h.cleaned (cb := cb) (bq := bq) (sq := sq) (rq := rq) (gb := gb)
  have := ch_trysend_i (rb := rb) (c := fgC cb bq sq rq gb es []) (ts := fgT es fs) (R := R) (B := fun u => Pu (u = .tuple #[.bool false, .bool false]) * (ChA_i rb (fgC cb bq sq rq gb es []) * (TksA (fgT es fs) * R))) v FgOk.mem2 h.mem1 (Nat.zero_le _)
    (fun hc => by cases hc) (fun _ x r hr => by rw [hcl] at hr; cases hr) (fun _ _ _ k F hA => by rw [hcl] at hA; exact ent_pu1 rfl hA) (fun _ _ hn => absurd rfl hn)
  refine (this.at1 S).mono fun u w' h2 => ?_
  exact h2.pure
theorem fg_send1 [Lcl R] {i : Nat} (h : FgOk es (i :: L) fs) (hn : i ∉ L) (hl : got.length = 7) (hlen : es.length ≤ 7) (S : At (ChA_i rb (fgC cb bq sq rq gb es (i :: L)) * (TksA (fgT es fs) * (Pt gb (gE got) 79 * (Bxl (fgB es) * R)))) w0 F0 w) (v : Int) :
    Rets Tryz.prog 33 #[pt cb, .int .i64 v] w fun u w' => u = .tuple #[.bool true, .bool true] ∧ FgOk es L (fun j => decide (j = i) || fs j) ∧ At (ChA_i rb (fgC cb bq sq rq gb es L) * (TksA (fgT es (fun j => decide (j = i) || fs j)) * (Pt gb (gE (got.set i v)) 79 * (Bxl (fgB es) * R)))) w0 F0 w' := by
  have hcl := h.cleaned (cb := cb) (bq := bq) (sq := sq) (rq := rq) (gb := gb)
  have hi := h.lt i List.mem_cons_self
  have hok : FgOk es L (fun j => decide (j = i) || fs j) := ⟨fun j hj => h.lt j (List.mem_cons_of_mem _ hj), fun j hj => by
    have : j ≠ i := fun e => hn (e ▸ hj)
    simp only [this, decide_false, Bool.false_or]
    exact h.nf j (List.mem_cons_of_mem _ hj), h.inj⟩
  have hset : (fgT es fs).set i { enT (fs i) (esAt es i) with fired := true } = fgT es (fun j => decide (j = i) || fs j) := by
    refine List.ext_getElem? fun j => ?_
    by_cases hj : j < es.length
    · rw [fgT_get hj]
      by_cases e : j = i
      · subst e
        rw [List.getElem?_set_self (by simpa [fgT] using hj)]
        simp [enT]
      · rw [List.getElem?_set_ne (Ne.symm e), fgT_get hj]
        simp [e]
    · rw [List.getElem?_eq_none (by simpa [fgT] using hj), List.getElem?_eq_none (by simpa [fgT] using hj)]
  have hbx : Bxl (fgB es) = Pt (esAt es i).ib [.int .i64 i] 3 * Bxl ((fgB es).eraseIdx i) := by
    unfold Bxl
    exact big_map_pick (fun x : Nat × List Value × TypeId => Pt x.1 x.2.1 x.2.2) (l := fgB es) (i := i) (x := ((esAt es i).ib, [.int .i64 (i : Int)], 3)) (by unfold fgB; rw [List.getElem?_mapIdx, esAt_get hi]; rfl)
  have sp2 := (fget2 gb (esAt es i).ib i got hl (by omega) v true).frame (R := ChA_i rb (fgC cb bq sq rq gb es L) * (TksA (fgT es (fun j => decide (j = i) || fs j)) * (Bxl ((fgB es).eraseIdx i) * R)))
  have := ch_trysend_i (rb := rb) (c := fgC cb bq sq rq gb es (i :: L)) (ts := fgT es fs) (R := Pt gb (gE got) 79 * (Bxl (fgB es) * R)) (B := fun u => Pu (u = .tuple #[.bool true, .bool true]) * (ChA_i rb (fgC cb bq sq rq gb es L) * (TksA (fgT es (fun j => decide (j = i) || fs j)) * (Pt gb (gE (got.set i v)) 79 * (Bxl (fgB es) * R))))) v FgOk.mem2 h.mem1 (Nat.zero_le _)
    (fun hc => by cases hc) (fun _ x r hr => by
      rw [hcl] at hr
      cases hr
      refine ⟨i, enT (fs i) (esAt es i), _, _, [pt gb, pt (esAt es i).ib], [], (ChA_i rb (fgC cb bq sq rq gb es L) * (TksA (fgT es (fun j => decide (j = i) || fs j)) * (Pt gb (gE (got.set i v)) 79 * (Bxl (fgB es) * R)))), (ChA_i rb (fgC cb bq sq rq gb es L) * (TksA (fgT es (fun j => decide (j = i) || fs j)) * (Pt gb (gE (got.set i v)) 79 * (Bxl (fgB es) * R)))), fgT_get hi, rfl, ⟨inferInstance⟩, ⟨inferInstance⟩, rfl, rfl, ?_, ?_, ?_, fun k F hA => ent_pu1 rfl hA⟩
      · refine sp2.cong ?_ (fun u k F hA => ?_)
        · rw [hset, hcl, hbx]
          show ChA_i rb (fgC cb bq sq rq gb es L) * _ = _
          ac_rfl
        · rw [hbx]
          exact ent_eq (by ac_rfl) hA
      · intro k F hA
        have h3 : (TkA (enT true (esAt es i)) * (TksA ((fgT es (fun j => decide (j = i) || fs j)).eraseIdx i) * (ChA_i rb (fgC cb bq sq rq gb es L) * (Pt gb (gE (got.set i v)) 79 * (Bxl (fgB es) * R))))) k F := ent_eq (by rw [tks_pick (t := enT true (esAt es i)) (by rw [fgT_get hi]; simp)]; ac_rfl) hA
        obtain ⟨F1, F2, ⟨hb, _⟩, _⟩ := h3
        exact hb
      · intro w2 F hA
        exact (fget1 w2).mono fun u w3 e => by rw [← e]; exact At.init hA) (fun _ hr => by rw [hcl] at hr; cases hr) (fun _ hr => by rw [hcl] at hr; cases hr)
  refine (this.at1 S).mono fun u w' h2 => ?_
  obtain ⟨h3, h4⟩ := h2.pure
  exact ⟨h3, hok, h4⟩
end
end Go.Proofs.YtbaidcnalkdhgaaGreat
set_option maxRecDepth 100000
namespace Go.Proofs.YtbaidcnalkdhgaaGreat
open Go Go.Eng
def give : List Nat → Int → Nat → List Int → List Int
  | [], _, _, got => got
  | _, _, 0, got => got
  | m :: L, x, s + 1, got => give L (x + 1) s (got.set m x)
theorem give_nil (x : Int) (s : Nat) (got : List Int) : give [] x s got = got := by cases s <;> rfl
theorem give_zero (L : List Nat) (x : Int) (got : List Int) : give L x 0 got = got := by cases L <;> rfl
theorem give_len : ∀ (L : List Nat) (x : Int) (s : Nat) (got : List Int), (give L x s got).length = got.length
  | [], x, s, got => by rw [give_nil]
  | m :: L, x, 0, got => rfl
  | m :: L, x, s + 1, got => by rw [give, give_len L]; simp
theorem give_get : ∀ (L : List Nat) (x : Int) (s : Nat) (got : List Int) (i : Nat), L.Nodup → i < got.length → (give L x s got)[i]? = if i ∈ L ∧ L.idxOf i < s then some (x + L.idxOf i) else got[i]?
  | [], x, s, got, i, _, _ => by rw [give_nil]; simp
  | m :: L, x, 0, got, i, _, _ => by rw [give_zero]; simp
  | m :: L, x, s + 1, got, i, hn, hi => by
    obtain ⟨hm, hn'⟩ := List.nodup_cons.1 hn
    rw [give, give_get L (x + 1) s (got.set m x) i hn' (by simpa using hi)]
    by_cases e : i = m
    · subst e
      rw [if_neg (fun h => hm h.1), List.getElem?_set_self hi, if_pos ⟨List.mem_cons_self, by simp⟩]
      simp
    · have h1 : (m :: L).idxOf i = L.idxOf i + 1 := by rw [List.idxOf_cons, show (m == i) = false from beq_false_of_ne (Ne.symm e)]; rfl
      rw [h1]
      by_cases h2 : i ∈ L ∧ L.idxOf i < s
      · rw [if_pos h2, if_pos ⟨List.mem_cons_of_mem _ h2.1, by omega⟩]
        congr 1
        omega
      · rw [if_neg h2, List.getElem?_set_ne (Ne.symm e), if_neg (fun h => h2 ⟨(List.mem_cons.1 h.1).resolve_left e, by omega⟩)]
/-- how many of a kind are below i -/
def cntB (p : Nat → Bool) (i : Nat) : Nat := ((List.range i).filter p).length
theorem cntB_succ (p : Nat → Bool) (i : Nat) : cntB p (i + 1) = cntB p i + if p i then 1 else 0 := by
  unfold cntB
  rw [List.range_succ, List.filter_append, List.length_append]
  congr 1
  by_cases h : p i <;> simp [h]
theorem idx_filter (p : Nat → Bool) : ∀ (n i : Nat), i < n → p i = true → ((List.range n).filter p).idxOf i = cntB p i
  | 0, i, h, _ => by omega
  | n + 1, i, h, hp => by
    rw [List.range_succ, List.filter_append]
    by_cases e : i = n
    · subst e
      rw [List.idxOf_append, if_neg (by simp)]
      simp [hp, cntB]
    · have hm : i ∈ (List.range n).filter p := List.mem_filter.2 ⟨List.mem_range.2 (by omega), hp⟩
      rw [List.idxOf_append, if_pos hm]
      exact idx_filter p n i (by omega) hp
theorem give_at (p : Nat → Bool) (n s i : Nat) (hi : i < n) (hn : n ≤ 7) : (give ((List.range n).filter p) 1 s (List.replicate 7 0))[i]? = some (if p i = true ∧ cntB p i < s then (1 : Int) + cntB p i else 0) := by
  rw [give_get _ _ _ _ _ ((List.nodup_range).filter _) (by simp; omega)]
  by_cases hp : p i = true
  · rw [idx_filter p n i hi hp]
    by_cases h2 : cntB p i < s
    · rw [if_pos ⟨List.mem_filter.2 ⟨List.mem_range.2 hi, hp⟩, h2⟩, if_pos ⟨hp, h2⟩]
    · rw [if_neg (fun h => h2 h.2), if_neg (fun h => h2 h.2), List.getElem?_replicate, if_pos (by omega)]
  · rw [if_neg (fun h => hp (List.mem_filter.1 h.1).2), if_neg (fun h => hp h.1), List.getElem?_replicate, if_pos (by omega)]
/-- those that are not forgotten -/
def liveM (M : List (Int × Bool)) (n : Nat) : List Nat := (List.range n).filter fun i => !(mget M (i : Int)).isSome
structure OutOk (M : List (Int × Bool)) (n : Nat) : Prop where
  tr : ∀ x ∈ M, x.2 = true
  len : M.length + (liveM M n).length = n
theorem mget_tr {M : List (Int × Bool)} (h : ∀ x ∈ M, x.2 = true) (k : Int) : ((mget M k).map Value.bool).getD (.bool false) = .bool (mget M k).isSome := by
  induction M with
  | nil => rfl
  | cons p M ih =>
    unfold mget
    split
    · show Value.bool p.2 = _
      rw [h p List.mem_cons_self]; rfl
    · exact ih (fun x hx => h x (List.mem_cons_of_mem _ hx))
theorem mset_tr {M : List (Int × Bool)} (h : ∀ x ∈ M, x.2 = true) (k : Int) : ∀ x ∈ mset M k true, x.2 = true := by
  induction M with
  | nil => intro x hx; simp [mset] at hx; rw [hx]
  | cons p M ih =>
    intro x hx
    unfold mset at hx
    split at hx
    · rcases List.mem_cons.1 hx with rfl | hx
      · rfl
      · exact h x (List.mem_cons_of_mem _ hx)
    · rcases List.mem_cons.1 hx with rfl | hx
      · exact h _ List.mem_cons_self
      · exact ih (fun x hx => h x (List.mem_cons_of_mem _ hx)) x hx
theorem liveM_set (M : List (Int × Bool)) (n a : Nat) : liveM (mset M (a : Int) true) n = (liveM M n).filter fun i => !decide (i = a) := by
  unfold liveM
  rw [List.filter_filter]
  refine List.filter_congr fun i _ => ?_
  rw [mget_mset]
  by_cases e : i = a
  · subst e; simp
  · rw [if_neg (by omega)]; simp [e]
theorem filter_ne_len {l : List Nat} (hn : l.Nodup) (a : Nat) : (l.filter fun i => !decide (i = a)).length + (if a ∈ l then 1 else 0) = l.length := by
  induction l with
  | nil => rfl
  | cons x r ih =>
    obtain ⟨h1, h2⟩ := List.nodup_cons.1 hn
    have := ih h2
    by_cases e : x = a
    · subst e
      rw [if_neg h1] at this
      rw [List.filter_cons, if_neg (by simp), if_pos List.mem_cons_self, List.length_cons]
      omega
    · have hm : (a ∈ x :: r) = (a ∈ r) := by simp [Ne.symm e]
      simp only [hm]
      rw [List.filter_cons, if_pos (by simpa using e), List.length_cons, List.length_cons]
      omega
theorem liveM_nodup (M : List (Int × Bool)) (n : Nat) : (liveM M n).Nodup := List.nodup_range.filter _
theorem OutOk.set {M : List (Int × Bool)} {n a : Nat} (h : OutOk M n) (ha : a < n) : OutOk (mset M (a : Int) true) n := by
  refine ⟨mset_tr h.tr _, ?_⟩
  rw [liveM_set]
  have h1 := filter_ne_len (liveM_nodup M n) a
  have h2 := h.len
  have hk := congrArg List.length (mset_keys M (a : Int) true)
  rw [List.length_map] at hk
  rw [hk]
  by_cases hm : (a : Int) ∈ M.map (·.1)
  · rw [if_pos hm, List.length_map]
    rw [if_neg (show ¬ a ∈ liveM M n from fun h3 => by
      have := (List.mem_filter.1 (show a ∈ (List.range n).filter (fun (j : Nat) => !(mget M (j : Int)).isSome) from h3)).2
      have h4 : mget M (a : Int) ≠ none := fun e => (mget_none.1 e) hm
      cases hg : mget M (a : Int) with
      | none => exact h4 hg
      | some v => rw [hg] at this; cases this)] at h1
    omega
  · rw [if_neg hm, List.length_append, List.length_map, List.length_singleton]
    rw [if_pos (show a ∈ liveM M n from List.mem_filter.2 ⟨List.mem_range.2 ha, by rw [mget_none.2 hm]; rfl⟩)] at h1
    omega
theorem out_count {M : List (Int × Bool)} {n a : Nat} (ha : a < n) : ((liveM M n).length : Int) - ((liveM M n).filter fun i => !decide (i = a)).length = if (mget M (a : Int)).isSome then 0 else 1 := by
  have h1 := filter_ne_len (liveM_nodup M n) a
  cases hg : mget M (a : Int) with
  | none =>
    rw [if_pos (show a ∈ liveM M n from List.mem_filter.2 ⟨List.mem_range.2 ha, by rw [hg]; rfl⟩)] at h1
    simp; omega
  | some v =>
    rw [if_neg (show ¬ a ∈ liveM M n from fun h => by have := (List.mem_filter.1 (show a ∈ (List.range n).filter (fun (j : Nat) => !(mget M (j : Int)).isSome) from h)).2; rw [hg] at this; cases this)] at h1
    simp; omega
end Go.Proofs.YtbaidcnalkdhgaaGreat
set_option maxRecDepth 100000
namespace Go.Proofs.YtbaidcnalkdhgaaGreat
open Go Go.Eng
theorem pick_kit (x n : Int) (w : World) (hn : 1 ≤ n) (hn2 : n ≤ 4611686018427387904) : Rets Tryz.prog 13 #[.int .i64 x, .int .i64 n] w fun u w' => w = w' ∧ ∃ r : Int, u = .int .i64 r ∧ 0 ≤ r ∧ r < n := by
  have h1 : x.tmod n < n := Int.tmod_lt_of_pos x (by omega)
  have h2 : -n < x.tmod n := by
    have h3 := Int.tmod_lt_of_pos (-x) (b := n) (by omega)
    rw [Int.neg_tmod] at h3
    omega
  refine rets_of Tryz.func13 rfl Tryz.ntmps13 rfl rfl (by kernel_rfl) ?_
  ((iterate 19 (first | with_reducible apply vC_seq | with_reducible apply vC_region | with_reducible apply seqP_normal | with_reducible apply vC_skip | ((with_reducible apply vL_val); (case h => ((with_reducible apply opv_E); exact rfl))) | with_reducible apply vL_nil | (refine vC_cond_dec rfl (fun h => by omega) (fun _ => ?_)))))
  apply vL_val
  (case h => ((with_reducible apply opv_rem_t); exact rfl; exact rfl; omega))
  (((apply vL_val); (case h => ((apply opv_E); exact rfl))); apply vL_nil; apply seqP_normal; (iterate 2 (apply vC_seq)); apply vC_region; (iterate 2 (((apply vL_val); (case h => ((apply opv_E); exact rfl))))); apply vL_nil; apply seqP_normal)
  refine vC_cond_dec rfl (fun hc => ?_) (fun hc => ?_)
  · ((iterate 13 (first | with_reducible apply vC_seq | with_reducible apply vC_region | with_reducible apply seqP_normal | ((with_reducible apply vL_val); (case h => ((with_reducible apply opv_E); exact rfl))) | ((with_reducible apply vL_val); (case h => ((with_reducible apply opv_add); exact rfl; exact rfl; (first | omega | (simp only [List.length_map]; omega))))) | with_reducible apply vL_nil)); apply vC_ret)
    (apply ret1; (case h1 => (exact norm_eq rfl)))
    exact ⟨rfl, _, rfl, by omega, by omega⟩
  · (apply vC_skip; apply seqP_normal; apply vC_seq; apply vC_region; (iterate 2 (((apply vL_val); (case h => ((apply opv_E); exact rfl))))); apply vL_nil; apply seqP_normal; apply vC_ret)
    (apply ret1; (case h1 => (exact norm_eq rfl)))
    exact ⟨rfl, _, rfl, by omega, by omega⟩
def slLen : Value → Nat
  | .slice _ n _ => n
  | _ => 0
theorem fgB_snoc (es : List En) (x : En) : Bxl (fgB (es ++ [x])) = Pt x.ib [.int .i64 (es.length : Int)] 3 * Bxl (fgB es) := by
  have e : fgB (es ++ [x]) = fgB es ++ [(x.ib, [.int .i64 (es.length : Int)], 3)] := by unfold fgB; rw [List.mapIdx_append]; simp
  rw [e]
  exact big_map_snoc (fun x : Nat × List Value × TypeId => Pt x.1 x.2.1 x.2.2) _ _
theorem fgT_snoc (es : List En) (x : En) : fgT es (fun _ => false) ++ [⟨x.b, ⟨.func (.func 42) #[] #[], rfl⟩, false⟩] = fgT (es ++ [x]) (fun _ => false) := by
  unfold fgT; rw [List.mapIdx_append]; simp [enT]
theorem esAt_snoc {es : List En} {x : En} {i : Nat} (hi : i < es.length) : esAt (es ++ [x]) i = esAt es i := by
  unfold esAt; rw [List.getElem?_append_left hi]
theorem fgC_snoc (cb bq sq rq gb : Nat) (es : List En) (x : En) (n : Nat) (hn : n ≤ es.length) : fgC cb bq sq rq gb es (List.range n) = fgC cb bq sq rq gb (es ++ [x]) (List.range n) := by
  unfold fgC
  congr 1
  refine List.map_congr_left fun i hi => ?_
  rw [esAt_snoc (by have := List.mem_range.1 hi; omega)]
theorem forget16 (w : World) (n0 s0 : Int) (vg : Value) (gone : List Int) (hg : Rd w.heap 1 iE vg gone) (hgo : vg.oneCell' = true) :
    Rets Tryz.prog 6 #[.int .i64 n0, vg, .int .i64 s0] w fun u w' => u = .bool true ∧ Fr No w w' := by
  have hgs := hg.small
  obtain ⟨ga, gc, rfl⟩ := hg.len
  refine rets_of Tryz.func6 rfl Tryz.ntmps6 rfl rfl (by kernel_rfl) ?_
  (apply vC_seq; apply vC_region; ((apply vL_val); (case h => ((apply opv_E); exact rfl))); apply vL_nil; apply seqP_normal; apply vC_seq; apply vC_region; ((apply vL_val); (case h => ((apply opv_E); exact rfl))))
  refine vL_callF rfl (pick_kit n0 6 w (by decide) (by decide)) rfl ?_
  rintro _ _ ⟨rfl, r1, rfl, hr0, hr1⟩
  (((apply vL_val); (case h => ((apply opv_add); exact rfl; exact rfl; (first | omega | (simp only [List.length_map]; omega))))); ((apply vL_val); (case h => ((apply opv_E); exact rfl))))
  refine vL_callF rfl (pick_kit s0 9 w (by decide) (by decide)) rfl ?_
  rintro _ _ ⟨rfl, r2, rfl, hs0, hs1⟩
  obtain ⟨m, rfl⟩ : ∃ m : Nat, r1 = m := ⟨r1.toNat, by omega⟩
  obtain ⟨ns, rfl⟩ : ∃ m : Nat, r2 = m := ⟨r2.toNat, by omega⟩
  ((iterate 2 (((apply vL_val); (case h => ((apply opv_E); exact rfl))))); apply vL_nil; apply seqP_normal; apply vC_seq; apply vC_region)
  refine vL_callF rfl (r_newA (At.of_emp (Fr.refl No w))) rfl ?_
  rintro _ w1 ⟨rb, rfl, S1⟩
  (((apply vL_val); (case h => ((apply opv_E); exact rfl))); apply vL_nil; apply seqP_normal; apply vC_seq; apply vC_region; ((apply vL_val); (case h => ((apply opv_E); exact rfl))))
  refine vL_callF rfl (ch_make_i S1 0 (by decide)) rfl ?_
  rintro _ w2 ⟨cb, bq, sq, rq, rfl, S2⟩
  ((iterate 31 (first | with_reducible apply vC_seq | with_reducible apply vC_region | with_reducible apply seqP_normal | with_reducible apply vC_skip | ((with_reducible apply vC_cond_false); exact rfl) | ((with_reducible apply vL_val); (case h => ((with_reducible apply opv_E); exact rfl))) | with_reducible apply vL_nil | ((with_reducible apply vL_val); (case h => (with_reducible apply opw_alloc))))); ((apply vL_skip); (case h => ((apply ops_store1); exact norm_eq rfl; exact norm_eq rfl; (first | rfl | assumption); infer_instance; (first | decide | exact of_decide_eq_true rfl | (simp; done))))); apply vL_nil; apply seqP_normal; apply vC_block)
  refine vC_gen (fun w' => At (Pt (w2.alloc (.cells #[.int .i64 0, .int .i64 0, .int .i64 0, .int .i64 0, .int .i64 0, .int .i64 0, .int .i64 0] 79)).heap.size [.int .i64 ((0 : Nat) : Int)] 3 * (Pt w2.heap.size (gE (List.replicate 7 0)) 79 * (ChA_i rb (fgC cb bq sq rq w2.heap.size [] []) * (RtA rb none 0 [] [] * Emp)))) w No w') ((S2.alloc (cs := gE (List.replicate 7 0)) (T := 79)).new (by (apply Fr.allocSet; exact Fr.refl _ _)) (Blk.as inferInstance rfl) (Nat.le_refl _)) ?_
  intro w3 S3
  generalize (w2.alloc (.cells #[.int .i64 0, .int .i64 0, .int .i64 0, .int .i64 0, .int .i64 0, .int .i64 0, .int .i64 0] 79)).heap.size = ib at S3 ⊢
  generalize w2.heap.size = gb at S3 ⊢
  clear S2 S1
  have S4 : At (Pt ib [.int .i64 ((0 : Nat) : Int)] 3 * (Ow 71 1 ptE (.slice none 0 0) ([] : List Nat) * (ChA_i rb (fgC cb bq sq rq gb [] (List.range 0)) * (TksA (fgT [] (fun _ => false)) * (Pt gb (gE (List.replicate 7 0)) 79 * (Bxl (fgB []) * RtA rb none 0 [] [])))))) w No w3 := by
    have h := At.nil 71 1 ptE S3
    refine h.ac ?_
    rw [star_emp, show TksA (fgT [] (fun _ => false)) = Emp from rfl, show Bxl (fgB []) = Emp from rfl, emp_star, emp_star]
    show _ * (_ * (_ * (ChA_i rb (fgC cb bq sq rq gb [] (List.range 0)) * _))) = _
    ac_rfl
  clear S3
  (apply vC_loop2 36028659580016704 11 12 (fun kv u w' => ∃ (i : Nat) (es : List En) (ib : Nat), u = pt ib ∧ i ≤ m + 1 ∧ es.length = i ∧ FgOk es (List.range i) (fun _ => false) ∧ At (Pt ib [.int .i64 (i : Int)] 3 * (Ow 71 1 ptE kv (es.map (·.b)) * (ChA_i rb (fgC cb bq sq rq gb es (List.range i)) * (TksA (fgT es (fun _ => false)) * (Pt gb (gE (List.replicate 7 0)) 79 * (Bxl (fgB es) * RtA rb none 0 [] [])))))) w No w') (fun u _ _ => m + 1 - slLen u)); (case h1 => (exact norm_eq rfl)); (case h2 => (exact norm_eq rfl))
  case h0 => exact ⟨0, [], ib, rfl, Nat.zero_le _, rfl, ⟨fun i hi => (by cases hi), fun _ _ => rfl, fun i j h => (by cases h)⟩, S4⟩
  clear S4
  case round =>
  rintro junk kv _ w4 ⟨i, es, ib, rfl, hi, hes, hok, S5⟩
  have hib := S5.blk
  have okv := (S5.swap.ac (star_assoc _ _ _)).own
  obtain ⟨ka, kc, rfl⟩ := okv.1.rd.len
  have hkl : (es.map (·.b)).length = i := by rw [List.length_map, hes]
  by_cases hlt : i < m + 1
  · ((iterate 2 (apply vC_seq)); apply vC_region; ((apply vL_val); (case h => ((apply opv_loadb1); exact rfl; exact rfl; assumption; exact rfl))); (iterate 2 (((apply vL_val); (case h => ((apply opv_E); exact rfl))))); apply vL_nil; apply seqP_normal; (refine vC_cond_dec rfl (fun _ => ?_) (fun h => by omega)); apply vC_skip; apply seqP_normal; apply vC_seq; apply vC_block; apply vC_seq; apply vC_region; ((apply vL_val); (case h => ((apply opv_E); exact rfl))))
    have S6 := S5.ac (show _ = TksA (fgT es (fun _ => false)) * (Pt ib [.int .i64 (i : Int)] 3 * (Ow 71 1 ptE (.slice ka (es.map (·.b)).length kc) (es.map (·.b)) * (ChA_i rb (fgC cb bq sq rq gb es (List.range i)) * (Pt gb (gE (List.replicate 7 0)) 79 * (Bxl (fgB es) * RtA rb none 0 [] []))))) by ac_rfl)
    refine vL_callF rfl (tk_new S6 42 #[]) rfl ?_
    rintro _ w5 ⟨b, rfl, S7⟩
    rw [show fgT es (fun _ => false) ++ [⟨b, ⟨.func (.func 42) #[] #[], rfl⟩, false⟩] = fgT (es ++ [(⟨ib, b⟩ : En)]) (fun _ => false) from fgT_snoc es ⟨ib, b⟩] at S7
    have hinj := tks_tn S7
    have S8 := S7.ac (show _ = Ow 71 1 ptE (.slice ka (es.map (·.b)).length kc) (es.map (·.b)) * (Pt ib [.int .i64 (i : Int)] 3 * (ChA_i rb (fgC cb bq sq rq gb es (List.range i)) * (TksA (fgT (es ++ [(⟨ib, b⟩ : En)]) (fun _ => false)) * (Pt gb (gE (List.replicate 7 0)) 79 * (Bxl (fgB es) * RtA rb none 0 [] []))))) by ac_rfl)
    have o8 := S8.own
    (((apply vL_val); (case h => ((apply opw_buildSl); exact rfl; exact rfl; exact rfl; exact (rfl : _ = some [_])))))
    refine vL_append (enc := ptE) (xs := es.map (·.b)) (ys := [b]) (T := 71) (sz := 1) (by (exact norm_eq rfl)) (by (exact norm_eq rfl)) (Own.alloc o8.1) (Rd.new1 _ _ rfl) rfl (by decide) ?_ ?_ ?_
    · simp [maxLen]; omega
    · simp; omega
    intro kv' w6 ho6 hf6 hfr6 hone6 _
    have hfa : Fr (fun j => own (.slice ka (es.map (·.b)).length kc) = some j) w5 w6 := ((Fr.refl _ w5).alloc _).trans' hf6 (fun i hi => .inl hi)
    have S9 := S8.owTo hfa ho6 hone6 (fun k hk => (hfr6 k hk).imp id (fun h => by rw [alloc_size] at h; omega))
    have emap : es.map (·.b) ++ [b] = (es ++ [(⟨ib, b⟩ : En)]).map (·.b) := by rw [List.map_append]; rfl
    rw [emap] at S9 ho6
    clear S8 S7 S6 S5 hib okv o8 hfa hf6 hfr6
    have hel : (es ++ [(⟨ib, b⟩ : En)]).length = i + 1 := by simp [hes]
    have hml : ((es ++ [(⟨ib, b⟩ : En)]).map (·.b)).length = i + 1 := by rw [List.length_map, hel]
    obtain ⟨ka', kc', rfl⟩ := ho6.rd.len
    have hkb : ((es ++ [(⟨ib, b⟩ : En)]).map (·.b))[((i : Nat) : Int).toNat]? = some b := by rw [Int.toNat_natCast, ← emap, List.getElem?_append_right (by omega), hkl, Nat.sub_self]; rfl
    have hok' : FgOk (es ++ [(⟨ib, b⟩ : En)]) (List.range i) (fun _ => false) := ⟨fun j hj => by have := List.mem_range.1 hj; omega, fun _ _ => rfl, fun a c ha hc he => hinj a c _ _ (fgT_get ha) (fgT_get hc) he⟩
    have S10 := S9.ac (show _ = ChA_i rb (fgC cb bq sq rq gb (es ++ [(⟨ib, b⟩ : En)]) (List.range i)) * (TksA (fgT (es ++ [(⟨ib, b⟩ : En)]) (fun _ => false)) * (Pt ib [.int .i64 (i : Int)] 3 * (Ow 71 1 ptE (.slice ka' ((es ++ [(⟨ib, b⟩ : En)]).map (·.b)).length kc') ((es ++ [(⟨ib, b⟩ : En)]).map (·.b)) * (Pt gb (gE (List.replicate 7 0)) 79 * (Bxl (fgB es) * RtA rb none 0 [] []))))) by rw [← fgC_snoc cb bq sq rq gb es ⟨ib, b⟩ i (by omega)]; ac_rfl)
    have hib6 := (S9.swap.ac (show _ = Pt ib [.int .i64 (i : Int)] 3 * (ChA_i rb (fgC cb bq sq rq gb es (List.range i)) * (TksA (fgT (es ++ [(⟨ib, b⟩ : En)]) (fun _ => false)) * (Pt gb (gE (List.replicate 7 0)) 79 * (Bxl (fgB es) * (RtA rb none 0 [] [] * Ow 71 1 ptE (.slice ka' ((es ++ [(⟨ib, b⟩ : En)]).map (·.b)).length kc') ((es ++ [(⟨ib, b⟩ : En)]).map (·.b))))))) by ac_rfl)).blk
    have ho6r := ho6.rd
    (((apply vL_val); (case h => ((apply opv_E); exact rfl))); apply vL_nil; apply seqP_normal; apply vC_seq; apply vC_region; (iterate 2 (((apply vL_val); (case h => ((apply opv_E); exact rfl))))); ((apply vL_val); (case h => ((apply opv_loadb1); exact rfl; exact rfl; assumption; exact rfl))); ((apply vL_val); (case h => ((apply opv_indexAddr); exact norm_eq rfl; exact rfl; assumption; (first | omega | (simp only [List.length_map]; omega)); (first | omega | (simp only [List.length_map]; omega))))); ((apply vL_val); (case h => ((apply opv_ld_el); exact rfl; exact rfl; assumption; assumption; exact rfl))); ((apply vL_val); (case h => ((apply opv_makeFunc); exact rfl))))
    refine vL_callF rfl (ch_waitrecv_i S10 FgOk.mem2 hok'.mem1 ⟨Nat.zero_le _, by show (List.map _ _).length ≤ _; simp; omega⟩ (t := enT false ⟨ib, b⟩) (List.mem_of_getElem? (i := i) (by rw [fgT_get (by omega)]; unfold esAt; rw [List.getElem?_append_right (by omega), hes, Nat.sub_self]; rfl)) 43 42 #[pt gb, pt ib] #[] rfl) rfl ?_
    rintro _ w7 (⟨hno, _⟩ | ⟨_, rfl, S11⟩)
    · rw [hok'.cleaned] at hno
      cases hno
    rw [hok'.cleaned] at S11
    have ec : ({ fgC cb bq sq rq gb (es ++ [(⟨ib, b⟩ : En)]) (List.range i) with rcv := (fgC cb bq sq rq gb (es ++ [(⟨ib, b⟩ : En)]) (List.range i)).rcv ++ [⟨(enT false ⟨ib, b⟩).b, ⟨.func (.func 43) #[] #[pt gb, pt ib], rfl⟩⟩] } : CH) = fgC cb bq sq rq gb (es ++ [(⟨ib, b⟩ : En)]) (List.range (i + 1)) := by
      have h1 : esAt (es ++ [(⟨ib, b⟩ : En)]) i = ⟨ib, b⟩ := by unfold esAt; rw [List.getElem?_append_right (by omega), hes, Nat.sub_self]; rfl
      have hr : (fgC cb bq sq rq gb (es ++ [(⟨ib, b⟩ : En)]) (List.range (i + 1))).rcv = (fgC cb bq sq rq gb (es ++ [(⟨ib, b⟩ : En)]) (List.range i)).rcv ++ [enF gb ⟨ib, b⟩] := by
        show List.map _ _ = List.map _ _ ++ _
        rw [List.range_succ, List.map_append, List.map_singleton, h1]
      show (⟨cb, bq, sq, rq, 0, [], [], (fgC cb bq sq rq gb (es ++ [(⟨ib, b⟩ : En)]) (List.range i)).rcv ++ [enF gb ⟨ib, b⟩], false⟩ : CH) = _
      rw [← hr]
      rfl
    rw [ec] at S11
    clear S10 S9 hib6
    have S12 := S11.ac (show _ = Pt ib [.int .i64 (i : Int)] 3 * (Ow 71 1 ptE (.slice ka' ((es ++ [(⟨ib, b⟩ : En)]).map (·.b)).length kc') ((es ++ [(⟨ib, b⟩ : En)]).map (·.b)) * (ChA_i rb (fgC cb bq sq rq gb (es ++ [(⟨ib, b⟩ : En)]) (List.range (i + 1))) * (TksA (fgT (es ++ [(⟨ib, b⟩ : En)]) (fun _ => false)) * (Pt gb (gE (List.replicate 7 0)) 79 * (Bxl (fgB es) * RtA rb none 0 [] []))))) by ac_rfl)
    have hib7 := S12.blk
    (((apply vL_val); (case h => ((apply opv_E); exact rfl))); apply vL_nil; apply seqP_normal; ((apply vC_cond_false); exact rfl); apply vC_skip; apply blockP_normal; apply seqP_normal; (iterate 2 (apply vC_seq)); apply vC_region; ((apply vL_val); (case h => ((apply opv_loadb1); exact rfl; exact rfl; assumption; exact rfl))); (iterate 12 (first | with_reducible apply vC_region | with_reducible apply seqP_normal | ((with_reducible apply vL_val); (case h => ((with_reducible apply opv_loadb1); exact rfl; exact rfl; infer_instance; exact rfl))) | ((with_reducible apply vL_val); (case h => ((with_reducible apply opv_add); exact rfl; exact rfl; (first | omega | (simp only [List.length_map]; omega))))) | with_reducible apply vL_nil | ((with_reducible apply vL_val); (case h => (with_reducible apply opw_alloc))) | ((with_reducible apply vL_skip); (case h => ((with_reducible apply ops_store1); exact norm_eq rfl; exact norm_eq rfl; (first | rfl | assumption); infer_instance; (first | decide | exact of_decide_eq_true rfl | (simp; done))))))); apply loopP_normal)
    (with_reducible apply end2); (case hs => ((iterate 22 (first | with_reducible apply same_updN | ((with_reducible refine same_updO ?_ ?_); rotate_left; exact rfl))); (iterate 2 (((refine same_upd ?_ ?_); rotate_left; exact rfl))); (exact same_mask _ _ _))); (case h1 => (exact norm_eq rfl)); (case h2 => (exact norm_eq rfl))
    · refine ⟨i + 1, (es ++ [(⟨ib, b⟩ : En)]), w7.heap.size, rfl, by omega, hel, ⟨fun j hj => by have := List.mem_range.1 hj; omega, fun _ _ => rfl, hok'.inj⟩, ?_⟩
      refine ((S12.new (b := w7.heap.size) (cs := [.int .i64 ((i + 1 : Nat) : Int)]) (T := 3) (by (((apply Fr.set); rotate_left; (right; ((try simp only [alloc_size]); omega))); apply Fr.allocSet; exact Fr.refl _ _)) (Blk.as inferInstance rfl) (Nat.le_refl _)).ac ?_)
      rw [fgB_snoc, hes]
      ac_rfl
    · show m + 1 - ((es ++ [(⟨ib, b⟩ : En)]).map (·.b)).length < m + 1 - (es.map (·.b)).length
      omega
  · obtain rfl : i = m + 1 := by omega
    ((iterate 2 (apply vC_seq)); apply vC_region; ((apply vL_val); (case h => ((apply opv_loadb1); exact rfl; exact rfl; assumption; exact rfl))); (iterate 2 (((apply vL_val); (case h => ((apply opv_E); exact rfl))))); apply vL_nil; apply seqP_normal; (refine vC_cond_dec rfl (fun h => by omega) (fun _ => ?_)); apply vC_exit; apply seqP_exit; apply loopP_exit; apply blockP_exit; apply seqP_normal; apply vC_seq; apply vC_region)
    refine vL_val opw_makeMap ?_
    have S6 : At (Ma w4.heap.size ikE Value.bool ([] : List (Int × Bool)) * (Ow 71 1 ptE (.slice ka (es.map (·.b)).length kc) (es.map (·.b)) * (ChA_i rb (fgC cb bq sq rq gb es (List.range (m + 1))) * (TksA (fgT es (fun _ => false)) * (Pt gb (gE (List.replicate 7 0)) 79 * (Bxl (fgB es) * RtA rb none 0 [] [])))))) w No (w4.alloc (.map #[] 0)) := S5.drop.gain ((Fr.refl No w4).alloc _) ⟨_, ⟨Mp.new ikE Value.bool, rfl⟩, fun k hk => by rw [hk]; exact Nat.le_refl _⟩
    refine vL_gen (fun w' => At (Ma w4.heap.size ikE Value.bool ([] : List (Int × Bool)) * (Ow 71 1 ptE (.slice ka (es.map (·.b)).length kc) (es.map (·.b)) * (ChA_i rb (fgC cb bq sq rq gb es (List.range (m + 1))) * (TksA (fgT es (fun _ => false)) * (Pt gb (gE (List.replicate 7 0)) 79 * (Bxl (fgB es) * RtA rb none 0 [] [])))))) w No w') S6 ?_
    clear S6 S5 hib okv
    intro w5 S6
    generalize w4.heap.size = mr at S6 ⊢
    have hl0 : liveM [] (m + 1) = List.range (m + 1) := List.filter_eq_self.2 fun _ _ => rfl
    (((apply vL_val); (case h => ((apply opv_assign); ((conv => lhs; whnf) <;> exact rfl)))); apply vL_nil; apply seqP_normal; (iterate 2 (apply vC_seq)); apply vC_region; ((apply vL_val); (case h => ((apply opv_E); exact rfl))); apply vL_nil; apply seqP_normal; apply vC_block)
    (apply vC_loop1 38685626155610539552784448 14 (fun u w' => ∃ (k : Nat) (M : List (Int × Bool)), u = .int .i64 (k : Int) ∧ k ≤ gone.length ∧ k ≤ 6 ∧ OutOk M (m + 1) ∧ At (Ma mr ikE Value.bool M * (Ow 71 1 ptE (.slice ka (es.map (·.b)).length kc) (es.map (·.b)) * (ChA_i rb (fgC cb bq sq rq gb es (liveM M (m + 1))) * (TksA (fgT es (fun _ => false)) * (Pt gb (gE (List.replicate 7 0)) 79 * (Bxl (fgB es) * RtA rb none 0 [] [])))))) w No w') (fun u _ => 6 - (RowKit.intOf u).toNat)); (case h1 => (exact norm_eq rfl))
    case h0 => exact ⟨0, [], rfl, Nat.zero_le _, by decide, ⟨fun x hx => (by cases hx), by rw [hl0]; simp⟩, by rw [hl0]; exact S6⟩
    clear S6 hl0
    case round =>
    rintro junk2 _ w6 ⟨k, M, rfl, hk, hk6, hM, S7⟩
    have hmp := S7.map
    have okv := (S7.swap.ac (star_assoc _ _ _)).own
    have okr := okv.1.rd
    have hokM : FgOk es (liveM M (m + 1)) (fun _ => false) := ⟨fun j hj => by have := List.mem_range.1 (List.mem_filter.1 hj).1; omega, fun _ _ => rfl, hok.inj⟩
    have hLl : (liveM M (m + 1)).length ≤ m + 1 := by
      have := List.length_filter_le (fun (j : Nat) => !(mget M (j : Int)).isSome) (List.range (m + 1))
      rw [List.length_range] at this; exact this
    by_cases hc : k < gone.length ∧ k < 6
    · obtain ⟨g0, g1⟩ := hc
      obtain ⟨x, hx⟩ : ∃ x, gone[k]? = some x := ⟨_, List.getElem?_eq_getElem g0⟩
      have hx' : gone[((k : Nat) : Int).toNat]? = some x := by rw [Int.toNat_natCast]; exact hx
      have hg6 := hg.frN S7.fr
      ((iterate 2 (apply vC_seq)); apply vC_region; (iterate 10 (first | ((with_reducible apply vL_val); (case h => ((with_reducible apply opv_E); exact rfl))) | ((with_reducible apply vL_val); (case h => ((with_reducible apply opv_lenc); exact rfl))) | ((with_reducible apply vL_wanted); exact rfl) | (refine vL_and rfl rfl (fun _ => ?_) (fun h => by omega)))); apply vL_nil; apply seqP_normal; (refine vC_cond_dec rfl (fun _ => ?_) (fun h => by omega)); apply vC_skip; apply seqP_normal; apply vC_seq; apply vC_block; apply vC_seq; apply vC_region; (iterate 2 (((apply vL_val); (case h => ((apply opv_E); exact rfl))))); ((apply vL_val); (case h => ((apply opv_indexAddr); exact norm_eq rfl; exact rfl; assumption; (first | omega | (simp only [List.length_map]; omega)); (first | omega | (simp only [List.length_map]; omega))))); ((apply vL_val); (case h => ((apply opv_ld_el); exact rfl; exact rfl; assumption; assumption; exact rfl))); ((apply vL_val); (case h => ((apply opv_E); exact rfl))))
      refine vL_callF rfl (pick_kit x (1 + (m : Int)) w6 (by omega) (by omega)) rfl ?_
      rintro _ _ ⟨rfl, r, rfl, hr2, hr3⟩
      obtain ⟨a, rfl⟩ : ∃ a : Nat, r = a := ⟨r.toNat, by omega⟩
      have ha : a < m + 1 := by omega
      have hka : (es.map (·.b))[((a : Nat) : Int).toNat]? = some (esAt es a).b := by rw [Int.toNat_natCast, List.getElem?_map, esAt_get (by omega)]; rfl
      ((iterate 13 (first | with_reducible apply vC_seq | with_reducible apply vC_region | with_reducible apply seqP_normal | ((with_reducible apply vL_val); (case h => ((with_reducible apply opv_E); exact rfl))) | ((with_reducible apply vL_val); (case h => ((with_reducible apply opv_move); ((conv => lhs; whnf) <;> exact rfl)))) | with_reducible apply vL_nil)))
      refine vL_val (opv_lookup' (key := (a : Int)) rfl rfl hmp (u := .bool (mget M (a : Int)).isSome) (mget_tr hM.tr _)) ?_
      have hcnt := out_count (M := M) ha
      have q1 := fg_forget hokM (S7.ac (show _ = ChA_i rb (fgC cb bq sq rq gb es (liveM M (m + 1))) * (TksA (fgT es (fun _ => false)) * (Ma mr ikE Value.bool M * (Ow 71 1 ptE (.slice ka (es.map (·.b)).length kc) (es.map (·.b)) * (Pt gb (gE (List.replicate 7 0)) 79 * (Bxl (fgB es) * RtA rb none 0 [] []))))) by ac_rfl)) (by omega) (a := a) (by omega)
      rw [hcnt, ← liveM_set] at q1
      have hM' := hM.set ha
      cases hsome : (mget M (a : Int)).isSome with
      | true =>
        rw [hsome] at q1
        (apply vL_nil; apply seqP_normal; ((apply vC_cond_true); exact rfl); apply vC_region; ((apply vL_val); (case h => ((apply opv_E); exact rfl))); apply vL_nil; apply seqP_normal; (iterate 2 (apply vC_seq)); apply vC_region; (iterate 3 (((apply vL_val); (case h => ((apply opv_E); exact rfl))))); ((apply vL_val); (case h => ((apply opv_indexAddr); exact norm_eq rfl; exact rfl; assumption; (first | omega | (simp only [List.length_map]; omega)); (first | omega | (simp only [List.length_map]; omega))))); ((apply vL_val); (case h => ((apply opv_ld_el); exact rfl; exact rfl; assumption; assumption; exact rfl))))
        change Rets _ _ _ _ (fun u w' => u = .int .i64 0 ∧ _) at q1
        refine vL_callF rfl (q1) rfl ?_
        rintro _ w7 ⟨rfl, S8⟩
        have S9 := S8.ac (show _ = Ma mr ikE Value.bool M * (ChA_i rb (fgC cb bq sq rq gb es (liveM (mset M (a : Int) true) (m + 1))) * (TksA (fgT es (fun _ => false)) * (Ow 71 1 ptE (.slice ka (es.map (·.b)).length kc) (es.map (·.b)) * (Pt gb (gE (List.replicate 7 0)) 79 * (Bxl (fgB es) * RtA rb none 0 [] []))))) by ac_rfl)
        have hmp7 := S9.map
        ((iterate 2 (((apply vL_val); (case h => ((apply opv_E); exact rfl))))); apply vL_nil; apply seqP_normal; ((apply vC_cond_false); exact rfl); apply vC_skip; apply seqP_normal; apply vC_region; ((apply vL_val); (case h => ((apply opv_move); ((conv => lhs; whnf) <;> exact rfl)))); ((apply vL_val); (case h => ((apply opv_E); exact rfl))))
        refine vL_mapUpdate (kE := ikE) (vE := Value.bool) (key := (a : Int)) (val := true) rfl rfl rfl hmp7 ?_
        intro w8 hm8 hf8
        have S10 := S9.maTo hf8 hm8
        (apply vL_nil; apply blockP_normal; apply seqP_normal; apply vC_region; ((apply vL_val); (case h => ((apply opv_E); exact rfl))); ((apply vL_val); (case h => ((apply opv_add); exact rfl; exact rfl; (first | omega | (simp only [List.length_map]; omega))))); ((apply vL_val); (case h => ((apply opv_E); exact rfl))); apply vL_nil; apply loopP_normal)
        (with_reducible apply end1); (case hs => ((iterate 36 (first | with_reducible apply same_updN | ((with_reducible refine same_updO ?_ ?_); rotate_left; exact rfl) | ((with_reducible refine same_upd ?_ ?_); rotate_left; exact rfl))); (exact same_mask _ _ _))); (case h1 => (exact norm_eq rfl))
        · exact ⟨k + 1, mset M (a : Int) true, rfl, by omega, by omega, hM', S10.ac (by ac_rfl)⟩
        · simp [RowKit.intOf]; omega
      | false =>
        rw [hsome] at q1
        (apply vL_nil; apply seqP_normal; ((apply vC_cond_false); exact rfl); apply vC_skip; apply seqP_normal; (iterate 2 (apply vC_seq)); apply vC_region; (iterate 3 (((apply vL_val); (case h => ((apply opv_E); exact rfl))))); ((apply vL_val); (case h => ((apply opv_indexAddr); exact norm_eq rfl; exact rfl; assumption; (first | omega | (simp only [List.length_map]; omega)); (first | omega | (simp only [List.length_map]; omega))))); ((apply vL_val); (case h => ((apply opv_ld_el); exact rfl; exact rfl; assumption; assumption; exact rfl))))
        change Rets _ _ _ _ (fun u w' => u = .int .i64 1 ∧ _) at q1
        refine vL_callF rfl (q1) rfl ?_
        rintro _ w7 ⟨rfl, S8⟩
        have S9 := S8.ac (show _ = Ma mr ikE Value.bool M * (ChA_i rb (fgC cb bq sq rq gb es (liveM (mset M (a : Int) true) (m + 1))) * (TksA (fgT es (fun _ => false)) * (Ow 71 1 ptE (.slice ka (es.map (·.b)).length kc) (es.map (·.b)) * (Pt gb (gE (List.replicate 7 0)) 79 * (Bxl (fgB es) * RtA rb none 0 [] []))))) by ac_rfl)
        have hmp7 := S9.map
        ((iterate 2 (((apply vL_val); (case h => ((apply opv_E); exact rfl))))); apply vL_nil; apply seqP_normal; ((apply vC_cond_false); exact rfl); apply vC_skip; apply seqP_normal; apply vC_region; ((apply vL_val); (case h => ((apply opv_move); ((conv => lhs; whnf) <;> exact rfl)))); ((apply vL_val); (case h => ((apply opv_E); exact rfl))))
        refine vL_mapUpdate (kE := ikE) (vE := Value.bool) (key := (a : Int)) (val := true) rfl rfl rfl hmp7 ?_
        intro w8 hm8 hf8
        have S10 := S9.maTo hf8 hm8
        (apply vL_nil; apply blockP_normal; apply seqP_normal; apply vC_region; ((apply vL_val); (case h => ((apply opv_E); exact rfl))); ((apply vL_val); (case h => ((apply opv_add); exact rfl; exact rfl; (first | omega | (simp only [List.length_map]; omega))))); ((apply vL_val); (case h => ((apply opv_E); exact rfl))); apply vL_nil; apply loopP_normal)
        (with_reducible apply end1); (case hs => ((iterate 35 (first | with_reducible apply same_updN | ((with_reducible refine same_updO ?_ ?_); rotate_left; exact rfl) | ((with_reducible refine same_upd ?_ ?_); rotate_left; exact rfl))); (exact same_mask _ _ _))); (case h1 => (exact norm_eq rfl))
        · exact ⟨k + 1, mset M (a : Int) true, rfl, by omega, by omega, hM', S10.ac (by ac_rfl)⟩
        · simp [RowKit.intOf]; omega
    · repeat (with_reducible apply vC_seq)
      refine vC_meet1 18374686479671623680 63 (.bool false) (fun w' => w' = w6) ?_ ?_
      · by_cases g0 : k < gone.length
        · have g1 : ¬ k < 6 := fun h => hc ⟨g0, h⟩
          (apply vC_region; (iterate 10 (first | ((with_reducible apply vL_val); (case h => ((with_reducible apply opv_E); exact rfl))) | ((with_reducible apply vL_val); (case h => ((with_reducible apply opv_lenc); exact rfl))) | ((with_reducible apply vL_wanted); exact rfl) | (refine vL_and rfl rfl (fun _ => ?_) (fun h => by omega)))); apply vL_nil)
          exact ⟨rfl, by (((iterate 9 (first | ((with_reducible refine same_updO ?_ ?_); rotate_left; exact rfl) | ((with_reducible refine same_upd ?_ ?_); rotate_left; exact rfl)))); exact fun _ _ => rfl), by first | rfl | exact congrArg Value.bool (decide_eq_false (by omega)), rfl⟩
        · (apply vC_region; (iterate 8 (first | ((with_reducible apply vL_val); (case h => ((with_reducible apply opv_E); exact rfl))) | ((with_reducible apply vL_val); (case h => ((with_reducible apply opv_lenc); exact rfl))) | ((with_reducible apply vL_unwanted'); exact rfl; exact rfl) | (refine vL_and rfl rfl (fun h => by omega) (fun _ => ?_)))); apply vL_nil)
          exact ⟨rfl, by (((iterate 9 (first | ((with_reducible refine same_updO ?_ ?_); rotate_left; exact rfl) | ((with_reducible refine same_upd ?_ ?_); rotate_left; exact rfl)))); exact fun _ _ => rfl), rfl, rfl⟩
      rintro junk18 _ rfl
      (apply seqP_normal; ((apply vC_cond_false); exact rfl); apply vC_exit; apply seqP_exit; apply loopP_exit; apply blockP_exit; apply seqP_normal; (iterate 2 (apply vC_seq)); apply vC_region; ((apply vL_val); (case h => ((apply opv_E); exact rfl))))
      refine vL_callF rfl (fg_waits hokM (S7.ac (show _ = ChA_i rb (fgC cb bq sq rq gb es (liveM M (m + 1))) * (TksA (fgT es (fun _ => false)) * (Ma mr ikE Value.bool M * (Ow 71 1 ptE (.slice ka (es.map (·.b)).length kc) (es.map (·.b)) * (Pt gb (gE (List.replicate 7 0)) 79 * (Bxl (fgB es) * RtA rb none 0 [] []))))) by ac_rfl))) rfl ?_
      rintro _ w7 ⟨rfl, S8⟩
      have hlen := hM.len
      have S9 := S8.ac (show _ = Ma mr ikE Value.bool M * (ChA_i rb (fgC cb bq sq rq gb es (liveM M (m + 1))) * (TksA (fgT es (fun _ => false)) * (Ow 71 1 ptE (.slice ka (es.map (·.b)).length kc) (es.map (·.b)) * (Pt gb (gE (List.replicate 7 0)) 79 * (Bxl (fgB es) * RtA rb none 0 [] []))))) by ac_rfl)
      have hmp7 := S9.map
      ((iterate 5 (((apply vL_val); (case h => ((apply opv_E); exact rfl))))); apply vL_nil; apply seqP_normal; apply vC_seq; apply vC_region; (iterate 8 (first | ((with_reducible apply vL_val); (case h => ((with_reducible apply opv_E); exact rfl))) | ((with_reducible apply vL_wanted); exact rfl))); ((apply vL_val); (case h => ((apply opv_move); ((conv => lhs; whnf) <;> exact rfl)))); ((apply vL_wanted); exact rfl))
      refine vL_val (opv_lenMap rfl hmp7) ?_
      (((apply vL_wanted); exact rfl); ((apply vL_val); (case h => ((apply opv_sub); exact rfl; exact rfl; (first | omega | (simp only [List.length_map]; omega))))); ((apply vL_wanted); exact rfl); (iterate 2 (((apply vL_val); (case h => ((apply opv_E); exact rfl))))); apply vL_nil; apply seqP_normal; (refine vC_cond_dec rfl (fun h => by omega) (fun _ => ?_)); apply vC_skip; apply seqP_normal; (iterate 2 (apply vC_seq)); apply vC_region; ((apply vL_val); (case h => ((apply opv_E); exact rfl))); apply vL_nil; apply seqP_normal; apply vC_block)
      have hnd := liveM_nodup M (m + 1)
      generalize hLL : liveM M (m + 1) = L at *
      (apply vC_loop1 1329226728134315644674405563580809280 19 (fun u w' => ∃ (q : Nat) (L' : List Nat) (fs : Nat → Bool) (got : List Int), u = .int .i64 (q : Int) ∧ q ≤ ns ∧ give L 1 ns (List.replicate 7 0) = give L' ((q : Int) + 1) (ns - q) got ∧ L'.length = L.length - q ∧ FgOk es L' fs ∧ L'.Nodup ∧ got.length = 7 ∧ At (ChA_i rb (fgC cb bq sq rq gb es L') * (TksA (fgT es fs) * (Pt gb (gE (got)) 79 * (Bxl (fgB es) * (Ma mr ikE Value.bool M * (Ow 71 1 ptE (.slice ka (es.map (·.b)).length kc) (es.map (·.b)) * RtA rb none 0 [] [])))))) w No w') (fun u _ => ns - (RowKit.intOf u).toNat)); (case h1 => (exact norm_eq rfl))
      case h0 => exact ⟨0, L, _, _, rfl, Nat.zero_le _, rfl, rfl, hokM, hnd, by simp, S9.ac (by ac_rfl)⟩
      clear S9 S8 S7 hmp7 hmp okv okr
      case round =>
      rintro junk3 _ w8 ⟨q, L', fs, got, rfl, hq, hgv, hLq, hokq, hndq, hgl, S10⟩
      have S11 := S10.ac (show _ = Ma mr ikE Value.bool M * (ChA_i rb (fgC cb bq sq rq gb es L') * (TksA (fgT es fs) * (Pt gb (gE got) 79 * (Bxl (fgB es) * (Ow 71 1 ptE (.slice ka (es.map (·.b)).length kc) (es.map (·.b)) * RtA rb none 0 [] []))))) by ac_rfl)
      have hmp8 := S11.map
      by_cases hlq : q < ns
      · obtain ⟨n1, hn1⟩ : ∃ n1, ns - q = n1 + 1 := ⟨ns - q - 1, by omega⟩
        cases L' with
        | nil =>
          ((iterate 2 (apply vC_seq)); apply vC_region; (iterate 3 (((apply vL_val); (case h => ((apply opv_E); exact rfl))))); apply vL_nil; apply seqP_normal; (refine vC_cond_dec rfl (fun _ => ?_) (fun h => by omega)); apply vC_skip; apply seqP_normal; apply vC_seq; apply vC_block; apply vC_seq; apply vC_region; (iterate 2 (((apply vL_val); (case h => ((apply opv_E); exact rfl))))); ((apply vL_val); (case h => ((apply opv_add); exact rfl; exact rfl; (first | omega | (simp only [List.length_map]; omega))))))
          refine vL_callF rfl (fg_send0 hokq S10 ((q : Int) + 1)) rfl ?_
          rintro _ w9 ⟨rfl, S12⟩
          have hmp9 := (S12.ac (show _ = Ma mr ikE Value.bool M * (ChA_i rb (fgC cb bq sq rq gb es []) * (TksA (fgT es fs) * (Pt gb (gE got) 79 * (Bxl (fgB es) * (Ow 71 1 ptE (.slice ka (es.map (·.b)).length kc) (es.map (·.b)) * RtA rb none 0 [] []))))) by ac_rfl)).map
          have hLn : L.length - q = 0 := hLq.symm
          ((iterate 5 (((apply vL_val); (case h => ((apply opv_E); exact rfl))))); apply vL_nil; apply seqP_normal; apply vC_seq; apply vC_region; (iterate 3 (((apply vL_val); (case h => ((apply opv_E); exact rfl))))); ((apply vL_val); (case h => ((apply opv_move); ((conv => lhs; whnf) <;> exact rfl)))))
          refine vL_val (opv_lenMap rfl hmp9) ?_
          (((apply vL_val); (case h => ((apply opv_sub); exact rfl; exact rfl; (first | omega | (simp only [List.length_map]; omega))))); ((apply vL_val); (case h => ((apply opv_E); exact rfl))); ((apply vL_val); (case h => ((apply opv_neq_bool); exact rfl; exact rfl))); apply vL_nil; apply seqP_normal)
          refine vC_condF rfl (by rw [decide_eq_false (show ¬ ((q : Int) < 1 + (m : Int) - (M.length : Int)) by omega)]; rfl) ?_
          (apply vC_skip; apply blockP_normal; apply seqP_normal; apply vC_region; ((apply vL_val); (case h => ((apply opv_E); exact rfl))); ((apply vL_val); (case h => ((apply opv_add); exact rfl; exact rfl; (first | omega | (simp only [List.length_map]; omega))))); ((apply vL_val); (case h => ((apply opv_E); exact rfl))); apply vL_nil; apply loopP_normal)
          (with_reducible apply end1); (case hs => ((iterate 23 (((refine same_updO ?_ ?_); rotate_left; exact rfl))); ((refine same_upd ?_ ?_); rotate_left; exact rfl); (exact same_mask _ _ _))); (case h1 => (exact norm_eq rfl))
          · exact ⟨q + 1, [], fs, got, rfl, by omega, by rw [hgv, give_nil, give_nil], by show 0 = _; omega, hokq, hndq, hgl, S12⟩
          · simp [RowKit.intOf]; omega
        | cons i L2 =>
          obtain ⟨hni, hnd2⟩ := List.nodup_cons.1 hndq
          have hlL : L2.length + 1 = L.length - q := hLq
          ((iterate 2 (apply vC_seq)); apply vC_region; (iterate 3 (((apply vL_val); (case h => ((apply opv_E); exact rfl))))); apply vL_nil; apply seqP_normal; (refine vC_cond_dec rfl (fun _ => ?_) (fun h => by omega)); apply vC_skip; apply seqP_normal; apply vC_seq; apply vC_block; apply vC_seq; apply vC_region; (iterate 2 (((apply vL_val); (case h => ((apply opv_E); exact rfl))))); ((apply vL_val); (case h => ((apply opv_add); exact rfl; exact rfl; (first | omega | (simp only [List.length_map]; omega))))))
          refine vL_callF rfl (fg_send1 hokq hni hgl (by omega) S10 ((q : Int) + 1)) rfl ?_
          rintro _ w9 ⟨rfl, hok2, S12⟩
          have hmp9 := (S12.ac (show _ = Ma mr ikE Value.bool M * (ChA_i rb (fgC cb bq sq rq gb es L2) * (TksA (fgT es (fun j => decide (j = i) || fs j)) * (Pt gb (gE (got.set i ((q : Int) + 1))) 79 * (Bxl (fgB es) * (Ow 71 1 ptE (.slice ka (es.map (·.b)).length kc) (es.map (·.b)) * RtA rb none 0 [] []))))) by ac_rfl)).map
          ((iterate 5 (((apply vL_val); (case h => ((apply opv_E); exact rfl))))); apply vL_nil; apply seqP_normal; apply vC_seq; apply vC_region; (iterate 3 (((apply vL_val); (case h => ((apply opv_E); exact rfl))))); ((apply vL_val); (case h => ((apply opv_move); ((conv => lhs; whnf) <;> exact rfl)))))
          refine vL_val (opv_lenMap rfl hmp9) ?_
          (((apply vL_val); (case h => ((apply opv_sub); exact rfl; exact rfl; (first | omega | (simp only [List.length_map]; omega))))); ((apply vL_val); (case h => ((apply opv_E); exact rfl))); ((apply vL_val); (case h => ((apply opv_neq_bool); exact rfl; exact rfl))); apply vL_nil; apply seqP_normal)
          refine vC_condF rfl (by rw [decide_eq_true (show ((q : Int) < 1 + (m : Int) - (M.length : Int)) by omega)]; rfl) ?_
          (apply vC_skip; apply blockP_normal; apply seqP_normal; apply vC_region; ((apply vL_val); (case h => ((apply opv_E); exact rfl))); ((apply vL_val); (case h => ((apply opv_add); exact rfl; exact rfl; (first | omega | (simp only [List.length_map]; omega))))); ((apply vL_val); (case h => ((apply opv_E); exact rfl))); apply vL_nil; apply loopP_normal)
          (with_reducible apply end1); (case hs => ((iterate 23 (((refine same_updO ?_ ?_); rotate_left; exact rfl))); ((refine same_upd ?_ ?_); rotate_left; exact rfl); (exact same_mask _ _ _))); (case h1 => (exact norm_eq rfl))
          · refine ⟨q + 1, L2, _, got.set i ((q : Int) + 1), rfl, by omega, ?_, by omega, hok2, hnd2, by simp [hgl], S12⟩
            rw [hgv, hn1, show ns - (q + 1) = n1 by omega]
            show give L2 _ _ _ = give L2 _ _ _
            congr 1
          · simp [RowKit.intOf]; omega
      · ((iterate 2 (apply vC_seq)); apply vC_region; (iterate 3 (((apply vL_val); (case h => ((apply opv_E); exact rfl))))); apply vL_nil; apply seqP_normal; (refine vC_cond_dec rfl (fun h => by omega) (fun _ => ?_)); apply vC_exit; apply seqP_exit; apply loopP_exit; apply blockP_exit; (iterate 12 (first | with_reducible apply vC_seq | with_reducible apply vC_region | with_reducible apply seqP_normal | ((with_reducible apply vL_val); (case h => ((with_reducible apply opv_E); exact rfl))) | with_reducible apply vL_nil)); apply vC_block)
        have hgv' : got = give L 1 ns (List.replicate 7 0) := by rw [hgv, show ns - q = 0 by omega, give_zero]
        have hat : ∀ j, j < m + 1 → got[j]? = some (if (!(mget M (j : Int)).isSome) = true ∧ cntB (fun (j : Nat) => !(mget M (j : Int)).isSome) j < ns then (1 : Int) + cntB (fun (j : Nat) => !(mget M (j : Int)).isSome) j else 0) := fun j hj => by
          rw [hgv', ← hLL]
          exact give_at (fun (j : Nat) => !(mget M (j : Int)).isSome) (m + 1) ns j hj (by omega)
        have hgb := (S11.swap.ac (show _ = Pt gb (gE got) 79 * (ChA_i rb (fgC cb bq sq rq gb es L') * (TksA (fgT es fs) * (Bxl (fgB es) * (Ow 71 1 ptE (.slice ka (es.map (·.b)).length kc) (es.map (·.b)) * (RtA rb none 0 [] [] * Ma mr ikE Value.bool M))))) by ac_rfl)).blk
        have hgbl : (gE got).length = 7 := by unfold gE; rw [List.length_map, hgl]
        generalize hp : (fun (j : Nat) => !(mget M (j : Int)).isSome) = p at *
        (apply vC_loop2 22300743869302627356619845368841301238218816 22 23 (fun u v w' => ∃ k : Nat, u = .int .i64 (1 + ((min (cntB p k) ns : Nat) : Int)) ∧ v = .int .i64 (k : Int) ∧ k ≤ m + 1 ∧ w' = w8) (fun _ v _ => m + 1 - (RowKit.intOf v).toNat)); (case h1 => (exact norm_eq rfl)); (case h2 => (exact norm_eq rfl))
        case h0 => exact ⟨0, by rw [show cntB p 0 = 0 from rfl]; simp, rfl, Nat.zero_le _, rfl⟩
        case round =>
        rintro junk4 _ _ _ ⟨k, rfl, rfl, hk, rfl⟩
        by_cases hlk : k < m + 1
        · have hak := hat k hlk
          have hpk : p k = !(mget M (k : Int)).isSome := by rw [← hp]
          have hcs := cntB_succ p k
          have hgk : ∀ x, got[k]? = some x → (gE got)[0 + ((k : Nat) : Int).toNat * 1]? = some (.int .i64 x) := fun x hx => by
            rw [show 0 + ((k : Nat) : Int).toNat * 1 = k by omega]
            unfold gE
            rw [List.getElem?_map, hx]; rfl
          ((iterate 2 (apply vC_seq)); apply vC_region; (iterate 3 (((apply vL_val); (case h => ((apply opv_E); exact rfl))))); apply vL_nil; apply seqP_normal; (refine vC_cond_dec rfl (fun _ => ?_) (fun h => by omega)); apply vC_skip; apply seqP_normal; apply vC_seq; apply vC_block; (iterate 2 (apply vC_seq)); apply vC_region; ((apply vL_val); (case h => ((apply opv_move); ((conv => lhs; whnf) <;> exact rfl)))); ((apply vL_val); (case h => ((apply opv_E); exact rfl))))
          refine vL_val (opv_lookup' (key := (k : Int)) rfl rfl hmp8 (u := .bool (mget M (k : Int)).isSome) (mget_tr hM.tr _)) ?_
          cases hsome : (mget M (k : Int)).isSome with
          | true =>
            rw [hsome] at hak
            rw [hpk, hsome] at hcs
            rw [if_neg (by simp)] at hak hcs
            (((apply vL_val); (case h => ((apply opv_E); exact rfl))); (iterate 3 (((apply vL_unwanted'); exact rfl; exact rfl))); ((apply vL_val); (case h => ((apply opv_E); exact rfl))); apply vL_nil; apply seqP_normal; ((apply vC_cond_true); exact rfl); (iterate 2 (apply vC_seq)); apply vC_region; ((apply vL_val); (case h => ((apply opv_E); exact rfl))); ((apply vL_val); (case h => ((apply opv_indexAddr_arr); exact rfl; exact rfl; (first | omega | (simp only [List.length_map]; omega)); (first | omega | (simp only [List.length_map]; omega))))))
            refine vL_val (opv_loadb1 rfl rfl hgb (hgk 0 hak)) ?_
            (((apply vL_val); (case h => ((apply opv_E); exact rfl))); apply vL_nil; apply seqP_normal; ((apply vC_cond_false); exact rfl); apply vC_skip; apply seqP_normal; apply vC_exit; apply seqP_exit; apply blockP_exit; apply seqP_normal; apply vC_region; ((apply vL_val); (case h => ((apply opv_E); exact rfl))); ((apply vL_val); (case h => ((apply opv_add); exact rfl; exact rfl; (first | omega | (simp only [List.length_map]; omega))))); ((apply vL_val); (case h => ((apply opv_E); exact rfl))); apply vL_nil; apply loopP_normal)
            (with_reducible apply end2); (case hs => ((iterate 18 (((refine same_updO ?_ ?_); rotate_left; exact rfl))); (iterate 2 (((refine same_upd ?_ ?_); rotate_left; exact rfl))); (exact same_mask _ _ _))); (case h1 => (exact norm_eq rfl)); (case h2 => (exact norm_eq rfl))
            · exact ⟨k + 1, congrArg (fun z : Nat => Value.int .i64 (1 + (z : Int))) (by omega), rfl, by omega, rfl⟩
            · simp [RowKit.intOf]; omega
          | false =>
            rw [hsome] at hak
            rw [hpk, hsome] at hcs
            rw [if_pos (show (!false) = true from rfl)] at hcs
            by_cases hcn : cntB p k < ns
            · rw [if_pos ⟨rfl, hcn⟩] at hak
              have hmin : min (cntB p k) ns = cntB p k := by omega
              rw [hmin]
              ((iterate 8 (first | ((with_reducible apply vL_val); (case h => ((with_reducible apply opv_E); exact rfl))) | ((with_reducible apply vL_wanted); exact rfl))); apply vL_nil; apply seqP_normal; (refine vC_cond_dec rfl (fun h => by omega) (fun _ => ?_)); apply vC_skip; apply seqP_normal; (iterate 2 (apply vC_seq)); apply vC_region; ((apply vL_val); (case h => ((apply opv_E); exact rfl))); ((apply vL_val); (case h => ((apply opv_indexAddr_arr); exact rfl; exact rfl; (first | omega | (simp only [List.length_map]; omega)); (first | omega | (simp only [List.length_map]; omega))))))
              refine vL_val (opv_loadb1 rfl rfl hgb (hgk _ hak)) ?_
              ((iterate 19 (first | with_reducible apply vC_region | with_reducible apply seqP_normal | with_reducible apply vC_skip | with_reducible apply blockP_normal | ((with_reducible apply vL_val); (case h => ((with_reducible apply opv_E); exact rfl))) | ((with_reducible apply vL_val); (case h => ((with_reducible apply opv_add); exact rfl; exact rfl; (first | omega | (simp only [List.length_map]; omega))))) | with_reducible apply vL_nil | (refine vC_cond_dec rfl (fun h => by omega) (fun _ => ?_)))); apply loopP_normal)
              (with_reducible apply end2); (case hs => ((iterate 22 (((refine same_updO ?_ ?_); rotate_left; exact rfl))); (iterate 2 (((refine same_upd ?_ ?_); rotate_left; exact rfl))); (exact same_mask _ _ _))); (case h1 => (exact norm_eq rfl)); (case h2 => (exact norm_eq rfl))
              · exact ⟨k + 1, congrArg (Value.int .i64) (by omega), rfl, by omega, rfl⟩
              · simp [RowKit.intOf]; omega
            · rw [if_neg (fun h => hcn h.2)] at hak
              ((iterate 8 (first | ((with_reducible apply vL_val); (case h => ((with_reducible apply opv_E); exact rfl))) | ((with_reducible apply vL_wanted); exact rfl))); apply vL_nil; apply seqP_normal; (refine vC_cond_dec rfl (fun _ => ?_) (fun h => by omega)); (iterate 2 (apply vC_seq)); apply vC_region; ((apply vL_val); (case h => ((apply opv_E); exact rfl))); ((apply vL_val); (case h => ((apply opv_indexAddr_arr); exact rfl; exact rfl; (first | omega | (simp only [List.length_map]; omega)); (first | omega | (simp only [List.length_map]; omega))))))
              refine vL_val (opv_loadb1 rfl rfl hgb (hgk 0 hak)) ?_
              (((apply vL_val); (case h => ((apply opv_E); exact rfl))); apply vL_nil; apply seqP_normal; ((apply vC_cond_false); exact rfl); apply vC_skip; apply seqP_normal; apply vC_exit; apply seqP_exit; apply blockP_exit; apply seqP_normal; apply vC_region; ((apply vL_val); (case h => ((apply opv_E); exact rfl))); ((apply vL_val); (case h => ((apply opv_add); exact rfl; exact rfl; (first | omega | (simp only [List.length_map]; omega))))); ((apply vL_val); (case h => ((apply opv_E); exact rfl))); apply vL_nil; apply loopP_normal)
              (with_reducible apply end2); (case hs => ((iterate 18 (((refine same_updO ?_ ?_); rotate_left; exact rfl))); (iterate 2 (((refine same_upd ?_ ?_); rotate_left; exact rfl))); (exact same_mask _ _ _))); (case h1 => (exact norm_eq rfl)); (case h2 => (exact norm_eq rfl))
              · exact ⟨k + 1, congrArg (fun z : Nat => Value.int .i64 (1 + (z : Int))) (by omega), rfl, by omega, rfl⟩
              · simp [RowKit.intOf]; omega
        · ((iterate 2 (apply vC_seq)); apply vC_region; (iterate 3 (((apply vL_val); (case h => ((apply opv_E); exact rfl))))); apply vL_nil; apply seqP_normal; (refine vC_cond_dec rfl (fun h => by omega) (fun _ => ?_)); apply vC_exit; apply seqP_exit; apply loopP_exit; apply blockP_exit; apply seqP_normal; apply vC_seq; apply vC_region)
          refine vL_callF rfl (awake16 _) rfl ?_
          rintro _ w9 ⟨rfl, hf9⟩
          (((apply vL_val); (case h => ((apply opv_E); exact rfl))); apply vL_nil; apply seqP_normal; apply vC_ret)
          (apply ret1; (case h1 => (exact norm_eq rfl)))
          exact ⟨rfl, S11.fr.trans hf9⟩
end Go.Proofs.YtbaidcnalkdhgaaGreat
set_option maxRecDepth 100000
namespace Go.Proofs.YtbaidcnalkdhgaaGreat
open Go Go.Eng
structure Tame (P : List (OV × List Do5)) (sizes : List Int) : Prop where
  six : P.length ≤ 6
  few : 1 ≤ sizes.length ∧ sizes.length ≤ 6
  size : ∀ x ∈ sizes, 0 ≤ x ∧ x ≤ 64
  ch : ∀ y ∈ P, ∀ (d : Do5), d ∈ y.2 → (0 ≤ d.c ∧ d.c < (sizes.length : Int)) ∧ d.k ≠ 5 ∧ d.k ≤ 7
theorem tame16 (w : World) (vp vs : Value) (P : List (OV × List Do5)) (sizes : List Int) (z : Pz16 w.heap vp P) (hs : Rd w.heap 1 iE vs sizes) (hso : vs.oneCell' = true) :
    Rets Tryz.prog 29 #[vp, vs] w fun u w' => Fr No w w' ∧ ∃ b, u = .bool b ∧ (b = true → Tame P sizes) := by
  have hv1 := z.one
  have hPs := z.hP.small
  have hss := hs.small
  obtain ⟨va, vc, rfl⟩ := z.hP.len
  obtain ⟨sa, sc, rfl⟩ := hs.len
  refine rets_of Tryz.func29 rfl Tryz.ntmps29 rfl rfl (by kernel_rfl) ?_
  have bad : ∀ w', Fr No w w' → Fr No w w' ∧ ∃ b, (Value.bool false) = .bool b ∧ (b = true → Tame P sizes) := fun w' hf => ⟨hf, false, rfl, fun h => by cases h⟩
  by_cases h6 : 6 < P.length
  · ((iterate 23 (first | with_reducible apply vC_seq | with_reducible apply vC_region | with_reducible apply seqP_normal | ((with_reducible apply vL_val); (case h => ((with_reducible apply opv_E); exact rfl))) | ((with_reducible apply vL_val); (case h => ((with_reducible apply opv_lenc); exact rfl))) | with_reducible apply vL_nil | ((with_reducible apply vL_unwanted'); exact rfl; exact rfl) | (refine vL_or rfl rfl (fun h => by omega) (fun _ => ?_)))); ((apply vC_cond_true); exact rfl); apply vC_seq; apply vC_region; ((apply vL_val); (case h => ((apply opv_E); exact rfl))); apply vL_nil; apply seqP_normal; apply vC_ret; apply seqP_ret)
    (apply ret1; (case h1 => (exact norm_eq rfl)))
    exact bad _ (by (exact Fr.refl _ _))
  by_cases h1 : sizes.length < 1
  · (apply vC_seq; apply vC_region; ((apply vL_val); (case h => ((apply opv_E); exact rfl))); apply vL_nil; apply seqP_normal; (iterate 2 (apply vC_seq)); apply vC_region; (iterate 16 (first | ((with_reducible apply vL_val); (case h => ((with_reducible apply opv_E); exact rfl))) | ((with_reducible apply vL_val); (case h => ((with_reducible apply opv_lenc); exact rfl))) | ((with_reducible apply vL_wanted); exact rfl) | ((with_reducible apply vL_unwanted'); exact rfl; exact rfl) | (refine vL_or rfl rfl (fun _ => ?_) (fun h => by omega)) | (refine vL_or rfl rfl (fun h => by omega) (fun _ => ?_)))); apply vL_nil; apply seqP_normal; ((apply vC_cond_true); exact rfl); apply vC_seq; apply vC_region; ((apply vL_val); (case h => ((apply opv_E); exact rfl))); apply vL_nil; apply seqP_normal; apply vC_ret; apply seqP_ret)
    (apply ret1; (case h1 => (exact norm_eq rfl)))
    exact bad _ (by (exact Fr.refl _ _))
  by_cases h7 : 6 < sizes.length
  · ((iterate 29 (first | with_reducible apply vC_seq | with_reducible apply vC_region | with_reducible apply seqP_normal | ((with_reducible apply vL_val); (case h => ((with_reducible apply opv_E); exact rfl))) | ((with_reducible apply vL_val); (case h => ((with_reducible apply opv_lenc); exact rfl))) | with_reducible apply vL_nil | ((with_reducible apply vL_wanted); exact rfl) | (refine vL_or rfl rfl (fun _ => ?_) (fun h => by omega)))); (refine vC_cond_dec rfl (fun _ => ?_) (fun h => by omega)); apply vC_seq; apply vC_region; ((apply vL_val); (case h => ((apply opv_E); exact rfl))); apply vL_nil; apply seqP_normal; apply vC_ret; apply seqP_ret)
    (apply ret1; (case h1 => (exact norm_eq rfl)))
    exact bad _ (by (exact Fr.refl _ _))
  ((iterate 29 (first | with_reducible apply vC_seq | with_reducible apply vC_region | with_reducible apply seqP_normal | ((with_reducible apply vL_val); (case h => ((with_reducible apply opv_E); exact rfl))) | ((with_reducible apply vL_val); (case h => ((with_reducible apply opv_lenc); exact rfl))) | with_reducible apply vL_nil | ((with_reducible apply vL_wanted); exact rfl) | (refine vL_or rfl rfl (fun _ => ?_) (fun h => by omega)))); (refine vC_cond_dec rfl (fun h => by omega) (fun _ => ?_)); apply vC_skip; apply seqP_normal; (iterate 2 (apply vC_seq)); apply vC_region; ((apply vL_val); (case h => ((apply opv_E); exact rfl))); apply vL_nil; apply seqP_normal; apply vC_block)
  (apply vC_loop1 1099507433520 5 (fun u w' => ∃ k : Nat, u = .int .i64 (k : Int) ∧ k ≤ sizes.length ∧ Fr No w w' ∧ ∀ (j : Nat) x, j < k → sizes[j]? = some x → 0 ≤ x ∧ x ≤ 64) (fun u _ => sizes.length - (RowKit.intOf u).toNat)); (case h1 => (exact norm_eq rfl))
  case h0 => exact ⟨0, rfl, Nat.zero_le _, by (exact Fr.refl _ _), fun j x hj => by omega⟩
  case round =>
  rintro junk _ w1 ⟨k, rfl, hk, hf1, ok⟩
  have hs1 := hs.frN hf1
  by_cases hlt : k < sizes.length
  · obtain ⟨x, hx⟩ : ∃ x, sizes[k]? = some x := ⟨_, List.getElem?_eq_getElem hlt⟩
    have hx' : sizes[((k : Nat) : Int).toNat]? = some x := by rw [Int.toNat_natCast]; exact hx
    by_cases g0 : x < 0
    · ((iterate 2 (apply vC_seq)); apply vC_region; (iterate 2 (((apply vL_val); (case h => ((apply opv_E); exact rfl))))); ((apply vL_val); (case h => ((apply opv_lenc); exact rfl))); ((apply vL_val); (case h => ((apply opv_E); exact rfl))); apply vL_nil; apply seqP_normal; (refine vC_cond_dec rfl (fun _ => ?_) (fun h => by omega)); apply vC_skip; apply seqP_normal; apply vC_seq; apply vC_block; apply vC_seq; apply vC_region; (iterate 2 (((apply vL_val); (case h => ((apply opv_E); exact rfl))))); ((apply vL_val); (case h => ((apply opv_indexAddr); exact norm_eq rfl; exact rfl; assumption; (first | omega | (simp only [List.length_map]; omega)); (first | omega | (simp only [List.length_map]; omega))))); ((apply vL_val); (case h => ((apply opv_ld_el); exact rfl; exact rfl; assumption; assumption; exact rfl))); (iterate 2 (((apply vL_val); (case h => ((apply opv_E); exact rfl))))); (refine vL_or rfl rfl (fun h => by omega) (fun _ => ?_)); (iterate 4 (((apply vL_unwanted'); exact rfl; exact rfl))); ((apply vL_val); (case h => ((apply opv_E); exact rfl))); apply vL_nil; apply seqP_normal; ((apply vC_cond_true); exact rfl); apply vC_seq; apply vC_region; ((apply vL_val); (case h => ((apply opv_E); exact rfl))); apply vL_nil; apply seqP_normal; apply vC_ret; apply blockP_ret; apply seqP_ret; apply loopP_ret; apply blockP_ret; apply seqP_ret)
      (apply ret1; (case h1 => (exact norm_eq rfl)))
      exact bad _ hf1
    by_cases g1 : 64 < x
    · ((iterate 2 (apply vC_seq)); apply vC_region; (iterate 2 (((apply vL_val); (case h => ((apply opv_E); exact rfl))))); ((apply vL_val); (case h => ((apply opv_lenc); exact rfl))); ((apply vL_val); (case h => ((apply opv_E); exact rfl))); apply vL_nil; apply seqP_normal; (refine vC_cond_dec rfl (fun _ => ?_) (fun h => by omega)); apply vC_skip; apply seqP_normal; apply vC_seq; apply vC_block; apply vC_seq; apply vC_region; (iterate 17 (first | ((with_reducible apply vL_val); (case h => ((with_reducible apply opv_E); exact rfl))) | ((with_reducible apply vL_val); (case h => ((with_reducible apply opv_indexAddr); exact norm_eq rfl; exact rfl; assumption; (first | omega | (simp only [List.length_map]; omega)); (first | omega | (simp only [List.length_map]; omega))))) | ((with_reducible apply vL_val); (case h => ((with_reducible apply opv_ld_el); exact rfl; exact rfl; assumption; assumption; exact rfl))) | ((with_reducible apply vL_wanted); exact rfl) | (refine vL_or rfl rfl (fun _ => ?_) (fun h => by omega)))); apply vL_nil; apply seqP_normal; (refine vC_cond_dec rfl (fun _ => ?_) (fun h => by omega)); apply vC_seq; apply vC_region; ((apply vL_val); (case h => ((apply opv_E); exact rfl))); apply vL_nil; apply seqP_normal; apply vC_ret; apply blockP_ret; apply seqP_ret; apply loopP_ret; apply blockP_ret; apply seqP_ret)
      (apply ret1; (case h1 => (exact norm_eq rfl)))
      exact bad _ hf1
    ((iterate 2 (apply vC_seq)); apply vC_region; (iterate 2 (((apply vL_val); (case h => ((apply opv_E); exact rfl))))); ((apply vL_val); (case h => ((apply opv_lenc); exact rfl))); ((apply vL_val); (case h => ((apply opv_E); exact rfl))); apply vL_nil; apply seqP_normal; (refine vC_cond_dec rfl (fun _ => ?_) (fun h => by omega)); apply vC_skip; apply seqP_normal; apply vC_seq; apply vC_block; apply vC_seq; apply vC_region; (iterate 17 (first | ((with_reducible apply vL_val); (case h => ((with_reducible apply opv_E); exact rfl))) | ((with_reducible apply vL_val); (case h => ((with_reducible apply opv_indexAddr); exact norm_eq rfl; exact rfl; assumption; (first | omega | (simp only [List.length_map]; omega)); (first | omega | (simp only [List.length_map]; omega))))) | ((with_reducible apply vL_val); (case h => ((with_reducible apply opv_ld_el); exact rfl; exact rfl; assumption; assumption; exact rfl))) | ((with_reducible apply vL_wanted); exact rfl) | (refine vL_or rfl rfl (fun _ => ?_) (fun h => by omega)))); apply vL_nil; apply seqP_normal; (refine vC_cond_dec rfl (fun h => by omega) (fun _ => ?_)); apply vC_skip; apply blockP_normal; apply seqP_normal; apply vC_region; ((apply vL_val); (case h => ((apply opv_E); exact rfl))); ((apply vL_val); (case h => ((apply opv_add); exact rfl; exact rfl; (first | omega | (simp only [List.length_map]; omega))))); ((apply vL_val); (case h => ((apply opv_E); exact rfl))); apply vL_nil; apply loopP_normal)
    (with_reducible apply end1); (case hs => ((iterate 21 (first | ((with_reducible refine same_updO ?_ ?_); rotate_left; exact rfl) | ((with_reducible refine same_upd ?_ ?_); rotate_left; exact rfl))); (exact same_mask _ _ _))); (case h1 => (exact norm_eq rfl))
    · refine ⟨k + 1, rfl, by omega, hf1, fun j y hj hy => ?_⟩
      by_cases e : j = k
      · subst e; rw [hx] at hy; cases hy; omega
      · exact ok j y (by omega) hy
    · simp [RowKit.intOf]; omega
  have hall : ∀ x ∈ sizes, 0 ≤ x ∧ x ≤ 64 := fun x hx => by
    obtain ⟨j, hj, e⟩ := List.getElem_of_mem hx
    exact ok j x (by omega) (by rw [List.getElem?_eq_getElem hj, e])
  clear ok hs1
  ((iterate 2 (apply vC_seq)); apply vC_region; (iterate 2 (((apply vL_val); (case h => ((apply opv_E); exact rfl))))); ((apply vL_val); (case h => ((apply opv_lenc); exact rfl))); ((apply vL_val); (case h => ((apply opv_E); exact rfl))); apply vL_nil; apply seqP_normal; (refine vC_cond_dec rfl (fun h => by omega) (fun _ => ?_)); apply vC_exit; apply seqP_exit; apply loopP_exit; apply blockP_exit; apply seqP_normal; (iterate 2 (apply vC_seq)); apply vC_region; ((apply vL_val); (case h => ((apply opv_E); exact rfl))); apply vL_nil; apply seqP_normal; apply vC_block)
  (apply vC_loop1 4835703278457417187197392 6 (fun u w' => ∃ k : Nat, u = .int .i64 (k : Int) ∧ k ≤ P.length ∧ Fr No w w' ∧ ∀ (j : Nat) y, j < k → P[j]? = some y → ∀ (d : Do5), d ∈ y.2 → (0 ≤ d.c ∧ d.c < (sizes.length : Int)) ∧ d.k ≠ 5 ∧ d.k ≤ 7) (fun u _ => P.length - (RowKit.intOf u).toNat)); (case h1 => (exact norm_eq rfl))
  case h0 => exact ⟨0, rfl, Nat.zero_le _, hf1, fun j x hj => by omega⟩
  clear hf1
  case round =>
  rintro junk2 _ w2 ⟨m, rfl, hm, hf2, okp⟩
  by_cases hltm : m < P.length
  · obtain ⟨y, hy⟩ : ∃ y, P[m]? = some y := ⟨_, List.getElem?_eq_getElem hltm⟩
    have hy' : P[((m : Nat) : Int).toNat]? = some y := by rw [Int.toNat_natCast]; exact hy
    have hyone := y.1.2
    ((iterate 2 (apply vC_seq)); apply vC_region; (iterate 2 (((apply vL_val); (case h => ((apply opv_E); exact rfl))))); ((apply vL_val); (case h => ((apply opv_lenc); exact rfl))); ((apply vL_val); (case h => ((apply opv_E); exact rfl))); apply vL_nil; apply seqP_normal; (refine vC_cond_dec rfl (fun _ => ?_) (fun h => by omega)); apply vC_skip; apply seqP_normal; apply vC_seq; apply vC_block; apply vC_seq; apply vC_region; ((apply vL_val); (case h => ((apply opv_E); exact rfl))); apply vL_nil; apply seqP_normal; apply vC_block)
    (apply vC_loop1 4835703278388147954647440 7 (fun u w' => ∃ k : Nat, u = .int .i64 (k : Int) ∧ k ≤ y.2.length ∧ Fr No w w' ∧ ∀ (j : Nat) d, j < k → y.2[j]? = some d → (0 ≤ d.c ∧ d.c < (sizes.length : Int)) ∧ d.k ≠ 5 ∧ d.k ≤ 7) (fun u _ => y.2.length - (RowKit.intOf u).toNat)); (case h1 => (exact norm_eq rfl))
    case h0 => exact ⟨0, rfl, Nat.zero_le _, hf2, fun j x hj => by omega⟩
    clear hf2
    case round =>
    rintro junk3 _ w3 ⟨q, rfl, hq, hf3, okd⟩
    have hP3 := z.hP.frN hf3
    have hPi3 := (z.hPi y (List.mem_of_getElem? hy)).frN hf3
    have hys := hPi3.small
    by_cases hltq : q < y.2.length
    · obtain ⟨d, hd⟩ : ∃ d, y.2[q]? = some d := ⟨_, List.getElem?_eq_getElem hltq⟩
      have hd' : y.2[((q : Nat) : Int).toNat]? = some d := by rw [Int.toNat_natCast]; exact hd
      have hdone := d.cs.2
      by_cases g0 : d.c < 0
      · ((iterate 2 (apply vC_seq)); apply vC_region; (iterate 3 (((apply vL_val); (case h => ((apply opv_E); exact rfl))))); ((apply vL_val); (case h => ((apply opv_indexAddr); exact norm_eq rfl; exact rfl; assumption; (first | omega | (simp only [List.length_map]; omega)); (first | omega | (simp only [List.length_map]; omega))))); ((apply vL_val); (case h => ((apply opv_ld_el); exact rfl; exact rfl; assumption; assumption; exact rfl))); ((apply vL_val); (case h => ((apply opv_len); ((conv => lhs; whnf) <;> exact rfl); assumption))); ((apply vL_val); (case h => ((apply opv_E); exact rfl))); apply vL_nil; apply seqP_normal; (refine vC_cond_dec rfl (fun _ => ?_) (fun h => by omega)); apply vC_skip; apply seqP_normal; apply vC_seq; apply vC_block; apply vC_seq; apply vC_region; (iterate 2 (((apply vL_val); (case h => ((apply opv_E); exact rfl))))); ((apply vL_val); (case h => ((apply opv_indexAddr); exact norm_eq rfl; exact rfl; assumption; (first | omega | (simp only [List.length_map]; omega)); (first | omega | (simp only [List.length_map]; omega))))); ((apply vL_val); (case h => ((apply opv_ld_el); exact rfl; exact rfl; assumption; assumption; exact rfl))); ((apply vL_val); (case h => ((apply opv_E); exact rfl))); ((apply vL_val); (case h => ((apply opv_indexAddr); ((conv => lhs; whnf) <;> exact rfl); exact rfl; assumption; (first | omega | (simp only [List.length_map]; omega)); (first | omega | (simp only [List.length_map]; omega))))); ((apply vL_val); (case h => ((apply opv_ld_eln); exact rfl; exact rfl; assumption; assumption))); ((apply vL_val); (case h => (apply opw_alloc))); ((apply vL_skip); (case h => ((apply ops_storen); exact norm_eq rfl; exact norm_eq rfl; exact rfl; exact (fun u hu => EncOk.one _ u hu); infer_instance; (first | decide | exact of_decide_eq_true rfl | (simp; done))))); apply vL_nil; apply seqP_normal; apply vC_seq; apply vC_region; ((apply vL_val); (case h => ((apply opv_fieldAddr); exact rfl))); ((apply vL_val); (case h => ((apply opv_loadb1); exact rfl; exact rfl; infer_instance; exact rfl))); (iterate 18 (first | ((with_reducible apply vL_val); (case h => ((with_reducible apply opv_E); exact rfl))) | ((with_reducible apply vL_unwanted'); exact rfl; exact rfl) | (refine vL_or rfl rfl (fun h => by omega) (fun _ => ?_)))); apply vL_nil; apply seqP_normal; ((apply vC_cond_true); exact rfl); apply vC_seq; apply vC_region; ((apply vL_val); (case h => ((apply opv_E); exact rfl))); apply vL_nil; apply seqP_normal; apply vC_ret; (iterate 9 (first | with_reducible apply seqP_ret | with_reducible apply blockP_ret | with_reducible apply loopP_ret)))
        (apply ret1; (case h1 => (exact norm_eq rfl)))
        exact bad _ (hf3.trans (by (apply Fr.allocSet; exact Fr.refl _ _)))
      by_cases g1 : (sizes.length : Int) ≤ d.c
      · ((iterate 2 (apply vC_seq)); apply vC_region; (iterate 3 (((apply vL_val); (case h => ((apply opv_E); exact rfl))))); ((apply vL_val); (case h => ((apply opv_indexAddr); exact norm_eq rfl; exact rfl; assumption; (first | omega | (simp only [List.length_map]; omega)); (first | omega | (simp only [List.length_map]; omega))))); ((apply vL_val); (case h => ((apply opv_ld_el); exact rfl; exact rfl; assumption; assumption; exact rfl))); ((apply vL_val); (case h => ((apply opv_len); ((conv => lhs; whnf) <;> exact rfl); assumption))); ((apply vL_val); (case h => ((apply opv_E); exact rfl))); apply vL_nil; apply seqP_normal; (refine vC_cond_dec rfl (fun _ => ?_) (fun h => by omega)); apply vC_skip; apply seqP_normal; apply vC_seq; apply vC_block; apply vC_seq; apply vC_region; (iterate 2 (((apply vL_val); (case h => ((apply opv_E); exact rfl))))); ((apply vL_val); (case h => ((apply opv_indexAddr); exact norm_eq rfl; exact rfl; assumption; (first | omega | (simp only [List.length_map]; omega)); (first | omega | (simp only [List.length_map]; omega))))); ((apply vL_val); (case h => ((apply opv_ld_el); exact rfl; exact rfl; assumption; assumption; exact rfl))); ((apply vL_val); (case h => ((apply opv_E); exact rfl))); ((apply vL_val); (case h => ((apply opv_indexAddr); ((conv => lhs; whnf) <;> exact rfl); exact rfl; assumption; (first | omega | (simp only [List.length_map]; omega)); (first | omega | (simp only [List.length_map]; omega))))); ((apply vL_val); (case h => ((apply opv_ld_eln); exact rfl; exact rfl; assumption; assumption))); ((apply vL_val); (case h => (apply opw_alloc))); ((apply vL_skip); (case h => ((apply ops_storen); exact norm_eq rfl; exact norm_eq rfl; exact rfl; exact (fun u hu => EncOk.one _ u hu); infer_instance; (first | decide | exact of_decide_eq_true rfl | (simp; done))))); apply vL_nil; apply seqP_normal; apply vC_seq; apply vC_region; (iterate 25 (first | ((with_reducible apply vL_val); (case h => ((with_reducible apply opv_E); exact rfl))) | ((with_reducible apply vL_val); (case h => ((with_reducible apply opv_loadb1); exact rfl; exact rfl; infer_instance; exact rfl))) | ((with_reducible apply vL_val); (case h => ((with_reducible apply opv_fieldAddr); exact rfl))) | ((with_reducible apply vL_val); (case h => ((with_reducible apply opv_lenc); exact rfl))) | ((with_reducible apply vL_wanted); exact rfl) | ((with_reducible apply vL_unwanted'); exact rfl; exact rfl) | (refine vL_or rfl rfl (fun _ => ?_) (fun h => by omega)) | (refine vL_or rfl rfl (fun h => by omega) (fun _ => ?_)))); apply vL_nil; apply seqP_normal; ((apply vC_cond_true); exact rfl); apply vC_seq; apply vC_region; ((apply vL_val); (case h => ((apply opv_E); exact rfl))); apply vL_nil; apply seqP_normal; apply vC_ret; (iterate 9 (first | with_reducible apply seqP_ret | with_reducible apply blockP_ret | with_reducible apply loopP_ret)))
        (apply ret1; (case h1 => (exact norm_eq rfl)))
        exact bad _ (hf3.trans (by (apply Fr.allocSet; exact Fr.refl _ _)))
      by_cases g2 : d.k = 5
      · ((iterate 2 (apply vC_seq)); apply vC_region; (iterate 3 (((apply vL_val); (case h => ((apply opv_E); exact rfl))))); ((apply vL_val); (case h => ((apply opv_indexAddr); exact norm_eq rfl; exact rfl; assumption; (first | omega | (simp only [List.length_map]; omega)); (first | omega | (simp only [List.length_map]; omega))))); ((apply vL_val); (case h => ((apply opv_ld_el); exact rfl; exact rfl; assumption; assumption; exact rfl))); ((apply vL_val); (case h => ((apply opv_len); ((conv => lhs; whnf) <;> exact rfl); assumption))); ((apply vL_val); (case h => ((apply opv_E); exact rfl))); apply vL_nil; apply seqP_normal; (refine vC_cond_dec rfl (fun _ => ?_) (fun h => by omega)); apply vC_skip; apply seqP_normal; apply vC_seq; apply vC_block; apply vC_seq; apply vC_region; (iterate 2 (((apply vL_val); (case h => ((apply opv_E); exact rfl))))); ((apply vL_val); (case h => ((apply opv_indexAddr); exact norm_eq rfl; exact rfl; assumption; (first | omega | (simp only [List.length_map]; omega)); (first | omega | (simp only [List.length_map]; omega))))); ((apply vL_val); (case h => ((apply opv_ld_el); exact rfl; exact rfl; assumption; assumption; exact rfl))); ((apply vL_val); (case h => ((apply opv_E); exact rfl))); ((apply vL_val); (case h => ((apply opv_indexAddr); ((conv => lhs; whnf) <;> exact rfl); exact rfl; assumption; (first | omega | (simp only [List.length_map]; omega)); (first | omega | (simp only [List.length_map]; omega))))); ((apply vL_val); (case h => ((apply opv_ld_eln); exact rfl; exact rfl; assumption; assumption))); ((apply vL_val); (case h => (apply opw_alloc))); ((apply vL_skip); (case h => ((apply ops_storen); exact norm_eq rfl; exact norm_eq rfl; exact rfl; exact (fun u hu => EncOk.one _ u hu); infer_instance; (first | decide | exact of_decide_eq_true rfl | (simp; done))))); apply vL_nil; apply seqP_normal; apply vC_seq; apply vC_region; (iterate 28 (first | ((with_reducible apply vL_val); (case h => ((with_reducible apply opv_E); exact rfl))) | ((with_reducible apply vL_val); (case h => ((with_reducible apply opv_loadb1); exact rfl; exact rfl; infer_instance; exact rfl))) | ((with_reducible apply vL_val); (case h => ((with_reducible apply opv_fieldAddr); exact rfl))) | ((with_reducible apply vL_val); (case h => ((with_reducible apply opv_lenc); exact rfl))) | ((with_reducible apply vL_wanted); exact rfl) | ((with_reducible apply vL_unwanted'); exact rfl; exact rfl) | (refine vL_or rfl rfl (fun _ => ?_) (fun h => by omega)) | (refine vL_or rfl rfl (fun h => by omega) (fun _ => ?_)))); apply vL_nil; apply seqP_normal; ((apply vC_cond_true); exact rfl); apply vC_seq; apply vC_region; ((apply vL_val); (case h => ((apply opv_E); exact rfl))); apply vL_nil; apply seqP_normal; apply vC_ret; (iterate 9 (first | with_reducible apply seqP_ret | with_reducible apply blockP_ret | with_reducible apply loopP_ret)))
        (apply ret1; (case h1 => (exact norm_eq rfl)))
        exact bad _ (hf3.trans (by (apply Fr.allocSet; exact Fr.refl _ _)))
      by_cases g3 : 7 < d.k
      · ((iterate 2 (apply vC_seq)); apply vC_region; (iterate 3 (((apply vL_val); (case h => ((apply opv_E); exact rfl))))); ((apply vL_val); (case h => ((apply opv_indexAddr); exact norm_eq rfl; exact rfl; assumption; (first | omega | (simp only [List.length_map]; omega)); (first | omega | (simp only [List.length_map]; omega))))); ((apply vL_val); (case h => ((apply opv_ld_el); exact rfl; exact rfl; assumption; assumption; exact rfl))); ((apply vL_val); (case h => ((apply opv_len); ((conv => lhs; whnf) <;> exact rfl); assumption))); ((apply vL_val); (case h => ((apply opv_E); exact rfl))); apply vL_nil; apply seqP_normal; (refine vC_cond_dec rfl (fun _ => ?_) (fun h => by omega)); apply vC_skip; apply seqP_normal; apply vC_seq; apply vC_block; apply vC_seq; apply vC_region; (iterate 2 (((apply vL_val); (case h => ((apply opv_E); exact rfl))))); ((apply vL_val); (case h => ((apply opv_indexAddr); exact norm_eq rfl; exact rfl; assumption; (first | omega | (simp only [List.length_map]; omega)); (first | omega | (simp only [List.length_map]; omega))))); ((apply vL_val); (case h => ((apply opv_ld_el); exact rfl; exact rfl; assumption; assumption; exact rfl))); ((apply vL_val); (case h => ((apply opv_E); exact rfl))); ((apply vL_val); (case h => ((apply opv_indexAddr); ((conv => lhs; whnf) <;> exact rfl); exact rfl; assumption; (first | omega | (simp only [List.length_map]; omega)); (first | omega | (simp only [List.length_map]; omega))))); ((apply vL_val); (case h => ((apply opv_ld_eln); exact rfl; exact rfl; assumption; assumption))); ((apply vL_val); (case h => (apply opw_alloc))); ((apply vL_skip); (case h => ((apply ops_storen); exact norm_eq rfl; exact norm_eq rfl; exact rfl; exact (fun u hu => EncOk.one _ u hu); infer_instance; (first | decide | exact of_decide_eq_true rfl | (simp; done))))); apply vL_nil; apply seqP_normal; apply vC_seq; apply vC_region; (iterate 31 (first | ((with_reducible apply vL_val); (case h => ((with_reducible apply opv_E); exact rfl))) | ((with_reducible apply vL_val); (case h => ((with_reducible apply opv_loadb1); exact rfl; exact rfl; infer_instance; exact rfl))) | ((with_reducible apply vL_val); (case h => ((with_reducible apply opv_fieldAddr); exact rfl))) | ((with_reducible apply vL_val); (case h => ((with_reducible apply opv_lenc); exact rfl))) | ((with_reducible apply vL_wanted); exact rfl) | (refine vL_or rfl rfl (fun _ => ?_) (fun h => by omega)))); apply vL_nil; apply seqP_normal; (refine vC_cond_dec rfl (fun _ => ?_) (fun h => by omega)); apply vC_seq; apply vC_region; ((apply vL_val); (case h => ((apply opv_E); exact rfl))); apply vL_nil; apply seqP_normal; apply vC_ret; (iterate 9 (first | with_reducible apply seqP_ret | with_reducible apply blockP_ret | with_reducible apply loopP_ret)))
        (apply ret1; (case h1 => (exact norm_eq rfl)))
        exact bad _ (hf3.trans (by (apply Fr.allocSet; exact Fr.refl _ _)))
      ((iterate 2 (apply vC_seq)); apply vC_region; (iterate 3 (((apply vL_val); (case h => ((apply opv_E); exact rfl))))); ((apply vL_val); (case h => ((apply opv_indexAddr); exact norm_eq rfl; exact rfl; assumption; (first | omega | (simp only [List.length_map]; omega)); (first | omega | (simp only [List.length_map]; omega))))); ((apply vL_val); (case h => ((apply opv_ld_el); exact rfl; exact rfl; assumption; assumption; exact rfl))); ((apply vL_val); (case h => ((apply opv_len); ((conv => lhs; whnf) <;> exact rfl); assumption))); ((apply vL_val); (case h => ((apply opv_E); exact rfl))); apply vL_nil; apply seqP_normal; (refine vC_cond_dec rfl (fun _ => ?_) (fun h => by omega)); apply vC_skip; apply seqP_normal; apply vC_seq; apply vC_block; apply vC_seq; apply vC_region; (iterate 2 (((apply vL_val); (case h => ((apply opv_E); exact rfl))))); ((apply vL_val); (case h => ((apply opv_indexAddr); exact norm_eq rfl; exact rfl; assumption; (first | omega | (simp only [List.length_map]; omega)); (first | omega | (simp only [List.length_map]; omega))))); ((apply vL_val); (case h => ((apply opv_ld_el); exact rfl; exact rfl; assumption; assumption; exact rfl))); ((apply vL_val); (case h => ((apply opv_E); exact rfl))); ((apply vL_val); (case h => ((apply opv_indexAddr); ((conv => lhs; whnf) <;> exact rfl); exact rfl; assumption; (first | omega | (simp only [List.length_map]; omega)); (first | omega | (simp only [List.length_map]; omega))))); ((apply vL_val); (case h => ((apply opv_ld_eln); exact rfl; exact rfl; assumption; assumption))); ((apply vL_val); (case h => (apply opw_alloc))); ((apply vL_skip); (case h => ((apply ops_storen); exact norm_eq rfl; exact norm_eq rfl; exact rfl; exact (fun u hu => EncOk.one _ u hu); infer_instance; (first | decide | exact of_decide_eq_true rfl | (simp; done))))); apply vL_nil; apply seqP_normal; apply vC_seq; apply vC_region; (iterate 31 (first | ((with_reducible apply vL_val); (case h => ((with_reducible apply opv_E); exact rfl))) | ((with_reducible apply vL_val); (case h => ((with_reducible apply opv_loadb1); exact rfl; exact rfl; infer_instance; exact rfl))) | ((with_reducible apply vL_val); (case h => ((with_reducible apply opv_fieldAddr); exact rfl))) | ((with_reducible apply vL_val); (case h => ((with_reducible apply opv_lenc); exact rfl))) | ((with_reducible apply vL_wanted); exact rfl) | (refine vL_or rfl rfl (fun _ => ?_) (fun h => by omega)))); apply vL_nil; apply seqP_normal; (refine vC_cond_dec rfl (fun h => by omega) (fun _ => ?_)); apply vC_skip; apply blockP_normal; apply seqP_normal; apply vC_region; ((apply vL_val); (case h => ((apply opv_E); exact rfl))); ((apply vL_val); (case h => ((apply opv_add); exact rfl; exact rfl; (first | omega | (simp only [List.length_map]; omega))))); ((apply vL_val); (case h => ((apply opv_E); exact rfl))); apply vL_nil; apply loopP_normal)
      (with_reducible apply end1); (case hs => ((iterate 43 (first | with_reducible apply same_updN | ((with_reducible refine same_updO ?_ ?_); rotate_left; exact rfl) | ((with_reducible refine same_upd ?_ ?_); rotate_left; exact rfl))); (exact same_mask _ _ _))); (case h1 => (exact norm_eq rfl))
      · refine ⟨q + 1, rfl, by omega, hf3.trans (by (apply Fr.allocSet; exact Fr.refl _ _)), fun j x hj hx => ?_⟩
        by_cases e : j = q
        · subst e; rw [hd] at hx; cases hx; exact ⟨⟨by omega, by omega⟩, g2, by omega⟩
        · exact okd j x (by omega) hx
      · simp [RowKit.intOf]; omega
    · ((iterate 2 (apply vC_seq)); apply vC_region; (iterate 3 (((apply vL_val); (case h => ((apply opv_E); exact rfl))))); ((apply vL_val); (case h => ((apply opv_indexAddr); exact norm_eq rfl; exact rfl; assumption; (first | omega | (simp only [List.length_map]; omega)); (first | omega | (simp only [List.length_map]; omega))))); ((apply vL_val); (case h => ((apply opv_ld_el); exact rfl; exact rfl; assumption; assumption; exact rfl))); ((apply vL_val); (case h => ((apply opv_len); ((conv => lhs; whnf) <;> exact rfl); assumption))); ((apply vL_val); (case h => ((apply opv_E); exact rfl))); apply vL_nil; apply seqP_normal; (refine vC_cond_dec rfl (fun h => by omega) (fun _ => ?_)); apply vC_exit; apply seqP_exit; apply loopP_exit; apply blockP_exit; apply blockP_normal; apply seqP_normal; apply vC_region; ((apply vL_val); (case h => ((apply opv_E); exact rfl))); ((apply vL_val); (case h => ((apply opv_add); exact rfl; exact rfl; (first | omega | (simp only [List.length_map]; omega))))); ((apply vL_val); (case h => ((apply opv_E); exact rfl))); apply vL_nil; apply loopP_normal)
      (with_reducible apply end1); (case hs => ((iterate 18 (first | ((with_reducible refine same_updO ?_ ?_); rotate_left; exact rfl) | ((with_reducible refine same_upd ?_ ?_); rotate_left; exact rfl) | ((with_reducible refine same_maskIn ?_ ?_); rotate_left; exact rfl))); (exact same_mask _ _ _))); (case h1 => (exact norm_eq rfl))
      · refine ⟨m + 1, rfl, by omega, hf3, fun j x hj hx d hd => ?_⟩
        by_cases e : j = m
        · subst e
          rw [hy] at hx; cases hx
          obtain ⟨i, hi, e⟩ := List.getElem_of_mem hd
          exact okd i d (by omega) (by rw [List.getElem?_eq_getElem hi, e])
        · exact okp j x (by omega) hx d hd
      · simp [RowKit.intOf]; omega
  · ((iterate 2 (apply vC_seq)); apply vC_region; (iterate 2 (((apply vL_val); (case h => ((apply opv_E); exact rfl))))); ((apply vL_val); (case h => ((apply opv_lenc); exact rfl))); ((apply vL_val); (case h => ((apply opv_E); exact rfl))); apply vL_nil; apply seqP_normal; (refine vC_cond_dec rfl (fun h => by omega) (fun _ => ?_)); apply vC_exit; apply seqP_exit; apply loopP_exit; apply blockP_exit; apply seqP_normal; apply vC_seq; apply vC_region; ((apply vL_val); (case h => ((apply opv_E); exact rfl))); apply vL_nil; apply seqP_normal; apply vC_ret)
    (apply ret1; (case h1 => (exact norm_eq rfl)))
    refine ⟨hf2, true, rfl, fun _ => ⟨by omega, ⟨by omega, by omega⟩, hall, fun y hy d hd => ?_⟩⟩
    obtain ⟨i, hi, e⟩ := List.getElem_of_mem hy
    exact okp i y (by omega) (by rw [List.getElem?_eq_getElem hi, e]) d hd
end Go.Proofs.YtbaidcnalkdhgaaGreat
