/- Layer 16: the chapter's example: the walk. Layer 16: programs that are tame. Layer 16: ChansClosed: the walk. Opening the arguments of the rows of layer 16. -/
import Derived.Test.YtbaidcnalkdhgaaGreatVp
import Derived.Test.YtbaidcnalkdhgaaGreatEo
import Derived.Test.YtbaidcnalkdhgaaGreatRows
import Derived.OpenShut
import Derived.ChangeSame
import Derived.Deep.Strs
set_option maxRecDepth 100000
namespace Go.Proofs.YtbaidcnalkdhgaaGreat
open Go Go.Eng
theorem len1 {α : Type} : ∀ {l : List α}, l.length = 1 → ∃ x, l = [x]
  | [x], _ => ⟨x, rfl⟩
theorem len2 {α : Type} : ∀ {l : List α}, l.length = 2 → ∃ x y, l = [x, y]
  | [x, y], _ => ⟨x, y, rfl⟩
def nl0 : OV := ⟨.slice none 0 0, rfl⟩
def pa16 (b1 b2 : Nat) : List (OV × List Do5) := [(⟨.slice (some ⟨b1, 0, none⟩) 2 2, rfl⟩, [⟨2, 0, 5, nl0, false⟩, ⟨4, 0, 0, nl0, false⟩]), (⟨.slice (some ⟨b2, 0, none⟩) 2 2, rfl⟩, [⟨3, 0, 0, nl0, false⟩, ⟨3, 0, 0, nl0, false⟩])]
def Qa16 : List (List Do5) := [[⟨2, 0, 5, nl0, false⟩, ⟨4, 0, 0, nl0, false⟩], [⟨3, 0, 0, nl0, false⟩, ⟨3, 0, 0, nl0, false⟩]]
/-- the last that task 1 was told as it went on the first time -/
def lastE (E : List Ev5) (k : Nat) : Ev5 := (E.take k).foldl (fun acc e => if e.t = 1 ∧ e.a = 1 then e else acc) ⟨0, 0, 0, 0, false⟩
theorem run16a (t0 t1 cb : Nat) : runF (step16 Qa16) [1, 0] 20 0 (⟨[.rdyS ⟨t0, 0, 1, ⟨0, 0, false⟩⟩ true, .rdyR ⟨t1, 1, 1, ⟨0, 0, false⟩⟩ 5 true], [t0, t1], [⟨cb, 0, [], [], [], false⟩], [0, 1]⟩, [⟨0, 0, 0, 0, false⟩, ⟨1, 0, 0, 0, false⟩]) = (4, (⟨[.over, .over], [t0, t1], [⟨cb, 0, [], [], [], true⟩], []⟩, [⟨0, 0, 0, 0, false⟩, ⟨1, 0, 0, 0, false⟩, ⟨1, 1, 0, 5, true⟩, ⟨0, 1, 0, 0, true⟩, ⟨0, 2, 0, 0, true⟩, ⟨1, 2, 0, 0, false⟩])) := by
  rw [runF_some (s' := (⟨[.rdyS ⟨t0, 0, 1, ⟨0, 0, false⟩⟩ true, .wR ⟨t1, 1, 2, ⟨0, 0, false⟩⟩ 0], [t0, t1], [⟨cb, 0, [], [], [1], false⟩], [0]⟩, [⟨0, 0, 0, 0, false⟩, ⟨1, 0, 0, 0, false⟩, ⟨1, 1, 0, 5, true⟩])) (show step16 Qa16 (⟨[.rdyS ⟨t0, 0, 1, ⟨0, 0, false⟩⟩ true, .rdyR ⟨t1, 1, 1, ⟨0, 0, false⟩⟩ 5 true], [t0, t1], [⟨cb, 0, [], [], [], false⟩], [0, 1]⟩, [⟨0, 0, 0, 0, false⟩, ⟨1, 0, 0, 0, false⟩]) (pkA [1, 0] 0) = _ from rfl)]
  rw [runF_some (s' := (⟨[.rdyY ⟨t0, 0, 2, ⟨0, 0, true⟩⟩, .rdyR ⟨t1, 1, 2, ⟨0, 0, false⟩⟩ 0 false], [t0, t1], [⟨cb, 0, [], [], [], true⟩], [1, 0]⟩, [⟨0, 0, 0, 0, false⟩, ⟨1, 0, 0, 0, false⟩, ⟨1, 1, 0, 5, true⟩, ⟨0, 1, 0, 0, true⟩])) (show step16 Qa16 (⟨[.rdyS ⟨t0, 0, 1, ⟨0, 0, false⟩⟩ true, .wR ⟨t1, 1, 2, ⟨0, 0, false⟩⟩ 0], [t0, t1], [⟨cb, 0, [], [], [1], false⟩], [0]⟩, [⟨0, 0, 0, 0, false⟩, ⟨1, 0, 0, 0, false⟩, ⟨1, 1, 0, 5, true⟩]) (pkA [1, 0] 1) = _ from rfl)]
  rw [runF_some (s' := (⟨[.over, .rdyR ⟨t1, 1, 2, ⟨0, 0, false⟩⟩ 0 false], [t0, t1], [⟨cb, 0, [], [], [], true⟩], [1]⟩, [⟨0, 0, 0, 0, false⟩, ⟨1, 0, 0, 0, false⟩, ⟨1, 1, 0, 5, true⟩, ⟨0, 1, 0, 0, true⟩, ⟨0, 2, 0, 0, true⟩])) (show step16 Qa16 (⟨[.rdyY ⟨t0, 0, 2, ⟨0, 0, true⟩⟩, .rdyR ⟨t1, 1, 2, ⟨0, 0, false⟩⟩ 0 false], [t0, t1], [⟨cb, 0, [], [], [], true⟩], [1, 0]⟩, [⟨0, 0, 0, 0, false⟩, ⟨1, 0, 0, 0, false⟩, ⟨1, 1, 0, 5, true⟩, ⟨0, 1, 0, 0, true⟩]) (pkA [1, 0] 2) = _ from rfl)]
  rw [runF_some (s' := (⟨[.over, .over], [t0, t1], [⟨cb, 0, [], [], [], true⟩], []⟩, [⟨0, 0, 0, 0, false⟩, ⟨1, 0, 0, 0, false⟩, ⟨1, 1, 0, 5, true⟩, ⟨0, 1, 0, 0, true⟩, ⟨0, 2, 0, 0, true⟩, ⟨1, 2, 0, 0, false⟩])) (show step16 Qa16 (⟨[.over, .rdyR ⟨t1, 1, 2, ⟨0, 0, false⟩⟩ 0 false], [t0, t1], [⟨cb, 0, [], [], [], true⟩], [1]⟩, [⟨0, 0, 0, 0, false⟩, ⟨1, 0, 0, 0, false⟩, ⟨1, 1, 0, 5, true⟩, ⟨0, 1, 0, 0, true⟩, ⟨0, 2, 0, 0, true⟩]) (pkA [1, 0] 3) = _ from rfl)]
  exact runF_none (show step16 Qa16 (⟨[.over, .over], [t0, t1], [⟨cb, 0, [], [], [], true⟩], []⟩, [⟨0, 0, 0, 0, false⟩, ⟨1, 0, 0, 0, false⟩, ⟨1, 1, 0, 5, true⟩, ⟨0, 1, 0, 0, true⟩, ⟨0, 2, 0, 0, true⟩, ⟨1, 2, 0, 0, false⟩]) (pkA [1, 0] 4) = none from rfl)
theorem awake16 (w : World) : Rets Tryz.prog 28 #[] w fun u w' => u = .bool true ∧ Fr No w w' := by
  refine rets_of Tryz.func28 rfl Tryz.ntmps28 rfl rfl (by kernel_rfl) ?_
  (apply vC_seq; apply vC_region; ((apply vL_val); (case h => ((apply opv_E); exact rfl))); apply vL_nil; apply seqP_normal; apply vC_seq; apply vC_region; (iterate 6 (first | ((with_reducible apply vL_val); (case h => ((with_reducible apply opv_buildS); exact rfl; exact (rfl : _ = some [_, _, _, _, _])))) | ((with_reducible apply vL_val); (case h => ((with_reducible apply opw_buildSl); exact rfl; exact rfl; exact rfl; exact (rfl : _ = some [_, _, _, _, _, _, _, _, _, _])))))); ((apply vL_val); (case h => ((apply opw_buildSl); exact rfl; exact rfl; exact rfl; exact (rfl : _ = some [_, _])))); ((apply vL_val); (case h => ((apply opw_buildSl); exact rfl; exact rfl; exact rfl; exact (rfl : _ = some [_])))))
  refine vL_gen (fun w' => Fr No w w' ∧ Blk w'.heap w.heap.size [.int .i64 2, .int .i64 0, .int .i64 5, .slice none 0 0, .bool false, .int .i64 4, .int .i64 0, .int .i64 0, .slice none 0 0, .bool false] 167 ∧ Blk w'.heap (w.alloc (.cells #[.int .i64 2, .int .i64 0, .int .i64 5, .slice none 0 0, .bool false, .int .i64 4, .int .i64 0, .int .i64 0, .slice none 0 0, .bool false] 167)).heap.size [.int .i64 3, .int .i64 0, .int .i64 0, .slice none 0 0, .bool false, .int .i64 3, .int .i64 0, .int .i64 0, .slice none 0 0, .bool false] 167 ∧ Blk w'.heap ((w.alloc (.cells #[.int .i64 2, .int .i64 0, .int .i64 5, .slice none 0 0, .bool false, .int .i64 4, .int .i64 0, .int .i64 0, .slice none 0 0, .bool false] 167)).alloc (.cells #[.int .i64 3, .int .i64 0, .int .i64 0, .slice none 0 0, .bool false, .int .i64 3, .int .i64 0, .int .i64 0, .slice none 0 0, .bool false] 167)).heap.size [.slice (some ⟨w.heap.size, 0, none⟩) 2 2, .slice (some ⟨(w.alloc (.cells #[.int .i64 2, .int .i64 0, .int .i64 5, .slice none 0 0, .bool false, .int .i64 4, .int .i64 0, .int .i64 0, .slice none 0 0, .bool false] 167)).heap.size, 0, none⟩) 2 2] 168 ∧ Blk w'.heap (((w.alloc (.cells #[.int .i64 2, .int .i64 0, .int .i64 5, .slice none 0 0, .bool false, .int .i64 4, .int .i64 0, .int .i64 0, .slice none 0 0, .bool false] 167)).alloc (.cells #[.int .i64 3, .int .i64 0, .int .i64 0, .slice none 0 0, .bool false, .int .i64 3, .int .i64 0, .int .i64 0, .slice none 0 0, .bool false] 167)).alloc (.cells #[.slice (some ⟨w.heap.size, 0, none⟩) 2 2, .slice (some ⟨(w.alloc (.cells #[.int .i64 2, .int .i64 0, .int .i64 5, .slice none 0 0, .bool false, .int .i64 4, .int .i64 0, .int .i64 0, .slice none 0 0, .bool false] 167)).heap.size, 0, none⟩) 2 2] 168)).heap.size [.int .i64 0] 3) ⟨by ((iterate 4 (apply Fr.alloc)); exact Fr.refl _ _), Blk.as inferInstance rfl, Blk.as inferInstance rfl, Blk.as inferInstance rfl, Blk.as inferInstance rfl⟩ ?_
  rintro w4 ⟨hf4, k1, k2, k3, k4⟩
  generalize (((w.alloc (.cells #[.int .i64 2, .int .i64 0, .int .i64 5, .slice none 0 0, .bool false, .int .i64 4, .int .i64 0, .int .i64 0, .slice none 0 0, .bool false] 167)).alloc (.cells #[.int .i64 3, .int .i64 0, .int .i64 0, .slice none 0 0, .bool false, .int .i64 3, .int .i64 0, .int .i64 0, .slice none 0 0, .bool false] 167)).alloc (.cells #[.slice (some ⟨w.heap.size, 0, none⟩) 2 2, .slice (some ⟨(w.alloc (.cells #[.int .i64 2, .int .i64 0, .int .i64 5, .slice none 0 0, .bool false, .int .i64 4, .int .i64 0, .int .i64 0, .slice none 0 0, .bool false] 167)).heap.size, 0, none⟩) 2 2] 168)).heap.size = b4 at *
  generalize ((w.alloc (.cells #[.int .i64 2, .int .i64 0, .int .i64 5, .slice none 0 0, .bool false, .int .i64 4, .int .i64 0, .int .i64 0, .slice none 0 0, .bool false] 167)).alloc (.cells #[.int .i64 3, .int .i64 0, .int .i64 0, .slice none 0 0, .bool false, .int .i64 3, .int .i64 0, .int .i64 0, .slice none 0 0, .bool false] 167)).heap.size = b3 at *
  generalize (w.alloc (.cells #[.int .i64 2, .int .i64 0, .int .i64 5, .slice none 0 0, .bool false, .int .i64 4, .int .i64 0, .int .i64 0, .slice none 0 0, .bool false] 167)).heap.size = b2 at *
  generalize w.heap.size = b1 at *
  have z : Pz16 w4.heap (.slice (some ⟨b3, 0, none⟩) 2 2) (pa16 b1 b2) := ⟨rd_lit (enc := oE) (pa16 b1 b2) k3 rfl (show 2 ≤ 10 by decide), fun y hy => by
    simp only [pa16, List.mem_cons, List.not_mem_nil, or_false] at hy
    rcases hy with rfl | rfl
    · exact rd_lit (enc := do5) [⟨2, 0, 5, nl0, false⟩, ⟨4, 0, 0, nl0, false⟩] k1 rfl (by decide)
    · exact rd_lit (enc := do5) [⟨3, 0, 0, nl0, false⟩, ⟨3, 0, 0, nl0, false⟩] k2 rfl (by decide), rfl⟩
  have hs : Rd w4.heap 1 iE (.slice (some ⟨b4, 0, none⟩) 1 1) [0] := rd_lit (enc := iE) [0] k4 rfl (by decide)
  have hPm : (pa16 b1 b2).map (·.2) = Qa16 := rfl
  refine vL_callF rfl (begun16 z (show 2 ≤ 6 by decide) hs (by decide) (by decide) rfl) rfl ?_
  rintro _ w5 ⟨wb, qb, rb, cl, tl, kb, rfl, hcl, htl, S5⟩
  obtain ⟨⟨cb, c0⟩, rfl⟩ : ∃ x, cl = [x] := len1 (by have := congrArg List.length hcl; simpa using this)
  obtain rfl : c0 = 0 := by simpa using hcl
  obtain ⟨t0, t1, rfl⟩ : ∃ t0 t1, tl = [t0, t1] := len2 htl
  have I0 : Inv16 ((pa16 b1 b2).map (·.2)) [(cb, 0)] [t0, t1] (ps0 [(cb, 0)] [t0, t1], []) := inv16_init rfl
  have pr : Pr16 w4 (.slice (some ⟨b3, 0, none⟩) 2 2) (pa16 b1 b2) [(cb, 0)] := ⟨z, show 2 ≤ 6 by decide, fun y hy d hd => by
    simp only [pa16, List.mem_cons, List.not_mem_nil, or_false] at hy
    rcases hy with rfl | rfl <;> (simp only [List.mem_cons, List.not_mem_nil, or_false] at hd; rcases hd with rfl | rfl <;> exact ⟨Int.le_refl _, show (0 : Int) < 1 by decide⟩), Nat.one_pos⟩
  generalize (.slice (some ⟨b3, 0, none⟩) 2 2 : Value) = vp at *
  have S6 : At (W16 wb rb vp [(cb, 0)] [t0, t1] (ps0 [(cb, 0)] [t0, t1], []) * RwA qb vp (rwI ([0].map row0) (pa16 b1 b2).length)) w4 No w5 := w16_shut S5
  clear S5 k1 k2 k3 k4 hs z
  obtain ⟨_, _, _, h51, h52, h53, h54, h55, h56, h57⟩ := w16_see S6
  ((iterate 5 (((apply vL_val); (case h => ((apply opv_E); exact rfl))))); apply vL_nil; apply seqP_normal; (iterate 2 (apply vC_seq)); apply vC_region; (iterate 8 (first | ((with_reducible apply vL_val); (case h => ((with_reducible apply opv_E); exact rfl))) | ((with_reducible apply vL_val); (case h => ((with_reducible apply opv_eql_pnil); exact rfl; exact rfl; (simp; done)))) | ((with_reducible apply vL_wanted); exact rfl))); ((apply vL_val); (case h => ((apply opv_fieldAddr); exact rfl))); ((apply vL_wanted); exact rfl); ((apply vL_val); (case h => ((apply opv_loadb1); exact rfl; exact rfl; assumption; exact rfl))); ((apply vL_wanted); exact rfl))
  refine vL_callF rfl (w16_step pr S6 I0 (Nat.zero_le _) 0 (by decide)) rfl ?_
  rw [hPm]
  have hs1 : step16 Qa16 (ps0 [(cb, 0)] [t0, t1], []) 0 = some (⟨[.wS ⟨t0, 0, 1, ⟨0, 0, false⟩⟩ 0 5, .rdyY ⟨t1, 1, 0, ⟨0, 0, false⟩⟩], [t0, t1], [⟨cb, 0, [], [0], [], false⟩], [1]⟩, [⟨0, 0, 0, 0, false⟩]) := rfl
  rw [hs1]
  rintro _ w6 (⟨h, _⟩ | ⟨T1, h, I1, hl1, rfl, S7⟩)
  · cases h
  obtain rfl := Option.some.inj h
  clear h hs1 h51 h52 h53 h54 S6 hl1 I0
  obtain ⟨_, _, _, h61, h62, h63, h64, h65, h66, h67⟩ := w16_see S7
  (((apply vL_wanted); exact rfl); ((apply vL_val); (case h => ((apply opv_not); exact rfl))); (iterate 7 (first | ((with_reducible apply vL_val); (case h => ((with_reducible apply opv_E); exact rfl))) | ((with_reducible apply vL_wanted); exact rfl))); ((apply vL_val); (case h => ((apply opv_fieldAddr); exact rfl))); ((apply vL_wanted); exact rfl); ((apply vL_val); (case h => ((apply opv_loadb1); exact rfl; exact rfl; assumption; exact rfl))); ((apply vL_wanted); exact rfl))
  obtain ⟨kb1, S8⟩ := w16_open S7
  refine vL_callF rfl (pw_parked S8) rfl ?_
  intro v7 w7 S9
  have o9 : Own w7.heap 3 1 iE v7 [0] := S9.own.1
  have S10 := w16_shut S9.drop
  obtain ⟨_, _, _, h71, h72, h73, h74, h75, h76, h77⟩ := w16_see S10
  obtain ⟨ra, rn, rc, rfl⟩ := o9.isSlice
  clear h61 h62 h63 h64 S7 S8 S9
  (((apply vL_wanted); exact rfl); ((apply vL_val); (case h => ((apply opw_buildSl); exact rfl; exact rfl; exact rfl; exact (rfl : _ = some [_])))); ((apply vL_wanted); exact rfl))
  refine vL_callF rfl (kit_same_int _ _ [0] [0] _ (o9.rd.alloc) (Rd.new1 iE 0 rfl)) rfl ?_
  rintro _ w8 ⟨⟨k8, rfl⟩, rfl⟩
  have S11 := S10.frN (show Fr No w7 ((w7.alloc (.cells #[.int .i64 0] 3)).drewN k8) by (apply Fr.drewN; apply Fr.alloc; exact Fr.refl _ _))
  obtain ⟨_, _, _, h81, h82, h83, h84, h85, h86, h87⟩ := w16_see S11
  clear h71 h72 h73 h74 S10 o9
  generalize (w7.alloc (.cells #[.int .i64 0] 3)).drewN k8 = w8 at *
  (((apply vL_wanted); exact rfl); ((apply vL_val); (case h => ((apply opv_not); exact rfl))); (iterate 7 (first | ((with_reducible apply vL_val); (case h => ((with_reducible apply opv_E); exact rfl))) | ((with_reducible apply vL_wanted); exact rfl))); ((apply vL_val); (case h => ((apply opv_fieldAddr); exact rfl))); ((apply vL_wanted); exact rfl); ((apply vL_val); (case h => ((apply opv_loadb1); exact rfl; exact rfl; assumption; exact rfl))); ((apply vL_wanted); exact rfl))
  refine vL_callF rfl (w16_step pr S11 I1 (show 1 ≤ 100000 by decide) 0 (by decide)) rfl ?_
  rw [hPm]
  have hs2 : step16 Qa16 (⟨[.wS ⟨t0, 0, 1, ⟨0, 0, false⟩⟩ 0 5, .rdyY ⟨t1, 1, 0, ⟨0, 0, false⟩⟩], [t0, t1], [⟨cb, 0, [], [0], [], false⟩], [1]⟩, [⟨0, 0, 0, 0, false⟩]) 0 = some (⟨[.rdyS ⟨t0, 0, 1, ⟨0, 0, false⟩⟩ true, .rdyR ⟨t1, 1, 1, ⟨0, 0, false⟩⟩ 5 true], [t0, t1], [⟨cb, 0, [], [], [], false⟩], [0, 1]⟩, [⟨0, 0, 0, 0, false⟩, ⟨1, 0, 0, 0, false⟩]) := rfl
  rw [hs2]
  rintro _ w9 (⟨h, _⟩ | ⟨T1, h, I2, hl2, rfl, S12⟩)
  · cases h
  obtain rfl := Option.some.inj h
  clear h hs2 h81 h82 h83 h84 S11 hl2 I1
  obtain ⟨_, _, _, h91, h92, h93, h94, h95, h96, h97⟩ := w16_see S12
  (((apply vL_wanted); exact rfl); ((apply vL_val); (case h => ((apply opv_not); exact rfl))); (iterate 7 (first | ((with_reducible apply vL_val); (case h => ((with_reducible apply opv_E); exact rfl))) | ((with_reducible apply vL_wanted); exact rfl))); ((apply vL_val); (case h => ((apply opv_fieldAddr); exact rfl))); ((apply vL_wanted); exact rfl); ((apply vL_val); (case h => ((apply opv_loadb1); exact rfl; exact rfl; assumption; exact rfl))); ((apply vL_wanted); exact rfl))
  obtain ⟨kb2, S13⟩ := w16_open S12
  refine vL_callF rfl (pw_ready S13) rfl ?_
  intro v10 w10 S14
  have o10 : Own w10.heap 3 1 iE v10 [0, 1] := S14.own.1
  have S15 := w16_shut S14.drop
  obtain ⟨_, _, _, h101, h102, h103, h104, h105, h106, h107⟩ := w16_see S15
  obtain ⟨qa, qn, qc, rfl⟩ := o10.isSlice
  clear h91 h92 h93 h94 S12 S13 S14
  (((apply vL_wanted); exact rfl); ((apply vL_val); (case h => ((apply opw_buildSl); exact rfl; exact rfl; exact rfl; exact (rfl : _ = some [_, _])))); ((apply vL_wanted); exact rfl))
  refine vL_callF rfl (kit_same_int _ _ [0, 1] [0, 1] _ (o10.rd.alloc) (Rd.newN iE [0, 1] rfl rfl (by decide))) rfl ?_
  rintro _ w11 ⟨⟨k11, rfl⟩, rfl⟩
  have S16 := S15.frN (show Fr No w10 ((w10.alloc (.cells #[.int .i64 0, .int .i64 1] 3)).drewN k11) by (apply Fr.drewN; apply Fr.alloc; exact Fr.refl _ _))
  obtain ⟨_, _, _, h111, h112, h113, h114, h115, h116, h117⟩ := w16_see S16
  clear h101 h102 h103 h104 S15 o10
  generalize (w10.alloc (.cells #[.int .i64 0, .int .i64 1] 3)).drewN k11 = w11 at *
  (((apply vL_wanted); exact rfl); ((apply vL_val); (case h => ((apply opv_not); exact rfl))); ((apply vL_val); (case h => ((apply opv_E); exact rfl))); apply vL_nil; apply seqP_normal; ((apply vC_cond_false); exact rfl); apply vC_skip; apply seqP_normal; apply vC_seq; apply vC_region; (iterate 2 (((apply vL_val); (case h => ((apply opv_E); exact rfl))))); ((apply vL_val); (case h => ((apply opv_fieldAddr); exact rfl))); ((apply vL_val); (case h => ((apply opv_loadb1); exact rfl; exact rfl; assumption; exact rfl))); ((apply vL_val); (case h => ((apply opw_buildSl); exact rfl; exact rfl; exact rfl; exact (rfl : _ = some [_, _])))))
  refine vL_gen (fun w' => At (Pt w11.heap.size [.int .u64 1, .int .u64 0] 43 * (W16 wb rb vp [(cb, 0)] [t0, t1] (⟨[.rdyS ⟨t0, 0, 1, ⟨0, 0, false⟩⟩ true, .rdyR ⟨t1, 1, 1, ⟨0, 0, false⟩⟩ 5 true], [t0, t1], [⟨cb, 0, [], [], [], false⟩], [0, 1]⟩, [⟨0, 0, 0, 0, false⟩, ⟨1, 0, 0, 0, false⟩]) * RwA qb vp (rwI ([0].map row0) (pa16 b1 b2).length))) w4 No w') S16.alloc ?_
  clear h111 h112 h113 h114 S16
  intro w12 S17
  generalize w11.heap.size = bk at *
  have hrg := run_gen (fun T => W16 wb rb vp [(cb, 0)] [t0, t1] T) (step16 Qa16) (fun n T => Inv16 Qa16 [(cb, 0)] [t0, t1] T ∧ T.2.length ≤ n + 2) (R := Pt bk [.int .u64 1, .int .u64 0] 43 * RwA qb vp (rwI ([0].map row0) (pa16 b1 b2).length)) (picks := [1, 0]) 20 (by decide) (fun n T p w' hn hG hp S => (w16_step pr S hG.1 (by omega) p hp).mono fun u w'' h => h.imp (fun h => h) (fun ⟨T', g1, g2, g3, g4, g5⟩ => ⟨T', g1, ⟨g2, by omega⟩, g4, g5⟩)) (fun T w' S => rd_lit (enc := uE) [1, 0] (S.ac (show _ = Pt bk [.int .u64 1, .int .u64 0] 43 * (RwA qb vp (rwI ([0].map row0) (pa16 b1 b2).length) * W16 wb rb vp [(cb, 0)] [t0, t1] T) by ac_rfl)).blk rfl (by decide)) (by decide) _ ⟨I2, Nat.le_refl _⟩ (S17.ac (by ac_rfl))
  refine vL_callF rfl (hrg) rfl ?_
  rintro _ w13 ⟨n, T3, hrun, rfl, ⟨I3, _⟩, S18⟩
  have hr4 := (run16a t0 t1 cb).symm.trans hrun
  obtain ⟨rfl, rfl⟩ := Prod.mk.inj hr4
  clear hr4 hrun hrg
  obtain ⟨R4, hR4⟩ : ∃ R4, R4 = Pt bk [.int .u64 1, .int .u64 0] 43 * RwA qb vp (rwI ([0].map row0) (pa16 b1 b2).length) := ⟨_, rfl⟩
  rw [← hR4] at S18
  haveI : Lcl R4 := by rw [hR4]; infer_instance
  clear hR4 S17
  obtain ⟨kb3, S19⟩ := w16_open S18
  obtain ⟨E, hE⟩ : ∃ E : List Ev5, E = [⟨0, 0, 0, 0, false⟩, ⟨1, 0, 0, 0, false⟩, ⟨1, 1, 0, 5, true⟩, ⟨0, 1, 0, 0, true⟩, ⟨0, 2, 0, 0, true⟩, ⟨1, 2, 0, 0, false⟩] := ⟨_, rfl⟩
  simp only [← hE] at S19
  obtain ⟨cv, tv, ev, S20⟩ := wa_open (S19.ac (show _ = WA wb rb vp [cb] [t0, t1] E false * (PWA (L16 wb) rb none 0 kb3 ⟨[.over, .over], [t0, t1], [⟨cb, 0, [], [], [], true⟩], []⟩ * R4) by ac_rfl))
  have hb20 := S20.blk
  have hE6 : E.length = 6 := by rw [hE]; rfl
  obtain ⟨R5, hR5⟩ : ∃ R5, R5 = Pt wb [pt rb, vp, cv, tv, ev, .bool false] 61 * (Ow 28 1 ptE cv [cb] * (Ow 34 1 ptE tv [t0, t1] * (PWA (L16 wb) rb none 0 kb3 ⟨[.over, .over], [t0, t1], [⟨cb, 0, [], [], [], true⟩], []⟩ * R4))) := ⟨_, rfl⟩
  have S21 : At (Ow 100 5 ev5 ev E * R5) w4 No w13 := S20.ac (by rw [hR5]; ac_rfl)
  haveI : Lcl R5 := by rw [hR5]; infer_instance
  have o21 := S21.own.1
  have o211 := S21.own.2
  obtain ⟨ea, ec, rfl⟩ := o21.rd.len
  clear S18 S19 S20
  (apply vL_nil; apply seqP_normal; apply vC_seq; apply vC_region; ((apply vL_val); (case h => ((apply opv_buildS); exact rfl; exact (rfl : _ = some [_, _, _, _, _])))); ((apply vL_val); (case h => (apply opw_alloc))); ((apply vL_skip); (case h => ((apply ops_storen); exact norm_eq rfl; exact norm_eq rfl; exact rfl; (intro u hu; simp at hu; rcases hu with rfl | rfl <;> (first | rfl | assumption)); infer_instance; (first | decide | exact of_decide_eq_true rfl | (simp; done))))); apply vL_nil; apply seqP_normal; (iterate 2 (apply vC_seq)); apply vC_region; (iterate 2 (((apply vL_val); (case h => ((apply opv_E); exact rfl))))); ((apply vL_val); (case h => ((apply opv_fieldAddr); exact rfl))); ((apply vL_val); (case h => ((apply opv_loadb1); exact rfl; exact rfl; infer_instance; exact rfl))); ((apply vL_val); (case h => ((apply opv_lenc); exact rfl))); ((apply vL_val); (case h => ((apply opv_E); exact rfl))); apply vL_nil; apply seqP_normal; apply vC_block)
  refine vC_gen (fun w' => At (Pt w13.heap.size (ev5 (lastE E 0)) 100 * (Ow 100 5 ev5 (.slice ea E.length ec) E * R5)) w4 No w') (S21.new (by (apply Fr.allocSet; exact Fr.refl _ _)) (Blk.as inferInstance rfl) (Nat.le_refl _)) ?_
  clear S21 hb20 o21
  intro w14 S22
  generalize w13.heap.size = bt at *
  (apply vC_loop1 4835408130553337345998880 68 (fun u w' => ∃ k : Nat, u = .int .i64 (k : Int) ∧ k ≤ 6 ∧ At (Pt bt (ev5 (lastE E k)) 100 * (Ow 100 5 ev5 (.slice ea E.length ec) E * R5)) w4 No w') (fun u _ => 6 - (RowKit.intOf u).toNat)); (case h1 => (exact norm_eq rfl))
  case h0 => exact ⟨0, rfl, by decide, S22⟩
  clear S22
  case round =>
  rintro junk5 _ w15 ⟨k, rfl, hk, S23⟩
  have hbt := S23.blk
  have o23 := S23.swap.ac (star_assoc _ _ _) |>.own.1
  by_cases hlt : k < 6
  · obtain ⟨x, hx⟩ : ∃ x, E[k]? = some x := ⟨_, List.getElem?_eq_getElem (by omega)⟩
    have hx' : E[((k : Nat) : Int).toNat]? = some x := by rw [Int.toNat_natCast]; exact hx
    rw [ev5] at hbt
    have hls : lastE E (k + 1) = if x.t = 1 ∧ x.a = 1 then x else lastE E k := by unfold lastE; rw [List.take_add_one, hx]; simp
    have hbt' := hbt
    by_cases h1 : x.t = 1
    · by_cases h2 : x.a = 1
      · rw [if_pos ⟨h1, h2⟩] at hls
        (apply vC_seq; apply vC_region; ((apply vL_val); (case h => ((apply opv_E); exact rfl))); apply vL_nil; apply seqP_normal; apply vC_seq; (refine vC_cond_dec rfl (fun _ => ?_) (fun h => by omega)); apply vC_skip; apply seqP_normal; apply vC_seq; apply vC_block; apply vC_seq; apply vC_region; ((apply vL_val); (case h => ((apply opv_indexAddr); exact norm_eq rfl; exact rfl; infer_instance; (first | omega | (simp only [List.length_map]; omega)); (first | omega | (simp only [List.length_map]; omega))))); ((apply vL_val); (case h => ((apply opv_ld_eln); exact rfl; exact rfl; infer_instance; assumption))); ((apply vL_val); (case h => (apply opw_alloc))); ((apply vL_skip); (case h => ((apply ops_storen); exact norm_eq rfl; exact norm_eq rfl; exact rfl; exact (fun u hu => EncOk.one _ u hu); infer_instance; (first | decide | exact of_decide_eq_true rfl | (simp; done))))); apply vL_nil; apply seqP_normal; apply vC_seq; apply vC_region; (iterate 11 (first | ((with_reducible apply vL_val); (case h => ((with_reducible apply opv_E); exact rfl))) | ((with_reducible apply vL_val); (case h => ((with_reducible apply opv_loadb1); exact rfl; exact rfl; infer_instance; exact rfl))) | ((with_reducible apply vL_val); (case h => ((with_reducible apply opv_fieldAddr); exact rfl))) | ((with_reducible apply vL_wanted); exact rfl) | (refine vL_and rfl rfl (fun _ => ?_) (fun h => by omega)))); apply vL_nil; apply seqP_normal; (refine vC_cond_dec rfl (fun _ => ?_) (fun h => by omega)); apply vC_region; ((apply vL_val); (case h => ((apply opv_loadbC); exact rfl; exact rfl; infer_instance; exact (rfl : _ = [_, _, _, _, _]); exact rfl))); ((apply vL_skip); (case h => ((apply ops_storen); exact norm_eq rfl; exact norm_eq rfl; exact rfl; (intro u hu; simp only [List.mem_cons, List.not_mem_nil, or_false] at hu; rcases hu with rfl | rfl | rfl | rfl | rfl | rfl | rfl | rfl | rfl | rfl <;> (first | rfl | assumption)); infer_instance; (first | decide | exact of_decide_eq_true rfl | (simp; done))))); apply vL_nil; apply blockP_normal; apply seqP_normal; apply vC_region; ((apply vL_val); (case h => ((apply opv_add); exact rfl; exact rfl; (first | omega | (simp only [List.length_map]; omega))))); ((apply vL_val); (case h => ((apply opv_E); exact rfl))); apply vL_nil; apply loopP_normal)
        (with_reducible apply end1); (case hs => ((iterate 19 (first | with_reducible apply same_updN | ((with_reducible refine same_updO ?_ ?_); rotate_left; exact rfl) | ((with_reducible refine same_upd ?_ ?_); rotate_left; exact rfl))); (exact same_mask _ _ _))); (case h1 => (exact norm_eq rfl))
        · refine ⟨k + 1, rfl, by omega, ?_⟩
          rw [hls]
          exact S23.put (((((Fr.refl _ w15).alloc _).set _ _ (.inr (Nat.le_refl _)))).set _ _ (.inl rfl)) (Blk.as inferInstance rfl)
        · simp [RowKit.intOf]; omega
      · rw [if_neg (fun h => h2 h.2)] at hls
        (apply vC_seq; apply vC_region; ((apply vL_val); (case h => ((apply opv_E); exact rfl))); apply vL_nil; apply seqP_normal; apply vC_seq; (refine vC_cond_dec rfl (fun _ => ?_) (fun h => by omega)); apply vC_skip; apply seqP_normal; apply vC_seq; apply vC_block; apply vC_seq; apply vC_region; ((apply vL_val); (case h => ((apply opv_indexAddr); exact norm_eq rfl; exact rfl; infer_instance; (first | omega | (simp only [List.length_map]; omega)); (first | omega | (simp only [List.length_map]; omega))))); ((apply vL_val); (case h => ((apply opv_ld_eln); exact rfl; exact rfl; infer_instance; assumption))); ((apply vL_val); (case h => (apply opw_alloc))); ((apply vL_skip); (case h => ((apply ops_storen); exact norm_eq rfl; exact norm_eq rfl; exact rfl; exact (fun u hu => EncOk.one _ u hu); infer_instance; (first | decide | exact of_decide_eq_true rfl | (simp; done))))); apply vL_nil; apply seqP_normal; apply vC_seq; apply vC_region; (iterate 11 (first | ((with_reducible apply vL_val); (case h => ((with_reducible apply opv_E); exact rfl))) | ((with_reducible apply vL_val); (case h => ((with_reducible apply opv_loadb1); exact rfl; exact rfl; infer_instance; exact rfl))) | ((with_reducible apply vL_val); (case h => ((with_reducible apply opv_fieldAddr); exact rfl))) | ((with_reducible apply vL_wanted); exact rfl) | (refine vL_and rfl rfl (fun _ => ?_) (fun h => by omega)))); apply vL_nil; apply seqP_normal; (refine vC_cond_dec rfl (fun h => by omega) (fun _ => ?_)); apply vC_skip; apply blockP_normal; apply seqP_normal; apply vC_region; ((apply vL_val); (case h => ((apply opv_add); exact rfl; exact rfl; (first | omega | (simp only [List.length_map]; omega))))); ((apply vL_val); (case h => ((apply opv_E); exact rfl))); apply vL_nil; apply loopP_normal)
        (with_reducible apply end1); (case hs => ((iterate 17 (first | with_reducible apply same_updN | ((with_reducible refine same_updO ?_ ?_); rotate_left; exact rfl) | ((with_reducible refine same_upd ?_ ?_); rotate_left; exact rfl))); (exact same_mask _ _ _))); (case h1 => (exact norm_eq rfl))
        · refine ⟨k + 1, rfl, by omega, ?_⟩
          rw [hls]
          exact S23.frN (by (apply Fr.allocSet; exact Fr.refl _ _))
        · simp [RowKit.intOf]; omega
    · rw [if_neg (fun h => h1 h.1)] at hls
      (apply vC_seq; apply vC_region; ((apply vL_val); (case h => ((apply opv_E); exact rfl))); apply vL_nil; apply seqP_normal; apply vC_seq; (refine vC_cond_dec rfl (fun _ => ?_) (fun h => by omega)); apply vC_skip; apply seqP_normal; apply vC_seq; apply vC_block; apply vC_seq; apply vC_region; ((apply vL_val); (case h => ((apply opv_indexAddr); exact norm_eq rfl; exact rfl; infer_instance; (first | omega | (simp only [List.length_map]; omega)); (first | omega | (simp only [List.length_map]; omega))))); ((apply vL_val); (case h => ((apply opv_ld_eln); exact rfl; exact rfl; infer_instance; assumption))); ((apply vL_val); (case h => (apply opw_alloc))); ((apply vL_skip); (case h => ((apply ops_storen); exact norm_eq rfl; exact norm_eq rfl; exact rfl; exact (fun u hu => EncOk.one _ u hu); infer_instance; (first | decide | exact of_decide_eq_true rfl | (simp; done))))); apply vL_nil; apply seqP_normal; apply vC_seq; apply vC_region; ((apply vL_val); (case h => ((apply opv_fieldAddr); exact rfl))); ((apply vL_val); (case h => ((apply opv_loadb1); exact rfl; exact rfl; infer_instance; exact rfl))); (iterate 2 (((apply vL_val); (case h => ((apply opv_E); exact rfl))))); (refine vL_and rfl rfl (fun h => by omega) (fun _ => ?_)); (iterate 2 (((apply vL_unwanted'); exact rfl; exact rfl))); ((apply vL_val); (case h => ((apply opv_E); exact rfl))); apply vL_nil; apply seqP_normal; ((apply vC_cond_false); exact rfl); apply vC_skip; apply blockP_normal; apply seqP_normal; apply vC_region; ((apply vL_val); (case h => ((apply opv_add); exact rfl; exact rfl; (first | omega | (simp only [List.length_map]; omega))))); ((apply vL_val); (case h => ((apply opv_E); exact rfl))); apply vL_nil; apply loopP_normal)
      (with_reducible apply end1); (case hs => ((iterate 17 (first | with_reducible apply same_updN | ((with_reducible refine same_updO ?_ ?_); rotate_left; exact rfl) | ((with_reducible refine same_upd ?_ ?_); rotate_left; exact rfl))); (exact same_mask _ _ _))); (case h1 => (exact norm_eq rfl))
      · refine ⟨k + 1, rfl, by omega, ?_⟩
        rw [hls]
        exact S23.frN (by (apply Fr.allocSet; exact Fr.refl _ _))
      · simp [RowKit.intOf]; omega
  · obtain rfl : k = 6 := by omega
    have hl6 : lastE E 6 = ⟨1, 1, 0, 5, true⟩ := by rw [hE]; rfl
    rw [hl6, ev5] at hbt
    have S24 : At (PWA (L16 wb) rb none 0 kb3 ⟨[.over, .over], [t0, t1], [⟨cb, 0, [], [], [], true⟩], []⟩ * (Pt wb [pt rb, vp, cv, tv, .slice ea E.length ec, .bool false] 61 * (Ow 28 1 ptE cv [cb] * (Ow 34 1 ptE tv [t0, t1] * (Pt bt (ev5 (lastE E 6)) 100 * (Ow 100 5 ev5 (.slice ea E.length ec) E * R4)))))) w4 No w15 := S23.ac (by rw [hR5]; ac_rfl)
    have hwb := (S24.swap.ac (star_assoc _ _ _)).blk
    have hcv := (S24.ac (show _ = Ow 28 1 ptE cv [cb] * (Pt wb [pt rb, vp, cv, tv, .slice ea E.length ec, .bool false] 61 * (PWA (L16 wb) rb none 0 kb3 ⟨[.over, .over], [t0, t1], [⟨cb, 0, [], [], [], true⟩], []⟩ * (Ow 34 1 ptE tv [t0, t1] * (Pt bt (ev5 (lastE E 6)) 100 * (Ow 100 5 ev5 (.slice ea E.length ec) E * R4))))) by ac_rfl)).own
    obtain ⟨hcv1, hcv2⟩ := hcv
    have hd0 : (⟨[.over, .over], [t0, t1], [⟨cb, 0, [], [], [], true⟩], []⟩ : PS K16).cs[0]? = some ⟨cb, 0, [], [], [], true⟩ := rfl
    have hcl1 : ([cb] : List Nat).length = 1 := rfl
    have hcb : ([cb] : List Nat)[(0 : Int).toNat]? = some cb := rfl
    (apply vC_seq; apply vC_region; ((apply vL_val); (case h => ((apply opv_E); exact rfl))); apply vL_nil; apply seqP_normal; apply vC_seq; (refine vC_cond_dec rfl (fun h => by omega) (fun _ => ?_)); apply vC_exit; apply seqP_exit; apply loopP_exit; apply blockP_exit; apply seqP_normal; apply vC_seq; apply vC_region; (iterate 19 (first | ((with_reducible apply vL_val); (case h => ((with_reducible apply opv_E); exact rfl))) | ((with_reducible apply vL_val); (case h => ((with_reducible apply opv_loadb1); exact rfl; exact rfl; assumption; exact rfl))) | ((with_reducible apply vL_val); (case h => ((with_reducible apply opv_fieldAddr); exact rfl))) | ((with_reducible apply vL_wanted); exact rfl))); ((apply vL_val); (case h => ((apply opv_indexAddr); ((conv => lhs; whnf) <;> exact rfl); exact rfl; infer_instance; (first | omega | (simp only [List.length_map]; omega)); (first | omega | (simp only [List.length_map]; omega))))); ((apply vL_wanted); exact rfl); ((apply vL_val); (case h => ((apply opv_ld_el); exact rfl; exact rfl; infer_instance; assumption; exact rfl))); ((apply vL_wanted); exact rfl))
    refine vL_callF rfl (pw_close S24 hd0) rfl ?_
    rintro _ w16 ⟨rfl, kb4, _, S25⟩
    rw [show (if (PS.close (⟨[.over, .over], [t0, t1], [⟨cb, 0, [], [], [], true⟩], []⟩ : PS K16) 0).2 then (0 : Int) else 150) = 150 from rfl]
    have e25 : (PS.close (⟨[.over, .over], [t0, t1], [⟨cb, 0, [], [], [], true⟩], []⟩ : PS K16) 0).1 = ⟨[.over, .over], [t0, t1], [⟨cb, 0, [], [], [], true⟩], []⟩ := rfl
    rw [e25] at S25
    have hwb2 := (S25.swap.ac (star_assoc _ _ _)).blk
    have htv := (S25.ac (show _ = Ow 34 1 ptE tv [t0, t1] * (Pt wb [pt rb, vp, cv, tv, .slice ea E.length ec, .bool false] 61 * (PWA (L16 wb) rb none 0 kb4 ⟨[.over, .over], [t0, t1], [⟨cb, 0, [], [], [], true⟩], []⟩ * (Ow 28 1 ptE cv [cb] * (Pt bt (ev5 (lastE E 6)) 100 * (Ow 100 5 ev5 (.slice ea E.length ec) E * R4))))) by ac_rfl)).own
    obtain ⟨htv1, htv2⟩ := htv
    have htl1 : ([t0, t1] : List Nat).length = 2 := rfl
    have ht1 : ([t0, t1] : List Nat)[(1 : Int).toNat]? = some t1 := rfl
    clear hwb hcv1 hbt o23
    ((iterate 25 (first | ((with_reducible apply vL_val); (case h => ((with_reducible apply opv_E); exact rfl))) | ((with_reducible apply vL_val); (case h => ((with_reducible apply opv_loadb1); exact rfl; exact rfl; assumption; exact rfl))) | ((with_reducible apply vL_val); (case h => ((with_reducible apply opv_fieldAddr); exact rfl))) | ((with_reducible apply vL_val); (case h => ((with_reducible apply opv_not); exact rfl))) | ((with_reducible apply vL_wanted); exact rfl))); ((apply vL_val); (case h => ((apply opv_indexAddr); ((conv => lhs; whnf) <;> exact rfl); exact rfl; infer_instance; (first | omega | (simp only [List.length_map]; omega)); (first | omega | (simp only [List.length_map]; omega))))); ((apply vL_wanted); exact rfl); ((apply vL_val); (case h => ((apply opv_ld_el); exact rfl; exact rfl; infer_instance; assumption; exact rfl))); ((apply vL_wanted); exact rfl))
    refine vL_callF rfl (pw_over S25 (i := 1) (s := .over) (tb := t1) (show ([.over, .over] : List (St K16))[1]? = some .over from rfl) (show ([t0, t1] : List Nat)[1]? = some t1 from rfl)) rfl ?_
    rintro _ _ ⟨rfl, rfl⟩
    ((iterate 2 (((apply vL_val); (case h => ((apply opv_E); exact rfl))))); apply vL_nil; apply seqP_normal; apply vC_ret)
    (apply ret1; (case h1 => (exact norm_eq rfl)))
    exact ⟨rfl, hf4.trans S25.fr⟩
end Go.Proofs.YtbaidcnalkdhgaaGreat
set_option maxRecDepth 100000
namespace Go.Proofs.YtbaidcnalkdhgaaGreat
open Go Go.Eng
structure Tame (P : List (OV × List Do5)) (sizes : List Int) : Prop where
  six : P.length ≤ 6
  few : 1 ≤ sizes.length ∧ sizes.length ≤ 6
  size : ∀ x ∈ sizes, 0 ≤ x ∧ x ≤ 64
  ch : ∀ y ∈ P, ∀ (d : Do5), d ∈ y.2 → (0 ≤ d.c ∧ d.c < (sizes.length : Int)) ∧ d.k ≠ 5 ∧ d.k ≤ 7
theorem tame16 (w : World) (vp vs : Value) (P : List (OV × List Do5)) (sizes : List Int) (z : Pz16 w.heap vp P) (hs : Rd w.heap 1 iE vs sizes) (hso : vs.oneCell' = true) :
    Rets Tryz.prog 29 #[vp, vs] w fun u w' => Fr No w w' ∧ ∃ b, u = .bool b ∧ (b = true → Tame P sizes) := by
  have hv1 := z.one
  have hPs := z.hP.small
  have hss := hs.small
  obtain ⟨va, vc, rfl⟩ := z.hP.len
  obtain ⟨sa, sc, rfl⟩ := hs.len
  refine rets_of Tryz.func29 rfl Tryz.ntmps29 rfl rfl (by kernel_rfl) ?_
  have bad : ∀ w', Fr No w w' → Fr No w w' ∧ ∃ b, (Value.bool false) = .bool b ∧ (b = true → Tame P sizes) := fun w' hf => ⟨hf, false, rfl, fun h => by cases h⟩
  by_cases h6 : 6 < P.length
  · ((iterate 23 (first | with_reducible apply vC_seq | with_reducible apply vC_region | with_reducible apply seqP_normal | ((with_reducible apply vL_val); (case h => ((with_reducible apply opv_E); exact rfl))) | ((with_reducible apply vL_val); (case h => ((with_reducible apply opv_lenc); exact rfl))) | with_reducible apply vL_nil | ((with_reducible apply vL_unwanted'); exact rfl; exact rfl) | (refine vL_or rfl rfl (fun h => by omega) (fun _ => ?_)))); ((apply vC_cond_true); exact rfl); apply vC_seq; apply vC_region; ((apply vL_val); (case h => ((apply opv_E); exact rfl))); apply vL_nil; apply seqP_normal; apply vC_ret; apply seqP_ret)
    (apply ret1; (case h1 => (exact norm_eq rfl)))
    exact bad _ (by (exact Fr.refl _ _))
  by_cases h1 : sizes.length < 1
  · (apply vC_seq; apply vC_region; ((apply vL_val); (case h => ((apply opv_E); exact rfl))); apply vL_nil; apply seqP_normal; (iterate 2 (apply vC_seq)); apply vC_region; (iterate 16 (first | ((with_reducible apply vL_val); (case h => ((with_reducible apply opv_E); exact rfl))) | ((with_reducible apply vL_val); (case h => ((with_reducible apply opv_lenc); exact rfl))) | ((with_reducible apply vL_wanted); exact rfl) | ((with_reducible apply vL_unwanted'); exact rfl; exact rfl) | (refine vL_or rfl rfl (fun _ => ?_) (fun h => by omega)) | (refine vL_or rfl rfl (fun h => by omega) (fun _ => ?_)))); apply vL_nil; apply seqP_normal; ((apply vC_cond_true); exact rfl); apply vC_seq; apply vC_region; ((apply vL_val); (case h => ((apply opv_E); exact rfl))); apply vL_nil; apply seqP_normal; apply vC_ret; apply seqP_ret)
    (apply ret1; (case h1 => (exact norm_eq rfl)))
    exact bad _ (by (exact Fr.refl _ _))
  by_cases h7 : 6 < sizes.length
  · ((iterate 29 (first | with_reducible apply vC_seq | with_reducible apply vC_region | with_reducible apply seqP_normal | ((with_reducible apply vL_val); (case h => ((with_reducible apply opv_E); exact rfl))) | ((with_reducible apply vL_val); (case h => ((with_reducible apply opv_lenc); exact rfl))) | with_reducible apply vL_nil | ((with_reducible apply vL_wanted); exact rfl) | (refine vL_or rfl rfl (fun _ => ?_) (fun h => by omega)))); (refine vC_cond_dec rfl (fun _ => ?_) (fun h => by omega)); apply vC_seq; apply vC_region; ((apply vL_val); (case h => ((apply opv_E); exact rfl))); apply vL_nil; apply seqP_normal; apply vC_ret; apply seqP_ret)
    (apply ret1; (case h1 => (exact norm_eq rfl)))
    exact bad _ (by (exact Fr.refl _ _))
  ((iterate 29 (first | with_reducible apply vC_seq | with_reducible apply vC_region | with_reducible apply seqP_normal | ((with_reducible apply vL_val); (case h => ((with_reducible apply opv_E); exact rfl))) | ((with_reducible apply vL_val); (case h => ((with_reducible apply opv_lenc); exact rfl))) | with_reducible apply vL_nil | ((with_reducible apply vL_wanted); exact rfl) | (refine vL_or rfl rfl (fun _ => ?_) (fun h => by omega)))); (refine vC_cond_dec rfl (fun h => by omega) (fun _ => ?_)); apply vC_skip; apply seqP_normal; (iterate 2 (apply vC_seq)); apply vC_region; ((apply vL_val); (case h => ((apply opv_E); exact rfl))); apply vL_nil; apply seqP_normal; apply vC_block)
  (apply vC_loop1 1099507433520 5 (fun u w' => ∃ k : Nat, u = .int .i64 (k : Int) ∧ k ≤ sizes.length ∧ Fr No w w' ∧ ∀ (j : Nat) x, j < k → sizes[j]? = some x → 0 ≤ x ∧ x ≤ 64) (fun u _ => sizes.length - (RowKit.intOf u).toNat)); (case h1 => (exact norm_eq rfl))
  case h0 => exact ⟨0, rfl, Nat.zero_le _, by (exact Fr.refl _ _), fun j x hj => by omega⟩
  case round =>
  rintro junk _ w1 ⟨k, rfl, hk, hf1, ok⟩
  have hs1 := hs.frN hf1
  by_cases hlt : k < sizes.length
  · obtain ⟨x, hx⟩ : ∃ x, sizes[k]? = some x := ⟨_, List.getElem?_eq_getElem hlt⟩
    have hx' : sizes[((k : Nat) : Int).toNat]? = some x := by rw [Int.toNat_natCast]; exact hx
    by_cases g0 : x < 0
    · ((iterate 2 (apply vC_seq)); apply vC_region; (iterate 2 (((apply vL_val); (case h => ((apply opv_E); exact rfl))))); ((apply vL_val); (case h => ((apply opv_lenc); exact rfl))); ((apply vL_val); (case h => ((apply opv_E); exact rfl))); apply vL_nil; apply seqP_normal; (refine vC_cond_dec rfl (fun _ => ?_) (fun h => by omega)); apply vC_skip; apply seqP_normal; apply vC_seq; apply vC_block; apply vC_seq; apply vC_region; (iterate 2 (((apply vL_val); (case h => ((apply opv_E); exact rfl))))); ((apply vL_val); (case h => ((apply opv_indexAddr); exact norm_eq rfl; exact rfl; assumption; (first | omega | (simp only [List.length_map]; omega)); (first | omega | (simp only [List.length_map]; omega))))); ((apply vL_val); (case h => ((apply opv_ld_el); exact rfl; exact rfl; assumption; assumption; exact rfl))); (iterate 2 (((apply vL_val); (case h => ((apply opv_E); exact rfl))))); (refine vL_or rfl rfl (fun h => by omega) (fun _ => ?_)); (iterate 4 (((apply vL_unwanted'); exact rfl; exact rfl))); ((apply vL_val); (case h => ((apply opv_E); exact rfl))); apply vL_nil; apply seqP_normal; ((apply vC_cond_true); exact rfl); apply vC_seq; apply vC_region; ((apply vL_val); (case h => ((apply opv_E); exact rfl))); apply vL_nil; apply seqP_normal; apply vC_ret; apply blockP_ret; apply seqP_ret; apply loopP_ret; apply blockP_ret; apply seqP_ret)
      (apply ret1; (case h1 => (exact norm_eq rfl)))
      exact bad _ hf1
    by_cases g1 : 64 < x
    · ((iterate 2 (apply vC_seq)); apply vC_region; (iterate 2 (((apply vL_val); (case h => ((apply opv_E); exact rfl))))); ((apply vL_val); (case h => ((apply opv_lenc); exact rfl))); ((apply vL_val); (case h => ((apply opv_E); exact rfl))); apply vL_nil; apply seqP_normal; (refine vC_cond_dec rfl (fun _ => ?_) (fun h => by omega)); apply vC_skip; apply seqP_normal; apply vC_seq; apply vC_block; apply vC_seq; apply vC_region; (iterate 17 (first | ((with_reducible apply vL_val); (case h => ((with_reducible apply opv_E); exact rfl))) | ((with_reducible apply vL_val); (case h => ((with_reducible apply opv_indexAddr); exact norm_eq rfl; exact rfl; assumption; (first | omega | (simp only [List.length_map]; omega)); (first | omega | (simp only [List.length_map]; omega))))) | ((with_reducible apply vL_val); (case h => ((with_reducible apply opv_ld_el); exact rfl; exact rfl; assumption; assumption; exact rfl))) | ((with_reducible apply vL_wanted); exact rfl) | (refine vL_or rfl rfl (fun _ => ?_) (fun h => by omega)))); apply vL_nil; apply seqP_normal; (refine vC_cond_dec rfl (fun _ => ?_) (fun h => by omega)); apply vC_seq; apply vC_region; ((apply vL_val); (case h => ((apply opv_E); exact rfl))); apply vL_nil; apply seqP_normal; apply vC_ret; apply blockP_ret; apply seqP_ret; apply loopP_ret; apply blockP_ret; apply seqP_ret)
      (apply ret1; (case h1 => (exact norm_eq rfl)))
      exact bad _ hf1
    ((iterate 2 (apply vC_seq)); apply vC_region; (iterate 2 (((apply vL_val); (case h => ((apply opv_E); exact rfl))))); ((apply vL_val); (case h => ((apply opv_lenc); exact rfl))); ((apply vL_val); (case h => ((apply opv_E); exact rfl))); apply vL_nil; apply seqP_normal; (refine vC_cond_dec rfl (fun _ => ?_) (fun h => by omega)); apply vC_skip; apply seqP_normal; apply vC_seq; apply vC_block; apply vC_seq; apply vC_region; (iterate 17 (first | ((with_reducible apply vL_val); (case h => ((with_reducible apply opv_E); exact rfl))) | ((with_reducible apply vL_val); (case h => ((with_reducible apply opv_indexAddr); exact norm_eq rfl; exact rfl; assumption; (first | omega | (simp only [List.length_map]; omega)); (first | omega | (simp only [List.length_map]; omega))))) | ((with_reducible apply vL_val); (case h => ((with_reducible apply opv_ld_el); exact rfl; exact rfl; assumption; assumption; exact rfl))) | ((with_reducible apply vL_wanted); exact rfl) | (refine vL_or rfl rfl (fun _ => ?_) (fun h => by omega)))); apply vL_nil; apply seqP_normal; (refine vC_cond_dec rfl (fun h => by omega) (fun _ => ?_)); apply vC_skip; apply blockP_normal; apply seqP_normal; apply vC_region; ((apply vL_val); (case h => ((apply opv_E); exact rfl))); ((apply vL_val); (case h => ((apply opv_add); exact rfl; exact rfl; (first | omega | (simp only [List.length_map]; omega))))); ((apply vL_val); (case h => ((apply opv_E); exact rfl))); apply vL_nil; apply loopP_normal)
    (with_reducible apply end1); (case hs => ((iterate 21 (first | ((with_reducible refine same_updO ?_ ?_); rotate_left; exact rfl) | ((with_reducible refine same_upd ?_ ?_); rotate_left; exact rfl))); (exact same_mask _ _ _))); (case h1 => (exact norm_eq rfl))
    · refine ⟨k + 1, rfl, by omega, hf1, fun j y hj hy => ?_⟩
      by_cases e : j = k
      · subst e; rw [hx] at hy; cases hy; omega
      · exact ok j y (by omega) hy
    · simp [RowKit.intOf]; omega
  have hall : ∀ x ∈ sizes, 0 ≤ x ∧ x ≤ 64 := fun x hx => by
    obtain ⟨j, hj, e⟩ := List.getElem_of_mem hx
    exact ok j x (by omega) (by rw [List.getElem?_eq_getElem hj, e])
  clear ok hs1
  ((iterate 2 (apply vC_seq)); apply vC_region; (iterate 2 (((apply vL_val); (case h => ((apply opv_E); exact rfl))))); ((apply vL_val); (case h => ((apply opv_lenc); exact rfl))); ((apply vL_val); (case h => ((apply opv_E); exact rfl))); apply vL_nil; apply seqP_normal; (refine vC_cond_dec rfl (fun h => by omega) (fun _ => ?_)); apply vC_exit; apply seqP_exit; apply loopP_exit; apply blockP_exit; apply seqP_normal; (iterate 2 (apply vC_seq)); apply vC_region; ((apply vL_val); (case h => ((apply opv_E); exact rfl))); apply vL_nil; apply seqP_normal; apply vC_block)
  (apply vC_loop1 4835703278457417187197392 6 (fun u w' => ∃ k : Nat, u = .int .i64 (k : Int) ∧ k ≤ P.length ∧ Fr No w w' ∧ ∀ (j : Nat) y, j < k → P[j]? = some y → ∀ (d : Do5), d ∈ y.2 → (0 ≤ d.c ∧ d.c < (sizes.length : Int)) ∧ d.k ≠ 5 ∧ d.k ≤ 7) (fun u _ => P.length - (RowKit.intOf u).toNat)); (case h1 => (exact norm_eq rfl))
  case h0 => exact ⟨0, rfl, Nat.zero_le _, hf1, fun j x hj => by omega⟩
  clear hf1
  case round =>
  rintro junk2 _ w2 ⟨m, rfl, hm, hf2, okp⟩
  by_cases hltm : m < P.length
  · obtain ⟨y, hy⟩ : ∃ y, P[m]? = some y := ⟨_, List.getElem?_eq_getElem hltm⟩
    have hy' : P[((m : Nat) : Int).toNat]? = some y := by rw [Int.toNat_natCast]; exact hy
    have hyone := y.1.2
    ((iterate 2 (apply vC_seq)); apply vC_region; (iterate 2 (((apply vL_val); (case h => ((apply opv_E); exact rfl))))); ((apply vL_val); (case h => ((apply opv_lenc); exact rfl))); ((apply vL_val); (case h => ((apply opv_E); exact rfl))); apply vL_nil; apply seqP_normal; (refine vC_cond_dec rfl (fun _ => ?_) (fun h => by omega)); apply vC_skip; apply seqP_normal; apply vC_seq; apply vC_block; apply vC_seq; apply vC_region; ((apply vL_val); (case h => ((apply opv_E); exact rfl))); apply vL_nil; apply seqP_normal; apply vC_block)
    (apply vC_loop1 4835703278388147954647440 7 (fun u w' => ∃ k : Nat, u = .int .i64 (k : Int) ∧ k ≤ y.2.length ∧ Fr No w w' ∧ ∀ (j : Nat) d, j < k → y.2[j]? = some d → (0 ≤ d.c ∧ d.c < (sizes.length : Int)) ∧ d.k ≠ 5 ∧ d.k ≤ 7) (fun u _ => y.2.length - (RowKit.intOf u).toNat)); (case h1 => (exact norm_eq rfl))
    case h0 => exact ⟨0, rfl, Nat.zero_le _, hf2, fun j x hj => by omega⟩
    clear hf2
    case round =>
    rintro junk3 _ w3 ⟨q, rfl, hq, hf3, okd⟩
    have hP3 := z.hP.frN hf3
    have hPi3 := (z.hPi y (List.mem_of_getElem? hy)).frN hf3
    have hys := hPi3.small
    by_cases hltq : q < y.2.length
    · obtain ⟨d, hd⟩ : ∃ d, y.2[q]? = some d := ⟨_, List.getElem?_eq_getElem hltq⟩
      have hd' : y.2[((q : Nat) : Int).toNat]? = some d := by rw [Int.toNat_natCast]; exact hd
      have hdone := d.cs.2
      by_cases g0 : d.c < 0
      · ((iterate 2 (apply vC_seq)); apply vC_region; (iterate 3 (((apply vL_val); (case h => ((apply opv_E); exact rfl))))); ((apply vL_val); (case h => ((apply opv_indexAddr); exact norm_eq rfl; exact rfl; assumption; (first | omega | (simp only [List.length_map]; omega)); (first | omega | (simp only [List.length_map]; omega))))); ((apply vL_val); (case h => ((apply opv_ld_el); exact rfl; exact rfl; assumption; assumption; exact rfl))); ((apply vL_val); (case h => ((apply opv_len); ((conv => lhs; whnf) <;> exact rfl); assumption))); ((apply vL_val); (case h => ((apply opv_E); exact rfl))); apply vL_nil; apply seqP_normal; (refine vC_cond_dec rfl (fun _ => ?_) (fun h => by omega)); apply vC_skip; apply seqP_normal; apply vC_seq; apply vC_block; apply vC_seq; apply vC_region; (iterate 2 (((apply vL_val); (case h => ((apply opv_E); exact rfl))))); ((apply vL_val); (case h => ((apply opv_indexAddr); exact norm_eq rfl; exact rfl; assumption; (first | omega | (simp only [List.length_map]; omega)); (first | omega | (simp only [List.length_map]; omega))))); ((apply vL_val); (case h => ((apply opv_ld_el); exact rfl; exact rfl; assumption; assumption; exact rfl))); ((apply vL_val); (case h => ((apply opv_E); exact rfl))); ((apply vL_val); (case h => ((apply opv_indexAddr); ((conv => lhs; whnf) <;> exact rfl); exact rfl; assumption; (first | omega | (simp only [List.length_map]; omega)); (first | omega | (simp only [List.length_map]; omega))))); ((apply vL_val); (case h => ((apply opv_ld_eln); exact rfl; exact rfl; assumption; assumption))); ((apply vL_val); (case h => (apply opw_alloc))); ((apply vL_skip); (case h => ((apply ops_storen); exact norm_eq rfl; exact norm_eq rfl; exact rfl; exact (fun u hu => EncOk.one _ u hu); infer_instance; (first | decide | exact of_decide_eq_true rfl | (simp; done))))); apply vL_nil; apply seqP_normal; apply vC_seq; apply vC_region; ((apply vL_val); (case h => ((apply opv_fieldAddr); exact rfl))); ((apply vL_val); (case h => ((apply opv_loadb1); exact rfl; exact rfl; infer_instance; exact rfl))); (iterate 18 (first | ((with_reducible apply vL_val); (case h => ((with_reducible apply opv_E); exact rfl))) | ((with_reducible apply vL_unwanted'); exact rfl; exact rfl) | (refine vL_or rfl rfl (fun h => by omega) (fun _ => ?_)))); apply vL_nil; apply seqP_normal; ((apply vC_cond_true); exact rfl); apply vC_seq; apply vC_region; ((apply vL_val); (case h => ((apply opv_E); exact rfl))); apply vL_nil; apply seqP_normal; apply vC_ret; (iterate 9 (first | with_reducible apply seqP_ret | with_reducible apply blockP_ret | with_reducible apply loopP_ret)))
        (apply ret1; (case h1 => (exact norm_eq rfl)))
        exact bad _ (hf3.trans (by (apply Fr.allocSet; exact Fr.refl _ _)))
      by_cases g1 : (sizes.length : Int) ≤ d.c
      · ((iterate 2 (apply vC_seq)); apply vC_region; (iterate 3 (((apply vL_val); (case h => ((apply opv_E); exact rfl))))); ((apply vL_val); (case h => ((apply opv_indexAddr); exact norm_eq rfl; exact rfl; assumption; (first | omega | (simp only [List.length_map]; omega)); (first | omega | (simp only [List.length_map]; omega))))); ((apply vL_val); (case h => ((apply opv_ld_el); exact rfl; exact rfl; assumption; assumption; exact rfl))); ((apply vL_val); (case h => ((apply opv_len); ((conv => lhs; whnf) <;> exact rfl); assumption))); ((apply vL_val); (case h => ((apply opv_E); exact rfl))); apply vL_nil; apply seqP_normal; (refine vC_cond_dec rfl (fun _ => ?_) (fun h => by omega)); apply vC_skip; apply seqP_normal; apply vC_seq; apply vC_block; apply vC_seq; apply vC_region; (iterate 2 (((apply vL_val); (case h => ((apply opv_E); exact rfl))))); ((apply vL_val); (case h => ((apply opv_indexAddr); exact norm_eq rfl; exact rfl; assumption; (first | omega | (simp only [List.length_map]; omega)); (first | omega | (simp only [List.length_map]; omega))))); ((apply vL_val); (case h => ((apply opv_ld_el); exact rfl; exact rfl; assumption; assumption; exact rfl))); ((apply vL_val); (case h => ((apply opv_E); exact rfl))); ((apply vL_val); (case h => ((apply opv_indexAddr); ((conv => lhs; whnf) <;> exact rfl); exact rfl; assumption; (first | omega | (simp only [List.length_map]; omega)); (first | omega | (simp only [List.length_map]; omega))))); ((apply vL_val); (case h => ((apply opv_ld_eln); exact rfl; exact rfl; assumption; assumption))); ((apply vL_val); (case h => (apply opw_alloc))); ((apply vL_skip); (case h => ((apply ops_storen); exact norm_eq rfl; exact norm_eq rfl; exact rfl; exact (fun u hu => EncOk.one _ u hu); infer_instance; (first | decide | exact of_decide_eq_true rfl | (simp; done))))); apply vL_nil; apply seqP_normal; apply vC_seq; apply vC_region; (iterate 25 (first | ((with_reducible apply vL_val); (case h => ((with_reducible apply opv_E); exact rfl))) | ((with_reducible apply vL_val); (case h => ((with_reducible apply opv_loadb1); exact rfl; exact rfl; infer_instance; exact rfl))) | ((with_reducible apply vL_val); (case h => ((with_reducible apply opv_fieldAddr); exact rfl))) | ((with_reducible apply vL_val); (case h => ((with_reducible apply opv_lenc); exact rfl))) | ((with_reducible apply vL_wanted); exact rfl) | ((with_reducible apply vL_unwanted'); exact rfl; exact rfl) | (refine vL_or rfl rfl (fun _ => ?_) (fun h => by omega)) | (refine vL_or rfl rfl (fun h => by omega) (fun _ => ?_)))); apply vL_nil; apply seqP_normal; ((apply vC_cond_true); exact rfl); apply vC_seq; apply vC_region; ((apply vL_val); (case h => ((apply opv_E); exact rfl))); apply vL_nil; apply seqP_normal; apply vC_ret; (iterate 9 (first | with_reducible apply seqP_ret | with_reducible apply blockP_ret | with_reducible apply loopP_ret)))
        (apply ret1; (case h1 => (exact norm_eq rfl)))
        exact bad _ (hf3.trans (by (apply Fr.allocSet; exact Fr.refl _ _)))
      by_cases g2 : d.k = 5
      · ((iterate 2 (apply vC_seq)); apply vC_region; (iterate 3 (((apply vL_val); (case h => ((apply opv_E); exact rfl))))); ((apply vL_val); (case h => ((apply opv_indexAddr); exact norm_eq rfl; exact rfl; assumption; (first | omega | (simp only [List.length_map]; omega)); (first | omega | (simp only [List.length_map]; omega))))); ((apply vL_val); (case h => ((apply opv_ld_el); exact rfl; exact rfl; assumption; assumption; exact rfl))); ((apply vL_val); (case h => ((apply opv_len); ((conv => lhs; whnf) <;> exact rfl); assumption))); ((apply vL_val); (case h => ((apply opv_E); exact rfl))); apply vL_nil; apply seqP_normal; (refine vC_cond_dec rfl (fun _ => ?_) (fun h => by omega)); apply vC_skip; apply seqP_normal; apply vC_seq; apply vC_block; apply vC_seq; apply vC_region; (iterate 2 (((apply vL_val); (case h => ((apply opv_E); exact rfl))))); ((apply vL_val); (case h => ((apply opv_indexAddr); exact norm_eq rfl; exact rfl; assumption; (first | omega | (simp only [List.length_map]; omega)); (first | omega | (simp only [List.length_map]; omega))))); ((apply vL_val); (case h => ((apply opv_ld_el); exact rfl; exact rfl; assumption; assumption; exact rfl))); ((apply vL_val); (case h => ((apply opv_E); exact rfl))); ((apply vL_val); (case h => ((apply opv_indexAddr); ((conv => lhs; whnf) <;> exact rfl); exact rfl; assumption; (first | omega | (simp only [List.length_map]; omega)); (first | omega | (simp only [List.length_map]; omega))))); ((apply vL_val); (case h => ((apply opv_ld_eln); exact rfl; exact rfl; assumption; assumption))); ((apply vL_val); (case h => (apply opw_alloc))); ((apply vL_skip); (case h => ((apply ops_storen); exact norm_eq rfl; exact norm_eq rfl; exact rfl; exact (fun u hu => EncOk.one _ u hu); infer_instance; (first | decide | exact of_decide_eq_true rfl | (simp; done))))); apply vL_nil; apply seqP_normal; apply vC_seq; apply vC_region; (iterate 28 (first | ((with_reducible apply vL_val); (case h => ((with_reducible apply opv_E); exact rfl))) | ((with_reducible apply vL_val); (case h => ((with_reducible apply opv_loadb1); exact rfl; exact rfl; infer_instance; exact rfl))) | ((with_reducible apply vL_val); (case h => ((with_reducible apply opv_fieldAddr); exact rfl))) | ((with_reducible apply vL_val); (case h => ((with_reducible apply opv_lenc); exact rfl))) | ((with_reducible apply vL_wanted); exact rfl) | ((with_reducible apply vL_unwanted'); exact rfl; exact rfl) | (refine vL_or rfl rfl (fun _ => ?_) (fun h => by omega)) | (refine vL_or rfl rfl (fun h => by omega) (fun _ => ?_)))); apply vL_nil; apply seqP_normal; ((apply vC_cond_true); exact rfl); apply vC_seq; apply vC_region; ((apply vL_val); (case h => ((apply opv_E); exact rfl))); apply vL_nil; apply seqP_normal; apply vC_ret; (iterate 9 (first | with_reducible apply seqP_ret | with_reducible apply blockP_ret | with_reducible apply loopP_ret)))
        (apply ret1; (case h1 => (exact norm_eq rfl)))
        exact bad _ (hf3.trans (by (apply Fr.allocSet; exact Fr.refl _ _)))
      by_cases g3 : 7 < d.k
      · ((iterate 2 (apply vC_seq)); apply vC_region; (iterate 3 (((apply vL_val); (case h => ((apply opv_E); exact rfl))))); ((apply vL_val); (case h => ((apply opv_indexAddr); exact norm_eq rfl; exact rfl; assumption; (first | omega | (simp only [List.length_map]; omega)); (first | omega | (simp only [List.length_map]; omega))))); ((apply vL_val); (case h => ((apply opv_ld_el); exact rfl; exact rfl; assumption; assumption; exact rfl))); ((apply vL_val); (case h => ((apply opv_len); ((conv => lhs; whnf) <;> exact rfl); assumption))); ((apply vL_val); (case h => ((apply opv_E); exact rfl))); apply vL_nil; apply seqP_normal; (refine vC_cond_dec rfl (fun _ => ?_) (fun h => by omega)); apply vC_skip; apply seqP_normal; apply vC_seq; apply vC_block; apply vC_seq; apply vC_region; (iterate 2 (((apply vL_val); (case h => ((apply opv_E); exact rfl))))); ((apply vL_val); (case h => ((apply opv_indexAddr); exact norm_eq rfl; exact rfl; assumption; (first | omega | (simp only [List.length_map]; omega)); (first | omega | (simp only [List.length_map]; omega))))); ((apply vL_val); (case h => ((apply opv_ld_el); exact rfl; exact rfl; assumption; assumption; exact rfl))); ((apply vL_val); (case h => ((apply opv_E); exact rfl))); ((apply vL_val); (case h => ((apply opv_indexAddr); ((conv => lhs; whnf) <;> exact rfl); exact rfl; assumption; (first | omega | (simp only [List.length_map]; omega)); (first | omega | (simp only [List.length_map]; omega))))); ((apply vL_val); (case h => ((apply opv_ld_eln); exact rfl; exact rfl; assumption; assumption))); ((apply vL_val); (case h => (apply opw_alloc))); ((apply vL_skip); (case h => ((apply ops_storen); exact norm_eq rfl; exact norm_eq rfl; exact rfl; exact (fun u hu => EncOk.one _ u hu); infer_instance; (first | decide | exact of_decide_eq_true rfl | (simp; done))))); apply vL_nil; apply seqP_normal; apply vC_seq; apply vC_region; (iterate 31 (first | ((with_reducible apply vL_val); (case h => ((with_reducible apply opv_E); exact rfl))) | ((with_reducible apply vL_val); (case h => ((with_reducible apply opv_loadb1); exact rfl; exact rfl; infer_instance; exact rfl))) | ((with_reducible apply vL_val); (case h => ((with_reducible apply opv_fieldAddr); exact rfl))) | ((with_reducible apply vL_val); (case h => ((with_reducible apply opv_lenc); exact rfl))) | ((with_reducible apply vL_wanted); exact rfl) | (refine vL_or rfl rfl (fun _ => ?_) (fun h => by omega)))); apply vL_nil; apply seqP_normal; (refine vC_cond_dec rfl (fun _ => ?_) (fun h => by omega)); apply vC_seq; apply vC_region; ((apply vL_val); (case h => ((apply opv_E); exact rfl))); apply vL_nil; apply seqP_normal; apply vC_ret; (iterate 9 (first | with_reducible apply seqP_ret | with_reducible apply blockP_ret | with_reducible apply loopP_ret)))
        (apply ret1; (case h1 => (exact norm_eq rfl)))
        exact bad _ (hf3.trans (by (apply Fr.allocSet; exact Fr.refl _ _)))
      ((iterate 2 (apply vC_seq)); apply vC_region; (iterate 3 (((apply vL_val); (case h => ((apply opv_E); exact rfl))))); ((apply vL_val); (case h => ((apply opv_indexAddr); exact norm_eq rfl; exact rfl; assumption; (first | omega | (simp only [List.length_map]; omega)); (first | omega | (simp only [List.length_map]; omega))))); ((apply vL_val); (case h => ((apply opv_ld_el); exact rfl; exact rfl; assumption; assumption; exact rfl))); ((apply vL_val); (case h => ((apply opv_len); ((conv => lhs; whnf) <;> exact rfl); assumption))); ((apply vL_val); (case h => ((apply opv_E); exact rfl))); apply vL_nil; apply seqP_normal; (refine vC_cond_dec rfl (fun _ => ?_) (fun h => by omega)); apply vC_skip; apply seqP_normal; apply vC_seq; apply vC_block; apply vC_seq; apply vC_region; (iterate 2 (((apply vL_val); (case h => ((apply opv_E); exact rfl))))); ((apply vL_val); (case h => ((apply opv_indexAddr); exact norm_eq rfl; exact rfl; assumption; (first | omega | (simp only [List.length_map]; omega)); (first | omega | (simp only [List.length_map]; omega))))); ((apply vL_val); (case h => ((apply opv_ld_el); exact rfl; exact rfl; assumption; assumption; exact rfl))); ((apply vL_val); (case h => ((apply opv_E); exact rfl))); ((apply vL_val); (case h => ((apply opv_indexAddr); ((conv => lhs; whnf) <;> exact rfl); exact rfl; assumption; (first | omega | (simp only [List.length_map]; omega)); (first | omega | (simp only [List.length_map]; omega))))); ((apply vL_val); (case h => ((apply opv_ld_eln); exact rfl; exact rfl; assumption; assumption))); ((apply vL_val); (case h => (apply opw_alloc))); ((apply vL_skip); (case h => ((apply ops_storen); exact norm_eq rfl; exact norm_eq rfl; exact rfl; exact (fun u hu => EncOk.one _ u hu); infer_instance; (first | decide | exact of_decide_eq_true rfl | (simp; done))))); apply vL_nil; apply seqP_normal; apply vC_seq; apply vC_region; (iterate 31 (first | ((with_reducible apply vL_val); (case h => ((with_reducible apply opv_E); exact rfl))) | ((with_reducible apply vL_val); (case h => ((with_reducible apply opv_loadb1); exact rfl; exact rfl; infer_instance; exact rfl))) | ((with_reducible apply vL_val); (case h => ((with_reducible apply opv_fieldAddr); exact rfl))) | ((with_reducible apply vL_val); (case h => ((with_reducible apply opv_lenc); exact rfl))) | ((with_reducible apply vL_wanted); exact rfl) | (refine vL_or rfl rfl (fun _ => ?_) (fun h => by omega)))); apply vL_nil; apply seqP_normal; (refine vC_cond_dec rfl (fun h => by omega) (fun _ => ?_)); apply vC_skip; apply blockP_normal; apply seqP_normal; apply vC_region; ((apply vL_val); (case h => ((apply opv_E); exact rfl))); ((apply vL_val); (case h => ((apply opv_add); exact rfl; exact rfl; (first | omega | (simp only [List.length_map]; omega))))); ((apply vL_val); (case h => ((apply opv_E); exact rfl))); apply vL_nil; apply loopP_normal)
      (with_reducible apply end1); (case hs => ((iterate 43 (first | with_reducible apply same_updN | ((with_reducible refine same_updO ?_ ?_); rotate_left; exact rfl) | ((with_reducible refine same_upd ?_ ?_); rotate_left; exact rfl))); (exact same_mask _ _ _))); (case h1 => (exact norm_eq rfl))
      · refine ⟨q + 1, rfl, by omega, hf3.trans (by (apply Fr.allocSet; exact Fr.refl _ _)), fun j x hj hx => ?_⟩
        by_cases e : j = q
        · subst e; rw [hd] at hx; cases hx; exact ⟨⟨by omega, by omega⟩, g2, by omega⟩
        · exact okd j x (by omega) hx
      · simp [RowKit.intOf]; omega
    · ((iterate 2 (apply vC_seq)); apply vC_region; (iterate 3 (((apply vL_val); (case h => ((apply opv_E); exact rfl))))); ((apply vL_val); (case h => ((apply opv_indexAddr); exact norm_eq rfl; exact rfl; assumption; (first | omega | (simp only [List.length_map]; omega)); (first | omega | (simp only [List.length_map]; omega))))); ((apply vL_val); (case h => ((apply opv_ld_el); exact rfl; exact rfl; assumption; assumption; exact rfl))); ((apply vL_val); (case h => ((apply opv_len); ((conv => lhs; whnf) <;> exact rfl); assumption))); ((apply vL_val); (case h => ((apply opv_E); exact rfl))); apply vL_nil; apply seqP_normal; (refine vC_cond_dec rfl (fun h => by omega) (fun _ => ?_)); apply vC_exit; apply seqP_exit; apply loopP_exit; apply blockP_exit; apply blockP_normal; apply seqP_normal; apply vC_region; ((apply vL_val); (case h => ((apply opv_E); exact rfl))); ((apply vL_val); (case h => ((apply opv_add); exact rfl; exact rfl; (first | omega | (simp only [List.length_map]; omega))))); ((apply vL_val); (case h => ((apply opv_E); exact rfl))); apply vL_nil; apply loopP_normal)
      (with_reducible apply end1); (case hs => ((iterate 18 (first | ((with_reducible refine same_updO ?_ ?_); rotate_left; exact rfl) | ((with_reducible refine same_upd ?_ ?_); rotate_left; exact rfl) | ((with_reducible refine same_maskIn ?_ ?_); rotate_left; exact rfl))); (exact same_mask _ _ _))); (case h1 => (exact norm_eq rfl))
      · refine ⟨m + 1, rfl, by omega, hf3, fun j x hj hx d hd => ?_⟩
        by_cases e : j = m
        · subst e
          rw [hy] at hx; cases hx
          obtain ⟨i, hi, e⟩ := List.getElem_of_mem hd
          exact okd i d (by omega) (by rw [List.getElem?_eq_getElem hi, e])
        · exact okp j x (by omega) hx d hd
      · simp [RowKit.intOf]; omega
  · ((iterate 2 (apply vC_seq)); apply vC_region; (iterate 2 (((apply vL_val); (case h => ((apply opv_E); exact rfl))))); ((apply vL_val); (case h => ((apply opv_lenc); exact rfl))); ((apply vL_val); (case h => ((apply opv_E); exact rfl))); apply vL_nil; apply seqP_normal; (refine vC_cond_dec rfl (fun h => by omega) (fun _ => ?_)); apply vC_exit; apply seqP_exit; apply loopP_exit; apply blockP_exit; apply seqP_normal; apply vC_seq; apply vC_region; ((apply vL_val); (case h => ((apply opv_E); exact rfl))); apply vL_nil; apply seqP_normal; apply vC_ret)
    (apply ret1; (case h1 => (exact norm_eq rfl)))
    refine ⟨hf2, true, rfl, fun _ => ⟨by omega, ⟨by omega, by omega⟩, hall, fun y hy d hd => ?_⟩⟩
    obtain ⟨i, hi, e⟩ := List.getElem_of_mem hy
    exact okp i y (by omega) (by rw [List.getElem?_eq_getElem hi, e]) d hd
end Go.Proofs.YtbaidcnalkdhgaaGreat
set_option maxRecDepth 100000
namespace Go.Proofs.YtbaidcnalkdhgaaGreat
open Go Go.Eng
theorem now_ps0 (cl : List (Nat × Int)) (tl : List Nat) : NoW (ps0 cl tl) := fun j d hd hc => by
  have hd : (cl.map c16)[j]? = some d := hd
  rw [List.getElem?_map] at hd
  cases h : cl[j]? with
  | none => rw [h] at hd; cases hd
  | some x => rw [h] at hd; cases hd; cases hc
theorem closed16 (w : World) (vp vk : Value) (size : Int) (P : List (OV × List Do5)) (picks : List Int) (z : Pz16 w.heap vp P) (hk : Rd w.heap 1 uE vk picks) (hkb : ∀ x ∈ picks, 0 ≤ x ∧ x ≤ 18446744073709551615) (hko : vk.oneCell' = true) :
    Rets Tryz.prog 4 #[vp, .int .i64 size, vk] w fun u w' => u = .bool true ∧ Fr No w w' := by
  have hv1 := z.one
  have hPs := z.hP.small
  have hks := hk.small
  obtain ⟨va, vc, hvp⟩ := z.hP.len
  obtain ⟨ka, kc, rfl⟩ := hk.len
  refine rets_of Tryz.func4 rfl Tryz.ntmps4 rfl rfl (by kernel_rfl) ?_
  (apply vC_seq; apply vC_region; ((apply vL_val); (case h => ((apply opv_E); exact rfl))); apply vL_nil; apply seqP_normal; (iterate 2 (apply vC_seq)); apply vC_region; ((apply vL_val); (case h => ((apply opv_move); ((conv => lhs; whnf) <;> exact rfl)))); ((apply vL_val); (case h => ((apply opv_E); exact rfl))); ((apply vL_val); (case h => ((apply opw_buildSl); exact rfl; exact rfl; exact rfl; exact (rfl : _ = some [_])))))
  refine vL_callF rfl (tame16 _ vp _ P [size] (z.frN (by (apply Fr.alloc; exact Fr.refl _ _))) (Rd.new1 iE size rfl) rfl) rfl ?_
  rintro _ w1 ⟨hf1, b, rfl, hb⟩
  have hf01 : Fr No w w1 := Fr.trans (by (apply Fr.alloc; exact Fr.refl _ _)) hf1
  cases b with
  | false =>
    (((apply vL_val); (case h => ((apply opv_not); exact rfl))); apply vL_nil; apply seqP_normal; ((apply vC_cond_true); exact rfl); apply vC_seq; apply vC_region)
    refine vL_callF rfl (awake16 _) rfl ?_
    rintro _ w2 ⟨rfl, hf2⟩
    (((apply vL_val); (case h => ((apply opv_E); exact rfl))); apply vL_nil; apply seqP_normal; apply vC_ret; apply seqP_ret)
    (apply ret1; (case h1 => (exact norm_eq rfl)))
    exact ⟨rfl, hf01.trans hf2⟩
  | true =>
  have ht := hb rfl
  clear hb
  have hsb := ht.size size List.mem_cons_self
  (((apply vL_val); (case h => ((apply opv_not); exact rfl))); apply vL_nil; apply seqP_normal; ((apply vC_cond_false); exact rfl); apply vC_skip; apply seqP_normal; apply vC_seq; apply vC_region; ((apply vL_val); (case h => ((apply opv_move); ((conv => lhs; whnf) <;> exact rfl)))); ((apply vL_val); (case h => ((apply opv_E); exact rfl))); ((apply vL_val); (case h => ((apply opw_buildSl); exact rfl; exact rfl; exact rfl; exact (rfl : _ = some [_])))))
  refine vL_callF rfl (begun16 (P := P) (sizes := [size]) (z.frN (by (apply Fr.alloc; assumption))) ht.six (Rd.new1 iE size rfl) (by simp) ht.size rfl) rfl ?_
  rintro _ w3 ⟨wb, qb, rb, cl, tl, kb, rfl, hcl, htl, S3⟩
  obtain ⟨⟨cb, c0⟩, rfl⟩ : ∃ x, cl = [x] := len1 (by have := congrArg List.length hcl; simpa using this)
  obtain rfl : c0 = size := by simpa using hcl
  have hf3 := hf01.trans ((show Fr No w1 _ by (apply Fr.alloc; exact Fr.refl _ _)).trans S3.fr)
  generalize hW2 : w1.alloc (.cells #[.int .i64 c0] 3) = w2 at *
  have hf02 : Fr No w w2 := by rw [← hW2]; exact hf01.trans (by (apply Fr.alloc; exact Fr.refl _ _))
  have pr : Pr16 w2 vp P [(cb, c0)] := ⟨z.frN hf02, ht.six, fun y hy d hd => (ht.ch y hy d hd).1, Nat.one_pos⟩
  have I0 : Inv16 (P.map (·.2)) [(cb, c0)] tl (ps0 [(cb, c0)] tl, []) := inv16_init (by rw [List.length_map]; exact htl)
  have S4 : At (W16 wb rb vp [(cb, c0)] tl (ps0 [(cb, c0)] tl, []) * RwA qb vp (rwI ([c0].map row0) P.length)) w2 No w3 := w16_shut S3
  clear S3
  ((iterate 23 (first | with_reducible apply vC_seq | with_reducible apply vC_region | with_reducible apply seqP_normal | with_reducible apply vC_skip | ((with_reducible apply vC_cond_false); exact rfl) | ((with_reducible apply vL_val); (case h => ((with_reducible apply opv_E); exact rfl))) | ((with_reducible apply vL_val); (case h => ((with_reducible apply opv_eql_pnil); exact rfl; exact rfl; (simp; done)))) | with_reducible apply vL_nil)); apply vC_block)
  (apply vC_loop1 72057456598974976 9 (fun u w' => ∃ (k : Nat) (T : T16), u = .int .i64 (k : Int) ∧ k ≤ picks.length ∧ k ≤ 100 ∧ T.2.length ≤ k ∧ Inv16 (P.map (·.2)) [(cb, c0)] tl T ∧ NoW T.1 ∧ At (W16 wb rb vp [(cb, c0)] tl T * RwA qb vp (rwI ([c0].map row0) P.length)) w2 No w') (fun u _ => 100 - (RowKit.intOf u).toNat)); (case h1 => (exact norm_eq rfl))
  case h0 => exact ⟨0, _, rfl, Nat.zero_le _, by decide, Nat.le_refl _, I0, now_ps0 _ _, S4⟩
  clear S4 I0 hf3
  case round =>
  rintro junk _ w4 ⟨k, T, rfl, hkl, hk100, hT, I, hN, S5⟩
  obtain ⟨cv, tv, ev, h51, h52, h53, h54, h55, h56, h57⟩ := w16_see S5
  have hk5 := hk.frN (hf02.trans S5.fr)
  by_cases hlt : k < picks.length ∧ k < 100
  · obtain ⟨g0, g1⟩ := hlt
    obtain ⟨p, hp⟩ : ∃ p, picks[k]? = some p := ⟨_, List.getElem?_eq_getElem g0⟩
    have hp' : picks[((k : Nat) : Int).toNat]? = some p := by rw [Int.toNat_natCast]; exact hp
    have hpb := hkb p (List.mem_of_getElem? hp)
    ((iterate 2 (apply vC_seq)); apply vC_region; (iterate 10 (first | ((with_reducible apply vL_val); (case h => ((with_reducible apply opv_E); exact rfl))) | ((with_reducible apply vL_val); (case h => ((with_reducible apply opv_lenc); exact rfl))) | ((with_reducible apply vL_wanted); exact rfl) | (refine vL_and rfl rfl (fun _ => ?_) (fun h => by omega)))); apply vL_nil; apply seqP_normal; (refine vC_cond_dec rfl (fun _ => ?_) (fun h => by omega)); apply vC_skip; apply seqP_normal; apply vC_seq; apply vC_block)
    have hE5 : ∃ a b c, Blk w4.heap wb [pt rb, vp, a, b, c, .bool false] 61 := ⟨_, _, _, h51⟩
    refine vC_draw' ((fun wf => (∃ a b c, Blk wf.heap wb [pt rb, vp, a, b, c, .bool false] 61) ∧ Rd wf.heap 1 uE (.slice ka picks.length kc) picks)) (by (first | exact trivial | assumption | infer_instance | (refine ⟨?_, ?_⟩ <;> (first | assumption | infer_instance)) | (skip; done))) ?_
    ((apply (tk 0)); (case hi => exact rfl); (case hf => kernel_rfl); (case hS => (first | exact trivial | assumption | infer_instance | (refine ⟨?_, ?_⟩ <;> (first | assumption | infer_instance)) | (skip; done))); (case hy => (rintro wf ⟨hwa, hwb⟩; (((apply opv_E); exact rfl)))))
    ((apply (tk 1)); (case hi => exact rfl); (case hf => kernel_rfl); (case hS => (first | exact trivial | assumption | infer_instance | (refine ⟨?_, ?_⟩ <;> (first | assumption | infer_instance)) | (skip; done))); (case hy => (rintro wf ⟨hwa, hwb⟩; (((apply opv_E); exact rfl)))))
    ((apply (tk 2)); (case hi => exact rfl); (case hf => kernel_rfl); (case hS => (first | exact trivial | assumption | infer_instance | (refine ⟨?_, ?_⟩ <;> (first | assumption | infer_instance)) | (skip; done))); (case hy => (rintro wf ⟨hwa, hwb⟩; (((apply opv_fieldAddr); exact rfl)))))
    (apply (tk 3)); (case hi => exact rfl); (case hf => kernel_rfl); (case hS => (first | exact trivial | assumption | infer_instance | (refine ⟨?_, ?_⟩ <;> (first | assumption | infer_instance)) | (skip; done))); (case hy => (rintro wf ⟨⟨a, b, c, hwa⟩, hwb⟩; (((apply opv_loadb1); exact rfl; exact rfl; assumption; exact rfl))))
    ((apply (tk 4)); (case hi => exact rfl); (case hf => kernel_rfl); (case hS => (first | exact trivial | assumption | infer_instance | (refine ⟨?_, ?_⟩ <;> (first | assumption | infer_instance)) | (skip; done))); (case hy => (rintro wf ⟨hwa, hwb⟩; (((apply opv_E); exact rfl)))))
    ((apply (tk 5)); (case hi => exact rfl); (case hf => kernel_rfl); (case hS => (first | exact trivial | assumption | infer_instance | (refine ⟨?_, ?_⟩ <;> (first | assumption | infer_instance)) | (skip; done))); (case hy => (rintro wf ⟨hwa, hwb⟩; (((apply opv_E); exact rfl)))))
    ((apply (tk 6)); (case hi => exact rfl); (case hf => kernel_rfl); (case hS => (first | exact trivial | assumption | infer_instance | (refine ⟨?_, ?_⟩ <;> (first | assumption | infer_instance)) | (skip; done))); (case hy => (rintro wf ⟨hwa, hwb⟩; (((apply opv_indexAddr); exact norm_eq rfl; exact rfl; assumption; (first | omega | (simp only [List.length_map]; omega)); (first | omega | (simp only [List.length_map]; omega)))))))
    ((apply (tk 7)); (case hi => exact rfl); (case hf => kernel_rfl); (case hS => (first | exact trivial | assumption | infer_instance | (refine ⟨?_, ?_⟩ <;> (first | assumption | infer_instance)) | (skip; done))); (case hy => (rintro wf ⟨hwa, hwb⟩; (((apply opv_ld_el); exact rfl; exact rfl; assumption; assumption; exact rfl)))))
    refine tkc 8 rfl (by kernel_rfl) (by (first | exact trivial | assumption | infer_instance | (refine ⟨?_, ?_⟩ <;> (first | assumption | infer_instance)) | (skip; done))) rfl (w16_step pr S5.drew I (by omega) p hpb) rfl ?_
    rintro _ w5 h
    have hex : ∃ T', T'.2.length ≤ k + 1 ∧ Inv16 (P.map (·.2)) [(cb, c0)] tl T' ∧ NoW T'.1 ∧ At (W16 wb rb vp [(cb, c0)] tl T' * RwA qb vp (rwI ([c0].map row0) P.length)) w2 No w5 := by
      rcases h with ⟨_, _, h3⟩ | ⟨T', h1, h2, h3, _, h4⟩
      · exact ⟨T, by omega, I, hN, h3⟩
      · exact ⟨T', by omega, h2, hN.step h1, h4⟩
    clear h
    obtain ⟨T', hT', I', hN', S6⟩ := hex
    obtain ⟨cv6, tv6, ev6, h61, _⟩ := w16_see S6
    have hE6 : ∃ a b c, Blk w5.heap wb [pt rb, vp, a, b, c, .bool false] 61 := ⟨_, _, _, h61⟩
    have hk6 := hk.frN (hf02.trans S6.fr)
    refine vA_done (by kernel_rfl) (by (first | exact trivial | assumption | infer_instance | (refine ⟨?_, ?_⟩ <;> (first | assumption | infer_instance)) | (skip; done))) ?_
    (apply blockP_normal; apply seqP_normal; apply vC_region; ((apply vL_val); (case h => ((apply opv_E); exact rfl))); ((apply vL_val); (case h => ((apply opv_add); exact rfl; exact rfl; (first | omega | (simp only [List.length_map]; omega))))); ((apply vL_val); (case h => ((apply opv_E); exact rfl))); apply vL_nil; apply loopP_normal)
    (with_reducible apply end1); (case hs => ((iterate 22 (first | ((with_reducible refine same_updO ?_ ?_); rotate_left; exact rfl) | ((with_reducible refine same_upd ?_ ?_); rotate_left; exact rfl))); (exact same_mask _ _ _))); (case h1 => (exact norm_eq rfl))
    · exact ⟨k + 1, T', rfl, by omega, by omega, hT', I', hN', S6⟩
    · simp [RowKit.intOf]; omega
  · have hc1 : T.1.cs.map C16.cbz = [(cb, c0)] := I.cs
    obtain ⟨d, hd⟩ : ∃ d, T.1.cs = [d] := len1 (by have := congrArg List.length hc1; simpa using this)
    rw [hd] at hc1
    have hdcb : d.cb = cb := by have := List.cons.inj hc1; exact congrArg Prod.fst this.1
    have hd0 : T.1.cs[0]? = some d := by rw [hd]; rfl
    have hcl1 : ([(cb, c0)].map (·.1) : List Nat).length = 1 := rfl
    have hcb : ([(cb, c0)].map (·.1) : List Nat)[(0 : Int).toNat]? = some cb := rfl
    obtain ⟨kb5, S6⟩ := w16_open S5
    obtain ⟨R6, hR6⟩ : ∃ R6, R6 = WA wb rb vp ([(cb, c0)].map (·.1)) tl T.2 false * RwA qb vp (rwI ([c0].map row0) P.length) := ⟨_, rfl⟩
    haveI : Lcl R6 := by rw [hR6]; infer_instance
    rw [← hR6] at S6
    repeat (with_reducible apply vC_seq)
    refine vC_meet1 35046933135360 44 (.bool false) (fun w' => w' = w4) ?_ ?_
    · by_cases g0 : k < picks.length
      · have g1 : ¬ k < 100 := fun h => hlt ⟨g0, h⟩
        (apply vC_region; (iterate 10 (first | ((with_reducible apply vL_val); (case h => ((with_reducible apply opv_E); exact rfl))) | ((with_reducible apply vL_val); (case h => ((with_reducible apply opv_lenc); exact rfl))) | ((with_reducible apply vL_wanted); exact rfl) | (refine vL_and rfl rfl (fun _ => ?_) (fun h => by omega)))); apply vL_nil)
        exact ⟨rfl, by (((iterate 9 (first | ((with_reducible refine same_updO ?_ ?_); rotate_left; exact rfl) | ((with_reducible refine same_upd ?_ ?_); rotate_left; exact rfl)))); exact fun _ _ => rfl), by first | rfl | exact congrArg Value.bool (decide_eq_false (by omega)), rfl⟩
      · (apply vC_region; (iterate 8 (first | ((with_reducible apply vL_val); (case h => ((with_reducible apply opv_E); exact rfl))) | ((with_reducible apply vL_val); (case h => ((with_reducible apply opv_lenc); exact rfl))) | ((with_reducible apply vL_unwanted'); exact rfl; exact rfl) | (refine vL_and rfl rfl (fun h => by omega) (fun _ => ?_)))); apply vL_nil)
        exact ⟨rfl, by (((iterate 9 (first | ((with_reducible refine same_updO ?_ ?_); rotate_left; exact rfl) | ((with_reducible refine same_upd ?_ ?_); rotate_left; exact rfl)))); exact fun _ _ => rfl), by first | rfl | exact congrArg Value.bool (decide_eq_false (by omega)), rfl⟩
    rintro junk7 _ rfl
    (apply seqP_normal; ((apply vC_cond_false); exact rfl); apply vC_exit; apply seqP_exit; apply loopP_exit; apply blockP_exit; apply seqP_normal; apply vC_seq; apply vC_region; (iterate 2 (((apply vL_val); (case h => ((apply opv_E); exact rfl))))); ((apply vL_val); (case h => ((apply opv_fieldAddr); exact rfl))); ((apply vL_val); (case h => ((apply opv_loadb1); exact rfl; exact rfl; assumption; exact rfl))); ((apply vL_val); (case h => ((apply opv_indexAddr); ((conv => lhs; whnf) <;> exact rfl); exact rfl; infer_instance; (first | omega | (simp only [List.length_map]; omega)); (first | omega | (simp only [List.length_map]; omega))))); ((apply vL_val); (case h => ((apply opv_ld_el); exact rfl; exact rfl; infer_instance; assumption; exact rfl))); ((apply vL_val); (case h => ((apply opv_E); exact rfl))); apply vL_nil; apply seqP_normal; apply vC_seq; apply vC_region; ((apply vL_val); (case h => ((apply opv_E); exact rfl))))
    have hbuf : d.buf.length ≤ 64 := by
      obtain ⟨q, hp, _⟩ := pw_open S6
      obtain ⟨c, hc⟩ := hp.cget hd0
      have := (hp.ch 0 c d hc hd0).room
      omega
    have q1 := pw_closed S6 hd0
    have q2 := pw_len S6 hd0
    have q3 := pw_close S6 hd0
    rw [hdcb] at q1 q2 q3
    refine vL_callF rfl (q1) rfl ?_
    rintro _ _ ⟨rfl, rfl⟩
    (((apply vL_val); (case h => ((apply opv_E); exact rfl))))
    refine vL_callF rfl (q2) rfl ?_
    rintro _ _ ⟨rfl, rfl⟩
    ((iterate 2 (((apply vL_val); (case h => ((apply opv_E); exact rfl))))); apply vL_nil; apply seqP_normal; (iterate 2 (apply vC_seq)); apply vC_region; ((apply vL_val); (case h => ((apply opv_E); exact rfl))))
    refine vL_callF rfl (q3) rfl ?_
    rintro _ w6 ⟨rfl, kb6, _, S7⟩
    obtain ⟨d', hd', e1, e2, e3, e4, e5⟩ := close_done hN hd0
    have ht := close_told hd0
    rw [ht]
    have q4 := pw_closed S7 hd'
    rw [e5, hdcb, e1] at q4
    ((((apply vL_val); (case h => ((apply opv_E); exact rfl))); apply vL_nil))
    with_reducible apply seqP_normal
    repeat (with_reducible apply vC_seq)
    refine vC_meet1 150820579546649294012416 76 (.bool false) (fun w' => w' = w6) ?_ ?_
    · generalize d.closed = dc
      cases dc with
      | true =>
        (apply vC_region; (iterate 8 (first | ((with_reducible apply vL_val); (case h => ((with_reducible apply opv_E); exact rfl))) | ((with_reducible apply vL_val); (case h => ((with_reducible apply opv_eql_bool); exact rfl; exact rfl))) | ((with_reducible apply vL_wanted); exact rfl))))
        refine vL_callF rfl (q4) rfl ?_
        rintro _ _ ⟨rfl, rfl⟩
        (((apply vL_wanted); exact rfl); ((apply vL_val); (case h => ((apply opv_not); exact rfl))); ((apply vL_val); (case h => ((apply opv_E); exact rfl))); apply vL_nil)
        exact ⟨rfl, by (((iterate 9 (((refine same_updO ?_ ?_); rotate_left; exact rfl)))); exact fun _ _ => rfl), rfl, rfl⟩
      | false =>
        (apply vC_region; (iterate 8 (first | ((with_reducible apply vL_val); (case h => ((with_reducible apply opv_E); exact rfl))) | ((with_reducible apply vL_val); (case h => ((with_reducible apply opv_eql_bool); exact rfl; exact rfl))) | ((with_reducible apply vL_wanted); exact rfl))))
        refine vL_callF rfl (q4) rfl ?_
        rintro _ _ ⟨rfl, rfl⟩
        (((apply vL_wanted); exact rfl); ((apply vL_val); (case h => ((apply opv_not); exact rfl))); ((apply vL_val); (case h => ((apply opv_E); exact rfl))); apply vL_nil)
        exact ⟨rfl, by (((iterate 9 (((refine same_updO ?_ ?_); rotate_left; exact rfl)))); exact fun _ _ => rfl), rfl, rfl⟩
    rintro junk13 _ rfl
    (apply seqP_normal; ((apply vC_cond_false); exact rfl); apply vC_skip; apply seqP_normal; apply vC_seq; apply vC_region; ((apply vL_val); (case h => ((apply opv_E); exact rfl))))
    have q5 := pw_waits S7 hd'
    rw [e5, hdcb, e2, e3] at q5
    change Rets _ _ _ _ (fun u w' => u = .tuple #[.int .i64 0, .int .i64 0] ∧ _) at q5
    refine vL_callF rfl (q5) rfl ?_
    rintro _ w7 ⟨rfl, S8⟩
    ((iterate 5 (((apply vL_val); (case h => ((apply opv_E); exact rfl))))); apply vL_nil; apply seqP_normal; apply vC_seq; apply vC_region; ((apply vL_val); (case h => ((apply opv_E); exact rfl))))
    have q6 := pw_trysend S8 hd' 1
    rw [e5, hdcb, trySend_closed hd' e1] at q6
    change Rets _ _ _ _ (fun u w' => u = .tuple #[.bool false, .bool true] ∧ _) at q6
    refine vL_callF rfl (q6) rfl ?_
    rintro _ w8 ⟨rfl, kb8, _, S9⟩
    have q7 := pw_len S9 hd'
    rw [e5, hdcb, e4] at q7
    ((iterate 5 (((apply vL_val); (case h => ((apply opv_E); exact rfl))))); apply vL_nil; apply seqP_normal; (iterate 2 (apply vC_seq)); apply vC_region; (iterate 18 (first | ((with_reducible apply vL_val); (case h => ((with_reducible apply opv_E); exact rfl))) | ((with_reducible apply vL_val); (case h => ((with_reducible apply opv_add); exact rfl; exact rfl; (first | omega | (simp only [List.length_map]; omega))))) | ((with_reducible apply vL_val); (case h => ((with_reducible apply opv_not); exact rfl))) | ((with_reducible apply vL_wanted); exact rfl))))
    refine vL_callF rfl (q7) rfl ?_
    rintro _ _ ⟨rfl, rfl⟩
    ((iterate 16 (first | with_reducible apply vC_seq | with_reducible apply vC_region | with_reducible apply seqP_normal | with_reducible apply vC_skip | ((with_reducible apply vL_val); (case h => ((with_reducible apply opv_E); exact rfl))) | with_reducible apply vL_nil | ((with_reducible apply vL_wanted); exact rfl) | (refine vC_cond_dec rfl (fun h => by omega) (fun _ => ?_)))); apply vC_block)
    (apply vC_loop1 2658435709160228094137190173313335360 18 (fun u w' => ∃ (i : Nat) (T' : PS K16) (kb' : List Bx) (dd : C16), u = .int .i64 (i : Int) ∧ i ≤ d.buf.length ∧ T'.cs[0]? = some dd ∧ dd.cb = cb ∧ dd.snd = [] ∧ dd.closed = true ∧ dd.buf = d.buf.drop i ∧ At (PWA (L16 wb) rb none 0 kb' T' * R6) w2 No w') (fun u _ => d.buf.length - (RowKit.intOf u).toNat)); (case h1 => (exact norm_eq rfl))
    case h0 => exact ⟨0, _, _, d', rfl, Nat.zero_le _, hd', by rw [e5, hdcb], e2, e1, by rw [e4]; rfl, S9⟩
    clear S9 S8 S7 S6 S5 q1 q2 q3 q4 q5 q6 q7 hd' e1 e2 e3 e4 e5 h51 h52 h53 h54
    case round =>
    rintro junk18 _ w9 ⟨i, T', kb9, dd, rfl, hi, hdd, f1, f2, f3, f4, S9⟩
    have q8 := pw_tryrecv S9 hdd
    rw [f1, tryRecv_left hdd f2, f3] at q8
    by_cases hil : i < d.buf.length
    · have hne : dd.buf.isEmpty = false := by
        rw [f4]; cases h : d.buf.drop i with
        | nil => have := congrArg List.length h; simp at this; omega
        | cons a b => rfl
      rw [hne] at q8
      change Rets _ _ _ _ (fun u w' => u = .tuple #[.int .i64 (dd.buf.headD 0), .bool true, .bool true] ∧ _) at q8
      ((iterate 2 (apply vC_seq)); apply vC_region; (iterate 3 (((apply vL_val); (case h => ((apply opv_E); exact rfl))))); apply vL_nil; apply seqP_normal; (refine vC_cond_dec rfl (fun _ => ?_) (fun h => by omega)); apply vC_skip; apply seqP_normal; apply vC_seq; apply vC_block; apply vC_seq; apply vC_region; ((apply vL_val); (case h => ((apply opv_E); exact rfl))))
      refine vL_callF rfl (q8) rfl ?_
      rintro _ w10 ⟨rfl, kb10, _, S10⟩
      ((iterate 21 (first | with_reducible apply vC_seq | with_reducible apply vC_region | with_reducible apply seqP_normal | ((with_reducible apply vL_val); (case h => ((with_reducible apply opv_E); exact rfl))) | ((with_reducible apply vL_val); (case h => ((with_reducible apply opv_not); exact rfl))) | with_reducible apply vL_nil | ((with_reducible apply vL_wanted); exact rfl))); ((apply vC_cond_false); exact rfl); apply vC_skip; apply blockP_normal; apply seqP_normal; apply vC_region; ((apply vL_val); (case h => ((apply opv_E); exact rfl))); ((apply vL_val); (case h => ((apply opv_add); exact rfl; exact rfl; (first | omega | (simp only [List.length_map]; omega))))); ((apply vL_val); (case h => ((apply opv_E); exact rfl))); apply vL_nil; apply loopP_normal)
      (with_reducible apply end1); (case hs => ((iterate 21 (((refine same_updO ?_ ?_); rotate_left; exact rfl))); ((refine same_upd ?_ ?_); rotate_left; exact rfl); (exact same_mask _ _ _))); (case h1 => (exact norm_eq rfl))
      · refine ⟨i + 1, _, kb10, { dd with buf := dd.buf.tail, closed := true }, rfl, by omega, ?_, f1, f2, rfl, ?_, S10⟩
        · show (T'.cs.set 0 _)[0]? = _
          rw [List.getElem?_set_self (List.getElem?_eq_some_iff.1 hdd).1]
        · show dd.buf.tail = _
          rw [f4, List.tail_drop]
      · simp [RowKit.intOf]; omega
    · have hne : dd.buf.isEmpty = true := by
        rw [f4, List.drop_eq_nil_of_le (by omega)]; rfl
      rw [hne] at q8
      change Rets _ _ _ _ (fun u w' => u = .tuple #[.int .i64 (dd.buf.headD 0), .bool false, .bool true] ∧ _) at q8
      ((iterate 2 (apply vC_seq)); apply vC_region; (iterate 3 (((apply vL_val); (case h => ((apply opv_E); exact rfl))))); apply vL_nil; apply seqP_normal; (refine vC_cond_dec rfl (fun h => by omega) (fun _ => ?_)); apply vC_exit; apply seqP_exit; apply loopP_exit; apply blockP_exit; apply seqP_normal; apply vC_seq; apply vC_region; ((apply vL_val); (case h => ((apply opv_E); exact rfl))))
      refine vL_callF rfl (q8) rfl ?_
      rintro _ w10 ⟨rfl, kb10, _, S10⟩
      ((iterate 6 (((apply vL_val); (case h => ((apply opv_E); exact rfl))))); apply vL_nil; apply seqP_normal; apply vC_seq; apply vC_region; (iterate 8 (first | ((with_reducible apply vL_val); (case h => ((with_reducible apply opv_E); exact rfl))) | ((with_reducible apply vL_val); (case h => ((with_reducible apply opv_not); exact rfl))) | ((with_reducible apply vL_wanted); exact rfl))))
      refine vL_callF rfl (awake16 _) rfl ?_
      rintro _ w11 ⟨rfl, hf11⟩
      ((iterate 2 (((apply vL_val); (case h => ((apply opv_E); exact rfl))))); apply vL_nil; apply seqP_normal; apply vC_ret)
      (apply ret1; (case h1 => (exact norm_eq rfl)))
      exact ⟨rfl, (hf02.trans S10.fr).trans hf11⟩
end Go.Proofs.YtbaidcnalkdhgaaGreat
set_option maxRecDepth 100000
namespace Go.Proofs.YtbaidcnalkdhgaaGreat
open Go Go.Eng Go.ChangeShapes Go.WideShapes Go.ChangeAt Go.RowKit
theorem own_knob : ownKnob Tryz.prog.godebug = none := by kernel_rfl
theorem laid_out : laidOutB Tryz.prog = true := by kernel_rfl
theorem cells_int : Tryz.prog.cellsOf 3 = 1 := by kernel_rfl
theorem cells_bool : Tryz.prog.cellsOf 4 = 1 := by kernel_rfl
theorem cells_u64 : Tryz.prog.cellsOf 43 = 1 := by kernel_rfl
theorem cells_do : Tryz.prog.cellsOf 167 = 5 := by kernel_rfl
theorem cells_dos : Tryz.prog.cellsOf 168 = 1 := by kernel_rfl
theorem cells_cases : Tryz.prog.cellsOf 165 = 1 := by kernel_rfl
section
variable {H : Type} {enc : TypeId × Value → H} {W : World}
theorem trod_struct5 {P : Program} {base : Nat} {spare : Bool} {held : Nat → Bool} {t : TypeId} {f0 f1 f2 f3 f4 : Field} {fuel : Nat} {cs : List Value} {x : DataW H × List MemPlace} (ht : P.underlying t = some (.struct #[f0, f1, f2, f3, f4])) (h : DataW.trod enc P W base held spare fuel t cs = some x) :
    ∃ y0 y1 y2 y3 y4 n, cs.length = P.cellsOf t ∧ DataW.trod enc P W base held spare n f0.type ((cs.drop f0.offset).take (P.cellsOf f0.type)) = some y0 ∧
      DataW.trod enc P W base held spare n f1.type ((cs.drop f1.offset).take (P.cellsOf f1.type)) = some y1 ∧ DataW.trod enc P W base held spare n f2.type ((cs.drop f2.offset).take (P.cellsOf f2.type)) = some y2 ∧
      DataW.trod enc P W base held spare n f3.type ((cs.drop f3.offset).take (P.cellsOf f3.type)) = some y3 ∧ DataW.trod enc P W base held spare n f4.type ((cs.drop f4.offset).take (P.cellsOf f4.type)) = some y4 := by
  obtain ⟨xs, n, _, rfl, hl, hlen, hf⟩ := DataW.trod_struct ht h
  match xs, hlen with
  | [y0, y1, y2, y3, y4], _ => exact ⟨y0, y1, y2, y3, y4, n, hl, by simpa using hf 0 f0 rfl, by simpa using hf 1 f1 rfl, by simpa using hf 2 f2 rfl, by simpa using hf 3 f3 rfl, by simpa using hf 4 f4 rfl⟩
theorem open_u64s {base : Nat} {v : Value} {d : DataW H} {ps : List MemPlace} (hval : Value.okWide Tryz.prog W .any base 24 v) (h : DataW.Trod enc Tryz.prog W 0 (fun _ => true) true 24 v d ps) :
    ∃ xs : List Int, Rd W.heap 1 uE v xs ∧ (∀ x ∈ xs, 0 ≤ x ∧ x ≤ 18446744073709551615) ∧ ((d = .nil ∧ xs = []) ∨ ∃ es spr, d = .slice es spr ∧ es.length = xs.length) :=
  rd_open Tryz.underlying24 cells_u64 (fun _ => rfl) (fun n cs y hy => by
    obtain ⟨a, rfl, _, hw⟩ := DataW.trod_int Tryz.underlying43 hy
    exact ⟨a, rfl, Go.Eng.wf_u64 hw⟩) hval h
theorem open_ints {base : Nat} {v : Value} {d : DataW H} {ps : List MemPlace} (hval : Value.okWide Tryz.prog W .any base 32 v) (h : DataW.Trod enc Tryz.prog W 0 (fun _ => true) true 32 v d ps) :
    ∃ xs : List Int, Rd W.heap 1 iE v xs ∧ (∀ x ∈ xs, -9223372036854775808 ≤ x ∧ x ≤ 9223372036854775807) ∧ ((d = .nil ∧ xs = []) ∨ ∃ es spr, d = .slice es spr ∧ es.length = xs.length) :=
  rd_open Tryz.underlying32 cells_int (fun _ => rfl) (fun n cs y hy => by
    obtain ⟨a, rfl, _, hw⟩ := DataW.trod_int Tryz.underlying3 hy
    exact ⟨a, rfl, Go.Eng.wf_i64 hw⟩) hval h
theorem open_cases {n : Nat} {cs : List Value} {y : DataW H × List MemPlace} (hy : DataW.trod enc Tryz.prog W 0 (fun _ => true) true n 165 cs = some y) : ∃ v : OV, cs = [v.1] := by
  rcases Deep.open_slice Tryz.underlying165 hy with ⟨h1, h2⟩ | ⟨a, len, cap, m, n, D, Pl, h1, _⟩
  · exact ⟨⟨.slice none 0 0, rfl⟩, h1⟩
  · exact ⟨⟨_, rfl⟩, h1⟩
theorem open_progs {base : Nat} {v : Value} {d : DataW H} {ps : List MemPlace} (hval : Value.okWide Tryz.prog W .any base 51 v) (h : DataW.Trod enc Tryz.prog W 0 (fun _ => true) true 51 v d ps) :
    ∃ P : List (OV × List Do5), Pz16 W.heap v P := by
  obtain ⟨a0, len0, cap0, rfl⟩ := okWide_slice Tryz.underlying51 hval
  obtain ⟨fuel, hf⟩ := h
  obtain ⟨v, P, h1, h2, h3⟩ := Go.Eng.rd_openW (enc' := oE) (wf := fun (y : OV × List Do5) => Rd W.heap 5 do5 y.1.1 y.2) Tryz.underlying51 cells_dos (by decide) (fun _ => rfl) (fun n cs y hy => by
    obtain ⟨u, xs, h1, h2, h3⟩ := Go.Eng.rd_openW (enc' := do5) (wf := fun _ => True) Tryz.underlying168 cells_do (by decide) (fun _ => rfl) (fun n cs y hy => by
      obtain ⟨y0, y1, y2, y3, y4, m, hl, g0, g1, g2, g3, g4⟩ := trod_struct5 Tryz.underlying167 hy
      rw [cells_do] at hl
      match cs, hl with
      | [c0, c1, c2, c3, c4], _ =>
        rw [cells_int] at g0 g1 g2
        rw [cells_cases] at g3
        rw [cells_bool] at g4
        obtain ⟨a, h0, _, w0⟩ := DataW.trod_int Tryz.underlying3 g0
        obtain ⟨b, h1, _, w1⟩ := DataW.trod_int Tryz.underlying3 g1
        obtain ⟨c, h2, _, w2⟩ := DataW.trod_int Tryz.underlying3 g2
        obtain ⟨u, h3⟩ := open_cases g3
        obtain ⟨f, h4, _⟩ := DataW.trod_bool Tryz.underlying4 g4
        simp at h0 h1 h2 h3 h4
        subst h0; subst h1; subst h2; subst h3; subst h4
        exact ⟨⟨a, b, c, u, f⟩, rfl, trivial⟩) hy
    exact ⟨(u, xs), h1, h2⟩) hf
  simp [Value.cells] at h1
  rw [h1]
  exact ⟨P, h2, fun y hy => h3 y hy, v.2⟩
end
end Go.Proofs.YtbaidcnalkdhgaaGreat
