/- Layer 16: the chapter's example: the walk. Layer 16: programs that are tame. Layer 16: ChansClosed: the walk. Opening the arguments of the rows of layer 16. Layer 16: several wait to receive at one channel, each with a ticket of his own. Layer 16: some tickets at two channels: what is told, what fires. Layer 16: some tickets at two channels: sends and receives that are tried, and a close. Layer 16: some tickets at two channels: who waits, who is forgotten. -/
import Derived.Test.YtbaidcnalkdhgaaGreatVp
import Derived.Test.YtbaidcnalkdhgaaGreatEo
import Derived.Test.YtbaidcnalkdhgaaGreatRows
import Derived.OpenShut
import Derived.ChangeSame
import Derived.Deep.Strs
import Derived.Test.YtbaidcnalkdhgaaGreatVa
import Derived.Test.YtbaidcnalkdhgaaGreatWp
set_option maxRecDepth 100000
namespace Go.Proofs.YtbaidcnalkdhgaaGreat
open Go Go.Eng
theorem len1 {α : Type} : ∀ {l : List α}, l.length = 1 → ∃ x, l = [x]
  | [x], _ => ⟨x, rfl⟩
theorem len2 {α : Type} : ∀ {l : List α}, l.length = 2 → ∃ x y, l = [x, y]
  | [x, y], _ => ⟨x, y, rfl⟩
def nl0 : OV := ⟨.slice none 0 0, rfl⟩
def pa16 (b1 b2 : Nat) : List (OV × List Do5) := [(⟨.slice (some ⟨b1, 0, none⟩) 2 2, rfl⟩, [⟨2, 0, 5, nl0, false⟩, ⟨4, 0, 0, nl0, false⟩]), (⟨.slice (some ⟨b2, 0, none⟩) 2 2, rfl⟩, [⟨3, 0, 0, nl0, false⟩, ⟨3, 0, 0, nl0, false⟩])]
def Qa16 : List (List Do5) := [[⟨2, 0, 5, nl0, false⟩, ⟨4, 0, 0, nl0, false⟩], [⟨3, 0, 0, nl0, false⟩, ⟨3, 0, 0, nl0, false⟩]]
/-- the last that task 1 was told as it went on the first time -/
def lastE (E : List Ev5) (k : Nat) : Ev5 := (E.take k).foldl (fun acc e => if e.t = 1 ∧ e.a = 1 then e else acc) ⟨0, 0, 0, 0, false⟩
theorem run16a (t0 t1 cb : Nat) : runF (step16 Qa16) [1, 0] 20 0 (⟨[.rdyS ⟨t0, 0, 1, ⟨0, 0, false⟩⟩ true, .rdyR ⟨t1, 1, 1, ⟨0, 0, false⟩⟩ 5 true], [t0, t1], [⟨cb, 0, [], [], [], false⟩], [0, 1]⟩, [⟨0, 0, 0, 0, false⟩, ⟨1, 0, 0, 0, false⟩]) = (4, (⟨[.over, .over], [t0, t1], [⟨cb, 0, [], [], [], true⟩], []⟩, [⟨0, 0, 0, 0, false⟩, ⟨1, 0, 0, 0, false⟩, ⟨1, 1, 0, 5, true⟩, ⟨0, 1, 0, 0, true⟩, ⟨0, 2, 0, 0, true⟩, ⟨1, 2, 0, 0, false⟩])) := by
  rw [runF_some (s' := (⟨[.rdyS ⟨t0, 0, 1, ⟨0, 0, false⟩⟩ true, .wR ⟨t1, 1, 2, ⟨0, 0, false⟩⟩ 0], [t0, t1], [⟨cb, 0, [], [], [1], false⟩], [0]⟩, [⟨0, 0, 0, 0, false⟩, ⟨1, 0, 0, 0, false⟩, ⟨1, 1, 0, 5, true⟩])) (show step16 Qa16 (⟨[.rdyS ⟨t0, 0, 1, ⟨0, 0, false⟩⟩ true, .rdyR ⟨t1, 1, 1, ⟨0, 0, false⟩⟩ 5 true], [t0, t1], [⟨cb, 0, [], [], [], false⟩], [0, 1]⟩, [⟨0, 0, 0, 0, false⟩, ⟨1, 0, 0, 0, false⟩]) (pkA [1, 0] 0) = _ from rfl)]
  rw [runF_some (s' := (⟨[.rdyY ⟨t0, 0, 2, ⟨0, 0, true⟩⟩, .rdyR ⟨t1, 1, 2, ⟨0, 0, false⟩⟩ 0 false], [t0, t1], [⟨cb, 0, [], [], [], true⟩], [1, 0]⟩, [⟨0, 0, 0, 0, false⟩, ⟨1, 0, 0, 0, false⟩, ⟨1, 1, 0, 5, true⟩, ⟨0, 1, 0, 0, true⟩])) (show step16 Qa16 (⟨[.rdyS ⟨t0, 0, 1, ⟨0, 0, false⟩⟩ true, .wR ⟨t1, 1, 2, ⟨0, 0, false⟩⟩ 0], [t0, t1], [⟨cb, 0, [], [], [1], false⟩], [0]⟩, [⟨0, 0, 0, 0, false⟩, ⟨1, 0, 0, 0, false⟩, ⟨1, 1, 0, 5, true⟩]) (pkA [1, 0] 1) = _ from rfl)]
  rw [runF_some (s' := (⟨[.over, .rdyR ⟨t1, 1, 2, ⟨0, 0, false⟩⟩ 0 false], [t0, t1], [⟨cb, 0, [], [], [], true⟩], [1]⟩, [⟨0, 0, 0, 0, false⟩, ⟨1, 0, 0, 0, false⟩, ⟨1, 1, 0, 5, true⟩, ⟨0, 1, 0, 0, true⟩, ⟨0, 2, 0, 0, true⟩])) (show step16 Qa16 (⟨[.rdyY ⟨t0, 0, 2, ⟨0, 0, true⟩⟩, .rdyR ⟨t1, 1, 2, ⟨0, 0, false⟩⟩ 0 false], [t0, t1], [⟨cb, 0, [], [], [], true⟩], [1, 0]⟩, [⟨0, 0, 0, 0, false⟩, ⟨1, 0, 0, 0, false⟩, ⟨1, 1, 0, 5, true⟩, ⟨0, 1, 0, 0, true⟩]) (pkA [1, 0] 2) = _ from rfl)]
  rw [runF_some (s' := (⟨[.over, .over], [t0, t1], [⟨cb, 0, [], [], [], true⟩], []⟩, [⟨0, 0, 0, 0, false⟩, ⟨1, 0, 0, 0, false⟩, ⟨1, 1, 0, 5, true⟩, ⟨0, 1, 0, 0, true⟩, ⟨0, 2, 0, 0, true⟩, ⟨1, 2, 0, 0, false⟩])) (show step16 Qa16 (⟨[.over, .rdyR ⟨t1, 1, 2, ⟨0, 0, false⟩⟩ 0 false], [t0, t1], [⟨cb, 0, [], [], [], true⟩], [1]⟩, [⟨0, 0, 0, 0, false⟩, ⟨1, 0, 0, 0, false⟩, ⟨1, 1, 0, 5, true⟩, ⟨0, 1, 0, 0, true⟩, ⟨0, 2, 0, 0, true⟩]) (pkA [1, 0] 3) = _ from rfl)]
  exact runF_none (show step16 Qa16 (⟨[.over, .over], [t0, t1], [⟨cb, 0, [], [], [], true⟩], []⟩, [⟨0, 0, 0, 0, false⟩, ⟨1, 0, 0, 0, false⟩, ⟨1, 1, 0, 5, true⟩, ⟨0, 1, 0, 0, true⟩, ⟨0, 2, 0, 0, true⟩, ⟨1, 2, 0, 0, false⟩]) (pkA [1, 0] 4) = none from rfl)
theorem awake16 (w : World) : Rets Tryz.prog 28 #[] w fun u w' => u = .bool true ∧ Fr No w w' := by
  refine rets_of Tryz.func28 rfl Tryz.ntmps28 rfl rfl (by kernel_rfl) ?_
  (apply vC_seq; apply vC_region; ((apply vL_val); (case h => ((apply opv_E); exact rfl))); apply vL_nil; apply seqP_normal; apply vC_seq; apply vC_region; (iterate 6 (first | ((with_reducible apply vL_val); (case h => ((with_reducible apply opv_buildS); exact rfl; exact (rfl : _ = some [_, _, _, _, _])))) | ((with_reducible apply vL_val); (case h => ((with_reducible apply opw_buildSl); exact rfl; exact rfl; exact rfl; exact (rfl : _ = some [_, _, _, _, _, _, _, _, _, _])))))); ((apply vL_val); (case h => ((apply opw_buildSl); exact rfl; exact rfl; exact rfl; exact (rfl : _ = some [_, _])))); ((apply vL_val); (case h => ((apply opw_buildSl); exact rfl; exact rfl; exact rfl; exact (rfl : _ = some [_])))))
  refine vL_gen (fun w' => Fr No w w' ∧ Blk w'.heap w.heap.size [.int .i64 2, .int .i64 0, .int .i64 5, .slice none 0 0, .bool false, .int .i64 4, .int .i64 0, .int .i64 0, .slice none 0 0, .bool false] 167 ∧ Blk w'.heap (w.alloc (.cells #[.int .i64 2, .int .i64 0, .int .i64 5, .slice none 0 0, .bool false, .int .i64 4, .int .i64 0, .int .i64 0, .slice none 0 0, .bool false] 167)).heap.size [.int .i64 3, .int .i64 0, .int .i64 0, .slice none 0 0, .bool false, .int .i64 3, .int .i64 0, .int .i64 0, .slice none 0 0, .bool false] 167 ∧ Blk w'.heap ((w.alloc (.cells #[.int .i64 2, .int .i64 0, .int .i64 5, .slice none 0 0, .bool false, .int .i64 4, .int .i64 0, .int .i64 0, .slice none 0 0, .bool false] 167)).alloc (.cells #[.int .i64 3, .int .i64 0, .int .i64 0, .slice none 0 0, .bool false, .int .i64 3, .int .i64 0, .int .i64 0, .slice none 0 0, .bool false] 167)).heap.size [.slice (some ⟨w.heap.size, 0, none⟩) 2 2, .slice (some ⟨(w.alloc (.cells #[.int .i64 2, .int .i64 0, .int .i64 5, .slice none 0 0, .bool false, .int .i64 4, .int .i64 0, .int .i64 0, .slice none 0 0, .bool false] 167)).heap.size, 0, none⟩) 2 2] 168 ∧ Blk w'.heap (((w.alloc (.cells #[.int .i64 2, .int .i64 0, .int .i64 5, .slice none 0 0, .bool false, .int .i64 4, .int .i64 0, .int .i64 0, .slice none 0 0, .bool false] 167)).alloc (.cells #[.int .i64 3, .int .i64 0, .int .i64 0, .slice none 0 0, .bool false, .int .i64 3, .int .i64 0, .int .i64 0, .slice none 0 0, .bool false] 167)).alloc (.cells #[.slice (some ⟨w.heap.size, 0, none⟩) 2 2, .slice (some ⟨(w.alloc (.cells #[.int .i64 2, .int .i64 0, .int .i64 5, .slice none 0 0, .bool false, .int .i64 4, .int .i64 0, .int .i64 0, .slice none 0 0, .bool false] 167)).heap.size, 0, none⟩) 2 2] 168)).heap.size [.int .i64 0] 3) ⟨by ((iterate 4 (apply Fr.alloc)); exact Fr.refl _ _), Blk.as inferInstance rfl, Blk.as inferInstance rfl, Blk.as inferInstance rfl, Blk.as inferInstance rfl⟩ ?_
  rintro w4 ⟨hf4, k1, k2, k3, k4⟩
  generalize (((w.alloc (.cells #[.int .i64 2, .int .i64 0, .int .i64 5, .slice none 0 0, .bool false, .int .i64 4, .int .i64 0, .int .i64 0, .slice none 0 0, .bool false] 167)).alloc (.cells #[.int .i64 3, .int .i64 0, .int .i64 0, .slice none 0 0, .bool false, .int .i64 3, .int .i64 0, .int .i64 0, .slice none 0 0, .bool false] 167)).alloc (.cells #[.slice (some ⟨w.heap.size, 0, none⟩) 2 2, .slice (some ⟨(w.alloc (.cells #[.int .i64 2, .int .i64 0, .int .i64 5, .slice none 0 0, .bool false, .int .i64 4, .int .i64 0, .int .i64 0, .slice none 0 0, .bool false] 167)).heap.size, 0, none⟩) 2 2] 168)).heap.size = b4 at *
  generalize ((w.alloc (.cells #[.int .i64 2, .int .i64 0, .int .i64 5, .slice none 0 0, .bool false, .int .i64 4, .int .i64 0, .int .i64 0, .slice none 0 0, .bool false] 167)).alloc (.cells #[.int .i64 3, .int .i64 0, .int .i64 0, .slice none 0 0, .bool false, .int .i64 3, .int .i64 0, .int .i64 0, .slice none 0 0, .bool false] 167)).heap.size = b3 at *
  generalize (w.alloc (.cells #[.int .i64 2, .int .i64 0, .int .i64 5, .slice none 0 0, .bool false, .int .i64 4, .int .i64 0, .int .i64 0, .slice none 0 0, .bool false] 167)).heap.size = b2 at *
  generalize w.heap.size = b1 at *
  have z : Pz16 w4.heap (.slice (some ⟨b3, 0, none⟩) 2 2) (pa16 b1 b2) := ⟨rd_lit (enc := oE) (pa16 b1 b2) k3 rfl (show 2 ≤ 10 by decide), fun y hy => by
    simp only [pa16, List.mem_cons, List.not_mem_nil, or_false] at hy
    rcases hy with rfl | rfl
    · exact rd_lit (enc := do5) [⟨2, 0, 5, nl0, false⟩, ⟨4, 0, 0, nl0, false⟩] k1 rfl (by decide)
    · exact rd_lit (enc := do5) [⟨3, 0, 0, nl0, false⟩, ⟨3, 0, 0, nl0, false⟩] k2 rfl (by decide), rfl⟩
  have hs : Rd w4.heap 1 iE (.slice (some ⟨b4, 0, none⟩) 1 1) [0] := rd_lit (enc := iE) [0] k4 rfl (by decide)
  have hPm : (pa16 b1 b2).map (·.2) = Qa16 := rfl
  refine vL_callF rfl (begun16 z (show 2 ≤ 6 by decide) hs (by decide) (by decide) rfl) rfl ?_
  rintro _ w5 ⟨wb, qb, rb, cl, tl, kb, rfl, hcl, htl, S5⟩
  obtain ⟨⟨cb, c0⟩, rfl⟩ : ∃ x, cl = [x] := len1 (by have := congrArg List.length hcl; simpa using this)
  obtain rfl : c0 = 0 := by simpa using hcl
  obtain ⟨t0, t1, rfl⟩ : ∃ t0 t1, tl = [t0, t1] := len2 htl
  have I0 : Inv16 ((pa16 b1 b2).map (·.2)) [(cb, 0)] [t0, t1] (ps0 [(cb, 0)] [t0, t1], []) := inv16_init rfl
  have pr : Pr16 w4 (.slice (some ⟨b3, 0, none⟩) 2 2) (pa16 b1 b2) [(cb, 0)] := ⟨z, show 2 ≤ 6 by decide, fun y hy d hd => by
    simp only [pa16, List.mem_cons, List.not_mem_nil, or_false] at hy
    rcases hy with rfl | rfl <;> (simp only [List.mem_cons, List.not_mem_nil, or_false] at hd; rcases hd with rfl | rfl <;> exact ⟨Int.le_refl _, show (0 : Int) < 1 by decide⟩), Nat.one_pos⟩
  generalize (.slice (some ⟨b3, 0, none⟩) 2 2 : Value) = vp at *
  have S6 : At (W16 wb rb vp [(cb, 0)] [t0, t1] (ps0 [(cb, 0)] [t0, t1], []) * RwA qb vp (rwI ([0].map row0) (pa16 b1 b2).length)) w4 No w5 := w16_shut S5
  clear S5 k1 k2 k3 k4 hs z
  obtain ⟨_, _, _, h51, h52, h53, h54, h55, h56, h57⟩ := w16_see S6
  ((iterate 5 (((apply vL_val); (case h => ((apply opv_E); exact rfl))))); apply vL_nil; apply seqP_normal; (iterate 2 (apply vC_seq)); apply vC_region; (iterate 8 (first | ((with_reducible apply vL_val); (case h => ((with_reducible apply opv_E); exact rfl))) | ((with_reducible apply vL_val); (case h => ((with_reducible apply opv_eql_pnil); exact rfl; exact rfl; (simp; done)))) | ((with_reducible apply vL_wanted); exact rfl))); ((apply vL_val); (case h => ((apply opv_fieldAddr); exact rfl))); ((apply vL_wanted); exact rfl); ((apply vL_val); (case h => ((apply opv_loadb1); exact rfl; exact rfl; assumption; exact rfl))); ((apply vL_wanted); exact rfl))
  refine vL_callF rfl (w16_step pr S6 I0 (Nat.zero_le _) 0 (by decide)) rfl ?_
  rw [hPm]
  have hs1 : step16 Qa16 (ps0 [(cb, 0)] [t0, t1], []) 0 = some (⟨[.wS ⟨t0, 0, 1, ⟨0, 0, false⟩⟩ 0 5, .rdyY ⟨t1, 1, 0, ⟨0, 0, false⟩⟩], [t0, t1], [⟨cb, 0, [], [0], [], false⟩], [1]⟩, [⟨0, 0, 0, 0, false⟩]) := rfl
  rw [hs1]
  rintro _ w6 (⟨h, _⟩ | ⟨T1, h, I1, hl1, rfl, S7⟩)
  · cases h
  obtain rfl := Option.some.inj h
  clear h hs1 h51 h52 h53 h54 S6 hl1 I0
  obtain ⟨_, _, _, h61, h62, h63, h64, h65, h66, h67⟩ := w16_see S7
  (((apply vL_wanted); exact rfl); ((apply vL_val); (case h => ((apply opv_not); exact rfl))); (iterate 7 (first | ((with_reducible apply vL_val); (case h => ((with_reducible apply opv_E); exact rfl))) | ((with_reducible apply vL_wanted); exact rfl))); ((apply vL_val); (case h => ((apply opv_fieldAddr); exact rfl))); ((apply vL_wanted); exact rfl); ((apply vL_val); (case h => ((apply opv_loadb1); exact rfl; exact rfl; assumption; exact rfl))); ((apply vL_wanted); exact rfl))
  obtain ⟨kb1, S8⟩ := w16_open S7
  refine vL_callF rfl (pw_parked S8) rfl ?_
  intro v7 w7 S9
  have o9 : Own w7.heap 3 1 iE v7 [0] := S9.own.1
  have S10 := w16_shut S9.drop
  obtain ⟨_, _, _, h71, h72, h73, h74, h75, h76, h77⟩ := w16_see S10
  obtain ⟨ra, rn, rc, rfl⟩ := o9.isSlice
  clear h61 h62 h63 h64 S7 S8 S9
  (((apply vL_wanted); exact rfl); ((apply vL_val); (case h => ((apply opw_buildSl); exact rfl; exact rfl; exact rfl; exact (rfl : _ = some [_])))); ((apply vL_wanted); exact rfl))
  refine vL_callF rfl (kit_same_int _ _ [0] [0] _ (o9.rd.alloc) (Rd.new1 iE 0 rfl)) rfl ?_
  rintro _ w8 ⟨⟨k8, rfl⟩, rfl⟩
  have S11 := S10.frN (show Fr No w7 ((w7.alloc (.cells #[.int .i64 0] 3)).drewN k8) by (apply Fr.drewN; apply Fr.alloc; exact Fr.refl _ _))
  obtain ⟨_, _, _, h81, h82, h83, h84, h85, h86, h87⟩ := w16_see S11
  clear h71 h72 h73 h74 S10 o9
  generalize (w7.alloc (.cells #[.int .i64 0] 3)).drewN k8 = w8 at *
  (((apply vL_wanted); exact rfl); ((apply vL_val); (case h => ((apply opv_not); exact rfl))); (iterate 7 (first | ((with_reducible apply vL_val); (case h => ((with_reducible apply opv_E); exact rfl))) | ((with_reducible apply vL_wanted); exact rfl))); ((apply vL_val); (case h => ((apply opv_fieldAddr); exact rfl))); ((apply vL_wanted); exact rfl); ((apply vL_val); (case h => ((apply opv_loadb1); exact rfl; exact rfl; assumption; exact rfl))); ((apply vL_wanted); exact rfl))
  refine vL_callF rfl (w16_step pr S11 I1 (show 1 ≤ 100000 by decide) 0 (by decide)) rfl ?_
  rw [hPm]
  have hs2 : step16 Qa16 (⟨[.wS ⟨t0, 0, 1, ⟨0, 0, false⟩⟩ 0 5, .rdyY ⟨t1, 1, 0, ⟨0, 0, false⟩⟩], [t0, t1], [⟨cb, 0, [], [0], [], false⟩], [1]⟩, [⟨0, 0, 0, 0, false⟩]) 0 = some (⟨[.rdyS ⟨t0, 0, 1, ⟨0, 0, false⟩⟩ true, .rdyR ⟨t1, 1, 1, ⟨0, 0, false⟩⟩ 5 true], [t0, t1], [⟨cb, 0, [], [], [], false⟩], [0, 1]⟩, [⟨0, 0, 0, 0, false⟩, ⟨1, 0, 0, 0, false⟩]) := rfl
  rw [hs2]
  rintro _ w9 (⟨h, _⟩ | ⟨T1, h, I2, hl2, rfl, S12⟩)
  · cases h
  obtain rfl := Option.some.inj h
  clear h hs2 h81 h82 h83 h84 S11 hl2 I1
  obtain ⟨_, _, _, h91, h92, h93, h94, h95, h96, h97⟩ := w16_see S12
  (((apply vL_wanted); exact rfl); ((apply vL_val); (case h => ((apply opv_not); exact rfl))); (iterate 7 (first | ((with_reducible apply vL_val); (case h => ((with_reducible apply opv_E); exact rfl))) | ((with_reducible apply vL_wanted); exact rfl))); ((apply vL_val); (case h => ((apply opv_fieldAddr); exact rfl))); ((apply vL_wanted); exact rfl); ((apply vL_val); (case h => ((apply opv_loadb1); exact rfl; exact rfl; assumption; exact rfl))); ((apply vL_wanted); exact rfl))
  obtain ⟨kb2, S13⟩ := w16_open S12
  refine vL_callF rfl (pw_ready S13) rfl ?_
  intro v10 w10 S14
  have o10 : Own w10.heap 3 1 iE v10 [0, 1] := S14.own.1
  have S15 := w16_shut S14.drop
  obtain ⟨_, _, _, h101, h102, h103, h104, h105, h106, h107⟩ := w16_see S15
  obtain ⟨qa, qn, qc, rfl⟩ := o10.isSlice
  clear h91 h92 h93 h94 S12 S13 S14
  (((apply vL_wanted); exact rfl); ((apply vL_val); (case h => ((apply opw_buildSl); exact rfl; exact rfl; exact rfl; exact (rfl : _ = some [_, _])))); ((apply vL_wanted); exact rfl))
  refine vL_callF rfl (kit_same_int _ _ [0, 1] [0, 1] _ (o10.rd.alloc) (Rd.newN iE [0, 1] rfl rfl (by decide))) rfl ?_
  rintro _ w11 ⟨⟨k11, rfl⟩, rfl⟩
  have S16 := S15.frN (show Fr No w10 ((w10.alloc (.cells #[.int .i64 0, .int .i64 1] 3)).drewN k11) by (apply Fr.drewN; apply Fr.alloc; exact Fr.refl _ _))
  obtain ⟨_, _, _, h111, h112, h113, h114, h115, h116, h117⟩ := w16_see S16
  clear h101 h102 h103 h104 S15 o10
  generalize (w10.alloc (.cells #[.int .i64 0, .int .i64 1] 3)).drewN k11 = w11 at *
  (((apply vL_wanted); exact rfl); ((apply vL_val); (case h => ((apply opv_not); exact rfl))); ((apply vL_val); (case h => ((apply opv_E); exact rfl))); apply vL_nil; apply seqP_normal; ((apply vC_cond_false); exact rfl); apply vC_skip; apply seqP_normal; apply vC_seq; apply vC_region; (iterate 2 (((apply vL_val); (case h => ((apply opv_E); exact rfl))))); ((apply vL_val); (case h => ((apply opv_fieldAddr); exact rfl))); ((apply vL_val); (case h => ((apply opv_loadb1); exact rfl; exact rfl; assumption; exact rfl))); ((apply vL_val); (case h => ((apply opw_buildSl); exact rfl; exact rfl; exact rfl; exact (rfl : _ = some [_, _])))))
  refine vL_gen (fun w' => At (Pt w11.heap.size [.int .u64 1, .int .u64 0] 43 * (W16 wb rb vp [(cb, 0)] [t0, t1] (⟨[.rdyS ⟨t0, 0, 1, ⟨0, 0, false⟩⟩ true, .rdyR ⟨t1, 1, 1, ⟨0, 0, false⟩⟩ 5 true], [t0, t1], [⟨cb, 0, [], [], [], false⟩], [0, 1]⟩, [⟨0, 0, 0, 0, false⟩, ⟨1, 0, 0, 0, false⟩]) * RwA qb vp (rwI ([0].map row0) (pa16 b1 b2).length))) w4 No w') S16.alloc ?_
  clear h111 h112 h113 h114 S16
  intro w12 S17
  generalize w11.heap.size = bk at *
  have hrg := run_gen (fun T => W16 wb rb vp [(cb, 0)] [t0, t1] T) (step16 Qa16) (fun n T => Inv16 Qa16 [(cb, 0)] [t0, t1] T ∧ T.2.length ≤ n + 2) (R := Pt bk [.int .u64 1, .int .u64 0] 43 * RwA qb vp (rwI ([0].map row0) (pa16 b1 b2).length)) (picks := [1, 0]) 20 (by decide) (fun n T p w' hn hG hp S => (w16_step pr S hG.1 (by omega) p hp).mono fun u w'' h => h.imp (fun h => h) (fun ⟨T', g1, g2, g3, g4, g5⟩ => ⟨T', g1, ⟨g2, by omega⟩, g4, g5⟩)) (fun T w' S => rd_lit (enc := uE) [1, 0] (S.ac (show _ = Pt bk [.int .u64 1, .int .u64 0] 43 * (RwA qb vp (rwI ([0].map row0) (pa16 b1 b2).length) * W16 wb rb vp [(cb, 0)] [t0, t1] T) by ac_rfl)).blk rfl (by decide)) (by decide) _ ⟨I2, Nat.le_refl _⟩ (S17.ac (by ac_rfl))
  refine vL_callF rfl (hrg) rfl ?_
  rintro _ w13 ⟨n, T3, hrun, rfl, ⟨I3, _⟩, S18⟩
  have hr4 := (run16a t0 t1 cb).symm.trans hrun
  obtain ⟨rfl, rfl⟩ := Prod.mk.inj hr4
  clear hr4 hrun hrg
  obtain ⟨R4, hR4⟩ : ∃ R4, R4 = Pt bk [.int .u64 1, .int .u64 0] 43 * RwA qb vp (rwI ([0].map row0) (pa16 b1 b2).length) := ⟨_, rfl⟩
  rw [← hR4] at S18
  haveI : Lcl R4 := by rw [hR4]; infer_instance
  clear hR4 S17
  obtain ⟨kb3, S19⟩ := w16_open S18
  obtain ⟨E, hE⟩ : ∃ E : List Ev5, E = [⟨0, 0, 0, 0, false⟩, ⟨1, 0, 0, 0, false⟩, ⟨1, 1, 0, 5, true⟩, ⟨0, 1, 0, 0, true⟩, ⟨0, 2, 0, 0, true⟩, ⟨1, 2, 0, 0, false⟩] := ⟨_, rfl⟩
  simp only [← hE] at S19
  obtain ⟨cv, tv, ev, S20⟩ := wa_open (S19.ac (show _ = WA wb rb vp [cb] [t0, t1] E false * (PWA (L16 wb) rb none 0 kb3 ⟨[.over, .over], [t0, t1], [⟨cb, 0, [], [], [], true⟩], []⟩ * R4) by ac_rfl))
  have hb20 := S20.blk
  have hE6 : E.length = 6 := by rw [hE]; rfl
  obtain ⟨R5, hR5⟩ : ∃ R5, R5 = Pt wb [pt rb, vp, cv, tv, ev, .bool false] 61 * (Ow 28 1 ptE cv [cb] * (Ow 34 1 ptE tv [t0, t1] * (PWA (L16 wb) rb none 0 kb3 ⟨[.over, .over], [t0, t1], [⟨cb, 0, [], [], [], true⟩], []⟩ * R4))) := ⟨_, rfl⟩
  have S21 : At (Ow 100 5 ev5 ev E * R5) w4 No w13 := S20.ac (by rw [hR5]; ac_rfl)
  haveI : Lcl R5 := by rw [hR5]; infer_instance
  have o21 := S21.own.1
  have o211 := S21.own.2
  obtain ⟨ea, ec, rfl⟩ := o21.rd.len
  clear S18 S19 S20
  (apply vL_nil; apply seqP_normal; apply vC_seq; apply vC_region; ((apply vL_val); (case h => ((apply opv_buildS); exact rfl; exact (rfl : _ = some [_, _, _, _, _])))); ((apply vL_val); (case h => (apply opw_alloc))); ((apply vL_skip); (case h => ((apply ops_storen); exact norm_eq rfl; exact norm_eq rfl; exact rfl; (intro u hu; simp at hu; rcases hu with rfl | rfl <;> (first | rfl | assumption)); infer_instance; (first | decide | exact of_decide_eq_true rfl | (simp; done))))); apply vL_nil; apply seqP_normal; (iterate 2 (apply vC_seq)); apply vC_region; (iterate 2 (((apply vL_val); (case h => ((apply opv_E); exact rfl))))); ((apply vL_val); (case h => ((apply opv_fieldAddr); exact rfl))); ((apply vL_val); (case h => ((apply opv_loadb1); exact rfl; exact rfl; infer_instance; exact rfl))); ((apply vL_val); (case h => ((apply opv_lenc); exact rfl))); ((apply vL_val); (case h => ((apply opv_E); exact rfl))); apply vL_nil; apply seqP_normal; apply vC_block)
  refine vC_gen (fun w' => At (Pt w13.heap.size (ev5 (lastE E 0)) 100 * (Ow 100 5 ev5 (.slice ea E.length ec) E * R5)) w4 No w') (S21.new (by (apply Fr.allocSet; exact Fr.refl _ _)) (Blk.as inferInstance rfl) (Nat.le_refl _)) ?_
  clear S21 hb20 o21
  intro w14 S22
  generalize w13.heap.size = bt at *
  (apply vC_loop1 4835408130553337345998880 68 (fun u w' => ∃ k : Nat, u = .int .i64 (k : Int) ∧ k ≤ 6 ∧ At (Pt bt (ev5 (lastE E k)) 100 * (Ow 100 5 ev5 (.slice ea E.length ec) E * R5)) w4 No w') (fun u _ => 6 - (RowKit.intOf u).toNat)); (case h1 => (exact norm_eq rfl))
  case h0 => exact ⟨0, rfl, by decide, S22⟩
  clear S22
  case round =>
  rintro junk5 _ w15 ⟨k, rfl, hk, S23⟩
  have hbt := S23.blk
  have o23 := S23.swap.ac (star_assoc _ _ _) |>.own.1
  by_cases hlt : k < 6
  · obtain ⟨x, hx⟩ : ∃ x, E[k]? = some x := ⟨_, List.getElem?_eq_getElem (by omega)⟩
    have hx' : E[((k : Nat) : Int).toNat]? = some x := by rw [Int.toNat_natCast]; exact hx
    rw [ev5] at hbt
    have hls : lastE E (k + 1) = if x.t = 1 ∧ x.a = 1 then x else lastE E k := by unfold lastE; rw [List.take_add_one, hx]; simp
    have hbt' := hbt
    by_cases h1 : x.t = 1
    · by_cases h2 : x.a = 1
      · rw [if_pos ⟨h1, h2⟩] at hls
        (apply vC_seq; apply vC_region; ((apply vL_val); (case h => ((apply opv_E); exact rfl))); apply vL_nil; apply seqP_normal; apply vC_seq; (refine vC_cond_dec rfl (fun _ => ?_) (fun h => by omega)); apply vC_skip; apply seqP_normal; apply vC_seq; apply vC_block; apply vC_seq; apply vC_region; ((apply vL_val); (case h => ((apply opv_indexAddr); exact norm_eq rfl; exact rfl; infer_instance; (first | omega | (simp only [List.length_map]; omega)); (first | omega | (simp only [List.length_map]; omega))))); ((apply vL_val); (case h => ((apply opv_ld_eln); exact rfl; exact rfl; infer_instance; assumption))); ((apply vL_val); (case h => (apply opw_alloc))); ((apply vL_skip); (case h => ((apply ops_storen); exact norm_eq rfl; exact norm_eq rfl; exact rfl; exact (fun u hu => EncOk.one _ u hu); infer_instance; (first | decide | exact of_decide_eq_true rfl | (simp; done))))); apply vL_nil; apply seqP_normal; apply vC_seq; apply vC_region; (iterate 11 (first | ((with_reducible apply vL_val); (case h => ((with_reducible apply opv_E); exact rfl))) | ((with_reducible apply vL_val); (case h => ((with_reducible apply opv_loadb1); exact rfl; exact rfl; infer_instance; exact rfl))) | ((with_reducible apply vL_val); (case h => ((with_reducible apply opv_fieldAddr); exact rfl))) | ((with_reducible apply vL_wanted); exact rfl) | (refine vL_and rfl rfl (fun _ => ?_) (fun h => by omega)))); apply vL_nil; apply seqP_normal; (refine vC_cond_dec rfl (fun _ => ?_) (fun h => by omega)); apply vC_region; ((apply vL_val); (case h => ((apply opv_loadbC); exact rfl; exact rfl; infer_instance; exact (rfl : _ = [_, _, _, _, _]); exact rfl))); ((apply vL_skip); (case h => ((apply ops_storen); exact norm_eq rfl; exact norm_eq rfl; exact rfl; (intro u hu; simp only [List.mem_cons, List.not_mem_nil, or_false] at hu; rcases hu with rfl | rfl | rfl | rfl | rfl | rfl | rfl | rfl | rfl | rfl <;> (first | rfl | assumption)); infer_instance; (first | decide | exact of_decide_eq_true rfl | (simp; done))))); apply vL_nil; apply blockP_normal; apply seqP_normal; apply vC_region; ((apply vL_val); (case h => ((apply opv_add); exact rfl; exact rfl; (first | omega | (simp only [List.length_map]; omega))))); ((apply vL_val); (case h => ((apply opv_E); exact rfl))); apply vL_nil; apply loopP_normal)
        (with_reducible apply end1); (case hs => ((iterate 19 (first | with_reducible apply same_updN | ((with_reducible refine same_updO ?_ ?_); rotate_left; exact rfl) | ((with_reducible refine same_upd ?_ ?_); rotate_left; exact rfl))); (exact same_mask _ _ _))); (case h1 => (exact norm_eq rfl))
        · refine ⟨k + 1, rfl, by omega, ?_⟩
          rw [hls]
          exact S23.put (((((Fr.refl _ w15).alloc _).set _ _ (.inr (Nat.le_refl _)))).set _ _ (.inl rfl)) (Blk.as inferInstance rfl)
        · simp [RowKit.intOf]; omega
      · rw [if_neg (fun h => h2 h.2)] at hls
        (apply vC_seq; apply vC_region; ((apply vL_val); (case h => ((apply opv_E); exact rfl))); apply vL_nil; apply seqP_normal; apply vC_seq; (refine vC_cond_dec rfl (fun _ => ?_) (fun h => by omega)); apply vC_skip; apply seqP_normal; apply vC_seq; apply vC_block; apply vC_seq; apply vC_region; ((apply vL_val); (case h => ((apply opv_indexAddr); exact norm_eq rfl; exact rfl; infer_instance; (first | omega | (simp only [List.length_map]; omega)); (first | omega | (simp only [List.length_map]; omega))))); ((apply vL_val); (case h => ((apply opv_ld_eln); exact rfl; exact rfl; infer_instance; assumption))); ((apply vL_val); (case h => (apply opw_alloc))); ((apply vL_skip); (case h => ((apply ops_storen); exact norm_eq rfl; exact norm_eq rfl; exact rfl; exact (fun u hu => EncOk.one _ u hu); infer_instance; (first | decide | exact of_decide_eq_true rfl | (simp; done))))); apply vL_nil; apply seqP_normal; apply vC_seq; apply vC_region; (iterate 11 (first | ((with_reducible apply vL_val); (case h => ((with_reducible apply opv_E); exact rfl))) | ((with_reducible apply vL_val); (case h => ((with_reducible apply opv_loadb1); exact rfl; exact rfl; infer_instance; exact rfl))) | ((with_reducible apply vL_val); (case h => ((with_reducible apply opv_fieldAddr); exact rfl))) | ((with_reducible apply vL_wanted); exact rfl) | (refine vL_and rfl rfl (fun _ => ?_) (fun h => by omega)))); apply vL_nil; apply seqP_normal; (refine vC_cond_dec rfl (fun h => by omega) (fun _ => ?_)); apply vC_skip; apply blockP_normal; apply seqP_normal; apply vC_region; ((apply vL_val); (case h => ((apply opv_add); exact rfl; exact rfl; (first | omega | (simp only [List.length_map]; omega))))); ((apply vL_val); (case h => ((apply opv_E); exact rfl))); apply vL_nil; apply loopP_normal)
        (with_reducible apply end1); (case hs => ((iterate 17 (first | with_reducible apply same_updN | ((with_reducible refine same_updO ?_ ?_); rotate_left; exact rfl) | ((with_reducible refine same_upd ?_ ?_); rotate_left; exact rfl))); (exact same_mask _ _ _))); (case h1 => (exact norm_eq rfl))
        · refine ⟨k + 1, rfl, by omega, ?_⟩
          rw [hls]
          exact S23.frN (by (apply Fr.allocSet; exact Fr.refl _ _))
        · simp [RowKit.intOf]; omega
    · rw [if_neg (fun h => h1 h.1)] at hls
      (apply vC_seq; apply vC_region; ((apply vL_val); (case h => ((apply opv_E); exact rfl))); apply vL_nil; apply seqP_normal; apply vC_seq; (refine vC_cond_dec rfl (fun _ => ?_) (fun h => by omega)); apply vC_skip; apply seqP_normal; apply vC_seq; apply vC_block; apply vC_seq; apply vC_region; ((apply vL_val); (case h => ((apply opv_indexAddr); exact norm_eq rfl; exact rfl; infer_instance; (first | omega | (simp only [List.length_map]; omega)); (first | omega | (simp only [List.length_map]; omega))))); ((apply vL_val); (case h => ((apply opv_ld_eln); exact rfl; exact rfl; infer_instance; assumption))); ((apply vL_val); (case h => (apply opw_alloc))); ((apply vL_skip); (case h => ((apply ops_storen); exact norm_eq rfl; exact norm_eq rfl; exact rfl; exact (fun u hu => EncOk.one _ u hu); infer_instance; (first | decide | exact of_decide_eq_true rfl | (simp; done))))); apply vL_nil; apply seqP_normal; apply vC_seq; apply vC_region; ((apply vL_val); (case h => ((apply opv_fieldAddr); exact rfl))); ((apply vL_val); (case h => ((apply opv_loadb1); exact rfl; exact rfl; infer_instance; exact rfl))); (iterate 2 (((apply vL_val); (case h => ((apply opv_E); exact rfl))))); (refine vL_and rfl rfl (fun h => by omega) (fun _ => ?_)); (iterate 2 (((apply vL_unwanted'); exact rfl; exact rfl))); ((apply vL_val); (case h => ((apply opv_E); exact rfl))); apply vL_nil; apply seqP_normal; ((apply vC_cond_false); exact rfl); apply vC_skip; apply blockP_normal; apply seqP_normal; apply vC_region; ((apply vL_val); (case h => ((apply opv_add); exact rfl; exact rfl; (first | omega | (simp only [List.length_map]; omega))))); ((apply vL_val); (case h => ((apply opv_E); exact rfl))); apply vL_nil; apply loopP_normal)
      (with_reducible apply end1); (case hs => ((iterate 17 (first | with_reducible apply same_updN | ((with_reducible refine same_updO ?_ ?_); rotate_left; exact rfl) | ((with_reducible refine same_upd ?_ ?_); rotate_left; exact rfl))); (exact same_mask _ _ _))); (case h1 => (exact norm_eq rfl))
      · refine ⟨k + 1, rfl, by omega, ?_⟩
        rw [hls]
        exact S23.frN (by (apply Fr.allocSet; exact Fr.refl _ _))
      · simp [RowKit.intOf]; omega
  · obtain rfl : k = 6 := by omega
    have hl6 : lastE E 6 = ⟨1, 1, 0, 5, true⟩ := by rw [hE]; rfl
    rw [hl6, ev5] at hbt
    have S24 : At (PWA (L16 wb) rb none 0 kb3 ⟨[.over, .over], [t0, t1], [⟨cb, 0, [], [], [], true⟩], []⟩ * (Pt wb [pt rb, vp, cv, tv, .slice ea E.length ec, .bool false] 61 * (Ow 28 1 ptE cv [cb] * (Ow 34 1 ptE tv [t0, t1] * (Pt bt (ev5 (lastE E 6)) 100 * (Ow 100 5 ev5 (.slice ea E.length ec) E * R4)))))) w4 No w15 := S23.ac (by rw [hR5]; ac_rfl)
    have hwb := (S24.swap.ac (star_assoc _ _ _)).blk
    have hcv := (S24.ac (show _ = Ow 28 1 ptE cv [cb] * (Pt wb [pt rb, vp, cv, tv, .slice ea E.length ec, .bool false] 61 * (PWA (L16 wb) rb none 0 kb3 ⟨[.over, .over], [t0, t1], [⟨cb, 0, [], [], [], true⟩], []⟩ * (Ow 34 1 ptE tv [t0, t1] * (Pt bt (ev5 (lastE E 6)) 100 * (Ow 100 5 ev5 (.slice ea E.length ec) E * R4))))) by ac_rfl)).own
    obtain ⟨hcv1, hcv2⟩ := hcv
    have hd0 : (⟨[.over, .over], [t0, t1], [⟨cb, 0, [], [], [], true⟩], []⟩ : PS K16).cs[0]? = some ⟨cb, 0, [], [], [], true⟩ := rfl
    have hcl1 : ([cb] : List Nat).length = 1 := rfl
    have hcb : ([cb] : List Nat)[(0 : Int).toNat]? = some cb := rfl
    (apply vC_seq; apply vC_region; ((apply vL_val); (case h => ((apply opv_E); exact rfl))); apply vL_nil; apply seqP_normal; apply vC_seq; (refine vC_cond_dec rfl (fun h => by omega) (fun _ => ?_)); apply vC_exit; apply seqP_exit; apply loopP_exit; apply blockP_exit; apply seqP_normal; apply vC_seq; apply vC_region; (iterate 19 (first | ((with_reducible apply vL_val); (case h => ((with_reducible apply opv_E); exact rfl))) | ((with_reducible apply vL_val); (case h => ((with_reducible apply opv_loadb1); exact rfl; exact rfl; assumption; exact rfl))) | ((with_reducible apply vL_val); (case h => ((with_reducible apply opv_fieldAddr); exact rfl))) | ((with_reducible apply vL_wanted); exact rfl))); ((apply vL_val); (case h => ((apply opv_indexAddr); ((conv => lhs; whnf) <;> exact rfl); exact rfl; infer_instance; (first | omega | (simp only [List.length_map]; omega)); (first | omega | (simp only [List.length_map]; omega))))); ((apply vL_wanted); exact rfl); ((apply vL_val); (case h => ((apply opv_ld_el); exact rfl; exact rfl; infer_instance; assumption; exact rfl))); ((apply vL_wanted); exact rfl))
    refine vL_callF rfl (pw_close S24 hd0) rfl ?_
    rintro _ w16 ⟨rfl, kb4, _, S25⟩
    rw [show (if (PS.close (⟨[.over, .over], [t0, t1], [⟨cb, 0, [], [], [], true⟩], []⟩ : PS K16) 0).2 then (0 : Int) else 150) = 150 from rfl]
    have e25 : (PS.close (⟨[.over, .over], [t0, t1], [⟨cb, 0, [], [], [], true⟩], []⟩ : PS K16) 0).1 = ⟨[.over, .over], [t0, t1], [⟨cb, 0, [], [], [], true⟩], []⟩ := rfl
    rw [e25] at S25
    have hwb2 := (S25.swap.ac (star_assoc _ _ _)).blk
    have htv := (S25.ac (show _ = Ow 34 1 ptE tv [t0, t1] * (Pt wb [pt rb, vp, cv, tv, .slice ea E.length ec, .bool false] 61 * (PWA (L16 wb) rb none 0 kb4 ⟨[.over, .over], [t0, t1], [⟨cb, 0, [], [], [], true⟩], []⟩ * (Ow 28 1 ptE cv [cb] * (Pt bt (ev5 (lastE E 6)) 100 * (Ow 100 5 ev5 (.slice ea E.length ec) E * R4))))) by ac_rfl)).own
    obtain ⟨htv1, htv2⟩ := htv
    have htl1 : ([t0, t1] : List Nat).length = 2 := rfl
    have ht1 : ([t0, t1] : List Nat)[(1 : Int).toNat]? = some t1 := rfl
    clear hwb hcv1 hbt o23
    ((iterate 25 (first | ((with_reducible apply vL_val); (case h => ((with_reducible apply opv_E); exact rfl))) | ((with_reducible apply vL_val); (case h => ((with_reducible apply opv_loadb1); exact rfl; exact rfl; assumption; exact rfl))) | ((with_reducible apply vL_val); (case h => ((with_reducible apply opv_fieldAddr); exact rfl))) | ((with_reducible apply vL_val); (case h => ((with_reducible apply opv_not); exact rfl))) | ((with_reducible apply vL_wanted); exact rfl))); ((apply vL_val); (case h => ((apply opv_indexAddr); ((conv => lhs; whnf) <;> exact rfl); exact rfl; infer_instance; (first | omega | (simp only [List.length_map]; omega)); (first | omega | (simp only [List.length_map]; omega))))); ((apply vL_wanted); exact rfl); ((apply vL_val); (case h => ((apply opv_ld_el); exact rfl; exact rfl; infer_instance; assumption; exact rfl))); ((apply vL_wanted); exact rfl))
    refine vL_callF rfl (pw_over S25 (i := 1) (s := .over) (tb := t1) (show ([.over, .over] : List (St K16))[1]? = some .over from rfl) (show ([t0, t1] : List Nat)[1]? = some t1 from rfl)) rfl ?_
    rintro _ _ ⟨rfl, rfl⟩
    ((iterate 2 (((apply vL_val); (case h => ((apply opv_E); exact rfl))))); apply vL_nil; apply seqP_normal; apply vC_ret)
    (apply ret1; (case h1 => (exact norm_eq rfl)))
    exact ⟨rfl, hf4.trans S25.fr⟩
end Go.Proofs.YtbaidcnalkdhgaaGreat
set_option maxRecDepth 100000
namespace Go.Proofs.YtbaidcnalkdhgaaGreat
open Go Go.Eng
structure Tame (P : List (OV × List Do5)) (sizes : List Int) : Prop where
  six : P.length ≤ 6
  few : 1 ≤ sizes.length ∧ sizes.length ≤ 6
  size : ∀ x ∈ sizes, 0 ≤ x ∧ x ≤ 64
  ch : ∀ y ∈ P, ∀ (d : Do5), d ∈ y.2 → (0 ≤ d.c ∧ d.c < (sizes.length : Int)) ∧ d.k ≠ 5 ∧ d.k ≤ 7
theorem tame16 (w : World) (vp vs : Value) (P : List (OV × List Do5)) (sizes : List Int) (z : Pz16 w.heap vp P) (hs : Rd w.heap 1 iE vs sizes) (hso : vs.oneCell' = true) :
    Rets Tryz.prog 29 #[vp, vs] w fun u w' => Fr No w w' ∧ ∃ b, u = .bool b ∧ (b = true → Tame P sizes) := by
  have hv1 := z.one
  have hPs := z.hP.small
  have hss := hs.small
  obtain ⟨va, vc, rfl⟩ := z.hP.len
  obtain ⟨sa, sc, rfl⟩ := hs.len
  refine rets_of Tryz.func29 rfl Tryz.ntmps29 rfl rfl (by kernel_rfl) ?_
  have bad : ∀ w', Fr No w w' → Fr No w w' ∧ ∃ b, (Value.bool false) = .bool b ∧ (b = true → Tame P sizes) := fun w' hf => ⟨hf, false, rfl, fun h => by cases h⟩
  by_cases h6 : 6 < P.length
  · ((iterate 23 (first | with_reducible apply vC_seq | with_reducible apply vC_region | with_reducible apply seqP_normal | ((with_reducible apply vL_val); (case h => ((with_reducible apply opv_E); exact rfl))) | ((with_reducible apply vL_val); (case h => ((with_reducible apply opv_lenc); exact rfl))) | with_reducible apply vL_nil | ((with_reducible apply vL_unwanted'); exact rfl; exact rfl) | (refine vL_or rfl rfl (fun h => by omega) (fun _ => ?_)))); ((apply vC_cond_true); exact rfl); apply vC_seq; apply vC_region; ((apply vL_val); (case h => ((apply opv_E); exact rfl))); apply vL_nil; apply seqP_normal; apply vC_ret; apply seqP_ret)
    (apply ret1; (case h1 => (exact norm_eq rfl)))
    exact bad _ (by (exact Fr.refl _ _))
  by_cases h1 : sizes.length < 1
  · (apply vC_seq; apply vC_region; ((apply vL_val); (case h => ((apply opv_E); exact rfl))); apply vL_nil; apply seqP_normal; (iterate 2 (apply vC_seq)); apply vC_region; (iterate 16 (first | ((with_reducible apply vL_val); (case h => ((with_reducible apply opv_E); exact rfl))) | ((with_reducible apply vL_val); (case h => ((with_reducible apply opv_lenc); exact rfl))) | ((with_reducible apply vL_wanted); exact rfl) | ((with_reducible apply vL_unwanted'); exact rfl; exact rfl) | (refine vL_or rfl rfl (fun _ => ?_) (fun h => by omega)) | (refine vL_or rfl rfl (fun h => by omega) (fun _ => ?_)))); apply vL_nil; apply seqP_normal; ((apply vC_cond_true); exact rfl); apply vC_seq; apply vC_region; ((apply vL_val); (case h => ((apply opv_E); exact rfl))); apply vL_nil; apply seqP_normal; apply vC_ret; apply seqP_ret)
    (apply ret1; (case h1 => (exact norm_eq rfl)))
    exact bad _ (by (exact Fr.refl _ _))
  by_cases h7 : 6 < sizes.length
  · ((iterate 29 (first | with_reducible apply vC_seq | with_reducible apply vC_region | with_reducible apply seqP_normal | ((with_reducible apply vL_val); (case h => ((with_reducible apply opv_E); exact rfl))) | ((with_reducible apply vL_val); (case h => ((with_reducible apply opv_lenc); exact rfl))) | with_reducible apply vL_nil | ((with_reducible apply vL_wanted); exact rfl) | (refine vL_or rfl rfl (fun _ => ?_) (fun h => by omega)))); (refine vC_cond_dec rfl (fun _ => ?_) (fun h => by omega)); apply vC_seq; apply vC_region; ((apply vL_val); (case h => ((apply opv_E); exact rfl))); apply vL_nil; apply seqP_normal; apply vC_ret; apply seqP_ret)
    (apply ret1; (case h1 => (exact norm_eq rfl)))
    exact bad _ (by (exact Fr.refl _ _))
  ((iterate 29 (first | with_reducible apply vC_seq | with_reducible apply vC_region | with_reducible apply seqP_normal | ((with_reducible apply vL_val); (case h => ((with_reducible apply opv_E); exact rfl))) | ((with_reducible apply vL_val); (case h => ((with_reducible apply opv_lenc); exact rfl))) | with_reducible apply vL_nil | ((with_reducible apply vL_wanted); exact rfl) | (refine vL_or rfl rfl (fun _ => ?_) (fun h => by omega)))); (refine vC_cond_dec rfl (fun h => by omega) (fun _ => ?_)); apply vC_skip; apply seqP_normal; (iterate 2 (apply vC_seq)); apply vC_region; ((apply vL_val); (case h => ((apply opv_E); exact rfl))); apply vL_nil; apply seqP_normal; apply vC_block)
  (apply vC_loop1 1099507433520 5 (fun u w' => ∃ k : Nat, u = .int .i64 (k : Int) ∧ k ≤ sizes.length ∧ Fr No w w' ∧ ∀ (j : Nat) x, j < k → sizes[j]? = some x → 0 ≤ x ∧ x ≤ 64) (fun u _ => sizes.length - (RowKit.intOf u).toNat)); (case h1 => (exact norm_eq rfl))
  case h0 => exact ⟨0, rfl, Nat.zero_le _, by (exact Fr.refl _ _), fun j x hj => by omega⟩
  case round =>
  rintro junk _ w1 ⟨k, rfl, hk, hf1, ok⟩
  have hs1 := hs.frN hf1
  by_cases hlt : k < sizes.length
  · obtain ⟨x, hx⟩ : ∃ x, sizes[k]? = some x := ⟨_, List.getElem?_eq_getElem hlt⟩
    have hx' : sizes[((k : Nat) : Int).toNat]? = some x := by rw [Int.toNat_natCast]; exact hx
    by_cases g0 : x < 0
    · ((iterate 2 (apply vC_seq)); apply vC_region; (iterate 2 (((apply vL_val); (case h => ((apply opv_E); exact rfl))))); ((apply vL_val); (case h => ((apply opv_lenc); exact rfl))); ((apply vL_val); (case h => ((apply opv_E); exact rfl))); apply vL_nil; apply seqP_normal; (refine vC_cond_dec rfl (fun _ => ?_) (fun h => by omega)); apply vC_skip; apply seqP_normal; apply vC_seq; apply vC_block; apply vC_seq; apply vC_region; (iterate 2 (((apply vL_val); (case h => ((apply opv_E); exact rfl))))); ((apply vL_val); (case h => ((apply opv_indexAddr); exact norm_eq rfl; exact rfl; assumption; (first | omega | (simp only [List.length_map]; omega)); (first | omega | (simp only [List.length_map]; omega))))); ((apply vL_val); (case h => ((apply opv_ld_el); exact rfl; exact rfl; assumption; assumption; exact rfl))); (iterate 2 (((apply vL_val); (case h => ((apply opv_E); exact rfl))))); (refine vL_or rfl rfl (fun h => by omega) (fun _ => ?_)); (iterate 4 (((apply vL_unwanted'); exact rfl; exact rfl))); ((apply vL_val); (case h => ((apply opv_E); exact rfl))); apply vL_nil; apply seqP_normal; ((apply vC_cond_true); exact rfl); apply vC_seq; apply vC_region; ((apply vL_val); (case h => ((apply opv_E); exact rfl))); apply vL_nil; apply seqP_normal; apply vC_ret; apply blockP_ret; apply seqP_ret; apply loopP_ret; apply blockP_ret; apply seqP_ret)
      (apply ret1; (case h1 => (exact norm_eq rfl)))
      exact bad _ hf1
    by_cases g1 : 64 < x
    · ((iterate 2 (apply vC_seq)); apply vC_region; (iterate 2 (((apply vL_val); (case h => ((apply opv_E); exact rfl))))); ((apply vL_val); (case h => ((apply opv_lenc); exact rfl))); ((apply vL_val); (case h => ((apply opv_E); exact rfl))); apply vL_nil; apply seqP_normal; (refine vC_cond_dec rfl (fun _ => ?_) (fun h => by omega)); apply vC_skip; apply seqP_normal; apply vC_seq; apply vC_block; apply vC_seq; apply vC_region; (iterate 17 (first | ((with_reducible apply vL_val); (case h => ((with_reducible apply opv_E); exact rfl))) | ((with_reducible apply vL_val); (case h => ((with_reducible apply opv_indexAddr); exact norm_eq rfl; exact rfl; assumption; (first | omega | (simp only [List.length_map]; omega)); (first | omega | (simp only [List.length_map]; omega))))) | ((with_reducible apply vL_val); (case h => ((with_reducible apply opv_ld_el); exact rfl; exact rfl; assumption; assumption; exact rfl))) | ((with_reducible apply vL_wanted); exact rfl) | (refine vL_or rfl rfl (fun _ => ?_) (fun h => by omega)))); apply vL_nil; apply seqP_normal; (refine vC_cond_dec rfl (fun _ => ?_) (fun h => by omega)); apply vC_seq; apply vC_region; ((apply vL_val); (case h => ((apply opv_E); exact rfl))); apply vL_nil; apply seqP_normal; apply vC_ret; apply blockP_ret; apply seqP_ret; apply loopP_ret; apply blockP_ret; apply seqP_ret)
      (apply ret1; (case h1 => (exact norm_eq rfl)))
      exact bad _ hf1
    ((iterate 2 (apply vC_seq)); apply vC_region; (iterate 2 (((apply vL_val); (case h => ((apply opv_E); exact rfl))))); ((apply vL_val); (case h => ((apply opv_lenc); exact rfl))); ((apply vL_val); (case h => ((apply opv_E); exact rfl))); apply vL_nil; apply seqP_normal; (refine vC_cond_dec rfl (fun _ => ?_) (fun h => by omega)); apply vC_skip; apply seqP_normal; apply vC_seq; apply vC_block; apply vC_seq; apply vC_region; (iterate 17 (first | ((with_reducible apply vL_val); (case h => ((with_reducible apply opv_E); exact rfl))) | ((with_reducible apply vL_val); (case h => ((with_reducible apply opv_indexAddr); exact norm_eq rfl; exact rfl; assumption; (first | omega | (simp only [List.length_map]; omega)); (first | omega | (simp only [List.length_map]; omega))))) | ((with_reducible apply vL_val); (case h => ((with_reducible apply opv_ld_el); exact rfl; exact rfl; assumption; assumption; exact rfl))) | ((with_reducible apply vL_wanted); exact rfl) | (refine vL_or rfl rfl (fun _ => ?_) (fun h => by omega)))); apply vL_nil; apply seqP_normal; (refine vC_cond_dec rfl (fun h => by omega) (fun _ => ?_)); apply vC_skip; apply blockP_normal; apply seqP_normal; apply vC_region; ((apply vL_val); (case h => ((apply opv_E); exact rfl))); ((apply vL_val); (case h => ((apply opv_add); exact rfl; exact rfl; (first | omega | (simp only [List.length_map]; omega))))); ((apply vL_val); (case h => ((apply opv_E); exact rfl))); apply vL_nil; apply loopP_normal)
    (with_reducible apply end1); (case hs => ((iterate 21 (first | ((with_reducible refine same_updO ?_ ?_); rotate_left; exact rfl) | ((with_reducible refine same_upd ?_ ?_); rotate_left; exact rfl))); (exact same_mask _ _ _))); (case h1 => (exact norm_eq rfl))
    · refine ⟨k + 1, rfl, by omega, hf1, fun j y hj hy => ?_⟩
      by_cases e : j = k
      · subst e; rw [hx] at hy; cases hy; omega
      · exact ok j y (by omega) hy
    · simp [RowKit.intOf]; omega
  have hall : ∀ x ∈ sizes, 0 ≤ x ∧ x ≤ 64 := fun x hx => by
    obtain ⟨j, hj, e⟩ := List.getElem_of_mem hx
    exact ok j x (by omega) (by rw [List.getElem?_eq_getElem hj, e])
  clear ok hs1
  ((iterate 2 (apply vC_seq)); apply vC_region; (iterate 2 (((apply vL_val); (case h => ((apply opv_E); exact rfl))))); ((apply vL_val); (case h => ((apply opv_lenc); exact rfl))); ((apply vL_val); (case h => ((apply opv_E); exact rfl))); apply vL_nil; apply seqP_normal; (refine vC_cond_dec rfl (fun h => by omega) (fun _ => ?_)); apply vC_exit; apply seqP_exit; apply loopP_exit; apply blockP_exit; apply seqP_normal; (iterate 2 (apply vC_seq)); apply vC_region; ((apply vL_val); (case h => ((apply opv_E); exact rfl))); apply vL_nil; apply seqP_normal; apply vC_block)
  (apply vC_loop1 4835703278457417187197392 6 (fun u w' => ∃ k : Nat, u = .int .i64 (k : Int) ∧ k ≤ P.length ∧ Fr No w w' ∧ ∀ (j : Nat) y, j < k → P[j]? = some y → ∀ (d : Do5), d ∈ y.2 → (0 ≤ d.c ∧ d.c < (sizes.length : Int)) ∧ d.k ≠ 5 ∧ d.k ≤ 7) (fun u _ => P.length - (RowKit.intOf u).toNat)); (case h1 => (exact norm_eq rfl))
  case h0 => exact ⟨0, rfl, Nat.zero_le _, hf1, fun j x hj => by omega⟩
  clear hf1
  case round =>
  rintro junk2 _ w2 ⟨m, rfl, hm, hf2, okp⟩
  by_cases hltm : m < P.length
  · obtain ⟨y, hy⟩ : ∃ y, P[m]? = some y := ⟨_, List.getElem?_eq_getElem hltm⟩
    have hy' : P[((m : Nat) : Int).toNat]? = some y := by rw [Int.toNat_natCast]; exact hy
    have hyone := y.1.2
    ((iterate 2 (apply vC_seq)); apply vC_region; (iterate 2 (((apply vL_val); (case h => ((apply opv_E); exact rfl))))); ((apply vL_val); (case h => ((apply opv_lenc); exact rfl))); ((apply vL_val); (case h => ((apply opv_E); exact rfl))); apply vL_nil; apply seqP_normal; (refine vC_cond_dec rfl (fun _ => ?_) (fun h => by omega)); apply vC_skip; apply seqP_normal; apply vC_seq; apply vC_block; apply vC_seq; apply vC_region; ((apply vL_val); (case h => ((apply opv_E); exact rfl))); apply vL_nil; apply seqP_normal; apply vC_block)
    (apply vC_loop1 4835703278388147954647440 7 (fun u w' => ∃ k : Nat, u = .int .i64 (k : Int) ∧ k ≤ y.2.length ∧ Fr No w w' ∧ ∀ (j : Nat) d, j < k → y.2[j]? = some d → (0 ≤ d.c ∧ d.c < (sizes.length : Int)) ∧ d.k ≠ 5 ∧ d.k ≤ 7) (fun u _ => y.2.length - (RowKit.intOf u).toNat)); (case h1 => (exact norm_eq rfl))
    case h0 => exact ⟨0, rfl, Nat.zero_le _, hf2, fun j x hj => by omega⟩
    clear hf2
    case round =>
    rintro junk3 _ w3 ⟨q, rfl, hq, hf3, okd⟩
    have hP3 := z.hP.frN hf3
    have hPi3 := (z.hPi y (List.mem_of_getElem? hy)).frN hf3
    have hys := hPi3.small
    by_cases hltq : q < y.2.length
    · obtain ⟨d, hd⟩ : ∃ d, y.2[q]? = some d := ⟨_, List.getElem?_eq_getElem hltq⟩
      have hd' : y.2[((q : Nat) : Int).toNat]? = some d := by rw [Int.toNat_natCast]; exact hd
      have hdone := d.cs.2
      by_cases g0 : d.c < 0
      · ((iterate 2 (apply vC_seq)); apply vC_region; (iterate 3 (((apply vL_val); (case h => ((apply opv_E); exact rfl))))); ((apply vL_val); (case h => ((apply opv_indexAddr); exact norm_eq rfl; exact rfl; assumption; (first | omega | (simp only [List.length_map]; omega)); (first | omega | (simp only [List.length_map]; omega))))); ((apply vL_val); (case h => ((apply opv_ld_el); exact rfl; exact rfl; assumption; assumption; exact rfl))); ((apply vL_val); (case h => ((apply opv_len); ((conv => lhs; whnf) <;> exact rfl); assumption))); ((apply vL_val); (case h => ((apply opv_E); exact rfl))); apply vL_nil; apply seqP_normal; (refine vC_cond_dec rfl (fun _ => ?_) (fun h => by omega)); apply vC_skip; apply seqP_normal; apply vC_seq; apply vC_block; apply vC_seq; apply vC_region; (iterate 2 (((apply vL_val); (case h => ((apply opv_E); exact rfl))))); ((apply vL_val); (case h => ((apply opv_indexAddr); exact norm_eq rfl; exact rfl; assumption; (first | omega | (simp only [List.length_map]; omega)); (first | omega | (simp only [List.length_map]; omega))))); ((apply vL_val); (case h => ((apply opv_ld_el); exact rfl; exact rfl; assumption; assumption; exact rfl))); ((apply vL_val); (case h => ((apply opv_E); exact rfl))); ((apply vL_val); (case h => ((apply opv_indexAddr); ((conv => lhs; whnf) <;> exact rfl); exact rfl; assumption; (first | omega | (simp only [List.length_map]; omega)); (first | omega | (simp only [List.length_map]; omega))))); ((apply vL_val); (case h => ((apply opv_ld_eln); exact rfl; exact rfl; assumption; assumption))); ((apply vL_val); (case h => (apply opw_alloc))); ((apply vL_skip); (case h => ((apply ops_storen); exact norm_eq rfl; exact norm_eq rfl; exact rfl; exact (fun u hu => EncOk.one _ u hu); infer_instance; (first | decide | exact of_decide_eq_true rfl | (simp; done))))); apply vL_nil; apply seqP_normal; apply vC_seq; apply vC_region; ((apply vL_val); (case h => ((apply opv_fieldAddr); exact rfl))); ((apply vL_val); (case h => ((apply opv_loadb1); exact rfl; exact rfl; infer_instance; exact rfl))); (iterate 18 (first | ((with_reducible apply vL_val); (case h => ((with_reducible apply opv_E); exact rfl))) | ((with_reducible apply vL_unwanted'); exact rfl; exact rfl) | (refine vL_or rfl rfl (fun h => by omega) (fun _ => ?_)))); apply vL_nil; apply seqP_normal; ((apply vC_cond_true); exact rfl); apply vC_seq; apply vC_region; ((apply vL_val); (case h => ((apply opv_E); exact rfl))); apply vL_nil; apply seqP_normal; apply vC_ret; (iterate 9 (first | with_reducible apply seqP_ret | with_reducible apply blockP_ret | with_reducible apply loopP_ret)))
        (apply ret1; (case h1 => (exact norm_eq rfl)))
        exact bad _ (hf3.trans (by (apply Fr.allocSet; exact Fr.refl _ _)))
      by_cases g1 : (sizes.length : Int) ≤ d.c
      · ((iterate 2 (apply vC_seq)); apply vC_region; (iterate 3 (((apply vL_val); (case h => ((apply opv_E); exact rfl))))); ((apply vL_val); (case h => ((apply opv_indexAddr); exact norm_eq rfl; exact rfl; assumption; (first | omega | (simp only [List.length_map]; omega)); (first | omega | (simp only [List.length_map]; omega))))); ((apply vL_val); (case h => ((apply opv_ld_el); exact rfl; exact rfl; assumption; assumption; exact rfl))); ((apply vL_val); (case h => ((apply opv_len); ((conv => lhs; whnf) <;> exact rfl); assumption))); ((apply vL_val); (case h => ((apply opv_E); exact rfl))); apply vL_nil; apply seqP_normal; (refine vC_cond_dec rfl (fun _ => ?_) (fun h => by omega)); apply vC_skip; apply seqP_normal; apply vC_seq; apply vC_block; apply vC_seq; apply vC_region; (iterate 2 (((apply vL_val); (case h => ((apply opv_E); exact rfl))))); ((apply vL_val); (case h => ((apply opv_indexAddr); exact norm_eq rfl; exact rfl; assumption; (first | omega | (simp only [List.length_map]; omega)); (first | omega | (simp only [List.length_map]; omega))))); ((apply vL_val); (case h => ((apply opv_ld_el); exact rfl; exact rfl; assumption; assumption; exact rfl))); ((apply vL_val); (case h => ((apply opv_E); exact rfl))); ((apply vL_val); (case h => ((apply opv_indexAddr); ((conv => lhs; whnf) <;> exact rfl); exact rfl; assumption; (first | omega | (simp only [List.length_map]; omega)); (first | omega | (simp only [List.length_map]; omega))))); ((apply vL_val); (case h => ((apply opv_ld_eln); exact rfl; exact rfl; assumption; assumption))); ((apply vL_val); (case h => (apply opw_alloc))); ((apply vL_skip); (case h => ((apply ops_storen); exact norm_eq rfl; exact norm_eq rfl; exact rfl; exact (fun u hu => EncOk.one _ u hu); infer_instance; (first | decide | exact of_decide_eq_true rfl | (simp; done))))); apply vL_nil; apply seqP_normal; apply vC_seq; apply vC_region; (iterate 25 (first | ((with_reducible apply vL_val); (case h => ((with_reducible apply opv_E); exact rfl))) | ((with_reducible apply vL_val); (case h => ((with_reducible apply opv_loadb1); exact rfl; exact rfl; infer_instance; exact rfl))) | ((with_reducible apply vL_val); (case h => ((with_reducible apply opv_fieldAddr); exact rfl))) | ((with_reducible apply vL_val); (case h => ((with_reducible apply opv_lenc); exact rfl))) | ((with_reducible apply vL_wanted); exact rfl) | ((with_reducible apply vL_unwanted'); exact rfl; exact rfl) | (refine vL_or rfl rfl (fun _ => ?_) (fun h => by omega)) | (refine vL_or rfl rfl (fun h => by omega) (fun _ => ?_)))); apply vL_nil; apply seqP_normal; ((apply vC_cond_true); exact rfl); apply vC_seq; apply vC_region; ((apply vL_val); (case h => ((apply opv_E); exact rfl))); apply vL_nil; apply seqP_normal; apply vC_ret; (iterate 9 (first | with_reducible apply seqP_ret | with_reducible apply blockP_ret | with_reducible apply loopP_ret)))
        (apply ret1; (case h1 => (exact norm_eq rfl)))
        exact bad _ (hf3.trans (by (apply Fr.allocSet; exact Fr.refl _ _)))
      by_cases g2 : d.k = 5
      · ((iterate 2 (apply vC_seq)); apply vC_region; (iterate 3 (((apply vL_val); (case h => ((apply opv_E); exact rfl))))); ((apply vL_val); (case h => ((apply opv_indexAddr); exact norm_eq rfl; exact rfl; assumption; (first | omega | (simp only [List.length_map]; omega)); (first | omega | (simp only [List.length_map]; omega))))); ((apply vL_val); (case h => ((apply opv_ld_el); exact rfl; exact rfl; assumption; assumption; exact rfl))); ((apply vL_val); (case h => ((apply opv_len); ((conv => lhs; whnf) <;> exact rfl); assumption))); ((apply vL_val); (case h => ((apply opv_E); exact rfl))); apply vL_nil; apply seqP_normal; (refine vC_cond_dec rfl (fun _ => ?_) (fun h => by omega)); apply vC_skip; apply seqP_normal; apply vC_seq; apply vC_block; apply vC_seq; apply vC_region; (iterate 2 (((apply vL_val); (case h => ((apply opv_E); exact rfl))))); ((apply vL_val); (case h => ((apply opv_indexAddr); exact norm_eq rfl; exact rfl; assumption; (first | omega | (simp only [List.length_map]; omega)); (first | omega | (simp only [List.length_map]; omega))))); ((apply vL_val); (case h => ((apply opv_ld_el); exact rfl; exact rfl; assumption; assumption; exact rfl))); ((apply vL_val); (case h => ((apply opv_E); exact rfl))); ((apply vL_val); (case h => ((apply opv_indexAddr); ((conv => lhs; whnf) <;> exact rfl); exact rfl; assumption; (first | omega | (simp only [List.length_map]; omega)); (first | omega | (simp only [List.length_map]; omega))))); ((apply vL_val); (case h => ((apply opv_ld_eln); exact rfl; exact rfl; assumption; assumption))); ((apply vL_val); (case h => (apply opw_alloc))); ((apply vL_skip); (case h => ((apply ops_storen); exact norm_eq rfl; exact norm_eq rfl; exact rfl; exact (fun u hu => EncOk.one _ u hu); infer_instance; (first | decide | exact of_decide_eq_true rfl | (simp; done))))); apply vL_nil; apply seqP_normal; apply vC_seq; apply vC_region; (iterate 28 (first | ((with_reducible apply vL_val); (case h => ((with_reducible apply opv_E); exact rfl))) | ((with_reducible apply vL_val); (case h => ((with_reducible apply opv_loadb1); exact rfl; exact rfl; infer_instance; exact rfl))) | ((with_reducible apply vL_val); (case h => ((with_reducible apply opv_fieldAddr); exact rfl))) | ((with_reducible apply vL_val); (case h => ((with_reducible apply opv_lenc); exact rfl))) | ((with_reducible apply vL_wanted); exact rfl) | ((with_reducible apply vL_unwanted'); exact rfl; exact rfl) | (refine vL_or rfl rfl (fun _ => ?_) (fun h => by omega)) | (refine vL_or rfl rfl (fun h => by omega) (fun _ => ?_)))); apply vL_nil; apply seqP_normal; ((apply vC_cond_true); exact rfl); apply vC_seq; apply vC_region; ((apply vL_val); (case h => ((apply opv_E); exact rfl))); apply vL_nil; apply seqP_normal; apply vC_ret; (iterate 9 (first | with_reducible apply seqP_ret | with_reducible apply blockP_ret | with_reducible apply loopP_ret)))
        (apply ret1; (case h1 => (exact norm_eq rfl)))
        exact bad _ (hf3.trans (by (apply Fr.allocSet; exact Fr.refl _ _)))
      by_cases g3 : 7 < d.k
      · ((iterate 2 (apply vC_seq)); apply vC_region; (iterate 3 (((apply vL_val); (case h => ((apply opv_E); exact rfl))))); ((apply vL_val); (case h => ((apply opv_indexAddr); exact norm_eq rfl; exact rfl; assumption; (first | omega | (simp only [List.length_map]; omega)); (first | omega | (simp only [List.length_map]; omega))))); ((apply vL_val); (case h => ((apply opv_ld_el); exact rfl; exact rfl; assumption; assumption; exact rfl))); ((apply vL_val); (case h => ((apply opv_len); ((conv => lhs; whnf) <;> exact rfl); assumption))); ((apply vL_val); (case h => ((apply opv_E); exact rfl))); apply vL_nil; apply seqP_normal; (refine vC_cond_dec rfl (fun _ => ?_) (fun h => by omega)); apply vC_skip; apply seqP_normal; apply vC_seq; apply vC_block; apply vC_seq; apply vC_region; (iterate 2 (((apply vL_val); (case h => ((apply opv_E); exact rfl))))); ((apply vL_val); (case h => ((apply opv_indexAddr); exact norm_eq rfl; exact rfl; assumption; (first | omega | (simp only [List.length_map]; omega)); (first | omega | (simp only [List.length_map]; omega))))); ((apply vL_val); (case h => ((apply opv_ld_el); exact rfl; exact rfl; assumption; assumption; exact rfl))); ((apply vL_val); (case h => ((apply opv_E); exact rfl))); ((apply vL_val); (case h => ((apply opv_indexAddr); ((conv => lhs; whnf) <;> exact rfl); exact rfl; assumption; (first | omega | (simp only [List.length_map]; omega)); (first | omega | (simp only [List.length_map]; omega))))); ((apply vL_val); (case h => ((apply opv_ld_eln); exact rfl; exact rfl; assumption; assumption))); ((apply vL_val); (case h => (apply opw_alloc))); ((apply vL_skip); (case h => ((apply ops_storen); exact norm_eq rfl; exact norm_eq rfl; exact rfl; exact (fun u hu => EncOk.one _ u hu); infer_instance; (first | decide | exact of_decide_eq_true rfl | (simp; done))))); apply vL_nil; apply seqP_normal; apply vC_seq; apply vC_region; (iterate 31 (first | ((with_reducible apply vL_val); (case h => ((with_reducible apply opv_E); exact rfl))) | ((with_reducible apply vL_val); (case h => ((with_reducible apply opv_loadb1); exact rfl; exact rfl; infer_instance; exact rfl))) | ((with_reducible apply vL_val); (case h => ((with_reducible apply opv_fieldAddr); exact rfl))) | ((with_reducible apply vL_val); (case h => ((with_reducible apply opv_lenc); exact rfl))) | ((with_reducible apply vL_wanted); exact rfl) | (refine vL_or rfl rfl (fun _ => ?_) (fun h => by omega)))); apply vL_nil; apply seqP_normal; (refine vC_cond_dec rfl (fun _ => ?_) (fun h => by omega)); apply vC_seq; apply vC_region; ((apply vL_val); (case h => ((apply opv_E); exact rfl))); apply vL_nil; apply seqP_normal; apply vC_ret; (iterate 9 (first | with_reducible apply seqP_ret | with_reducible apply blockP_ret | with_reducible apply loopP_ret)))
        (apply ret1; (case h1 => (exact norm_eq rfl)))
        exact bad _ (hf3.trans (by (apply Fr.allocSet; exact Fr.refl _ _)))
      ((iterate 2 (apply vC_seq)); apply vC_region; (iterate 3 (((apply vL_val); (case h => ((apply opv_E); exact rfl))))); ((apply vL_val); (case h => ((apply opv_indexAddr); exact norm_eq rfl; exact rfl; assumption; (first | omega | (simp only [List.length_map]; omega)); (first | omega | (simp only [List.length_map]; omega))))); ((apply vL_val); (case h => ((apply opv_ld_el); exact rfl; exact rfl; assumption; assumption; exact rfl))); ((apply vL_val); (case h => ((apply opv_len); ((conv => lhs; whnf) <;> exact rfl); assumption))); ((apply vL_val); (case h => ((apply opv_E); exact rfl))); apply vL_nil; apply seqP_normal; (refine vC_cond_dec rfl (fun _ => ?_) (fun h => by omega)); apply vC_skip; apply seqP_normal; apply vC_seq; apply vC_block; apply vC_seq; apply vC_region; (iterate 2 (((apply vL_val); (case h => ((apply opv_E); exact rfl))))); ((apply vL_val); (case h => ((apply opv_indexAddr); exact norm_eq rfl; exact rfl; assumption; (first | omega | (simp only [List.length_map]; omega)); (first | omega | (simp only [List.length_map]; omega))))); ((apply vL_val); (case h => ((apply opv_ld_el); exact rfl; exact rfl; assumption; assumption; exact rfl))); ((apply vL_val); (case h => ((apply opv_E); exact rfl))); ((apply vL_val); (case h => ((apply opv_indexAddr); ((conv => lhs; whnf) <;> exact rfl); exact rfl; assumption; (first | omega | (simp only [List.length_map]; omega)); (first | omega | (simp only [List.length_map]; omega))))); ((apply vL_val); (case h => ((apply opv_ld_eln); exact rfl; exact rfl; assumption; assumption))); ((apply vL_val); (case h => (apply opw_alloc))); ((apply vL_skip); (case h => ((apply ops_storen); exact norm_eq rfl; exact norm_eq rfl; exact rfl; exact (fun u hu => EncOk.one _ u hu); infer_instance; (first | decide | exact of_decide_eq_true rfl | (simp; done))))); apply vL_nil; apply seqP_normal; apply vC_seq; apply vC_region; (iterate 31 (first | ((with_reducible apply vL_val); (case h => ((with_reducible apply opv_E); exact rfl))) | ((with_reducible apply vL_val); (case h => ((with_reducible apply opv_loadb1); exact rfl; exact rfl; infer_instance; exact rfl))) | ((with_reducible apply vL_val); (case h => ((with_reducible apply opv_fieldAddr); exact rfl))) | ((with_reducible apply vL_val); (case h => ((with_reducible apply opv_lenc); exact rfl))) | ((with_reducible apply vL_wanted); exact rfl) | (refine vL_or rfl rfl (fun _ => ?_) (fun h => by omega)))); apply vL_nil; apply seqP_normal; (refine vC_cond_dec rfl (fun h => by omega) (fun _ => ?_)); apply vC_skip; apply blockP_normal; apply seqP_normal; apply vC_region; ((apply vL_val); (case h => ((apply opv_E); exact rfl))); ((apply vL_val); (case h => ((apply opv_add); exact rfl; exact rfl; (first | omega | (simp only [List.length_map]; omega))))); ((apply vL_val); (case h => ((apply opv_E); exact rfl))); apply vL_nil; apply loopP_normal)
      (with_reducible apply end1); (case hs => ((iterate 43 (first | with_reducible apply same_updN | ((with_reducible refine same_updO ?_ ?_); rotate_left; exact rfl) | ((with_reducible refine same_upd ?_ ?_); rotate_left; exact rfl))); (exact same_mask _ _ _))); (case h1 => (exact norm_eq rfl))
      · refine ⟨q + 1, rfl, by omega, hf3.trans (by (apply Fr.allocSet; exact Fr.refl _ _)), fun j x hj hx => ?_⟩
        by_cases e : j = q
        · subst e; rw [hd] at hx; cases hx; exact ⟨⟨by omega, by omega⟩, g2, by omega⟩
        · exact okd j x (by omega) hx
      · simp [RowKit.intOf]; omega
    · ((iterate 2 (apply vC_seq)); apply vC_region; (iterate 3 (((apply vL_val); (case h => ((apply opv_E); exact rfl))))); ((apply vL_val); (case h => ((apply opv_indexAddr); exact norm_eq rfl; exact rfl; assumption; (first | omega | (simp only [List.length_map]; omega)); (first | omega | (simp only [List.length_map]; omega))))); ((apply vL_val); (case h => ((apply opv_ld_el); exact rfl; exact rfl; assumption; assumption; exact rfl))); ((apply vL_val); (case h => ((apply opv_len); ((conv => lhs; whnf) <;> exact rfl); assumption))); ((apply vL_val); (case h => ((apply opv_E); exact rfl))); apply vL_nil; apply seqP_normal; (refine vC_cond_dec rfl (fun h => by omega) (fun _ => ?_)); apply vC_exit; apply seqP_exit; apply loopP_exit; apply blockP_exit; apply blockP_normal; apply seqP_normal; apply vC_region; ((apply vL_val); (case h => ((apply opv_E); exact rfl))); ((apply vL_val); (case h => ((apply opv_add); exact rfl; exact rfl; (first | omega | (simp only [List.length_map]; omega))))); ((apply vL_val); (case h => ((apply opv_E); exact rfl))); apply vL_nil; apply loopP_normal)
      (with_reducible apply end1); (case hs => ((iterate 18 (first | ((with_reducible refine same_updO ?_ ?_); rotate_left; exact rfl) | ((with_reducible refine same_upd ?_ ?_); rotate_left; exact rfl) | ((with_reducible refine same_maskIn ?_ ?_); rotate_left; exact rfl))); (exact same_mask _ _ _))); (case h1 => (exact norm_eq rfl))
      · refine ⟨m + 1, rfl, by omega, hf3, fun j x hj hx d hd => ?_⟩
        by_cases e : j = m
        · subst e
          rw [hy] at hx; cases hx
          obtain ⟨i, hi, e⟩ := List.getElem_of_mem hd
          exact okd i d (by omega) (by rw [List.getElem?_eq_getElem hi, e])
        · exact okp j x (by omega) hx d hd
      · simp [RowKit.intOf]; omega
  · ((iterate 2 (apply vC_seq)); apply vC_region; (iterate 2 (((apply vL_val); (case h => ((apply opv_E); exact rfl))))); ((apply vL_val); (case h => ((apply opv_lenc); exact rfl))); ((apply vL_val); (case h => ((apply opv_E); exact rfl))); apply vL_nil; apply seqP_normal; (refine vC_cond_dec rfl (fun h => by omega) (fun _ => ?_)); apply vC_exit; apply seqP_exit; apply loopP_exit; apply blockP_exit; apply seqP_normal; apply vC_seq; apply vC_region; ((apply vL_val); (case h => ((apply opv_E); exact rfl))); apply vL_nil; apply seqP_normal; apply vC_ret)
    (apply ret1; (case h1 => (exact norm_eq rfl)))
    refine ⟨hf2, true, rfl, fun _ => ⟨by omega, ⟨by omega, by omega⟩, hall, fun y hy d hd => ?_⟩⟩
    obtain ⟨i, hi, e⟩ := List.getElem_of_mem hy
    exact okp i y (by omega) (by rw [List.getElem?_eq_getElem hi, e]) d hd
end Go.Proofs.YtbaidcnalkdhgaaGreat
set_option maxRecDepth 100000
namespace Go.Proofs.YtbaidcnalkdhgaaGreat
open Go Go.Eng
theorem now_ps0 (cl : List (Nat × Int)) (tl : List Nat) : NoW (ps0 cl tl) := fun j d hd hc => by
  have hd : (cl.map c16)[j]? = some d := hd
  rw [List.getElem?_map] at hd
  cases h : cl[j]? with
  | none => rw [h] at hd; cases hd
  | some x => rw [h] at hd; cases hd; cases hc
theorem closed16 (w : World) (vp vk : Value) (size : Int) (P : List (OV × List Do5)) (picks : List Int) (z : Pz16 w.heap vp P) (hk : Rd w.heap 1 uE vk picks) (hkb : ∀ x ∈ picks, 0 ≤ x ∧ x ≤ 18446744073709551615) (hko : vk.oneCell' = true) :
    Rets Tryz.prog 4 #[vp, .int .i64 size, vk] w fun u w' => u = .bool true ∧ Fr No w w' := by
  have hv1 := z.one
  have hPs := z.hP.small
  have hks := hk.small
  obtain ⟨va, vc, hvp⟩ := z.hP.len
  obtain ⟨ka, kc, rfl⟩ := hk.len
  refine rets_of Tryz.func4 rfl Tryz.ntmps4 rfl rfl (by kernel_rfl) ?_
  (apply vC_seq; apply vC_region; ((apply vL_val); (case h => ((apply opv_E); exact rfl))); apply vL_nil; apply seqP_normal; (iterate 2 (apply vC_seq)); apply vC_region; ((apply vL_val); (case h => ((apply opv_move); ((conv => lhs; whnf) <;> exact rfl)))); ((apply vL_val); (case h => ((apply opv_E); exact rfl))); ((apply vL_val); (case h => ((apply opw_buildSl); exact rfl; exact rfl; exact rfl; exact (rfl : _ = some [_])))))
  refine vL_callF rfl (tame16 _ vp _ P [size] (z.frN (by (apply Fr.alloc; exact Fr.refl _ _))) (Rd.new1 iE size rfl) rfl) rfl ?_
  rintro _ w1 ⟨hf1, b, rfl, hb⟩
  have hf01 : Fr No w w1 := Fr.trans (by (apply Fr.alloc; exact Fr.refl _ _)) hf1
  cases b with
  | false =>
    (((apply vL_val); (case h => ((apply opv_not); exact rfl))); apply vL_nil; apply seqP_normal; ((apply vC_cond_true); exact rfl); apply vC_seq; apply vC_region)
    refine vL_callF rfl (awake16 _) rfl ?_
    rintro _ w2 ⟨rfl, hf2⟩
    (((apply vL_val); (case h => ((apply opv_E); exact rfl))); apply vL_nil; apply seqP_normal; apply vC_ret; apply seqP_ret)
    (apply ret1; (case h1 => (exact norm_eq rfl)))
    exact ⟨rfl, hf01.trans hf2⟩
  | true =>
  have ht := hb rfl
  clear hb
  have hsb := ht.size size List.mem_cons_self
  (((apply vL_val); (case h => ((apply opv_not); exact rfl))); apply vL_nil; apply seqP_normal; ((apply vC_cond_false); exact rfl); apply vC_skip; apply seqP_normal; apply vC_seq; apply vC_region; ((apply vL_val); (case h => ((apply opv_move); ((conv => lhs; whnf) <;> exact rfl)))); ((apply vL_val); (case h => ((apply opv_E); exact rfl))); ((apply vL_val); (case h => ((apply opw_buildSl); exact rfl; exact rfl; exact rfl; exact (rfl : _ = some [_])))))
  refine vL_callF rfl (begun16 (P := P) (sizes := [size]) (z.frN (by (apply Fr.alloc; assumption))) ht.six (Rd.new1 iE size rfl) (by simp) ht.size rfl) rfl ?_
  rintro _ w3 ⟨wb, qb, rb, cl, tl, kb, rfl, hcl, htl, S3⟩
  obtain ⟨⟨cb, c0⟩, rfl⟩ : ∃ x, cl = [x] := len1 (by have := congrArg List.length hcl; simpa using this)
  obtain rfl : c0 = size := by simpa using hcl
  have hf3 := hf01.trans ((show Fr No w1 _ by (apply Fr.alloc; exact Fr.refl _ _)).trans S3.fr)
  generalize hW2 : w1.alloc (.cells #[.int .i64 c0] 3) = w2 at *
  have hf02 : Fr No w w2 := by rw [← hW2]; exact hf01.trans (by (apply Fr.alloc; exact Fr.refl _ _))
  have pr : Pr16 w2 vp P [(cb, c0)] := ⟨z.frN hf02, ht.six, fun y hy d hd => (ht.ch y hy d hd).1, Nat.one_pos⟩
  have I0 : Inv16 (P.map (·.2)) [(cb, c0)] tl (ps0 [(cb, c0)] tl, []) := inv16_init (by rw [List.length_map]; exact htl)
  have S4 : At (W16 wb rb vp [(cb, c0)] tl (ps0 [(cb, c0)] tl, []) * RwA qb vp (rwI ([c0].map row0) P.length)) w2 No w3 := w16_shut S3
  clear S3
  ((iterate 23 (first | with_reducible apply vC_seq | with_reducible apply vC_region | with_reducible apply seqP_normal | with_reducible apply vC_skip | ((with_reducible apply vC_cond_false); exact rfl) | ((with_reducible apply vL_val); (case h => ((with_reducible apply opv_E); exact rfl))) | ((with_reducible apply vL_val); (case h => ((with_reducible apply opv_eql_pnil); exact rfl; exact rfl; (simp; done)))) | with_reducible apply vL_nil)); apply vC_block)
  (apply vC_loop1 72057456598974976 9 (fun u w' => ∃ (k : Nat) (T : T16), u = .int .i64 (k : Int) ∧ k ≤ picks.length ∧ k ≤ 100 ∧ T.2.length ≤ k ∧ Inv16 (P.map (·.2)) [(cb, c0)] tl T ∧ NoW T.1 ∧ At (W16 wb rb vp [(cb, c0)] tl T * RwA qb vp (rwI ([c0].map row0) P.length)) w2 No w') (fun u _ => 100 - (RowKit.intOf u).toNat)); (case h1 => (exact norm_eq rfl))
  case h0 => exact ⟨0, _, rfl, Nat.zero_le _, by decide, Nat.le_refl _, I0, now_ps0 _ _, S4⟩
  clear S4 I0 hf3
  case round =>
  rintro junk _ w4 ⟨k, T, rfl, hkl, hk100, hT, I, hN, S5⟩
  obtain ⟨cv, tv, ev, h51, h52, h53, h54, h55, h56, h57⟩ := w16_see S5
  have hk5 := hk.frN (hf02.trans S5.fr)
  by_cases hlt : k < picks.length ∧ k < 100
  · obtain ⟨g0, g1⟩ := hlt
    obtain ⟨p, hp⟩ : ∃ p, picks[k]? = some p := ⟨_, List.getElem?_eq_getElem g0⟩
    have hp' : picks[((k : Nat) : Int).toNat]? = some p := by rw [Int.toNat_natCast]; exact hp
    have hpb := hkb p (List.mem_of_getElem? hp)
    ((iterate 2 (apply vC_seq)); apply vC_region; (iterate 10 (first | ((with_reducible apply vL_val); (case h => ((with_reducible apply opv_E); exact rfl))) | ((with_reducible apply vL_val); (case h => ((with_reducible apply opv_lenc); exact rfl))) | ((with_reducible apply vL_wanted); exact rfl) | (refine vL_and rfl rfl (fun _ => ?_) (fun h => by omega)))); apply vL_nil; apply seqP_normal; (refine vC_cond_dec rfl (fun _ => ?_) (fun h => by omega)); apply vC_skip; apply seqP_normal; apply vC_seq; apply vC_block)
    have hE5 : ∃ a b c, Blk w4.heap wb [pt rb, vp, a, b, c, .bool false] 61 := ⟨_, _, _, h51⟩
    refine vC_draw' ((fun wf => (∃ a b c, Blk wf.heap wb [pt rb, vp, a, b, c, .bool false] 61) ∧ Rd wf.heap 1 uE (.slice ka picks.length kc) picks)) (by (first | exact trivial | assumption | infer_instance | (refine ⟨?_, ?_⟩ <;> (first | assumption | infer_instance)) | (skip; done))) ?_
    ((apply (tk 0)); (case hi => exact rfl); (case hf => kernel_rfl); (case hS => (first | exact trivial | assumption | infer_instance | (refine ⟨?_, ?_⟩ <;> (first | assumption | infer_instance)) | (skip; done))); (case hy => (rintro wf ⟨hwa, hwb⟩; (((apply opv_E); exact rfl)))))
    ((apply (tk 1)); (case hi => exact rfl); (case hf => kernel_rfl); (case hS => (first | exact trivial | assumption | infer_instance | (refine ⟨?_, ?_⟩ <;> (first | assumption | infer_instance)) | (skip; done))); (case hy => (rintro wf ⟨hwa, hwb⟩; (((apply opv_E); exact rfl)))))
    ((apply (tk 2)); (case hi => exact rfl); (case hf => kernel_rfl); (case hS => (first | exact trivial | assumption | infer_instance | (refine ⟨?_, ?_⟩ <;> (first | assumption | infer_instance)) | (skip; done))); (case hy => (rintro wf ⟨hwa, hwb⟩; (((apply opv_fieldAddr); exact rfl)))))
    (apply (tk 3)); (case hi => exact rfl); (case hf => kernel_rfl); (case hS => (first | exact trivial | assumption | infer_instance | (refine ⟨?_, ?_⟩ <;> (first | assumption | infer_instance)) | (skip; done))); (case hy => (rintro wf ⟨⟨a, b, c, hwa⟩, hwb⟩; (((apply opv_loadb1); exact rfl; exact rfl; assumption; exact rfl))))
    ((apply (tk 4)); (case hi => exact rfl); (case hf => kernel_rfl); (case hS => (first | exact trivial | assumption | infer_instance | (refine ⟨?_, ?_⟩ <;> (first | assumption | infer_instance)) | (skip; done))); (case hy => (rintro wf ⟨hwa, hwb⟩; (((apply opv_E); exact rfl)))))
    ((apply (tk 5)); (case hi => exact rfl); (case hf => kernel_rfl); (case hS => (first | exact trivial | assumption | infer_instance | (refine ⟨?_, ?_⟩ <;> (first | assumption | infer_instance)) | (skip; done))); (case hy => (rintro wf ⟨hwa, hwb⟩; (((apply opv_E); exact rfl)))))
    ((apply (tk 6)); (case hi => exact rfl); (case hf => kernel_rfl); (case hS => (first | exact trivial | assumption | infer_instance | (refine ⟨?_, ?_⟩ <;> (first | assumption | infer_instance)) | (skip; done))); (case hy => (rintro wf ⟨hwa, hwb⟩; (((apply opv_indexAddr); exact norm_eq rfl; exact rfl; assumption; (first | omega | (simp only [List.length_map]; omega)); (first | omega | (simp only [List.length_map]; omega)))))))
    ((apply (tk 7)); (case hi => exact rfl); (case hf => kernel_rfl); (case hS => (first | exact trivial | assumption | infer_instance | (refine ⟨?_, ?_⟩ <;> (first | assumption | infer_instance)) | (skip; done))); (case hy => (rintro wf ⟨hwa, hwb⟩; (((apply opv_ld_el); exact rfl; exact rfl; assumption; assumption; exact rfl)))))
    refine tkc 8 rfl (by kernel_rfl) (by (first | exact trivial | assumption | infer_instance | (refine ⟨?_, ?_⟩ <;> (first | assumption | infer_instance)) | (skip; done))) rfl (w16_step pr S5.drew I (by omega) p hpb) rfl ?_
    rintro _ w5 h
    have hex : ∃ T', T'.2.length ≤ k + 1 ∧ Inv16 (P.map (·.2)) [(cb, c0)] tl T' ∧ NoW T'.1 ∧ At (W16 wb rb vp [(cb, c0)] tl T' * RwA qb vp (rwI ([c0].map row0) P.length)) w2 No w5 := by
      rcases h with ⟨_, _, h3⟩ | ⟨T', h1, h2, h3, _, h4⟩
      · exact ⟨T, by omega, I, hN, h3⟩
      · exact ⟨T', by omega, h2, hN.step h1, h4⟩
    clear h
    obtain ⟨T', hT', I', hN', S6⟩ := hex
    obtain ⟨cv6, tv6, ev6, h61, _⟩ := w16_see S6
    have hE6 : ∃ a b c, Blk w5.heap wb [pt rb, vp, a, b, c, .bool false] 61 := ⟨_, _, _, h61⟩
    have hk6 := hk.frN (hf02.trans S6.fr)
    refine vA_done (by kernel_rfl) (by (first | exact trivial | assumption | infer_instance | (refine ⟨?_, ?_⟩ <;> (first | assumption | infer_instance)) | (skip; done))) ?_
    (apply blockP_normal; apply seqP_normal; apply vC_region; ((apply vL_val); (case h => ((apply opv_E); exact rfl))); ((apply vL_val); (case h => ((apply opv_add); exact rfl; exact rfl; (first | omega | (simp only [List.length_map]; omega))))); ((apply vL_val); (case h => ((apply opv_E); exact rfl))); apply vL_nil; apply loopP_normal)
    (with_reducible apply end1); (case hs => ((iterate 22 (first | ((with_reducible refine same_updO ?_ ?_); rotate_left; exact rfl) | ((with_reducible refine same_upd ?_ ?_); rotate_left; exact rfl))); (exact same_mask _ _ _))); (case h1 => (exact norm_eq rfl))
    · exact ⟨k + 1, T', rfl, by omega, by omega, hT', I', hN', S6⟩
    · simp [RowKit.intOf]; omega
  · have hc1 : T.1.cs.map C16.cbz = [(cb, c0)] := I.cs
    obtain ⟨d, hd⟩ : ∃ d, T.1.cs = [d] := len1 (by have := congrArg List.length hc1; simpa using this)
    rw [hd] at hc1
    have hdcb : d.cb = cb := by have := List.cons.inj hc1; exact congrArg Prod.fst this.1
    have hd0 : T.1.cs[0]? = some d := by rw [hd]; rfl
    have hcl1 : ([(cb, c0)].map (·.1) : List Nat).length = 1 := rfl
    have hcb : ([(cb, c0)].map (·.1) : List Nat)[(0 : Int).toNat]? = some cb := rfl
    obtain ⟨kb5, S6⟩ := w16_open S5
    obtain ⟨R6, hR6⟩ : ∃ R6, R6 = WA wb rb vp ([(cb, c0)].map (·.1)) tl T.2 false * RwA qb vp (rwI ([c0].map row0) P.length) := ⟨_, rfl⟩
    haveI : Lcl R6 := by rw [hR6]; infer_instance
    rw [← hR6] at S6
    repeat (with_reducible apply vC_seq)
    refine vC_meet1 35046933135360 44 (.bool false) (fun w' => w' = w4) ?_ ?_
    · by_cases g0 : k < picks.length
      · have g1 : ¬ k < 100 := fun h => hlt ⟨g0, h⟩
        (apply vC_region; (iterate 10 (first | ((with_reducible apply vL_val); (case h => ((with_reducible apply opv_E); exact rfl))) | ((with_reducible apply vL_val); (case h => ((with_reducible apply opv_lenc); exact rfl))) | ((with_reducible apply vL_wanted); exact rfl) | (refine vL_and rfl rfl (fun _ => ?_) (fun h => by omega)))); apply vL_nil)
        exact ⟨rfl, by (((iterate 9 (first | ((with_reducible refine same_updO ?_ ?_); rotate_left; exact rfl) | ((with_reducible refine same_upd ?_ ?_); rotate_left; exact rfl)))); exact fun _ _ => rfl), by first | rfl | exact congrArg Value.bool (decide_eq_false (by omega)), rfl⟩
      · (apply vC_region; (iterate 8 (first | ((with_reducible apply vL_val); (case h => ((with_reducible apply opv_E); exact rfl))) | ((with_reducible apply vL_val); (case h => ((with_reducible apply opv_lenc); exact rfl))) | ((with_reducible apply vL_unwanted'); exact rfl; exact rfl) | (refine vL_and rfl rfl (fun h => by omega) (fun _ => ?_)))); apply vL_nil)
        exact ⟨rfl, by (((iterate 9 (first | ((with_reducible refine same_updO ?_ ?_); rotate_left; exact rfl) | ((with_reducible refine same_upd ?_ ?_); rotate_left; exact rfl)))); exact fun _ _ => rfl), by first | rfl | exact congrArg Value.bool (decide_eq_false (by omega)), rfl⟩
    rintro junk7 _ rfl
    (apply seqP_normal; ((apply vC_cond_false); exact rfl); apply vC_exit; apply seqP_exit; apply loopP_exit; apply blockP_exit; apply seqP_normal; apply vC_seq; apply vC_region; (iterate 2 (((apply vL_val); (case h => ((apply opv_E); exact rfl))))); ((apply vL_val); (case h => ((apply opv_fieldAddr); exact rfl))); ((apply vL_val); (case h => ((apply opv_loadb1); exact rfl; exact rfl; assumption; exact rfl))); ((apply vL_val); (case h => ((apply opv_indexAddr); ((conv => lhs; whnf) <;> exact rfl); exact rfl; infer_instance; (first | omega | (simp only [List.length_map]; omega)); (first | omega | (simp only [List.length_map]; omega))))); ((apply vL_val); (case h => ((apply opv_ld_el); exact rfl; exact rfl; infer_instance; assumption; exact rfl))); ((apply vL_val); (case h => ((apply opv_E); exact rfl))); apply vL_nil; apply seqP_normal; apply vC_seq; apply vC_region; ((apply vL_val); (case h => ((apply opv_E); exact rfl))))
    have hbuf : d.buf.length ≤ 64 := by
      obtain ⟨q, hp, _⟩ := pw_open S6
      obtain ⟨c, hc⟩ := hp.cget hd0
      have := (hp.ch 0 c d hc hd0).room
      omega
    have q1 := pw_closed S6 hd0
    have q2 := pw_len S6 hd0
    have q3 := pw_close S6 hd0
    rw [hdcb] at q1 q2 q3
    refine vL_callF rfl (q1) rfl ?_
    rintro _ _ ⟨rfl, rfl⟩
    (((apply vL_val); (case h => ((apply opv_E); exact rfl))))
    refine vL_callF rfl (q2) rfl ?_
    rintro _ _ ⟨rfl, rfl⟩
    ((iterate 2 (((apply vL_val); (case h => ((apply opv_E); exact rfl))))); apply vL_nil; apply seqP_normal; (iterate 2 (apply vC_seq)); apply vC_region; ((apply vL_val); (case h => ((apply opv_E); exact rfl))))
    refine vL_callF rfl (q3) rfl ?_
    rintro _ w6 ⟨rfl, kb6, _, S7⟩
    obtain ⟨d', hd', e1, e2, e3, e4, e5⟩ := close_done hN hd0
    have ht := close_told hd0
    rw [ht]
    have q4 := pw_closed S7 hd'
    rw [e5, hdcb, e1] at q4
    ((((apply vL_val); (case h => ((apply opv_E); exact rfl))); apply vL_nil))
    with_reducible apply seqP_normal
    repeat (with_reducible apply vC_seq)
    refine vC_meet1 150820579546649294012416 76 (.bool false) (fun w' => w' = w6) ?_ ?_
    · generalize d.closed = dc
      cases dc with
      | true =>
        (apply vC_region; (iterate 8 (first | ((with_reducible apply vL_val); (case h => ((with_reducible apply opv_E); exact rfl))) | ((with_reducible apply vL_val); (case h => ((with_reducible apply opv_eql_bool); exact rfl; exact rfl))) | ((with_reducible apply vL_wanted); exact rfl))))
        refine vL_callF rfl (q4) rfl ?_
        rintro _ _ ⟨rfl, rfl⟩
        (((apply vL_wanted); exact rfl); ((apply vL_val); (case h => ((apply opv_not); exact rfl))); ((apply vL_val); (case h => ((apply opv_E); exact rfl))); apply vL_nil)
        exact ⟨rfl, by (((iterate 9 (((refine same_updO ?_ ?_); rotate_left; exact rfl)))); exact fun _ _ => rfl), rfl, rfl⟩
      | false =>
        (apply vC_region; (iterate 8 (first | ((with_reducible apply vL_val); (case h => ((with_reducible apply opv_E); exact rfl))) | ((with_reducible apply vL_val); (case h => ((with_reducible apply opv_eql_bool); exact rfl; exact rfl))) | ((with_reducible apply vL_wanted); exact rfl))))
        refine vL_callF rfl (q4) rfl ?_
        rintro _ _ ⟨rfl, rfl⟩
        (((apply vL_wanted); exact rfl); ((apply vL_val); (case h => ((apply opv_not); exact rfl))); ((apply vL_val); (case h => ((apply opv_E); exact rfl))); apply vL_nil)
        exact ⟨rfl, by (((iterate 9 (((refine same_updO ?_ ?_); rotate_left; exact rfl)))); exact fun _ _ => rfl), rfl, rfl⟩
    rintro junk13 _ rfl
    (apply seqP_normal; ((apply vC_cond_false); exact rfl); apply vC_skip; apply seqP_normal; apply vC_seq; apply vC_region; ((apply vL_val); (case h => ((apply opv_E); exact rfl))))
    have q5 := pw_waits S7 hd'
    rw [e5, hdcb, e2, e3] at q5
    change Rets _ _ _ _ (fun u w' => u = .tuple #[.int .i64 0, .int .i64 0] ∧ _) at q5
    refine vL_callF rfl (q5) rfl ?_
    rintro _ w7 ⟨rfl, S8⟩
    ((iterate 5 (((apply vL_val); (case h => ((apply opv_E); exact rfl))))); apply vL_nil; apply seqP_normal; apply vC_seq; apply vC_region; ((apply vL_val); (case h => ((apply opv_E); exact rfl))))
    have q6 := pw_trysend S8 hd' 1
    rw [e5, hdcb, trySend_closed hd' e1] at q6
    change Rets _ _ _ _ (fun u w' => u = .tuple #[.bool false, .bool true] ∧ _) at q6
    refine vL_callF rfl (q6) rfl ?_
    rintro _ w8 ⟨rfl, kb8, _, S9⟩
    have q7 := pw_len S9 hd'
    rw [e5, hdcb, e4] at q7
    ((iterate 5 (((apply vL_val); (case h => ((apply opv_E); exact rfl))))); apply vL_nil; apply seqP_normal; (iterate 2 (apply vC_seq)); apply vC_region; (iterate 18 (first | ((with_reducible apply vL_val); (case h => ((with_reducible apply opv_E); exact rfl))) | ((with_reducible apply vL_val); (case h => ((with_reducible apply opv_add); exact rfl; exact rfl; (first | omega | (simp only [List.length_map]; omega))))) | ((with_reducible apply vL_val); (case h => ((with_reducible apply opv_not); exact rfl))) | ((with_reducible apply vL_wanted); exact rfl))))
    refine vL_callF rfl (q7) rfl ?_
    rintro _ _ ⟨rfl, rfl⟩
    ((iterate 16 (first | with_reducible apply vC_seq | with_reducible apply vC_region | with_reducible apply seqP_normal | with_reducible apply vC_skip | ((with_reducible apply vL_val); (case h => ((with_reducible apply opv_E); exact rfl))) | with_reducible apply vL_nil | ((with_reducible apply vL_wanted); exact rfl) | (refine vC_cond_dec rfl (fun h => by omega) (fun _ => ?_)))); apply vC_block)
    (apply vC_loop1 2658435709160228094137190173313335360 18 (fun u w' => ∃ (i : Nat) (T' : PS K16) (kb' : List Bx) (dd : C16), u = .int .i64 (i : Int) ∧ i ≤ d.buf.length ∧ T'.cs[0]? = some dd ∧ dd.cb = cb ∧ dd.snd = [] ∧ dd.closed = true ∧ dd.buf = d.buf.drop i ∧ At (PWA (L16 wb) rb none 0 kb' T' * R6) w2 No w') (fun u _ => d.buf.length - (RowKit.intOf u).toNat)); (case h1 => (exact norm_eq rfl))
    case h0 => exact ⟨0, _, _, d', rfl, Nat.zero_le _, hd', by rw [e5, hdcb], e2, e1, by rw [e4]; rfl, S9⟩
    clear S9 S8 S7 S6 S5 q1 q2 q3 q4 q5 q6 q7 hd' e1 e2 e3 e4 e5 h51 h52 h53 h54
    case round =>
    rintro junk18 _ w9 ⟨i, T', kb9, dd, rfl, hi, hdd, f1, f2, f3, f4, S9⟩
    have q8 := pw_tryrecv S9 hdd
    rw [f1, tryRecv_left hdd f2, f3] at q8
    by_cases hil : i < d.buf.length
    · have hne : dd.buf.isEmpty = false := by
        rw [f4]; cases h : d.buf.drop i with
        | nil => have := congrArg List.length h; simp at this; omega
        | cons a b => rfl
      rw [hne] at q8
      change Rets _ _ _ _ (fun u w' => u = .tuple #[.int .i64 (dd.buf.headD 0), .bool true, .bool true] ∧ _) at q8
      ((iterate 2 (apply vC_seq)); apply vC_region; (iterate 3 (((apply vL_val); (case h => ((apply opv_E); exact rfl))))); apply vL_nil; apply seqP_normal; (refine vC_cond_dec rfl (fun _ => ?_) (fun h => by omega)); apply vC_skip; apply seqP_normal; apply vC_seq; apply vC_block; apply vC_seq; apply vC_region; ((apply vL_val); (case h => ((apply opv_E); exact rfl))))
      refine vL_callF rfl (q8) rfl ?_
      rintro _ w10 ⟨rfl, kb10, _, S10⟩
      ((iterate 21 (first | with_reducible apply vC_seq | with_reducible apply vC_region | with_reducible apply seqP_normal | ((with_reducible apply vL_val); (case h => ((with_reducible apply opv_E); exact rfl))) | ((with_reducible apply vL_val); (case h => ((with_reducible apply opv_not); exact rfl))) | with_reducible apply vL_nil | ((with_reducible apply vL_wanted); exact rfl))); ((apply vC_cond_false); exact rfl); apply vC_skip; apply blockP_normal; apply seqP_normal; apply vC_region; ((apply vL_val); (case h => ((apply opv_E); exact rfl))); ((apply vL_val); (case h => ((apply opv_add); exact rfl; exact rfl; (first | omega | (simp only [List.length_map]; omega))))); ((apply vL_val); (case h => ((apply opv_E); exact rfl))); apply vL_nil; apply loopP_normal)
      (with_reducible apply end1); (case hs => ((iterate 21 (((refine same_updO ?_ ?_); rotate_left; exact rfl))); ((refine same_upd ?_ ?_); rotate_left; exact rfl); (exact same_mask _ _ _))); (case h1 => (exact norm_eq rfl))
      · refine ⟨i + 1, _, kb10, { dd with buf := dd.buf.tail, closed := true }, rfl, by omega, ?_, f1, f2, rfl, ?_, S10⟩
        · show (T'.cs.set 0 _)[0]? = _
          rw [List.getElem?_set_self (List.getElem?_eq_some_iff.1 hdd).1]
        · show dd.buf.tail = _
          rw [f4, List.tail_drop]
      · simp [RowKit.intOf]; omega
    · have hne : dd.buf.isEmpty = true := by
        rw [f4, List.drop_eq_nil_of_le (by omega)]; rfl
      rw [hne] at q8
      change Rets _ _ _ _ (fun u w' => u = .tuple #[.int .i64 (dd.buf.headD 0), .bool false, .bool true] ∧ _) at q8
      ((iterate 2 (apply vC_seq)); apply vC_region; (iterate 3 (((apply vL_val); (case h => ((apply opv_E); exact rfl))))); apply vL_nil; apply seqP_normal; (refine vC_cond_dec rfl (fun h => by omega) (fun _ => ?_)); apply vC_exit; apply seqP_exit; apply loopP_exit; apply blockP_exit; apply seqP_normal; apply vC_seq; apply vC_region; ((apply vL_val); (case h => ((apply opv_E); exact rfl))))
      refine vL_callF rfl (q8) rfl ?_
      rintro _ w10 ⟨rfl, kb10, _, S10⟩
      ((iterate 6 (((apply vL_val); (case h => ((apply opv_E); exact rfl))))); apply vL_nil; apply seqP_normal; apply vC_seq; apply vC_region; (iterate 8 (first | ((with_reducible apply vL_val); (case h => ((with_reducible apply opv_E); exact rfl))) | ((with_reducible apply vL_val); (case h => ((with_reducible apply opv_not); exact rfl))) | ((with_reducible apply vL_wanted); exact rfl))))
      refine vL_callF rfl (awake16 _) rfl ?_
      rintro _ w11 ⟨rfl, hf11⟩
      ((iterate 2 (((apply vL_val); (case h => ((apply opv_E); exact rfl))))); apply vL_nil; apply seqP_normal; apply vC_ret)
      (apply ret1; (case h1 => (exact norm_eq rfl)))
      exact ⟨rfl, (hf02.trans S10.fr).trans hf11⟩
end Go.Proofs.YtbaidcnalkdhgaaGreat
set_option maxRecDepth 100000
namespace Go.Proofs.YtbaidcnalkdhgaaGreat
open Go Go.Eng Go.ChangeShapes Go.WideShapes Go.ChangeAt Go.RowKit
theorem own_knob : ownKnob Tryz.prog.godebug = none := by kernel_rfl
theorem laid_out : laidOutB Tryz.prog = true := by kernel_rfl
theorem cells_int : Tryz.prog.cellsOf 3 = 1 := by kernel_rfl
theorem cells_bool : Tryz.prog.cellsOf 4 = 1 := by kernel_rfl
theorem cells_u64 : Tryz.prog.cellsOf 43 = 1 := by kernel_rfl
theorem cells_do : Tryz.prog.cellsOf 167 = 5 := by kernel_rfl
theorem cells_dos : Tryz.prog.cellsOf 168 = 1 := by kernel_rfl
theorem cells_cases : Tryz.prog.cellsOf 165 = 1 := by kernel_rfl
section
variable {H : Type} {enc : TypeId × Value → H} {W : World}
theorem trod_struct5 {P : Program} {base : Nat} {spare : Bool} {held : Nat → Bool} {t : TypeId} {f0 f1 f2 f3 f4 : Field} {fuel : Nat} {cs : List Value} {x : DataW H × List MemPlace} (ht : P.underlying t = some (.struct #[f0, f1, f2, f3, f4])) (h : DataW.trod enc P W base held spare fuel t cs = some x) :
    ∃ y0 y1 y2 y3 y4 n, cs.length = P.cellsOf t ∧ DataW.trod enc P W base held spare n f0.type ((cs.drop f0.offset).take (P.cellsOf f0.type)) = some y0 ∧
      DataW.trod enc P W base held spare n f1.type ((cs.drop f1.offset).take (P.cellsOf f1.type)) = some y1 ∧ DataW.trod enc P W base held spare n f2.type ((cs.drop f2.offset).take (P.cellsOf f2.type)) = some y2 ∧
      DataW.trod enc P W base held spare n f3.type ((cs.drop f3.offset).take (P.cellsOf f3.type)) = some y3 ∧ DataW.trod enc P W base held spare n f4.type ((cs.drop f4.offset).take (P.cellsOf f4.type)) = some y4 := by
  obtain ⟨xs, n, _, rfl, hl, hlen, hf⟩ := DataW.trod_struct ht h
  match xs, hlen with
  | [y0, y1, y2, y3, y4], _ => exact ⟨y0, y1, y2, y3, y4, n, hl, by simpa using hf 0 f0 rfl, by simpa using hf 1 f1 rfl, by simpa using hf 2 f2 rfl, by simpa using hf 3 f3 rfl, by simpa using hf 4 f4 rfl⟩
theorem open_u64s {base : Nat} {v : Value} {d : DataW H} {ps : List MemPlace} (hval : Value.okWide Tryz.prog W .any base 24 v) (h : DataW.Trod enc Tryz.prog W 0 (fun _ => true) true 24 v d ps) :
    ∃ xs : List Int, Rd W.heap 1 uE v xs ∧ (∀ x ∈ xs, 0 ≤ x ∧ x ≤ 18446744073709551615) ∧ ((d = .nil ∧ xs = []) ∨ ∃ es spr, d = .slice es spr ∧ es.length = xs.length) :=
  rd_open Tryz.underlying24 cells_u64 (fun _ => rfl) (fun n cs y hy => by
    obtain ⟨a, rfl, _, hw⟩ := DataW.trod_int Tryz.underlying43 hy
    exact ⟨a, rfl, Go.Eng.wf_u64 hw⟩) hval h
theorem open_ints {base : Nat} {v : Value} {d : DataW H} {ps : List MemPlace} (hval : Value.okWide Tryz.prog W .any base 32 v) (h : DataW.Trod enc Tryz.prog W 0 (fun _ => true) true 32 v d ps) :
    ∃ xs : List Int, Rd W.heap 1 iE v xs ∧ (∀ x ∈ xs, -9223372036854775808 ≤ x ∧ x ≤ 9223372036854775807) ∧ ((d = .nil ∧ xs = []) ∨ ∃ es spr, d = .slice es spr ∧ es.length = xs.length) :=
  rd_open Tryz.underlying32 cells_int (fun _ => rfl) (fun n cs y hy => by
    obtain ⟨a, rfl, _, hw⟩ := DataW.trod_int Tryz.underlying3 hy
    exact ⟨a, rfl, Go.Eng.wf_i64 hw⟩) hval h
theorem open_cases {n : Nat} {cs : List Value} {y : DataW H × List MemPlace} (hy : DataW.trod enc Tryz.prog W 0 (fun _ => true) true n 165 cs = some y) : ∃ v : OV, cs = [v.1] := by
  rcases Deep.open_slice Tryz.underlying165 hy with ⟨h1, h2⟩ | ⟨a, len, cap, m, n, D, Pl, h1, _⟩
  · exact ⟨⟨.slice none 0 0, rfl⟩, h1⟩
  · exact ⟨⟨_, rfl⟩, h1⟩
theorem open_progs {base : Nat} {v : Value} {d : DataW H} {ps : List MemPlace} (hval : Value.okWide Tryz.prog W .any base 51 v) (h : DataW.Trod enc Tryz.prog W 0 (fun _ => true) true 51 v d ps) :
    ∃ P : List (OV × List Do5), Pz16 W.heap v P := by
  obtain ⟨a0, len0, cap0, rfl⟩ := okWide_slice Tryz.underlying51 hval
  obtain ⟨fuel, hf⟩ := h
  obtain ⟨v, P, h1, h2, h3⟩ := Go.Eng.rd_openW (enc' := oE) (wf := fun (y : OV × List Do5) => Rd W.heap 5 do5 y.1.1 y.2) Tryz.underlying51 cells_dos (by decide) (fun _ => rfl) (fun n cs y hy => by
    obtain ⟨u, xs, h1, h2, h3⟩ := Go.Eng.rd_openW (enc' := do5) (wf := fun _ => True) Tryz.underlying168 cells_do (by decide) (fun _ => rfl) (fun n cs y hy => by
      obtain ⟨y0, y1, y2, y3, y4, m, hl, g0, g1, g2, g3, g4⟩ := trod_struct5 Tryz.underlying167 hy
      rw [cells_do] at hl
      match cs, hl with
      | [c0, c1, c2, c3, c4], _ =>
        rw [cells_int] at g0 g1 g2
        rw [cells_cases] at g3
        rw [cells_bool] at g4
        obtain ⟨a, h0, _, w0⟩ := DataW.trod_int Tryz.underlying3 g0
        obtain ⟨b, h1, _, w1⟩ := DataW.trod_int Tryz.underlying3 g1
        obtain ⟨c, h2, _, w2⟩ := DataW.trod_int Tryz.underlying3 g2
        obtain ⟨u, h3⟩ := open_cases g3
        obtain ⟨f, h4, _⟩ := DataW.trod_bool Tryz.underlying4 g4
        simp at h0 h1 h2 h3 h4
        subst h0; subst h1; subst h2; subst h3; subst h4
        exact ⟨⟨a, b, c, u, f⟩, rfl, trivial⟩) hy
    exact ⟨(u, xs), h1, h2⟩) hf
  simp [Value.cells] at h1
  rw [h1]
  exact ⟨P, h2, fun y hy => h3 y hy, v.2⟩
end
end Go.Proofs.YtbaidcnalkdhgaaGreat
set_option maxRecDepth 100000
namespace Go.Proofs.YtbaidcnalkdhgaaGreat
open Go Go.Eng
def gE (l : List Int) : List Value := l.map fun x => .int .i64 x
structure En where
  ib : Nat
  b : Nat
def enF (gb : Nat) (x : En) : RE := ⟨x.b, ⟨.func (.func 43) #[] #[pt gb, pt x.ib], rfl⟩⟩
def enT (f : Bool) (x : En) : TKT := ⟨x.b, ⟨.func (.func 42) #[] #[], rfl⟩, f⟩
def esAt (es : List En) (i : Nat) : En := (es[i]?).getD ⟨0, 0⟩
def fgC (cb bq sq rq gb : Nat) (es : List En) (L : List Nat) : CH := ⟨cb, bq, sq, rq, 0, [], [], L.map fun i => enF gb (esAt es i), false⟩
def fgT (es : List En) (fs : Nat → Bool) : List TKT := es.mapIdx fun i x => enT (fs i) x
def fgB (es : List En) : List Bx := es.mapIdx fun i x => (x.ib, [.int .i64 (i : Int)], 3)
theorem fget1 (w : World) : Rets Tryz.prog 42 #[] w fun u w' => w = w' := by
  refine rets_of Tryz.func42 rfl Tryz.ntmps42 rfl rfl (by kernel_rfl) ?_
  (apply vC_skip)
  (first | apply ret0 | apply ret0n)
  rfl
theorem fget2 (gb ib i : Nat) (l : List Int) (hl : l.length = 7) (hi : i < 7) (v : Int) (ok : Bool) : Sp Tryz.prog 43 #[.int .i64 v, .bool ok, pt gb, pt ib] (Pt gb (gE l) 79 * Pt ib [.int .i64 i] 3) (fun _ => Pt gb (gE (l.set i v)) 79 * Pt ib [.int .i64 i] 3) := by
  intro w F hA
  have S : At (Pt gb (gE l) 79 * Pt ib [.int .i64 i] 3) w F w := At.init hA
  have hg := S.blk
  have hb := S.swap.blk
  have hgl : (gE l).length = 7 := by unfold gE; rw [List.length_map, hl]
  refine rets_of Tryz.func43 rfl Tryz.ntmps43 rfl rfl (by kernel_rfl) ?_
  (apply vC_region; ((apply vL_val); (case h => ((apply opv_loadb1); exact rfl; exact rfl; assumption; exact rfl))); ((apply vL_val); (case h => ((apply opv_E); exact rfl))); ((apply vL_val); (case h => ((apply opv_indexAddr_arr); exact rfl; exact rfl; (first | omega | (simp only [List.length_map]; omega)); (first | omega | (simp only [List.length_map]; omega))))))
  refine vL_skip (ops_store1 rfl rfl rfl hg (by rw [hgl]; show 0 + ((i : Nat) : Int).toNat * 1 < 7; omega)) ?_
  (apply vL_nil)
  (first | apply ret0 | apply ret0n)
  refine S.put ((Fr.refl _ w).set _ _ (.inl rfl)) (Blk.as (Blk.set hg) ?_)
  have e : 0 + ((i : Nat) : Int).toNat * 1 = i := by omega
  rw [e]
  unfold gE
  rw [List.map_set]
  rfl
section
variable {w w0 : World} {F0 : Nat → Prop} {R : Asr} {rb cb bq sq rq gb : Nat} {es : List En} {L : List Nat} {fs : Nat → Bool} {got : List Int}
theorem esAt_get {i : Nat} (hi : i < es.length) : es[i]? = some (esAt es i) := by unfold esAt; rw [List.getElem?_eq_getElem hi]; rfl
theorem fgT_get {i : Nat} (hi : i < es.length) : (fgT es fs)[i]? = some (enT (fs i) (esAt es i)) := by
  unfold fgT
  rw [List.getElem?_mapIdx, esAt_get hi]; rfl
/-- who waits: known, not fired, each once -/
structure FgOk (es : List En) (L : List Nat) (fs : Nat → Bool) : Prop where
  lt : ∀ i ∈ L, i < es.length
  nf : ∀ i ∈ L, fs i = false
  inj : ∀ i j, i < es.length → j < es.length → (esAt es i).b = (esAt es j).b → i = j
theorem FgOk.mem1 (h : FgOk es L fs) : ∀ x ∈ (fgC cb bq sq rq gb es L).rcv, ∃ t ∈ fgT es fs, x.k = t.b := fun x hx => by
  obtain ⟨i, hi, rfl⟩ := List.mem_map.1 hx
  exact ⟨_, List.mem_of_getElem? (fgT_get (h.lt i hi)), rfl⟩
theorem FgOk.mem2 : ∀ x ∈ (fgC cb bq sq rq gb es L).snd, ∃ t ∈ fgT es fs, x.k = t.b := fun x hx => by cases hx
theorem FgOk.isF (h : FgOk es L fs) {i : Nat} (hi : i < es.length) : isF (fgT es fs) (esAt es i).b = fs i := by
  unfold Go.Proofs.YtbaidcnalkdhgaaGreat.isF
  cases hf : fs i with
  | true => exact List.any_eq_true.2 ⟨_, List.mem_of_getElem? (fgT_get hi), by simp [enT, hf]⟩
  | false =>
    refine List.any_eq_false.2 fun t ht => ?_
    obtain ⟨j, hj, e⟩ := List.getElem_of_mem ht
    have hj' : j < es.length := by simpa [fgT] using hj
    have e2 : (fgT es fs)[j]? = some t := by rw [List.getElem?_eq_getElem hj, e]
    rw [fgT_get hj'] at e2
    cases e2
    by_cases he : (esAt es j).b = (esAt es i).b
    · obtain rfl := h.inj j i hj' hi he
      simp [enT, hf]
    · simp [enT, he]
theorem FgOk.cleaned (h : FgOk es L fs) : (fgC cb bq sq rq gb es L).cleaned (fgT es fs) = fgC cb bq sq rq gb es L := by
  unfold CH.cleaned fgC
  simp only [List.filter_nil, CH.mk.injEq, true_and, and_true]
  refine List.filter_eq_self.2 fun x hx => ?_
  obtain ⟨i, hi, rfl⟩ := List.mem_map.1 hx
  rw [show (enF gb (esAt es i)).k = (esAt es i).b from rfl, h.isF (h.lt i hi), h.nf i hi]; rfl
theorem FgOk.sub {L' : List Nat} (h : FgOk es L fs) (hs : ∀ i ∈ L', i ∈ L) : FgOk es L' fs := ⟨fun i hi => h.lt i (hs i hi), fun i hi => h.nf i (hs i hi), h.inj⟩
theorem fg_forget [Lcl R] (h : FgOk es L fs) (S : At (ChA_i rb (fgC cb bq sq rq gb es L) * (TksA (fgT es fs) * R)) w0 F0 w) (hL : L.length ≤ 1000) {a : Nat} (ha : a < es.length) :
    Rets Tryz.prog 41 #[pt cb, pt (esAt es a).b] w fun u w' => u = .int .i64 ((L.length : Int) - (L.filter (fun i => !decide (i = a))).length) ∧ At (ChA_i rb (fgC cb bq sq rq gb es (L.filter fun i => !decide (i = a))) * (TksA (fgT es fs) * R)) w0 F0 w' := by
  have e1 : (fgC cb bq sq rq gb es L).without (esAt es a).b = fgC cb bq sq rq gb es (L.filter fun i => !decide (i = a)) := by
    unfold CH.without fgC
    simp only [List.filter_nil, CH.mk.injEq, true_and, and_true]
    rw [List.filter_map]
    congr 1
    refine List.filter_congr fun i hi => ?_
    show (!decide ((esAt es i).b = (esAt es a).b)) = _
    congr 1
    exact decide_eq_decide.2 ⟨fun e => h.inj i a (h.lt i hi) ha e, fun e => by rw [e]⟩
  have := ch_forget_i S ⟨Nat.zero_le _, by show (L.map _).length ≤ _; rw [List.length_map]; omega⟩ FgOk.mem2 h.mem1 (List.mem_of_getElem? (fgT_get ha))
  rw [h.cleaned] at this
  refine this.mono fun u w' ⟨h1, h2⟩ => ⟨?_, ?_⟩
  · rw [h1]
    rw [show (enT (fs a) (esAt es a)).b = (esAt es a).b from rfl, e1]
    congr 1
    show ((0 : Nat) : Int) - ((0 : Nat) : Int) + (((L.map _).length : Nat) - (((L.filter _).map _).length : Nat) : Int) = _
    rw [List.length_map, List.length_map]; omega
  · rw [show (enT (fs a) (esAt es a)).b = (esAt es a).b from rfl, e1] at h2
    exact h2
theorem fg_waits [Lcl R] (h : FgOk es L fs) (S : At (ChA_i rb (fgC cb bq sq rq gb es L) * (TksA (fgT es fs) * R)) w0 F0 w) :
    Rets Tryz.prog 25 #[pt cb] w fun u w' => u = .tuple #[.int .i64 0, .int .i64 L.length] ∧ At (ChA_i rb (fgC cb bq sq rq gb es L) * (TksA (fgT es fs) * R)) w0 F0 w' := by
  have := ch_waits_i S FgOk.mem2 h.mem1
  rw [h.cleaned] at this
  refine this.mono fun u w' ⟨h1, h2⟩ => ⟨?_, h2⟩
  rw [h1]
  show Value.tuple #[.int .i64 ((0 : Nat) : Int), .int .i64 ((L.map _).length : Nat)] = _
  rw [List.length_map]; rfl
theorem fg_send0 [Lcl R] (h : FgOk es [] fs) (S : At (ChA_i rb (fgC cb bq sq rq gb es []) * (TksA (fgT es fs) * R)) w0 F0 w) (v : Int) :
    Rets Tryz.prog 33 #[pt cb, .int .i64 v] w fun u w' => u = .tuple #[.bool false, .bool false] ∧ At (ChA_i rb (fgC cb bq sq rq gb es []) * (TksA (fgT es fs) * R)) w0 F0 w' := by
  have hcl := h.cleaned (cb := cb) (bq := bq) (sq := sq) (rq := rq) (gb := gb)
  have := ch_trysend_i (rb := rb) (c := fgC cb bq sq rq gb es []) (ts := fgT es fs) (R := R) (B := fun u => Pu (u = .tuple #[.bool false, .bool false]) * (ChA_i rb (fgC cb bq sq rq gb es []) * (TksA (fgT es fs) * R))) v FgOk.mem2 h.mem1 (Nat.zero_le _)
    (fun hc => by cases hc) (fun _ x r hr => by rw [hcl] at hr; cases hr) (fun _ _ _ k F hA => by rw [hcl] at hA; exact ent_pu1 rfl hA) (fun _ _ hn => absurd rfl hn)
  refine (this.at1 S).mono fun u w' h2 => ?_
  exact h2.pure
theorem fg_send1 [Lcl R] {i : Nat} (h : FgOk es (i :: L) fs) (hn : i ∉ L) (hl : got.length = 7) (hlen : es.length ≤ 7) (S : At (ChA_i rb (fgC cb bq sq rq gb es (i :: L)) * (TksA (fgT es fs) * (Pt gb (gE got) 79 * (Bxl (fgB es) * R)))) w0 F0 w) (v : Int) :
    Rets Tryz.prog 33 #[pt cb, .int .i64 v] w fun u w' => u = .tuple #[.bool true, .bool true] ∧ FgOk es L (fun j => decide (j = i) || fs j) ∧ At (ChA_i rb (fgC cb bq sq rq gb es L) * (TksA (fgT es (fun j => decide (j = i) || fs j)) * (Pt gb (gE (got.set i v)) 79 * (Bxl (fgB es) * R)))) w0 F0 w' := by
  have hcl := h.cleaned (cb := cb) (bq := bq) (sq := sq) (rq := rq) (gb := gb)
  have hi := h.lt i List.mem_cons_self
  have hok : FgOk es L (fun j => decide (j = i) || fs j) := ⟨fun j hj => h.lt j (List.mem_cons_of_mem _ hj), fun j hj => by
    have : j ≠ i := fun e => hn (e ▸ hj)
    simp only [this, decide_false, Bool.false_or]
    exact h.nf j (List.mem_cons_of_mem _ hj), h.inj⟩
  have hset : (fgT es fs).set i { enT (fs i) (esAt es i) with fired := true } = fgT es (fun j => decide (j = i) || fs j) := by
    refine List.ext_getElem? fun j => ?_
    by_cases hj : j < es.length
    · rw [fgT_get hj]
      by_cases e : j = i
      · subst e
        rw [List.getElem?_set_self (by simpa [fgT] using hj)]
        simp [enT]
      · rw [List.getElem?_set_ne (Ne.symm e), fgT_get hj]
        simp [e]
    · rw [List.getElem?_eq_none (by simpa [fgT] using hj), List.getElem?_eq_none (by simpa [fgT] using hj)]
  have hbx : Bxl (fgB es) = Pt (esAt es i).ib [.int .i64 i] 3 * Bxl ((fgB es).eraseIdx i) := by
    unfold Bxl
    exact big_map_pick (fun x : Nat × List Value × TypeId => Pt x.1 x.2.1 x.2.2) (l := fgB es) (i := i) (x := ((esAt es i).ib, [.int .i64 (i : Int)], 3)) (by unfold fgB; rw [List.getElem?_mapIdx, esAt_get hi]; rfl)
  have sp2 := (fget2 gb (esAt es i).ib i got hl (by omega) v true).frame (R := ChA_i rb (fgC cb bq sq rq gb es L) * (TksA (fgT es (fun j => decide (j = i) || fs j)) * (Bxl ((fgB es).eraseIdx i) * R)))
  have := ch_trysend_i (rb := rb) (c := fgC cb bq sq rq gb es (i :: L)) (ts := fgT es fs) (R := Pt gb (gE got) 79 * (Bxl (fgB es) * R)) (B := fun u => Pu (u = .tuple #[.bool true, .bool true]) * (ChA_i rb (fgC cb bq sq rq gb es L) * (TksA (fgT es (fun j => decide (j = i) || fs j)) * (Pt gb (gE (got.set i v)) 79 * (Bxl (fgB es) * R))))) v FgOk.mem2 h.mem1 (Nat.zero_le _)
    (fun hc => by cases hc) (fun _ x r hr => by
      rw [hcl] at hr
      cases hr
      refine ⟨i, enT (fs i) (esAt es i), _, _, [pt gb, pt (esAt es i).ib], [], (ChA_i rb (fgC cb bq sq rq gb es L) * (TksA (fgT es (fun j => decide (j = i) || fs j)) * (Pt gb (gE (got.set i v)) 79 * (Bxl (fgB es) * R)))), (ChA_i rb (fgC cb bq sq rq gb es L) * (TksA (fgT es (fun j => decide (j = i) || fs j)) * (Pt gb (gE (got.set i v)) 79 * (Bxl (fgB es) * R)))), fgT_get hi, rfl, ⟨inferInstance⟩, ⟨inferInstance⟩, rfl, rfl, ?_, ?_, ?_, fun k F hA => ent_pu1 rfl hA⟩
      · refine sp2.cong ?_ (fun u k F hA => ?_)
        · rw [hset, hcl, hbx]
          show ChA_i rb (fgC cb bq sq rq gb es L) * _ = _
          ac_rfl
        · rw [hbx]
          exact ent_eq (by ac_rfl) hA
      · intro k F hA
        have h3 : (TkA (enT true (esAt es i)) * (TksA ((fgT es (fun j => decide (j = i) || fs j)).eraseIdx i) * (ChA_i rb (fgC cb bq sq rq gb es L) * (Pt gb (gE (got.set i v)) 79 * (Bxl (fgB es) * R))))) k F := ent_eq (by rw [tks_pick (t := enT true (esAt es i)) (by rw [fgT_get hi]; simp)]; ac_rfl) hA
        obtain ⟨F1, F2, ⟨hb, _⟩, _⟩ := h3
        exact hb
      · intro w2 F hA
        exact (fget1 w2).mono fun u w3 e => by rw [← e]; exact At.init hA) (fun _ hr => by rw [hcl] at hr; cases hr) (fun _ hr => by rw [hcl] at hr; cases hr)
  refine (this.at1 S).mono fun u w' h2 => ?_
  obtain ⟨h3, h4⟩ := h2.pure
  exact ⟨h3, hok, h4⟩
end
end Go.Proofs.YtbaidcnalkdhgaaGreat
set_option maxRecDepth 100000
namespace Go.Proofs.YtbaidcnalkdhgaaGreat
open Go Go.Eng
/-- four tickets: their blocks, the boxes of their numbers, who has fired -/
structure T4 where
  b : Nat → Nat
  ib : Nat → Nat
  fs : Nat → Bool
def T4.set (T : T4) (j : Nat) : T4 := ⟨T.b, T.ib, fun i => decide (i = j) || T.fs i⟩
def t4T (fb : Nat) (T : T4) (j : Nat) : TKT := ⟨T.b j, ⟨.func (.func 36) #[] #[pt fb, pt (T.ib j)], rfl⟩, T.fs j⟩
def t4L (fb : Nat) (T : T4) : List TKT := (List.range 4).map (t4T fb T)
def t4N (fs : Nat → Bool) : List Int := (List.range 4).map fun j => if fs j then 1 else 0
theorem t4L_get {fb : Nat} {T : T4} {j : Nat} (hj : j < 4) : (t4L fb T)[j]? = some (t4T fb T j) := by
  unfold t4L; rw [List.getElem?_map, List.getElem?_range hj]; rfl
theorem t4L_set {fb : Nat} {T : T4} {j : Nat} (hj : j < 4) : (t4L fb T).set j { t4T fb T j with fired := true } = t4L fb (T.set j) := by
  refine List.ext_getElem? fun i => ?_
  by_cases hi : i < 4
  · rw [t4L_get hi]
    by_cases e : i = j
    · subst e
      rw [List.getElem?_set_self (by simp [t4L]; omega)]
      simp [t4T, T4.set]
    · rw [List.getElem?_set_ne (Ne.symm e), t4L_get hi]
      simp [t4T, T4.set, e]
  · rw [List.getElem?_eq_none (by simp [t4L]; omega), List.getElem?_eq_none (by simp [t4L]; omega)]
theorem t4N_set {T : T4} {j : Nat} (hj : j < 4) (hf : T.fs j = false) : (t4N T.fs).set j 1 = t4N (T.set j).fs ∧ (t4N T.fs)[j]? = some 0 := by
  constructor
  · refine List.ext_getElem? fun i => ?_
    by_cases hi : i < 4
    · unfold t4N
      rw [List.getElem?_map, List.getElem?_range hi]
      by_cases e : i = j
      · subst e
        rw [List.getElem?_set_self (by simp; omega)]
        simp [T4.set]
      · rw [List.getElem?_set_ne (Ne.symm e), List.getElem?_map, List.getElem?_range hi]
        simp [T4.set, e]
    · rw [List.getElem?_eq_none (by simp [t4N]; omega), List.getElem?_eq_none (by simp [t4N]; omega)]
  · unfold t4N
    rw [List.getElem?_map, List.getElem?_range hj]
    simp [hf]
theorem t4N_len (fs : Nat → Bool) : (t4N fs).length = 4 := by simp [t4N]
section
variable {ab nb j : Nat} {T : T4}
theorem tick2 (hj : j < 4) (hf : T.fs j = false) (ok : Bool) : Sp Tryz.prog 38 #[.bool ok, pt ab, pt nb] (Pt ab (gE (t4N T.fs)) 70 * Pt nb [.int .i64 j] 3) (fun _ => Pt ab (gE (t4N (T.set j).fs)) 70 * Pt nb [.int .i64 j] 3) := by
  intro w F hA
  have S : At (Pt ab (gE (t4N T.fs)) 70 * Pt nb [.int .i64 j] 3) w F w := At.init hA
  have hg := S.blk
  have hb := S.swap.blk
  have hgl : (gE (t4N T.fs)).length = 4 := by unfold gE; rw [List.length_map, t4N_len]
  obtain ⟨e1, e2⟩ := t4N_set hj hf
  have e0 : 0 + ((j : Nat) : Int).toNat * 1 = j := by omega
  have hgk : (gE (t4N T.fs))[0 + ((j : Nat) : Int).toNat * 1]? = some (.int .i64 0) := by
    rw [e0]; unfold gE; rw [List.getElem?_map, e2]; rfl
  refine rets_of Tryz.func38 rfl Tryz.ntmps38 rfl rfl (by kernel_rfl) ?_
  (apply vC_region; ((apply vL_val); (case h => ((apply opv_loadb1); exact rfl; exact rfl; assumption; exact rfl))); ((apply vL_val); (case h => ((apply opv_indexAddr_arr); exact rfl; exact rfl; (first | omega | (simp only [List.length_map]; omega)); (first | omega | (simp only [List.length_map]; omega))))))
  refine vL_val (opv_loadb1 rfl rfl hg hgk) ?_
  (((apply vL_val); (case h => ((apply opv_add); exact rfl; exact rfl; (first | omega | (simp only [List.length_map]; omega))))); ((apply vL_val); (case h => ((apply opv_indexAddr_arr); exact rfl; exact rfl; (first | omega | (simp only [List.length_map]; omega)); (first | omega | (simp only [List.length_map]; omega))))))
  refine vL_skip (ops_store1 rfl rfl rfl hg (by rw [hgl]; show 0 + ((j : Nat) : Int).toNat * 1 < 4; omega)) ?_
  (apply vL_nil)
  (first | apply ret0 | apply ret0n)
  refine S.put ((Fr.refl _ w).set _ _ (.inl rfl)) (Blk.as (Blk.set hg) ?_)
  rw [e0, ← e1]
  unfold gE
  rw [List.map_set]
  rfl
theorem tick3 (hj : j < 4) (hf : T.fs j = false) (v : Int) (ok : Bool) : Sp Tryz.prog 40 #[.int .i64 v, .bool ok, pt ab, pt nb] (Pt ab (gE (t4N T.fs)) 70 * Pt nb [.int .i64 j] 3) (fun _ => Pt ab (gE (t4N (T.set j).fs)) 70 * Pt nb [.int .i64 j] 3) := by
  intro w F hA
  have S : At (Pt ab (gE (t4N T.fs)) 70 * Pt nb [.int .i64 j] 3) w F w := At.init hA
  have hg := S.blk
  have hb := S.swap.blk
  have hgl : (gE (t4N T.fs)).length = 4 := by unfold gE; rw [List.length_map, t4N_len]
  obtain ⟨e1, e2⟩ := t4N_set hj hf
  have e0 : 0 + ((j : Nat) : Int).toNat * 1 = j := by omega
  have hgk : (gE (t4N T.fs))[0 + ((j : Nat) : Int).toNat * 1]? = some (.int .i64 0) := by
    rw [e0]; unfold gE; rw [List.getElem?_map, e2]; rfl
  refine rets_of Tryz.func40 rfl Tryz.ntmps40 rfl rfl (by kernel_rfl) ?_
  (apply vC_region; ((apply vL_val); (case h => ((apply opv_loadb1); exact rfl; exact rfl; assumption; exact rfl))); ((apply vL_val); (case h => ((apply opv_indexAddr_arr); exact rfl; exact rfl; (first | omega | (simp only [List.length_map]; omega)); (first | omega | (simp only [List.length_map]; omega))))))
  refine vL_val (opv_loadb1 rfl rfl hg hgk) ?_
  (((apply vL_val); (case h => ((apply opv_add); exact rfl; exact rfl; (first | omega | (simp only [List.length_map]; omega))))); ((apply vL_val); (case h => ((apply opv_indexAddr_arr); exact rfl; exact rfl; (first | omega | (simp only [List.length_map]; omega)); (first | omega | (simp only [List.length_map]; omega))))))
  refine vL_skip (ops_store1 rfl rfl rfl hg (by rw [hgl]; show 0 + ((j : Nat) : Int).toNat * 1 < 4; omega)) ?_
  (apply vL_nil)
  (first | apply ret0 | apply ret0n)
  refine S.put ((Fr.refl _ w).set _ _ (.inl rfl)) (Blk.as (Blk.set hg) ?_)
  rw [e0, ← e1]
  unfold gE
  rw [List.map_set]
  rfl
theorem tick1 (hj : j < 4) (hf : T.fs j = false) : Sp Tryz.prog 36 #[pt ab, pt nb] (Pt ab (gE (t4N T.fs)) 70 * Pt nb [.int .i64 j] 3) (fun _ => Pt ab (gE (t4N (T.set j).fs)) 70 * Pt nb [.int .i64 j] 3) := by
  intro w F hA
  have S : At (Pt ab (gE (t4N T.fs)) 70 * Pt nb [.int .i64 j] 3) w F w := At.init hA
  have hg := S.blk
  have hb := S.swap.blk
  have hgl : (gE (t4N T.fs)).length = 4 := by unfold gE; rw [List.length_map, t4N_len]
  obtain ⟨e1, e2⟩ := t4N_set hj hf
  have e0 : 0 + ((j : Nat) : Int).toNat * 1 = j := by omega
  have hgk : (gE (t4N T.fs))[0 + ((j : Nat) : Int).toNat * 1]? = some (.int .i64 0) := by
    rw [e0]; unfold gE; rw [List.getElem?_map, e2]; rfl
  refine rets_of Tryz.func36 rfl Tryz.ntmps36 rfl rfl (by kernel_rfl) ?_
  (apply vC_region; ((apply vL_val); (case h => ((apply opv_loadb1); exact rfl; exact rfl; assumption; exact rfl))); ((apply vL_val); (case h => ((apply opv_indexAddr_arr); exact rfl; exact rfl; (first | omega | (simp only [List.length_map]; omega)); (first | omega | (simp only [List.length_map]; omega))))))
  refine vL_val (opv_loadb1 rfl rfl hg hgk) ?_
  (((apply vL_val); (case h => ((apply opv_add); exact rfl; exact rfl; (first | omega | (simp only [List.length_map]; omega))))); ((apply vL_val); (case h => ((apply opv_indexAddr_arr); exact rfl; exact rfl; (first | omega | (simp only [List.length_map]; omega)); (first | omega | (simp only [List.length_map]; omega))))))
  refine vL_skip (ops_store1 rfl rfl rfl hg (by rw [hgl]; show 0 + ((j : Nat) : Int).toNat * 1 < 4; omega)) ?_
  (apply vL_nil)
  (first | apply ret0 | apply ret0n)
  refine S.put ((Fr.refl _ w).set _ _ (.inl rfl)) (Blk.as (Blk.set hg) ?_)
  rw [e0, ← e1]
  unfold gE
  rw [List.map_set]
  rfl
end
end Go.Proofs.YtbaidcnalkdhgaaGreat
set_option maxRecDepth 100000
namespace Go.Proofs.YtbaidcnalkdhgaaGreat
open Go Go.Eng
def OkS (kb : List Bx) (tb : Nat) (b : Nat → Nat) (x : SE) : Prop := ∃ j nb : Nat, j < 4 ∧ x.k = b j ∧ x.f.1 = .func (.func 38) #[] #[pt tb, pt nb] ∧ (nb, [.int .i64 j], 3) ∈ kb
def OkR (kb : List Bx) (tb : Nat) (b : Nat → Nat) (x : RE) : Prop := ∃ j nb : Nat, j < 4 ∧ x.k = b j ∧ x.f.1 = .func (.func 40) #[] #[pt tb, pt nb] ∧ (nb, [.int .i64 j], 3) ∈ kb
structure TtC (kb : List Bx) (tb : Nat) (b : Nat → Nat) (n : Nat) (C : CH) : Prop where
  snd : ∀ x ∈ C.snd, OkS kb tb b x
  rcv : ∀ x ∈ C.rcv, OkR kb tb b x
  lens : C.snd.length ≤ n
  lenr : C.rcv.length ≤ n
  buf : (C.buf.length : Int) ≤ C.size
  size : C.size ≤ 1
structure T4ok (kb : List Bx) (T : T4) : Prop where
  inj : ∀ i j, i < 4 → j < 4 → T.b i = T.b j → i = j
  box : ∀ j : Nat, j < 4 → (T.ib j, [.int .i64 j], 3) ∈ kb
def TtR (rb fb tb : Nat) (kb : List Bx) (T : T4) (D : CH) (R : Asr) : Asr := ChA_i rb D * (Pt fb (gE (t4N T.fs)) 70 * (Pt tb (gE (t4N T.fs)) 70 * (Bxl kb * R)))
instance instLclTtR (rb fb tb : Nat) (kb : List Bx) (T : T4) (D : CH) (R : Asr) [Lcl R] : Lcl (TtR rb fb tb kb T D R) := by unfold TtR; infer_instance
def TtA (rb fb tb : Nat) (kb : List Bx) (T : T4) (C D : CH) (R : Asr) : Asr := ChA_i rb C * (TksA (t4L fb T) * TtR rb fb tb kb T D R)
/-- told, not yet fired -/
def TtM (rb fb tb : Nat) (kb : List Bx) (T : T4) (j : Nat) (C D : CH) (R : Asr) : Asr := ChA_i rb C * (TksA (t4L fb (T.set j)) * (ChA_i rb D * (Pt fb (gE (t4N T.fs)) 70 * (Pt tb (gE (t4N (T.set j).fs)) 70 * (Bxl kb * R)))))
section
variable {rb fb tb n j nb : Nat} {kb : List Bx} {T : T4} {C D : CH} {R : Asr}
theorem TtC.mem1 (h : TtC kb tb T.b n C) : ∀ x ∈ C.snd, ∃ t ∈ t4L fb T, x.k = t.b := fun x hx => by
  obtain ⟨j, nb, hj, e, _⟩ := h.snd x hx
  exact ⟨_, List.mem_of_getElem? (t4L_get hj), e⟩
theorem TtC.mem2 (h : TtC kb tb T.b n C) : ∀ x ∈ C.rcv, ∃ t ∈ t4L fb T, x.k = t.b := fun x hx => by
  obtain ⟨j, nb, hj, e, _⟩ := h.rcv x hx
  exact ⟨_, List.mem_of_getElem? (t4L_get hj), e⟩
theorem t4_isF (h : T4ok kb T) (hj : j < 4) : isF (t4L fb T) (T.b j) = T.fs j := by
  unfold isF
  cases hf : T.fs j with
  | true => exact List.any_eq_true.2 ⟨_, List.mem_of_getElem? (t4L_get hj), by simp [t4T, hf]⟩
  | false =>
    refine List.any_eq_false.2 fun t ht => ?_
    obtain ⟨i, hi, e⟩ := List.getElem_of_mem ht
    have hi' : i < 4 := by simpa [t4L] using hi
    have e2 : (t4L fb T)[i]? = some t := by rw [List.getElem?_eq_getElem hi, e]
    rw [t4L_get hi'] at e2
    cases e2
    by_cases he : T.b i = T.b j
    · obtain rfl := h.inj i j hi' hj he
      simp [t4T, hf]
    · simp [t4T, he]
/-- after the cleaning: of those that have not fired alone -/
theorem TtC.cl (h : TtC kb tb T.b n C) : TtC kb tb T.b n (C.cleaned (t4L fb T)) :=
  ⟨fun x hx => h.snd x (List.mem_filter.1 hx).1, fun x hx => h.rcv x (List.mem_filter.1 hx).1, Nat.le_trans (List.length_filter_le _ _) h.lens, Nat.le_trans (List.length_filter_le _ _) h.lenr, h.buf, h.size⟩
theorem TtC.one1 (hT : T4ok kb T) (h : TtC kb tb T.b n C) {x : SE} (hx : x ∈ (C.cleaned (t4L fb T)).snd) : ∃ j nb : Nat, j < 4 ∧ x.k = T.b j ∧ x.f.1 = .func (.func 38) #[] #[pt tb, pt nb] ∧ (nb, [.int .i64 j], 3) ∈ kb ∧ T.fs j = false := by
  obtain ⟨h1, h2⟩ := List.mem_filter.1 hx
  obtain ⟨j, nb, hj, e, e2, e3⟩ := h.snd x h1
  rw [e, t4_isF hT hj] at h2
  exact ⟨j, nb, hj, e, e2, e3, by simpa using h2⟩
theorem TtC.one2 (hT : T4ok kb T) (h : TtC kb tb T.b n C) {x : RE} (hx : x ∈ (C.cleaned (t4L fb T)).rcv) : ∃ j nb : Nat, j < 4 ∧ x.k = T.b j ∧ x.f.1 = .func (.func 40) #[] #[pt tb, pt nb] ∧ (nb, [.int .i64 j], 3) ∈ kb ∧ T.fs j = false := by
  obtain ⟨h1, h2⟩ := List.mem_filter.1 hx
  obtain ⟨j, nb, hj, e, e2, e3⟩ := h.rcv x h1
  rw [e, t4_isF hT hj] at h2
  exact ⟨j, nb, hj, e, e2, e3, by simpa using h2⟩
theorem bxl_pick {b : Nat} {cs : List Value} {T : TypeId} (h : (b, cs, T) ∈ kb) : ∃ i, Bxl kb = Pt b cs T * Bxl (kb.eraseIdx i) := by
  obtain ⟨i, hi, e⟩ := List.getElem_of_mem h
  refine ⟨i, ?_⟩
  unfold Bxl
  exact big_map_pick (fun x : Nat × List Value × TypeId => Pt x.1 x.2.1 x.2.2) (l := kb) (i := i) (x := (b, cs, T)) (by rw [List.getElem?_eq_getElem hi, e])
theorem tt_served [Lcl R] {g : FuncId} {args : Array Value} (hnb : (nb, [.int .i64 j], 3) ∈ kb) (hj : j < 4) (sp : Sp Tryz.prog g args (Pt tb (gE (t4N T.fs)) 70 * Pt nb [.int .i64 j] 3) (fun _ => Pt tb (gE (t4N (T.set j).fs)) 70 * Pt nb [.int .i64 j] 3)) :
    Sp Tryz.prog g args (ChA_i rb C * (TksA ((t4L fb T).set j { t4T fb T j with fired := true }) * TtR rb fb tb kb T D R)) (fun _ => TtM rb fb tb kb T j C D R) := by
  obtain ⟨i, e⟩ := bxl_pick hnb
  refine (sp.frame (R := ChA_i rb C * (TksA (t4L fb (T.set j)) * (ChA_i rb D * (Pt fb (gE (t4N T.fs)) 70 * (Bxl (kb.eraseIdx i) * R))))).cong ?_ (fun u k F hA => ?_))
  · rw [t4L_set hj]; unfold TtR; rw [e]; ac_rfl
  · exact ent_eq (by unfold TtM; rw [e]; ac_rfl) hA
theorem tt_mid (hj : j < 4) : ∀ h F, TtM rb fb tb kb T j C D R h F → Blk h (T.b j) [(t4T fb T j).fire.1, .bool true] 175 := fun h F hA => by
  have h3 : (TkA (t4T fb (T.set j) j) * (TksA ((t4L fb (T.set j)).eraseIdx j) * (ChA_i rb C * (ChA_i rb D * (Pt fb (gE (t4N T.fs)) 70 * (Pt tb (gE (t4N (T.set j).fs)) 70 * (Bxl kb * R))))))) h F := ent_eq (by unfold TtM; rw [tks_pick (t4L_get (fb := fb) (T := T.set j) hj)]; ac_rfl) hA
  obtain ⟨F1, F2, ⟨hb, _⟩, _⟩ := h3
  have e : (t4T fb (T.set j) j).fired = true := by simp [t4T, T4.set]
  rw [e] at hb
  exact hb
theorem tt_fired [Lcl R] (hT : T4ok kb T) (hj : j < 4) (hf : T.fs j = false) : Sp Tryz.prog 36 #[pt fb, pt (T.ib j)] (TtM rb fb tb kb T j C D R) (fun _ => TtA rb fb tb kb (T.set j) C D R) := by
  obtain ⟨i, e⟩ := bxl_pick (hT.box j hj)
  refine ((tick1 (ab := fb) (nb := T.ib j) hj hf).frame (R := ChA_i rb C * (TksA (t4L fb (T.set j)) * (ChA_i rb D * (Pt tb (gE (t4N (T.set j).fs)) 70 * (Bxl (kb.eraseIdx i) * R))))).cong ?_ (fun u k F hA => ?_))
  · unfold TtM; rw [e]; ac_rfl
  · exact ent_eq (by unfold TtA TtR; rw [e]; ac_rfl) hA
/-- some state of such a kind -/
def TtE (rb fb tb n : Nat) (kb : List Bx) (T : T4) (C D : CH) (R : Asr) : Asr := Ex fun s : (Nat → Bool) × CH => Pu (TtC kb tb T.b n s.2 ∧ s.2.cb = C.cb) * TtA rb fb tb kb ⟨T.b, T.ib, s.1⟩ s.2 D R
theorem tte {C' : CH} {fs : Nat → Bool} (h1 : TtC kb tb T.b n C') (h2 : C'.cb = C.cb) : ∀ h F, TtA rb fb tb kb ⟨T.b, T.ib, fs⟩ C' D R h F → TtE rb fb tb n kb T C D R h F := fun h F hA => ent_pu (fs, C') ⟨h1, h2⟩ hA
theorem tt_trysend [Lcl R] (hT : T4ok kb T) (h : TtC kb tb T.b n C) (v : Int) : Sp Tryz.prog 33 #[pt C.cb, .int .i64 v] (TtA rb fb tb kb T C D R) (fun u => Ex fun x : Bool × Bool => Pu (u = .tuple #[.bool x.1, .bool x.2]) * TtE rb fb tb n kb T C D R) := by
  have hcl := h.cl (fb := fb)
  refine ch_trysend_i (B := fun u => Ex fun x : Bool × Bool => Pu (u = .tuple #[.bool x.1, .bool x.2]) * TtE rb fb tb n kb T C D R) v h.mem1 h.mem2 (by have := h.buf; have := h.size; omega) (fun _ k F hA => ent_pu (false, true) rfl (tte (fs := T.fs) hcl rfl k F hA)) (fun _ x r hr => ?_) (fun _ _ _ k F hA => ent_pu (false, false) rfl (tte (fs := T.fs) hcl rfl k F hA)) (fun _ _ hn k F hA => ent_pu (true, true) rfl (tte (C' := { C.cleaned (t4L fb T) with buf := C.buf ++ [v] }) (fs := T.fs) ⟨hcl.snd, hcl.rcv, hcl.lens, hcl.lenr, by have := h.buf; show ((C.buf ++ [v]).length : Int) ≤ C.size; rw [List.length_append, List.length_singleton]; omega, h.size⟩ rfl k F hA))
  obtain ⟨j, nb, hj, e1, e2, e3, hf⟩ := h.one2 hT (x := x) (by rw [hr]; exact List.mem_cons_self)
  refine ⟨j, t4T fb T j, _, _, [pt tb, pt nb], [pt fb, pt (T.ib j)], TtM rb fb tb kb T j { C.cleaned (t4L fb T) with rcv := r } D R, TtA rb fb tb kb (T.set j) { C.cleaned (t4L fb T) with rcv := r } D R, t4L_get hj, e1, ⟨inferInstance⟩, ⟨inferInstance⟩, e2, rfl, tt_served e3 hj (tick3 hj hf v true), tt_mid hj, tt_fired hT hj hf, fun k F hA => ?_⟩
  refine ent_pu (true, true) rfl (tte (C' := { C.cleaned (t4L fb T) with rcv := r }) (fs := (T.set j).fs) ⟨hcl.snd, fun y hy => hcl.rcv y (by rw [hr]; exact List.mem_cons_of_mem _ hy), hcl.lens, ?_, h.buf, h.size⟩ rfl k F hA)
  have := hcl.lenr
  rw [hr, List.length_cons] at this
  show r.length ≤ n
  omega
theorem tt_tryrecv [Lcl R] (hT : T4ok kb T) (h : TtC kb tb T.b n C) : Sp Tryz.prog 34 #[pt C.cb] (TtA rb fb tb kb T C D R) (fun u => Ex fun x : Int × Bool × Bool => Pu (u = .tuple #[.int .i64 x.1, .bool x.2.1, .bool x.2.2]) * TtE rb fb tb n kb T C D R) := by
  have hcl := h.cl (fb := fb)
  have hbl : (C.buf.tail.length : Int) ≤ C.size := by have := h.buf; rw [List.length_tail]; omega
  refine ch_tryrecv_i (B := fun u => Ex fun x : Int × Bool × Bool => Pu (u = .tuple #[.int .i64 x.1, .bool x.2.1, .bool x.2.2]) * TtE rb fb tb n kb T C D R) h.mem1 h.mem2 (by have := h.buf; have := h.size; omega) (fun x r hr => ?_) (fun _ k F hA => ent_pu (C.buf.headD 0, !C.buf.isEmpty, !C.buf.isEmpty || C.closed) rfl (tte (C' := { C.cleaned (t4L fb T) with buf := C.buf.tail }) (fs := T.fs) ⟨hcl.snd, hcl.rcv, hcl.lens, hcl.lenr, hbl, h.size⟩ rfl k F hA))
  obtain ⟨j, nb, hj, e1, e2, e3, hf⟩ := h.one1 hT (x := x) (by rw [hr]; exact List.mem_cons_self)
  refine ⟨j, t4T fb T j, _, _, [pt tb, pt nb], [pt fb, pt (T.ib j)], TtM rb fb tb kb T j { C.cleaned (t4L fb T) with buf := rbuf C.buf x.v, snd := r } D R, TtA rb fb tb kb (T.set j) { C.cleaned (t4L fb T) with buf := rbuf C.buf x.v, snd := r } D R, t4L_get hj, e1, ⟨inferInstance⟩, ⟨inferInstance⟩, e2, rfl, tt_served e3 hj (tick2 hj hf true), tt_mid hj, tt_fired hT hj hf, fun k F hA => ?_⟩
  refine ent_pu (rval C.buf x.v, true, true) rfl (tte (C' := { C.cleaned (t4L fb T) with buf := rbuf C.buf x.v, snd := r }) (fs := (T.set j).fs) ⟨fun y hy => hcl.snd y (by rw [hr]; exact List.mem_cons_of_mem _ hy), hcl.rcv, ?_, hcl.lenr, ?_, h.size⟩ rfl k F hA)
  · have := hcl.lens
    rw [hr, List.length_cons] at this
    show r.length ≤ n
    omega
  · have := h.buf
    show ((rbuf C.buf x.v).length : Int) ≤ C.size
    have e : (rbuf C.buf x.v).length = C.buf.length := by unfold rbuf; cases C.buf <;> simp
    rw [e]; exact this
structure TtP (kb : List Bx) (fb tb n cb : Nat) (b : Nat → Nat) (s : (Nat → Bool) × CH) : Prop where
  ok : TtC kb tb b n s.2
  cb : s.2.cb = cb
/-- the states of a closing -/
def tclosing [hR : Lcl R] (hT : T4ok kb T) (cb : Nat) : Clo_i rb cb (Ex fun s : (Nat → Bool) × CH => Pu (TtC kb tb T.b n s.2 ∧ s.2.cb = cb) * TtA rb fb tb kb ⟨T.b, T.ib, s.1⟩ s.2 D R) ((Nat → Bool) × CH) where
  P := TtP kb fb tb n cb T.b
  ch := fun s => s.2
  tk := fun s => t4L fb ⟨T.b, T.ib, s.1⟩
  rs := fun s => TtR rb fb tb kb ⟨T.b, T.ib, s.1⟩ D R
  μ := fun s => s.2.rcv.length + s.2.snd.length
  loc := fun s => inferInstance
  mem := fun s p => ⟨p.ok.mem1 (T := ⟨T.b, T.ib, s.1⟩), p.ok.mem2 (T := ⟨T.b, T.ib, s.1⟩), p.cb⟩
  rcv := fun s x r p hr => by
    have hT' : T4ok kb ⟨T.b, T.ib, s.1⟩ := ⟨hT.inj, hT.box⟩
    have hcl := p.ok.cl (T := ⟨T.b, T.ib, s.1⟩) (fb := fb)
    obtain ⟨j, nb, hj, e1, e2, e3, hf⟩ := p.ok.one2 (fb := fb) hT' (x := x) (by rw [hr]; exact List.mem_cons_self)
    refine ⟨j, t4T fb ⟨T.b, T.ib, s.1⟩ j, _, _, [pt tb, pt nb], [pt fb, pt (T.ib j)], TtM rb fb tb kb ⟨T.b, T.ib, s.1⟩ j { s.2.cleaned (t4L fb ⟨T.b, T.ib, s.1⟩) with rcv := r } D R, t4L_get hj, e1, ⟨inferInstance⟩, ⟨inferInstance⟩, e2, rfl, tt_served e3 hj (tick3 (T := ⟨T.b, T.ib, s.1⟩) hj hf 0 false), tt_mid hj, ?_⟩
    refine (tt_fired hT' hj hf).cong rfl (fun u k F hA => ?_)
    have hl := List.length_filter_le (fun x => !isF (t4L fb ⟨T.b, T.ib, s.1⟩) x.k) s.2.rcv
    have hl2 := List.length_filter_le (fun x => !isF (t4L fb ⟨T.b, T.ib, s.1⟩) x.k) s.2.snd
    have hr' : (s.2.rcv.filter fun x => !isF (t4L fb ⟨T.b, T.ib, s.1⟩) x.k) = x :: r := hr
    rw [hr', List.length_cons] at hl
    refine ent_pu ((T4.set ⟨T.b, T.ib, s.1⟩ j).fs, { s.2.cleaned (t4L fb ⟨T.b, T.ib, s.1⟩) with rcv := r }) ⟨⟨⟨hcl.snd, fun y hy => hcl.rcv y (by rw [hr]; exact List.mem_cons_of_mem _ hy), hcl.lens, ?_, p.ok.buf, p.ok.size⟩, p.cb⟩, ?_⟩ hA
    · have := p.ok.lenr
      show r.length ≤ n
      omega
    · show r.length + (s.2.snd.filter fun x => !isF (t4L fb ⟨T.b, T.ib, s.1⟩) x.k).length < s.2.rcv.length + s.2.snd.length
      omega
  snd := fun s x r p h1 hr => by
    have hT' : T4ok kb ⟨T.b, T.ib, s.1⟩ := ⟨hT.inj, hT.box⟩
    have hcl := p.ok.cl (T := ⟨T.b, T.ib, s.1⟩) (fb := fb)
    obtain ⟨j, nb, hj, e1, e2, e3, hf⟩ := p.ok.one1 (fb := fb) hT' (x := x) (by rw [hr]; exact List.mem_cons_self)
    refine ⟨j, t4T fb ⟨T.b, T.ib, s.1⟩ j, _, _, [pt tb, pt nb], [pt fb, pt (T.ib j)], TtM rb fb tb kb ⟨T.b, T.ib, s.1⟩ j { s.2.cleaned (t4L fb ⟨T.b, T.ib, s.1⟩) with snd := r } D R, t4L_get hj, e1, ⟨inferInstance⟩, ⟨inferInstance⟩, e2, rfl, tt_served e3 hj (tick2 (T := ⟨T.b, T.ib, s.1⟩) hj hf false), tt_mid hj, ?_⟩
    refine (tt_fired hT' hj hf).cong rfl (fun u k F hA => ?_)
    have hl := List.length_filter_le (fun x => !isF (t4L fb ⟨T.b, T.ib, s.1⟩) x.k) s.2.snd
    have hl2 := List.length_filter_le (fun x => !isF (t4L fb ⟨T.b, T.ib, s.1⟩) x.k) s.2.rcv
    have hr' : (s.2.snd.filter fun x => !isF (t4L fb ⟨T.b, T.ib, s.1⟩) x.k) = x :: r := hr
    have h1' : (s.2.rcv.filter fun x => !isF (t4L fb ⟨T.b, T.ib, s.1⟩) x.k) = [] := h1
    rw [hr', List.length_cons] at hl
    refine ent_pu ((T4.set ⟨T.b, T.ib, s.1⟩ j).fs, { s.2.cleaned (t4L fb ⟨T.b, T.ib, s.1⟩) with snd := r }) ⟨⟨⟨fun y hy => hcl.snd y (by rw [hr]; exact List.mem_cons_of_mem _ hy), hcl.rcv, ?_, hcl.lenr, p.ok.buf, p.ok.size⟩, p.cb⟩, ?_, ?_⟩ hA
    · have := p.ok.lens
      show r.length ≤ n
      omega
    · show (List.filter _ (List.filter _ s.2.rcv)) = []
      rw [h1']; rfl
    · show (s.2.rcv.filter fun x => !isF (t4L fb ⟨T.b, T.ib, s.1⟩) x.k).length + r.length < s.2.rcv.length + s.2.snd.length
      rw [h1']
      simp only [List.length_nil]
      omega
  fin := fun s p h1 h2 k F hA => ent_pu (s.1, s.2.cleaned (t4L fb ⟨T.b, T.ib, s.1⟩)) ⟨p.ok.cl (T := ⟨T.b, T.ib, s.1⟩), p.cb⟩ hA
theorem tt_close [Lcl R] (hT : T4ok kb T) (h : TtC kb tb T.b n C) : Sp Tryz.prog 32 #[pt C.cb] (TtA rb fb tb kb T C D R) (fun u => Ex fun e : Int => Pu (u = .int .i64 e) * TtE rb fb tb n kb T C D R) := by
  cases hc : C.closed with
  | true =>
    intro w F hA
    exact (ch_close2_i (At.init (w := w) (F := F) hA) hc).mono fun u w' ⟨h1, h2⟩ => by
      subst h1
      exact (At.init (w := w) (F := F) hA).weak fun x F hA => ent_pu 150 h2 (tte (fs := T.fs) h rfl x F hA)
  | false =>
    have := ch_close_i (R := TtR rb fb tb kb T D R) (ts := t4L fb T) (tclosing (rb := rb) (fb := fb) (tb := tb) (n := n) (D := D) (R := R) hT C.cb) (T.fs, { C with closed := true }) ⟨⟨h.snd, h.rcv, h.lens, h.lenr, h.buf, h.size⟩, rfl⟩ rfl rfl rfl hc
    refine this.cong rfl (fun u k F hA => ?_)
    obtain ⟨F1, F2, ⟨h1, rfl⟩, h2, _, e⟩ := hA
    have : F = F2 := by rw [e]; exact funext fun k => propext ⟨fun h => h.elim (fun h => h.elim) id, .inr⟩
    rw [this]
    exact ent_pu 0 h1 h2
end
end Go.Proofs.YtbaidcnalkdhgaaGreat
set_option maxRecDepth 100000
namespace Go.Proofs.YtbaidcnalkdhgaaGreat
open Go Go.Eng
section
variable {rb fb tb n j nb : Nat} {kb : List Bx} {T : T4} {C D : CH} {R : Asr} {w0 w : World} {F0 : Nat → Prop}
theorem TtC.up (h : TtC kb tb T.b n C) {m : Nat} (hm : n ≤ m) : TtC kb tb T.b m C := ⟨h.snd, h.rcv, Nat.le_trans h.lens hm, Nat.le_trans h.lenr hm, h.buf, h.size⟩
theorem tt_waitsend [Lcl R] (hn : n ≤ 1000) (h : TtC kb tb T.b n C) (S : At (TtA rb fb tb kb T C D R) w0 F0 w) (hj : j < 4) (hnb : (nb, [.int .i64 j], 3) ∈ kb) (v : Int) :
    Rets Tryz.prog 37 #[pt C.cb, .int .i64 v, pt (T.b j), .func (.func 38) #[] #[pt tb, pt nb]] w fun u w' => ∃ C', TtC kb tb T.b (n + 1) C' ∧ C'.cb = C.cb ∧ At (TtA rb fb tb kb T C' D R) w0 F0 w' := by
  have hcl := h.cl (fb := fb)
  have hs := h.lens
  have hr := h.lenr
  refine (ch_waitsend_i S h.mem1 h.mem2 ⟨by omega, by omega⟩ v (t := t4T fb T j) (List.mem_of_getElem? (t4L_get hj)) 38 36 #[pt tb, pt nb] #[pt fb, pt (T.ib j)] rfl).mono fun u w' hh => ?_
  rcases hh with ⟨_, _, h2⟩ | ⟨_, _, h2⟩
  · exact ⟨_, hcl.up (Nat.le_succ n), rfl, h2⟩
  · refine ⟨{ C.cleaned (t4L fb T) with snd := (C.cleaned (t4L fb T)).snd ++ [⟨T.b j, v, ⟨.func (.func 38) #[] #[pt tb, pt nb], rfl⟩⟩] }, ⟨fun x hx => ?_, hcl.rcv, ?_, Nat.le_succ_of_le hcl.lenr, h.buf, h.size⟩, rfl, h2⟩
    · rcases List.mem_append.1 hx with hx | hx
      · exact hcl.snd x hx
      · rw [List.mem_singleton.1 hx]
        exact ⟨j, nb, hj, rfl, rfl, hnb⟩
    · have := hcl.lens
      show (_ ++ [_] : List SE).length ≤ n + 1
      rw [List.length_append, List.length_singleton]; omega
theorem tt_waitrecv [Lcl R] (hn : n ≤ 1000) (h : TtC kb tb T.b n C) (S : At (TtA rb fb tb kb T C D R) w0 F0 w) (hj : j < 4) (hnb : (nb, [.int .i64 j], 3) ∈ kb) :
    Rets Tryz.prog 39 #[pt C.cb, pt (T.b j), .func (.func 40) #[] #[pt tb, pt nb]] w fun u w' => ∃ C', TtC kb tb T.b (n + 1) C' ∧ C'.cb = C.cb ∧ At (TtA rb fb tb kb T C' D R) w0 F0 w' := by
  have hcl := h.cl (fb := fb)
  have hs := h.lens
  have hr := h.lenr
  refine (ch_waitrecv_i S h.mem1 h.mem2 ⟨by omega, by omega⟩ (t := t4T fb T j) (List.mem_of_getElem? (t4L_get hj)) 40 36 #[pt tb, pt nb] #[pt fb, pt (T.ib j)] rfl).mono fun u w' hh => ?_
  rcases hh with ⟨_, _, h2⟩ | ⟨_, _, h2⟩
  · exact ⟨_, hcl.up (Nat.le_succ n), rfl, h2⟩
  · refine ⟨{ C.cleaned (t4L fb T) with rcv := (C.cleaned (t4L fb T)).rcv ++ [⟨T.b j, ⟨.func (.func 40) #[] #[pt tb, pt nb], rfl⟩⟩] }, ⟨hcl.snd, fun x hx => ?_, Nat.le_succ_of_le hcl.lens, ?_, h.buf, h.size⟩, rfl, h2⟩
    · rcases List.mem_append.1 hx with hx | hx
      · exact hcl.rcv x hx
      · rw [List.mem_singleton.1 hx]
        exact ⟨j, nb, hj, rfl, rfl, hnb⟩
    · have := hcl.lenr
      show (_ ++ [_] : List RE).length ≤ n + 1
      rw [List.length_append, List.length_singleton]; omega
theorem tt_forget [Lcl R] (hn : n ≤ 1000) (h : TtC kb tb T.b n C) (S : At (TtA rb fb tb kb T C D R) w0 F0 w) (hj : j < 4) :
    Rets Tryz.prog 41 #[pt C.cb, pt (T.b j)] w fun u w' => ∃ C', TtC kb tb T.b n C' ∧ C'.cb = C.cb ∧ At (TtA rb fb tb kb T C' D R) w0 F0 w' := by
  have hcl := h.cl (fb := fb)
  have hs := h.lens
  have hr := h.lenr
  refine (ch_forget_i S ⟨by omega, by omega⟩ h.mem1 h.mem2 (t := t4T fb T j) (List.mem_of_getElem? (t4L_get hj))).mono fun u w' ⟨_, h2⟩ => ⟨(C.cleaned (t4L fb T)).without (T.b j), ⟨fun x hx => hcl.snd x (List.mem_filter.1 hx).1, fun x hx => hcl.rcv x (List.mem_filter.1 hx).1, Nat.le_trans (List.length_filter_le _ _) hcl.lens, Nat.le_trans (List.length_filter_le _ _) hcl.lenr, h.buf, h.size⟩, rfl, h2⟩
theorem tt_waits [Lcl R] (h : TtC kb tb T.b n C) (S : At (TtA rb fb tb kb T C D R) w0 F0 w) :
    Rets Tryz.prog 25 #[pt C.cb] w fun u w' => ∃ a b : Nat, u = .tuple #[.int .i64 a, .int .i64 b] ∧ ∃ C', TtC kb tb T.b n C' ∧ C'.cb = C.cb ∧ At (TtA rb fb tb kb T C' D R) w0 F0 w' :=
  (ch_waits_i S h.mem1 h.mem2).mono fun u w' ⟨h1, h2⟩ => ⟨_, _, h1, _, h.cl, rfl, h2⟩
theorem tte_open (S : At (TtE rb fb tb n kb T C D R) w0 F0 w) : ∃ fs C', TtC kb tb T.b n C' ∧ C'.cb = C.cb ∧ At (TtA rb fb tb kb ⟨T.b, T.ib, fs⟩ C' D R) w0 F0 w := by
  unfold TtE at S
  obtain ⟨s, S⟩ := S.ex1
  obtain ⟨⟨h1, h2⟩, S⟩ := S.pure
  exact ⟨s.1, s.2, h1, h2, S⟩
theorem tt_trysend' [Lcl R] (hT : T4ok kb T) (h : TtC kb tb T.b n C) (S : At (TtA rb fb tb kb T C D R) w0 F0 w) (v : Int) : Rets Tryz.prog 33 #[pt C.cb, .int .i64 v] w fun u w' => ∃ fs C', TtC kb tb T.b n C' ∧ C'.cb = C.cb ∧ At (TtA rb fb tb kb ⟨T.b, T.ib, fs⟩ C' D R) w0 F0 w' :=
  ((tt_trysend hT h v).at1 S).mono fun u w' hh => by
    obtain ⟨x, hh⟩ := hh.ex1
    exact tte_open hh.pure.2
theorem tt_tryrecv' [Lcl R] (hT : T4ok kb T) (h : TtC kb tb T.b n C) (S : At (TtA rb fb tb kb T C D R) w0 F0 w) : Rets Tryz.prog 34 #[pt C.cb] w fun u w' => ∃ fs C', TtC kb tb T.b n C' ∧ C'.cb = C.cb ∧ At (TtA rb fb tb kb ⟨T.b, T.ib, fs⟩ C' D R) w0 F0 w' :=
  ((tt_tryrecv hT h).at1 S).mono fun u w' hh => by
    obtain ⟨x, hh⟩ := hh.ex1
    exact tte_open hh.pure.2
theorem tt_close' [Lcl R] (hT : T4ok kb T) (h : TtC kb tb T.b n C) (S : At (TtA rb fb tb kb T C D R) w0 F0 w) : Rets Tryz.prog 32 #[pt C.cb] w fun u w' => ∃ fs C', TtC kb tb T.b n C' ∧ C'.cb = C.cb ∧ At (TtA rb fb tb kb ⟨T.b, T.ib, fs⟩ C' D R) w0 F0 w' :=
  ((tt_close hT h).at1 S).mono fun u w' hh => by
    obtain ⟨x, hh⟩ := hh.ex1
    exact tte_open hh.pure.2
instance instLclTtA [Lcl R] : Lcl (TtA rb fb tb kb T C D R) := by unfold TtA; infer_instance
theorem tta_swap (S : At (TtA rb fb tb kb T C D R) w0 F0 w) : At (TtA rb fb tb kb T D C R) w0 F0 w := S.ac (by unfold TtA TtR; ac_rfl)
theorem tta_box {b : Nat} {cs : List Value} {Ty : TypeId} (S : At (Pt b cs Ty * TtA rb fb tb kb T C D R) w0 F0 w) : At (TtA rb fb tb ((b, cs, Ty) :: kb) T C D R) w0 F0 w := S.ac (by unfold TtA TtR; rw [bxl_cons]; ac_rfl)
theorem TtC.bx {kb' : List Bx} (h : TtC kb tb T.b n C) (hk : ∀ b ∈ kb, b ∈ kb') : TtC kb' tb T.b n C := ⟨fun x hx => by
  obtain ⟨j, nb, a, b, c, d⟩ := h.snd x hx
  exact ⟨j, nb, a, b, c, hk _ d⟩, fun x hx => by
  obtain ⟨j, nb, a, b, c, d⟩ := h.rcv x hx
  exact ⟨j, nb, a, b, c, hk _ d⟩, h.lens, h.lenr, h.buf, h.size⟩
theorem T4ok.bx {kb' : List Bx} (h : T4ok kb T) (hk : ∀ b ∈ kb, b ∈ kb') : T4ok kb' T := ⟨h.inj, fun j hj => hk _ (h.box j hj)⟩
end
end Go.Proofs.YtbaidcnalkdhgaaGreat
