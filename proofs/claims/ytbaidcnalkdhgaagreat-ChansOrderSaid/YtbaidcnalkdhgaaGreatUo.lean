/- Layer 16: the chapter's example: the walk. Layer 16: some send numbers of their own, others receive: plain. Layer 16: some send numbers of their own, others receive: a turn keeps what holds. Layer 16: some send numbers of their own, others receive: a turn keeps what holds, and costs one. Layer 16: some send numbers of their own, others receive: how it begins, how it ends. Layer 16: ChansOrder: the law's closures. Layer 16: ChansOrder: what goes on behind a send, a receive; a task's first turn. Layer 16: ChansOrder: a step of the law's world. Layer 16: ChansOrder: Run to the end. -/
import Derived.Test.YtbaidcnalkdhgaaGreatVp
set_option maxRecDepth 100000
namespace Go.Proofs.YtbaidcnalkdhgaaGreat
open Go Go.Eng
theorem len1 {α : Type} : ∀ {l : List α}, l.length = 1 → ∃ x, l = [x]
  | [x], _ => ⟨x, rfl⟩
theorem len2 {α : Type} : ∀ {l : List α}, l.length = 2 → ∃ x y, l = [x, y]
  | [x, y], _ => ⟨x, y, rfl⟩
def nl0 : OV := ⟨.slice none 0 0, rfl⟩
def pa16 (b1 b2 : Nat) : List (OV × List Do5) := [(⟨.slice (some ⟨b1, 0, none⟩) 2 2, rfl⟩, [⟨2, 0, 5, nl0, false⟩, ⟨4, 0, 0, nl0, false⟩]), (⟨.slice (some ⟨b2, 0, none⟩) 2 2, rfl⟩, [⟨3, 0, 0, nl0, false⟩, ⟨3, 0, 0, nl0, false⟩])]
def Qa16 : List (List Do5) := [[⟨2, 0, 5, nl0, false⟩, ⟨4, 0, 0, nl0, false⟩], [⟨3, 0, 0, nl0, false⟩, ⟨3, 0, 0, nl0, false⟩]]
/-- the last that task 1 was told as it went on the first time -/
def lastE (E : List Ev5) (k : Nat) : Ev5 := (E.take k).foldl (fun acc e => if e.t = 1 ∧ e.a = 1 then e else acc) ⟨0, 0, 0, 0, false⟩
theorem run16a (t0 t1 cb : Nat) : runF (step16 Qa16) [1, 0] 20 0 (⟨[.rdyS ⟨t0, 0, 1, ⟨0, 0, false⟩⟩ true, .rdyR ⟨t1, 1, 1, ⟨0, 0, false⟩⟩ 5 true], [t0, t1], [⟨cb, 0, [], [], [], false⟩], [0, 1]⟩, [⟨0, 0, 0, 0, false⟩, ⟨1, 0, 0, 0, false⟩]) = (4, (⟨[.over, .over], [t0, t1], [⟨cb, 0, [], [], [], true⟩], []⟩, [⟨0, 0, 0, 0, false⟩, ⟨1, 0, 0, 0, false⟩, ⟨1, 1, 0, 5, true⟩, ⟨0, 1, 0, 0, true⟩, ⟨0, 2, 0, 0, true⟩, ⟨1, 2, 0, 0, false⟩])) := by
  rw [runF_some (s' := (⟨[.rdyS ⟨t0, 0, 1, ⟨0, 0, false⟩⟩ true, .wR ⟨t1, 1, 2, ⟨0, 0, false⟩⟩ 0], [t0, t1], [⟨cb, 0, [], [], [1], false⟩], [0]⟩, [⟨0, 0, 0, 0, false⟩, ⟨1, 0, 0, 0, false⟩, ⟨1, 1, 0, 5, true⟩])) (show step16 Qa16 (⟨[.rdyS ⟨t0, 0, 1, ⟨0, 0, false⟩⟩ true, .rdyR ⟨t1, 1, 1, ⟨0, 0, false⟩⟩ 5 true], [t0, t1], [⟨cb, 0, [], [], [], false⟩], [0, 1]⟩, [⟨0, 0, 0, 0, false⟩, ⟨1, 0, 0, 0, false⟩]) (pkA [1, 0] 0) = _ from rfl)]
  rw [runF_some (s' := (⟨[.rdyY ⟨t0, 0, 2, ⟨0, 0, true⟩⟩, .rdyR ⟨t1, 1, 2, ⟨0, 0, false⟩⟩ 0 false], [t0, t1], [⟨cb, 0, [], [], [], true⟩], [1, 0]⟩, [⟨0, 0, 0, 0, false⟩, ⟨1, 0, 0, 0, false⟩, ⟨1, 1, 0, 5, true⟩, ⟨0, 1, 0, 0, true⟩])) (show step16 Qa16 (⟨[.rdyS ⟨t0, 0, 1, ⟨0, 0, false⟩⟩ true, .wR ⟨t1, 1, 2, ⟨0, 0, false⟩⟩ 0], [t0, t1], [⟨cb, 0, [], [], [1], false⟩], [0]⟩, [⟨0, 0, 0, 0, false⟩, ⟨1, 0, 0, 0, false⟩, ⟨1, 1, 0, 5, true⟩]) (pkA [1, 0] 1) = _ from rfl)]
  rw [runF_some (s' := (⟨[.over, .rdyR ⟨t1, 1, 2, ⟨0, 0, false⟩⟩ 0 false], [t0, t1], [⟨cb, 0, [], [], [], true⟩], [1]⟩, [⟨0, 0, 0, 0, false⟩, ⟨1, 0, 0, 0, false⟩, ⟨1, 1, 0, 5, true⟩, ⟨0, 1, 0, 0, true⟩, ⟨0, 2, 0, 0, true⟩])) (show step16 Qa16 (⟨[.rdyY ⟨t0, 0, 2, ⟨0, 0, true⟩⟩, .rdyR ⟨t1, 1, 2, ⟨0, 0, false⟩⟩ 0 false], [t0, t1], [⟨cb, 0, [], [], [], true⟩], [1, 0]⟩, [⟨0, 0, 0, 0, false⟩, ⟨1, 0, 0, 0, false⟩, ⟨1, 1, 0, 5, true⟩, ⟨0, 1, 0, 0, true⟩]) (pkA [1, 0] 2) = _ from rfl)]
  rw [runF_some (s' := (⟨[.over, .over], [t0, t1], [⟨cb, 0, [], [], [], true⟩], []⟩, [⟨0, 0, 0, 0, false⟩, ⟨1, 0, 0, 0, false⟩, ⟨1, 1, 0, 5, true⟩, ⟨0, 1, 0, 0, true⟩, ⟨0, 2, 0, 0, true⟩, ⟨1, 2, 0, 0, false⟩])) (show step16 Qa16 (⟨[.over, .rdyR ⟨t1, 1, 2, ⟨0, 0, false⟩⟩ 0 false], [t0, t1], [⟨cb, 0, [], [], [], true⟩], [1]⟩, [⟨0, 0, 0, 0, false⟩, ⟨1, 0, 0, 0, false⟩, ⟨1, 1, 0, 5, true⟩, ⟨0, 1, 0, 0, true⟩, ⟨0, 2, 0, 0, true⟩]) (pkA [1, 0] 3) = _ from rfl)]
  exact runF_none (show step16 Qa16 (⟨[.over, .over], [t0, t1], [⟨cb, 0, [], [], [], true⟩], []⟩, [⟨0, 0, 0, 0, false⟩, ⟨1, 0, 0, 0, false⟩, ⟨1, 1, 0, 5, true⟩, ⟨0, 1, 0, 0, true⟩, ⟨0, 2, 0, 0, true⟩, ⟨1, 2, 0, 0, false⟩]) (pkA [1, 0] 4) = none from rfl)
theorem awake16 (w : World) : Rets Tryz.prog 28 #[] w fun u w' => u = .bool true ∧ Fr No w w' := by
  refine rets_of Tryz.func28 rfl Tryz.ntmps28 rfl rfl (by kernel_rfl) ?_
  (apply vC_seq; apply vC_region; ((apply vL_val); (case h => ((apply opv_E); exact rfl))); apply vL_nil; apply seqP_normal; apply vC_seq; apply vC_region; (iterate 6 (first | ((with_reducible apply vL_val); (case h => ((with_reducible apply opv_buildS); exact rfl; exact (rfl : _ = some [_, _, _, _, _])))) | ((with_reducible apply vL_val); (case h => ((with_reducible apply opw_buildSl); exact rfl; exact rfl; exact rfl; exact (rfl : _ = some [_, _, _, _, _, _, _, _, _, _])))))); ((apply vL_val); (case h => ((apply opw_buildSl); exact rfl; exact rfl; exact rfl; exact (rfl : _ = some [_, _])))); ((apply vL_val); (case h => ((apply opw_buildSl); exact rfl; exact rfl; exact rfl; exact (rfl : _ = some [_])))))
  refine vL_gen (fun w' => Fr No w w' ∧ Blk w'.heap w.heap.size [.int .i64 2, .int .i64 0, .int .i64 5, .slice none 0 0, .bool false, .int .i64 4, .int .i64 0, .int .i64 0, .slice none 0 0, .bool false] 167 ∧ Blk w'.heap (w.alloc (.cells #[.int .i64 2, .int .i64 0, .int .i64 5, .slice none 0 0, .bool false, .int .i64 4, .int .i64 0, .int .i64 0, .slice none 0 0, .bool false] 167)).heap.size [.int .i64 3, .int .i64 0, .int .i64 0, .slice none 0 0, .bool false, .int .i64 3, .int .i64 0, .int .i64 0, .slice none 0 0, .bool false] 167 ∧ Blk w'.heap ((w.alloc (.cells #[.int .i64 2, .int .i64 0, .int .i64 5, .slice none 0 0, .bool false, .int .i64 4, .int .i64 0, .int .i64 0, .slice none 0 0, .bool false] 167)).alloc (.cells #[.int .i64 3, .int .i64 0, .int .i64 0, .slice none 0 0, .bool false, .int .i64 3, .int .i64 0, .int .i64 0, .slice none 0 0, .bool false] 167)).heap.size [.slice (some ⟨w.heap.size, 0, none⟩) 2 2, .slice (some ⟨(w.alloc (.cells #[.int .i64 2, .int .i64 0, .int .i64 5, .slice none 0 0, .bool false, .int .i64 4, .int .i64 0, .int .i64 0, .slice none 0 0, .bool false] 167)).heap.size, 0, none⟩) 2 2] 168 ∧ Blk w'.heap (((w.alloc (.cells #[.int .i64 2, .int .i64 0, .int .i64 5, .slice none 0 0, .bool false, .int .i64 4, .int .i64 0, .int .i64 0, .slice none 0 0, .bool false] 167)).alloc (.cells #[.int .i64 3, .int .i64 0, .int .i64 0, .slice none 0 0, .bool false, .int .i64 3, .int .i64 0, .int .i64 0, .slice none 0 0, .bool false] 167)).alloc (.cells #[.slice (some ⟨w.heap.size, 0, none⟩) 2 2, .slice (some ⟨(w.alloc (.cells #[.int .i64 2, .int .i64 0, .int .i64 5, .slice none 0 0, .bool false, .int .i64 4, .int .i64 0, .int .i64 0, .slice none 0 0, .bool false] 167)).heap.size, 0, none⟩) 2 2] 168)).heap.size [.int .i64 0] 3) ⟨by ((iterate 4 (apply Fr.alloc)); exact Fr.refl _ _), Blk.as inferInstance rfl, Blk.as inferInstance rfl, Blk.as inferInstance rfl, Blk.as inferInstance rfl⟩ ?_
  rintro w4 ⟨hf4, k1, k2, k3, k4⟩
  generalize (((w.alloc (.cells #[.int .i64 2, .int .i64 0, .int .i64 5, .slice none 0 0, .bool false, .int .i64 4, .int .i64 0, .int .i64 0, .slice none 0 0, .bool false] 167)).alloc (.cells #[.int .i64 3, .int .i64 0, .int .i64 0, .slice none 0 0, .bool false, .int .i64 3, .int .i64 0, .int .i64 0, .slice none 0 0, .bool false] 167)).alloc (.cells #[.slice (some ⟨w.heap.size, 0, none⟩) 2 2, .slice (some ⟨(w.alloc (.cells #[.int .i64 2, .int .i64 0, .int .i64 5, .slice none 0 0, .bool false, .int .i64 4, .int .i64 0, .int .i64 0, .slice none 0 0, .bool false] 167)).heap.size, 0, none⟩) 2 2] 168)).heap.size = b4 at *
  generalize ((w.alloc (.cells #[.int .i64 2, .int .i64 0, .int .i64 5, .slice none 0 0, .bool false, .int .i64 4, .int .i64 0, .int .i64 0, .slice none 0 0, .bool false] 167)).alloc (.cells #[.int .i64 3, .int .i64 0, .int .i64 0, .slice none 0 0, .bool false, .int .i64 3, .int .i64 0, .int .i64 0, .slice none 0 0, .bool false] 167)).heap.size = b3 at *
  generalize (w.alloc (.cells #[.int .i64 2, .int .i64 0, .int .i64 5, .slice none 0 0, .bool false, .int .i64 4, .int .i64 0, .int .i64 0, .slice none 0 0, .bool false] 167)).heap.size = b2 at *
  generalize w.heap.size = b1 at *
  have z : Pz16 w4.heap (.slice (some ⟨b3, 0, none⟩) 2 2) (pa16 b1 b2) := ⟨rd_lit (enc := oE) (pa16 b1 b2) k3 rfl (show 2 ≤ 10 by decide), fun y hy => by
    simp only [pa16, List.mem_cons, List.not_mem_nil, or_false] at hy
    rcases hy with rfl | rfl
    · exact rd_lit (enc := do5) [⟨2, 0, 5, nl0, false⟩, ⟨4, 0, 0, nl0, false⟩] k1 rfl (by decide)
    · exact rd_lit (enc := do5) [⟨3, 0, 0, nl0, false⟩, ⟨3, 0, 0, nl0, false⟩] k2 rfl (by decide), rfl⟩
  have hs : Rd w4.heap 1 iE (.slice (some ⟨b4, 0, none⟩) 1 1) [0] := rd_lit (enc := iE) [0] k4 rfl (by decide)
  have hPm : (pa16 b1 b2).map (·.2) = Qa16 := rfl
  refine vL_callF rfl (begun16 z (show 2 ≤ 6 by decide) hs (by decide) (by decide) rfl) rfl ?_
  rintro _ w5 ⟨wb, qb, rb, cl, tl, kb, rfl, hcl, htl, S5⟩
  obtain ⟨⟨cb, c0⟩, rfl⟩ : ∃ x, cl = [x] := len1 (by have := congrArg List.length hcl; simpa using this)
  obtain rfl : c0 = 0 := by simpa using hcl
  obtain ⟨t0, t1, rfl⟩ : ∃ t0 t1, tl = [t0, t1] := len2 htl
  have I0 : Inv16 ((pa16 b1 b2).map (·.2)) [(cb, 0)] [t0, t1] (ps0 [(cb, 0)] [t0, t1], []) := inv16_init rfl
  have pr : Pr16 w4 (.slice (some ⟨b3, 0, none⟩) 2 2) (pa16 b1 b2) [(cb, 0)] := ⟨z, show 2 ≤ 6 by decide, fun y hy d hd => by
    simp only [pa16, List.mem_cons, List.not_mem_nil, or_false] at hy
    rcases hy with rfl | rfl <;> (simp only [List.mem_cons, List.not_mem_nil, or_false] at hd; rcases hd with rfl | rfl <;> exact ⟨Int.le_refl _, show (0 : Int) < 1 by decide⟩), Nat.one_pos⟩
  generalize (.slice (some ⟨b3, 0, none⟩) 2 2 : Value) = vp at *
  have S6 : At (W16 wb rb vp [(cb, 0)] [t0, t1] (ps0 [(cb, 0)] [t0, t1], []) * RwA qb vp (rwI ([0].map row0) (pa16 b1 b2).length)) w4 No w5 := w16_shut S5
  clear S5 k1 k2 k3 k4 hs z
  obtain ⟨_, _, _, h51, h52, h53, h54, h55, h56, h57⟩ := w16_see S6
  ((iterate 5 (((apply vL_val); (case h => ((apply opv_E); exact rfl))))); apply vL_nil; apply seqP_normal; (iterate 2 (apply vC_seq)); apply vC_region; (iterate 8 (first | ((with_reducible apply vL_val); (case h => ((with_reducible apply opv_E); exact rfl))) | ((with_reducible apply vL_val); (case h => ((with_reducible apply opv_eql_pnil); exact rfl; exact rfl; (simp; done)))) | ((with_reducible apply vL_wanted); exact rfl))); ((apply vL_val); (case h => ((apply opv_fieldAddr); exact rfl))); ((apply vL_wanted); exact rfl); ((apply vL_val); (case h => ((apply opv_loadb1); exact rfl; exact rfl; assumption; exact rfl))); ((apply vL_wanted); exact rfl))
  refine vL_callF rfl (w16_step pr S6 I0 (Nat.zero_le _) 0 (by decide)) rfl ?_
  rw [hPm]
  have hs1 : step16 Qa16 (ps0 [(cb, 0)] [t0, t1], []) 0 = some (⟨[.wS ⟨t0, 0, 1, ⟨0, 0, false⟩⟩ 0 5, .rdyY ⟨t1, 1, 0, ⟨0, 0, false⟩⟩], [t0, t1], [⟨cb, 0, [], [0], [], false⟩], [1]⟩, [⟨0, 0, 0, 0, false⟩]) := rfl
  rw [hs1]
  rintro _ w6 (⟨h, _⟩ | ⟨T1, h, I1, hl1, rfl, S7⟩)
  · cases h
  obtain rfl := Option.some.inj h
  clear h hs1 h51 h52 h53 h54 S6 hl1 I0
  obtain ⟨_, _, _, h61, h62, h63, h64, h65, h66, h67⟩ := w16_see S7
  (((apply vL_wanted); exact rfl); ((apply vL_val); (case h => ((apply opv_not); exact rfl))); (iterate 7 (first | ((with_reducible apply vL_val); (case h => ((with_reducible apply opv_E); exact rfl))) | ((with_reducible apply vL_wanted); exact rfl))); ((apply vL_val); (case h => ((apply opv_fieldAddr); exact rfl))); ((apply vL_wanted); exact rfl); ((apply vL_val); (case h => ((apply opv_loadb1); exact rfl; exact rfl; assumption; exact rfl))); ((apply vL_wanted); exact rfl))
  obtain ⟨kb1, S8⟩ := w16_open S7
  refine vL_callF rfl (pw_parked S8) rfl ?_
  intro v7 w7 S9
  have o9 : Own w7.heap 3 1 iE v7 [0] := S9.own.1
  have S10 := w16_shut S9.drop
  obtain ⟨_, _, _, h71, h72, h73, h74, h75, h76, h77⟩ := w16_see S10
  obtain ⟨ra, rn, rc, rfl⟩ := o9.isSlice
  clear h61 h62 h63 h64 S7 S8 S9
  (((apply vL_wanted); exact rfl); ((apply vL_val); (case h => ((apply opw_buildSl); exact rfl; exact rfl; exact rfl; exact (rfl : _ = some [_])))); ((apply vL_wanted); exact rfl))
  refine vL_callF rfl (kit_same_int _ _ [0] [0] _ (o9.rd.alloc) (Rd.new1 iE 0 rfl)) rfl ?_
  rintro _ w8 ⟨⟨k8, rfl⟩, rfl⟩
  have S11 := S10.frN (show Fr No w7 ((w7.alloc (.cells #[.int .i64 0] 3)).drewN k8) by (apply Fr.drewN; apply Fr.alloc; exact Fr.refl _ _))
  obtain ⟨_, _, _, h81, h82, h83, h84, h85, h86, h87⟩ := w16_see S11
  clear h71 h72 h73 h74 S10 o9
  generalize (w7.alloc (.cells #[.int .i64 0] 3)).drewN k8 = w8 at *
  (((apply vL_wanted); exact rfl); ((apply vL_val); (case h => ((apply opv_not); exact rfl))); (iterate 7 (first | ((with_reducible apply vL_val); (case h => ((with_reducible apply opv_E); exact rfl))) | ((with_reducible apply vL_wanted); exact rfl))); ((apply vL_val); (case h => ((apply opv_fieldAddr); exact rfl))); ((apply vL_wanted); exact rfl); ((apply vL_val); (case h => ((apply opv_loadb1); exact rfl; exact rfl; assumption; exact rfl))); ((apply vL_wanted); exact rfl))
  refine vL_callF rfl (w16_step pr S11 I1 (show 1 ≤ 100000 by decide) 0 (by decide)) rfl ?_
  rw [hPm]
  have hs2 : step16 Qa16 (⟨[.wS ⟨t0, 0, 1, ⟨0, 0, false⟩⟩ 0 5, .rdyY ⟨t1, 1, 0, ⟨0, 0, false⟩⟩], [t0, t1], [⟨cb, 0, [], [0], [], false⟩], [1]⟩, [⟨0, 0, 0, 0, false⟩]) 0 = some (⟨[.rdyS ⟨t0, 0, 1, ⟨0, 0, false⟩⟩ true, .rdyR ⟨t1, 1, 1, ⟨0, 0, false⟩⟩ 5 true], [t0, t1], [⟨cb, 0, [], [], [], false⟩], [0, 1]⟩, [⟨0, 0, 0, 0, false⟩, ⟨1, 0, 0, 0, false⟩]) := rfl
  rw [hs2]
  rintro _ w9 (⟨h, _⟩ | ⟨T1, h, I2, hl2, rfl, S12⟩)
  · cases h
  obtain rfl := Option.some.inj h
  clear h hs2 h81 h82 h83 h84 S11 hl2 I1
  obtain ⟨_, _, _, h91, h92, h93, h94, h95, h96, h97⟩ := w16_see S12
  (((apply vL_wanted); exact rfl); ((apply vL_val); (case h => ((apply opv_not); exact rfl))); (iterate 7 (first | ((with_reducible apply vL_val); (case h => ((with_reducible apply opv_E); exact rfl))) | ((with_reducible apply vL_wanted); exact rfl))); ((apply vL_val); (case h => ((apply opv_fieldAddr); exact rfl))); ((apply vL_wanted); exact rfl); ((apply vL_val); (case h => ((apply opv_loadb1); exact rfl; exact rfl; assumption; exact rfl))); ((apply vL_wanted); exact rfl))
  obtain ⟨kb2, S13⟩ := w16_open S12
  refine vL_callF rfl (pw_ready S13) rfl ?_
  intro v10 w10 S14
  have o10 : Own w10.heap 3 1 iE v10 [0, 1] := S14.own.1
  have S15 := w16_shut S14.drop
  obtain ⟨_, _, _, h101, h102, h103, h104, h105, h106, h107⟩ := w16_see S15
  obtain ⟨qa, qn, qc, rfl⟩ := o10.isSlice
  clear h91 h92 h93 h94 S12 S13 S14
  (((apply vL_wanted); exact rfl); ((apply vL_val); (case h => ((apply opw_buildSl); exact rfl; exact rfl; exact rfl; exact (rfl : _ = some [_, _])))); ((apply vL_wanted); exact rfl))
  refine vL_callF rfl (kit_same_int _ _ [0, 1] [0, 1] _ (o10.rd.alloc) (Rd.newN iE [0, 1] rfl rfl (by decide))) rfl ?_
  rintro _ w11 ⟨⟨k11, rfl⟩, rfl⟩
  have S16 := S15.frN (show Fr No w10 ((w10.alloc (.cells #[.int .i64 0, .int .i64 1] 3)).drewN k11) by (apply Fr.drewN; apply Fr.alloc; exact Fr.refl _ _))
  obtain ⟨_, _, _, h111, h112, h113, h114, h115, h116, h117⟩ := w16_see S16
  clear h101 h102 h103 h104 S15 o10
  generalize (w10.alloc (.cells #[.int .i64 0, .int .i64 1] 3)).drewN k11 = w11 at *
  (((apply vL_wanted); exact rfl); ((apply vL_val); (case h => ((apply opv_not); exact rfl))); ((apply vL_val); (case h => ((apply opv_E); exact rfl))); apply vL_nil; apply seqP_normal; ((apply vC_cond_false); exact rfl); apply vC_skip; apply seqP_normal; apply vC_seq; apply vC_region; (iterate 2 (((apply vL_val); (case h => ((apply opv_E); exact rfl))))); ((apply vL_val); (case h => ((apply opv_fieldAddr); exact rfl))); ((apply vL_val); (case h => ((apply opv_loadb1); exact rfl; exact rfl; assumption; exact rfl))); ((apply vL_val); (case h => ((apply opw_buildSl); exact rfl; exact rfl; exact rfl; exact (rfl : _ = some [_, _])))))
  refine vL_gen (fun w' => At (Pt w11.heap.size [.int .u64 1, .int .u64 0] 43 * (W16 wb rb vp [(cb, 0)] [t0, t1] (⟨[.rdyS ⟨t0, 0, 1, ⟨0, 0, false⟩⟩ true, .rdyR ⟨t1, 1, 1, ⟨0, 0, false⟩⟩ 5 true], [t0, t1], [⟨cb, 0, [], [], [], false⟩], [0, 1]⟩, [⟨0, 0, 0, 0, false⟩, ⟨1, 0, 0, 0, false⟩]) * RwA qb vp (rwI ([0].map row0) (pa16 b1 b2).length))) w4 No w') S16.alloc ?_
  clear h111 h112 h113 h114 S16
  intro w12 S17
  generalize w11.heap.size = bk at *
  have hrg := run_gen (fun T => W16 wb rb vp [(cb, 0)] [t0, t1] T) (step16 Qa16) (fun n T => Inv16 Qa16 [(cb, 0)] [t0, t1] T ∧ T.2.length ≤ n + 2) (R := Pt bk [.int .u64 1, .int .u64 0] 43 * RwA qb vp (rwI ([0].map row0) (pa16 b1 b2).length)) (picks := [1, 0]) 20 (by decide) (fun n T p w' hn hG hp S => (w16_step pr S hG.1 (by omega) p hp).mono fun u w'' h => h.imp (fun h => h) (fun ⟨T', g1, g2, g3, g4, g5⟩ => ⟨T', g1, ⟨g2, by omega⟩, g4, g5⟩)) (fun T w' S => rd_lit (enc := uE) [1, 0] (S.ac (show _ = Pt bk [.int .u64 1, .int .u64 0] 43 * (RwA qb vp (rwI ([0].map row0) (pa16 b1 b2).length) * W16 wb rb vp [(cb, 0)] [t0, t1] T) by ac_rfl)).blk rfl (by decide)) (by decide) _ ⟨I2, Nat.le_refl _⟩ (S17.ac (by ac_rfl))
  refine vL_callF rfl (hrg) rfl ?_
  rintro _ w13 ⟨n, T3, hrun, rfl, ⟨I3, _⟩, S18⟩
  have hr4 := (run16a t0 t1 cb).symm.trans hrun
  obtain ⟨rfl, rfl⟩ := Prod.mk.inj hr4
  clear hr4 hrun hrg
  obtain ⟨R4, hR4⟩ : ∃ R4, R4 = Pt bk [.int .u64 1, .int .u64 0] 43 * RwA qb vp (rwI ([0].map row0) (pa16 b1 b2).length) := ⟨_, rfl⟩
  rw [← hR4] at S18
  haveI : Lcl R4 := by rw [hR4]; infer_instance
  clear hR4 S17
  obtain ⟨kb3, S19⟩ := w16_open S18
  obtain ⟨E, hE⟩ : ∃ E : List Ev5, E = [⟨0, 0, 0, 0, false⟩, ⟨1, 0, 0, 0, false⟩, ⟨1, 1, 0, 5, true⟩, ⟨0, 1, 0, 0, true⟩, ⟨0, 2, 0, 0, true⟩, ⟨1, 2, 0, 0, false⟩] := ⟨_, rfl⟩
  simp only [← hE] at S19
  obtain ⟨cv, tv, ev, S20⟩ := wa_open (S19.ac (show _ = WA wb rb vp [cb] [t0, t1] E false * (PWA (L16 wb) rb none 0 kb3 ⟨[.over, .over], [t0, t1], [⟨cb, 0, [], [], [], true⟩], []⟩ * R4) by ac_rfl))
  have hb20 := S20.blk
  have hE6 : E.length = 6 := by rw [hE]; rfl
  obtain ⟨R5, hR5⟩ : ∃ R5, R5 = Pt wb [pt rb, vp, cv, tv, ev, .bool false] 61 * (Ow 28 1 ptE cv [cb] * (Ow 34 1 ptE tv [t0, t1] * (PWA (L16 wb) rb none 0 kb3 ⟨[.over, .over], [t0, t1], [⟨cb, 0, [], [], [], true⟩], []⟩ * R4))) := ⟨_, rfl⟩
  have S21 : At (Ow 100 5 ev5 ev E * R5) w4 No w13 := S20.ac (by rw [hR5]; ac_rfl)
  haveI : Lcl R5 := by rw [hR5]; infer_instance
  have o21 := S21.own.1
  have o211 := S21.own.2
  obtain ⟨ea, ec, rfl⟩ := o21.rd.len
  clear S18 S19 S20
  (apply vL_nil; apply seqP_normal; apply vC_seq; apply vC_region; ((apply vL_val); (case h => ((apply opv_buildS); exact rfl; exact (rfl : _ = some [_, _, _, _, _])))); ((apply vL_val); (case h => (apply opw_alloc))); ((apply vL_skip); (case h => ((apply ops_storen); exact norm_eq rfl; exact norm_eq rfl; exact rfl; (intro u hu; simp at hu; rcases hu with rfl | rfl <;> (first | rfl | assumption)); infer_instance; (first | decide | exact of_decide_eq_true rfl | (simp; done))))); apply vL_nil; apply seqP_normal; (iterate 2 (apply vC_seq)); apply vC_region; (iterate 2 (((apply vL_val); (case h => ((apply opv_E); exact rfl))))); ((apply vL_val); (case h => ((apply opv_fieldAddr); exact rfl))); ((apply vL_val); (case h => ((apply opv_loadb1); exact rfl; exact rfl; infer_instance; exact rfl))); ((apply vL_val); (case h => ((apply opv_lenc); exact rfl))); ((apply vL_val); (case h => ((apply opv_E); exact rfl))); apply vL_nil; apply seqP_normal; apply vC_block)
  refine vC_gen (fun w' => At (Pt w13.heap.size (ev5 (lastE E 0)) 100 * (Ow 100 5 ev5 (.slice ea E.length ec) E * R5)) w4 No w') (S21.new (by (apply Fr.allocSet; exact Fr.refl _ _)) (Blk.as inferInstance rfl) (Nat.le_refl _)) ?_
  clear S21 hb20 o21
  intro w14 S22
  generalize w13.heap.size = bt at *
  (apply vC_loop1 4835408130553337345998880 68 (fun u w' => ∃ k : Nat, u = .int .i64 (k : Int) ∧ k ≤ 6 ∧ At (Pt bt (ev5 (lastE E k)) 100 * (Ow 100 5 ev5 (.slice ea E.length ec) E * R5)) w4 No w') (fun u _ => 6 - (RowKit.intOf u).toNat)); (case h1 => (exact norm_eq rfl))
  case h0 => exact ⟨0, rfl, by decide, S22⟩
  clear S22
  case round =>
  rintro junk5 _ w15 ⟨k, rfl, hk, S23⟩
  have hbt := S23.blk
  have o23 := S23.swap.ac (star_assoc _ _ _) |>.own.1
  by_cases hlt : k < 6
  · obtain ⟨x, hx⟩ : ∃ x, E[k]? = some x := ⟨_, List.getElem?_eq_getElem (by omega)⟩
    have hx' : E[((k : Nat) : Int).toNat]? = some x := by rw [Int.toNat_natCast]; exact hx
    rw [ev5] at hbt
    have hls : lastE E (k + 1) = if x.t = 1 ∧ x.a = 1 then x else lastE E k := by unfold lastE; rw [List.take_add_one, hx]; simp
    have hbt' := hbt
    by_cases h1 : x.t = 1
    · by_cases h2 : x.a = 1
      · rw [if_pos ⟨h1, h2⟩] at hls
        (apply vC_seq; apply vC_region; ((apply vL_val); (case h => ((apply opv_E); exact rfl))); apply vL_nil; apply seqP_normal; apply vC_seq; (refine vC_cond_dec rfl (fun _ => ?_) (fun h => by omega)); apply vC_skip; apply seqP_normal; apply vC_seq; apply vC_block; apply vC_seq; apply vC_region; ((apply vL_val); (case h => ((apply opv_indexAddr); exact norm_eq rfl; exact rfl; infer_instance; (first | omega | (simp only [List.length_map]; omega)); (first | omega | (simp only [List.length_map]; omega))))); ((apply vL_val); (case h => ((apply opv_ld_eln); exact rfl; exact rfl; infer_instance; assumption))); ((apply vL_val); (case h => (apply opw_alloc))); ((apply vL_skip); (case h => ((apply ops_storen); exact norm_eq rfl; exact norm_eq rfl; exact rfl; exact (fun u hu => EncOk.one _ u hu); infer_instance; (first | decide | exact of_decide_eq_true rfl | (simp; done))))); apply vL_nil; apply seqP_normal; apply vC_seq; apply vC_region; (iterate 11 (first | ((with_reducible apply vL_val); (case h => ((with_reducible apply opv_E); exact rfl))) | ((with_reducible apply vL_val); (case h => ((with_reducible apply opv_loadb1); exact rfl; exact rfl; infer_instance; exact rfl))) | ((with_reducible apply vL_val); (case h => ((with_reducible apply opv_fieldAddr); exact rfl))) | ((with_reducible apply vL_wanted); exact rfl) | (refine vL_and rfl rfl (fun _ => ?_) (fun h => by omega)))); apply vL_nil; apply seqP_normal; (refine vC_cond_dec rfl (fun _ => ?_) (fun h => by omega)); apply vC_region; ((apply vL_val); (case h => ((apply opv_loadbC); exact rfl; exact rfl; infer_instance; exact (rfl : _ = [_, _, _, _, _]); exact rfl))); ((apply vL_skip); (case h => ((apply ops_storen); exact norm_eq rfl; exact norm_eq rfl; exact rfl; (intro u hu; simp only [List.mem_cons, List.not_mem_nil, or_false] at hu; rcases hu with rfl | rfl | rfl | rfl | rfl | rfl | rfl | rfl | rfl | rfl <;> (first | rfl | assumption)); infer_instance; (first | decide | exact of_decide_eq_true rfl | (simp; done))))); apply vL_nil; apply blockP_normal; apply seqP_normal; apply vC_region; ((apply vL_val); (case h => ((apply opv_add); exact rfl; exact rfl; (first | omega | (simp only [List.length_map]; omega))))); ((apply vL_val); (case h => ((apply opv_E); exact rfl))); apply vL_nil; apply loopP_normal)
        (with_reducible apply end1); (case hs => ((iterate 19 (first | with_reducible apply same_updN | ((with_reducible refine same_updO ?_ ?_); rotate_left; exact rfl) | ((with_reducible refine same_upd ?_ ?_); rotate_left; exact rfl))); (exact same_mask _ _ _))); (case h1 => (exact norm_eq rfl))
        · refine ⟨k + 1, rfl, by omega, ?_⟩
          rw [hls]
          exact S23.put (((((Fr.refl _ w15).alloc _).set _ _ (.inr (Nat.le_refl _)))).set _ _ (.inl rfl)) (Blk.as inferInstance rfl)
        · simp [RowKit.intOf]; omega
      · rw [if_neg (fun h => h2 h.2)] at hls
        (apply vC_seq; apply vC_region; ((apply vL_val); (case h => ((apply opv_E); exact rfl))); apply vL_nil; apply seqP_normal; apply vC_seq; (refine vC_cond_dec rfl (fun _ => ?_) (fun h => by omega)); apply vC_skip; apply seqP_normal; apply vC_seq; apply vC_block; apply vC_seq; apply vC_region; ((apply vL_val); (case h => ((apply opv_indexAddr); exact norm_eq rfl; exact rfl; infer_instance; (first | omega | (simp only [List.length_map]; omega)); (first | omega | (simp only [List.length_map]; omega))))); ((apply vL_val); (case h => ((apply opv_ld_eln); exact rfl; exact rfl; infer_instance; assumption))); ((apply vL_val); (case h => (apply opw_alloc))); ((apply vL_skip); (case h => ((apply ops_storen); exact norm_eq rfl; exact norm_eq rfl; exact rfl; exact (fun u hu => EncOk.one _ u hu); infer_instance; (first | decide | exact of_decide_eq_true rfl | (simp; done))))); apply vL_nil; apply seqP_normal; apply vC_seq; apply vC_region; (iterate 11 (first | ((with_reducible apply vL_val); (case h => ((with_reducible apply opv_E); exact rfl))) | ((with_reducible apply vL_val); (case h => ((with_reducible apply opv_loadb1); exact rfl; exact rfl; infer_instance; exact rfl))) | ((with_reducible apply vL_val); (case h => ((with_reducible apply opv_fieldAddr); exact rfl))) | ((with_reducible apply vL_wanted); exact rfl) | (refine vL_and rfl rfl (fun _ => ?_) (fun h => by omega)))); apply vL_nil; apply seqP_normal; (refine vC_cond_dec rfl (fun h => by omega) (fun _ => ?_)); apply vC_skip; apply blockP_normal; apply seqP_normal; apply vC_region; ((apply vL_val); (case h => ((apply opv_add); exact rfl; exact rfl; (first | omega | (simp only [List.length_map]; omega))))); ((apply vL_val); (case h => ((apply opv_E); exact rfl))); apply vL_nil; apply loopP_normal)
        (with_reducible apply end1); (case hs => ((iterate 17 (first | with_reducible apply same_updN | ((with_reducible refine same_updO ?_ ?_); rotate_left; exact rfl) | ((with_reducible refine same_upd ?_ ?_); rotate_left; exact rfl))); (exact same_mask _ _ _))); (case h1 => (exact norm_eq rfl))
        · refine ⟨k + 1, rfl, by omega, ?_⟩
          rw [hls]
          exact S23.frN (by (apply Fr.allocSet; exact Fr.refl _ _))
        · simp [RowKit.intOf]; omega
    · rw [if_neg (fun h => h1 h.1)] at hls
      (apply vC_seq; apply vC_region; ((apply vL_val); (case h => ((apply opv_E); exact rfl))); apply vL_nil; apply seqP_normal; apply vC_seq; (refine vC_cond_dec rfl (fun _ => ?_) (fun h => by omega)); apply vC_skip; apply seqP_normal; apply vC_seq; apply vC_block; apply vC_seq; apply vC_region; ((apply vL_val); (case h => ((apply opv_indexAddr); exact norm_eq rfl; exact rfl; infer_instance; (first | omega | (simp only [List.length_map]; omega)); (first | omega | (simp only [List.length_map]; omega))))); ((apply vL_val); (case h => ((apply opv_ld_eln); exact rfl; exact rfl; infer_instance; assumption))); ((apply vL_val); (case h => (apply opw_alloc))); ((apply vL_skip); (case h => ((apply ops_storen); exact norm_eq rfl; exact norm_eq rfl; exact rfl; exact (fun u hu => EncOk.one _ u hu); infer_instance; (first | decide | exact of_decide_eq_true rfl | (simp; done))))); apply vL_nil; apply seqP_normal; apply vC_seq; apply vC_region; ((apply vL_val); (case h => ((apply opv_fieldAddr); exact rfl))); ((apply vL_val); (case h => ((apply opv_loadb1); exact rfl; exact rfl; infer_instance; exact rfl))); (iterate 2 (((apply vL_val); (case h => ((apply opv_E); exact rfl))))); (refine vL_and rfl rfl (fun h => by omega) (fun _ => ?_)); (iterate 2 (((apply vL_unwanted'); exact rfl; exact rfl))); ((apply vL_val); (case h => ((apply opv_E); exact rfl))); apply vL_nil; apply seqP_normal; ((apply vC_cond_false); exact rfl); apply vC_skip; apply blockP_normal; apply seqP_normal; apply vC_region; ((apply vL_val); (case h => ((apply opv_add); exact rfl; exact rfl; (first | omega | (simp only [List.length_map]; omega))))); ((apply vL_val); (case h => ((apply opv_E); exact rfl))); apply vL_nil; apply loopP_normal)
      (with_reducible apply end1); (case hs => ((iterate 17 (first | with_reducible apply same_updN | ((with_reducible refine same_updO ?_ ?_); rotate_left; exact rfl) | ((with_reducible refine same_upd ?_ ?_); rotate_left; exact rfl))); (exact same_mask _ _ _))); (case h1 => (exact norm_eq rfl))
      · refine ⟨k + 1, rfl, by omega, ?_⟩
        rw [hls]
        exact S23.frN (by (apply Fr.allocSet; exact Fr.refl _ _))
      · simp [RowKit.intOf]; omega
  · obtain rfl : k = 6 := by omega
    have hl6 : lastE E 6 = ⟨1, 1, 0, 5, true⟩ := by rw [hE]; rfl
    rw [hl6, ev5] at hbt
    have S24 : At (PWA (L16 wb) rb none 0 kb3 ⟨[.over, .over], [t0, t1], [⟨cb, 0, [], [], [], true⟩], []⟩ * (Pt wb [pt rb, vp, cv, tv, .slice ea E.length ec, .bool false] 61 * (Ow 28 1 ptE cv [cb] * (Ow 34 1 ptE tv [t0, t1] * (Pt bt (ev5 (lastE E 6)) 100 * (Ow 100 5 ev5 (.slice ea E.length ec) E * R4)))))) w4 No w15 := S23.ac (by rw [hR5]; ac_rfl)
    have hwb := (S24.swap.ac (star_assoc _ _ _)).blk
    have hcv := (S24.ac (show _ = Ow 28 1 ptE cv [cb] * (Pt wb [pt rb, vp, cv, tv, .slice ea E.length ec, .bool false] 61 * (PWA (L16 wb) rb none 0 kb3 ⟨[.over, .over], [t0, t1], [⟨cb, 0, [], [], [], true⟩], []⟩ * (Ow 34 1 ptE tv [t0, t1] * (Pt bt (ev5 (lastE E 6)) 100 * (Ow 100 5 ev5 (.slice ea E.length ec) E * R4))))) by ac_rfl)).own
    obtain ⟨hcv1, hcv2⟩ := hcv
    have hd0 : (⟨[.over, .over], [t0, t1], [⟨cb, 0, [], [], [], true⟩], []⟩ : PS K16).cs[0]? = some ⟨cb, 0, [], [], [], true⟩ := rfl
    have hcl1 : ([cb] : List Nat).length = 1 := rfl
    have hcb : ([cb] : List Nat)[(0 : Int).toNat]? = some cb := rfl
    (apply vC_seq; apply vC_region; ((apply vL_val); (case h => ((apply opv_E); exact rfl))); apply vL_nil; apply seqP_normal; apply vC_seq; (refine vC_cond_dec rfl (fun h => by omega) (fun _ => ?_)); apply vC_exit; apply seqP_exit; apply loopP_exit; apply blockP_exit; apply seqP_normal; apply vC_seq; apply vC_region; (iterate 19 (first | ((with_reducible apply vL_val); (case h => ((with_reducible apply opv_E); exact rfl))) | ((with_reducible apply vL_val); (case h => ((with_reducible apply opv_loadb1); exact rfl; exact rfl; assumption; exact rfl))) | ((with_reducible apply vL_val); (case h => ((with_reducible apply opv_fieldAddr); exact rfl))) | ((with_reducible apply vL_wanted); exact rfl))); ((apply vL_val); (case h => ((apply opv_indexAddr); ((conv => lhs; whnf) <;> exact rfl); exact rfl; infer_instance; (first | omega | (simp only [List.length_map]; omega)); (first | omega | (simp only [List.length_map]; omega))))); ((apply vL_wanted); exact rfl); ((apply vL_val); (case h => ((apply opv_ld_el); exact rfl; exact rfl; infer_instance; assumption; exact rfl))); ((apply vL_wanted); exact rfl))
    refine vL_callF rfl (pw_close S24 hd0) rfl ?_
    rintro _ w16 ⟨rfl, kb4, _, S25⟩
    rw [show (if (PS.close (⟨[.over, .over], [t0, t1], [⟨cb, 0, [], [], [], true⟩], []⟩ : PS K16) 0).2 then (0 : Int) else 150) = 150 from rfl]
    have e25 : (PS.close (⟨[.over, .over], [t0, t1], [⟨cb, 0, [], [], [], true⟩], []⟩ : PS K16) 0).1 = ⟨[.over, .over], [t0, t1], [⟨cb, 0, [], [], [], true⟩], []⟩ := rfl
    rw [e25] at S25
    have hwb2 := (S25.swap.ac (star_assoc _ _ _)).blk
    have htv := (S25.ac (show _ = Ow 34 1 ptE tv [t0, t1] * (Pt wb [pt rb, vp, cv, tv, .slice ea E.length ec, .bool false] 61 * (PWA (L16 wb) rb none 0 kb4 ⟨[.over, .over], [t0, t1], [⟨cb, 0, [], [], [], true⟩], []⟩ * (Ow 28 1 ptE cv [cb] * (Pt bt (ev5 (lastE E 6)) 100 * (Ow 100 5 ev5 (.slice ea E.length ec) E * R4))))) by ac_rfl)).own
    obtain ⟨htv1, htv2⟩ := htv
    have htl1 : ([t0, t1] : List Nat).length = 2 := rfl
    have ht1 : ([t0, t1] : List Nat)[(1 : Int).toNat]? = some t1 := rfl
    clear hwb hcv1 hbt o23
    ((iterate 25 (first | ((with_reducible apply vL_val); (case h => ((with_reducible apply opv_E); exact rfl))) | ((with_reducible apply vL_val); (case h => ((with_reducible apply opv_loadb1); exact rfl; exact rfl; assumption; exact rfl))) | ((with_reducible apply vL_val); (case h => ((with_reducible apply opv_fieldAddr); exact rfl))) | ((with_reducible apply vL_val); (case h => ((with_reducible apply opv_not); exact rfl))) | ((with_reducible apply vL_wanted); exact rfl))); ((apply vL_val); (case h => ((apply opv_indexAddr); ((conv => lhs; whnf) <;> exact rfl); exact rfl; infer_instance; (first | omega | (simp only [List.length_map]; omega)); (first | omega | (simp only [List.length_map]; omega))))); ((apply vL_wanted); exact rfl); ((apply vL_val); (case h => ((apply opv_ld_el); exact rfl; exact rfl; infer_instance; assumption; exact rfl))); ((apply vL_wanted); exact rfl))
    refine vL_callF rfl (pw_over S25 (i := 1) (s := .over) (tb := t1) (show ([.over, .over] : List (St K16))[1]? = some .over from rfl) (show ([t0, t1] : List Nat)[1]? = some t1 from rfl)) rfl ?_
    rintro _ _ ⟨rfl, rfl⟩
    ((iterate 2 (((apply vL_val); (case h => ((apply opv_E); exact rfl))))); apply vL_nil; apply seqP_normal; apply vC_ret)
    (apply ret1; (case h1 => (exact norm_eq rfl)))
    exact ⟨rfl, hf4.trans S25.fr⟩
end Go.Proofs.YtbaidcnalkdhgaaGreat
set_option maxRecDepth 100000
namespace Go.Proofs.YtbaidcnalkdhgaaGreat
open Go Go.Eng
structure KO where
  snd : Bool
  tb : Nat
  id : Nat
  n : Nat
structure TO where
  S : PS KO
  got : List Int
  told : Int
def sndO (S : PS KO) (i tb id n : Nat) : PS KO := if n = 6 then S else S.send i 0 (100 * (id : Int) + n) ⟨true, tb, id, n⟩
def turnO (T : TO) (i : Nat) (z : Int) : St KO → Option TO
  | .rdyY k => some ⟨((if k.snd then sndO (T.S.start i z) i k.tb k.id 0 else (T.S.start i z).recv i 0 k).endTurn i), T.got, T.told⟩
  | .rdyS k ok => some ⟨(sndO (T.S.start i z) i k.tb k.id (k.n + 1)).endTurn i, T.got, if ok then T.told + 1 else T.told⟩
  | .rdyR k v ok => some ⟨((T.S.start i z).recv i 0 k).endTurn i, if ok then T.got ++ [v] else T.got, T.told⟩
  | _ => none
def stepO (T : TO) (p : Int) : Option TO := match T.S.line[(p % T.S.line.length).toNat]? with
  | none => none
  | some z => match T.S.sts[z.toNat]? with
    | none => none
    | some s => turnO T z.toNat (p % T.S.line.length) s
/-- how many of a task's numbers are let in; how many it was told of; what is pending; the weight -/
def accN : St KO → Nat
  | .over => 6
  | .rdyS k _ => k.n + 1
  | .wS k _ _ => k.n
  | _ => 0
def tolN : St KO → Nat
  | .over => 6
  | .rdyS k _ => k.n
  | .wS k _ _ => k.n
  | _ => 0
def pndN : St KO → Option Int
  | .rdyR _ v _ => some v
  | _ => none
def wtN : St KO → Nat
  | .rdyY k => if k.snd then 13 else 1
  | .rdyS k _ => 11 - 2 * k.n
  | .wS k _ _ => 12 - 2 * k.n
  | .rdyR _ _ _ => 1
  | _ => 0
/-- the kinds of tasks: the first nS send, the others receive -/
inductive OkO (nS : Nat) (i : Nat) : St KO → Prop where
  | over : i < nS → OkO nS i .over
  | bornS (tb : Nat) : i < nS → OkO nS i (.rdyY ⟨true, tb, i, 0⟩)
  | rdyS (tb n : Nat) : i < nS → n ≤ 5 → OkO nS i (.rdyS ⟨true, tb, i, n⟩ true)
  | wS (tb n : Nat) : i < nS → n ≤ 5 → OkO nS i (.wS ⟨true, tb, i, n⟩ 0 (100 * (i : Int) + n))
  | bornR (k : KO) : nS ≤ i → k.snd = false → OkO nS i (.rdyY k)
  | rdyR (k : KO) (v : Int) : nS ≤ i → k.snd = false → OkO nS i (.rdyR k v true)
  | wR (k : KO) : nS ≤ i → k.snd = false → OkO nS i (.wR k 0)
  | runR : nS ≤ i → OkO nS i .run
def sumN (f : St KO → Nat) (l : List (St KO)) : Nat := (l.map f).sum
theorem sumN_set (f : St KO → Nat) : ∀ (l : List (St KO)) (i : Nat) (s s' : St KO), l[i]? = some s → sumN f (l.set i s') + f s = sumN f l + f s'
  | [], i, s, s', h => by simp at h
  | x :: l, 0, s, s', h => by
    simp at h
    subst h
    simp [sumN]; omega
  | x :: l, i + 1, s, s', h => by
    have h' : l[i]? = some s := by simpa using h
    have := sumN_set f l i s s' h'
    simp only [sumN, List.set_cons_succ, List.map_cons, List.sum_cons] at this ⊢
    omega
def pnd (l : List (St KO)) : List Int := l.filterMap pndN
theorem pnd_set : ∀ (l : List (St KO)) (i : Nat) (s s' : St KO), l[i]? = some s → ((pndN s).toList ++ pnd (l.set i s')).Perm ((pndN s').toList ++ pnd l)
  | [], i, s, s', h => by simp at h
  | x :: l, 0, s, s', h => by
    simp at h
    subst h
    simp only [pnd, List.set_cons_zero, List.filterMap_cons]
    cases h1 : pndN x <;> cases h2 : pndN s'
    · exact List.Perm.refl _
    · exact List.Perm.refl _
    · exact List.Perm.refl _
    · exact List.Perm.swap _ _ _
  | x :: l, i + 1, s, s', h => by
    have h' : l[i]? = some s := by simpa using h
    have ih := pnd_set l i s s' h'
    simp only [pnd, List.set_cons_succ, List.filterMap_cons] at ih ⊢
    cases h1 : pndN x with
    | none => exact ih
    | some v =>
      simp only
      refine (List.perm_middle).trans (((List.Perm.cons v ih)).trans (List.perm_middle.symm))
def isWS : St KO → Bool
  | .wS _ _ _ => true
  | _ => false
def isWR : St KO → Bool
  | .wR _ _ => true
  | _ => false
/-- what holds all along (acc: what was let in, in order) -/
structure InvR (nS nR : Nat) (sts : List (St KO)) (d : C16) (got acc : List Int) : Prop where
  len : sts.length = nS + nR
  okS : ∀ i s, sts[i]? = some s → OkO nS i s
  ms : ∀ m, m ∈ d.snd ↔ ∃ s, sts[m]? = some s ∧ isWS s = true
  mr : ∀ m, m ∈ d.rcv ↔ ∃ s, sts[m]? = some s ∧ isWR s = true
  nds : d.snd.Nodup
  ndr : d.rcv.Nodup
  perm : (got ++ (pnd sts ++ d.buf)).Perm acc
  eq : nR = 1 → got ++ (pnd sts ++ d.buf) = acc
  filt : ∀ i s, i < nS → sts[i]? = some s → acc.filter (fun v => decide (v / 100 = (i : Int))) = (List.range (accN s)).map fun (n : Nat) => 100 * (i : Int) + n
  rng : ∀ v ∈ acc, 0 ≤ v ∧ v / 100 < (nS : Int)
section
variable {nS nR i : Nat} {sts : List (St KO)} {d d' : C16} {got got' acc acc' : List Int} {s s' : St KO}
theorem set_iff {p : St KO → Bool} {l l' : List Nat} (hs : sts[i]? = some s) (h : ∀ m, m ∈ l ↔ ∃ s, sts[m]? = some s ∧ p s = true) (h' : ∀ m, m ∈ l' ↔ (m ≠ i ∧ m ∈ l) ∨ (m = i ∧ p s' = true)) (m : Nat) : m ∈ l' ↔ ∃ s, (sts.set i s')[m]? = some s ∧ p s = true := by
  have hi := (List.getElem?_eq_some_iff.1 hs).1
  rw [h']
  by_cases e : m = i
  · subst e
    rw [List.getElem?_set_self hi]
    simp
  · rw [List.getElem?_set_ne (Ne.symm e), h]
    simp [e]
theorem InvR.upd (h : InvR nS nR sts d got acc) (hs : sts[i]? = some s) (ok : OkO nS i s') (hms : ∀ m, m ∈ d'.snd ↔ (m ≠ i ∧ m ∈ d.snd) ∨ (m = i ∧ isWS s' = true)) (hmr : ∀ m, m ∈ d'.rcv ↔ (m ≠ i ∧ m ∈ d.rcv) ∨ (m = i ∧ isWR s' = true))
    (nds : d'.snd.Nodup) (ndr : d'.rcv.Nodup) (perm : (got' ++ (pnd (sts.set i s') ++ d'.buf)).Perm acc') (eq : nR = 1 → got' ++ (pnd (sts.set i s') ++ d'.buf) = acc')
    (fi : i < nS → acc'.filter (fun v => decide (v / 100 = (i : Int))) = (List.range (accN s')).map fun (n : Nat) => 100 * (i : Int) + n) (fo : ∀ j : Nat, j ≠ i → acc'.filter (fun v => decide (v / 100 = (j : Int))) = acc.filter (fun v => decide (v / 100 = (j : Int)))) (rng : ∀ v ∈ acc', 0 ≤ v ∧ v / 100 < (nS : Int)) :
    InvR nS nR (sts.set i s') d' got' acc' := by
  have hi := (List.getElem?_eq_some_iff.1 hs).1
  refine ⟨by rw [List.length_set]; exact h.len, fun j t ht => ?_, set_iff hs h.ms hms, set_iff hs h.mr hmr, nds, ndr, perm, eq, fun j t hj ht => ?_, rng⟩
  · by_cases e : j = i
    · subst e
      rw [List.getElem?_set_self hi] at ht
      cases ht
      exact ok
    · rw [List.getElem?_set_ne (Ne.symm e)] at ht
      exact h.okS j t ht
  · by_cases e : j = i
    · subst e
      rw [List.getElem?_set_self hi] at ht
      cases ht
      exact fi hj
    · rw [List.getElem?_set_ne (Ne.symm e)] at ht
      rw [fo j e]
      exact h.filt j t hj ht
theorem pnd_none {l : List (St KO)} (hs : l[i]? = some s) (h1 : pndN s = none) (h2 : pndN s' = none) : pnd (l.set i s') = pnd l := by
  induction l generalizing i with
  | nil => simp at hs
  | cons x l ih =>
    cases i with
    | zero =>
      simp at hs
      subst hs
      simp [pnd, List.filterMap_cons, h1, h2]
    | succ i =>
      have h' : l[i]? = some s := by simpa using hs
      have := ih h'
      simp only [pnd, List.set_cons_succ, List.filterMap_cons] at this ⊢
      rw [this]
theorem pnd_nil {l : List (St KO)} (h : ∀ (i : Nat) s, l[i]? = some s → pndN s = none) : pnd l = [] := by
  unfold pnd
  refine List.filterMap_eq_nil_iff.2 fun s hs => ?_
  obtain ⟨i, hi, e⟩ := List.getElem_of_mem hs
  exact h i s (by rw [List.getElem?_eq_getElem hi, e])
theorem OkO.sp (h : OkO nS i s) (hi : i < nS) : pndN s = none ∧ isWR s = false := by
  cases h <;> first | exact ⟨rfl, rfl⟩ | omega
theorem OkO.rp (h : OkO nS i s) (hi : nS ≤ i) : isWS s = false := by
  cases h <;> first | rfl | omega
/-- if one alone receives, nothing else is pending -/
theorem InvR.alone (h : InvR nS nR sts d got acc) (h1 : nR = 1) (hi : nS ≤ i) (hs : sts[i]? = some s) (hp : pndN s' = none) : pnd (sts.set i s') = [] := by
  have hil := (List.getElem?_eq_some_iff.1 hs).1
  have hl := h.len
  refine pnd_nil fun j t ht => ?_
  by_cases e : j = i
  · subst e
    rw [List.getElem?_set_self hil] at ht
    cases ht
    exact hp
  · rw [List.getElem?_set_ne (Ne.symm e)] at ht
    have := (List.getElem?_eq_some_iff.1 ht).1
    exact ((h.okS j t ht).sp (by omega)).1
/-- a sender's number is let in -/
theorem InvR.letin (h : InvR nS nR sts d got acc) (hs : sts[i]? = some s) (hi : i < nS) {n tb : Nat} (hn : n ≤ 5) (ha : accN s = n) {snd' : List Nat} (hms : ∀ m, m ∈ snd' ↔ m ≠ i ∧ m ∈ d.snd) (nds : snd'.Nodup) :
    InvR nS nR (sts.set i (.rdyS ⟨true, tb, i, n⟩ true)) { d with buf := d.buf ++ [100 * (i : Int) + n], snd := snd' } got (acc ++ [100 * (i : Int) + n]) := by
  obtain ⟨hp, hw⟩ := (h.okS i s hs).sp hi
  have hpn : pnd (sts.set i (.rdyS ⟨true, tb, i, n⟩ true)) = pnd sts := pnd_none hs hp rfl
  have hv : (100 * (i : Int) + n) / 100 = (i : Int) := by omega
  refine h.upd hs (.rdyS tb n hi hn) (fun m => ?_) (fun m => ?_) nds h.ndr ?_ (fun h1 => ?_) (fun _ => ?_) (fun j hj => ?_) (fun v hv' => ?_)
  · show m ∈ snd' ↔ _
    rw [hms]; simp [isWS]
  · show m ∈ d.rcv ↔ _
    by_cases e : m = i
    · subst e
      have : m ∉ d.rcv := fun hm => by
        obtain ⟨t, h1, h2⟩ := (h.mr m).1 hm
        rw [hs] at h1; cases h1
        rw [hw] at h2; cases h2
      simp [this, isWR]
    · simp [e]
  · rw [hpn]
    have := h.perm.append_right [100 * (i : Int) + n]
    simpa [List.append_assoc] using this
  · rw [hpn, ← h.eq h1]
    simp [List.append_assoc]
  · rw [List.filter_append, h.filt i s hi hs, ha]
    have : accN (St.rdyS ⟨true, tb, i, n⟩ true : St KO) = n + 1 := rfl
    rw [this, List.range_succ, List.map_append]
    congr 1
    simp [hv]
  · rw [List.filter_append]
    simp [hv, Ne.symm (show (j : Int) ≠ (i : Int) by omega)]
  · rcases List.mem_append.1 hv' with hv' | hv'
    · exact h.rng v hv'
    · rw [List.mem_singleton.1 hv']
      omega
/-- a value is given to who receives -/
theorem InvR.del (h : InvR nS nR sts d got acc) (hs : sts[i]? = some s) (hi : nS ≤ i) (hp : pndN s = none) {k : KO} (hk : k.snd = false) {b : Int} {t : List Int} (hb : d.buf = b :: t) {rcv' : List Nat} (hmr : ∀ m, m ∈ rcv' ↔ m ≠ i ∧ m ∈ d.rcv) (ndr : rcv'.Nodup) :
    InvR nS nR (sts.set i (.rdyR k b true)) { d with buf := t, rcv := rcv' } got acc := by
  have hp2 := pnd_set sts i s (.rdyR k b true) hs
  rw [hp] at hp2
  have hp3 : (pnd (sts.set i (.rdyR k b true))).Perm (b :: pnd sts) := hp2
  refine h.upd hs (.rdyR k b hi hk) (fun m => ?_) (fun m => ?_) h.nds ndr ?_ (fun h1 => ?_) (fun hc => by omega) (fun _ _ => rfl) h.rng
  · show m ∈ d.snd ↔ _
    by_cases e : m = i
    · subst e
      have : m ∉ d.snd := fun hm => by
        obtain ⟨u, h1, h2⟩ := (h.ms m).1 hm
        rw [hs] at h1; cases h1
        rw [(h.okS m _ hs).rp hi] at h2; cases h2
      simp [this, isWS]
    · simp [e]
  · show m ∈ rcv' ↔ _
    rw [hmr]; simp [isWR]
  · refine List.Perm.trans ?_ h.perm
    refine List.Perm.append_left got ?_
    rw [hb]
    exact ((hp3.append_right t).trans (List.perm_middle.symm))
  · have h2 := h.alone h1 hi hs hp
    rw [set_same hs] at h2
    rw [h2] at hp3
    have h3 : pnd (sts.set i (.rdyR k b true)) = [b] := List.perm_singleton.1 hp3
    rw [h3, ← h.eq h1, h2, hb]
    rfl
/-- who received goes on -/
theorem InvR.took (h : InvR nS nR sts d got acc) {k : KO} {v : Int} {ok : Bool} (hs : sts[i]? = some (.rdyR k v ok)) (hi : nS ≤ i) : InvR nS nR (sts.set i .run) d (got ++ [v]) acc := by
  have hp2 : ([v] ++ pnd (sts.set i .run)).Perm ([] ++ pnd sts) := pnd_set sts i (.rdyR k v ok) .run hs
  refine h.upd hs (.runR hi) (fun m => ?_) (fun m => ?_) h.nds h.ndr ?_ (fun h1 => ?_) (fun hc => by omega) (fun _ _ => rfl) h.rng
  · by_cases e : m = i
    · subst e
      have : m ∉ d.snd := fun hm => by
        obtain ⟨u, h1, h2⟩ := (h.ms m).1 hm
        rw [hs] at h1; cases h1; cases h2
      simp [this, isWS]
    · simp [e]
  · by_cases e : m = i
    · subst e
      have : m ∉ d.rcv := fun hm => by
        obtain ⟨u, h1, h2⟩ := (h.mr m).1 hm
        rw [hs] at h1; cases h1; cases h2
      simp [this, isWR]
    · simp [e]
  · refine List.Perm.trans ?_ h.perm
    rw [List.append_assoc]
    refine List.Perm.append_left got ?_
    have := hp2.append_right d.buf
    simpa [List.append_assoc] using this
  · have h2 := h.alone (s' := .run) h1 hi hs rfl
    rw [h2] at hp2
    have h3 : pnd sts = [v] := List.perm_singleton.1 hp2.symm
    rw [h2, ← h.eq h1, h3]
    simp
/-- a task goes on otherwise: no value moves -/
theorem InvR.go (h : InvR nS nR sts d got acc) (hs : sts[i]? = some s) (ok : OkO nS i s') (hp : pndN s = none) (hp' : pndN s' = none) (ha : i < nS → accN s' = accN s) {snd' rcv' : List Nat} (hms : ∀ m, m ∈ snd' ↔ (m ≠ i ∧ m ∈ d.snd) ∨ (m = i ∧ isWS s' = true)) (hmr : ∀ m, m ∈ rcv' ↔ (m ≠ i ∧ m ∈ d.rcv) ∨ (m = i ∧ isWR s' = true)) (nds : snd'.Nodup) (ndr : rcv'.Nodup) :
    InvR nS nR (sts.set i s') { d with snd := snd', rcv := rcv' } got acc := by
  have hpn : pnd (sts.set i s') = pnd sts := pnd_none hs hp hp'
  refine h.upd hs ok hms hmr nds ndr (by rw [hpn]; exact h.perm) (fun h1 => by rw [hpn]; exact h.eq h1) (fun hi => by rw [ha hi]; exact h.filt i s hi hs) (fun _ _ => rfl) h.rng
theorem InvR.notS (h : InvR nS nR sts d got acc) (hs : sts[i]? = some s) (hw : isWS s = false) (m : Nat) : m ∈ d.snd ↔ m ≠ i ∧ m ∈ d.snd := by
  by_cases e : m = i
  · subst e
    have : m ∉ d.snd := fun hm => by
      obtain ⟨u, h1, h2⟩ := (h.ms m).1 hm
      rw [hs] at h1; cases h1
      rw [hw] at h2; cases h2
    simp [this]
  · simp [e]
theorem InvR.notR (h : InvR nS nR sts d got acc) (hs : sts[i]? = some s) (hw : isWR s = false) (m : Nat) : m ∈ d.rcv ↔ m ≠ i ∧ m ∈ d.rcv := by
  by_cases e : m = i
  · subst e
    have : m ∉ d.rcv := fun hm => by
      obtain ⟨u, h1, h2⟩ := (h.mr m).1 hm
      rw [hs] at h1; cases h1
      rw [hw] at h2; cases h2
    simp [this]
  · simp [e]
theorem tail_iff {l : List Nat} {m : Nat} {r : List Nat} (h : l = m :: r) (hn : l.Nodup) (x : Nat) : x ∈ r ↔ x ≠ m ∧ x ∈ l := by
  subst h
  obtain ⟨h1, h2⟩ := List.nodup_cons.1 hn
  constructor
  · intro hx
    exact ⟨fun e => h1 (e ▸ hx), List.mem_cons_of_mem _ hx⟩
  · rintro ⟨a, b⟩
    exact (List.mem_cons.1 b).resolve_left a
theorem snoc_iff {l : List Nat} {i m : Nat} : m ∈ l ++ [i] ↔ (m ≠ i ∧ m ∈ l) ∨ m = i := by
  by_cases e : m = i
  · subst e; simp
  · simp [e]
end
end Go.Proofs.YtbaidcnalkdhgaaGreat
set_option maxRecDepth 100000
namespace Go.Proofs.YtbaidcnalkdhgaaGreat
open Go Go.Eng
theorem tol_rS (k : KO) (ok : Bool) : tolN (.rdyS k ok) = k.n := rfl
theorem tol_rR (k : KO) (v : Int) (ok : Bool) : tolN (.rdyR k v ok) = 0 := rfl
theorem tol_rY (k : KO) : tolN (.rdyY k) = 0 := rfl
theorem tol_wS (k : KO) (j : Nat) (v : Int) : tolN (.wS k j v) = k.n := rfl
theorem tol_wR (k : KO) (j : Nat) : tolN (.wR k j) = 0 := rfl
theorem tol_run : tolN .run = 0 := rfl
theorem tol_over : tolN .over = 6 := rfl
theorem wt_rS (k : KO) (ok : Bool) : wtN (.rdyS k ok) = 11 - 2 * k.n := rfl
theorem wt_rR (k : KO) (v : Int) (ok : Bool) : wtN (.rdyR k v ok) = 1 := rfl
theorem wt_wS (k : KO) (j : Nat) (v : Int) : wtN (.wS k j v) = 12 - 2 * k.n := rfl
theorem wt_wR (k : KO) (j : Nat) : wtN (.wR k j) = 0 := rfl
theorem wt_run : wtN .run = 0 := rfl
theorem wt_over : wtN .over = 0 := rfl
structure InvO (nS nR : Nat) (size : Int) (T : TO) (acc : List Int) (d : C16) : Prop where
  r : InvR nS nR T.S.sts d T.got acc
  cs : T.S.cs = [d]
  sz : d.size = size
  room : (d.buf.length : Int) ≤ size
  op : d.closed = false
  i1 : d.rcv ≠ [] → d.snd = [] ∧ d.buf = []
  i2 : d.snd ≠ [] → (d.buf.length : Int) = size
  norun : ∀ (i : Nat) (s : St KO), T.S.sts[i]? = some s → s.isRun = false
  tbs : ∀ (i : Nat) (s : St KO) k, T.S.sts[i]? = some s → s.key = some k → T.S.tbs[i]? = some k.tb
  told : T.told = sumN tolN T.S.sts
def wtO (T : TO) (d : C16) : Nat := sumN wtN T.S.sts + d.buf.length
section
variable {nS nR i : Nat} {size z : Int} {T : TO} {d : C16} {acc : List Int} {s s' : St KO} {sts : List (St KO)} {tbs : List Nat}
theorem keep_run (h : ∀ (i : Nat) (s : St KO), sts[i]? = some s → s.isRun = false) (hs : s'.isRun = false) : ∀ (j : Nat) (s : St KO), (sts.set i s')[j]? = some s → s.isRun = false := by
  intro j t ht
  by_cases e : i = j
  · subst e
    rw [List.getElem?_set] at ht
    simp only [if_true] at ht
    split at ht
    · cases ht; exact hs
    · cases ht
  · rw [List.getElem?_set_ne e] at ht
    exact h j t ht
theorem keep_tb (h : ∀ (i : Nat) (s : St KO) k, sts[i]? = some s → s.key = some k → tbs[i]? = some k.tb) (hs : ∀ k, s'.key = some k → tbs[i]? = some k.tb) : ∀ (j : Nat) (s : St KO) k, (sts.set i s')[j]? = some s → s.key = some k → tbs[j]? = some k.tb := by
  intro j t k ht hk
  by_cases e : i = j
  · subst e
    rw [List.getElem?_set] at ht
    simp only [if_true] at ht
    split at ht
    · cases ht; exact hs k hk
    · cases ht
  · rw [List.getElem?_set_ne e] at ht
    exact h j t k ht hk
theorem endTurn_no {S : PS KO} (h : S.sts[i]? = some s) (hr : s.isRun = false) : S.endTurn i = S := by
  unfold PS.endTurn
  rw [h]
  cases s <;> first | rfl | (cases hr; done)
theorem get_set_i (hs : sts[i]? = some s) (t : St KO) : (sts.set i t)[i]? = some t := List.getElem?_set_self (List.getElem?_eq_some_iff.1 hs).1
/-- who sends: the number is let in, or waits -/
theorem InvO.send (h : InvO nS nR size T acc d) (hs : T.S.sts[i]? = some s) (hi : i < nS) {n tb : Nat} (hn : n ≤ 5) (ha : accN s = n) (hw : wtN s + 2 * n = 13) (htb : T.S.tbs[i]? = some tb) (ht : tolN s ≤ n) (hk : isWS s = false) :
    ∃ T' acc' d', T'.S = ((T.S.start i z).send i 0 (100 * (i : Int) + n) ⟨true, tb, i, n⟩).endTurn i ∧ T'.got = T.got ∧ T'.told = T.told + ((n - tolN s : Nat) : Int) ∧ InvO nS nR size T' acc' d' ∧ wtO T' d' + 1 = wtO T d ∧ d'.cb = d.cb := by
  obtain ⟨hp, hwr⟩ := (h.r.okS i s hs).sp hi
  have hcs : T.S.cs[0]? = some d := by rw [h.cs]; rfl
  have hsumT := sumN_set tolN T.S.sts i s
  have hsumW := sumN_set wtN T.S.sts i s
  have htold := h.told
  cases hrc : d.rcv with
  | cons m r =>
    have hmm : m ∈ d.rcv := by rw [hrc]; exact List.mem_cons_self
    obtain ⟨sm, hm, hmw⟩ := (h.r.mr m).1 hmm
    have hmi : m ≠ i := by
      intro e; subst e
      rw [hs] at hm; cases hm
      rw [hwr] at hmw; cases hmw
    obtain ⟨hsn, hbf⟩ := h.i1 (by rw [hrc]; simp)
    obtain ⟨km, hmk⟩ : ∃ km, sm = .wR km 0 := by
      have := h.r.okS m sm hm
      cases this <;> first | (cases hmw; done) | exact ⟨_, rfl⟩
    subst hmk
    have hmS : nS ≤ m ∧ km.snd = false := by
      have := h.r.okS m _ hm
      cases this; exact ⟨by assumption, by assumption⟩
    have R1 := h.r.letin hs hi (tb := tb) hn ha (h.r.notS hs hk) h.r.nds
    have hm1 : (T.S.sts.set i (.rdyS ⟨true, tb, i, n⟩ true))[m]? = some (.wR km 0) := by rw [List.getElem?_set_ne (Ne.symm hmi)]; exact hm
    have R2 := R1.del hm1 hmS.1 rfl hmS.2 (b := 100 * (i : Int) + n) (t := []) (by show d.buf ++ _ = _; rw [hbf]; rfl) (rcv' := r) (tail_iff hrc h.r.ndr) (by have := h.r.ndr; rw [hrc] at this; exact (List.nodup_cons.1 this).2)
    have hS : ((T.S.start i z).send i 0 (100 * (i : Int) + n) ⟨true, tb, i, n⟩).endTurn i = ⟨(T.S.sts.set i (.rdyS ⟨true, tb, i, n⟩ true)).set m (.rdyR km (100 * (i : Int) + n) true), T.S.tbs, [{ d with buf := [], rcv := r }], readyL (readyL (without T.S.line z) m) i⟩ := by
      have e1 : (T.S.start i z).send i 0 (100 * (i : Int) + n) ⟨true, tb, i, n⟩ = ⟨(T.S.sts.set i (.rdyS ⟨true, tb, i, n⟩ true)).set m (.rdyR km (100 * (i : Int) + n) true), T.S.tbs, [{ d with buf := [], rcv := r }], readyL (readyL (without T.S.line z) m) i⟩ := by
        have hm0 : (T.S.start i z).sts[m]? = some (.wR km 0) := by show (T.S.sts.set i .run)[m]? = _; rw [List.getElem?_set_ne (Ne.symm hmi)]; exact hm
        have hc0 : (T.S.start i z).cs[0]? = some d := hcs
        have e2 : (T.S.start i z).trySend 0 (100 * (i : Int) + n) = (⟨(T.S.sts.set i .run).set m (.rdyR km (100 * (i : Int) + n) true), T.S.tbs, T.S.cs.set 0 { d with rcv := r }, readyL (without T.S.line z) m⟩, true, true) := by
          unfold PS.trySend
          rw [hc0]
          simp only [h.op, hrc, Bool.false_eq_true, if_false]
          rw [wokeR_w hm0]
          rfl
        unfold PS.send
        rw [e2]
        simp only [if_true]
        congr 1
        · rw [List.set_comm _ _ hmi, List.set_set]
        · rw [h.cs, ← hbf]; rfl
      rw [e1]
      exact endTurn_no (s := .rdyS ⟨true, tb, i, n⟩ true) (by show ((T.S.sts.set i _).set m _)[i]? = _; rw [List.getElem?_set_ne hmi]; exact get_set_i hs _) rfl
    refine ⟨⟨_, T.got, T.told + ((n - tolN s : Nat) : Int)⟩, acc ++ [100 * (i : Int) + n], { d with buf := [], rcv := r }, hS.symm, rfl, rfl, ?_, ?_, rfl⟩
    · refine ⟨R2, rfl, h.sz, ?_, h.op, fun _ => ⟨hsn, rfl⟩, fun hc => absurd hsn hc, keep_run (keep_run h.norun rfl) rfl, keep_tb (keep_tb h.tbs fun k hk => ?_) fun k hk => ?_, ?_⟩
      · have := h.room; rw [hbf] at this; exact this
      · cases hk; exact htb
      · cases hk; exact h.tbs m _ km hm rfl
      · have a := hsumT (.rdyS ⟨true, tb, i, n⟩ true) hs
        have b := sumN_set tolN _ m _ (.rdyR km (100 * (i : Int) + n) true) hm1
        simp only [tol_rS, tol_rR, tol_wR] at a b
        show T.told + ((n - tolN s : Nat) : Int) = ((sumN tolN (List.set _ _ _) : Nat) : Int)
        omega
    · show sumN wtN (List.set _ _ _) + List.length _ + 1 = sumN wtN T.S.sts + d.buf.length
      rw [hbf]
      have a := hsumW (.rdyS ⟨true, tb, i, n⟩ true) hs
      have b := sumN_set wtN _ m _ (.rdyR km (100 * (i : Int) + n) true) hm1
      simp only [wt_rS, wt_rR, wt_wR, List.length_nil] at a b ⊢
      omega
  | nil =>
    by_cases hfull : (d.buf.length : Int) = d.size
    · have hS : ((T.S.start i z).send i 0 (100 * (i : Int) + n) ⟨true, tb, i, n⟩).endTurn i = ⟨T.S.sts.set i (.wS ⟨true, tb, i, n⟩ 0 (100 * (i : Int) + n)), T.S.tbs, [{ d with snd := d.snd ++ [i] }], without T.S.line z⟩ := by
        have e1 : (T.S.start i z).send i 0 (100 * (i : Int) + n) ⟨true, tb, i, n⟩ = ⟨T.S.sts.set i (.wS ⟨true, tb, i, n⟩ 0 (100 * (i : Int) + n)), T.S.tbs, [{ d with snd := d.snd ++ [i] }], without T.S.line z⟩ := by
          have hc0 : (T.S.start i z).cs[0]? = some d := hcs
          have e2 : (T.S.start i z).trySend 0 (100 * (i : Int) + n) = (T.S.start i z, false, false) := by
            unfold PS.trySend
            rw [hc0]
            simp only [h.op, hrc, Bool.false_eq_true, if_false, hfull, if_true]
          unfold PS.send
          rw [e2]
          simp only [Bool.false_eq_true, if_false, hc0]
          congr 1
          · show (T.S.sts.set i .run).set i _ = _
            rw [List.set_set]
          · show T.S.cs.set 0 _ = _
            rw [h.cs]; rfl
        rw [e1]
        exact endTurn_no (s := .wS ⟨true, tb, i, n⟩ 0 (100 * (i : Int) + n)) (get_set_i hs _) rfl
      have hns : ∀ m, m ∈ d.snd ↔ m ≠ i ∧ m ∈ d.snd := h.r.notS hs hk
      have hni : i ∉ d.snd := fun hm => ((hns i).1 hm).1 rfl
      have R1 := h.r.go hs (s' := .wS ⟨true, tb, i, n⟩ 0 (100 * (i : Int) + n)) (.wS tb n hi hn) hp rfl (fun _ => by rw [ha]; rfl) (snd' := d.snd ++ [i]) (rcv' := d.rcv) (fun m => by rw [snoc_iff]; simp [isWS]) (fun m => by rw [h.r.notR hs hwr m]; simp [isWR]) (by
        rw [List.nodup_append]
        exact ⟨h.r.nds, by simp, fun a ha b hb => by rw [List.mem_singleton.1 hb]; intro e; exact hni (e ▸ ha)⟩) h.r.ndr
      refine ⟨⟨_, T.got, T.told + ((n - tolN s : Nat) : Int)⟩, acc, { d with snd := d.snd ++ [i] }, hS.symm, rfl, rfl, ?_, ?_, rfl⟩
      · refine ⟨R1, rfl, h.sz, h.room, h.op, fun hc => absurd hrc hc, fun _ => by rw [← h.sz]; exact hfull, keep_run h.norun rfl, keep_tb h.tbs fun k hk => ?_, ?_⟩
        · cases hk; exact htb
        · have a := hsumT (.wS ⟨true, tb, i, n⟩ 0 (100 * (i : Int) + n)) hs
          simp only [tol_rS, tol_wS] at a
          show T.told + ((n - tolN s : Nat) : Int) = ((sumN tolN (List.set _ _ _) : Nat) : Int)
          omega
      · show sumN wtN (List.set _ _ _) + List.length _ + 1 = sumN wtN T.S.sts + d.buf.length
        have a := hsumW (.wS ⟨true, tb, i, n⟩ 0 (100 * (i : Int) + n)) hs
        simp only [wt_wS] at a ⊢
        omega
    · have hS : ((T.S.start i z).send i 0 (100 * (i : Int) + n) ⟨true, tb, i, n⟩).endTurn i = ⟨T.S.sts.set i (.rdyS ⟨true, tb, i, n⟩ true), T.S.tbs, [{ d with buf := d.buf ++ [100 * (i : Int) + n] }], readyL (without T.S.line z) i⟩ := by
        have e1 : (T.S.start i z).send i 0 (100 * (i : Int) + n) ⟨true, tb, i, n⟩ = ⟨T.S.sts.set i (.rdyS ⟨true, tb, i, n⟩ true), T.S.tbs, [{ d with buf := d.buf ++ [100 * (i : Int) + n] }], readyL (without T.S.line z) i⟩ := by
          have hc0 : (T.S.start i z).cs[0]? = some d := hcs
          have e2 : (T.S.start i z).trySend 0 (100 * (i : Int) + n) = ((T.S.start i z).setC 0 { d with buf := d.buf ++ [100 * (i : Int) + n] }, true, true) := by
            unfold PS.trySend
            rw [hc0]
            simp only [h.op, hrc, Bool.false_eq_true, if_false, hfull]
          unfold PS.send
          rw [e2]
          simp only [if_true]
          congr 1
          · show (T.S.sts.set i .run).set i _ = _
            rw [List.set_set]
          · show T.S.cs.set 0 _ = _
            rw [h.cs]; rfl
        rw [e1]
        exact endTurn_no (s := .rdyS ⟨true, tb, i, n⟩ true) (get_set_i hs _) rfl
      have R1 := h.r.letin hs hi (tb := tb) hn ha (h.r.notS hs hk) h.r.nds
      have hsn : d.snd = [] := by
        cases e : d.snd with
        | nil => rfl
        | cons a b => exact absurd (by rw [h.sz]; exact h.i2 (by rw [e]; simp)) hfull
      refine ⟨⟨_, T.got, T.told + ((n - tolN s : Nat) : Int)⟩, acc ++ [100 * (i : Int) + n], { d with buf := d.buf ++ [100 * (i : Int) + n] }, hS.symm, rfl, rfl, ?_, ?_, rfl⟩
      · refine ⟨R1, rfl, h.sz, ?_, h.op, fun hc => absurd hrc hc, fun hc => absurd hsn hc, keep_run h.norun rfl, keep_tb h.tbs fun k hk => ?_, ?_⟩
        · have a := h.room
          have b := h.sz
          show (((d.buf ++ _).length : Nat) : Int) ≤ _
          rw [List.length_append, List.length_singleton]
          omega
        · cases hk; exact htb
        · have a := hsumT (.rdyS ⟨true, tb, i, n⟩ true) hs
          simp only [tol_rS, tol_wS] at a
          show T.told + ((n - tolN s : Nat) : Int) = ((sumN tolN (List.set _ _ _) : Nat) : Int)
          omega
      · show sumN wtN (List.set _ _ _) + List.length _ + 1 = sumN wtN T.S.sts + d.buf.length
        have a := hsumW (.rdyS ⟨true, tb, i, n⟩ true) hs
        simp only [wt_rS, List.length_append, List.length_singleton] at a ⊢
        omega
end
end Go.Proofs.YtbaidcnalkdhgaaGreat
set_option maxRecDepth 100000
namespace Go.Proofs.YtbaidcnalkdhgaaGreat
open Go Go.Eng
section
variable {nS nR i : Nat} {size z : Int} {T : TO} {d : C16} {acc got' : List Int} {s s' : St KO} {sts : List (St KO)} {tbs : List Nat}
theorem rbuf_cons (buf : List Int) (v : Int) : buf ++ [v] = rval buf v :: rbuf buf v := by
  cases buf <;> rfl
theorem rbuf_len (buf : List Int) (v : Int) : (rbuf buf v).length = buf.length := by
  cases buf <;> simp [rbuf]
/-- who receives: a value, or it waits -/
theorem InvO.recv (h : InvO nS nR size T acc d) (hs : T.S.sts[i]? = some s) (hi : nS ≤ i) (hr : InvR nS nR (T.S.sts.set i .run) d got' acc) (hw : wtN s = 1) (hwr : isWR s = false) (hpar : isWS s = false) (ht : tolN s = 0) {k : KO} (hk : k.snd = false) (htb : T.S.tbs[i]? = some k.tb) :
    ∃ T' acc' d', T'.S = ((T.S.start i z).recv i 0 k).endTurn i ∧ T'.got = got' ∧ T'.told = T.told ∧ InvO nS nR size T' acc' d' ∧ wtO T' d' + 1 = wtO T d ∧ d'.cb = d.cb := by
  have hcs : T.S.cs[0]? = some d := by rw [h.cs]; rfl
  have hc0 : (T.S.start i z).cs[0]? = some d := hcs
  have htold := h.told
  have hrun : (T.S.sts.set i .run)[i]? = some .run := get_set_i hs _
  cases hsn : d.snd with
  | cons m r =>
    have hmm : m ∈ d.snd := by rw [hsn]; exact List.mem_cons_self
    obtain ⟨sm, hm, hmw⟩ := (h.r.ms m).1 hmm
    have hmi : m ≠ i := by
      intro e; subst e
      rw [hs] at hm; cases hm
      rw [hpar] at hmw; cases hmw
    obtain ⟨hmS, tbm, n, hn, e⟩ : m < nS ∧ ∃ tbm n, n ≤ 5 ∧ sm = .wS ⟨true, tbm, m, n⟩ 0 (100 * (m : Int) + n) := by
      have := h.r.okS m sm hm
      cases this <;> first | (cases hmw; done) | exact ⟨by assumption, _, _, by assumption, rfl⟩
    subst e
    have hm0 : (T.S.sts.set i .run)[m]? = some (.wS ⟨true, tbm, m, n⟩ 0 (100 * (m : Int) + n)) := by rw [List.getElem?_set_ne (Ne.symm hmi)]; exact hm
    have R1 := hr.letin hm0 hmS (tb := tbm) hn rfl (snd' := r) (tail_iff hsn h.r.nds) (by have := h.r.nds; rw [hsn] at this; exact (List.nodup_cons.1 this).2)
    have hi1 : ((T.S.sts.set i .run).set m (.rdyS ⟨true, tbm, m, n⟩ true))[i]? = some .run := by rw [List.getElem?_set_ne hmi]; exact hrun
    have R2 := R1.del hi1 hi rfl hk (b := rval d.buf (100 * (m : Int) + n)) (t := rbuf d.buf (100 * (m : Int) + n)) (rbuf_cons _ _) (rcv' := d.rcv) (hr.notR hrun rfl) h.r.ndr
    rw [List.set_comm _ _ hmi.symm, List.set_set] at R2
    have hS : ((T.S.start i z).recv i 0 k).endTurn i = ⟨(T.S.sts.set m (.rdyS ⟨true, tbm, m, n⟩ true)).set i (.rdyR k (rval d.buf (100 * (m : Int) + n)) true), T.S.tbs, [{ d with buf := rbuf d.buf (100 * (m : Int) + n), snd := r }], readyL (readyL (without T.S.line z) m) i⟩ := by
      have e1 : (T.S.start i z).recv i 0 k = ⟨(T.S.sts.set m (.rdyS ⟨true, tbm, m, n⟩ true)).set i (.rdyR k (rval d.buf (100 * (m : Int) + n)) true), T.S.tbs, [{ d with buf := rbuf d.buf (100 * (m : Int) + n), snd := r }], readyL (readyL (without T.S.line z) m) i⟩ := by
        have hv : (T.S.start i z).valS m = 100 * (m : Int) + n := by
          unfold PS.valS
          rw [show (T.S.start i z).sts[m]? = _ from hm0]
        have e2 : (T.S.start i z).tryRecv 0 = (⟨(T.S.sts.set i .run).set m (.rdyS ⟨true, tbm, m, n⟩ true), T.S.tbs, T.S.cs.set 0 { d with buf := rbuf d.buf (100 * (m : Int) + n), snd := r }, readyL (without T.S.line z) m⟩, rval d.buf (100 * (m : Int) + n), true, true) := by
          unfold PS.tryRecv
          rw [hc0]
          simp only [hsn]
          rw [hv, wokeS_w (show (T.S.start i z).sts[m]? = _ from hm0)]
          rfl
        unfold PS.recv
        rw [e2]
        simp only [if_true]
        congr 1
        · rw [List.set_comm _ _ hmi.symm, List.set_set]
        · rw [h.cs]; rfl
      rw [e1]
      exact endTurn_no (s := .rdyR k (rval d.buf (100 * (m : Int) + n)) true) (by
        have : (T.S.sts.set m (.rdyS ⟨true, tbm, m, n⟩ true))[i]? = some s := by rw [List.getElem?_set_ne hmi]; exact hs
        exact get_set_i this _) rfl
    have hs2 : (T.S.sts.set m (.rdyS ⟨true, tbm, m, n⟩ true))[i]? = some s := by rw [List.getElem?_set_ne hmi]; exact hs
    refine ⟨⟨_, got', T.told⟩, acc ++ [100 * (m : Int) + n], { d with buf := rbuf d.buf (100 * (m : Int) + n), snd := r }, hS.symm, rfl, rfl, ?_, ?_, rfl⟩
    · refine ⟨R2, rfl, h.sz, ?_, h.op, fun hc => ?_, fun _ => ?_, keep_run (keep_run h.norun rfl) rfl, keep_tb (keep_tb h.tbs fun k' hk' => ?_) fun k' hk' => ?_, ?_⟩
      · show (((rbuf _ _).length : Nat) : Int) ≤ _
        rw [rbuf_len]; exact h.room
      · exact absurd (h.i1 hc).1 (by rw [hsn]; simp)
      · show (((rbuf _ _).length : Nat) : Int) = _
        rw [rbuf_len]; exact h.i2 (by rw [hsn]; simp)
      · cases hk'; exact h.tbs m _ _ hm rfl
      · cases hk'; exact htb
      · have a := sumN_set tolN T.S.sts m _ (.rdyS ⟨true, tbm, m, n⟩ true) hm
        have b := sumN_set tolN _ i _ (.rdyR k (rval d.buf (100 * (m : Int) + n)) true) hs2
        simp only [tol_rS, tol_rR, tol_wS] at a b
        show T.told = ((sumN tolN (List.set _ _ _) : Nat) : Int)
        omega
    · show sumN wtN (List.set _ _ _) + List.length (rbuf _ _) + 1 = sumN wtN T.S.sts + d.buf.length
      have a := sumN_set wtN T.S.sts m _ (.rdyS ⟨true, tbm, m, n⟩ true) hm
      have b := sumN_set wtN _ i _ (.rdyR k (rval d.buf (100 * (m : Int) + n)) true) hs2
      rw [rbuf_len]
      simp only [wt_rS, wt_rR, wt_wS] at a b
      omega
  | nil =>
    cases hbf : d.buf with
    | cons b t =>
      have R2 := hr.del hrun hi rfl hk (b := b) (t := t) hbf (rcv' := d.rcv) (hr.notR hrun rfl) h.r.ndr
      rw [List.set_set] at R2
      have hS : ((T.S.start i z).recv i 0 k).endTurn i = ⟨T.S.sts.set i (.rdyR k b true), T.S.tbs, [{ d with buf := t }], readyL (without T.S.line z) i⟩ := by
        have e1 : (T.S.start i z).recv i 0 k = ⟨T.S.sts.set i (.rdyR k b true), T.S.tbs, [{ d with buf := t }], readyL (without T.S.line z) i⟩ := by
          have e2 : (T.S.start i z).tryRecv 0 = ((T.S.start i z).setC 0 { d with buf := t }, b, true, true) := by
            unfold PS.tryRecv
            rw [hc0]
            simp only [hsn, hbf]
            rfl
          unfold PS.recv
          rw [e2]
          simp only [if_true]
          congr 1
          · show (T.S.sts.set i .run).set i _ = _
            rw [List.set_set]
          · show T.S.cs.set 0 _ = _
            rw [h.cs]; rfl
        rw [e1]
        exact endTurn_no (s := .rdyR k b true) (get_set_i hs _) rfl
      refine ⟨⟨_, got', T.told⟩, acc, { d with buf := t }, hS.symm, rfl, rfl, ?_, ?_, rfl⟩
      · refine ⟨R2, rfl, h.sz, ?_, h.op, fun hc => ?_, fun hc => absurd hsn hc, keep_run h.norun rfl, keep_tb h.tbs fun k' hk' => ?_, ?_⟩
        · have a := h.room
          rw [hbf, List.length_cons] at a
          show ((t.length : Nat) : Int) ≤ _
          omega
        · exact absurd (h.i1 hc).2 (by rw [hbf]; simp)
        · cases hk'; exact htb
        · have a := sumN_set tolN T.S.sts i _ (.rdyR k b true) hs
          simp only [tol_rR] at a
          show T.told = ((sumN tolN (List.set _ _ _) : Nat) : Int)
          omega
      · show sumN wtN (List.set _ _ _) + List.length t + 1 = sumN wtN T.S.sts + d.buf.length
        have a := sumN_set wtN T.S.sts i _ (.rdyR k b true) hs
        rw [hbf]
        simp only [wt_rR, List.length_cons] at a ⊢
        omega
    | nil =>
      have hni : i ∉ d.rcv := fun hm => ((hr.notR hrun rfl i).1 hm).1 rfl
      have R2 := hr.go hrun (s' := .wR k 0) (.wR k hi hk) rfl rfl (fun hc => by omega) (snd' := d.snd) (rcv' := d.rcv ++ [i]) (fun m => by rw [hr.notS hrun rfl m]; simp [isWS]) (fun m => by rw [snoc_iff]; simp [isWR]) h.r.nds (by
        rw [List.nodup_append]
        exact ⟨h.r.ndr, by simp, fun a ha b hb => by rw [List.mem_singleton.1 hb]; intro e; exact hni (e ▸ ha)⟩)
      rw [List.set_set] at R2
      have hS : ((T.S.start i z).recv i 0 k).endTurn i = ⟨T.S.sts.set i (.wR k 0), T.S.tbs, [{ d with rcv := d.rcv ++ [i] }], without T.S.line z⟩ := by
        have e1 : (T.S.start i z).recv i 0 k = ⟨T.S.sts.set i (.wR k 0), T.S.tbs, [{ d with rcv := d.rcv ++ [i] }], without T.S.line z⟩ := by
          have e2 : (T.S.start i z).tryRecv 0 = ((T.S.start i z).setC 0 { d with buf := [] }, 0, false, false) := by
            unfold PS.tryRecv
            rw [hc0]
            simp only [hsn, hbf, h.op]
            rfl
          unfold PS.recv
          rw [e2]
          simp only [Bool.false_eq_true, if_false, hc0]
          congr 1
          · show (T.S.sts.set i .run).set i _ = _
            rw [List.set_set]
          · show T.S.cs.set 0 _ = _
            rw [h.cs]; rfl
        rw [e1]
        exact endTurn_no (s := .wR k 0) (get_set_i hs _) rfl
      refine ⟨⟨_, got', T.told⟩, acc, { d with rcv := d.rcv ++ [i] }, hS.symm, rfl, rfl, ?_, ?_, rfl⟩
      · refine ⟨R2, rfl, h.sz, h.room, h.op, fun _ => ⟨hsn, hbf⟩, fun hc => absurd hsn hc, keep_run h.norun rfl, keep_tb h.tbs fun k' hk' => ?_, ?_⟩
        · cases hk'; exact htb
        · have a := sumN_set tolN T.S.sts i _ (.wR k 0) hs
          simp only [tol_wR] at a
          show T.told = ((sumN tolN (List.set _ _ _) : Nat) : Int)
          omega
      · show sumN wtN (List.set _ _ _) + List.length d.buf + 1 = sumN wtN T.S.sts + d.buf.length
        have a := sumN_set wtN T.S.sts i _ (.wR k 0) hs
        simp only [wt_wR] at a
        omega
/-- a turn -/
theorem InvO.turn (h : InvO nS nR size T acc d) (hs : T.S.sts[i]? = some s) (hr : s.rdy = true) : ∃ T' acc' d', turnO T i z s = some T' ∧ InvO nS nR size T' acc' d' ∧ wtO T' d' + 1 = wtO T d ∧ d'.cb = d.cb := by
  have ho := h.r.okS i s hs
  cases ho with
  | over => cases hr
  | wS => cases hr
  | wR => cases hr
  | runR => cases hr
  | bornS tb hi =>
    obtain ⟨T', acc', d', e1, e2, e3, I, W⟩ := h.send (z := z) hs hi (n := 0) (tb := tb) (by omega) rfl rfl (h.tbs i _ _ hs rfl) (Nat.le_refl _) rfl
    refine ⟨T', acc', d', ?_, I, W⟩
    obtain ⟨S', g', t'⟩ := T'
    subst e1 e2 e3
    show some (TO.mk _ _ _) = some (TO.mk _ _ _)
    simp [sndO, tol_rY]
  | rdyS tb n hi hn =>
    by_cases h6 : n + 1 = 6
    · have hn5 : n = 5 := by omega
      subst hn5
      obtain ⟨hp, hwr⟩ := (h.r.okS i _ hs).sp hi
      have hrun : (T.S.start i z).sts[i]? = some .run := get_set_i hs _
      have R2 := h.r.go hs (s' := .over) (.over hi) rfl rfl (fun _ => rfl) (snd' := d.snd) (rcv' := d.rcv) (fun m => by rw [h.r.notS hs rfl m]; simp [isWS]) (fun m => by rw [h.r.notR hs rfl m]; simp [isWR]) h.r.nds h.r.ndr
      refine ⟨⟨⟨T.S.sts.set i .over, T.S.tbs, T.S.cs, without T.S.line z⟩, T.got, T.told + 1⟩, acc, d, ?_, ?_, ?_, rfl⟩
      · show some (TO.mk _ _ _) = some (TO.mk _ _ _)
        have : (T.S.start i z).endTurn i = ⟨T.S.sts.set i .over, T.S.tbs, T.S.cs, without T.S.line z⟩ := by
          unfold PS.endTurn
          rw [hrun]
          show PS.mk ((T.S.sts.set i .run).set i .over) _ _ _ = _
          rw [List.set_set]
          rfl
        simp [sndO, this]
      · refine ⟨R2, h.cs, h.sz, h.room, h.op, h.i1, h.i2, keep_run h.norun rfl, keep_tb h.tbs fun k' hk' => (by cases hk'), ?_⟩
        have a := sumN_set tolN T.S.sts i _ .over hs
        have b := h.told
        simp only [tol_rS, tol_over] at a
        show T.told + 1 = ((sumN tolN (List.set _ _ _) : Nat) : Int)
        omega
      · show sumN wtN (List.set _ _ _) + List.length d.buf + 1 = sumN wtN T.S.sts + d.buf.length
        have a := sumN_set wtN T.S.sts i _ .over hs
        simp only [wt_rS, wt_over] at a
        omega
    · obtain ⟨T', acc', d', e1, e2, e3, I, W⟩ := h.send (z := z) hs hi (n := n + 1) (tb := tb) (by omega) rfl (by rw [wt_rS]; show 11 - 2 * n + _ = _; omega) (h.tbs i _ _ hs rfl) (by rw [tol_rS]; show n ≤ _; omega) rfl
      refine ⟨T', acc', d', ?_, I, W⟩
      obtain ⟨S', g', t'⟩ := T'
      subst e1 e2 e3
      show some (TO.mk _ _ _) = some (TO.mk _ _ _)
      have : ((n + 1 - tolN (St.rdyS ⟨true, tb, i, n⟩ true) : Nat) : Int) = 1 := by rw [tol_rS]; show ((n + 1 - n : Nat) : Int) = 1; omega
      simp [sndO, h6, this]
  | bornR k hi hk =>
    have R := h.r.go hs (s' := .run) (.runR hi) rfl rfl (fun hc => by omega) (snd' := d.snd) (rcv' := d.rcv) (fun m => by rw [h.r.notS hs rfl m]; simp [isWS]) (fun m => by rw [h.r.notR hs rfl m]; simp [isWR]) h.r.nds h.r.ndr
    obtain ⟨T', acc', d', e1, e2, e3, I, W⟩ := h.recv (z := z) hs hi R (by simp [wtN, hk]) rfl rfl rfl hk (h.tbs i _ _ hs rfl)
    refine ⟨T', acc', d', ?_, I, W⟩
    obtain ⟨S', g', t'⟩ := T'
    subst e1 e2 e3
    show some (TO.mk _ _ _) = some (TO.mk _ _ _)
    simp [hk]
  | rdyR k v hi hk =>
    have R := h.r.took hs hi
    obtain ⟨T', acc', d', e1, e2, e3, I, W⟩ := h.recv (z := z) hs hi R rfl rfl rfl rfl hk (h.tbs i _ _ hs rfl)
    refine ⟨T', acc', d', ?_, I, W⟩
    obtain ⟨S', g', t'⟩ := T'
    subst e1 e2 e3
    rfl
end
end Go.Proofs.YtbaidcnalkdhgaaGreat
set_option maxRecDepth 100000
namespace Go.Proofs.YtbaidcnalkdhgaaGreat
open Go Go.Eng
def kO (nS i t : Nat) : KO := if i < nS then ⟨true, t, i, 0⟩ else ⟨false, t, 0, 0⟩
def stO (nS : Nat) (tl : List Nat) : List (St KO) := tl.mapIdx fun i t => .rdyY (kO nS i t)
theorem stO_snoc (nS : Nat) (tl : List Nat) (t : Nat) : stO nS (tl ++ [t]) = stO nS tl ++ [.rdyY (kO nS tl.length t)] := by
  unfold stO; rw [List.mapIdx_concat]
theorem stO_get {nS : Nat} {tl : List Nat} {i : Nat} {s : St KO} (h : (stO nS tl)[i]? = some s) : ∃ t, tl[i]? = some t ∧ s = .rdyY (kO nS i t) := by
  unfold stO at h
  rw [List.getElem?_mapIdx] at h
  cases ht : tl[i]? with
  | none => rw [ht] at h; cases h
  | some t => rw [ht] at h; cases h; exact ⟨t, rfl, rfl⟩
theorem stO_len (nS : Nat) (tl : List Nat) : (stO nS tl).length = tl.length := by simp [stO]
theorem sumN_zero {f : St KO → Nat} : ∀ {l : List (St KO)}, (∀ (i : Nat) s, l[i]? = some s → f s = 0) → sumN f l = 0
  | [], _ => rfl
  | x :: l, h => by
    have a := h 0 x rfl
    have b := sumN_zero (l := l) fun i s hs => h (i + 1) s (by simpa using hs)
    simp only [sumN, List.map_cons, List.sum_cons] at b ⊢
    omega
theorem sumN_le {f : St KO → Nat} {c : Nat} : ∀ {l : List (St KO)}, (∀ (i : Nat) s, l[i]? = some s → f s ≤ c) → sumN f l ≤ c * l.length
  | [], _ => by simp [sumN]
  | x :: l, h => by
    have a := h 0 x rfl
    have b := sumN_le (l := l) fun i s hs => h (i + 1) s (by simpa using hs)
    simp only [sumN, List.map_cons, List.sum_cons, List.length_cons, Nat.mul_add, Nat.mul_one] at b ⊢
    omega
theorem sumN_all {f : St KO → Nat} {a : Nat} : ∀ {l : List (St KO)} {n : Nat}, n ≤ l.length → (∀ (i : Nat) s, l[i]? = some s → f s = if i < n then a else 0) → sumN f l = a * n
  | [], n, hn, _ => by simp at hn; subst hn; simp [sumN]
  | x :: l, n, hn, h => by
    have e0 := h 0 x rfl
    cases n with
    | zero =>
      rw [sumN_zero fun i s hs => by have := h i s hs; simpa using this]; rfl
    | succ n =>
      have b := sumN_all (l := l) (n := n) (a := a) (by simpa using hn) fun i s hs => by
        have := h (i + 1) s (by simpa using hs)
        simpa [Nat.add_lt_add_iff_right] using this
      simp at e0
      simp only [sumN, List.map_cons, List.sum_cons, Nat.mul_add, Nat.mul_one] at b ⊢
      omega
section
variable {nS nR i : Nat} {size z : Int} {T : TO} {d : C16} {acc got' : List Int} {s s' : St KO} {sts : List (St KO)} {tl : List Nat}
theorem invO_init (hl : tl.length = nS + nR) (hs : 0 ≤ size) (cb : Nat) (ln : List Int) : InvO nS nR size ⟨⟨stO nS tl, tl, [⟨cb, size, [], [], [], false⟩], ln⟩, [], 0⟩ [] ⟨cb, size, [], [], [], false⟩ := by
  have hy : ∀ (i : Nat) s, (stO nS tl)[i]? = some s → ∃ k, s = .rdyY k := fun i s h => by
    obtain ⟨t, _, e⟩ := stO_get h
    exact ⟨_, e⟩
  have hp : pnd (stO nS tl) = [] := pnd_nil fun i s h => by obtain ⟨k, rfl⟩ := hy i s h; rfl
  refine ⟨⟨by show (stO nS tl).length = _; rw [stO_len, hl], fun i s h => ?_, fun m => ?_, fun m => ?_, List.nodup_nil, List.nodup_nil, ?_, fun _ => ?_, fun i s hi h => ?_, by simp⟩, rfl, rfl, hs, rfl, fun h => absurd rfl h, fun h => absurd rfl h, fun i s h => ?_, fun i s k h hk => ?_, ?_⟩
  · obtain ⟨t, ht, rfl⟩ := stO_get h
    unfold kO
    split
    · exact .bornS t (by assumption)
    · exact .bornR _ (by omega) rfl
  · constructor
    · intro h; cases h
    · rintro ⟨s, h, hw⟩
      obtain ⟨k, rfl⟩ := hy m s h
      cases hw
  · constructor
    · intro h; cases h
    · rintro ⟨s, h, hw⟩
      obtain ⟨k, rfl⟩ := hy m s h
      cases hw
  · show ([] ++ (pnd (stO nS tl) ++ [])).Perm []
    rw [hp]
    exact List.Perm.refl _
  · show [] ++ (pnd (stO nS tl) ++ []) = []
    rw [hp]; rfl
  · obtain ⟨k, rfl⟩ := hy i s h
    rfl
  · obtain ⟨k, rfl⟩ := hy i s h
    rfl
  · obtain ⟨t, ht, rfl⟩ := stO_get h
    cases hk
    show tl[i]? = _
    rw [ht]
    unfold kO
    split <;> rfl
  · show (0 : Int) = ((sumN tolN (stO nS tl) : Nat) : Int)
    rw [sumN_zero fun i s h => by obtain ⟨k, rfl⟩ := hy i s h; rfl]
    rfl
theorem wtO_le (h : InvO nS nR size T acc d) (hn : nS + nR ≤ 8) (hsz : size ≤ 64) : wtO T d ≤ 168 := by
  have a : sumN wtN T.S.sts ≤ 13 * T.S.sts.length := sumN_le fun i s _ => by
    cases s <;> simp only [wtN] <;> first | omega | (split <;> omega)
  have b := h.r.len
  have c := h.room
  unfold wtO
  omega
/-- a list whose values have owners -/
theorem len_ids {nS : Nat} : ∀ {l : List Int}, (∀ v ∈ l, 0 ≤ v ∧ v / 100 < (nS : Int)) → l.length = ((List.range nS).map fun i : Nat => (l.filter (fun v => decide (v / 100 = (i : Int)))).length).sum
  | [], _ => by
    have : ((List.range nS).map fun i : Nat => (([] : List Int).filter (fun v => decide (v / 100 = (i : Int)))).length) = (List.range nS).map fun _ => 0 := rfl
    rw [this]; induction nS with | zero => rfl | succ n ih => rw [List.range_succ, List.map_append, List.sum_append, ← ih (by simp) rfl]; rfl
  | v :: l, h => by
    have ih := len_ids (l := l) fun v hv => h v (List.mem_cons_of_mem _ hv)
    obtain ⟨h0, h1⟩ := h v List.mem_cons_self
    obtain ⟨k, hk⟩ : ∃ k : Nat, v / 100 = (k : Int) := ⟨(v / 100).toNat, by omega⟩
    have hkn : k < nS := by omega
    have one : ∀ n : Nat, ((List.range n).map fun i : Nat => ((v :: l).filter (fun v => decide (v / 100 = (i : Int)))).length).sum = ((List.range n).map fun i : Nat => (l.filter (fun v => decide (v / 100 = (i : Int)))).length).sum + (if k < n then 1 else 0) := by
      intro n
      induction n with
      | zero => rfl
      | succ n ihn =>
        rw [List.range_succ, List.map_append, List.map_append, List.sum_append, List.sum_append, ihn]
        simp only [List.map_cons, List.map_nil, List.sum_cons, List.sum_nil]
        by_cases e : k = n
        · subst e
          rw [List.filter_cons_of_pos (by simp [hk])]
          simp [Nat.add_assoc]
        · rw [List.filter_cons_of_neg (by rw [hk]; simp; omega)]
          by_cases h2 : k < n
          · rw [if_pos h2, if_pos (by omega)]; omega
          · rw [if_neg h2, if_neg (by omega)]; simp
    rw [one nS, if_pos hkn, List.length_cons, ih]
theorem acc_get (h : InvO nS nR size T acc d) (hR : i < nS) : ∃ s, T.S.sts[i]? = some s ∧ accN s ≤ 6 ∧ acc.filter (fun v => decide (v / 100 = (i : Int))) = (List.range (accN s)).map fun (n : Nat) => 100 * (i : Int) + n := by
  obtain ⟨s, hs⟩ : ∃ s, T.S.sts[i]? = some s := ⟨_, List.getElem?_eq_getElem (by rw [h.r.len]; omega)⟩
  refine ⟨s, hs, ?_, h.r.filt i s hR hs⟩
  have := h.r.okS i s hs
  cases this <;> simp only [accN] <;> omega
theorem acc_len (h : InvO nS nR size T acc d) : acc.length ≤ 6 * nS := by
  rw [len_ids h.r.rng]
  have : ∀ n, n ≤ nS → ((List.range n).map fun i : Nat => (acc.filter (fun v => decide (v / 100 = (i : Int)))).length).sum ≤ 6 * n := by
    intro n
    induction n with
    | zero => intro _; simp
    | succ n ih =>
      intro hn
      rw [List.range_succ, List.map_append, List.sum_append]
      obtain ⟨s, _, h6, e⟩ := acc_get h (i := n) (by omega)
      have := ih (by omega)
      simp only [List.map_cons, List.map_nil, List.sum_cons, List.sum_nil, e, List.length_map, List.length_range]
      omega
  exact this nS (Nat.le_refl _)
theorem got_len (h : InvO nS nR size T acc d) : T.got.length ≤ 6 * nS := by
  have a := h.r.perm.length_eq
  rw [List.length_append] at a
  have := acc_len h
  omega
/-- how it ends -/
structure FinO (nS nR : Nat) (T : TO) (d : C16) : Prop where
  buf : d.buf = []
  told : T.told = 6 * nS
  len : T.got.length = 6 * nS
  rng : ∀ v ∈ T.got, 0 ≤ v ∧ v / 100 < (nS : Int)
  six : ∀ i : Nat, i < nS → (T.got.filter (fun v => decide (v / 100 = (i : Int)))).length = 6
  ord : nR = 1 → ∀ (p : Nat) v, T.got[p]? = some v → v % 100 = (((T.got.take p).filter (fun u => decide (u / 100 = v / 100))).length : Int)
theorem InvO.fin (h : InvO nS nR size T acc d) (hR : 1 ≤ nR) (hn : ∀ (i : Nat) s, T.S.sts[i]? = some s → s.rdy = false) : FinO nS nR T d := by
  obtain ⟨sr, hsr⟩ : ∃ s, T.S.sts[nS]? = some s := ⟨_, List.getElem?_eq_getElem (by rw [h.r.len]; omega)⟩
  have hrcv : nS ∈ d.rcv := by
    refine (h.r.mr nS).2 ⟨sr, hsr, ?_⟩
    have a := h.r.okS nS sr hsr
    have b := hn nS sr hsr
    have c := h.norun nS sr hsr
    cases a <;> first | rfl | omega | (cases b; done) | (cases c; done)
  obtain ⟨hsn, hbf⟩ := h.i1 (List.ne_nil_of_mem hrcv)
  have hover : ∀ i, i < nS → T.S.sts[i]? = some .over := fun i hi => by
    obtain ⟨s, hs⟩ : ∃ s, T.S.sts[i]? = some s := ⟨_, List.getElem?_eq_getElem (by rw [h.r.len]; omega)⟩
    rw [hs]
    have a := h.r.okS i s hs
    have b := hn i s hs
    have c := h.norun i s hs
    cases a with
    | wS tb n _ _ =>
      have : i ∈ d.snd := (h.r.ms i).2 ⟨_, hs, rfl⟩
      rw [hsn] at this; cases this
    | over => rfl
    | _ => first | omega | (cases b; done) | (cases c; done)
  have hpn : pnd T.S.sts = [] := pnd_nil fun i s hs => by
    have b := hn i s hs
    cases s <;> first | rfl | (cases b; done)
  have hperm : T.got.Perm acc := by
    have := h.r.perm
    rw [hpn, hbf] at this
    simpa using this
  have hfil : ∀ i : Nat, i < nS → acc.filter (fun v => decide (v / 100 = (i : Int))) = (List.range 6).map fun (n : Nat) => 100 * (i : Int) + n := fun i hi => h.r.filt i .over hi (hover i hi)
  have hsix : ∀ i : Nat, i < nS → (T.got.filter (fun v => decide (v / 100 = (i : Int)))).length = 6 := fun i hi => by
    rw [(hperm.filter _).length_eq, hfil i hi]; rfl
  have hrng : ∀ v ∈ T.got, 0 ≤ v ∧ v / 100 < (nS : Int) := fun v hv => h.r.rng v (hperm.mem_iff.1 hv)
  refine ⟨hbf, ?_, ?_, hrng, hsix, fun h1 p v hp => ?_⟩
  · rw [h.told, sumN_all (a := 6) (n := nS) (by rw [h.r.len]; omega) fun i s hs => ?_]
    · omega
    · by_cases hi : i < nS
      · rw [if_pos hi]
        have := hover i hi
        rw [hs] at this; cases this; rfl
      · rw [if_neg hi]
        have a := h.r.okS i s hs
        cases a <;> first | rfl | omega
  · rw [len_ids hrng]
    have : ∀ n, n ≤ nS → ((List.range n).map fun i : Nat => (T.got.filter (fun v => decide (v / 100 = (i : Int)))).length).sum = 6 * n := by
      intro n
      induction n with
      | zero => intro _; simp
      | succ n ih =>
        intro hn
        rw [List.range_succ, List.map_append, List.sum_append, ih (by omega)]
        simp only [List.map_cons, List.map_nil, List.sum_cons, List.sum_nil, hsix n (by omega)]
        omega
    exact this nS (Nat.le_refl _)
  · have hga : T.got = acc := by
      have := h.r.eq h1
      rw [hpn, hbf] at this
      simpa using this
    obtain ⟨h0, hv⟩ := hrng v (List.mem_of_getElem? hp)
    obtain ⟨i, hi⟩ : ∃ i : Nat, v / 100 = (i : Int) := ⟨(v / 100).toNat, by omega⟩
    have hiS : i < nS := by omega
    have hf := hfil i hiS
    rw [← hga] at hf
    have hpl := (List.getElem?_eq_some_iff.1 hp).1
    have e : T.got = T.got.take p ++ v :: T.got.drop (p + 1) := by
      conv => lhs; rw [← List.take_append_drop p T.got, List.drop_eq_getElem_cons hpl, (List.getElem?_eq_some_iff.1 hp).2]
    rw [e, List.filter_append, List.filter_cons_of_pos (by simp [hi])] at hf
    rw [hi]
    generalize hA : (T.got.take p).filter (fun u => decide (u / 100 = (i : Int))) = A at hf ⊢
    have hg : ((List.range 6).map fun (n : Nat) => 100 * (i : Int) + n)[A.length]? = some v := by
      rw [← hf, List.getElem?_append_right (Nat.le_refl _), Nat.sub_self]; rfl
    rw [List.getElem?_map] at hg
    have hA6 : A.length < 6 := by
      have := congrArg List.length hf
      simp at this
      omega
    rw [List.getElem?_range hA6] at hg
    have : 100 * (i : Int) + (A.length : Nat) = v := Option.some.inj hg
    omega
end
end Go.Proofs.YtbaidcnalkdhgaaGreat
set_option maxRecDepth 100000
namespace Go.Proofs.YtbaidcnalkdhgaaGreat
open Go Go.Eng
structure BO where
  bad : Nat
  cbx : Nat
  told : Nat
  snb : Nat
  got : Nat
  rvb : Nat
  cb : Nat
def fS (b : BO) : Value := .func (.func 16) #[] #[pt b.bad, pt b.cbx, pt b.told, pt b.snb]
def fR (b : BO) : Value := .func (.func 19) #[] #[pt b.bad, pt b.cbx, pt b.got, pt b.rvb]
def statO (b : BO) : List Bx := [(b.cbx, [pt b.cb], 28), (b.snb, [fS b], 33), (b.rvb, [fR b], 37)]
def LO (b : BO) : LawP KO where
  th := fun k kb v => ∃ tbx idx nx : Nat, v = .func (.func 18) #[] #[pt b.told, pt b.snb, pt tbx, pt idx, pt nx] ∧ (tbx, [pt k.tb], 34) ∈ kb ∧ (idx, [.int .i64 k.id], 3) ∈ kb ∧ (nx, [.int .i64 k.n], 3) ∈ kb
  tr := fun k kb v => ∃ tbx : Nat, v = .func (.func 21) #[] #[pt b.got, pt b.rvb, pt tbx] ∧ (tbx, [pt k.tb], 34) ∈ kb
  yd := fun k t kb v => k.tb = t ∧ ∃ fb tx : Nat, v = .func (.func 98) #[] #[pt fb, pt tx] ∧ (tx, [pt t], 34) ∈ kb ∧ ((k.snd = true ∧ ∃ ib : Nat, (fb, [.func (.func 23) #[] #[pt b.snb, pt ib]], 37) ∈ kb ∧ (ib, [.int .i64 k.id], 3) ∈ kb) ∨ (k.snd = false ∧ (fb, [fR b], 37) ∈ kb))
  xd := fun _ _ _ _ => False
  mth := by
    rintro k kb kb' v h ⟨a, b, c, e, h1, h2, h3⟩
    exact ⟨a, b, c, e, h _ h1, h _ h2, h _ h3⟩
  mtr := fun {k kb kb' v} h ⟨a, e, h1⟩ => ⟨a, e, h _ h1⟩
  myd := fun {k t kb kb' v} h ⟨e, a, b, e2, h1, h2⟩ => ⟨e, a, b, e2, h _ h1, h2.imp (fun ⟨e3, ib, h3, h4⟩ => ⟨e3, ib, h _ h3, h _ h4⟩) (fun ⟨e3, h3⟩ => ⟨e3, h _ h3⟩)⟩
  mxd := fun _ e => e
def MO (b : BO) (got : List Int) (told : Int) : Asr := Pt b.bad [.bool false] 4 * (Pt b.told [.int .i64 told] 3 * Ex fun gv : Value => Pt b.got [gv] 32 * Ow 3 1 iE gv got)
instance instLclMO (b : BO) (got : List Int) (told : Int) : Lcl (MO b got told) := by unfold MO; infer_instance
section
variable {w w0 : World} {F0 : Nat → Prop} {R : Asr} {b : BO} {rb tb i : Nat} {rest : Int} {kb : List Bx} {S : PS KO} {d : C16} {got : List Int} {told : Int} {nowi : Option Nat}
theorem mo_bad (S1 : At (PWA (LO b) rb nowi rest kb S * (MO b got told * R)) w0 F0 w) : At (Pt b.bad [.bool false] 4 * (PWA (LO b) rb nowi rest kb S * (Pt b.told [.int .i64 told] 3 * ((Ex fun gv : Value => Pt b.got [gv] 32 * Ow 3 1 iE gv got) * R)))) w0 F0 w := S1.ac (by unfold MO; ac_rfl)
theorem mo_shut (S1 : At (Pt b.bad [.bool false] 4 * (PWA (LO b) rb nowi rest kb S * (Pt b.told [.int .i64 told] 3 * ((Ex fun gv : Value => Pt b.got [gv] 32 * Ow 3 1 iE gv got) * R)))) w0 F0 w) : At (PWA (LO b) rb nowi rest kb S * (MO b got told * R)) w0 F0 w := S1.ac (by unfold MO; ac_rfl)
/-- send -/
theorem w_send1 [Lcl R] (S1 : At (PWA (LO b) rb (some i) rest kb S * (MO b got told * R)) w0 F0 w) (hi : S.sts[i]? = some .run) (ht : S.tbs[i]? = some tb) (hcs : S.cs = [d]) (hcb : d.cb = b.cb) (hkb : ∀ x ∈ statO b, x ∈ kb) {id n : Nat} (hid : id ≤ 100) (hn : n ≤ 6) :
    Rets Tryz.prog 16 #[pt tb, .int .i64 id, .int .i64 n, pt b.bad, pt b.cbx, pt b.told, pt b.snb] w fun _ w' => ∃ kb', (∀ x ∈ kb, x ∈ kb') ∧ At (PWA (LO b) rb (some i) rest kb' (sndO S i tb id n) * (MO b got told * R)) w0 F0 w' := by
  refine rets_of Tryz.func16 rfl Tryz.ntmps16 rfl rfl (by kernel_rfl) ?_
  ((apply vC_seq; apply vC_region)); (((iterate 3 (((apply vL_val); (case h => ((apply opw_box1); exact norm_eq rfl; (first | rfl | assumption)))))); apply vL_nil)); with_reducible apply seqP_normal
  (((iterate 2 (apply vC_seq)); apply vC_region))
  refine vL_gen (fun w' => At (Pt ((w.alloc (.cells #[pt tb] 34)).alloc (.cells #[.int .i64 id] 3)).heap.size [.int .i64 n] 3 * (Pt (w.alloc (.cells #[pt tb] 34)).heap.size [.int .i64 id] 3 * (Pt w.heap.size [pt tb] 34 * (PWA (LO b) rb (some i) rest kb S * (MO b got told * R))))) w0 F0 w') S1.alloc.alloc.alloc ?_
  intro w1 S2
  generalize ((w.alloc (.cells #[pt tb] 34)).alloc (.cells #[.int .i64 id] 3)).heap.size = b9 at S2 ⊢
  generalize (w.alloc (.cells #[pt tb] 34)).heap.size = b8 at S2 ⊢
  generalize w.heap.size = b7 at S2 ⊢
  have S3 := pw_box (pw_box (pw_box (L := LO b) (rb := rb) (nowi := some i) (rest := rest) (S := S) (kb := kb) (b := b7) (cs := [pt tb]) (T := 34) (R := Pt b8 [.int .i64 id] 3 * (Pt b9 [.int .i64 n] 3 * (MO b got told * R))) (S2.ac (by ac_rfl)) |>.ac (show _ = Pt b8 [.int .i64 id] 3 * (PWA (LO b) rb (some i) rest ((b7, [pt tb], 34) :: kb) S * (Pt b9 [.int .i64 n] 3 * (MO b got told * R))) by ac_rfl)) |>.ac (show _ = Pt b9 [.int .i64 n] 3 * (PWA (LO b) rb (some i) rest ((b8, [.int .i64 id], 3) :: (b7, [pt tb], 34) :: kb) S * (MO b got told * R)) by ac_rfl))
  clear S2 S1
  generalize hk0 : ((b9, [.int .i64 n], 3) :: (b8, [.int .i64 id], 3) :: (b7, [pt tb], 34) :: kb : List Bx) = k1 at S3
  have hkk : ∀ x ∈ kb, x ∈ k1 := fun x hx => by rw [← hk0]; exact List.mem_cons_of_mem _ (List.mem_cons_of_mem _ (List.mem_cons_of_mem _ hx))
  have m9 : (b9, [.int .i64 n], 3) ∈ k1 := by rw [← hk0]; simp
  have m8 : (b8, [.int .i64 id], 3) ∈ k1 := by rw [← hk0]; simp
  have m7 : (b7, [pt tb], 34) ∈ k1 := by rw [← hk0]; simp
  clear hk0
  have mc : (b.cbx, [pt b.cb], 28) ∈ k1 := hkk _ (hkb _ (by simp [statO]))
  have e9 := pw_bx S3 m9
  have e8 := pw_bx S3 m8
  have e7 := pw_bx S3 m7
  have ec := pw_bx S3 mc
  have S4 := mo_bad S3
  have eb := S4.blk
  (((apply vL_val); (case h => ((apply opv_loadb1); exact rfl; exact rfl; assumption; exact rfl))); ((apply vL_val); (case h => ((apply opv_E); exact rfl))); apply vL_nil; apply seqP_normal)
  refine vC_cond_dec rfl (fun hc => ?_) (fun hc => ?_)
  · have h6 : n = 6 := by omega
    (apply vC_ret; apply seqP_ret)
    (first | apply ret0 | apply ret0n)
    refine ⟨k1, hkk, ?_⟩
    rw [show sndO S i tb id n = S by unfold sndO; rw [if_pos h6]]
    exact S3
  · have h6 : n ≠ 6 := by omega
    (apply vC_skip; apply seqP_normal; apply vC_region; (iterate 13 (first | ((with_reducible apply vL_val); (case h => ((with_reducible apply opv_E); exact rfl))) | ((with_reducible apply vL_val); (case h => ((with_reducible apply opv_loadb1); exact rfl; exact rfl; assumption; exact rfl))) | ((with_reducible apply vL_val); (case h => ((with_reducible apply opv_mul); exact rfl; exact rfl; (first | omega | (simp only [List.length_map]; omega))))) | ((with_reducible apply vL_wanted); exact rfl))); ((apply vL_val); (case h => ((apply opv_add); exact rfl; exact rfl; (first | omega | (simp only [List.length_map]; omega))))); ((apply vL_wanted); exact rfl); ((apply vL_val); (case h => ((apply opv_makeFunc); exact rfl))); ((apply vL_wanted); exact rfl))
    have hsd := pw_send S3 hi ht (j := 0) (d := d) (by rw [hcs]; rfl) (100 * (id : Int) + n) 18 [pt b.told, pt b.snb, pt b7, pt b8, pt b9] ⟨true, tb, id, n⟩ ⟨b7, b8, b9, rfl, m7, m8, m9⟩
    rw [hcb] at hsd
    refine vL_callF rfl (hsd) rfl ?_
    rintro _ w2 ⟨rfl, kb', hkb', S5⟩
    have S6 := mo_bad S5
    have eb6 := S6.blk
    (((apply vL_wanted); exact rfl); (iterate 2 (((apply vL_val); (case h => ((apply opv_E); exact rfl))))); ((apply vL_skip); (case h => ((apply ops_store1); exact norm_eq rfl; exact norm_eq rfl; (first | rfl | assumption); assumption; (first | decide | exact of_decide_eq_true rfl | (simp; done))))); apply vL_nil)
    (first | apply ret0 | apply ret0n)
    refine ⟨kb', fun x hx => hkb' x (hkk x hx), ?_⟩
    rw [show sndO S i tb id n = S.send i 0 (100 * (id : Int) + n) ⟨true, tb, id, n⟩ by unfold sndO; rw [if_neg h6]]
    exact mo_shut (S6.set (cs' := [.bool false]))
/-- receive -/
theorem w_recv2 [Lcl R] (S1 : At (PWA (LO b) rb (some i) rest kb S * (MO b got told * R)) w0 F0 w) (hi : S.sts[i]? = some .run) (ht : S.tbs[i]? = some tb) (hcs : S.cs = [d]) (hcb : d.cb = b.cb) (hkb : ∀ x ∈ statO b, x ∈ kb) (k : KO) (hk : k.tb = tb) :
    Rets Tryz.prog 19 #[pt tb, pt b.bad, pt b.cbx, pt b.got, pt b.rvb] w fun _ w' => ∃ kb', (∀ x ∈ kb, x ∈ kb') ∧ At (PWA (LO b) rb (some i) rest kb' (S.recv i 0 k) * (MO b got told * R)) w0 F0 w' := by
  refine rets_of Tryz.func19 rfl Tryz.ntmps19 rfl rfl (by kernel_rfl) ?_
  ((apply vC_seq; apply vC_region)); ((((apply vL_val); (case h => ((apply opw_box1); exact norm_eq rfl; (first | rfl | assumption)))); apply vL_nil)); with_reducible apply seqP_normal
  ((apply vC_region))
  refine vL_gen (fun w' => At (Pt w.heap.size [pt tb] 34 * (PWA (LO b) rb (some i) rest kb S * (MO b got told * R))) w0 F0 w') S1.alloc ?_
  intro w1 S2
  generalize w.heap.size = b7 at S2 ⊢
  have S3 := pw_box S2
  clear S2 S1
  generalize hk0 : ((b7, [pt tb], 34) :: kb : List Bx) = k1 at S3
  have hkk : ∀ x ∈ kb, x ∈ k1 := fun x hx => by rw [← hk0]; exact List.mem_cons_of_mem _ hx
  have m7 : (b7, [pt tb], 34) ∈ k1 := by rw [← hk0]; simp
  clear hk0
  have mc : (b.cbx, [pt b.cb], 28) ∈ k1 := hkk _ (hkb _ (by simp [statO]))
  have e7 := pw_bx S3 m7
  have ec := pw_bx S3 mc
  have S4 := mo_bad S3
  have eb := S4.blk
  ((iterate 7 (first | ((with_reducible apply vL_val); (case h => ((with_reducible apply opv_E); exact rfl))) | ((with_reducible apply vL_val); (case h => ((with_reducible apply opv_loadb1); exact rfl; exact rfl; assumption; exact rfl))) | ((with_reducible apply vL_wanted); exact rfl))); ((apply vL_val); (case h => ((apply opv_makeFunc); exact rfl))); ((apply vL_wanted); exact rfl))
  have hsd := pw_recv S3 hi ht (j := 0) (d := d) (by rw [hcs]; rfl) 21 [pt b.got, pt b.rvb, pt b7] k ⟨b7, rfl, by rw [hk]; exact m7⟩
  rw [hcb] at hsd
  refine vL_callF rfl (hsd) rfl ?_
  rintro _ w2 ⟨rfl, kb', hkb', S5⟩
  have S6 := mo_bad S5
  have eb6 := S6.blk
  (((apply vL_wanted); exact rfl); (iterate 2 (((apply vL_val); (case h => ((apply opv_E); exact rfl))))); ((apply vL_skip); (case h => ((apply ops_store1); exact norm_eq rfl; exact norm_eq rfl; (first | rfl | assumption); assumption; (first | decide | exact of_decide_eq_true rfl | (simp; done))))); apply vL_nil)
  (first | apply ret0 | apply ret0n)
  refine ⟨kb', fun x hx => hkb' x (hkk x hx), ?_⟩
  exact mo_shut (S6.set (cs' := [.bool false]))
end
end Go.Proofs.YtbaidcnalkdhgaaGreat
set_option maxRecDepth 100000
namespace Go.Proofs.YtbaidcnalkdhgaaGreat
open Go Go.Eng
section
variable {w w0 : World} {F0 : Nat → Prop} {R : Asr} {b : BO} {rb tb i : Nat} {rest : Int} {kb : List Bx} {S : PS KO} {d : C16} {got : List Int} {told : Int} {nowi : Option Nat}
theorem mo_told (S1 : At (PWA (LO b) rb nowi rest kb S * (MO b got told * R)) w0 F0 w) : At (Pt b.told [.int .i64 told] 3 * (PWA (LO b) rb nowi rest kb S * (Pt b.bad [.bool false] 4 * ((Ex fun gv : Value => Pt b.got [gv] 32 * Ow 3 1 iE gv got) * R)))) w0 F0 w := S1.ac (by unfold MO; ac_rfl)
theorem mo_told' (S1 : At (Pt b.told [.int .i64 told] 3 * (PWA (LO b) rb nowi rest kb S * (Pt b.bad [.bool false] 4 * ((Ex fun gv : Value => Pt b.got [gv] 32 * Ow 3 1 iE gv got) * R)))) w0 F0 w) : At (PWA (LO b) rb nowi rest kb S * (MO b got told * R)) w0 F0 w := S1.ac (by unfold MO; ac_rfl)
theorem mo_got (S1 : At (PWA (LO b) rb nowi rest kb S * (MO b got told * R)) w0 F0 w) : ∃ gv : Value, At (Pt b.got [gv] 32 * (Ow 3 1 iE gv got * (PWA (LO b) rb nowi rest kb S * (Pt b.bad [.bool false] 4 * (Pt b.told [.int .i64 told] 3 * R))))) w0 F0 w := by
  obtain ⟨gv, h⟩ := (S1.ac (show _ = (Ex fun gv : Value => Pt b.got [gv] 32 * Ow 3 1 iE gv got) * (PWA (LO b) rb nowi rest kb S * (Pt b.bad [.bool false] 4 * (Pt b.told [.int .i64 told] 3 * R))) by unfold MO; ac_rfl)).ex
  exact ⟨gv, h.ac (by ac_rfl)⟩
theorem mo_got' {gv : Value} (S1 : At (Pt b.got [gv] 32 * (Ow 3 1 iE gv got * (PWA (LO b) rb nowi rest kb S * (Pt b.bad [.bool false] 4 * (Pt b.told [.int .i64 told] 3 * R))))) w0 F0 w) : At (PWA (LO b) rb nowi rest kb S * (MO b got told * R)) w0 F0 w := by
  have h2 : At ((Ex fun gv : Value => Pt b.got [gv] 32 * Ow 3 1 iE gv got) * (PWA (LO b) rb nowi rest kb S * (Pt b.bad [.bool false] 4 * (Pt b.told [.int .i64 told] 3 * R)))) w0 F0 w := At.intro gv (S1.ac (by ac_rfl))
  exact h2.ac (by unfold MO; ac_rfl)
theorem w_then1 [Lcl R] (S1 : At (PWA (LO b) rb (some i) rest kb S * (MO b got told * R)) w0 F0 w) (hi : S.sts[i]? = some .run) (ht : S.tbs[i]? = some tb) (hcs : S.cs = [d]) (hcb : d.cb = b.cb) (hkb : ∀ x ∈ statO b, x ∈ kb) {id n : Nat} (hid : id ≤ 100) (hn : n ≤ 5) (htl : 0 ≤ told ∧ told ≤ 100000) {tbx idx nx : Nat} (h1 : (tbx, [pt tb], 34) ∈ kb) (h2 : (idx, [.int .i64 id], 3) ∈ kb) (h3 : (nx, [.int .i64 n], 3) ∈ kb) :
    Rets Tryz.prog 18 #[.bool true, pt b.told, pt b.snb, pt tbx, pt idx, pt nx] w fun _ w' => ∃ kb', (∀ x ∈ kb, x ∈ kb') ∧ At (PWA (LO b) rb (some i) rest kb' (sndO S i tb id (n + 1)) * (MO b got (told + 1) * R)) w0 F0 w' := by
  refine rets_of Tryz.func18 rfl Tryz.ntmps18 rfl rfl (by kernel_rfl) ?_
  have S2 := mo_told S1
  have et := S2.blk
  ((iterate 2 (apply vC_seq)); apply vC_region; ((apply vL_val); (case h => ((apply opv_E); exact rfl))); apply vL_nil; apply seqP_normal; ((apply vC_cond_true); exact rfl); apply vC_region; ((apply vL_val); (case h => ((apply opv_loadb1); exact rfl; exact rfl; assumption; exact rfl))); ((apply vL_val); (case h => ((apply opv_add); exact rfl; exact rfl; (first | omega | (simp only [List.length_map]; omega))))); ((apply vL_skip); (case h => ((apply ops_store1); exact norm_eq rfl; exact norm_eq rfl; (first | rfl | assumption); assumption; (first | decide | exact of_decide_eq_true rfl | (simp; done))))); apply vL_nil; apply seqP_normal; apply vC_region)
  have S3 := mo_told' (S2.set (cs' := [.int .i64 (told + 1)]))
  refine vL_gen (fun w' => At (PWA (LO b) rb (some i) rest kb S * (MO b got (told + 1) * R)) w0 F0 w') S3 ?_
  intro w3 S4
  have e1 := pw_bx S4 h1
  have e2 := pw_bx S4 h2
  have e3 := pw_bx S4 h3
  have es := pw_bx S4 (hkb (b.snb, [fS b], 33) (by simp [statO]))
  unfold fS at es
  ((iterate 4 (((apply vL_val); (case h => ((apply opv_loadb1); exact rfl; exact rfl; assumption; exact rfl))))); ((apply vL_val); (case h => ((apply opv_add); exact rfl; exact rfl; (first | omega | (simp only [List.length_map]; omega))))))
  have hc := w_send1 (tb := tb) S4 hi ht hcs hcb hkb hid (n := n + 1) (by omega)
  rw [Int.natCast_add n 1] at hc
  refine vL_callF rfl (hc) rfl ?_
  intro _ w4 h
  (apply vL_nil)
  (first | apply ret0 | apply ret0n)
  exact h
theorem w_then2 [Lcl R] (S1 : At (PWA (LO b) rb (some i) rest kb S * (MO b got told * R)) w0 F0 w) (hi : S.sts[i]? = some .run) (ht : S.tbs[i]? = some tb) (hcs : S.cs = [d]) (hcb : d.cb = b.cb) (hkb : ∀ x ∈ statO b, x ∈ kb) (k : KO) (hk : k.tb = tb) (hgl : got.length ≤ 100000) (v : Int) {tbx : Nat} (h1 : (tbx, [pt tb], 34) ∈ kb) :
    Rets Tryz.prog 21 #[.int .i64 v, .bool true, pt b.got, pt b.rvb, pt tbx] w fun _ w' => ∃ kb', (∀ x ∈ kb, x ∈ kb') ∧ At (PWA (LO b) rb (some i) rest kb' (S.recv i 0 k) * (MO b (got ++ [v]) told * R)) w0 F0 w' := by
  obtain ⟨gv, S2⟩ := mo_got S1
  have eg := S2.blk
  have S3 := S2.ac (show _ = Ow 3 1 iE gv got * (Pt b.got [gv] 32 * (PWA (LO b) rb (some i) rest kb S * (Pt b.bad [.bool false] 4 * (Pt b.told [.int .i64 told] 3 * R)))) by ac_rfl)
  have og := S3.own
  refine rets_of Tryz.func21 rfl Tryz.ntmps21 rfl rfl (by kernel_rfl) ?_
  ((iterate 2 (apply vC_seq)); apply vC_region; ((apply vL_val); (case h => ((apply opv_E); exact rfl))); apply vL_nil; apply seqP_normal; ((apply vC_cond_true); exact rfl); apply vC_region; ((apply vL_val); (case h => ((apply opv_loadb1); exact rfl; exact rfl; assumption; exact rfl))); ((apply vL_val); (case h => ((apply opv_E); exact rfl))); ((apply vL_val); (case h => ((apply opw_buildSl); exact rfl; exact rfl; exact rfl; exact (rfl : _ = some [_])))))
  refine vL_append (enc := iE) (xs := got) (ys := [v]) (by (((conv => lhs; whnf) <;> exact rfl))) (by (exact norm_eq rfl)) (Own.alloc og.1) (Rd.new1 _ _ rfl) rfl (by decide) ?_ ?_ ?_
  · simp [maxLen]; omega
  · simp; omega
  intro v' w7 ho7 hf7 hfr7 hone7 _
  have hfa : Fr (fun j => own gv = some j) w w7 := ((Fr.refl _ w).alloc _).trans' hf7 (fun i hi => .inl hi)
  have S10 := S3.owTo hfa ho7 hone7 (fun k hk => (hfr7 k hk).imp id (fun h => by rw [alloc_size] at h; exact Nat.le_trans (Nat.le_succ _) h))
  have S11 := S10.ac (show _ = Pt b.got [gv] 32 * (Ow 3 1 iE v' (got ++ [v]) * (PWA (LO b) rb (some i) rest kb S * (Pt b.bad [.bool false] 4 * (Pt b.told [.int .i64 told] 3 * R)))) by ac_rfl)
  have eg7 := S11.blk
  (((apply vL_skip); (case h => ((apply ops_store1); exact norm_eq rfl; ((conv => lhs; whnf) <;> exact rfl); (first | rfl | assumption); assumption; (first | decide | exact of_decide_eq_true rfl | (simp; done))))); apply vL_nil; apply seqP_normal; apply vC_region)
  have S12 := mo_got' (S11.set (cs' := [v']))
  refine vL_gen (fun w' => At (PWA (LO b) rb (some i) rest kb S * (MO b (got ++ [v]) told * R)) w0 F0 w') S12 ?_
  intro w8 S4
  have e1 := pw_bx S4 h1
  have es := pw_bx S4 (hkb (b.rvb, [fR b], 37) (by simp [statO]))
  unfold fR at es
  ((iterate 2 (((apply vL_val); (case h => ((apply opv_loadb1); exact rfl; exact rfl; assumption; exact rfl))))))
  refine vL_callF rfl (w_recv2 S4 hi ht hcs hcb hkb k hk) rfl ?_
  intro _ w9 h
  (apply vL_nil)
  (first | apply ret0 | apply ret0n)
  exact h
theorem w_born3 [Lcl R] (S1 : At (PWA (LO b) rb (some i) rest kb S * (MO b got told * R)) w0 F0 w) (hi : S.sts[i]? = some .run) (ht : S.tbs[i]? = some tb) (hcs : S.cs = [d]) (hcb : d.cb = b.cb) (hkb : ∀ x ∈ statO b, x ∈ kb) {id : Nat} (hid : id ≤ 100) {ib : Nat} (h2 : (ib, [.int .i64 id], 3) ∈ kb) :
    Rets Tryz.prog 23 #[pt tb, pt b.snb, pt ib] w fun _ w' => ∃ kb', (∀ x ∈ kb, x ∈ kb') ∧ At (PWA (LO b) rb (some i) rest kb' (sndO S i tb id 0) * (MO b got told * R)) w0 F0 w' := by
  refine rets_of Tryz.func23 rfl Tryz.ntmps23 rfl rfl (by kernel_rfl) ?_
  have e2 := pw_bx S1 h2
  have es := pw_bx S1 (hkb (b.snb, [fS b], 33) (by simp [statO]))
  unfold fS at es
  (apply vC_region; ((apply vL_val); (case h => ((apply opv_loadb1); exact rfl; exact rfl; assumption; exact rfl))); ((apply vL_val); (case h => ((apply opv_E); exact rfl))); ((apply vL_val); (case h => ((apply opv_loadb1); exact rfl; exact rfl; assumption; exact rfl))))
  refine vL_callF rfl (w_send1 (tb := tb) S1 hi ht hcs hcb hkb hid (n := 0) (by omega)) rfl ?_
  intro _ w4 h
  (apply vL_nil)
  (first | apply ret0 | apply ret0n)
  exact h
end
end Go.Proofs.YtbaidcnalkdhgaaGreat
set_option maxRecDepth 100000
namespace Go.Proofs.YtbaidcnalkdhgaaGreat
open Go Go.Eng
section
variable {w w0 : World} {F0 : Nat → Prop} {R : Asr} {b : BO} {rb i nS nR : Nat} {kb : List Bx} {S : PS KO} {T : TO} {d : C16} {acc : List Int} {size : Int}
theorem send_tbs {κ : Type} (S : PS κ) (i j : Nat) (v : Int) (k : κ) : (S.send i j v k).tbs = S.tbs := by
  unfold PS.send
  simp only []
  split
  · exact trySend_tbs S j v
  · split <;> rfl
theorem recv_tbs {κ : Type} (S : PS κ) (i j : Nat) (k : κ) : (S.recv i j k).tbs = S.tbs := by
  unfold PS.recv
  simp only []
  split
  · exact tryRecv_tbs S j
  · split <;> rfl
theorem sndO_tbs (S : PS KO) (i tb id n : Nat) : (sndO S i tb id n).tbs = S.tbs := by
  unfold sndO
  split
  · rfl
  · exact send_tbs _ _ _ _ _
theorem o_step [Lcl R] (S1 : At (PWA (LO b) rb none 0 kb T.S * (MO b T.got T.told * R)) w0 F0 w) (I : InvO nS nR size T acc d) (hcb : d.cb = b.cb) (hkb : ∀ x ∈ statO b, x ∈ kb) (hn : nS ≤ 100) (p : Int) (hp0 : 0 ≤ p ∧ p ≤ 18446744073709551615) :
    Rets Tryz.prog 24 #[pt rb, .int .u64 p] w fun u w' => (T.S.line = [] ∧ stepO T p = none ∧ w = w' ∧ u = .bool false) ∨ (∃ T' acc' d', stepO T p = some T' ∧ InvO nS nR size T' acc' d' ∧ (wtO T' d' + 1 = wtO T d ∧ d'.cb = d.cb) ∧ u = .bool true ∧ ∃ kb', (∀ x ∈ kb, x ∈ kb') ∧ At (PWA (LO b) rb none 0 kb' T'.S * (MO b T'.got T'.told * R)) w0 F0 w') := by
  by_cases hl : T.S.line = []
  · refine (pw_step0 S1 p hp0 hl).mono fun u w' ⟨h1, h2⟩ => .inl ⟨hl, ?_, h1, h2⟩
    unfold stepO; rw [hl]; rfl
  obtain ⟨q, hp, S2⟩ := pw_open S1
  have hlen : 0 < T.S.line.length := List.length_pos_iff.2 hl
  have hz0 : 0 ≤ p % (T.S.line.length : Int) := Int.emod_nonneg _ (by omega)
  have hz1 : p % (T.S.line.length : Int) < T.S.line.length := Int.emod_lt_of_pos _ (by omega)
  obtain ⟨y, hy⟩ : ∃ y, T.S.line[(p % (T.S.line.length : Int)).toNat]? = some y := ⟨_, List.getElem?_eq_getElem (by omega)⟩
  have hy0 := hp.nn y (List.mem_of_getElem? hy)
  obtain ⟨i, rfl⟩ : ∃ i : Nat, y = i := ⟨y.toNat, by omega⟩
  obtain ⟨s, hs, hr⟩ := (hp.rdy i).1 (List.mem_of_getElem? hy)
  obtain ⟨T', acc', d', hT, I', W⟩ := I.turn (z := p % T.S.line.length) hs hr
  have hst : stepO T p = some T' := by
    unfold stepO; rw [hy]; simp only [Int.toNat_natCast]; rw [hs]; exact hT
  have hil := (List.getElem?_eq_some_iff.1 hs).1
  have hi1 : (T.S.start i (p % T.S.line.length)).sts[i]? = some .run := by show (T.S.sts.set i .run)[i]? = _; rw [List.getElem?_set_self hil]
  have hcs : (T.S.start i (p % T.S.line.length)).cs = [d] := I.cs
  have htold : 0 ≤ T.told ∧ T.told ≤ 100000 := by
    have a := I.told
    have b : sumN tolN T.S.sts ≤ 6 * T.S.sts.length := sumN_le fun i s hs => by
      have := I.r.okS i s hs
      cases this <;> simp only [tolN] <;> omega
    have c := hp.few
    omega
  have hgl : T.got.length ≤ 100000 := by have := got_len I; omega
  have ho := I.r.okS i s hs
  cases ho with
  | over => cases hr
  | wS => cases hr
  | wR => cases hr
  | runR => cases hr
  | bornS tb hi =>
    have ht := I.tbs i _ _ hs rfl
    obtain rfl := Option.some.inj hT
    refine (pw_step (R := MO b T.got T.told * R) S1 p hp0 hy hs ht (σ := {kb' : List Bx // ∀ x ∈ kb, x ∈ kb'}) (fun _ => sndO (T.S.start i (p % T.S.line.length)) i tb i 0) (fun a => a.1) (fun _ => MO b T.got T.told * R) (fun f hf => ?_)).mono fun u w' ⟨h1, a, h2⟩ => .inr ⟨_, acc', d', hst, I', W, h1, a.1, a.2, h2⟩
    obtain ⟨_, fb, tx, rfl, htx, h3⟩ := hf
    rcases h3 with ⟨_, ib, h4, h5⟩ | ⟨h4, _⟩
    · refine ⟨_, [pt fb, pt tx], rfl, ⟨inferInstance⟩, fun w1 h => ?_⟩
      refine spawn1_calls (cap := [pt b.snb, pt ib]) (pw_bx h h4) (pw_bx h htx) ((w_born3 h hi1 ht hcs hcb hkb (id := i) (by omega) h5).mono fun _ w2 ⟨kb', hk', h6⟩ => ⟨⟨kb', hk'⟩, ?_, h6⟩)
      rw [sndO_tbs]; exact ht
    · cases h4
  | rdyS tb n hi hn5 =>
    have ht := I.tbs i _ _ hs rfl
    obtain rfl := Option.some.inj hT
    refine (pw_step (R := MO b T.got T.told * R) S1 p hp0 hy hs ht (σ := {kb' : List Bx // ∀ x ∈ kb, x ∈ kb'}) (fun _ => sndO (T.S.start i (p % T.S.line.length)) i tb i (n + 1)) (fun a => a.1) (fun _ => MO b T.got (T.told + 1) * R) (fun f hf => ?_)).mono fun u w' ⟨h1, a, h2⟩ => .inr ⟨_, acc', d', hst, I', W, h1, a.1, a.2, h2⟩
    obtain ⟨tbx, idx, nx, rfl, h3, h4, h5⟩ := hf
    refine ⟨_, [pt b.told, pt b.snb, pt tbx, pt idx, pt nx], rfl, ⟨inferInstance⟩, fun w1 h => ?_⟩
    refine (w_then1 h hi1 ht hcs hcb hkb (id := i) (n := n) (by omega) hn5 htold h3 h4 h5).mono fun _ w2 ⟨kb', hk', h6⟩ => ⟨⟨kb', hk'⟩, ?_, h6⟩
    rw [sndO_tbs]; exact ht
  | bornR k hi hk =>
    have ht := I.tbs i _ _ hs rfl
    have hT : some (TO.mk ((if k.snd then sndO (T.S.start i (p % T.S.line.length)) i k.tb k.id 0 else (T.S.start i (p % T.S.line.length)).recv i 0 k).endTurn i) T.got T.told) = some T' := hT
    rw [hk] at hT
    obtain rfl := Option.some.inj hT
    refine (pw_step (R := MO b T.got T.told * R) S1 p hp0 hy hs ht (σ := {kb' : List Bx // ∀ x ∈ kb, x ∈ kb'}) (fun _ => (T.S.start i (p % T.S.line.length)).recv i 0 k) (fun a => a.1) (fun _ => MO b T.got T.told * R) (fun f hf => ?_)).mono fun u w' ⟨h1, a, h2⟩ => .inr ⟨_, acc', d', hst, I', W, h1, a.1, a.2, h2⟩
    obtain ⟨_, fb, tx, rfl, htx, h3⟩ := hf
    rcases h3 with ⟨h4, _⟩ | ⟨_, h4⟩
    · rw [hk] at h4; cases h4
    · refine ⟨_, [pt fb, pt tx], rfl, ⟨inferInstance⟩, fun w1 h => ?_⟩
      refine spawn1_calls (cap := [pt b.bad, pt b.cbx, pt b.got, pt b.rvb]) (pw_bx h h4) (pw_bx h htx) ((w_recv2 h hi1 ht hcs hcb hkb k rfl).mono fun _ w2 ⟨kb', hk', h6⟩ => ⟨⟨kb', hk'⟩, ?_, h6⟩)
      rw [recv_tbs]; exact ht
  | rdyR k v hi hk =>
    have ht := I.tbs i _ _ hs rfl
    obtain rfl := Option.some.inj hT
    refine (pw_step (R := MO b T.got T.told * R) S1 p hp0 hy hs ht (σ := {kb' : List Bx // ∀ x ∈ kb, x ∈ kb'}) (fun _ => (T.S.start i (p % T.S.line.length)).recv i 0 k) (fun a => a.1) (fun _ => MO b (T.got ++ [v]) T.told * R) (fun f hf => ?_)).mono fun u w' ⟨h1, a, h2⟩ => .inr ⟨_, acc', d', hst, I', W, h1, a.1, a.2, h2⟩
    obtain ⟨tbx, rfl, h3⟩ := hf
    refine ⟨_, [pt b.got, pt b.rvb, pt tbx], rfl, ⟨inferInstance⟩, fun w1 h => ?_⟩
    refine (w_then2 h hi1 ht hcs hcb hkb k rfl hgl v h3).mono fun _ w2 ⟨kb', hk', h6⟩ => ⟨⟨kb', hk'⟩, ?_, h6⟩
    rw [recv_tbs]; exact ht
end
end Go.Proofs.YtbaidcnalkdhgaaGreat
set_option maxRecDepth 100000
namespace Go.Proofs.YtbaidcnalkdhgaaGreat
open Go Go.Eng
abbrev ivO (n : Int) : Value := .int .i64 n
theorem runF_end {σ : Type} {st : σ → Int → Option σ} {picks : List Int} : ∀ {f n : Nat} {s s' : σ} {m : Nat}, runF st picks f n s = (m, s') → st s' (pkA picks m) = none ∨ m = n + f
  | 0, n, s, s', m, h => by
    rw [show runF st picks 0 n s = (n, s) from rfl] at h
    cases h; exact .inr rfl
  | f + 1, n, s, s', m, h => by
    cases hs : st s (pkA picks n) with
    | none =>
      rw [runF_none hs] at h
      cases h; exact .inl hs
    | some t =>
      rw [runF_some hs] at h
      rcases runF_end h with h | h
      · exact .inl h
      · exact .inr (by omega)
def WO (b : BO) (rb : Nat) (T : TO) : Asr := Ex fun kb : List Bx => Pu (∀ x ∈ statO b, x ∈ kb) * (PWA (LO b) rb none 0 kb T.S * MO b T.got T.told)
instance instLclWO (b : BO) (rb : Nat) (T : TO) : Lcl (WO b rb T) := by unfold WO; infer_instance
/-- numbers of an owner; the map that counts them -/
def cntO (l : List Int) (q : Int) : Nat := (l.filter (fun u => decide (u / 100 = q))).length
def MCnt (M : List (Int × Int)) (l : List Int) : Prop := ∀ q, ((mget M q).map ivO).getD (.int .i64 0) = .int .i64 (cntO l q : Int)
theorem MCnt.nil : MCnt [] [] := fun _ => rfl
theorem cntO_snoc (l : List Int) (v q : Int) : cntO (l ++ [v]) q = if q = v / 100 then cntO l q + 1 else cntO l q := by
  unfold cntO
  rw [List.filter_append]
  by_cases e : q = v / 100
  · rw [if_pos e]; simp [e]
  · rw [if_neg e]; simp [Ne.symm e]
theorem MCnt.add {M : List (Int × Int)} {l : List Int} (h : MCnt M l) (v : Int) : MCnt (mset M (v / 100) ((cntO l (v / 100) : Int) + 1)) (l ++ [v]) := by
  intro q
  rw [mget_mset, cntO_snoc]
  by_cases e : q = v / 100
  · rw [if_pos e, if_pos e]; subst e; rfl
  · rw [if_neg e, if_neg e]; exact h q
theorem at_newmap {w w0 : World} {F0 : Nat → Prop} {R : Asr} [Lcl R] (S : At R w0 F0 w) : At (Ma w.heap.size ikE ivO ([] : List (Int × Int)) * R) w0 F0 (w.alloc (.map #[] 0)) := S.gain ((Fr.refl No w).alloc _) ⟨_, ⟨Mp.new ikE ivO, rfl⟩, fun k hk => by rw [hk]; exact Nat.le_refl _⟩
section
variable {w w0 : World} {F0 : Nat → Prop} {R : Asr} {b : BO} {rb nS nR : Nat} {kb : List Bx} {T : TO} {d : C16} {acc : List Int} {size : Int}
theorem wo_open (S : At (WO b rb T * R) w0 F0 w) : ∃ kb, (∀ x ∈ statO b, x ∈ kb) ∧ At (PWA (LO b) rb none 0 kb T.S * (MO b T.got T.told * R)) w0 F0 w := by
  unfold WO at S
  obtain ⟨kb, S⟩ := S.ex
  obtain ⟨h, S⟩ := (S.ac (star_assoc _ _ _)).pure
  exact ⟨kb, h, S.ac (by ac_rfl)⟩
theorem wo_shut (h : ∀ x ∈ statO b, x ∈ kb) (S : At (PWA (LO b) rb none 0 kb T.S * (MO b T.got T.told * R)) w0 F0 w) : At (WO b rb T * R) w0 F0 w := by
  unfold WO
  exact At.intro kb ((S.add h).ac (by ac_rfl))
theorem o_none {p : Int} (S1 : At (PWA (LO b) rb none 0 kb T.S * R) w0 F0 w) (I : InvO nS nR size T acc d) (h : stepO T p = none) : ∀ (i : Nat) s, T.S.sts[i]? = some s → s.rdy = false := by
  obtain ⟨q, hp, _⟩ := pw_open S1
  have hl : T.S.line = [] := by
    cases hl : T.S.line with
    | nil => rfl
    | cons a l =>
      exfalso
      have hlen : 0 < T.S.line.length := by rw [hl]; simp
      have hz0 : 0 ≤ p % (T.S.line.length : Int) := Int.emod_nonneg _ (by omega)
      have hz1 : p % (T.S.line.length : Int) < T.S.line.length := Int.emod_lt_of_pos _ (by omega)
      obtain ⟨y, hy⟩ : ∃ y, T.S.line[(p % (T.S.line.length : Int)).toNat]? = some y := ⟨_, List.getElem?_eq_getElem (by omega)⟩
      have hy0 := hp.nn y (List.mem_of_getElem? hy)
      obtain ⟨i, rfl⟩ : ∃ i : Nat, y = i := ⟨y.toNat, by omega⟩
      obtain ⟨s, hs, hr⟩ := (hp.rdy i).1 (List.mem_of_getElem? hy)
      obtain ⟨T', acc', d', hT, _⟩ := I.turn (z := p % T.S.line.length) hs hr
      unfold stepO at h
      rw [hy] at h
      simp only [Int.toNat_natCast] at h
      rw [hs] at h
      cases hT.symm.trans h
  intro i s hs
  cases hr : s.rdy with
  | false => rfl
  | true =>
    have := (hp.rdy i).2 ⟨s, hs, hr⟩
    rw [hl] at this
    cases this
theorem w_runO [Lcl R] (S1 : At (WO b rb T * R) w0 F0 w) (I : InvO nS nR size T acc d) (hcb : d.cb = b.cb) (hn : nS + nR ≤ 8) (hR : 1 ≤ nR) (hsz : size ≤ 64) :
    Rets Tryz.prog 27 #[pt rb, .slice none 0 0, .int .i64 2000] w fun u w' => ∃ T' d', FinO nS nR T' d' ∧ T'.S.cs = [d'] ∧ d'.cb = b.cb ∧ At (WO b rb T' * R) w0 F0 w' := by
  refine (run_gen (fun T => WO b rb T) stepO (fun n T => ∃ acc d, InvO nS nR size T acc d ∧ d.cb = b.cb ∧ wtO T d + n ≤ 168) (picks := []) (vk := .slice none 0 0) 2000 (by decide) (fun n T p w _ ⟨acc, d, I, hd, hw⟩ hp S => ?_) (fun _ _ _ => Rd.nil _ _ _) (fun x hx => by cases hx) T ⟨acc, d, I, hcb, wtO_le I hn hsz⟩ S1).mono fun u w' ⟨n, T', hr, _, ⟨acc', d', I', hd', hw'⟩, S'⟩ => ?_
  · obtain ⟨kb, hkb, S2⟩ := wo_open S
    refine (o_step S2 I hd hkb (by omega) p hp).mono fun u w' h => h.imp (fun ⟨_, h2, h3, h4⟩ => ⟨h2, h4, by subst h3; exact wo_shut hkb S2⟩) (fun ⟨T', acc', d', h1, h2, ⟨h3, h4⟩, h5, kb', h6, h7⟩ => ⟨T', h1, ⟨acc', d', h2, by rw [h4]; exact hd, by omega⟩, h5, wo_shut (fun x hx => h6 x (hkb x hx)) h7⟩)
  · obtain ⟨kb, hkb, S2⟩ := wo_open S'
    rcases runF_end hr with h | h
    · exact ⟨T', d', I'.fin hR (o_none S2 I' h), I'.cs, hd', S'⟩
    · have : n = 2000 := by rw [h]; rfl
      omega
end
end Go.Proofs.YtbaidcnalkdhgaaGreat
