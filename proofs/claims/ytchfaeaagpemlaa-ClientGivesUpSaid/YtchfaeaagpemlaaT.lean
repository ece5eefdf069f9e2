/- The type facts and function facts of this seat, printed by a program of ours (gen_types.py) out of the translation; each is checked by the kernel. -/
import Derived.Test.YtchfaeaagpemlaaEk
import Derived.Test.YtchfaeaagpemlaaProg
import Derived.KernelRfl
set_option maxRecDepth 100000
namespace Go.Proofs.Ytchfaeaagpemlaa
open Go Go.Eng

instance mixedOrders : Mixed Try.prog := ⟨by kernel_rfl⟩
instance und0 : TUnd Try.prog 0 (.tuple #[]) := ⟨Try.underlying0⟩
instance und1 : TUnd Try.prog 1 (.func #[] #[] false) := ⟨Try.underlying1⟩
theorem inf1 : (Try.prog.info? 1).map (fun i => (i.zero, i.size, i.bytes)) = some (some (.nilFunc), 1, 8) := by kernel_rfl
instance ti1 : TInfo Try.prog 1 1 8 [.nilFunc] := tinfo_mk inf1 rfl
instance tz1 : TZero Try.prog 1 (.nilFunc) := tzero_mk inf1
instance und2 : TUnd Try.prog 2 (.int .i64) := ⟨Try.underlying2⟩
theorem inf2 : (Try.prog.info? 2).map (fun i => (i.zero, i.size, i.bytes)) = some (some (.int .i64 0), 1, 8) := by kernel_rfl
instance ti2 : TInfo Try.prog 2 1 8 [.int .i64 0] := tinfo_mk inf2 rfl
instance tz2 : TZero Try.prog 2 (.int .i64 0) := tzero_mk inf2
instance und3 : TUnd Try.prog 3 (.int .i64) := ⟨Try.underlying3⟩
theorem inf3 : (Try.prog.info? 3).map (fun i => (i.zero, i.size, i.bytes)) = some (some (.int .i64 0), 1, 8) := by kernel_rfl
instance ti3 : TInfo Try.prog 3 1 8 [.int .i64 0] := tinfo_mk inf3 rfl
instance tz3 : TZero Try.prog 3 (.int .i64 0) := tzero_mk inf3
instance und4 : TUnd Try.prog 4 (.bool) := ⟨Try.underlying4⟩
theorem inf4 : (Try.prog.info? 4).map (fun i => (i.zero, i.size, i.bytes)) = some (some (.bool false), 1, 1) := by kernel_rfl
instance ti4 : TInfo Try.prog 4 1 1 [.bool false] := tinfo_mk inf4 rfl
instance tz4 : TZero Try.prog 4 (.bool false) := tzero_mk inf4
instance und5 : TUnd Try.prog 5 (.int .u8) := ⟨Try.underlying5⟩
theorem inf5 : (Try.prog.info? 5).map (fun i => (i.zero, i.size, i.bytes)) = some (some (.int .u8 0), 1, 1) := by kernel_rfl
instance ti5 : TInfo Try.prog 5 1 1 [.int .u8 0] := tinfo_mk inf5 rfl
instance tz5 : TZero Try.prog 5 (.int .u8 0) := tzero_mk inf5
instance und9 : TUnd Try.prog 9 (.string) := ⟨Try.underlying9⟩
theorem inf9 : (Try.prog.info? 9).map (fun i => (i.zero, i.size, i.bytes)) = some (some (.string ByteArray.empty), 1, 16) := by kernel_rfl
instance ti9 : TInfo Try.prog 9 1 16 [.string ByteArray.empty] := tinfo_mk inf9 rfl
instance tz9 : TZero Try.prog 9 (.string ByteArray.empty) := tzero_mk inf9
instance und12 : TUnd Try.prog 12 (.int .u64) := ⟨Try.underlying12⟩
theorem inf12 : (Try.prog.info? 12).map (fun i => (i.zero, i.size, i.bytes)) = some (some (.int .u64 0), 1, 8) := by kernel_rfl
instance ti12 : TInfo Try.prog 12 1 8 [.int .u64 0] := tinfo_mk inf12 rfl
instance tz12 : TZero Try.prog 12 (.int .u64 0) := tzero_mk inf12
instance und21 : TUnd Try.prog 21 (.int .i32) := ⟨Try.underlying21⟩
theorem inf21 : (Try.prog.info? 21).map (fun i => (i.zero, i.size, i.bytes)) = some (some (.int .i32 0), 1, 4) := by kernel_rfl
instance ti21 : TInfo Try.prog 21 1 4 [.int .i32 0] := tinfo_mk inf21 rfl
instance tz21 : TZero Try.prog 21 (.int .i32 0) := tzero_mk inf21
instance und22 : TUnd Try.prog 22 (.slice 42) := ⟨Try.underlying22⟩
theorem inf22 : (Try.prog.info? 22).map (fun i => (i.zero, i.size, i.bytes)) = some (some (.slice none 0 0), 1, 24) := by kernel_rfl
instance ti22 : TInfo Try.prog 22 1 24 [.slice none 0 0] := tinfo_mk inf22 rfl
instance tz22 : TZero Try.prog 22 (.slice none 0 0) := tzero_mk inf22
instance und23 : TUnd Try.prog 23 (.slice 65) := ⟨Try.underlying23⟩
theorem inf23 : (Try.prog.info? 23).map (fun i => (i.zero, i.size, i.bytes)) = some (some (.slice none 0 0), 1, 24) := by kernel_rfl
instance ti23 : TInfo Try.prog 23 1 24 [.slice none 0 0] := tinfo_mk inf23 rfl
instance tz23 : TZero Try.prog 23 (.slice none 0 0) := tzero_mk inf23
instance und24 : TUnd Try.prog 24 (.struct #[⟨ "Id", 3, 0, false, "", "", 0⟩, ⟨ "Brokers", 3, 1, false, "", "", 8⟩, ⟨ "Next", 3, 2, false, "", "", 16⟩, ⟨ "Now", 2, 3, false, "", "", 24⟩, ⟨ "Broker", 3, 4, false, "", "", 32⟩, ⟨ "Waits", 22, 5, false, "", "", 40⟩, ⟨ "Pid", 2, 6, false, "", "", 64⟩, ⟨ "Epoch", 3, 7, false, "", "", 72⟩, ⟨ "Stale", 4, 8, false, "", "", 80⟩, ⟨ "Sequences", 23, 9, false, "", "", 88⟩]) := ⟨Try.underlying24⟩
theorem inf24 : (Try.prog.info? 24).map (fun i => (i.zero, i.size, i.bytes)) = some (some (.agg #[.int .i64 0, .int .i64 0, .int .i64 0, .int .i64 0, .int .i64 0, .slice none 0 0, .int .i64 0, .int .i64 0, .bool false, .slice none 0 0]), 10, 112) := by kernel_rfl
instance ti24 : TInfo Try.prog 24 10 112 [.int .i64 0, .int .i64 0, .int .i64 0, .int .i64 0, .int .i64 0, .slice none 0 0, .int .i64 0, .int .i64 0, .bool false, .slice none 0 0] := tinfo_mk inf24 rfl
instance tz24 : TZero Try.prog 24 (.agg #[.int .i64 0, .int .i64 0, .int .i64 0, .int .i64 0, .int .i64 0, .slice none 0 0, .int .i64 0, .int .i64 0, .bool false, .slice none 0 0]) := tzero_mk inf24
instance tf24_0 : TField Try.prog 24 0 0 := tfield_mk Try.underlying24 rfl rfl (by kernel_rfl)
instance tp24_0 : TPart Try.prog 24 0 0 1 false := tpart_mk Try.underlying24 rfl rfl (by kernel_rfl) Try.underlying3 rfl
instance tf24_1 : TField Try.prog 24 1 1 := tfield_mk Try.underlying24 rfl rfl (by kernel_rfl)
instance tp24_1 : TPart Try.prog 24 1 1 1 false := tpart_mk Try.underlying24 rfl rfl (by kernel_rfl) Try.underlying3 rfl
instance tf24_2 : TField Try.prog 24 2 2 := tfield_mk Try.underlying24 rfl rfl (by kernel_rfl)
instance tp24_2 : TPart Try.prog 24 2 2 1 false := tpart_mk Try.underlying24 rfl rfl (by kernel_rfl) Try.underlying3 rfl
instance tf24_3 : TField Try.prog 24 3 3 := tfield_mk Try.underlying24 rfl rfl (by kernel_rfl)
instance tp24_3 : TPart Try.prog 24 3 3 1 false := tpart_mk Try.underlying24 rfl rfl (by kernel_rfl) Try.underlying2 rfl
instance tf24_4 : TField Try.prog 24 4 4 := tfield_mk Try.underlying24 rfl rfl (by kernel_rfl)
instance tp24_4 : TPart Try.prog 24 4 4 1 false := tpart_mk Try.underlying24 rfl rfl (by kernel_rfl) Try.underlying3 rfl
instance tf24_5 : TField Try.prog 24 5 5 := tfield_mk Try.underlying24 rfl rfl (by kernel_rfl)
instance tp24_5 : TPart Try.prog 24 5 5 1 false := tpart_mk Try.underlying24 rfl rfl (by kernel_rfl) Try.underlying22 rfl
instance tf24_6 : TField Try.prog 24 6 6 := tfield_mk Try.underlying24 rfl rfl (by kernel_rfl)
instance tp24_6 : TPart Try.prog 24 6 6 1 false := tpart_mk Try.underlying24 rfl rfl (by kernel_rfl) Try.underlying2 rfl
instance tf24_7 : TField Try.prog 24 7 7 := tfield_mk Try.underlying24 rfl rfl (by kernel_rfl)
instance tp24_7 : TPart Try.prog 24 7 7 1 false := tpart_mk Try.underlying24 rfl rfl (by kernel_rfl) Try.underlying3 rfl
instance tf24_8 : TField Try.prog 24 8 8 := tfield_mk Try.underlying24 rfl rfl (by kernel_rfl)
instance tp24_8 : TPart Try.prog 24 8 8 1 false := tpart_mk Try.underlying24 rfl rfl (by kernel_rfl) Try.underlying4 rfl
instance tf24_9 : TField Try.prog 24 9 9 := tfield_mk Try.underlying24 rfl rfl (by kernel_rfl)
instance tp24_9 : TPart Try.prog 24 9 9 1 false := tpart_mk Try.underlying24 rfl rfl (by kernel_rfl) Try.underlying23 rfl
instance tpl24 : TPlaces Try.prog 24 [(0, 1), (1, 1), (2, 1), (3, 1), (4, 1), (5, 1), (6, 1), (7, 1), (8, 1), (9, 1)] := tplaces_mk Try.underlying24 (by kernel_rfl) (by kernel_rfl)
instance und25 : TUnd Try.prog 25 (.struct #[⟨ "Id", 3, 0, false, "", "", 0⟩, ⟨ "Brokers", 3, 1, false, "", "", 8⟩, ⟨ "Next", 3, 2, false, "", "", 16⟩, ⟨ "Now", 2, 3, false, "", "", 24⟩, ⟨ "Broker", 3, 4, false, "", "", 32⟩, ⟨ "Waits", 22, 5, false, "", "", 40⟩, ⟨ "Pid", 2, 6, false, "", "", 64⟩, ⟨ "Epoch", 3, 7, false, "", "", 72⟩, ⟨ "Stale", 4, 8, false, "", "", 80⟩, ⟨ "Sequences", 23, 9, false, "", "", 88⟩]) := ⟨Try.underlying25⟩
theorem inf25 : (Try.prog.info? 25).map (fun i => (i.zero, i.size, i.bytes)) = some (some (.agg #[.int .i64 0, .int .i64 0, .int .i64 0, .int .i64 0, .int .i64 0, .slice none 0 0, .int .i64 0, .int .i64 0, .bool false, .slice none 0 0]), 10, 112) := by kernel_rfl
instance ti25 : TInfo Try.prog 25 10 112 [.int .i64 0, .int .i64 0, .int .i64 0, .int .i64 0, .int .i64 0, .slice none 0 0, .int .i64 0, .int .i64 0, .bool false, .slice none 0 0] := tinfo_mk inf25 rfl
instance tz25 : TZero Try.prog 25 (.agg #[.int .i64 0, .int .i64 0, .int .i64 0, .int .i64 0, .int .i64 0, .slice none 0 0, .int .i64 0, .int .i64 0, .bool false, .slice none 0 0]) := tzero_mk inf25
instance tf25_0 : TField Try.prog 25 0 0 := tfield_mk Try.underlying25 rfl rfl (by kernel_rfl)
instance tp25_0 : TPart Try.prog 25 0 0 1 false := tpart_mk Try.underlying25 rfl rfl (by kernel_rfl) Try.underlying3 rfl
instance tf25_1 : TField Try.prog 25 1 1 := tfield_mk Try.underlying25 rfl rfl (by kernel_rfl)
instance tp25_1 : TPart Try.prog 25 1 1 1 false := tpart_mk Try.underlying25 rfl rfl (by kernel_rfl) Try.underlying3 rfl
instance tf25_2 : TField Try.prog 25 2 2 := tfield_mk Try.underlying25 rfl rfl (by kernel_rfl)
instance tp25_2 : TPart Try.prog 25 2 2 1 false := tpart_mk Try.underlying25 rfl rfl (by kernel_rfl) Try.underlying3 rfl
instance tf25_3 : TField Try.prog 25 3 3 := tfield_mk Try.underlying25 rfl rfl (by kernel_rfl)
instance tp25_3 : TPart Try.prog 25 3 3 1 false := tpart_mk Try.underlying25 rfl rfl (by kernel_rfl) Try.underlying2 rfl
instance tf25_4 : TField Try.prog 25 4 4 := tfield_mk Try.underlying25 rfl rfl (by kernel_rfl)
instance tp25_4 : TPart Try.prog 25 4 4 1 false := tpart_mk Try.underlying25 rfl rfl (by kernel_rfl) Try.underlying3 rfl
instance tf25_5 : TField Try.prog 25 5 5 := tfield_mk Try.underlying25 rfl rfl (by kernel_rfl)
instance tp25_5 : TPart Try.prog 25 5 5 1 false := tpart_mk Try.underlying25 rfl rfl (by kernel_rfl) Try.underlying22 rfl
instance tf25_6 : TField Try.prog 25 6 6 := tfield_mk Try.underlying25 rfl rfl (by kernel_rfl)
instance tp25_6 : TPart Try.prog 25 6 6 1 false := tpart_mk Try.underlying25 rfl rfl (by kernel_rfl) Try.underlying2 rfl
instance tf25_7 : TField Try.prog 25 7 7 := tfield_mk Try.underlying25 rfl rfl (by kernel_rfl)
instance tp25_7 : TPart Try.prog 25 7 7 1 false := tpart_mk Try.underlying25 rfl rfl (by kernel_rfl) Try.underlying3 rfl
instance tf25_8 : TField Try.prog 25 8 8 := tfield_mk Try.underlying25 rfl rfl (by kernel_rfl)
instance tp25_8 : TPart Try.prog 25 8 8 1 false := tpart_mk Try.underlying25 rfl rfl (by kernel_rfl) Try.underlying4 rfl
instance tf25_9 : TField Try.prog 25 9 9 := tfield_mk Try.underlying25 rfl rfl (by kernel_rfl)
instance tp25_9 : TPart Try.prog 25 9 9 1 false := tpart_mk Try.underlying25 rfl rfl (by kernel_rfl) Try.underlying23 rfl
instance tpl25 : TPlaces Try.prog 25 [(0, 1), (1, 1), (2, 1), (3, 1), (4, 1), (5, 1), (6, 1), (7, 1), (8, 1), (9, 1)] := tplaces_mk Try.underlying25 (by kernel_rfl) (by kernel_rfl)
instance und26 : TUnd Try.prog 26 (.func #[25] #[4] false) := ⟨Try.underlying26⟩
theorem inf26 : (Try.prog.info? 26).map (fun i => (i.zero, i.size, i.bytes)) = some (some (.nilFunc), 1, 8) := by kernel_rfl
instance ti26 : TInfo Try.prog 26 1 8 [.nilFunc] := tinfo_mk inf26 rfl
instance tz26 : TZero Try.prog 26 (.nilFunc) := tzero_mk inf26
instance und27 : TUnd Try.prog 27 (.func #[] #[4] false) := ⟨Try.underlying27⟩
theorem inf27 : (Try.prog.info? 27).map (fun i => (i.zero, i.size, i.bytes)) = some (some (.nilFunc), 1, 8) := by kernel_rfl
instance ti27 : TInfo Try.prog 27 1 8 [.nilFunc] := tinfo_mk inf27 rfl
instance tz27 : TZero Try.prog 27 (.nilFunc) := tzero_mk inf27
instance und28 : TUnd Try.prog 28 (.map 3 3) := ⟨Try.underlying28⟩
theorem inf28 : (Try.prog.info? 28).map (fun i => (i.zero, i.size, i.bytes)) = some (some (.map none), 1, 8) := by kernel_rfl
instance ti28 : TInfo Try.prog 28 1 8 [.map none] := tinfo_mk inf28 rfl
instance tz28 : TZero Try.prog 28 (.map none) := tzero_mk inf28
instance und29 : TUnd Try.prog 29 (.int .u8) := ⟨Try.underlying29⟩
theorem inf29 : (Try.prog.info? 29).map (fun i => (i.zero, i.size, i.bytes)) = some (some (.int .u8 0), 1, 1) := by kernel_rfl
instance ti29 : TInfo Try.prog 29 1 1 [.int .u8 0] := tinfo_mk inf29 rfl
instance tz29 : TZero Try.prog 29 (.int .u8 0) := tzero_mk inf29
instance und30 : TUnd Try.prog 30 (.slice 71) := ⟨Try.underlying30⟩
theorem inf30 : (Try.prog.info? 30).map (fun i => (i.zero, i.size, i.bytes)) = some (some (.slice none 0 0), 1, 24) := by kernel_rfl
instance ti30 : TInfo Try.prog 30 1 24 [.slice none 0 0] := tinfo_mk inf30 rfl
instance tz30 : TZero Try.prog 30 (.slice none 0 0) := tzero_mk inf30
instance und31 : TUnd Try.prog 31 (.struct #[⟨ "Pid", 2, 0, false, "", "", 0⟩, ⟨ "Epoch", 3, 1, false, "", "", 8⟩, ⟨ "First", 2, 2, false, "", "", 16⟩, ⟨ "Records", 30, 3, false, "", "", 24⟩]) := ⟨Try.underlying31⟩
theorem inf31 : (Try.prog.info? 31).map (fun i => (i.zero, i.size, i.bytes)) = some (some (.agg #[.int .i64 0, .int .i64 0, .int .i64 0, .slice none 0 0]), 4, 48) := by kernel_rfl
instance ti31 : TInfo Try.prog 31 4 48 [.int .i64 0, .int .i64 0, .int .i64 0, .slice none 0 0] := tinfo_mk inf31 rfl
instance tz31 : TZero Try.prog 31 (.agg #[.int .i64 0, .int .i64 0, .int .i64 0, .slice none 0 0]) := tzero_mk inf31
instance tf31_0 : TField Try.prog 31 0 0 := tfield_mk Try.underlying31 rfl rfl (by kernel_rfl)
instance tp31_0 : TPart Try.prog 31 0 0 1 false := tpart_mk Try.underlying31 rfl rfl (by kernel_rfl) Try.underlying2 rfl
instance tf31_1 : TField Try.prog 31 1 1 := tfield_mk Try.underlying31 rfl rfl (by kernel_rfl)
instance tp31_1 : TPart Try.prog 31 1 1 1 false := tpart_mk Try.underlying31 rfl rfl (by kernel_rfl) Try.underlying3 rfl
instance tf31_2 : TField Try.prog 31 2 2 := tfield_mk Try.underlying31 rfl rfl (by kernel_rfl)
instance tp31_2 : TPart Try.prog 31 2 2 1 false := tpart_mk Try.underlying31 rfl rfl (by kernel_rfl) Try.underlying2 rfl
instance tf31_3 : TField Try.prog 31 3 3 := tfield_mk Try.underlying31 rfl rfl (by kernel_rfl)
instance tp31_3 : TPart Try.prog 31 3 3 1 false := tpart_mk Try.underlying31 rfl rfl (by kernel_rfl) Try.underlying30 rfl
instance tpl31 : TPlaces Try.prog 31 [(0, 1), (1, 1), (2, 1), (3, 1)] := tplaces_mk Try.underlying31 (by kernel_rfl) (by kernel_rfl)
instance und32 : TUnd Try.prog 32 (.struct #[⟨ "Pid", 2, 0, false, "", "", 0⟩, ⟨ "Epoch", 3, 1, false, "", "", 8⟩, ⟨ "First", 2, 2, false, "", "", 16⟩, ⟨ "Records", 30, 3, false, "", "", 24⟩]) := ⟨Try.underlying32⟩
theorem inf32 : (Try.prog.info? 32).map (fun i => (i.zero, i.size, i.bytes)) = some (some (.agg #[.int .i64 0, .int .i64 0, .int .i64 0, .slice none 0 0]), 4, 48) := by kernel_rfl
instance ti32 : TInfo Try.prog 32 4 48 [.int .i64 0, .int .i64 0, .int .i64 0, .slice none 0 0] := tinfo_mk inf32 rfl
instance tz32 : TZero Try.prog 32 (.agg #[.int .i64 0, .int .i64 0, .int .i64 0, .slice none 0 0]) := tzero_mk inf32
instance tf32_0 : TField Try.prog 32 0 0 := tfield_mk Try.underlying32 rfl rfl (by kernel_rfl)
instance tp32_0 : TPart Try.prog 32 0 0 1 false := tpart_mk Try.underlying32 rfl rfl (by kernel_rfl) Try.underlying2 rfl
instance tf32_1 : TField Try.prog 32 1 1 := tfield_mk Try.underlying32 rfl rfl (by kernel_rfl)
instance tp32_1 : TPart Try.prog 32 1 1 1 false := tpart_mk Try.underlying32 rfl rfl (by kernel_rfl) Try.underlying3 rfl
instance tf32_2 : TField Try.prog 32 2 2 := tfield_mk Try.underlying32 rfl rfl (by kernel_rfl)
instance tp32_2 : TPart Try.prog 32 2 2 1 false := tpart_mk Try.underlying32 rfl rfl (by kernel_rfl) Try.underlying2 rfl
instance tf32_3 : TField Try.prog 32 3 3 := tfield_mk Try.underlying32 rfl rfl (by kernel_rfl)
instance tp32_3 : TPart Try.prog 32 3 3 1 false := tpart_mk Try.underlying32 rfl rfl (by kernel_rfl) Try.underlying30 rfl
instance tpl32 : TPlaces Try.prog 32 [(0, 1), (1, 1), (2, 1), (3, 1)] := tplaces_mk Try.underlying32 (by kernel_rfl) (by kernel_rfl)
instance und33 : TUnd Try.prog 33 (.int .u8) := ⟨Try.underlying33⟩
theorem inf33 : (Try.prog.info? 33).map (fun i => (i.zero, i.size, i.bytes)) = some (some (.int .u8 0), 1, 1) := by kernel_rfl
instance ti33 : TInfo Try.prog 33 1 1 [.int .u8 0] := tinfo_mk inf33 rfl
instance tz33 : TZero Try.prog 33 (.int .u8 0) := tzero_mk inf33
instance und34 : TUnd Try.prog 34 (.slice 9) := ⟨Try.underlying34⟩
theorem inf34 : (Try.prog.info? 34).map (fun i => (i.zero, i.size, i.bytes)) = some (some (.slice none 0 0), 1, 24) := by kernel_rfl
instance ti34 : TInfo Try.prog 34 1 24 [.slice none 0 0] := tinfo_mk inf34 rfl
instance tz34 : TZero Try.prog 34 (.slice none 0 0) := tzero_mk inf34
instance und35 : TUnd Try.prog 35 (.struct #[⟨ "Topic", 9, 0, false, "", "", 0⟩, ⟨ "Part", 3, 1, false, "", "", 16⟩]) := ⟨Try.underlying35⟩
theorem inf35 : (Try.prog.info? 35).map (fun i => (i.zero, i.size, i.bytes)) = some (some (.agg #[.string ByteArray.empty, .int .i64 0]), 2, 24) := by kernel_rfl
instance ti35 : TInfo Try.prog 35 2 24 [.string ByteArray.empty, .int .i64 0] := tinfo_mk inf35 rfl
instance tz35 : TZero Try.prog 35 (.agg #[.string ByteArray.empty, .int .i64 0]) := tzero_mk inf35
instance tf35_0 : TField Try.prog 35 0 0 := tfield_mk Try.underlying35 rfl rfl (by kernel_rfl)
instance tp35_0 : TPart Try.prog 35 0 0 1 false := tpart_mk Try.underlying35 rfl rfl (by kernel_rfl) Try.underlying9 rfl
instance tf35_1 : TField Try.prog 35 1 1 := tfield_mk Try.underlying35 rfl rfl (by kernel_rfl)
instance tp35_1 : TPart Try.prog 35 1 1 1 false := tpart_mk Try.underlying35 rfl rfl (by kernel_rfl) Try.underlying3 rfl
instance tpl35 : TPlaces Try.prog 35 [(0, 1), (1, 1)] := tplaces_mk Try.underlying35 (by kernel_rfl) (by kernel_rfl)
instance und36 : TUnd Try.prog 36 (.struct #[⟨ "Topic", 9, 0, false, "", "", 0⟩, ⟨ "Part", 3, 1, false, "", "", 16⟩]) := ⟨Try.underlying36⟩
theorem inf36 : (Try.prog.info? 36).map (fun i => (i.zero, i.size, i.bytes)) = some (some (.agg #[.string ByteArray.empty, .int .i64 0]), 2, 24) := by kernel_rfl
instance ti36 : TInfo Try.prog 36 2 24 [.string ByteArray.empty, .int .i64 0] := tinfo_mk inf36 rfl
instance tz36 : TZero Try.prog 36 (.agg #[.string ByteArray.empty, .int .i64 0]) := tzero_mk inf36
instance tf36_0 : TField Try.prog 36 0 0 := tfield_mk Try.underlying36 rfl rfl (by kernel_rfl)
instance tp36_0 : TPart Try.prog 36 0 0 1 false := tpart_mk Try.underlying36 rfl rfl (by kernel_rfl) Try.underlying9 rfl
instance tf36_1 : TField Try.prog 36 1 1 := tfield_mk Try.underlying36 rfl rfl (by kernel_rfl)
instance tp36_1 : TPart Try.prog 36 1 1 1 false := tpart_mk Try.underlying36 rfl rfl (by kernel_rfl) Try.underlying3 rfl
instance tpl36 : TPlaces Try.prog 36 [(0, 1), (1, 1)] := tplaces_mk Try.underlying36 (by kernel_rfl) (by kernel_rfl)
instance und37 : TUnd Try.prog 37 (.struct #[⟨ "Kind", 33, 0, false, "", "", 0⟩, ⟨ "Group", 9, 1, false, "", "", 8⟩, ⟨ "Name", 9, 2, false, "", "", 24⟩, ⟨ "N", 3, 3, false, "", "", 40⟩, ⟨ "Topics", 34, 4, false, "", "", 48⟩, ⟨ "Place", 36, 5, false, "", "", 72⟩, ⟨ "Offset", 2, 7, false, "", "", 96⟩, ⟨ "Now", 2, 8, false, "", "", 104⟩, ⟨ "Client", 3, 9, false, "", "", 112⟩, ⟨ "Call", 3, 10, false, "", "", 120⟩]) := ⟨Try.underlying37⟩
theorem inf37 : (Try.prog.info? 37).map (fun i => (i.zero, i.size, i.bytes)) = some (some (.agg #[.int .u8 0, .string ByteArray.empty, .string ByteArray.empty, .int .i64 0, .slice none 0 0, .string ByteArray.empty, .int .i64 0, .int .i64 0, .int .i64 0, .int .i64 0, .int .i64 0]), 11, 128) := by kernel_rfl
instance ti37 : TInfo Try.prog 37 11 128 [.int .u8 0, .string ByteArray.empty, .string ByteArray.empty, .int .i64 0, .slice none 0 0, .string ByteArray.empty, .int .i64 0, .int .i64 0, .int .i64 0, .int .i64 0, .int .i64 0] := tinfo_mk inf37 rfl
instance tz37 : TZero Try.prog 37 (.agg #[.int .u8 0, .string ByteArray.empty, .string ByteArray.empty, .int .i64 0, .slice none 0 0, .string ByteArray.empty, .int .i64 0, .int .i64 0, .int .i64 0, .int .i64 0, .int .i64 0]) := tzero_mk inf37
instance tf37_0 : TField Try.prog 37 0 0 := tfield_mk Try.underlying37 rfl rfl (by kernel_rfl)
instance tp37_0 : TPart Try.prog 37 0 0 1 false := tpart_mk Try.underlying37 rfl rfl (by kernel_rfl) Try.underlying33 rfl
instance tf37_1 : TField Try.prog 37 1 1 := tfield_mk Try.underlying37 rfl rfl (by kernel_rfl)
instance tp37_1 : TPart Try.prog 37 1 1 1 false := tpart_mk Try.underlying37 rfl rfl (by kernel_rfl) Try.underlying9 rfl
instance tf37_2 : TField Try.prog 37 2 2 := tfield_mk Try.underlying37 rfl rfl (by kernel_rfl)
instance tp37_2 : TPart Try.prog 37 2 2 1 false := tpart_mk Try.underlying37 rfl rfl (by kernel_rfl) Try.underlying9 rfl
instance tf37_3 : TField Try.prog 37 3 3 := tfield_mk Try.underlying37 rfl rfl (by kernel_rfl)
instance tp37_3 : TPart Try.prog 37 3 3 1 false := tpart_mk Try.underlying37 rfl rfl (by kernel_rfl) Try.underlying3 rfl
instance tf37_4 : TField Try.prog 37 4 4 := tfield_mk Try.underlying37 rfl rfl (by kernel_rfl)
instance tp37_4 : TPart Try.prog 37 4 4 1 false := tpart_mk Try.underlying37 rfl rfl (by kernel_rfl) Try.underlying34 rfl
instance tf37_5 : TField Try.prog 37 5 5 := tfield_mk Try.underlying37 rfl rfl (by kernel_rfl)
instance tp37_5 : TPart Try.prog 37 5 5 2 true := tpart_mk Try.underlying37 rfl rfl (by kernel_rfl) Try.underlying36 rfl
instance tf37_6 : TField Try.prog 37 6 7 := tfield_mk Try.underlying37 rfl rfl (by kernel_rfl)
instance tp37_6 : TPart Try.prog 37 6 7 1 false := tpart_mk Try.underlying37 rfl rfl (by kernel_rfl) Try.underlying2 rfl
instance tf37_7 : TField Try.prog 37 7 8 := tfield_mk Try.underlying37 rfl rfl (by kernel_rfl)
instance tp37_7 : TPart Try.prog 37 7 8 1 false := tpart_mk Try.underlying37 rfl rfl (by kernel_rfl) Try.underlying2 rfl
instance tf37_8 : TField Try.prog 37 8 9 := tfield_mk Try.underlying37 rfl rfl (by kernel_rfl)
instance tp37_8 : TPart Try.prog 37 8 9 1 false := tpart_mk Try.underlying37 rfl rfl (by kernel_rfl) Try.underlying3 rfl
instance tf37_9 : TField Try.prog 37 9 10 := tfield_mk Try.underlying37 rfl rfl (by kernel_rfl)
instance tp37_9 : TPart Try.prog 37 9 10 1 false := tpart_mk Try.underlying37 rfl rfl (by kernel_rfl) Try.underlying3 rfl
instance tpl37 : TPlaces Try.prog 37 [(0, 1), (1, 1), (2, 1), (3, 1), (4, 1), (5, 2), (7, 1), (8, 1), (9, 1), (10, 1)] := tplaces_mk Try.underlying37 (by kernel_rfl) (by kernel_rfl)
instance und38 : TUnd Try.prog 38 (.struct #[⟨ "Kind", 33, 0, false, "", "", 0⟩, ⟨ "Group", 9, 1, false, "", "", 8⟩, ⟨ "Name", 9, 2, false, "", "", 24⟩, ⟨ "N", 3, 3, false, "", "", 40⟩, ⟨ "Topics", 34, 4, false, "", "", 48⟩, ⟨ "Place", 36, 5, false, "", "", 72⟩, ⟨ "Offset", 2, 7, false, "", "", 96⟩, ⟨ "Now", 2, 8, false, "", "", 104⟩, ⟨ "Client", 3, 9, false, "", "", 112⟩, ⟨ "Call", 3, 10, false, "", "", 120⟩]) := ⟨Try.underlying38⟩
theorem inf38 : (Try.prog.info? 38).map (fun i => (i.zero, i.size, i.bytes)) = some (some (.agg #[.int .u8 0, .string ByteArray.empty, .string ByteArray.empty, .int .i64 0, .slice none 0 0, .string ByteArray.empty, .int .i64 0, .int .i64 0, .int .i64 0, .int .i64 0, .int .i64 0]), 11, 128) := by kernel_rfl
instance ti38 : TInfo Try.prog 38 11 128 [.int .u8 0, .string ByteArray.empty, .string ByteArray.empty, .int .i64 0, .slice none 0 0, .string ByteArray.empty, .int .i64 0, .int .i64 0, .int .i64 0, .int .i64 0, .int .i64 0] := tinfo_mk inf38 rfl
instance tz38 : TZero Try.prog 38 (.agg #[.int .u8 0, .string ByteArray.empty, .string ByteArray.empty, .int .i64 0, .slice none 0 0, .string ByteArray.empty, .int .i64 0, .int .i64 0, .int .i64 0, .int .i64 0, .int .i64 0]) := tzero_mk inf38
instance tf38_0 : TField Try.prog 38 0 0 := tfield_mk Try.underlying38 rfl rfl (by kernel_rfl)
instance tp38_0 : TPart Try.prog 38 0 0 1 false := tpart_mk Try.underlying38 rfl rfl (by kernel_rfl) Try.underlying33 rfl
instance tf38_1 : TField Try.prog 38 1 1 := tfield_mk Try.underlying38 rfl rfl (by kernel_rfl)
instance tp38_1 : TPart Try.prog 38 1 1 1 false := tpart_mk Try.underlying38 rfl rfl (by kernel_rfl) Try.underlying9 rfl
instance tf38_2 : TField Try.prog 38 2 2 := tfield_mk Try.underlying38 rfl rfl (by kernel_rfl)
instance tp38_2 : TPart Try.prog 38 2 2 1 false := tpart_mk Try.underlying38 rfl rfl (by kernel_rfl) Try.underlying9 rfl
instance tf38_3 : TField Try.prog 38 3 3 := tfield_mk Try.underlying38 rfl rfl (by kernel_rfl)
instance tp38_3 : TPart Try.prog 38 3 3 1 false := tpart_mk Try.underlying38 rfl rfl (by kernel_rfl) Try.underlying3 rfl
instance tf38_4 : TField Try.prog 38 4 4 := tfield_mk Try.underlying38 rfl rfl (by kernel_rfl)
instance tp38_4 : TPart Try.prog 38 4 4 1 false := tpart_mk Try.underlying38 rfl rfl (by kernel_rfl) Try.underlying34 rfl
instance tf38_5 : TField Try.prog 38 5 5 := tfield_mk Try.underlying38 rfl rfl (by kernel_rfl)
instance tp38_5 : TPart Try.prog 38 5 5 2 true := tpart_mk Try.underlying38 rfl rfl (by kernel_rfl) Try.underlying36 rfl
instance tf38_6 : TField Try.prog 38 6 7 := tfield_mk Try.underlying38 rfl rfl (by kernel_rfl)
instance tp38_6 : TPart Try.prog 38 6 7 1 false := tpart_mk Try.underlying38 rfl rfl (by kernel_rfl) Try.underlying2 rfl
instance tf38_7 : TField Try.prog 38 7 8 := tfield_mk Try.underlying38 rfl rfl (by kernel_rfl)
instance tp38_7 : TPart Try.prog 38 7 8 1 false := tpart_mk Try.underlying38 rfl rfl (by kernel_rfl) Try.underlying2 rfl
instance tf38_8 : TField Try.prog 38 8 9 := tfield_mk Try.underlying38 rfl rfl (by kernel_rfl)
instance tp38_8 : TPart Try.prog 38 8 9 1 false := tpart_mk Try.underlying38 rfl rfl (by kernel_rfl) Try.underlying3 rfl
instance tf38_9 : TField Try.prog 38 9 10 := tfield_mk Try.underlying38 rfl rfl (by kernel_rfl)
instance tp38_9 : TPart Try.prog 38 9 10 1 false := tpart_mk Try.underlying38 rfl rfl (by kernel_rfl) Try.underlying3 rfl
instance tpl38 : TPlaces Try.prog 38 [(0, 1), (1, 1), (2, 1), (3, 1), (4, 1), (5, 2), (7, 1), (8, 1), (9, 1), (10, 1)] := tplaces_mk Try.underlying38 (by kernel_rfl) (by kernel_rfl)
instance und39 : TUnd Try.prog 39 (.struct #[⟨ "Kind", 29, 0, false, "", "", 0⟩, ⟨ "Client", 3, 1, false, "", "", 8⟩, ⟨ "Call", 3, 2, false, "", "", 16⟩, ⟨ "Topic", 9, 3, false, "", "", 24⟩, ⟨ "Part", 3, 4, false, "", "", 40⟩, ⟨ "Batch", 32, 5, false, "", "", 48⟩, ⟨ "Offset", 2, 9, false, "", "", 96⟩, ⟨ "Most", 3, 10, false, "", "", 104⟩, ⟨ "Bytes", 3, 11, false, "", "", 112⟩, ⟨ "Meta", 38, 12, false, "", "", 120⟩]) := ⟨Try.underlying39⟩
theorem inf39 : (Try.prog.info? 39).map (fun i => (i.zero, i.size, i.bytes)) = some (some (.agg #[.int .u8 0, .int .i64 0, .int .i64 0, .string ByteArray.empty, .int .i64 0, .int .i64 0, .int .i64 0, .int .i64 0, .slice none 0 0, .int .i64 0, .int .i64 0, .int .i64 0, .int .u8 0, .string ByteArray.empty, .string ByteArray.empty, .int .i64 0, .slice none 0 0, .string ByteArray.empty, .int .i64 0, .int .i64 0, .int .i64 0, .int .i64 0, .int .i64 0]), 23, 248) := by kernel_rfl
instance ti39 : TInfo Try.prog 39 23 248 [.int .u8 0, .int .i64 0, .int .i64 0, .string ByteArray.empty, .int .i64 0, .int .i64 0, .int .i64 0, .int .i64 0, .slice none 0 0, .int .i64 0, .int .i64 0, .int .i64 0, .int .u8 0, .string ByteArray.empty, .string ByteArray.empty, .int .i64 0, .slice none 0 0, .string ByteArray.empty, .int .i64 0, .int .i64 0, .int .i64 0, .int .i64 0, .int .i64 0] := tinfo_mk inf39 rfl
instance tz39 : TZero Try.prog 39 (.agg #[.int .u8 0, .int .i64 0, .int .i64 0, .string ByteArray.empty, .int .i64 0, .int .i64 0, .int .i64 0, .int .i64 0, .slice none 0 0, .int .i64 0, .int .i64 0, .int .i64 0, .int .u8 0, .string ByteArray.empty, .string ByteArray.empty, .int .i64 0, .slice none 0 0, .string ByteArray.empty, .int .i64 0, .int .i64 0, .int .i64 0, .int .i64 0, .int .i64 0]) := tzero_mk inf39
instance tf39_0 : TField Try.prog 39 0 0 := tfield_mk Try.underlying39 rfl rfl (by kernel_rfl)
instance tp39_0 : TPart Try.prog 39 0 0 1 false := tpart_mk Try.underlying39 rfl rfl (by kernel_rfl) Try.underlying29 rfl
instance tf39_1 : TField Try.prog 39 1 1 := tfield_mk Try.underlying39 rfl rfl (by kernel_rfl)
instance tp39_1 : TPart Try.prog 39 1 1 1 false := tpart_mk Try.underlying39 rfl rfl (by kernel_rfl) Try.underlying3 rfl
instance tf39_2 : TField Try.prog 39 2 2 := tfield_mk Try.underlying39 rfl rfl (by kernel_rfl)
instance tp39_2 : TPart Try.prog 39 2 2 1 false := tpart_mk Try.underlying39 rfl rfl (by kernel_rfl) Try.underlying3 rfl
instance tf39_3 : TField Try.prog 39 3 3 := tfield_mk Try.underlying39 rfl rfl (by kernel_rfl)
instance tp39_3 : TPart Try.prog 39 3 3 1 false := tpart_mk Try.underlying39 rfl rfl (by kernel_rfl) Try.underlying9 rfl
instance tf39_4 : TField Try.prog 39 4 4 := tfield_mk Try.underlying39 rfl rfl (by kernel_rfl)
instance tp39_4 : TPart Try.prog 39 4 4 1 false := tpart_mk Try.underlying39 rfl rfl (by kernel_rfl) Try.underlying3 rfl
instance tf39_5 : TField Try.prog 39 5 5 := tfield_mk Try.underlying39 rfl rfl (by kernel_rfl)
instance tp39_5 : TPart Try.prog 39 5 5 4 true := tpart_mk Try.underlying39 rfl rfl (by kernel_rfl) Try.underlying32 rfl
instance tf39_6 : TField Try.prog 39 6 9 := tfield_mk Try.underlying39 rfl rfl (by kernel_rfl)
instance tp39_6 : TPart Try.prog 39 6 9 1 false := tpart_mk Try.underlying39 rfl rfl (by kernel_rfl) Try.underlying2 rfl
instance tf39_7 : TField Try.prog 39 7 10 := tfield_mk Try.underlying39 rfl rfl (by kernel_rfl)
instance tp39_7 : TPart Try.prog 39 7 10 1 false := tpart_mk Try.underlying39 rfl rfl (by kernel_rfl) Try.underlying3 rfl
instance tf39_8 : TField Try.prog 39 8 11 := tfield_mk Try.underlying39 rfl rfl (by kernel_rfl)
instance tp39_8 : TPart Try.prog 39 8 11 1 false := tpart_mk Try.underlying39 rfl rfl (by kernel_rfl) Try.underlying3 rfl
instance tf39_9 : TField Try.prog 39 9 12 := tfield_mk Try.underlying39 rfl rfl (by kernel_rfl)
instance tp39_9 : TPart Try.prog 39 9 12 11 true := tpart_mk Try.underlying39 rfl rfl (by kernel_rfl) Try.underlying38 rfl
instance tpl39 : TPlaces Try.prog 39 [(0, 1), (1, 1), (2, 1), (3, 1), (4, 1), (5, 4), (9, 1), (10, 1), (11, 1), (12, 11)] := tplaces_mk Try.underlying39 (by kernel_rfl) (by kernel_rfl)
instance und40 : TUnd Try.prog 40 (.struct #[⟨ "Kind", 29, 0, false, "", "", 0⟩, ⟨ "Client", 3, 1, false, "", "", 8⟩, ⟨ "Call", 3, 2, false, "", "", 16⟩, ⟨ "Topic", 9, 3, false, "", "", 24⟩, ⟨ "Part", 3, 4, false, "", "", 40⟩, ⟨ "Batch", 32, 5, false, "", "", 48⟩, ⟨ "Offset", 2, 9, false, "", "", 96⟩, ⟨ "Most", 3, 10, false, "", "", 104⟩, ⟨ "Bytes", 3, 11, false, "", "", 112⟩, ⟨ "Meta", 38, 12, false, "", "", 120⟩]) := ⟨Try.underlying40⟩
theorem inf40 : (Try.prog.info? 40).map (fun i => (i.zero, i.size, i.bytes)) = some (some (.agg #[.int .u8 0, .int .i64 0, .int .i64 0, .string ByteArray.empty, .int .i64 0, .int .i64 0, .int .i64 0, .int .i64 0, .slice none 0 0, .int .i64 0, .int .i64 0, .int .i64 0, .int .u8 0, .string ByteArray.empty, .string ByteArray.empty, .int .i64 0, .slice none 0 0, .string ByteArray.empty, .int .i64 0, .int .i64 0, .int .i64 0, .int .i64 0, .int .i64 0]), 23, 248) := by kernel_rfl
instance ti40 : TInfo Try.prog 40 23 248 [.int .u8 0, .int .i64 0, .int .i64 0, .string ByteArray.empty, .int .i64 0, .int .i64 0, .int .i64 0, .int .i64 0, .slice none 0 0, .int .i64 0, .int .i64 0, .int .i64 0, .int .u8 0, .string ByteArray.empty, .string ByteArray.empty, .int .i64 0, .slice none 0 0, .string ByteArray.empty, .int .i64 0, .int .i64 0, .int .i64 0, .int .i64 0, .int .i64 0] := tinfo_mk inf40 rfl
instance tz40 : TZero Try.prog 40 (.agg #[.int .u8 0, .int .i64 0, .int .i64 0, .string ByteArray.empty, .int .i64 0, .int .i64 0, .int .i64 0, .int .i64 0, .slice none 0 0, .int .i64 0, .int .i64 0, .int .i64 0, .int .u8 0, .string ByteArray.empty, .string ByteArray.empty, .int .i64 0, .slice none 0 0, .string ByteArray.empty, .int .i64 0, .int .i64 0, .int .i64 0, .int .i64 0, .int .i64 0]) := tzero_mk inf40
instance tf40_0 : TField Try.prog 40 0 0 := tfield_mk Try.underlying40 rfl rfl (by kernel_rfl)
instance tp40_0 : TPart Try.prog 40 0 0 1 false := tpart_mk Try.underlying40 rfl rfl (by kernel_rfl) Try.underlying29 rfl
instance tf40_1 : TField Try.prog 40 1 1 := tfield_mk Try.underlying40 rfl rfl (by kernel_rfl)
instance tp40_1 : TPart Try.prog 40 1 1 1 false := tpart_mk Try.underlying40 rfl rfl (by kernel_rfl) Try.underlying3 rfl
instance tf40_2 : TField Try.prog 40 2 2 := tfield_mk Try.underlying40 rfl rfl (by kernel_rfl)
instance tp40_2 : TPart Try.prog 40 2 2 1 false := tpart_mk Try.underlying40 rfl rfl (by kernel_rfl) Try.underlying3 rfl
instance tf40_3 : TField Try.prog 40 3 3 := tfield_mk Try.underlying40 rfl rfl (by kernel_rfl)
instance tp40_3 : TPart Try.prog 40 3 3 1 false := tpart_mk Try.underlying40 rfl rfl (by kernel_rfl) Try.underlying9 rfl
instance tf40_4 : TField Try.prog 40 4 4 := tfield_mk Try.underlying40 rfl rfl (by kernel_rfl)
instance tp40_4 : TPart Try.prog 40 4 4 1 false := tpart_mk Try.underlying40 rfl rfl (by kernel_rfl) Try.underlying3 rfl
instance tf40_5 : TField Try.prog 40 5 5 := tfield_mk Try.underlying40 rfl rfl (by kernel_rfl)
instance tp40_5 : TPart Try.prog 40 5 5 4 true := tpart_mk Try.underlying40 rfl rfl (by kernel_rfl) Try.underlying32 rfl
instance tf40_6 : TField Try.prog 40 6 9 := tfield_mk Try.underlying40 rfl rfl (by kernel_rfl)
instance tp40_6 : TPart Try.prog 40 6 9 1 false := tpart_mk Try.underlying40 rfl rfl (by kernel_rfl) Try.underlying2 rfl
instance tf40_7 : TField Try.prog 40 7 10 := tfield_mk Try.underlying40 rfl rfl (by kernel_rfl)
instance tp40_7 : TPart Try.prog 40 7 10 1 false := tpart_mk Try.underlying40 rfl rfl (by kernel_rfl) Try.underlying3 rfl
instance tf40_8 : TField Try.prog 40 8 11 := tfield_mk Try.underlying40 rfl rfl (by kernel_rfl)
instance tp40_8 : TPart Try.prog 40 8 11 1 false := tpart_mk Try.underlying40 rfl rfl (by kernel_rfl) Try.underlying3 rfl
instance tf40_9 : TField Try.prog 40 9 12 := tfield_mk Try.underlying40 rfl rfl (by kernel_rfl)
instance tp40_9 : TPart Try.prog 40 9 12 11 true := tpart_mk Try.underlying40 rfl rfl (by kernel_rfl) Try.underlying38 rfl
instance tpl40 : TPlaces Try.prog 40 [(0, 1), (1, 1), (2, 1), (3, 1), (4, 1), (5, 4), (9, 1), (10, 1), (11, 1), (12, 11)] := tplaces_mk Try.underlying40 (by kernel_rfl) (by kernel_rfl)
instance und41 : TUnd Try.prog 41 (.struct #[⟨ "Request", 40, 0, false, "", "", 0⟩, ⟨ "Due", 2, 23, false, "", "", 248⟩, ⟨ "Tries", 3, 24, false, "", "", 256⟩, ⟨ "Broker", 3, 25, false, "", "", 264⟩]) := ⟨Try.underlying41⟩
theorem inf41 : (Try.prog.info? 41).map (fun i => (i.zero, i.size, i.bytes)) = some (some (.agg #[.int .u8 0, .int .i64 0, .int .i64 0, .string ByteArray.empty, .int .i64 0, .int .i64 0, .int .i64 0, .int .i64 0, .slice none 0 0, .int .i64 0, .int .i64 0, .int .i64 0, .int .u8 0, .string ByteArray.empty, .string ByteArray.empty, .int .i64 0, .slice none 0 0, .string ByteArray.empty, .int .i64 0, .int .i64 0, .int .i64 0, .int .i64 0, .int .i64 0, .int .i64 0, .int .i64 0, .int .i64 0]), 26, 272) := by kernel_rfl
instance ti41 : TInfo Try.prog 41 26 272 [.int .u8 0, .int .i64 0, .int .i64 0, .string ByteArray.empty, .int .i64 0, .int .i64 0, .int .i64 0, .int .i64 0, .slice none 0 0, .int .i64 0, .int .i64 0, .int .i64 0, .int .u8 0, .string ByteArray.empty, .string ByteArray.empty, .int .i64 0, .slice none 0 0, .string ByteArray.empty, .int .i64 0, .int .i64 0, .int .i64 0, .int .i64 0, .int .i64 0, .int .i64 0, .int .i64 0, .int .i64 0] := tinfo_mk inf41 rfl
instance tz41 : TZero Try.prog 41 (.agg #[.int .u8 0, .int .i64 0, .int .i64 0, .string ByteArray.empty, .int .i64 0, .int .i64 0, .int .i64 0, .int .i64 0, .slice none 0 0, .int .i64 0, .int .i64 0, .int .i64 0, .int .u8 0, .string ByteArray.empty, .string ByteArray.empty, .int .i64 0, .slice none 0 0, .string ByteArray.empty, .int .i64 0, .int .i64 0, .int .i64 0, .int .i64 0, .int .i64 0, .int .i64 0, .int .i64 0, .int .i64 0]) := tzero_mk inf41
instance tf41_0 : TField Try.prog 41 0 0 := tfield_mk Try.underlying41 rfl rfl (by kernel_rfl)
instance tp41_0 : TPart Try.prog 41 0 0 23 true := tpart_mk Try.underlying41 rfl rfl (by kernel_rfl) Try.underlying40 rfl
instance tf41_1 : TField Try.prog 41 1 23 := tfield_mk Try.underlying41 rfl rfl (by kernel_rfl)
instance tp41_1 : TPart Try.prog 41 1 23 1 false := tpart_mk Try.underlying41 rfl rfl (by kernel_rfl) Try.underlying2 rfl
instance tf41_2 : TField Try.prog 41 2 24 := tfield_mk Try.underlying41 rfl rfl (by kernel_rfl)
instance tp41_2 : TPart Try.prog 41 2 24 1 false := tpart_mk Try.underlying41 rfl rfl (by kernel_rfl) Try.underlying3 rfl
instance tf41_3 : TField Try.prog 41 3 25 := tfield_mk Try.underlying41 rfl rfl (by kernel_rfl)
instance tp41_3 : TPart Try.prog 41 3 25 1 false := tpart_mk Try.underlying41 rfl rfl (by kernel_rfl) Try.underlying3 rfl
instance tpl41 : TPlaces Try.prog 41 [(0, 23), (23, 1), (24, 1), (25, 1)] := tplaces_mk Try.underlying41 (by kernel_rfl) (by kernel_rfl)
instance und42 : TUnd Try.prog 42 (.struct #[⟨ "Request", 40, 0, false, "", "", 0⟩, ⟨ "Due", 2, 23, false, "", "", 248⟩, ⟨ "Tries", 3, 24, false, "", "", 256⟩, ⟨ "Broker", 3, 25, false, "", "", 264⟩]) := ⟨Try.underlying42⟩
theorem inf42 : (Try.prog.info? 42).map (fun i => (i.zero, i.size, i.bytes)) = some (some (.agg #[.int .u8 0, .int .i64 0, .int .i64 0, .string ByteArray.empty, .int .i64 0, .int .i64 0, .int .i64 0, .int .i64 0, .slice none 0 0, .int .i64 0, .int .i64 0, .int .i64 0, .int .u8 0, .string ByteArray.empty, .string ByteArray.empty, .int .i64 0, .slice none 0 0, .string ByteArray.empty, .int .i64 0, .int .i64 0, .int .i64 0, .int .i64 0, .int .i64 0, .int .i64 0, .int .i64 0, .int .i64 0]), 26, 272) := by kernel_rfl
instance ti42 : TInfo Try.prog 42 26 272 [.int .u8 0, .int .i64 0, .int .i64 0, .string ByteArray.empty, .int .i64 0, .int .i64 0, .int .i64 0, .int .i64 0, .slice none 0 0, .int .i64 0, .int .i64 0, .int .i64 0, .int .u8 0, .string ByteArray.empty, .string ByteArray.empty, .int .i64 0, .slice none 0 0, .string ByteArray.empty, .int .i64 0, .int .i64 0, .int .i64 0, .int .i64 0, .int .i64 0, .int .i64 0, .int .i64 0, .int .i64 0] := tinfo_mk inf42 rfl
instance tz42 : TZero Try.prog 42 (.agg #[.int .u8 0, .int .i64 0, .int .i64 0, .string ByteArray.empty, .int .i64 0, .int .i64 0, .int .i64 0, .int .i64 0, .slice none 0 0, .int .i64 0, .int .i64 0, .int .i64 0, .int .u8 0, .string ByteArray.empty, .string ByteArray.empty, .int .i64 0, .slice none 0 0, .string ByteArray.empty, .int .i64 0, .int .i64 0, .int .i64 0, .int .i64 0, .int .i64 0, .int .i64 0, .int .i64 0, .int .i64 0]) := tzero_mk inf42
instance tf42_0 : TField Try.prog 42 0 0 := tfield_mk Try.underlying42 rfl rfl (by kernel_rfl)
instance tp42_0 : TPart Try.prog 42 0 0 23 true := tpart_mk Try.underlying42 rfl rfl (by kernel_rfl) Try.underlying40 rfl
instance tf42_1 : TField Try.prog 42 1 23 := tfield_mk Try.underlying42 rfl rfl (by kernel_rfl)
instance tp42_1 : TPart Try.prog 42 1 23 1 false := tpart_mk Try.underlying42 rfl rfl (by kernel_rfl) Try.underlying2 rfl
instance tf42_2 : TField Try.prog 42 2 24 := tfield_mk Try.underlying42 rfl rfl (by kernel_rfl)
instance tp42_2 : TPart Try.prog 42 2 24 1 false := tpart_mk Try.underlying42 rfl rfl (by kernel_rfl) Try.underlying3 rfl
instance tf42_3 : TField Try.prog 42 3 25 := tfield_mk Try.underlying42 rfl rfl (by kernel_rfl)
instance tp42_3 : TPart Try.prog 42 3 25 1 false := tpart_mk Try.underlying42 rfl rfl (by kernel_rfl) Try.underlying3 rfl
instance tpl42 : TPlaces Try.prog 42 [(0, 23), (23, 1), (24, 1), (25, 1)] := tplaces_mk Try.underlying42 (by kernel_rfl) (by kernel_rfl)
instance und43 : TUnd Try.prog 43 (.slice 58) := ⟨Try.underlying43⟩
theorem inf43 : (Try.prog.info? 43).map (fun i => (i.zero, i.size, i.bytes)) = some (some (.slice none 0 0), 1, 24) := by kernel_rfl
instance ti43 : TInfo Try.prog 43 1 24 [.slice none 0 0] := tinfo_mk inf43 rfl
instance tz43 : TZero Try.prog 43 (.slice none 0 0) := tzero_mk inf43
instance und44 : TUnd Try.prog 44 (.slice 48) := ⟨Try.underlying44⟩
theorem inf44 : (Try.prog.info? 44).map (fun i => (i.zero, i.size, i.bytes)) = some (some (.slice none 0 0), 1, 24) := by kernel_rfl
instance ti44 : TInfo Try.prog 44 1 24 [.slice none 0 0] := tinfo_mk inf44 rfl
instance tz44 : TZero Try.prog 44 (.slice none 0 0) := tzero_mk inf44
instance und46 : TUnd Try.prog 46 (.func #[25] #[25, 43, 44] false) := ⟨Try.underlying46⟩
theorem inf46 : (Try.prog.info? 46).map (fun i => (i.zero, i.size, i.bytes)) = some (some (.nilFunc), 1, 8) := by kernel_rfl
instance ti46 : TInfo Try.prog 46 1 8 [.nilFunc] := tinfo_mk inf46 rfl
instance tz46 : TZero Try.prog 46 (.nilFunc) := tzero_mk inf46
instance und47 : TUnd Try.prog 47 (.struct #[⟨ "To", 3, 0, false, "", "", 0⟩, ⟨ "Request", 40, 1, false, "", "", 8⟩]) := ⟨Try.underlying47⟩
theorem inf47 : (Try.prog.info? 47).map (fun i => (i.zero, i.size, i.bytes)) = some (some (.agg #[.int .i64 0, .int .u8 0, .int .i64 0, .int .i64 0, .string ByteArray.empty, .int .i64 0, .int .i64 0, .int .i64 0, .int .i64 0, .slice none 0 0, .int .i64 0, .int .i64 0, .int .i64 0, .int .u8 0, .string ByteArray.empty, .string ByteArray.empty, .int .i64 0, .slice none 0 0, .string ByteArray.empty, .int .i64 0, .int .i64 0, .int .i64 0, .int .i64 0, .int .i64 0]), 24, 256) := by kernel_rfl
instance ti47 : TInfo Try.prog 47 24 256 [.int .i64 0, .int .u8 0, .int .i64 0, .int .i64 0, .string ByteArray.empty, .int .i64 0, .int .i64 0, .int .i64 0, .int .i64 0, .slice none 0 0, .int .i64 0, .int .i64 0, .int .i64 0, .int .u8 0, .string ByteArray.empty, .string ByteArray.empty, .int .i64 0, .slice none 0 0, .string ByteArray.empty, .int .i64 0, .int .i64 0, .int .i64 0, .int .i64 0, .int .i64 0] := tinfo_mk inf47 rfl
instance tz47 : TZero Try.prog 47 (.agg #[.int .i64 0, .int .u8 0, .int .i64 0, .int .i64 0, .string ByteArray.empty, .int .i64 0, .int .i64 0, .int .i64 0, .int .i64 0, .slice none 0 0, .int .i64 0, .int .i64 0, .int .i64 0, .int .u8 0, .string ByteArray.empty, .string ByteArray.empty, .int .i64 0, .slice none 0 0, .string ByteArray.empty, .int .i64 0, .int .i64 0, .int .i64 0, .int .i64 0, .int .i64 0]) := tzero_mk inf47
instance tf47_0 : TField Try.prog 47 0 0 := tfield_mk Try.underlying47 rfl rfl (by kernel_rfl)
instance tp47_0 : TPart Try.prog 47 0 0 1 false := tpart_mk Try.underlying47 rfl rfl (by kernel_rfl) Try.underlying3 rfl
instance tf47_1 : TField Try.prog 47 1 1 := tfield_mk Try.underlying47 rfl rfl (by kernel_rfl)
instance tp47_1 : TPart Try.prog 47 1 1 23 true := tpart_mk Try.underlying47 rfl rfl (by kernel_rfl) Try.underlying40 rfl
instance tpl47 : TPlaces Try.prog 47 [(0, 1), (1, 23)] := tplaces_mk Try.underlying47 (by kernel_rfl) (by kernel_rfl)
instance und48 : TUnd Try.prog 48 (.struct #[⟨ "To", 3, 0, false, "", "", 0⟩, ⟨ "Request", 40, 1, false, "", "", 8⟩]) := ⟨Try.underlying48⟩
theorem inf48 : (Try.prog.info? 48).map (fun i => (i.zero, i.size, i.bytes)) = some (some (.agg #[.int .i64 0, .int .u8 0, .int .i64 0, .int .i64 0, .string ByteArray.empty, .int .i64 0, .int .i64 0, .int .i64 0, .int .i64 0, .slice none 0 0, .int .i64 0, .int .i64 0, .int .i64 0, .int .u8 0, .string ByteArray.empty, .string ByteArray.empty, .int .i64 0, .slice none 0 0, .string ByteArray.empty, .int .i64 0, .int .i64 0, .int .i64 0, .int .i64 0, .int .i64 0]), 24, 256) := by kernel_rfl
instance ti48 : TInfo Try.prog 48 24 256 [.int .i64 0, .int .u8 0, .int .i64 0, .int .i64 0, .string ByteArray.empty, .int .i64 0, .int .i64 0, .int .i64 0, .int .i64 0, .slice none 0 0, .int .i64 0, .int .i64 0, .int .i64 0, .int .u8 0, .string ByteArray.empty, .string ByteArray.empty, .int .i64 0, .slice none 0 0, .string ByteArray.empty, .int .i64 0, .int .i64 0, .int .i64 0, .int .i64 0, .int .i64 0] := tinfo_mk inf48 rfl
instance tz48 : TZero Try.prog 48 (.agg #[.int .i64 0, .int .u8 0, .int .i64 0, .int .i64 0, .string ByteArray.empty, .int .i64 0, .int .i64 0, .int .i64 0, .int .i64 0, .slice none 0 0, .int .i64 0, .int .i64 0, .int .i64 0, .int .u8 0, .string ByteArray.empty, .string ByteArray.empty, .int .i64 0, .slice none 0 0, .string ByteArray.empty, .int .i64 0, .int .i64 0, .int .i64 0, .int .i64 0, .int .i64 0]) := tzero_mk inf48
instance tf48_0 : TField Try.prog 48 0 0 := tfield_mk Try.underlying48 rfl rfl (by kernel_rfl)
instance tp48_0 : TPart Try.prog 48 0 0 1 false := tpart_mk Try.underlying48 rfl rfl (by kernel_rfl) Try.underlying3 rfl
instance tf48_1 : TField Try.prog 48 1 1 := tfield_mk Try.underlying48 rfl rfl (by kernel_rfl)
instance tp48_1 : TPart Try.prog 48 1 1 23 true := tpart_mk Try.underlying48 rfl rfl (by kernel_rfl) Try.underlying40 rfl
instance tpl48 : TPlaces Try.prog 48 [(0, 1), (1, 23)] := tplaces_mk Try.underlying48 (by kernel_rfl) (by kernel_rfl)
instance und49 : TUnd Try.prog 49 (.tuple #[3, 4]) := ⟨Try.underlying49⟩
instance und50 : TUnd Try.prog 50 (.int .i64) := ⟨Try.underlying50⟩
theorem inf50 : (Try.prog.info? 50).map (fun i => (i.zero, i.size, i.bytes)) = some (some (.int .i64 0), 1, 8) := by kernel_rfl
instance ti50 : TInfo Try.prog 50 1 8 [.int .i64 0] := tinfo_mk inf50 rfl
instance tz50 : TZero Try.prog 50 (.int .i64 0) := tzero_mk inf50
instance und51 : TUnd Try.prog 51 (.int .u8) := ⟨Try.underlying51⟩
theorem inf51 : (Try.prog.info? 51).map (fun i => (i.zero, i.size, i.bytes)) = some (some (.int .u8 0), 1, 1) := by kernel_rfl
instance ti51 : TInfo Try.prog 51 1 1 [.int .u8 0] := tinfo_mk inf51 rfl
instance tz51 : TZero Try.prog 51 (.int .u8 0) := tzero_mk inf51
instance und52 : TUnd Try.prog 52 (.slice 36) := ⟨Try.underlying52⟩
theorem inf52 : (Try.prog.info? 52).map (fun i => (i.zero, i.size, i.bytes)) = some (some (.slice none 0 0), 1, 24) := by kernel_rfl
instance ti52 : TInfo Try.prog 52 1 24 [.slice none 0 0] := tinfo_mk inf52 rfl
instance tz52 : TZero Try.prog 52 (.slice none 0 0) := tzero_mk inf52
instance und53 : TUnd Try.prog 53 (.struct #[⟨ "Err", 50, 0, false, "", "", 0⟩, ⟨ "Pid", 2, 1, false, "", "", 8⟩, ⟨ "Epoch", 3, 2, false, "", "", 16⟩, ⟨ "N", 3, 3, false, "", "", 24⟩, ⟨ "Phase", 51, 4, false, "", "", 32⟩, ⟨ "Places", 52, 5, false, "", "", 40⟩]) := ⟨Try.underlying53⟩
theorem inf53 : (Try.prog.info? 53).map (fun i => (i.zero, i.size, i.bytes)) = some (some (.agg #[.int .i64 0, .int .i64 0, .int .i64 0, .int .i64 0, .int .u8 0, .slice none 0 0]), 6, 64) := by kernel_rfl
instance ti53 : TInfo Try.prog 53 6 64 [.int .i64 0, .int .i64 0, .int .i64 0, .int .i64 0, .int .u8 0, .slice none 0 0] := tinfo_mk inf53 rfl
instance tz53 : TZero Try.prog 53 (.agg #[.int .i64 0, .int .i64 0, .int .i64 0, .int .i64 0, .int .u8 0, .slice none 0 0]) := tzero_mk inf53
instance tf53_0 : TField Try.prog 53 0 0 := tfield_mk Try.underlying53 rfl rfl (by kernel_rfl)
instance tp53_0 : TPart Try.prog 53 0 0 1 false := tpart_mk Try.underlying53 rfl rfl (by kernel_rfl) Try.underlying50 rfl
instance tf53_1 : TField Try.prog 53 1 1 := tfield_mk Try.underlying53 rfl rfl (by kernel_rfl)
instance tp53_1 : TPart Try.prog 53 1 1 1 false := tpart_mk Try.underlying53 rfl rfl (by kernel_rfl) Try.underlying2 rfl
instance tf53_2 : TField Try.prog 53 2 2 := tfield_mk Try.underlying53 rfl rfl (by kernel_rfl)
instance tp53_2 : TPart Try.prog 53 2 2 1 false := tpart_mk Try.underlying53 rfl rfl (by kernel_rfl) Try.underlying3 rfl
instance tf53_3 : TField Try.prog 53 3 3 := tfield_mk Try.underlying53 rfl rfl (by kernel_rfl)
instance tp53_3 : TPart Try.prog 53 3 3 1 false := tpart_mk Try.underlying53 rfl rfl (by kernel_rfl) Try.underlying3 rfl
instance tf53_4 : TField Try.prog 53 4 4 := tfield_mk Try.underlying53 rfl rfl (by kernel_rfl)
instance tp53_4 : TPart Try.prog 53 4 4 1 false := tpart_mk Try.underlying53 rfl rfl (by kernel_rfl) Try.underlying51 rfl
instance tf53_5 : TField Try.prog 53 5 5 := tfield_mk Try.underlying53 rfl rfl (by kernel_rfl)
instance tp53_5 : TPart Try.prog 53 5 5 1 false := tpart_mk Try.underlying53 rfl rfl (by kernel_rfl) Try.underlying52 rfl
instance tpl53 : TPlaces Try.prog 53 [(0, 1), (1, 1), (2, 1), (3, 1), (4, 1), (5, 1)] := tplaces_mk Try.underlying53 (by kernel_rfl) (by kernel_rfl)
instance und54 : TUnd Try.prog 54 (.struct #[⟨ "Err", 50, 0, false, "", "", 0⟩, ⟨ "Pid", 2, 1, false, "", "", 8⟩, ⟨ "Epoch", 3, 2, false, "", "", 16⟩, ⟨ "N", 3, 3, false, "", "", 24⟩, ⟨ "Phase", 51, 4, false, "", "", 32⟩, ⟨ "Places", 52, 5, false, "", "", 40⟩]) := ⟨Try.underlying54⟩
theorem inf54 : (Try.prog.info? 54).map (fun i => (i.zero, i.size, i.bytes)) = some (some (.agg #[.int .i64 0, .int .i64 0, .int .i64 0, .int .i64 0, .int .u8 0, .slice none 0 0]), 6, 64) := by kernel_rfl
instance ti54 : TInfo Try.prog 54 6 64 [.int .i64 0, .int .i64 0, .int .i64 0, .int .i64 0, .int .u8 0, .slice none 0 0] := tinfo_mk inf54 rfl
instance tz54 : TZero Try.prog 54 (.agg #[.int .i64 0, .int .i64 0, .int .i64 0, .int .i64 0, .int .u8 0, .slice none 0 0]) := tzero_mk inf54
instance tf54_0 : TField Try.prog 54 0 0 := tfield_mk Try.underlying54 rfl rfl (by kernel_rfl)
instance tp54_0 : TPart Try.prog 54 0 0 1 false := tpart_mk Try.underlying54 rfl rfl (by kernel_rfl) Try.underlying50 rfl
instance tf54_1 : TField Try.prog 54 1 1 := tfield_mk Try.underlying54 rfl rfl (by kernel_rfl)
instance tp54_1 : TPart Try.prog 54 1 1 1 false := tpart_mk Try.underlying54 rfl rfl (by kernel_rfl) Try.underlying2 rfl
instance tf54_2 : TField Try.prog 54 2 2 := tfield_mk Try.underlying54 rfl rfl (by kernel_rfl)
instance tp54_2 : TPart Try.prog 54 2 2 1 false := tpart_mk Try.underlying54 rfl rfl (by kernel_rfl) Try.underlying3 rfl
instance tf54_3 : TField Try.prog 54 3 3 := tfield_mk Try.underlying54 rfl rfl (by kernel_rfl)
instance tp54_3 : TPart Try.prog 54 3 3 1 false := tpart_mk Try.underlying54 rfl rfl (by kernel_rfl) Try.underlying3 rfl
instance tf54_4 : TField Try.prog 54 4 4 := tfield_mk Try.underlying54 rfl rfl (by kernel_rfl)
instance tp54_4 : TPart Try.prog 54 4 4 1 false := tpart_mk Try.underlying54 rfl rfl (by kernel_rfl) Try.underlying51 rfl
instance tf54_5 : TField Try.prog 54 5 5 := tfield_mk Try.underlying54 rfl rfl (by kernel_rfl)
instance tp54_5 : TPart Try.prog 54 5 5 1 false := tpart_mk Try.underlying54 rfl rfl (by kernel_rfl) Try.underlying52 rfl
instance tpl54 : TPlaces Try.prog 54 [(0, 1), (1, 1), (2, 1), (3, 1), (4, 1), (5, 1)] := tplaces_mk Try.underlying54 (by kernel_rfl) (by kernel_rfl)
instance und55 : TUnd Try.prog 55 (.struct #[⟨ "Kind", 29, 0, false, "", "", 0⟩, ⟨ "Client", 3, 1, false, "", "", 8⟩, ⟨ "Call", 3, 2, false, "", "", 16⟩, ⟨ "Err", 50, 3, false, "", "", 24⟩, ⟨ "Leader", 3, 4, false, "", "", 32⟩, ⟨ "Offset", 2, 5, false, "", "", 40⟩, ⟨ "Start", 2, 6, false, "", "", 48⟩, ⟨ "End", 2, 7, false, "", "", 56⟩, ⟨ "Again", 4, 8, false, "", "", 64⟩, ⟨ "Records", 30, 9, false, "", "", 72⟩, ⟨ "Meta", 54, 10, false, "", "", 96⟩]) := ⟨Try.underlying55⟩
theorem inf55 : (Try.prog.info? 55).map (fun i => (i.zero, i.size, i.bytes)) = some (some (.agg #[.int .u8 0, .int .i64 0, .int .i64 0, .int .i64 0, .int .i64 0, .int .i64 0, .int .i64 0, .int .i64 0, .bool false, .slice none 0 0, .int .i64 0, .int .i64 0, .int .i64 0, .int .i64 0, .int .u8 0, .slice none 0 0]), 16, 160) := by kernel_rfl
instance ti55 : TInfo Try.prog 55 16 160 [.int .u8 0, .int .i64 0, .int .i64 0, .int .i64 0, .int .i64 0, .int .i64 0, .int .i64 0, .int .i64 0, .bool false, .slice none 0 0, .int .i64 0, .int .i64 0, .int .i64 0, .int .i64 0, .int .u8 0, .slice none 0 0] := tinfo_mk inf55 rfl
instance tz55 : TZero Try.prog 55 (.agg #[.int .u8 0, .int .i64 0, .int .i64 0, .int .i64 0, .int .i64 0, .int .i64 0, .int .i64 0, .int .i64 0, .bool false, .slice none 0 0, .int .i64 0, .int .i64 0, .int .i64 0, .int .i64 0, .int .u8 0, .slice none 0 0]) := tzero_mk inf55
instance tf55_0 : TField Try.prog 55 0 0 := tfield_mk Try.underlying55 rfl rfl (by kernel_rfl)
instance tp55_0 : TPart Try.prog 55 0 0 1 false := tpart_mk Try.underlying55 rfl rfl (by kernel_rfl) Try.underlying29 rfl
instance tf55_1 : TField Try.prog 55 1 1 := tfield_mk Try.underlying55 rfl rfl (by kernel_rfl)
instance tp55_1 : TPart Try.prog 55 1 1 1 false := tpart_mk Try.underlying55 rfl rfl (by kernel_rfl) Try.underlying3 rfl
instance tf55_2 : TField Try.prog 55 2 2 := tfield_mk Try.underlying55 rfl rfl (by kernel_rfl)
instance tp55_2 : TPart Try.prog 55 2 2 1 false := tpart_mk Try.underlying55 rfl rfl (by kernel_rfl) Try.underlying3 rfl
instance tf55_3 : TField Try.prog 55 3 3 := tfield_mk Try.underlying55 rfl rfl (by kernel_rfl)
instance tp55_3 : TPart Try.prog 55 3 3 1 false := tpart_mk Try.underlying55 rfl rfl (by kernel_rfl) Try.underlying50 rfl
instance tf55_4 : TField Try.prog 55 4 4 := tfield_mk Try.underlying55 rfl rfl (by kernel_rfl)
instance tp55_4 : TPart Try.prog 55 4 4 1 false := tpart_mk Try.underlying55 rfl rfl (by kernel_rfl) Try.underlying3 rfl
instance tf55_5 : TField Try.prog 55 5 5 := tfield_mk Try.underlying55 rfl rfl (by kernel_rfl)
instance tp55_5 : TPart Try.prog 55 5 5 1 false := tpart_mk Try.underlying55 rfl rfl (by kernel_rfl) Try.underlying2 rfl
instance tf55_6 : TField Try.prog 55 6 6 := tfield_mk Try.underlying55 rfl rfl (by kernel_rfl)
instance tp55_6 : TPart Try.prog 55 6 6 1 false := tpart_mk Try.underlying55 rfl rfl (by kernel_rfl) Try.underlying2 rfl
instance tf55_7 : TField Try.prog 55 7 7 := tfield_mk Try.underlying55 rfl rfl (by kernel_rfl)
instance tp55_7 : TPart Try.prog 55 7 7 1 false := tpart_mk Try.underlying55 rfl rfl (by kernel_rfl) Try.underlying2 rfl
instance tf55_8 : TField Try.prog 55 8 8 := tfield_mk Try.underlying55 rfl rfl (by kernel_rfl)
instance tp55_8 : TPart Try.prog 55 8 8 1 false := tpart_mk Try.underlying55 rfl rfl (by kernel_rfl) Try.underlying4 rfl
instance tf55_9 : TField Try.prog 55 9 9 := tfield_mk Try.underlying55 rfl rfl (by kernel_rfl)
instance tp55_9 : TPart Try.prog 55 9 9 1 false := tpart_mk Try.underlying55 rfl rfl (by kernel_rfl) Try.underlying30 rfl
instance tf55_10 : TField Try.prog 55 10 10 := tfield_mk Try.underlying55 rfl rfl (by kernel_rfl)
instance tp55_10 : TPart Try.prog 55 10 10 6 true := tpart_mk Try.underlying55 rfl rfl (by kernel_rfl) Try.underlying54 rfl
instance tpl55 : TPlaces Try.prog 55 [(0, 1), (1, 1), (2, 1), (3, 1), (4, 1), (5, 1), (6, 1), (7, 1), (8, 1), (9, 1), (10, 6)] := tplaces_mk Try.underlying55 (by kernel_rfl) (by kernel_rfl)
instance und56 : TUnd Try.prog 56 (.struct #[⟨ "Kind", 29, 0, false, "", "", 0⟩, ⟨ "Client", 3, 1, false, "", "", 8⟩, ⟨ "Call", 3, 2, false, "", "", 16⟩, ⟨ "Err", 50, 3, false, "", "", 24⟩, ⟨ "Leader", 3, 4, false, "", "", 32⟩, ⟨ "Offset", 2, 5, false, "", "", 40⟩, ⟨ "Start", 2, 6, false, "", "", 48⟩, ⟨ "End", 2, 7, false, "", "", 56⟩, ⟨ "Again", 4, 8, false, "", "", 64⟩, ⟨ "Records", 30, 9, false, "", "", 72⟩, ⟨ "Meta", 54, 10, false, "", "", 96⟩]) := ⟨Try.underlying56⟩
theorem inf56 : (Try.prog.info? 56).map (fun i => (i.zero, i.size, i.bytes)) = some (some (.agg #[.int .u8 0, .int .i64 0, .int .i64 0, .int .i64 0, .int .i64 0, .int .i64 0, .int .i64 0, .int .i64 0, .bool false, .slice none 0 0, .int .i64 0, .int .i64 0, .int .i64 0, .int .i64 0, .int .u8 0, .slice none 0 0]), 16, 160) := by kernel_rfl
instance ti56 : TInfo Try.prog 56 16 160 [.int .u8 0, .int .i64 0, .int .i64 0, .int .i64 0, .int .i64 0, .int .i64 0, .int .i64 0, .int .i64 0, .bool false, .slice none 0 0, .int .i64 0, .int .i64 0, .int .i64 0, .int .i64 0, .int .u8 0, .slice none 0 0] := tinfo_mk inf56 rfl
instance tz56 : TZero Try.prog 56 (.agg #[.int .u8 0, .int .i64 0, .int .i64 0, .int .i64 0, .int .i64 0, .int .i64 0, .int .i64 0, .int .i64 0, .bool false, .slice none 0 0, .int .i64 0, .int .i64 0, .int .i64 0, .int .i64 0, .int .u8 0, .slice none 0 0]) := tzero_mk inf56
instance tf56_0 : TField Try.prog 56 0 0 := tfield_mk Try.underlying56 rfl rfl (by kernel_rfl)
instance tp56_0 : TPart Try.prog 56 0 0 1 false := tpart_mk Try.underlying56 rfl rfl (by kernel_rfl) Try.underlying29 rfl
instance tf56_1 : TField Try.prog 56 1 1 := tfield_mk Try.underlying56 rfl rfl (by kernel_rfl)
instance tp56_1 : TPart Try.prog 56 1 1 1 false := tpart_mk Try.underlying56 rfl rfl (by kernel_rfl) Try.underlying3 rfl
instance tf56_2 : TField Try.prog 56 2 2 := tfield_mk Try.underlying56 rfl rfl (by kernel_rfl)
instance tp56_2 : TPart Try.prog 56 2 2 1 false := tpart_mk Try.underlying56 rfl rfl (by kernel_rfl) Try.underlying3 rfl
instance tf56_3 : TField Try.prog 56 3 3 := tfield_mk Try.underlying56 rfl rfl (by kernel_rfl)
instance tp56_3 : TPart Try.prog 56 3 3 1 false := tpart_mk Try.underlying56 rfl rfl (by kernel_rfl) Try.underlying50 rfl
instance tf56_4 : TField Try.prog 56 4 4 := tfield_mk Try.underlying56 rfl rfl (by kernel_rfl)
instance tp56_4 : TPart Try.prog 56 4 4 1 false := tpart_mk Try.underlying56 rfl rfl (by kernel_rfl) Try.underlying3 rfl
instance tf56_5 : TField Try.prog 56 5 5 := tfield_mk Try.underlying56 rfl rfl (by kernel_rfl)
instance tp56_5 : TPart Try.prog 56 5 5 1 false := tpart_mk Try.underlying56 rfl rfl (by kernel_rfl) Try.underlying2 rfl
instance tf56_6 : TField Try.prog 56 6 6 := tfield_mk Try.underlying56 rfl rfl (by kernel_rfl)
instance tp56_6 : TPart Try.prog 56 6 6 1 false := tpart_mk Try.underlying56 rfl rfl (by kernel_rfl) Try.underlying2 rfl
instance tf56_7 : TField Try.prog 56 7 7 := tfield_mk Try.underlying56 rfl rfl (by kernel_rfl)
instance tp56_7 : TPart Try.prog 56 7 7 1 false := tpart_mk Try.underlying56 rfl rfl (by kernel_rfl) Try.underlying2 rfl
instance tf56_8 : TField Try.prog 56 8 8 := tfield_mk Try.underlying56 rfl rfl (by kernel_rfl)
instance tp56_8 : TPart Try.prog 56 8 8 1 false := tpart_mk Try.underlying56 rfl rfl (by kernel_rfl) Try.underlying4 rfl
instance tf56_9 : TField Try.prog 56 9 9 := tfield_mk Try.underlying56 rfl rfl (by kernel_rfl)
instance tp56_9 : TPart Try.prog 56 9 9 1 false := tpart_mk Try.underlying56 rfl rfl (by kernel_rfl) Try.underlying30 rfl
instance tf56_10 : TField Try.prog 56 10 10 := tfield_mk Try.underlying56 rfl rfl (by kernel_rfl)
instance tp56_10 : TPart Try.prog 56 10 10 6 true := tpart_mk Try.underlying56 rfl rfl (by kernel_rfl) Try.underlying54 rfl
instance tpl56 : TPlaces Try.prog 56 [(0, 1), (1, 1), (2, 1), (3, 1), (4, 1), (5, 1), (6, 1), (7, 1), (8, 1), (9, 1), (10, 6)] := tplaces_mk Try.underlying56 (by kernel_rfl) (by kernel_rfl)
instance und57 : TUnd Try.prog 57 (.struct #[⟨ "Call", 3, 0, false, "", "", 0⟩, ⟨ "Err", 50, 1, false, "", "", 8⟩, ⟨ "Response", 56, 2, false, "", "", 16⟩]) := ⟨Try.underlying57⟩
theorem inf57 : (Try.prog.info? 57).map (fun i => (i.zero, i.size, i.bytes)) = some (some (.agg #[.int .i64 0, .int .i64 0, .int .u8 0, .int .i64 0, .int .i64 0, .int .i64 0, .int .i64 0, .int .i64 0, .int .i64 0, .int .i64 0, .bool false, .slice none 0 0, .int .i64 0, .int .i64 0, .int .i64 0, .int .i64 0, .int .u8 0, .slice none 0 0]), 18, 176) := by kernel_rfl
instance ti57 : TInfo Try.prog 57 18 176 [.int .i64 0, .int .i64 0, .int .u8 0, .int .i64 0, .int .i64 0, .int .i64 0, .int .i64 0, .int .i64 0, .int .i64 0, .int .i64 0, .bool false, .slice none 0 0, .int .i64 0, .int .i64 0, .int .i64 0, .int .i64 0, .int .u8 0, .slice none 0 0] := tinfo_mk inf57 rfl
instance tz57 : TZero Try.prog 57 (.agg #[.int .i64 0, .int .i64 0, .int .u8 0, .int .i64 0, .int .i64 0, .int .i64 0, .int .i64 0, .int .i64 0, .int .i64 0, .int .i64 0, .bool false, .slice none 0 0, .int .i64 0, .int .i64 0, .int .i64 0, .int .i64 0, .int .u8 0, .slice none 0 0]) := tzero_mk inf57
instance tf57_0 : TField Try.prog 57 0 0 := tfield_mk Try.underlying57 rfl rfl (by kernel_rfl)
instance tp57_0 : TPart Try.prog 57 0 0 1 false := tpart_mk Try.underlying57 rfl rfl (by kernel_rfl) Try.underlying3 rfl
instance tf57_1 : TField Try.prog 57 1 1 := tfield_mk Try.underlying57 rfl rfl (by kernel_rfl)
instance tp57_1 : TPart Try.prog 57 1 1 1 false := tpart_mk Try.underlying57 rfl rfl (by kernel_rfl) Try.underlying50 rfl
instance tf57_2 : TField Try.prog 57 2 2 := tfield_mk Try.underlying57 rfl rfl (by kernel_rfl)
instance tp57_2 : TPart Try.prog 57 2 2 16 true := tpart_mk Try.underlying57 rfl rfl (by kernel_rfl) Try.underlying56 rfl
instance tpl57 : TPlaces Try.prog 57 [(0, 1), (1, 1), (2, 16)] := tplaces_mk Try.underlying57 (by kernel_rfl) (by kernel_rfl)
instance und58 : TUnd Try.prog 58 (.struct #[⟨ "Call", 3, 0, false, "", "", 0⟩, ⟨ "Err", 50, 1, false, "", "", 8⟩, ⟨ "Response", 56, 2, false, "", "", 16⟩]) := ⟨Try.underlying58⟩
theorem inf58 : (Try.prog.info? 58).map (fun i => (i.zero, i.size, i.bytes)) = some (some (.agg #[.int .i64 0, .int .i64 0, .int .u8 0, .int .i64 0, .int .i64 0, .int .i64 0, .int .i64 0, .int .i64 0, .int .i64 0, .int .i64 0, .bool false, .slice none 0 0, .int .i64 0, .int .i64 0, .int .i64 0, .int .i64 0, .int .u8 0, .slice none 0 0]), 18, 176) := by kernel_rfl
instance ti58 : TInfo Try.prog 58 18 176 [.int .i64 0, .int .i64 0, .int .u8 0, .int .i64 0, .int .i64 0, .int .i64 0, .int .i64 0, .int .i64 0, .int .i64 0, .int .i64 0, .bool false, .slice none 0 0, .int .i64 0, .int .i64 0, .int .i64 0, .int .i64 0, .int .u8 0, .slice none 0 0] := tinfo_mk inf58 rfl
instance tz58 : TZero Try.prog 58 (.agg #[.int .i64 0, .int .i64 0, .int .u8 0, .int .i64 0, .int .i64 0, .int .i64 0, .int .i64 0, .int .i64 0, .int .i64 0, .int .i64 0, .bool false, .slice none 0 0, .int .i64 0, .int .i64 0, .int .i64 0, .int .i64 0, .int .u8 0, .slice none 0 0]) := tzero_mk inf58
instance tf58_0 : TField Try.prog 58 0 0 := tfield_mk Try.underlying58 rfl rfl (by kernel_rfl)
instance tp58_0 : TPart Try.prog 58 0 0 1 false := tpart_mk Try.underlying58 rfl rfl (by kernel_rfl) Try.underlying3 rfl
instance tf58_1 : TField Try.prog 58 1 1 := tfield_mk Try.underlying58 rfl rfl (by kernel_rfl)
instance tp58_1 : TPart Try.prog 58 1 1 1 false := tpart_mk Try.underlying58 rfl rfl (by kernel_rfl) Try.underlying50 rfl
instance tf58_2 : TField Try.prog 58 2 2 := tfield_mk Try.underlying58 rfl rfl (by kernel_rfl)
instance tp58_2 : TPart Try.prog 58 2 2 16 true := tpart_mk Try.underlying58 rfl rfl (by kernel_rfl) Try.underlying56 rfl
instance tpl58 : TPlaces Try.prog 58 [(0, 1), (1, 1), (2, 16)] := tplaces_mk Try.underlying58 (by kernel_rfl) (by kernel_rfl)
instance und59 : TUnd Try.prog 59 (.func #[25, 56] #[25, 43, 44] false) := ⟨Try.underlying59⟩
theorem inf59 : (Try.prog.info? 59).map (fun i => (i.zero, i.size, i.bytes)) = some (some (.nilFunc), 1, 8) := by kernel_rfl
instance ti59 : TInfo Try.prog 59 1 8 [.nilFunc] := tinfo_mk inf59 rfl
instance tz59 : TZero Try.prog 59 (.nilFunc) := tzero_mk inf59
instance und60 : TUnd Try.prog 60 (.func #[25, 25] #[4] false) := ⟨Try.underlying60⟩
theorem inf60 : (Try.prog.info? 60).map (fun i => (i.zero, i.size, i.bytes)) = some (some (.nilFunc), 1, 8) := by kernel_rfl
instance ti60 : TInfo Try.prog 60 1 8 [.nilFunc] := tinfo_mk inf60 rfl
instance tz60 : TZero Try.prog 60 (.nilFunc) := tzero_mk inf60
instance und61 : TUnd Try.prog 61 (.func #[25, 56] #[4] false) := ⟨Try.underlying61⟩
theorem inf61 : (Try.prog.info? 61).map (fun i => (i.zero, i.size, i.bytes)) = some (some (.nilFunc), 1, 8) := by kernel_rfl
instance ti61 : TInfo Try.prog 61 1 8 [.nilFunc] := tinfo_mk inf61 rfl
instance tz61 : TZero Try.prog 61 (.nilFunc) := tzero_mk inf61
instance und63 : TUnd Try.prog 63 (.func #[3, 3] #[25, 50] false) := ⟨Try.underlying63⟩
theorem inf63 : (Try.prog.info? 63).map (fun i => (i.zero, i.size, i.bytes)) = some (some (.nilFunc), 1, 8) := by kernel_rfl
instance ti63 : TInfo Try.prog 63 1 8 [.nilFunc] := tinfo_mk inf63 rfl
instance tz63 : TZero Try.prog 63 (.nilFunc) := tzero_mk inf63
instance und64 : TUnd Try.prog 64 (.struct #[⟨ "Place", 36, 0, false, "", "", 0⟩, ⟨ "Next", 2, 2, false, "", "", 24⟩]) := ⟨Try.underlying64⟩
theorem inf64 : (Try.prog.info? 64).map (fun i => (i.zero, i.size, i.bytes)) = some (some (.agg #[.string ByteArray.empty, .int .i64 0, .int .i64 0]), 3, 32) := by kernel_rfl
instance ti64 : TInfo Try.prog 64 3 32 [.string ByteArray.empty, .int .i64 0, .int .i64 0] := tinfo_mk inf64 rfl
instance tz64 : TZero Try.prog 64 (.agg #[.string ByteArray.empty, .int .i64 0, .int .i64 0]) := tzero_mk inf64
instance tf64_0 : TField Try.prog 64 0 0 := tfield_mk Try.underlying64 rfl rfl (by kernel_rfl)
instance tp64_0 : TPart Try.prog 64 0 0 2 true := tpart_mk Try.underlying64 rfl rfl (by kernel_rfl) Try.underlying36 rfl
instance tf64_1 : TField Try.prog 64 1 2 := tfield_mk Try.underlying64 rfl rfl (by kernel_rfl)
instance tp64_1 : TPart Try.prog 64 1 2 1 false := tpart_mk Try.underlying64 rfl rfl (by kernel_rfl) Try.underlying2 rfl
instance tpl64 : TPlaces Try.prog 64 [(0, 2), (2, 1)] := tplaces_mk Try.underlying64 (by kernel_rfl) (by kernel_rfl)
instance und65 : TUnd Try.prog 65 (.struct #[⟨ "Place", 36, 0, false, "", "", 0⟩, ⟨ "Next", 2, 2, false, "", "", 24⟩]) := ⟨Try.underlying65⟩
theorem inf65 : (Try.prog.info? 65).map (fun i => (i.zero, i.size, i.bytes)) = some (some (.agg #[.string ByteArray.empty, .int .i64 0, .int .i64 0]), 3, 32) := by kernel_rfl
instance ti65 : TInfo Try.prog 65 3 32 [.string ByteArray.empty, .int .i64 0, .int .i64 0] := tinfo_mk inf65 rfl
instance tz65 : TZero Try.prog 65 (.agg #[.string ByteArray.empty, .int .i64 0, .int .i64 0]) := tzero_mk inf65
instance tf65_0 : TField Try.prog 65 0 0 := tfield_mk Try.underlying65 rfl rfl (by kernel_rfl)
instance tp65_0 : TPart Try.prog 65 0 0 2 true := tpart_mk Try.underlying65 rfl rfl (by kernel_rfl) Try.underlying36 rfl
instance tf65_1 : TField Try.prog 65 1 2 := tfield_mk Try.underlying65 rfl rfl (by kernel_rfl)
instance tp65_1 : TPart Try.prog 65 1 2 1 false := tpart_mk Try.underlying65 rfl rfl (by kernel_rfl) Try.underlying2 rfl
instance tpl65 : TPlaces Try.prog 65 [(0, 2), (2, 1)] := tplaces_mk Try.underlying65 (by kernel_rfl) (by kernel_rfl)
instance und66 : TUnd Try.prog 66 (.func #[36] #[4] false) := ⟨Try.underlying66⟩
theorem inf66 : (Try.prog.info? 66).map (fun i => (i.zero, i.size, i.bytes)) = some (some (.nilFunc), 1, 8) := by kernel_rfl
instance ti66 : TInfo Try.prog 66 1 8 [.nilFunc] := tinfo_mk inf66 rfl
instance tz66 : TZero Try.prog 66 (.nilFunc) := tzero_mk inf66
instance und67 : TUnd Try.prog 67 (.func #[36, 36] #[3] false) := ⟨Try.underlying67⟩
theorem inf67 : (Try.prog.info? 67).map (fun i => (i.zero, i.size, i.bytes)) = some (some (.nilFunc), 1, 8) := by kernel_rfl
instance ti67 : TInfo Try.prog 67 1 8 [.nilFunc] := tinfo_mk inf67 rfl
instance tz67 : TZero Try.prog 67 (.nilFunc) := tzero_mk inf67
instance und69 : TUnd Try.prog 69 (.func #[25, 40] #[25, 44, 50] false) := ⟨Try.underlying69⟩
theorem inf69 : (Try.prog.info? 69).map (fun i => (i.zero, i.size, i.bytes)) = some (some (.nilFunc), 1, 8) := by kernel_rfl
instance ti69 : TInfo Try.prog 69 1 8 [.nilFunc] := tinfo_mk inf69 rfl
instance tz69 : TZero Try.prog 69 (.nilFunc) := tzero_mk inf69
instance und70 : TUnd Try.prog 70 (.func #[25, 36, 30] #[25, 44, 50] false) := ⟨Try.underlying70⟩
theorem inf70 : (Try.prog.info? 70).map (fun i => (i.zero, i.size, i.bytes)) = some (some (.nilFunc), 1, 8) := by kernel_rfl
instance ti70 : TInfo Try.prog 70 1 8 [.nilFunc] := tinfo_mk inf70 rfl
instance tz70 : TZero Try.prog 70 (.nilFunc) := tzero_mk inf70
instance und71 : TUnd Try.prog 71 (.slice 5) := ⟨Try.underlying71⟩
theorem inf71 : (Try.prog.info? 71).map (fun i => (i.zero, i.size, i.bytes)) = some (some (.slice none 0 0), 1, 24) := by kernel_rfl
instance ti71 : TInfo Try.prog 71 1 24 [.slice none 0 0] := tinfo_mk inf71 rfl
instance tz71 : TZero Try.prog 71 (.slice none 0 0) := tzero_mk inf71
instance und72 : TUnd Try.prog 72 (.func #[25] #[25] false) := ⟨Try.underlying72⟩
theorem inf72 : (Try.prog.info? 72).map (fun i => (i.zero, i.size, i.bytes)) = some (some (.nilFunc), 1, 8) := by kernel_rfl
instance ti72 : TInfo Try.prog 72 1 8 [.nilFunc] := tinfo_mk inf72 rfl
instance tz72 : TZero Try.prog 72 (.nilFunc) := tzero_mk inf72
instance und73 : TUnd Try.prog 73 (.func #[25, 40] #[4] false) := ⟨Try.underlying73⟩
theorem inf73 : (Try.prog.info? 73).map (fun i => (i.zero, i.size, i.bytes)) = some (some (.nilFunc), 1, 8) := by kernel_rfl
instance ti73 : TInfo Try.prog 73 1 8 [.nilFunc] := tinfo_mk inf73 rfl
instance tz73 : TZero Try.prog 73 (.nilFunc) := tzero_mk inf73
instance und74 : TUnd Try.prog 74 (.func #[25, 75] #[48] false) := ⟨Try.underlying74⟩
theorem inf74 : (Try.prog.info? 74).map (fun i => (i.zero, i.size, i.bytes)) = some (some (.nilFunc), 1, 8) := by kernel_rfl
instance ti74 : TInfo Try.prog 74 1 8 [.nilFunc] := tinfo_mk inf74 rfl
instance tz74 : TZero Try.prog 74 (.nilFunc) := tzero_mk inf74
instance und75 : TUnd Try.prog 75 (.pointer 42) := ⟨Try.underlying75⟩
theorem inf75 : (Try.prog.info? 75).map (fun i => (i.zero, i.size, i.bytes)) = some (some (.pointer none), 1, 8) := by kernel_rfl
instance ti75 : TInfo Try.prog 75 1 8 [.pointer none] := tinfo_mk inf75 rfl
instance tz75 : TZero Try.prog 75 (.pointer none) := tzero_mk inf75
instance und76 : TUnd Try.prog 76 (.func #[22, 77] #[3] false) := ⟨Try.underlying76⟩
theorem inf76 : (Try.prog.info? 76).map (fun i => (i.zero, i.size, i.bytes)) = some (some (.nilFunc), 1, 8) := by kernel_rfl
instance ti76 : TInfo Try.prog 76 1 8 [.nilFunc] := tinfo_mk inf76 rfl
instance tz76 : TZero Try.prog 76 (.nilFunc) := tzero_mk inf76
instance und77 : TUnd Try.prog 77 (.func #[42] #[4] false) := ⟨Try.underlying77⟩
theorem inf77 : (Try.prog.info? 77).map (fun i => (i.zero, i.size, i.bytes)) = some (some (.nilFunc), 1, 8) := by kernel_rfl
instance ti77 : TInfo Try.prog 77 1 8 [.nilFunc] := tinfo_mk inf77 rfl
instance tz77 : TZero Try.prog 77 (.nilFunc) := tzero_mk inf77
instance und78 : TUnd Try.prog 78 (.func #[22, 3, 3] #[22] false) := ⟨Try.underlying78⟩
theorem inf78 : (Try.prog.info? 78).map (fun i => (i.zero, i.size, i.bytes)) = some (some (.nilFunc), 1, 8) := by kernel_rfl
instance ti78 : TInfo Try.prog 78 1 8 [.nilFunc] := tinfo_mk inf78 rfl
instance tz78 : TZero Try.prog 78 (.nilFunc) := tzero_mk inf78
instance und79 : TUnd Try.prog 79 (.func #[80, 40] #[] false) := ⟨Try.underlying79⟩
theorem inf79 : (Try.prog.info? 79).map (fun i => (i.zero, i.size, i.bytes)) = some (some (.nilFunc), 1, 8) := by kernel_rfl
instance ti79 : TInfo Try.prog 79 1 8 [.nilFunc] := tinfo_mk inf79 rfl
instance tz79 : TZero Try.prog 79 (.nilFunc) := tzero_mk inf79
instance und80 : TUnd Try.prog 80 (.pointer 25) := ⟨Try.underlying80⟩
theorem inf80 : (Try.prog.info? 80).map (fun i => (i.zero, i.size, i.bytes)) = some (some (.pointer none), 1, 8) := by kernel_rfl
instance ti80 : TInfo Try.prog 80 1 8 [.pointer none] := tinfo_mk inf80 rfl
instance tz80 : TZero Try.prog 80 (.pointer none) := tzero_mk inf80
instance und81 : TUnd Try.prog 81 (.func #[30] #[30] false) := ⟨Try.underlying81⟩
theorem inf81 : (Try.prog.info? 81).map (fun i => (i.zero, i.size, i.bytes)) = some (some (.nilFunc), 1, 8) := by kernel_rfl
instance ti81 : TInfo Try.prog 81 1 8 [.nilFunc] := tinfo_mk inf81 rfl
instance tz81 : TZero Try.prog 81 (.nilFunc) := tzero_mk inf81
instance und82 : TUnd Try.prog 82 (.func #[71] #[71] false) := ⟨Try.underlying82⟩
theorem inf82 : (Try.prog.info? 82).map (fun i => (i.zero, i.size, i.bytes)) = some (some (.nilFunc), 1, 8) := by kernel_rfl
instance ti82 : TInfo Try.prog 82 1 8 [.nilFunc] := tinfo_mk inf82 rfl
instance tz82 : TZero Try.prog 82 (.nilFunc) := tzero_mk inf82
instance und83 : TUnd Try.prog 83 (.func #[52] #[52] false) := ⟨Try.underlying83⟩
theorem inf83 : (Try.prog.info? 83).map (fun i => (i.zero, i.size, i.bytes)) = some (some (.nilFunc), 1, 8) := by kernel_rfl
instance ti83 : TInfo Try.prog 83 1 8 [.nilFunc] := tinfo_mk inf83 rfl
instance tz83 : TZero Try.prog 83 (.nilFunc) := tzero_mk inf83
instance und84 : TUnd Try.prog 84 (.func #[22, 22] #[4] false) := ⟨Try.underlying84⟩
theorem inf84 : (Try.prog.info? 84).map (fun i => (i.zero, i.size, i.bytes)) = some (some (.nilFunc), 1, 8) := by kernel_rfl
instance ti84 : TInfo Try.prog 84 1 8 [.nilFunc] := tinfo_mk inf84 rfl
instance tz84 : TZero Try.prog 84 (.nilFunc) := tzero_mk inf84
instance und85 : TUnd Try.prog 85 (.func #[23, 23] #[4] false) := ⟨Try.underlying85⟩
theorem inf85 : (Try.prog.info? 85).map (fun i => (i.zero, i.size, i.bytes)) = some (some (.nilFunc), 1, 8) := by kernel_rfl
instance ti85 : TInfo Try.prog 85 1 8 [.nilFunc] := tinfo_mk inf85 rfl
instance tz85 : TZero Try.prog 85 (.nilFunc) := tzero_mk inf85
instance und86 : TUnd Try.prog 86 (.func #[9] #[4] false) := ⟨Try.underlying86⟩
theorem inf86 : (Try.prog.info? 86).map (fun i => (i.zero, i.size, i.bytes)) = some (some (.nilFunc), 1, 8) := by kernel_rfl
instance ti86 : TInfo Try.prog 86 1 8 [.nilFunc] := tinfo_mk inf86 rfl
instance tz86 : TZero Try.prog 86 (.nilFunc) := tzero_mk inf86
instance und87 : TUnd Try.prog 87 (.func #[9, 9] #[3] false) := ⟨Try.underlying87⟩
theorem inf87 : (Try.prog.info? 87).map (fun i => (i.zero, i.size, i.bytes)) = some (some (.nilFunc), 1, 8) := by kernel_rfl
instance ti87 : TInfo Try.prog 87 1 8 [.nilFunc] := tinfo_mk inf87 rfl
instance tz87 : TZero Try.prog 87 (.nilFunc) := tzero_mk inf87
instance und88 : TUnd Try.prog 88 (.func #[40] #[36] false) := ⟨Try.underlying88⟩
theorem inf88 : (Try.prog.info? 88).map (fun i => (i.zero, i.size, i.bytes)) = some (some (.nilFunc), 1, 8) := by kernel_rfl
instance ti88 : TInfo Try.prog 88 1 8 [.nilFunc] := tinfo_mk inf88 rfl
instance tz88 : TZero Try.prog 88 (.nilFunc) := tzero_mk inf88
instance und89 : TUnd Try.prog 89 (.func #[32] #[4] false) := ⟨Try.underlying89⟩
theorem inf89 : (Try.prog.info? 89).map (fun i => (i.zero, i.size, i.bytes)) = some (some (.nilFunc), 1, 8) := by kernel_rfl
instance ti89 : TInfo Try.prog 89 1 8 [.nilFunc] := tinfo_mk inf89 rfl
instance tz89 : TZero Try.prog 89 (.nilFunc) := tzero_mk inf89
instance und90 : TUnd Try.prog 90 (.func #[22, 77] #[4] false) := ⟨Try.underlying90⟩
theorem inf90 : (Try.prog.info? 90).map (fun i => (i.zero, i.size, i.bytes)) = some (some (.nilFunc), 1, 8) := by kernel_rfl
instance ti90 : TInfo Try.prog 90 1 8 [.nilFunc] := tinfo_mk inf90 rfl
instance tz90 : TZero Try.prog 90 (.nilFunc) := tzero_mk inf90
instance und91 : TUnd Try.prog 91 (.func #[36] #[77] false) := ⟨Try.underlying91⟩
theorem inf91 : (Try.prog.info? 91).map (fun i => (i.zero, i.size, i.bytes)) = some (some (.nilFunc), 1, 8) := by kernel_rfl
instance ti91 : TInfo Try.prog 91 1 8 [.nilFunc] := tinfo_mk inf91 rfl
instance tz91 : TZero Try.prog 91 (.nilFunc) := tzero_mk inf91
instance und92 : TUnd Try.prog 92 (.func #[25, 36] #[3, 4] false) := ⟨Try.underlying92⟩
theorem inf92 : (Try.prog.info? 92).map (fun i => (i.zero, i.size, i.bytes)) = some (some (.nilFunc), 1, 8) := by kernel_rfl
instance ti92 : TInfo Try.prog 92 1 8 [.nilFunc] := tinfo_mk inf92 rfl
instance tz92 : TZero Try.prog 92 (.nilFunc) := tzero_mk inf92
instance und93 : TUnd Try.prog 93 (.func #[22] #[22] false) := ⟨Try.underlying93⟩
theorem inf93 : (Try.prog.info? 93).map (fun i => (i.zero, i.size, i.bytes)) = some (some (.nilFunc), 1, 8) := by kernel_rfl
instance ti93 : TInfo Try.prog 93 1 8 [.nilFunc] := tinfo_mk inf93 rfl
instance tz93 : TZero Try.prog 93 (.nilFunc) := tzero_mk inf93
instance und94 : TUnd Try.prog 94 (.func #[23] #[23] false) := ⟨Try.underlying94⟩
theorem inf94 : (Try.prog.info? 94).map (fun i => (i.zero, i.size, i.bytes)) = some (some (.nilFunc), 1, 8) := by kernel_rfl
instance ti94 : TInfo Try.prog 94 1 8 [.nilFunc] := tinfo_mk inf94 rfl
instance tz94 : TZero Try.prog 94 (.nilFunc) := tzero_mk inf94
instance und95 : TUnd Try.prog 95 (.func #[40] #[40] false) := ⟨Try.underlying95⟩
theorem inf95 : (Try.prog.info? 95).map (fun i => (i.zero, i.size, i.bytes)) = some (some (.nilFunc), 1, 8) := by kernel_rfl
instance ti95 : TInfo Try.prog 95 1 8 [.nilFunc] := tinfo_mk inf95 rfl
instance tz95 : TZero Try.prog 95 (.nilFunc) := tzero_mk inf95
instance und96 : TUnd Try.prog 96 (.func #[23, 3, 23] #[23] true) := ⟨Try.underlying96⟩
theorem inf96 : (Try.prog.info? 96).map (fun i => (i.zero, i.size, i.bytes)) = some (some (.nilFunc), 1, 8) := by kernel_rfl
instance ti96 : TInfo Try.prog 96 1 8 [.nilFunc] := tinfo_mk inf96 rfl
instance tz96 : TZero Try.prog 96 (.nilFunc) := tzero_mk inf96
instance und97 : TUnd Try.prog 97 (.func #[42, 42] #[4] false) := ⟨Try.underlying97⟩
theorem inf97 : (Try.prog.info? 97).map (fun i => (i.zero, i.size, i.bytes)) = some (some (.nilFunc), 1, 8) := by kernel_rfl
instance ti97 : TInfo Try.prog 97 1 8 [.nilFunc] := tinfo_mk inf97 rfl
instance tz97 : TZero Try.prog 97 (.nilFunc) := tzero_mk inf97
instance und98 : TUnd Try.prog 98 (.func #[71] #[4] false) := ⟨Try.underlying98⟩
theorem inf98 : (Try.prog.info? 98).map (fun i => (i.zero, i.size, i.bytes)) = some (some (.nilFunc), 1, 8) := by kernel_rfl
instance ti98 : TInfo Try.prog 98 1 8 [.nilFunc] := tinfo_mk inf98 rfl
instance tz98 : TZero Try.prog 98 (.nilFunc) := tzero_mk inf98
instance und99 : TUnd Try.prog 99 (.func #[30, 98] #[4] false) := ⟨Try.underlying99⟩
theorem inf99 : (Try.prog.info? 99).map (fun i => (i.zero, i.size, i.bytes)) = some (some (.nilFunc), 1, 8) := by kernel_rfl
instance ti99 : TInfo Try.prog 99 1 8 [.nilFunc] := tinfo_mk inf99 rfl
instance tz99 : TZero Try.prog 99 (.nilFunc) := tzero_mk inf99
instance und100 : TUnd Try.prog 100 (.func #[23, 36, 101] #[3, 4] false) := ⟨Try.underlying100⟩
theorem inf100 : (Try.prog.info? 100).map (fun i => (i.zero, i.size, i.bytes)) = some (some (.nilFunc), 1, 8) := by kernel_rfl
instance ti100 : TInfo Try.prog 100 1 8 [.nilFunc] := tinfo_mk inf100 rfl
instance tz100 : TZero Try.prog 100 (.nilFunc) := tzero_mk inf100
instance und101 : TUnd Try.prog 101 (.func #[65, 36] #[3] false) := ⟨Try.underlying101⟩
theorem inf101 : (Try.prog.info? 101).map (fun i => (i.zero, i.size, i.bytes)) = some (some (.nilFunc), 1, 8) := by kernel_rfl
instance ti101 : TInfo Try.prog 101 1 8 [.nilFunc] := tinfo_mk inf101 rfl
instance tz101 : TZero Try.prog 101 (.nilFunc) := tzero_mk inf101
instance und102 : TUnd Try.prog 102 (.func #[34] #[34] false) := ⟨Try.underlying102⟩
theorem inf102 : (Try.prog.info? 102).map (fun i => (i.zero, i.size, i.bytes)) = some (some (.nilFunc), 1, 8) := by kernel_rfl
instance ti102 : TInfo Try.prog 102 1 8 [.nilFunc] := tinfo_mk inf102 rfl
instance tz102 : TZero Try.prog 102 (.nilFunc) := tzero_mk inf102
instance und103 : TUnd Try.prog 103 (.func #[23, 3] #[] false) := ⟨Try.underlying103⟩
theorem inf103 : (Try.prog.info? 103).map (fun i => (i.zero, i.size, i.bytes)) = some (some (.nilFunc), 1, 8) := by kernel_rfl
instance ti103 : TInfo Try.prog 103 1 8 [.nilFunc] := tinfo_mk inf103 rfl
instance tz103 : TZero Try.prog 103 (.nilFunc) := tzero_mk inf103
instance und104 : TUnd Try.prog 104 (.func #[40, 40] #[4] false) := ⟨Try.underlying104⟩
theorem inf104 : (Try.prog.info? 104).map (fun i => (i.zero, i.size, i.bytes)) = some (some (.nilFunc), 1, 8) := by kernel_rfl
instance ti104 : TInfo Try.prog 104 1 8 [.nilFunc] := tinfo_mk inf104 rfl
instance tz104 : TZero Try.prog 104 (.nilFunc) := tzero_mk inf104
instance und105 : TUnd Try.prog 105 (.func #[30, 98] #[3] false) := ⟨Try.underlying105⟩
theorem inf105 : (Try.prog.info? 105).map (fun i => (i.zero, i.size, i.bytes)) = some (some (.nilFunc), 1, 8) := by kernel_rfl
instance ti105 : TInfo Try.prog 105 1 8 [.nilFunc] := tinfo_mk inf105 rfl
instance tz105 : TZero Try.prog 105 (.nilFunc) := tzero_mk inf105
instance und106 : TUnd Try.prog 106 (.int .u64) := ⟨Try.underlying106⟩
theorem inf106 : (Try.prog.info? 106).map (fun i => (i.zero, i.size, i.bytes)) = some (some (.int .u64 0), 1, 8) := by kernel_rfl
instance ti106 : TInfo Try.prog 106 1 8 [.int .u64 0] := tinfo_mk inf106 rfl
instance tz106 : TZero Try.prog 106 (.int .u64 0) := tzero_mk inf106
instance und107 : TUnd Try.prog 107 (.func #[32, 32] #[4] false) := ⟨Try.underlying107⟩
theorem inf107 : (Try.prog.info? 107).map (fun i => (i.zero, i.size, i.bytes)) = some (some (.nilFunc), 1, 8) := by kernel_rfl
instance ti107 : TInfo Try.prog 107 1 8 [.nilFunc] := tinfo_mk inf107 rfl
instance tz107 : TZero Try.prog 107 (.nilFunc) := tzero_mk inf107
instance und108 : TUnd Try.prog 108 (.func #[38, 38] #[4] false) := ⟨Try.underlying108⟩
theorem inf108 : (Try.prog.info? 108).map (fun i => (i.zero, i.size, i.bytes)) = some (some (.nilFunc), 1, 8) := by kernel_rfl
instance ti108 : TInfo Try.prog 108 1 8 [.nilFunc] := tinfo_mk inf108 rfl
instance tz108 : TZero Try.prog 108 (.nilFunc) := tzero_mk inf108
instance und109 : TUnd Try.prog 109 (.func #[23] #[] false) := ⟨Try.underlying109⟩
theorem inf109 : (Try.prog.info? 109).map (fun i => (i.zero, i.size, i.bytes)) = some (some (.nilFunc), 1, 8) := by kernel_rfl
instance ti109 : TInfo Try.prog 109 1 8 [.nilFunc] := tinfo_mk inf109 rfl
instance tz109 : TZero Try.prog 109 (.nilFunc) := tzero_mk inf109
instance und110 : TUnd Try.prog 110 (.func #[30, 30] #[4] false) := ⟨Try.underlying110⟩
theorem inf110 : (Try.prog.info? 110).map (fun i => (i.zero, i.size, i.bytes)) = some (some (.nilFunc), 1, 8) := by kernel_rfl
instance ti110 : TInfo Try.prog 110 1 8 [.nilFunc] := tinfo_mk inf110 rfl
instance tz110 : TZero Try.prog 110 (.nilFunc) := tzero_mk inf110
instance und111 : TUnd Try.prog 111 (.func #[34, 34] #[4] false) := ⟨Try.underlying111⟩
theorem inf111 : (Try.prog.info? 111).map (fun i => (i.zero, i.size, i.bytes)) = some (some (.nilFunc), 1, 8) := by kernel_rfl
instance ti111 : TInfo Try.prog 111 1 8 [.nilFunc] := tinfo_mk inf111 rfl
instance tz111 : TZero Try.prog 111 (.nilFunc) := tzero_mk inf111
instance und112 : TUnd Try.prog 112 (.func #[71, 71] #[4] false) := ⟨Try.underlying112⟩
theorem inf112 : (Try.prog.info? 112).map (fun i => (i.zero, i.size, i.bytes)) = some (some (.nilFunc), 1, 8) := by kernel_rfl
instance ti112 : TInfo Try.prog 112 1 8 [.nilFunc] := tinfo_mk inf112 rfl
instance tz112 : TZero Try.prog 112 (.nilFunc) := tzero_mk inf112
instance und113 : TUnd Try.prog 113 (.func #[] #[9] false) := ⟨Try.underlying113⟩
theorem inf113 : (Try.prog.info? 113).map (fun i => (i.zero, i.size, i.bytes)) = some (some (.nilFunc), 1, 8) := by kernel_rfl
instance ti113 : TInfo Try.prog 113 1 8 [.nilFunc] := tinfo_mk inf113 rfl
instance tz113 : TZero Try.prog 113 (.nilFunc) := tzero_mk inf113
instance und116 : TUnd Try.prog 116 (.array 0 16) := ⟨Try.underlying116⟩
theorem inf116 : (Try.prog.info? 116).map (fun i => (i.zero, i.size, i.bytes)) = some (some (.agg #[]), 0, 0) := by kernel_rfl
instance ti116 : TInfo Try.prog 116 0 0 [] := tinfo_mk inf116 rfl
instance tz116 : TZero Try.prog 116 (.agg #[]) := tzero_mk inf116
instance und119 : TUnd Try.prog 119 (.func #[] #[3] false) := ⟨Try.underlying119⟩
theorem inf119 : (Try.prog.info? 119).map (fun i => (i.zero, i.size, i.bytes)) = some (some (.nilFunc), 1, 8) := by kernel_rfl
instance ti119 : TInfo Try.prog 119 1 8 [.nilFunc] := tinfo_mk inf119 rfl
instance tz119 : TZero Try.prog 119 (.nilFunc) := tzero_mk inf119
instance und120 : TUnd Try.prog 120 (.int .u32) := ⟨Try.underlying120⟩
theorem inf120 : (Try.prog.info? 120).map (fun i => (i.zero, i.size, i.bytes)) = some (some (.int .u32 0), 1, 4) := by kernel_rfl
instance ti120 : TInfo Try.prog 120 1 4 [.int .u32 0] := tinfo_mk inf120 rfl
instance tz120 : TZero Try.prog 120 (.int .u32 0) := tzero_mk inf120
instance und123 : TUnd Try.prog 123 (.func #[129, 129] #[4] false) := ⟨Try.underlying123⟩
theorem inf123 : (Try.prog.info? 123).map (fun i => (i.zero, i.size, i.bytes)) = some (some (.nilFunc), 1, 8) := by kernel_rfl
instance ti123 : TInfo Try.prog 123 1 8 [.nilFunc] := tinfo_mk inf123 rfl
instance tz123 : TZero Try.prog 123 (.nilFunc) := tzero_mk inf123
instance und124 : TUnd Try.prog 124 (.pointer 5) := ⟨Try.underlying124⟩
theorem inf124 : (Try.prog.info? 124).map (fun i => (i.zero, i.size, i.bytes)) = some (some (.pointer none), 1, 8) := by kernel_rfl
instance ti124 : TInfo Try.prog 124 1 8 [.pointer none] := tinfo_mk inf124 rfl
instance tz124 : TZero Try.prog 124 (.pointer none) := tzero_mk inf124
instance und127 : TUnd Try.prog 127 (.struct #[⟨ "Size_", 12, 0, false, "", "", 0⟩, ⟨ "PtrBytes", 12, 1, false, "", "", 8⟩, ⟨ "Hash", 120, 2, false, "", "", 16⟩, ⟨ "TFlag", 121, 3, false, "", "", 20⟩, ⟨ "Align_", 5, 4, false, "", "", 21⟩, ⟨ "FieldAlign_", 5, 5, false, "", "", 22⟩, ⟨ "Kind_", 122, 6, false, "", "", 23⟩, ⟨ "Equal", 123, 7, false, "", "", 24⟩, ⟨ "GCData", 124, 8, false, "", "", 32⟩, ⟨ "Str", 125, 9, false, "", "", 40⟩, ⟨ "PtrToThis", 126, 10, false, "", "", 44⟩]) := ⟨Try.underlying127⟩
theorem inf127 : (Try.prog.info? 127).map (fun i => (i.zero, i.size, i.bytes)) = some (some (.agg #[.int .u64 0, .int .u64 0, .int .u32 0, .int .u8 0, .int .u8 0, .int .u8 0, .int .u8 0, .nilFunc, .pointer none, .int .i32 0, .int .i32 0]), 11, 48) := by kernel_rfl
instance ti127 : TInfo Try.prog 127 11 48 [.int .u64 0, .int .u64 0, .int .u32 0, .int .u8 0, .int .u8 0, .int .u8 0, .int .u8 0, .nilFunc, .pointer none, .int .i32 0, .int .i32 0] := tinfo_mk inf127 rfl
instance tz127 : TZero Try.prog 127 (.agg #[.int .u64 0, .int .u64 0, .int .u32 0, .int .u8 0, .int .u8 0, .int .u8 0, .int .u8 0, .nilFunc, .pointer none, .int .i32 0, .int .i32 0]) := tzero_mk inf127
instance tf127_0 : TField Try.prog 127 0 0 := tfield_mk Try.underlying127 rfl rfl (by kernel_rfl)
instance tp127_0 : TPart Try.prog 127 0 0 1 false := tpart_mk Try.underlying127 rfl rfl (by kernel_rfl) Try.underlying12 rfl
instance tf127_1 : TField Try.prog 127 1 1 := tfield_mk Try.underlying127 rfl rfl (by kernel_rfl)
instance tp127_1 : TPart Try.prog 127 1 1 1 false := tpart_mk Try.underlying127 rfl rfl (by kernel_rfl) Try.underlying12 rfl
instance tf127_2 : TField Try.prog 127 2 2 := tfield_mk Try.underlying127 rfl rfl (by kernel_rfl)
instance tp127_2 : TPart Try.prog 127 2 2 1 false := tpart_mk Try.underlying127 rfl rfl (by kernel_rfl) Try.underlying120 rfl
instance tf127_3 : TField Try.prog 127 3 3 := tfield_mk Try.underlying127 rfl rfl (by kernel_rfl)
instance tp127_3 : TPart Try.prog 127 3 3 1 false := tpart_mk Try.underlying127 rfl rfl (by kernel_rfl) Try.underlying121 rfl
instance tf127_4 : TField Try.prog 127 4 4 := tfield_mk Try.underlying127 rfl rfl (by kernel_rfl)
instance tp127_4 : TPart Try.prog 127 4 4 1 false := tpart_mk Try.underlying127 rfl rfl (by kernel_rfl) Try.underlying5 rfl
instance tf127_5 : TField Try.prog 127 5 5 := tfield_mk Try.underlying127 rfl rfl (by kernel_rfl)
instance tp127_5 : TPart Try.prog 127 5 5 1 false := tpart_mk Try.underlying127 rfl rfl (by kernel_rfl) Try.underlying5 rfl
instance tf127_6 : TField Try.prog 127 6 6 := tfield_mk Try.underlying127 rfl rfl (by kernel_rfl)
instance tp127_6 : TPart Try.prog 127 6 6 1 false := tpart_mk Try.underlying127 rfl rfl (by kernel_rfl) Try.underlying122 rfl
instance tf127_7 : TField Try.prog 127 7 7 := tfield_mk Try.underlying127 rfl rfl (by kernel_rfl)
instance tp127_7 : TPart Try.prog 127 7 7 1 false := tpart_mk Try.underlying127 rfl rfl (by kernel_rfl) Try.underlying123 rfl
instance tf127_8 : TField Try.prog 127 8 8 := tfield_mk Try.underlying127 rfl rfl (by kernel_rfl)
instance tp127_8 : TPart Try.prog 127 8 8 1 false := tpart_mk Try.underlying127 rfl rfl (by kernel_rfl) Try.underlying124 rfl
instance tf127_9 : TField Try.prog 127 9 9 := tfield_mk Try.underlying127 rfl rfl (by kernel_rfl)
instance tp127_9 : TPart Try.prog 127 9 9 1 false := tpart_mk Try.underlying127 rfl rfl (by kernel_rfl) Try.underlying125 rfl
instance tf127_10 : TField Try.prog 127 10 10 := tfield_mk Try.underlying127 rfl rfl (by kernel_rfl)
instance tp127_10 : TPart Try.prog 127 10 10 1 false := tpart_mk Try.underlying127 rfl rfl (by kernel_rfl) Try.underlying126 rfl
instance tpl127 : TPlaces Try.prog 127 [(0, 1), (1, 1), (2, 1), (3, 1), (4, 1), (5, 1), (6, 1), (7, 1), (8, 1), (9, 1), (10, 1)] := tplaces_mk Try.underlying127 (by kernel_rfl) (by kernel_rfl)
instance tfl35 : TFlat Try.prog 35 [.s, .i .i64] := tflat_struct Try.underlying35 ⟨by decide, rfl, Try.underlying9, by decide, rfl, Try.underlying3, trivial⟩ (by kernel_rfl) (by kernel_rfl)
instance tfl36 : TFlat Try.prog 36 [.s, .i .i64] := tflat_struct Try.underlying36 ⟨by decide, rfl, Try.underlying9, by decide, rfl, Try.underlying3, trivial⟩ (by kernel_rfl) (by kernel_rfl)
instance fn3 : FnOk Try.prog 3 := ⟨⟨_, Try.func3, by kernel_rfl, by kernel_rfl⟩⟩
instance fn4 : FnOk Try.prog 4 := ⟨⟨_, Try.func4, by kernel_rfl, by kernel_rfl⟩⟩
instance fn5 : FnOk Try.prog 5 := ⟨⟨_, Try.func5, by kernel_rfl, by kernel_rfl⟩⟩
instance fn6 : FnOk Try.prog 6 := ⟨⟨_, Try.func6, by kernel_rfl, by kernel_rfl⟩⟩
instance fn7 : FnOk Try.prog 7 := ⟨⟨_, Try.func7, by kernel_rfl, by kernel_rfl⟩⟩
instance fn8 : FnOk Try.prog 8 := ⟨⟨_, Try.func8, by kernel_rfl, by kernel_rfl⟩⟩
instance fn9 : FnOk Try.prog 9 := ⟨⟨_, Try.func9, by kernel_rfl, by kernel_rfl⟩⟩
instance fn10 : FnOk Try.prog 10 := ⟨⟨_, Try.func10, by kernel_rfl, by kernel_rfl⟩⟩
instance fn11 : FnOk Try.prog 11 := ⟨⟨_, Try.func11, by kernel_rfl, by kernel_rfl⟩⟩
instance fn12 : FnOk Try.prog 12 := ⟨⟨_, Try.func12, by kernel_rfl, by kernel_rfl⟩⟩
instance fn13 : FnOk Try.prog 13 := ⟨⟨_, Try.func13, by kernel_rfl, by kernel_rfl⟩⟩
instance fn14 : FnOk Try.prog 14 := ⟨⟨_, Try.func14, by kernel_rfl, by kernel_rfl⟩⟩
instance fn15 : FnOk Try.prog 15 := ⟨⟨_, Try.func15, by kernel_rfl, by kernel_rfl⟩⟩
instance fn16 : FnOk Try.prog 16 := ⟨⟨_, Try.func16, by kernel_rfl, by kernel_rfl⟩⟩
instance fn17 : FnOk Try.prog 17 := ⟨⟨_, Try.func17, by kernel_rfl, by kernel_rfl⟩⟩
instance fn18 : FnOk Try.prog 18 := ⟨⟨_, Try.func18, by kernel_rfl, by kernel_rfl⟩⟩
instance fn19 : FnOk Try.prog 19 := ⟨⟨_, Try.func19, by kernel_rfl, by kernel_rfl⟩⟩
instance fn20 : FnOk Try.prog 20 := ⟨⟨_, Try.func20, by kernel_rfl, by kernel_rfl⟩⟩
instance fn21 : FnOk Try.prog 21 := ⟨⟨_, Try.func21, by kernel_rfl, by kernel_rfl⟩⟩
instance fn22 : FnOk Try.prog 22 := ⟨⟨_, Try.func22, by kernel_rfl, by kernel_rfl⟩⟩
instance fn23 : FnOk Try.prog 23 := ⟨⟨_, Try.func23, by kernel_rfl, by kernel_rfl⟩⟩
instance fn24 : FnOk Try.prog 24 := ⟨⟨_, Try.func24, by kernel_rfl, by kernel_rfl⟩⟩
instance fn25 : FnOk Try.prog 25 := ⟨⟨_, Try.func25, by kernel_rfl, by kernel_rfl⟩⟩
instance fn26 : FnOk Try.prog 26 := ⟨⟨_, Try.func26, by kernel_rfl, by kernel_rfl⟩⟩
instance fn27 : FnOk Try.prog 27 := ⟨⟨_, Try.func27, by kernel_rfl, by kernel_rfl⟩⟩
instance fn28 : FnOk Try.prog 28 := ⟨⟨_, Try.func28, by kernel_rfl, by kernel_rfl⟩⟩
instance fn29 : FnOk Try.prog 29 := ⟨⟨_, Try.func29, by kernel_rfl, by kernel_rfl⟩⟩
instance fn30 : FnOk Try.prog 30 := ⟨⟨_, Try.func30, by kernel_rfl, by kernel_rfl⟩⟩
instance fn31 : FnOk Try.prog 31 := ⟨⟨_, Try.func31, by kernel_rfl, by kernel_rfl⟩⟩
instance fn32 : FnOk Try.prog 32 := ⟨⟨_, Try.func32, by kernel_rfl, by kernel_rfl⟩⟩
instance fn33 : FnOk Try.prog 33 := ⟨⟨_, Try.func33, by kernel_rfl, by kernel_rfl⟩⟩
instance fn34 : FnOk Try.prog 34 := ⟨⟨_, Try.func34, by kernel_rfl, by kernel_rfl⟩⟩
instance fn35 : FnOk Try.prog 35 := ⟨⟨_, Try.func35, by kernel_rfl, by kernel_rfl⟩⟩
instance fn36 : FnOk Try.prog 36 := ⟨⟨_, Try.func36, by kernel_rfl, by kernel_rfl⟩⟩
instance fn37 : FnOk Try.prog 37 := ⟨⟨_, Try.func37, by kernel_rfl, by kernel_rfl⟩⟩
instance fn38 : FnOk Try.prog 38 := ⟨⟨_, Try.func38, by kernel_rfl, by kernel_rfl⟩⟩
instance fn39 : FnOk Try.prog 39 := ⟨⟨_, Try.func39, by kernel_rfl, by kernel_rfl⟩⟩
instance fn40 : FnOk Try.prog 40 := ⟨⟨_, Try.func40, by kernel_rfl, by kernel_rfl⟩⟩
instance fn41 : FnOk Try.prog 41 := ⟨⟨_, Try.func41, by kernel_rfl, by kernel_rfl⟩⟩
instance fn42 : FnOk Try.prog 42 := ⟨⟨_, Try.func42, by kernel_rfl, by kernel_rfl⟩⟩
instance fn43 : FnOk Try.prog 43 := ⟨⟨_, Try.func43, by kernel_rfl, by kernel_rfl⟩⟩
instance fn44 : FnOk Try.prog 44 := ⟨⟨_, Try.func44, by kernel_rfl, by kernel_rfl⟩⟩
instance fn45 : FnOk Try.prog 45 := ⟨⟨_, Try.func45, by kernel_rfl, by kernel_rfl⟩⟩
instance fn46 : FnOk Try.prog 46 := ⟨⟨_, Try.func46, by kernel_rfl, by kernel_rfl⟩⟩
instance fn47 : FnOk Try.prog 47 := ⟨⟨_, Try.func47, by kernel_rfl, by kernel_rfl⟩⟩
instance fn49 : FnOk Try.prog 49 := ⟨⟨_, Try.func49, by kernel_rfl, by kernel_rfl⟩⟩
instance fn50 : FnOk Try.prog 50 := ⟨⟨_, Try.func50, by kernel_rfl, by kernel_rfl⟩⟩
instance fn52 : FnOk Try.prog 52 := ⟨⟨_, Try.func52, by kernel_rfl, by kernel_rfl⟩⟩
instance fn53 : FnOk Try.prog 53 := ⟨⟨_, Try.func53, by kernel_rfl, by kernel_rfl⟩⟩
instance fn54 : FnOk Try.prog 54 := ⟨⟨_, Try.func54, by kernel_rfl, by kernel_rfl⟩⟩
instance fn55 : FnOk Try.prog 55 := ⟨⟨_, Try.func55, by kernel_rfl, by kernel_rfl⟩⟩
instance fn56 : FnOk Try.prog 56 := ⟨⟨_, Try.func56, by kernel_rfl, by kernel_rfl⟩⟩
instance fn57 : FnOk Try.prog 57 := ⟨⟨_, Try.func57, by kernel_rfl, by kernel_rfl⟩⟩
instance fn58 : FnOk Try.prog 58 := ⟨⟨_, Try.func58, by kernel_rfl, by kernel_rfl⟩⟩
instance fn59 : FnOk Try.prog 59 := ⟨⟨_, Try.func59, by kernel_rfl, by kernel_rfl⟩⟩

end Go.Proofs.Ytchfaeaagpemlaa
