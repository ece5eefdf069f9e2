/- The type facts and function facts of this seat, printed by a program of ours (gen_types.py) out of the translation; each is checked by the kernel. -/
import Derived.Test.YtffgecomdlnngaaEk
import Derived.Test.YtffgecomdlnngaaProg
import Derived.KernelRfl
set_option maxRecDepth 100000
namespace Go.Proofs.Ytffgecomdlnngaa
open Go Go.Eng

instance mixedOrders : Mixed Try.prog := ⟨by kernel_rfl⟩
instance und0 : TUnd Try.prog 0 (.tuple #[]) := ⟨Try.underlying0⟩
instance und1 : TUnd Try.prog 1 (.func #[] #[] false) := ⟨Try.underlying1⟩
theorem inf1 : (Try.prog.info? 1).map (fun i => (i.zero, i.size, i.bytes)) = some (some (.nilFunc), 1, 8) := by kernel_rfl
instance ti1 : TInfo Try.prog 1 1 8 [.nilFunc] := tinfo_mk inf1 rfl
instance tz1 : TZero Try.prog 1 (.nilFunc) := tzero_mk inf1
instance und2 : TUnd Try.prog 2 (.int .i64) := ⟨Try.underlying2⟩
theorem inf2 : (Try.prog.info? 2).map (fun i => (i.zero, i.size, i.bytes)) = some (some (.int .i64 0), 1, 8) := by kernel_rfl
instance ti2 : TInfo Try.prog 2 1 8 [.int .i64 0] := tinfo_mk inf2 rfl
instance tz2 : TZero Try.prog 2 (.int .i64 0) := tzero_mk inf2
instance und3 : TUnd Try.prog 3 (.int .i64) := ⟨Try.underlying3⟩
theorem inf3 : (Try.prog.info? 3).map (fun i => (i.zero, i.size, i.bytes)) = some (some (.int .i64 0), 1, 8) := by kernel_rfl
instance ti3 : TInfo Try.prog 3 1 8 [.int .i64 0] := tinfo_mk inf3 rfl
instance tz3 : TZero Try.prog 3 (.int .i64 0) := tzero_mk inf3
instance und4 : TUnd Try.prog 4 (.bool) := ⟨Try.underlying4⟩
theorem inf4 : (Try.prog.info? 4).map (fun i => (i.zero, i.size, i.bytes)) = some (some (.bool false), 1, 1) := by kernel_rfl
instance ti4 : TInfo Try.prog 4 1 1 [.bool false] := tinfo_mk inf4 rfl
instance tz4 : TZero Try.prog 4 (.bool false) := tzero_mk inf4
instance und5 : TUnd Try.prog 5 (.int .u8) := ⟨Try.underlying5⟩
theorem inf5 : (Try.prog.info? 5).map (fun i => (i.zero, i.size, i.bytes)) = some (some (.int .u8 0), 1, 1) := by kernel_rfl
instance ti5 : TInfo Try.prog 5 1 1 [.int .u8 0] := tinfo_mk inf5 rfl
instance tz5 : TZero Try.prog 5 (.int .u8 0) := tzero_mk inf5
instance und9 : TUnd Try.prog 9 (.string) := ⟨Try.underlying9⟩
theorem inf9 : (Try.prog.info? 9).map (fun i => (i.zero, i.size, i.bytes)) = some (some (.string ByteArray.empty), 1, 16) := by kernel_rfl
instance ti9 : TInfo Try.prog 9 1 16 [.string ByteArray.empty] := tinfo_mk inf9 rfl
instance tz9 : TZero Try.prog 9 (.string ByteArray.empty) := tzero_mk inf9
instance und12 : TUnd Try.prog 12 (.int .u64) := ⟨Try.underlying12⟩
theorem inf12 : (Try.prog.info? 12).map (fun i => (i.zero, i.size, i.bytes)) = some (some (.int .u64 0), 1, 8) := by kernel_rfl
instance ti12 : TInfo Try.prog 12 1 8 [.int .u64 0] := tinfo_mk inf12 rfl
instance tz12 : TZero Try.prog 12 (.int .u64 0) := tzero_mk inf12
instance und21 : TUnd Try.prog 21 (.int .i32) := ⟨Try.underlying21⟩
theorem inf21 : (Try.prog.info? 21).map (fun i => (i.zero, i.size, i.bytes)) = some (some (.int .i32 0), 1, 4) := by kernel_rfl
instance ti21 : TInfo Try.prog 21 1 4 [.int .i32 0] := tinfo_mk inf21 rfl
instance tz21 : TZero Try.prog 21 (.int .i32 0) := tzero_mk inf21
instance und22 : TUnd Try.prog 22 (.slice 29) := ⟨Try.underlying22⟩
theorem inf22 : (Try.prog.info? 22).map (fun i => (i.zero, i.size, i.bytes)) = some (some (.slice none 0 0), 1, 24) := by kernel_rfl
instance ti22 : TInfo Try.prog 22 1 24 [.slice none 0 0] := tinfo_mk inf22 rfl
instance tz22 : TZero Try.prog 22 (.slice none 0 0) := tzero_mk inf22
instance und23 : TUnd Try.prog 23 (.slice 59) := ⟨Try.underlying23⟩
theorem inf23 : (Try.prog.info? 23).map (fun i => (i.zero, i.size, i.bytes)) = some (some (.slice none 0 0), 1, 24) := by kernel_rfl
instance ti23 : TInfo Try.prog 23 1 24 [.slice none 0 0] := tinfo_mk inf23 rfl
instance tz23 : TZero Try.prog 23 (.slice none 0 0) := tzero_mk inf23
instance und24 : TUnd Try.prog 24 (.map 41 2) := ⟨Try.underlying24⟩
theorem inf24 : (Try.prog.info? 24).map (fun i => (i.zero, i.size, i.bytes)) = some (some (.map none), 1, 8) := by kernel_rfl
instance ti24 : TInfo Try.prog 24 1 8 [.map none] := tinfo_mk inf24 rfl
instance tz24 : TZero Try.prog 24 (.map none) := tzero_mk inf24
instance und25 : TUnd Try.prog 25 (.map 38 2) := ⟨Try.underlying25⟩
theorem inf25 : (Try.prog.info? 25).map (fun i => (i.zero, i.size, i.bytes)) = some (some (.map none), 1, 8) := by kernel_rfl
instance ti25 : TInfo Try.prog 25 1 8 [.map none] := tinfo_mk inf25 rfl
instance tz25 : TZero Try.prog 25 (.map none) := tzero_mk inf25
instance und26 : TUnd Try.prog 26 (.map 38 3) := ⟨Try.underlying26⟩
theorem inf26 : (Try.prog.info? 26).map (fun i => (i.zero, i.size, i.bytes)) = some (some (.map none), 1, 8) := by kernel_rfl
instance ti26 : TInfo Try.prog 26 1 8 [.map none] := tinfo_mk inf26 rfl
instance tz26 : TZero Try.prog 26 (.map none) := tzero_mk inf26
instance und27 : TUnd Try.prog 27 (.map 3 3) := ⟨Try.underlying27⟩
theorem inf27 : (Try.prog.info? 27).map (fun i => (i.zero, i.size, i.bytes)) = some (some (.map none), 1, 8) := by kernel_rfl
instance ti27 : TInfo Try.prog 27 1 8 [.map none] := tinfo_mk inf27 rfl
instance tz27 : TZero Try.prog 27 (.map none) := tzero_mk inf27
instance und28 : TUnd Try.prog 28 (.struct #[⟨ "Pid", 3, 0, false, "", "", 0⟩, ⟨ "Epoch", 3, 1, false, "", "", 8⟩, ⟨ "First", 3, 2, false, "", "", 16⟩, ⟨ "Count", 3, 3, false, "", "", 24⟩]) := ⟨Try.underlying28⟩
theorem inf28 : (Try.prog.info? 28).map (fun i => (i.zero, i.size, i.bytes)) = some (some (.agg #[.int .i64 0, .int .i64 0, .int .i64 0, .int .i64 0]), 4, 32) := by kernel_rfl
instance ti28 : TInfo Try.prog 28 4 32 [.int .i64 0, .int .i64 0, .int .i64 0, .int .i64 0] := tinfo_mk inf28 rfl
instance tz28 : TZero Try.prog 28 (.agg #[.int .i64 0, .int .i64 0, .int .i64 0, .int .i64 0]) := tzero_mk inf28
instance tf28_0 : TField Try.prog 28 0 0 := tfield_mk Try.underlying28 rfl rfl (by kernel_rfl)
instance tp28_0 : TPart Try.prog 28 0 0 1 false := tpart_mk Try.underlying28 rfl rfl (by kernel_rfl) Try.underlying3 rfl
instance tf28_1 : TField Try.prog 28 1 1 := tfield_mk Try.underlying28 rfl rfl (by kernel_rfl)
instance tp28_1 : TPart Try.prog 28 1 1 1 false := tpart_mk Try.underlying28 rfl rfl (by kernel_rfl) Try.underlying3 rfl
instance tf28_2 : TField Try.prog 28 2 2 := tfield_mk Try.underlying28 rfl rfl (by kernel_rfl)
instance tp28_2 : TPart Try.prog 28 2 2 1 false := tpart_mk Try.underlying28 rfl rfl (by kernel_rfl) Try.underlying3 rfl
instance tf28_3 : TField Try.prog 28 3 3 := tfield_mk Try.underlying28 rfl rfl (by kernel_rfl)
instance tp28_3 : TPart Try.prog 28 3 3 1 false := tpart_mk Try.underlying28 rfl rfl (by kernel_rfl) Try.underlying3 rfl
instance tpl28 : TPlaces Try.prog 28 [(0, 1), (1, 1), (2, 1), (3, 1)] := tplaces_mk Try.underlying28 (by kernel_rfl) (by kernel_rfl)
instance und29 : TUnd Try.prog 29 (.struct #[⟨ "Pid", 3, 0, false, "", "", 0⟩, ⟨ "Epoch", 3, 1, false, "", "", 8⟩, ⟨ "First", 3, 2, false, "", "", 16⟩, ⟨ "Count", 3, 3, false, "", "", 24⟩]) := ⟨Try.underlying29⟩
theorem inf29 : (Try.prog.info? 29).map (fun i => (i.zero, i.size, i.bytes)) = some (some (.agg #[.int .i64 0, .int .i64 0, .int .i64 0, .int .i64 0]), 4, 32) := by kernel_rfl
instance ti29 : TInfo Try.prog 29 4 32 [.int .i64 0, .int .i64 0, .int .i64 0, .int .i64 0] := tinfo_mk inf29 rfl
instance tz29 : TZero Try.prog 29 (.agg #[.int .i64 0, .int .i64 0, .int .i64 0, .int .i64 0]) := tzero_mk inf29
instance tf29_0 : TField Try.prog 29 0 0 := tfield_mk Try.underlying29 rfl rfl (by kernel_rfl)
instance tp29_0 : TPart Try.prog 29 0 0 1 false := tpart_mk Try.underlying29 rfl rfl (by kernel_rfl) Try.underlying3 rfl
instance tf29_1 : TField Try.prog 29 1 1 := tfield_mk Try.underlying29 rfl rfl (by kernel_rfl)
instance tp29_1 : TPart Try.prog 29 1 1 1 false := tpart_mk Try.underlying29 rfl rfl (by kernel_rfl) Try.underlying3 rfl
instance tf29_2 : TField Try.prog 29 2 2 := tfield_mk Try.underlying29 rfl rfl (by kernel_rfl)
instance tp29_2 : TPart Try.prog 29 2 2 1 false := tpart_mk Try.underlying29 rfl rfl (by kernel_rfl) Try.underlying3 rfl
instance tf29_3 : TField Try.prog 29 3 3 := tfield_mk Try.underlying29 rfl rfl (by kernel_rfl)
instance tp29_3 : TPart Try.prog 29 3 3 1 false := tpart_mk Try.underlying29 rfl rfl (by kernel_rfl) Try.underlying3 rfl
instance tpl29 : TPlaces Try.prog 29 [(0, 1), (1, 1), (2, 1), (3, 1)] := tplaces_mk Try.underlying29 (by kernel_rfl) (by kernel_rfl)
instance und30 : TUnd Try.prog 30 (.func #[3, 3] #[3] false) := ⟨Try.underlying30⟩
theorem inf30 : (Try.prog.info? 30).map (fun i => (i.zero, i.size, i.bytes)) = some (some (.nilFunc), 1, 8) := by kernel_rfl
instance ti30 : TInfo Try.prog 30 1 8 [.nilFunc] := tinfo_mk inf30 rfl
instance tz30 : TZero Try.prog 30 (.nilFunc) := tzero_mk inf30
instance und31 : TUnd Try.prog 31 (.slice 54) := ⟨Try.underlying31⟩
theorem inf31 : (Try.prog.info? 31).map (fun i => (i.zero, i.size, i.bytes)) = some (some (.slice none 0 0), 1, 24) := by kernel_rfl
instance ti31 : TInfo Try.prog 31 1 24 [.slice none 0 0] := tinfo_mk inf31 rfl
instance tz31 : TZero Try.prog 31 (.slice none 0 0) := tzero_mk inf31
instance und32 : TUnd Try.prog 32 (.struct #[⟨ "Pid", 2, 0, false, "", "", 0⟩, ⟨ "Epoch", 3, 1, false, "", "", 8⟩, ⟨ "First", 2, 2, false, "", "", 16⟩, ⟨ "Records", 31, 3, false, "", "", 24⟩]) := ⟨Try.underlying32⟩
theorem inf32 : (Try.prog.info? 32).map (fun i => (i.zero, i.size, i.bytes)) = some (some (.agg #[.int .i64 0, .int .i64 0, .int .i64 0, .slice none 0 0]), 4, 48) := by kernel_rfl
instance ti32 : TInfo Try.prog 32 4 48 [.int .i64 0, .int .i64 0, .int .i64 0, .slice none 0 0] := tinfo_mk inf32 rfl
instance tz32 : TZero Try.prog 32 (.agg #[.int .i64 0, .int .i64 0, .int .i64 0, .slice none 0 0]) := tzero_mk inf32
instance tf32_0 : TField Try.prog 32 0 0 := tfield_mk Try.underlying32 rfl rfl (by kernel_rfl)
instance tp32_0 : TPart Try.prog 32 0 0 1 false := tpart_mk Try.underlying32 rfl rfl (by kernel_rfl) Try.underlying2 rfl
instance tf32_1 : TField Try.prog 32 1 1 := tfield_mk Try.underlying32 rfl rfl (by kernel_rfl)
instance tp32_1 : TPart Try.prog 32 1 1 1 false := tpart_mk Try.underlying32 rfl rfl (by kernel_rfl) Try.underlying3 rfl
instance tf32_2 : TField Try.prog 32 2 2 := tfield_mk Try.underlying32 rfl rfl (by kernel_rfl)
instance tp32_2 : TPart Try.prog 32 2 2 1 false := tpart_mk Try.underlying32 rfl rfl (by kernel_rfl) Try.underlying2 rfl
instance tf32_3 : TField Try.prog 32 3 3 := tfield_mk Try.underlying32 rfl rfl (by kernel_rfl)
instance tp32_3 : TPart Try.prog 32 3 3 1 false := tpart_mk Try.underlying32 rfl rfl (by kernel_rfl) Try.underlying31 rfl
instance tpl32 : TPlaces Try.prog 32 [(0, 1), (1, 1), (2, 1), (3, 1)] := tplaces_mk Try.underlying32 (by kernel_rfl) (by kernel_rfl)
instance und33 : TUnd Try.prog 33 (.struct #[⟨ "Pid", 2, 0, false, "", "", 0⟩, ⟨ "Epoch", 3, 1, false, "", "", 8⟩, ⟨ "First", 2, 2, false, "", "", 16⟩, ⟨ "Records", 31, 3, false, "", "", 24⟩]) := ⟨Try.underlying33⟩
theorem inf33 : (Try.prog.info? 33).map (fun i => (i.zero, i.size, i.bytes)) = some (some (.agg #[.int .i64 0, .int .i64 0, .int .i64 0, .slice none 0 0]), 4, 48) := by kernel_rfl
instance ti33 : TInfo Try.prog 33 4 48 [.int .i64 0, .int .i64 0, .int .i64 0, .slice none 0 0] := tinfo_mk inf33 rfl
instance tz33 : TZero Try.prog 33 (.agg #[.int .i64 0, .int .i64 0, .int .i64 0, .slice none 0 0]) := tzero_mk inf33
instance tf33_0 : TField Try.prog 33 0 0 := tfield_mk Try.underlying33 rfl rfl (by kernel_rfl)
instance tp33_0 : TPart Try.prog 33 0 0 1 false := tpart_mk Try.underlying33 rfl rfl (by kernel_rfl) Try.underlying2 rfl
instance tf33_1 : TField Try.prog 33 1 1 := tfield_mk Try.underlying33 rfl rfl (by kernel_rfl)
instance tp33_1 : TPart Try.prog 33 1 1 1 false := tpart_mk Try.underlying33 rfl rfl (by kernel_rfl) Try.underlying3 rfl
instance tf33_2 : TField Try.prog 33 2 2 := tfield_mk Try.underlying33 rfl rfl (by kernel_rfl)
instance tp33_2 : TPart Try.prog 33 2 2 1 false := tpart_mk Try.underlying33 rfl rfl (by kernel_rfl) Try.underlying2 rfl
instance tf33_3 : TField Try.prog 33 3 3 := tfield_mk Try.underlying33 rfl rfl (by kernel_rfl)
instance tp33_3 : TPart Try.prog 33 3 3 1 false := tpart_mk Try.underlying33 rfl rfl (by kernel_rfl) Try.underlying31 rfl
instance tpl33 : TPlaces Try.prog 33 [(0, 1), (1, 1), (2, 1), (3, 1)] := tplaces_mk Try.underlying33 (by kernel_rfl) (by kernel_rfl)
instance und34 : TUnd Try.prog 34 (.func #[2, 3, 2, 3] #[33] false) := ⟨Try.underlying34⟩
theorem inf34 : (Try.prog.info? 34).map (fun i => (i.zero, i.size, i.bytes)) = some (some (.nilFunc), 1, 8) := by kernel_rfl
instance ti34 : TInfo Try.prog 34 1 8 [.nilFunc] := tinfo_mk inf34 rfl
instance tz34 : TZero Try.prog 34 (.nilFunc) := tzero_mk inf34
instance und35 : TUnd Try.prog 35 (.int .i64) := ⟨Try.underlying35⟩
theorem inf35 : (Try.prog.info? 35).map (fun i => (i.zero, i.size, i.bytes)) = some (some (.int .i64 0), 1, 8) := by kernel_rfl
instance ti35 : TInfo Try.prog 35 1 8 [.int .i64 0] := tinfo_mk inf35 rfl
instance tz35 : TZero Try.prog 35 (.int .i64 0) := tzero_mk inf35
instance und36 : TUnd Try.prog 36 (.tuple #[2, 4, 35]) := ⟨Try.underlying36⟩
instance und37 : TUnd Try.prog 37 (.func #[23, 33] #[2, 4, 35] false) := ⟨Try.underlying37⟩
theorem inf37 : (Try.prog.info? 37).map (fun i => (i.zero, i.size, i.bytes)) = some (some (.nilFunc), 1, 8) := by kernel_rfl
instance ti37 : TInfo Try.prog 37 1 8 [.nilFunc] := tinfo_mk inf37 rfl
instance tz37 : TZero Try.prog 37 (.nilFunc) := tzero_mk inf37
instance und38 : TUnd Try.prog 38 (.array 3 3) := ⟨Try.underlying38⟩
theorem inf38 : (Try.prog.info? 38).map (fun i => (i.zero, i.size, i.bytes)) = some (some (.agg #[.int .i64 0, .int .i64 0, .int .i64 0]), 3, 24) := by kernel_rfl
instance ti38 : TInfo Try.prog 38 3 24 [.int .i64 0, .int .i64 0, .int .i64 0] := tinfo_mk inf38 rfl
instance tz38 : TZero Try.prog 38 (.agg #[.int .i64 0, .int .i64 0, .int .i64 0]) := tzero_mk inf38
instance und39 : TUnd Try.prog 39 (.tuple #[3, 4]) := ⟨Try.underlying39⟩
instance und40 : TUnd Try.prog 40 (.tuple #[2, 4]) := ⟨Try.underlying40⟩
instance und41 : TUnd Try.prog 41 (.array 2 3) := ⟨Try.underlying41⟩
theorem inf41 : (Try.prog.info? 41).map (fun i => (i.zero, i.size, i.bytes)) = some (some (.agg #[.int .i64 0, .int .i64 0]), 2, 16) := by kernel_rfl
instance ti41 : TInfo Try.prog 41 2 16 [.int .i64 0, .int .i64 0] := tinfo_mk inf41 rfl
instance tz41 : TZero Try.prog 41 (.agg #[.int .i64 0, .int .i64 0]) := tzero_mk inf41
instance und42 : TUnd Try.prog 42 (.tuple #[23, 35]) := ⟨Try.underlying42⟩
instance und43 : TUnd Try.prog 43 (.func #[23, 33, 2] #[23, 35] false) := ⟨Try.underlying43⟩
theorem inf43 : (Try.prog.info? 43).map (fun i => (i.zero, i.size, i.bytes)) = some (some (.nilFunc), 1, 8) := by kernel_rfl
instance ti43 : TInfo Try.prog 43 1 8 [.nilFunc] := tinfo_mk inf43 rfl
instance tz43 : TZero Try.prog 43 (.nilFunc) := tzero_mk inf43
instance und44 : TUnd Try.prog 44 (.func #[23] #[4] false) := ⟨Try.underlying44⟩
theorem inf44 : (Try.prog.info? 44).map (fun i => (i.zero, i.size, i.bytes)) = some (some (.nilFunc), 1, 8) := by kernel_rfl
instance ti44 : TInfo Try.prog 44 1 8 [.nilFunc] := tinfo_mk inf44 rfl
instance tz44 : TZero Try.prog 44 (.nilFunc) := tzero_mk inf44
instance und45 : TUnd Try.prog 45 (.func #[] #[4] false) := ⟨Try.underlying45⟩
theorem inf45 : (Try.prog.info? 45).map (fun i => (i.zero, i.size, i.bytes)) = some (some (.nilFunc), 1, 8) := by kernel_rfl
instance ti45 : TInfo Try.prog 45 1 8 [.nilFunc] := tinfo_mk inf45 rfl
instance tz45 : TZero Try.prog 45 (.nilFunc) := tzero_mk inf45
instance und46 : TUnd Try.prog 46 (.func #[22] #[4] false) := ⟨Try.underlying46⟩
theorem inf46 : (Try.prog.info? 46).map (fun i => (i.zero, i.size, i.bytes)) = some (some (.nilFunc), 1, 8) := by kernel_rfl
instance ti46 : TInfo Try.prog 46 1 8 [.nilFunc] := tinfo_mk inf46 rfl
instance tz46 : TZero Try.prog 46 (.nilFunc) := tzero_mk inf46
instance und47 : TUnd Try.prog 47 (.slice 3) := ⟨Try.underlying47⟩
theorem inf47 : (Try.prog.info? 47).map (fun i => (i.zero, i.size, i.bytes)) = some (some (.slice none 0 0), 1, 24) := by kernel_rfl
instance ti47 : TInfo Try.prog 47 1 24 [.slice none 0 0] := tinfo_mk inf47 rfl
instance tz47 : TZero Try.prog 47 (.slice none 0 0) := tzero_mk inf47
instance und48 : TUnd Try.prog 48 (.slice 33) := ⟨Try.underlying48⟩
theorem inf48 : (Try.prog.info? 48).map (fun i => (i.zero, i.size, i.bytes)) = some (some (.slice none 0 0), 1, 24) := by kernel_rfl
instance ti48 : TInfo Try.prog 48 1 24 [.slice none 0 0] := tinfo_mk inf48 rfl
instance tz48 : TZero Try.prog 48 (.slice none 0 0) := tzero_mk inf48
instance und49 : TUnd Try.prog 49 (.slice 2) := ⟨Try.underlying49⟩
theorem inf49 : (Try.prog.info? 49).map (fun i => (i.zero, i.size, i.bytes)) = some (some (.slice none 0 0), 1, 24) := by kernel_rfl
instance ti49 : TInfo Try.prog 49 1 24 [.slice none 0 0] := tinfo_mk inf49 rfl
instance tz49 : TZero Try.prog 49 (.slice none 0 0) := tzero_mk inf49
instance und50 : TUnd Try.prog 50 (.func #[47, 2] #[4] false) := ⟨Try.underlying50⟩
theorem inf50 : (Try.prog.info? 50).map (fun i => (i.zero, i.size, i.bytes)) = some (some (.nilFunc), 1, 8) := by kernel_rfl
instance ti50 : TInfo Try.prog 50 1 8 [.nilFunc] := tinfo_mk inf50 rfl
instance tz50 : TZero Try.prog 50 (.nilFunc) := tzero_mk inf50
instance und51 : TUnd Try.prog 51 (.struct #[⟨ "One", 33, 0, false, "", "", 0⟩, ⟨ "Other", 33, 4, false, "", "", 48⟩]) := ⟨Try.underlying51⟩
theorem inf51 : (Try.prog.info? 51).map (fun i => (i.zero, i.size, i.bytes)) = some (some (.agg #[.int .i64 0, .int .i64 0, .int .i64 0, .slice none 0 0, .int .i64 0, .int .i64 0, .int .i64 0, .slice none 0 0]), 8, 96) := by kernel_rfl
instance ti51 : TInfo Try.prog 51 8 96 [.int .i64 0, .int .i64 0, .int .i64 0, .slice none 0 0, .int .i64 0, .int .i64 0, .int .i64 0, .slice none 0 0] := tinfo_mk inf51 rfl
instance tz51 : TZero Try.prog 51 (.agg #[.int .i64 0, .int .i64 0, .int .i64 0, .slice none 0 0, .int .i64 0, .int .i64 0, .int .i64 0, .slice none 0 0]) := tzero_mk inf51
instance tf51_0 : TField Try.prog 51 0 0 := tfield_mk Try.underlying51 rfl rfl (by kernel_rfl)
instance tp51_0 : TPart Try.prog 51 0 0 4 true := tpart_mk Try.underlying51 rfl rfl (by kernel_rfl) Try.underlying33 rfl
instance tf51_1 : TField Try.prog 51 1 4 := tfield_mk Try.underlying51 rfl rfl (by kernel_rfl)
instance tp51_1 : TPart Try.prog 51 1 4 4 true := tpart_mk Try.underlying51 rfl rfl (by kernel_rfl) Try.underlying33 rfl
instance tpl51 : TPlaces Try.prog 51 [(0, 4), (4, 4)] := tplaces_mk Try.underlying51 (by kernel_rfl) (by kernel_rfl)
instance und52 : TUnd Try.prog 52 (.struct #[⟨ "One", 33, 0, false, "", "", 0⟩, ⟨ "Other", 33, 4, false, "", "", 48⟩]) := ⟨Try.underlying52⟩
theorem inf52 : (Try.prog.info? 52).map (fun i => (i.zero, i.size, i.bytes)) = some (some (.agg #[.int .i64 0, .int .i64 0, .int .i64 0, .slice none 0 0, .int .i64 0, .int .i64 0, .int .i64 0, .slice none 0 0]), 8, 96) := by kernel_rfl
instance ti52 : TInfo Try.prog 52 8 96 [.int .i64 0, .int .i64 0, .int .i64 0, .slice none 0 0, .int .i64 0, .int .i64 0, .int .i64 0, .slice none 0 0] := tinfo_mk inf52 rfl
instance tz52 : TZero Try.prog 52 (.agg #[.int .i64 0, .int .i64 0, .int .i64 0, .slice none 0 0, .int .i64 0, .int .i64 0, .int .i64 0, .slice none 0 0]) := tzero_mk inf52
instance tf52_0 : TField Try.prog 52 0 0 := tfield_mk Try.underlying52 rfl rfl (by kernel_rfl)
instance tp52_0 : TPart Try.prog 52 0 0 4 true := tpart_mk Try.underlying52 rfl rfl (by kernel_rfl) Try.underlying33 rfl
instance tf52_1 : TField Try.prog 52 1 4 := tfield_mk Try.underlying52 rfl rfl (by kernel_rfl)
instance tp52_1 : TPart Try.prog 52 1 4 4 true := tpart_mk Try.underlying52 rfl rfl (by kernel_rfl) Try.underlying33 rfl
instance tpl52 : TPlaces Try.prog 52 [(0, 4), (4, 4)] := tplaces_mk Try.underlying52 (by kernel_rfl) (by kernel_rfl)
instance und53 : TUnd Try.prog 53 (.func #[23, 52, 2] #[4] false) := ⟨Try.underlying53⟩
theorem inf53 : (Try.prog.info? 53).map (fun i => (i.zero, i.size, i.bytes)) = some (some (.nilFunc), 1, 8) := by kernel_rfl
instance ti53 : TInfo Try.prog 53 1 8 [.nilFunc] := tinfo_mk inf53 rfl
instance tz53 : TZero Try.prog 53 (.nilFunc) := tzero_mk inf53
instance und54 : TUnd Try.prog 54 (.slice 5) := ⟨Try.underlying54⟩
theorem inf54 : (Try.prog.info? 54).map (fun i => (i.zero, i.size, i.bytes)) = some (some (.slice none 0 0), 1, 24) := by kernel_rfl
instance ti54 : TInfo Try.prog 54 1 24 [.slice none 0 0] := tinfo_mk inf54 rfl
instance tz54 : TZero Try.prog 54 (.slice none 0 0) := tzero_mk inf54
instance und55 : TUnd Try.prog 55 (.func #[33] #[4] false) := ⟨Try.underlying55⟩
theorem inf55 : (Try.prog.info? 55).map (fun i => (i.zero, i.size, i.bytes)) = some (some (.nilFunc), 1, 8) := by kernel_rfl
instance ti55 : TInfo Try.prog 55 1 8 [.nilFunc] := tinfo_mk inf55 rfl
instance tz55 : TZero Try.prog 55 (.nilFunc) := tzero_mk inf55
instance und56 : TUnd Try.prog 56 (.func #[23, 2] #[3, 4] false) := ⟨Try.underlying56⟩
theorem inf56 : (Try.prog.info? 56).map (fun i => (i.zero, i.size, i.bytes)) = some (some (.nilFunc), 1, 8) := by kernel_rfl
instance ti56 : TInfo Try.prog 56 1 8 [.nilFunc] := tinfo_mk inf56 rfl
instance tz56 : TZero Try.prog 56 (.nilFunc) := tzero_mk inf56
instance und57 : TUnd Try.prog 57 (.slice 61) := ⟨Try.underlying57⟩
theorem inf57 : (Try.prog.info? 57).map (fun i => (i.zero, i.size, i.bytes)) = some (some (.slice none 0 0), 1, 24) := by kernel_rfl
instance ti57 : TInfo Try.prog 57 1 24 [.slice none 0 0] := tinfo_mk inf57 rfl
instance tz57 : TZero Try.prog 57 (.slice none 0 0) := tzero_mk inf57
instance und58 : TUnd Try.prog 58 (.struct #[⟨ "Pid", 2, 0, false, "", "", 0⟩, ⟨ "Epoch", 3, 1, false, "", "", 8⟩, ⟨ "Next", 2, 2, false, "", "", 16⟩, ⟨ "Recent", 57, 3, false, "", "", 24⟩]) := ⟨Try.underlying58⟩
theorem inf58 : (Try.prog.info? 58).map (fun i => (i.zero, i.size, i.bytes)) = some (some (.agg #[.int .i64 0, .int .i64 0, .int .i64 0, .slice none 0 0]), 4, 48) := by kernel_rfl
instance ti58 : TInfo Try.prog 58 4 48 [.int .i64 0, .int .i64 0, .int .i64 0, .slice none 0 0] := tinfo_mk inf58 rfl
instance tz58 : TZero Try.prog 58 (.agg #[.int .i64 0, .int .i64 0, .int .i64 0, .slice none 0 0]) := tzero_mk inf58
instance tf58_0 : TField Try.prog 58 0 0 := tfield_mk Try.underlying58 rfl rfl (by kernel_rfl)
instance tp58_0 : TPart Try.prog 58 0 0 1 false := tpart_mk Try.underlying58 rfl rfl (by kernel_rfl) Try.underlying2 rfl
instance tf58_1 : TField Try.prog 58 1 1 := tfield_mk Try.underlying58 rfl rfl (by kernel_rfl)
instance tp58_1 : TPart Try.prog 58 1 1 1 false := tpart_mk Try.underlying58 rfl rfl (by kernel_rfl) Try.underlying3 rfl
instance tf58_2 : TField Try.prog 58 2 2 := tfield_mk Try.underlying58 rfl rfl (by kernel_rfl)
instance tp58_2 : TPart Try.prog 58 2 2 1 false := tpart_mk Try.underlying58 rfl rfl (by kernel_rfl) Try.underlying2 rfl
instance tf58_3 : TField Try.prog 58 3 3 := tfield_mk Try.underlying58 rfl rfl (by kernel_rfl)
instance tp58_3 : TPart Try.prog 58 3 3 1 false := tpart_mk Try.underlying58 rfl rfl (by kernel_rfl) Try.underlying57 rfl
instance tpl58 : TPlaces Try.prog 58 [(0, 1), (1, 1), (2, 1), (3, 1)] := tplaces_mk Try.underlying58 (by kernel_rfl) (by kernel_rfl)
instance und59 : TUnd Try.prog 59 (.struct #[⟨ "Pid", 2, 0, false, "", "", 0⟩, ⟨ "Epoch", 3, 1, false, "", "", 8⟩, ⟨ "Next", 2, 2, false, "", "", 16⟩, ⟨ "Recent", 57, 3, false, "", "", 24⟩]) := ⟨Try.underlying59⟩
theorem inf59 : (Try.prog.info? 59).map (fun i => (i.zero, i.size, i.bytes)) = some (some (.agg #[.int .i64 0, .int .i64 0, .int .i64 0, .slice none 0 0]), 4, 48) := by kernel_rfl
instance ti59 : TInfo Try.prog 59 4 48 [.int .i64 0, .int .i64 0, .int .i64 0, .slice none 0 0] := tinfo_mk inf59 rfl
instance tz59 : TZero Try.prog 59 (.agg #[.int .i64 0, .int .i64 0, .int .i64 0, .slice none 0 0]) := tzero_mk inf59
instance tf59_0 : TField Try.prog 59 0 0 := tfield_mk Try.underlying59 rfl rfl (by kernel_rfl)
instance tp59_0 : TPart Try.prog 59 0 0 1 false := tpart_mk Try.underlying59 rfl rfl (by kernel_rfl) Try.underlying2 rfl
instance tf59_1 : TField Try.prog 59 1 1 := tfield_mk Try.underlying59 rfl rfl (by kernel_rfl)
instance tp59_1 : TPart Try.prog 59 1 1 1 false := tpart_mk Try.underlying59 rfl rfl (by kernel_rfl) Try.underlying3 rfl
instance tf59_2 : TField Try.prog 59 2 2 := tfield_mk Try.underlying59 rfl rfl (by kernel_rfl)
instance tp59_2 : TPart Try.prog 59 2 2 1 false := tpart_mk Try.underlying59 rfl rfl (by kernel_rfl) Try.underlying2 rfl
instance tf59_3 : TField Try.prog 59 3 3 := tfield_mk Try.underlying59 rfl rfl (by kernel_rfl)
instance tp59_3 : TPart Try.prog 59 3 3 1 false := tpart_mk Try.underlying59 rfl rfl (by kernel_rfl) Try.underlying57 rfl
instance tpl59 : TPlaces Try.prog 59 [(0, 1), (1, 1), (2, 1), (3, 1)] := tplaces_mk Try.underlying59 (by kernel_rfl) (by kernel_rfl)
instance und60 : TUnd Try.prog 60 (.struct #[⟨ "First", 2, 0, false, "", "", 0⟩, ⟨ "Count", 3, 1, false, "", "", 8⟩, ⟨ "Offset", 2, 2, false, "", "", 16⟩]) := ⟨Try.underlying60⟩
theorem inf60 : (Try.prog.info? 60).map (fun i => (i.zero, i.size, i.bytes)) = some (some (.agg #[.int .i64 0, .int .i64 0, .int .i64 0]), 3, 24) := by kernel_rfl
instance ti60 : TInfo Try.prog 60 3 24 [.int .i64 0, .int .i64 0, .int .i64 0] := tinfo_mk inf60 rfl
instance tz60 : TZero Try.prog 60 (.agg #[.int .i64 0, .int .i64 0, .int .i64 0]) := tzero_mk inf60
instance tf60_0 : TField Try.prog 60 0 0 := tfield_mk Try.underlying60 rfl rfl (by kernel_rfl)
instance tp60_0 : TPart Try.prog 60 0 0 1 false := tpart_mk Try.underlying60 rfl rfl (by kernel_rfl) Try.underlying2 rfl
instance tf60_1 : TField Try.prog 60 1 1 := tfield_mk Try.underlying60 rfl rfl (by kernel_rfl)
instance tp60_1 : TPart Try.prog 60 1 1 1 false := tpart_mk Try.underlying60 rfl rfl (by kernel_rfl) Try.underlying3 rfl
instance tf60_2 : TField Try.prog 60 2 2 := tfield_mk Try.underlying60 rfl rfl (by kernel_rfl)
instance tp60_2 : TPart Try.prog 60 2 2 1 false := tpart_mk Try.underlying60 rfl rfl (by kernel_rfl) Try.underlying2 rfl
instance tpl60 : TPlaces Try.prog 60 [(0, 1), (1, 1), (2, 1)] := tplaces_mk Try.underlying60 (by kernel_rfl) (by kernel_rfl)
instance und61 : TUnd Try.prog 61 (.struct #[⟨ "First", 2, 0, false, "", "", 0⟩, ⟨ "Count", 3, 1, false, "", "", 8⟩, ⟨ "Offset", 2, 2, false, "", "", 16⟩]) := ⟨Try.underlying61⟩
theorem inf61 : (Try.prog.info? 61).map (fun i => (i.zero, i.size, i.bytes)) = some (some (.agg #[.int .i64 0, .int .i64 0, .int .i64 0]), 3, 24) := by kernel_rfl
instance ti61 : TInfo Try.prog 61 3 24 [.int .i64 0, .int .i64 0, .int .i64 0] := tinfo_mk inf61 rfl
instance tz61 : TZero Try.prog 61 (.agg #[.int .i64 0, .int .i64 0, .int .i64 0]) := tzero_mk inf61
instance tf61_0 : TField Try.prog 61 0 0 := tfield_mk Try.underlying61 rfl rfl (by kernel_rfl)
instance tp61_0 : TPart Try.prog 61 0 0 1 false := tpart_mk Try.underlying61 rfl rfl (by kernel_rfl) Try.underlying2 rfl
instance tf61_1 : TField Try.prog 61 1 1 := tfield_mk Try.underlying61 rfl rfl (by kernel_rfl)
instance tp61_1 : TPart Try.prog 61 1 1 1 false := tpart_mk Try.underlying61 rfl rfl (by kernel_rfl) Try.underlying3 rfl
instance tf61_2 : TField Try.prog 61 2 2 := tfield_mk Try.underlying61 rfl rfl (by kernel_rfl)
instance tp61_2 : TPart Try.prog 61 2 2 1 false := tpart_mk Try.underlying61 rfl rfl (by kernel_rfl) Try.underlying2 rfl
instance tpl61 : TPlaces Try.prog 61 [(0, 1), (1, 1), (2, 1)] := tplaces_mk Try.underlying61 (by kernel_rfl) (by kernel_rfl)
instance und62 : TUnd Try.prog 62 (.func #[61] #[4] false) := ⟨Try.underlying62⟩
theorem inf62 : (Try.prog.info? 62).map (fun i => (i.zero, i.size, i.bytes)) = some (some (.nilFunc), 1, 8) := by kernel_rfl
instance ti62 : TInfo Try.prog 62 1 8 [.nilFunc] := tinfo_mk inf62 rfl
instance tz62 : TZero Try.prog 62 (.nilFunc) := tzero_mk inf62
instance und63 : TUnd Try.prog 63 (.func #[57, 62] #[3] false) := ⟨Try.underlying63⟩
theorem inf63 : (Try.prog.info? 63).map (fun i => (i.zero, i.size, i.bytes)) = some (some (.nilFunc), 1, 8) := by kernel_rfl
instance ti63 : TInfo Try.prog 63 1 8 [.nilFunc] := tinfo_mk inf63 rfl
instance tz63 : TZero Try.prog 63 (.nilFunc) := tzero_mk inf63
instance und64 : TUnd Try.prog 64 (.func #[23] #[23] false) := ⟨Try.underlying64⟩
theorem inf64 : (Try.prog.info? 64).map (fun i => (i.zero, i.size, i.bytes)) = some (some (.nilFunc), 1, 8) := by kernel_rfl
instance ti64 : TInfo Try.prog 64 1 8 [.nilFunc] := tinfo_mk inf64 rfl
instance tz64 : TZero Try.prog 64 (.nilFunc) := tzero_mk inf64
instance und65 : TUnd Try.prog 65 (.func #[57] #[57] false) := ⟨Try.underlying65⟩
theorem inf65 : (Try.prog.info? 65).map (fun i => (i.zero, i.size, i.bytes)) = some (some (.nilFunc), 1, 8) := by kernel_rfl
instance ti65 : TInfo Try.prog 65 1 8 [.nilFunc] := tinfo_mk inf65 rfl
instance tz65 : TZero Try.prog 65 (.nilFunc) := tzero_mk inf65
instance und66 : TUnd Try.prog 66 (.func #[23, 3, 23] #[23] true) := ⟨Try.underlying66⟩
theorem inf66 : (Try.prog.info? 66).map (fun i => (i.zero, i.size, i.bytes)) = some (some (.nilFunc), 1, 8) := by kernel_rfl
instance ti66 : TInfo Try.prog 66 1 8 [.nilFunc] := tinfo_mk inf66 rfl
instance tz66 : TZero Try.prog 66 (.nilFunc) := tzero_mk inf66
instance und67 : TUnd Try.prog 67 (.pointer 59) := ⟨Try.underlying67⟩
theorem inf67 : (Try.prog.info? 67).map (fun i => (i.zero, i.size, i.bytes)) = some (some (.pointer none), 1, 8) := by kernel_rfl
instance ti67 : TInfo Try.prog 67 1 8 [.pointer none] := tinfo_mk inf67 rfl
instance tz67 : TZero Try.prog 67 (.pointer none) := tzero_mk inf67
instance und68 : TUnd Try.prog 68 (.func #[57, 3, 3] #[57] false) := ⟨Try.underlying68⟩
theorem inf68 : (Try.prog.info? 68).map (fun i => (i.zero, i.size, i.bytes)) = some (some (.nilFunc), 1, 8) := by kernel_rfl
instance ti68 : TInfo Try.prog 68 1 8 [.nilFunc] := tinfo_mk inf68 rfl
instance tz68 : TZero Try.prog 68 (.nilFunc) := tzero_mk inf68
instance und69 : TUnd Try.prog 69 (.func #[54] #[4] false) := ⟨Try.underlying69⟩
theorem inf69 : (Try.prog.info? 69).map (fun i => (i.zero, i.size, i.bytes)) = some (some (.nilFunc), 1, 8) := by kernel_rfl
instance ti69 : TInfo Try.prog 69 1 8 [.nilFunc] := tinfo_mk inf69 rfl
instance tz69 : TZero Try.prog 69 (.nilFunc) := tzero_mk inf69
instance und70 : TUnd Try.prog 70 (.func #[31, 69] #[4] false) := ⟨Try.underlying70⟩
theorem inf70 : (Try.prog.info? 70).map (fun i => (i.zero, i.size, i.bytes)) = some (some (.nilFunc), 1, 8) := by kernel_rfl
instance ti70 : TInfo Try.prog 70 1 8 [.nilFunc] := tinfo_mk inf70 rfl
instance tz70 : TZero Try.prog 70 (.nilFunc) := tzero_mk inf70
instance und71 : TUnd Try.prog 71 (.func #[23, 2, 72] #[3, 4] false) := ⟨Try.underlying71⟩
theorem inf71 : (Try.prog.info? 71).map (fun i => (i.zero, i.size, i.bytes)) = some (some (.nilFunc), 1, 8) := by kernel_rfl
instance ti71 : TInfo Try.prog 71 1 8 [.nilFunc] := tinfo_mk inf71 rfl
instance tz71 : TZero Try.prog 71 (.nilFunc) := tzero_mk inf71
instance und72 : TUnd Try.prog 72 (.func #[59, 2] #[3] false) := ⟨Try.underlying72⟩
theorem inf72 : (Try.prog.info? 72).map (fun i => (i.zero, i.size, i.bytes)) = some (some (.nilFunc), 1, 8) := by kernel_rfl
instance ti72 : TInfo Try.prog 72 1 8 [.nilFunc] := tinfo_mk inf72 rfl
instance tz72 : TZero Try.prog 72 (.nilFunc) := tzero_mk inf72
instance und73 : TUnd Try.prog 73 (.func #[23, 23] #[4] false) := ⟨Try.underlying73⟩
theorem inf73 : (Try.prog.info? 73).map (fun i => (i.zero, i.size, i.bytes)) = some (some (.nilFunc), 1, 8) := by kernel_rfl
instance ti73 : TInfo Try.prog 73 1 8 [.nilFunc] := tinfo_mk inf73 rfl
instance tz73 : TZero Try.prog 73 (.nilFunc) := tzero_mk inf73
instance und74 : TUnd Try.prog 74 (.func #[23, 3] #[] false) := ⟨Try.underlying74⟩
theorem inf74 : (Try.prog.info? 74).map (fun i => (i.zero, i.size, i.bytes)) = some (some (.nilFunc), 1, 8) := by kernel_rfl
instance ti74 : TInfo Try.prog 74 1 8 [.nilFunc] := tinfo_mk inf74 rfl
instance tz74 : TZero Try.prog 74 (.nilFunc) := tzero_mk inf74
instance und75 : TUnd Try.prog 75 (.func #[31, 69] #[3] false) := ⟨Try.underlying75⟩
theorem inf75 : (Try.prog.info? 75).map (fun i => (i.zero, i.size, i.bytes)) = some (some (.nilFunc), 1, 8) := by kernel_rfl
instance ti75 : TInfo Try.prog 75 1 8 [.nilFunc] := tinfo_mk inf75 rfl
instance tz75 : TZero Try.prog 75 (.nilFunc) := tzero_mk inf75
instance und76 : TUnd Try.prog 76 (.int .u64) := ⟨Try.underlying76⟩
theorem inf76 : (Try.prog.info? 76).map (fun i => (i.zero, i.size, i.bytes)) = some (some (.int .u64 0), 1, 8) := by kernel_rfl
instance ti76 : TInfo Try.prog 76 1 8 [.int .u64 0] := tinfo_mk inf76 rfl
instance tz76 : TZero Try.prog 76 (.int .u64 0) := tzero_mk inf76
instance und77 : TUnd Try.prog 77 (.func #[23] #[] false) := ⟨Try.underlying77⟩
theorem inf77 : (Try.prog.info? 77).map (fun i => (i.zero, i.size, i.bytes)) = some (some (.nilFunc), 1, 8) := by kernel_rfl
instance ti77 : TInfo Try.prog 77 1 8 [.nilFunc] := tinfo_mk inf77 rfl
instance tz77 : TZero Try.prog 77 (.nilFunc) := tzero_mk inf77
instance und78 : TUnd Try.prog 78 (.func #[] #[9] false) := ⟨Try.underlying78⟩
theorem inf78 : (Try.prog.info? 78).map (fun i => (i.zero, i.size, i.bytes)) = some (some (.nilFunc), 1, 8) := by kernel_rfl
instance ti78 : TInfo Try.prog 78 1 8 [.nilFunc] := tinfo_mk inf78 rfl
instance tz78 : TZero Try.prog 78 (.nilFunc) := tzero_mk inf78
instance und81 : TUnd Try.prog 81 (.array 0 16) := ⟨Try.underlying81⟩
theorem inf81 : (Try.prog.info? 81).map (fun i => (i.zero, i.size, i.bytes)) = some (some (.agg #[]), 0, 0) := by kernel_rfl
instance ti81 : TInfo Try.prog 81 0 0 [] := tinfo_mk inf81 rfl
instance tz81 : TZero Try.prog 81 (.agg #[]) := tzero_mk inf81
instance und84 : TUnd Try.prog 84 (.func #[] #[3] false) := ⟨Try.underlying84⟩
theorem inf84 : (Try.prog.info? 84).map (fun i => (i.zero, i.size, i.bytes)) = some (some (.nilFunc), 1, 8) := by kernel_rfl
instance ti84 : TInfo Try.prog 84 1 8 [.nilFunc] := tinfo_mk inf84 rfl
instance tz84 : TZero Try.prog 84 (.nilFunc) := tzero_mk inf84
instance und85 : TUnd Try.prog 85 (.int .u32) := ⟨Try.underlying85⟩
theorem inf85 : (Try.prog.info? 85).map (fun i => (i.zero, i.size, i.bytes)) = some (some (.int .u32 0), 1, 4) := by kernel_rfl
instance ti85 : TInfo Try.prog 85 1 4 [.int .u32 0] := tinfo_mk inf85 rfl
instance tz85 : TZero Try.prog 85 (.int .u32 0) := tzero_mk inf85
instance und88 : TUnd Try.prog 88 (.func #[94, 94] #[4] false) := ⟨Try.underlying88⟩
theorem inf88 : (Try.prog.info? 88).map (fun i => (i.zero, i.size, i.bytes)) = some (some (.nilFunc), 1, 8) := by kernel_rfl
instance ti88 : TInfo Try.prog 88 1 8 [.nilFunc] := tinfo_mk inf88 rfl
instance tz88 : TZero Try.prog 88 (.nilFunc) := tzero_mk inf88
instance und89 : TUnd Try.prog 89 (.pointer 5) := ⟨Try.underlying89⟩
theorem inf89 : (Try.prog.info? 89).map (fun i => (i.zero, i.size, i.bytes)) = some (some (.pointer none), 1, 8) := by kernel_rfl
instance ti89 : TInfo Try.prog 89 1 8 [.pointer none] := tinfo_mk inf89 rfl
instance tz89 : TZero Try.prog 89 (.pointer none) := tzero_mk inf89
instance und92 : TUnd Try.prog 92 (.struct #[⟨ "Size_", 12, 0, false, "", "", 0⟩, ⟨ "PtrBytes", 12, 1, false, "", "", 8⟩, ⟨ "Hash", 85, 2, false, "", "", 16⟩, ⟨ "TFlag", 86, 3, false, "", "", 20⟩, ⟨ "Align_", 5, 4, false, "", "", 21⟩, ⟨ "FieldAlign_", 5, 5, false, "", "", 22⟩, ⟨ "Kind_", 87, 6, false, "", "", 23⟩, ⟨ "Equal", 88, 7, false, "", "", 24⟩, ⟨ "GCData", 89, 8, false, "", "", 32⟩, ⟨ "Str", 90, 9, false, "", "", 40⟩, ⟨ "PtrToThis", 91, 10, false, "", "", 44⟩]) := ⟨Try.underlying92⟩
theorem inf92 : (Try.prog.info? 92).map (fun i => (i.zero, i.size, i.bytes)) = some (some (.agg #[.int .u64 0, .int .u64 0, .int .u32 0, .int .u8 0, .int .u8 0, .int .u8 0, .int .u8 0, .nilFunc, .pointer none, .int .i32 0, .int .i32 0]), 11, 48) := by kernel_rfl
instance ti92 : TInfo Try.prog 92 11 48 [.int .u64 0, .int .u64 0, .int .u32 0, .int .u8 0, .int .u8 0, .int .u8 0, .int .u8 0, .nilFunc, .pointer none, .int .i32 0, .int .i32 0] := tinfo_mk inf92 rfl
instance tz92 : TZero Try.prog 92 (.agg #[.int .u64 0, .int .u64 0, .int .u32 0, .int .u8 0, .int .u8 0, .int .u8 0, .int .u8 0, .nilFunc, .pointer none, .int .i32 0, .int .i32 0]) := tzero_mk inf92
instance tf92_0 : TField Try.prog 92 0 0 := tfield_mk Try.underlying92 rfl rfl (by kernel_rfl)
instance tp92_0 : TPart Try.prog 92 0 0 1 false := tpart_mk Try.underlying92 rfl rfl (by kernel_rfl) Try.underlying12 rfl
instance tf92_1 : TField Try.prog 92 1 1 := tfield_mk Try.underlying92 rfl rfl (by kernel_rfl)
instance tp92_1 : TPart Try.prog 92 1 1 1 false := tpart_mk Try.underlying92 rfl rfl (by kernel_rfl) Try.underlying12 rfl
instance tf92_2 : TField Try.prog 92 2 2 := tfield_mk Try.underlying92 rfl rfl (by kernel_rfl)
instance tp92_2 : TPart Try.prog 92 2 2 1 false := tpart_mk Try.underlying92 rfl rfl (by kernel_rfl) Try.underlying85 rfl
instance tf92_3 : TField Try.prog 92 3 3 := tfield_mk Try.underlying92 rfl rfl (by kernel_rfl)
instance tp92_3 : TPart Try.prog 92 3 3 1 false := tpart_mk Try.underlying92 rfl rfl (by kernel_rfl) Try.underlying86 rfl
instance tf92_4 : TField Try.prog 92 4 4 := tfield_mk Try.underlying92 rfl rfl (by kernel_rfl)
instance tp92_4 : TPart Try.prog 92 4 4 1 false := tpart_mk Try.underlying92 rfl rfl (by kernel_rfl) Try.underlying5 rfl
instance tf92_5 : TField Try.prog 92 5 5 := tfield_mk Try.underlying92 rfl rfl (by kernel_rfl)
instance tp92_5 : TPart Try.prog 92 5 5 1 false := tpart_mk Try.underlying92 rfl rfl (by kernel_rfl) Try.underlying5 rfl
instance tf92_6 : TField Try.prog 92 6 6 := tfield_mk Try.underlying92 rfl rfl (by kernel_rfl)
instance tp92_6 : TPart Try.prog 92 6 6 1 false := tpart_mk Try.underlying92 rfl rfl (by kernel_rfl) Try.underlying87 rfl
instance tf92_7 : TField Try.prog 92 7 7 := tfield_mk Try.underlying92 rfl rfl (by kernel_rfl)
instance tp92_7 : TPart Try.prog 92 7 7 1 false := tpart_mk Try.underlying92 rfl rfl (by kernel_rfl) Try.underlying88 rfl
instance tf92_8 : TField Try.prog 92 8 8 := tfield_mk Try.underlying92 rfl rfl (by kernel_rfl)
instance tp92_8 : TPart Try.prog 92 8 8 1 false := tpart_mk Try.underlying92 rfl rfl (by kernel_rfl) Try.underlying89 rfl
instance tf92_9 : TField Try.prog 92 9 9 := tfield_mk Try.underlying92 rfl rfl (by kernel_rfl)
instance tp92_9 : TPart Try.prog 92 9 9 1 false := tpart_mk Try.underlying92 rfl rfl (by kernel_rfl) Try.underlying90 rfl
instance tf92_10 : TField Try.prog 92 10 10 := tfield_mk Try.underlying92 rfl rfl (by kernel_rfl)
instance tp92_10 : TPart Try.prog 92 10 10 1 false := tpart_mk Try.underlying92 rfl rfl (by kernel_rfl) Try.underlying91 rfl
instance tpl92 : TPlaces Try.prog 92 [(0, 1), (1, 1), (2, 1), (3, 1), (4, 1), (5, 1), (6, 1), (7, 1), (8, 1), (9, 1), (10, 1)] := tplaces_mk Try.underlying92 (by kernel_rfl) (by kernel_rfl)
instance tfl28 : TFlat Try.prog 28 [.i .i64, .i .i64, .i .i64, .i .i64] := tflat_struct Try.underlying28 ⟨by decide, rfl, Try.underlying3, by decide, rfl, Try.underlying3, by decide, rfl, Try.underlying3, by decide, rfl, Try.underlying3, trivial⟩ (by kernel_rfl) (by kernel_rfl)
instance tfl29 : TFlat Try.prog 29 [.i .i64, .i .i64, .i .i64, .i .i64] := tflat_struct Try.underlying29 ⟨by decide, rfl, Try.underlying3, by decide, rfl, Try.underlying3, by decide, rfl, Try.underlying3, by decide, rfl, Try.underlying3, trivial⟩ (by kernel_rfl) (by kernel_rfl)
instance tfl38 : TFlat Try.prog 38 [.i .i64, .i .i64, .i .i64] := tflat_arr (k := .i .i64) (n := 3) Try.underlying38 Try.underlying3 (by kernel_rfl) (by kernel_rfl)
instance tfl41 : TFlat Try.prog 41 [.i .i64, .i .i64] := tflat_arr (k := .i .i64) (n := 2) Try.underlying41 Try.underlying3 (by kernel_rfl) (by kernel_rfl)
instance tfl60 : TFlat Try.prog 60 [.i .i64, .i .i64, .i .i64] := tflat_struct Try.underlying60 ⟨by decide, rfl, Try.underlying2, by decide, rfl, Try.underlying3, by decide, rfl, Try.underlying2, trivial⟩ (by kernel_rfl) (by kernel_rfl)
instance tfl61 : TFlat Try.prog 61 [.i .i64, .i .i64, .i .i64] := tflat_struct Try.underlying61 ⟨by decide, rfl, Try.underlying2, by decide, rfl, Try.underlying3, by decide, rfl, Try.underlying2, trivial⟩ (by kernel_rfl) (by kernel_rfl)
instance fn3 : FnOk Try.prog 3 := ⟨⟨_, Try.func3, by kernel_rfl, by kernel_rfl⟩⟩
instance fn4 : FnOk Try.prog 4 := ⟨⟨_, Try.func4, by kernel_rfl, by kernel_rfl⟩⟩
instance fn5 : FnOk Try.prog 5 := ⟨⟨_, Try.func5, by kernel_rfl, by kernel_rfl⟩⟩
instance fn6 : FnOk Try.prog 6 := ⟨⟨_, Try.func6, by kernel_rfl, by kernel_rfl⟩⟩
instance fn7 : FnOk Try.prog 7 := ⟨⟨_, Try.func7, by kernel_rfl, by kernel_rfl⟩⟩
instance fn8 : FnOk Try.prog 8 := ⟨⟨_, Try.func8, by kernel_rfl, by kernel_rfl⟩⟩
instance fn9 : FnOk Try.prog 9 := ⟨⟨_, Try.func9, by kernel_rfl, by kernel_rfl⟩⟩
instance fn10 : FnOk Try.prog 10 := ⟨⟨_, Try.func10, by kernel_rfl, by kernel_rfl⟩⟩
instance fn11 : FnOk Try.prog 11 := ⟨⟨_, Try.func11, by kernel_rfl, by kernel_rfl⟩⟩
instance fn12 : FnOk Try.prog 12 := ⟨⟨_, Try.func12, by kernel_rfl, by kernel_rfl⟩⟩
instance fn13 : FnOk Try.prog 13 := ⟨⟨_, Try.func13, by kernel_rfl, by kernel_rfl⟩⟩
instance fn14 : FnOk Try.prog 14 := ⟨⟨_, Try.func14, by kernel_rfl, by kernel_rfl⟩⟩
instance fn15 : FnOk Try.prog 15 := ⟨⟨_, Try.func15, by kernel_rfl, by kernel_rfl⟩⟩
instance fn16 : FnOk Try.prog 16 := ⟨⟨_, Try.func16, by kernel_rfl, by kernel_rfl⟩⟩
instance fn17 : FnOk Try.prog 17 := ⟨⟨_, Try.func17, by kernel_rfl, by kernel_rfl⟩⟩
instance fn18 : FnOk Try.prog 18 := ⟨⟨_, Try.func18, by kernel_rfl, by kernel_rfl⟩⟩
instance fn19 : FnOk Try.prog 19 := ⟨⟨_, Try.func19, by kernel_rfl, by kernel_rfl⟩⟩
instance fn20 : FnOk Try.prog 20 := ⟨⟨_, Try.func20, by kernel_rfl, by kernel_rfl⟩⟩
instance fn21 : FnOk Try.prog 21 := ⟨⟨_, Try.func21, by kernel_rfl, by kernel_rfl⟩⟩
instance fn22 : FnOk Try.prog 22 := ⟨⟨_, Try.func22, by kernel_rfl, by kernel_rfl⟩⟩
instance fn23 : FnOk Try.prog 23 := ⟨⟨_, Try.func23, by kernel_rfl, by kernel_rfl⟩⟩
instance fn25 : FnOk Try.prog 25 := ⟨⟨_, Try.func25, by kernel_rfl, by kernel_rfl⟩⟩
instance fn26 : FnOk Try.prog 26 := ⟨⟨_, Try.func26, by kernel_rfl, by kernel_rfl⟩⟩
instance fn27 : FnOk Try.prog 27 := ⟨⟨_, Try.func27, by kernel_rfl, by kernel_rfl⟩⟩
instance fn28 : FnOk Try.prog 28 := ⟨⟨_, Try.func28, by kernel_rfl, by kernel_rfl⟩⟩

end Go.Proofs.Ytffgecomdlnngaa
