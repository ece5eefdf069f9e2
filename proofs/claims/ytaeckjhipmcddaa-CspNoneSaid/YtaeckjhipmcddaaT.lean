/- The type facts and function facts of this seat, printed by a program of ours (gen_types.py) out of the translation; each is checked by the kernel. -/
import Derived.Test.YtaeckjhipmcddaaEk
import Derived.Test.YtaeckjhipmcddaaProg
import Derived.KernelRfl
set_option maxRecDepth 100000
namespace Go.Proofs.Ytaeckjhipmcddaa
open Go Go.Eng

instance mixedOrders : Mixed Try.prog := ⟨by kernel_rfl⟩
instance und0 : TUnd Try.prog 0 (.tuple #[]) := ⟨Try.underlying0⟩
instance und1 : TUnd Try.prog 1 (.func #[] #[] false) := ⟨Try.underlying1⟩
theorem inf1 : (Try.prog.info? 1).map (fun i => (i.zero, i.size, i.bytes)) = some (some (.nilFunc), 1, 8) := by kernel_rfl
instance ti1 : TInfo Try.prog 1 1 8 [.nilFunc] := tinfo_mk inf1 rfl
instance tz1 : TZero Try.prog 1 (.nilFunc) := tzero_mk inf1
instance und2 : TUnd Try.prog 2 (.int .i64) := ⟨Try.underlying2⟩
theorem inf2 : (Try.prog.info? 2).map (fun i => (i.zero, i.size, i.bytes)) = some (some (.int .i64 0), 1, 8) := by kernel_rfl
instance ti2 : TInfo Try.prog 2 1 8 [.int .i64 0] := tinfo_mk inf2 rfl
instance tz2 : TZero Try.prog 2 (.int .i64 0) := tzero_mk inf2
instance und3 : TUnd Try.prog 3 (.int .i64) := ⟨Try.underlying3⟩
theorem inf3 : (Try.prog.info? 3).map (fun i => (i.zero, i.size, i.bytes)) = some (some (.int .i64 0), 1, 8) := by kernel_rfl
instance ti3 : TInfo Try.prog 3 1 8 [.int .i64 0] := tinfo_mk inf3 rfl
instance tz3 : TZero Try.prog 3 (.int .i64 0) := tzero_mk inf3
instance und4 : TUnd Try.prog 4 (.bool) := ⟨Try.underlying4⟩
theorem inf4 : (Try.prog.info? 4).map (fun i => (i.zero, i.size, i.bytes)) = some (some (.bool false), 1, 1) := by kernel_rfl
instance ti4 : TInfo Try.prog 4 1 1 [.bool false] := tinfo_mk inf4 rfl
instance tz4 : TZero Try.prog 4 (.bool false) := tzero_mk inf4
instance und5 : TUnd Try.prog 5 (.int .u8) := ⟨Try.underlying5⟩
theorem inf5 : (Try.prog.info? 5).map (fun i => (i.zero, i.size, i.bytes)) = some (some (.int .u8 0), 1, 1) := by kernel_rfl
instance ti5 : TInfo Try.prog 5 1 1 [.int .u8 0] := tinfo_mk inf5 rfl
instance tz5 : TZero Try.prog 5 (.int .u8 0) := tzero_mk inf5
instance und9 : TUnd Try.prog 9 (.string) := ⟨Try.underlying9⟩
theorem inf9 : (Try.prog.info? 9).map (fun i => (i.zero, i.size, i.bytes)) = some (some (.string ByteArray.empty), 1, 16) := by kernel_rfl
instance ti9 : TInfo Try.prog 9 1 16 [.string ByteArray.empty] := tinfo_mk inf9 rfl
instance tz9 : TZero Try.prog 9 (.string ByteArray.empty) := tzero_mk inf9
instance und12 : TUnd Try.prog 12 (.int .u64) := ⟨Try.underlying12⟩
theorem inf12 : (Try.prog.info? 12).map (fun i => (i.zero, i.size, i.bytes)) = some (some (.int .u64 0), 1, 8) := by kernel_rfl
instance ti12 : TInfo Try.prog 12 1 8 [.int .u64 0] := tinfo_mk inf12 rfl
instance tz12 : TZero Try.prog 12 (.int .u64 0) := tzero_mk inf12
instance und21 : TUnd Try.prog 21 (.int .i32) := ⟨Try.underlying21⟩
theorem inf21 : (Try.prog.info? 21).map (fun i => (i.zero, i.size, i.bytes)) = some (some (.int .i32 0), 1, 4) := by kernel_rfl
instance ti21 : TInfo Try.prog 21 1 4 [.int .i32 0] := tinfo_mk inf21 rfl
instance tz21 : TZero Try.prog 21 (.int .i32 0) := tzero_mk inf21
instance und22 : TUnd Try.prog 22 (.slice 28) := ⟨Try.underlying22⟩
theorem inf22 : (Try.prog.info? 22).map (fun i => (i.zero, i.size, i.bytes)) = some (some (.slice none 0 0), 1, 24) := by kernel_rfl
instance ti22 : TInfo Try.prog 22 1 24 [.slice none 0 0] := tinfo_mk inf22 rfl
instance tz22 : TZero Try.prog 22 (.slice none 0 0) := tzero_mk inf22
instance und23 : TUnd Try.prog 23 (.pointer 45) := ⟨Try.underlying23⟩
theorem inf23 : (Try.prog.info? 23).map (fun i => (i.zero, i.size, i.bytes)) = some (some (.pointer none), 1, 8) := by kernel_rfl
instance ti23 : TInfo Try.prog 23 1 8 [.pointer none] := tinfo_mk inf23 rfl
instance tz23 : TZero Try.prog 23 (.pointer none) := tzero_mk inf23
instance und24 : TUnd Try.prog 24 (.func #[] #[23] false) := ⟨Try.underlying24⟩
theorem inf24 : (Try.prog.info? 24).map (fun i => (i.zero, i.size, i.bytes)) = some (some (.nilFunc), 1, 8) := by kernel_rfl
instance ti24 : TInfo Try.prog 24 1 8 [.nilFunc] := tinfo_mk inf24 rfl
instance tz24 : TZero Try.prog 24 (.nilFunc) := tzero_mk inf24
instance und25 : TUnd Try.prog 25 (.slice 3) := ⟨Try.underlying25⟩
theorem inf25 : (Try.prog.info? 25).map (fun i => (i.zero, i.size, i.bytes)) = some (some (.slice none 0 0), 1, 24) := by kernel_rfl
instance ti25 : TInfo Try.prog 25 1 24 [.slice none 0 0] := tinfo_mk inf25 rfl
instance tz25 : TZero Try.prog 25 (.slice none 0 0) := tzero_mk inf25
instance und26 : TUnd Try.prog 26 (.int .u64) := ⟨Try.underlying26⟩
theorem inf26 : (Try.prog.info? 26).map (fun i => (i.zero, i.size, i.bytes)) = some (some (.int .u64 0), 1, 8) := by kernel_rfl
instance ti26 : TInfo Try.prog 26 1 8 [.int .u64 0] := tinfo_mk inf26 rfl
instance tz26 : TZero Try.prog 26 (.int .u64 0) := tzero_mk inf26
instance und27 : TUnd Try.prog 27 (.struct #[⟨ "Kind", 3, 0, false, "", "", 0⟩, ⟨ "Id", 3, 1, false, "", "", 8⟩, ⟨ "P", 26, 2, false, "", "", 16⟩]) := ⟨Try.underlying27⟩
theorem inf27 : (Try.prog.info? 27).map (fun i => (i.zero, i.size, i.bytes)) = some (some (.agg #[.int .i64 0, .int .i64 0, .int .u64 0]), 3, 24) := by kernel_rfl
instance ti27 : TInfo Try.prog 27 3 24 [.int .i64 0, .int .i64 0, .int .u64 0] := tinfo_mk inf27 rfl
instance tz27 : TZero Try.prog 27 (.agg #[.int .i64 0, .int .i64 0, .int .u64 0]) := tzero_mk inf27
instance tf27_0 : TField Try.prog 27 0 0 := tfield_mk Try.underlying27 rfl rfl (by kernel_rfl)
instance tp27_0 : TPart Try.prog 27 0 0 1 false := tpart_mk Try.underlying27 rfl rfl (by kernel_rfl) Try.underlying3 rfl
instance tf27_1 : TField Try.prog 27 1 1 := tfield_mk Try.underlying27 rfl rfl (by kernel_rfl)
instance tp27_1 : TPart Try.prog 27 1 1 1 false := tpart_mk Try.underlying27 rfl rfl (by kernel_rfl) Try.underlying3 rfl
instance tf27_2 : TField Try.prog 27 2 2 := tfield_mk Try.underlying27 rfl rfl (by kernel_rfl)
instance tp27_2 : TPart Try.prog 27 2 2 1 false := tpart_mk Try.underlying27 rfl rfl (by kernel_rfl) Try.underlying26 rfl
instance tpl27 : TPlaces Try.prog 27 [(0, 1), (1, 1), (2, 1)] := tplaces_mk Try.underlying27 (by kernel_rfl) (by kernel_rfl)
instance und28 : TUnd Try.prog 28 (.struct #[⟨ "Kind", 3, 0, false, "", "", 0⟩, ⟨ "Id", 3, 1, false, "", "", 8⟩, ⟨ "P", 26, 2, false, "", "", 16⟩]) := ⟨Try.underlying28⟩
theorem inf28 : (Try.prog.info? 28).map (fun i => (i.zero, i.size, i.bytes)) = some (some (.agg #[.int .i64 0, .int .i64 0, .int .u64 0]), 3, 24) := by kernel_rfl
instance ti28 : TInfo Try.prog 28 3 24 [.int .i64 0, .int .i64 0, .int .u64 0] := tinfo_mk inf28 rfl
instance tz28 : TZero Try.prog 28 (.agg #[.int .i64 0, .int .i64 0, .int .u64 0]) := tzero_mk inf28
instance tf28_0 : TField Try.prog 28 0 0 := tfield_mk Try.underlying28 rfl rfl (by kernel_rfl)
instance tp28_0 : TPart Try.prog 28 0 0 1 false := tpart_mk Try.underlying28 rfl rfl (by kernel_rfl) Try.underlying3 rfl
instance tf28_1 : TField Try.prog 28 1 1 := tfield_mk Try.underlying28 rfl rfl (by kernel_rfl)
instance tp28_1 : TPart Try.prog 28 1 1 1 false := tpart_mk Try.underlying28 rfl rfl (by kernel_rfl) Try.underlying3 rfl
instance tf28_2 : TField Try.prog 28 2 2 := tfield_mk Try.underlying28 rfl rfl (by kernel_rfl)
instance tp28_2 : TPart Try.prog 28 2 2 1 false := tpart_mk Try.underlying28 rfl rfl (by kernel_rfl) Try.underlying26 rfl
instance tpl28 : TPlaces Try.prog 28 [(0, 1), (1, 1), (2, 1)] := tplaces_mk Try.underlying28 (by kernel_rfl) (by kernel_rfl)
instance und29 : TUnd Try.prog 29 (.int .i64) := ⟨Try.underlying29⟩
theorem inf29 : (Try.prog.info? 29).map (fun i => (i.zero, i.size, i.bytes)) = some (some (.int .i64 0), 1, 8) := by kernel_rfl
instance ti29 : TInfo Try.prog 29 1 8 [.int .i64 0] := tinfo_mk inf29 rfl
instance tz29 : TZero Try.prog 29 (.int .i64 0) := tzero_mk inf29
instance und30 : TUnd Try.prog 30 (.tuple #[25, 29]) := ⟨Try.underlying30⟩
instance und31 : TUnd Try.prog 31 (.func #[25, 3] #[25, 29] false) := ⟨Try.underlying31⟩
theorem inf31 : (Try.prog.info? 31).map (fun i => (i.zero, i.size, i.bytes)) = some (some (.nilFunc), 1, 8) := by kernel_rfl
instance ti31 : TInfo Try.prog 31 1 8 [.nilFunc] := tinfo_mk inf31 rfl
instance tz31 : TZero Try.prog 31 (.nilFunc) := tzero_mk inf31
instance und32 : TUnd Try.prog 32 (.func #[3] #[29] false) := ⟨Try.underlying32⟩
theorem inf32 : (Try.prog.info? 32).map (fun i => (i.zero, i.size, i.bytes)) = some (some (.nilFunc), 1, 8) := by kernel_rfl
instance ti32 : TInfo Try.prog 32 1 8 [.nilFunc] := tinfo_mk inf32 rfl
instance tz32 : TZero Try.prog 32 (.nilFunc) := tzero_mk inf32
instance und33 : TUnd Try.prog 33 (.tuple #[25, 3, 26, 4]) := ⟨Try.underlying33⟩
instance und34 : TUnd Try.prog 34 (.func #[25, 26] #[25, 3, 26, 4] false) := ⟨Try.underlying34⟩
theorem inf34 : (Try.prog.info? 34).map (fun i => (i.zero, i.size, i.bytes)) = some (some (.nilFunc), 1, 8) := by kernel_rfl
instance ti34 : TInfo Try.prog 34 1 8 [.nilFunc] := tinfo_mk inf34 rfl
instance tz34 : TZero Try.prog 34 (.nilFunc) := tzero_mk inf34
instance und35 : TUnd Try.prog 35 (.tuple #[3, 26, 4]) := ⟨Try.underlying35⟩
instance und36 : TUnd Try.prog 36 (.func #[26] #[3, 26, 4] false) := ⟨Try.underlying36⟩
theorem inf36 : (Try.prog.info? 36).map (fun i => (i.zero, i.size, i.bytes)) = some (some (.nilFunc), 1, 8) := by kernel_rfl
instance ti36 : TInfo Try.prog 36 1 8 [.nilFunc] := tinfo_mk inf36 rfl
instance tz36 : TZero Try.prog 36 (.nilFunc) := tzero_mk inf36
instance und37 : TUnd Try.prog 37 (.func #[25, 3] #[3] false) := ⟨Try.underlying37⟩
theorem inf37 : (Try.prog.info? 37).map (fun i => (i.zero, i.size, i.bytes)) = some (some (.nilFunc), 1, 8) := by kernel_rfl
instance ti37 : TInfo Try.prog 37 1 8 [.nilFunc] := tinfo_mk inf37 rfl
instance tz37 : TZero Try.prog 37 (.nilFunc) := tzero_mk inf37
instance und38 : TUnd Try.prog 38 (.func #[3] #[4] false) := ⟨Try.underlying38⟩
theorem inf38 : (Try.prog.info? 38).map (fun i => (i.zero, i.size, i.bytes)) = some (some (.nilFunc), 1, 8) := by kernel_rfl
instance ti38 : TInfo Try.prog 38 1 8 [.nilFunc] := tinfo_mk inf38 rfl
instance tz38 : TZero Try.prog 38 (.nilFunc) := tzero_mk inf38
instance und39 : TUnd Try.prog 39 (.func #[25, 3] #[25] false) := ⟨Try.underlying39⟩
theorem inf39 : (Try.prog.info? 39).map (fun i => (i.zero, i.size, i.bytes)) = some (some (.nilFunc), 1, 8) := by kernel_rfl
instance ti39 : TInfo Try.prog 39 1 8 [.nilFunc] := tinfo_mk inf39 rfl
instance tz39 : TZero Try.prog 39 (.nilFunc) := tzero_mk inf39
instance und40 : TUnd Try.prog 40 (.func #[] #[25] false) := ⟨Try.underlying40⟩
theorem inf40 : (Try.prog.info? 40).map (fun i => (i.zero, i.size, i.bytes)) = some (some (.nilFunc), 1, 8) := by kernel_rfl
instance ti40 : TInfo Try.prog 40 1 8 [.nilFunc] := tinfo_mk inf40 rfl
instance tz40 : TZero Try.prog 40 (.nilFunc) := tzero_mk inf40
instance und41 : TUnd Try.prog 41 (.func #[] #[3] false) := ⟨Try.underlying41⟩
theorem inf41 : (Try.prog.info? 41).map (fun i => (i.zero, i.size, i.bytes)) = some (some (.nilFunc), 1, 8) := by kernel_rfl
instance ti41 : TInfo Try.prog 41 1 8 [.nilFunc] := tinfo_mk inf41 rfl
instance tz41 : TZero Try.prog 41 (.nilFunc) := tzero_mk inf41
instance und42 : TUnd Try.prog 42 (.func #[25, 25] #[4] false) := ⟨Try.underlying42⟩
theorem inf42 : (Try.prog.info? 42).map (fun i => (i.zero, i.size, i.bytes)) = some (some (.nilFunc), 1, 8) := by kernel_rfl
instance ti42 : TInfo Try.prog 42 1 8 [.nilFunc] := tinfo_mk inf42 rfl
instance tz42 : TZero Try.prog 42 (.nilFunc) := tzero_mk inf42
instance und43 : TUnd Try.prog 43 (.pointer 101) := ⟨Try.underlying43⟩
theorem inf43 : (Try.prog.info? 43).map (fun i => (i.zero, i.size, i.bytes)) = some (some (.pointer none), 1, 8) := by kernel_rfl
instance ti43 : TInfo Try.prog 43 1 8 [.pointer none] := tinfo_mk inf43 rfl
instance tz43 : TZero Try.prog 43 (.pointer none) := tzero_mk inf43
instance und44 : TUnd Try.prog 44 (.struct #[⟨ "line", 43, 0, true, "", "conduit/sched", 0⟩]) := ⟨Try.underlying44⟩
theorem inf44 : (Try.prog.info? 44).map (fun i => (i.zero, i.size, i.bytes)) = some (some (.agg #[.pointer none]), 1, 8) := by kernel_rfl
instance ti44 : TInfo Try.prog 44 1 8 [.pointer none] := tinfo_mk inf44 rfl
instance tz44 : TZero Try.prog 44 (.agg #[.pointer none]) := tzero_mk inf44
instance tf44_0 : TField Try.prog 44 0 0 := tfield_mk Try.underlying44 rfl rfl (by kernel_rfl)
instance tp44_0 : TPart Try.prog 44 0 0 1 false := tpart_mk Try.underlying44 rfl rfl (by kernel_rfl) Try.underlying43 rfl
instance tpl44 : TPlaces Try.prog 44 [(0, 1)] := tplaces_mk Try.underlying44 (by kernel_rfl) (by kernel_rfl)
instance und45 : TUnd Try.prog 45 (.struct #[⟨ "line", 43, 0, true, "", "conduit/sched", 0⟩]) := ⟨Try.underlying45⟩
theorem inf45 : (Try.prog.info? 45).map (fun i => (i.zero, i.size, i.bytes)) = some (some (.agg #[.pointer none]), 1, 8) := by kernel_rfl
instance ti45 : TInfo Try.prog 45 1 8 [.pointer none] := tinfo_mk inf45 rfl
instance tz45 : TZero Try.prog 45 (.agg #[.pointer none]) := tzero_mk inf45
instance tf45_0 : TField Try.prog 45 0 0 := tfield_mk Try.underlying45 rfl rfl (by kernel_rfl)
instance tp45_0 : TPart Try.prog 45 0 0 1 false := tpart_mk Try.underlying45 rfl rfl (by kernel_rfl) Try.underlying43 rfl
instance tpl45 : TPlaces Try.prog 45 [(0, 1)] := tplaces_mk Try.underlying45 (by kernel_rfl) (by kernel_rfl)
instance und46 : TUnd Try.prog 46 (.func #[] #[4] false) := ⟨Try.underlying46⟩
theorem inf46 : (Try.prog.info? 46).map (fun i => (i.zero, i.size, i.bytes)) = some (some (.nilFunc), 1, 8) := by kernel_rfl
instance ti46 : TInfo Try.prog 46 1 8 [.nilFunc] := tinfo_mk inf46 rfl
instance tz46 : TZero Try.prog 46 (.nilFunc) := tzero_mk inf46
instance und47 : TUnd Try.prog 47 (.func #[22] #[4] false) := ⟨Try.underlying47⟩
theorem inf47 : (Try.prog.info? 47).map (fun i => (i.zero, i.size, i.bytes)) = some (some (.nilFunc), 1, 8) := by kernel_rfl
instance ti47 : TInfo Try.prog 47 1 8 [.nilFunc] := tinfo_mk inf47 rfl
instance tz47 : TZero Try.prog 47 (.nilFunc) := tzero_mk inf47
instance und48 : TUnd Try.prog 48 (.slice 26) := ⟨Try.underlying48⟩
theorem inf48 : (Try.prog.info? 48).map (fun i => (i.zero, i.size, i.bytes)) = some (some (.slice none 0 0), 1, 24) := by kernel_rfl
instance ti48 : TInfo Try.prog 48 1 24 [.slice none 0 0] := tinfo_mk inf48 rfl
instance tz48 : TZero Try.prog 48 (.slice none 0 0) := tzero_mk inf48
instance und49 : TUnd Try.prog 49 (.slice 4) := ⟨Try.underlying49⟩
theorem inf49 : (Try.prog.info? 49).map (fun i => (i.zero, i.size, i.bytes)) = some (some (.slice none 0 0), 1, 24) := by kernel_rfl
instance ti49 : TInfo Try.prog 49 1 24 [.slice none 0 0] := tinfo_mk inf49 rfl
instance tz49 : TZero Try.prog 49 (.slice none 0 0) := tzero_mk inf49
instance und50 : TUnd Try.prog 50 (.map 3 4) := ⟨Try.underlying50⟩
theorem inf50 : (Try.prog.info? 50).map (fun i => (i.zero, i.size, i.bytes)) = some (some (.map none), 1, 8) := by kernel_rfl
instance ti50 : TInfo Try.prog 50 1 8 [.map none] := tinfo_mk inf50 rfl
instance tz50 : TZero Try.prog 50 (.map none) := tzero_mk inf50
instance und51 : TUnd Try.prog 51 (.func #[25, 48, 49] #[4] false) := ⟨Try.underlying51⟩
theorem inf51 : (Try.prog.info? 51).map (fun i => (i.zero, i.size, i.bytes)) = some (some (.nilFunc), 1, 8) := by kernel_rfl
instance ti51 : TInfo Try.prog 51 1 8 [.nilFunc] := tinfo_mk inf51 rfl
instance tz51 : TZero Try.prog 51 (.nilFunc) := tzero_mk inf51
instance und52 : TUnd Try.prog 52 (.func #[25, 3, 26] #[4] false) := ⟨Try.underlying52⟩
theorem inf52 : (Try.prog.info? 52).map (fun i => (i.zero, i.size, i.bytes)) = some (some (.nilFunc), 1, 8) := by kernel_rfl
instance ti52 : TInfo Try.prog 52 1 8 [.nilFunc] := tinfo_mk inf52 rfl
instance tz52 : TZero Try.prog 52 (.nilFunc) := tzero_mk inf52
instance und53 : TUnd Try.prog 53 (.slice 91) := ⟨Try.underlying53⟩
theorem inf53 : (Try.prog.info? 53).map (fun i => (i.zero, i.size, i.bytes)) = some (some (.slice none 0 0), 1, 24) := by kernel_rfl
instance ti53 : TInfo Try.prog 53 1 24 [.slice none 0 0] := tinfo_mk inf53 rfl
instance tz53 : TZero Try.prog 53 (.slice none 0 0) := tzero_mk inf53
instance und54 : TUnd Try.prog 54 (.pointer 60) := ⟨Try.underlying54⟩
theorem inf54 : (Try.prog.info? 54).map (fun i => (i.zero, i.size, i.bytes)) = some (some (.pointer none), 1, 8) := by kernel_rfl
instance ti54 : TInfo Try.prog 54 1 8 [.pointer none] := tinfo_mk inf54 rfl
instance tz54 : TZero Try.prog 54 (.pointer none) := tzero_mk inf54
instance und55 : TUnd Try.prog 55 (.pointer 82) := ⟨Try.underlying55⟩
theorem inf55 : (Try.prog.info? 55).map (fun i => (i.zero, i.size, i.bytes)) = some (some (.pointer none), 1, 8) := by kernel_rfl
instance ti55 : TInfo Try.prog 55 1 8 [.pointer none] := tinfo_mk inf55 rfl
instance tz55 : TZero Try.prog 55 (.pointer none) := tzero_mk inf55
instance und56 : TUnd Try.prog 56 (.func #[] #[55] false) := ⟨Try.underlying56⟩
theorem inf56 : (Try.prog.info? 56).map (fun i => (i.zero, i.size, i.bytes)) = some (some (.nilFunc), 1, 8) := by kernel_rfl
instance ti56 : TInfo Try.prog 56 1 8 [.nilFunc] := tinfo_mk inf56 rfl
instance tz56 : TZero Try.prog 56 (.nilFunc) := tzero_mk inf56
instance und57 : TUnd Try.prog 57 (.slice 64) := ⟨Try.underlying57⟩
theorem inf57 : (Try.prog.info? 57).map (fun i => (i.zero, i.size, i.bytes)) = some (some (.slice none 0 0), 1, 24) := by kernel_rfl
instance ti57 : TInfo Try.prog 57 1 24 [.slice none 0 0] := tinfo_mk inf57 rfl
instance tz57 : TZero Try.prog 57 (.slice none 0 0) := tzero_mk inf57
instance und58 : TUnd Try.prog 58 (.slice 62) := ⟨Try.underlying58⟩
theorem inf58 : (Try.prog.info? 58).map (fun i => (i.zero, i.size, i.bytes)) = some (some (.slice none 0 0), 1, 24) := by kernel_rfl
instance ti58 : TInfo Try.prog 58 1 24 [.slice none 0 0] := tinfo_mk inf58 rfl
instance tz58 : TZero Try.prog 58 (.slice none 0 0) := tzero_mk inf58
instance und59 : TUnd Try.prog 59 (.struct #[⟨ "r", 55, 0, false, "", "conduit/conduitlaw15", 0⟩, ⟨ "progs", 53, 1, false, "", "conduit/conduitlaw15", 8⟩, ⟨ "tasks", 57, 2, false, "", "conduit/conduitlaw15", 32⟩, ⟨ "events", 58, 3, false, "", "conduit/conduitlaw15", 56⟩]) := ⟨Try.underlying59⟩
theorem inf59 : (Try.prog.info? 59).map (fun i => (i.zero, i.size, i.bytes)) = some (some (.agg #[.pointer none, .slice none 0 0, .slice none 0 0, .slice none 0 0]), 4, 80) := by kernel_rfl
instance ti59 : TInfo Try.prog 59 4 80 [.pointer none, .slice none 0 0, .slice none 0 0, .slice none 0 0] := tinfo_mk inf59 rfl
instance tz59 : TZero Try.prog 59 (.agg #[.pointer none, .slice none 0 0, .slice none 0 0, .slice none 0 0]) := tzero_mk inf59
instance tf59_0 : TField Try.prog 59 0 0 := tfield_mk Try.underlying59 rfl rfl (by kernel_rfl)
instance tp59_0 : TPart Try.prog 59 0 0 1 false := tpart_mk Try.underlying59 rfl rfl (by kernel_rfl) Try.underlying55 rfl
instance tf59_1 : TField Try.prog 59 1 1 := tfield_mk Try.underlying59 rfl rfl (by kernel_rfl)
instance tp59_1 : TPart Try.prog 59 1 1 1 false := tpart_mk Try.underlying59 rfl rfl (by kernel_rfl) Try.underlying53 rfl
instance tf59_2 : TField Try.prog 59 2 2 := tfield_mk Try.underlying59 rfl rfl (by kernel_rfl)
instance tp59_2 : TPart Try.prog 59 2 2 1 false := tpart_mk Try.underlying59 rfl rfl (by kernel_rfl) Try.underlying57 rfl
instance tf59_3 : TField Try.prog 59 3 3 := tfield_mk Try.underlying59 rfl rfl (by kernel_rfl)
instance tp59_3 : TPart Try.prog 59 3 3 1 false := tpart_mk Try.underlying59 rfl rfl (by kernel_rfl) Try.underlying58 rfl
instance tpl59 : TPlaces Try.prog 59 [(0, 1), (1, 1), (2, 1), (3, 1)] := tplaces_mk Try.underlying59 (by kernel_rfl) (by kernel_rfl)
instance und60 : TUnd Try.prog 60 (.struct #[⟨ "r", 55, 0, false, "", "conduit/conduitlaw15", 0⟩, ⟨ "progs", 53, 1, false, "", "conduit/conduitlaw15", 8⟩, ⟨ "tasks", 57, 2, false, "", "conduit/conduitlaw15", 32⟩, ⟨ "events", 58, 3, false, "", "conduit/conduitlaw15", 56⟩]) := ⟨Try.underlying60⟩
theorem inf60 : (Try.prog.info? 60).map (fun i => (i.zero, i.size, i.bytes)) = some (some (.agg #[.pointer none, .slice none 0 0, .slice none 0 0, .slice none 0 0]), 4, 80) := by kernel_rfl
instance ti60 : TInfo Try.prog 60 4 80 [.pointer none, .slice none 0 0, .slice none 0 0, .slice none 0 0] := tinfo_mk inf60 rfl
instance tz60 : TZero Try.prog 60 (.agg #[.pointer none, .slice none 0 0, .slice none 0 0, .slice none 0 0]) := tzero_mk inf60
instance tf60_0 : TField Try.prog 60 0 0 := tfield_mk Try.underlying60 rfl rfl (by kernel_rfl)
instance tp60_0 : TPart Try.prog 60 0 0 1 false := tpart_mk Try.underlying60 rfl rfl (by kernel_rfl) Try.underlying55 rfl
instance tf60_1 : TField Try.prog 60 1 1 := tfield_mk Try.underlying60 rfl rfl (by kernel_rfl)
instance tp60_1 : TPart Try.prog 60 1 1 1 false := tpart_mk Try.underlying60 rfl rfl (by kernel_rfl) Try.underlying53 rfl
instance tf60_2 : TField Try.prog 60 2 2 := tfield_mk Try.underlying60 rfl rfl (by kernel_rfl)
instance tp60_2 : TPart Try.prog 60 2 2 1 false := tpart_mk Try.underlying60 rfl rfl (by kernel_rfl) Try.underlying57 rfl
instance tf60_3 : TField Try.prog 60 3 3 := tfield_mk Try.underlying60 rfl rfl (by kernel_rfl)
instance tp60_3 : TPart Try.prog 60 3 3 1 false := tpart_mk Try.underlying60 rfl rfl (by kernel_rfl) Try.underlying58 rfl
instance tpl60 : TPlaces Try.prog 60 [(0, 1), (1, 1), (2, 1), (3, 1)] := tplaces_mk Try.underlying60 (by kernel_rfl) (by kernel_rfl)
instance und61 : TUnd Try.prog 61 (.struct #[⟨ "Task", 3, 0, false, "", "", 0⟩, ⟨ "What", 3, 1, false, "", "", 8⟩, ⟨ "N", 3, 2, false, "", "", 16⟩]) := ⟨Try.underlying61⟩
theorem inf61 : (Try.prog.info? 61).map (fun i => (i.zero, i.size, i.bytes)) = some (some (.agg #[.int .i64 0, .int .i64 0, .int .i64 0]), 3, 24) := by kernel_rfl
instance ti61 : TInfo Try.prog 61 3 24 [.int .i64 0, .int .i64 0, .int .i64 0] := tinfo_mk inf61 rfl
instance tz61 : TZero Try.prog 61 (.agg #[.int .i64 0, .int .i64 0, .int .i64 0]) := tzero_mk inf61
instance tf61_0 : TField Try.prog 61 0 0 := tfield_mk Try.underlying61 rfl rfl (by kernel_rfl)
instance tp61_0 : TPart Try.prog 61 0 0 1 false := tpart_mk Try.underlying61 rfl rfl (by kernel_rfl) Try.underlying3 rfl
instance tf61_1 : TField Try.prog 61 1 1 := tfield_mk Try.underlying61 rfl rfl (by kernel_rfl)
instance tp61_1 : TPart Try.prog 61 1 1 1 false := tpart_mk Try.underlying61 rfl rfl (by kernel_rfl) Try.underlying3 rfl
instance tf61_2 : TField Try.prog 61 2 2 := tfield_mk Try.underlying61 rfl rfl (by kernel_rfl)
instance tp61_2 : TPart Try.prog 61 2 2 1 false := tpart_mk Try.underlying61 rfl rfl (by kernel_rfl) Try.underlying3 rfl
instance tpl61 : TPlaces Try.prog 61 [(0, 1), (1, 1), (2, 1)] := tplaces_mk Try.underlying61 (by kernel_rfl) (by kernel_rfl)
instance und62 : TUnd Try.prog 62 (.struct #[⟨ "Task", 3, 0, false, "", "", 0⟩, ⟨ "What", 3, 1, false, "", "", 8⟩, ⟨ "N", 3, 2, false, "", "", 16⟩]) := ⟨Try.underlying62⟩
theorem inf62 : (Try.prog.info? 62).map (fun i => (i.zero, i.size, i.bytes)) = some (some (.agg #[.int .i64 0, .int .i64 0, .int .i64 0]), 3, 24) := by kernel_rfl
instance ti62 : TInfo Try.prog 62 3 24 [.int .i64 0, .int .i64 0, .int .i64 0] := tinfo_mk inf62 rfl
instance tz62 : TZero Try.prog 62 (.agg #[.int .i64 0, .int .i64 0, .int .i64 0]) := tzero_mk inf62
instance tf62_0 : TField Try.prog 62 0 0 := tfield_mk Try.underlying62 rfl rfl (by kernel_rfl)
instance tp62_0 : TPart Try.prog 62 0 0 1 false := tpart_mk Try.underlying62 rfl rfl (by kernel_rfl) Try.underlying3 rfl
instance tf62_1 : TField Try.prog 62 1 1 := tfield_mk Try.underlying62 rfl rfl (by kernel_rfl)
instance tp62_1 : TPart Try.prog 62 1 1 1 false := tpart_mk Try.underlying62 rfl rfl (by kernel_rfl) Try.underlying3 rfl
instance tf62_2 : TField Try.prog 62 2 2 := tfield_mk Try.underlying62 rfl rfl (by kernel_rfl)
instance tp62_2 : TPart Try.prog 62 2 2 1 false := tpart_mk Try.underlying62 rfl rfl (by kernel_rfl) Try.underlying3 rfl
instance tpl62 : TPlaces Try.prog 62 [(0, 1), (1, 1), (2, 1)] := tplaces_mk Try.underlying62 (by kernel_rfl) (by kernel_rfl)
instance und63 : TUnd Try.prog 63 (.func #[26] #[4] false) := ⟨Try.underlying63⟩
theorem inf63 : (Try.prog.info? 63).map (fun i => (i.zero, i.size, i.bytes)) = some (some (.nilFunc), 1, 8) := by kernel_rfl
instance ti63 : TInfo Try.prog 63 1 8 [.nilFunc] := tinfo_mk inf63 rfl
instance tz63 : TZero Try.prog 63 (.nilFunc) := tzero_mk inf63
instance und64 : TUnd Try.prog 64 (.pointer 75) := ⟨Try.underlying64⟩
theorem inf64 : (Try.prog.info? 64).map (fun i => (i.zero, i.size, i.bytes)) = some (some (.pointer none), 1, 8) := by kernel_rfl
instance ti64 : TInfo Try.prog 64 1 8 [.pointer none] := tinfo_mk inf64 rfl
instance tz64 : TZero Try.prog 64 (.pointer none) := tzero_mk inf64
instance und65 : TUnd Try.prog 65 (.func #[53, 48] #[4] false) := ⟨Try.underlying65⟩
theorem inf65 : (Try.prog.info? 65).map (fun i => (i.zero, i.size, i.bytes)) = some (some (.nilFunc), 1, 8) := by kernel_rfl
instance ti65 : TInfo Try.prog 65 1 8 [.nilFunc] := tinfo_mk inf65 rfl
instance tz65 : TZero Try.prog 65 (.nilFunc) := tzero_mk inf65
instance und66 : TUnd Try.prog 66 (.pointer 69) := ⟨Try.underlying66⟩
theorem inf66 : (Try.prog.info? 66).map (fun i => (i.zero, i.size, i.bytes)) = some (some (.pointer none), 1, 8) := by kernel_rfl
instance ti66 : TInfo Try.prog 66 1 8 [.pointer none] := tinfo_mk inf66 rfl
instance tz66 : TZero Try.prog 66 (.pointer none) := tzero_mk inf66
instance und67 : TUnd Try.prog 67 (.slice 94) := ⟨Try.underlying67⟩
theorem inf67 : (Try.prog.info? 67).map (fun i => (i.zero, i.size, i.bytes)) = some (some (.slice none 0 0), 1, 24) := by kernel_rfl
instance ti67 : TInfo Try.prog 67 1 24 [.slice none 0 0] := tinfo_mk inf67 rfl
instance tz67 : TZero Try.prog 67 (.slice none 0 0) := tzero_mk inf67
instance und68 : TUnd Try.prog 68 (.struct #[⟨ "Progs", 53, 0, false, "", "", 0⟩, ⟨ "tasks", 67, 1, false, "", "conduit/conduitref15", 24⟩, ⟨ "Line", 25, 2, false, "", "", 48⟩, ⟨ "Events", 58, 3, false, "", "", 72⟩]) := ⟨Try.underlying68⟩
theorem inf68 : (Try.prog.info? 68).map (fun i => (i.zero, i.size, i.bytes)) = some (some (.agg #[.slice none 0 0, .slice none 0 0, .slice none 0 0, .slice none 0 0]), 4, 96) := by kernel_rfl
instance ti68 : TInfo Try.prog 68 4 96 [.slice none 0 0, .slice none 0 0, .slice none 0 0, .slice none 0 0] := tinfo_mk inf68 rfl
instance tz68 : TZero Try.prog 68 (.agg #[.slice none 0 0, .slice none 0 0, .slice none 0 0, .slice none 0 0]) := tzero_mk inf68
instance tf68_0 : TField Try.prog 68 0 0 := tfield_mk Try.underlying68 rfl rfl (by kernel_rfl)
instance tp68_0 : TPart Try.prog 68 0 0 1 false := tpart_mk Try.underlying68 rfl rfl (by kernel_rfl) Try.underlying53 rfl
instance tf68_1 : TField Try.prog 68 1 1 := tfield_mk Try.underlying68 rfl rfl (by kernel_rfl)
instance tp68_1 : TPart Try.prog 68 1 1 1 false := tpart_mk Try.underlying68 rfl rfl (by kernel_rfl) Try.underlying67 rfl
instance tf68_2 : TField Try.prog 68 2 2 := tfield_mk Try.underlying68 rfl rfl (by kernel_rfl)
instance tp68_2 : TPart Try.prog 68 2 2 1 false := tpart_mk Try.underlying68 rfl rfl (by kernel_rfl) Try.underlying25 rfl
instance tf68_3 : TField Try.prog 68 3 3 := tfield_mk Try.underlying68 rfl rfl (by kernel_rfl)
instance tp68_3 : TPart Try.prog 68 3 3 1 false := tpart_mk Try.underlying68 rfl rfl (by kernel_rfl) Try.underlying58 rfl
instance tpl68 : TPlaces Try.prog 68 [(0, 1), (1, 1), (2, 1), (3, 1)] := tplaces_mk Try.underlying68 (by kernel_rfl) (by kernel_rfl)
instance und69 : TUnd Try.prog 69 (.struct #[⟨ "Progs", 53, 0, false, "", "", 0⟩, ⟨ "tasks", 67, 1, false, "", "conduit/conduitref15", 24⟩, ⟨ "Line", 25, 2, false, "", "", 48⟩, ⟨ "Events", 58, 3, false, "", "", 72⟩]) := ⟨Try.underlying69⟩
theorem inf69 : (Try.prog.info? 69).map (fun i => (i.zero, i.size, i.bytes)) = some (some (.agg #[.slice none 0 0, .slice none 0 0, .slice none 0 0, .slice none 0 0]), 4, 96) := by kernel_rfl
instance ti69 : TInfo Try.prog 69 4 96 [.slice none 0 0, .slice none 0 0, .slice none 0 0, .slice none 0 0] := tinfo_mk inf69 rfl
instance tz69 : TZero Try.prog 69 (.agg #[.slice none 0 0, .slice none 0 0, .slice none 0 0, .slice none 0 0]) := tzero_mk inf69
instance tf69_0 : TField Try.prog 69 0 0 := tfield_mk Try.underlying69 rfl rfl (by kernel_rfl)
instance tp69_0 : TPart Try.prog 69 0 0 1 false := tpart_mk Try.underlying69 rfl rfl (by kernel_rfl) Try.underlying53 rfl
instance tf69_1 : TField Try.prog 69 1 1 := tfield_mk Try.underlying69 rfl rfl (by kernel_rfl)
instance tp69_1 : TPart Try.prog 69 1 1 1 false := tpart_mk Try.underlying69 rfl rfl (by kernel_rfl) Try.underlying67 rfl
instance tf69_2 : TField Try.prog 69 2 2 := tfield_mk Try.underlying69 rfl rfl (by kernel_rfl)
instance tp69_2 : TPart Try.prog 69 2 2 1 false := tpart_mk Try.underlying69 rfl rfl (by kernel_rfl) Try.underlying25 rfl
instance tf69_3 : TField Try.prog 69 3 3 := tfield_mk Try.underlying69 rfl rfl (by kernel_rfl)
instance tp69_3 : TPart Try.prog 69 3 3 1 false := tpart_mk Try.underlying69 rfl rfl (by kernel_rfl) Try.underlying58 rfl
instance tpl69 : TPlaces Try.prog 69 [(0, 1), (1, 1), (2, 1), (3, 1)] := tplaces_mk Try.underlying69 (by kernel_rfl) (by kernel_rfl)
instance und70 : TUnd Try.prog 70 (.func #[58, 58] #[4] false) := ⟨Try.underlying70⟩
theorem inf70 : (Try.prog.info? 70).map (fun i => (i.zero, i.size, i.bytes)) = some (some (.nilFunc), 1, 8) := by kernel_rfl
instance ti70 : TInfo Try.prog 70 1 8 [.nilFunc] := tinfo_mk inf70 rfl
instance tz70 : TZero Try.prog 70 (.nilFunc) := tzero_mk inf70
instance und71 : TUnd Try.prog 71 (.func #[48, 3] #[3] false) := ⟨Try.underlying71⟩
theorem inf71 : (Try.prog.info? 71).map (fun i => (i.zero, i.size, i.bytes)) = some (some (.nilFunc), 1, 8) := by kernel_rfl
instance ti71 : TInfo Try.prog 71 1 8 [.nilFunc] := tinfo_mk inf71 rfl
instance tz71 : TZero Try.prog 71 (.nilFunc) := tzero_mk inf71
instance und72 : TUnd Try.prog 72 (.func #[53, 48, 3] #[4] false) := ⟨Try.underlying72⟩
theorem inf72 : (Try.prog.info? 72).map (fun i => (i.zero, i.size, i.bytes)) = some (some (.nilFunc), 1, 8) := by kernel_rfl
instance ti72 : TInfo Try.prog 72 1 8 [.nilFunc] := tinfo_mk inf72 rfl
instance tz72 : TZero Try.prog 72 (.nilFunc) := tzero_mk inf72
instance und73 : TUnd Try.prog 73 (.func #[3] #[] false) := ⟨Try.underlying73⟩
theorem inf73 : (Try.prog.info? 73).map (fun i => (i.zero, i.size, i.bytes)) = some (some (.nilFunc), 1, 8) := by kernel_rfl
instance ti73 : TInfo Try.prog 73 1 8 [.nilFunc] := tinfo_mk inf73 rfl
instance tz73 : TZero Try.prog 73 (.nilFunc) := tzero_mk inf73
instance und74 : TUnd Try.prog 74 (.struct #[⟨ "r", 55, 0, false, "", "conduit/csp", 0⟩, ⟨ "id", 3, 1, false, "", "conduit/csp", 8⟩, ⟨ "next", 1, 2, false, "", "conduit/csp", 16⟩, ⟨ "wake", 73, 3, false, "", "conduit/csp", 24⟩, ⟨ "said", 4, 4, false, "", "conduit/csp", 32⟩, ⟨ "parked", 4, 5, false, "", "conduit/csp", 33⟩, ⟨ "over", 4, 6, false, "", "conduit/csp", 34⟩]) := ⟨Try.underlying74⟩
theorem inf74 : (Try.prog.info? 74).map (fun i => (i.zero, i.size, i.bytes)) = some (some (.agg #[.pointer none, .int .i64 0, .nilFunc, .nilFunc, .bool false, .bool false, .bool false]), 7, 40) := by kernel_rfl
instance ti74 : TInfo Try.prog 74 7 40 [.pointer none, .int .i64 0, .nilFunc, .nilFunc, .bool false, .bool false, .bool false] := tinfo_mk inf74 rfl
instance tz74 : TZero Try.prog 74 (.agg #[.pointer none, .int .i64 0, .nilFunc, .nilFunc, .bool false, .bool false, .bool false]) := tzero_mk inf74
instance tf74_0 : TField Try.prog 74 0 0 := tfield_mk Try.underlying74 rfl rfl (by kernel_rfl)
instance tp74_0 : TPart Try.prog 74 0 0 1 false := tpart_mk Try.underlying74 rfl rfl (by kernel_rfl) Try.underlying55 rfl
instance tf74_1 : TField Try.prog 74 1 1 := tfield_mk Try.underlying74 rfl rfl (by kernel_rfl)
instance tp74_1 : TPart Try.prog 74 1 1 1 false := tpart_mk Try.underlying74 rfl rfl (by kernel_rfl) Try.underlying3 rfl
instance tf74_2 : TField Try.prog 74 2 2 := tfield_mk Try.underlying74 rfl rfl (by kernel_rfl)
instance tp74_2 : TPart Try.prog 74 2 2 1 false := tpart_mk Try.underlying74 rfl rfl (by kernel_rfl) Try.underlying1 rfl
instance tf74_3 : TField Try.prog 74 3 3 := tfield_mk Try.underlying74 rfl rfl (by kernel_rfl)
instance tp74_3 : TPart Try.prog 74 3 3 1 false := tpart_mk Try.underlying74 rfl rfl (by kernel_rfl) Try.underlying73 rfl
instance tf74_4 : TField Try.prog 74 4 4 := tfield_mk Try.underlying74 rfl rfl (by kernel_rfl)
instance tp74_4 : TPart Try.prog 74 4 4 1 false := tpart_mk Try.underlying74 rfl rfl (by kernel_rfl) Try.underlying4 rfl
instance tf74_5 : TField Try.prog 74 5 5 := tfield_mk Try.underlying74 rfl rfl (by kernel_rfl)
instance tp74_5 : TPart Try.prog 74 5 5 1 false := tpart_mk Try.underlying74 rfl rfl (by kernel_rfl) Try.underlying4 rfl
instance tf74_6 : TField Try.prog 74 6 6 := tfield_mk Try.underlying74 rfl rfl (by kernel_rfl)
instance tp74_6 : TPart Try.prog 74 6 6 1 false := tpart_mk Try.underlying74 rfl rfl (by kernel_rfl) Try.underlying4 rfl
instance tpl74 : TPlaces Try.prog 74 [(0, 1), (1, 1), (2, 1), (3, 1), (4, 1), (5, 1), (6, 1)] := tplaces_mk Try.underlying74 (by kernel_rfl) (by kernel_rfl)
instance und75 : TUnd Try.prog 75 (.struct #[⟨ "r", 55, 0, false, "", "conduit/csp", 0⟩, ⟨ "id", 3, 1, false, "", "conduit/csp", 8⟩, ⟨ "next", 1, 2, false, "", "conduit/csp", 16⟩, ⟨ "wake", 73, 3, false, "", "conduit/csp", 24⟩, ⟨ "said", 4, 4, false, "", "conduit/csp", 32⟩, ⟨ "parked", 4, 5, false, "", "conduit/csp", 33⟩, ⟨ "over", 4, 6, false, "", "conduit/csp", 34⟩]) := ⟨Try.underlying75⟩
theorem inf75 : (Try.prog.info? 75).map (fun i => (i.zero, i.size, i.bytes)) = some (some (.agg #[.pointer none, .int .i64 0, .nilFunc, .nilFunc, .bool false, .bool false, .bool false]), 7, 40) := by kernel_rfl
instance ti75 : TInfo Try.prog 75 7 40 [.pointer none, .int .i64 0, .nilFunc, .nilFunc, .bool false, .bool false, .bool false] := tinfo_mk inf75 rfl
instance tz75 : TZero Try.prog 75 (.agg #[.pointer none, .int .i64 0, .nilFunc, .nilFunc, .bool false, .bool false, .bool false]) := tzero_mk inf75
instance tf75_0 : TField Try.prog 75 0 0 := tfield_mk Try.underlying75 rfl rfl (by kernel_rfl)
instance tp75_0 : TPart Try.prog 75 0 0 1 false := tpart_mk Try.underlying75 rfl rfl (by kernel_rfl) Try.underlying55 rfl
instance tf75_1 : TField Try.prog 75 1 1 := tfield_mk Try.underlying75 rfl rfl (by kernel_rfl)
instance tp75_1 : TPart Try.prog 75 1 1 1 false := tpart_mk Try.underlying75 rfl rfl (by kernel_rfl) Try.underlying3 rfl
instance tf75_2 : TField Try.prog 75 2 2 := tfield_mk Try.underlying75 rfl rfl (by kernel_rfl)
instance tp75_2 : TPart Try.prog 75 2 2 1 false := tpart_mk Try.underlying75 rfl rfl (by kernel_rfl) Try.underlying1 rfl
instance tf75_3 : TField Try.prog 75 3 3 := tfield_mk Try.underlying75 rfl rfl (by kernel_rfl)
instance tp75_3 : TPart Try.prog 75 3 3 1 false := tpart_mk Try.underlying75 rfl rfl (by kernel_rfl) Try.underlying73 rfl
instance tf75_4 : TField Try.prog 75 4 4 := tfield_mk Try.underlying75 rfl rfl (by kernel_rfl)
instance tp75_4 : TPart Try.prog 75 4 4 1 false := tpart_mk Try.underlying75 rfl rfl (by kernel_rfl) Try.underlying4 rfl
instance tf75_5 : TField Try.prog 75 5 5 := tfield_mk Try.underlying75 rfl rfl (by kernel_rfl)
instance tp75_5 : TPart Try.prog 75 5 5 1 false := tpart_mk Try.underlying75 rfl rfl (by kernel_rfl) Try.underlying4 rfl
instance tf75_6 : TField Try.prog 75 6 6 := tfield_mk Try.underlying75 rfl rfl (by kernel_rfl)
instance tp75_6 : TPart Try.prog 75 6 6 1 false := tpart_mk Try.underlying75 rfl rfl (by kernel_rfl) Try.underlying4 rfl
instance tpl75 : TPlaces Try.prog 75 [(0, 1), (1, 1), (2, 1), (3, 1), (4, 1), (5, 1), (6, 1)] := tplaces_mk Try.underlying75 (by kernel_rfl) (by kernel_rfl)
instance und76 : TUnd Try.prog 76 (.tuple #[64, 29]) := ⟨Try.underlying76⟩
instance und77 : TUnd Try.prog 77 (.func #[78] #[64, 29] false) := ⟨Try.underlying77⟩
theorem inf77 : (Try.prog.info? 77).map (fun i => (i.zero, i.size, i.bytes)) = some (some (.nilFunc), 1, 8) := by kernel_rfl
instance ti77 : TInfo Try.prog 77 1 8 [.nilFunc] := tinfo_mk inf77 rfl
instance tz77 : TZero Try.prog 77 (.nilFunc) := tzero_mk inf77
instance und78 : TUnd Try.prog 78 (.func #[64] #[] false) := ⟨Try.underlying78⟩
theorem inf78 : (Try.prog.info? 78).map (fun i => (i.zero, i.size, i.bytes)) = some (some (.nilFunc), 1, 8) := by kernel_rfl
instance ti78 : TInfo Try.prog 78 1 8 [.nilFunc] := tinfo_mk inf78 rfl
instance tz78 : TZero Try.prog 78 (.nilFunc) := tzero_mk inf78
instance und79 : TUnd Try.prog 79 (.func #[73] #[29] false) := ⟨Try.underlying79⟩
theorem inf79 : (Try.prog.info? 79).map (fun i => (i.zero, i.size, i.bytes)) = some (some (.nilFunc), 1, 8) := by kernel_rfl
instance ti79 : TInfo Try.prog 79 1 8 [.nilFunc] := tinfo_mk inf79 rfl
instance tz79 : TZero Try.prog 79 (.nilFunc) := tzero_mk inf79
instance und80 : TUnd Try.prog 80 (.func #[1] #[29] false) := ⟨Try.underlying80⟩
theorem inf80 : (Try.prog.info? 80).map (fun i => (i.zero, i.size, i.bytes)) = some (some (.nilFunc), 1, 8) := by kernel_rfl
instance ti80 : TInfo Try.prog 80 1 8 [.nilFunc] := tinfo_mk inf80 rfl
instance tz80 : TZero Try.prog 80 (.nilFunc) := tzero_mk inf80
instance und81 : TUnd Try.prog 81 (.struct #[⟨ "ready", 23, 0, false, "", "conduit/csp", 0⟩, ⟨ "tasks", 57, 1, false, "", "conduit/csp", 8⟩, ⟨ "now", 64, 2, false, "", "conduit/csp", 32⟩, ⟨ "rest", 26, 3, false, "", "conduit/csp", 40⟩]) := ⟨Try.underlying81⟩
theorem inf81 : (Try.prog.info? 81).map (fun i => (i.zero, i.size, i.bytes)) = some (some (.agg #[.pointer none, .slice none 0 0, .pointer none, .int .u64 0]), 4, 48) := by kernel_rfl
instance ti81 : TInfo Try.prog 81 4 48 [.pointer none, .slice none 0 0, .pointer none, .int .u64 0] := tinfo_mk inf81 rfl
instance tz81 : TZero Try.prog 81 (.agg #[.pointer none, .slice none 0 0, .pointer none, .int .u64 0]) := tzero_mk inf81
instance tf81_0 : TField Try.prog 81 0 0 := tfield_mk Try.underlying81 rfl rfl (by kernel_rfl)
instance tp81_0 : TPart Try.prog 81 0 0 1 false := tpart_mk Try.underlying81 rfl rfl (by kernel_rfl) Try.underlying23 rfl
instance tf81_1 : TField Try.prog 81 1 1 := tfield_mk Try.underlying81 rfl rfl (by kernel_rfl)
instance tp81_1 : TPart Try.prog 81 1 1 1 false := tpart_mk Try.underlying81 rfl rfl (by kernel_rfl) Try.underlying57 rfl
instance tf81_2 : TField Try.prog 81 2 2 := tfield_mk Try.underlying81 rfl rfl (by kernel_rfl)
instance tp81_2 : TPart Try.prog 81 2 2 1 false := tpart_mk Try.underlying81 rfl rfl (by kernel_rfl) Try.underlying64 rfl
instance tf81_3 : TField Try.prog 81 3 3 := tfield_mk Try.underlying81 rfl rfl (by kernel_rfl)
instance tp81_3 : TPart Try.prog 81 3 3 1 false := tpart_mk Try.underlying81 rfl rfl (by kernel_rfl) Try.underlying26 rfl
instance tpl81 : TPlaces Try.prog 81 [(0, 1), (1, 1), (2, 1), (3, 1)] := tplaces_mk Try.underlying81 (by kernel_rfl) (by kernel_rfl)
instance und82 : TUnd Try.prog 82 (.struct #[⟨ "ready", 23, 0, false, "", "conduit/csp", 0⟩, ⟨ "tasks", 57, 1, false, "", "conduit/csp", 8⟩, ⟨ "now", 64, 2, false, "", "conduit/csp", 32⟩, ⟨ "rest", 26, 3, false, "", "conduit/csp", 40⟩]) := ⟨Try.underlying82⟩
theorem inf82 : (Try.prog.info? 82).map (fun i => (i.zero, i.size, i.bytes)) = some (some (.agg #[.pointer none, .slice none 0 0, .pointer none, .int .u64 0]), 4, 48) := by kernel_rfl
instance ti82 : TInfo Try.prog 82 4 48 [.pointer none, .slice none 0 0, .pointer none, .int .u64 0] := tinfo_mk inf82 rfl
instance tz82 : TZero Try.prog 82 (.agg #[.pointer none, .slice none 0 0, .pointer none, .int .u64 0]) := tzero_mk inf82
instance tf82_0 : TField Try.prog 82 0 0 := tfield_mk Try.underlying82 rfl rfl (by kernel_rfl)
instance tp82_0 : TPart Try.prog 82 0 0 1 false := tpart_mk Try.underlying82 rfl rfl (by kernel_rfl) Try.underlying23 rfl
instance tf82_1 : TField Try.prog 82 1 1 := tfield_mk Try.underlying82 rfl rfl (by kernel_rfl)
instance tp82_1 : TPart Try.prog 82 1 1 1 false := tpart_mk Try.underlying82 rfl rfl (by kernel_rfl) Try.underlying57 rfl
instance tf82_2 : TField Try.prog 82 2 2 := tfield_mk Try.underlying82 rfl rfl (by kernel_rfl)
instance tp82_2 : TPart Try.prog 82 2 2 1 false := tpart_mk Try.underlying82 rfl rfl (by kernel_rfl) Try.underlying64 rfl
instance tf82_3 : TField Try.prog 82 3 3 := tfield_mk Try.underlying82 rfl rfl (by kernel_rfl)
instance tp82_3 : TPart Try.prog 82 3 3 1 false := tpart_mk Try.underlying82 rfl rfl (by kernel_rfl) Try.underlying26 rfl
instance tpl82 : TPlaces Try.prog 82 [(0, 1), (1, 1), (2, 1), (3, 1)] := tplaces_mk Try.underlying82 (by kernel_rfl) (by kernel_rfl)
instance und83 : TUnd Try.prog 83 (.func #[3] #[3] false) := ⟨Try.underlying83⟩
theorem inf83 : (Try.prog.info? 83).map (fun i => (i.zero, i.size, i.bytes)) = some (some (.nilFunc), 1, 8) := by kernel_rfl
instance ti83 : TInfo Try.prog 83 1 8 [.nilFunc] := tinfo_mk inf83 rfl
instance tz83 : TZero Try.prog 83 (.nilFunc) := tzero_mk inf83
instance und84 : TUnd Try.prog 84 (.func #[25] #[43] true) := ⟨Try.underlying84⟩
theorem inf84 : (Try.prog.info? 84).map (fun i => (i.zero, i.size, i.bytes)) = some (some (.nilFunc), 1, 8) := by kernel_rfl
instance ti84 : TInfo Try.prog 84 1 8 [.nilFunc] := tinfo_mk inf84 rfl
instance tz84 : TZero Try.prog 84 (.nilFunc) := tzero_mk inf84
instance und85 : TUnd Try.prog 85 (.func #[25, 3] #[4] false) := ⟨Try.underlying85⟩
theorem inf85 : (Try.prog.info? 85).map (fun i => (i.zero, i.size, i.bytes)) = some (some (.nilFunc), 1, 8) := by kernel_rfl
instance ti85 : TInfo Try.prog 85 1 8 [.nilFunc] := tinfo_mk inf85 rfl
instance tz85 : TZero Try.prog 85 (.nilFunc) := tzero_mk inf85
instance und86 : TUnd Try.prog 86 (.tuple #[3, 4]) := ⟨Try.underlying86⟩
instance und87 : TUnd Try.prog 87 (.func #[3] #[3, 4] false) := ⟨Try.underlying87⟩
theorem inf87 : (Try.prog.info? 87).map (fun i => (i.zero, i.size, i.bytes)) = some (some (.nilFunc), 1, 8) := by kernel_rfl
instance ti87 : TInfo Try.prog 87 1 8 [.nilFunc] := tinfo_mk inf87 rfl
instance tz87 : TZero Try.prog 87 (.nilFunc) := tzero_mk inf87
instance und88 : TUnd Try.prog 88 (.func #[38] #[3] false) := ⟨Try.underlying88⟩
theorem inf88 : (Try.prog.info? 88).map (fun i => (i.zero, i.size, i.bytes)) = some (some (.nilFunc), 1, 8) := by kernel_rfl
instance ti88 : TInfo Try.prog 88 1 8 [.nilFunc] := tinfo_mk inf88 rfl
instance tz88 : TZero Try.prog 88 (.nilFunc) := tzero_mk inf88
instance und89 : TUnd Try.prog 89 (.struct #[⟨ "Kind", 3, 0, false, "", "", 0⟩, ⟨ "N", 3, 1, false, "", "", 8⟩, ⟨ "Why", 3, 2, false, "", "", 16⟩]) := ⟨Try.underlying89⟩
theorem inf89 : (Try.prog.info? 89).map (fun i => (i.zero, i.size, i.bytes)) = some (some (.agg #[.int .i64 0, .int .i64 0, .int .i64 0]), 3, 24) := by kernel_rfl
instance ti89 : TInfo Try.prog 89 3 24 [.int .i64 0, .int .i64 0, .int .i64 0] := tinfo_mk inf89 rfl
instance tz89 : TZero Try.prog 89 (.agg #[.int .i64 0, .int .i64 0, .int .i64 0]) := tzero_mk inf89
instance tf89_0 : TField Try.prog 89 0 0 := tfield_mk Try.underlying89 rfl rfl (by kernel_rfl)
instance tp89_0 : TPart Try.prog 89 0 0 1 false := tpart_mk Try.underlying89 rfl rfl (by kernel_rfl) Try.underlying3 rfl
instance tf89_1 : TField Try.prog 89 1 1 := tfield_mk Try.underlying89 rfl rfl (by kernel_rfl)
instance tp89_1 : TPart Try.prog 89 1 1 1 false := tpart_mk Try.underlying89 rfl rfl (by kernel_rfl) Try.underlying3 rfl
instance tf89_2 : TField Try.prog 89 2 2 := tfield_mk Try.underlying89 rfl rfl (by kernel_rfl)
instance tp89_2 : TPart Try.prog 89 2 2 1 false := tpart_mk Try.underlying89 rfl rfl (by kernel_rfl) Try.underlying3 rfl
instance tpl89 : TPlaces Try.prog 89 [(0, 1), (1, 1), (2, 1)] := tplaces_mk Try.underlying89 (by kernel_rfl) (by kernel_rfl)
instance und90 : TUnd Try.prog 90 (.struct #[⟨ "Kind", 3, 0, false, "", "", 0⟩, ⟨ "N", 3, 1, false, "", "", 8⟩, ⟨ "Why", 3, 2, false, "", "", 16⟩]) := ⟨Try.underlying90⟩
theorem inf90 : (Try.prog.info? 90).map (fun i => (i.zero, i.size, i.bytes)) = some (some (.agg #[.int .i64 0, .int .i64 0, .int .i64 0]), 3, 24) := by kernel_rfl
instance ti90 : TInfo Try.prog 90 3 24 [.int .i64 0, .int .i64 0, .int .i64 0] := tinfo_mk inf90 rfl
instance tz90 : TZero Try.prog 90 (.agg #[.int .i64 0, .int .i64 0, .int .i64 0]) := tzero_mk inf90
instance tf90_0 : TField Try.prog 90 0 0 := tfield_mk Try.underlying90 rfl rfl (by kernel_rfl)
instance tp90_0 : TPart Try.prog 90 0 0 1 false := tpart_mk Try.underlying90 rfl rfl (by kernel_rfl) Try.underlying3 rfl
instance tf90_1 : TField Try.prog 90 1 1 := tfield_mk Try.underlying90 rfl rfl (by kernel_rfl)
instance tp90_1 : TPart Try.prog 90 1 1 1 false := tpart_mk Try.underlying90 rfl rfl (by kernel_rfl) Try.underlying3 rfl
instance tf90_2 : TField Try.prog 90 2 2 := tfield_mk Try.underlying90 rfl rfl (by kernel_rfl)
instance tp90_2 : TPart Try.prog 90 2 2 1 false := tpart_mk Try.underlying90 rfl rfl (by kernel_rfl) Try.underlying3 rfl
instance tpl90 : TPlaces Try.prog 90 [(0, 1), (1, 1), (2, 1)] := tplaces_mk Try.underlying90 (by kernel_rfl) (by kernel_rfl)
instance und91 : TUnd Try.prog 91 (.slice 90) := ⟨Try.underlying91⟩
theorem inf91 : (Try.prog.info? 91).map (fun i => (i.zero, i.size, i.bytes)) = some (some (.slice none 0 0), 1, 24) := by kernel_rfl
instance ti91 : TInfo Try.prog 91 1 24 [.slice none 0 0] := tinfo_mk inf91 rfl
instance tz91 : TZero Try.prog 91 (.slice none 0 0) := tzero_mk inf91
instance und92 : TUnd Try.prog 92 (.func #[64, 3, 3, 3] #[] false) := ⟨Try.underlying92⟩
theorem inf92 : (Try.prog.info? 92).map (fun i => (i.zero, i.size, i.bytes)) = some (some (.nilFunc), 1, 8) := by kernel_rfl
instance ti92 : TInfo Try.prog 92 1 8 [.nilFunc] := tinfo_mk inf92 rfl
instance tz92 : TZero Try.prog 92 (.nilFunc) := tzero_mk inf92
instance und93 : TUnd Try.prog 93 (.struct #[⟨ "prog", 3, 0, false, "", "conduit/conduitref15", 0⟩, ⟨ "at", 3, 1, false, "", "conduit/conduitref15", 8⟩, ⟨ "state", 3, 2, false, "", "conduit/conduitref15", 16⟩, ⟨ "why", 3, 3, false, "", "conduit/conduitref15", 24⟩]) := ⟨Try.underlying93⟩
theorem inf93 : (Try.prog.info? 93).map (fun i => (i.zero, i.size, i.bytes)) = some (some (.agg #[.int .i64 0, .int .i64 0, .int .i64 0, .int .i64 0]), 4, 32) := by kernel_rfl
instance ti93 : TInfo Try.prog 93 4 32 [.int .i64 0, .int .i64 0, .int .i64 0, .int .i64 0] := tinfo_mk inf93 rfl
instance tz93 : TZero Try.prog 93 (.agg #[.int .i64 0, .int .i64 0, .int .i64 0, .int .i64 0]) := tzero_mk inf93
instance tf93_0 : TField Try.prog 93 0 0 := tfield_mk Try.underlying93 rfl rfl (by kernel_rfl)
instance tp93_0 : TPart Try.prog 93 0 0 1 false := tpart_mk Try.underlying93 rfl rfl (by kernel_rfl) Try.underlying3 rfl
instance tf93_1 : TField Try.prog 93 1 1 := tfield_mk Try.underlying93 rfl rfl (by kernel_rfl)
instance tp93_1 : TPart Try.prog 93 1 1 1 false := tpart_mk Try.underlying93 rfl rfl (by kernel_rfl) Try.underlying3 rfl
instance tf93_2 : TField Try.prog 93 2 2 := tfield_mk Try.underlying93 rfl rfl (by kernel_rfl)
instance tp93_2 : TPart Try.prog 93 2 2 1 false := tpart_mk Try.underlying93 rfl rfl (by kernel_rfl) Try.underlying3 rfl
instance tf93_3 : TField Try.prog 93 3 3 := tfield_mk Try.underlying93 rfl rfl (by kernel_rfl)
instance tp93_3 : TPart Try.prog 93 3 3 1 false := tpart_mk Try.underlying93 rfl rfl (by kernel_rfl) Try.underlying3 rfl
instance tpl93 : TPlaces Try.prog 93 [(0, 1), (1, 1), (2, 1), (3, 1)] := tplaces_mk Try.underlying93 (by kernel_rfl) (by kernel_rfl)
instance und94 : TUnd Try.prog 94 (.struct #[⟨ "prog", 3, 0, false, "", "conduit/conduitref15", 0⟩, ⟨ "at", 3, 1, false, "", "conduit/conduitref15", 8⟩, ⟨ "state", 3, 2, false, "", "conduit/conduitref15", 16⟩, ⟨ "why", 3, 3, false, "", "conduit/conduitref15", 24⟩]) := ⟨Try.underlying94⟩
theorem inf94 : (Try.prog.info? 94).map (fun i => (i.zero, i.size, i.bytes)) = some (some (.agg #[.int .i64 0, .int .i64 0, .int .i64 0, .int .i64 0]), 4, 32) := by kernel_rfl
instance ti94 : TInfo Try.prog 94 4 32 [.int .i64 0, .int .i64 0, .int .i64 0, .int .i64 0] := tinfo_mk inf94 rfl
instance tz94 : TZero Try.prog 94 (.agg #[.int .i64 0, .int .i64 0, .int .i64 0, .int .i64 0]) := tzero_mk inf94
instance tf94_0 : TField Try.prog 94 0 0 := tfield_mk Try.underlying94 rfl rfl (by kernel_rfl)
instance tp94_0 : TPart Try.prog 94 0 0 1 false := tpart_mk Try.underlying94 rfl rfl (by kernel_rfl) Try.underlying3 rfl
instance tf94_1 : TField Try.prog 94 1 1 := tfield_mk Try.underlying94 rfl rfl (by kernel_rfl)
instance tp94_1 : TPart Try.prog 94 1 1 1 false := tpart_mk Try.underlying94 rfl rfl (by kernel_rfl) Try.underlying3 rfl
instance tf94_2 : TField Try.prog 94 2 2 := tfield_mk Try.underlying94 rfl rfl (by kernel_rfl)
instance tp94_2 : TPart Try.prog 94 2 2 1 false := tpart_mk Try.underlying94 rfl rfl (by kernel_rfl) Try.underlying3 rfl
instance tf94_3 : TField Try.prog 94 3 3 := tfield_mk Try.underlying94 rfl rfl (by kernel_rfl)
instance tp94_3 : TPart Try.prog 94 3 3 1 false := tpart_mk Try.underlying94 rfl rfl (by kernel_rfl) Try.underlying3 rfl
instance tpl94 : TPlaces Try.prog 94 [(0, 1), (1, 1), (2, 1), (3, 1)] := tplaces_mk Try.underlying94 (by kernel_rfl) (by kernel_rfl)
instance und95 : TUnd Try.prog 95 (.func #[3, 3, 3] #[] false) := ⟨Try.underlying95⟩
theorem inf95 : (Try.prog.info? 95).map (fun i => (i.zero, i.size, i.bytes)) = some (some (.nilFunc), 1, 8) := by kernel_rfl
instance ti95 : TInfo Try.prog 95 1 8 [.nilFunc] := tinfo_mk inf95 rfl
instance tz95 : TZero Try.prog 95 (.nilFunc) := tzero_mk inf95
instance und96 : TUnd Try.prog 96 (.func #[3, 3] #[3] false) := ⟨Try.underlying96⟩
theorem inf96 : (Try.prog.info? 96).map (fun i => (i.zero, i.size, i.bytes)) = some (some (.nilFunc), 1, 8) := by kernel_rfl
instance ti96 : TInfo Try.prog 96 1 8 [.nilFunc] := tinfo_mk inf96 rfl
instance tz96 : TZero Try.prog 96 (.nilFunc) := tzero_mk inf96
instance und97 : TUnd Try.prog 97 (.func #[4] #[29] false) := ⟨Try.underlying97⟩
theorem inf97 : (Try.prog.info? 97).map (fun i => (i.zero, i.size, i.bytes)) = some (some (.nilFunc), 1, 8) := by kernel_rfl
instance ti97 : TInfo Try.prog 97 1 8 [.nilFunc] := tinfo_mk inf97 rfl
instance tz97 : TZero Try.prog 97 (.nilFunc) := tzero_mk inf97
instance und98 : TUnd Try.prog 98 (.func #[1] #[] false) := ⟨Try.underlying98⟩
theorem inf98 : (Try.prog.info? 98).map (fun i => (i.zero, i.size, i.bytes)) = some (some (.nilFunc), 1, 8) := by kernel_rfl
instance ti98 : TInfo Try.prog 98 1 8 [.nilFunc] := tinfo_mk inf98 rfl
instance tz98 : TZero Try.prog 98 (.nilFunc) := tzero_mk inf98
instance und99 : TUnd Try.prog 99 (.func #[25] #[25] false) := ⟨Try.underlying99⟩
theorem inf99 : (Try.prog.info? 99).map (fun i => (i.zero, i.size, i.bytes)) = some (some (.nilFunc), 1, 8) := by kernel_rfl
instance ti99 : TInfo Try.prog 99 1 8 [.nilFunc] := tinfo_mk inf99 rfl
instance tz99 : TZero Try.prog 99 (.nilFunc) := tzero_mk inf99
instance und100 : TUnd Try.prog 100 (.struct #[⟨ "made", 4, 0, false, "", "conduit/queue", 0⟩, ⟨ "l", 25, 1, false, "", "conduit/queue", 8⟩]) := ⟨Try.underlying100⟩
theorem inf100 : (Try.prog.info? 100).map (fun i => (i.zero, i.size, i.bytes)) = some (some (.agg #[.bool false, .slice none 0 0]), 2, 32) := by kernel_rfl
instance ti100 : TInfo Try.prog 100 2 32 [.bool false, .slice none 0 0] := tinfo_mk inf100 rfl
instance tz100 : TZero Try.prog 100 (.agg #[.bool false, .slice none 0 0]) := tzero_mk inf100
instance tf100_0 : TField Try.prog 100 0 0 := tfield_mk Try.underlying100 rfl rfl (by kernel_rfl)
instance tp100_0 : TPart Try.prog 100 0 0 1 false := tpart_mk Try.underlying100 rfl rfl (by kernel_rfl) Try.underlying4 rfl
instance tf100_1 : TField Try.prog 100 1 1 := tfield_mk Try.underlying100 rfl rfl (by kernel_rfl)
instance tp100_1 : TPart Try.prog 100 1 1 1 false := tpart_mk Try.underlying100 rfl rfl (by kernel_rfl) Try.underlying25 rfl
instance tpl100 : TPlaces Try.prog 100 [(0, 1), (1, 1)] := tplaces_mk Try.underlying100 (by kernel_rfl) (by kernel_rfl)
instance und101 : TUnd Try.prog 101 (.struct #[⟨ "made", 4, 0, false, "", "conduit/queue", 0⟩, ⟨ "l", 25, 1, false, "", "conduit/queue", 8⟩]) := ⟨Try.underlying101⟩
theorem inf101 : (Try.prog.info? 101).map (fun i => (i.zero, i.size, i.bytes)) = some (some (.agg #[.bool false, .slice none 0 0]), 2, 32) := by kernel_rfl
instance ti101 : TInfo Try.prog 101 2 32 [.bool false, .slice none 0 0] := tinfo_mk inf101 rfl
instance tz101 : TZero Try.prog 101 (.agg #[.bool false, .slice none 0 0]) := tzero_mk inf101
instance tf101_0 : TField Try.prog 101 0 0 := tfield_mk Try.underlying101 rfl rfl (by kernel_rfl)
instance tp101_0 : TPart Try.prog 101 0 0 1 false := tpart_mk Try.underlying101 rfl rfl (by kernel_rfl) Try.underlying4 rfl
instance tf101_1 : TField Try.prog 101 1 1 := tfield_mk Try.underlying101 rfl rfl (by kernel_rfl)
instance tp101_1 : TPart Try.prog 101 1 1 1 false := tpart_mk Try.underlying101 rfl rfl (by kernel_rfl) Try.underlying25 rfl
instance tpl101 : TPlaces Try.prog 101 [(0, 1), (1, 1)] := tplaces_mk Try.underlying101 (by kernel_rfl) (by kernel_rfl)
instance und102 : TUnd Try.prog 102 (.func #[25, 3, 3] #[25] false) := ⟨Try.underlying102⟩
theorem inf102 : (Try.prog.info? 102).map (fun i => (i.zero, i.size, i.bytes)) = some (some (.nilFunc), 1, 8) := by kernel_rfl
instance ti102 : TInfo Try.prog 102 1 8 [.nilFunc] := tinfo_mk inf102 rfl
instance tz102 : TZero Try.prog 102 (.nilFunc) := tzero_mk inf102
instance und103 : TUnd Try.prog 103 (.func #[25, 38] #[25] false) := ⟨Try.underlying103⟩
theorem inf103 : (Try.prog.info? 103).map (fun i => (i.zero, i.size, i.bytes)) = some (some (.nilFunc), 1, 8) := by kernel_rfl
instance ti103 : TInfo Try.prog 103 1 8 [.nilFunc] := tinfo_mk inf103 rfl
instance tz103 : TZero Try.prog 103 (.nilFunc) := tzero_mk inf103
instance und104 : TUnd Try.prog 104 (.func #[25, 38] #[3] false) := ⟨Try.underlying104⟩
theorem inf104 : (Try.prog.info? 104).map (fun i => (i.zero, i.size, i.bytes)) = some (some (.nilFunc), 1, 8) := by kernel_rfl
instance ti104 : TInfo Try.prog 104 1 8 [.nilFunc] := tinfo_mk inf104 rfl
instance tz104 : TZero Try.prog 104 (.nilFunc) := tzero_mk inf104
instance und105 : TUnd Try.prog 105 (.func #[] #[9] false) := ⟨Try.underlying105⟩
theorem inf105 : (Try.prog.info? 105).map (fun i => (i.zero, i.size, i.bytes)) = some (some (.nilFunc), 1, 8) := by kernel_rfl
instance ti105 : TInfo Try.prog 105 1 8 [.nilFunc] := tinfo_mk inf105 rfl
instance tz105 : TZero Try.prog 105 (.nilFunc) := tzero_mk inf105
instance und108 : TUnd Try.prog 108 (.array 0 16) := ⟨Try.underlying108⟩
theorem inf108 : (Try.prog.info? 108).map (fun i => (i.zero, i.size, i.bytes)) = some (some (.agg #[]), 0, 0) := by kernel_rfl
instance ti108 : TInfo Try.prog 108 0 0 [] := tinfo_mk inf108 rfl
instance tz108 : TZero Try.prog 108 (.agg #[]) := tzero_mk inf108
instance und111 : TUnd Try.prog 111 (.int .u32) := ⟨Try.underlying111⟩
theorem inf111 : (Try.prog.info? 111).map (fun i => (i.zero, i.size, i.bytes)) = some (some (.int .u32 0), 1, 4) := by kernel_rfl
instance ti111 : TInfo Try.prog 111 1 4 [.int .u32 0] := tinfo_mk inf111 rfl
instance tz111 : TZero Try.prog 111 (.int .u32 0) := tzero_mk inf111
instance und114 : TUnd Try.prog 114 (.func #[120, 120] #[4] false) := ⟨Try.underlying114⟩
theorem inf114 : (Try.prog.info? 114).map (fun i => (i.zero, i.size, i.bytes)) = some (some (.nilFunc), 1, 8) := by kernel_rfl
instance ti114 : TInfo Try.prog 114 1 8 [.nilFunc] := tinfo_mk inf114 rfl
instance tz114 : TZero Try.prog 114 (.nilFunc) := tzero_mk inf114
instance und115 : TUnd Try.prog 115 (.pointer 5) := ⟨Try.underlying115⟩
theorem inf115 : (Try.prog.info? 115).map (fun i => (i.zero, i.size, i.bytes)) = some (some (.pointer none), 1, 8) := by kernel_rfl
instance ti115 : TInfo Try.prog 115 1 8 [.pointer none] := tinfo_mk inf115 rfl
instance tz115 : TZero Try.prog 115 (.pointer none) := tzero_mk inf115
instance und118 : TUnd Try.prog 118 (.struct #[⟨ "Size_", 12, 0, false, "", "", 0⟩, ⟨ "PtrBytes", 12, 1, false, "", "", 8⟩, ⟨ "Hash", 111, 2, false, "", "", 16⟩, ⟨ "TFlag", 112, 3, false, "", "", 20⟩, ⟨ "Align_", 5, 4, false, "", "", 21⟩, ⟨ "FieldAlign_", 5, 5, false, "", "", 22⟩, ⟨ "Kind_", 113, 6, false, "", "", 23⟩, ⟨ "Equal", 114, 7, false, "", "", 24⟩, ⟨ "GCData", 115, 8, false, "", "", 32⟩, ⟨ "Str", 116, 9, false, "", "", 40⟩, ⟨ "PtrToThis", 117, 10, false, "", "", 44⟩]) := ⟨Try.underlying118⟩
theorem inf118 : (Try.prog.info? 118).map (fun i => (i.zero, i.size, i.bytes)) = some (some (.agg #[.int .u64 0, .int .u64 0, .int .u32 0, .int .u8 0, .int .u8 0, .int .u8 0, .int .u8 0, .nilFunc, .pointer none, .int .i32 0, .int .i32 0]), 11, 48) := by kernel_rfl
instance ti118 : TInfo Try.prog 118 11 48 [.int .u64 0, .int .u64 0, .int .u32 0, .int .u8 0, .int .u8 0, .int .u8 0, .int .u8 0, .nilFunc, .pointer none, .int .i32 0, .int .i32 0] := tinfo_mk inf118 rfl
instance tz118 : TZero Try.prog 118 (.agg #[.int .u64 0, .int .u64 0, .int .u32 0, .int .u8 0, .int .u8 0, .int .u8 0, .int .u8 0, .nilFunc, .pointer none, .int .i32 0, .int .i32 0]) := tzero_mk inf118
instance tf118_0 : TField Try.prog 118 0 0 := tfield_mk Try.underlying118 rfl rfl (by kernel_rfl)
instance tp118_0 : TPart Try.prog 118 0 0 1 false := tpart_mk Try.underlying118 rfl rfl (by kernel_rfl) Try.underlying12 rfl
instance tf118_1 : TField Try.prog 118 1 1 := tfield_mk Try.underlying118 rfl rfl (by kernel_rfl)
instance tp118_1 : TPart Try.prog 118 1 1 1 false := tpart_mk Try.underlying118 rfl rfl (by kernel_rfl) Try.underlying12 rfl
instance tf118_2 : TField Try.prog 118 2 2 := tfield_mk Try.underlying118 rfl rfl (by kernel_rfl)
instance tp118_2 : TPart Try.prog 118 2 2 1 false := tpart_mk Try.underlying118 rfl rfl (by kernel_rfl) Try.underlying111 rfl
instance tf118_3 : TField Try.prog 118 3 3 := tfield_mk Try.underlying118 rfl rfl (by kernel_rfl)
instance tp118_3 : TPart Try.prog 118 3 3 1 false := tpart_mk Try.underlying118 rfl rfl (by kernel_rfl) Try.underlying112 rfl
instance tf118_4 : TField Try.prog 118 4 4 := tfield_mk Try.underlying118 rfl rfl (by kernel_rfl)
instance tp118_4 : TPart Try.prog 118 4 4 1 false := tpart_mk Try.underlying118 rfl rfl (by kernel_rfl) Try.underlying5 rfl
instance tf118_5 : TField Try.prog 118 5 5 := tfield_mk Try.underlying118 rfl rfl (by kernel_rfl)
instance tp118_5 : TPart Try.prog 118 5 5 1 false := tpart_mk Try.underlying118 rfl rfl (by kernel_rfl) Try.underlying5 rfl
instance tf118_6 : TField Try.prog 118 6 6 := tfield_mk Try.underlying118 rfl rfl (by kernel_rfl)
instance tp118_6 : TPart Try.prog 118 6 6 1 false := tpart_mk Try.underlying118 rfl rfl (by kernel_rfl) Try.underlying113 rfl
instance tf118_7 : TField Try.prog 118 7 7 := tfield_mk Try.underlying118 rfl rfl (by kernel_rfl)
instance tp118_7 : TPart Try.prog 118 7 7 1 false := tpart_mk Try.underlying118 rfl rfl (by kernel_rfl) Try.underlying114 rfl
instance tf118_8 : TField Try.prog 118 8 8 := tfield_mk Try.underlying118 rfl rfl (by kernel_rfl)
instance tp118_8 : TPart Try.prog 118 8 8 1 false := tpart_mk Try.underlying118 rfl rfl (by kernel_rfl) Try.underlying115 rfl
instance tf118_9 : TField Try.prog 118 9 9 := tfield_mk Try.underlying118 rfl rfl (by kernel_rfl)
instance tp118_9 : TPart Try.prog 118 9 9 1 false := tpart_mk Try.underlying118 rfl rfl (by kernel_rfl) Try.underlying116 rfl
instance tf118_10 : TField Try.prog 118 10 10 := tfield_mk Try.underlying118 rfl rfl (by kernel_rfl)
instance tp118_10 : TPart Try.prog 118 10 10 1 false := tpart_mk Try.underlying118 rfl rfl (by kernel_rfl) Try.underlying117 rfl
instance tpl118 : TPlaces Try.prog 118 [(0, 1), (1, 1), (2, 1), (3, 1), (4, 1), (5, 1), (6, 1), (7, 1), (8, 1), (9, 1), (10, 1)] := tplaces_mk Try.underlying118 (by kernel_rfl) (by kernel_rfl)
instance tfl27 : TFlat Try.prog 27 [.i .i64, .i .i64, .i .u64] := tflat_struct Try.underlying27 ⟨by decide, rfl, Try.underlying3, by decide, rfl, Try.underlying3, by decide, rfl, Try.underlying26, trivial⟩ (by kernel_rfl) (by kernel_rfl)
instance tfl28 : TFlat Try.prog 28 [.i .i64, .i .i64, .i .u64] := tflat_struct Try.underlying28 ⟨by decide, rfl, Try.underlying3, by decide, rfl, Try.underlying3, by decide, rfl, Try.underlying26, trivial⟩ (by kernel_rfl) (by kernel_rfl)
instance tfl61 : TFlat Try.prog 61 [.i .i64, .i .i64, .i .i64] := tflat_struct Try.underlying61 ⟨by decide, rfl, Try.underlying3, by decide, rfl, Try.underlying3, by decide, rfl, Try.underlying3, trivial⟩ (by kernel_rfl) (by kernel_rfl)
instance tfl62 : TFlat Try.prog 62 [.i .i64, .i .i64, .i .i64] := tflat_struct Try.underlying62 ⟨by decide, rfl, Try.underlying3, by decide, rfl, Try.underlying3, by decide, rfl, Try.underlying3, trivial⟩ (by kernel_rfl) (by kernel_rfl)
instance tfl89 : TFlat Try.prog 89 [.i .i64, .i .i64, .i .i64] := tflat_struct Try.underlying89 ⟨by decide, rfl, Try.underlying3, by decide, rfl, Try.underlying3, by decide, rfl, Try.underlying3, trivial⟩ (by kernel_rfl) (by kernel_rfl)
instance tfl90 : TFlat Try.prog 90 [.i .i64, .i .i64, .i .i64] := tflat_struct Try.underlying90 ⟨by decide, rfl, Try.underlying3, by decide, rfl, Try.underlying3, by decide, rfl, Try.underlying3, trivial⟩ (by kernel_rfl) (by kernel_rfl)
instance tfl93 : TFlat Try.prog 93 [.i .i64, .i .i64, .i .i64, .i .i64] := tflat_struct Try.underlying93 ⟨by decide, rfl, Try.underlying3, by decide, rfl, Try.underlying3, by decide, rfl, Try.underlying3, by decide, rfl, Try.underlying3, trivial⟩ (by kernel_rfl) (by kernel_rfl)
instance tfl94 : TFlat Try.prog 94 [.i .i64, .i .i64, .i .i64, .i .i64] := tflat_struct Try.underlying94 ⟨by decide, rfl, Try.underlying3, by decide, rfl, Try.underlying3, by decide, rfl, Try.underlying3, by decide, rfl, Try.underlying3, trivial⟩ (by kernel_rfl) (by kernel_rfl)
instance fn3 : FnOk Try.prog 3 := ⟨⟨_, Try.func3, by kernel_rfl, by kernel_rfl⟩⟩
instance fn4 : FnOk Try.prog 4 := ⟨⟨_, Try.func4, by kernel_rfl, by kernel_rfl⟩⟩
instance fn5 : FnOk Try.prog 5 := ⟨⟨_, Try.func5, by kernel_rfl, by kernel_rfl⟩⟩
instance fn6 : FnOk Try.prog 6 := ⟨⟨_, Try.func6, by kernel_rfl, by kernel_rfl⟩⟩
instance fn7 : FnOk Try.prog 7 := ⟨⟨_, Try.func7, by kernel_rfl, by kernel_rfl⟩⟩
instance fn8 : FnOk Try.prog 8 := ⟨⟨_, Try.func8, by kernel_rfl, by kernel_rfl⟩⟩
instance fn9 : FnOk Try.prog 9 := ⟨⟨_, Try.func9, by kernel_rfl, by kernel_rfl⟩⟩
instance fn10 : FnOk Try.prog 10 := ⟨⟨_, Try.func10, by kernel_rfl, by kernel_rfl⟩⟩
instance fn11 : FnOk Try.prog 11 := ⟨⟨_, Try.func11, by kernel_rfl, by kernel_rfl⟩⟩
instance fn12 : FnOk Try.prog 12 := ⟨⟨_, Try.func12, by kernel_rfl, by kernel_rfl⟩⟩
instance fn13 : FnOk Try.prog 13 := ⟨⟨_, Try.func13, by kernel_rfl, by kernel_rfl⟩⟩
instance fn14 : FnOk Try.prog 14 := ⟨⟨_, Try.func14, by kernel_rfl, by kernel_rfl⟩⟩
instance fn15 : FnOk Try.prog 15 := ⟨⟨_, Try.func15, by kernel_rfl, by kernel_rfl⟩⟩
instance fn16 : FnOk Try.prog 16 := ⟨⟨_, Try.func16, by kernel_rfl, by kernel_rfl⟩⟩
instance fn17 : FnOk Try.prog 17 := ⟨⟨_, Try.func17, by kernel_rfl, by kernel_rfl⟩⟩
instance fn18 : FnOk Try.prog 18 := ⟨⟨_, Try.func18, by kernel_rfl, by kernel_rfl⟩⟩
instance fn19 : FnOk Try.prog 19 := ⟨⟨_, Try.func19, by kernel_rfl, by kernel_rfl⟩⟩
instance fn20 : FnOk Try.prog 20 := ⟨⟨_, Try.func20, by kernel_rfl, by kernel_rfl⟩⟩
instance fn21 : FnOk Try.prog 21 := ⟨⟨_, Try.func21, by kernel_rfl, by kernel_rfl⟩⟩
instance fn22 : FnOk Try.prog 22 := ⟨⟨_, Try.func22, by kernel_rfl, by kernel_rfl⟩⟩
instance fn23 : FnOk Try.prog 23 := ⟨⟨_, Try.func23, by kernel_rfl, by kernel_rfl⟩⟩
instance fn24 : FnOk Try.prog 24 := ⟨⟨_, Try.func24, by kernel_rfl, by kernel_rfl⟩⟩
instance fn25 : FnOk Try.prog 25 := ⟨⟨_, Try.func25, by kernel_rfl, by kernel_rfl⟩⟩
instance fn26 : FnOk Try.prog 26 := ⟨⟨_, Try.func26, by kernel_rfl, by kernel_rfl⟩⟩
instance fn27 : FnOk Try.prog 27 := ⟨⟨_, Try.func27, by kernel_rfl, by kernel_rfl⟩⟩
instance fn28 : FnOk Try.prog 28 := ⟨⟨_, Try.func28, by kernel_rfl, by kernel_rfl⟩⟩
instance fn29 : FnOk Try.prog 29 := ⟨⟨_, Try.func29, by kernel_rfl, by kernel_rfl⟩⟩
instance fn30 : FnOk Try.prog 30 := ⟨⟨_, Try.func30, by kernel_rfl, by kernel_rfl⟩⟩
instance fn31 : FnOk Try.prog 31 := ⟨⟨_, Try.func31, by kernel_rfl, by kernel_rfl⟩⟩
instance fn32 : FnOk Try.prog 32 := ⟨⟨_, Try.func32, by kernel_rfl, by kernel_rfl⟩⟩
instance fn33 : FnOk Try.prog 33 := ⟨⟨_, Try.func33, by kernel_rfl, by kernel_rfl⟩⟩
instance fn34 : FnOk Try.prog 34 := ⟨⟨_, Try.func34, by kernel_rfl, by kernel_rfl⟩⟩
instance fn35 : FnOk Try.prog 35 := ⟨⟨_, Try.func35, by kernel_rfl, by kernel_rfl⟩⟩
instance fn36 : FnOk Try.prog 36 := ⟨⟨_, Try.func36, by kernel_rfl, by kernel_rfl⟩⟩
instance fn37 : FnOk Try.prog 37 := ⟨⟨_, Try.func37, by kernel_rfl, by kernel_rfl⟩⟩
instance fn38 : FnOk Try.prog 38 := ⟨⟨_, Try.func38, by kernel_rfl, by kernel_rfl⟩⟩
instance fn39 : FnOk Try.prog 39 := ⟨⟨_, Try.func39, by kernel_rfl, by kernel_rfl⟩⟩
instance fn40 : FnOk Try.prog 40 := ⟨⟨_, Try.func40, by kernel_rfl, by kernel_rfl⟩⟩
instance fn41 : FnOk Try.prog 41 := ⟨⟨_, Try.func41, by kernel_rfl, by kernel_rfl⟩⟩
instance fn42 : FnOk Try.prog 42 := ⟨⟨_, Try.func42, by kernel_rfl, by kernel_rfl⟩⟩
instance fn43 : FnOk Try.prog 43 := ⟨⟨_, Try.func43, by kernel_rfl, by kernel_rfl⟩⟩
instance fn44 : FnOk Try.prog 44 := ⟨⟨_, Try.func44, by kernel_rfl, by kernel_rfl⟩⟩
instance fn45 : FnOk Try.prog 45 := ⟨⟨_, Try.func45, by kernel_rfl, by kernel_rfl⟩⟩
instance fn46 : FnOk Try.prog 46 := ⟨⟨_, Try.func46, by kernel_rfl, by kernel_rfl⟩⟩
instance fn47 : FnOk Try.prog 47 := ⟨⟨_, Try.func47, by kernel_rfl, by kernel_rfl⟩⟩
instance fn48 : FnOk Try.prog 48 := ⟨⟨_, Try.func48, by kernel_rfl, by kernel_rfl⟩⟩
instance fn49 : FnOk Try.prog 49 := ⟨⟨_, Try.func49, by kernel_rfl, by kernel_rfl⟩⟩
instance fn50 : FnOk Try.prog 50 := ⟨⟨_, Try.func50, by kernel_rfl, by kernel_rfl⟩⟩
instance fn51 : FnOk Try.prog 51 := ⟨⟨_, Try.func51, by kernel_rfl, by kernel_rfl⟩⟩
instance fn52 : FnOk Try.prog 52 := ⟨⟨_, Try.func52, by kernel_rfl, by kernel_rfl⟩⟩
instance fn53 : FnOk Try.prog 53 := ⟨⟨_, Try.func53, by kernel_rfl, by kernel_rfl⟩⟩
instance fn54 : FnOk Try.prog 54 := ⟨⟨_, Try.func54, by kernel_rfl, by kernel_rfl⟩⟩
instance fn55 : FnOk Try.prog 55 := ⟨⟨_, Try.func55, by kernel_rfl, by kernel_rfl⟩⟩
instance fn56 : FnOk Try.prog 56 := ⟨⟨_, Try.func56, by kernel_rfl, by kernel_rfl⟩⟩
instance fn57 : FnOk Try.prog 57 := ⟨⟨_, Try.func57, by kernel_rfl, by kernel_rfl⟩⟩
instance fn58 : FnOk Try.prog 58 := ⟨⟨_, Try.func58, by kernel_rfl, by kernel_rfl⟩⟩
instance fn59 : FnOk Try.prog 59 := ⟨⟨_, Try.func59, by kernel_rfl, by kernel_rfl⟩⟩
instance fn60 : FnOk Try.prog 60 := ⟨⟨_, Try.func60, by kernel_rfl, by kernel_rfl⟩⟩
instance fn61 : FnOk Try.prog 61 := ⟨⟨_, Try.func61, by kernel_rfl, by kernel_rfl⟩⟩
instance fn62 : FnOk Try.prog 62 := ⟨⟨_, Try.func62, by kernel_rfl, by kernel_rfl⟩⟩
instance fn63 : FnOk Try.prog 63 := ⟨⟨_, Try.func63, by kernel_rfl, by kernel_rfl⟩⟩
instance fn64 : FnOk Try.prog 64 := ⟨⟨_, Try.func64, by kernel_rfl, by kernel_rfl⟩⟩
instance fn65 : FnOk Try.prog 65 := ⟨⟨_, Try.func65, by kernel_rfl, by kernel_rfl⟩⟩
instance fn66 : FnOk Try.prog 66 := ⟨⟨_, Try.func66, by kernel_rfl, by kernel_rfl⟩⟩
instance fn67 : FnOk Try.prog 67 := ⟨⟨_, Try.func67, by kernel_rfl, by kernel_rfl⟩⟩
instance fn68 : FnOk Try.prog 68 := ⟨⟨_, Try.func68, by kernel_rfl, by kernel_rfl⟩⟩
instance fn69 : FnOk Try.prog 69 := ⟨⟨_, Try.func69, by kernel_rfl, by kernel_rfl⟩⟩
instance fn70 : FnOk Try.prog 70 := ⟨⟨_, Try.func70, by kernel_rfl, by kernel_rfl⟩⟩
instance fn71 : FnOk Try.prog 71 := ⟨⟨_, Try.func71, by kernel_rfl, by kernel_rfl⟩⟩
instance fn72 : FnOk Try.prog 72 := ⟨⟨_, Try.func72, by kernel_rfl, by kernel_rfl⟩⟩
instance fn73 : FnOk Try.prog 73 := ⟨⟨_, Try.func73, by kernel_rfl, by kernel_rfl⟩⟩
instance fn74 : FnOk Try.prog 74 := ⟨⟨_, Try.func74, by kernel_rfl, by kernel_rfl⟩⟩
instance fn75 : FnOk Try.prog 75 := ⟨⟨_, Try.func75, by kernel_rfl, by kernel_rfl⟩⟩
instance fn76 : FnOk Try.prog 76 := ⟨⟨_, Try.func76, by kernel_rfl, by kernel_rfl⟩⟩
instance fn77 : FnOk Try.prog 77 := ⟨⟨_, Try.func77, by kernel_rfl, by kernel_rfl⟩⟩
instance fn78 : FnOk Try.prog 78 := ⟨⟨_, Try.func78, by kernel_rfl, by kernel_rfl⟩⟩
instance fn79 : FnOk Try.prog 79 := ⟨⟨_, Try.func79, by kernel_rfl, by kernel_rfl⟩⟩
instance fn80 : FnOk Try.prog 80 := ⟨⟨_, Try.func80, by kernel_rfl, by kernel_rfl⟩⟩
instance fn81 : FnOk Try.prog 81 := ⟨⟨_, Try.func81, by kernel_rfl, by kernel_rfl⟩⟩
instance fn82 : FnOk Try.prog 82 := ⟨⟨_, Try.func82, by kernel_rfl, by kernel_rfl⟩⟩
instance fn83 : FnOk Try.prog 83 := ⟨⟨_, Try.func83, by kernel_rfl, by kernel_rfl⟩⟩
instance fn84 : FnOk Try.prog 84 := ⟨⟨_, Try.func84, by kernel_rfl, by kernel_rfl⟩⟩
instance fn85 : FnOk Try.prog 85 := ⟨⟨_, Try.func85, by kernel_rfl, by kernel_rfl⟩⟩
instance fn86 : FnOk Try.prog 86 := ⟨⟨_, Try.func86, by kernel_rfl, by kernel_rfl⟩⟩
instance fn87 : FnOk Try.prog 87 := ⟨⟨_, Try.func87, by kernel_rfl, by kernel_rfl⟩⟩

end Go.Proofs.Ytaeckjhipmcddaa
