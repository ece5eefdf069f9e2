/-
  The type facts and function facts of this seat, printed by a program of ours (gen_types.py) out of the translation; each is checked by the kernel.
-/
import Derived.Test.YtfceebbkjogedaaEk
import Derived.Test.YtfceebbkjogedaaProg
import Derived.KernelRfl
set_option maxRecDepth 100000
namespace Go.Proofs.Ytfceebbkjogedaa
open Go Go.Eng

instance mixedOrders : Mixed Try.prog := ⟨by kernel_rfl⟩
instance und0 : TUnd Try.prog 0 (.tuple #[]) := ⟨Try.underlying0⟩
instance und1 : TUnd Try.prog 1 (.func #[] #[] false) := ⟨Try.underlying1⟩
theorem inf1 : (Try.prog.info? 1).map (fun i => (i.zero, i.size, i.bytes)) = some (some (.nilFunc), 1, 8) := by kernel_rfl
instance ti1 : TInfo Try.prog 1 1 8 [.nilFunc] := tinfo_mk inf1 rfl
instance tz1 : TZero Try.prog 1 (.nilFunc) := tzero_mk inf1
instance und2 : TUnd Try.prog 2 (.int .i64) := ⟨Try.underlying2⟩
theorem inf2 : (Try.prog.info? 2).map (fun i => (i.zero, i.size, i.bytes)) = some (some (.int .i64 0), 1, 8) := by kernel_rfl
instance ti2 : TInfo Try.prog 2 1 8 [.int .i64 0] := tinfo_mk inf2 rfl
instance tz2 : TZero Try.prog 2 (.int .i64 0) := tzero_mk inf2
instance und3 : TUnd Try.prog 3 (.int .i64) := ⟨Try.underlying3⟩
theorem inf3 : (Try.prog.info? 3).map (fun i => (i.zero, i.size, i.bytes)) = some (some (.int .i64 0), 1, 8) := by kernel_rfl
instance ti3 : TInfo Try.prog 3 1 8 [.int .i64 0] := tinfo_mk inf3 rfl
instance tz3 : TZero Try.prog 3 (.int .i64 0) := tzero_mk inf3
instance und4 : TUnd Try.prog 4 (.bool) := ⟨Try.underlying4⟩
theorem inf4 : (Try.prog.info? 4).map (fun i => (i.zero, i.size, i.bytes)) = some (some (.bool false), 1, 1) := by kernel_rfl
instance ti4 : TInfo Try.prog 4 1 1 [.bool false] := tinfo_mk inf4 rfl
instance tz4 : TZero Try.prog 4 (.bool false) := tzero_mk inf4
instance und5 : TUnd Try.prog 5 (.int .u8) := ⟨Try.underlying5⟩
theorem inf5 : (Try.prog.info? 5).map (fun i => (i.zero, i.size, i.bytes)) = some (some (.int .u8 0), 1, 1) := by kernel_rfl
instance ti5 : TInfo Try.prog 5 1 1 [.int .u8 0] := tinfo_mk inf5 rfl
instance tz5 : TZero Try.prog 5 (.int .u8 0) := tzero_mk inf5
instance und9 : TUnd Try.prog 9 (.string) := ⟨Try.underlying9⟩
theorem inf9 : (Try.prog.info? 9).map (fun i => (i.zero, i.size, i.bytes)) = some (some (.string ByteArray.empty), 1, 16) := by kernel_rfl
instance ti9 : TInfo Try.prog 9 1 16 [.string ByteArray.empty] := tinfo_mk inf9 rfl
instance tz9 : TZero Try.prog 9 (.string ByteArray.empty) := tzero_mk inf9
instance und12 : TUnd Try.prog 12 (.int .u64) := ⟨Try.underlying12⟩
theorem inf12 : (Try.prog.info? 12).map (fun i => (i.zero, i.size, i.bytes)) = some (some (.int .u64 0), 1, 8) := by kernel_rfl
instance ti12 : TInfo Try.prog 12 1 8 [.int .u64 0] := tinfo_mk inf12 rfl
instance tz12 : TZero Try.prog 12 (.int .u64 0) := tzero_mk inf12
instance und21 : TUnd Try.prog 21 (.int .i32) := ⟨Try.underlying21⟩
theorem inf21 : (Try.prog.info? 21).map (fun i => (i.zero, i.size, i.bytes)) = some (some (.int .i32 0), 1, 4) := by kernel_rfl
instance ti21 : TInfo Try.prog 21 1 4 [.int .i32 0] := tinfo_mk inf21 rfl
instance tz21 : TZero Try.prog 21 (.int .i32 0) := tzero_mk inf21
instance und22 : TUnd Try.prog 22 (.slice 27) := ⟨Try.underlying22⟩
theorem inf22 : (Try.prog.info? 22).map (fun i => (i.zero, i.size, i.bytes)) = some (some (.slice none 0 0), 1, 24) := by kernel_rfl
instance ti22 : TInfo Try.prog 22 1 24 [.slice none 0 0] := tinfo_mk inf22 rfl
instance tz22 : TZero Try.prog 22 (.slice none 0 0) := tzero_mk inf22
instance und23 : TUnd Try.prog 23 (.int .i64) := ⟨Try.underlying23⟩
theorem inf23 : (Try.prog.info? 23).map (fun i => (i.zero, i.size, i.bytes)) = some (some (.int .i64 0), 1, 8) := by kernel_rfl
instance ti23 : TInfo Try.prog 23 1 8 [.int .i64 0] := tinfo_mk inf23 rfl
instance tz23 : TZero Try.prog 23 (.int .i64 0) := tzero_mk inf23
instance und24 : TUnd Try.prog 24 (.tuple #[22, 23]) := ⟨Try.underlying24⟩
instance und25 : TUnd Try.prog 25 (.func #[26, 3] #[22, 23] false) := ⟨Try.underlying25⟩
theorem inf25 : (Try.prog.info? 25).map (fun i => (i.zero, i.size, i.bytes)) = some (some (.nilFunc), 1, 8) := by kernel_rfl
instance ti25 : TInfo Try.prog 25 1 8 [.nilFunc] := tinfo_mk inf25 rfl
instance tz25 : TZero Try.prog 25 (.nilFunc) := tzero_mk inf25
instance und26 : TUnd Try.prog 26 (.slice 3) := ⟨Try.underlying26⟩
theorem inf26 : (Try.prog.info? 26).map (fun i => (i.zero, i.size, i.bytes)) = some (some (.slice none 0 0), 1, 24) := by kernel_rfl
instance ti26 : TInfo Try.prog 26 1 24 [.slice none 0 0] := tinfo_mk inf26 rfl
instance tz26 : TZero Try.prog 26 (.slice none 0 0) := tzero_mk inf26
instance und27 : TUnd Try.prog 27 (.array 2 3) := ⟨Try.underlying27⟩
theorem inf27 : (Try.prog.info? 27).map (fun i => (i.zero, i.size, i.bytes)) = some (some (.agg #[.int .i64 0, .int .i64 0]), 2, 16) := by kernel_rfl
instance ti27 : TInfo Try.prog 27 2 16 [.int .i64 0, .int .i64 0] := tinfo_mk inf27 rfl
instance tz27 : TZero Try.prog 27 (.agg #[.int .i64 0, .int .i64 0]) := tzero_mk inf27
instance und29 : TUnd Try.prog 29 (.func #[22, 3] #[27, 23] false) := ⟨Try.underlying29⟩
theorem inf29 : (Try.prog.info? 29).map (fun i => (i.zero, i.size, i.bytes)) = some (some (.nilFunc), 1, 8) := by kernel_rfl
instance ti29 : TInfo Try.prog 29 1 8 [.nilFunc] := tinfo_mk inf29 rfl
instance tz29 : TZero Try.prog 29 (.nilFunc) := tzero_mk inf29
instance und30 : TUnd Try.prog 30 (.func #[22, 22] #[4] false) := ⟨Try.underlying30⟩
theorem inf30 : (Try.prog.info? 30).map (fun i => (i.zero, i.size, i.bytes)) = some (some (.nilFunc), 1, 8) := by kernel_rfl
instance ti30 : TInfo Try.prog 30 1 8 [.nilFunc] := tinfo_mk inf30 rfl
instance tz30 : TZero Try.prog 30 (.nilFunc) := tzero_mk inf30
instance und31 : TUnd Try.prog 31 (.func #[22] #[4] false) := ⟨Try.underlying31⟩
theorem inf31 : (Try.prog.info? 31).map (fun i => (i.zero, i.size, i.bytes)) = some (some (.nilFunc), 1, 8) := by kernel_rfl
instance ti31 : TInfo Try.prog 31 1 8 [.nilFunc] := tinfo_mk inf31 rfl
instance tz31 : TZero Try.prog 31 (.nilFunc) := tzero_mk inf31
instance und32 : TUnd Try.prog 32 (.func #[] #[4] false) := ⟨Try.underlying32⟩
theorem inf32 : (Try.prog.info? 32).map (fun i => (i.zero, i.size, i.bytes)) = some (some (.nilFunc), 1, 8) := by kernel_rfl
instance ti32 : TInfo Try.prog 32 1 8 [.nilFunc] := tinfo_mk inf32 rfl
instance tz32 : TZero Try.prog 32 (.nilFunc) := tzero_mk inf32
instance und33 : TUnd Try.prog 33 (.func #[26] #[26] false) := ⟨Try.underlying33⟩
theorem inf33 : (Try.prog.info? 33).map (fun i => (i.zero, i.size, i.bytes)) = some (some (.nilFunc), 1, 8) := by kernel_rfl
instance ti33 : TInfo Try.prog 33 1 8 [.nilFunc] := tinfo_mk inf33 rfl
instance tz33 : TZero Try.prog 33 (.nilFunc) := tzero_mk inf33
instance und34 : TUnd Try.prog 34 (.func #[26, 26] #[4] false) := ⟨Try.underlying34⟩
theorem inf34 : (Try.prog.info? 34).map (fun i => (i.zero, i.size, i.bytes)) = some (some (.nilFunc), 1, 8) := by kernel_rfl
instance ti34 : TInfo Try.prog 34 1 8 [.nilFunc] := tinfo_mk inf34 rfl
instance tz34 : TZero Try.prog 34 (.nilFunc) := tzero_mk inf34
instance und35 : TUnd Try.prog 35 (.func #[26, 3, 22, 3] #[4] false) := ⟨Try.underlying35⟩
theorem inf35 : (Try.prog.info? 35).map (fun i => (i.zero, i.size, i.bytes)) = some (some (.nilFunc), 1, 8) := by kernel_rfl
instance ti35 : TInfo Try.prog 35 1 8 [.nilFunc] := tinfo_mk inf35 rfl
instance tz35 : TZero Try.prog 35 (.nilFunc) := tzero_mk inf35
instance und36 : TUnd Try.prog 36 (.func #[3, 3] #[3] false) := ⟨Try.underlying36⟩
theorem inf36 : (Try.prog.info? 36).map (fun i => (i.zero, i.size, i.bytes)) = some (some (.nilFunc), 1, 8) := by kernel_rfl
instance ti36 : TInfo Try.prog 36 1 8 [.nilFunc] := tinfo_mk inf36 rfl
instance tz36 : TZero Try.prog 36 (.nilFunc) := tzero_mk inf36
instance und37 : TUnd Try.prog 37 (.func #[26, 3, 3] #[4] false) := ⟨Try.underlying37⟩
theorem inf37 : (Try.prog.info? 37).map (fun i => (i.zero, i.size, i.bytes)) = some (some (.nilFunc), 1, 8) := by kernel_rfl
instance ti37 : TInfo Try.prog 37 1 8 [.nilFunc] := tinfo_mk inf37 rfl
instance tz37 : TZero Try.prog 37 (.nilFunc) := tzero_mk inf37
instance und38 : TUnd Try.prog 38 (.slice 42) := ⟨Try.underlying38⟩
theorem inf38 : (Try.prog.info? 38).map (fun i => (i.zero, i.size, i.bytes)) = some (some (.slice none 0 0), 1, 24) := by kernel_rfl
instance ti38 : TInfo Try.prog 38 1 24 [.slice none 0 0] := tinfo_mk inf38 rfl
instance tz38 : TZero Try.prog 38 (.slice none 0 0) := tzero_mk inf38
instance und39 : TUnd Try.prog 39 (.pointer 56) := ⟨Try.underlying39⟩
theorem inf39 : (Try.prog.info? 39).map (fun i => (i.zero, i.size, i.bytes)) = some (some (.pointer none), 1, 8) := by kernel_rfl
instance ti39 : TInfo Try.prog 39 1 8 [.pointer none] := tinfo_mk inf39 rfl
instance tz39 : TZero Try.prog 39 (.pointer none) := tzero_mk inf39
instance und40 : TUnd Try.prog 40 (.func #[26] #[39] true) := ⟨Try.underlying40⟩
theorem inf40 : (Try.prog.info? 40).map (fun i => (i.zero, i.size, i.bytes)) = some (some (.nilFunc), 1, 8) := by kernel_rfl
instance ti40 : TInfo Try.prog 40 1 8 [.nilFunc] := tinfo_mk inf40 rfl
instance tz40 : TZero Try.prog 40 (.nilFunc) := tzero_mk inf40
instance und41 : TUnd Try.prog 41 (.struct #[⟨ "Kind", 3, 0, false, "", "", 0⟩, ⟨ "N", 3, 1, false, "", "", 8⟩]) := ⟨Try.underlying41⟩
theorem inf41 : (Try.prog.info? 41).map (fun i => (i.zero, i.size, i.bytes)) = some (some (.agg #[.int .i64 0, .int .i64 0]), 2, 16) := by kernel_rfl
instance ti41 : TInfo Try.prog 41 2 16 [.int .i64 0, .int .i64 0] := tinfo_mk inf41 rfl
instance tz41 : TZero Try.prog 41 (.agg #[.int .i64 0, .int .i64 0]) := tzero_mk inf41
instance tf41_0 : TField Try.prog 41 0 0 := tfield_mk Try.underlying41 rfl rfl (by kernel_rfl)
instance tp41_0 : TPart Try.prog 41 0 0 1 false := tpart_mk Try.underlying41 rfl rfl (by kernel_rfl) Try.underlying3 rfl
instance tf41_1 : TField Try.prog 41 1 1 := tfield_mk Try.underlying41 rfl rfl (by kernel_rfl)
instance tp41_1 : TPart Try.prog 41 1 1 1 false := tpart_mk Try.underlying41 rfl rfl (by kernel_rfl) Try.underlying3 rfl
instance tpl41 : TPlaces Try.prog 41 [(0, 1), (1, 1)] := tplaces_mk Try.underlying41 (by kernel_rfl) (by kernel_rfl)
instance und42 : TUnd Try.prog 42 (.struct #[⟨ "Kind", 3, 0, false, "", "", 0⟩, ⟨ "N", 3, 1, false, "", "", 8⟩]) := ⟨Try.underlying42⟩
theorem inf42 : (Try.prog.info? 42).map (fun i => (i.zero, i.size, i.bytes)) = some (some (.agg #[.int .i64 0, .int .i64 0]), 2, 16) := by kernel_rfl
instance ti42 : TInfo Try.prog 42 2 16 [.int .i64 0, .int .i64 0] := tinfo_mk inf42 rfl
instance tz42 : TZero Try.prog 42 (.agg #[.int .i64 0, .int .i64 0]) := tzero_mk inf42
instance tf42_0 : TField Try.prog 42 0 0 := tfield_mk Try.underlying42 rfl rfl (by kernel_rfl)
instance tp42_0 : TPart Try.prog 42 0 0 1 false := tpart_mk Try.underlying42 rfl rfl (by kernel_rfl) Try.underlying3 rfl
instance tf42_1 : TField Try.prog 42 1 1 := tfield_mk Try.underlying42 rfl rfl (by kernel_rfl)
instance tp42_1 : TPart Try.prog 42 1 1 1 false := tpart_mk Try.underlying42 rfl rfl (by kernel_rfl) Try.underlying3 rfl
instance tpl42 : TPlaces Try.prog 42 [(0, 1), (1, 1)] := tplaces_mk Try.underlying42 (by kernel_rfl) (by kernel_rfl)
instance und43 : TUnd Try.prog 43 (.func #[3] #[] false) := ⟨Try.underlying43⟩
theorem inf43 : (Try.prog.info? 43).map (fun i => (i.zero, i.size, i.bytes)) = some (some (.nilFunc), 1, 8) := by kernel_rfl
instance ti43 : TInfo Try.prog 43 1 8 [.nilFunc] := tinfo_mk inf43 rfl
instance tz43 : TZero Try.prog 43 (.nilFunc) := tzero_mk inf43
instance und44 : TUnd Try.prog 44 (.tuple #[3, 4]) := ⟨Try.underlying44⟩
instance und45 : TUnd Try.prog 45 (.func #[] #[3, 4] false) := ⟨Try.underlying45⟩
theorem inf45 : (Try.prog.info? 45).map (fun i => (i.zero, i.size, i.bytes)) = some (some (.nilFunc), 1, 8) := by kernel_rfl
instance ti45 : TInfo Try.prog 45 1 8 [.nilFunc] := tinfo_mk inf45 rfl
instance tz45 : TZero Try.prog 45 (.nilFunc) := tzero_mk inf45
instance und46 : TUnd Try.prog 46 (.func #[26, 3] #[26] false) := ⟨Try.underlying46⟩
theorem inf46 : (Try.prog.info? 46).map (fun i => (i.zero, i.size, i.bytes)) = some (some (.nilFunc), 1, 8) := by kernel_rfl
instance ti46 : TInfo Try.prog 46 1 8 [.nilFunc] := tinfo_mk inf46 rfl
instance tz46 : TZero Try.prog 46 (.nilFunc) := tzero_mk inf46
instance und47 : TUnd Try.prog 47 (.func #[3] #[3, 4] false) := ⟨Try.underlying47⟩
theorem inf47 : (Try.prog.info? 47).map (fun i => (i.zero, i.size, i.bytes)) = some (some (.nilFunc), 1, 8) := by kernel_rfl
instance ti47 : TInfo Try.prog 47 1 8 [.nilFunc] := tinfo_mk inf47 rfl
instance tz47 : TZero Try.prog 47 (.nilFunc) := tzero_mk inf47
instance und48 : TUnd Try.prog 48 (.func #[49] #[3] false) := ⟨Try.underlying48⟩
theorem inf48 : (Try.prog.info? 48).map (fun i => (i.zero, i.size, i.bytes)) = some (some (.nilFunc), 1, 8) := by kernel_rfl
instance ti48 : TInfo Try.prog 48 1 8 [.nilFunc] := tinfo_mk inf48 rfl
instance tz48 : TZero Try.prog 48 (.nilFunc) := tzero_mk inf48
instance und49 : TUnd Try.prog 49 (.func #[3] #[4] false) := ⟨Try.underlying49⟩
theorem inf49 : (Try.prog.info? 49).map (fun i => (i.zero, i.size, i.bytes)) = some (some (.nilFunc), 1, 8) := by kernel_rfl
instance ti49 : TInfo Try.prog 49 1 8 [.nilFunc] := tinfo_mk inf49 rfl
instance tz49 : TZero Try.prog 49 (.nilFunc) := tzero_mk inf49
instance und50 : TUnd Try.prog 50 (.tuple #[26, 3]) := ⟨Try.underlying50⟩
instance und51 : TUnd Try.prog 51 (.func #[26] #[26, 3] false) := ⟨Try.underlying51⟩
theorem inf51 : (Try.prog.info? 51).map (fun i => (i.zero, i.size, i.bytes)) = some (some (.nilFunc), 1, 8) := by kernel_rfl
instance ti51 : TInfo Try.prog 51 1 8 [.nilFunc] := tinfo_mk inf51 rfl
instance tz51 : TZero Try.prog 51 (.nilFunc) := tzero_mk inf51
instance und52 : TUnd Try.prog 52 (.func #[] #[26] false) := ⟨Try.underlying52⟩
theorem inf52 : (Try.prog.info? 52).map (fun i => (i.zero, i.size, i.bytes)) = some (some (.nilFunc), 1, 8) := by kernel_rfl
instance ti52 : TInfo Try.prog 52 1 8 [.nilFunc] := tinfo_mk inf52 rfl
instance tz52 : TZero Try.prog 52 (.nilFunc) := tzero_mk inf52
instance und53 : TUnd Try.prog 53 (.func #[] #[3] false) := ⟨Try.underlying53⟩
theorem inf53 : (Try.prog.info? 53).map (fun i => (i.zero, i.size, i.bytes)) = some (some (.nilFunc), 1, 8) := by kernel_rfl
instance ti53 : TInfo Try.prog 53 1 8 [.nilFunc] := tinfo_mk inf53 rfl
instance tz53 : TZero Try.prog 53 (.nilFunc) := tzero_mk inf53
instance und54 : TUnd Try.prog 54 (.func #[26, 38] #[4] false) := ⟨Try.underlying54⟩
theorem inf54 : (Try.prog.info? 54).map (fun i => (i.zero, i.size, i.bytes)) = some (some (.nilFunc), 1, 8) := by kernel_rfl
instance ti54 : TInfo Try.prog 54 1 8 [.nilFunc] := tinfo_mk inf54 rfl
instance tz54 : TZero Try.prog 54 (.nilFunc) := tzero_mk inf54
instance und55 : TUnd Try.prog 55 (.struct #[⟨ "made", 4, 0, false, "", "conduit/queue", 0⟩, ⟨ "l", 26, 1, false, "", "conduit/queue", 8⟩]) := ⟨Try.underlying55⟩
theorem inf55 : (Try.prog.info? 55).map (fun i => (i.zero, i.size, i.bytes)) = some (some (.agg #[.bool false, .slice none 0 0]), 2, 32) := by kernel_rfl
instance ti55 : TInfo Try.prog 55 2 32 [.bool false, .slice none 0 0] := tinfo_mk inf55 rfl
instance tz55 : TZero Try.prog 55 (.agg #[.bool false, .slice none 0 0]) := tzero_mk inf55
instance tf55_0 : TField Try.prog 55 0 0 := tfield_mk Try.underlying55 rfl rfl (by kernel_rfl)
instance tp55_0 : TPart Try.prog 55 0 0 1 false := tpart_mk Try.underlying55 rfl rfl (by kernel_rfl) Try.underlying4 rfl
instance tf55_1 : TField Try.prog 55 1 1 := tfield_mk Try.underlying55 rfl rfl (by kernel_rfl)
instance tp55_1 : TPart Try.prog 55 1 1 1 false := tpart_mk Try.underlying55 rfl rfl (by kernel_rfl) Try.underlying26 rfl
instance tpl55 : TPlaces Try.prog 55 [(0, 1), (1, 1)] := tplaces_mk Try.underlying55 (by kernel_rfl) (by kernel_rfl)
instance und56 : TUnd Try.prog 56 (.struct #[⟨ "made", 4, 0, false, "", "conduit/queue", 0⟩, ⟨ "l", 26, 1, false, "", "conduit/queue", 8⟩]) := ⟨Try.underlying56⟩
theorem inf56 : (Try.prog.info? 56).map (fun i => (i.zero, i.size, i.bytes)) = some (some (.agg #[.bool false, .slice none 0 0]), 2, 32) := by kernel_rfl
instance ti56 : TInfo Try.prog 56 2 32 [.bool false, .slice none 0 0] := tinfo_mk inf56 rfl
instance tz56 : TZero Try.prog 56 (.agg #[.bool false, .slice none 0 0]) := tzero_mk inf56
instance tf56_0 : TField Try.prog 56 0 0 := tfield_mk Try.underlying56 rfl rfl (by kernel_rfl)
instance tp56_0 : TPart Try.prog 56 0 0 1 false := tpart_mk Try.underlying56 rfl rfl (by kernel_rfl) Try.underlying4 rfl
instance tf56_1 : TField Try.prog 56 1 1 := tfield_mk Try.underlying56 rfl rfl (by kernel_rfl)
instance tp56_1 : TPart Try.prog 56 1 1 1 false := tpart_mk Try.underlying56 rfl rfl (by kernel_rfl) Try.underlying26 rfl
instance tpl56 : TPlaces Try.prog 56 [(0, 1), (1, 1)] := tplaces_mk Try.underlying56 (by kernel_rfl) (by kernel_rfl)
instance und57 : TUnd Try.prog 57 (.slice 9) := ⟨Try.underlying57⟩
theorem inf57 : (Try.prog.info? 57).map (fun i => (i.zero, i.size, i.bytes)) = some (some (.slice none 0 0), 1, 24) := by kernel_rfl
instance ti57 : TInfo Try.prog 57 1 24 [.slice none 0 0] := tinfo_mk inf57 rfl
instance tz57 : TZero Try.prog 57 (.slice none 0 0) := tzero_mk inf57
instance und58 : TUnd Try.prog 58 (.slice 4) := ⟨Try.underlying58⟩
theorem inf58 : (Try.prog.info? 58).map (fun i => (i.zero, i.size, i.bytes)) = some (some (.slice none 0 0), 1, 24) := by kernel_rfl
instance ti58 : TInfo Try.prog 58 1 24 [.slice none 0 0] := tinfo_mk inf58 rfl
instance tz58 : TZero Try.prog 58 (.slice none 0 0) := tzero_mk inf58
instance und59 : TUnd Try.prog 59 (.pointer 101) := ⟨Try.underlying59⟩
theorem inf59 : (Try.prog.info? 59).map (fun i => (i.zero, i.size, i.bytes)) = some (some (.pointer none), 1, 8) := by kernel_rfl
instance ti59 : TInfo Try.prog 59 1 8 [.pointer none] := tinfo_mk inf59 rfl
instance tz59 : TZero Try.prog 59 (.pointer none) := tzero_mk inf59
instance und60 : TUnd Try.prog 60 (.func #[57] #[59] true) := ⟨Try.underlying60⟩
theorem inf60 : (Try.prog.info? 60).map (fun i => (i.zero, i.size, i.bytes)) = some (some (.nilFunc), 1, 8) := by kernel_rfl
instance ti60 : TInfo Try.prog 60 1 8 [.nilFunc] := tinfo_mk inf60 rfl
instance tz60 : TZero Try.prog 60 (.nilFunc) := tzero_mk inf60
instance und61 : TUnd Try.prog 61 (.func #[9] #[] false) := ⟨Try.underlying61⟩
theorem inf61 : (Try.prog.info? 61).map (fun i => (i.zero, i.size, i.bytes)) = some (some (.nilFunc), 1, 8) := by kernel_rfl
instance ti61 : TInfo Try.prog 61 1 8 [.nilFunc] := tinfo_mk inf61 rfl
instance tz61 : TZero Try.prog 61 (.nilFunc) := tzero_mk inf61
instance und62 : TUnd Try.prog 62 (.tuple #[9, 4]) := ⟨Try.underlying62⟩
instance und63 : TUnd Try.prog 63 (.func #[] #[9, 4] false) := ⟨Try.underlying63⟩
theorem inf63 : (Try.prog.info? 63).map (fun i => (i.zero, i.size, i.bytes)) = some (some (.nilFunc), 1, 8) := by kernel_rfl
instance ti63 : TInfo Try.prog 63 1 8 [.nilFunc] := tinfo_mk inf63 rfl
instance tz63 : TZero Try.prog 63 (.nilFunc) := tzero_mk inf63
instance und64 : TUnd Try.prog 64 (.func #[] #[57] false) := ⟨Try.underlying64⟩
theorem inf64 : (Try.prog.info? 64).map (fun i => (i.zero, i.size, i.bytes)) = some (some (.nilFunc), 1, 8) := by kernel_rfl
instance ti64 : TInfo Try.prog 64 1 8 [.nilFunc] := tinfo_mk inf64 rfl
instance tz64 : TZero Try.prog 64 (.nilFunc) := tzero_mk inf64
instance und65 : TUnd Try.prog 65 (.func #[57, 57] #[4] false) := ⟨Try.underlying65⟩
theorem inf65 : (Try.prog.info? 65).map (fun i => (i.zero, i.size, i.bytes)) = some (some (.nilFunc), 1, 8) := by kernel_rfl
instance ti65 : TInfo Try.prog 65 1 8 [.nilFunc] := tinfo_mk inf65 rfl
instance tz65 : TZero Try.prog 65 (.nilFunc) := tzero_mk inf65
instance und66 : TUnd Try.prog 66 (.func #[57, 58] #[4] false) := ⟨Try.underlying66⟩
theorem inf66 : (Try.prog.info? 66).map (fun i => (i.zero, i.size, i.bytes)) = some (some (.nilFunc), 1, 8) := by kernel_rfl
instance ti66 : TInfo Try.prog 66 1 8 [.nilFunc] := tinfo_mk inf66 rfl
instance tz66 : TZero Try.prog 66 (.nilFunc) := tzero_mk inf66
instance und67 : TUnd Try.prog 67 (.slice 91) := ⟨Try.underlying67⟩
theorem inf67 : (Try.prog.info? 67).map (fun i => (i.zero, i.size, i.bytes)) = some (some (.slice none 0 0), 1, 24) := by kernel_rfl
instance ti67 : TInfo Try.prog 67 1 24 [.slice none 0 0] := tinfo_mk inf67 rfl
instance tz67 : TZero Try.prog 67 (.slice none 0 0) := tzero_mk inf67
instance und68 : TUnd Try.prog 68 (.slice 84) := ⟨Try.underlying68⟩
theorem inf68 : (Try.prog.info? 68).map (fun i => (i.zero, i.size, i.bytes)) = some (some (.slice none 0 0), 1, 24) := by kernel_rfl
instance ti68 : TInfo Try.prog 68 1 24 [.slice none 0 0] := tinfo_mk inf68 rfl
instance tz68 : TZero Try.prog 68 (.slice none 0 0) := tzero_mk inf68
instance und69 : TUnd Try.prog 69 (.struct #[⟨ "Topic", 9, 0, false, "", "", 0⟩, ⟨ "Part", 3, 1, false, "", "", 16⟩]) := ⟨Try.underlying69⟩
theorem inf69 : (Try.prog.info? 69).map (fun i => (i.zero, i.size, i.bytes)) = some (some (.agg #[.string ByteArray.empty, .int .i64 0]), 2, 24) := by kernel_rfl
instance ti69 : TInfo Try.prog 69 2 24 [.string ByteArray.empty, .int .i64 0] := tinfo_mk inf69 rfl
instance tz69 : TZero Try.prog 69 (.agg #[.string ByteArray.empty, .int .i64 0]) := tzero_mk inf69
instance tf69_0 : TField Try.prog 69 0 0 := tfield_mk Try.underlying69 rfl rfl (by kernel_rfl)
instance tp69_0 : TPart Try.prog 69 0 0 1 false := tpart_mk Try.underlying69 rfl rfl (by kernel_rfl) Try.underlying9 rfl
instance tf69_1 : TField Try.prog 69 1 1 := tfield_mk Try.underlying69 rfl rfl (by kernel_rfl)
instance tp69_1 : TPart Try.prog 69 1 1 1 false := tpart_mk Try.underlying69 rfl rfl (by kernel_rfl) Try.underlying3 rfl
instance tpl69 : TPlaces Try.prog 69 [(0, 1), (1, 1)] := tplaces_mk Try.underlying69 (by kernel_rfl) (by kernel_rfl)
instance und70 : TUnd Try.prog 70 (.struct #[⟨ "Topic", 9, 0, false, "", "", 0⟩, ⟨ "Part", 3, 1, false, "", "", 16⟩]) := ⟨Try.underlying70⟩
theorem inf70 : (Try.prog.info? 70).map (fun i => (i.zero, i.size, i.bytes)) = some (some (.agg #[.string ByteArray.empty, .int .i64 0]), 2, 24) := by kernel_rfl
instance ti70 : TInfo Try.prog 70 2 24 [.string ByteArray.empty, .int .i64 0] := tinfo_mk inf70 rfl
instance tz70 : TZero Try.prog 70 (.agg #[.string ByteArray.empty, .int .i64 0]) := tzero_mk inf70
instance tf70_0 : TField Try.prog 70 0 0 := tfield_mk Try.underlying70 rfl rfl (by kernel_rfl)
instance tp70_0 : TPart Try.prog 70 0 0 1 false := tpart_mk Try.underlying70 rfl rfl (by kernel_rfl) Try.underlying9 rfl
instance tf70_1 : TField Try.prog 70 1 1 := tfield_mk Try.underlying70 rfl rfl (by kernel_rfl)
instance tp70_1 : TPart Try.prog 70 1 1 1 false := tpart_mk Try.underlying70 rfl rfl (by kernel_rfl) Try.underlying3 rfl
instance tpl70 : TPlaces Try.prog 70 [(0, 1), (1, 1)] := tplaces_mk Try.underlying70 (by kernel_rfl) (by kernel_rfl)
instance und71 : TUnd Try.prog 71 (.func #[67] #[67] false) := ⟨Try.underlying71⟩
theorem inf71 : (Try.prog.info? 71).map (fun i => (i.zero, i.size, i.bytes)) = some (some (.nilFunc), 1, 8) := by kernel_rfl
instance ti71 : TInfo Try.prog 71 1 8 [.nilFunc] := tinfo_mk inf71 rfl
instance tz71 : TZero Try.prog 71 (.nilFunc) := tzero_mk inf71
instance und72 : TUnd Try.prog 72 (.func #[68] #[68] false) := ⟨Try.underlying72⟩
theorem inf72 : (Try.prog.info? 72).map (fun i => (i.zero, i.size, i.bytes)) = some (some (.nilFunc), 1, 8) := by kernel_rfl
instance ti72 : TInfo Try.prog 72 1 8 [.nilFunc] := tinfo_mk inf72 rfl
instance tz72 : TZero Try.prog 72 (.nilFunc) := tzero_mk inf72
instance und73 : TUnd Try.prog 73 (.slice 89) := ⟨Try.underlying73⟩
theorem inf73 : (Try.prog.info? 73).map (fun i => (i.zero, i.size, i.bytes)) = some (some (.slice none 0 0), 1, 24) := by kernel_rfl
instance ti73 : TInfo Try.prog 73 1 24 [.slice none 0 0] := tinfo_mk inf73 rfl
instance tz73 : TZero Try.prog 73 (.slice none 0 0) := tzero_mk inf73
instance und74 : TUnd Try.prog 74 (.tuple #[73, 23]) := ⟨Try.underlying74⟩
instance und75 : TUnd Try.prog 75 (.func #[67, 68] #[73, 23] false) := ⟨Try.underlying75⟩
theorem inf75 : (Try.prog.info? 75).map (fun i => (i.zero, i.size, i.bytes)) = some (some (.nilFunc), 1, 8) := by kernel_rfl
instance ti75 : TInfo Try.prog 75 1 8 [.nilFunc] := tinfo_mk inf75 rfl
instance tz75 : TZero Try.prog 75 (.nilFunc) := tzero_mk inf75
instance und76 : TUnd Try.prog 76 (.func #[73, 70] #[9, 4] false) := ⟨Try.underlying76⟩
theorem inf76 : (Try.prog.info? 76).map (fun i => (i.zero, i.size, i.bytes)) = some (some (.nilFunc), 1, 8) := by kernel_rfl
instance ti76 : TInfo Try.prog 76 1 8 [.nilFunc] := tinfo_mk inf76 rfl
instance tz76 : TZero Try.prog 76 (.nilFunc) := tzero_mk inf76
instance und77 : TUnd Try.prog 77 (.func #[73, 73] #[4] false) := ⟨Try.underlying77⟩
theorem inf77 : (Try.prog.info? 77).map (fun i => (i.zero, i.size, i.bytes)) = some (some (.nilFunc), 1, 8) := by kernel_rfl
instance ti77 : TInfo Try.prog 77 1 8 [.nilFunc] := tinfo_mk inf77 rfl
instance tz77 : TZero Try.prog 77 (.nilFunc) := tzero_mk inf77
instance und78 : TUnd Try.prog 78 (.func #[67, 68] #[4] false) := ⟨Try.underlying78⟩
theorem inf78 : (Try.prog.info? 78).map (fun i => (i.zero, i.size, i.bytes)) = some (some (.nilFunc), 1, 8) := by kernel_rfl
instance ti78 : TInfo Try.prog 78 1 8 [.nilFunc] := tinfo_mk inf78 rfl
instance tz78 : TZero Try.prog 78 (.nilFunc) := tzero_mk inf78
instance und79 : TUnd Try.prog 79 (.func #[9] #[4] false) := ⟨Try.underlying79⟩
theorem inf79 : (Try.prog.info? 79).map (fun i => (i.zero, i.size, i.bytes)) = some (some (.nilFunc), 1, 8) := by kernel_rfl
instance ti79 : TInfo Try.prog 79 1 8 [.nilFunc] := tinfo_mk inf79 rfl
instance tz79 : TZero Try.prog 79 (.nilFunc) := tzero_mk inf79
instance und80 : TUnd Try.prog 80 (.func #[67, 67] #[4] false) := ⟨Try.underlying80⟩
theorem inf80 : (Try.prog.info? 80).map (fun i => (i.zero, i.size, i.bytes)) = some (some (.nilFunc), 1, 8) := by kernel_rfl
instance ti80 : TInfo Try.prog 80 1 8 [.nilFunc] := tinfo_mk inf80 rfl
instance tz80 : TZero Try.prog 80 (.nilFunc) := tzero_mk inf80
instance und81 : TUnd Try.prog 81 (.func #[68, 68] #[4] false) := ⟨Try.underlying81⟩
theorem inf81 : (Try.prog.info? 81).map (fun i => (i.zero, i.size, i.bytes)) = some (some (.nilFunc), 1, 8) := by kernel_rfl
instance ti81 : TInfo Try.prog 81 1 8 [.nilFunc] := tinfo_mk inf81 rfl
instance tz81 : TZero Try.prog 81 (.nilFunc) := tzero_mk inf81
instance und82 : TUnd Try.prog 82 (.func #[67, 68, 70] #[4] false) := ⟨Try.underlying82⟩
theorem inf82 : (Try.prog.info? 82).map (fun i => (i.zero, i.size, i.bytes)) = some (some (.nilFunc), 1, 8) := by kernel_rfl
instance ti82 : TInfo Try.prog 82 1 8 [.nilFunc] := tinfo_mk inf82 rfl
instance tz82 : TZero Try.prog 82 (.nilFunc) := tzero_mk inf82
instance und83 : TUnd Try.prog 83 (.struct #[⟨ "Member", 9, 0, false, "", "", 0⟩, ⟨ "Topics", 57, 1, false, "", "", 16⟩]) := ⟨Try.underlying83⟩
theorem inf83 : (Try.prog.info? 83).map (fun i => (i.zero, i.size, i.bytes)) = some (some (.agg #[.string ByteArray.empty, .slice none 0 0]), 2, 40) := by kernel_rfl
instance ti83 : TInfo Try.prog 83 2 40 [.string ByteArray.empty, .slice none 0 0] := tinfo_mk inf83 rfl
instance tz83 : TZero Try.prog 83 (.agg #[.string ByteArray.empty, .slice none 0 0]) := tzero_mk inf83
instance tf83_0 : TField Try.prog 83 0 0 := tfield_mk Try.underlying83 rfl rfl (by kernel_rfl)
instance tp83_0 : TPart Try.prog 83 0 0 1 false := tpart_mk Try.underlying83 rfl rfl (by kernel_rfl) Try.underlying9 rfl
instance tf83_1 : TField Try.prog 83 1 1 := tfield_mk Try.underlying83 rfl rfl (by kernel_rfl)
instance tp83_1 : TPart Try.prog 83 1 1 1 false := tpart_mk Try.underlying83 rfl rfl (by kernel_rfl) Try.underlying57 rfl
instance tpl83 : TPlaces Try.prog 83 [(0, 1), (1, 1)] := tplaces_mk Try.underlying83 (by kernel_rfl) (by kernel_rfl)
instance und84 : TUnd Try.prog 84 (.struct #[⟨ "Member", 9, 0, false, "", "", 0⟩, ⟨ "Topics", 57, 1, false, "", "", 16⟩]) := ⟨Try.underlying84⟩
theorem inf84 : (Try.prog.info? 84).map (fun i => (i.zero, i.size, i.bytes)) = some (some (.agg #[.string ByteArray.empty, .slice none 0 0]), 2, 40) := by kernel_rfl
instance ti84 : TInfo Try.prog 84 2 40 [.string ByteArray.empty, .slice none 0 0] := tinfo_mk inf84 rfl
instance tz84 : TZero Try.prog 84 (.agg #[.string ByteArray.empty, .slice none 0 0]) := tzero_mk inf84
instance tf84_0 : TField Try.prog 84 0 0 := tfield_mk Try.underlying84 rfl rfl (by kernel_rfl)
instance tp84_0 : TPart Try.prog 84 0 0 1 false := tpart_mk Try.underlying84 rfl rfl (by kernel_rfl) Try.underlying9 rfl
instance tf84_1 : TField Try.prog 84 1 1 := tfield_mk Try.underlying84 rfl rfl (by kernel_rfl)
instance tp84_1 : TPart Try.prog 84 1 1 1 false := tpart_mk Try.underlying84 rfl rfl (by kernel_rfl) Try.underlying57 rfl
instance tpl84 : TPlaces Try.prog 84 [(0, 1), (1, 1)] := tplaces_mk Try.underlying84 (by kernel_rfl) (by kernel_rfl)
instance und85 : TUnd Try.prog 85 (.func #[84, 9] #[4] false) := ⟨Try.underlying85⟩
theorem inf85 : (Try.prog.info? 85).map (fun i => (i.zero, i.size, i.bytes)) = some (some (.nilFunc), 1, 8) := by kernel_rfl
instance ti85 : TInfo Try.prog 85 1 8 [.nilFunc] := tinfo_mk inf85 rfl
instance tz85 : TZero Try.prog 85 (.nilFunc) := tzero_mk inf85
instance und86 : TUnd Try.prog 86 (.map 70 3) := ⟨Try.underlying86⟩
theorem inf86 : (Try.prog.info? 86).map (fun i => (i.zero, i.size, i.bytes)) = some (some (.map none), 1, 8) := by kernel_rfl
instance ti86 : TInfo Try.prog 86 1 8 [.map none] := tinfo_mk inf86 rfl
instance tz86 : TZero Try.prog 86 (.map none) := tzero_mk inf86
instance und87 : TUnd Try.prog 87 (.slice 70) := ⟨Try.underlying87⟩
theorem inf87 : (Try.prog.info? 87).map (fun i => (i.zero, i.size, i.bytes)) = some (some (.slice none 0 0), 1, 24) := by kernel_rfl
instance ti87 : TInfo Try.prog 87 1 24 [.slice none 0 0] := tinfo_mk inf87 rfl
instance tz87 : TZero Try.prog 87 (.slice none 0 0) := tzero_mk inf87
instance und88 : TUnd Try.prog 88 (.struct #[⟨ "Member", 9, 0, false, "", "", 0⟩, ⟨ "Places", 87, 1, false, "", "", 16⟩]) := ⟨Try.underlying88⟩
theorem inf88 : (Try.prog.info? 88).map (fun i => (i.zero, i.size, i.bytes)) = some (some (.agg #[.string ByteArray.empty, .slice none 0 0]), 2, 40) := by kernel_rfl
instance ti88 : TInfo Try.prog 88 2 40 [.string ByteArray.empty, .slice none 0 0] := tinfo_mk inf88 rfl
instance tz88 : TZero Try.prog 88 (.agg #[.string ByteArray.empty, .slice none 0 0]) := tzero_mk inf88
instance tf88_0 : TField Try.prog 88 0 0 := tfield_mk Try.underlying88 rfl rfl (by kernel_rfl)
instance tp88_0 : TPart Try.prog 88 0 0 1 false := tpart_mk Try.underlying88 rfl rfl (by kernel_rfl) Try.underlying9 rfl
instance tf88_1 : TField Try.prog 88 1 1 := tfield_mk Try.underlying88 rfl rfl (by kernel_rfl)
instance tp88_1 : TPart Try.prog 88 1 1 1 false := tpart_mk Try.underlying88 rfl rfl (by kernel_rfl) Try.underlying87 rfl
instance tpl88 : TPlaces Try.prog 88 [(0, 1), (1, 1)] := tplaces_mk Try.underlying88 (by kernel_rfl) (by kernel_rfl)
instance und89 : TUnd Try.prog 89 (.struct #[⟨ "Member", 9, 0, false, "", "", 0⟩, ⟨ "Places", 87, 1, false, "", "", 16⟩]) := ⟨Try.underlying89⟩
theorem inf89 : (Try.prog.info? 89).map (fun i => (i.zero, i.size, i.bytes)) = some (some (.agg #[.string ByteArray.empty, .slice none 0 0]), 2, 40) := by kernel_rfl
instance ti89 : TInfo Try.prog 89 2 40 [.string ByteArray.empty, .slice none 0 0] := tinfo_mk inf89 rfl
instance tz89 : TZero Try.prog 89 (.agg #[.string ByteArray.empty, .slice none 0 0]) := tzero_mk inf89
instance tf89_0 : TField Try.prog 89 0 0 := tfield_mk Try.underlying89 rfl rfl (by kernel_rfl)
instance tp89_0 : TPart Try.prog 89 0 0 1 false := tpart_mk Try.underlying89 rfl rfl (by kernel_rfl) Try.underlying9 rfl
instance tf89_1 : TField Try.prog 89 1 1 := tfield_mk Try.underlying89 rfl rfl (by kernel_rfl)
instance tp89_1 : TPart Try.prog 89 1 1 1 false := tpart_mk Try.underlying89 rfl rfl (by kernel_rfl) Try.underlying87 rfl
instance tpl89 : TPlaces Try.prog 89 [(0, 1), (1, 1)] := tplaces_mk Try.underlying89 (by kernel_rfl) (by kernel_rfl)
instance und90 : TUnd Try.prog 90 (.struct #[⟨ "Name", 9, 0, false, "", "", 0⟩, ⟨ "Parts", 3, 1, false, "", "", 16⟩]) := ⟨Try.underlying90⟩
theorem inf90 : (Try.prog.info? 90).map (fun i => (i.zero, i.size, i.bytes)) = some (some (.agg #[.string ByteArray.empty, .int .i64 0]), 2, 24) := by kernel_rfl
instance ti90 : TInfo Try.prog 90 2 24 [.string ByteArray.empty, .int .i64 0] := tinfo_mk inf90 rfl
instance tz90 : TZero Try.prog 90 (.agg #[.string ByteArray.empty, .int .i64 0]) := tzero_mk inf90
instance tf90_0 : TField Try.prog 90 0 0 := tfield_mk Try.underlying90 rfl rfl (by kernel_rfl)
instance tp90_0 : TPart Try.prog 90 0 0 1 false := tpart_mk Try.underlying90 rfl rfl (by kernel_rfl) Try.underlying9 rfl
instance tf90_1 : TField Try.prog 90 1 1 := tfield_mk Try.underlying90 rfl rfl (by kernel_rfl)
instance tp90_1 : TPart Try.prog 90 1 1 1 false := tpart_mk Try.underlying90 rfl rfl (by kernel_rfl) Try.underlying3 rfl
instance tpl90 : TPlaces Try.prog 90 [(0, 1), (1, 1)] := tplaces_mk Try.underlying90 (by kernel_rfl) (by kernel_rfl)
instance und91 : TUnd Try.prog 91 (.struct #[⟨ "Name", 9, 0, false, "", "", 0⟩, ⟨ "Parts", 3, 1, false, "", "", 16⟩]) := ⟨Try.underlying91⟩
theorem inf91 : (Try.prog.info? 91).map (fun i => (i.zero, i.size, i.bytes)) = some (some (.agg #[.string ByteArray.empty, .int .i64 0]), 2, 24) := by kernel_rfl
instance ti91 : TInfo Try.prog 91 2 24 [.string ByteArray.empty, .int .i64 0] := tinfo_mk inf91 rfl
instance tz91 : TZero Try.prog 91 (.agg #[.string ByteArray.empty, .int .i64 0]) := tzero_mk inf91
instance tf91_0 : TField Try.prog 91 0 0 := tfield_mk Try.underlying91 rfl rfl (by kernel_rfl)
instance tp91_0 : TPart Try.prog 91 0 0 1 false := tpart_mk Try.underlying91 rfl rfl (by kernel_rfl) Try.underlying9 rfl
instance tf91_1 : TField Try.prog 91 1 1 := tfield_mk Try.underlying91 rfl rfl (by kernel_rfl)
instance tp91_1 : TPart Try.prog 91 1 1 1 false := tpart_mk Try.underlying91 rfl rfl (by kernel_rfl) Try.underlying3 rfl
instance tpl91 : TPlaces Try.prog 91 [(0, 1), (1, 1)] := tplaces_mk Try.underlying91 (by kernel_rfl) (by kernel_rfl)
instance und92 : TUnd Try.prog 92 (.func #[89, 9] #[3] false) := ⟨Try.underlying92⟩
theorem inf92 : (Try.prog.info? 92).map (fun i => (i.zero, i.size, i.bytes)) = some (some (.nilFunc), 1, 8) := by kernel_rfl
instance ti92 : TInfo Try.prog 92 1 8 [.nilFunc] := tinfo_mk inf92 rfl
instance tz92 : TZero Try.prog 92 (.nilFunc) := tzero_mk inf92
instance und93 : TUnd Try.prog 93 (.func #[67, 68, 3] #[4] false) := ⟨Try.underlying93⟩
theorem inf93 : (Try.prog.info? 93).map (fun i => (i.zero, i.size, i.bytes)) = some (some (.nilFunc), 1, 8) := by kernel_rfl
instance ti93 : TInfo Try.prog 93 1 8 [.nilFunc] := tinfo_mk inf93 rfl
instance tz93 : TZero Try.prog 93 (.nilFunc) := tzero_mk inf93
instance und94 : TUnd Try.prog 94 (.func #[26, 49] #[4] false) := ⟨Try.underlying94⟩
theorem inf94 : (Try.prog.info? 94).map (fun i => (i.zero, i.size, i.bytes)) = some (some (.nilFunc), 1, 8) := by kernel_rfl
instance ti94 : TInfo Try.prog 94 1 8 [.nilFunc] := tinfo_mk inf94 rfl
instance tz94 : TZero Try.prog 94 (.nilFunc) := tzero_mk inf94
instance und95 : TUnd Try.prog 95 (.func #[22, 96] #[3] false) := ⟨Try.underlying95⟩
theorem inf95 : (Try.prog.info? 95).map (fun i => (i.zero, i.size, i.bytes)) = some (some (.nilFunc), 1, 8) := by kernel_rfl
instance ti95 : TInfo Try.prog 95 1 8 [.nilFunc] := tinfo_mk inf95 rfl
instance tz95 : TZero Try.prog 95 (.nilFunc) := tzero_mk inf95
instance und96 : TUnd Try.prog 96 (.func #[27] #[4] false) := ⟨Try.underlying96⟩
theorem inf96 : (Try.prog.info? 96).map (fun i => (i.zero, i.size, i.bytes)) = some (some (.nilFunc), 1, 8) := by kernel_rfl
instance ti96 : TInfo Try.prog 96 1 8 [.nilFunc] := tinfo_mk inf96 rfl
instance tz96 : TZero Try.prog 96 (.nilFunc) := tzero_mk inf96
instance und97 : TUnd Try.prog 97 (.func #[26, 3, 3] #[26] false) := ⟨Try.underlying97⟩
theorem inf97 : (Try.prog.info? 97).map (fun i => (i.zero, i.size, i.bytes)) = some (some (.nilFunc), 1, 8) := by kernel_rfl
instance ti97 : TInfo Try.prog 97 1 8 [.nilFunc] := tinfo_mk inf97 rfl
instance tz97 : TZero Try.prog 97 (.nilFunc) := tzero_mk inf97
instance und98 : TUnd Try.prog 98 (.func #[26, 49] #[26] false) := ⟨Try.underlying98⟩
theorem inf98 : (Try.prog.info? 98).map (fun i => (i.zero, i.size, i.bytes)) = some (some (.nilFunc), 1, 8) := by kernel_rfl
instance ti98 : TInfo Try.prog 98 1 8 [.nilFunc] := tinfo_mk inf98 rfl
instance tz98 : TZero Try.prog 98 (.nilFunc) := tzero_mk inf98
instance und99 : TUnd Try.prog 99 (.func #[57] #[57] false) := ⟨Try.underlying99⟩
theorem inf99 : (Try.prog.info? 99).map (fun i => (i.zero, i.size, i.bytes)) = some (some (.nilFunc), 1, 8) := by kernel_rfl
instance ti99 : TInfo Try.prog 99 1 8 [.nilFunc] := tinfo_mk inf99 rfl
instance tz99 : TZero Try.prog 99 (.nilFunc) := tzero_mk inf99
instance und100 : TUnd Try.prog 100 (.struct #[⟨ "made", 4, 0, false, "", "conduit/queue", 0⟩, ⟨ "l", 57, 1, false, "", "conduit/queue", 8⟩]) := ⟨Try.underlying100⟩
theorem inf100 : (Try.prog.info? 100).map (fun i => (i.zero, i.size, i.bytes)) = some (some (.agg #[.bool false, .slice none 0 0]), 2, 32) := by kernel_rfl
instance ti100 : TInfo Try.prog 100 2 32 [.bool false, .slice none 0 0] := tinfo_mk inf100 rfl
instance tz100 : TZero Try.prog 100 (.agg #[.bool false, .slice none 0 0]) := tzero_mk inf100
instance tf100_0 : TField Try.prog 100 0 0 := tfield_mk Try.underlying100 rfl rfl (by kernel_rfl)
instance tp100_0 : TPart Try.prog 100 0 0 1 false := tpart_mk Try.underlying100 rfl rfl (by kernel_rfl) Try.underlying4 rfl
instance tf100_1 : TField Try.prog 100 1 1 := tfield_mk Try.underlying100 rfl rfl (by kernel_rfl)
instance tp100_1 : TPart Try.prog 100 1 1 1 false := tpart_mk Try.underlying100 rfl rfl (by kernel_rfl) Try.underlying57 rfl
instance tpl100 : TPlaces Try.prog 100 [(0, 1), (1, 1)] := tplaces_mk Try.underlying100 (by kernel_rfl) (by kernel_rfl)
instance und101 : TUnd Try.prog 101 (.struct #[⟨ "made", 4, 0, false, "", "conduit/queue", 0⟩, ⟨ "l", 57, 1, false, "", "conduit/queue", 8⟩]) := ⟨Try.underlying101⟩
theorem inf101 : (Try.prog.info? 101).map (fun i => (i.zero, i.size, i.bytes)) = some (some (.agg #[.bool false, .slice none 0 0]), 2, 32) := by kernel_rfl
instance ti101 : TInfo Try.prog 101 2 32 [.bool false, .slice none 0 0] := tinfo_mk inf101 rfl
instance tz101 : TZero Try.prog 101 (.agg #[.bool false, .slice none 0 0]) := tzero_mk inf101
instance tf101_0 : TField Try.prog 101 0 0 := tfield_mk Try.underlying101 rfl rfl (by kernel_rfl)
instance tp101_0 : TPart Try.prog 101 0 0 1 false := tpart_mk Try.underlying101 rfl rfl (by kernel_rfl) Try.underlying4 rfl
instance tf101_1 : TField Try.prog 101 1 1 := tfield_mk Try.underlying101 rfl rfl (by kernel_rfl)
instance tp101_1 : TPart Try.prog 101 1 1 1 false := tpart_mk Try.underlying101 rfl rfl (by kernel_rfl) Try.underlying57 rfl
instance tpl101 : TPlaces Try.prog 101 [(0, 1), (1, 1)] := tplaces_mk Try.underlying101 (by kernel_rfl) (by kernel_rfl)
instance und102 : TUnd Try.prog 102 (.func #[3] #[9, 4] false) := ⟨Try.underlying102⟩
theorem inf102 : (Try.prog.info? 102).map (fun i => (i.zero, i.size, i.bytes)) = some (some (.nilFunc), 1, 8) := by kernel_rfl
instance ti102 : TInfo Try.prog 102 1 8 [.nilFunc] := tinfo_mk inf102 rfl
instance tz102 : TZero Try.prog 102 (.nilFunc) := tzero_mk inf102
instance und103 : TUnd Try.prog 103 (.func #[84] #[84] false) := ⟨Try.underlying103⟩
theorem inf103 : (Try.prog.info? 103).map (fun i => (i.zero, i.size, i.bytes)) = some (some (.nilFunc), 1, 8) := by kernel_rfl
instance ti103 : TInfo Try.prog 103 1 8 [.nilFunc] := tinfo_mk inf103 rfl
instance tz103 : TZero Try.prog 103 (.nilFunc) := tzero_mk inf103
instance und104 : TUnd Try.prog 104 (.func #[57, 9] #[4] false) := ⟨Try.underlying104⟩
theorem inf104 : (Try.prog.info? 104).map (fun i => (i.zero, i.size, i.bytes)) = some (some (.nilFunc), 1, 8) := by kernel_rfl
instance ti104 : TInfo Try.prog 104 1 8 [.nilFunc] := tinfo_mk inf104 rfl
instance tz104 : TZero Try.prog 104 (.nilFunc) := tzero_mk inf104
instance und105 : TUnd Try.prog 105 (.pointer 89) := ⟨Try.underlying105⟩
theorem inf105 : (Try.prog.info? 105).map (fun i => (i.zero, i.size, i.bytes)) = some (some (.pointer none), 1, 8) := by kernel_rfl
instance ti105 : TInfo Try.prog 105 1 8 [.pointer none] := tinfo_mk inf105 rfl
instance tz105 : TZero Try.prog 105 (.pointer none) := tzero_mk inf105
instance und106 : TUnd Try.prog 106 (.func #[73, 108] #[3] false) := ⟨Try.underlying106⟩
theorem inf106 : (Try.prog.info? 106).map (fun i => (i.zero, i.size, i.bytes)) = some (some (.nilFunc), 1, 8) := by kernel_rfl
instance ti106 : TInfo Try.prog 106 1 8 [.nilFunc] := tinfo_mk inf106 rfl
instance tz106 : TZero Try.prog 106 (.nilFunc) := tzero_mk inf106
instance und107 : TUnd Try.prog 107 (.func #[87, 70] #[4] false) := ⟨Try.underlying107⟩
theorem inf107 : (Try.prog.info? 107).map (fun i => (i.zero, i.size, i.bytes)) = some (some (.nilFunc), 1, 8) := by kernel_rfl
instance ti107 : TInfo Try.prog 107 1 8 [.nilFunc] := tinfo_mk inf107 rfl
instance tz107 : TZero Try.prog 107 (.nilFunc) := tzero_mk inf107
instance und108 : TUnd Try.prog 108 (.func #[89] #[4] false) := ⟨Try.underlying108⟩
theorem inf108 : (Try.prog.info? 108).map (fun i => (i.zero, i.size, i.bytes)) = some (some (.nilFunc), 1, 8) := by kernel_rfl
instance ti108 : TInfo Try.prog 108 1 8 [.nilFunc] := tinfo_mk inf108 rfl
instance tz108 : TZero Try.prog 108 (.nilFunc) := tzero_mk inf108
instance und109 : TUnd Try.prog 109 (.func #[89, 89] #[4] false) := ⟨Try.underlying109⟩
theorem inf109 : (Try.prog.info? 109).map (fun i => (i.zero, i.size, i.bytes)) = some (some (.nilFunc), 1, 8) := by kernel_rfl
instance ti109 : TInfo Try.prog 109 1 8 [.nilFunc] := tinfo_mk inf109 rfl
instance tz109 : TZero Try.prog 109 (.nilFunc) := tzero_mk inf109
instance und110 : TUnd Try.prog 110 (.func #[3, 3, 111] #[4] false) := ⟨Try.underlying110⟩
theorem inf110 : (Try.prog.info? 110).map (fun i => (i.zero, i.size, i.bytes)) = some (some (.nilFunc), 1, 8) := by kernel_rfl
instance ti110 : TInfo Try.prog 110 1 8 [.nilFunc] := tinfo_mk inf110 rfl
instance tz110 : TZero Try.prog 110 (.nilFunc) := tzero_mk inf110
instance und111 : TUnd Try.prog 111 (.func #[3] #[9] false) := ⟨Try.underlying111⟩
theorem inf111 : (Try.prog.info? 111).map (fun i => (i.zero, i.size, i.bytes)) = some (some (.nilFunc), 1, 8) := by kernel_rfl
instance ti111 : TInfo Try.prog 111 1 8 [.nilFunc] := tinfo_mk inf111 rfl
instance tz111 : TZero Try.prog 111 (.nilFunc) := tzero_mk inf111
instance und112 : TUnd Try.prog 112 (.func #[67] #[4] false) := ⟨Try.underlying112⟩
theorem inf112 : (Try.prog.info? 112).map (fun i => (i.zero, i.size, i.bytes)) = some (some (.nilFunc), 1, 8) := by kernel_rfl
instance ti112 : TInfo Try.prog 112 1 8 [.nilFunc] := tinfo_mk inf112 rfl
instance tz112 : TZero Try.prog 112 (.nilFunc) := tzero_mk inf112
instance und113 : TUnd Try.prog 113 (.func #[68] #[4] false) := ⟨Try.underlying113⟩
theorem inf113 : (Try.prog.info? 113).map (fun i => (i.zero, i.size, i.bytes)) = some (some (.nilFunc), 1, 8) := by kernel_rfl
instance ti113 : TInfo Try.prog 113 1 8 [.nilFunc] := tinfo_mk inf113 rfl
instance tz113 : TZero Try.prog 113 (.nilFunc) := tzero_mk inf113
instance und114 : TUnd Try.prog 114 (.func #[84, 84] #[4] false) := ⟨Try.underlying114⟩
theorem inf114 : (Try.prog.info? 114).map (fun i => (i.zero, i.size, i.bytes)) = some (some (.nilFunc), 1, 8) := by kernel_rfl
instance ti114 : TInfo Try.prog 114 1 8 [.nilFunc] := tinfo_mk inf114 rfl
instance tz114 : TZero Try.prog 114 (.nilFunc) := tzero_mk inf114
instance und115 : TUnd Try.prog 115 (.func #[26, 49] #[3] false) := ⟨Try.underlying115⟩
theorem inf115 : (Try.prog.info? 115).map (fun i => (i.zero, i.size, i.bytes)) = some (some (.nilFunc), 1, 8) := by kernel_rfl
instance ti115 : TInfo Try.prog 115 1 8 [.nilFunc] := tinfo_mk inf115 rfl
instance tz115 : TZero Try.prog 115 (.nilFunc) := tzero_mk inf115
instance und116 : TUnd Try.prog 116 (.func #[57, 3, 3] #[57] false) := ⟨Try.underlying116⟩
theorem inf116 : (Try.prog.info? 116).map (fun i => (i.zero, i.size, i.bytes)) = some (some (.nilFunc), 1, 8) := by kernel_rfl
instance ti116 : TInfo Try.prog 116 1 8 [.nilFunc] := tinfo_mk inf116 rfl
instance tz116 : TZero Try.prog 116 (.nilFunc) := tzero_mk inf116
instance und117 : TUnd Try.prog 117 (.func #[57, 9] #[3] false) := ⟨Try.underlying117⟩
theorem inf117 : (Try.prog.info? 117).map (fun i => (i.zero, i.size, i.bytes)) = some (some (.nilFunc), 1, 8) := by kernel_rfl
instance ti117 : TInfo Try.prog 117 1 8 [.nilFunc] := tinfo_mk inf117 rfl
instance tz117 : TZero Try.prog 117 (.nilFunc) := tzero_mk inf117
instance und118 : TUnd Try.prog 118 (.func #[87, 70] #[3] false) := ⟨Try.underlying118⟩
theorem inf118 : (Try.prog.info? 118).map (fun i => (i.zero, i.size, i.bytes)) = some (some (.nilFunc), 1, 8) := by kernel_rfl
instance ti118 : TInfo Try.prog 118 1 8 [.nilFunc] := tinfo_mk inf118 rfl
instance tz118 : TZero Try.prog 118 (.nilFunc) := tzero_mk inf118
instance und119 : TUnd Try.prog 119 (.func #[87, 87] #[4] false) := ⟨Try.underlying119⟩
theorem inf119 : (Try.prog.info? 119).map (fun i => (i.zero, i.size, i.bytes)) = some (some (.nilFunc), 1, 8) := by kernel_rfl
instance ti119 : TInfo Try.prog 119 1 8 [.nilFunc] := tinfo_mk inf119 rfl
instance tz119 : TZero Try.prog 119 (.nilFunc) := tzero_mk inf119
instance und120 : TUnd Try.prog 120 (.func #[57, 3] #[4] false) := ⟨Try.underlying120⟩
theorem inf120 : (Try.prog.info? 120).map (fun i => (i.zero, i.size, i.bytes)) = some (some (.nilFunc), 1, 8) := by kernel_rfl
instance ti120 : TInfo Try.prog 120 1 8 [.nilFunc] := tinfo_mk inf120 rfl
instance tz120 : TZero Try.prog 120 (.nilFunc) := tzero_mk inf120
instance und121 : TUnd Try.prog 121 (.func #[] #[9] false) := ⟨Try.underlying121⟩
theorem inf121 : (Try.prog.info? 121).map (fun i => (i.zero, i.size, i.bytes)) = some (some (.nilFunc), 1, 8) := by kernel_rfl
instance ti121 : TInfo Try.prog 121 1 8 [.nilFunc] := tinfo_mk inf121 rfl
instance tz121 : TZero Try.prog 121 (.nilFunc) := tzero_mk inf121
instance und124 : TUnd Try.prog 124 (.array 0 16) := ⟨Try.underlying124⟩
theorem inf124 : (Try.prog.info? 124).map (fun i => (i.zero, i.size, i.bytes)) = some (some (.agg #[]), 0, 0) := by kernel_rfl
instance ti124 : TInfo Try.prog 124 0 0 [] := tinfo_mk inf124 rfl
instance tz124 : TZero Try.prog 124 (.agg #[]) := tzero_mk inf124
instance und127 : TUnd Try.prog 127 (.int .u32) := ⟨Try.underlying127⟩
theorem inf127 : (Try.prog.info? 127).map (fun i => (i.zero, i.size, i.bytes)) = some (some (.int .u32 0), 1, 4) := by kernel_rfl
instance ti127 : TInfo Try.prog 127 1 4 [.int .u32 0] := tinfo_mk inf127 rfl
instance tz127 : TZero Try.prog 127 (.int .u32 0) := tzero_mk inf127
instance und130 : TUnd Try.prog 130 (.func #[137, 137] #[4] false) := ⟨Try.underlying130⟩
theorem inf130 : (Try.prog.info? 130).map (fun i => (i.zero, i.size, i.bytes)) = some (some (.nilFunc), 1, 8) := by kernel_rfl
instance ti130 : TInfo Try.prog 130 1 8 [.nilFunc] := tinfo_mk inf130 rfl
instance tz130 : TZero Try.prog 130 (.nilFunc) := tzero_mk inf130
instance und131 : TUnd Try.prog 131 (.pointer 5) := ⟨Try.underlying131⟩
theorem inf131 : (Try.prog.info? 131).map (fun i => (i.zero, i.size, i.bytes)) = some (some (.pointer none), 1, 8) := by kernel_rfl
instance ti131 : TInfo Try.prog 131 1 8 [.pointer none] := tinfo_mk inf131 rfl
instance tz131 : TZero Try.prog 131 (.pointer none) := tzero_mk inf131
instance und134 : TUnd Try.prog 134 (.struct #[⟨ "Size_", 12, 0, false, "", "", 0⟩, ⟨ "PtrBytes", 12, 1, false, "", "", 8⟩, ⟨ "Hash", 127, 2, false, "", "", 16⟩, ⟨ "TFlag", 128, 3, false, "", "", 20⟩, ⟨ "Align_", 5, 4, false, "", "", 21⟩, ⟨ "FieldAlign_", 5, 5, false, "", "", 22⟩, ⟨ "Kind_", 129, 6, false, "", "", 23⟩, ⟨ "Equal", 130, 7, false, "", "", 24⟩, ⟨ "GCData", 131, 8, false, "", "", 32⟩, ⟨ "Str", 132, 9, false, "", "", 40⟩, ⟨ "PtrToThis", 133, 10, false, "", "", 44⟩]) := ⟨Try.underlying134⟩
theorem inf134 : (Try.prog.info? 134).map (fun i => (i.zero, i.size, i.bytes)) = some (some (.agg #[.int .u64 0, .int .u64 0, .int .u32 0, .int .u8 0, .int .u8 0, .int .u8 0, .int .u8 0, .nilFunc, .pointer none, .int .i32 0, .int .i32 0]), 11, 48) := by kernel_rfl
instance ti134 : TInfo Try.prog 134 11 48 [.int .u64 0, .int .u64 0, .int .u32 0, .int .u8 0, .int .u8 0, .int .u8 0, .int .u8 0, .nilFunc, .pointer none, .int .i32 0, .int .i32 0] := tinfo_mk inf134 rfl
instance tz134 : TZero Try.prog 134 (.agg #[.int .u64 0, .int .u64 0, .int .u32 0, .int .u8 0, .int .u8 0, .int .u8 0, .int .u8 0, .nilFunc, .pointer none, .int .i32 0, .int .i32 0]) := tzero_mk inf134
instance tf134_0 : TField Try.prog 134 0 0 := tfield_mk Try.underlying134 rfl rfl (by kernel_rfl)
instance tp134_0 : TPart Try.prog 134 0 0 1 false := tpart_mk Try.underlying134 rfl rfl (by kernel_rfl) Try.underlying12 rfl
instance tf134_1 : TField Try.prog 134 1 1 := tfield_mk Try.underlying134 rfl rfl (by kernel_rfl)
instance tp134_1 : TPart Try.prog 134 1 1 1 false := tpart_mk Try.underlying134 rfl rfl (by kernel_rfl) Try.underlying12 rfl
instance tf134_2 : TField Try.prog 134 2 2 := tfield_mk Try.underlying134 rfl rfl (by kernel_rfl)
instance tp134_2 : TPart Try.prog 134 2 2 1 false := tpart_mk Try.underlying134 rfl rfl (by kernel_rfl) Try.underlying127 rfl
instance tf134_3 : TField Try.prog 134 3 3 := tfield_mk Try.underlying134 rfl rfl (by kernel_rfl)
instance tp134_3 : TPart Try.prog 134 3 3 1 false := tpart_mk Try.underlying134 rfl rfl (by kernel_rfl) Try.underlying128 rfl
instance tf134_4 : TField Try.prog 134 4 4 := tfield_mk Try.underlying134 rfl rfl (by kernel_rfl)
instance tp134_4 : TPart Try.prog 134 4 4 1 false := tpart_mk Try.underlying134 rfl rfl (by kernel_rfl) Try.underlying5 rfl
instance tf134_5 : TField Try.prog 134 5 5 := tfield_mk Try.underlying134 rfl rfl (by kernel_rfl)
instance tp134_5 : TPart Try.prog 134 5 5 1 false := tpart_mk Try.underlying134 rfl rfl (by kernel_rfl) Try.underlying5 rfl
instance tf134_6 : TField Try.prog 134 6 6 := tfield_mk Try.underlying134 rfl rfl (by kernel_rfl)
instance tp134_6 : TPart Try.prog 134 6 6 1 false := tpart_mk Try.underlying134 rfl rfl (by kernel_rfl) Try.underlying129 rfl
instance tf134_7 : TField Try.prog 134 7 7 := tfield_mk Try.underlying134 rfl rfl (by kernel_rfl)
instance tp134_7 : TPart Try.prog 134 7 7 1 false := tpart_mk Try.underlying134 rfl rfl (by kernel_rfl) Try.underlying130 rfl
instance tf134_8 : TField Try.prog 134 8 8 := tfield_mk Try.underlying134 rfl rfl (by kernel_rfl)
instance tp134_8 : TPart Try.prog 134 8 8 1 false := tpart_mk Try.underlying134 rfl rfl (by kernel_rfl) Try.underlying131 rfl
instance tf134_9 : TField Try.prog 134 9 9 := tfield_mk Try.underlying134 rfl rfl (by kernel_rfl)
instance tp134_9 : TPart Try.prog 134 9 9 1 false := tpart_mk Try.underlying134 rfl rfl (by kernel_rfl) Try.underlying132 rfl
instance tf134_10 : TField Try.prog 134 10 10 := tfield_mk Try.underlying134 rfl rfl (by kernel_rfl)
instance tp134_10 : TPart Try.prog 134 10 10 1 false := tpart_mk Try.underlying134 rfl rfl (by kernel_rfl) Try.underlying133 rfl
instance tpl134 : TPlaces Try.prog 134 [(0, 1), (1, 1), (2, 1), (3, 1), (4, 1), (5, 1), (6, 1), (7, 1), (8, 1), (9, 1), (10, 1)] := tplaces_mk Try.underlying134 (by kernel_rfl) (by kernel_rfl)
instance und136 : TUnd Try.prog 136 (.func #[79] #[3] false) := ⟨Try.underlying136⟩
theorem inf136 : (Try.prog.info? 136).map (fun i => (i.zero, i.size, i.bytes)) = some (some (.nilFunc), 1, 8) := by kernel_rfl
instance ti136 : TInfo Try.prog 136 1 8 [.nilFunc] := tinfo_mk inf136 rfl
instance tz136 : TZero Try.prog 136 (.nilFunc) := tzero_mk inf136
instance tfl27 : TFlat Try.prog 27 [.i .i64, .i .i64] := tflat_arr (k := .i .i64) (n := 2) Try.underlying27 Try.underlying3 (by kernel_rfl) (by kernel_rfl)
instance tfl41 : TFlat Try.prog 41 [.i .i64, .i .i64] := tflat_struct Try.underlying41 ⟨by decide, rfl, Try.underlying3, by decide, rfl, Try.underlying3, trivial⟩ (by kernel_rfl) (by kernel_rfl)
instance tfl42 : TFlat Try.prog 42 [.i .i64, .i .i64] := tflat_struct Try.underlying42 ⟨by decide, rfl, Try.underlying3, by decide, rfl, Try.underlying3, trivial⟩ (by kernel_rfl) (by kernel_rfl)
instance tfl69 : TFlat Try.prog 69 [.s, .i .i64] := tflat_struct Try.underlying69 ⟨by decide, rfl, Try.underlying9, by decide, rfl, Try.underlying3, trivial⟩ (by kernel_rfl) (by kernel_rfl)
instance tfl70 : TFlat Try.prog 70 [.s, .i .i64] := tflat_struct Try.underlying70 ⟨by decide, rfl, Try.underlying9, by decide, rfl, Try.underlying3, trivial⟩ (by kernel_rfl) (by kernel_rfl)
instance tfl90 : TFlat Try.prog 90 [.s, .i .i64] := tflat_struct Try.underlying90 ⟨by decide, rfl, Try.underlying9, by decide, rfl, Try.underlying3, trivial⟩ (by kernel_rfl) (by kernel_rfl)
instance tfl91 : TFlat Try.prog 91 [.s, .i .i64] := tflat_struct Try.underlying91 ⟨by decide, rfl, Try.underlying9, by decide, rfl, Try.underlying3, trivial⟩ (by kernel_rfl) (by kernel_rfl)
instance fn3 : FnOk Try.prog 3 := ⟨⟨_, Try.func3, by kernel_rfl, by kernel_rfl⟩⟩
instance fn4 : FnOk Try.prog 4 := ⟨⟨_, Try.func4, by kernel_rfl, by kernel_rfl⟩⟩
instance fn5 : FnOk Try.prog 5 := ⟨⟨_, Try.func5, by kernel_rfl, by kernel_rfl⟩⟩
instance fn6 : FnOk Try.prog 6 := ⟨⟨_, Try.func6, by kernel_rfl, by kernel_rfl⟩⟩
instance fn7 : FnOk Try.prog 7 := ⟨⟨_, Try.func7, by kernel_rfl, by kernel_rfl⟩⟩
instance fn8 : FnOk Try.prog 8 := ⟨⟨_, Try.func8, by kernel_rfl, by kernel_rfl⟩⟩
instance fn9 : FnOk Try.prog 9 := ⟨⟨_, Try.func9, by kernel_rfl, by kernel_rfl⟩⟩
instance fn10 : FnOk Try.prog 10 := ⟨⟨_, Try.func10, by kernel_rfl, by kernel_rfl⟩⟩
instance fn11 : FnOk Try.prog 11 := ⟨⟨_, Try.func11, by kernel_rfl, by kernel_rfl⟩⟩
instance fn12 : FnOk Try.prog 12 := ⟨⟨_, Try.func12, by kernel_rfl, by kernel_rfl⟩⟩
instance fn13 : FnOk Try.prog 13 := ⟨⟨_, Try.func13, by kernel_rfl, by kernel_rfl⟩⟩
instance fn14 : FnOk Try.prog 14 := ⟨⟨_, Try.func14, by kernel_rfl, by kernel_rfl⟩⟩
instance fn15 : FnOk Try.prog 15 := ⟨⟨_, Try.func15, by kernel_rfl, by kernel_rfl⟩⟩
instance fn16 : FnOk Try.prog 16 := ⟨⟨_, Try.func16, by kernel_rfl, by kernel_rfl⟩⟩
instance fn17 : FnOk Try.prog 17 := ⟨⟨_, Try.func17, by kernel_rfl, by kernel_rfl⟩⟩
instance fn18 : FnOk Try.prog 18 := ⟨⟨_, Try.func18, by kernel_rfl, by kernel_rfl⟩⟩
instance fn19 : FnOk Try.prog 19 := ⟨⟨_, Try.func19, by kernel_rfl, by kernel_rfl⟩⟩
instance fn20 : FnOk Try.prog 20 := ⟨⟨_, Try.func20, by kernel_rfl, by kernel_rfl⟩⟩
instance fn21 : FnOk Try.prog 21 := ⟨⟨_, Try.func21, by kernel_rfl, by kernel_rfl⟩⟩
instance fn22 : FnOk Try.prog 22 := ⟨⟨_, Try.func22, by kernel_rfl, by kernel_rfl⟩⟩
instance fn23 : FnOk Try.prog 23 := ⟨⟨_, Try.func23, by kernel_rfl, by kernel_rfl⟩⟩
instance fn24 : FnOk Try.prog 24 := ⟨⟨_, Try.func24, by kernel_rfl, by kernel_rfl⟩⟩
instance fn25 : FnOk Try.prog 25 := ⟨⟨_, Try.func25, by kernel_rfl, by kernel_rfl⟩⟩
instance fn26 : FnOk Try.prog 26 := ⟨⟨_, Try.func26, by kernel_rfl, by kernel_rfl⟩⟩
instance fn27 : FnOk Try.prog 27 := ⟨⟨_, Try.func27, by kernel_rfl, by kernel_rfl⟩⟩
instance fn28 : FnOk Try.prog 28 := ⟨⟨_, Try.func28, by kernel_rfl, by kernel_rfl⟩⟩
instance fn29 : FnOk Try.prog 29 := ⟨⟨_, Try.func29, by kernel_rfl, by kernel_rfl⟩⟩
instance fn30 : FnOk Try.prog 30 := ⟨⟨_, Try.func30, by kernel_rfl, by kernel_rfl⟩⟩
instance fn31 : FnOk Try.prog 31 := ⟨⟨_, Try.func31, by kernel_rfl, by kernel_rfl⟩⟩
instance fn32 : FnOk Try.prog 32 := ⟨⟨_, Try.func32, by kernel_rfl, by kernel_rfl⟩⟩
instance fn33 : FnOk Try.prog 33 := ⟨⟨_, Try.func33, by kernel_rfl, by kernel_rfl⟩⟩
instance fn34 : FnOk Try.prog 34 := ⟨⟨_, Try.func34, by kernel_rfl, by kernel_rfl⟩⟩
instance fn35 : FnOk Try.prog 35 := ⟨⟨_, Try.func35, by kernel_rfl, by kernel_rfl⟩⟩
instance fn36 : FnOk Try.prog 36 := ⟨⟨_, Try.func36, by kernel_rfl, by kernel_rfl⟩⟩
instance fn37 : FnOk Try.prog 37 := ⟨⟨_, Try.func37, by kernel_rfl, by kernel_rfl⟩⟩
instance fn38 : FnOk Try.prog 38 := ⟨⟨_, Try.func38, by kernel_rfl, by kernel_rfl⟩⟩
instance fn39 : FnOk Try.prog 39 := ⟨⟨_, Try.func39, by kernel_rfl, by kernel_rfl⟩⟩
instance fn40 : FnOk Try.prog 40 := ⟨⟨_, Try.func40, by kernel_rfl, by kernel_rfl⟩⟩
instance fn41 : FnOk Try.prog 41 := ⟨⟨_, Try.func41, by kernel_rfl, by kernel_rfl⟩⟩
instance fn42 : FnOk Try.prog 42 := ⟨⟨_, Try.func42, by kernel_rfl, by kernel_rfl⟩⟩
instance fn43 : FnOk Try.prog 43 := ⟨⟨_, Try.func43, by kernel_rfl, by kernel_rfl⟩⟩
instance fn44 : FnOk Try.prog 44 := ⟨⟨_, Try.func44, by kernel_rfl, by kernel_rfl⟩⟩
instance fn45 : FnOk Try.prog 45 := ⟨⟨_, Try.func45, by kernel_rfl, by kernel_rfl⟩⟩
instance fn46 : FnOk Try.prog 46 := ⟨⟨_, Try.func46, by kernel_rfl, by kernel_rfl⟩⟩
instance fn47 : FnOk Try.prog 47 := ⟨⟨_, Try.func47, by kernel_rfl, by kernel_rfl⟩⟩
instance fn48 : FnOk Try.prog 48 := ⟨⟨_, Try.func48, by kernel_rfl, by kernel_rfl⟩⟩
instance fn49 : FnOk Try.prog 49 := ⟨⟨_, Try.func49, by kernel_rfl, by kernel_rfl⟩⟩
instance fn50 : FnOk Try.prog 50 := ⟨⟨_, Try.func50, by kernel_rfl, by kernel_rfl⟩⟩
instance fn51 : FnOk Try.prog 51 := ⟨⟨_, Try.func51, by kernel_rfl, by kernel_rfl⟩⟩
instance fn52 : FnOk Try.prog 52 := ⟨⟨_, Try.func52, by kernel_rfl, by kernel_rfl⟩⟩
instance fn53 : FnOk Try.prog 53 := ⟨⟨_, Try.func53, by kernel_rfl, by kernel_rfl⟩⟩
instance fn54 : FnOk Try.prog 54 := ⟨⟨_, Try.func54, by kernel_rfl, by kernel_rfl⟩⟩
instance fn55 : FnOk Try.prog 55 := ⟨⟨_, Try.func55, by kernel_rfl, by kernel_rfl⟩⟩
instance fn56 : FnOk Try.prog 56 := ⟨⟨_, Try.func56, by kernel_rfl, by kernel_rfl⟩⟩
instance fn57 : FnOk Try.prog 57 := ⟨⟨_, Try.func57, by kernel_rfl, by kernel_rfl⟩⟩
instance fn58 : FnOk Try.prog 58 := ⟨⟨_, Try.func58, by kernel_rfl, by kernel_rfl⟩⟩
instance fn59 : FnOk Try.prog 59 := ⟨⟨_, Try.func59, by kernel_rfl, by kernel_rfl⟩⟩
instance fn60 : FnOk Try.prog 60 := ⟨⟨_, Try.func60, by kernel_rfl, by kernel_rfl⟩⟩
instance fn61 : FnOk Try.prog 61 := ⟨⟨_, Try.func61, by kernel_rfl, by kernel_rfl⟩⟩
instance fn62 : FnOk Try.prog 62 := ⟨⟨_, Try.func62, by kernel_rfl, by kernel_rfl⟩⟩
instance fn63 : FnOk Try.prog 63 := ⟨⟨_, Try.func63, by kernel_rfl, by kernel_rfl⟩⟩
instance fn64 : FnOk Try.prog 64 := ⟨⟨_, Try.func64, by kernel_rfl, by kernel_rfl⟩⟩
instance fn65 : FnOk Try.prog 65 := ⟨⟨_, Try.func65, by kernel_rfl, by kernel_rfl⟩⟩
instance fn66 : FnOk Try.prog 66 := ⟨⟨_, Try.func66, by kernel_rfl, by kernel_rfl⟩⟩
instance fn67 : FnOk Try.prog 67 := ⟨⟨_, Try.func67, by kernel_rfl, by kernel_rfl⟩⟩
instance fn68 : FnOk Try.prog 68 := ⟨⟨_, Try.func68, by kernel_rfl, by kernel_rfl⟩⟩
instance fn69 : FnOk Try.prog 69 := ⟨⟨_, Try.func69, by kernel_rfl, by kernel_rfl⟩⟩
instance fn70 : FnOk Try.prog 70 := ⟨⟨_, Try.func70, by kernel_rfl, by kernel_rfl⟩⟩
instance fn71 : FnOk Try.prog 71 := ⟨⟨_, Try.func71, by kernel_rfl, by kernel_rfl⟩⟩
instance fn72 : FnOk Try.prog 72 := ⟨⟨_, Try.func72, by kernel_rfl, by kernel_rfl⟩⟩
instance fn73 : FnOk Try.prog 73 := ⟨⟨_, Try.func73, by kernel_rfl, by kernel_rfl⟩⟩
instance fn74 : FnOk Try.prog 74 := ⟨⟨_, Try.func74, by kernel_rfl, by kernel_rfl⟩⟩
instance fn75 : FnOk Try.prog 75 := ⟨⟨_, Try.func75, by kernel_rfl, by kernel_rfl⟩⟩
instance fn76 : FnOk Try.prog 76 := ⟨⟨_, Try.func76, by kernel_rfl, by kernel_rfl⟩⟩
instance fn77 : FnOk Try.prog 77 := ⟨⟨_, Try.func77, by kernel_rfl, by kernel_rfl⟩⟩
instance fn78 : FnOk Try.prog 78 := ⟨⟨_, Try.func78, by kernel_rfl, by kernel_rfl⟩⟩
instance fn79 : FnOk Try.prog 79 := ⟨⟨_, Try.func79, by kernel_rfl, by kernel_rfl⟩⟩
instance fn80 : FnOk Try.prog 80 := ⟨⟨_, Try.func80, by kernel_rfl, by kernel_rfl⟩⟩
instance fn81 : FnOk Try.prog 81 := ⟨⟨_, Try.func81, by kernel_rfl, by kernel_rfl⟩⟩
instance fn82 : FnOk Try.prog 82 := ⟨⟨_, Try.func82, by kernel_rfl, by kernel_rfl⟩⟩
instance fn83 : FnOk Try.prog 83 := ⟨⟨_, Try.func83, by kernel_rfl, by kernel_rfl⟩⟩
instance fn84 : FnOk Try.prog 84 := ⟨⟨_, Try.func84, by kernel_rfl, by kernel_rfl⟩⟩
instance fn85 : FnOk Try.prog 85 := ⟨⟨_, Try.func85, by kernel_rfl, by kernel_rfl⟩⟩
instance fn86 : FnOk Try.prog 86 := ⟨⟨_, Try.func86, by kernel_rfl, by kernel_rfl⟩⟩
instance fn87 : FnOk Try.prog 87 := ⟨⟨_, Try.func87, by kernel_rfl, by kernel_rfl⟩⟩
instance fn88 : FnOk Try.prog 88 := ⟨⟨_, Try.func88, by kernel_rfl, by kernel_rfl⟩⟩
instance fn89 : FnOk Try.prog 89 := ⟨⟨_, Try.func89, by kernel_rfl, by kernel_rfl⟩⟩
instance fn90 : FnOk Try.prog 90 := ⟨⟨_, Try.func90, by kernel_rfl, by kernel_rfl⟩⟩
instance fn91 : FnOk Try.prog 91 := ⟨⟨_, Try.func91, by kernel_rfl, by kernel_rfl⟩⟩
instance fn92 : FnOk Try.prog 92 := ⟨⟨_, Try.func92, by kernel_rfl, by kernel_rfl⟩⟩
instance fn93 : FnOk Try.prog 93 := ⟨⟨_, Try.func93, by kernel_rfl, by kernel_rfl⟩⟩
instance fn94 : FnOk Try.prog 94 := ⟨⟨_, Try.func94, by kernel_rfl, by kernel_rfl⟩⟩

end Go.Proofs.Ytfceebbkjogedaa
