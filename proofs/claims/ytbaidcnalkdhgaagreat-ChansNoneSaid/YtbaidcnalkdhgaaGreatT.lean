/-
  The type facts and function facts of this seat, printed by a program of ours (gen_types.py) out of the translation; each is checked by the kernel.
-/
import Derived.Test.YtbaidcnalkdhgaaGreatEk
import Derived.Test.YtbaidcnalkdhgaaGreatProg
import Derived.KernelRfl
set_option maxRecDepth 100000
namespace Go.Proofs.YtbaidcnalkdhgaaGreat
open Go Go.Eng

instance mixedOrders : Mixed Tryz.prog := ⟨by kernel_rfl⟩
instance und0 : TUnd Tryz.prog 0 (.tuple #[]) := ⟨Tryz.underlying0⟩
instance und1 : TUnd Tryz.prog 1 (.func #[] #[] false) := ⟨Tryz.underlying1⟩
theorem inf1 : (Tryz.prog.info? 1).map (fun i => (i.zero, i.size, i.bytes)) = some (some (.nilFunc), 1, 8) := by kernel_rfl
instance ti1 : TInfo Tryz.prog 1 1 8 [.nilFunc] := tinfo_mk inf1 rfl
instance tz1 : TZero Tryz.prog 1 (.nilFunc) := tzero_mk inf1
instance und2 : TUnd Tryz.prog 2 (.int .i64) := ⟨Tryz.underlying2⟩
theorem inf2 : (Tryz.prog.info? 2).map (fun i => (i.zero, i.size, i.bytes)) = some (some (.int .i64 0), 1, 8) := by kernel_rfl
instance ti2 : TInfo Tryz.prog 2 1 8 [.int .i64 0] := tinfo_mk inf2 rfl
instance tz2 : TZero Tryz.prog 2 (.int .i64 0) := tzero_mk inf2
instance und3 : TUnd Tryz.prog 3 (.int .i64) := ⟨Tryz.underlying3⟩
theorem inf3 : (Tryz.prog.info? 3).map (fun i => (i.zero, i.size, i.bytes)) = some (some (.int .i64 0), 1, 8) := by kernel_rfl
instance ti3 : TInfo Tryz.prog 3 1 8 [.int .i64 0] := tinfo_mk inf3 rfl
instance tz3 : TZero Tryz.prog 3 (.int .i64 0) := tzero_mk inf3
instance und4 : TUnd Tryz.prog 4 (.bool) := ⟨Tryz.underlying4⟩
theorem inf4 : (Tryz.prog.info? 4).map (fun i => (i.zero, i.size, i.bytes)) = some (some (.bool false), 1, 1) := by kernel_rfl
instance ti4 : TInfo Tryz.prog 4 1 1 [.bool false] := tinfo_mk inf4 rfl
instance tz4 : TZero Tryz.prog 4 (.bool false) := tzero_mk inf4
instance und5 : TUnd Tryz.prog 5 (.int .u8) := ⟨Tryz.underlying5⟩
theorem inf5 : (Tryz.prog.info? 5).map (fun i => (i.zero, i.size, i.bytes)) = some (some (.int .u8 0), 1, 1) := by kernel_rfl
instance ti5 : TInfo Tryz.prog 5 1 1 [.int .u8 0] := tinfo_mk inf5 rfl
instance tz5 : TZero Tryz.prog 5 (.int .u8 0) := tzero_mk inf5
instance und9 : TUnd Tryz.prog 9 (.string) := ⟨Tryz.underlying9⟩
theorem inf9 : (Tryz.prog.info? 9).map (fun i => (i.zero, i.size, i.bytes)) = some (some (.string ByteArray.empty), 1, 16) := by kernel_rfl
instance ti9 : TInfo Tryz.prog 9 1 16 [.string ByteArray.empty] := tinfo_mk inf9 rfl
instance tz9 : TZero Tryz.prog 9 (.string ByteArray.empty) := tzero_mk inf9
instance und12 : TUnd Tryz.prog 12 (.int .u64) := ⟨Tryz.underlying12⟩
theorem inf12 : (Tryz.prog.info? 12).map (fun i => (i.zero, i.size, i.bytes)) = some (some (.int .u64 0), 1, 8) := by kernel_rfl
instance ti12 : TInfo Tryz.prog 12 1 8 [.int .u64 0] := tinfo_mk inf12 rfl
instance tz12 : TZero Tryz.prog 12 (.int .u64 0) := tzero_mk inf12
instance und21 : TUnd Tryz.prog 21 (.int .i32) := ⟨Tryz.underlying21⟩
theorem inf21 : (Tryz.prog.info? 21).map (fun i => (i.zero, i.size, i.bytes)) = some (some (.int .i32 0), 1, 4) := by kernel_rfl
instance ti21 : TInfo Tryz.prog 21 1 4 [.int .i32 0] := tinfo_mk inf21 rfl
instance tz21 : TZero Tryz.prog 21 (.int .i32 0) := tzero_mk inf21
instance und23 : TUnd Tryz.prog 23 (.struct #[⟨ "Senders", 3, 0, false, "", "", 0⟩, ⟨ "Receivers", 3, 1, false, "", "", 8⟩, ⟨ "Size", 3, 2, false, "", "", 16⟩]) := ⟨Tryz.underlying23⟩
theorem inf23 : (Tryz.prog.info? 23).map (fun i => (i.zero, i.size, i.bytes)) = some (some (.agg #[.int .i64 0, .int .i64 0, .int .i64 0]), 3, 24) := by kernel_rfl
instance ti23 : TInfo Tryz.prog 23 3 24 [.int .i64 0, .int .i64 0, .int .i64 0] := tinfo_mk inf23 rfl
instance tz23 : TZero Tryz.prog 23 (.agg #[.int .i64 0, .int .i64 0, .int .i64 0]) := tzero_mk inf23
instance tf23_0 : TField Tryz.prog 23 0 0 := tfield_mk Tryz.underlying23 rfl rfl (by kernel_rfl)
instance tp23_0 : TPart Tryz.prog 23 0 0 1 false := tpart_mk Tryz.underlying23 rfl rfl (by kernel_rfl) Tryz.underlying3 rfl
instance tf23_1 : TField Tryz.prog 23 1 1 := tfield_mk Tryz.underlying23 rfl rfl (by kernel_rfl)
instance tp23_1 : TPart Tryz.prog 23 1 1 1 false := tpart_mk Tryz.underlying23 rfl rfl (by kernel_rfl) Tryz.underlying3 rfl
instance tf23_2 : TField Tryz.prog 23 2 2 := tfield_mk Tryz.underlying23 rfl rfl (by kernel_rfl)
instance tp23_2 : TPart Tryz.prog 23 2 2 1 false := tpart_mk Tryz.underlying23 rfl rfl (by kernel_rfl) Tryz.underlying3 rfl
instance tpl23 : TPlaces Tryz.prog 23 [(0, 1), (1, 1), (2, 1)] := tplaces_mk Tryz.underlying23 (by kernel_rfl) (by kernel_rfl)
instance und24 : TUnd Tryz.prog 24 (.slice 43) := ⟨Tryz.underlying24⟩
theorem inf24 : (Tryz.prog.info? 24).map (fun i => (i.zero, i.size, i.bytes)) = some (some (.slice none 0 0), 1, 24) := by kernel_rfl
instance ti24 : TInfo Tryz.prog 24 1 24 [.slice none 0 0] := tinfo_mk inf24 rfl
instance tz24 : TZero Tryz.prog 24 (.slice none 0 0) := tzero_mk inf24
instance und25 : TUnd Tryz.prog 25 (.func #[3, 3] #[3] false) := ⟨Tryz.underlying25⟩
theorem inf25 : (Tryz.prog.info? 25).map (fun i => (i.zero, i.size, i.bytes)) = some (some (.nilFunc), 1, 8) := by kernel_rfl
instance ti25 : TInfo Tryz.prog 25 1 8 [.nilFunc] := tinfo_mk inf25 rfl
instance tz25 : TZero Tryz.prog 25 (.nilFunc) := tzero_mk inf25
instance und26 : TUnd Tryz.prog 26 (.pointer 108) := ⟨Tryz.underlying26⟩
theorem inf26 : (Tryz.prog.info? 26).map (fun i => (i.zero, i.size, i.bytes)) = some (some (.pointer none), 1, 8) := by kernel_rfl
instance ti26 : TInfo Tryz.prog 26 1 8 [.pointer none] := tinfo_mk inf26 rfl
instance tz26 : TZero Tryz.prog 26 (.pointer none) := tzero_mk inf26
instance und27 : TUnd Tryz.prog 27 (.func #[] #[26] false) := ⟨Tryz.underlying27⟩
theorem inf27 : (Tryz.prog.info? 27).map (fun i => (i.zero, i.size, i.bytes)) = some (some (.nilFunc), 1, 8) := by kernel_rfl
instance ti27 : TInfo Tryz.prog 27 1 8 [.nilFunc] := tinfo_mk inf27 rfl
instance tz27 : TZero Tryz.prog 27 (.nilFunc) := tzero_mk inf27
instance und28 : TUnd Tryz.prog 28 (.pointer 148) := ⟨Tryz.underlying28⟩
theorem inf28 : (Tryz.prog.info? 28).map (fun i => (i.zero, i.size, i.bytes)) = some (some (.pointer none), 1, 8) := by kernel_rfl
instance ti28 : TInfo Tryz.prog 28 1 8 [.pointer none] := tinfo_mk inf28 rfl
instance tz28 : TZero Tryz.prog 28 (.pointer none) := tzero_mk inf28
instance und29 : TUnd Tryz.prog 29 (.int .i64) := ⟨Tryz.underlying29⟩
theorem inf29 : (Tryz.prog.info? 29).map (fun i => (i.zero, i.size, i.bytes)) = some (some (.int .i64 0), 1, 8) := by kernel_rfl
instance ti29 : TInfo Tryz.prog 29 1 8 [.int .i64 0] := tinfo_mk inf29 rfl
instance tz29 : TZero Tryz.prog 29 (.int .i64 0) := tzero_mk inf29
instance und30 : TUnd Tryz.prog 30 (.tuple #[28, 29]) := ⟨Tryz.underlying30⟩
instance und31 : TUnd Tryz.prog 31 (.func #[26, 3] #[28, 29] false) := ⟨Tryz.underlying31⟩
theorem inf31 : (Tryz.prog.info? 31).map (fun i => (i.zero, i.size, i.bytes)) = some (some (.nilFunc), 1, 8) := by kernel_rfl
instance ti31 : TInfo Tryz.prog 31 1 8 [.nilFunc] := tinfo_mk inf31 rfl
instance tz31 : TZero Tryz.prog 31 (.nilFunc) := tzero_mk inf31
instance und32 : TUnd Tryz.prog 32 (.slice 3) := ⟨Tryz.underlying32⟩
theorem inf32 : (Tryz.prog.info? 32).map (fun i => (i.zero, i.size, i.bytes)) = some (some (.slice none 0 0), 1, 24) := by kernel_rfl
instance ti32 : TInfo Tryz.prog 32 1 24 [.slice none 0 0] := tinfo_mk inf32 rfl
instance tz32 : TZero Tryz.prog 32 (.slice none 0 0) := tzero_mk inf32
instance und33 : TUnd Tryz.prog 33 (.func #[34, 3, 3] #[] false) := ⟨Tryz.underlying33⟩
theorem inf33 : (Tryz.prog.info? 33).map (fun i => (i.zero, i.size, i.bytes)) = some (some (.nilFunc), 1, 8) := by kernel_rfl
instance ti33 : TInfo Tryz.prog 33 1 8 [.nilFunc] := tinfo_mk inf33 rfl
instance tz33 : TZero Tryz.prog 33 (.nilFunc) := tzero_mk inf33
instance und34 : TUnd Tryz.prog 34 (.pointer 162) := ⟨Tryz.underlying34⟩
theorem inf34 : (Tryz.prog.info? 34).map (fun i => (i.zero, i.size, i.bytes)) = some (some (.pointer none), 1, 8) := by kernel_rfl
instance ti34 : TInfo Tryz.prog 34 1 8 [.pointer none] := tinfo_mk inf34 rfl
instance tz34 : TZero Tryz.prog 34 (.pointer none) := tzero_mk inf34
instance und35 : TUnd Tryz.prog 35 (.func #[34, 28, 3, 36] #[29] false) := ⟨Tryz.underlying35⟩
theorem inf35 : (Tryz.prog.info? 35).map (fun i => (i.zero, i.size, i.bytes)) = some (some (.nilFunc), 1, 8) := by kernel_rfl
instance ti35 : TInfo Tryz.prog 35 1 8 [.nilFunc] := tinfo_mk inf35 rfl
instance tz35 : TZero Tryz.prog 35 (.nilFunc) := tzero_mk inf35
instance und36 : TUnd Tryz.prog 36 (.func #[4] #[] false) := ⟨Tryz.underlying36⟩
theorem inf36 : (Tryz.prog.info? 36).map (fun i => (i.zero, i.size, i.bytes)) = some (some (.nilFunc), 1, 8) := by kernel_rfl
instance ti36 : TInfo Tryz.prog 36 1 8 [.nilFunc] := tinfo_mk inf36 rfl
instance tz36 : TZero Tryz.prog 36 (.nilFunc) := tzero_mk inf36
instance und37 : TUnd Tryz.prog 37 (.func #[34] #[] false) := ⟨Tryz.underlying37⟩
theorem inf37 : (Tryz.prog.info? 37).map (fun i => (i.zero, i.size, i.bytes)) = some (some (.nilFunc), 1, 8) := by kernel_rfl
instance ti37 : TInfo Tryz.prog 37 1 8 [.nilFunc] := tinfo_mk inf37 rfl
instance tz37 : TZero Tryz.prog 37 (.nilFunc) := tzero_mk inf37
instance und38 : TUnd Tryz.prog 38 (.func #[34, 28, 39] #[29] false) := ⟨Tryz.underlying38⟩
theorem inf38 : (Tryz.prog.info? 38).map (fun i => (i.zero, i.size, i.bytes)) = some (some (.nilFunc), 1, 8) := by kernel_rfl
instance ti38 : TInfo Tryz.prog 38 1 8 [.nilFunc] := tinfo_mk inf38 rfl
instance tz38 : TZero Tryz.prog 38 (.nilFunc) := tzero_mk inf38
instance und39 : TUnd Tryz.prog 39 (.func #[3, 4] #[] false) := ⟨Tryz.underlying39⟩
theorem inf39 : (Tryz.prog.info? 39).map (fun i => (i.zero, i.size, i.bytes)) = some (some (.nilFunc), 1, 8) := by kernel_rfl
instance ti39 : TInfo Tryz.prog 39 1 8 [.nilFunc] := tinfo_mk inf39 rfl
instance tz39 : TZero Tryz.prog 39 (.nilFunc) := tzero_mk inf39
instance und40 : TUnd Tryz.prog 40 (.tuple #[34, 29]) := ⟨Tryz.underlying40⟩
instance und41 : TUnd Tryz.prog 41 (.func #[37] #[34, 29] false) := ⟨Tryz.underlying41⟩
theorem inf41 : (Tryz.prog.info? 41).map (fun i => (i.zero, i.size, i.bytes)) = some (some (.nilFunc), 1, 8) := by kernel_rfl
instance ti41 : TInfo Tryz.prog 41 1 8 [.nilFunc] := tinfo_mk inf41 rfl
instance tz41 : TZero Tryz.prog 41 (.nilFunc) := tzero_mk inf41
instance und42 : TUnd Tryz.prog 42 (.func #[43] #[4] false) := ⟨Tryz.underlying42⟩
theorem inf42 : (Tryz.prog.info? 42).map (fun i => (i.zero, i.size, i.bytes)) = some (some (.nilFunc), 1, 8) := by kernel_rfl
instance ti42 : TInfo Tryz.prog 42 1 8 [.nilFunc] := tinfo_mk inf42 rfl
instance tz42 : TZero Tryz.prog 42 (.nilFunc) := tzero_mk inf42
instance und43 : TUnd Tryz.prog 43 (.int .u64) := ⟨Tryz.underlying43⟩
theorem inf43 : (Tryz.prog.info? 43).map (fun i => (i.zero, i.size, i.bytes)) = some (some (.int .u64 0), 1, 8) := by kernel_rfl
instance ti43 : TInfo Tryz.prog 43 1 8 [.int .u64 0] := tinfo_mk inf43 rfl
instance tz43 : TZero Tryz.prog 43 (.int .u64 0) := tzero_mk inf43
instance und44 : TUnd Tryz.prog 44 (.tuple #[3, 3]) := ⟨Tryz.underlying44⟩
instance und45 : TUnd Tryz.prog 45 (.func #[] #[3, 3] false) := ⟨Tryz.underlying45⟩
theorem inf45 : (Tryz.prog.info? 45).map (fun i => (i.zero, i.size, i.bytes)) = some (some (.nilFunc), 1, 8) := by kernel_rfl
instance ti45 : TInfo Tryz.prog 45 1 8 [.nilFunc] := tinfo_mk inf45 rfl
instance tz45 : TZero Tryz.prog 45 (.nilFunc) := tzero_mk inf45
instance und46 : TUnd Tryz.prog 46 (.func #[] #[3] false) := ⟨Tryz.underlying46⟩
theorem inf46 : (Tryz.prog.info? 46).map (fun i => (i.zero, i.size, i.bytes)) = some (some (.nilFunc), 1, 8) := by kernel_rfl
instance ti46 : TInfo Tryz.prog 46 1 8 [.nilFunc] := tinfo_mk inf46 rfl
instance tz46 : TZero Tryz.prog 46 (.nilFunc) := tzero_mk inf46
instance und47 : TUnd Tryz.prog 47 (.func #[24, 3] #[3] false) := ⟨Tryz.underlying47⟩
theorem inf47 : (Tryz.prog.info? 47).map (fun i => (i.zero, i.size, i.bytes)) = some (some (.nilFunc), 1, 8) := by kernel_rfl
instance ti47 : TInfo Tryz.prog 47 1 8 [.nilFunc] := tinfo_mk inf47 rfl
instance tz47 : TZero Tryz.prog 47 (.nilFunc) := tzero_mk inf47
instance und48 : TUnd Tryz.prog 48 (.map 3 3) := ⟨Tryz.underlying48⟩
theorem inf48 : (Tryz.prog.info? 48).map (fun i => (i.zero, i.size, i.bytes)) = some (some (.map none), 1, 8) := by kernel_rfl
instance ti48 : TInfo Tryz.prog 48 1 8 [.map none] := tinfo_mk inf48 rfl
instance tz48 : TZero Tryz.prog 48 (.map none) := tzero_mk inf48
instance und49 : TUnd Tryz.prog 49 (.func #[] #[4] false) := ⟨Tryz.underlying49⟩
theorem inf49 : (Tryz.prog.info? 49).map (fun i => (i.zero, i.size, i.bytes)) = some (some (.nilFunc), 1, 8) := by kernel_rfl
instance ti49 : TInfo Tryz.prog 49 1 8 [.nilFunc] := tinfo_mk inf49 rfl
instance tz49 : TZero Tryz.prog 49 (.nilFunc) := tzero_mk inf49
instance und50 : TUnd Tryz.prog 50 (.func #[23, 24] #[4] false) := ⟨Tryz.underlying50⟩
theorem inf50 : (Tryz.prog.info? 50).map (fun i => (i.zero, i.size, i.bytes)) = some (some (.nilFunc), 1, 8) := by kernel_rfl
instance ti50 : TInfo Tryz.prog 50 1 8 [.nilFunc] := tinfo_mk inf50 rfl
instance tz50 : TZero Tryz.prog 50 (.nilFunc) := tzero_mk inf50
instance und51 : TUnd Tryz.prog 51 (.slice 168) := ⟨Tryz.underlying51⟩
theorem inf51 : (Tryz.prog.info? 51).map (fun i => (i.zero, i.size, i.bytes)) = some (some (.slice none 0 0), 1, 24) := by kernel_rfl
instance ti51 : TInfo Tryz.prog 51 1 24 [.slice none 0 0] := tinfo_mk inf51 rfl
instance tz51 : TZero Tryz.prog 51 (.slice none 0 0) := tzero_mk inf51
instance und52 : TUnd Tryz.prog 52 (.func #[51, 32] #[4] false) := ⟨Tryz.underlying52⟩
theorem inf52 : (Tryz.prog.info? 52).map (fun i => (i.zero, i.size, i.bytes)) = some (some (.nilFunc), 1, 8) := by kernel_rfl
instance ti52 : TInfo Tryz.prog 52 1 8 [.nilFunc] := tinfo_mk inf52 rfl
instance tz52 : TZero Tryz.prog 52 (.nilFunc) := tzero_mk inf52
instance und53 : TUnd Tryz.prog 53 (.pointer 61) := ⟨Tryz.underlying53⟩
theorem inf53 : (Tryz.prog.info? 53).map (fun i => (i.zero, i.size, i.bytes)) = some (some (.pointer none), 1, 8) := by kernel_rfl
instance ti53 : TInfo Tryz.prog 53 1 8 [.pointer none] := tinfo_mk inf53 rfl
instance tz53 : TZero Tryz.prog 53 (.pointer none) := tzero_mk inf53
instance und54 : TUnd Tryz.prog 54 (.pointer 97) := ⟨Tryz.underlying54⟩
theorem inf54 : (Tryz.prog.info? 54).map (fun i => (i.zero, i.size, i.bytes)) = some (some (.pointer none), 1, 8) := by kernel_rfl
instance ti54 : TInfo Tryz.prog 54 1 8 [.pointer none] := tinfo_mk inf54 rfl
instance tz54 : TZero Tryz.prog 54 (.pointer none) := tzero_mk inf54
instance und55 : TUnd Tryz.prog 55 (.tuple #[53, 54]) := ⟨Tryz.underlying55⟩
instance und56 : TUnd Tryz.prog 56 (.func #[51, 32] #[53, 54] false) := ⟨Tryz.underlying56⟩
theorem inf56 : (Tryz.prog.info? 56).map (fun i => (i.zero, i.size, i.bytes)) = some (some (.nilFunc), 1, 8) := by kernel_rfl
instance ti56 : TInfo Tryz.prog 56 1 8 [.nilFunc] := tinfo_mk inf56 rfl
instance tz56 : TZero Tryz.prog 56 (.nilFunc) := tzero_mk inf56
instance und57 : TUnd Tryz.prog 57 (.slice 28) := ⟨Tryz.underlying57⟩
theorem inf57 : (Tryz.prog.info? 57).map (fun i => (i.zero, i.size, i.bytes)) = some (some (.slice none 0 0), 1, 24) := by kernel_rfl
instance ti57 : TInfo Tryz.prog 57 1 24 [.slice none 0 0] := tinfo_mk inf57 rfl
instance tz57 : TZero Tryz.prog 57 (.slice none 0 0) := tzero_mk inf57
instance und58 : TUnd Tryz.prog 58 (.slice 34) := ⟨Tryz.underlying58⟩
theorem inf58 : (Tryz.prog.info? 58).map (fun i => (i.zero, i.size, i.bytes)) = some (some (.slice none 0 0), 1, 24) := by kernel_rfl
instance ti58 : TInfo Tryz.prog 58 1 24 [.slice none 0 0] := tinfo_mk inf58 rfl
instance tz58 : TZero Tryz.prog 58 (.slice none 0 0) := tzero_mk inf58
instance und59 : TUnd Tryz.prog 59 (.slice 100) := ⟨Tryz.underlying59⟩
theorem inf59 : (Tryz.prog.info? 59).map (fun i => (i.zero, i.size, i.bytes)) = some (some (.slice none 0 0), 1, 24) := by kernel_rfl
instance ti59 : TInfo Tryz.prog 59 1 24 [.slice none 0 0] := tinfo_mk inf59 rfl
instance tz59 : TZero Tryz.prog 59 (.slice none 0 0) := tzero_mk inf59
instance und61 : TUnd Tryz.prog 61 (.struct #[⟨ "r", 26, 0, false, "", "conduit/conduitlaw16", 0⟩, ⟨ "progs", 51, 1, false, "", "conduit/conduitlaw16", 8⟩, ⟨ "chans", 57, 2, false, "", "conduit/conduitlaw16", 32⟩, ⟨ "tasks", 58, 3, false, "", "conduit/conduitlaw16", 56⟩, ⟨ "events", 59, 4, false, "", "conduit/conduitlaw16", 80⟩, ⟨ "bad", 4, 5, false, "", "conduit/conduitlaw16", 104⟩]) := ⟨Tryz.underlying61⟩
theorem inf61 : (Tryz.prog.info? 61).map (fun i => (i.zero, i.size, i.bytes)) = some (some (.agg #[.pointer none, .slice none 0 0, .slice none 0 0, .slice none 0 0, .slice none 0 0, .bool false]), 6, 112) := by kernel_rfl
instance ti61 : TInfo Tryz.prog 61 6 112 [.pointer none, .slice none 0 0, .slice none 0 0, .slice none 0 0, .slice none 0 0, .bool false] := tinfo_mk inf61 rfl
instance tz61 : TZero Tryz.prog 61 (.agg #[.pointer none, .slice none 0 0, .slice none 0 0, .slice none 0 0, .slice none 0 0, .bool false]) := tzero_mk inf61
instance tf61_0 : TField Tryz.prog 61 0 0 := tfield_mk Tryz.underlying61 rfl rfl (by kernel_rfl)
instance tp61_0 : TPart Tryz.prog 61 0 0 1 false := tpart_mk Tryz.underlying61 rfl rfl (by kernel_rfl) Tryz.underlying26 rfl
instance tf61_1 : TField Tryz.prog 61 1 1 := tfield_mk Tryz.underlying61 rfl rfl (by kernel_rfl)
instance tp61_1 : TPart Tryz.prog 61 1 1 1 false := tpart_mk Tryz.underlying61 rfl rfl (by kernel_rfl) Tryz.underlying51 rfl
instance tf61_2 : TField Tryz.prog 61 2 2 := tfield_mk Tryz.underlying61 rfl rfl (by kernel_rfl)
instance tp61_2 : TPart Tryz.prog 61 2 2 1 false := tpart_mk Tryz.underlying61 rfl rfl (by kernel_rfl) Tryz.underlying57 rfl
instance tf61_3 : TField Tryz.prog 61 3 3 := tfield_mk Tryz.underlying61 rfl rfl (by kernel_rfl)
instance tp61_3 : TPart Tryz.prog 61 3 3 1 false := tpart_mk Tryz.underlying61 rfl rfl (by kernel_rfl) Tryz.underlying58 rfl
instance tf61_4 : TField Tryz.prog 61 4 4 := tfield_mk Tryz.underlying61 rfl rfl (by kernel_rfl)
instance tp61_4 : TPart Tryz.prog 61 4 4 1 false := tpart_mk Tryz.underlying61 rfl rfl (by kernel_rfl) Tryz.underlying59 rfl
instance tf61_5 : TField Tryz.prog 61 5 5 := tfield_mk Tryz.underlying61 rfl rfl (by kernel_rfl)
instance tp61_5 : TPart Tryz.prog 61 5 5 1 false := tpart_mk Tryz.underlying61 rfl rfl (by kernel_rfl) Tryz.underlying4 rfl
instance tpl61 : TPlaces Tryz.prog 61 [(0, 1), (1, 1), (2, 1), (3, 1), (4, 1), (5, 1)] := tplaces_mk Tryz.underlying61 (by kernel_rfl) (by kernel_rfl)
instance und62 : TUnd Tryz.prog 62 (.func #[] #[29] false) := ⟨Tryz.underlying62⟩
theorem inf62 : (Tryz.prog.info? 62).map (fun i => (i.zero, i.size, i.bytes)) = some (some (.nilFunc), 1, 8) := by kernel_rfl
instance ti62 : TInfo Tryz.prog 62 1 8 [.nilFunc] := tinfo_mk inf62 rfl
instance tz62 : TZero Tryz.prog 62 (.nilFunc) := tzero_mk inf62
instance und63 : TUnd Tryz.prog 63 (.tuple #[4, 4]) := ⟨Tryz.underlying63⟩
instance und64 : TUnd Tryz.prog 64 (.func #[3] #[4, 4] false) := ⟨Tryz.underlying64⟩
theorem inf64 : (Tryz.prog.info? 64).map (fun i => (i.zero, i.size, i.bytes)) = some (some (.nilFunc), 1, 8) := by kernel_rfl
instance ti64 : TInfo Tryz.prog 64 1 8 [.nilFunc] := tinfo_mk inf64 rfl
instance tz64 : TZero Tryz.prog 64 (.nilFunc) := tzero_mk inf64
instance und65 : TUnd Tryz.prog 65 (.tuple #[3, 4, 4]) := ⟨Tryz.underlying65⟩
instance und66 : TUnd Tryz.prog 66 (.func #[] #[3, 4, 4] false) := ⟨Tryz.underlying66⟩
theorem inf66 : (Tryz.prog.info? 66).map (fun i => (i.zero, i.size, i.bytes)) = some (some (.nilFunc), 1, 8) := by kernel_rfl
instance ti66 : TInfo Tryz.prog 66 1 8 [.nilFunc] := tinfo_mk inf66 rfl
instance tz66 : TZero Tryz.prog 66 (.nilFunc) := tzero_mk inf66
instance und67 : TUnd Tryz.prog 67 (.func #[51, 3, 24] #[4] false) := ⟨Tryz.underlying67⟩
theorem inf67 : (Tryz.prog.info? 67).map (fun i => (i.zero, i.size, i.bytes)) = some (some (.nilFunc), 1, 8) := by kernel_rfl
instance ti67 : TInfo Tryz.prog 67 1 8 [.nilFunc] := tinfo_mk inf67 rfl
instance tz67 : TZero Tryz.prog 67 (.nilFunc) := tzero_mk inf67
instance und68 : TUnd Tryz.prog 68 (.slice 74) := ⟨Tryz.underlying68⟩
theorem inf68 : (Tryz.prog.info? 68).map (fun i => (i.zero, i.size, i.bytes)) = some (some (.slice none 0 0), 1, 24) := by kernel_rfl
instance ti68 : TInfo Tryz.prog 68 1 24 [.slice none 0 0] := tinfo_mk inf68 rfl
instance tz68 : TZero Tryz.prog 68 (.slice none 0 0) := tzero_mk inf68
instance und69 : TUnd Tryz.prog 69 (.array 2 28) := ⟨Tryz.underlying69⟩
theorem inf69 : (Tryz.prog.info? 69).map (fun i => (i.zero, i.size, i.bytes)) = some (some (.agg #[.pointer none, .pointer none]), 2, 16) := by kernel_rfl
instance ti69 : TInfo Tryz.prog 69 2 16 [.pointer none, .pointer none] := tinfo_mk inf69 rfl
instance tz69 : TZero Tryz.prog 69 (.agg #[.pointer none, .pointer none]) := tzero_mk inf69
instance und70 : TUnd Tryz.prog 70 (.array 4 3) := ⟨Tryz.underlying70⟩
theorem inf70 : (Tryz.prog.info? 70).map (fun i => (i.zero, i.size, i.bytes)) = some (some (.agg #[.int .i64 0, .int .i64 0, .int .i64 0, .int .i64 0]), 4, 32) := by kernel_rfl
instance ti70 : TInfo Tryz.prog 70 4 32 [.int .i64 0, .int .i64 0, .int .i64 0, .int .i64 0] := tinfo_mk inf70 rfl
instance tz70 : TZero Tryz.prog 70 (.agg #[.int .i64 0, .int .i64 0, .int .i64 0, .int .i64 0]) := tzero_mk inf70
instance und71 : TUnd Tryz.prog 71 (.pointer 175) := ⟨Tryz.underlying71⟩
theorem inf71 : (Tryz.prog.info? 71).map (fun i => (i.zero, i.size, i.bytes)) = some (some (.pointer none), 1, 8) := by kernel_rfl
instance ti71 : TInfo Tryz.prog 71 1 8 [.pointer none] := tinfo_mk inf71 rfl
instance tz71 : TZero Tryz.prog 71 (.pointer none) := tzero_mk inf71
instance und72 : TUnd Tryz.prog 72 (.array 4 71) := ⟨Tryz.underlying72⟩
theorem inf72 : (Tryz.prog.info? 72).map (fun i => (i.zero, i.size, i.bytes)) = some (some (.agg #[.pointer none, .pointer none, .pointer none, .pointer none]), 4, 32) := by kernel_rfl
instance ti72 : TInfo Tryz.prog 72 4 32 [.pointer none, .pointer none, .pointer none, .pointer none] := tinfo_mk inf72 rfl
instance tz72 : TZero Tryz.prog 72 (.agg #[.pointer none, .pointer none, .pointer none, .pointer none]) := tzero_mk inf72
instance und73 : TUnd Tryz.prog 73 (.func #[1] #[71] false) := ⟨Tryz.underlying73⟩
theorem inf73 : (Tryz.prog.info? 73).map (fun i => (i.zero, i.size, i.bytes)) = some (some (.nilFunc), 1, 8) := by kernel_rfl
instance ti73 : TInfo Tryz.prog 73 1 8 [.nilFunc] := tinfo_mk inf73 rfl
instance tz73 : TZero Tryz.prog 73 (.nilFunc) := tzero_mk inf73
instance und74 : TUnd Tryz.prog 74 (.array 3 3) := ⟨Tryz.underlying74⟩
theorem inf74 : (Tryz.prog.info? 74).map (fun i => (i.zero, i.size, i.bytes)) = some (some (.agg #[.int .i64 0, .int .i64 0, .int .i64 0]), 3, 24) := by kernel_rfl
instance ti74 : TInfo Tryz.prog 74 3 24 [.int .i64 0, .int .i64 0, .int .i64 0] := tinfo_mk inf74 rfl
instance tz74 : TZero Tryz.prog 74 (.agg #[.int .i64 0, .int .i64 0, .int .i64 0]) := tzero_mk inf74
instance und75 : TUnd Tryz.prog 75 (.func #[3, 71, 36] #[29] false) := ⟨Tryz.underlying75⟩
theorem inf75 : (Tryz.prog.info? 75).map (fun i => (i.zero, i.size, i.bytes)) = some (some (.nilFunc), 1, 8) := by kernel_rfl
instance ti75 : TInfo Tryz.prog 75 1 8 [.nilFunc] := tinfo_mk inf75 rfl
instance tz75 : TZero Tryz.prog 75 (.nilFunc) := tzero_mk inf75
instance und76 : TUnd Tryz.prog 76 (.func #[71, 39] #[29] false) := ⟨Tryz.underlying76⟩
theorem inf76 : (Tryz.prog.info? 76).map (fun i => (i.zero, i.size, i.bytes)) = some (some (.nilFunc), 1, 8) := by kernel_rfl
instance ti76 : TInfo Tryz.prog 76 1 8 [.nilFunc] := tinfo_mk inf76 rfl
instance tz76 : TZero Tryz.prog 76 (.nilFunc) := tzero_mk inf76
instance und77 : TUnd Tryz.prog 77 (.func #[71] #[3] false) := ⟨Tryz.underlying77⟩
theorem inf77 : (Tryz.prog.info? 77).map (fun i => (i.zero, i.size, i.bytes)) = some (some (.nilFunc), 1, 8) := by kernel_rfl
instance ti77 : TInfo Tryz.prog 77 1 8 [.nilFunc] := tinfo_mk inf77 rfl
instance tz77 : TZero Tryz.prog 77 (.nilFunc) := tzero_mk inf77
instance und78 : TUnd Tryz.prog 78 (.func #[68] #[4] false) := ⟨Tryz.underlying78⟩
theorem inf78 : (Tryz.prog.info? 78).map (fun i => (i.zero, i.size, i.bytes)) = some (some (.nilFunc), 1, 8) := by kernel_rfl
instance ti78 : TInfo Tryz.prog 78 1 8 [.nilFunc] := tinfo_mk inf78 rfl
instance tz78 : TZero Tryz.prog 78 (.nilFunc) := tzero_mk inf78
instance und79 : TUnd Tryz.prog 79 (.array 7 3) := ⟨Tryz.underlying79⟩
theorem inf79 : (Tryz.prog.info? 79).map (fun i => (i.zero, i.size, i.bytes)) = some (some (.agg #[.int .i64 0, .int .i64 0, .int .i64 0, .int .i64 0, .int .i64 0, .int .i64 0, .int .i64 0]), 7, 56) := by kernel_rfl
instance ti79 : TInfo Tryz.prog 79 7 56 [.int .i64 0, .int .i64 0, .int .i64 0, .int .i64 0, .int .i64 0, .int .i64 0, .int .i64 0] := tinfo_mk inf79 rfl
instance tz79 : TZero Tryz.prog 79 (.agg #[.int .i64 0, .int .i64 0, .int .i64 0, .int .i64 0, .int .i64 0, .int .i64 0, .int .i64 0]) := tzero_mk inf79
instance und80 : TUnd Tryz.prog 80 (.slice 71) := ⟨Tryz.underlying80⟩
theorem inf80 : (Tryz.prog.info? 80).map (fun i => (i.zero, i.size, i.bytes)) = some (some (.slice none 0 0), 1, 24) := by kernel_rfl
instance ti80 : TInfo Tryz.prog 80 1 24 [.slice none 0 0] := tinfo_mk inf80 rfl
instance tz80 : TZero Tryz.prog 80 (.slice none 0 0) := tzero_mk inf80
instance und81 : TUnd Tryz.prog 81 (.map 3 4) := ⟨Tryz.underlying81⟩
theorem inf81 : (Tryz.prog.info? 81).map (fun i => (i.zero, i.size, i.bytes)) = some (some (.map none), 1, 8) := by kernel_rfl
instance ti81 : TInfo Tryz.prog 81 1 8 [.map none] := tinfo_mk inf81 rfl
instance tz81 : TZero Tryz.prog 81 (.map none) := tzero_mk inf81
instance und82 : TUnd Tryz.prog 82 (.func #[3, 32, 3] #[4] false) := ⟨Tryz.underlying82⟩
theorem inf82 : (Tryz.prog.info? 82).map (fun i => (i.zero, i.size, i.bytes)) = some (some (.nilFunc), 1, 8) := by kernel_rfl
instance ti82 : TInfo Tryz.prog 82 1 8 [.nilFunc] := tinfo_mk inf82 rfl
instance tz82 : TZero Tryz.prog 82 (.nilFunc) := tzero_mk inf82
instance und83 : TUnd Tryz.prog 83 (.func #[51] #[4] false) := ⟨Tryz.underlying83⟩
theorem inf83 : (Tryz.prog.info? 83).map (fun i => (i.zero, i.size, i.bytes)) = some (some (.nilFunc), 1, 8) := by kernel_rfl
instance ti83 : TInfo Tryz.prog 83 1 8 [.nilFunc] := tinfo_mk inf83 rfl
instance tz83 : TZero Tryz.prog 83 (.nilFunc) := tzero_mk inf83
instance und90 : TUnd Tryz.prog 90 (.func #[32, 32] #[4] false) := ⟨Tryz.underlying90⟩
theorem inf90 : (Tryz.prog.info? 90).map (fun i => (i.zero, i.size, i.bytes)) = some (some (.nilFunc), 1, 8) := by kernel_rfl
instance ti90 : TInfo Tryz.prog 90 1 8 [.nilFunc] := tinfo_mk inf90 rfl
instance tz90 : TZero Tryz.prog 90 (.nilFunc) := tzero_mk inf90
instance und91 : TUnd Tryz.prog 91 (.func #[] #[32] false) := ⟨Tryz.underlying91⟩
theorem inf91 : (Tryz.prog.info? 91).map (fun i => (i.zero, i.size, i.bytes)) = some (some (.nilFunc), 1, 8) := by kernel_rfl
instance ti91 : TInfo Tryz.prog 91 1 8 [.nilFunc] := tinfo_mk inf91 rfl
instance tz91 : TZero Tryz.prog 91 (.nilFunc) := tzero_mk inf91
instance und92 : TUnd Tryz.prog 92 (.slice 125) := ⟨Tryz.underlying92⟩
theorem inf92 : (Tryz.prog.info? 92).map (fun i => (i.zero, i.size, i.bytes)) = some (some (.slice none 0 0), 1, 24) := by kernel_rfl
instance ti92 : TInfo Tryz.prog 92 1 24 [.slice none 0 0] := tinfo_mk inf92 rfl
instance tz92 : TZero Tryz.prog 92 (.slice none 0 0) := tzero_mk inf92
instance und93 : TUnd Tryz.prog 93 (.slice 171) := ⟨Tryz.underlying93⟩
theorem inf93 : (Tryz.prog.info? 93).map (fun i => (i.zero, i.size, i.bytes)) = some (some (.slice none 0 0), 1, 24) := by kernel_rfl
instance ti93 : TInfo Tryz.prog 93 1 24 [.slice none 0 0] := tinfo_mk inf93 rfl
instance tz93 : TZero Tryz.prog 93 (.slice none 0 0) := tzero_mk inf93
instance und94 : TUnd Tryz.prog 94 (.slice 4) := ⟨Tryz.underlying94⟩
theorem inf94 : (Tryz.prog.info? 94).map (fun i => (i.zero, i.size, i.bytes)) = some (some (.slice none 0 0), 1, 24) := by kernel_rfl
instance ti94 : TInfo Tryz.prog 94 1 24 [.slice none 0 0] := tinfo_mk inf94 rfl
instance tz94 : TZero Tryz.prog 94 (.slice none 0 0) := tzero_mk inf94
instance und97 : TUnd Tryz.prog 97 (.struct #[⟨ "Progs", 51, 0, false, "", "", 0⟩, ⟨ "Chans", 92, 1, false, "", "", 24⟩, ⟨ "at", 32, 2, false, "", "conduit/conduitref16", 48⟩, ⟨ "told", 93, 3, false, "", "conduit/conduitref16", 72⟩, ⟨ "Over", 94, 4, false, "", "", 96⟩, ⟨ "Line", 32, 5, false, "", "", 120⟩, ⟨ "Events", 59, 6, false, "", "", 144⟩, ⟨ "fired", 94, 7, false, "", "conduit/conduitref16", 168⟩, ⟨ "Now", 2, 8, false, "", "", 192⟩, ⟨ "timers", 95, 9, false, "", "conduit/conduitref16", 200⟩, ⟨ "made", 3, 10, false, "", "conduit/conduitref16", 224⟩, ⟨ "rest", 43, 11, false, "", "conduit/conduitref16", 232⟩]) := ⟨Tryz.underlying97⟩
theorem inf97 : (Tryz.prog.info? 97).map (fun i => (i.zero, i.size, i.bytes)) = some (some (.agg #[.slice none 0 0, .slice none 0 0, .slice none 0 0, .slice none 0 0, .slice none 0 0, .slice none 0 0, .slice none 0 0, .slice none 0 0, .int .i64 0, .slice none 0 0, .int .i64 0, .int .u64 0]), 12, 240) := by kernel_rfl
instance ti97 : TInfo Tryz.prog 97 12 240 [.slice none 0 0, .slice none 0 0, .slice none 0 0, .slice none 0 0, .slice none 0 0, .slice none 0 0, .slice none 0 0, .slice none 0 0, .int .i64 0, .slice none 0 0, .int .i64 0, .int .u64 0] := tinfo_mk inf97 rfl
instance tz97 : TZero Tryz.prog 97 (.agg #[.slice none 0 0, .slice none 0 0, .slice none 0 0, .slice none 0 0, .slice none 0 0, .slice none 0 0, .slice none 0 0, .slice none 0 0, .int .i64 0, .slice none 0 0, .int .i64 0, .int .u64 0]) := tzero_mk inf97
instance tf97_0 : TField Tryz.prog 97 0 0 := tfield_mk Tryz.underlying97 rfl rfl (by kernel_rfl)
instance tp97_0 : TPart Tryz.prog 97 0 0 1 false := tpart_mk Tryz.underlying97 rfl rfl (by kernel_rfl) Tryz.underlying51 rfl
instance tf97_1 : TField Tryz.prog 97 1 1 := tfield_mk Tryz.underlying97 rfl rfl (by kernel_rfl)
instance tp97_1 : TPart Tryz.prog 97 1 1 1 false := tpart_mk Tryz.underlying97 rfl rfl (by kernel_rfl) Tryz.underlying92 rfl
instance tf97_2 : TField Tryz.prog 97 2 2 := tfield_mk Tryz.underlying97 rfl rfl (by kernel_rfl)
instance tp97_2 : TPart Tryz.prog 97 2 2 1 false := tpart_mk Tryz.underlying97 rfl rfl (by kernel_rfl) Tryz.underlying32 rfl
instance tf97_3 : TField Tryz.prog 97 3 3 := tfield_mk Tryz.underlying97 rfl rfl (by kernel_rfl)
instance tp97_3 : TPart Tryz.prog 97 3 3 1 false := tpart_mk Tryz.underlying97 rfl rfl (by kernel_rfl) Tryz.underlying93 rfl
instance tf97_4 : TField Tryz.prog 97 4 4 := tfield_mk Tryz.underlying97 rfl rfl (by kernel_rfl)
instance tp97_4 : TPart Tryz.prog 97 4 4 1 false := tpart_mk Tryz.underlying97 rfl rfl (by kernel_rfl) Tryz.underlying94 rfl
instance tf97_5 : TField Tryz.prog 97 5 5 := tfield_mk Tryz.underlying97 rfl rfl (by kernel_rfl)
instance tp97_5 : TPart Tryz.prog 97 5 5 1 false := tpart_mk Tryz.underlying97 rfl rfl (by kernel_rfl) Tryz.underlying32 rfl
instance tf97_6 : TField Tryz.prog 97 6 6 := tfield_mk Tryz.underlying97 rfl rfl (by kernel_rfl)
instance tp97_6 : TPart Tryz.prog 97 6 6 1 false := tpart_mk Tryz.underlying97 rfl rfl (by kernel_rfl) Tryz.underlying59 rfl
instance tf97_7 : TField Tryz.prog 97 7 7 := tfield_mk Tryz.underlying97 rfl rfl (by kernel_rfl)
instance tp97_7 : TPart Tryz.prog 97 7 7 1 false := tpart_mk Tryz.underlying97 rfl rfl (by kernel_rfl) Tryz.underlying94 rfl
instance tf97_8 : TField Tryz.prog 97 8 8 := tfield_mk Tryz.underlying97 rfl rfl (by kernel_rfl)
instance tp97_8 : TPart Tryz.prog 97 8 8 1 false := tpart_mk Tryz.underlying97 rfl rfl (by kernel_rfl) Tryz.underlying2 rfl
instance tf97_9 : TField Tryz.prog 97 9 9 := tfield_mk Tryz.underlying97 rfl rfl (by kernel_rfl)
instance tp97_9 : TPart Tryz.prog 97 9 9 1 false := tpart_mk Tryz.underlying97 rfl rfl (by kernel_rfl) Tryz.underlying95 rfl
instance tf97_10 : TField Tryz.prog 97 10 10 := tfield_mk Tryz.underlying97 rfl rfl (by kernel_rfl)
instance tp97_10 : TPart Tryz.prog 97 10 10 1 false := tpart_mk Tryz.underlying97 rfl rfl (by kernel_rfl) Tryz.underlying3 rfl
instance tf97_11 : TField Tryz.prog 97 11 11 := tfield_mk Tryz.underlying97 rfl rfl (by kernel_rfl)
instance tp97_11 : TPart Tryz.prog 97 11 11 1 false := tpart_mk Tryz.underlying97 rfl rfl (by kernel_rfl) Tryz.underlying43 rfl
instance tpl97 : TPlaces Tryz.prog 97 [(0, 1), (1, 1), (2, 1), (3, 1), (4, 1), (5, 1), (6, 1), (7, 1), (8, 1), (9, 1), (10, 1), (11, 1)] := tplaces_mk Tryz.underlying97 (by kernel_rfl) (by kernel_rfl)
instance und98 : TUnd Tryz.prog 98 (.func #[] #[2] false) := ⟨Tryz.underlying98⟩
theorem inf98 : (Tryz.prog.info? 98).map (fun i => (i.zero, i.size, i.bytes)) = some (some (.nilFunc), 1, 8) := by kernel_rfl
instance ti98 : TInfo Tryz.prog 98 1 8 [.nilFunc] := tinfo_mk inf98 rfl
instance tz98 : TZero Tryz.prog 98 (.nilFunc) := tzero_mk inf98
instance und100 : TUnd Tryz.prog 100 (.struct #[⟨ "Task", 3, 0, false, "", "", 0⟩, ⟨ "At", 3, 1, false, "", "", 8⟩, ⟨ "Case", 3, 2, false, "", "", 16⟩, ⟨ "V", 3, 3, false, "", "", 24⟩, ⟨ "Ok", 4, 4, false, "", "", 32⟩]) := ⟨Tryz.underlying100⟩
theorem inf100 : (Tryz.prog.info? 100).map (fun i => (i.zero, i.size, i.bytes)) = some (some (.agg #[.int .i64 0, .int .i64 0, .int .i64 0, .int .i64 0, .bool false]), 5, 40) := by kernel_rfl
instance ti100 : TInfo Tryz.prog 100 5 40 [.int .i64 0, .int .i64 0, .int .i64 0, .int .i64 0, .bool false] := tinfo_mk inf100 rfl
instance tz100 : TZero Tryz.prog 100 (.agg #[.int .i64 0, .int .i64 0, .int .i64 0, .int .i64 0, .bool false]) := tzero_mk inf100
instance tf100_0 : TField Tryz.prog 100 0 0 := tfield_mk Tryz.underlying100 rfl rfl (by kernel_rfl)
instance tp100_0 : TPart Tryz.prog 100 0 0 1 false := tpart_mk Tryz.underlying100 rfl rfl (by kernel_rfl) Tryz.underlying3 rfl
instance tf100_1 : TField Tryz.prog 100 1 1 := tfield_mk Tryz.underlying100 rfl rfl (by kernel_rfl)
instance tp100_1 : TPart Tryz.prog 100 1 1 1 false := tpart_mk Tryz.underlying100 rfl rfl (by kernel_rfl) Tryz.underlying3 rfl
instance tf100_2 : TField Tryz.prog 100 2 2 := tfield_mk Tryz.underlying100 rfl rfl (by kernel_rfl)
instance tp100_2 : TPart Tryz.prog 100 2 2 1 false := tpart_mk Tryz.underlying100 rfl rfl (by kernel_rfl) Tryz.underlying3 rfl
instance tf100_3 : TField Tryz.prog 100 3 3 := tfield_mk Tryz.underlying100 rfl rfl (by kernel_rfl)
instance tp100_3 : TPart Tryz.prog 100 3 3 1 false := tpart_mk Tryz.underlying100 rfl rfl (by kernel_rfl) Tryz.underlying3 rfl
instance tf100_4 : TField Tryz.prog 100 4 4 := tfield_mk Tryz.underlying100 rfl rfl (by kernel_rfl)
instance tp100_4 : TPart Tryz.prog 100 4 4 1 false := tpart_mk Tryz.underlying100 rfl rfl (by kernel_rfl) Tryz.underlying4 rfl
instance tpl100 : TPlaces Tryz.prog 100 [(0, 1), (1, 1), (2, 1), (3, 1), (4, 1)] := tplaces_mk Tryz.underlying100 (by kernel_rfl) (by kernel_rfl)
instance und106 : TUnd Tryz.prog 106 (.pointer 220) := ⟨Tryz.underlying106⟩
theorem inf106 : (Tryz.prog.info? 106).map (fun i => (i.zero, i.size, i.bytes)) = some (some (.pointer none), 1, 8) := by kernel_rfl
instance ti106 : TInfo Tryz.prog 106 1 8 [.pointer none] := tinfo_mk inf106 rfl
instance tz106 : TZero Tryz.prog 106 (.pointer none) := tzero_mk inf106
instance und108 : TUnd Tryz.prog 108 (.struct #[⟨ "ready", 106, 0, false, "", "conduit/csp", 0⟩, ⟨ "tasks", 58, 1, false, "", "conduit/csp", 8⟩, ⟨ "now", 34, 2, false, "", "conduit/csp", 32⟩, ⟨ "rest", 43, 3, false, "", "conduit/csp", 40⟩]) := ⟨Tryz.underlying108⟩
theorem inf108 : (Tryz.prog.info? 108).map (fun i => (i.zero, i.size, i.bytes)) = some (some (.agg #[.pointer none, .slice none 0 0, .pointer none, .int .u64 0]), 4, 48) := by kernel_rfl
instance ti108 : TInfo Tryz.prog 108 4 48 [.pointer none, .slice none 0 0, .pointer none, .int .u64 0] := tinfo_mk inf108 rfl
instance tz108 : TZero Tryz.prog 108 (.agg #[.pointer none, .slice none 0 0, .pointer none, .int .u64 0]) := tzero_mk inf108
instance tf108_0 : TField Tryz.prog 108 0 0 := tfield_mk Tryz.underlying108 rfl rfl (by kernel_rfl)
instance tp108_0 : TPart Tryz.prog 108 0 0 1 false := tpart_mk Tryz.underlying108 rfl rfl (by kernel_rfl) Tryz.underlying106 rfl
instance tf108_1 : TField Tryz.prog 108 1 1 := tfield_mk Tryz.underlying108 rfl rfl (by kernel_rfl)
instance tp108_1 : TPart Tryz.prog 108 1 1 1 false := tpart_mk Tryz.underlying108 rfl rfl (by kernel_rfl) Tryz.underlying58 rfl
instance tf108_2 : TField Tryz.prog 108 2 2 := tfield_mk Tryz.underlying108 rfl rfl (by kernel_rfl)
instance tp108_2 : TPart Tryz.prog 108 2 2 1 false := tpart_mk Tryz.underlying108 rfl rfl (by kernel_rfl) Tryz.underlying34 rfl
instance tf108_3 : TField Tryz.prog 108 3 3 := tfield_mk Tryz.underlying108 rfl rfl (by kernel_rfl)
instance tp108_3 : TPart Tryz.prog 108 3 3 1 false := tpart_mk Tryz.underlying108 rfl rfl (by kernel_rfl) Tryz.underlying43 rfl
instance tpl108 : TPlaces Tryz.prog 108 [(0, 1), (1, 1), (2, 1), (3, 1)] := tplaces_mk Tryz.underlying108 (by kernel_rfl) (by kernel_rfl)
instance und109 : TUnd Tryz.prog 109 (.func #[2, 4] #[] false) := ⟨Tryz.underlying109⟩
theorem inf109 : (Tryz.prog.info? 109).map (fun i => (i.zero, i.size, i.bytes)) = some (some (.nilFunc), 1, 8) := by kernel_rfl
instance ti109 : TInfo Tryz.prog 109 1 8 [.nilFunc] := tinfo_mk inf109 rfl
instance tz109 : TZero Tryz.prog 109 (.nilFunc) := tzero_mk inf109
instance und110 : TUnd Tryz.prog 110 (.slice 29) := ⟨Tryz.underlying110⟩
theorem inf110 : (Tryz.prog.info? 110).map (fun i => (i.zero, i.size, i.bytes)) = some (some (.slice none 0 0), 1, 24) := by kernel_rfl
instance ti110 : TInfo Tryz.prog 110 1 24 [.slice none 0 0] := tinfo_mk inf110 rfl
instance tz110 : TZero Tryz.prog 110 (.slice none 0 0) := tzero_mk inf110
instance und111 : TUnd Tryz.prog 111 (.tuple #[3, 29]) := ⟨Tryz.underlying111⟩
instance und112 : TUnd Tryz.prog 112 (.func #[34, 2, 109] #[3, 29] false) := ⟨Tryz.underlying112⟩
theorem inf112 : (Tryz.prog.info? 112).map (fun i => (i.zero, i.size, i.bytes)) = some (some (.nilFunc), 1, 8) := by kernel_rfl
instance ti112 : TInfo Tryz.prog 112 1 8 [.nilFunc] := tinfo_mk inf112 rfl
instance tz112 : TZero Tryz.prog 112 (.nilFunc) := tzero_mk inf112
instance und116 : TUnd Tryz.prog 116 (.func #[3] #[4] false) := ⟨Tryz.underlying116⟩
theorem inf116 : (Tryz.prog.info? 116).map (fun i => (i.zero, i.size, i.bytes)) = some (some (.nilFunc), 1, 8) := by kernel_rfl
instance ti116 : TInfo Tryz.prog 116 1 8 [.nilFunc] := tinfo_mk inf116 rfl
instance tz116 : TZero Tryz.prog 116 (.nilFunc) := tzero_mk inf116
instance und117 : TUnd Tryz.prog 117 (.func #[2] #[4] false) := ⟨Tryz.underlying117⟩
theorem inf117 : (Tryz.prog.info? 117).map (fun i => (i.zero, i.size, i.bytes)) = some (some (.nilFunc), 1, 8) := by kernel_rfl
instance ti117 : TInfo Tryz.prog 117 1 8 [.nilFunc] := tinfo_mk inf117 rfl
instance tz117 : TZero Tryz.prog 117 (.nilFunc) := tzero_mk inf117
instance und122 : TUnd Tryz.prog 122 (.func #[28, 125] #[4] false) := ⟨Tryz.underlying122⟩
theorem inf122 : (Tryz.prog.info? 122).map (fun i => (i.zero, i.size, i.bytes)) = some (some (.nilFunc), 1, 8) := by kernel_rfl
instance ti122 : TInfo Tryz.prog 122 1 8 [.nilFunc] := tinfo_mk inf122 rfl
instance tz122 : TZero Tryz.prog 122 (.nilFunc) := tzero_mk inf122
instance und123 : TUnd Tryz.prog 123 (.slice 271) := ⟨Tryz.underlying123⟩
theorem inf123 : (Tryz.prog.info? 123).map (fun i => (i.zero, i.size, i.bytes)) = some (some (.slice none 0 0), 1, 24) := by kernel_rfl
instance ti123 : TInfo Tryz.prog 123 1 24 [.slice none 0 0] := tinfo_mk inf123 rfl
instance tz123 : TZero Tryz.prog 123 (.slice none 0 0) := tzero_mk inf123
instance und125 : TUnd Tryz.prog 125 (.struct #[⟨ "Size", 3, 0, false, "", "", 0⟩, ⟨ "Buf", 32, 1, false, "", "", 8⟩, ⟨ "Senders", 123, 2, false, "", "", 32⟩, ⟨ "Receivers", 123, 3, false, "", "", 56⟩, ⟨ "Closed", 4, 4, false, "", "", 80⟩]) := ⟨Tryz.underlying125⟩
theorem inf125 : (Tryz.prog.info? 125).map (fun i => (i.zero, i.size, i.bytes)) = some (some (.agg #[.int .i64 0, .slice none 0 0, .slice none 0 0, .slice none 0 0, .bool false]), 5, 88) := by kernel_rfl
instance ti125 : TInfo Tryz.prog 125 5 88 [.int .i64 0, .slice none 0 0, .slice none 0 0, .slice none 0 0, .bool false] := tinfo_mk inf125 rfl
instance tz125 : TZero Tryz.prog 125 (.agg #[.int .i64 0, .slice none 0 0, .slice none 0 0, .slice none 0 0, .bool false]) := tzero_mk inf125
instance tf125_0 : TField Tryz.prog 125 0 0 := tfield_mk Tryz.underlying125 rfl rfl (by kernel_rfl)
instance tp125_0 : TPart Tryz.prog 125 0 0 1 false := tpart_mk Tryz.underlying125 rfl rfl (by kernel_rfl) Tryz.underlying3 rfl
instance tf125_1 : TField Tryz.prog 125 1 1 := tfield_mk Tryz.underlying125 rfl rfl (by kernel_rfl)
instance tp125_1 : TPart Tryz.prog 125 1 1 1 false := tpart_mk Tryz.underlying125 rfl rfl (by kernel_rfl) Tryz.underlying32 rfl
instance tf125_2 : TField Tryz.prog 125 2 2 := tfield_mk Tryz.underlying125 rfl rfl (by kernel_rfl)
instance tp125_2 : TPart Tryz.prog 125 2 2 1 false := tpart_mk Tryz.underlying125 rfl rfl (by kernel_rfl) Tryz.underlying123 rfl
instance tf125_3 : TField Tryz.prog 125 3 3 := tfield_mk Tryz.underlying125 rfl rfl (by kernel_rfl)
instance tp125_3 : TPart Tryz.prog 125 3 3 1 false := tpart_mk Tryz.underlying125 rfl rfl (by kernel_rfl) Tryz.underlying123 rfl
instance tf125_4 : TField Tryz.prog 125 4 4 := tfield_mk Tryz.underlying125 rfl rfl (by kernel_rfl)
instance tp125_4 : TPart Tryz.prog 125 4 4 1 false := tpart_mk Tryz.underlying125 rfl rfl (by kernel_rfl) Tryz.underlying4 rfl
instance tpl125 : TPlaces Tryz.prog 125 [(0, 1), (1, 1), (2, 1), (3, 1), (4, 1)] := tplaces_mk Tryz.underlying125 (by kernel_rfl) (by kernel_rfl)
instance und126 : TUnd Tryz.prog 126 (.func #[59, 59] #[4] false) := ⟨Tryz.underlying126⟩
theorem inf126 : (Tryz.prog.info? 126).map (fun i => (i.zero, i.size, i.bytes)) = some (some (.nilFunc), 1, 8) := by kernel_rfl
instance ti126 : TInfo Tryz.prog 126 1 8 [.nilFunc] := tinfo_mk inf126 rfl
instance tz126 : TZero Tryz.prog 126 (.nilFunc) := tzero_mk inf126
instance und127 : TUnd Tryz.prog 127 (.func #[51, 32, 24] #[4] false) := ⟨Tryz.underlying127⟩
theorem inf127 : (Tryz.prog.info? 127).map (fun i => (i.zero, i.size, i.bytes)) = some (some (.nilFunc), 1, 8) := by kernel_rfl
instance ti127 : TInfo Tryz.prog 127 1 8 [.nilFunc] := tinfo_mk inf127 rfl
instance tz127 : TZero Tryz.prog 127 (.nilFunc) := tzero_mk inf127
instance und134 : TUnd Tryz.prog 134 (.map 3 2) := ⟨Tryz.underlying134⟩
theorem inf134 : (Tryz.prog.info? 134).map (fun i => (i.zero, i.size, i.bytes)) = some (some (.map none), 1, 8) := by kernel_rfl
instance ti134 : TInfo Tryz.prog 134 1 8 [.map none] := tinfo_mk inf134 rfl
instance tz134 : TZero Tryz.prog 134 (.map none) := tzero_mk inf134
instance und135 : TUnd Tryz.prog 135 (.func #[3] #[] false) := ⟨Tryz.underlying135⟩
theorem inf135 : (Tryz.prog.info? 135).map (fun i => (i.zero, i.size, i.bytes)) = some (some (.nilFunc), 1, 8) := by kernel_rfl
instance ti135 : TInfo Tryz.prog 135 1 8 [.nilFunc] := tinfo_mk inf135 rfl
instance tz135 : TZero Tryz.prog 135 (.nilFunc) := tzero_mk inf135
instance und138 : TUnd Tryz.prog 138 (.tuple #[3, 4]) := ⟨Tryz.underlying138⟩
instance und139 : TUnd Tryz.prog 139 (.func #[2] #[3, 4] false) := ⟨Tryz.underlying139⟩
theorem inf139 : (Tryz.prog.info? 139).map (fun i => (i.zero, i.size, i.bytes)) = some (some (.nilFunc), 1, 8) := by kernel_rfl
instance ti139 : TInfo Tryz.prog 139 1 8 [.nilFunc] := tinfo_mk inf139 rfl
instance tz139 : TZero Tryz.prog 139 (.nilFunc) := tzero_mk inf139
instance und140 : TUnd Tryz.prog 140 (.tuple #[2, 4]) := ⟨Tryz.underlying140⟩
instance und141 : TUnd Tryz.prog 141 (.tuple #[2, 4, 4]) := ⟨Tryz.underlying141⟩
instance und142 : TUnd Tryz.prog 142 (.func #[] #[2, 4, 4] false) := ⟨Tryz.underlying142⟩
theorem inf142 : (Tryz.prog.info? 142).map (fun i => (i.zero, i.size, i.bytes)) = some (some (.nilFunc), 1, 8) := by kernel_rfl
instance ti142 : TInfo Tryz.prog 142 1 8 [.nilFunc] := tinfo_mk inf142 rfl
instance tz142 : TZero Tryz.prog 142 (.nilFunc) := tzero_mk inf142
instance und144 : TUnd Tryz.prog 144 (.pointer 223) := ⟨Tryz.underlying144⟩
theorem inf144 : (Tryz.prog.info? 144).map (fun i => (i.zero, i.size, i.bytes)) = some (some (.pointer none), 1, 8) := by kernel_rfl
instance ti144 : TInfo Tryz.prog 144 1 8 [.pointer none] := tinfo_mk inf144 rfl
instance tz144 : TZero Tryz.prog 144 (.pointer none) := tzero_mk inf144
instance und145 : TUnd Tryz.prog 145 (.pointer 226) := ⟨Tryz.underlying145⟩
theorem inf145 : (Tryz.prog.info? 145).map (fun i => (i.zero, i.size, i.bytes)) = some (some (.pointer none), 1, 8) := by kernel_rfl
instance ti145 : TInfo Tryz.prog 145 1 8 [.pointer none] := tinfo_mk inf145 rfl
instance tz145 : TZero Tryz.prog 145 (.pointer none) := tzero_mk inf145
instance und146 : TUnd Tryz.prog 146 (.pointer 229) := ⟨Tryz.underlying146⟩
theorem inf146 : (Tryz.prog.info? 146).map (fun i => (i.zero, i.size, i.bytes)) = some (some (.pointer none), 1, 8) := by kernel_rfl
instance ti146 : TInfo Tryz.prog 146 1 8 [.pointer none] := tinfo_mk inf146 rfl
instance tz146 : TZero Tryz.prog 146 (.pointer none) := tzero_mk inf146
instance und148 : TUnd Tryz.prog 148 (.struct #[⟨ "r", 26, 0, false, "", "conduit/chans", 0⟩, ⟨ "size", 3, 1, false, "", "conduit/chans", 8⟩, ⟨ "buf", 144, 2, false, "", "conduit/chans", 16⟩, ⟨ "senders", 145, 3, false, "", "conduit/chans", 24⟩, ⟨ "receivers", 146, 4, false, "", "conduit/chans", 32⟩, ⟨ "closed", 4, 5, false, "", "conduit/chans", 40⟩]) := ⟨Tryz.underlying148⟩
theorem inf148 : (Tryz.prog.info? 148).map (fun i => (i.zero, i.size, i.bytes)) = some (some (.agg #[.pointer none, .int .i64 0, .pointer none, .pointer none, .pointer none, .bool false]), 6, 48) := by kernel_rfl
instance ti148 : TInfo Tryz.prog 148 6 48 [.pointer none, .int .i64 0, .pointer none, .pointer none, .pointer none, .bool false] := tinfo_mk inf148 rfl
instance tz148 : TZero Tryz.prog 148 (.agg #[.pointer none, .int .i64 0, .pointer none, .pointer none, .pointer none, .bool false]) := tzero_mk inf148
instance tf148_0 : TField Tryz.prog 148 0 0 := tfield_mk Tryz.underlying148 rfl rfl (by kernel_rfl)
instance tp148_0 : TPart Tryz.prog 148 0 0 1 false := tpart_mk Tryz.underlying148 rfl rfl (by kernel_rfl) Tryz.underlying26 rfl
instance tf148_1 : TField Tryz.prog 148 1 1 := tfield_mk Tryz.underlying148 rfl rfl (by kernel_rfl)
instance tp148_1 : TPart Tryz.prog 148 1 1 1 false := tpart_mk Tryz.underlying148 rfl rfl (by kernel_rfl) Tryz.underlying3 rfl
instance tf148_2 : TField Tryz.prog 148 2 2 := tfield_mk Tryz.underlying148 rfl rfl (by kernel_rfl)
instance tp148_2 : TPart Tryz.prog 148 2 2 1 false := tpart_mk Tryz.underlying148 rfl rfl (by kernel_rfl) Tryz.underlying144 rfl
instance tf148_3 : TField Tryz.prog 148 3 3 := tfield_mk Tryz.underlying148 rfl rfl (by kernel_rfl)
instance tp148_3 : TPart Tryz.prog 148 3 3 1 false := tpart_mk Tryz.underlying148 rfl rfl (by kernel_rfl) Tryz.underlying145 rfl
instance tf148_4 : TField Tryz.prog 148 4 4 := tfield_mk Tryz.underlying148 rfl rfl (by kernel_rfl)
instance tp148_4 : TPart Tryz.prog 148 4 4 1 false := tpart_mk Tryz.underlying148 rfl rfl (by kernel_rfl) Tryz.underlying146 rfl
instance tf148_5 : TField Tryz.prog 148 5 5 := tfield_mk Tryz.underlying148 rfl rfl (by kernel_rfl)
instance tp148_5 : TPart Tryz.prog 148 5 5 1 false := tpart_mk Tryz.underlying148 rfl rfl (by kernel_rfl) Tryz.underlying4 rfl
instance tpl148 : TPlaces Tryz.prog 148 [(0, 1), (1, 1), (2, 1), (3, 1), (4, 1), (5, 1)] := tplaces_mk Tryz.underlying148 (by kernel_rfl) (by kernel_rfl)
instance und149 : TUnd Tryz.prog 149 (.func #[] #[4, 4] false) := ⟨Tryz.underlying149⟩
theorem inf149 : (Tryz.prog.info? 149).map (fun i => (i.zero, i.size, i.bytes)) = some (some (.nilFunc), 1, 8) := by kernel_rfl
instance ti149 : TInfo Tryz.prog 149 1 8 [.nilFunc] := tinfo_mk inf149 rfl
instance tz149 : TZero Tryz.prog 149 (.nilFunc) := tzero_mk inf149
instance und150 : TUnd Tryz.prog 150 (.func #[] #[106] false) := ⟨Tryz.underlying150⟩
theorem inf150 : (Tryz.prog.info? 150).map (fun i => (i.zero, i.size, i.bytes)) = some (some (.nilFunc), 1, 8) := by kernel_rfl
instance ti150 : TInfo Tryz.prog 150 1 8 [.nilFunc] := tinfo_mk inf150 rfl
instance tz150 : TZero Tryz.prog 150 (.nilFunc) := tzero_mk inf150
instance und151 : TUnd Tryz.prog 151 (.func #[32] #[144] true) := ⟨Tryz.underlying151⟩
theorem inf151 : (Tryz.prog.info? 151).map (fun i => (i.zero, i.size, i.bytes)) = some (some (.nilFunc), 1, 8) := by kernel_rfl
instance ti151 : TInfo Tryz.prog 151 1 8 [.nilFunc] := tinfo_mk inf151 rfl
instance tz151 : TZero Tryz.prog 151 (.nilFunc) := tzero_mk inf151
instance und152 : TUnd Tryz.prog 152 (.func #[185] #[145] true) := ⟨Tryz.underlying152⟩
theorem inf152 : (Tryz.prog.info? 152).map (fun i => (i.zero, i.size, i.bytes)) = some (some (.nilFunc), 1, 8) := by kernel_rfl
instance ti152 : TInfo Tryz.prog 152 1 8 [.nilFunc] := tinfo_mk inf152 rfl
instance tz152 : TZero Tryz.prog 152 (.nilFunc) := tzero_mk inf152
instance und154 : TUnd Tryz.prog 154 (.struct #[⟨ "k", 71, 0, false, "", "conduit/chans", 0⟩, ⟨ "v", 3, 1, false, "", "conduit/chans", 8⟩, ⟨ "told", 36, 2, false, "", "conduit/chans", 16⟩]) := ⟨Tryz.underlying154⟩
theorem inf154 : (Tryz.prog.info? 154).map (fun i => (i.zero, i.size, i.bytes)) = some (some (.agg #[.pointer none, .int .i64 0, .nilFunc]), 3, 24) := by kernel_rfl
instance ti154 : TInfo Tryz.prog 154 3 24 [.pointer none, .int .i64 0, .nilFunc] := tinfo_mk inf154 rfl
instance tz154 : TZero Tryz.prog 154 (.agg #[.pointer none, .int .i64 0, .nilFunc]) := tzero_mk inf154
instance tf154_0 : TField Tryz.prog 154 0 0 := tfield_mk Tryz.underlying154 rfl rfl (by kernel_rfl)
instance tp154_0 : TPart Tryz.prog 154 0 0 1 false := tpart_mk Tryz.underlying154 rfl rfl (by kernel_rfl) Tryz.underlying71 rfl
instance tf154_1 : TField Tryz.prog 154 1 1 := tfield_mk Tryz.underlying154 rfl rfl (by kernel_rfl)
instance tp154_1 : TPart Tryz.prog 154 1 1 1 false := tpart_mk Tryz.underlying154 rfl rfl (by kernel_rfl) Tryz.underlying3 rfl
instance tf154_2 : TField Tryz.prog 154 2 2 := tfield_mk Tryz.underlying154 rfl rfl (by kernel_rfl)
instance tp154_2 : TPart Tryz.prog 154 2 2 1 false := tpart_mk Tryz.underlying154 rfl rfl (by kernel_rfl) Tryz.underlying36 rfl
instance tpl154 : TPlaces Tryz.prog 154 [(0, 1), (1, 1), (2, 1)] := tplaces_mk Tryz.underlying154 (by kernel_rfl) (by kernel_rfl)
instance und155 : TUnd Tryz.prog 155 (.func #[180] #[146] true) := ⟨Tryz.underlying155⟩
theorem inf155 : (Tryz.prog.info? 155).map (fun i => (i.zero, i.size, i.bytes)) = some (some (.nilFunc), 1, 8) := by kernel_rfl
instance ti155 : TInfo Tryz.prog 155 1 8 [.nilFunc] := tinfo_mk inf155 rfl
instance tz155 : TZero Tryz.prog 155 (.nilFunc) := tzero_mk inf155
instance und157 : TUnd Tryz.prog 157 (.struct #[⟨ "k", 71, 0, false, "", "conduit/chans", 0⟩, ⟨ "told", 39, 1, false, "", "conduit/chans", 8⟩]) := ⟨Tryz.underlying157⟩
theorem inf157 : (Tryz.prog.info? 157).map (fun i => (i.zero, i.size, i.bytes)) = some (some (.agg #[.pointer none, .nilFunc]), 2, 16) := by kernel_rfl
instance ti157 : TInfo Tryz.prog 157 2 16 [.pointer none, .nilFunc] := tinfo_mk inf157 rfl
instance tz157 : TZero Tryz.prog 157 (.agg #[.pointer none, .nilFunc]) := tzero_mk inf157
instance tf157_0 : TField Tryz.prog 157 0 0 := tfield_mk Tryz.underlying157 rfl rfl (by kernel_rfl)
instance tp157_0 : TPart Tryz.prog 157 0 0 1 false := tpart_mk Tryz.underlying157 rfl rfl (by kernel_rfl) Tryz.underlying71 rfl
instance tf157_1 : TField Tryz.prog 157 1 1 := tfield_mk Tryz.underlying157 rfl rfl (by kernel_rfl)
instance tp157_1 : TPart Tryz.prog 157 1 1 1 false := tpart_mk Tryz.underlying157 rfl rfl (by kernel_rfl) Tryz.underlying39 rfl
instance tpl157 : TPlaces Tryz.prog 157 [(0, 1), (1, 1)] := tplaces_mk Tryz.underlying157 (by kernel_rfl) (by kernel_rfl)
instance und158 : TUnd Tryz.prog 158 (.func #[34, 26] #[29] false) := ⟨Tryz.underlying158⟩
theorem inf158 : (Tryz.prog.info? 158).map (fun i => (i.zero, i.size, i.bytes)) = some (some (.nilFunc), 1, 8) := by kernel_rfl
instance ti158 : TInfo Tryz.prog 158 1 8 [.nilFunc] := tinfo_mk inf158 rfl
instance tz158 : TZero Tryz.prog 158 (.nilFunc) := tzero_mk inf158
instance und159 : TUnd Tryz.prog 159 (.func #[135] #[29] false) := ⟨Tryz.underlying159⟩
theorem inf159 : (Tryz.prog.info? 159).map (fun i => (i.zero, i.size, i.bytes)) = some (some (.nilFunc), 1, 8) := by kernel_rfl
instance ti159 : TInfo Tryz.prog 159 1 8 [.nilFunc] := tinfo_mk inf159 rfl
instance tz159 : TZero Tryz.prog 159 (.nilFunc) := tzero_mk inf159
instance und160 : TUnd Tryz.prog 160 (.func #[3] #[29] false) := ⟨Tryz.underlying160⟩
theorem inf160 : (Tryz.prog.info? 160).map (fun i => (i.zero, i.size, i.bytes)) = some (some (.nilFunc), 1, 8) := by kernel_rfl
instance ti160 : TInfo Tryz.prog 160 1 8 [.nilFunc] := tinfo_mk inf160 rfl
instance tz160 : TZero Tryz.prog 160 (.nilFunc) := tzero_mk inf160
instance und162 : TUnd Tryz.prog 162 (.struct #[⟨ "r", 26, 0, false, "", "conduit/csp", 0⟩, ⟨ "id", 3, 1, false, "", "conduit/csp", 8⟩, ⟨ "next", 1, 2, false, "", "conduit/csp", 16⟩, ⟨ "wake", 135, 3, false, "", "conduit/csp", 24⟩, ⟨ "said", 4, 4, false, "", "conduit/csp", 32⟩, ⟨ "parked", 4, 5, false, "", "conduit/csp", 33⟩, ⟨ "over", 4, 6, false, "", "conduit/csp", 34⟩]) := ⟨Tryz.underlying162⟩
theorem inf162 : (Tryz.prog.info? 162).map (fun i => (i.zero, i.size, i.bytes)) = some (some (.agg #[.pointer none, .int .i64 0, .nilFunc, .nilFunc, .bool false, .bool false, .bool false]), 7, 40) := by kernel_rfl
instance ti162 : TInfo Tryz.prog 162 7 40 [.pointer none, .int .i64 0, .nilFunc, .nilFunc, .bool false, .bool false, .bool false] := tinfo_mk inf162 rfl
instance tz162 : TZero Tryz.prog 162 (.agg #[.pointer none, .int .i64 0, .nilFunc, .nilFunc, .bool false, .bool false, .bool false]) := tzero_mk inf162
instance tf162_0 : TField Tryz.prog 162 0 0 := tfield_mk Tryz.underlying162 rfl rfl (by kernel_rfl)
instance tp162_0 : TPart Tryz.prog 162 0 0 1 false := tpart_mk Tryz.underlying162 rfl rfl (by kernel_rfl) Tryz.underlying26 rfl
instance tf162_1 : TField Tryz.prog 162 1 1 := tfield_mk Tryz.underlying162 rfl rfl (by kernel_rfl)
instance tp162_1 : TPart Tryz.prog 162 1 1 1 false := tpart_mk Tryz.underlying162 rfl rfl (by kernel_rfl) Tryz.underlying3 rfl
instance tf162_2 : TField Tryz.prog 162 2 2 := tfield_mk Tryz.underlying162 rfl rfl (by kernel_rfl)
instance tp162_2 : TPart Tryz.prog 162 2 2 1 false := tpart_mk Tryz.underlying162 rfl rfl (by kernel_rfl) Tryz.underlying1 rfl
instance tf162_3 : TField Tryz.prog 162 3 3 := tfield_mk Tryz.underlying162 rfl rfl (by kernel_rfl)
instance tp162_3 : TPart Tryz.prog 162 3 3 1 false := tpart_mk Tryz.underlying162 rfl rfl (by kernel_rfl) Tryz.underlying135 rfl
instance tf162_4 : TField Tryz.prog 162 4 4 := tfield_mk Tryz.underlying162 rfl rfl (by kernel_rfl)
instance tp162_4 : TPart Tryz.prog 162 4 4 1 false := tpart_mk Tryz.underlying162 rfl rfl (by kernel_rfl) Tryz.underlying4 rfl
instance tf162_5 : TField Tryz.prog 162 5 5 := tfield_mk Tryz.underlying162 rfl rfl (by kernel_rfl)
instance tp162_5 : TPart Tryz.prog 162 5 5 1 false := tpart_mk Tryz.underlying162 rfl rfl (by kernel_rfl) Tryz.underlying4 rfl
instance tf162_6 : TField Tryz.prog 162 6 6 := tfield_mk Tryz.underlying162 rfl rfl (by kernel_rfl)
instance tp162_6 : TPart Tryz.prog 162 6 6 1 false := tpart_mk Tryz.underlying162 rfl rfl (by kernel_rfl) Tryz.underlying4 rfl
instance tpl162 : TPlaces Tryz.prog 162 [(0, 1), (1, 1), (2, 1), (3, 1), (4, 1), (5, 1), (6, 1)] := tplaces_mk Tryz.underlying162 (by kernel_rfl) (by kernel_rfl)
instance und163 : TUnd Tryz.prog 163 (.tuple #[3, 43, 4]) := ⟨Tryz.underlying163⟩
instance und164 : TUnd Tryz.prog 164 (.func #[43] #[3, 43, 4] false) := ⟨Tryz.underlying164⟩
theorem inf164 : (Tryz.prog.info? 164).map (fun i => (i.zero, i.size, i.bytes)) = some (some (.nilFunc), 1, 8) := by kernel_rfl
instance ti164 : TInfo Tryz.prog 164 1 8 [.nilFunc] := tinfo_mk inf164 rfl
instance tz164 : TZero Tryz.prog 164 (.nilFunc) := tzero_mk inf164
instance und165 : TUnd Tryz.prog 165 (.slice 247) := ⟨Tryz.underlying165⟩
theorem inf165 : (Tryz.prog.info? 165).map (fun i => (i.zero, i.size, i.bytes)) = some (some (.slice none 0 0), 1, 24) := by kernel_rfl
instance ti165 : TInfo Tryz.prog 165 1 24 [.slice none 0 0] := tinfo_mk inf165 rfl
instance tz165 : TZero Tryz.prog 165 (.slice none 0 0) := tzero_mk inf165
instance und167 : TUnd Tryz.prog 167 (.struct #[⟨ "Kind", 3, 0, false, "", "", 0⟩, ⟨ "C", 3, 1, false, "", "", 8⟩, ⟨ "V", 3, 2, false, "", "", 16⟩, ⟨ "Cases", 165, 3, false, "", "", 24⟩, ⟨ "Default", 4, 4, false, "", "", 48⟩]) := ⟨Tryz.underlying167⟩
theorem inf167 : (Tryz.prog.info? 167).map (fun i => (i.zero, i.size, i.bytes)) = some (some (.agg #[.int .i64 0, .int .i64 0, .int .i64 0, .slice none 0 0, .bool false]), 5, 56) := by kernel_rfl
instance ti167 : TInfo Tryz.prog 167 5 56 [.int .i64 0, .int .i64 0, .int .i64 0, .slice none 0 0, .bool false] := tinfo_mk inf167 rfl
instance tz167 : TZero Tryz.prog 167 (.agg #[.int .i64 0, .int .i64 0, .int .i64 0, .slice none 0 0, .bool false]) := tzero_mk inf167
instance tf167_0 : TField Tryz.prog 167 0 0 := tfield_mk Tryz.underlying167 rfl rfl (by kernel_rfl)
instance tp167_0 : TPart Tryz.prog 167 0 0 1 false := tpart_mk Tryz.underlying167 rfl rfl (by kernel_rfl) Tryz.underlying3 rfl
instance tf167_1 : TField Tryz.prog 167 1 1 := tfield_mk Tryz.underlying167 rfl rfl (by kernel_rfl)
instance tp167_1 : TPart Tryz.prog 167 1 1 1 false := tpart_mk Tryz.underlying167 rfl rfl (by kernel_rfl) Tryz.underlying3 rfl
instance tf167_2 : TField Tryz.prog 167 2 2 := tfield_mk Tryz.underlying167 rfl rfl (by kernel_rfl)
instance tp167_2 : TPart Tryz.prog 167 2 2 1 false := tpart_mk Tryz.underlying167 rfl rfl (by kernel_rfl) Tryz.underlying3 rfl
instance tf167_3 : TField Tryz.prog 167 3 3 := tfield_mk Tryz.underlying167 rfl rfl (by kernel_rfl)
instance tp167_3 : TPart Tryz.prog 167 3 3 1 false := tpart_mk Tryz.underlying167 rfl rfl (by kernel_rfl) Tryz.underlying165 rfl
instance tf167_4 : TField Tryz.prog 167 4 4 := tfield_mk Tryz.underlying167 rfl rfl (by kernel_rfl)
instance tp167_4 : TPart Tryz.prog 167 4 4 1 false := tpart_mk Tryz.underlying167 rfl rfl (by kernel_rfl) Tryz.underlying4 rfl
instance tpl167 : TPlaces Tryz.prog 167 [(0, 1), (1, 1), (2, 1), (3, 1), (4, 1)] := tplaces_mk Tryz.underlying167 (by kernel_rfl) (by kernel_rfl)
instance und168 : TUnd Tryz.prog 168 (.slice 167) := ⟨Tryz.underlying168⟩
theorem inf168 : (Tryz.prog.info? 168).map (fun i => (i.zero, i.size, i.bytes)) = some (some (.slice none 0 0), 1, 24) := by kernel_rfl
instance ti168 : TInfo Tryz.prog 168 1 24 [.slice none 0 0] := tinfo_mk inf168 rfl
instance tz168 : TZero Tryz.prog 168 (.slice none 0 0) := tzero_mk inf168
instance und169 : TUnd Tryz.prog 169 (.func #[34, 3, 3, 171] #[] false) := ⟨Tryz.underlying169⟩
theorem inf169 : (Tryz.prog.info? 169).map (fun i => (i.zero, i.size, i.bytes)) = some (some (.nilFunc), 1, 8) := by kernel_rfl
instance ti169 : TInfo Tryz.prog 169 1 8 [.nilFunc] := tinfo_mk inf169 rfl
instance tz169 : TZero Tryz.prog 169 (.nilFunc) := tzero_mk inf169
instance und171 : TUnd Tryz.prog 171 (.struct #[⟨ "Case", 3, 0, false, "", "", 0⟩, ⟨ "V", 3, 1, false, "", "", 8⟩, ⟨ "Ok", 4, 2, false, "", "", 16⟩]) := ⟨Tryz.underlying171⟩
theorem inf171 : (Tryz.prog.info? 171).map (fun i => (i.zero, i.size, i.bytes)) = some (some (.agg #[.int .i64 0, .int .i64 0, .bool false]), 3, 24) := by kernel_rfl
instance ti171 : TInfo Tryz.prog 171 3 24 [.int .i64 0, .int .i64 0, .bool false] := tinfo_mk inf171 rfl
instance tz171 : TZero Tryz.prog 171 (.agg #[.int .i64 0, .int .i64 0, .bool false]) := tzero_mk inf171
instance tf171_0 : TField Tryz.prog 171 0 0 := tfield_mk Tryz.underlying171 rfl rfl (by kernel_rfl)
instance tp171_0 : TPart Tryz.prog 171 0 0 1 false := tpart_mk Tryz.underlying171 rfl rfl (by kernel_rfl) Tryz.underlying3 rfl
instance tf171_1 : TField Tryz.prog 171 1 1 := tfield_mk Tryz.underlying171 rfl rfl (by kernel_rfl)
instance tp171_1 : TPart Tryz.prog 171 1 1 1 false := tpart_mk Tryz.underlying171 rfl rfl (by kernel_rfl) Tryz.underlying3 rfl
instance tf171_2 : TField Tryz.prog 171 2 2 := tfield_mk Tryz.underlying171 rfl rfl (by kernel_rfl)
instance tp171_2 : TPart Tryz.prog 171 2 2 1 false := tpart_mk Tryz.underlying171 rfl rfl (by kernel_rfl) Tryz.underlying4 rfl
instance tpl171 : TPlaces Tryz.prog 171 [(0, 1), (1, 1), (2, 1)] := tplaces_mk Tryz.underlying171 (by kernel_rfl) (by kernel_rfl)
instance und173 : TUnd Tryz.prog 173 (.func #[] #[157, 4] false) := ⟨Tryz.underlying173⟩
theorem inf173 : (Tryz.prog.info? 173).map (fun i => (i.zero, i.size, i.bytes)) = some (some (.nilFunc), 1, 8) := by kernel_rfl
instance ti173 : TInfo Tryz.prog 173 1 8 [.nilFunc] := tinfo_mk inf173 rfl
instance tz173 : TZero Tryz.prog 173 (.nilFunc) := tzero_mk inf173
instance und175 : TUnd Tryz.prog 175 (.struct #[⟨ "fire", 1, 0, false, "", "conduit/chans", 0⟩, ⟨ "fired", 4, 1, false, "", "conduit/chans", 8⟩]) := ⟨Tryz.underlying175⟩
theorem inf175 : (Tryz.prog.info? 175).map (fun i => (i.zero, i.size, i.bytes)) = some (some (.agg #[.nilFunc, .bool false]), 2, 16) := by kernel_rfl
instance ti175 : TInfo Tryz.prog 175 2 16 [.nilFunc, .bool false] := tinfo_mk inf175 rfl
instance tz175 : TZero Tryz.prog 175 (.agg #[.nilFunc, .bool false]) := tzero_mk inf175
instance tf175_0 : TField Tryz.prog 175 0 0 := tfield_mk Tryz.underlying175 rfl rfl (by kernel_rfl)
instance tp175_0 : TPart Tryz.prog 175 0 0 1 false := tpart_mk Tryz.underlying175 rfl rfl (by kernel_rfl) Tryz.underlying1 rfl
instance tf175_1 : TField Tryz.prog 175 1 1 := tfield_mk Tryz.underlying175 rfl rfl (by kernel_rfl)
instance tp175_1 : TPart Tryz.prog 175 1 1 1 false := tpart_mk Tryz.underlying175 rfl rfl (by kernel_rfl) Tryz.underlying4 rfl
instance tpl175 : TPlaces Tryz.prog 175 [(0, 1), (1, 1)] := tplaces_mk Tryz.underlying175 (by kernel_rfl) (by kernel_rfl)
instance und177 : TUnd Tryz.prog 177 (.func #[] #[154, 4] false) := ⟨Tryz.underlying177⟩
theorem inf177 : (Tryz.prog.info? 177).map (fun i => (i.zero, i.size, i.bytes)) = some (some (.nilFunc), 1, 8) := by kernel_rfl
instance ti177 : TInfo Tryz.prog 177 1 8 [.nilFunc] := tinfo_mk inf177 rfl
instance tz177 : TZero Tryz.prog 177 (.nilFunc) := tzero_mk inf177
instance und178 : TUnd Tryz.prog 178 (.func #[] #[3, 4] false) := ⟨Tryz.underlying178⟩
theorem inf178 : (Tryz.prog.info? 178).map (fun i => (i.zero, i.size, i.bytes)) = some (some (.nilFunc), 1, 8) := by kernel_rfl
instance ti178 : TInfo Tryz.prog 178 1 8 [.nilFunc] := tinfo_mk inf178 rfl
instance tz178 : TZero Tryz.prog 178 (.nilFunc) := tzero_mk inf178
instance und179 : TUnd Tryz.prog 179 (.func #[180, 182] #[4] false) := ⟨Tryz.underlying179⟩
theorem inf179 : (Tryz.prog.info? 179).map (fun i => (i.zero, i.size, i.bytes)) = some (some (.nilFunc), 1, 8) := by kernel_rfl
instance ti179 : TInfo Tryz.prog 179 1 8 [.nilFunc] := tinfo_mk inf179 rfl
instance tz179 : TZero Tryz.prog 179 (.nilFunc) := tzero_mk inf179
instance und180 : TUnd Tryz.prog 180 (.slice 157) := ⟨Tryz.underlying180⟩
theorem inf180 : (Tryz.prog.info? 180).map (fun i => (i.zero, i.size, i.bytes)) = some (some (.slice none 0 0), 1, 24) := by kernel_rfl
instance ti180 : TInfo Tryz.prog 180 1 24 [.slice none 0 0] := tinfo_mk inf180 rfl
instance tz180 : TZero Tryz.prog 180 (.slice none 0 0) := tzero_mk inf180
instance und181 : TUnd Tryz.prog 181 (.func #[] #[180] false) := ⟨Tryz.underlying181⟩
theorem inf181 : (Tryz.prog.info? 181).map (fun i => (i.zero, i.size, i.bytes)) = some (some (.nilFunc), 1, 8) := by kernel_rfl
instance ti181 : TInfo Tryz.prog 181 1 8 [.nilFunc] := tinfo_mk inf181 rfl
instance tz181 : TZero Tryz.prog 181 (.nilFunc) := tzero_mk inf181
instance und182 : TUnd Tryz.prog 182 (.func #[157] #[4] false) := ⟨Tryz.underlying182⟩
theorem inf182 : (Tryz.prog.info? 182).map (fun i => (i.zero, i.size, i.bytes)) = some (some (.nilFunc), 1, 8) := by kernel_rfl
instance ti182 : TInfo Tryz.prog 182 1 8 [.nilFunc] := tinfo_mk inf182 rfl
instance tz182 : TZero Tryz.prog 182 (.nilFunc) := tzero_mk inf182
instance und183 : TUnd Tryz.prog 183 (.func #[154] #[] false) := ⟨Tryz.underlying183⟩
theorem inf183 : (Tryz.prog.info? 183).map (fun i => (i.zero, i.size, i.bytes)) = some (some (.nilFunc), 1, 8) := by kernel_rfl
instance ti183 : TInfo Tryz.prog 183 1 8 [.nilFunc] := tinfo_mk inf183 rfl
instance tz183 : TZero Tryz.prog 183 (.nilFunc) := tzero_mk inf183
instance und184 : TUnd Tryz.prog 184 (.func #[185, 187] #[4] false) := ⟨Tryz.underlying184⟩
theorem inf184 : (Tryz.prog.info? 184).map (fun i => (i.zero, i.size, i.bytes)) = some (some (.nilFunc), 1, 8) := by kernel_rfl
instance ti184 : TInfo Tryz.prog 184 1 8 [.nilFunc] := tinfo_mk inf184 rfl
instance tz184 : TZero Tryz.prog 184 (.nilFunc) := tzero_mk inf184
instance und185 : TUnd Tryz.prog 185 (.slice 154) := ⟨Tryz.underlying185⟩
theorem inf185 : (Tryz.prog.info? 185).map (fun i => (i.zero, i.size, i.bytes)) = some (some (.slice none 0 0), 1, 24) := by kernel_rfl
instance ti185 : TInfo Tryz.prog 185 1 24 [.slice none 0 0] := tinfo_mk inf185 rfl
instance tz185 : TZero Tryz.prog 185 (.slice none 0 0) := tzero_mk inf185
instance und186 : TUnd Tryz.prog 186 (.func #[] #[185] false) := ⟨Tryz.underlying186⟩
theorem inf186 : (Tryz.prog.info? 186).map (fun i => (i.zero, i.size, i.bytes)) = some (some (.nilFunc), 1, 8) := by kernel_rfl
instance ti186 : TInfo Tryz.prog 186 1 8 [.nilFunc] := tinfo_mk inf186 rfl
instance tz186 : TZero Tryz.prog 186 (.nilFunc) := tzero_mk inf186
instance und187 : TUnd Tryz.prog 187 (.func #[154] #[4] false) := ⟨Tryz.underlying187⟩
theorem inf187 : (Tryz.prog.info? 187).map (fun i => (i.zero, i.size, i.bytes)) = some (some (.nilFunc), 1, 8) := by kernel_rfl
instance ti187 : TInfo Tryz.prog 187 1 8 [.nilFunc] := tinfo_mk inf187 rfl
instance tz187 : TZero Tryz.prog 187 (.nilFunc) := tzero_mk inf187
instance und188 : TUnd Tryz.prog 188 (.func #[157] #[] false) := ⟨Tryz.underlying188⟩
theorem inf188 : (Tryz.prog.info? 188).map (fun i => (i.zero, i.size, i.bytes)) = some (some (.nilFunc), 1, 8) := by kernel_rfl
instance ti188 : TInfo Tryz.prog 188 1 8 [.nilFunc] := tinfo_mk inf188 rfl
instance tz188 : TZero Tryz.prog 188 (.nilFunc) := tzero_mk inf188
instance und189 : TUnd Tryz.prog 189 (.func #[187] #[3] false) := ⟨Tryz.underlying189⟩
theorem inf189 : (Tryz.prog.info? 189).map (fun i => (i.zero, i.size, i.bytes)) = some (some (.nilFunc), 1, 8) := by kernel_rfl
instance ti189 : TInfo Tryz.prog 189 1 8 [.nilFunc] := tinfo_mk inf189 rfl
instance tz189 : TZero Tryz.prog 189 (.nilFunc) := tzero_mk inf189
instance und190 : TUnd Tryz.prog 190 (.func #[182] #[3] false) := ⟨Tryz.underlying190⟩
theorem inf190 : (Tryz.prog.info? 190).map (fun i => (i.zero, i.size, i.bytes)) = some (some (.nilFunc), 1, 8) := by kernel_rfl
instance ti190 : TInfo Tryz.prog 190 1 8 [.nilFunc] := tinfo_mk inf190 rfl
instance tz190 : TZero Tryz.prog 190 (.nilFunc) := tzero_mk inf190
instance und196 : TUnd Tryz.prog 196 (.func #[3, 171] #[] false) := ⟨Tryz.underlying196⟩
theorem inf196 : (Tryz.prog.info? 196).map (fun i => (i.zero, i.size, i.bytes)) = some (some (.nilFunc), 1, 8) := by kernel_rfl
instance ti196 : TInfo Tryz.prog 196 1 8 [.nilFunc] := tinfo_mk inf196 rfl
instance tz196 : TZero Tryz.prog 196 (.nilFunc) := tzero_mk inf196
instance und197 : TUnd Tryz.prog 197 (.tuple #[32, 3, 43, 4]) := ⟨Tryz.underlying197⟩
instance und198 : TUnd Tryz.prog 198 (.func #[32, 43] #[32, 3, 43, 4] false) := ⟨Tryz.underlying198⟩
theorem inf198 : (Tryz.prog.info? 198).map (fun i => (i.zero, i.size, i.bytes)) = some (some (.nilFunc), 1, 8) := by kernel_rfl
instance ti198 : TInfo Tryz.prog 198 1 8 [.nilFunc] := tinfo_mk inf198 rfl
instance tz198 : TZero Tryz.prog 198 (.nilFunc) := tzero_mk inf198
instance und199 : TUnd Tryz.prog 199 (.func #[3, 167] #[] false) := ⟨Tryz.underlying199⟩
theorem inf199 : (Tryz.prog.info? 199).map (fun i => (i.zero, i.size, i.bytes)) = some (some (.nilFunc), 1, 8) := by kernel_rfl
instance ti199 : TInfo Tryz.prog 199 1 8 [.nilFunc] := tinfo_mk inf199 rfl
instance tz199 : TZero Tryz.prog 199 (.nilFunc) := tzero_mk inf199
instance und200 : TUnd Tryz.prog 200 (.func #[2, 36] #[3] false) := ⟨Tryz.underlying200⟩
theorem inf200 : (Tryz.prog.info? 200).map (fun i => (i.zero, i.size, i.bytes)) = some (some (.nilFunc), 1, 8) := by kernel_rfl
instance ti200 : TInfo Tryz.prog 200 1 8 [.nilFunc] := tinfo_mk inf200 rfl
instance tz200 : TZero Tryz.prog 200 (.nilFunc) := tzero_mk inf200
instance und203 : TUnd Tryz.prog 203 (.func #[2] #[4, 4] false) := ⟨Tryz.underlying203⟩
theorem inf203 : (Tryz.prog.info? 203).map (fun i => (i.zero, i.size, i.bytes)) = some (some (.nilFunc), 1, 8) := by kernel_rfl
instance ti203 : TInfo Tryz.prog 203 1 8 [.nilFunc] := tinfo_mk inf203 rfl
instance tz203 : TZero Tryz.prog 203 (.nilFunc) := tzero_mk inf203
instance und213 : TUnd Tryz.prog 213 (.func #[] #[2, 4] false) := ⟨Tryz.underlying213⟩
theorem inf213 : (Tryz.prog.info? 213).map (fun i => (i.zero, i.size, i.bytes)) = some (some (.nilFunc), 1, 8) := by kernel_rfl
instance ti213 : TInfo Tryz.prog 213 1 8 [.nilFunc] := tinfo_mk inf213 rfl
instance tz213 : TZero Tryz.prog 213 (.nilFunc) := tzero_mk inf213
instance und218 : TUnd Tryz.prog 218 (.func #[2] #[] false) := ⟨Tryz.underlying218⟩
theorem inf218 : (Tryz.prog.info? 218).map (fun i => (i.zero, i.size, i.bytes)) = some (some (.nilFunc), 1, 8) := by kernel_rfl
instance ti218 : TInfo Tryz.prog 218 1 8 [.nilFunc] := tinfo_mk inf218 rfl
instance tz218 : TZero Tryz.prog 218 (.nilFunc) := tzero_mk inf218
instance und220 : TUnd Tryz.prog 220 (.struct #[⟨ "line", 144, 0, true, "", "conduit/sched", 0⟩]) := ⟨Tryz.underlying220⟩
theorem inf220 : (Tryz.prog.info? 220).map (fun i => (i.zero, i.size, i.bytes)) = some (some (.agg #[.pointer none]), 1, 8) := by kernel_rfl
instance ti220 : TInfo Tryz.prog 220 1 8 [.pointer none] := tinfo_mk inf220 rfl
instance tz220 : TZero Tryz.prog 220 (.agg #[.pointer none]) := tzero_mk inf220
instance tf220_0 : TField Tryz.prog 220 0 0 := tfield_mk Tryz.underlying220 rfl rfl (by kernel_rfl)
instance tp220_0 : TPart Tryz.prog 220 0 0 1 false := tpart_mk Tryz.underlying220 rfl rfl (by kernel_rfl) Tryz.underlying144 rfl
instance tpl220 : TPlaces Tryz.prog 220 [(0, 1)] := tplaces_mk Tryz.underlying220 (by kernel_rfl) (by kernel_rfl)
instance und221 : TUnd Tryz.prog 221 (.func #[32] #[32] false) := ⟨Tryz.underlying221⟩
theorem inf221 : (Tryz.prog.info? 221).map (fun i => (i.zero, i.size, i.bytes)) = some (some (.nilFunc), 1, 8) := by kernel_rfl
instance ti221 : TInfo Tryz.prog 221 1 8 [.nilFunc] := tinfo_mk inf221 rfl
instance tz221 : TZero Tryz.prog 221 (.nilFunc) := tzero_mk inf221
instance und223 : TUnd Tryz.prog 223 (.struct #[⟨ "made", 4, 0, false, "", "conduit/queue", 0⟩, ⟨ "l", 32, 1, false, "", "conduit/queue", 8⟩]) := ⟨Tryz.underlying223⟩
theorem inf223 : (Tryz.prog.info? 223).map (fun i => (i.zero, i.size, i.bytes)) = some (some (.agg #[.bool false, .slice none 0 0]), 2, 32) := by kernel_rfl
instance ti223 : TInfo Tryz.prog 223 2 32 [.bool false, .slice none 0 0] := tinfo_mk inf223 rfl
instance tz223 : TZero Tryz.prog 223 (.agg #[.bool false, .slice none 0 0]) := tzero_mk inf223
instance tf223_0 : TField Tryz.prog 223 0 0 := tfield_mk Tryz.underlying223 rfl rfl (by kernel_rfl)
instance tp223_0 : TPart Tryz.prog 223 0 0 1 false := tpart_mk Tryz.underlying223 rfl rfl (by kernel_rfl) Tryz.underlying4 rfl
instance tf223_1 : TField Tryz.prog 223 1 1 := tfield_mk Tryz.underlying223 rfl rfl (by kernel_rfl)
instance tp223_1 : TPart Tryz.prog 223 1 1 1 false := tpart_mk Tryz.underlying223 rfl rfl (by kernel_rfl) Tryz.underlying32 rfl
instance tpl223 : TPlaces Tryz.prog 223 [(0, 1), (1, 1)] := tplaces_mk Tryz.underlying223 (by kernel_rfl) (by kernel_rfl)
instance und224 : TUnd Tryz.prog 224 (.func #[185] #[185] false) := ⟨Tryz.underlying224⟩
theorem inf224 : (Tryz.prog.info? 224).map (fun i => (i.zero, i.size, i.bytes)) = some (some (.nilFunc), 1, 8) := by kernel_rfl
instance ti224 : TInfo Tryz.prog 224 1 8 [.nilFunc] := tinfo_mk inf224 rfl
instance tz224 : TZero Tryz.prog 224 (.nilFunc) := tzero_mk inf224
instance und226 : TUnd Tryz.prog 226 (.struct #[⟨ "made", 4, 0, false, "", "conduit/queue", 0⟩, ⟨ "l", 185, 1, false, "", "conduit/queue", 8⟩]) := ⟨Tryz.underlying226⟩
theorem inf226 : (Tryz.prog.info? 226).map (fun i => (i.zero, i.size, i.bytes)) = some (some (.agg #[.bool false, .slice none 0 0]), 2, 32) := by kernel_rfl
instance ti226 : TInfo Tryz.prog 226 2 32 [.bool false, .slice none 0 0] := tinfo_mk inf226 rfl
instance tz226 : TZero Tryz.prog 226 (.agg #[.bool false, .slice none 0 0]) := tzero_mk inf226
instance tf226_0 : TField Tryz.prog 226 0 0 := tfield_mk Tryz.underlying226 rfl rfl (by kernel_rfl)
instance tp226_0 : TPart Tryz.prog 226 0 0 1 false := tpart_mk Tryz.underlying226 rfl rfl (by kernel_rfl) Tryz.underlying4 rfl
instance tf226_1 : TField Tryz.prog 226 1 1 := tfield_mk Tryz.underlying226 rfl rfl (by kernel_rfl)
instance tp226_1 : TPart Tryz.prog 226 1 1 1 false := tpart_mk Tryz.underlying226 rfl rfl (by kernel_rfl) Tryz.underlying185 rfl
instance tpl226 : TPlaces Tryz.prog 226 [(0, 1), (1, 1)] := tplaces_mk Tryz.underlying226 (by kernel_rfl) (by kernel_rfl)
instance und227 : TUnd Tryz.prog 227 (.func #[180] #[180] false) := ⟨Tryz.underlying227⟩
theorem inf227 : (Tryz.prog.info? 227).map (fun i => (i.zero, i.size, i.bytes)) = some (some (.nilFunc), 1, 8) := by kernel_rfl
instance ti227 : TInfo Tryz.prog 227 1 8 [.nilFunc] := tinfo_mk inf227 rfl
instance tz227 : TZero Tryz.prog 227 (.nilFunc) := tzero_mk inf227
instance und229 : TUnd Tryz.prog 229 (.struct #[⟨ "made", 4, 0, false, "", "conduit/queue", 0⟩, ⟨ "l", 180, 1, false, "", "conduit/queue", 8⟩]) := ⟨Tryz.underlying229⟩
theorem inf229 : (Tryz.prog.info? 229).map (fun i => (i.zero, i.size, i.bytes)) = some (some (.agg #[.bool false, .slice none 0 0]), 2, 32) := by kernel_rfl
instance ti229 : TInfo Tryz.prog 229 2 32 [.bool false, .slice none 0 0] := tinfo_mk inf229 rfl
instance tz229 : TZero Tryz.prog 229 (.agg #[.bool false, .slice none 0 0]) := tzero_mk inf229
instance tf229_0 : TField Tryz.prog 229 0 0 := tfield_mk Tryz.underlying229 rfl rfl (by kernel_rfl)
instance tp229_0 : TPart Tryz.prog 229 0 0 1 false := tpart_mk Tryz.underlying229 rfl rfl (by kernel_rfl) Tryz.underlying4 rfl
instance tf229_1 : TField Tryz.prog 229 1 1 := tfield_mk Tryz.underlying229 rfl rfl (by kernel_rfl)
instance tp229_1 : TPart Tryz.prog 229 1 1 1 false := tpart_mk Tryz.underlying229 rfl rfl (by kernel_rfl) Tryz.underlying180 rfl
instance tpl229 : TPlaces Tryz.prog 229 [(0, 1), (1, 1)] := tplaces_mk Tryz.underlying229 (by kernel_rfl) (by kernel_rfl)
instance und230 : TUnd Tryz.prog 230 (.func #[4] #[29] false) := ⟨Tryz.underlying230⟩
theorem inf230 : (Tryz.prog.info? 230).map (fun i => (i.zero, i.size, i.bytes)) = some (some (.nilFunc), 1, 8) := by kernel_rfl
instance ti230 : TInfo Tryz.prog 230 1 8 [.nilFunc] := tinfo_mk inf230 rfl
instance tz230 : TZero Tryz.prog 230 (.nilFunc) := tzero_mk inf230
instance und231 : TUnd Tryz.prog 231 (.func #[1] #[] false) := ⟨Tryz.underlying231⟩
theorem inf231 : (Tryz.prog.info? 231).map (fun i => (i.zero, i.size, i.bytes)) = some (some (.nilFunc), 1, 8) := by kernel_rfl
instance ti231 : TInfo Tryz.prog 231 1 8 [.nilFunc] := tinfo_mk inf231 rfl
instance tz231 : TZero Tryz.prog 231 (.nilFunc) := tzero_mk inf231
instance und232 : TUnd Tryz.prog 232 (.func #[32, 3] #[4] false) := ⟨Tryz.underlying232⟩
theorem inf232 : (Tryz.prog.info? 232).map (fun i => (i.zero, i.size, i.bytes)) = some (some (.nilFunc), 1, 8) := by kernel_rfl
instance ti232 : TInfo Tryz.prog 232 1 8 [.nilFunc] := tinfo_mk inf232 rfl
instance tz232 : TZero Tryz.prog 232 (.nilFunc) := tzero_mk inf232
instance und233 : TUnd Tryz.prog 233 (.func #[3] #[3, 4] false) := ⟨Tryz.underlying233⟩
theorem inf233 : (Tryz.prog.info? 233).map (fun i => (i.zero, i.size, i.bytes)) = some (some (.nilFunc), 1, 8) := by kernel_rfl
instance ti233 : TInfo Tryz.prog 233 1 8 [.nilFunc] := tinfo_mk inf233 rfl
instance tz233 : TZero Tryz.prog 233 (.nilFunc) := tzero_mk inf233
instance und234 : TUnd Tryz.prog 234 (.func #[171] #[] false) := ⟨Tryz.underlying234⟩
theorem inf234 : (Tryz.prog.info? 234).map (fun i => (i.zero, i.size, i.bytes)) = some (some (.nilFunc), 1, 8) := by kernel_rfl
instance ti234 : TInfo Tryz.prog 234 1 8 [.nilFunc] := tinfo_mk inf234 rfl
instance tz234 : TZero Tryz.prog 234 (.nilFunc) := tzero_mk inf234
instance und235 : TUnd Tryz.prog 235 (.func #[29] #[] false) := ⟨Tryz.underlying235⟩
theorem inf235 : (Tryz.prog.info? 235).map (fun i => (i.zero, i.size, i.bytes)) = some (some (.nilFunc), 1, 8) := by kernel_rfl
instance ti235 : TInfo Tryz.prog 235 1 8 [.nilFunc] := tinfo_mk inf235 rfl
instance tz235 : TZero Tryz.prog 235 (.nilFunc) := tzero_mk inf235
instance und236 : TUnd Tryz.prog 236 (.func #[1] #[29] false) := ⟨Tryz.underlying236⟩
theorem inf236 : (Tryz.prog.info? 236).map (fun i => (i.zero, i.size, i.bytes)) = some (some (.nilFunc), 1, 8) := by kernel_rfl
instance ti236 : TInfo Tryz.prog 236 1 8 [.nilFunc] := tinfo_mk inf236 rfl
instance tz236 : TZero Tryz.prog 236 (.nilFunc) := tzero_mk inf236
instance und237 : TUnd Tryz.prog 237 (.func #[3] #[157, 4] false) := ⟨Tryz.underlying237⟩
theorem inf237 : (Tryz.prog.info? 237).map (fun i => (i.zero, i.size, i.bytes)) = some (some (.nilFunc), 1, 8) := by kernel_rfl
instance ti237 : TInfo Tryz.prog 237 1 8 [.nilFunc] := tinfo_mk inf237 rfl
instance tz237 : TZero Tryz.prog 237 (.nilFunc) := tzero_mk inf237
instance und238 : TUnd Tryz.prog 238 (.func #[3] #[154, 4] false) := ⟨Tryz.underlying238⟩
theorem inf238 : (Tryz.prog.info? 238).map (fun i => (i.zero, i.size, i.bytes)) = some (some (.nilFunc), 1, 8) := by kernel_rfl
instance ti238 : TInfo Tryz.prog 238 1 8 [.nilFunc] := tinfo_mk inf238 rfl
instance tz238 : TZero Tryz.prog 238 (.nilFunc) := tzero_mk inf238
instance und239 : TUnd Tryz.prog 239 (.func #[180, 182] #[3] false) := ⟨Tryz.underlying239⟩
theorem inf239 : (Tryz.prog.info? 239).map (fun i => (i.zero, i.size, i.bytes)) = some (some (.nilFunc), 1, 8) := by kernel_rfl
instance ti239 : TInfo Tryz.prog 239 1 8 [.nilFunc] := tinfo_mk inf239 rfl
instance tz239 : TZero Tryz.prog 239 (.nilFunc) := tzero_mk inf239
instance und240 : TUnd Tryz.prog 240 (.func #[185, 187] #[3] false) := ⟨Tryz.underlying240⟩
theorem inf240 : (Tryz.prog.info? 240).map (fun i => (i.zero, i.size, i.bytes)) = some (some (.nilFunc), 1, 8) := by kernel_rfl
instance ti240 : TInfo Tryz.prog 240 1 8 [.nilFunc] := tinfo_mk inf240 rfl
instance tz240 : TZero Tryz.prog 240 (.nilFunc) := tzero_mk inf240
instance und241 : TUnd Tryz.prog 241 (.func #[185, 187] #[185] false) := ⟨Tryz.underlying241⟩
theorem inf241 : (Tryz.prog.info? 241).map (fun i => (i.zero, i.size, i.bytes)) = some (some (.nilFunc), 1, 8) := by kernel_rfl
instance ti241 : TInfo Tryz.prog 241 1 8 [.nilFunc] := tinfo_mk inf241 rfl
instance tz241 : TZero Tryz.prog 241 (.nilFunc) := tzero_mk inf241
instance und242 : TUnd Tryz.prog 242 (.func #[180, 182] #[180] false) := ⟨Tryz.underlying242⟩
theorem inf242 : (Tryz.prog.info? 242).map (fun i => (i.zero, i.size, i.bytes)) = some (some (.nilFunc), 1, 8) := by kernel_rfl
instance ti242 : TInfo Tryz.prog 242 1 8 [.nilFunc] := tinfo_mk inf242 rfl
instance tz242 : TZero Tryz.prog 242 (.nilFunc) := tzero_mk inf242
instance und244 : TUnd Tryz.prog 244 (.func #[32, 3] #[32] false) := ⟨Tryz.underlying244⟩
theorem inf244 : (Tryz.prog.info? 244).map (fun i => (i.zero, i.size, i.bytes)) = some (some (.nilFunc), 1, 8) := by kernel_rfl
instance ti244 : TInfo Tryz.prog 244 1 8 [.nilFunc] := tinfo_mk inf244 rfl
instance tz244 : TZero Tryz.prog 244 (.nilFunc) := tzero_mk inf244
instance und245 : TUnd Tryz.prog 245 (.func #[3, 165, 4] #[] false) := ⟨Tryz.underlying245⟩
theorem inf245 : (Tryz.prog.info? 245).map (fun i => (i.zero, i.size, i.bytes)) = some (some (.nilFunc), 1, 8) := by kernel_rfl
instance ti245 : TInfo Tryz.prog 245 1 8 [.nilFunc] := tinfo_mk inf245 rfl
instance tz245 : TZero Tryz.prog 245 (.nilFunc) := tzero_mk inf245
instance und247 : TUnd Tryz.prog 247 (.struct #[⟨ "Send", 4, 0, false, "", "", 0⟩, ⟨ "C", 3, 1, false, "", "", 8⟩, ⟨ "V", 3, 2, false, "", "", 16⟩]) := ⟨Tryz.underlying247⟩
theorem inf247 : (Tryz.prog.info? 247).map (fun i => (i.zero, i.size, i.bytes)) = some (some (.agg #[.bool false, .int .i64 0, .int .i64 0]), 3, 24) := by kernel_rfl
instance ti247 : TInfo Tryz.prog 247 3 24 [.bool false, .int .i64 0, .int .i64 0] := tinfo_mk inf247 rfl
instance tz247 : TZero Tryz.prog 247 (.agg #[.bool false, .int .i64 0, .int .i64 0]) := tzero_mk inf247
instance tf247_0 : TField Tryz.prog 247 0 0 := tfield_mk Tryz.underlying247 rfl rfl (by kernel_rfl)
instance tp247_0 : TPart Tryz.prog 247 0 0 1 false := tpart_mk Tryz.underlying247 rfl rfl (by kernel_rfl) Tryz.underlying4 rfl
instance tf247_1 : TField Tryz.prog 247 1 1 := tfield_mk Tryz.underlying247 rfl rfl (by kernel_rfl)
instance tp247_1 : TPart Tryz.prog 247 1 1 1 false := tpart_mk Tryz.underlying247 rfl rfl (by kernel_rfl) Tryz.underlying3 rfl
instance tf247_2 : TField Tryz.prog 247 2 2 := tfield_mk Tryz.underlying247 rfl rfl (by kernel_rfl)
instance tp247_2 : TPart Tryz.prog 247 2 2 1 false := tpart_mk Tryz.underlying247 rfl rfl (by kernel_rfl) Tryz.underlying3 rfl
instance tpl247 : TPlaces Tryz.prog 247 [(0, 1), (1, 1), (2, 1)] := tplaces_mk Tryz.underlying247 (by kernel_rfl) (by kernel_rfl)
instance und248 : TUnd Tryz.prog 248 (.func #[3, 3] #[4] false) := ⟨Tryz.underlying248⟩
theorem inf248 : (Tryz.prog.info? 248).map (fun i => (i.zero, i.size, i.bytes)) = some (some (.nilFunc), 1, 8) := by kernel_rfl
instance ti248 : TInfo Tryz.prog 248 1 8 [.nilFunc] := tinfo_mk inf248 rfl
instance tz248 : TZero Tryz.prog 248 (.nilFunc) := tzero_mk inf248
instance und249 : TUnd Tryz.prog 249 (.func #[3, 2] #[] false) := ⟨Tryz.underlying249⟩
theorem inf249 : (Tryz.prog.info? 249).map (fun i => (i.zero, i.size, i.bytes)) = some (some (.nilFunc), 1, 8) := by kernel_rfl
instance ti249 : TInfo Tryz.prog 249 1 8 [.nilFunc] := tinfo_mk inf249 rfl
instance tz249 : TZero Tryz.prog 249 (.nilFunc) := tzero_mk inf249
instance und257 : TUnd Tryz.prog 257 (.slice 2) := ⟨Tryz.underlying257⟩
theorem inf257 : (Tryz.prog.info? 257).map (fun i => (i.zero, i.size, i.bytes)) = some (some (.slice none 0 0), 1, 24) := by kernel_rfl
instance ti257 : TInfo Tryz.prog 257 1 24 [.slice none 0 0] := tinfo_mk inf257 rfl
instance tz257 : TZero Tryz.prog 257 (.slice none 0 0) := tzero_mk inf257
instance und264 : TUnd Tryz.prog 264 (.func #[3] #[2, 4] false) := ⟨Tryz.underlying264⟩
theorem inf264 : (Tryz.prog.info? 264).map (fun i => (i.zero, i.size, i.bytes)) = some (some (.nilFunc), 1, 8) := by kernel_rfl
instance ti264 : TInfo Tryz.prog 264 1 8 [.nilFunc] := tinfo_mk inf264 rfl
instance tz264 : TZero Tryz.prog 264 (.nilFunc) := tzero_mk inf264
instance und266 : TUnd Tryz.prog 266 (.func #[32, 3] #[3] false) := ⟨Tryz.underlying266⟩
theorem inf266 : (Tryz.prog.info? 266).map (fun i => (i.zero, i.size, i.bytes)) = some (some (.nilFunc), 1, 8) := by kernel_rfl
instance ti266 : TInfo Tryz.prog 266 1 8 [.nilFunc] := tinfo_mk inf266 rfl
instance tz266 : TZero Tryz.prog 266 (.nilFunc) := tzero_mk inf266
instance und267 : TUnd Tryz.prog 267 (.func #[32, 3, 3] #[32] false) := ⟨Tryz.underlying267⟩
theorem inf267 : (Tryz.prog.info? 267).map (fun i => (i.zero, i.size, i.bytes)) = some (some (.nilFunc), 1, 8) := by kernel_rfl
instance ti267 : TInfo Tryz.prog 267 1 8 [.nilFunc] := tinfo_mk inf267 rfl
instance tz267 : TZero Tryz.prog 267 (.nilFunc) := tzero_mk inf267
instance und268 : TUnd Tryz.prog 268 (.func #[180, 3, 3] #[180] false) := ⟨Tryz.underlying268⟩
theorem inf268 : (Tryz.prog.info? 268).map (fun i => (i.zero, i.size, i.bytes)) = some (some (.nilFunc), 1, 8) := by kernel_rfl
instance ti268 : TInfo Tryz.prog 268 1 8 [.nilFunc] := tinfo_mk inf268 rfl
instance tz268 : TZero Tryz.prog 268 (.nilFunc) := tzero_mk inf268
instance und269 : TUnd Tryz.prog 269 (.func #[185, 3, 3] #[185] false) := ⟨Tryz.underlying269⟩
theorem inf269 : (Tryz.prog.info? 269).map (fun i => (i.zero, i.size, i.bytes)) = some (some (.nilFunc), 1, 8) := by kernel_rfl
instance ti269 : TInfo Tryz.prog 269 1 8 [.nilFunc] := tinfo_mk inf269 rfl
instance tz269 : TZero Tryz.prog 269 (.nilFunc) := tzero_mk inf269
instance und271 : TUnd Tryz.prog 271 (.struct #[⟨ "task", 3, 0, false, "", "conduit/conduitref16", 0⟩, ⟨ "ticket", 3, 1, false, "", "conduit/conduitref16", 8⟩, ⟨ "which", 3, 2, false, "", "conduit/conduitref16", 16⟩, ⟨ "v", 3, 3, false, "", "conduit/conduitref16", 24⟩]) := ⟨Tryz.underlying271⟩
theorem inf271 : (Tryz.prog.info? 271).map (fun i => (i.zero, i.size, i.bytes)) = some (some (.agg #[.int .i64 0, .int .i64 0, .int .i64 0, .int .i64 0]), 4, 32) := by kernel_rfl
instance ti271 : TInfo Tryz.prog 271 4 32 [.int .i64 0, .int .i64 0, .int .i64 0, .int .i64 0] := tinfo_mk inf271 rfl
instance tz271 : TZero Tryz.prog 271 (.agg #[.int .i64 0, .int .i64 0, .int .i64 0, .int .i64 0]) := tzero_mk inf271
instance tf271_0 : TField Tryz.prog 271 0 0 := tfield_mk Tryz.underlying271 rfl rfl (by kernel_rfl)
instance tp271_0 : TPart Tryz.prog 271 0 0 1 false := tpart_mk Tryz.underlying271 rfl rfl (by kernel_rfl) Tryz.underlying3 rfl
instance tf271_1 : TField Tryz.prog 271 1 1 := tfield_mk Tryz.underlying271 rfl rfl (by kernel_rfl)
instance tp271_1 : TPart Tryz.prog 271 1 1 1 false := tpart_mk Tryz.underlying271 rfl rfl (by kernel_rfl) Tryz.underlying3 rfl
instance tf271_2 : TField Tryz.prog 271 2 2 := tfield_mk Tryz.underlying271 rfl rfl (by kernel_rfl)
instance tp271_2 : TPart Tryz.prog 271 2 2 1 false := tpart_mk Tryz.underlying271 rfl rfl (by kernel_rfl) Tryz.underlying3 rfl
instance tf271_3 : TField Tryz.prog 271 3 3 := tfield_mk Tryz.underlying271 rfl rfl (by kernel_rfl)
instance tp271_3 : TPart Tryz.prog 271 3 3 1 false := tpart_mk Tryz.underlying271 rfl rfl (by kernel_rfl) Tryz.underlying3 rfl
instance tpl271 : TPlaces Tryz.prog 271 [(0, 1), (1, 1), (2, 1), (3, 1)] := tplaces_mk Tryz.underlying271 (by kernel_rfl) (by kernel_rfl)
instance und272 : TUnd Tryz.prog 272 (.pointer 125) := ⟨Tryz.underlying272⟩
theorem inf272 : (Tryz.prog.info? 272).map (fun i => (i.zero, i.size, i.bytes)) = some (some (.pointer none), 1, 8) := by kernel_rfl
instance ti272 : TInfo Tryz.prog 272 1 8 [.pointer none] := tinfo_mk inf272 rfl
instance tz272 : TZero Tryz.prog 272 (.pointer none) := tzero_mk inf272
instance und273 : TUnd Tryz.prog 273 (.func #[271, 3, 4] #[] false) := ⟨Tryz.underlying273⟩
theorem inf273 : (Tryz.prog.info? 273).map (fun i => (i.zero, i.size, i.bytes)) = some (some (.nilFunc), 1, 8) := by kernel_rfl
instance ti273 : TInfo Tryz.prog 273 1 8 [.nilFunc] := tinfo_mk inf273 rfl
instance tz273 : TZero Tryz.prog 273 (.nilFunc) := tzero_mk inf273
instance und274 : TUnd Tryz.prog 274 (.func #[257] #[257] false) := ⟨Tryz.underlying274⟩
theorem inf274 : (Tryz.prog.info? 274).map (fun i => (i.zero, i.size, i.bytes)) = some (some (.nilFunc), 1, 8) := by kernel_rfl
instance ti274 : TInfo Tryz.prog 274 1 8 [.nilFunc] := tinfo_mk inf274 rfl
instance tz274 : TZero Tryz.prog 274 (.nilFunc) := tzero_mk inf274
instance und286 : TUnd Tryz.prog 286 (.func #[257, 3, 3] #[257] false) := ⟨Tryz.underlying286⟩
theorem inf286 : (Tryz.prog.info? 286).map (fun i => (i.zero, i.size, i.bytes)) = some (some (.nilFunc), 1, 8) := by kernel_rfl
instance ti286 : TInfo Tryz.prog 286 1 8 [.nilFunc] := tinfo_mk inf286 rfl
instance tz286 : TZero Tryz.prog 286 (.nilFunc) := tzero_mk inf286
instance und291 : TUnd Tryz.prog 291 (.func #[123] #[123] false) := ⟨Tryz.underlying291⟩
theorem inf291 : (Tryz.prog.info? 291).map (fun i => (i.zero, i.size, i.bytes)) = some (some (.nilFunc), 1, 8) := by kernel_rfl
instance ti291 : TInfo Tryz.prog 291 1 8 [.nilFunc] := tinfo_mk inf291 rfl
instance tz291 : TZero Tryz.prog 291 (.nilFunc) := tzero_mk inf291
instance und292 : TUnd Tryz.prog 292 (.func #[] #[9] false) := ⟨Tryz.underlying292⟩
theorem inf292 : (Tryz.prog.info? 292).map (fun i => (i.zero, i.size, i.bytes)) = some (some (.nilFunc), 1, 8) := by kernel_rfl
instance ti292 : TInfo Tryz.prog 292 1 8 [.nilFunc] := tinfo_mk inf292 rfl
instance tz292 : TZero Tryz.prog 292 (.nilFunc) := tzero_mk inf292
instance und295 : TUnd Tryz.prog 295 (.array 0 16) := ⟨Tryz.underlying295⟩
theorem inf295 : (Tryz.prog.info? 295).map (fun i => (i.zero, i.size, i.bytes)) = some (some (.agg #[]), 0, 0) := by kernel_rfl
instance ti295 : TInfo Tryz.prog 295 0 0 [] := tinfo_mk inf295 rfl
instance tz295 : TZero Tryz.prog 295 (.agg #[]) := tzero_mk inf295
instance und298 : TUnd Tryz.prog 298 (.int .u32) := ⟨Tryz.underlying298⟩
theorem inf298 : (Tryz.prog.info? 298).map (fun i => (i.zero, i.size, i.bytes)) = some (some (.int .u32 0), 1, 4) := by kernel_rfl
instance ti298 : TInfo Tryz.prog 298 1 4 [.int .u32 0] := tinfo_mk inf298 rfl
instance tz298 : TZero Tryz.prog 298 (.int .u32 0) := tzero_mk inf298
instance und301 : TUnd Tryz.prog 301 (.func #[316, 316] #[4] false) := ⟨Tryz.underlying301⟩
theorem inf301 : (Tryz.prog.info? 301).map (fun i => (i.zero, i.size, i.bytes)) = some (some (.nilFunc), 1, 8) := by kernel_rfl
instance ti301 : TInfo Tryz.prog 301 1 8 [.nilFunc] := tinfo_mk inf301 rfl
instance tz301 : TZero Tryz.prog 301 (.nilFunc) := tzero_mk inf301
instance und302 : TUnd Tryz.prog 302 (.pointer 5) := ⟨Tryz.underlying302⟩
theorem inf302 : (Tryz.prog.info? 302).map (fun i => (i.zero, i.size, i.bytes)) = some (some (.pointer none), 1, 8) := by kernel_rfl
instance ti302 : TInfo Tryz.prog 302 1 8 [.pointer none] := tinfo_mk inf302 rfl
instance tz302 : TZero Tryz.prog 302 (.pointer none) := tzero_mk inf302
instance und307 : TUnd Tryz.prog 307 (.func #[116] #[3] false) := ⟨Tryz.underlying307⟩
theorem inf307 : (Tryz.prog.info? 307).map (fun i => (i.zero, i.size, i.bytes)) = some (some (.nilFunc), 1, 8) := by kernel_rfl
instance ti307 : TInfo Tryz.prog 307 1 8 [.nilFunc] := tinfo_mk inf307 rfl
instance tz307 : TZero Tryz.prog 307 (.nilFunc) := tzero_mk inf307
instance und308 : TUnd Tryz.prog 308 (.func #[71, 109] #[29] false) := ⟨Tryz.underlying308⟩
theorem inf308 : (Tryz.prog.info? 308).map (fun i => (i.zero, i.size, i.bytes)) = some (some (.nilFunc), 1, 8) := by kernel_rfl
instance ti308 : TInfo Tryz.prog 308 1 8 [.nilFunc] := tinfo_mk inf308 rfl
instance tz308 : TZero Tryz.prog 308 (.nilFunc) := tzero_mk inf308
instance und309 : TUnd Tryz.prog 309 (.func #[2, 71, 36] #[29] false) := ⟨Tryz.underlying309⟩
theorem inf309 : (Tryz.prog.info? 309).map (fun i => (i.zero, i.size, i.bytes)) = some (some (.nilFunc), 1, 8) := by kernel_rfl
instance ti309 : TInfo Tryz.prog 309 1 8 [.nilFunc] := tinfo_mk inf309 rfl
instance tz309 : TZero Tryz.prog 309 (.nilFunc) := tzero_mk inf309
instance und310 : TUnd Tryz.prog 310 (.func #[117] #[3] false) := ⟨Tryz.underlying310⟩
theorem inf310 : (Tryz.prog.info? 310).map (fun i => (i.zero, i.size, i.bytes)) = some (some (.nilFunc), 1, 8) := by kernel_rfl
instance ti310 : TInfo Tryz.prog 310 1 8 [.nilFunc] := tinfo_mk inf310 rfl
instance tz310 : TZero Tryz.prog 310 (.nilFunc) := tzero_mk inf310
instance und311 : TUnd Tryz.prog 311 (.func #[] #[257] false) := ⟨Tryz.underlying311⟩
theorem inf311 : (Tryz.prog.info? 311).map (fun i => (i.zero, i.size, i.bytes)) = some (some (.nilFunc), 1, 8) := by kernel_rfl
instance ti311 : TInfo Tryz.prog 311 1 8 [.nilFunc] := tinfo_mk inf311 rfl
instance tz311 : TZero Tryz.prog 311 (.nilFunc) := tzero_mk inf311
instance tfl23 : TFlat Tryz.prog 23 [.i .i64, .i .i64, .i .i64] := tflat_struct Tryz.underlying23 ⟨by decide, rfl, Tryz.underlying3, by decide, rfl, Tryz.underlying3, by decide, rfl, Tryz.underlying3, trivial⟩ (by kernel_rfl) (by kernel_rfl)
instance tfl70 : TFlat Tryz.prog 70 [.i .i64, .i .i64, .i .i64, .i .i64] := tflat_arr (k := .i .i64) (n := 4) Tryz.underlying70 Tryz.underlying3 (by kernel_rfl) (by kernel_rfl)
instance tfl74 : TFlat Tryz.prog 74 [.i .i64, .i .i64, .i .i64] := tflat_arr (k := .i .i64) (n := 3) Tryz.underlying74 Tryz.underlying3 (by kernel_rfl) (by kernel_rfl)
instance tfl79 : TFlat Tryz.prog 79 [.i .i64, .i .i64, .i .i64, .i .i64, .i .i64, .i .i64, .i .i64] := tflat_arr (k := .i .i64) (n := 7) Tryz.underlying79 Tryz.underlying3 (by kernel_rfl) (by kernel_rfl)
instance tfl100 : TFlat Tryz.prog 100 [.i .i64, .i .i64, .i .i64, .i .i64, .b] := tflat_struct Tryz.underlying100 ⟨by decide, rfl, Tryz.underlying3, by decide, rfl, Tryz.underlying3, by decide, rfl, Tryz.underlying3, by decide, rfl, Tryz.underlying3, by decide, rfl, Tryz.underlying4, trivial⟩ (by kernel_rfl) (by kernel_rfl)
instance tfl171 : TFlat Tryz.prog 171 [.i .i64, .i .i64, .b] := tflat_struct Tryz.underlying171 ⟨by decide, rfl, Tryz.underlying3, by decide, rfl, Tryz.underlying3, by decide, rfl, Tryz.underlying4, trivial⟩ (by kernel_rfl) (by kernel_rfl)
instance tfl247 : TFlat Tryz.prog 247 [.b, .i .i64, .i .i64] := tflat_struct Tryz.underlying247 ⟨by decide, rfl, Tryz.underlying4, by decide, rfl, Tryz.underlying3, by decide, rfl, Tryz.underlying3, trivial⟩ (by kernel_rfl) (by kernel_rfl)
instance tfl271 : TFlat Tryz.prog 271 [.i .i64, .i .i64, .i .i64, .i .i64] := tflat_struct Tryz.underlying271 ⟨by decide, rfl, Tryz.underlying3, by decide, rfl, Tryz.underlying3, by decide, rfl, Tryz.underlying3, by decide, rfl, Tryz.underlying3, trivial⟩ (by kernel_rfl) (by kernel_rfl)
instance fn3 : FnOk Tryz.prog 3 := ⟨⟨_, Tryz.func3, by kernel_rfl, by kernel_rfl⟩⟩
instance fn4 : FnOk Tryz.prog 4 := ⟨⟨_, Tryz.func4, by kernel_rfl, by kernel_rfl⟩⟩
instance fn5 : FnOk Tryz.prog 5 := ⟨⟨_, Tryz.func5, by kernel_rfl, by kernel_rfl⟩⟩
instance fn6 : FnOk Tryz.prog 6 := ⟨⟨_, Tryz.func6, by kernel_rfl, by kernel_rfl⟩⟩
instance fn10 : FnOk Tryz.prog 10 := ⟨⟨_, Tryz.func10, by kernel_rfl, by kernel_rfl⟩⟩
instance fn12 : FnOk Tryz.prog 12 := ⟨⟨_, Tryz.func12, by kernel_rfl, by kernel_rfl⟩⟩
instance fn13 : FnOk Tryz.prog 13 := ⟨⟨_, Tryz.func13, by kernel_rfl, by kernel_rfl⟩⟩
instance fn14 : FnOk Tryz.prog 14 := ⟨⟨_, Tryz.func14, by kernel_rfl, by kernel_rfl⟩⟩
instance fn15 : FnOk Tryz.prog 15 := ⟨⟨_, Tryz.func15, by kernel_rfl, by kernel_rfl⟩⟩
instance fn16 : FnOk Tryz.prog 16 := ⟨⟨_, Tryz.func16, by kernel_rfl, by kernel_rfl⟩⟩
instance fn17 : FnOk Tryz.prog 17 := ⟨⟨_, Tryz.func17, by kernel_rfl, by kernel_rfl⟩⟩
instance fn18 : FnOk Tryz.prog 18 := ⟨⟨_, Tryz.func18, by kernel_rfl, by kernel_rfl⟩⟩
instance fn19 : FnOk Tryz.prog 19 := ⟨⟨_, Tryz.func19, by kernel_rfl, by kernel_rfl⟩⟩
instance fn20 : FnOk Tryz.prog 20 := ⟨⟨_, Tryz.func20, by kernel_rfl, by kernel_rfl⟩⟩
instance fn21 : FnOk Tryz.prog 21 := ⟨⟨_, Tryz.func21, by kernel_rfl, by kernel_rfl⟩⟩
instance fn22 : FnOk Tryz.prog 22 := ⟨⟨_, Tryz.func22, by kernel_rfl, by kernel_rfl⟩⟩
instance fn23 : FnOk Tryz.prog 23 := ⟨⟨_, Tryz.func23, by kernel_rfl, by kernel_rfl⟩⟩
instance fn24 : FnOk Tryz.prog 24 := ⟨⟨_, Tryz.func24, by kernel_rfl, by kernel_rfl⟩⟩
instance fn25 : FnOk Tryz.prog 25 := ⟨⟨_, Tryz.func25, by kernel_rfl, by kernel_rfl⟩⟩
instance fn26 : FnOk Tryz.prog 26 := ⟨⟨_, Tryz.func26, by kernel_rfl, by kernel_rfl⟩⟩
instance fn27 : FnOk Tryz.prog 27 := ⟨⟨_, Tryz.func27, by kernel_rfl, by kernel_rfl⟩⟩
instance fn28 : FnOk Tryz.prog 28 := ⟨⟨_, Tryz.func28, by kernel_rfl, by kernel_rfl⟩⟩
instance fn29 : FnOk Tryz.prog 29 := ⟨⟨_, Tryz.func29, by kernel_rfl, by kernel_rfl⟩⟩
instance fn30 : FnOk Tryz.prog 30 := ⟨⟨_, Tryz.func30, by kernel_rfl, by kernel_rfl⟩⟩
instance fn31 : FnOk Tryz.prog 31 := ⟨⟨_, Tryz.func31, by kernel_rfl, by kernel_rfl⟩⟩
instance fn32 : FnOk Tryz.prog 32 := ⟨⟨_, Tryz.func32, by kernel_rfl, by kernel_rfl⟩⟩
instance fn33 : FnOk Tryz.prog 33 := ⟨⟨_, Tryz.func33, by kernel_rfl, by kernel_rfl⟩⟩
instance fn34 : FnOk Tryz.prog 34 := ⟨⟨_, Tryz.func34, by kernel_rfl, by kernel_rfl⟩⟩
instance fn35 : FnOk Tryz.prog 35 := ⟨⟨_, Tryz.func35, by kernel_rfl, by kernel_rfl⟩⟩
instance fn36 : FnOk Tryz.prog 36 := ⟨⟨_, Tryz.func36, by kernel_rfl, by kernel_rfl⟩⟩
instance fn37 : FnOk Tryz.prog 37 := ⟨⟨_, Tryz.func37, by kernel_rfl, by kernel_rfl⟩⟩
instance fn38 : FnOk Tryz.prog 38 := ⟨⟨_, Tryz.func38, by kernel_rfl, by kernel_rfl⟩⟩
instance fn39 : FnOk Tryz.prog 39 := ⟨⟨_, Tryz.func39, by kernel_rfl, by kernel_rfl⟩⟩
instance fn40 : FnOk Tryz.prog 40 := ⟨⟨_, Tryz.func40, by kernel_rfl, by kernel_rfl⟩⟩
instance fn41 : FnOk Tryz.prog 41 := ⟨⟨_, Tryz.func41, by kernel_rfl, by kernel_rfl⟩⟩
instance fn42 : FnOk Tryz.prog 42 := ⟨⟨_, Tryz.func42, by kernel_rfl, by kernel_rfl⟩⟩
instance fn43 : FnOk Tryz.prog 43 := ⟨⟨_, Tryz.func43, by kernel_rfl, by kernel_rfl⟩⟩
instance fn48 : FnOk Tryz.prog 48 := ⟨⟨_, Tryz.func48, by kernel_rfl, by kernel_rfl⟩⟩
instance fn49 : FnOk Tryz.prog 49 := ⟨⟨_, Tryz.func49, by kernel_rfl, by kernel_rfl⟩⟩
instance fn50 : FnOk Tryz.prog 50 := ⟨⟨_, Tryz.func50, by kernel_rfl, by kernel_rfl⟩⟩
instance fn51 : FnOk Tryz.prog 51 := ⟨⟨_, Tryz.func51, by kernel_rfl, by kernel_rfl⟩⟩
instance fn63 : FnOk Tryz.prog 63 := ⟨⟨_, Tryz.func63, by kernel_rfl, by kernel_rfl⟩⟩
instance fn64 : FnOk Tryz.prog 64 := ⟨⟨_, Tryz.func64, by kernel_rfl, by kernel_rfl⟩⟩
instance fn74 : FnOk Tryz.prog 74 := ⟨⟨_, Tryz.func74, by kernel_rfl, by kernel_rfl⟩⟩
instance fn75 : FnOk Tryz.prog 75 := ⟨⟨_, Tryz.func75, by kernel_rfl, by kernel_rfl⟩⟩
instance fn76 : FnOk Tryz.prog 76 := ⟨⟨_, Tryz.func76, by kernel_rfl, by kernel_rfl⟩⟩
instance fn77 : FnOk Tryz.prog 77 := ⟨⟨_, Tryz.func77, by kernel_rfl, by kernel_rfl⟩⟩
instance fn78 : FnOk Tryz.prog 78 := ⟨⟨_, Tryz.func78, by kernel_rfl, by kernel_rfl⟩⟩
instance fn79 : FnOk Tryz.prog 79 := ⟨⟨_, Tryz.func79, by kernel_rfl, by kernel_rfl⟩⟩
instance fn80 : FnOk Tryz.prog 80 := ⟨⟨_, Tryz.func80, by kernel_rfl, by kernel_rfl⟩⟩
instance fn81 : FnOk Tryz.prog 81 := ⟨⟨_, Tryz.func81, by kernel_rfl, by kernel_rfl⟩⟩
instance fn82 : FnOk Tryz.prog 82 := ⟨⟨_, Tryz.func82, by kernel_rfl, by kernel_rfl⟩⟩
instance fn83 : FnOk Tryz.prog 83 := ⟨⟨_, Tryz.func83, by kernel_rfl, by kernel_rfl⟩⟩
instance fn84 : FnOk Tryz.prog 84 := ⟨⟨_, Tryz.func84, by kernel_rfl, by kernel_rfl⟩⟩
instance fn85 : FnOk Tryz.prog 85 := ⟨⟨_, Tryz.func85, by kernel_rfl, by kernel_rfl⟩⟩
instance fn86 : FnOk Tryz.prog 86 := ⟨⟨_, Tryz.func86, by kernel_rfl, by kernel_rfl⟩⟩
instance fn87 : FnOk Tryz.prog 87 := ⟨⟨_, Tryz.func87, by kernel_rfl, by kernel_rfl⟩⟩
instance fn88 : FnOk Tryz.prog 88 := ⟨⟨_, Tryz.func88, by kernel_rfl, by kernel_rfl⟩⟩
instance fn89 : FnOk Tryz.prog 89 := ⟨⟨_, Tryz.func89, by kernel_rfl, by kernel_rfl⟩⟩
instance fn90 : FnOk Tryz.prog 90 := ⟨⟨_, Tryz.func90, by kernel_rfl, by kernel_rfl⟩⟩
instance fn91 : FnOk Tryz.prog 91 := ⟨⟨_, Tryz.func91, by kernel_rfl, by kernel_rfl⟩⟩
instance fn92 : FnOk Tryz.prog 92 := ⟨⟨_, Tryz.func92, by kernel_rfl, by kernel_rfl⟩⟩
instance fn93 : FnOk Tryz.prog 93 := ⟨⟨_, Tryz.func93, by kernel_rfl, by kernel_rfl⟩⟩
instance fn94 : FnOk Tryz.prog 94 := ⟨⟨_, Tryz.func94, by kernel_rfl, by kernel_rfl⟩⟩
instance fn95 : FnOk Tryz.prog 95 := ⟨⟨_, Tryz.func95, by kernel_rfl, by kernel_rfl⟩⟩
instance fn96 : FnOk Tryz.prog 96 := ⟨⟨_, Tryz.func96, by kernel_rfl, by kernel_rfl⟩⟩
instance fn97 : FnOk Tryz.prog 97 := ⟨⟨_, Tryz.func97, by kernel_rfl, by kernel_rfl⟩⟩
instance fn98 : FnOk Tryz.prog 98 := ⟨⟨_, Tryz.func98, by kernel_rfl, by kernel_rfl⟩⟩
instance fn99 : FnOk Tryz.prog 99 := ⟨⟨_, Tryz.func99, by kernel_rfl, by kernel_rfl⟩⟩
instance fn100 : FnOk Tryz.prog 100 := ⟨⟨_, Tryz.func100, by kernel_rfl, by kernel_rfl⟩⟩
instance fn101 : FnOk Tryz.prog 101 := ⟨⟨_, Tryz.func101, by kernel_rfl, by kernel_rfl⟩⟩
instance fn102 : FnOk Tryz.prog 102 := ⟨⟨_, Tryz.func102, by kernel_rfl, by kernel_rfl⟩⟩
instance fn103 : FnOk Tryz.prog 103 := ⟨⟨_, Tryz.func103, by kernel_rfl, by kernel_rfl⟩⟩
instance fn104 : FnOk Tryz.prog 104 := ⟨⟨_, Tryz.func104, by kernel_rfl, by kernel_rfl⟩⟩
instance fn105 : FnOk Tryz.prog 105 := ⟨⟨_, Tryz.func105, by kernel_rfl, by kernel_rfl⟩⟩
instance fn106 : FnOk Tryz.prog 106 := ⟨⟨_, Tryz.func106, by kernel_rfl, by kernel_rfl⟩⟩
instance fn107 : FnOk Tryz.prog 107 := ⟨⟨_, Tryz.func107, by kernel_rfl, by kernel_rfl⟩⟩
instance fn108 : FnOk Tryz.prog 108 := ⟨⟨_, Tryz.func108, by kernel_rfl, by kernel_rfl⟩⟩
instance fn109 : FnOk Tryz.prog 109 := ⟨⟨_, Tryz.func109, by kernel_rfl, by kernel_rfl⟩⟩
instance fn110 : FnOk Tryz.prog 110 := ⟨⟨_, Tryz.func110, by kernel_rfl, by kernel_rfl⟩⟩
instance fn111 : FnOk Tryz.prog 111 := ⟨⟨_, Tryz.func111, by kernel_rfl, by kernel_rfl⟩⟩
instance fn112 : FnOk Tryz.prog 112 := ⟨⟨_, Tryz.func112, by kernel_rfl, by kernel_rfl⟩⟩
instance fn113 : FnOk Tryz.prog 113 := ⟨⟨_, Tryz.func113, by kernel_rfl, by kernel_rfl⟩⟩
instance fn114 : FnOk Tryz.prog 114 := ⟨⟨_, Tryz.func114, by kernel_rfl, by kernel_rfl⟩⟩
instance fn115 : FnOk Tryz.prog 115 := ⟨⟨_, Tryz.func115, by kernel_rfl, by kernel_rfl⟩⟩
instance fn116 : FnOk Tryz.prog 116 := ⟨⟨_, Tryz.func116, by kernel_rfl, by kernel_rfl⟩⟩
instance fn117 : FnOk Tryz.prog 117 := ⟨⟨_, Tryz.func117, by kernel_rfl, by kernel_rfl⟩⟩
instance fn118 : FnOk Tryz.prog 118 := ⟨⟨_, Tryz.func118, by kernel_rfl, by kernel_rfl⟩⟩
instance fn119 : FnOk Tryz.prog 119 := ⟨⟨_, Tryz.func119, by kernel_rfl, by kernel_rfl⟩⟩
instance fn120 : FnOk Tryz.prog 120 := ⟨⟨_, Tryz.func120, by kernel_rfl, by kernel_rfl⟩⟩
instance fn121 : FnOk Tryz.prog 121 := ⟨⟨_, Tryz.func121, by kernel_rfl, by kernel_rfl⟩⟩
instance fn122 : FnOk Tryz.prog 122 := ⟨⟨_, Tryz.func122, by kernel_rfl, by kernel_rfl⟩⟩
instance fn123 : FnOk Tryz.prog 123 := ⟨⟨_, Tryz.func123, by kernel_rfl, by kernel_rfl⟩⟩
instance fn124 : FnOk Tryz.prog 124 := ⟨⟨_, Tryz.func124, by kernel_rfl, by kernel_rfl⟩⟩
instance fn125 : FnOk Tryz.prog 125 := ⟨⟨_, Tryz.func125, by kernel_rfl, by kernel_rfl⟩⟩
instance fn130 : FnOk Tryz.prog 130 := ⟨⟨_, Tryz.func130, by kernel_rfl, by kernel_rfl⟩⟩
instance fn131 : FnOk Tryz.prog 131 := ⟨⟨_, Tryz.func131, by kernel_rfl, by kernel_rfl⟩⟩
instance fn132 : FnOk Tryz.prog 132 := ⟨⟨_, Tryz.func132, by kernel_rfl, by kernel_rfl⟩⟩
instance fn133 : FnOk Tryz.prog 133 := ⟨⟨_, Tryz.func133, by kernel_rfl, by kernel_rfl⟩⟩
instance fn134 : FnOk Tryz.prog 134 := ⟨⟨_, Tryz.func134, by kernel_rfl, by kernel_rfl⟩⟩
instance fn150 : FnOk Tryz.prog 150 := ⟨⟨_, Tryz.func150, by kernel_rfl, by kernel_rfl⟩⟩
instance fn151 : FnOk Tryz.prog 151 := ⟨⟨_, Tryz.func151, by kernel_rfl, by kernel_rfl⟩⟩
instance fn152 : FnOk Tryz.prog 152 := ⟨⟨_, Tryz.func152, by kernel_rfl, by kernel_rfl⟩⟩
instance fn153 : FnOk Tryz.prog 153 := ⟨⟨_, Tryz.func153, by kernel_rfl, by kernel_rfl⟩⟩
instance fn154 : FnOk Tryz.prog 154 := ⟨⟨_, Tryz.func154, by kernel_rfl, by kernel_rfl⟩⟩
instance fn155 : FnOk Tryz.prog 155 := ⟨⟨_, Tryz.func155, by kernel_rfl, by kernel_rfl⟩⟩
instance fn156 : FnOk Tryz.prog 156 := ⟨⟨_, Tryz.func156, by kernel_rfl, by kernel_rfl⟩⟩
instance fn157 : FnOk Tryz.prog 157 := ⟨⟨_, Tryz.func157, by kernel_rfl, by kernel_rfl⟩⟩
instance fn158 : FnOk Tryz.prog 158 := ⟨⟨_, Tryz.func158, by kernel_rfl, by kernel_rfl⟩⟩
instance fn159 : FnOk Tryz.prog 159 := ⟨⟨_, Tryz.func159, by kernel_rfl, by kernel_rfl⟩⟩
instance fn160 : FnOk Tryz.prog 160 := ⟨⟨_, Tryz.func160, by kernel_rfl, by kernel_rfl⟩⟩
instance fn161 : FnOk Tryz.prog 161 := ⟨⟨_, Tryz.func161, by kernel_rfl, by kernel_rfl⟩⟩
instance fn162 : FnOk Tryz.prog 162 := ⟨⟨_, Tryz.func162, by kernel_rfl, by kernel_rfl⟩⟩
instance fn163 : FnOk Tryz.prog 163 := ⟨⟨_, Tryz.func163, by kernel_rfl, by kernel_rfl⟩⟩
instance fn164 : FnOk Tryz.prog 164 := ⟨⟨_, Tryz.func164, by kernel_rfl, by kernel_rfl⟩⟩
instance fn165 : FnOk Tryz.prog 165 := ⟨⟨_, Tryz.func165, by kernel_rfl, by kernel_rfl⟩⟩
instance fn166 : FnOk Tryz.prog 166 := ⟨⟨_, Tryz.func166, by kernel_rfl, by kernel_rfl⟩⟩
instance fn167 : FnOk Tryz.prog 167 := ⟨⟨_, Tryz.func167, by kernel_rfl, by kernel_rfl⟩⟩
instance fn168 : FnOk Tryz.prog 168 := ⟨⟨_, Tryz.func168, by kernel_rfl, by kernel_rfl⟩⟩
instance fn169 : FnOk Tryz.prog 169 := ⟨⟨_, Tryz.func169, by kernel_rfl, by kernel_rfl⟩⟩
instance fn170 : FnOk Tryz.prog 170 := ⟨⟨_, Tryz.func170, by kernel_rfl, by kernel_rfl⟩⟩
instance fn171 : FnOk Tryz.prog 171 := ⟨⟨_, Tryz.func171, by kernel_rfl, by kernel_rfl⟩⟩
instance fn172 : FnOk Tryz.prog 172 := ⟨⟨_, Tryz.func172, by kernel_rfl, by kernel_rfl⟩⟩
instance fn173 : FnOk Tryz.prog 173 := ⟨⟨_, Tryz.func173, by kernel_rfl, by kernel_rfl⟩⟩
instance fn174 : FnOk Tryz.prog 174 := ⟨⟨_, Tryz.func174, by kernel_rfl, by kernel_rfl⟩⟩
instance fn175 : FnOk Tryz.prog 175 := ⟨⟨_, Tryz.func175, by kernel_rfl, by kernel_rfl⟩⟩
instance fn176 : FnOk Tryz.prog 176 := ⟨⟨_, Tryz.func176, by kernel_rfl, by kernel_rfl⟩⟩
instance fn177 : FnOk Tryz.prog 177 := ⟨⟨_, Tryz.func177, by kernel_rfl, by kernel_rfl⟩⟩
instance fn178 : FnOk Tryz.prog 178 := ⟨⟨_, Tryz.func178, by kernel_rfl, by kernel_rfl⟩⟩
instance fn179 : FnOk Tryz.prog 179 := ⟨⟨_, Tryz.func179, by kernel_rfl, by kernel_rfl⟩⟩
instance fn180 : FnOk Tryz.prog 180 := ⟨⟨_, Tryz.func180, by kernel_rfl, by kernel_rfl⟩⟩
instance fn186 : FnOk Tryz.prog 186 := ⟨⟨_, Tryz.func186, by kernel_rfl, by kernel_rfl⟩⟩
instance fn187 : FnOk Tryz.prog 187 := ⟨⟨_, Tryz.func187, by kernel_rfl, by kernel_rfl⟩⟩
instance fn188 : FnOk Tryz.prog 188 := ⟨⟨_, Tryz.func188, by kernel_rfl, by kernel_rfl⟩⟩
instance fn189 : FnOk Tryz.prog 189 := ⟨⟨_, Tryz.func189, by kernel_rfl, by kernel_rfl⟩⟩
instance fn190 : FnOk Tryz.prog 190 := ⟨⟨_, Tryz.func190, by kernel_rfl, by kernel_rfl⟩⟩
instance fn191 : FnOk Tryz.prog 191 := ⟨⟨_, Tryz.func191, by kernel_rfl, by kernel_rfl⟩⟩
instance fn192 : FnOk Tryz.prog 192 := ⟨⟨_, Tryz.func192, by kernel_rfl, by kernel_rfl⟩⟩
instance fn193 : FnOk Tryz.prog 193 := ⟨⟨_, Tryz.func193, by kernel_rfl, by kernel_rfl⟩⟩
instance fn194 : FnOk Tryz.prog 194 := ⟨⟨_, Tryz.func194, by kernel_rfl, by kernel_rfl⟩⟩
instance fn195 : FnOk Tryz.prog 195 := ⟨⟨_, Tryz.func195, by kernel_rfl, by kernel_rfl⟩⟩
instance fn209 : FnOk Tryz.prog 209 := ⟨⟨_, Tryz.func209, by kernel_rfl, by kernel_rfl⟩⟩
instance fn210 : FnOk Tryz.prog 210 := ⟨⟨_, Tryz.func210, by kernel_rfl, by kernel_rfl⟩⟩
instance fn211 : FnOk Tryz.prog 211 := ⟨⟨_, Tryz.func211, by kernel_rfl, by kernel_rfl⟩⟩
instance fn212 : FnOk Tryz.prog 212 := ⟨⟨_, Tryz.func212, by kernel_rfl, by kernel_rfl⟩⟩
instance fn213 : FnOk Tryz.prog 213 := ⟨⟨_, Tryz.func213, by kernel_rfl, by kernel_rfl⟩⟩
instance fn214 : FnOk Tryz.prog 214 := ⟨⟨_, Tryz.func214, by kernel_rfl, by kernel_rfl⟩⟩
instance fn215 : FnOk Tryz.prog 215 := ⟨⟨_, Tryz.func215, by kernel_rfl, by kernel_rfl⟩⟩
instance fn216 : FnOk Tryz.prog 216 := ⟨⟨_, Tryz.func216, by kernel_rfl, by kernel_rfl⟩⟩
instance fn217 : FnOk Tryz.prog 217 := ⟨⟨_, Tryz.func217, by kernel_rfl, by kernel_rfl⟩⟩
instance fn218 : FnOk Tryz.prog 218 := ⟨⟨_, Tryz.func218, by kernel_rfl, by kernel_rfl⟩⟩
instance fn227 : FnOk Tryz.prog 227 := ⟨⟨_, Tryz.func227, by kernel_rfl, by kernel_rfl⟩⟩
instance fn230 : FnOk Tryz.prog 230 := ⟨⟨_, Tryz.func230, by kernel_rfl, by kernel_rfl⟩⟩
instance fn235 : FnOk Tryz.prog 235 := ⟨⟨_, Tryz.func235, by kernel_rfl, by kernel_rfl⟩⟩

end Go.Proofs.YtbaidcnalkdhgaaGreat
