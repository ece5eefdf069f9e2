/-
  The type facts and function facts of this seat, printed by a program of ours (gen_types.py) out of the translation; each is checked by the kernel.
-/
import Derived.Test.YtbaidcnalkdhgaaGreatEk
import Derived.Test.YtbaidcnalkdhgaaGreatProg
import Derived.KernelRfl
set_option maxRecDepth 100000
namespace Go.Proofs.YtbaidcnalkdhgaaGreat
open Go Go.Eng

instance mixedOrders : Mixed Tryz.prog := ⟨by kernel_rfl⟩
instance und0 : TUnd Tryz.prog 0 (.tuple #[]) := ⟨Tryz.underlying0⟩
instance und1 : TUnd Tryz.prog 1 (.func #[] #[] false) := ⟨Tryz.underlying1⟩
theorem inf1 : (Tryz.prog.info? 1).map (fun i => (i.zero, i.size, i.bytes)) = some (some (.nilFunc), 1, 8) := by kernel_rfl
instance ti1 : TInfo Tryz.prog 1 1 8 [.nilFunc] := tinfo_mk inf1 rfl
instance tz1 : TZero Tryz.prog 1 (.nilFunc) := tzero_mk inf1
instance und2 : TUnd Tryz.prog 2 (.int .i64) := ⟨Tryz.underlying2⟩
theorem inf2 : (Tryz.prog.info? 2).map (fun i => (i.zero, i.size, i.bytes)) = some (some (.int .i64 0), 1, 8) := by kernel_rfl
instance ti2 : TInfo Tryz.prog 2 1 8 [.int .i64 0] := tinfo_mk inf2 rfl
instance tz2 : TZero Tryz.prog 2 (.int .i64 0) := tzero_mk inf2
instance und3 : TUnd Tryz.prog 3 (.int .i64) := ⟨Tryz.underlying3⟩
theorem inf3 : (Tryz.prog.info? 3).map (fun i => (i.zero, i.size, i.bytes)) = some (some (.int .i64 0), 1, 8) := by kernel_rfl
instance ti3 : TInfo Tryz.prog 3 1 8 [.int .i64 0] := tinfo_mk inf3 rfl
instance tz3 : TZero Tryz.prog 3 (.int .i64 0) := tzero_mk inf3
instance und4 : TUnd Tryz.prog 4 (.bool) := ⟨Tryz.underlying4⟩
theorem inf4 : (Tryz.prog.info? 4).map (fun i => (i.zero, i.size, i.bytes)) = some (some (.bool false), 1, 1) := by kernel_rfl
instance ti4 : TInfo Tryz.prog 4 1 1 [.bool false] := tinfo_mk inf4 rfl
instance tz4 : TZero Tryz.prog 4 (.bool false) := tzero_mk inf4
instance und5 : TUnd Tryz.prog 5 (.int .u8) := ⟨Tryz.underlying5⟩
theorem inf5 : (Tryz.prog.info? 5).map (fun i => (i.zero, i.size, i.bytes)) = some (some (.int .u8 0), 1, 1) := by kernel_rfl
instance ti5 : TInfo Tryz.prog 5 1 1 [.int .u8 0] := tinfo_mk inf5 rfl
instance tz5 : TZero Tryz.prog 5 (.int .u8 0) := tzero_mk inf5
instance und9 : TUnd Tryz.prog 9 (.string) := ⟨Tryz.underlying9⟩
theorem inf9 : (Tryz.prog.info? 9).map (fun i => (i.zero, i.size, i.bytes)) = some (some (.string ByteArray.empty), 1, 16) := by kernel_rfl
instance ti9 : TInfo Tryz.prog 9 1 16 [.string ByteArray.empty] := tinfo_mk inf9 rfl
instance tz9 : TZero Tryz.prog 9 (.string ByteArray.empty) := tzero_mk inf9
instance und12 : TUnd Tryz.prog 12 (.int .u64) := ⟨Tryz.underlying12⟩
theorem inf12 : (Tryz.prog.info? 12).map (fun i => (i.zero, i.size, i.bytes)) = some (some (.int .u64 0), 1, 8) := by kernel_rfl
instance ti12 : TInfo Tryz.prog 12 1 8 [.int .u64 0] := tinfo_mk inf12 rfl
instance tz12 : TZero Tryz.prog 12 (.int .u64 0) := tzero_mk inf12
instance und21 : TUnd Tryz.prog 21 (.int .i32) := ⟨Tryz.underlying21⟩
theorem inf21 : (Tryz.prog.info? 21).map (fun i => (i.zero, i.size, i.bytes)) = some (some (.int .i32 0), 1, 4) := by kernel_rfl
instance ti21 : TInfo Tryz.prog 21 1 4 [.int .i32 0] := tinfo_mk inf21 rfl
instance tz21 : TZero Tryz.prog 21 (.int .i32 0) := tzero_mk inf21
instance und22 : TUnd Tryz.prog 22 (.struct #[⟨ "Senders", 3, 0, false, "", "", 0⟩, ⟨ "Receivers", 3, 1, false, "", "", 8⟩, ⟨ "Size", 3, 2, false, "", "", 16⟩]) := ⟨Tryz.underlying22⟩
theorem inf22 : (Tryz.prog.info? 22).map (fun i => (i.zero, i.size, i.bytes)) = some (some (.agg #[.int .i64 0, .int .i64 0, .int .i64 0]), 3, 24) := by kernel_rfl
instance ti22 : TInfo Tryz.prog 22 3 24 [.int .i64 0, .int .i64 0, .int .i64 0] := tinfo_mk inf22 rfl
instance tz22 : TZero Tryz.prog 22 (.agg #[.int .i64 0, .int .i64 0, .int .i64 0]) := tzero_mk inf22
instance tf22_0 : TField Tryz.prog 22 0 0 := tfield_mk Tryz.underlying22 rfl rfl (by kernel_rfl)
instance tp22_0 : TPart Tryz.prog 22 0 0 1 false := tpart_mk Tryz.underlying22 rfl rfl (by kernel_rfl) Tryz.underlying3 rfl
instance tf22_1 : TField Tryz.prog 22 1 1 := tfield_mk Tryz.underlying22 rfl rfl (by kernel_rfl)
instance tp22_1 : TPart Tryz.prog 22 1 1 1 false := tpart_mk Tryz.underlying22 rfl rfl (by kernel_rfl) Tryz.underlying3 rfl
instance tf22_2 : TField Tryz.prog 22 2 2 := tfield_mk Tryz.underlying22 rfl rfl (by kernel_rfl)
instance tp22_2 : TPart Tryz.prog 22 2 2 1 false := tpart_mk Tryz.underlying22 rfl rfl (by kernel_rfl) Tryz.underlying3 rfl
instance tpl22 : TPlaces Tryz.prog 22 [(0, 1), (1, 1), (2, 1)] := tplaces_mk Tryz.underlying22 (by kernel_rfl) (by kernel_rfl)
instance und23 : TUnd Tryz.prog 23 (.struct #[⟨ "Senders", 3, 0, false, "", "", 0⟩, ⟨ "Receivers", 3, 1, false, "", "", 8⟩, ⟨ "Size", 3, 2, false, "", "", 16⟩]) := ⟨Tryz.underlying23⟩
theorem inf23 : (Tryz.prog.info? 23).map (fun i => (i.zero, i.size, i.bytes)) = some (some (.agg #[.int .i64 0, .int .i64 0, .int .i64 0]), 3, 24) := by kernel_rfl
instance ti23 : TInfo Tryz.prog 23 3 24 [.int .i64 0, .int .i64 0, .int .i64 0] := tinfo_mk inf23 rfl
instance tz23 : TZero Tryz.prog 23 (.agg #[.int .i64 0, .int .i64 0, .int .i64 0]) := tzero_mk inf23
instance tf23_0 : TField Tryz.prog 23 0 0 := tfield_mk Tryz.underlying23 rfl rfl (by kernel_rfl)
instance tp23_0 : TPart Tryz.prog 23 0 0 1 false := tpart_mk Tryz.underlying23 rfl rfl (by kernel_rfl) Tryz.underlying3 rfl
instance tf23_1 : TField Tryz.prog 23 1 1 := tfield_mk Tryz.underlying23 rfl rfl (by kernel_rfl)
instance tp23_1 : TPart Tryz.prog 23 1 1 1 false := tpart_mk Tryz.underlying23 rfl rfl (by kernel_rfl) Tryz.underlying3 rfl
instance tf23_2 : TField Tryz.prog 23 2 2 := tfield_mk Tryz.underlying23 rfl rfl (by kernel_rfl)
instance tp23_2 : TPart Tryz.prog 23 2 2 1 false := tpart_mk Tryz.underlying23 rfl rfl (by kernel_rfl) Tryz.underlying3 rfl
instance tpl23 : TPlaces Tryz.prog 23 [(0, 1), (1, 1), (2, 1)] := tplaces_mk Tryz.underlying23 (by kernel_rfl) (by kernel_rfl)
instance und24 : TUnd Tryz.prog 24 (.slice 43) := ⟨Tryz.underlying24⟩
theorem inf24 : (Tryz.prog.info? 24).map (fun i => (i.zero, i.size, i.bytes)) = some (some (.slice none 0 0), 1, 24) := by kernel_rfl
instance ti24 : TInfo Tryz.prog 24 1 24 [.slice none 0 0] := tinfo_mk inf24 rfl
instance tz24 : TZero Tryz.prog 24 (.slice none 0 0) := tzero_mk inf24
instance und25 : TUnd Tryz.prog 25 (.func #[3, 3] #[3] false) := ⟨Tryz.underlying25⟩
theorem inf25 : (Tryz.prog.info? 25).map (fun i => (i.zero, i.size, i.bytes)) = some (some (.nilFunc), 1, 8) := by kernel_rfl
instance ti25 : TInfo Tryz.prog 25 1 8 [.nilFunc] := tinfo_mk inf25 rfl
instance tz25 : TZero Tryz.prog 25 (.nilFunc) := tzero_mk inf25
instance und26 : TUnd Tryz.prog 26 (.pointer 108) := ⟨Tryz.underlying26⟩
theorem inf26 : (Tryz.prog.info? 26).map (fun i => (i.zero, i.size, i.bytes)) = some (some (.pointer none), 1, 8) := by kernel_rfl
instance ti26 : TInfo Tryz.prog 26 1 8 [.pointer none] := tinfo_mk inf26 rfl
instance tz26 : TZero Tryz.prog 26 (.pointer none) := tzero_mk inf26
instance und27 : TUnd Tryz.prog 27 (.func #[] #[26] false) := ⟨Tryz.underlying27⟩
theorem inf27 : (Tryz.prog.info? 27).map (fun i => (i.zero, i.size, i.bytes)) = some (some (.nilFunc), 1, 8) := by kernel_rfl
instance ti27 : TInfo Tryz.prog 27 1 8 [.nilFunc] := tinfo_mk inf27 rfl
instance tz27 : TZero Tryz.prog 27 (.nilFunc) := tzero_mk inf27
instance und28 : TUnd Tryz.prog 28 (.pointer 148) := ⟨Tryz.underlying28⟩
theorem inf28 : (Tryz.prog.info? 28).map (fun i => (i.zero, i.size, i.bytes)) = some (some (.pointer none), 1, 8) := by kernel_rfl
instance ti28 : TInfo Tryz.prog 28 1 8 [.pointer none] := tinfo_mk inf28 rfl
instance tz28 : TZero Tryz.prog 28 (.pointer none) := tzero_mk inf28
instance und29 : TUnd Tryz.prog 29 (.int .i64) := ⟨Tryz.underlying29⟩
theorem inf29 : (Tryz.prog.info? 29).map (fun i => (i.zero, i.size, i.bytes)) = some (some (.int .i64 0), 1, 8) := by kernel_rfl
instance ti29 : TInfo Tryz.prog 29 1 8 [.int .i64 0] := tinfo_mk inf29 rfl
instance tz29 : TZero Tryz.prog 29 (.int .i64 0) := tzero_mk inf29
instance und30 : TUnd Tryz.prog 30 (.tuple #[28, 29]) := ⟨Tryz.underlying30⟩
instance und31 : TUnd Tryz.prog 31 (.func #[26, 3] #[28, 29] false) := ⟨Tryz.underlying31⟩
theorem inf31 : (Tryz.prog.info? 31).map (fun i => (i.zero, i.size, i.bytes)) = some (some (.nilFunc), 1, 8) := by kernel_rfl
instance ti31 : TInfo Tryz.prog 31 1 8 [.nilFunc] := tinfo_mk inf31 rfl
instance tz31 : TZero Tryz.prog 31 (.nilFunc) := tzero_mk inf31
instance und32 : TUnd Tryz.prog 32 (.slice 3) := ⟨Tryz.underlying32⟩
theorem inf32 : (Tryz.prog.info? 32).map (fun i => (i.zero, i.size, i.bytes)) = some (some (.slice none 0 0), 1, 24) := by kernel_rfl
instance ti32 : TInfo Tryz.prog 32 1 24 [.slice none 0 0] := tinfo_mk inf32 rfl
instance tz32 : TZero Tryz.prog 32 (.slice none 0 0) := tzero_mk inf32
instance und33 : TUnd Tryz.prog 33 (.func #[34, 3, 3] #[] false) := ⟨Tryz.underlying33⟩
theorem inf33 : (Tryz.prog.info? 33).map (fun i => (i.zero, i.size, i.bytes)) = some (some (.nilFunc), 1, 8) := by kernel_rfl
instance ti33 : TInfo Tryz.prog 33 1 8 [.nilFunc] := tinfo_mk inf33 rfl
instance tz33 : TZero Tryz.prog 33 (.nilFunc) := tzero_mk inf33
instance und34 : TUnd Tryz.prog 34 (.pointer 162) := ⟨Tryz.underlying34⟩
theorem inf34 : (Tryz.prog.info? 34).map (fun i => (i.zero, i.size, i.bytes)) = some (some (.pointer none), 1, 8) := by kernel_rfl
instance ti34 : TInfo Tryz.prog 34 1 8 [.pointer none] := tinfo_mk inf34 rfl
instance tz34 : TZero Tryz.prog 34 (.pointer none) := tzero_mk inf34
instance und35 : TUnd Tryz.prog 35 (.func #[34, 28, 3, 36] #[29] false) := ⟨Tryz.underlying35⟩
theorem inf35 : (Tryz.prog.info? 35).map (fun i => (i.zero, i.size, i.bytes)) = some (some (.nilFunc), 1, 8) := by kernel_rfl
instance ti35 : TInfo Tryz.prog 35 1 8 [.nilFunc] := tinfo_mk inf35 rfl
instance tz35 : TZero Tryz.prog 35 (.nilFunc) := tzero_mk inf35
instance und36 : TUnd Tryz.prog 36 (.func #[4] #[] false) := ⟨Tryz.underlying36⟩
theorem inf36 : (Tryz.prog.info? 36).map (fun i => (i.zero, i.size, i.bytes)) = some (some (.nilFunc), 1, 8) := by kernel_rfl
instance ti36 : TInfo Tryz.prog 36 1 8 [.nilFunc] := tinfo_mk inf36 rfl
instance tz36 : TZero Tryz.prog 36 (.nilFunc) := tzero_mk inf36
instance und37 : TUnd Tryz.prog 37 (.func #[34] #[] false) := ⟨Tryz.underlying37⟩
theorem inf37 : (Tryz.prog.info? 37).map (fun i => (i.zero, i.size, i.bytes)) = some (some (.nilFunc), 1, 8) := by kernel_rfl
instance ti37 : TInfo Tryz.prog 37 1 8 [.nilFunc] := tinfo_mk inf37 rfl
instance tz37 : TZero Tryz.prog 37 (.nilFunc) := tzero_mk inf37
instance und38 : TUnd Tryz.prog 38 (.func #[34, 28, 39] #[29] false) := ⟨Tryz.underlying38⟩
theorem inf38 : (Tryz.prog.info? 38).map (fun i => (i.zero, i.size, i.bytes)) = some (some (.nilFunc), 1, 8) := by kernel_rfl
instance ti38 : TInfo Tryz.prog 38 1 8 [.nilFunc] := tinfo_mk inf38 rfl
instance tz38 : TZero Tryz.prog 38 (.nilFunc) := tzero_mk inf38
instance und39 : TUnd Tryz.prog 39 (.func #[3, 4] #[] false) := ⟨Tryz.underlying39⟩
theorem inf39 : (Tryz.prog.info? 39).map (fun i => (i.zero, i.size, i.bytes)) = some (some (.nilFunc), 1, 8) := by kernel_rfl
instance ti39 : TInfo Tryz.prog 39 1 8 [.nilFunc] := tinfo_mk inf39 rfl
instance tz39 : TZero Tryz.prog 39 (.nilFunc) := tzero_mk inf39
instance und40 : TUnd Tryz.prog 40 (.tuple #[34, 29]) := ⟨Tryz.underlying40⟩
instance und41 : TUnd Tryz.prog 41 (.func #[37] #[34, 29] false) := ⟨Tryz.underlying41⟩
theorem inf41 : (Tryz.prog.info? 41).map (fun i => (i.zero, i.size, i.bytes)) = some (some (.nilFunc), 1, 8) := by kernel_rfl
instance ti41 : TInfo Tryz.prog 41 1 8 [.nilFunc] := tinfo_mk inf41 rfl
instance tz41 : TZero Tryz.prog 41 (.nilFunc) := tzero_mk inf41
instance und42 : TUnd Tryz.prog 42 (.func #[43] #[4] false) := ⟨Tryz.underlying42⟩
theorem inf42 : (Tryz.prog.info? 42).map (fun i => (i.zero, i.size, i.bytes)) = some (some (.nilFunc), 1, 8) := by kernel_rfl
instance ti42 : TInfo Tryz.prog 42 1 8 [.nilFunc] := tinfo_mk inf42 rfl
instance tz42 : TZero Tryz.prog 42 (.nilFunc) := tzero_mk inf42
instance und43 : TUnd Tryz.prog 43 (.int .u64) := ⟨Tryz.underlying43⟩
theorem inf43 : (Tryz.prog.info? 43).map (fun i => (i.zero, i.size, i.bytes)) = some (some (.int .u64 0), 1, 8) := by kernel_rfl
instance ti43 : TInfo Tryz.prog 43 1 8 [.int .u64 0] := tinfo_mk inf43 rfl
instance tz43 : TZero Tryz.prog 43 (.int .u64 0) := tzero_mk inf43
instance und44 : TUnd Tryz.prog 44 (.tuple #[3, 3]) := ⟨Tryz.underlying44⟩
instance und45 : TUnd Tryz.prog 45 (.func #[] #[3, 3] false) := ⟨Tryz.underlying45⟩
theorem inf45 : (Tryz.prog.info? 45).map (fun i => (i.zero, i.size, i.bytes)) = some (some (.nilFunc), 1, 8) := by kernel_rfl
instance ti45 : TInfo Tryz.prog 45 1 8 [.nilFunc] := tinfo_mk inf45 rfl
instance tz45 : TZero Tryz.prog 45 (.nilFunc) := tzero_mk inf45
instance und46 : TUnd Tryz.prog 46 (.func #[] #[3] false) := ⟨Tryz.underlying46⟩
theorem inf46 : (Tryz.prog.info? 46).map (fun i => (i.zero, i.size, i.bytes)) = some (some (.nilFunc), 1, 8) := by kernel_rfl
instance ti46 : TInfo Tryz.prog 46 1 8 [.nilFunc] := tinfo_mk inf46 rfl
instance tz46 : TZero Tryz.prog 46 (.nilFunc) := tzero_mk inf46
instance und47 : TUnd Tryz.prog 47 (.func #[24, 3] #[3] false) := ⟨Tryz.underlying47⟩
theorem inf47 : (Tryz.prog.info? 47).map (fun i => (i.zero, i.size, i.bytes)) = some (some (.nilFunc), 1, 8) := by kernel_rfl
instance ti47 : TInfo Tryz.prog 47 1 8 [.nilFunc] := tinfo_mk inf47 rfl
instance tz47 : TZero Tryz.prog 47 (.nilFunc) := tzero_mk inf47
instance und48 : TUnd Tryz.prog 48 (.map 3 3) := ⟨Tryz.underlying48⟩
theorem inf48 : (Tryz.prog.info? 48).map (fun i => (i.zero, i.size, i.bytes)) = some (some (.map none), 1, 8) := by kernel_rfl
instance ti48 : TInfo Tryz.prog 48 1 8 [.map none] := tinfo_mk inf48 rfl
instance tz48 : TZero Tryz.prog 48 (.map none) := tzero_mk inf48
instance und49 : TUnd Tryz.prog 49 (.func #[] #[4] false) := ⟨Tryz.underlying49⟩
theorem inf49 : (Tryz.prog.info? 49).map (fun i => (i.zero, i.size, i.bytes)) = some (some (.nilFunc), 1, 8) := by kernel_rfl
instance ti49 : TInfo Tryz.prog 49 1 8 [.nilFunc] := tinfo_mk inf49 rfl
instance tz49 : TZero Tryz.prog 49 (.nilFunc) := tzero_mk inf49
instance und50 : TUnd Tryz.prog 50 (.func #[23, 24] #[4] false) := ⟨Tryz.underlying50⟩
theorem inf50 : (Tryz.prog.info? 50).map (fun i => (i.zero, i.size, i.bytes)) = some (some (.nilFunc), 1, 8) := by kernel_rfl
instance ti50 : TInfo Tryz.prog 50 1 8 [.nilFunc] := tinfo_mk inf50 rfl
instance tz50 : TZero Tryz.prog 50 (.nilFunc) := tzero_mk inf50
instance und51 : TUnd Tryz.prog 51 (.slice 168) := ⟨Tryz.underlying51⟩
theorem inf51 : (Tryz.prog.info? 51).map (fun i => (i.zero, i.size, i.bytes)) = some (some (.slice none 0 0), 1, 24) := by kernel_rfl
instance ti51 : TInfo Tryz.prog 51 1 24 [.slice none 0 0] := tinfo_mk inf51 rfl
instance tz51 : TZero Tryz.prog 51 (.slice none 0 0) := tzero_mk inf51
instance und52 : TUnd Tryz.prog 52 (.func #[51, 32] #[4] false) := ⟨Tryz.underlying52⟩
theorem inf52 : (Tryz.prog.info? 52).map (fun i => (i.zero, i.size, i.bytes)) = some (some (.nilFunc), 1, 8) := by kernel_rfl
instance ti52 : TInfo Tryz.prog 52 1 8 [.nilFunc] := tinfo_mk inf52 rfl
instance tz52 : TZero Tryz.prog 52 (.nilFunc) := tzero_mk inf52
instance und53 : TUnd Tryz.prog 53 (.pointer 61) := ⟨Tryz.underlying53⟩
theorem inf53 : (Tryz.prog.info? 53).map (fun i => (i.zero, i.size, i.bytes)) = some (some (.pointer none), 1, 8) := by kernel_rfl
instance ti53 : TInfo Tryz.prog 53 1 8 [.pointer none] := tinfo_mk inf53 rfl
instance tz53 : TZero Tryz.prog 53 (.pointer none) := tzero_mk inf53
instance und54 : TUnd Tryz.prog 54 (.pointer 97) := ⟨Tryz.underlying54⟩
theorem inf54 : (Tryz.prog.info? 54).map (fun i => (i.zero, i.size, i.bytes)) = some (some (.pointer none), 1, 8) := by kernel_rfl
instance ti54 : TInfo Tryz.prog 54 1 8 [.pointer none] := tinfo_mk inf54 rfl
instance tz54 : TZero Tryz.prog 54 (.pointer none) := tzero_mk inf54
instance und55 : TUnd Tryz.prog 55 (.tuple #[53, 54]) := ⟨Tryz.underlying55⟩
instance und56 : TUnd Tryz.prog 56 (.func #[51, 32] #[53, 54] false) := ⟨Tryz.underlying56⟩
theorem inf56 : (Tryz.prog.info? 56).map (fun i => (i.zero, i.size, i.bytes)) = some (some (.nilFunc), 1, 8) := by kernel_rfl
instance ti56 : TInfo Tryz.prog 56 1 8 [.nilFunc] := tinfo_mk inf56 rfl
instance tz56 : TZero Tryz.prog 56 (.nilFunc) := tzero_mk inf56
instance und57 : TUnd Tryz.prog 57 (.slice 28) := ⟨Tryz.underlying57⟩
theorem inf57 : (Tryz.prog.info? 57).map (fun i => (i.zero, i.size, i.bytes)) = some (some (.slice none 0 0), 1, 24) := by kernel_rfl
instance ti57 : TInfo Tryz.prog 57 1 24 [.slice none 0 0] := tinfo_mk inf57 rfl
instance tz57 : TZero Tryz.prog 57 (.slice none 0 0) := tzero_mk inf57
instance und58 : TUnd Tryz.prog 58 (.slice 34) := ⟨Tryz.underlying58⟩
theorem inf58 : (Tryz.prog.info? 58).map (fun i => (i.zero, i.size, i.bytes)) = some (some (.slice none 0 0), 1, 24) := by kernel_rfl
instance ti58 : TInfo Tryz.prog 58 1 24 [.slice none 0 0] := tinfo_mk inf58 rfl
instance tz58 : TZero Tryz.prog 58 (.slice none 0 0) := tzero_mk inf58
instance und59 : TUnd Tryz.prog 59 (.slice 100) := ⟨Tryz.underlying59⟩
theorem inf59 : (Tryz.prog.info? 59).map (fun i => (i.zero, i.size, i.bytes)) = some (some (.slice none 0 0), 1, 24) := by kernel_rfl
instance ti59 : TInfo Tryz.prog 59 1 24 [.slice none 0 0] := tinfo_mk inf59 rfl
instance tz59 : TZero Tryz.prog 59 (.slice none 0 0) := tzero_mk inf59
instance und60 : TUnd Tryz.prog 60 (.struct #[⟨ "r", 26, 0, false, "", "conduit/conduitlaw16", 0⟩, ⟨ "progs", 51, 1, false, "", "conduit/conduitlaw16", 8⟩, ⟨ "chans", 57, 2, false, "", "conduit/conduitlaw16", 32⟩, ⟨ "tasks", 58, 3, false, "", "conduit/conduitlaw16", 56⟩, ⟨ "events", 59, 4, false, "", "conduit/conduitlaw16", 80⟩, ⟨ "bad", 4, 5, false, "", "conduit/conduitlaw16", 104⟩]) := ⟨Tryz.underlying60⟩
theorem inf60 : (Tryz.prog.info? 60).map (fun i => (i.zero, i.size, i.bytes)) = some (some (.agg #[.pointer none, .slice none 0 0, .slice none 0 0, .slice none 0 0, .slice none 0 0, .bool false]), 6, 112) := by kernel_rfl
instance ti60 : TInfo Tryz.prog 60 6 112 [.pointer none, .slice none 0 0, .slice none 0 0, .slice none 0 0, .slice none 0 0, .bool false] := tinfo_mk inf60 rfl
instance tz60 : TZero Tryz.prog 60 (.agg #[.pointer none, .slice none 0 0, .slice none 0 0, .slice none 0 0, .slice none 0 0, .bool false]) := tzero_mk inf60
instance tf60_0 : TField Tryz.prog 60 0 0 := tfield_mk Tryz.underlying60 rfl rfl (by kernel_rfl)
instance tp60_0 : TPart Tryz.prog 60 0 0 1 false := tpart_mk Tryz.underlying60 rfl rfl (by kernel_rfl) Tryz.underlying26 rfl
instance tf60_1 : TField Tryz.prog 60 1 1 := tfield_mk Tryz.underlying60 rfl rfl (by kernel_rfl)
instance tp60_1 : TPart Tryz.prog 60 1 1 1 false := tpart_mk Tryz.underlying60 rfl rfl (by kernel_rfl) Tryz.underlying51 rfl
instance tf60_2 : TField Tryz.prog 60 2 2 := tfield_mk Tryz.underlying60 rfl rfl (by kernel_rfl)
instance tp60_2 : TPart Tryz.prog 60 2 2 1 false := tpart_mk Tryz.underlying60 rfl rfl (by kernel_rfl) Tryz.underlying57 rfl
instance tf60_3 : TField Tryz.prog 60 3 3 := tfield_mk Tryz.underlying60 rfl rfl (by kernel_rfl)
instance tp60_3 : TPart Tryz.prog 60 3 3 1 false := tpart_mk Tryz.underlying60 rfl rfl (by kernel_rfl) Tryz.underlying58 rfl
instance tf60_4 : TField Tryz.prog 60 4 4 := tfield_mk Tryz.underlying60 rfl rfl (by kernel_rfl)
instance tp60_4 : TPart Tryz.prog 60 4 4 1 false := tpart_mk Tryz.underlying60 rfl rfl (by kernel_rfl) Tryz.underlying59 rfl
instance tf60_5 : TField Tryz.prog 60 5 5 := tfield_mk Tryz.underlying60 rfl rfl (by kernel_rfl)
instance tp60_5 : TPart Tryz.prog 60 5 5 1 false := tpart_mk Tryz.underlying60 rfl rfl (by kernel_rfl) Tryz.underlying4 rfl
instance tpl60 : TPlaces Tryz.prog 60 [(0, 1), (1, 1), (2, 1), (3, 1), (4, 1), (5, 1)] := tplaces_mk Tryz.underlying60 (by kernel_rfl) (by kernel_rfl)
instance und61 : TUnd Tryz.prog 61 (.struct #[⟨ "r", 26, 0, false, "", "conduit/conduitlaw16", 0⟩, ⟨ "progs", 51, 1, false, "", "conduit/conduitlaw16", 8⟩, ⟨ "chans", 57, 2, false, "", "conduit/conduitlaw16", 32⟩, ⟨ "tasks", 58, 3, false, "", "conduit/conduitlaw16", 56⟩, ⟨ "events", 59, 4, false, "", "conduit/conduitlaw16", 80⟩, ⟨ "bad", 4, 5, false, "", "conduit/conduitlaw16", 104⟩]) := ⟨Tryz.underlying61⟩
theorem inf61 : (Tryz.prog.info? 61).map (fun i => (i.zero, i.size, i.bytes)) = some (some (.agg #[.pointer none, .slice none 0 0, .slice none 0 0, .slice none 0 0, .slice none 0 0, .bool false]), 6, 112) := by kernel_rfl
instance ti61 : TInfo Tryz.prog 61 6 112 [.pointer none, .slice none 0 0, .slice none 0 0, .slice none 0 0, .slice none 0 0, .bool false] := tinfo_mk inf61 rfl
instance tz61 : TZero Tryz.prog 61 (.agg #[.pointer none, .slice none 0 0, .slice none 0 0, .slice none 0 0, .slice none 0 0, .bool false]) := tzero_mk inf61
instance tf61_0 : TField Tryz.prog 61 0 0 := tfield_mk Tryz.underlying61 rfl rfl (by kernel_rfl)
instance tp61_0 : TPart Tryz.prog 61 0 0 1 false := tpart_mk Tryz.underlying61 rfl rfl (by kernel_rfl) Tryz.underlying26 rfl
instance tf61_1 : TField Tryz.prog 61 1 1 := tfield_mk Tryz.underlying61 rfl rfl (by kernel_rfl)
instance tp61_1 : TPart Tryz.prog 61 1 1 1 false := tpart_mk Tryz.underlying61 rfl rfl (by kernel_rfl) Tryz.underlying51 rfl
instance tf61_2 : TField Tryz.prog 61 2 2 := tfield_mk Tryz.underlying61 rfl rfl (by kernel_rfl)
instance tp61_2 : TPart Tryz.prog 61 2 2 1 false := tpart_mk Tryz.underlying61 rfl rfl (by kernel_rfl) Tryz.underlying57 rfl
instance tf61_3 : TField Tryz.prog 61 3 3 := tfield_mk Tryz.underlying61 rfl rfl (by kernel_rfl)
instance tp61_3 : TPart Tryz.prog 61 3 3 1 false := tpart_mk Tryz.underlying61 rfl rfl (by kernel_rfl) Tryz.underlying58 rfl
instance tf61_4 : TField Tryz.prog 61 4 4 := tfield_mk Tryz.underlying61 rfl rfl (by kernel_rfl)
instance tp61_4 : TPart Tryz.prog 61 4 4 1 false := tpart_mk Tryz.underlying61 rfl rfl (by kernel_rfl) Tryz.underlying59 rfl
instance tf61_5 : TField Tryz.prog 61 5 5 := tfield_mk Tryz.underlying61 rfl rfl (by kernel_rfl)
instance tp61_5 : TPart Tryz.prog 61 5 5 1 false := tpart_mk Tryz.underlying61 rfl rfl (by kernel_rfl) Tryz.underlying4 rfl
instance tpl61 : TPlaces Tryz.prog 61 [(0, 1), (1, 1), (2, 1), (3, 1), (4, 1), (5, 1)] := tplaces_mk Tryz.underlying61 (by kernel_rfl) (by kernel_rfl)
instance und62 : TUnd Tryz.prog 62 (.func #[] #[29] false) := ⟨Tryz.underlying62⟩
theorem inf62 : (Tryz.prog.info? 62).map (fun i => (i.zero, i.size, i.bytes)) = some (some (.nilFunc), 1, 8) := by kernel_rfl
instance ti62 : TInfo Tryz.prog 62 1 8 [.nilFunc] := tinfo_mk inf62 rfl
instance tz62 : TZero Tryz.prog 62 (.nilFunc) := tzero_mk inf62
instance und63 : TUnd Tryz.prog 63 (.tuple #[4, 4]) := ⟨Tryz.underlying63⟩
instance und64 : TUnd Tryz.prog 64 (.func #[3] #[4, 4] false) := ⟨Tryz.underlying64⟩
theorem inf64 : (Tryz.prog.info? 64).map (fun i => (i.zero, i.size, i.bytes)) = some (some (.nilFunc), 1, 8) := by kernel_rfl
instance ti64 : TInfo Tryz.prog 64 1 8 [.nilFunc] := tinfo_mk inf64 rfl
instance tz64 : TZero Tryz.prog 64 (.nilFunc) := tzero_mk inf64
instance und65 : TUnd Tryz.prog 65 (.tuple #[3, 4, 4]) := ⟨Tryz.underlying65⟩
instance und66 : TUnd Tryz.prog 66 (.func #[] #[3, 4, 4] false) := ⟨Tryz.underlying66⟩
theorem inf66 : (Tryz.prog.info? 66).map (fun i => (i.zero, i.size, i.bytes)) = some (some (.nilFunc), 1, 8) := by kernel_rfl
instance ti66 : TInfo Tryz.prog 66 1 8 [.nilFunc] := tinfo_mk inf66 rfl
instance tz66 : TZero Tryz.prog 66 (.nilFunc) := tzero_mk inf66
instance und67 : TUnd Tryz.prog 67 (.func #[51, 3, 24] #[4] false) := ⟨Tryz.underlying67⟩
theorem inf67 : (Tryz.prog.info? 67).map (fun i => (i.zero, i.size, i.bytes)) = some (some (.nilFunc), 1, 8) := by kernel_rfl
instance ti67 : TInfo Tryz.prog 67 1 8 [.nilFunc] := tinfo_mk inf67 rfl
instance tz67 : TZero Tryz.prog 67 (.nilFunc) := tzero_mk inf67
instance und68 : TUnd Tryz.prog 68 (.slice 74) := ⟨Tryz.underlying68⟩
theorem inf68 : (Tryz.prog.info? 68).map (fun i => (i.zero, i.size, i.bytes)) = some (some (.slice none 0 0), 1, 24) := by kernel_rfl
instance ti68 : TInfo Tryz.prog 68 1 24 [.slice none 0 0] := tinfo_mk inf68 rfl
instance tz68 : TZero Tryz.prog 68 (.slice none 0 0) := tzero_mk inf68
instance und69 : TUnd Tryz.prog 69 (.array 2 28) := ⟨Tryz.underlying69⟩
theorem inf69 : (Tryz.prog.info? 69).map (fun i => (i.zero, i.size, i.bytes)) = some (some (.agg #[.pointer none, .pointer none]), 2, 16) := by kernel_rfl
instance ti69 : TInfo Tryz.prog 69 2 16 [.pointer none, .pointer none] := tinfo_mk inf69 rfl
instance tz69 : TZero Tryz.prog 69 (.agg #[.pointer none, .pointer none]) := tzero_mk inf69
instance und70 : TUnd Tryz.prog 70 (.array 4 3) := ⟨Tryz.underlying70⟩
theorem inf70 : (Tryz.prog.info? 70).map (fun i => (i.zero, i.size, i.bytes)) = some (some (.agg #[.int .i64 0, .int .i64 0, .int .i64 0, .int .i64 0]), 4, 32) := by kernel_rfl
instance ti70 : TInfo Tryz.prog 70 4 32 [.int .i64 0, .int .i64 0, .int .i64 0, .int .i64 0] := tinfo_mk inf70 rfl
instance tz70 : TZero Tryz.prog 70 (.agg #[.int .i64 0, .int .i64 0, .int .i64 0, .int .i64 0]) := tzero_mk inf70
instance und71 : TUnd Tryz.prog 71 (.pointer 175) := ⟨Tryz.underlying71⟩
theorem inf71 : (Tryz.prog.info? 71).map (fun i => (i.zero, i.size, i.bytes)) = some (some (.pointer none), 1, 8) := by kernel_rfl
instance ti71 : TInfo Tryz.prog 71 1 8 [.pointer none] := tinfo_mk inf71 rfl
instance tz71 : TZero Tryz.prog 71 (.pointer none) := tzero_mk inf71
instance und72 : TUnd Tryz.prog 72 (.array 4 71) := ⟨Tryz.underlying72⟩
theorem inf72 : (Tryz.prog.info? 72).map (fun i => (i.zero, i.size, i.bytes)) = some (some (.agg #[.pointer none, .pointer none, .pointer none, .pointer none]), 4, 32) := by kernel_rfl
instance ti72 : TInfo Tryz.prog 72 4 32 [.pointer none, .pointer none, .pointer none, .pointer none] := tinfo_mk inf72 rfl
instance tz72 : TZero Tryz.prog 72 (.agg #[.pointer none, .pointer none, .pointer none, .pointer none]) := tzero_mk inf72
instance und73 : TUnd Tryz.prog 73 (.func #[1] #[71] false) := ⟨Tryz.underlying73⟩
theorem inf73 : (Tryz.prog.info? 73).map (fun i => (i.zero, i.size, i.bytes)) = some (some (.nilFunc), 1, 8) := by kernel_rfl
instance ti73 : TInfo Tryz.prog 73 1 8 [.nilFunc] := tinfo_mk inf73 rfl
instance tz73 : TZero Tryz.prog 73 (.nilFunc) := tzero_mk inf73
instance und74 : TUnd Tryz.prog 74 (.array 3 3) := ⟨Tryz.underlying74⟩
theorem inf74 : (Tryz.prog.info? 74).map (fun i => (i.zero, i.size, i.bytes)) = some (some (.agg #[.int .i64 0, .int .i64 0, .int .i64 0]), 3, 24) := by kernel_rfl
instance ti74 : TInfo Tryz.prog 74 3 24 [.int .i64 0, .int .i64 0, .int .i64 0] := tinfo_mk inf74 rfl
instance tz74 : TZero Tryz.prog 74 (.agg #[.int .i64 0, .int .i64 0, .int .i64 0]) := tzero_mk inf74
instance und75 : TUnd Tryz.prog 75 (.func #[3, 71, 36] #[29] false) := ⟨Tryz.underlying75⟩
theorem inf75 : (Tryz.prog.info? 75).map (fun i => (i.zero, i.size, i.bytes)) = some (some (.nilFunc), 1, 8) := by kernel_rfl
instance ti75 : TInfo Tryz.prog 75 1 8 [.nilFunc] := tinfo_mk inf75 rfl
instance tz75 : TZero Tryz.prog 75 (.nilFunc) := tzero_mk inf75
instance und76 : TUnd Tryz.prog 76 (.func #[71, 39] #[29] false) := ⟨Tryz.underlying76⟩
theorem inf76 : (Tryz.prog.info? 76).map (fun i => (i.zero, i.size, i.bytes)) = some (some (.nilFunc), 1, 8) := by kernel_rfl
instance ti76 : TInfo Tryz.prog 76 1 8 [.nilFunc] := tinfo_mk inf76 rfl
instance tz76 : TZero Tryz.prog 76 (.nilFunc) := tzero_mk inf76
instance und77 : TUnd Tryz.prog 77 (.func #[71] #[3] false) := ⟨Tryz.underlying77⟩
theorem inf77 : (Tryz.prog.info? 77).map (fun i => (i.zero, i.size, i.bytes)) = some (some (.nilFunc), 1, 8) := by kernel_rfl
instance ti77 : TInfo Tryz.prog 77 1 8 [.nilFunc] := tinfo_mk inf77 rfl
instance tz77 : TZero Tryz.prog 77 (.nilFunc) := tzero_mk inf77
instance und78 : TUnd Tryz.prog 78 (.func #[68] #[4] false) := ⟨Tryz.underlying78⟩
theorem inf78 : (Tryz.prog.info? 78).map (fun i => (i.zero, i.size, i.bytes)) = some (some (.nilFunc), 1, 8) := by kernel_rfl
instance ti78 : TInfo Tryz.prog 78 1 8 [.nilFunc] := tinfo_mk inf78 rfl
instance tz78 : TZero Tryz.prog 78 (.nilFunc) := tzero_mk inf78
instance und79 : TUnd Tryz.prog 79 (.array 7 3) := ⟨Tryz.underlying79⟩
theorem inf79 : (Tryz.prog.info? 79).map (fun i => (i.zero, i.size, i.bytes)) = some (some (.agg #[.int .i64 0, .int .i64 0, .int .i64 0, .int .i64 0, .int .i64 0, .int .i64 0, .int .i64 0]), 7, 56) := by kernel_rfl
instance ti79 : TInfo Tryz.prog 79 7 56 [.int .i64 0, .int .i64 0, .int .i64 0, .int .i64 0, .int .i64 0, .int .i64 0, .int .i64 0] := tinfo_mk inf79 rfl
instance tz79 : TZero Tryz.prog 79 (.agg #[.int .i64 0, .int .i64 0, .int .i64 0, .int .i64 0, .int .i64 0, .int .i64 0, .int .i64 0]) := tzero_mk inf79
instance und80 : TUnd Tryz.prog 80 (.slice 71) := ⟨Tryz.underlying80⟩
theorem inf80 : (Tryz.prog.info? 80).map (fun i => (i.zero, i.size, i.bytes)) = some (some (.slice none 0 0), 1, 24) := by kernel_rfl
instance ti80 : TInfo Tryz.prog 80 1 24 [.slice none 0 0] := tinfo_mk inf80 rfl
instance tz80 : TZero Tryz.prog 80 (.slice none 0 0) := tzero_mk inf80
instance und81 : TUnd Tryz.prog 81 (.map 3 4) := ⟨Tryz.underlying81⟩
theorem inf81 : (Tryz.prog.info? 81).map (fun i => (i.zero, i.size, i.bytes)) = some (some (.map none), 1, 8) := by kernel_rfl
instance ti81 : TInfo Tryz.prog 81 1 8 [.map none] := tinfo_mk inf81 rfl
instance tz81 : TZero Tryz.prog 81 (.map none) := tzero_mk inf81
instance und82 : TUnd Tryz.prog 82 (.func #[3, 32, 3] #[4] false) := ⟨Tryz.underlying82⟩
theorem inf82 : (Tryz.prog.info? 82).map (fun i => (i.zero, i.size, i.bytes)) = some (some (.nilFunc), 1, 8) := by kernel_rfl
instance ti82 : TInfo Tryz.prog 82 1 8 [.nilFunc] := tinfo_mk inf82 rfl
instance tz82 : TZero Tryz.prog 82 (.nilFunc) := tzero_mk inf82
instance und83 : TUnd Tryz.prog 83 (.func #[51] #[4] false) := ⟨Tryz.underlying83⟩
theorem inf83 : (Tryz.prog.info? 83).map (fun i => (i.zero, i.size, i.bytes)) = some (some (.nilFunc), 1, 8) := by kernel_rfl
instance ti83 : TInfo Tryz.prog 83 1 8 [.nilFunc] := tinfo_mk inf83 rfl
instance tz83 : TZero Tryz.prog 83 (.nilFunc) := tzero_mk inf83
instance und84 : TUnd Tryz.prog 84 (.pointer 89) := ⟨Tryz.underlying84⟩
theorem inf84 : (Tryz.prog.info? 84).map (fun i => (i.zero, i.size, i.bytes)) = some (some (.pointer none), 1, 8) := by kernel_rfl
instance ti84 : TInfo Tryz.prog 84 1 8 [.pointer none] := tinfo_mk inf84 rfl
instance tz84 : TZero Tryz.prog 84 (.pointer none) := tzero_mk inf84
instance und85 : TUnd Tryz.prog 85 (.tuple #[84, 54]) := ⟨Tryz.underlying85⟩
instance und86 : TUnd Tryz.prog 86 (.func #[51] #[84, 54] false) := ⟨Tryz.underlying86⟩
theorem inf86 : (Tryz.prog.info? 86).map (fun i => (i.zero, i.size, i.bytes)) = some (some (.nilFunc), 1, 8) := by kernel_rfl
instance ti86 : TInfo Tryz.prog 86 1 8 [.nilFunc] := tinfo_mk inf86 rfl
instance tz86 : TZero Tryz.prog 86 (.nilFunc) := tzero_mk inf86
instance und87 : TUnd Tryz.prog 87 (.pointer 103) := ⟨Tryz.underlying87⟩
theorem inf87 : (Tryz.prog.info? 87).map (fun i => (i.zero, i.size, i.bytes)) = some (some (.pointer none), 1, 8) := by kernel_rfl
instance ti87 : TInfo Tryz.prog 87 1 8 [.pointer none] := tinfo_mk inf87 rfl
instance tz87 : TZero Tryz.prog 87 (.pointer none) := tzero_mk inf87
instance und88 : TUnd Tryz.prog 88 (.struct #[⟨ "r", 26, 0, false, "", "conduit/conduitlaw18", 0⟩, ⟨ "c", 87, 1, false, "", "conduit/conduitlaw18", 8⟩, ⟨ "progs", 51, 2, false, "", "conduit/conduitlaw18", 16⟩, ⟨ "events", 59, 3, false, "", "conduit/conduitlaw18", 40⟩, ⟨ "bad", 4, 4, false, "", "conduit/conduitlaw18", 64⟩]) := ⟨Tryz.underlying88⟩
theorem inf88 : (Tryz.prog.info? 88).map (fun i => (i.zero, i.size, i.bytes)) = some (some (.agg #[.pointer none, .pointer none, .slice none 0 0, .slice none 0 0, .bool false]), 5, 72) := by kernel_rfl
instance ti88 : TInfo Tryz.prog 88 5 72 [.pointer none, .pointer none, .slice none 0 0, .slice none 0 0, .bool false] := tinfo_mk inf88 rfl
instance tz88 : TZero Tryz.prog 88 (.agg #[.pointer none, .pointer none, .slice none 0 0, .slice none 0 0, .bool false]) := tzero_mk inf88
instance tf88_0 : TField Tryz.prog 88 0 0 := tfield_mk Tryz.underlying88 rfl rfl (by kernel_rfl)
instance tp88_0 : TPart Tryz.prog 88 0 0 1 false := tpart_mk Tryz.underlying88 rfl rfl (by kernel_rfl) Tryz.underlying26 rfl
instance tf88_1 : TField Tryz.prog 88 1 1 := tfield_mk Tryz.underlying88 rfl rfl (by kernel_rfl)
instance tp88_1 : TPart Tryz.prog 88 1 1 1 false := tpart_mk Tryz.underlying88 rfl rfl (by kernel_rfl) Tryz.underlying87 rfl
instance tf88_2 : TField Tryz.prog 88 2 2 := tfield_mk Tryz.underlying88 rfl rfl (by kernel_rfl)
instance tp88_2 : TPart Tryz.prog 88 2 2 1 false := tpart_mk Tryz.underlying88 rfl rfl (by kernel_rfl) Tryz.underlying51 rfl
instance tf88_3 : TField Tryz.prog 88 3 3 := tfield_mk Tryz.underlying88 rfl rfl (by kernel_rfl)
instance tp88_3 : TPart Tryz.prog 88 3 3 1 false := tpart_mk Tryz.underlying88 rfl rfl (by kernel_rfl) Tryz.underlying59 rfl
instance tf88_4 : TField Tryz.prog 88 4 4 := tfield_mk Tryz.underlying88 rfl rfl (by kernel_rfl)
instance tp88_4 : TPart Tryz.prog 88 4 4 1 false := tpart_mk Tryz.underlying88 rfl rfl (by kernel_rfl) Tryz.underlying4 rfl
instance tpl88 : TPlaces Tryz.prog 88 [(0, 1), (1, 1), (2, 1), (3, 1), (4, 1)] := tplaces_mk Tryz.underlying88 (by kernel_rfl) (by kernel_rfl)
instance und89 : TUnd Tryz.prog 89 (.struct #[⟨ "r", 26, 0, false, "", "conduit/conduitlaw18", 0⟩, ⟨ "c", 87, 1, false, "", "conduit/conduitlaw18", 8⟩, ⟨ "progs", 51, 2, false, "", "conduit/conduitlaw18", 16⟩, ⟨ "events", 59, 3, false, "", "conduit/conduitlaw18", 40⟩, ⟨ "bad", 4, 4, false, "", "conduit/conduitlaw18", 64⟩]) := ⟨Tryz.underlying89⟩
theorem inf89 : (Tryz.prog.info? 89).map (fun i => (i.zero, i.size, i.bytes)) = some (some (.agg #[.pointer none, .pointer none, .slice none 0 0, .slice none 0 0, .bool false]), 5, 72) := by kernel_rfl
instance ti89 : TInfo Tryz.prog 89 5 72 [.pointer none, .pointer none, .slice none 0 0, .slice none 0 0, .bool false] := tinfo_mk inf89 rfl
instance tz89 : TZero Tryz.prog 89 (.agg #[.pointer none, .pointer none, .slice none 0 0, .slice none 0 0, .bool false]) := tzero_mk inf89
instance tf89_0 : TField Tryz.prog 89 0 0 := tfield_mk Tryz.underlying89 rfl rfl (by kernel_rfl)
instance tp89_0 : TPart Tryz.prog 89 0 0 1 false := tpart_mk Tryz.underlying89 rfl rfl (by kernel_rfl) Tryz.underlying26 rfl
instance tf89_1 : TField Tryz.prog 89 1 1 := tfield_mk Tryz.underlying89 rfl rfl (by kernel_rfl)
instance tp89_1 : TPart Tryz.prog 89 1 1 1 false := tpart_mk Tryz.underlying89 rfl rfl (by kernel_rfl) Tryz.underlying87 rfl
instance tf89_2 : TField Tryz.prog 89 2 2 := tfield_mk Tryz.underlying89 rfl rfl (by kernel_rfl)
instance tp89_2 : TPart Tryz.prog 89 2 2 1 false := tpart_mk Tryz.underlying89 rfl rfl (by kernel_rfl) Tryz.underlying51 rfl
instance tf89_3 : TField Tryz.prog 89 3 3 := tfield_mk Tryz.underlying89 rfl rfl (by kernel_rfl)
instance tp89_3 : TPart Tryz.prog 89 3 3 1 false := tpart_mk Tryz.underlying89 rfl rfl (by kernel_rfl) Tryz.underlying59 rfl
instance tf89_4 : TField Tryz.prog 89 4 4 := tfield_mk Tryz.underlying89 rfl rfl (by kernel_rfl)
instance tp89_4 : TPart Tryz.prog 89 4 4 1 false := tpart_mk Tryz.underlying89 rfl rfl (by kernel_rfl) Tryz.underlying4 rfl
instance tpl89 : TPlaces Tryz.prog 89 [(0, 1), (1, 1), (2, 1), (3, 1), (4, 1)] := tplaces_mk Tryz.underlying89 (by kernel_rfl) (by kernel_rfl)
instance und90 : TUnd Tryz.prog 90 (.func #[32, 32] #[4] false) := ⟨Tryz.underlying90⟩
theorem inf90 : (Tryz.prog.info? 90).map (fun i => (i.zero, i.size, i.bytes)) = some (some (.nilFunc), 1, 8) := by kernel_rfl
instance ti90 : TInfo Tryz.prog 90 1 8 [.nilFunc] := tinfo_mk inf90 rfl
instance tz90 : TZero Tryz.prog 90 (.nilFunc) := tzero_mk inf90
instance und91 : TUnd Tryz.prog 91 (.func #[] #[32] false) := ⟨Tryz.underlying91⟩
theorem inf91 : (Tryz.prog.info? 91).map (fun i => (i.zero, i.size, i.bytes)) = some (some (.nilFunc), 1, 8) := by kernel_rfl
instance ti91 : TInfo Tryz.prog 91 1 8 [.nilFunc] := tinfo_mk inf91 rfl
instance tz91 : TZero Tryz.prog 91 (.nilFunc) := tzero_mk inf91
instance und92 : TUnd Tryz.prog 92 (.slice 125) := ⟨Tryz.underlying92⟩
theorem inf92 : (Tryz.prog.info? 92).map (fun i => (i.zero, i.size, i.bytes)) = some (some (.slice none 0 0), 1, 24) := by kernel_rfl
instance ti92 : TInfo Tryz.prog 92 1 24 [.slice none 0 0] := tinfo_mk inf92 rfl
instance tz92 : TZero Tryz.prog 92 (.slice none 0 0) := tzero_mk inf92
instance und93 : TUnd Tryz.prog 93 (.slice 171) := ⟨Tryz.underlying93⟩
theorem inf93 : (Tryz.prog.info? 93).map (fun i => (i.zero, i.size, i.bytes)) = some (some (.slice none 0 0), 1, 24) := by kernel_rfl
instance ti93 : TInfo Tryz.prog 93 1 24 [.slice none 0 0] := tinfo_mk inf93 rfl
instance tz93 : TZero Tryz.prog 93 (.slice none 0 0) := tzero_mk inf93
instance und94 : TUnd Tryz.prog 94 (.slice 4) := ⟨Tryz.underlying94⟩
theorem inf94 : (Tryz.prog.info? 94).map (fun i => (i.zero, i.size, i.bytes)) = some (some (.slice none 0 0), 1, 24) := by kernel_rfl
instance ti94 : TInfo Tryz.prog 94 1 24 [.slice none 0 0] := tinfo_mk inf94 rfl
instance tz94 : TZero Tryz.prog 94 (.slice none 0 0) := tzero_mk inf94
instance und95 : TUnd Tryz.prog 95 (.slice 195) := ⟨Tryz.underlying95⟩
theorem inf95 : (Tryz.prog.info? 95).map (fun i => (i.zero, i.size, i.bytes)) = some (some (.slice none 0 0), 1, 24) := by kernel_rfl
instance ti95 : TInfo Tryz.prog 95 1 24 [.slice none 0 0] := tinfo_mk inf95 rfl
instance tz95 : TZero Tryz.prog 95 (.slice none 0 0) := tzero_mk inf95
instance und96 : TUnd Tryz.prog 96 (.struct #[⟨ "Progs", 51, 0, false, "", "", 0⟩, ⟨ "Chans", 92, 1, false, "", "", 24⟩, ⟨ "at", 32, 2, false, "", "conduit/conduitref16", 48⟩, ⟨ "told", 93, 3, false, "", "conduit/conduitref16", 72⟩, ⟨ "Over", 94, 4, false, "", "", 96⟩, ⟨ "Line", 32, 5, false, "", "", 120⟩, ⟨ "Events", 59, 6, false, "", "", 144⟩, ⟨ "fired", 94, 7, false, "", "conduit/conduitref16", 168⟩, ⟨ "Now", 2, 8, false, "", "", 192⟩, ⟨ "timers", 95, 9, false, "", "conduit/conduitref16", 200⟩, ⟨ "made", 3, 10, false, "", "conduit/conduitref16", 224⟩, ⟨ "rest", 43, 11, false, "", "conduit/conduitref16", 232⟩]) := ⟨Tryz.underlying96⟩
theorem inf96 : (Tryz.prog.info? 96).map (fun i => (i.zero, i.size, i.bytes)) = some (some (.agg #[.slice none 0 0, .slice none 0 0, .slice none 0 0, .slice none 0 0, .slice none 0 0, .slice none 0 0, .slice none 0 0, .slice none 0 0, .int .i64 0, .slice none 0 0, .int .i64 0, .int .u64 0]), 12, 240) := by kernel_rfl
instance ti96 : TInfo Tryz.prog 96 12 240 [.slice none 0 0, .slice none 0 0, .slice none 0 0, .slice none 0 0, .slice none 0 0, .slice none 0 0, .slice none 0 0, .slice none 0 0, .int .i64 0, .slice none 0 0, .int .i64 0, .int .u64 0] := tinfo_mk inf96 rfl
instance tz96 : TZero Tryz.prog 96 (.agg #[.slice none 0 0, .slice none 0 0, .slice none 0 0, .slice none 0 0, .slice none 0 0, .slice none 0 0, .slice none 0 0, .slice none 0 0, .int .i64 0, .slice none 0 0, .int .i64 0, .int .u64 0]) := tzero_mk inf96
instance tf96_0 : TField Tryz.prog 96 0 0 := tfield_mk Tryz.underlying96 rfl rfl (by kernel_rfl)
instance tp96_0 : TPart Tryz.prog 96 0 0 1 false := tpart_mk Tryz.underlying96 rfl rfl (by kernel_rfl) Tryz.underlying51 rfl
instance tf96_1 : TField Tryz.prog 96 1 1 := tfield_mk Tryz.underlying96 rfl rfl (by kernel_rfl)
instance tp96_1 : TPart Tryz.prog 96 1 1 1 false := tpart_mk Tryz.underlying96 rfl rfl (by kernel_rfl) Tryz.underlying92 rfl
instance tf96_2 : TField Tryz.prog 96 2 2 := tfield_mk Tryz.underlying96 rfl rfl (by kernel_rfl)
instance tp96_2 : TPart Tryz.prog 96 2 2 1 false := tpart_mk Tryz.underlying96 rfl rfl (by kernel_rfl) Tryz.underlying32 rfl
instance tf96_3 : TField Tryz.prog 96 3 3 := tfield_mk Tryz.underlying96 rfl rfl (by kernel_rfl)
instance tp96_3 : TPart Tryz.prog 96 3 3 1 false := tpart_mk Tryz.underlying96 rfl rfl (by kernel_rfl) Tryz.underlying93 rfl
instance tf96_4 : TField Tryz.prog 96 4 4 := tfield_mk Tryz.underlying96 rfl rfl (by kernel_rfl)
instance tp96_4 : TPart Tryz.prog 96 4 4 1 false := tpart_mk Tryz.underlying96 rfl rfl (by kernel_rfl) Tryz.underlying94 rfl
instance tf96_5 : TField Tryz.prog 96 5 5 := tfield_mk Tryz.underlying96 rfl rfl (by kernel_rfl)
instance tp96_5 : TPart Tryz.prog 96 5 5 1 false := tpart_mk Tryz.underlying96 rfl rfl (by kernel_rfl) Tryz.underlying32 rfl
instance tf96_6 : TField Tryz.prog 96 6 6 := tfield_mk Tryz.underlying96 rfl rfl (by kernel_rfl)
instance tp96_6 : TPart Tryz.prog 96 6 6 1 false := tpart_mk Tryz.underlying96 rfl rfl (by kernel_rfl) Tryz.underlying59 rfl
instance tf96_7 : TField Tryz.prog 96 7 7 := tfield_mk Tryz.underlying96 rfl rfl (by kernel_rfl)
instance tp96_7 : TPart Tryz.prog 96 7 7 1 false := tpart_mk Tryz.underlying96 rfl rfl (by kernel_rfl) Tryz.underlying94 rfl
instance tf96_8 : TField Tryz.prog 96 8 8 := tfield_mk Tryz.underlying96 rfl rfl (by kernel_rfl)
instance tp96_8 : TPart Tryz.prog 96 8 8 1 false := tpart_mk Tryz.underlying96 rfl rfl (by kernel_rfl) Tryz.underlying2 rfl
instance tf96_9 : TField Tryz.prog 96 9 9 := tfield_mk Tryz.underlying96 rfl rfl (by kernel_rfl)
instance tp96_9 : TPart Tryz.prog 96 9 9 1 false := tpart_mk Tryz.underlying96 rfl rfl (by kernel_rfl) Tryz.underlying95 rfl
instance tf96_10 : TField Tryz.prog 96 10 10 := tfield_mk Tryz.underlying96 rfl rfl (by kernel_rfl)
instance tp96_10 : TPart Tryz.prog 96 10 10 1 false := tpart_mk Tryz.underlying96 rfl rfl (by kernel_rfl) Tryz.underlying3 rfl
instance tf96_11 : TField Tryz.prog 96 11 11 := tfield_mk Tryz.underlying96 rfl rfl (by kernel_rfl)
instance tp96_11 : TPart Tryz.prog 96 11 11 1 false := tpart_mk Tryz.underlying96 rfl rfl (by kernel_rfl) Tryz.underlying43 rfl
instance tpl96 : TPlaces Tryz.prog 96 [(0, 1), (1, 1), (2, 1), (3, 1), (4, 1), (5, 1), (6, 1), (7, 1), (8, 1), (9, 1), (10, 1), (11, 1)] := tplaces_mk Tryz.underlying96 (by kernel_rfl) (by kernel_rfl)
instance und97 : TUnd Tryz.prog 97 (.struct #[⟨ "Progs", 51, 0, false, "", "", 0⟩, ⟨ "Chans", 92, 1, false, "", "", 24⟩, ⟨ "at", 32, 2, false, "", "conduit/conduitref16", 48⟩, ⟨ "told", 93, 3, false, "", "conduit/conduitref16", 72⟩, ⟨ "Over", 94, 4, false, "", "", 96⟩, ⟨ "Line", 32, 5, false, "", "", 120⟩, ⟨ "Events", 59, 6, false, "", "", 144⟩, ⟨ "fired", 94, 7, false, "", "conduit/conduitref16", 168⟩, ⟨ "Now", 2, 8, false, "", "", 192⟩, ⟨ "timers", 95, 9, false, "", "conduit/conduitref16", 200⟩, ⟨ "made", 3, 10, false, "", "conduit/conduitref16", 224⟩, ⟨ "rest", 43, 11, false, "", "conduit/conduitref16", 232⟩]) := ⟨Tryz.underlying97⟩
theorem inf97 : (Tryz.prog.info? 97).map (fun i => (i.zero, i.size, i.bytes)) = some (some (.agg #[.slice none 0 0, .slice none 0 0, .slice none 0 0, .slice none 0 0, .slice none 0 0, .slice none 0 0, .slice none 0 0, .slice none 0 0, .int .i64 0, .slice none 0 0, .int .i64 0, .int .u64 0]), 12, 240) := by kernel_rfl
instance ti97 : TInfo Tryz.prog 97 12 240 [.slice none 0 0, .slice none 0 0, .slice none 0 0, .slice none 0 0, .slice none 0 0, .slice none 0 0, .slice none 0 0, .slice none 0 0, .int .i64 0, .slice none 0 0, .int .i64 0, .int .u64 0] := tinfo_mk inf97 rfl
instance tz97 : TZero Tryz.prog 97 (.agg #[.slice none 0 0, .slice none 0 0, .slice none 0 0, .slice none 0 0, .slice none 0 0, .slice none 0 0, .slice none 0 0, .slice none 0 0, .int .i64 0, .slice none 0 0, .int .i64 0, .int .u64 0]) := tzero_mk inf97
instance tf97_0 : TField Tryz.prog 97 0 0 := tfield_mk Tryz.underlying97 rfl rfl (by kernel_rfl)
instance tp97_0 : TPart Tryz.prog 97 0 0 1 false := tpart_mk Tryz.underlying97 rfl rfl (by kernel_rfl) Tryz.underlying51 rfl
instance tf97_1 : TField Tryz.prog 97 1 1 := tfield_mk Tryz.underlying97 rfl rfl (by kernel_rfl)
instance tp97_1 : TPart Tryz.prog 97 1 1 1 false := tpart_mk Tryz.underlying97 rfl rfl (by kernel_rfl) Tryz.underlying92 rfl
instance tf97_2 : TField Tryz.prog 97 2 2 := tfield_mk Tryz.underlying97 rfl rfl (by kernel_rfl)
instance tp97_2 : TPart Tryz.prog 97 2 2 1 false := tpart_mk Tryz.underlying97 rfl rfl (by kernel_rfl) Tryz.underlying32 rfl
instance tf97_3 : TField Tryz.prog 97 3 3 := tfield_mk Tryz.underlying97 rfl rfl (by kernel_rfl)
instance tp97_3 : TPart Tryz.prog 97 3 3 1 false := tpart_mk Tryz.underlying97 rfl rfl (by kernel_rfl) Tryz.underlying93 rfl
instance tf97_4 : TField Tryz.prog 97 4 4 := tfield_mk Tryz.underlying97 rfl rfl (by kernel_rfl)
instance tp97_4 : TPart Tryz.prog 97 4 4 1 false := tpart_mk Tryz.underlying97 rfl rfl (by kernel_rfl) Tryz.underlying94 rfl
instance tf97_5 : TField Tryz.prog 97 5 5 := tfield_mk Tryz.underlying97 rfl rfl (by kernel_rfl)
instance tp97_5 : TPart Tryz.prog 97 5 5 1 false := tpart_mk Tryz.underlying97 rfl rfl (by kernel_rfl) Tryz.underlying32 rfl
instance tf97_6 : TField Tryz.prog 97 6 6 := tfield_mk Tryz.underlying97 rfl rfl (by kernel_rfl)
instance tp97_6 : TPart Tryz.prog 97 6 6 1 false := tpart_mk Tryz.underlying97 rfl rfl (by kernel_rfl) Tryz.underlying59 rfl
instance tf97_7 : TField Tryz.prog 97 7 7 := tfield_mk Tryz.underlying97 rfl rfl (by kernel_rfl)
instance tp97_7 : TPart Tryz.prog 97 7 7 1 false := tpart_mk Tryz.underlying97 rfl rfl (by kernel_rfl) Tryz.underlying94 rfl
instance tf97_8 : TField Tryz.prog 97 8 8 := tfield_mk Tryz.underlying97 rfl rfl (by kernel_rfl)
instance tp97_8 : TPart Tryz.prog 97 8 8 1 false := tpart_mk Tryz.underlying97 rfl rfl (by kernel_rfl) Tryz.underlying2 rfl
instance tf97_9 : TField Tryz.prog 97 9 9 := tfield_mk Tryz.underlying97 rfl rfl (by kernel_rfl)
instance tp97_9 : TPart Tryz.prog 97 9 9 1 false := tpart_mk Tryz.underlying97 rfl rfl (by kernel_rfl) Tryz.underlying95 rfl
instance tf97_10 : TField Tryz.prog 97 10 10 := tfield_mk Tryz.underlying97 rfl rfl (by kernel_rfl)
instance tp97_10 : TPart Tryz.prog 97 10 10 1 false := tpart_mk Tryz.underlying97 rfl rfl (by kernel_rfl) Tryz.underlying3 rfl
instance tf97_11 : TField Tryz.prog 97 11 11 := tfield_mk Tryz.underlying97 rfl rfl (by kernel_rfl)
instance tp97_11 : TPart Tryz.prog 97 11 11 1 false := tpart_mk Tryz.underlying97 rfl rfl (by kernel_rfl) Tryz.underlying43 rfl
instance tpl97 : TPlaces Tryz.prog 97 [(0, 1), (1, 1), (2, 1), (3, 1), (4, 1), (5, 1), (6, 1), (7, 1), (8, 1), (9, 1), (10, 1), (11, 1)] := tplaces_mk Tryz.underlying97 (by kernel_rfl) (by kernel_rfl)
instance und98 : TUnd Tryz.prog 98 (.func #[] #[2] false) := ⟨Tryz.underlying98⟩
theorem inf98 : (Tryz.prog.info? 98).map (fun i => (i.zero, i.size, i.bytes)) = some (some (.nilFunc), 1, 8) := by kernel_rfl
instance ti98 : TInfo Tryz.prog 98 1 8 [.nilFunc] := tinfo_mk inf98 rfl
instance tz98 : TZero Tryz.prog 98 (.nilFunc) := tzero_mk inf98
instance und99 : TUnd Tryz.prog 99 (.struct #[⟨ "Task", 3, 0, false, "", "", 0⟩, ⟨ "At", 3, 1, false, "", "", 8⟩, ⟨ "Case", 3, 2, false, "", "", 16⟩, ⟨ "V", 3, 3, false, "", "", 24⟩, ⟨ "Ok", 4, 4, false, "", "", 32⟩]) := ⟨Tryz.underlying99⟩
theorem inf99 : (Tryz.prog.info? 99).map (fun i => (i.zero, i.size, i.bytes)) = some (some (.agg #[.int .i64 0, .int .i64 0, .int .i64 0, .int .i64 0, .bool false]), 5, 40) := by kernel_rfl
instance ti99 : TInfo Tryz.prog 99 5 40 [.int .i64 0, .int .i64 0, .int .i64 0, .int .i64 0, .bool false] := tinfo_mk inf99 rfl
instance tz99 : TZero Tryz.prog 99 (.agg #[.int .i64 0, .int .i64 0, .int .i64 0, .int .i64 0, .bool false]) := tzero_mk inf99
instance tf99_0 : TField Tryz.prog 99 0 0 := tfield_mk Tryz.underlying99 rfl rfl (by kernel_rfl)
instance tp99_0 : TPart Tryz.prog 99 0 0 1 false := tpart_mk Tryz.underlying99 rfl rfl (by kernel_rfl) Tryz.underlying3 rfl
instance tf99_1 : TField Tryz.prog 99 1 1 := tfield_mk Tryz.underlying99 rfl rfl (by kernel_rfl)
instance tp99_1 : TPart Tryz.prog 99 1 1 1 false := tpart_mk Tryz.underlying99 rfl rfl (by kernel_rfl) Tryz.underlying3 rfl
instance tf99_2 : TField Tryz.prog 99 2 2 := tfield_mk Tryz.underlying99 rfl rfl (by kernel_rfl)
instance tp99_2 : TPart Tryz.prog 99 2 2 1 false := tpart_mk Tryz.underlying99 rfl rfl (by kernel_rfl) Tryz.underlying3 rfl
instance tf99_3 : TField Tryz.prog 99 3 3 := tfield_mk Tryz.underlying99 rfl rfl (by kernel_rfl)
instance tp99_3 : TPart Tryz.prog 99 3 3 1 false := tpart_mk Tryz.underlying99 rfl rfl (by kernel_rfl) Tryz.underlying3 rfl
instance tf99_4 : TField Tryz.prog 99 4 4 := tfield_mk Tryz.underlying99 rfl rfl (by kernel_rfl)
instance tp99_4 : TPart Tryz.prog 99 4 4 1 false := tpart_mk Tryz.underlying99 rfl rfl (by kernel_rfl) Tryz.underlying4 rfl
instance tpl99 : TPlaces Tryz.prog 99 [(0, 1), (1, 1), (2, 1), (3, 1), (4, 1)] := tplaces_mk Tryz.underlying99 (by kernel_rfl) (by kernel_rfl)
instance und100 : TUnd Tryz.prog 100 (.struct #[⟨ "Task", 3, 0, false, "", "", 0⟩, ⟨ "At", 3, 1, false, "", "", 8⟩, ⟨ "Case", 3, 2, false, "", "", 16⟩, ⟨ "V", 3, 3, false, "", "", 24⟩, ⟨ "Ok", 4, 4, false, "", "", 32⟩]) := ⟨Tryz.underlying100⟩
theorem inf100 : (Tryz.prog.info? 100).map (fun i => (i.zero, i.size, i.bytes)) = some (some (.agg #[.int .i64 0, .int .i64 0, .int .i64 0, .int .i64 0, .bool false]), 5, 40) := by kernel_rfl
instance ti100 : TInfo Tryz.prog 100 5 40 [.int .i64 0, .int .i64 0, .int .i64 0, .int .i64 0, .bool false] := tinfo_mk inf100 rfl
instance tz100 : TZero Tryz.prog 100 (.agg #[.int .i64 0, .int .i64 0, .int .i64 0, .int .i64 0, .bool false]) := tzero_mk inf100
instance tf100_0 : TField Tryz.prog 100 0 0 := tfield_mk Tryz.underlying100 rfl rfl (by kernel_rfl)
instance tp100_0 : TPart Tryz.prog 100 0 0 1 false := tpart_mk Tryz.underlying100 rfl rfl (by kernel_rfl) Tryz.underlying3 rfl
instance tf100_1 : TField Tryz.prog 100 1 1 := tfield_mk Tryz.underlying100 rfl rfl (by kernel_rfl)
instance tp100_1 : TPart Tryz.prog 100 1 1 1 false := tpart_mk Tryz.underlying100 rfl rfl (by kernel_rfl) Tryz.underlying3 rfl
instance tf100_2 : TField Tryz.prog 100 2 2 := tfield_mk Tryz.underlying100 rfl rfl (by kernel_rfl)
instance tp100_2 : TPart Tryz.prog 100 2 2 1 false := tpart_mk Tryz.underlying100 rfl rfl (by kernel_rfl) Tryz.underlying3 rfl
instance tf100_3 : TField Tryz.prog 100 3 3 := tfield_mk Tryz.underlying100 rfl rfl (by kernel_rfl)
instance tp100_3 : TPart Tryz.prog 100 3 3 1 false := tpart_mk Tryz.underlying100 rfl rfl (by kernel_rfl) Tryz.underlying3 rfl
instance tf100_4 : TField Tryz.prog 100 4 4 := tfield_mk Tryz.underlying100 rfl rfl (by kernel_rfl)
instance tp100_4 : TPart Tryz.prog 100 4 4 1 false := tpart_mk Tryz.underlying100 rfl rfl (by kernel_rfl) Tryz.underlying4 rfl
instance tpl100 : TPlaces Tryz.prog 100 [(0, 1), (1, 1), (2, 1), (3, 1), (4, 1)] := tplaces_mk Tryz.underlying100 (by kernel_rfl) (by kernel_rfl)
instance und101 : TUnd Tryz.prog 101 (.slice 192) := ⟨Tryz.underlying101⟩
theorem inf101 : (Tryz.prog.info? 101).map (fun i => (i.zero, i.size, i.bytes)) = some (some (.slice none 0 0), 1, 24) := by kernel_rfl
instance ti101 : TInfo Tryz.prog 101 1 24 [.slice none 0 0] := tinfo_mk inf101 rfl
instance tz101 : TZero Tryz.prog 101 (.slice none 0 0) := tzero_mk inf101
instance und102 : TUnd Tryz.prog 102 (.struct #[⟨ "r", 26, 0, false, "", "conduit/timer", 0⟩, ⟨ "now", 2, 1, false, "", "conduit/timer", 8⟩, ⟨ "made", 3, 2, false, "", "conduit/timer", 16⟩, ⟨ "wait", 101, 3, false, "", "conduit/timer", 24⟩]) := ⟨Tryz.underlying102⟩
theorem inf102 : (Tryz.prog.info? 102).map (fun i => (i.zero, i.size, i.bytes)) = some (some (.agg #[.pointer none, .int .i64 0, .int .i64 0, .slice none 0 0]), 4, 48) := by kernel_rfl
instance ti102 : TInfo Tryz.prog 102 4 48 [.pointer none, .int .i64 0, .int .i64 0, .slice none 0 0] := tinfo_mk inf102 rfl
instance tz102 : TZero Tryz.prog 102 (.agg #[.pointer none, .int .i64 0, .int .i64 0, .slice none 0 0]) := tzero_mk inf102
instance tf102_0 : TField Tryz.prog 102 0 0 := tfield_mk Tryz.underlying102 rfl rfl (by kernel_rfl)
instance tp102_0 : TPart Tryz.prog 102 0 0 1 false := tpart_mk Tryz.underlying102 rfl rfl (by kernel_rfl) Tryz.underlying26 rfl
instance tf102_1 : TField Tryz.prog 102 1 1 := tfield_mk Tryz.underlying102 rfl rfl (by kernel_rfl)
instance tp102_1 : TPart Tryz.prog 102 1 1 1 false := tpart_mk Tryz.underlying102 rfl rfl (by kernel_rfl) Tryz.underlying2 rfl
instance tf102_2 : TField Tryz.prog 102 2 2 := tfield_mk Tryz.underlying102 rfl rfl (by kernel_rfl)
instance tp102_2 : TPart Tryz.prog 102 2 2 1 false := tpart_mk Tryz.underlying102 rfl rfl (by kernel_rfl) Tryz.underlying3 rfl
instance tf102_3 : TField Tryz.prog 102 3 3 := tfield_mk Tryz.underlying102 rfl rfl (by kernel_rfl)
instance tp102_3 : TPart Tryz.prog 102 3 3 1 false := tpart_mk Tryz.underlying102 rfl rfl (by kernel_rfl) Tryz.underlying101 rfl
instance tpl102 : TPlaces Tryz.prog 102 [(0, 1), (1, 1), (2, 1), (3, 1)] := tplaces_mk Tryz.underlying102 (by kernel_rfl) (by kernel_rfl)
instance und103 : TUnd Tryz.prog 103 (.struct #[⟨ "r", 26, 0, false, "", "conduit/timer", 0⟩, ⟨ "now", 2, 1, false, "", "conduit/timer", 8⟩, ⟨ "made", 3, 2, false, "", "conduit/timer", 16⟩, ⟨ "wait", 101, 3, false, "", "conduit/timer", 24⟩]) := ⟨Tryz.underlying103⟩
theorem inf103 : (Tryz.prog.info? 103).map (fun i => (i.zero, i.size, i.bytes)) = some (some (.agg #[.pointer none, .int .i64 0, .int .i64 0, .slice none 0 0]), 4, 48) := by kernel_rfl
instance ti103 : TInfo Tryz.prog 103 4 48 [.pointer none, .int .i64 0, .int .i64 0, .slice none 0 0] := tinfo_mk inf103 rfl
instance tz103 : TZero Tryz.prog 103 (.agg #[.pointer none, .int .i64 0, .int .i64 0, .slice none 0 0]) := tzero_mk inf103
instance tf103_0 : TField Tryz.prog 103 0 0 := tfield_mk Tryz.underlying103 rfl rfl (by kernel_rfl)
instance tp103_0 : TPart Tryz.prog 103 0 0 1 false := tpart_mk Tryz.underlying103 rfl rfl (by kernel_rfl) Tryz.underlying26 rfl
instance tf103_1 : TField Tryz.prog 103 1 1 := tfield_mk Tryz.underlying103 rfl rfl (by kernel_rfl)
instance tp103_1 : TPart Tryz.prog 103 1 1 1 false := tpart_mk Tryz.underlying103 rfl rfl (by kernel_rfl) Tryz.underlying2 rfl
instance tf103_2 : TField Tryz.prog 103 2 2 := tfield_mk Tryz.underlying103 rfl rfl (by kernel_rfl)
instance tp103_2 : TPart Tryz.prog 103 2 2 1 false := tpart_mk Tryz.underlying103 rfl rfl (by kernel_rfl) Tryz.underlying3 rfl
instance tf103_3 : TField Tryz.prog 103 3 3 := tfield_mk Tryz.underlying103 rfl rfl (by kernel_rfl)
instance tp103_3 : TPart Tryz.prog 103 3 3 1 false := tpart_mk Tryz.underlying103 rfl rfl (by kernel_rfl) Tryz.underlying101 rfl
instance tpl103 : TPlaces Tryz.prog 103 [(0, 1), (1, 1), (2, 1), (3, 1)] := tplaces_mk Tryz.underlying103 (by kernel_rfl) (by kernel_rfl)
instance und104 : TUnd Tryz.prog 104 (.tuple #[87, 29]) := ⟨Tryz.underlying104⟩
instance und105 : TUnd Tryz.prog 105 (.func #[26] #[87, 29] false) := ⟨Tryz.underlying105⟩
theorem inf105 : (Tryz.prog.info? 105).map (fun i => (i.zero, i.size, i.bytes)) = some (some (.nilFunc), 1, 8) := by kernel_rfl
instance ti105 : TInfo Tryz.prog 105 1 8 [.nilFunc] := tinfo_mk inf105 rfl
instance tz105 : TZero Tryz.prog 105 (.nilFunc) := tzero_mk inf105
instance und106 : TUnd Tryz.prog 106 (.pointer 220) := ⟨Tryz.underlying106⟩
theorem inf106 : (Tryz.prog.info? 106).map (fun i => (i.zero, i.size, i.bytes)) = some (some (.pointer none), 1, 8) := by kernel_rfl
instance ti106 : TInfo Tryz.prog 106 1 8 [.pointer none] := tinfo_mk inf106 rfl
instance tz106 : TZero Tryz.prog 106 (.pointer none) := tzero_mk inf106
instance und107 : TUnd Tryz.prog 107 (.struct #[⟨ "ready", 106, 0, false, "", "conduit/csp", 0⟩, ⟨ "tasks", 58, 1, false, "", "conduit/csp", 8⟩, ⟨ "now", 34, 2, false, "", "conduit/csp", 32⟩, ⟨ "rest", 43, 3, false, "", "conduit/csp", 40⟩]) := ⟨Tryz.underlying107⟩
theorem inf107 : (Tryz.prog.info? 107).map (fun i => (i.zero, i.size, i.bytes)) = some (some (.agg #[.pointer none, .slice none 0 0, .pointer none, .int .u64 0]), 4, 48) := by kernel_rfl
instance ti107 : TInfo Tryz.prog 107 4 48 [.pointer none, .slice none 0 0, .pointer none, .int .u64 0] := tinfo_mk inf107 rfl
instance tz107 : TZero Tryz.prog 107 (.agg #[.pointer none, .slice none 0 0, .pointer none, .int .u64 0]) := tzero_mk inf107
instance tf107_0 : TField Tryz.prog 107 0 0 := tfield_mk Tryz.underlying107 rfl rfl (by kernel_rfl)
instance tp107_0 : TPart Tryz.prog 107 0 0 1 false := tpart_mk Tryz.underlying107 rfl rfl (by kernel_rfl) Tryz.underlying106 rfl
instance tf107_1 : TField Tryz.prog 107 1 1 := tfield_mk Tryz.underlying107 rfl rfl (by kernel_rfl)
instance tp107_1 : TPart Tryz.prog 107 1 1 1 false := tpart_mk Tryz.underlying107 rfl rfl (by kernel_rfl) Tryz.underlying58 rfl
instance tf107_2 : TField Tryz.prog 107 2 2 := tfield_mk Tryz.underlying107 rfl rfl (by kernel_rfl)
instance tp107_2 : TPart Tryz.prog 107 2 2 1 false := tpart_mk Tryz.underlying107 rfl rfl (by kernel_rfl) Tryz.underlying34 rfl
instance tf107_3 : TField Tryz.prog 107 3 3 := tfield_mk Tryz.underlying107 rfl rfl (by kernel_rfl)
instance tp107_3 : TPart Tryz.prog 107 3 3 1 false := tpart_mk Tryz.underlying107 rfl rfl (by kernel_rfl) Tryz.underlying43 rfl
instance tpl107 : TPlaces Tryz.prog 107 [(0, 1), (1, 1), (2, 1), (3, 1)] := tplaces_mk Tryz.underlying107 (by kernel_rfl) (by kernel_rfl)
instance und108 : TUnd Tryz.prog 108 (.struct #[⟨ "ready", 106, 0, false, "", "conduit/csp", 0⟩, ⟨ "tasks", 58, 1, false, "", "conduit/csp", 8⟩, ⟨ "now", 34, 2, false, "", "conduit/csp", 32⟩, ⟨ "rest", 43, 3, false, "", "conduit/csp", 40⟩]) := ⟨Tryz.underlying108⟩
theorem inf108 : (Tryz.prog.info? 108).map (fun i => (i.zero, i.size, i.bytes)) = some (some (.agg #[.pointer none, .slice none 0 0, .pointer none, .int .u64 0]), 4, 48) := by kernel_rfl
instance ti108 : TInfo Tryz.prog 108 4 48 [.pointer none, .slice none 0 0, .pointer none, .int .u64 0] := tinfo_mk inf108 rfl
instance tz108 : TZero Tryz.prog 108 (.agg #[.pointer none, .slice none 0 0, .pointer none, .int .u64 0]) := tzero_mk inf108
instance tf108_0 : TField Tryz.prog 108 0 0 := tfield_mk Tryz.underlying108 rfl rfl (by kernel_rfl)
instance tp108_0 : TPart Tryz.prog 108 0 0 1 false := tpart_mk Tryz.underlying108 rfl rfl (by kernel_rfl) Tryz.underlying106 rfl
instance tf108_1 : TField Tryz.prog 108 1 1 := tfield_mk Tryz.underlying108 rfl rfl (by kernel_rfl)
instance tp108_1 : TPart Tryz.prog 108 1 1 1 false := tpart_mk Tryz.underlying108 rfl rfl (by kernel_rfl) Tryz.underlying58 rfl
instance tf108_2 : TField Tryz.prog 108 2 2 := tfield_mk Tryz.underlying108 rfl rfl (by kernel_rfl)
instance tp108_2 : TPart Tryz.prog 108 2 2 1 false := tpart_mk Tryz.underlying108 rfl rfl (by kernel_rfl) Tryz.underlying34 rfl
instance tf108_3 : TField Tryz.prog 108 3 3 := tfield_mk Tryz.underlying108 rfl rfl (by kernel_rfl)
instance tp108_3 : TPart Tryz.prog 108 3 3 1 false := tpart_mk Tryz.underlying108 rfl rfl (by kernel_rfl) Tryz.underlying43 rfl
instance tpl108 : TPlaces Tryz.prog 108 [(0, 1), (1, 1), (2, 1), (3, 1)] := tplaces_mk Tryz.underlying108 (by kernel_rfl) (by kernel_rfl)
instance und109 : TUnd Tryz.prog 109 (.func #[2, 4] #[] false) := ⟨Tryz.underlying109⟩
theorem inf109 : (Tryz.prog.info? 109).map (fun i => (i.zero, i.size, i.bytes)) = some (some (.nilFunc), 1, 8) := by kernel_rfl
instance ti109 : TInfo Tryz.prog 109 1 8 [.nilFunc] := tinfo_mk inf109 rfl
instance tz109 : TZero Tryz.prog 109 (.nilFunc) := tzero_mk inf109
instance und110 : TUnd Tryz.prog 110 (.slice 29) := ⟨Tryz.underlying110⟩
theorem inf110 : (Tryz.prog.info? 110).map (fun i => (i.zero, i.size, i.bytes)) = some (some (.slice none 0 0), 1, 24) := by kernel_rfl
instance ti110 : TInfo Tryz.prog 110 1 24 [.slice none 0 0] := tinfo_mk inf110 rfl
instance tz110 : TZero Tryz.prog 110 (.slice none 0 0) := tzero_mk inf110
instance und111 : TUnd Tryz.prog 111 (.tuple #[3, 29]) := ⟨Tryz.underlying111⟩
instance und112 : TUnd Tryz.prog 112 (.func #[34, 2, 109] #[3, 29] false) := ⟨Tryz.underlying112⟩
theorem inf112 : (Tryz.prog.info? 112).map (fun i => (i.zero, i.size, i.bytes)) = some (some (.nilFunc), 1, 8) := by kernel_rfl
instance ti112 : TInfo Tryz.prog 112 1 8 [.nilFunc] := tinfo_mk inf112 rfl
instance tz112 : TZero Tryz.prog 112 (.nilFunc) := tzero_mk inf112
instance und113 : TUnd Tryz.prog 113 (.pointer 212) := ⟨Tryz.underlying113⟩
theorem inf113 : (Tryz.prog.info? 113).map (fun i => (i.zero, i.size, i.bytes)) = some (some (.pointer none), 1, 8) := by kernel_rfl
instance ti113 : TInfo Tryz.prog 113 1 8 [.pointer none] := tinfo_mk inf113 rfl
instance tz113 : TZero Tryz.prog 113 (.pointer none) := tzero_mk inf113
instance und114 : TUnd Tryz.prog 114 (.tuple #[113, 3, 29]) := ⟨Tryz.underlying114⟩
instance und115 : TUnd Tryz.prog 115 (.func #[2] #[113, 3, 29] false) := ⟨Tryz.underlying115⟩
theorem inf115 : (Tryz.prog.info? 115).map (fun i => (i.zero, i.size, i.bytes)) = some (some (.nilFunc), 1, 8) := by kernel_rfl
instance ti115 : TInfo Tryz.prog 115 1 8 [.nilFunc] := tinfo_mk inf115 rfl
instance tz115 : TZero Tryz.prog 115 (.nilFunc) := tzero_mk inf115
instance und116 : TUnd Tryz.prog 116 (.func #[3] #[4] false) := ⟨Tryz.underlying116⟩
theorem inf116 : (Tryz.prog.info? 116).map (fun i => (i.zero, i.size, i.bytes)) = some (some (.nilFunc), 1, 8) := by kernel_rfl
instance ti116 : TInfo Tryz.prog 116 1 8 [.nilFunc] := tinfo_mk inf116 rfl
instance tz116 : TZero Tryz.prog 116 (.nilFunc) := tzero_mk inf116
instance und117 : TUnd Tryz.prog 117 (.func #[2] #[4] false) := ⟨Tryz.underlying117⟩
theorem inf117 : (Tryz.prog.info? 117).map (fun i => (i.zero, i.size, i.bytes)) = some (some (.nilFunc), 1, 8) := by kernel_rfl
instance ti117 : TInfo Tryz.prog 117 1 8 [.nilFunc] := tinfo_mk inf117 rfl
instance tz117 : TZero Tryz.prog 117 (.nilFunc) := tzero_mk inf117
instance und118 : TUnd Tryz.prog 118 (.slice 119) := ⟨Tryz.underlying118⟩
theorem inf118 : (Tryz.prog.info? 118).map (fun i => (i.zero, i.size, i.bytes)) = some (some (.slice none 0 0), 1, 24) := by kernel_rfl
instance ti118 : TInfo Tryz.prog 118 1 24 [.slice none 0 0] := tinfo_mk inf118 rfl
instance tz118 : TZero Tryz.prog 118 (.slice none 0 0) := tzero_mk inf118
instance und119 : TUnd Tryz.prog 119 (.pointer 121) := ⟨Tryz.underlying119⟩
theorem inf119 : (Tryz.prog.info? 119).map (fun i => (i.zero, i.size, i.bytes)) = some (some (.pointer none), 1, 8) := by kernel_rfl
instance ti119 : TInfo Tryz.prog 119 1 8 [.pointer none] := tinfo_mk inf119 rfl
instance tz119 : TZero Tryz.prog 119 (.pointer none) := tzero_mk inf119
instance und120 : TUnd Tryz.prog 120 (.struct #[⟨ "due", 2, 0, false, "", "conduit/conduitlaw18", 0⟩, ⟨ "told", 2, 1, false, "", "conduit/conduitlaw18", 8⟩, ⟨ "woken", 4, 2, false, "", "conduit/conduitlaw18", 16⟩, ⟨ "ok", 4, 3, false, "", "conduit/conduitlaw18", 17⟩]) := ⟨Tryz.underlying120⟩
theorem inf120 : (Tryz.prog.info? 120).map (fun i => (i.zero, i.size, i.bytes)) = some (some (.agg #[.int .i64 0, .int .i64 0, .bool false, .bool false]), 4, 24) := by kernel_rfl
instance ti120 : TInfo Tryz.prog 120 4 24 [.int .i64 0, .int .i64 0, .bool false, .bool false] := tinfo_mk inf120 rfl
instance tz120 : TZero Tryz.prog 120 (.agg #[.int .i64 0, .int .i64 0, .bool false, .bool false]) := tzero_mk inf120
instance tf120_0 : TField Tryz.prog 120 0 0 := tfield_mk Tryz.underlying120 rfl rfl (by kernel_rfl)
instance tp120_0 : TPart Tryz.prog 120 0 0 1 false := tpart_mk Tryz.underlying120 rfl rfl (by kernel_rfl) Tryz.underlying2 rfl
instance tf120_1 : TField Tryz.prog 120 1 1 := tfield_mk Tryz.underlying120 rfl rfl (by kernel_rfl)
instance tp120_1 : TPart Tryz.prog 120 1 1 1 false := tpart_mk Tryz.underlying120 rfl rfl (by kernel_rfl) Tryz.underlying2 rfl
instance tf120_2 : TField Tryz.prog 120 2 2 := tfield_mk Tryz.underlying120 rfl rfl (by kernel_rfl)
instance tp120_2 : TPart Tryz.prog 120 2 2 1 false := tpart_mk Tryz.underlying120 rfl rfl (by kernel_rfl) Tryz.underlying4 rfl
instance tf120_3 : TField Tryz.prog 120 3 3 := tfield_mk Tryz.underlying120 rfl rfl (by kernel_rfl)
instance tp120_3 : TPart Tryz.prog 120 3 3 1 false := tpart_mk Tryz.underlying120 rfl rfl (by kernel_rfl) Tryz.underlying4 rfl
instance tpl120 : TPlaces Tryz.prog 120 [(0, 1), (1, 1), (2, 1), (3, 1)] := tplaces_mk Tryz.underlying120 (by kernel_rfl) (by kernel_rfl)
instance und121 : TUnd Tryz.prog 121 (.struct #[⟨ "due", 2, 0, false, "", "conduit/conduitlaw18", 0⟩, ⟨ "told", 2, 1, false, "", "conduit/conduitlaw18", 8⟩, ⟨ "woken", 4, 2, false, "", "conduit/conduitlaw18", 16⟩, ⟨ "ok", 4, 3, false, "", "conduit/conduitlaw18", 17⟩]) := ⟨Tryz.underlying121⟩
theorem inf121 : (Tryz.prog.info? 121).map (fun i => (i.zero, i.size, i.bytes)) = some (some (.agg #[.int .i64 0, .int .i64 0, .bool false, .bool false]), 4, 24) := by kernel_rfl
instance ti121 : TInfo Tryz.prog 121 4 24 [.int .i64 0, .int .i64 0, .bool false, .bool false] := tinfo_mk inf121 rfl
instance tz121 : TZero Tryz.prog 121 (.agg #[.int .i64 0, .int .i64 0, .bool false, .bool false]) := tzero_mk inf121
instance tf121_0 : TField Tryz.prog 121 0 0 := tfield_mk Tryz.underlying121 rfl rfl (by kernel_rfl)
instance tp121_0 : TPart Tryz.prog 121 0 0 1 false := tpart_mk Tryz.underlying121 rfl rfl (by kernel_rfl) Tryz.underlying2 rfl
instance tf121_1 : TField Tryz.prog 121 1 1 := tfield_mk Tryz.underlying121 rfl rfl (by kernel_rfl)
instance tp121_1 : TPart Tryz.prog 121 1 1 1 false := tpart_mk Tryz.underlying121 rfl rfl (by kernel_rfl) Tryz.underlying2 rfl
instance tf121_2 : TField Tryz.prog 121 2 2 := tfield_mk Tryz.underlying121 rfl rfl (by kernel_rfl)
instance tp121_2 : TPart Tryz.prog 121 2 2 1 false := tpart_mk Tryz.underlying121 rfl rfl (by kernel_rfl) Tryz.underlying4 rfl
instance tf121_3 : TField Tryz.prog 121 3 3 := tfield_mk Tryz.underlying121 rfl rfl (by kernel_rfl)
instance tp121_3 : TPart Tryz.prog 121 3 3 1 false := tpart_mk Tryz.underlying121 rfl rfl (by kernel_rfl) Tryz.underlying4 rfl
instance tpl121 : TPlaces Tryz.prog 121 [(0, 1), (1, 1), (2, 1), (3, 1)] := tplaces_mk Tryz.underlying121 (by kernel_rfl) (by kernel_rfl)
instance und122 : TUnd Tryz.prog 122 (.func #[28, 125] #[4] false) := ⟨Tryz.underlying122⟩
theorem inf122 : (Tryz.prog.info? 122).map (fun i => (i.zero, i.size, i.bytes)) = some (some (.nilFunc), 1, 8) := by kernel_rfl
instance ti122 : TInfo Tryz.prog 122 1 8 [.nilFunc] := tinfo_mk inf122 rfl
instance tz122 : TZero Tryz.prog 122 (.nilFunc) := tzero_mk inf122
instance und123 : TUnd Tryz.prog 123 (.slice 271) := ⟨Tryz.underlying123⟩
theorem inf123 : (Tryz.prog.info? 123).map (fun i => (i.zero, i.size, i.bytes)) = some (some (.slice none 0 0), 1, 24) := by kernel_rfl
instance ti123 : TInfo Tryz.prog 123 1 24 [.slice none 0 0] := tinfo_mk inf123 rfl
instance tz123 : TZero Tryz.prog 123 (.slice none 0 0) := tzero_mk inf123
instance und124 : TUnd Tryz.prog 124 (.struct #[⟨ "Size", 3, 0, false, "", "", 0⟩, ⟨ "Buf", 32, 1, false, "", "", 8⟩, ⟨ "Senders", 123, 2, false, "", "", 32⟩, ⟨ "Receivers", 123, 3, false, "", "", 56⟩, ⟨ "Closed", 4, 4, false, "", "", 80⟩]) := ⟨Tryz.underlying124⟩
theorem inf124 : (Tryz.prog.info? 124).map (fun i => (i.zero, i.size, i.bytes)) = some (some (.agg #[.int .i64 0, .slice none 0 0, .slice none 0 0, .slice none 0 0, .bool false]), 5, 88) := by kernel_rfl
instance ti124 : TInfo Tryz.prog 124 5 88 [.int .i64 0, .slice none 0 0, .slice none 0 0, .slice none 0 0, .bool false] := tinfo_mk inf124 rfl
instance tz124 : TZero Tryz.prog 124 (.agg #[.int .i64 0, .slice none 0 0, .slice none 0 0, .slice none 0 0, .bool false]) := tzero_mk inf124
instance tf124_0 : TField Tryz.prog 124 0 0 := tfield_mk Tryz.underlying124 rfl rfl (by kernel_rfl)
instance tp124_0 : TPart Tryz.prog 124 0 0 1 false := tpart_mk Tryz.underlying124 rfl rfl (by kernel_rfl) Tryz.underlying3 rfl
instance tf124_1 : TField Tryz.prog 124 1 1 := tfield_mk Tryz.underlying124 rfl rfl (by kernel_rfl)
instance tp124_1 : TPart Tryz.prog 124 1 1 1 false := tpart_mk Tryz.underlying124 rfl rfl (by kernel_rfl) Tryz.underlying32 rfl
instance tf124_2 : TField Tryz.prog 124 2 2 := tfield_mk Tryz.underlying124 rfl rfl (by kernel_rfl)
instance tp124_2 : TPart Tryz.prog 124 2 2 1 false := tpart_mk Tryz.underlying124 rfl rfl (by kernel_rfl) Tryz.underlying123 rfl
instance tf124_3 : TField Tryz.prog 124 3 3 := tfield_mk Tryz.underlying124 rfl rfl (by kernel_rfl)
instance tp124_3 : TPart Tryz.prog 124 3 3 1 false := tpart_mk Tryz.underlying124 rfl rfl (by kernel_rfl) Tryz.underlying123 rfl
instance tf124_4 : TField Tryz.prog 124 4 4 := tfield_mk Tryz.underlying124 rfl rfl (by kernel_rfl)
instance tp124_4 : TPart Tryz.prog 124 4 4 1 false := tpart_mk Tryz.underlying124 rfl rfl (by kernel_rfl) Tryz.underlying4 rfl
instance tpl124 : TPlaces Tryz.prog 124 [(0, 1), (1, 1), (2, 1), (3, 1), (4, 1)] := tplaces_mk Tryz.underlying124 (by kernel_rfl) (by kernel_rfl)
instance und125 : TUnd Tryz.prog 125 (.struct #[⟨ "Size", 3, 0, false, "", "", 0⟩, ⟨ "Buf", 32, 1, false, "", "", 8⟩, ⟨ "Senders", 123, 2, false, "", "", 32⟩, ⟨ "Receivers", 123, 3, false, "", "", 56⟩, ⟨ "Closed", 4, 4, false, "", "", 80⟩]) := ⟨Tryz.underlying125⟩
theorem inf125 : (Tryz.prog.info? 125).map (fun i => (i.zero, i.size, i.bytes)) = some (some (.agg #[.int .i64 0, .slice none 0 0, .slice none 0 0, .slice none 0 0, .bool false]), 5, 88) := by kernel_rfl
instance ti125 : TInfo Tryz.prog 125 5 88 [.int .i64 0, .slice none 0 0, .slice none 0 0, .slice none 0 0, .bool false] := tinfo_mk inf125 rfl
instance tz125 : TZero Tryz.prog 125 (.agg #[.int .i64 0, .slice none 0 0, .slice none 0 0, .slice none 0 0, .bool false]) := tzero_mk inf125
instance tf125_0 : TField Tryz.prog 125 0 0 := tfield_mk Tryz.underlying125 rfl rfl (by kernel_rfl)
instance tp125_0 : TPart Tryz.prog 125 0 0 1 false := tpart_mk Tryz.underlying125 rfl rfl (by kernel_rfl) Tryz.underlying3 rfl
instance tf125_1 : TField Tryz.prog 125 1 1 := tfield_mk Tryz.underlying125 rfl rfl (by kernel_rfl)
instance tp125_1 : TPart Tryz.prog 125 1 1 1 false := tpart_mk Tryz.underlying125 rfl rfl (by kernel_rfl) Tryz.underlying32 rfl
instance tf125_2 : TField Tryz.prog 125 2 2 := tfield_mk Tryz.underlying125 rfl rfl (by kernel_rfl)
instance tp125_2 : TPart Tryz.prog 125 2 2 1 false := tpart_mk Tryz.underlying125 rfl rfl (by kernel_rfl) Tryz.underlying123 rfl
instance tf125_3 : TField Tryz.prog 125 3 3 := tfield_mk Tryz.underlying125 rfl rfl (by kernel_rfl)
instance tp125_3 : TPart Tryz.prog 125 3 3 1 false := tpart_mk Tryz.underlying125 rfl rfl (by kernel_rfl) Tryz.underlying123 rfl
instance tf125_4 : TField Tryz.prog 125 4 4 := tfield_mk Tryz.underlying125 rfl rfl (by kernel_rfl)
instance tp125_4 : TPart Tryz.prog 125 4 4 1 false := tpart_mk Tryz.underlying125 rfl rfl (by kernel_rfl) Tryz.underlying4 rfl
instance tpl125 : TPlaces Tryz.prog 125 [(0, 1), (1, 1), (2, 1), (3, 1), (4, 1)] := tplaces_mk Tryz.underlying125 (by kernel_rfl) (by kernel_rfl)
instance und126 : TUnd Tryz.prog 126 (.func #[59, 59] #[4] false) := ⟨Tryz.underlying126⟩
theorem inf126 : (Tryz.prog.info? 126).map (fun i => (i.zero, i.size, i.bytes)) = some (some (.nilFunc), 1, 8) := by kernel_rfl
instance ti126 : TInfo Tryz.prog 126 1 8 [.nilFunc] := tinfo_mk inf126 rfl
instance tz126 : TZero Tryz.prog 126 (.nilFunc) := tzero_mk inf126
instance und127 : TUnd Tryz.prog 127 (.func #[51, 32, 24] #[4] false) := ⟨Tryz.underlying127⟩
theorem inf127 : (Tryz.prog.info? 127).map (fun i => (i.zero, i.size, i.bytes)) = some (some (.nilFunc), 1, 8) := by kernel_rfl
instance ti127 : TInfo Tryz.prog 127 1 8 [.nilFunc] := tinfo_mk inf127 rfl
instance tz127 : TZero Tryz.prog 127 (.nilFunc) := tzero_mk inf127
instance und128 : TUnd Tryz.prog 128 (.slice 137) := ⟨Tryz.underlying128⟩
theorem inf128 : (Tryz.prog.info? 128).map (fun i => (i.zero, i.size, i.bytes)) = some (some (.slice none 0 0), 1, 24) := by kernel_rfl
instance ti128 : TInfo Tryz.prog 128 1 24 [.slice none 0 0] := tinfo_mk inf128 rfl
instance tz128 : TZero Tryz.prog 128 (.slice none 0 0) := tzero_mk inf128
instance und129 : TUnd Tryz.prog 129 (.pointer 132) := ⟨Tryz.underlying129⟩
theorem inf129 : (Tryz.prog.info? 129).map (fun i => (i.zero, i.size, i.bytes)) = some (some (.pointer none), 1, 8) := by kernel_rfl
instance ti129 : TInfo Tryz.prog 129 1 8 [.pointer none] := tinfo_mk inf129 rfl
instance tz129 : TZero Tryz.prog 129 (.pointer none) := tzero_mk inf129
instance und130 : TUnd Tryz.prog 130 (.slice 207) := ⟨Tryz.underlying130⟩
theorem inf130 : (Tryz.prog.info? 130).map (fun i => (i.zero, i.size, i.bytes)) = some (some (.slice none 0 0), 1, 24) := by kernel_rfl
instance ti130 : TInfo Tryz.prog 130 1 24 [.slice none 0 0] := tinfo_mk inf130 rfl
instance tz130 : TZero Tryz.prog 130 (.slice none 0 0) := tzero_mk inf130
instance und131 : TUnd Tryz.prog 131 (.struct #[⟨ "Now", 2, 0, false, "", "", 0⟩, ⟨ "Timers", 130, 1, false, "", "", 8⟩, ⟨ "Made", 3, 2, false, "", "", 32⟩]) := ⟨Tryz.underlying131⟩
theorem inf131 : (Tryz.prog.info? 131).map (fun i => (i.zero, i.size, i.bytes)) = some (some (.agg #[.int .i64 0, .slice none 0 0, .int .i64 0]), 3, 40) := by kernel_rfl
instance ti131 : TInfo Tryz.prog 131 3 40 [.int .i64 0, .slice none 0 0, .int .i64 0] := tinfo_mk inf131 rfl
instance tz131 : TZero Tryz.prog 131 (.agg #[.int .i64 0, .slice none 0 0, .int .i64 0]) := tzero_mk inf131
instance tf131_0 : TField Tryz.prog 131 0 0 := tfield_mk Tryz.underlying131 rfl rfl (by kernel_rfl)
instance tp131_0 : TPart Tryz.prog 131 0 0 1 false := tpart_mk Tryz.underlying131 rfl rfl (by kernel_rfl) Tryz.underlying2 rfl
instance tf131_1 : TField Tryz.prog 131 1 1 := tfield_mk Tryz.underlying131 rfl rfl (by kernel_rfl)
instance tp131_1 : TPart Tryz.prog 131 1 1 1 false := tpart_mk Tryz.underlying131 rfl rfl (by kernel_rfl) Tryz.underlying130 rfl
instance tf131_2 : TField Tryz.prog 131 2 2 := tfield_mk Tryz.underlying131 rfl rfl (by kernel_rfl)
instance tp131_2 : TPart Tryz.prog 131 2 2 1 false := tpart_mk Tryz.underlying131 rfl rfl (by kernel_rfl) Tryz.underlying3 rfl
instance tpl131 : TPlaces Tryz.prog 131 [(0, 1), (1, 1), (2, 1)] := tplaces_mk Tryz.underlying131 (by kernel_rfl) (by kernel_rfl)
instance und132 : TUnd Tryz.prog 132 (.struct #[⟨ "Now", 2, 0, false, "", "", 0⟩, ⟨ "Timers", 130, 1, false, "", "", 8⟩, ⟨ "Made", 3, 2, false, "", "", 32⟩]) := ⟨Tryz.underlying132⟩
theorem inf132 : (Tryz.prog.info? 132).map (fun i => (i.zero, i.size, i.bytes)) = some (some (.agg #[.int .i64 0, .slice none 0 0, .int .i64 0]), 3, 40) := by kernel_rfl
instance ti132 : TInfo Tryz.prog 132 3 40 [.int .i64 0, .slice none 0 0, .int .i64 0] := tinfo_mk inf132 rfl
instance tz132 : TZero Tryz.prog 132 (.agg #[.int .i64 0, .slice none 0 0, .int .i64 0]) := tzero_mk inf132
instance tf132_0 : TField Tryz.prog 132 0 0 := tfield_mk Tryz.underlying132 rfl rfl (by kernel_rfl)
instance tp132_0 : TPart Tryz.prog 132 0 0 1 false := tpart_mk Tryz.underlying132 rfl rfl (by kernel_rfl) Tryz.underlying2 rfl
instance tf132_1 : TField Tryz.prog 132 1 1 := tfield_mk Tryz.underlying132 rfl rfl (by kernel_rfl)
instance tp132_1 : TPart Tryz.prog 132 1 1 1 false := tpart_mk Tryz.underlying132 rfl rfl (by kernel_rfl) Tryz.underlying130 rfl
instance tf132_2 : TField Tryz.prog 132 2 2 := tfield_mk Tryz.underlying132 rfl rfl (by kernel_rfl)
instance tp132_2 : TPart Tryz.prog 132 2 2 1 false := tpart_mk Tryz.underlying132 rfl rfl (by kernel_rfl) Tryz.underlying3 rfl
instance tpl132 : TPlaces Tryz.prog 132 [(0, 1), (1, 1), (2, 1)] := tplaces_mk Tryz.underlying132 (by kernel_rfl) (by kernel_rfl)
instance und133 : TUnd Tryz.prog 133 (.slice 113) := ⟨Tryz.underlying133⟩
theorem inf133 : (Tryz.prog.info? 133).map (fun i => (i.zero, i.size, i.bytes)) = some (some (.slice none 0 0), 1, 24) := by kernel_rfl
instance ti133 : TInfo Tryz.prog 133 1 24 [.slice none 0 0] := tinfo_mk inf133 rfl
instance tz133 : TZero Tryz.prog 133 (.slice none 0 0) := tzero_mk inf133
instance und134 : TUnd Tryz.prog 134 (.map 3 2) := ⟨Tryz.underlying134⟩
theorem inf134 : (Tryz.prog.info? 134).map (fun i => (i.zero, i.size, i.bytes)) = some (some (.map none), 1, 8) := by kernel_rfl
instance ti134 : TInfo Tryz.prog 134 1 8 [.map none] := tinfo_mk inf134 rfl
instance tz134 : TZero Tryz.prog 134 (.map none) := tzero_mk inf134
instance und135 : TUnd Tryz.prog 135 (.func #[3] #[] false) := ⟨Tryz.underlying135⟩
theorem inf135 : (Tryz.prog.info? 135).map (fun i => (i.zero, i.size, i.bytes)) = some (some (.nilFunc), 1, 8) := by kernel_rfl
instance ti135 : TInfo Tryz.prog 135 1 8 [.nilFunc] := tinfo_mk inf135 rfl
instance tz135 : TZero Tryz.prog 135 (.nilFunc) := tzero_mk inf135
instance und136 : TUnd Tryz.prog 136 (.struct #[⟨ "Kind", 3, 0, false, "", "", 0⟩, ⟨ "No", 3, 1, false, "", "", 8⟩, ⟨ "D", 2, 2, false, "", "", 16⟩]) := ⟨Tryz.underlying136⟩
theorem inf136 : (Tryz.prog.info? 136).map (fun i => (i.zero, i.size, i.bytes)) = some (some (.agg #[.int .i64 0, .int .i64 0, .int .i64 0]), 3, 24) := by kernel_rfl
instance ti136 : TInfo Tryz.prog 136 3 24 [.int .i64 0, .int .i64 0, .int .i64 0] := tinfo_mk inf136 rfl
instance tz136 : TZero Tryz.prog 136 (.agg #[.int .i64 0, .int .i64 0, .int .i64 0]) := tzero_mk inf136
instance tf136_0 : TField Tryz.prog 136 0 0 := tfield_mk Tryz.underlying136 rfl rfl (by kernel_rfl)
instance tp136_0 : TPart Tryz.prog 136 0 0 1 false := tpart_mk Tryz.underlying136 rfl rfl (by kernel_rfl) Tryz.underlying3 rfl
instance tf136_1 : TField Tryz.prog 136 1 1 := tfield_mk Tryz.underlying136 rfl rfl (by kernel_rfl)
instance tp136_1 : TPart Tryz.prog 136 1 1 1 false := tpart_mk Tryz.underlying136 rfl rfl (by kernel_rfl) Tryz.underlying3 rfl
instance tf136_2 : TField Tryz.prog 136 2 2 := tfield_mk Tryz.underlying136 rfl rfl (by kernel_rfl)
instance tp136_2 : TPart Tryz.prog 136 2 2 1 false := tpart_mk Tryz.underlying136 rfl rfl (by kernel_rfl) Tryz.underlying2 rfl
instance tpl136 : TPlaces Tryz.prog 136 [(0, 1), (1, 1), (2, 1)] := tplaces_mk Tryz.underlying136 (by kernel_rfl) (by kernel_rfl)
instance und137 : TUnd Tryz.prog 137 (.struct #[⟨ "Kind", 3, 0, false, "", "", 0⟩, ⟨ "No", 3, 1, false, "", "", 8⟩, ⟨ "D", 2, 2, false, "", "", 16⟩]) := ⟨Tryz.underlying137⟩
theorem inf137 : (Tryz.prog.info? 137).map (fun i => (i.zero, i.size, i.bytes)) = some (some (.agg #[.int .i64 0, .int .i64 0, .int .i64 0]), 3, 24) := by kernel_rfl
instance ti137 : TInfo Tryz.prog 137 3 24 [.int .i64 0, .int .i64 0, .int .i64 0] := tinfo_mk inf137 rfl
instance tz137 : TZero Tryz.prog 137 (.agg #[.int .i64 0, .int .i64 0, .int .i64 0]) := tzero_mk inf137
instance tf137_0 : TField Tryz.prog 137 0 0 := tfield_mk Tryz.underlying137 rfl rfl (by kernel_rfl)
instance tp137_0 : TPart Tryz.prog 137 0 0 1 false := tpart_mk Tryz.underlying137 rfl rfl (by kernel_rfl) Tryz.underlying3 rfl
instance tf137_1 : TField Tryz.prog 137 1 1 := tfield_mk Tryz.underlying137 rfl rfl (by kernel_rfl)
instance tp137_1 : TPart Tryz.prog 137 1 1 1 false := tpart_mk Tryz.underlying137 rfl rfl (by kernel_rfl) Tryz.underlying3 rfl
instance tf137_2 : TField Tryz.prog 137 2 2 := tfield_mk Tryz.underlying137 rfl rfl (by kernel_rfl)
instance tp137_2 : TPart Tryz.prog 137 2 2 1 false := tpart_mk Tryz.underlying137 rfl rfl (by kernel_rfl) Tryz.underlying2 rfl
instance tpl137 : TPlaces Tryz.prog 137 [(0, 1), (1, 1), (2, 1)] := tplaces_mk Tryz.underlying137 (by kernel_rfl) (by kernel_rfl)
instance und138 : TUnd Tryz.prog 138 (.tuple #[3, 4]) := ⟨Tryz.underlying138⟩
instance und139 : TUnd Tryz.prog 139 (.func #[2] #[3, 4] false) := ⟨Tryz.underlying139⟩
theorem inf139 : (Tryz.prog.info? 139).map (fun i => (i.zero, i.size, i.bytes)) = some (some (.nilFunc), 1, 8) := by kernel_rfl
instance ti139 : TInfo Tryz.prog 139 1 8 [.nilFunc] := tinfo_mk inf139 rfl
instance tz139 : TZero Tryz.prog 139 (.nilFunc) := tzero_mk inf139
instance und140 : TUnd Tryz.prog 140 (.tuple #[2, 4]) := ⟨Tryz.underlying140⟩
instance und141 : TUnd Tryz.prog 141 (.tuple #[2, 4, 4]) := ⟨Tryz.underlying141⟩
instance und142 : TUnd Tryz.prog 142 (.func #[] #[2, 4, 4] false) := ⟨Tryz.underlying142⟩
theorem inf142 : (Tryz.prog.info? 142).map (fun i => (i.zero, i.size, i.bytes)) = some (some (.nilFunc), 1, 8) := by kernel_rfl
instance ti142 : TInfo Tryz.prog 142 1 8 [.nilFunc] := tinfo_mk inf142 rfl
instance tz142 : TZero Tryz.prog 142 (.nilFunc) := tzero_mk inf142
instance und143 : TUnd Tryz.prog 143 (.func #[128] #[4] false) := ⟨Tryz.underlying143⟩
theorem inf143 : (Tryz.prog.info? 143).map (fun i => (i.zero, i.size, i.bytes)) = some (some (.nilFunc), 1, 8) := by kernel_rfl
instance ti143 : TInfo Tryz.prog 143 1 8 [.nilFunc] := tinfo_mk inf143 rfl
instance tz143 : TZero Tryz.prog 143 (.nilFunc) := tzero_mk inf143
instance und144 : TUnd Tryz.prog 144 (.pointer 223) := ⟨Tryz.underlying144⟩
theorem inf144 : (Tryz.prog.info? 144).map (fun i => (i.zero, i.size, i.bytes)) = some (some (.pointer none), 1, 8) := by kernel_rfl
instance ti144 : TInfo Tryz.prog 144 1 8 [.pointer none] := tinfo_mk inf144 rfl
instance tz144 : TZero Tryz.prog 144 (.pointer none) := tzero_mk inf144
instance und145 : TUnd Tryz.prog 145 (.pointer 226) := ⟨Tryz.underlying145⟩
theorem inf145 : (Tryz.prog.info? 145).map (fun i => (i.zero, i.size, i.bytes)) = some (some (.pointer none), 1, 8) := by kernel_rfl
instance ti145 : TInfo Tryz.prog 145 1 8 [.pointer none] := tinfo_mk inf145 rfl
instance tz145 : TZero Tryz.prog 145 (.pointer none) := tzero_mk inf145
instance und146 : TUnd Tryz.prog 146 (.pointer 229) := ⟨Tryz.underlying146⟩
theorem inf146 : (Tryz.prog.info? 146).map (fun i => (i.zero, i.size, i.bytes)) = some (some (.pointer none), 1, 8) := by kernel_rfl
instance ti146 : TInfo Tryz.prog 146 1 8 [.pointer none] := tinfo_mk inf146 rfl
instance tz146 : TZero Tryz.prog 146 (.pointer none) := tzero_mk inf146
instance und147 : TUnd Tryz.prog 147 (.struct #[⟨ "r", 26, 0, false, "", "conduit/chans", 0⟩, ⟨ "size", 3, 1, false, "", "conduit/chans", 8⟩, ⟨ "buf", 144, 2, false, "", "conduit/chans", 16⟩, ⟨ "senders", 145, 3, false, "", "conduit/chans", 24⟩, ⟨ "receivers", 146, 4, false, "", "conduit/chans", 32⟩, ⟨ "closed", 4, 5, false, "", "conduit/chans", 40⟩]) := ⟨Tryz.underlying147⟩
theorem inf147 : (Tryz.prog.info? 147).map (fun i => (i.zero, i.size, i.bytes)) = some (some (.agg #[.pointer none, .int .i64 0, .pointer none, .pointer none, .pointer none, .bool false]), 6, 48) := by kernel_rfl
instance ti147 : TInfo Tryz.prog 147 6 48 [.pointer none, .int .i64 0, .pointer none, .pointer none, .pointer none, .bool false] := tinfo_mk inf147 rfl
instance tz147 : TZero Tryz.prog 147 (.agg #[.pointer none, .int .i64 0, .pointer none, .pointer none, .pointer none, .bool false]) := tzero_mk inf147
instance tf147_0 : TField Tryz.prog 147 0 0 := tfield_mk Tryz.underlying147 rfl rfl (by kernel_rfl)
instance tp147_0 : TPart Tryz.prog 147 0 0 1 false := tpart_mk Tryz.underlying147 rfl rfl (by kernel_rfl) Tryz.underlying26 rfl
instance tf147_1 : TField Tryz.prog 147 1 1 := tfield_mk Tryz.underlying147 rfl rfl (by kernel_rfl)
instance tp147_1 : TPart Tryz.prog 147 1 1 1 false := tpart_mk Tryz.underlying147 rfl rfl (by kernel_rfl) Tryz.underlying3 rfl
instance tf147_2 : TField Tryz.prog 147 2 2 := tfield_mk Tryz.underlying147 rfl rfl (by kernel_rfl)
instance tp147_2 : TPart Tryz.prog 147 2 2 1 false := tpart_mk Tryz.underlying147 rfl rfl (by kernel_rfl) Tryz.underlying144 rfl
instance tf147_3 : TField Tryz.prog 147 3 3 := tfield_mk Tryz.underlying147 rfl rfl (by kernel_rfl)
instance tp147_3 : TPart Tryz.prog 147 3 3 1 false := tpart_mk Tryz.underlying147 rfl rfl (by kernel_rfl) Tryz.underlying145 rfl
instance tf147_4 : TField Tryz.prog 147 4 4 := tfield_mk Tryz.underlying147 rfl rfl (by kernel_rfl)
instance tp147_4 : TPart Tryz.prog 147 4 4 1 false := tpart_mk Tryz.underlying147 rfl rfl (by kernel_rfl) Tryz.underlying146 rfl
instance tf147_5 : TField Tryz.prog 147 5 5 := tfield_mk Tryz.underlying147 rfl rfl (by kernel_rfl)
instance tp147_5 : TPart Tryz.prog 147 5 5 1 false := tpart_mk Tryz.underlying147 rfl rfl (by kernel_rfl) Tryz.underlying4 rfl
instance tpl147 : TPlaces Tryz.prog 147 [(0, 1), (1, 1), (2, 1), (3, 1), (4, 1), (5, 1)] := tplaces_mk Tryz.underlying147 (by kernel_rfl) (by kernel_rfl)
instance und148 : TUnd Tryz.prog 148 (.struct #[⟨ "r", 26, 0, false, "", "conduit/chans", 0⟩, ⟨ "size", 3, 1, false, "", "conduit/chans", 8⟩, ⟨ "buf", 144, 2, false, "", "conduit/chans", 16⟩, ⟨ "senders", 145, 3, false, "", "conduit/chans", 24⟩, ⟨ "receivers", 146, 4, false, "", "conduit/chans", 32⟩, ⟨ "closed", 4, 5, false, "", "conduit/chans", 40⟩]) := ⟨Tryz.underlying148⟩
theorem inf148 : (Tryz.prog.info? 148).map (fun i => (i.zero, i.size, i.bytes)) = some (some (.agg #[.pointer none, .int .i64 0, .pointer none, .pointer none, .pointer none, .bool false]), 6, 48) := by kernel_rfl
instance ti148 : TInfo Tryz.prog 148 6 48 [.pointer none, .int .i64 0, .pointer none, .pointer none, .pointer none, .bool false] := tinfo_mk inf148 rfl
instance tz148 : TZero Tryz.prog 148 (.agg #[.pointer none, .int .i64 0, .pointer none, .pointer none, .pointer none, .bool false]) := tzero_mk inf148
instance tf148_0 : TField Tryz.prog 148 0 0 := tfield_mk Tryz.underlying148 rfl rfl (by kernel_rfl)
instance tp148_0 : TPart Tryz.prog 148 0 0 1 false := tpart_mk Tryz.underlying148 rfl rfl (by kernel_rfl) Tryz.underlying26 rfl
instance tf148_1 : TField Tryz.prog 148 1 1 := tfield_mk Tryz.underlying148 rfl rfl (by kernel_rfl)
instance tp148_1 : TPart Tryz.prog 148 1 1 1 false := tpart_mk Tryz.underlying148 rfl rfl (by kernel_rfl) Tryz.underlying3 rfl
instance tf148_2 : TField Tryz.prog 148 2 2 := tfield_mk Tryz.underlying148 rfl rfl (by kernel_rfl)
instance tp148_2 : TPart Tryz.prog 148 2 2 1 false := tpart_mk Tryz.underlying148 rfl rfl (by kernel_rfl) Tryz.underlying144 rfl
instance tf148_3 : TField Tryz.prog 148 3 3 := tfield_mk Tryz.underlying148 rfl rfl (by kernel_rfl)
instance tp148_3 : TPart Tryz.prog 148 3 3 1 false := tpart_mk Tryz.underlying148 rfl rfl (by kernel_rfl) Tryz.underlying145 rfl
instance tf148_4 : TField Tryz.prog 148 4 4 := tfield_mk Tryz.underlying148 rfl rfl (by kernel_rfl)
instance tp148_4 : TPart Tryz.prog 148 4 4 1 false := tpart_mk Tryz.underlying148 rfl rfl (by kernel_rfl) Tryz.underlying146 rfl
instance tf148_5 : TField Tryz.prog 148 5 5 := tfield_mk Tryz.underlying148 rfl rfl (by kernel_rfl)
instance tp148_5 : TPart Tryz.prog 148 5 5 1 false := tpart_mk Tryz.underlying148 rfl rfl (by kernel_rfl) Tryz.underlying4 rfl
instance tpl148 : TPlaces Tryz.prog 148 [(0, 1), (1, 1), (2, 1), (3, 1), (4, 1), (5, 1)] := tplaces_mk Tryz.underlying148 (by kernel_rfl) (by kernel_rfl)
instance und149 : TUnd Tryz.prog 149 (.func #[] #[4, 4] false) := ⟨Tryz.underlying149⟩
theorem inf149 : (Tryz.prog.info? 149).map (fun i => (i.zero, i.size, i.bytes)) = some (some (.nilFunc), 1, 8) := by kernel_rfl
instance ti149 : TInfo Tryz.prog 149 1 8 [.nilFunc] := tinfo_mk inf149 rfl
instance tz149 : TZero Tryz.prog 149 (.nilFunc) := tzero_mk inf149
instance und150 : TUnd Tryz.prog 150 (.func #[] #[106] false) := ⟨Tryz.underlying150⟩
theorem inf150 : (Tryz.prog.info? 150).map (fun i => (i.zero, i.size, i.bytes)) = some (some (.nilFunc), 1, 8) := by kernel_rfl
instance ti150 : TInfo Tryz.prog 150 1 8 [.nilFunc] := tinfo_mk inf150 rfl
instance tz150 : TZero Tryz.prog 150 (.nilFunc) := tzero_mk inf150
instance und151 : TUnd Tryz.prog 151 (.func #[32] #[144] true) := ⟨Tryz.underlying151⟩
theorem inf151 : (Tryz.prog.info? 151).map (fun i => (i.zero, i.size, i.bytes)) = some (some (.nilFunc), 1, 8) := by kernel_rfl
instance ti151 : TInfo Tryz.prog 151 1 8 [.nilFunc] := tinfo_mk inf151 rfl
instance tz151 : TZero Tryz.prog 151 (.nilFunc) := tzero_mk inf151
instance und152 : TUnd Tryz.prog 152 (.func #[185] #[145] true) := ⟨Tryz.underlying152⟩
theorem inf152 : (Tryz.prog.info? 152).map (fun i => (i.zero, i.size, i.bytes)) = some (some (.nilFunc), 1, 8) := by kernel_rfl
instance ti152 : TInfo Tryz.prog 152 1 8 [.nilFunc] := tinfo_mk inf152 rfl
instance tz152 : TZero Tryz.prog 152 (.nilFunc) := tzero_mk inf152
instance und153 : TUnd Tryz.prog 153 (.struct #[⟨ "k", 71, 0, false, "", "conduit/chans", 0⟩, ⟨ "v", 3, 1, false, "", "conduit/chans", 8⟩, ⟨ "told", 36, 2, false, "", "conduit/chans", 16⟩]) := ⟨Tryz.underlying153⟩
theorem inf153 : (Tryz.prog.info? 153).map (fun i => (i.zero, i.size, i.bytes)) = some (some (.agg #[.pointer none, .int .i64 0, .nilFunc]), 3, 24) := by kernel_rfl
instance ti153 : TInfo Tryz.prog 153 3 24 [.pointer none, .int .i64 0, .nilFunc] := tinfo_mk inf153 rfl
instance tz153 : TZero Tryz.prog 153 (.agg #[.pointer none, .int .i64 0, .nilFunc]) := tzero_mk inf153
instance tf153_0 : TField Tryz.prog 153 0 0 := tfield_mk Tryz.underlying153 rfl rfl (by kernel_rfl)
instance tp153_0 : TPart Tryz.prog 153 0 0 1 false := tpart_mk Tryz.underlying153 rfl rfl (by kernel_rfl) Tryz.underlying71 rfl
instance tf153_1 : TField Tryz.prog 153 1 1 := tfield_mk Tryz.underlying153 rfl rfl (by kernel_rfl)
instance tp153_1 : TPart Tryz.prog 153 1 1 1 false := tpart_mk Tryz.underlying153 rfl rfl (by kernel_rfl) Tryz.underlying3 rfl
instance tf153_2 : TField Tryz.prog 153 2 2 := tfield_mk Tryz.underlying153 rfl rfl (by kernel_rfl)
instance tp153_2 : TPart Tryz.prog 153 2 2 1 false := tpart_mk Tryz.underlying153 rfl rfl (by kernel_rfl) Tryz.underlying36 rfl
instance tpl153 : TPlaces Tryz.prog 153 [(0, 1), (1, 1), (2, 1)] := tplaces_mk Tryz.underlying153 (by kernel_rfl) (by kernel_rfl)
instance und154 : TUnd Tryz.prog 154 (.struct #[⟨ "k", 71, 0, false, "", "conduit/chans", 0⟩, ⟨ "v", 3, 1, false, "", "conduit/chans", 8⟩, ⟨ "told", 36, 2, false, "", "conduit/chans", 16⟩]) := ⟨Tryz.underlying154⟩
theorem inf154 : (Tryz.prog.info? 154).map (fun i => (i.zero, i.size, i.bytes)) = some (some (.agg #[.pointer none, .int .i64 0, .nilFunc]), 3, 24) := by kernel_rfl
instance ti154 : TInfo Tryz.prog 154 3 24 [.pointer none, .int .i64 0, .nilFunc] := tinfo_mk inf154 rfl
instance tz154 : TZero Tryz.prog 154 (.agg #[.pointer none, .int .i64 0, .nilFunc]) := tzero_mk inf154
instance tf154_0 : TField Tryz.prog 154 0 0 := tfield_mk Tryz.underlying154 rfl rfl (by kernel_rfl)
instance tp154_0 : TPart Tryz.prog 154 0 0 1 false := tpart_mk Tryz.underlying154 rfl rfl (by kernel_rfl) Tryz.underlying71 rfl
instance tf154_1 : TField Tryz.prog 154 1 1 := tfield_mk Tryz.underlying154 rfl rfl (by kernel_rfl)
instance tp154_1 : TPart Tryz.prog 154 1 1 1 false := tpart_mk Tryz.underlying154 rfl rfl (by kernel_rfl) Tryz.underlying3 rfl
instance tf154_2 : TField Tryz.prog 154 2 2 := tfield_mk Tryz.underlying154 rfl rfl (by kernel_rfl)
instance tp154_2 : TPart Tryz.prog 154 2 2 1 false := tpart_mk Tryz.underlying154 rfl rfl (by kernel_rfl) Tryz.underlying36 rfl
instance tpl154 : TPlaces Tryz.prog 154 [(0, 1), (1, 1), (2, 1)] := tplaces_mk Tryz.underlying154 (by kernel_rfl) (by kernel_rfl)
instance und155 : TUnd Tryz.prog 155 (.func #[180] #[146] true) := ⟨Tryz.underlying155⟩
theorem inf155 : (Tryz.prog.info? 155).map (fun i => (i.zero, i.size, i.bytes)) = some (some (.nilFunc), 1, 8) := by kernel_rfl
instance ti155 : TInfo Tryz.prog 155 1 8 [.nilFunc] := tinfo_mk inf155 rfl
instance tz155 : TZero Tryz.prog 155 (.nilFunc) := tzero_mk inf155
instance und156 : TUnd Tryz.prog 156 (.struct #[⟨ "k", 71, 0, false, "", "conduit/chans", 0⟩, ⟨ "told", 39, 1, false, "", "conduit/chans", 8⟩]) := ⟨Tryz.underlying156⟩
theorem inf156 : (Tryz.prog.info? 156).map (fun i => (i.zero, i.size, i.bytes)) = some (some (.agg #[.pointer none, .nilFunc]), 2, 16) := by kernel_rfl
instance ti156 : TInfo Tryz.prog 156 2 16 [.pointer none, .nilFunc] := tinfo_mk inf156 rfl
instance tz156 : TZero Tryz.prog 156 (.agg #[.pointer none, .nilFunc]) := tzero_mk inf156
instance tf156_0 : TField Tryz.prog 156 0 0 := tfield_mk Tryz.underlying156 rfl rfl (by kernel_rfl)
instance tp156_0 : TPart Tryz.prog 156 0 0 1 false := tpart_mk Tryz.underlying156 rfl rfl (by kernel_rfl) Tryz.underlying71 rfl
instance tf156_1 : TField Tryz.prog 156 1 1 := tfield_mk Tryz.underlying156 rfl rfl (by kernel_rfl)
instance tp156_1 : TPart Tryz.prog 156 1 1 1 false := tpart_mk Tryz.underlying156 rfl rfl (by kernel_rfl) Tryz.underlying39 rfl
instance tpl156 : TPlaces Tryz.prog 156 [(0, 1), (1, 1)] := tplaces_mk Tryz.underlying156 (by kernel_rfl) (by kernel_rfl)
instance und157 : TUnd Tryz.prog 157 (.struct #[⟨ "k", 71, 0, false, "", "conduit/chans", 0⟩, ⟨ "told", 39, 1, false, "", "conduit/chans", 8⟩]) := ⟨Tryz.underlying157⟩
theorem inf157 : (Tryz.prog.info? 157).map (fun i => (i.zero, i.size, i.bytes)) = some (some (.agg #[.pointer none, .nilFunc]), 2, 16) := by kernel_rfl
instance ti157 : TInfo Tryz.prog 157 2 16 [.pointer none, .nilFunc] := tinfo_mk inf157 rfl
instance tz157 : TZero Tryz.prog 157 (.agg #[.pointer none, .nilFunc]) := tzero_mk inf157
instance tf157_0 : TField Tryz.prog 157 0 0 := tfield_mk Tryz.underlying157 rfl rfl (by kernel_rfl)
instance tp157_0 : TPart Tryz.prog 157 0 0 1 false := tpart_mk Tryz.underlying157 rfl rfl (by kernel_rfl) Tryz.underlying71 rfl
instance tf157_1 : TField Tryz.prog 157 1 1 := tfield_mk Tryz.underlying157 rfl rfl (by kernel_rfl)
instance tp157_1 : TPart Tryz.prog 157 1 1 1 false := tpart_mk Tryz.underlying157 rfl rfl (by kernel_rfl) Tryz.underlying39 rfl
instance tpl157 : TPlaces Tryz.prog 157 [(0, 1), (1, 1)] := tplaces_mk Tryz.underlying157 (by kernel_rfl) (by kernel_rfl)
instance und158 : TUnd Tryz.prog 158 (.func #[34, 26] #[29] false) := ⟨Tryz.underlying158⟩
theorem inf158 : (Tryz.prog.info? 158).map (fun i => (i.zero, i.size, i.bytes)) = some (some (.nilFunc), 1, 8) := by kernel_rfl
instance ti158 : TInfo Tryz.prog 158 1 8 [.nilFunc] := tinfo_mk inf158 rfl
instance tz158 : TZero Tryz.prog 158 (.nilFunc) := tzero_mk inf158
instance und159 : TUnd Tryz.prog 159 (.func #[135] #[29] false) := ⟨Tryz.underlying159⟩
theorem inf159 : (Tryz.prog.info? 159).map (fun i => (i.zero, i.size, i.bytes)) = some (some (.nilFunc), 1, 8) := by kernel_rfl
instance ti159 : TInfo Tryz.prog 159 1 8 [.nilFunc] := tinfo_mk inf159 rfl
instance tz159 : TZero Tryz.prog 159 (.nilFunc) := tzero_mk inf159
instance und160 : TUnd Tryz.prog 160 (.func #[3] #[29] false) := ⟨Tryz.underlying160⟩
theorem inf160 : (Tryz.prog.info? 160).map (fun i => (i.zero, i.size, i.bytes)) = some (some (.nilFunc), 1, 8) := by kernel_rfl
instance ti160 : TInfo Tryz.prog 160 1 8 [.nilFunc] := tinfo_mk inf160 rfl
instance tz160 : TZero Tryz.prog 160 (.nilFunc) := tzero_mk inf160
instance und161 : TUnd Tryz.prog 161 (.struct #[⟨ "r", 26, 0, false, "", "conduit/csp", 0⟩, ⟨ "id", 3, 1, false, "", "conduit/csp", 8⟩, ⟨ "next", 1, 2, false, "", "conduit/csp", 16⟩, ⟨ "wake", 135, 3, false, "", "conduit/csp", 24⟩, ⟨ "said", 4, 4, false, "", "conduit/csp", 32⟩, ⟨ "parked", 4, 5, false, "", "conduit/csp", 33⟩, ⟨ "over", 4, 6, false, "", "conduit/csp", 34⟩]) := ⟨Tryz.underlying161⟩
theorem inf161 : (Tryz.prog.info? 161).map (fun i => (i.zero, i.size, i.bytes)) = some (some (.agg #[.pointer none, .int .i64 0, .nilFunc, .nilFunc, .bool false, .bool false, .bool false]), 7, 40) := by kernel_rfl
instance ti161 : TInfo Tryz.prog 161 7 40 [.pointer none, .int .i64 0, .nilFunc, .nilFunc, .bool false, .bool false, .bool false] := tinfo_mk inf161 rfl
instance tz161 : TZero Tryz.prog 161 (.agg #[.pointer none, .int .i64 0, .nilFunc, .nilFunc, .bool false, .bool false, .bool false]) := tzero_mk inf161
instance tf161_0 : TField Tryz.prog 161 0 0 := tfield_mk Tryz.underlying161 rfl rfl (by kernel_rfl)
instance tp161_0 : TPart Tryz.prog 161 0 0 1 false := tpart_mk Tryz.underlying161 rfl rfl (by kernel_rfl) Tryz.underlying26 rfl
instance tf161_1 : TField Tryz.prog 161 1 1 := tfield_mk Tryz.underlying161 rfl rfl (by kernel_rfl)
instance tp161_1 : TPart Tryz.prog 161 1 1 1 false := tpart_mk Tryz.underlying161 rfl rfl (by kernel_rfl) Tryz.underlying3 rfl
instance tf161_2 : TField Tryz.prog 161 2 2 := tfield_mk Tryz.underlying161 rfl rfl (by kernel_rfl)
instance tp161_2 : TPart Tryz.prog 161 2 2 1 false := tpart_mk Tryz.underlying161 rfl rfl (by kernel_rfl) Tryz.underlying1 rfl
instance tf161_3 : TField Tryz.prog 161 3 3 := tfield_mk Tryz.underlying161 rfl rfl (by kernel_rfl)
instance tp161_3 : TPart Tryz.prog 161 3 3 1 false := tpart_mk Tryz.underlying161 rfl rfl (by kernel_rfl) Tryz.underlying135 rfl
instance tf161_4 : TField Tryz.prog 161 4 4 := tfield_mk Tryz.underlying161 rfl rfl (by kernel_rfl)
instance tp161_4 : TPart Tryz.prog 161 4 4 1 false := tpart_mk Tryz.underlying161 rfl rfl (by kernel_rfl) Tryz.underlying4 rfl
instance tf161_5 : TField Tryz.prog 161 5 5 := tfield_mk Tryz.underlying161 rfl rfl (by kernel_rfl)
instance tp161_5 : TPart Tryz.prog 161 5 5 1 false := tpart_mk Tryz.underlying161 rfl rfl (by kernel_rfl) Tryz.underlying4 rfl
instance tf161_6 : TField Tryz.prog 161 6 6 := tfield_mk Tryz.underlying161 rfl rfl (by kernel_rfl)
instance tp161_6 : TPart Tryz.prog 161 6 6 1 false := tpart_mk Tryz.underlying161 rfl rfl (by kernel_rfl) Tryz.underlying4 rfl
instance tpl161 : TPlaces Tryz.prog 161 [(0, 1), (1, 1), (2, 1), (3, 1), (4, 1), (5, 1), (6, 1)] := tplaces_mk Tryz.underlying161 (by kernel_rfl) (by kernel_rfl)
instance und162 : TUnd Tryz.prog 162 (.struct #[⟨ "r", 26, 0, false, "", "conduit/csp", 0⟩, ⟨ "id", 3, 1, false, "", "conduit/csp", 8⟩, ⟨ "next", 1, 2, false, "", "conduit/csp", 16⟩, ⟨ "wake", 135, 3, false, "", "conduit/csp", 24⟩, ⟨ "said", 4, 4, false, "", "conduit/csp", 32⟩, ⟨ "parked", 4, 5, false, "", "conduit/csp", 33⟩, ⟨ "over", 4, 6, false, "", "conduit/csp", 34⟩]) := ⟨Tryz.underlying162⟩
theorem inf162 : (Tryz.prog.info? 162).map (fun i => (i.zero, i.size, i.bytes)) = some (some (.agg #[.pointer none, .int .i64 0, .nilFunc, .nilFunc, .bool false, .bool false, .bool false]), 7, 40) := by kernel_rfl
instance ti162 : TInfo Tryz.prog 162 7 40 [.pointer none, .int .i64 0, .nilFunc, .nilFunc, .bool false, .bool false, .bool false] := tinfo_mk inf162 rfl
instance tz162 : TZero Tryz.prog 162 (.agg #[.pointer none, .int .i64 0, .nilFunc, .nilFunc, .bool false, .bool false, .bool false]) := tzero_mk inf162
instance tf162_0 : TField Tryz.prog 162 0 0 := tfield_mk Tryz.underlying162 rfl rfl (by kernel_rfl)
instance tp162_0 : TPart Tryz.prog 162 0 0 1 false := tpart_mk Tryz.underlying162 rfl rfl (by kernel_rfl) Tryz.underlying26 rfl
instance tf162_1 : TField Tryz.prog 162 1 1 := tfield_mk Tryz.underlying162 rfl rfl (by kernel_rfl)
instance tp162_1 : TPart Tryz.prog 162 1 1 1 false := tpart_mk Tryz.underlying162 rfl rfl (by kernel_rfl) Tryz.underlying3 rfl
instance tf162_2 : TField Tryz.prog 162 2 2 := tfield_mk Tryz.underlying162 rfl rfl (by kernel_rfl)
instance tp162_2 : TPart Tryz.prog 162 2 2 1 false := tpart_mk Tryz.underlying162 rfl rfl (by kernel_rfl) Tryz.underlying1 rfl
instance tf162_3 : TField Tryz.prog 162 3 3 := tfield_mk Tryz.underlying162 rfl rfl (by kernel_rfl)
instance tp162_3 : TPart Tryz.prog 162 3 3 1 false := tpart_mk Tryz.underlying162 rfl rfl (by kernel_rfl) Tryz.underlying135 rfl
instance tf162_4 : TField Tryz.prog 162 4 4 := tfield_mk Tryz.underlying162 rfl rfl (by kernel_rfl)
instance tp162_4 : TPart Tryz.prog 162 4 4 1 false := tpart_mk Tryz.underlying162 rfl rfl (by kernel_rfl) Tryz.underlying4 rfl
instance tf162_5 : TField Tryz.prog 162 5 5 := tfield_mk Tryz.underlying162 rfl rfl (by kernel_rfl)
instance tp162_5 : TPart Tryz.prog 162 5 5 1 false := tpart_mk Tryz.underlying162 rfl rfl (by kernel_rfl) Tryz.underlying4 rfl
instance tf162_6 : TField Tryz.prog 162 6 6 := tfield_mk Tryz.underlying162 rfl rfl (by kernel_rfl)
instance tp162_6 : TPart Tryz.prog 162 6 6 1 false := tpart_mk Tryz.underlying162 rfl rfl (by kernel_rfl) Tryz.underlying4 rfl
instance tpl162 : TPlaces Tryz.prog 162 [(0, 1), (1, 1), (2, 1), (3, 1), (4, 1), (5, 1), (6, 1)] := tplaces_mk Tryz.underlying162 (by kernel_rfl) (by kernel_rfl)
instance und163 : TUnd Tryz.prog 163 (.tuple #[3, 43, 4]) := ⟨Tryz.underlying163⟩
instance und164 : TUnd Tryz.prog 164 (.func #[43] #[3, 43, 4] false) := ⟨Tryz.underlying164⟩
theorem inf164 : (Tryz.prog.info? 164).map (fun i => (i.zero, i.size, i.bytes)) = some (some (.nilFunc), 1, 8) := by kernel_rfl
instance ti164 : TInfo Tryz.prog 164 1 8 [.nilFunc] := tinfo_mk inf164 rfl
instance tz164 : TZero Tryz.prog 164 (.nilFunc) := tzero_mk inf164
instance und165 : TUnd Tryz.prog 165 (.slice 247) := ⟨Tryz.underlying165⟩
theorem inf165 : (Tryz.prog.info? 165).map (fun i => (i.zero, i.size, i.bytes)) = some (some (.slice none 0 0), 1, 24) := by kernel_rfl
instance ti165 : TInfo Tryz.prog 165 1 24 [.slice none 0 0] := tinfo_mk inf165 rfl
instance tz165 : TZero Tryz.prog 165 (.slice none 0 0) := tzero_mk inf165
instance und166 : TUnd Tryz.prog 166 (.struct #[⟨ "Kind", 3, 0, false, "", "", 0⟩, ⟨ "C", 3, 1, false, "", "", 8⟩, ⟨ "V", 3, 2, false, "", "", 16⟩, ⟨ "Cases", 165, 3, false, "", "", 24⟩, ⟨ "Default", 4, 4, false, "", "", 48⟩]) := ⟨Tryz.underlying166⟩
theorem inf166 : (Tryz.prog.info? 166).map (fun i => (i.zero, i.size, i.bytes)) = some (some (.agg #[.int .i64 0, .int .i64 0, .int .i64 0, .slice none 0 0, .bool false]), 5, 56) := by kernel_rfl
instance ti166 : TInfo Tryz.prog 166 5 56 [.int .i64 0, .int .i64 0, .int .i64 0, .slice none 0 0, .bool false] := tinfo_mk inf166 rfl
instance tz166 : TZero Tryz.prog 166 (.agg #[.int .i64 0, .int .i64 0, .int .i64 0, .slice none 0 0, .bool false]) := tzero_mk inf166
instance tf166_0 : TField Tryz.prog 166 0 0 := tfield_mk Tryz.underlying166 rfl rfl (by kernel_rfl)
instance tp166_0 : TPart Tryz.prog 166 0 0 1 false := tpart_mk Tryz.underlying166 rfl rfl (by kernel_rfl) Tryz.underlying3 rfl
instance tf166_1 : TField Tryz.prog 166 1 1 := tfield_mk Tryz.underlying166 rfl rfl (by kernel_rfl)
instance tp166_1 : TPart Tryz.prog 166 1 1 1 false := tpart_mk Tryz.underlying166 rfl rfl (by kernel_rfl) Tryz.underlying3 rfl
instance tf166_2 : TField Tryz.prog 166 2 2 := tfield_mk Tryz.underlying166 rfl rfl (by kernel_rfl)
instance tp166_2 : TPart Tryz.prog 166 2 2 1 false := tpart_mk Tryz.underlying166 rfl rfl (by kernel_rfl) Tryz.underlying3 rfl
instance tf166_3 : TField Tryz.prog 166 3 3 := tfield_mk Tryz.underlying166 rfl rfl (by kernel_rfl)
instance tp166_3 : TPart Tryz.prog 166 3 3 1 false := tpart_mk Tryz.underlying166 rfl rfl (by kernel_rfl) Tryz.underlying165 rfl
instance tf166_4 : TField Tryz.prog 166 4 4 := tfield_mk Tryz.underlying166 rfl rfl (by kernel_rfl)
instance tp166_4 : TPart Tryz.prog 166 4 4 1 false := tpart_mk Tryz.underlying166 rfl rfl (by kernel_rfl) Tryz.underlying4 rfl
instance tpl166 : TPlaces Tryz.prog 166 [(0, 1), (1, 1), (2, 1), (3, 1), (4, 1)] := tplaces_mk Tryz.underlying166 (by kernel_rfl) (by kernel_rfl)
instance und167 : TUnd Tryz.prog 167 (.struct #[⟨ "Kind", 3, 0, false, "", "", 0⟩, ⟨ "C", 3, 1, false, "", "", 8⟩, ⟨ "V", 3, 2, false, "", "", 16⟩, ⟨ "Cases", 165, 3, false, "", "", 24⟩, ⟨ "Default", 4, 4, false, "", "", 48⟩]) := ⟨Tryz.underlying167⟩
theorem inf167 : (Tryz.prog.info? 167).map (fun i => (i.zero, i.size, i.bytes)) = some (some (.agg #[.int .i64 0, .int .i64 0, .int .i64 0, .slice none 0 0, .bool false]), 5, 56) := by kernel_rfl
instance ti167 : TInfo Tryz.prog 167 5 56 [.int .i64 0, .int .i64 0, .int .i64 0, .slice none 0 0, .bool false] := tinfo_mk inf167 rfl
instance tz167 : TZero Tryz.prog 167 (.agg #[.int .i64 0, .int .i64 0, .int .i64 0, .slice none 0 0, .bool false]) := tzero_mk inf167
instance tf167_0 : TField Tryz.prog 167 0 0 := tfield_mk Tryz.underlying167 rfl rfl (by kernel_rfl)
instance tp167_0 : TPart Tryz.prog 167 0 0 1 false := tpart_mk Tryz.underlying167 rfl rfl (by kernel_rfl) Tryz.underlying3 rfl
instance tf167_1 : TField Tryz.prog 167 1 1 := tfield_mk Tryz.underlying167 rfl rfl (by kernel_rfl)
instance tp167_1 : TPart Tryz.prog 167 1 1 1 false := tpart_mk Tryz.underlying167 rfl rfl (by kernel_rfl) Tryz.underlying3 rfl
instance tf167_2 : TField Tryz.prog 167 2 2 := tfield_mk Tryz.underlying167 rfl rfl (by kernel_rfl)
instance tp167_2 : TPart Tryz.prog 167 2 2 1 false := tpart_mk Tryz.underlying167 rfl rfl (by kernel_rfl) Tryz.underlying3 rfl
instance tf167_3 : TField Tryz.prog 167 3 3 := tfield_mk Tryz.underlying167 rfl rfl (by kernel_rfl)
instance tp167_3 : TPart Tryz.prog 167 3 3 1 false := tpart_mk Tryz.underlying167 rfl rfl (by kernel_rfl) Tryz.underlying165 rfl
instance tf167_4 : TField Tryz.prog 167 4 4 := tfield_mk Tryz.underlying167 rfl rfl (by kernel_rfl)
instance tp167_4 : TPart Tryz.prog 167 4 4 1 false := tpart_mk Tryz.underlying167 rfl rfl (by kernel_rfl) Tryz.underlying4 rfl
instance tpl167 : TPlaces Tryz.prog 167 [(0, 1), (1, 1), (2, 1), (3, 1), (4, 1)] := tplaces_mk Tryz.underlying167 (by kernel_rfl) (by kernel_rfl)
instance und168 : TUnd Tryz.prog 168 (.slice 167) := ⟨Tryz.underlying168⟩
theorem inf168 : (Tryz.prog.info? 168).map (fun i => (i.zero, i.size, i.bytes)) = some (some (.slice none 0 0), 1, 24) := by kernel_rfl
instance ti168 : TInfo Tryz.prog 168 1 24 [.slice none 0 0] := tinfo_mk inf168 rfl
instance tz168 : TZero Tryz.prog 168 (.slice none 0 0) := tzero_mk inf168
instance und169 : TUnd Tryz.prog 169 (.func #[34, 3, 3, 171] #[] false) := ⟨Tryz.underlying169⟩
theorem inf169 : (Tryz.prog.info? 169).map (fun i => (i.zero, i.size, i.bytes)) = some (some (.nilFunc), 1, 8) := by kernel_rfl
instance ti169 : TInfo Tryz.prog 169 1 8 [.nilFunc] := tinfo_mk inf169 rfl
instance tz169 : TZero Tryz.prog 169 (.nilFunc) := tzero_mk inf169
instance und170 : TUnd Tryz.prog 170 (.struct #[⟨ "Case", 3, 0, false, "", "", 0⟩, ⟨ "V", 3, 1, false, "", "", 8⟩, ⟨ "Ok", 4, 2, false, "", "", 16⟩]) := ⟨Tryz.underlying170⟩
theorem inf170 : (Tryz.prog.info? 170).map (fun i => (i.zero, i.size, i.bytes)) = some (some (.agg #[.int .i64 0, .int .i64 0, .bool false]), 3, 24) := by kernel_rfl
instance ti170 : TInfo Tryz.prog 170 3 24 [.int .i64 0, .int .i64 0, .bool false] := tinfo_mk inf170 rfl
instance tz170 : TZero Tryz.prog 170 (.agg #[.int .i64 0, .int .i64 0, .bool false]) := tzero_mk inf170
instance tf170_0 : TField Tryz.prog 170 0 0 := tfield_mk Tryz.underlying170 rfl rfl (by kernel_rfl)
instance tp170_0 : TPart Tryz.prog 170 0 0 1 false := tpart_mk Tryz.underlying170 rfl rfl (by kernel_rfl) Tryz.underlying3 rfl
instance tf170_1 : TField Tryz.prog 170 1 1 := tfield_mk Tryz.underlying170 rfl rfl (by kernel_rfl)
instance tp170_1 : TPart Tryz.prog 170 1 1 1 false := tpart_mk Tryz.underlying170 rfl rfl (by kernel_rfl) Tryz.underlying3 rfl
instance tf170_2 : TField Tryz.prog 170 2 2 := tfield_mk Tryz.underlying170 rfl rfl (by kernel_rfl)
instance tp170_2 : TPart Tryz.prog 170 2 2 1 false := tpart_mk Tryz.underlying170 rfl rfl (by kernel_rfl) Tryz.underlying4 rfl
instance tpl170 : TPlaces Tryz.prog 170 [(0, 1), (1, 1), (2, 1)] := tplaces_mk Tryz.underlying170 (by kernel_rfl) (by kernel_rfl)
instance und171 : TUnd Tryz.prog 171 (.struct #[⟨ "Case", 3, 0, false, "", "", 0⟩, ⟨ "V", 3, 1, false, "", "", 8⟩, ⟨ "Ok", 4, 2, false, "", "", 16⟩]) := ⟨Tryz.underlying171⟩
theorem inf171 : (Tryz.prog.info? 171).map (fun i => (i.zero, i.size, i.bytes)) = some (some (.agg #[.int .i64 0, .int .i64 0, .bool false]), 3, 24) := by kernel_rfl
instance ti171 : TInfo Tryz.prog 171 3 24 [.int .i64 0, .int .i64 0, .bool false] := tinfo_mk inf171 rfl
instance tz171 : TZero Tryz.prog 171 (.agg #[.int .i64 0, .int .i64 0, .bool false]) := tzero_mk inf171
instance tf171_0 : TField Tryz.prog 171 0 0 := tfield_mk Tryz.underlying171 rfl rfl (by kernel_rfl)
instance tp171_0 : TPart Tryz.prog 171 0 0 1 false := tpart_mk Tryz.underlying171 rfl rfl (by kernel_rfl) Tryz.underlying3 rfl
instance tf171_1 : TField Tryz.prog 171 1 1 := tfield_mk Tryz.underlying171 rfl rfl (by kernel_rfl)
instance tp171_1 : TPart Tryz.prog 171 1 1 1 false := tpart_mk Tryz.underlying171 rfl rfl (by kernel_rfl) Tryz.underlying3 rfl
instance tf171_2 : TField Tryz.prog 171 2 2 := tfield_mk Tryz.underlying171 rfl rfl (by kernel_rfl)
instance tp171_2 : TPart Tryz.prog 171 2 2 1 false := tpart_mk Tryz.underlying171 rfl rfl (by kernel_rfl) Tryz.underlying4 rfl
instance tpl171 : TPlaces Tryz.prog 171 [(0, 1), (1, 1), (2, 1)] := tplaces_mk Tryz.underlying171 (by kernel_rfl) (by kernel_rfl)
instance und173 : TUnd Tryz.prog 173 (.func #[] #[157, 4] false) := ⟨Tryz.underlying173⟩
theorem inf173 : (Tryz.prog.info? 173).map (fun i => (i.zero, i.size, i.bytes)) = some (some (.nilFunc), 1, 8) := by kernel_rfl
instance ti173 : TInfo Tryz.prog 173 1 8 [.nilFunc] := tinfo_mk inf173 rfl
instance tz173 : TZero Tryz.prog 173 (.nilFunc) := tzero_mk inf173
instance und174 : TUnd Tryz.prog 174 (.struct #[⟨ "fire", 1, 0, false, "", "conduit/chans", 0⟩, ⟨ "fired", 4, 1, false, "", "conduit/chans", 8⟩]) := ⟨Tryz.underlying174⟩
theorem inf174 : (Tryz.prog.info? 174).map (fun i => (i.zero, i.size, i.bytes)) = some (some (.agg #[.nilFunc, .bool false]), 2, 16) := by kernel_rfl
instance ti174 : TInfo Tryz.prog 174 2 16 [.nilFunc, .bool false] := tinfo_mk inf174 rfl
instance tz174 : TZero Tryz.prog 174 (.agg #[.nilFunc, .bool false]) := tzero_mk inf174
instance tf174_0 : TField Tryz.prog 174 0 0 := tfield_mk Tryz.underlying174 rfl rfl (by kernel_rfl)
instance tp174_0 : TPart Tryz.prog 174 0 0 1 false := tpart_mk Tryz.underlying174 rfl rfl (by kernel_rfl) Tryz.underlying1 rfl
instance tf174_1 : TField Tryz.prog 174 1 1 := tfield_mk Tryz.underlying174 rfl rfl (by kernel_rfl)
instance tp174_1 : TPart Tryz.prog 174 1 1 1 false := tpart_mk Tryz.underlying174 rfl rfl (by kernel_rfl) Tryz.underlying4 rfl
instance tpl174 : TPlaces Tryz.prog 174 [(0, 1), (1, 1)] := tplaces_mk Tryz.underlying174 (by kernel_rfl) (by kernel_rfl)
instance und175 : TUnd Tryz.prog 175 (.struct #[⟨ "fire", 1, 0, false, "", "conduit/chans", 0⟩, ⟨ "fired", 4, 1, false, "", "conduit/chans", 8⟩]) := ⟨Tryz.underlying175⟩
theorem inf175 : (Tryz.prog.info? 175).map (fun i => (i.zero, i.size, i.bytes)) = some (some (.agg #[.nilFunc, .bool false]), 2, 16) := by kernel_rfl
instance ti175 : TInfo Tryz.prog 175 2 16 [.nilFunc, .bool false] := tinfo_mk inf175 rfl
instance tz175 : TZero Tryz.prog 175 (.agg #[.nilFunc, .bool false]) := tzero_mk inf175
instance tf175_0 : TField Tryz.prog 175 0 0 := tfield_mk Tryz.underlying175 rfl rfl (by kernel_rfl)
instance tp175_0 : TPart Tryz.prog 175 0 0 1 false := tpart_mk Tryz.underlying175 rfl rfl (by kernel_rfl) Tryz.underlying1 rfl
instance tf175_1 : TField Tryz.prog 175 1 1 := tfield_mk Tryz.underlying175 rfl rfl (by kernel_rfl)
instance tp175_1 : TPart Tryz.prog 175 1 1 1 false := tpart_mk Tryz.underlying175 rfl rfl (by kernel_rfl) Tryz.underlying4 rfl
instance tpl175 : TPlaces Tryz.prog 175 [(0, 1), (1, 1)] := tplaces_mk Tryz.underlying175 (by kernel_rfl) (by kernel_rfl)
instance und177 : TUnd Tryz.prog 177 (.func #[] #[154, 4] false) := ⟨Tryz.underlying177⟩
theorem inf177 : (Tryz.prog.info? 177).map (fun i => (i.zero, i.size, i.bytes)) = some (some (.nilFunc), 1, 8) := by kernel_rfl
instance ti177 : TInfo Tryz.prog 177 1 8 [.nilFunc] := tinfo_mk inf177 rfl
instance tz177 : TZero Tryz.prog 177 (.nilFunc) := tzero_mk inf177
instance und178 : TUnd Tryz.prog 178 (.func #[] #[3, 4] false) := ⟨Tryz.underlying178⟩
theorem inf178 : (Tryz.prog.info? 178).map (fun i => (i.zero, i.size, i.bytes)) = some (some (.nilFunc), 1, 8) := by kernel_rfl
instance ti178 : TInfo Tryz.prog 178 1 8 [.nilFunc] := tinfo_mk inf178 rfl
instance tz178 : TZero Tryz.prog 178 (.nilFunc) := tzero_mk inf178
instance und179 : TUnd Tryz.prog 179 (.func #[180, 182] #[4] false) := ⟨Tryz.underlying179⟩
theorem inf179 : (Tryz.prog.info? 179).map (fun i => (i.zero, i.size, i.bytes)) = some (some (.nilFunc), 1, 8) := by kernel_rfl
instance ti179 : TInfo Tryz.prog 179 1 8 [.nilFunc] := tinfo_mk inf179 rfl
instance tz179 : TZero Tryz.prog 179 (.nilFunc) := tzero_mk inf179
instance und180 : TUnd Tryz.prog 180 (.slice 157) := ⟨Tryz.underlying180⟩
theorem inf180 : (Tryz.prog.info? 180).map (fun i => (i.zero, i.size, i.bytes)) = some (some (.slice none 0 0), 1, 24) := by kernel_rfl
instance ti180 : TInfo Tryz.prog 180 1 24 [.slice none 0 0] := tinfo_mk inf180 rfl
instance tz180 : TZero Tryz.prog 180 (.slice none 0 0) := tzero_mk inf180
instance und181 : TUnd Tryz.prog 181 (.func #[] #[180] false) := ⟨Tryz.underlying181⟩
theorem inf181 : (Tryz.prog.info? 181).map (fun i => (i.zero, i.size, i.bytes)) = some (some (.nilFunc), 1, 8) := by kernel_rfl
instance ti181 : TInfo Tryz.prog 181 1 8 [.nilFunc] := tinfo_mk inf181 rfl
instance tz181 : TZero Tryz.prog 181 (.nilFunc) := tzero_mk inf181
instance und182 : TUnd Tryz.prog 182 (.func #[157] #[4] false) := ⟨Tryz.underlying182⟩
theorem inf182 : (Tryz.prog.info? 182).map (fun i => (i.zero, i.size, i.bytes)) = some (some (.nilFunc), 1, 8) := by kernel_rfl
instance ti182 : TInfo Tryz.prog 182 1 8 [.nilFunc] := tinfo_mk inf182 rfl
instance tz182 : TZero Tryz.prog 182 (.nilFunc) := tzero_mk inf182
instance und183 : TUnd Tryz.prog 183 (.func #[154] #[] false) := ⟨Tryz.underlying183⟩
theorem inf183 : (Tryz.prog.info? 183).map (fun i => (i.zero, i.size, i.bytes)) = some (some (.nilFunc), 1, 8) := by kernel_rfl
instance ti183 : TInfo Tryz.prog 183 1 8 [.nilFunc] := tinfo_mk inf183 rfl
instance tz183 : TZero Tryz.prog 183 (.nilFunc) := tzero_mk inf183
instance und184 : TUnd Tryz.prog 184 (.func #[185, 187] #[4] false) := ⟨Tryz.underlying184⟩
theorem inf184 : (Tryz.prog.info? 184).map (fun i => (i.zero, i.size, i.bytes)) = some (some (.nilFunc), 1, 8) := by kernel_rfl
instance ti184 : TInfo Tryz.prog 184 1 8 [.nilFunc] := tinfo_mk inf184 rfl
instance tz184 : TZero Tryz.prog 184 (.nilFunc) := tzero_mk inf184
instance und185 : TUnd Tryz.prog 185 (.slice 154) := ⟨Tryz.underlying185⟩
theorem inf185 : (Tryz.prog.info? 185).map (fun i => (i.zero, i.size, i.bytes)) = some (some (.slice none 0 0), 1, 24) := by kernel_rfl
instance ti185 : TInfo Tryz.prog 185 1 24 [.slice none 0 0] := tinfo_mk inf185 rfl
instance tz185 : TZero Tryz.prog 185 (.slice none 0 0) := tzero_mk inf185
instance und186 : TUnd Tryz.prog 186 (.func #[] #[185] false) := ⟨Tryz.underlying186⟩
theorem inf186 : (Tryz.prog.info? 186).map (fun i => (i.zero, i.size, i.bytes)) = some (some (.nilFunc), 1, 8) := by kernel_rfl
instance ti186 : TInfo Tryz.prog 186 1 8 [.nilFunc] := tinfo_mk inf186 rfl
instance tz186 : TZero Tryz.prog 186 (.nilFunc) := tzero_mk inf186
instance und187 : TUnd Tryz.prog 187 (.func #[154] #[4] false) := ⟨Tryz.underlying187⟩
theorem inf187 : (Tryz.prog.info? 187).map (fun i => (i.zero, i.size, i.bytes)) = some (some (.nilFunc), 1, 8) := by kernel_rfl
instance ti187 : TInfo Tryz.prog 187 1 8 [.nilFunc] := tinfo_mk inf187 rfl
instance tz187 : TZero Tryz.prog 187 (.nilFunc) := tzero_mk inf187
instance und188 : TUnd Tryz.prog 188 (.func #[157] #[] false) := ⟨Tryz.underlying188⟩
theorem inf188 : (Tryz.prog.info? 188).map (fun i => (i.zero, i.size, i.bytes)) = some (some (.nilFunc), 1, 8) := by kernel_rfl
instance ti188 : TInfo Tryz.prog 188 1 8 [.nilFunc] := tinfo_mk inf188 rfl
instance tz188 : TZero Tryz.prog 188 (.nilFunc) := tzero_mk inf188
instance und189 : TUnd Tryz.prog 189 (.func #[187] #[3] false) := ⟨Tryz.underlying189⟩
theorem inf189 : (Tryz.prog.info? 189).map (fun i => (i.zero, i.size, i.bytes)) = some (some (.nilFunc), 1, 8) := by kernel_rfl
instance ti189 : TInfo Tryz.prog 189 1 8 [.nilFunc] := tinfo_mk inf189 rfl
instance tz189 : TZero Tryz.prog 189 (.nilFunc) := tzero_mk inf189
instance und190 : TUnd Tryz.prog 190 (.func #[182] #[3] false) := ⟨Tryz.underlying190⟩
theorem inf190 : (Tryz.prog.info? 190).map (fun i => (i.zero, i.size, i.bytes)) = some (some (.nilFunc), 1, 8) := by kernel_rfl
instance ti190 : TInfo Tryz.prog 190 1 8 [.nilFunc] := tinfo_mk inf190 rfl
instance tz190 : TZero Tryz.prog 190 (.nilFunc) := tzero_mk inf190
instance und191 : TUnd Tryz.prog 191 (.struct #[⟨ "at", 2, 0, false, "", "conduit/timer", 0⟩, ⟨ "no", 3, 1, false, "", "conduit/timer", 8⟩, ⟨ "fire", 36, 2, false, "", "conduit/timer", 16⟩]) := ⟨Tryz.underlying191⟩
theorem inf191 : (Tryz.prog.info? 191).map (fun i => (i.zero, i.size, i.bytes)) = some (some (.agg #[.int .i64 0, .int .i64 0, .nilFunc]), 3, 24) := by kernel_rfl
instance ti191 : TInfo Tryz.prog 191 3 24 [.int .i64 0, .int .i64 0, .nilFunc] := tinfo_mk inf191 rfl
instance tz191 : TZero Tryz.prog 191 (.agg #[.int .i64 0, .int .i64 0, .nilFunc]) := tzero_mk inf191
instance tf191_0 : TField Tryz.prog 191 0 0 := tfield_mk Tryz.underlying191 rfl rfl (by kernel_rfl)
instance tp191_0 : TPart Tryz.prog 191 0 0 1 false := tpart_mk Tryz.underlying191 rfl rfl (by kernel_rfl) Tryz.underlying2 rfl
instance tf191_1 : TField Tryz.prog 191 1 1 := tfield_mk Tryz.underlying191 rfl rfl (by kernel_rfl)
instance tp191_1 : TPart Tryz.prog 191 1 1 1 false := tpart_mk Tryz.underlying191 rfl rfl (by kernel_rfl) Tryz.underlying3 rfl
instance tf191_2 : TField Tryz.prog 191 2 2 := tfield_mk Tryz.underlying191 rfl rfl (by kernel_rfl)
instance tp191_2 : TPart Tryz.prog 191 2 2 1 false := tpart_mk Tryz.underlying191 rfl rfl (by kernel_rfl) Tryz.underlying36 rfl
instance tpl191 : TPlaces Tryz.prog 191 [(0, 1), (1, 1), (2, 1)] := tplaces_mk Tryz.underlying191 (by kernel_rfl) (by kernel_rfl)
instance und192 : TUnd Tryz.prog 192 (.struct #[⟨ "at", 2, 0, false, "", "conduit/timer", 0⟩, ⟨ "no", 3, 1, false, "", "conduit/timer", 8⟩, ⟨ "fire", 36, 2, false, "", "conduit/timer", 16⟩]) := ⟨Tryz.underlying192⟩
theorem inf192 : (Tryz.prog.info? 192).map (fun i => (i.zero, i.size, i.bytes)) = some (some (.agg #[.int .i64 0, .int .i64 0, .nilFunc]), 3, 24) := by kernel_rfl
instance ti192 : TInfo Tryz.prog 192 3 24 [.int .i64 0, .int .i64 0, .nilFunc] := tinfo_mk inf192 rfl
instance tz192 : TZero Tryz.prog 192 (.agg #[.int .i64 0, .int .i64 0, .nilFunc]) := tzero_mk inf192
instance tf192_0 : TField Tryz.prog 192 0 0 := tfield_mk Tryz.underlying192 rfl rfl (by kernel_rfl)
instance tp192_0 : TPart Tryz.prog 192 0 0 1 false := tpart_mk Tryz.underlying192 rfl rfl (by kernel_rfl) Tryz.underlying2 rfl
instance tf192_1 : TField Tryz.prog 192 1 1 := tfield_mk Tryz.underlying192 rfl rfl (by kernel_rfl)
instance tp192_1 : TPart Tryz.prog 192 1 1 1 false := tpart_mk Tryz.underlying192 rfl rfl (by kernel_rfl) Tryz.underlying3 rfl
instance tf192_2 : TField Tryz.prog 192 2 2 := tfield_mk Tryz.underlying192 rfl rfl (by kernel_rfl)
instance tp192_2 : TPart Tryz.prog 192 2 2 1 false := tpart_mk Tryz.underlying192 rfl rfl (by kernel_rfl) Tryz.underlying36 rfl
instance tpl192 : TPlaces Tryz.prog 192 [(0, 1), (1, 1), (2, 1)] := tplaces_mk Tryz.underlying192 (by kernel_rfl) (by kernel_rfl)
instance und193 : TUnd Tryz.prog 193 (.func #[3] #[192] false) := ⟨Tryz.underlying193⟩
theorem inf193 : (Tryz.prog.info? 193).map (fun i => (i.zero, i.size, i.bytes)) = some (some (.nilFunc), 1, 8) := by kernel_rfl
instance ti193 : TInfo Tryz.prog 193 1 8 [.nilFunc] := tinfo_mk inf193 rfl
instance tz193 : TZero Tryz.prog 193 (.nilFunc) := tzero_mk inf193
instance und194 : TUnd Tryz.prog 194 (.struct #[⟨ "At", 2, 0, false, "", "", 0⟩, ⟨ "Task", 3, 1, false, "", "", 8⟩, ⟨ "No", 3, 2, false, "", "", 16⟩]) := ⟨Tryz.underlying194⟩
theorem inf194 : (Tryz.prog.info? 194).map (fun i => (i.zero, i.size, i.bytes)) = some (some (.agg #[.int .i64 0, .int .i64 0, .int .i64 0]), 3, 24) := by kernel_rfl
instance ti194 : TInfo Tryz.prog 194 3 24 [.int .i64 0, .int .i64 0, .int .i64 0] := tinfo_mk inf194 rfl
instance tz194 : TZero Tryz.prog 194 (.agg #[.int .i64 0, .int .i64 0, .int .i64 0]) := tzero_mk inf194
instance tf194_0 : TField Tryz.prog 194 0 0 := tfield_mk Tryz.underlying194 rfl rfl (by kernel_rfl)
instance tp194_0 : TPart Tryz.prog 194 0 0 1 false := tpart_mk Tryz.underlying194 rfl rfl (by kernel_rfl) Tryz.underlying2 rfl
instance tf194_1 : TField Tryz.prog 194 1 1 := tfield_mk Tryz.underlying194 rfl rfl (by kernel_rfl)
instance tp194_1 : TPart Tryz.prog 194 1 1 1 false := tpart_mk Tryz.underlying194 rfl rfl (by kernel_rfl) Tryz.underlying3 rfl
instance tf194_2 : TField Tryz.prog 194 2 2 := tfield_mk Tryz.underlying194 rfl rfl (by kernel_rfl)
instance tp194_2 : TPart Tryz.prog 194 2 2 1 false := tpart_mk Tryz.underlying194 rfl rfl (by kernel_rfl) Tryz.underlying3 rfl
instance tpl194 : TPlaces Tryz.prog 194 [(0, 1), (1, 1), (2, 1)] := tplaces_mk Tryz.underlying194 (by kernel_rfl) (by kernel_rfl)
instance und195 : TUnd Tryz.prog 195 (.struct #[⟨ "At", 2, 0, false, "", "", 0⟩, ⟨ "Task", 3, 1, false, "", "", 8⟩, ⟨ "No", 3, 2, false, "", "", 16⟩]) := ⟨Tryz.underlying195⟩
theorem inf195 : (Tryz.prog.info? 195).map (fun i => (i.zero, i.size, i.bytes)) = some (some (.agg #[.int .i64 0, .int .i64 0, .int .i64 0]), 3, 24) := by kernel_rfl
instance ti195 : TInfo Tryz.prog 195 3 24 [.int .i64 0, .int .i64 0, .int .i64 0] := tinfo_mk inf195 rfl
instance tz195 : TZero Tryz.prog 195 (.agg #[.int .i64 0, .int .i64 0, .int .i64 0]) := tzero_mk inf195
instance tf195_0 : TField Tryz.prog 195 0 0 := tfield_mk Tryz.underlying195 rfl rfl (by kernel_rfl)
instance tp195_0 : TPart Tryz.prog 195 0 0 1 false := tpart_mk Tryz.underlying195 rfl rfl (by kernel_rfl) Tryz.underlying2 rfl
instance tf195_1 : TField Tryz.prog 195 1 1 := tfield_mk Tryz.underlying195 rfl rfl (by kernel_rfl)
instance tp195_1 : TPart Tryz.prog 195 1 1 1 false := tpart_mk Tryz.underlying195 rfl rfl (by kernel_rfl) Tryz.underlying3 rfl
instance tf195_2 : TField Tryz.prog 195 2 2 := tfield_mk Tryz.underlying195 rfl rfl (by kernel_rfl)
instance tp195_2 : TPart Tryz.prog 195 2 2 1 false := tpart_mk Tryz.underlying195 rfl rfl (by kernel_rfl) Tryz.underlying3 rfl
instance tpl195 : TPlaces Tryz.prog 195 [(0, 1), (1, 1), (2, 1)] := tplaces_mk Tryz.underlying195 (by kernel_rfl) (by kernel_rfl)
instance und196 : TUnd Tryz.prog 196 (.func #[3, 171] #[] false) := ⟨Tryz.underlying196⟩
theorem inf196 : (Tryz.prog.info? 196).map (fun i => (i.zero, i.size, i.bytes)) = some (some (.nilFunc), 1, 8) := by kernel_rfl
instance ti196 : TInfo Tryz.prog 196 1 8 [.nilFunc] := tinfo_mk inf196 rfl
instance tz196 : TZero Tryz.prog 196 (.nilFunc) := tzero_mk inf196
instance und197 : TUnd Tryz.prog 197 (.tuple #[32, 3, 43, 4]) := ⟨Tryz.underlying197⟩
instance und198 : TUnd Tryz.prog 198 (.func #[32, 43] #[32, 3, 43, 4] false) := ⟨Tryz.underlying198⟩
theorem inf198 : (Tryz.prog.info? 198).map (fun i => (i.zero, i.size, i.bytes)) = some (some (.nilFunc), 1, 8) := by kernel_rfl
instance ti198 : TInfo Tryz.prog 198 1 8 [.nilFunc] := tinfo_mk inf198 rfl
instance tz198 : TZero Tryz.prog 198 (.nilFunc) := tzero_mk inf198
instance und199 : TUnd Tryz.prog 199 (.func #[3, 167] #[] false) := ⟨Tryz.underlying199⟩
theorem inf199 : (Tryz.prog.info? 199).map (fun i => (i.zero, i.size, i.bytes)) = some (some (.nilFunc), 1, 8) := by kernel_rfl
instance ti199 : TInfo Tryz.prog 199 1 8 [.nilFunc] := tinfo_mk inf199 rfl
instance tz199 : TZero Tryz.prog 199 (.nilFunc) := tzero_mk inf199
instance und200 : TUnd Tryz.prog 200 (.func #[2, 36] #[3] false) := ⟨Tryz.underlying200⟩
theorem inf200 : (Tryz.prog.info? 200).map (fun i => (i.zero, i.size, i.bytes)) = some (some (.nilFunc), 1, 8) := by kernel_rfl
instance ti200 : TInfo Tryz.prog 200 1 8 [.nilFunc] := tinfo_mk inf200 rfl
instance tz200 : TZero Tryz.prog 200 (.nilFunc) := tzero_mk inf200
instance und201 : TUnd Tryz.prog 201 (.tuple #[113, 29]) := ⟨Tryz.underlying201⟩
instance und202 : TUnd Tryz.prog 202 (.func #[26, 3] #[113, 29] false) := ⟨Tryz.underlying202⟩
theorem inf202 : (Tryz.prog.info? 202).map (fun i => (i.zero, i.size, i.bytes)) = some (some (.nilFunc), 1, 8) := by kernel_rfl
instance ti202 : TInfo Tryz.prog 202 1 8 [.nilFunc] := tinfo_mk inf202 rfl
instance tz202 : TZero Tryz.prog 202 (.nilFunc) := tzero_mk inf202
instance und203 : TUnd Tryz.prog 203 (.func #[2] #[4, 4] false) := ⟨Tryz.underlying203⟩
theorem inf203 : (Tryz.prog.info? 203).map (fun i => (i.zero, i.size, i.bytes)) = some (some (.nilFunc), 1, 8) := by kernel_rfl
instance ti203 : TInfo Tryz.prog 203 1 8 [.nilFunc] := tinfo_mk inf203 rfl
instance tz203 : TZero Tryz.prog 203 (.nilFunc) := tzero_mk inf203
instance und204 : TUnd Tryz.prog 204 (.func #[101, 205] #[3] false) := ⟨Tryz.underlying204⟩
theorem inf204 : (Tryz.prog.info? 204).map (fun i => (i.zero, i.size, i.bytes)) = some (some (.nilFunc), 1, 8) := by kernel_rfl
instance ti204 : TInfo Tryz.prog 204 1 8 [.nilFunc] := tinfo_mk inf204 rfl
instance tz204 : TZero Tryz.prog 204 (.nilFunc) := tzero_mk inf204
instance und205 : TUnd Tryz.prog 205 (.func #[192] #[4] false) := ⟨Tryz.underlying205⟩
theorem inf205 : (Tryz.prog.info? 205).map (fun i => (i.zero, i.size, i.bytes)) = some (some (.nilFunc), 1, 8) := by kernel_rfl
instance ti205 : TInfo Tryz.prog 205 1 8 [.nilFunc] := tinfo_mk inf205 rfl
instance tz205 : TZero Tryz.prog 205 (.nilFunc) := tzero_mk inf205
instance und206 : TUnd Tryz.prog 206 (.struct #[⟨ "At", 2, 0, false, "", "", 0⟩, ⟨ "Made", 3, 1, false, "", "", 8⟩]) := ⟨Tryz.underlying206⟩
theorem inf206 : (Tryz.prog.info? 206).map (fun i => (i.zero, i.size, i.bytes)) = some (some (.agg #[.int .i64 0, .int .i64 0]), 2, 16) := by kernel_rfl
instance ti206 : TInfo Tryz.prog 206 2 16 [.int .i64 0, .int .i64 0] := tinfo_mk inf206 rfl
instance tz206 : TZero Tryz.prog 206 (.agg #[.int .i64 0, .int .i64 0]) := tzero_mk inf206
instance tf206_0 : TField Tryz.prog 206 0 0 := tfield_mk Tryz.underlying206 rfl rfl (by kernel_rfl)
instance tp206_0 : TPart Tryz.prog 206 0 0 1 false := tpart_mk Tryz.underlying206 rfl rfl (by kernel_rfl) Tryz.underlying2 rfl
instance tf206_1 : TField Tryz.prog 206 1 1 := tfield_mk Tryz.underlying206 rfl rfl (by kernel_rfl)
instance tp206_1 : TPart Tryz.prog 206 1 1 1 false := tpart_mk Tryz.underlying206 rfl rfl (by kernel_rfl) Tryz.underlying3 rfl
instance tpl206 : TPlaces Tryz.prog 206 [(0, 1), (1, 1)] := tplaces_mk Tryz.underlying206 (by kernel_rfl) (by kernel_rfl)
instance und207 : TUnd Tryz.prog 207 (.struct #[⟨ "At", 2, 0, false, "", "", 0⟩, ⟨ "Made", 3, 1, false, "", "", 8⟩]) := ⟨Tryz.underlying207⟩
theorem inf207 : (Tryz.prog.info? 207).map (fun i => (i.zero, i.size, i.bytes)) = some (some (.agg #[.int .i64 0, .int .i64 0]), 2, 16) := by kernel_rfl
instance ti207 : TInfo Tryz.prog 207 2 16 [.int .i64 0, .int .i64 0] := tinfo_mk inf207 rfl
instance tz207 : TZero Tryz.prog 207 (.agg #[.int .i64 0, .int .i64 0]) := tzero_mk inf207
instance tf207_0 : TField Tryz.prog 207 0 0 := tfield_mk Tryz.underlying207 rfl rfl (by kernel_rfl)
instance tp207_0 : TPart Tryz.prog 207 0 0 1 false := tpart_mk Tryz.underlying207 rfl rfl (by kernel_rfl) Tryz.underlying2 rfl
instance tf207_1 : TField Tryz.prog 207 1 1 := tfield_mk Tryz.underlying207 rfl rfl (by kernel_rfl)
instance tp207_1 : TPart Tryz.prog 207 1 1 1 false := tpart_mk Tryz.underlying207 rfl rfl (by kernel_rfl) Tryz.underlying3 rfl
instance tpl207 : TPlaces Tryz.prog 207 [(0, 1), (1, 1)] := tplaces_mk Tryz.underlying207 (by kernel_rfl) (by kernel_rfl)
instance und208 : TUnd Tryz.prog 208 (.pointer 259) := ⟨Tryz.underlying208⟩
theorem inf208 : (Tryz.prog.info? 208).map (fun i => (i.zero, i.size, i.bytes)) = some (some (.pointer none), 1, 8) := by kernel_rfl
instance ti208 : TInfo Tryz.prog 208 1 8 [.pointer none] := tinfo_mk inf208 rfl
instance tz208 : TZero Tryz.prog 208 (.pointer none) := tzero_mk inf208
instance und209 : TUnd Tryz.prog 209 (.pointer 278) := ⟨Tryz.underlying209⟩
theorem inf209 : (Tryz.prog.info? 209).map (fun i => (i.zero, i.size, i.bytes)) = some (some (.pointer none), 1, 8) := by kernel_rfl
instance ti209 : TInfo Tryz.prog 209 1 8 [.pointer none] := tinfo_mk inf209 rfl
instance tz209 : TZero Tryz.prog 209 (.pointer none) := tzero_mk inf209
instance und210 : TUnd Tryz.prog 210 (.pointer 282) := ⟨Tryz.underlying210⟩
theorem inf210 : (Tryz.prog.info? 210).map (fun i => (i.zero, i.size, i.bytes)) = some (some (.pointer none), 1, 8) := by kernel_rfl
instance ti210 : TInfo Tryz.prog 210 1 8 [.pointer none] := tinfo_mk inf210 rfl
instance tz210 : TZero Tryz.prog 210 (.pointer none) := tzero_mk inf210
instance und211 : TUnd Tryz.prog 211 (.struct #[⟨ "r", 26, 0, false, "", "conduit/chans", 0⟩, ⟨ "size", 3, 1, false, "", "conduit/chans", 8⟩, ⟨ "buf", 208, 2, false, "", "conduit/chans", 16⟩, ⟨ "senders", 209, 3, false, "", "conduit/chans", 24⟩, ⟨ "receivers", 210, 4, false, "", "conduit/chans", 32⟩, ⟨ "closed", 4, 5, false, "", "conduit/chans", 40⟩]) := ⟨Tryz.underlying211⟩
theorem inf211 : (Tryz.prog.info? 211).map (fun i => (i.zero, i.size, i.bytes)) = some (some (.agg #[.pointer none, .int .i64 0, .pointer none, .pointer none, .pointer none, .bool false]), 6, 48) := by kernel_rfl
instance ti211 : TInfo Tryz.prog 211 6 48 [.pointer none, .int .i64 0, .pointer none, .pointer none, .pointer none, .bool false] := tinfo_mk inf211 rfl
instance tz211 : TZero Tryz.prog 211 (.agg #[.pointer none, .int .i64 0, .pointer none, .pointer none, .pointer none, .bool false]) := tzero_mk inf211
instance tf211_0 : TField Tryz.prog 211 0 0 := tfield_mk Tryz.underlying211 rfl rfl (by kernel_rfl)
instance tp211_0 : TPart Tryz.prog 211 0 0 1 false := tpart_mk Tryz.underlying211 rfl rfl (by kernel_rfl) Tryz.underlying26 rfl
instance tf211_1 : TField Tryz.prog 211 1 1 := tfield_mk Tryz.underlying211 rfl rfl (by kernel_rfl)
instance tp211_1 : TPart Tryz.prog 211 1 1 1 false := tpart_mk Tryz.underlying211 rfl rfl (by kernel_rfl) Tryz.underlying3 rfl
instance tf211_2 : TField Tryz.prog 211 2 2 := tfield_mk Tryz.underlying211 rfl rfl (by kernel_rfl)
instance tp211_2 : TPart Tryz.prog 211 2 2 1 false := tpart_mk Tryz.underlying211 rfl rfl (by kernel_rfl) Tryz.underlying208 rfl
instance tf211_3 : TField Tryz.prog 211 3 3 := tfield_mk Tryz.underlying211 rfl rfl (by kernel_rfl)
instance tp211_3 : TPart Tryz.prog 211 3 3 1 false := tpart_mk Tryz.underlying211 rfl rfl (by kernel_rfl) Tryz.underlying209 rfl
instance tf211_4 : TField Tryz.prog 211 4 4 := tfield_mk Tryz.underlying211 rfl rfl (by kernel_rfl)
instance tp211_4 : TPart Tryz.prog 211 4 4 1 false := tpart_mk Tryz.underlying211 rfl rfl (by kernel_rfl) Tryz.underlying210 rfl
instance tf211_5 : TField Tryz.prog 211 5 5 := tfield_mk Tryz.underlying211 rfl rfl (by kernel_rfl)
instance tp211_5 : TPart Tryz.prog 211 5 5 1 false := tpart_mk Tryz.underlying211 rfl rfl (by kernel_rfl) Tryz.underlying4 rfl
instance tpl211 : TPlaces Tryz.prog 211 [(0, 1), (1, 1), (2, 1), (3, 1), (4, 1), (5, 1)] := tplaces_mk Tryz.underlying211 (by kernel_rfl) (by kernel_rfl)
instance und212 : TUnd Tryz.prog 212 (.struct #[⟨ "r", 26, 0, false, "", "conduit/chans", 0⟩, ⟨ "size", 3, 1, false, "", "conduit/chans", 8⟩, ⟨ "buf", 208, 2, false, "", "conduit/chans", 16⟩, ⟨ "senders", 209, 3, false, "", "conduit/chans", 24⟩, ⟨ "receivers", 210, 4, false, "", "conduit/chans", 32⟩, ⟨ "closed", 4, 5, false, "", "conduit/chans", 40⟩]) := ⟨Tryz.underlying212⟩
theorem inf212 : (Tryz.prog.info? 212).map (fun i => (i.zero, i.size, i.bytes)) = some (some (.agg #[.pointer none, .int .i64 0, .pointer none, .pointer none, .pointer none, .bool false]), 6, 48) := by kernel_rfl
instance ti212 : TInfo Tryz.prog 212 6 48 [.pointer none, .int .i64 0, .pointer none, .pointer none, .pointer none, .bool false] := tinfo_mk inf212 rfl
instance tz212 : TZero Tryz.prog 212 (.agg #[.pointer none, .int .i64 0, .pointer none, .pointer none, .pointer none, .bool false]) := tzero_mk inf212
instance tf212_0 : TField Tryz.prog 212 0 0 := tfield_mk Tryz.underlying212 rfl rfl (by kernel_rfl)
instance tp212_0 : TPart Tryz.prog 212 0 0 1 false := tpart_mk Tryz.underlying212 rfl rfl (by kernel_rfl) Tryz.underlying26 rfl
instance tf212_1 : TField Tryz.prog 212 1 1 := tfield_mk Tryz.underlying212 rfl rfl (by kernel_rfl)
instance tp212_1 : TPart Tryz.prog 212 1 1 1 false := tpart_mk Tryz.underlying212 rfl rfl (by kernel_rfl) Tryz.underlying3 rfl
instance tf212_2 : TField Tryz.prog 212 2 2 := tfield_mk Tryz.underlying212 rfl rfl (by kernel_rfl)
instance tp212_2 : TPart Tryz.prog 212 2 2 1 false := tpart_mk Tryz.underlying212 rfl rfl (by kernel_rfl) Tryz.underlying208 rfl
instance tf212_3 : TField Tryz.prog 212 3 3 := tfield_mk Tryz.underlying212 rfl rfl (by kernel_rfl)
instance tp212_3 : TPart Tryz.prog 212 3 3 1 false := tpart_mk Tryz.underlying212 rfl rfl (by kernel_rfl) Tryz.underlying209 rfl
instance tf212_4 : TField Tryz.prog 212 4 4 := tfield_mk Tryz.underlying212 rfl rfl (by kernel_rfl)
instance tp212_4 : TPart Tryz.prog 212 4 4 1 false := tpart_mk Tryz.underlying212 rfl rfl (by kernel_rfl) Tryz.underlying210 rfl
instance tf212_5 : TField Tryz.prog 212 5 5 := tfield_mk Tryz.underlying212 rfl rfl (by kernel_rfl)
instance tp212_5 : TPart Tryz.prog 212 5 5 1 false := tpart_mk Tryz.underlying212 rfl rfl (by kernel_rfl) Tryz.underlying4 rfl
instance tpl212 : TPlaces Tryz.prog 212 [(0, 1), (1, 1), (2, 1), (3, 1), (4, 1), (5, 1)] := tplaces_mk Tryz.underlying212 (by kernel_rfl) (by kernel_rfl)
instance und213 : TUnd Tryz.prog 213 (.func #[] #[2, 4] false) := ⟨Tryz.underlying213⟩
theorem inf213 : (Tryz.prog.info? 213).map (fun i => (i.zero, i.size, i.bytes)) = some (some (.nilFunc), 1, 8) := by kernel_rfl
instance ti213 : TInfo Tryz.prog 213 1 8 [.nilFunc] := tinfo_mk inf213 rfl
instance tz213 : TZero Tryz.prog 213 (.nilFunc) := tzero_mk inf213
instance und214 : TUnd Tryz.prog 214 (.struct #[⟨ "k", 71, 0, false, "", "conduit/chans", 0⟩, ⟨ "v", 2, 1, false, "", "conduit/chans", 8⟩, ⟨ "told", 36, 2, false, "", "conduit/chans", 16⟩]) := ⟨Tryz.underlying214⟩
theorem inf214 : (Tryz.prog.info? 214).map (fun i => (i.zero, i.size, i.bytes)) = some (some (.agg #[.pointer none, .int .i64 0, .nilFunc]), 3, 24) := by kernel_rfl
instance ti214 : TInfo Tryz.prog 214 3 24 [.pointer none, .int .i64 0, .nilFunc] := tinfo_mk inf214 rfl
instance tz214 : TZero Tryz.prog 214 (.agg #[.pointer none, .int .i64 0, .nilFunc]) := tzero_mk inf214
instance tf214_0 : TField Tryz.prog 214 0 0 := tfield_mk Tryz.underlying214 rfl rfl (by kernel_rfl)
instance tp214_0 : TPart Tryz.prog 214 0 0 1 false := tpart_mk Tryz.underlying214 rfl rfl (by kernel_rfl) Tryz.underlying71 rfl
instance tf214_1 : TField Tryz.prog 214 1 1 := tfield_mk Tryz.underlying214 rfl rfl (by kernel_rfl)
instance tp214_1 : TPart Tryz.prog 214 1 1 1 false := tpart_mk Tryz.underlying214 rfl rfl (by kernel_rfl) Tryz.underlying2 rfl
instance tf214_2 : TField Tryz.prog 214 2 2 := tfield_mk Tryz.underlying214 rfl rfl (by kernel_rfl)
instance tp214_2 : TPart Tryz.prog 214 2 2 1 false := tpart_mk Tryz.underlying214 rfl rfl (by kernel_rfl) Tryz.underlying36 rfl
instance tpl214 : TPlaces Tryz.prog 214 [(0, 1), (1, 1), (2, 1)] := tplaces_mk Tryz.underlying214 (by kernel_rfl) (by kernel_rfl)
instance und215 : TUnd Tryz.prog 215 (.struct #[⟨ "k", 71, 0, false, "", "conduit/chans", 0⟩, ⟨ "v", 2, 1, false, "", "conduit/chans", 8⟩, ⟨ "told", 36, 2, false, "", "conduit/chans", 16⟩]) := ⟨Tryz.underlying215⟩
theorem inf215 : (Tryz.prog.info? 215).map (fun i => (i.zero, i.size, i.bytes)) = some (some (.agg #[.pointer none, .int .i64 0, .nilFunc]), 3, 24) := by kernel_rfl
instance ti215 : TInfo Tryz.prog 215 3 24 [.pointer none, .int .i64 0, .nilFunc] := tinfo_mk inf215 rfl
instance tz215 : TZero Tryz.prog 215 (.agg #[.pointer none, .int .i64 0, .nilFunc]) := tzero_mk inf215
instance tf215_0 : TField Tryz.prog 215 0 0 := tfield_mk Tryz.underlying215 rfl rfl (by kernel_rfl)
instance tp215_0 : TPart Tryz.prog 215 0 0 1 false := tpart_mk Tryz.underlying215 rfl rfl (by kernel_rfl) Tryz.underlying71 rfl
instance tf215_1 : TField Tryz.prog 215 1 1 := tfield_mk Tryz.underlying215 rfl rfl (by kernel_rfl)
instance tp215_1 : TPart Tryz.prog 215 1 1 1 false := tpart_mk Tryz.underlying215 rfl rfl (by kernel_rfl) Tryz.underlying2 rfl
instance tf215_2 : TField Tryz.prog 215 2 2 := tfield_mk Tryz.underlying215 rfl rfl (by kernel_rfl)
instance tp215_2 : TPart Tryz.prog 215 2 2 1 false := tpart_mk Tryz.underlying215 rfl rfl (by kernel_rfl) Tryz.underlying36 rfl
instance tpl215 : TPlaces Tryz.prog 215 [(0, 1), (1, 1), (2, 1)] := tplaces_mk Tryz.underlying215 (by kernel_rfl) (by kernel_rfl)
instance und217 : TUnd Tryz.prog 217 (.func #[] #[215, 4] false) := ⟨Tryz.underlying217⟩
theorem inf217 : (Tryz.prog.info? 217).map (fun i => (i.zero, i.size, i.bytes)) = some (some (.nilFunc), 1, 8) := by kernel_rfl
instance ti217 : TInfo Tryz.prog 217 1 8 [.nilFunc] := tinfo_mk inf217 rfl
instance tz217 : TZero Tryz.prog 217 (.nilFunc) := tzero_mk inf217
instance und218 : TUnd Tryz.prog 218 (.func #[2] #[] false) := ⟨Tryz.underlying218⟩
theorem inf218 : (Tryz.prog.info? 218).map (fun i => (i.zero, i.size, i.bytes)) = some (some (.nilFunc), 1, 8) := by kernel_rfl
instance ti218 : TInfo Tryz.prog 218 1 8 [.nilFunc] := tinfo_mk inf218 rfl
instance tz218 : TZero Tryz.prog 218 (.nilFunc) := tzero_mk inf218
instance und219 : TUnd Tryz.prog 219 (.struct #[⟨ "line", 144, 0, true, "", "conduit/sched", 0⟩]) := ⟨Tryz.underlying219⟩
theorem inf219 : (Tryz.prog.info? 219).map (fun i => (i.zero, i.size, i.bytes)) = some (some (.agg #[.pointer none]), 1, 8) := by kernel_rfl
instance ti219 : TInfo Tryz.prog 219 1 8 [.pointer none] := tinfo_mk inf219 rfl
instance tz219 : TZero Tryz.prog 219 (.agg #[.pointer none]) := tzero_mk inf219
instance tf219_0 : TField Tryz.prog 219 0 0 := tfield_mk Tryz.underlying219 rfl rfl (by kernel_rfl)
instance tp219_0 : TPart Tryz.prog 219 0 0 1 false := tpart_mk Tryz.underlying219 rfl rfl (by kernel_rfl) Tryz.underlying144 rfl
instance tpl219 : TPlaces Tryz.prog 219 [(0, 1)] := tplaces_mk Tryz.underlying219 (by kernel_rfl) (by kernel_rfl)
instance und220 : TUnd Tryz.prog 220 (.struct #[⟨ "line", 144, 0, true, "", "conduit/sched", 0⟩]) := ⟨Tryz.underlying220⟩
theorem inf220 : (Tryz.prog.info? 220).map (fun i => (i.zero, i.size, i.bytes)) = some (some (.agg #[.pointer none]), 1, 8) := by kernel_rfl
instance ti220 : TInfo Tryz.prog 220 1 8 [.pointer none] := tinfo_mk inf220 rfl
instance tz220 : TZero Tryz.prog 220 (.agg #[.pointer none]) := tzero_mk inf220
instance tf220_0 : TField Tryz.prog 220 0 0 := tfield_mk Tryz.underlying220 rfl rfl (by kernel_rfl)
instance tp220_0 : TPart Tryz.prog 220 0 0 1 false := tpart_mk Tryz.underlying220 rfl rfl (by kernel_rfl) Tryz.underlying144 rfl
instance tpl220 : TPlaces Tryz.prog 220 [(0, 1)] := tplaces_mk Tryz.underlying220 (by kernel_rfl) (by kernel_rfl)
instance und221 : TUnd Tryz.prog 221 (.func #[32] #[32] false) := ⟨Tryz.underlying221⟩
theorem inf221 : (Tryz.prog.info? 221).map (fun i => (i.zero, i.size, i.bytes)) = some (some (.nilFunc), 1, 8) := by kernel_rfl
instance ti221 : TInfo Tryz.prog 221 1 8 [.nilFunc] := tinfo_mk inf221 rfl
instance tz221 : TZero Tryz.prog 221 (.nilFunc) := tzero_mk inf221
instance und222 : TUnd Tryz.prog 222 (.struct #[⟨ "made", 4, 0, false, "", "conduit/queue", 0⟩, ⟨ "l", 32, 1, false, "", "conduit/queue", 8⟩]) := ⟨Tryz.underlying222⟩
theorem inf222 : (Tryz.prog.info? 222).map (fun i => (i.zero, i.size, i.bytes)) = some (some (.agg #[.bool false, .slice none 0 0]), 2, 32) := by kernel_rfl
instance ti222 : TInfo Tryz.prog 222 2 32 [.bool false, .slice none 0 0] := tinfo_mk inf222 rfl
instance tz222 : TZero Tryz.prog 222 (.agg #[.bool false, .slice none 0 0]) := tzero_mk inf222
instance tf222_0 : TField Tryz.prog 222 0 0 := tfield_mk Tryz.underlying222 rfl rfl (by kernel_rfl)
instance tp222_0 : TPart Tryz.prog 222 0 0 1 false := tpart_mk Tryz.underlying222 rfl rfl (by kernel_rfl) Tryz.underlying4 rfl
instance tf222_1 : TField Tryz.prog 222 1 1 := tfield_mk Tryz.underlying222 rfl rfl (by kernel_rfl)
instance tp222_1 : TPart Tryz.prog 222 1 1 1 false := tpart_mk Tryz.underlying222 rfl rfl (by kernel_rfl) Tryz.underlying32 rfl
instance tpl222 : TPlaces Tryz.prog 222 [(0, 1), (1, 1)] := tplaces_mk Tryz.underlying222 (by kernel_rfl) (by kernel_rfl)
instance und223 : TUnd Tryz.prog 223 (.struct #[⟨ "made", 4, 0, false, "", "conduit/queue", 0⟩, ⟨ "l", 32, 1, false, "", "conduit/queue", 8⟩]) := ⟨Tryz.underlying223⟩
theorem inf223 : (Tryz.prog.info? 223).map (fun i => (i.zero, i.size, i.bytes)) = some (some (.agg #[.bool false, .slice none 0 0]), 2, 32) := by kernel_rfl
instance ti223 : TInfo Tryz.prog 223 2 32 [.bool false, .slice none 0 0] := tinfo_mk inf223 rfl
instance tz223 : TZero Tryz.prog 223 (.agg #[.bool false, .slice none 0 0]) := tzero_mk inf223
instance tf223_0 : TField Tryz.prog 223 0 0 := tfield_mk Tryz.underlying223 rfl rfl (by kernel_rfl)
instance tp223_0 : TPart Tryz.prog 223 0 0 1 false := tpart_mk Tryz.underlying223 rfl rfl (by kernel_rfl) Tryz.underlying4 rfl
instance tf223_1 : TField Tryz.prog 223 1 1 := tfield_mk Tryz.underlying223 rfl rfl (by kernel_rfl)
instance tp223_1 : TPart Tryz.prog 223 1 1 1 false := tpart_mk Tryz.underlying223 rfl rfl (by kernel_rfl) Tryz.underlying32 rfl
instance tpl223 : TPlaces Tryz.prog 223 [(0, 1), (1, 1)] := tplaces_mk Tryz.underlying223 (by kernel_rfl) (by kernel_rfl)
instance und224 : TUnd Tryz.prog 224 (.func #[185] #[185] false) := ⟨Tryz.underlying224⟩
theorem inf224 : (Tryz.prog.info? 224).map (fun i => (i.zero, i.size, i.bytes)) = some (some (.nilFunc), 1, 8) := by kernel_rfl
instance ti224 : TInfo Tryz.prog 224 1 8 [.nilFunc] := tinfo_mk inf224 rfl
instance tz224 : TZero Tryz.prog 224 (.nilFunc) := tzero_mk inf224
instance und225 : TUnd Tryz.prog 225 (.struct #[⟨ "made", 4, 0, false, "", "conduit/queue", 0⟩, ⟨ "l", 185, 1, false, "", "conduit/queue", 8⟩]) := ⟨Tryz.underlying225⟩
theorem inf225 : (Tryz.prog.info? 225).map (fun i => (i.zero, i.size, i.bytes)) = some (some (.agg #[.bool false, .slice none 0 0]), 2, 32) := by kernel_rfl
instance ti225 : TInfo Tryz.prog 225 2 32 [.bool false, .slice none 0 0] := tinfo_mk inf225 rfl
instance tz225 : TZero Tryz.prog 225 (.agg #[.bool false, .slice none 0 0]) := tzero_mk inf225
instance tf225_0 : TField Tryz.prog 225 0 0 := tfield_mk Tryz.underlying225 rfl rfl (by kernel_rfl)
instance tp225_0 : TPart Tryz.prog 225 0 0 1 false := tpart_mk Tryz.underlying225 rfl rfl (by kernel_rfl) Tryz.underlying4 rfl
instance tf225_1 : TField Tryz.prog 225 1 1 := tfield_mk Tryz.underlying225 rfl rfl (by kernel_rfl)
instance tp225_1 : TPart Tryz.prog 225 1 1 1 false := tpart_mk Tryz.underlying225 rfl rfl (by kernel_rfl) Tryz.underlying185 rfl
instance tpl225 : TPlaces Tryz.prog 225 [(0, 1), (1, 1)] := tplaces_mk Tryz.underlying225 (by kernel_rfl) (by kernel_rfl)
instance und226 : TUnd Tryz.prog 226 (.struct #[⟨ "made", 4, 0, false, "", "conduit/queue", 0⟩, ⟨ "l", 185, 1, false, "", "conduit/queue", 8⟩]) := ⟨Tryz.underlying226⟩
theorem inf226 : (Tryz.prog.info? 226).map (fun i => (i.zero, i.size, i.bytes)) = some (some (.agg #[.bool false, .slice none 0 0]), 2, 32) := by kernel_rfl
instance ti226 : TInfo Tryz.prog 226 2 32 [.bool false, .slice none 0 0] := tinfo_mk inf226 rfl
instance tz226 : TZero Tryz.prog 226 (.agg #[.bool false, .slice none 0 0]) := tzero_mk inf226
instance tf226_0 : TField Tryz.prog 226 0 0 := tfield_mk Tryz.underlying226 rfl rfl (by kernel_rfl)
instance tp226_0 : TPart Tryz.prog 226 0 0 1 false := tpart_mk Tryz.underlying226 rfl rfl (by kernel_rfl) Tryz.underlying4 rfl
instance tf226_1 : TField Tryz.prog 226 1 1 := tfield_mk Tryz.underlying226 rfl rfl (by kernel_rfl)
instance tp226_1 : TPart Tryz.prog 226 1 1 1 false := tpart_mk Tryz.underlying226 rfl rfl (by kernel_rfl) Tryz.underlying185 rfl
instance tpl226 : TPlaces Tryz.prog 226 [(0, 1), (1, 1)] := tplaces_mk Tryz.underlying226 (by kernel_rfl) (by kernel_rfl)
instance und227 : TUnd Tryz.prog 227 (.func #[180] #[180] false) := ⟨Tryz.underlying227⟩
theorem inf227 : (Tryz.prog.info? 227).map (fun i => (i.zero, i.size, i.bytes)) = some (some (.nilFunc), 1, 8) := by kernel_rfl
instance ti227 : TInfo Tryz.prog 227 1 8 [.nilFunc] := tinfo_mk inf227 rfl
instance tz227 : TZero Tryz.prog 227 (.nilFunc) := tzero_mk inf227
instance und228 : TUnd Tryz.prog 228 (.struct #[⟨ "made", 4, 0, false, "", "conduit/queue", 0⟩, ⟨ "l", 180, 1, false, "", "conduit/queue", 8⟩]) := ⟨Tryz.underlying228⟩
theorem inf228 : (Tryz.prog.info? 228).map (fun i => (i.zero, i.size, i.bytes)) = some (some (.agg #[.bool false, .slice none 0 0]), 2, 32) := by kernel_rfl
instance ti228 : TInfo Tryz.prog 228 2 32 [.bool false, .slice none 0 0] := tinfo_mk inf228 rfl
instance tz228 : TZero Tryz.prog 228 (.agg #[.bool false, .slice none 0 0]) := tzero_mk inf228
instance tf228_0 : TField Tryz.prog 228 0 0 := tfield_mk Tryz.underlying228 rfl rfl (by kernel_rfl)
instance tp228_0 : TPart Tryz.prog 228 0 0 1 false := tpart_mk Tryz.underlying228 rfl rfl (by kernel_rfl) Tryz.underlying4 rfl
instance tf228_1 : TField Tryz.prog 228 1 1 := tfield_mk Tryz.underlying228 rfl rfl (by kernel_rfl)
instance tp228_1 : TPart Tryz.prog 228 1 1 1 false := tpart_mk Tryz.underlying228 rfl rfl (by kernel_rfl) Tryz.underlying180 rfl
instance tpl228 : TPlaces Tryz.prog 228 [(0, 1), (1, 1)] := tplaces_mk Tryz.underlying228 (by kernel_rfl) (by kernel_rfl)
instance und229 : TUnd Tryz.prog 229 (.struct #[⟨ "made", 4, 0, false, "", "conduit/queue", 0⟩, ⟨ "l", 180, 1, false, "", "conduit/queue", 8⟩]) := ⟨Tryz.underlying229⟩
theorem inf229 : (Tryz.prog.info? 229).map (fun i => (i.zero, i.size, i.bytes)) = some (some (.agg #[.bool false, .slice none 0 0]), 2, 32) := by kernel_rfl
instance ti229 : TInfo Tryz.prog 229 2 32 [.bool false, .slice none 0 0] := tinfo_mk inf229 rfl
instance tz229 : TZero Tryz.prog 229 (.agg #[.bool false, .slice none 0 0]) := tzero_mk inf229
instance tf229_0 : TField Tryz.prog 229 0 0 := tfield_mk Tryz.underlying229 rfl rfl (by kernel_rfl)
instance tp229_0 : TPart Tryz.prog 229 0 0 1 false := tpart_mk Tryz.underlying229 rfl rfl (by kernel_rfl) Tryz.underlying4 rfl
instance tf229_1 : TField Tryz.prog 229 1 1 := tfield_mk Tryz.underlying229 rfl rfl (by kernel_rfl)
instance tp229_1 : TPart Tryz.prog 229 1 1 1 false := tpart_mk Tryz.underlying229 rfl rfl (by kernel_rfl) Tryz.underlying180 rfl
instance tpl229 : TPlaces Tryz.prog 229 [(0, 1), (1, 1)] := tplaces_mk Tryz.underlying229 (by kernel_rfl) (by kernel_rfl)
instance und230 : TUnd Tryz.prog 230 (.func #[4] #[29] false) := ⟨Tryz.underlying230⟩
theorem inf230 : (Tryz.prog.info? 230).map (fun i => (i.zero, i.size, i.bytes)) = some (some (.nilFunc), 1, 8) := by kernel_rfl
instance ti230 : TInfo Tryz.prog 230 1 8 [.nilFunc] := tinfo_mk inf230 rfl
instance tz230 : TZero Tryz.prog 230 (.nilFunc) := tzero_mk inf230
instance und231 : TUnd Tryz.prog 231 (.func #[1] #[] false) := ⟨Tryz.underlying231⟩
theorem inf231 : (Tryz.prog.info? 231).map (fun i => (i.zero, i.size, i.bytes)) = some (some (.nilFunc), 1, 8) := by kernel_rfl
instance ti231 : TInfo Tryz.prog 231 1 8 [.nilFunc] := tinfo_mk inf231 rfl
instance tz231 : TZero Tryz.prog 231 (.nilFunc) := tzero_mk inf231
instance und232 : TUnd Tryz.prog 232 (.func #[32, 3] #[4] false) := ⟨Tryz.underlying232⟩
theorem inf232 : (Tryz.prog.info? 232).map (fun i => (i.zero, i.size, i.bytes)) = some (some (.nilFunc), 1, 8) := by kernel_rfl
instance ti232 : TInfo Tryz.prog 232 1 8 [.nilFunc] := tinfo_mk inf232 rfl
instance tz232 : TZero Tryz.prog 232 (.nilFunc) := tzero_mk inf232
instance und233 : TUnd Tryz.prog 233 (.func #[3] #[3, 4] false) := ⟨Tryz.underlying233⟩
theorem inf233 : (Tryz.prog.info? 233).map (fun i => (i.zero, i.size, i.bytes)) = some (some (.nilFunc), 1, 8) := by kernel_rfl
instance ti233 : TInfo Tryz.prog 233 1 8 [.nilFunc] := tinfo_mk inf233 rfl
instance tz233 : TZero Tryz.prog 233 (.nilFunc) := tzero_mk inf233
instance und234 : TUnd Tryz.prog 234 (.func #[171] #[] false) := ⟨Tryz.underlying234⟩
theorem inf234 : (Tryz.prog.info? 234).map (fun i => (i.zero, i.size, i.bytes)) = some (some (.nilFunc), 1, 8) := by kernel_rfl
instance ti234 : TInfo Tryz.prog 234 1 8 [.nilFunc] := tinfo_mk inf234 rfl
instance tz234 : TZero Tryz.prog 234 (.nilFunc) := tzero_mk inf234
instance und235 : TUnd Tryz.prog 235 (.func #[29] #[] false) := ⟨Tryz.underlying235⟩
theorem inf235 : (Tryz.prog.info? 235).map (fun i => (i.zero, i.size, i.bytes)) = some (some (.nilFunc), 1, 8) := by kernel_rfl
instance ti235 : TInfo Tryz.prog 235 1 8 [.nilFunc] := tinfo_mk inf235 rfl
instance tz235 : TZero Tryz.prog 235 (.nilFunc) := tzero_mk inf235
instance und236 : TUnd Tryz.prog 236 (.func #[1] #[29] false) := ⟨Tryz.underlying236⟩
theorem inf236 : (Tryz.prog.info? 236).map (fun i => (i.zero, i.size, i.bytes)) = some (some (.nilFunc), 1, 8) := by kernel_rfl
instance ti236 : TInfo Tryz.prog 236 1 8 [.nilFunc] := tinfo_mk inf236 rfl
instance tz236 : TZero Tryz.prog 236 (.nilFunc) := tzero_mk inf236
instance und237 : TUnd Tryz.prog 237 (.func #[3] #[157, 4] false) := ⟨Tryz.underlying237⟩
theorem inf237 : (Tryz.prog.info? 237).map (fun i => (i.zero, i.size, i.bytes)) = some (some (.nilFunc), 1, 8) := by kernel_rfl
instance ti237 : TInfo Tryz.prog 237 1 8 [.nilFunc] := tinfo_mk inf237 rfl
instance tz237 : TZero Tryz.prog 237 (.nilFunc) := tzero_mk inf237
instance und238 : TUnd Tryz.prog 238 (.func #[3] #[154, 4] false) := ⟨Tryz.underlying238⟩
theorem inf238 : (Tryz.prog.info? 238).map (fun i => (i.zero, i.size, i.bytes)) = some (some (.nilFunc), 1, 8) := by kernel_rfl
instance ti238 : TInfo Tryz.prog 238 1 8 [.nilFunc] := tinfo_mk inf238 rfl
instance tz238 : TZero Tryz.prog 238 (.nilFunc) := tzero_mk inf238
instance und239 : TUnd Tryz.prog 239 (.func #[180, 182] #[3] false) := ⟨Tryz.underlying239⟩
theorem inf239 : (Tryz.prog.info? 239).map (fun i => (i.zero, i.size, i.bytes)) = some (some (.nilFunc), 1, 8) := by kernel_rfl
instance ti239 : TInfo Tryz.prog 239 1 8 [.nilFunc] := tinfo_mk inf239 rfl
instance tz239 : TZero Tryz.prog 239 (.nilFunc) := tzero_mk inf239
instance und240 : TUnd Tryz.prog 240 (.func #[185, 187] #[3] false) := ⟨Tryz.underlying240⟩
theorem inf240 : (Tryz.prog.info? 240).map (fun i => (i.zero, i.size, i.bytes)) = some (some (.nilFunc), 1, 8) := by kernel_rfl
instance ti240 : TInfo Tryz.prog 240 1 8 [.nilFunc] := tinfo_mk inf240 rfl
instance tz240 : TZero Tryz.prog 240 (.nilFunc) := tzero_mk inf240
instance und241 : TUnd Tryz.prog 241 (.func #[185, 187] #[185] false) := ⟨Tryz.underlying241⟩
theorem inf241 : (Tryz.prog.info? 241).map (fun i => (i.zero, i.size, i.bytes)) = some (some (.nilFunc), 1, 8) := by kernel_rfl
instance ti241 : TInfo Tryz.prog 241 1 8 [.nilFunc] := tinfo_mk inf241 rfl
instance tz241 : TZero Tryz.prog 241 (.nilFunc) := tzero_mk inf241
instance und242 : TUnd Tryz.prog 242 (.func #[180, 182] #[180] false) := ⟨Tryz.underlying242⟩
theorem inf242 : (Tryz.prog.info? 242).map (fun i => (i.zero, i.size, i.bytes)) = some (some (.nilFunc), 1, 8) := by kernel_rfl
instance ti242 : TInfo Tryz.prog 242 1 8 [.nilFunc] := tinfo_mk inf242 rfl
instance tz242 : TZero Tryz.prog 242 (.nilFunc) := tzero_mk inf242
instance und243 : TUnd Tryz.prog 243 (.func #[101, 3, 3] #[101] false) := ⟨Tryz.underlying243⟩
theorem inf243 : (Tryz.prog.info? 243).map (fun i => (i.zero, i.size, i.bytes)) = some (some (.nilFunc), 1, 8) := by kernel_rfl
instance ti243 : TInfo Tryz.prog 243 1 8 [.nilFunc] := tinfo_mk inf243 rfl
instance tz243 : TZero Tryz.prog 243 (.nilFunc) := tzero_mk inf243
instance und244 : TUnd Tryz.prog 244 (.func #[32, 3] #[32] false) := ⟨Tryz.underlying244⟩
theorem inf244 : (Tryz.prog.info? 244).map (fun i => (i.zero, i.size, i.bytes)) = some (some (.nilFunc), 1, 8) := by kernel_rfl
instance ti244 : TInfo Tryz.prog 244 1 8 [.nilFunc] := tinfo_mk inf244 rfl
instance tz244 : TZero Tryz.prog 244 (.nilFunc) := tzero_mk inf244
instance und245 : TUnd Tryz.prog 245 (.func #[3, 165, 4] #[] false) := ⟨Tryz.underlying245⟩
theorem inf245 : (Tryz.prog.info? 245).map (fun i => (i.zero, i.size, i.bytes)) = some (some (.nilFunc), 1, 8) := by kernel_rfl
instance ti245 : TInfo Tryz.prog 245 1 8 [.nilFunc] := tinfo_mk inf245 rfl
instance tz245 : TZero Tryz.prog 245 (.nilFunc) := tzero_mk inf245
instance und246 : TUnd Tryz.prog 246 (.struct #[⟨ "Send", 4, 0, false, "", "", 0⟩, ⟨ "C", 3, 1, false, "", "", 8⟩, ⟨ "V", 3, 2, false, "", "", 16⟩]) := ⟨Tryz.underlying246⟩
theorem inf246 : (Tryz.prog.info? 246).map (fun i => (i.zero, i.size, i.bytes)) = some (some (.agg #[.bool false, .int .i64 0, .int .i64 0]), 3, 24) := by kernel_rfl
instance ti246 : TInfo Tryz.prog 246 3 24 [.bool false, .int .i64 0, .int .i64 0] := tinfo_mk inf246 rfl
instance tz246 : TZero Tryz.prog 246 (.agg #[.bool false, .int .i64 0, .int .i64 0]) := tzero_mk inf246
instance tf246_0 : TField Tryz.prog 246 0 0 := tfield_mk Tryz.underlying246 rfl rfl (by kernel_rfl)
instance tp246_0 : TPart Tryz.prog 246 0 0 1 false := tpart_mk Tryz.underlying246 rfl rfl (by kernel_rfl) Tryz.underlying4 rfl
instance tf246_1 : TField Tryz.prog 246 1 1 := tfield_mk Tryz.underlying246 rfl rfl (by kernel_rfl)
instance tp246_1 : TPart Tryz.prog 246 1 1 1 false := tpart_mk Tryz.underlying246 rfl rfl (by kernel_rfl) Tryz.underlying3 rfl
instance tf246_2 : TField Tryz.prog 246 2 2 := tfield_mk Tryz.underlying246 rfl rfl (by kernel_rfl)
instance tp246_2 : TPart Tryz.prog 246 2 2 1 false := tpart_mk Tryz.underlying246 rfl rfl (by kernel_rfl) Tryz.underlying3 rfl
instance tpl246 : TPlaces Tryz.prog 246 [(0, 1), (1, 1), (2, 1)] := tplaces_mk Tryz.underlying246 (by kernel_rfl) (by kernel_rfl)
instance und247 : TUnd Tryz.prog 247 (.struct #[⟨ "Send", 4, 0, false, "", "", 0⟩, ⟨ "C", 3, 1, false, "", "", 8⟩, ⟨ "V", 3, 2, false, "", "", 16⟩]) := ⟨Tryz.underlying247⟩
theorem inf247 : (Tryz.prog.info? 247).map (fun i => (i.zero, i.size, i.bytes)) = some (some (.agg #[.bool false, .int .i64 0, .int .i64 0]), 3, 24) := by kernel_rfl
instance ti247 : TInfo Tryz.prog 247 3 24 [.bool false, .int .i64 0, .int .i64 0] := tinfo_mk inf247 rfl
instance tz247 : TZero Tryz.prog 247 (.agg #[.bool false, .int .i64 0, .int .i64 0]) := tzero_mk inf247
instance tf247_0 : TField Tryz.prog 247 0 0 := tfield_mk Tryz.underlying247 rfl rfl (by kernel_rfl)
instance tp247_0 : TPart Tryz.prog 247 0 0 1 false := tpart_mk Tryz.underlying247 rfl rfl (by kernel_rfl) Tryz.underlying4 rfl
instance tf247_1 : TField Tryz.prog 247 1 1 := tfield_mk Tryz.underlying247 rfl rfl (by kernel_rfl)
instance tp247_1 : TPart Tryz.prog 247 1 1 1 false := tpart_mk Tryz.underlying247 rfl rfl (by kernel_rfl) Tryz.underlying3 rfl
instance tf247_2 : TField Tryz.prog 247 2 2 := tfield_mk Tryz.underlying247 rfl rfl (by kernel_rfl)
instance tp247_2 : TPart Tryz.prog 247 2 2 1 false := tpart_mk Tryz.underlying247 rfl rfl (by kernel_rfl) Tryz.underlying3 rfl
instance tpl247 : TPlaces Tryz.prog 247 [(0, 1), (1, 1), (2, 1)] := tplaces_mk Tryz.underlying247 (by kernel_rfl) (by kernel_rfl)
instance und248 : TUnd Tryz.prog 248 (.func #[3, 3] #[4] false) := ⟨Tryz.underlying248⟩
theorem inf248 : (Tryz.prog.info? 248).map (fun i => (i.zero, i.size, i.bytes)) = some (some (.nilFunc), 1, 8) := by kernel_rfl
instance ti248 : TInfo Tryz.prog 248 1 8 [.nilFunc] := tinfo_mk inf248 rfl
instance tz248 : TZero Tryz.prog 248 (.nilFunc) := tzero_mk inf248
instance und249 : TUnd Tryz.prog 249 (.func #[3, 2] #[] false) := ⟨Tryz.underlying249⟩
theorem inf249 : (Tryz.prog.info? 249).map (fun i => (i.zero, i.size, i.bytes)) = some (some (.nilFunc), 1, 8) := by kernel_rfl
instance ti249 : TInfo Tryz.prog 249 1 8 [.nilFunc] := tinfo_mk inf249 rfl
instance tz249 : TZero Tryz.prog 249 (.nilFunc) := tzero_mk inf249
instance und250 : TUnd Tryz.prog 250 (.func #[257] #[208] true) := ⟨Tryz.underlying250⟩
theorem inf250 : (Tryz.prog.info? 250).map (fun i => (i.zero, i.size, i.bytes)) = some (some (.nilFunc), 1, 8) := by kernel_rfl
instance ti250 : TInfo Tryz.prog 250 1 8 [.nilFunc] := tinfo_mk inf250 rfl
instance tz250 : TZero Tryz.prog 250 (.nilFunc) := tzero_mk inf250
instance und251 : TUnd Tryz.prog 251 (.func #[275] #[209] true) := ⟨Tryz.underlying251⟩
theorem inf251 : (Tryz.prog.info? 251).map (fun i => (i.zero, i.size, i.bytes)) = some (some (.nilFunc), 1, 8) := by kernel_rfl
instance ti251 : TInfo Tryz.prog 251 1 8 [.nilFunc] := tinfo_mk inf251 rfl
instance tz251 : TZero Tryz.prog 251 (.nilFunc) := tzero_mk inf251
instance und252 : TUnd Tryz.prog 252 (.func #[279] #[210] true) := ⟨Tryz.underlying252⟩
theorem inf252 : (Tryz.prog.info? 252).map (fun i => (i.zero, i.size, i.bytes)) = some (some (.nilFunc), 1, 8) := by kernel_rfl
instance ti252 : TInfo Tryz.prog 252 1 8 [.nilFunc] := tinfo_mk inf252 rfl
instance tz252 : TZero Tryz.prog 252 (.nilFunc) := tzero_mk inf252
instance und253 : TUnd Tryz.prog 253 (.struct #[⟨ "k", 71, 0, false, "", "conduit/chans", 0⟩, ⟨ "told", 109, 1, false, "", "conduit/chans", 8⟩]) := ⟨Tryz.underlying253⟩
theorem inf253 : (Tryz.prog.info? 253).map (fun i => (i.zero, i.size, i.bytes)) = some (some (.agg #[.pointer none, .nilFunc]), 2, 16) := by kernel_rfl
instance ti253 : TInfo Tryz.prog 253 2 16 [.pointer none, .nilFunc] := tinfo_mk inf253 rfl
instance tz253 : TZero Tryz.prog 253 (.agg #[.pointer none, .nilFunc]) := tzero_mk inf253
instance tf253_0 : TField Tryz.prog 253 0 0 := tfield_mk Tryz.underlying253 rfl rfl (by kernel_rfl)
instance tp253_0 : TPart Tryz.prog 253 0 0 1 false := tpart_mk Tryz.underlying253 rfl rfl (by kernel_rfl) Tryz.underlying71 rfl
instance tf253_1 : TField Tryz.prog 253 1 1 := tfield_mk Tryz.underlying253 rfl rfl (by kernel_rfl)
instance tp253_1 : TPart Tryz.prog 253 1 1 1 false := tpart_mk Tryz.underlying253 rfl rfl (by kernel_rfl) Tryz.underlying109 rfl
instance tpl253 : TPlaces Tryz.prog 253 [(0, 1), (1, 1)] := tplaces_mk Tryz.underlying253 (by kernel_rfl) (by kernel_rfl)
instance und254 : TUnd Tryz.prog 254 (.struct #[⟨ "k", 71, 0, false, "", "conduit/chans", 0⟩, ⟨ "told", 109, 1, false, "", "conduit/chans", 8⟩]) := ⟨Tryz.underlying254⟩
theorem inf254 : (Tryz.prog.info? 254).map (fun i => (i.zero, i.size, i.bytes)) = some (some (.agg #[.pointer none, .nilFunc]), 2, 16) := by kernel_rfl
instance ti254 : TInfo Tryz.prog 254 2 16 [.pointer none, .nilFunc] := tinfo_mk inf254 rfl
instance tz254 : TZero Tryz.prog 254 (.agg #[.pointer none, .nilFunc]) := tzero_mk inf254
instance tf254_0 : TField Tryz.prog 254 0 0 := tfield_mk Tryz.underlying254 rfl rfl (by kernel_rfl)
instance tp254_0 : TPart Tryz.prog 254 0 0 1 false := tpart_mk Tryz.underlying254 rfl rfl (by kernel_rfl) Tryz.underlying71 rfl
instance tf254_1 : TField Tryz.prog 254 1 1 := tfield_mk Tryz.underlying254 rfl rfl (by kernel_rfl)
instance tp254_1 : TPart Tryz.prog 254 1 1 1 false := tpart_mk Tryz.underlying254 rfl rfl (by kernel_rfl) Tryz.underlying109 rfl
instance tpl254 : TPlaces Tryz.prog 254 [(0, 1), (1, 1)] := tplaces_mk Tryz.underlying254 (by kernel_rfl) (by kernel_rfl)
instance und256 : TUnd Tryz.prog 256 (.func #[] #[254, 4] false) := ⟨Tryz.underlying256⟩
theorem inf256 : (Tryz.prog.info? 256).map (fun i => (i.zero, i.size, i.bytes)) = some (some (.nilFunc), 1, 8) := by kernel_rfl
instance ti256 : TInfo Tryz.prog 256 1 8 [.nilFunc] := tinfo_mk inf256 rfl
instance tz256 : TZero Tryz.prog 256 (.nilFunc) := tzero_mk inf256
instance und257 : TUnd Tryz.prog 257 (.slice 2) := ⟨Tryz.underlying257⟩
theorem inf257 : (Tryz.prog.info? 257).map (fun i => (i.zero, i.size, i.bytes)) = some (some (.slice none 0 0), 1, 24) := by kernel_rfl
instance ti257 : TInfo Tryz.prog 257 1 24 [.slice none 0 0] := tinfo_mk inf257 rfl
instance tz257 : TZero Tryz.prog 257 (.slice none 0 0) := tzero_mk inf257
instance und258 : TUnd Tryz.prog 258 (.struct #[⟨ "made", 4, 0, false, "", "conduit/queue", 0⟩, ⟨ "l", 257, 1, false, "", "conduit/queue", 8⟩]) := ⟨Tryz.underlying258⟩
theorem inf258 : (Tryz.prog.info? 258).map (fun i => (i.zero, i.size, i.bytes)) = some (some (.agg #[.bool false, .slice none 0 0]), 2, 32) := by kernel_rfl
instance ti258 : TInfo Tryz.prog 258 2 32 [.bool false, .slice none 0 0] := tinfo_mk inf258 rfl
instance tz258 : TZero Tryz.prog 258 (.agg #[.bool false, .slice none 0 0]) := tzero_mk inf258
instance tf258_0 : TField Tryz.prog 258 0 0 := tfield_mk Tryz.underlying258 rfl rfl (by kernel_rfl)
instance tp258_0 : TPart Tryz.prog 258 0 0 1 false := tpart_mk Tryz.underlying258 rfl rfl (by kernel_rfl) Tryz.underlying4 rfl
instance tf258_1 : TField Tryz.prog 258 1 1 := tfield_mk Tryz.underlying258 rfl rfl (by kernel_rfl)
instance tp258_1 : TPart Tryz.prog 258 1 1 1 false := tpart_mk Tryz.underlying258 rfl rfl (by kernel_rfl) Tryz.underlying257 rfl
instance tpl258 : TPlaces Tryz.prog 258 [(0, 1), (1, 1)] := tplaces_mk Tryz.underlying258 (by kernel_rfl) (by kernel_rfl)
instance und259 : TUnd Tryz.prog 259 (.struct #[⟨ "made", 4, 0, false, "", "conduit/queue", 0⟩, ⟨ "l", 257, 1, false, "", "conduit/queue", 8⟩]) := ⟨Tryz.underlying259⟩
theorem inf259 : (Tryz.prog.info? 259).map (fun i => (i.zero, i.size, i.bytes)) = some (some (.agg #[.bool false, .slice none 0 0]), 2, 32) := by kernel_rfl
instance ti259 : TInfo Tryz.prog 259 2 32 [.bool false, .slice none 0 0] := tinfo_mk inf259 rfl
instance tz259 : TZero Tryz.prog 259 (.agg #[.bool false, .slice none 0 0]) := tzero_mk inf259
instance tf259_0 : TField Tryz.prog 259 0 0 := tfield_mk Tryz.underlying259 rfl rfl (by kernel_rfl)
instance tp259_0 : TPart Tryz.prog 259 0 0 1 false := tpart_mk Tryz.underlying259 rfl rfl (by kernel_rfl) Tryz.underlying4 rfl
instance tf259_1 : TField Tryz.prog 259 1 1 := tfield_mk Tryz.underlying259 rfl rfl (by kernel_rfl)
instance tp259_1 : TPart Tryz.prog 259 1 1 1 false := tpart_mk Tryz.underlying259 rfl rfl (by kernel_rfl) Tryz.underlying257 rfl
instance tpl259 : TPlaces Tryz.prog 259 [(0, 1), (1, 1)] := tplaces_mk Tryz.underlying259 (by kernel_rfl) (by kernel_rfl)
instance und260 : TUnd Tryz.prog 260 (.func #[261] #[3] false) := ⟨Tryz.underlying260⟩
theorem inf260 : (Tryz.prog.info? 260).map (fun i => (i.zero, i.size, i.bytes)) = some (some (.nilFunc), 1, 8) := by kernel_rfl
instance ti260 : TInfo Tryz.prog 260 1 8 [.nilFunc] := tinfo_mk inf260 rfl
instance tz260 : TZero Tryz.prog 260 (.nilFunc) := tzero_mk inf260
instance und261 : TUnd Tryz.prog 261 (.func #[215] #[4] false) := ⟨Tryz.underlying261⟩
theorem inf261 : (Tryz.prog.info? 261).map (fun i => (i.zero, i.size, i.bytes)) = some (some (.nilFunc), 1, 8) := by kernel_rfl
instance ti261 : TInfo Tryz.prog 261 1 8 [.nilFunc] := tinfo_mk inf261 rfl
instance tz261 : TZero Tryz.prog 261 (.nilFunc) := tzero_mk inf261
instance und262 : TUnd Tryz.prog 262 (.func #[263] #[3] false) := ⟨Tryz.underlying262⟩
theorem inf262 : (Tryz.prog.info? 262).map (fun i => (i.zero, i.size, i.bytes)) = some (some (.nilFunc), 1, 8) := by kernel_rfl
instance ti262 : TInfo Tryz.prog 262 1 8 [.nilFunc] := tinfo_mk inf262 rfl
instance tz262 : TZero Tryz.prog 262 (.nilFunc) := tzero_mk inf262
instance und263 : TUnd Tryz.prog 263 (.func #[254] #[4] false) := ⟨Tryz.underlying263⟩
theorem inf263 : (Tryz.prog.info? 263).map (fun i => (i.zero, i.size, i.bytes)) = some (some (.nilFunc), 1, 8) := by kernel_rfl
instance ti263 : TInfo Tryz.prog 263 1 8 [.nilFunc] := tinfo_mk inf263 rfl
instance tz263 : TZero Tryz.prog 263 (.nilFunc) := tzero_mk inf263
instance und264 : TUnd Tryz.prog 264 (.func #[3] #[2, 4] false) := ⟨Tryz.underlying264⟩
theorem inf264 : (Tryz.prog.info? 264).map (fun i => (i.zero, i.size, i.bytes)) = some (some (.nilFunc), 1, 8) := by kernel_rfl
instance ti264 : TInfo Tryz.prog 264 1 8 [.nilFunc] := tinfo_mk inf264 rfl
instance tz264 : TZero Tryz.prog 264 (.nilFunc) := tzero_mk inf264
instance und265 : TUnd Tryz.prog 265 (.func #[3] #[215, 4] false) := ⟨Tryz.underlying265⟩
theorem inf265 : (Tryz.prog.info? 265).map (fun i => (i.zero, i.size, i.bytes)) = some (some (.nilFunc), 1, 8) := by kernel_rfl
instance ti265 : TInfo Tryz.prog 265 1 8 [.nilFunc] := tinfo_mk inf265 rfl
instance tz265 : TZero Tryz.prog 265 (.nilFunc) := tzero_mk inf265
instance und266 : TUnd Tryz.prog 266 (.func #[32, 3] #[3] false) := ⟨Tryz.underlying266⟩
theorem inf266 : (Tryz.prog.info? 266).map (fun i => (i.zero, i.size, i.bytes)) = some (some (.nilFunc), 1, 8) := by kernel_rfl
instance ti266 : TInfo Tryz.prog 266 1 8 [.nilFunc] := tinfo_mk inf266 rfl
instance tz266 : TZero Tryz.prog 266 (.nilFunc) := tzero_mk inf266
instance und267 : TUnd Tryz.prog 267 (.func #[32, 3, 3] #[32] false) := ⟨Tryz.underlying267⟩
theorem inf267 : (Tryz.prog.info? 267).map (fun i => (i.zero, i.size, i.bytes)) = some (some (.nilFunc), 1, 8) := by kernel_rfl
instance ti267 : TInfo Tryz.prog 267 1 8 [.nilFunc] := tinfo_mk inf267 rfl
instance tz267 : TZero Tryz.prog 267 (.nilFunc) := tzero_mk inf267
instance und268 : TUnd Tryz.prog 268 (.func #[180, 3, 3] #[180] false) := ⟨Tryz.underlying268⟩
theorem inf268 : (Tryz.prog.info? 268).map (fun i => (i.zero, i.size, i.bytes)) = some (some (.nilFunc), 1, 8) := by kernel_rfl
instance ti268 : TInfo Tryz.prog 268 1 8 [.nilFunc] := tinfo_mk inf268 rfl
instance tz268 : TZero Tryz.prog 268 (.nilFunc) := tzero_mk inf268
instance und269 : TUnd Tryz.prog 269 (.func #[185, 3, 3] #[185] false) := ⟨Tryz.underlying269⟩
theorem inf269 : (Tryz.prog.info? 269).map (fun i => (i.zero, i.size, i.bytes)) = some (some (.nilFunc), 1, 8) := by kernel_rfl
instance ti269 : TInfo Tryz.prog 269 1 8 [.nilFunc] := tinfo_mk inf269 rfl
instance tz269 : TZero Tryz.prog 269 (.nilFunc) := tzero_mk inf269
instance und270 : TUnd Tryz.prog 270 (.struct #[⟨ "task", 3, 0, false, "", "conduit/conduitref16", 0⟩, ⟨ "ticket", 3, 1, false, "", "conduit/conduitref16", 8⟩, ⟨ "which", 3, 2, false, "", "conduit/conduitref16", 16⟩, ⟨ "v", 3, 3, false, "", "conduit/conduitref16", 24⟩]) := ⟨Tryz.underlying270⟩
theorem inf270 : (Tryz.prog.info? 270).map (fun i => (i.zero, i.size, i.bytes)) = some (some (.agg #[.int .i64 0, .int .i64 0, .int .i64 0, .int .i64 0]), 4, 32) := by kernel_rfl
instance ti270 : TInfo Tryz.prog 270 4 32 [.int .i64 0, .int .i64 0, .int .i64 0, .int .i64 0] := tinfo_mk inf270 rfl
instance tz270 : TZero Tryz.prog 270 (.agg #[.int .i64 0, .int .i64 0, .int .i64 0, .int .i64 0]) := tzero_mk inf270
instance tf270_0 : TField Tryz.prog 270 0 0 := tfield_mk Tryz.underlying270 rfl rfl (by kernel_rfl)
instance tp270_0 : TPart Tryz.prog 270 0 0 1 false := tpart_mk Tryz.underlying270 rfl rfl (by kernel_rfl) Tryz.underlying3 rfl
instance tf270_1 : TField Tryz.prog 270 1 1 := tfield_mk Tryz.underlying270 rfl rfl (by kernel_rfl)
instance tp270_1 : TPart Tryz.prog 270 1 1 1 false := tpart_mk Tryz.underlying270 rfl rfl (by kernel_rfl) Tryz.underlying3 rfl
instance tf270_2 : TField Tryz.prog 270 2 2 := tfield_mk Tryz.underlying270 rfl rfl (by kernel_rfl)
instance tp270_2 : TPart Tryz.prog 270 2 2 1 false := tpart_mk Tryz.underlying270 rfl rfl (by kernel_rfl) Tryz.underlying3 rfl
instance tf270_3 : TField Tryz.prog 270 3 3 := tfield_mk Tryz.underlying270 rfl rfl (by kernel_rfl)
instance tp270_3 : TPart Tryz.prog 270 3 3 1 false := tpart_mk Tryz.underlying270 rfl rfl (by kernel_rfl) Tryz.underlying3 rfl
instance tpl270 : TPlaces Tryz.prog 270 [(0, 1), (1, 1), (2, 1), (3, 1)] := tplaces_mk Tryz.underlying270 (by kernel_rfl) (by kernel_rfl)
instance und271 : TUnd Tryz.prog 271 (.struct #[⟨ "task", 3, 0, false, "", "conduit/conduitref16", 0⟩, ⟨ "ticket", 3, 1, false, "", "conduit/conduitref16", 8⟩, ⟨ "which", 3, 2, false, "", "conduit/conduitref16", 16⟩, ⟨ "v", 3, 3, false, "", "conduit/conduitref16", 24⟩]) := ⟨Tryz.underlying271⟩
theorem inf271 : (Tryz.prog.info? 271).map (fun i => (i.zero, i.size, i.bytes)) = some (some (.agg #[.int .i64 0, .int .i64 0, .int .i64 0, .int .i64 0]), 4, 32) := by kernel_rfl
instance ti271 : TInfo Tryz.prog 271 4 32 [.int .i64 0, .int .i64 0, .int .i64 0, .int .i64 0] := tinfo_mk inf271 rfl
instance tz271 : TZero Tryz.prog 271 (.agg #[.int .i64 0, .int .i64 0, .int .i64 0, .int .i64 0]) := tzero_mk inf271
instance tf271_0 : TField Tryz.prog 271 0 0 := tfield_mk Tryz.underlying271 rfl rfl (by kernel_rfl)
instance tp271_0 : TPart Tryz.prog 271 0 0 1 false := tpart_mk Tryz.underlying271 rfl rfl (by kernel_rfl) Tryz.underlying3 rfl
instance tf271_1 : TField Tryz.prog 271 1 1 := tfield_mk Tryz.underlying271 rfl rfl (by kernel_rfl)
instance tp271_1 : TPart Tryz.prog 271 1 1 1 false := tpart_mk Tryz.underlying271 rfl rfl (by kernel_rfl) Tryz.underlying3 rfl
instance tf271_2 : TField Tryz.prog 271 2 2 := tfield_mk Tryz.underlying271 rfl rfl (by kernel_rfl)
instance tp271_2 : TPart Tryz.prog 271 2 2 1 false := tpart_mk Tryz.underlying271 rfl rfl (by kernel_rfl) Tryz.underlying3 rfl
instance tf271_3 : TField Tryz.prog 271 3 3 := tfield_mk Tryz.underlying271 rfl rfl (by kernel_rfl)
instance tp271_3 : TPart Tryz.prog 271 3 3 1 false := tpart_mk Tryz.underlying271 rfl rfl (by kernel_rfl) Tryz.underlying3 rfl
instance tpl271 : TPlaces Tryz.prog 271 [(0, 1), (1, 1), (2, 1), (3, 1)] := tplaces_mk Tryz.underlying271 (by kernel_rfl) (by kernel_rfl)
instance und272 : TUnd Tryz.prog 272 (.pointer 125) := ⟨Tryz.underlying272⟩
theorem inf272 : (Tryz.prog.info? 272).map (fun i => (i.zero, i.size, i.bytes)) = some (some (.pointer none), 1, 8) := by kernel_rfl
instance ti272 : TInfo Tryz.prog 272 1 8 [.pointer none] := tinfo_mk inf272 rfl
instance tz272 : TZero Tryz.prog 272 (.pointer none) := tzero_mk inf272
instance und273 : TUnd Tryz.prog 273 (.func #[271, 3, 4] #[] false) := ⟨Tryz.underlying273⟩
theorem inf273 : (Tryz.prog.info? 273).map (fun i => (i.zero, i.size, i.bytes)) = some (some (.nilFunc), 1, 8) := by kernel_rfl
instance ti273 : TInfo Tryz.prog 273 1 8 [.nilFunc] := tinfo_mk inf273 rfl
instance tz273 : TZero Tryz.prog 273 (.nilFunc) := tzero_mk inf273
instance und274 : TUnd Tryz.prog 274 (.func #[257] #[257] false) := ⟨Tryz.underlying274⟩
theorem inf274 : (Tryz.prog.info? 274).map (fun i => (i.zero, i.size, i.bytes)) = some (some (.nilFunc), 1, 8) := by kernel_rfl
instance ti274 : TInfo Tryz.prog 274 1 8 [.nilFunc] := tinfo_mk inf274 rfl
instance tz274 : TZero Tryz.prog 274 (.nilFunc) := tzero_mk inf274
instance und275 : TUnd Tryz.prog 275 (.slice 215) := ⟨Tryz.underlying275⟩
theorem inf275 : (Tryz.prog.info? 275).map (fun i => (i.zero, i.size, i.bytes)) = some (some (.slice none 0 0), 1, 24) := by kernel_rfl
instance ti275 : TInfo Tryz.prog 275 1 24 [.slice none 0 0] := tinfo_mk inf275 rfl
instance tz275 : TZero Tryz.prog 275 (.slice none 0 0) := tzero_mk inf275
instance und276 : TUnd Tryz.prog 276 (.func #[275] #[275] false) := ⟨Tryz.underlying276⟩
theorem inf276 : (Tryz.prog.info? 276).map (fun i => (i.zero, i.size, i.bytes)) = some (some (.nilFunc), 1, 8) := by kernel_rfl
instance ti276 : TInfo Tryz.prog 276 1 8 [.nilFunc] := tinfo_mk inf276 rfl
instance tz276 : TZero Tryz.prog 276 (.nilFunc) := tzero_mk inf276
instance und277 : TUnd Tryz.prog 277 (.struct #[⟨ "made", 4, 0, false, "", "conduit/queue", 0⟩, ⟨ "l", 275, 1, false, "", "conduit/queue", 8⟩]) := ⟨Tryz.underlying277⟩
theorem inf277 : (Tryz.prog.info? 277).map (fun i => (i.zero, i.size, i.bytes)) = some (some (.agg #[.bool false, .slice none 0 0]), 2, 32) := by kernel_rfl
instance ti277 : TInfo Tryz.prog 277 2 32 [.bool false, .slice none 0 0] := tinfo_mk inf277 rfl
instance tz277 : TZero Tryz.prog 277 (.agg #[.bool false, .slice none 0 0]) := tzero_mk inf277
instance tf277_0 : TField Tryz.prog 277 0 0 := tfield_mk Tryz.underlying277 rfl rfl (by kernel_rfl)
instance tp277_0 : TPart Tryz.prog 277 0 0 1 false := tpart_mk Tryz.underlying277 rfl rfl (by kernel_rfl) Tryz.underlying4 rfl
instance tf277_1 : TField Tryz.prog 277 1 1 := tfield_mk Tryz.underlying277 rfl rfl (by kernel_rfl)
instance tp277_1 : TPart Tryz.prog 277 1 1 1 false := tpart_mk Tryz.underlying277 rfl rfl (by kernel_rfl) Tryz.underlying275 rfl
instance tpl277 : TPlaces Tryz.prog 277 [(0, 1), (1, 1)] := tplaces_mk Tryz.underlying277 (by kernel_rfl) (by kernel_rfl)
instance und278 : TUnd Tryz.prog 278 (.struct #[⟨ "made", 4, 0, false, "", "conduit/queue", 0⟩, ⟨ "l", 275, 1, false, "", "conduit/queue", 8⟩]) := ⟨Tryz.underlying278⟩
theorem inf278 : (Tryz.prog.info? 278).map (fun i => (i.zero, i.size, i.bytes)) = some (some (.agg #[.bool false, .slice none 0 0]), 2, 32) := by kernel_rfl
instance ti278 : TInfo Tryz.prog 278 2 32 [.bool false, .slice none 0 0] := tinfo_mk inf278 rfl
instance tz278 : TZero Tryz.prog 278 (.agg #[.bool false, .slice none 0 0]) := tzero_mk inf278
instance tf278_0 : TField Tryz.prog 278 0 0 := tfield_mk Tryz.underlying278 rfl rfl (by kernel_rfl)
instance tp278_0 : TPart Tryz.prog 278 0 0 1 false := tpart_mk Tryz.underlying278 rfl rfl (by kernel_rfl) Tryz.underlying4 rfl
instance tf278_1 : TField Tryz.prog 278 1 1 := tfield_mk Tryz.underlying278 rfl rfl (by kernel_rfl)
instance tp278_1 : TPart Tryz.prog 278 1 1 1 false := tpart_mk Tryz.underlying278 rfl rfl (by kernel_rfl) Tryz.underlying275 rfl
instance tpl278 : TPlaces Tryz.prog 278 [(0, 1), (1, 1)] := tplaces_mk Tryz.underlying278 (by kernel_rfl) (by kernel_rfl)
instance und279 : TUnd Tryz.prog 279 (.slice 254) := ⟨Tryz.underlying279⟩
theorem inf279 : (Tryz.prog.info? 279).map (fun i => (i.zero, i.size, i.bytes)) = some (some (.slice none 0 0), 1, 24) := by kernel_rfl
instance ti279 : TInfo Tryz.prog 279 1 24 [.slice none 0 0] := tinfo_mk inf279 rfl
instance tz279 : TZero Tryz.prog 279 (.slice none 0 0) := tzero_mk inf279
instance und280 : TUnd Tryz.prog 280 (.func #[279] #[279] false) := ⟨Tryz.underlying280⟩
theorem inf280 : (Tryz.prog.info? 280).map (fun i => (i.zero, i.size, i.bytes)) = some (some (.nilFunc), 1, 8) := by kernel_rfl
instance ti280 : TInfo Tryz.prog 280 1 8 [.nilFunc] := tinfo_mk inf280 rfl
instance tz280 : TZero Tryz.prog 280 (.nilFunc) := tzero_mk inf280
instance und281 : TUnd Tryz.prog 281 (.struct #[⟨ "made", 4, 0, false, "", "conduit/queue", 0⟩, ⟨ "l", 279, 1, false, "", "conduit/queue", 8⟩]) := ⟨Tryz.underlying281⟩
theorem inf281 : (Tryz.prog.info? 281).map (fun i => (i.zero, i.size, i.bytes)) = some (some (.agg #[.bool false, .slice none 0 0]), 2, 32) := by kernel_rfl
instance ti281 : TInfo Tryz.prog 281 2 32 [.bool false, .slice none 0 0] := tinfo_mk inf281 rfl
instance tz281 : TZero Tryz.prog 281 (.agg #[.bool false, .slice none 0 0]) := tzero_mk inf281
instance tf281_0 : TField Tryz.prog 281 0 0 := tfield_mk Tryz.underlying281 rfl rfl (by kernel_rfl)
instance tp281_0 : TPart Tryz.prog 281 0 0 1 false := tpart_mk Tryz.underlying281 rfl rfl (by kernel_rfl) Tryz.underlying4 rfl
instance tf281_1 : TField Tryz.prog 281 1 1 := tfield_mk Tryz.underlying281 rfl rfl (by kernel_rfl)
instance tp281_1 : TPart Tryz.prog 281 1 1 1 false := tpart_mk Tryz.underlying281 rfl rfl (by kernel_rfl) Tryz.underlying279 rfl
instance tpl281 : TPlaces Tryz.prog 281 [(0, 1), (1, 1)] := tplaces_mk Tryz.underlying281 (by kernel_rfl) (by kernel_rfl)
instance und282 : TUnd Tryz.prog 282 (.struct #[⟨ "made", 4, 0, false, "", "conduit/queue", 0⟩, ⟨ "l", 279, 1, false, "", "conduit/queue", 8⟩]) := ⟨Tryz.underlying282⟩
theorem inf282 : (Tryz.prog.info? 282).map (fun i => (i.zero, i.size, i.bytes)) = some (some (.agg #[.bool false, .slice none 0 0]), 2, 32) := by kernel_rfl
instance ti282 : TInfo Tryz.prog 282 2 32 [.bool false, .slice none 0 0] := tinfo_mk inf282 rfl
instance tz282 : TZero Tryz.prog 282 (.agg #[.bool false, .slice none 0 0]) := tzero_mk inf282
instance tf282_0 : TField Tryz.prog 282 0 0 := tfield_mk Tryz.underlying282 rfl rfl (by kernel_rfl)
instance tp282_0 : TPart Tryz.prog 282 0 0 1 false := tpart_mk Tryz.underlying282 rfl rfl (by kernel_rfl) Tryz.underlying4 rfl
instance tf282_1 : TField Tryz.prog 282 1 1 := tfield_mk Tryz.underlying282 rfl rfl (by kernel_rfl)
instance tp282_1 : TPart Tryz.prog 282 1 1 1 false := tpart_mk Tryz.underlying282 rfl rfl (by kernel_rfl) Tryz.underlying279 rfl
instance tpl282 : TPlaces Tryz.prog 282 [(0, 1), (1, 1)] := tplaces_mk Tryz.underlying282 (by kernel_rfl) (by kernel_rfl)
instance und283 : TUnd Tryz.prog 283 (.func #[3] #[254, 4] false) := ⟨Tryz.underlying283⟩
theorem inf283 : (Tryz.prog.info? 283).map (fun i => (i.zero, i.size, i.bytes)) = some (some (.nilFunc), 1, 8) := by kernel_rfl
instance ti283 : TInfo Tryz.prog 283 1 8 [.nilFunc] := tinfo_mk inf283 rfl
instance tz283 : TZero Tryz.prog 283 (.nilFunc) := tzero_mk inf283
instance und284 : TUnd Tryz.prog 284 (.func #[275, 261] #[275] false) := ⟨Tryz.underlying284⟩
theorem inf284 : (Tryz.prog.info? 284).map (fun i => (i.zero, i.size, i.bytes)) = some (some (.nilFunc), 1, 8) := by kernel_rfl
instance ti284 : TInfo Tryz.prog 284 1 8 [.nilFunc] := tinfo_mk inf284 rfl
instance tz284 : TZero Tryz.prog 284 (.nilFunc) := tzero_mk inf284
instance und285 : TUnd Tryz.prog 285 (.func #[279, 263] #[279] false) := ⟨Tryz.underlying285⟩
theorem inf285 : (Tryz.prog.info? 285).map (fun i => (i.zero, i.size, i.bytes)) = some (some (.nilFunc), 1, 8) := by kernel_rfl
instance ti285 : TInfo Tryz.prog 285 1 8 [.nilFunc] := tinfo_mk inf285 rfl
instance tz285 : TZero Tryz.prog 285 (.nilFunc) := tzero_mk inf285
instance und286 : TUnd Tryz.prog 286 (.func #[257, 3, 3] #[257] false) := ⟨Tryz.underlying286⟩
theorem inf286 : (Tryz.prog.info? 286).map (fun i => (i.zero, i.size, i.bytes)) = some (some (.nilFunc), 1, 8) := by kernel_rfl
instance ti286 : TInfo Tryz.prog 286 1 8 [.nilFunc] := tinfo_mk inf286 rfl
instance tz286 : TZero Tryz.prog 286 (.nilFunc) := tzero_mk inf286
instance und287 : TUnd Tryz.prog 287 (.func #[275, 3, 3] #[275] false) := ⟨Tryz.underlying287⟩
theorem inf287 : (Tryz.prog.info? 287).map (fun i => (i.zero, i.size, i.bytes)) = some (some (.nilFunc), 1, 8) := by kernel_rfl
instance ti287 : TInfo Tryz.prog 287 1 8 [.nilFunc] := tinfo_mk inf287 rfl
instance tz287 : TZero Tryz.prog 287 (.nilFunc) := tzero_mk inf287
instance und288 : TUnd Tryz.prog 288 (.func #[279, 3, 3] #[279] false) := ⟨Tryz.underlying288⟩
theorem inf288 : (Tryz.prog.info? 288).map (fun i => (i.zero, i.size, i.bytes)) = some (some (.nilFunc), 1, 8) := by kernel_rfl
instance ti288 : TInfo Tryz.prog 288 1 8 [.nilFunc] := tinfo_mk inf288 rfl
instance tz288 : TZero Tryz.prog 288 (.nilFunc) := tzero_mk inf288
instance und289 : TUnd Tryz.prog 289 (.func #[275, 261] #[3] false) := ⟨Tryz.underlying289⟩
theorem inf289 : (Tryz.prog.info? 289).map (fun i => (i.zero, i.size, i.bytes)) = some (some (.nilFunc), 1, 8) := by kernel_rfl
instance ti289 : TInfo Tryz.prog 289 1 8 [.nilFunc] := tinfo_mk inf289 rfl
instance tz289 : TZero Tryz.prog 289 (.nilFunc) := tzero_mk inf289
instance und290 : TUnd Tryz.prog 290 (.func #[279, 263] #[3] false) := ⟨Tryz.underlying290⟩
theorem inf290 : (Tryz.prog.info? 290).map (fun i => (i.zero, i.size, i.bytes)) = some (some (.nilFunc), 1, 8) := by kernel_rfl
instance ti290 : TInfo Tryz.prog 290 1 8 [.nilFunc] := tinfo_mk inf290 rfl
instance tz290 : TZero Tryz.prog 290 (.nilFunc) := tzero_mk inf290
instance und291 : TUnd Tryz.prog 291 (.func #[123] #[123] false) := ⟨Tryz.underlying291⟩
theorem inf291 : (Tryz.prog.info? 291).map (fun i => (i.zero, i.size, i.bytes)) = some (some (.nilFunc), 1, 8) := by kernel_rfl
instance ti291 : TInfo Tryz.prog 291 1 8 [.nilFunc] := tinfo_mk inf291 rfl
instance tz291 : TZero Tryz.prog 291 (.nilFunc) := tzero_mk inf291
instance und292 : TUnd Tryz.prog 292 (.func #[] #[9] false) := ⟨Tryz.underlying292⟩
theorem inf292 : (Tryz.prog.info? 292).map (fun i => (i.zero, i.size, i.bytes)) = some (some (.nilFunc), 1, 8) := by kernel_rfl
instance ti292 : TInfo Tryz.prog 292 1 8 [.nilFunc] := tinfo_mk inf292 rfl
instance tz292 : TZero Tryz.prog 292 (.nilFunc) := tzero_mk inf292
instance und295 : TUnd Tryz.prog 295 (.array 0 16) := ⟨Tryz.underlying295⟩
theorem inf295 : (Tryz.prog.info? 295).map (fun i => (i.zero, i.size, i.bytes)) = some (some (.agg #[]), 0, 0) := by kernel_rfl
instance ti295 : TInfo Tryz.prog 295 0 0 [] := tinfo_mk inf295 rfl
instance tz295 : TZero Tryz.prog 295 (.agg #[]) := tzero_mk inf295
instance und298 : TUnd Tryz.prog 298 (.int .u32) := ⟨Tryz.underlying298⟩
theorem inf298 : (Tryz.prog.info? 298).map (fun i => (i.zero, i.size, i.bytes)) = some (some (.int .u32 0), 1, 4) := by kernel_rfl
instance ti298 : TInfo Tryz.prog 298 1 4 [.int .u32 0] := tinfo_mk inf298 rfl
instance tz298 : TZero Tryz.prog 298 (.int .u32 0) := tzero_mk inf298
instance und301 : TUnd Tryz.prog 301 (.func #[316, 316] #[4] false) := ⟨Tryz.underlying301⟩
theorem inf301 : (Tryz.prog.info? 301).map (fun i => (i.zero, i.size, i.bytes)) = some (some (.nilFunc), 1, 8) := by kernel_rfl
instance ti301 : TInfo Tryz.prog 301 1 8 [.nilFunc] := tinfo_mk inf301 rfl
instance tz301 : TZero Tryz.prog 301 (.nilFunc) := tzero_mk inf301
instance und302 : TUnd Tryz.prog 302 (.pointer 5) := ⟨Tryz.underlying302⟩
theorem inf302 : (Tryz.prog.info? 302).map (fun i => (i.zero, i.size, i.bytes)) = some (some (.pointer none), 1, 8) := by kernel_rfl
instance ti302 : TInfo Tryz.prog 302 1 8 [.pointer none] := tinfo_mk inf302 rfl
instance tz302 : TZero Tryz.prog 302 (.pointer none) := tzero_mk inf302
instance und305 : TUnd Tryz.prog 305 (.struct #[⟨ "Size_", 12, 0, false, "", "", 0⟩, ⟨ "PtrBytes", 12, 1, false, "", "", 8⟩, ⟨ "Hash", 298, 2, false, "", "", 16⟩, ⟨ "TFlag", 299, 3, false, "", "", 20⟩, ⟨ "Align_", 5, 4, false, "", "", 21⟩, ⟨ "FieldAlign_", 5, 5, false, "", "", 22⟩, ⟨ "Kind_", 300, 6, false, "", "", 23⟩, ⟨ "Equal", 301, 7, false, "", "", 24⟩, ⟨ "GCData", 302, 8, false, "", "", 32⟩, ⟨ "Str", 303, 9, false, "", "", 40⟩, ⟨ "PtrToThis", 304, 10, false, "", "", 44⟩]) := ⟨Tryz.underlying305⟩
theorem inf305 : (Tryz.prog.info? 305).map (fun i => (i.zero, i.size, i.bytes)) = some (some (.agg #[.int .u64 0, .int .u64 0, .int .u32 0, .int .u8 0, .int .u8 0, .int .u8 0, .int .u8 0, .nilFunc, .pointer none, .int .i32 0, .int .i32 0]), 11, 48) := by kernel_rfl
instance ti305 : TInfo Tryz.prog 305 11 48 [.int .u64 0, .int .u64 0, .int .u32 0, .int .u8 0, .int .u8 0, .int .u8 0, .int .u8 0, .nilFunc, .pointer none, .int .i32 0, .int .i32 0] := tinfo_mk inf305 rfl
instance tz305 : TZero Tryz.prog 305 (.agg #[.int .u64 0, .int .u64 0, .int .u32 0, .int .u8 0, .int .u8 0, .int .u8 0, .int .u8 0, .nilFunc, .pointer none, .int .i32 0, .int .i32 0]) := tzero_mk inf305
instance tf305_0 : TField Tryz.prog 305 0 0 := tfield_mk Tryz.underlying305 rfl rfl (by kernel_rfl)
instance tp305_0 : TPart Tryz.prog 305 0 0 1 false := tpart_mk Tryz.underlying305 rfl rfl (by kernel_rfl) Tryz.underlying12 rfl
instance tf305_1 : TField Tryz.prog 305 1 1 := tfield_mk Tryz.underlying305 rfl rfl (by kernel_rfl)
instance tp305_1 : TPart Tryz.prog 305 1 1 1 false := tpart_mk Tryz.underlying305 rfl rfl (by kernel_rfl) Tryz.underlying12 rfl
instance tf305_2 : TField Tryz.prog 305 2 2 := tfield_mk Tryz.underlying305 rfl rfl (by kernel_rfl)
instance tp305_2 : TPart Tryz.prog 305 2 2 1 false := tpart_mk Tryz.underlying305 rfl rfl (by kernel_rfl) Tryz.underlying298 rfl
instance tf305_3 : TField Tryz.prog 305 3 3 := tfield_mk Tryz.underlying305 rfl rfl (by kernel_rfl)
instance tp305_3 : TPart Tryz.prog 305 3 3 1 false := tpart_mk Tryz.underlying305 rfl rfl (by kernel_rfl) Tryz.underlying299 rfl
instance tf305_4 : TField Tryz.prog 305 4 4 := tfield_mk Tryz.underlying305 rfl rfl (by kernel_rfl)
instance tp305_4 : TPart Tryz.prog 305 4 4 1 false := tpart_mk Tryz.underlying305 rfl rfl (by kernel_rfl) Tryz.underlying5 rfl
instance tf305_5 : TField Tryz.prog 305 5 5 := tfield_mk Tryz.underlying305 rfl rfl (by kernel_rfl)
instance tp305_5 : TPart Tryz.prog 305 5 5 1 false := tpart_mk Tryz.underlying305 rfl rfl (by kernel_rfl) Tryz.underlying5 rfl
instance tf305_6 : TField Tryz.prog 305 6 6 := tfield_mk Tryz.underlying305 rfl rfl (by kernel_rfl)
instance tp305_6 : TPart Tryz.prog 305 6 6 1 false := tpart_mk Tryz.underlying305 rfl rfl (by kernel_rfl) Tryz.underlying300 rfl
instance tf305_7 : TField Tryz.prog 305 7 7 := tfield_mk Tryz.underlying305 rfl rfl (by kernel_rfl)
instance tp305_7 : TPart Tryz.prog 305 7 7 1 false := tpart_mk Tryz.underlying305 rfl rfl (by kernel_rfl) Tryz.underlying301 rfl
instance tf305_8 : TField Tryz.prog 305 8 8 := tfield_mk Tryz.underlying305 rfl rfl (by kernel_rfl)
instance tp305_8 : TPart Tryz.prog 305 8 8 1 false := tpart_mk Tryz.underlying305 rfl rfl (by kernel_rfl) Tryz.underlying302 rfl
instance tf305_9 : TField Tryz.prog 305 9 9 := tfield_mk Tryz.underlying305 rfl rfl (by kernel_rfl)
instance tp305_9 : TPart Tryz.prog 305 9 9 1 false := tpart_mk Tryz.underlying305 rfl rfl (by kernel_rfl) Tryz.underlying303 rfl
instance tf305_10 : TField Tryz.prog 305 10 10 := tfield_mk Tryz.underlying305 rfl rfl (by kernel_rfl)
instance tp305_10 : TPart Tryz.prog 305 10 10 1 false := tpart_mk Tryz.underlying305 rfl rfl (by kernel_rfl) Tryz.underlying304 rfl
instance tpl305 : TPlaces Tryz.prog 305 [(0, 1), (1, 1), (2, 1), (3, 1), (4, 1), (5, 1), (6, 1), (7, 1), (8, 1), (9, 1), (10, 1)] := tplaces_mk Tryz.underlying305 (by kernel_rfl) (by kernel_rfl)
instance und307 : TUnd Tryz.prog 307 (.func #[116] #[3] false) := ⟨Tryz.underlying307⟩
theorem inf307 : (Tryz.prog.info? 307).map (fun i => (i.zero, i.size, i.bytes)) = some (some (.nilFunc), 1, 8) := by kernel_rfl
instance ti307 : TInfo Tryz.prog 307 1 8 [.nilFunc] := tinfo_mk inf307 rfl
instance tz307 : TZero Tryz.prog 307 (.nilFunc) := tzero_mk inf307
instance und308 : TUnd Tryz.prog 308 (.func #[71, 109] #[29] false) := ⟨Tryz.underlying308⟩
theorem inf308 : (Tryz.prog.info? 308).map (fun i => (i.zero, i.size, i.bytes)) = some (some (.nilFunc), 1, 8) := by kernel_rfl
instance ti308 : TInfo Tryz.prog 308 1 8 [.nilFunc] := tinfo_mk inf308 rfl
instance tz308 : TZero Tryz.prog 308 (.nilFunc) := tzero_mk inf308
instance und309 : TUnd Tryz.prog 309 (.func #[2, 71, 36] #[29] false) := ⟨Tryz.underlying309⟩
theorem inf309 : (Tryz.prog.info? 309).map (fun i => (i.zero, i.size, i.bytes)) = some (some (.nilFunc), 1, 8) := by kernel_rfl
instance ti309 : TInfo Tryz.prog 309 1 8 [.nilFunc] := tinfo_mk inf309 rfl
instance tz309 : TZero Tryz.prog 309 (.nilFunc) := tzero_mk inf309
instance und310 : TUnd Tryz.prog 310 (.func #[117] #[3] false) := ⟨Tryz.underlying310⟩
theorem inf310 : (Tryz.prog.info? 310).map (fun i => (i.zero, i.size, i.bytes)) = some (some (.nilFunc), 1, 8) := by kernel_rfl
instance ti310 : TInfo Tryz.prog 310 1 8 [.nilFunc] := tinfo_mk inf310 rfl
instance tz310 : TZero Tryz.prog 310 (.nilFunc) := tzero_mk inf310
instance und311 : TUnd Tryz.prog 311 (.func #[] #[257] false) := ⟨Tryz.underlying311⟩
theorem inf311 : (Tryz.prog.info? 311).map (fun i => (i.zero, i.size, i.bytes)) = some (some (.nilFunc), 1, 8) := by kernel_rfl
instance ti311 : TInfo Tryz.prog 311 1 8 [.nilFunc] := tinfo_mk inf311 rfl
instance tz311 : TZero Tryz.prog 311 (.nilFunc) := tzero_mk inf311
instance und312 : TUnd Tryz.prog 312 (.func #[] #[275] false) := ⟨Tryz.underlying312⟩
theorem inf312 : (Tryz.prog.info? 312).map (fun i => (i.zero, i.size, i.bytes)) = some (some (.nilFunc), 1, 8) := by kernel_rfl
instance ti312 : TInfo Tryz.prog 312 1 8 [.nilFunc] := tinfo_mk inf312 rfl
instance tz312 : TZero Tryz.prog 312 (.nilFunc) := tzero_mk inf312
instance und313 : TUnd Tryz.prog 313 (.func #[215] #[] false) := ⟨Tryz.underlying313⟩
theorem inf313 : (Tryz.prog.info? 313).map (fun i => (i.zero, i.size, i.bytes)) = some (some (.nilFunc), 1, 8) := by kernel_rfl
instance ti313 : TInfo Tryz.prog 313 1 8 [.nilFunc] := tinfo_mk inf313 rfl
instance tz313 : TZero Tryz.prog 313 (.nilFunc) := tzero_mk inf313
instance und314 : TUnd Tryz.prog 314 (.func #[] #[279] false) := ⟨Tryz.underlying314⟩
theorem inf314 : (Tryz.prog.info? 314).map (fun i => (i.zero, i.size, i.bytes)) = some (some (.nilFunc), 1, 8) := by kernel_rfl
instance ti314 : TInfo Tryz.prog 314 1 8 [.nilFunc] := tinfo_mk inf314 rfl
instance tz314 : TZero Tryz.prog 314 (.nilFunc) := tzero_mk inf314
instance und315 : TUnd Tryz.prog 315 (.func #[254] #[] false) := ⟨Tryz.underlying315⟩
theorem inf315 : (Tryz.prog.info? 315).map (fun i => (i.zero, i.size, i.bytes)) = some (some (.nilFunc), 1, 8) := by kernel_rfl
instance ti315 : TInfo Tryz.prog 315 1 8 [.nilFunc] := tinfo_mk inf315 rfl
instance tz315 : TZero Tryz.prog 315 (.nilFunc) := tzero_mk inf315
instance tfl22 : TFlat Tryz.prog 22 [.i .i64, .i .i64, .i .i64] := tflat_struct Tryz.underlying22 ⟨by decide, rfl, Tryz.underlying3, by decide, rfl, Tryz.underlying3, by decide, rfl, Tryz.underlying3, trivial⟩ (by kernel_rfl) (by kernel_rfl)
instance tfl23 : TFlat Tryz.prog 23 [.i .i64, .i .i64, .i .i64] := tflat_struct Tryz.underlying23 ⟨by decide, rfl, Tryz.underlying3, by decide, rfl, Tryz.underlying3, by decide, rfl, Tryz.underlying3, trivial⟩ (by kernel_rfl) (by kernel_rfl)
instance tfl70 : TFlat Tryz.prog 70 [.i .i64, .i .i64, .i .i64, .i .i64] := tflat_arr (k := .i .i64) (n := 4) Tryz.underlying70 Tryz.underlying3 (by kernel_rfl) (by kernel_rfl)
instance tfl74 : TFlat Tryz.prog 74 [.i .i64, .i .i64, .i .i64] := tflat_arr (k := .i .i64) (n := 3) Tryz.underlying74 Tryz.underlying3 (by kernel_rfl) (by kernel_rfl)
instance tfl79 : TFlat Tryz.prog 79 [.i .i64, .i .i64, .i .i64, .i .i64, .i .i64, .i .i64, .i .i64] := tflat_arr (k := .i .i64) (n := 7) Tryz.underlying79 Tryz.underlying3 (by kernel_rfl) (by kernel_rfl)
instance tfl99 : TFlat Tryz.prog 99 [.i .i64, .i .i64, .i .i64, .i .i64, .b] := tflat_struct Tryz.underlying99 ⟨by decide, rfl, Tryz.underlying3, by decide, rfl, Tryz.underlying3, by decide, rfl, Tryz.underlying3, by decide, rfl, Tryz.underlying3, by decide, rfl, Tryz.underlying4, trivial⟩ (by kernel_rfl) (by kernel_rfl)
instance tfl100 : TFlat Tryz.prog 100 [.i .i64, .i .i64, .i .i64, .i .i64, .b] := tflat_struct Tryz.underlying100 ⟨by decide, rfl, Tryz.underlying3, by decide, rfl, Tryz.underlying3, by decide, rfl, Tryz.underlying3, by decide, rfl, Tryz.underlying3, by decide, rfl, Tryz.underlying4, trivial⟩ (by kernel_rfl) (by kernel_rfl)
instance tfl120 : TFlat Tryz.prog 120 [.i .i64, .i .i64, .b, .b] := tflat_struct Tryz.underlying120 ⟨by decide, rfl, Tryz.underlying2, by decide, rfl, Tryz.underlying2, by decide, rfl, Tryz.underlying4, by decide, rfl, Tryz.underlying4, trivial⟩ (by kernel_rfl) (by kernel_rfl)
instance tfl121 : TFlat Tryz.prog 121 [.i .i64, .i .i64, .b, .b] := tflat_struct Tryz.underlying121 ⟨by decide, rfl, Tryz.underlying2, by decide, rfl, Tryz.underlying2, by decide, rfl, Tryz.underlying4, by decide, rfl, Tryz.underlying4, trivial⟩ (by kernel_rfl) (by kernel_rfl)
instance tfl136 : TFlat Tryz.prog 136 [.i .i64, .i .i64, .i .i64] := tflat_struct Tryz.underlying136 ⟨by decide, rfl, Tryz.underlying3, by decide, rfl, Tryz.underlying3, by decide, rfl, Tryz.underlying2, trivial⟩ (by kernel_rfl) (by kernel_rfl)
instance tfl137 : TFlat Tryz.prog 137 [.i .i64, .i .i64, .i .i64] := tflat_struct Tryz.underlying137 ⟨by decide, rfl, Tryz.underlying3, by decide, rfl, Tryz.underlying3, by decide, rfl, Tryz.underlying2, trivial⟩ (by kernel_rfl) (by kernel_rfl)
instance tfl170 : TFlat Tryz.prog 170 [.i .i64, .i .i64, .b] := tflat_struct Tryz.underlying170 ⟨by decide, rfl, Tryz.underlying3, by decide, rfl, Tryz.underlying3, by decide, rfl, Tryz.underlying4, trivial⟩ (by kernel_rfl) (by kernel_rfl)
instance tfl171 : TFlat Tryz.prog 171 [.i .i64, .i .i64, .b] := tflat_struct Tryz.underlying171 ⟨by decide, rfl, Tryz.underlying3, by decide, rfl, Tryz.underlying3, by decide, rfl, Tryz.underlying4, trivial⟩ (by kernel_rfl) (by kernel_rfl)
instance tfl194 : TFlat Tryz.prog 194 [.i .i64, .i .i64, .i .i64] := tflat_struct Tryz.underlying194 ⟨by decide, rfl, Tryz.underlying2, by decide, rfl, Tryz.underlying3, by decide, rfl, Tryz.underlying3, trivial⟩ (by kernel_rfl) (by kernel_rfl)
instance tfl195 : TFlat Tryz.prog 195 [.i .i64, .i .i64, .i .i64] := tflat_struct Tryz.underlying195 ⟨by decide, rfl, Tryz.underlying2, by decide, rfl, Tryz.underlying3, by decide, rfl, Tryz.underlying3, trivial⟩ (by kernel_rfl) (by kernel_rfl)
instance tfl206 : TFlat Tryz.prog 206 [.i .i64, .i .i64] := tflat_struct Tryz.underlying206 ⟨by decide, rfl, Tryz.underlying2, by decide, rfl, Tryz.underlying3, trivial⟩ (by kernel_rfl) (by kernel_rfl)
instance tfl207 : TFlat Tryz.prog 207 [.i .i64, .i .i64] := tflat_struct Tryz.underlying207 ⟨by decide, rfl, Tryz.underlying2, by decide, rfl, Tryz.underlying3, trivial⟩ (by kernel_rfl) (by kernel_rfl)
instance tfl246 : TFlat Tryz.prog 246 [.b, .i .i64, .i .i64] := tflat_struct Tryz.underlying246 ⟨by decide, rfl, Tryz.underlying4, by decide, rfl, Tryz.underlying3, by decide, rfl, Tryz.underlying3, trivial⟩ (by kernel_rfl) (by kernel_rfl)
instance tfl247 : TFlat Tryz.prog 247 [.b, .i .i64, .i .i64] := tflat_struct Tryz.underlying247 ⟨by decide, rfl, Tryz.underlying4, by decide, rfl, Tryz.underlying3, by decide, rfl, Tryz.underlying3, trivial⟩ (by kernel_rfl) (by kernel_rfl)
instance tfl270 : TFlat Tryz.prog 270 [.i .i64, .i .i64, .i .i64, .i .i64] := tflat_struct Tryz.underlying270 ⟨by decide, rfl, Tryz.underlying3, by decide, rfl, Tryz.underlying3, by decide, rfl, Tryz.underlying3, by decide, rfl, Tryz.underlying3, trivial⟩ (by kernel_rfl) (by kernel_rfl)
instance tfl271 : TFlat Tryz.prog 271 [.i .i64, .i .i64, .i .i64, .i .i64] := tflat_struct Tryz.underlying271 ⟨by decide, rfl, Tryz.underlying3, by decide, rfl, Tryz.underlying3, by decide, rfl, Tryz.underlying3, by decide, rfl, Tryz.underlying3, trivial⟩ (by kernel_rfl) (by kernel_rfl)
instance fn3 : FnOk Tryz.prog 3 := ⟨⟨_, Tryz.func3, by kernel_rfl, by kernel_rfl⟩⟩
instance fn4 : FnOk Tryz.prog 4 := ⟨⟨_, Tryz.func4, by kernel_rfl, by kernel_rfl⟩⟩
instance fn5 : FnOk Tryz.prog 5 := ⟨⟨_, Tryz.func5, by kernel_rfl, by kernel_rfl⟩⟩
instance fn6 : FnOk Tryz.prog 6 := ⟨⟨_, Tryz.func6, by kernel_rfl, by kernel_rfl⟩⟩
instance fn7 : FnOk Tryz.prog 7 := ⟨⟨_, Tryz.func7, by kernel_rfl, by kernel_rfl⟩⟩
instance fn8 : FnOk Tryz.prog 8 := ⟨⟨_, Tryz.func8, by kernel_rfl, by kernel_rfl⟩⟩
instance fn9 : FnOk Tryz.prog 9 := ⟨⟨_, Tryz.func9, by kernel_rfl, by kernel_rfl⟩⟩
instance fn10 : FnOk Tryz.prog 10 := ⟨⟨_, Tryz.func10, by kernel_rfl, by kernel_rfl⟩⟩
instance fn11 : FnOk Tryz.prog 11 := ⟨⟨_, Tryz.func11, by kernel_rfl, by kernel_rfl⟩⟩
instance fn12 : FnOk Tryz.prog 12 := ⟨⟨_, Tryz.func12, by kernel_rfl, by kernel_rfl⟩⟩
instance fn13 : FnOk Tryz.prog 13 := ⟨⟨_, Tryz.func13, by kernel_rfl, by kernel_rfl⟩⟩
instance fn14 : FnOk Tryz.prog 14 := ⟨⟨_, Tryz.func14, by kernel_rfl, by kernel_rfl⟩⟩
instance fn15 : FnOk Tryz.prog 15 := ⟨⟨_, Tryz.func15, by kernel_rfl, by kernel_rfl⟩⟩
instance fn16 : FnOk Tryz.prog 16 := ⟨⟨_, Tryz.func16, by kernel_rfl, by kernel_rfl⟩⟩
instance fn17 : FnOk Tryz.prog 17 := ⟨⟨_, Tryz.func17, by kernel_rfl, by kernel_rfl⟩⟩
instance fn18 : FnOk Tryz.prog 18 := ⟨⟨_, Tryz.func18, by kernel_rfl, by kernel_rfl⟩⟩
instance fn19 : FnOk Tryz.prog 19 := ⟨⟨_, Tryz.func19, by kernel_rfl, by kernel_rfl⟩⟩
instance fn20 : FnOk Tryz.prog 20 := ⟨⟨_, Tryz.func20, by kernel_rfl, by kernel_rfl⟩⟩
instance fn21 : FnOk Tryz.prog 21 := ⟨⟨_, Tryz.func21, by kernel_rfl, by kernel_rfl⟩⟩
instance fn22 : FnOk Tryz.prog 22 := ⟨⟨_, Tryz.func22, by kernel_rfl, by kernel_rfl⟩⟩
instance fn23 : FnOk Tryz.prog 23 := ⟨⟨_, Tryz.func23, by kernel_rfl, by kernel_rfl⟩⟩
instance fn24 : FnOk Tryz.prog 24 := ⟨⟨_, Tryz.func24, by kernel_rfl, by kernel_rfl⟩⟩
instance fn25 : FnOk Tryz.prog 25 := ⟨⟨_, Tryz.func25, by kernel_rfl, by kernel_rfl⟩⟩
instance fn26 : FnOk Tryz.prog 26 := ⟨⟨_, Tryz.func26, by kernel_rfl, by kernel_rfl⟩⟩
instance fn27 : FnOk Tryz.prog 27 := ⟨⟨_, Tryz.func27, by kernel_rfl, by kernel_rfl⟩⟩
instance fn28 : FnOk Tryz.prog 28 := ⟨⟨_, Tryz.func28, by kernel_rfl, by kernel_rfl⟩⟩
instance fn29 : FnOk Tryz.prog 29 := ⟨⟨_, Tryz.func29, by kernel_rfl, by kernel_rfl⟩⟩
instance fn30 : FnOk Tryz.prog 30 := ⟨⟨_, Tryz.func30, by kernel_rfl, by kernel_rfl⟩⟩
instance fn31 : FnOk Tryz.prog 31 := ⟨⟨_, Tryz.func31, by kernel_rfl, by kernel_rfl⟩⟩
instance fn32 : FnOk Tryz.prog 32 := ⟨⟨_, Tryz.func32, by kernel_rfl, by kernel_rfl⟩⟩
instance fn33 : FnOk Tryz.prog 33 := ⟨⟨_, Tryz.func33, by kernel_rfl, by kernel_rfl⟩⟩
instance fn34 : FnOk Tryz.prog 34 := ⟨⟨_, Tryz.func34, by kernel_rfl, by kernel_rfl⟩⟩
instance fn35 : FnOk Tryz.prog 35 := ⟨⟨_, Tryz.func35, by kernel_rfl, by kernel_rfl⟩⟩
instance fn36 : FnOk Tryz.prog 36 := ⟨⟨_, Tryz.func36, by kernel_rfl, by kernel_rfl⟩⟩
instance fn37 : FnOk Tryz.prog 37 := ⟨⟨_, Tryz.func37, by kernel_rfl, by kernel_rfl⟩⟩
instance fn38 : FnOk Tryz.prog 38 := ⟨⟨_, Tryz.func38, by kernel_rfl, by kernel_rfl⟩⟩
instance fn39 : FnOk Tryz.prog 39 := ⟨⟨_, Tryz.func39, by kernel_rfl, by kernel_rfl⟩⟩
instance fn40 : FnOk Tryz.prog 40 := ⟨⟨_, Tryz.func40, by kernel_rfl, by kernel_rfl⟩⟩
instance fn41 : FnOk Tryz.prog 41 := ⟨⟨_, Tryz.func41, by kernel_rfl, by kernel_rfl⟩⟩
instance fn42 : FnOk Tryz.prog 42 := ⟨⟨_, Tryz.func42, by kernel_rfl, by kernel_rfl⟩⟩
instance fn43 : FnOk Tryz.prog 43 := ⟨⟨_, Tryz.func43, by kernel_rfl, by kernel_rfl⟩⟩
instance fn44 : FnOk Tryz.prog 44 := ⟨⟨_, Tryz.func44, by kernel_rfl, by kernel_rfl⟩⟩
instance fn45 : FnOk Tryz.prog 45 := ⟨⟨_, Tryz.func45, by kernel_rfl, by kernel_rfl⟩⟩
instance fn46 : FnOk Tryz.prog 46 := ⟨⟨_, Tryz.func46, by kernel_rfl, by kernel_rfl⟩⟩
instance fn47 : FnOk Tryz.prog 47 := ⟨⟨_, Tryz.func47, by kernel_rfl, by kernel_rfl⟩⟩
instance fn48 : FnOk Tryz.prog 48 := ⟨⟨_, Tryz.func48, by kernel_rfl, by kernel_rfl⟩⟩
instance fn49 : FnOk Tryz.prog 49 := ⟨⟨_, Tryz.func49, by kernel_rfl, by kernel_rfl⟩⟩
instance fn50 : FnOk Tryz.prog 50 := ⟨⟨_, Tryz.func50, by kernel_rfl, by kernel_rfl⟩⟩
instance fn51 : FnOk Tryz.prog 51 := ⟨⟨_, Tryz.func51, by kernel_rfl, by kernel_rfl⟩⟩
instance fn52 : FnOk Tryz.prog 52 := ⟨⟨_, Tryz.func52, by kernel_rfl, by kernel_rfl⟩⟩
instance fn53 : FnOk Tryz.prog 53 := ⟨⟨_, Tryz.func53, by kernel_rfl, by kernel_rfl⟩⟩
instance fn54 : FnOk Tryz.prog 54 := ⟨⟨_, Tryz.func54, by kernel_rfl, by kernel_rfl⟩⟩
instance fn55 : FnOk Tryz.prog 55 := ⟨⟨_, Tryz.func55, by kernel_rfl, by kernel_rfl⟩⟩
instance fn56 : FnOk Tryz.prog 56 := ⟨⟨_, Tryz.func56, by kernel_rfl, by kernel_rfl⟩⟩
instance fn57 : FnOk Tryz.prog 57 := ⟨⟨_, Tryz.func57, by kernel_rfl, by kernel_rfl⟩⟩
instance fn58 : FnOk Tryz.prog 58 := ⟨⟨_, Tryz.func58, by kernel_rfl, by kernel_rfl⟩⟩
instance fn59 : FnOk Tryz.prog 59 := ⟨⟨_, Tryz.func59, by kernel_rfl, by kernel_rfl⟩⟩
instance fn60 : FnOk Tryz.prog 60 := ⟨⟨_, Tryz.func60, by kernel_rfl, by kernel_rfl⟩⟩
instance fn61 : FnOk Tryz.prog 61 := ⟨⟨_, Tryz.func61, by kernel_rfl, by kernel_rfl⟩⟩
instance fn62 : FnOk Tryz.prog 62 := ⟨⟨_, Tryz.func62, by kernel_rfl, by kernel_rfl⟩⟩
instance fn63 : FnOk Tryz.prog 63 := ⟨⟨_, Tryz.func63, by kernel_rfl, by kernel_rfl⟩⟩
instance fn64 : FnOk Tryz.prog 64 := ⟨⟨_, Tryz.func64, by kernel_rfl, by kernel_rfl⟩⟩
instance fn65 : FnOk Tryz.prog 65 := ⟨⟨_, Tryz.func65, by kernel_rfl, by kernel_rfl⟩⟩
instance fn66 : FnOk Tryz.prog 66 := ⟨⟨_, Tryz.func66, by kernel_rfl, by kernel_rfl⟩⟩
instance fn67 : FnOk Tryz.prog 67 := ⟨⟨_, Tryz.func67, by kernel_rfl, by kernel_rfl⟩⟩
instance fn68 : FnOk Tryz.prog 68 := ⟨⟨_, Tryz.func68, by kernel_rfl, by kernel_rfl⟩⟩
instance fn69 : FnOk Tryz.prog 69 := ⟨⟨_, Tryz.func69, by kernel_rfl, by kernel_rfl⟩⟩
instance fn70 : FnOk Tryz.prog 70 := ⟨⟨_, Tryz.func70, by kernel_rfl, by kernel_rfl⟩⟩
instance fn71 : FnOk Tryz.prog 71 := ⟨⟨_, Tryz.func71, by kernel_rfl, by kernel_rfl⟩⟩
instance fn72 : FnOk Tryz.prog 72 := ⟨⟨_, Tryz.func72, by kernel_rfl, by kernel_rfl⟩⟩
instance fn73 : FnOk Tryz.prog 73 := ⟨⟨_, Tryz.func73, by kernel_rfl, by kernel_rfl⟩⟩
instance fn74 : FnOk Tryz.prog 74 := ⟨⟨_, Tryz.func74, by kernel_rfl, by kernel_rfl⟩⟩
instance fn75 : FnOk Tryz.prog 75 := ⟨⟨_, Tryz.func75, by kernel_rfl, by kernel_rfl⟩⟩
instance fn76 : FnOk Tryz.prog 76 := ⟨⟨_, Tryz.func76, by kernel_rfl, by kernel_rfl⟩⟩
instance fn77 : FnOk Tryz.prog 77 := ⟨⟨_, Tryz.func77, by kernel_rfl, by kernel_rfl⟩⟩
instance fn78 : FnOk Tryz.prog 78 := ⟨⟨_, Tryz.func78, by kernel_rfl, by kernel_rfl⟩⟩
instance fn79 : FnOk Tryz.prog 79 := ⟨⟨_, Tryz.func79, by kernel_rfl, by kernel_rfl⟩⟩
instance fn80 : FnOk Tryz.prog 80 := ⟨⟨_, Tryz.func80, by kernel_rfl, by kernel_rfl⟩⟩
instance fn81 : FnOk Tryz.prog 81 := ⟨⟨_, Tryz.func81, by kernel_rfl, by kernel_rfl⟩⟩
instance fn82 : FnOk Tryz.prog 82 := ⟨⟨_, Tryz.func82, by kernel_rfl, by kernel_rfl⟩⟩
instance fn83 : FnOk Tryz.prog 83 := ⟨⟨_, Tryz.func83, by kernel_rfl, by kernel_rfl⟩⟩
instance fn84 : FnOk Tryz.prog 84 := ⟨⟨_, Tryz.func84, by kernel_rfl, by kernel_rfl⟩⟩
instance fn85 : FnOk Tryz.prog 85 := ⟨⟨_, Tryz.func85, by kernel_rfl, by kernel_rfl⟩⟩
instance fn86 : FnOk Tryz.prog 86 := ⟨⟨_, Tryz.func86, by kernel_rfl, by kernel_rfl⟩⟩
instance fn87 : FnOk Tryz.prog 87 := ⟨⟨_, Tryz.func87, by kernel_rfl, by kernel_rfl⟩⟩
instance fn88 : FnOk Tryz.prog 88 := ⟨⟨_, Tryz.func88, by kernel_rfl, by kernel_rfl⟩⟩
instance fn89 : FnOk Tryz.prog 89 := ⟨⟨_, Tryz.func89, by kernel_rfl, by kernel_rfl⟩⟩
instance fn90 : FnOk Tryz.prog 90 := ⟨⟨_, Tryz.func90, by kernel_rfl, by kernel_rfl⟩⟩
instance fn91 : FnOk Tryz.prog 91 := ⟨⟨_, Tryz.func91, by kernel_rfl, by kernel_rfl⟩⟩
instance fn92 : FnOk Tryz.prog 92 := ⟨⟨_, Tryz.func92, by kernel_rfl, by kernel_rfl⟩⟩
instance fn93 : FnOk Tryz.prog 93 := ⟨⟨_, Tryz.func93, by kernel_rfl, by kernel_rfl⟩⟩
instance fn94 : FnOk Tryz.prog 94 := ⟨⟨_, Tryz.func94, by kernel_rfl, by kernel_rfl⟩⟩
instance fn95 : FnOk Tryz.prog 95 := ⟨⟨_, Tryz.func95, by kernel_rfl, by kernel_rfl⟩⟩
instance fn96 : FnOk Tryz.prog 96 := ⟨⟨_, Tryz.func96, by kernel_rfl, by kernel_rfl⟩⟩
instance fn97 : FnOk Tryz.prog 97 := ⟨⟨_, Tryz.func97, by kernel_rfl, by kernel_rfl⟩⟩
instance fn98 : FnOk Tryz.prog 98 := ⟨⟨_, Tryz.func98, by kernel_rfl, by kernel_rfl⟩⟩
instance fn99 : FnOk Tryz.prog 99 := ⟨⟨_, Tryz.func99, by kernel_rfl, by kernel_rfl⟩⟩
instance fn100 : FnOk Tryz.prog 100 := ⟨⟨_, Tryz.func100, by kernel_rfl, by kernel_rfl⟩⟩
instance fn101 : FnOk Tryz.prog 101 := ⟨⟨_, Tryz.func101, by kernel_rfl, by kernel_rfl⟩⟩
instance fn102 : FnOk Tryz.prog 102 := ⟨⟨_, Tryz.func102, by kernel_rfl, by kernel_rfl⟩⟩
instance fn103 : FnOk Tryz.prog 103 := ⟨⟨_, Tryz.func103, by kernel_rfl, by kernel_rfl⟩⟩
instance fn104 : FnOk Tryz.prog 104 := ⟨⟨_, Tryz.func104, by kernel_rfl, by kernel_rfl⟩⟩
instance fn105 : FnOk Tryz.prog 105 := ⟨⟨_, Tryz.func105, by kernel_rfl, by kernel_rfl⟩⟩
instance fn106 : FnOk Tryz.prog 106 := ⟨⟨_, Tryz.func106, by kernel_rfl, by kernel_rfl⟩⟩
instance fn107 : FnOk Tryz.prog 107 := ⟨⟨_, Tryz.func107, by kernel_rfl, by kernel_rfl⟩⟩
instance fn108 : FnOk Tryz.prog 108 := ⟨⟨_, Tryz.func108, by kernel_rfl, by kernel_rfl⟩⟩
instance fn109 : FnOk Tryz.prog 109 := ⟨⟨_, Tryz.func109, by kernel_rfl, by kernel_rfl⟩⟩
instance fn110 : FnOk Tryz.prog 110 := ⟨⟨_, Tryz.func110, by kernel_rfl, by kernel_rfl⟩⟩
instance fn111 : FnOk Tryz.prog 111 := ⟨⟨_, Tryz.func111, by kernel_rfl, by kernel_rfl⟩⟩
instance fn112 : FnOk Tryz.prog 112 := ⟨⟨_, Tryz.func112, by kernel_rfl, by kernel_rfl⟩⟩
instance fn113 : FnOk Tryz.prog 113 := ⟨⟨_, Tryz.func113, by kernel_rfl, by kernel_rfl⟩⟩
instance fn114 : FnOk Tryz.prog 114 := ⟨⟨_, Tryz.func114, by kernel_rfl, by kernel_rfl⟩⟩
instance fn115 : FnOk Tryz.prog 115 := ⟨⟨_, Tryz.func115, by kernel_rfl, by kernel_rfl⟩⟩
instance fn116 : FnOk Tryz.prog 116 := ⟨⟨_, Tryz.func116, by kernel_rfl, by kernel_rfl⟩⟩
instance fn117 : FnOk Tryz.prog 117 := ⟨⟨_, Tryz.func117, by kernel_rfl, by kernel_rfl⟩⟩
instance fn118 : FnOk Tryz.prog 118 := ⟨⟨_, Tryz.func118, by kernel_rfl, by kernel_rfl⟩⟩
instance fn119 : FnOk Tryz.prog 119 := ⟨⟨_, Tryz.func119, by kernel_rfl, by kernel_rfl⟩⟩
instance fn120 : FnOk Tryz.prog 120 := ⟨⟨_, Tryz.func120, by kernel_rfl, by kernel_rfl⟩⟩
instance fn121 : FnOk Tryz.prog 121 := ⟨⟨_, Tryz.func121, by kernel_rfl, by kernel_rfl⟩⟩
instance fn122 : FnOk Tryz.prog 122 := ⟨⟨_, Tryz.func122, by kernel_rfl, by kernel_rfl⟩⟩
instance fn123 : FnOk Tryz.prog 123 := ⟨⟨_, Tryz.func123, by kernel_rfl, by kernel_rfl⟩⟩
instance fn124 : FnOk Tryz.prog 124 := ⟨⟨_, Tryz.func124, by kernel_rfl, by kernel_rfl⟩⟩
instance fn125 : FnOk Tryz.prog 125 := ⟨⟨_, Tryz.func125, by kernel_rfl, by kernel_rfl⟩⟩
instance fn126 : FnOk Tryz.prog 126 := ⟨⟨_, Tryz.func126, by kernel_rfl, by kernel_rfl⟩⟩
instance fn127 : FnOk Tryz.prog 127 := ⟨⟨_, Tryz.func127, by kernel_rfl, by kernel_rfl⟩⟩
instance fn128 : FnOk Tryz.prog 128 := ⟨⟨_, Tryz.func128, by kernel_rfl, by kernel_rfl⟩⟩
instance fn129 : FnOk Tryz.prog 129 := ⟨⟨_, Tryz.func129, by kernel_rfl, by kernel_rfl⟩⟩
instance fn130 : FnOk Tryz.prog 130 := ⟨⟨_, Tryz.func130, by kernel_rfl, by kernel_rfl⟩⟩
instance fn131 : FnOk Tryz.prog 131 := ⟨⟨_, Tryz.func131, by kernel_rfl, by kernel_rfl⟩⟩
instance fn132 : FnOk Tryz.prog 132 := ⟨⟨_, Tryz.func132, by kernel_rfl, by kernel_rfl⟩⟩
instance fn133 : FnOk Tryz.prog 133 := ⟨⟨_, Tryz.func133, by kernel_rfl, by kernel_rfl⟩⟩
instance fn134 : FnOk Tryz.prog 134 := ⟨⟨_, Tryz.func134, by kernel_rfl, by kernel_rfl⟩⟩
instance fn135 : FnOk Tryz.prog 135 := ⟨⟨_, Tryz.func135, by kernel_rfl, by kernel_rfl⟩⟩
instance fn136 : FnOk Tryz.prog 136 := ⟨⟨_, Tryz.func136, by kernel_rfl, by kernel_rfl⟩⟩
instance fn137 : FnOk Tryz.prog 137 := ⟨⟨_, Tryz.func137, by kernel_rfl, by kernel_rfl⟩⟩
instance fn138 : FnOk Tryz.prog 138 := ⟨⟨_, Tryz.func138, by kernel_rfl, by kernel_rfl⟩⟩
instance fn139 : FnOk Tryz.prog 139 := ⟨⟨_, Tryz.func139, by kernel_rfl, by kernel_rfl⟩⟩
instance fn140 : FnOk Tryz.prog 140 := ⟨⟨_, Tryz.func140, by kernel_rfl, by kernel_rfl⟩⟩
instance fn141 : FnOk Tryz.prog 141 := ⟨⟨_, Tryz.func141, by kernel_rfl, by kernel_rfl⟩⟩
instance fn142 : FnOk Tryz.prog 142 := ⟨⟨_, Tryz.func142, by kernel_rfl, by kernel_rfl⟩⟩
instance fn143 : FnOk Tryz.prog 143 := ⟨⟨_, Tryz.func143, by kernel_rfl, by kernel_rfl⟩⟩
instance fn144 : FnOk Tryz.prog 144 := ⟨⟨_, Tryz.func144, by kernel_rfl, by kernel_rfl⟩⟩
instance fn145 : FnOk Tryz.prog 145 := ⟨⟨_, Tryz.func145, by kernel_rfl, by kernel_rfl⟩⟩
instance fn146 : FnOk Tryz.prog 146 := ⟨⟨_, Tryz.func146, by kernel_rfl, by kernel_rfl⟩⟩
instance fn147 : FnOk Tryz.prog 147 := ⟨⟨_, Tryz.func147, by kernel_rfl, by kernel_rfl⟩⟩
instance fn148 : FnOk Tryz.prog 148 := ⟨⟨_, Tryz.func148, by kernel_rfl, by kernel_rfl⟩⟩
instance fn149 : FnOk Tryz.prog 149 := ⟨⟨_, Tryz.func149, by kernel_rfl, by kernel_rfl⟩⟩
instance fn150 : FnOk Tryz.prog 150 := ⟨⟨_, Tryz.func150, by kernel_rfl, by kernel_rfl⟩⟩
instance fn151 : FnOk Tryz.prog 151 := ⟨⟨_, Tryz.func151, by kernel_rfl, by kernel_rfl⟩⟩
instance fn152 : FnOk Tryz.prog 152 := ⟨⟨_, Tryz.func152, by kernel_rfl, by kernel_rfl⟩⟩
instance fn153 : FnOk Tryz.prog 153 := ⟨⟨_, Tryz.func153, by kernel_rfl, by kernel_rfl⟩⟩
instance fn154 : FnOk Tryz.prog 154 := ⟨⟨_, Tryz.func154, by kernel_rfl, by kernel_rfl⟩⟩
instance fn155 : FnOk Tryz.prog 155 := ⟨⟨_, Tryz.func155, by kernel_rfl, by kernel_rfl⟩⟩
instance fn156 : FnOk Tryz.prog 156 := ⟨⟨_, Tryz.func156, by kernel_rfl, by kernel_rfl⟩⟩
instance fn157 : FnOk Tryz.prog 157 := ⟨⟨_, Tryz.func157, by kernel_rfl, by kernel_rfl⟩⟩
instance fn158 : FnOk Tryz.prog 158 := ⟨⟨_, Tryz.func158, by kernel_rfl, by kernel_rfl⟩⟩
instance fn159 : FnOk Tryz.prog 159 := ⟨⟨_, Tryz.func159, by kernel_rfl, by kernel_rfl⟩⟩
instance fn160 : FnOk Tryz.prog 160 := ⟨⟨_, Tryz.func160, by kernel_rfl, by kernel_rfl⟩⟩
instance fn161 : FnOk Tryz.prog 161 := ⟨⟨_, Tryz.func161, by kernel_rfl, by kernel_rfl⟩⟩
instance fn162 : FnOk Tryz.prog 162 := ⟨⟨_, Tryz.func162, by kernel_rfl, by kernel_rfl⟩⟩
instance fn163 : FnOk Tryz.prog 163 := ⟨⟨_, Tryz.func163, by kernel_rfl, by kernel_rfl⟩⟩
instance fn164 : FnOk Tryz.prog 164 := ⟨⟨_, Tryz.func164, by kernel_rfl, by kernel_rfl⟩⟩
instance fn165 : FnOk Tryz.prog 165 := ⟨⟨_, Tryz.func165, by kernel_rfl, by kernel_rfl⟩⟩
instance fn166 : FnOk Tryz.prog 166 := ⟨⟨_, Tryz.func166, by kernel_rfl, by kernel_rfl⟩⟩
instance fn167 : FnOk Tryz.prog 167 := ⟨⟨_, Tryz.func167, by kernel_rfl, by kernel_rfl⟩⟩
instance fn168 : FnOk Tryz.prog 168 := ⟨⟨_, Tryz.func168, by kernel_rfl, by kernel_rfl⟩⟩
instance fn169 : FnOk Tryz.prog 169 := ⟨⟨_, Tryz.func169, by kernel_rfl, by kernel_rfl⟩⟩
instance fn170 : FnOk Tryz.prog 170 := ⟨⟨_, Tryz.func170, by kernel_rfl, by kernel_rfl⟩⟩
instance fn171 : FnOk Tryz.prog 171 := ⟨⟨_, Tryz.func171, by kernel_rfl, by kernel_rfl⟩⟩
instance fn172 : FnOk Tryz.prog 172 := ⟨⟨_, Tryz.func172, by kernel_rfl, by kernel_rfl⟩⟩
instance fn173 : FnOk Tryz.prog 173 := ⟨⟨_, Tryz.func173, by kernel_rfl, by kernel_rfl⟩⟩
instance fn174 : FnOk Tryz.prog 174 := ⟨⟨_, Tryz.func174, by kernel_rfl, by kernel_rfl⟩⟩
instance fn175 : FnOk Tryz.prog 175 := ⟨⟨_, Tryz.func175, by kernel_rfl, by kernel_rfl⟩⟩
instance fn176 : FnOk Tryz.prog 176 := ⟨⟨_, Tryz.func176, by kernel_rfl, by kernel_rfl⟩⟩
instance fn177 : FnOk Tryz.prog 177 := ⟨⟨_, Tryz.func177, by kernel_rfl, by kernel_rfl⟩⟩
instance fn178 : FnOk Tryz.prog 178 := ⟨⟨_, Tryz.func178, by kernel_rfl, by kernel_rfl⟩⟩
instance fn179 : FnOk Tryz.prog 179 := ⟨⟨_, Tryz.func179, by kernel_rfl, by kernel_rfl⟩⟩
instance fn180 : FnOk Tryz.prog 180 := ⟨⟨_, Tryz.func180, by kernel_rfl, by kernel_rfl⟩⟩
instance fn181 : FnOk Tryz.prog 181 := ⟨⟨_, Tryz.func181, by kernel_rfl, by kernel_rfl⟩⟩
instance fn182 : FnOk Tryz.prog 182 := ⟨⟨_, Tryz.func182, by kernel_rfl, by kernel_rfl⟩⟩
instance fn183 : FnOk Tryz.prog 183 := ⟨⟨_, Tryz.func183, by kernel_rfl, by kernel_rfl⟩⟩
instance fn184 : FnOk Tryz.prog 184 := ⟨⟨_, Tryz.func184, by kernel_rfl, by kernel_rfl⟩⟩
instance fn185 : FnOk Tryz.prog 185 := ⟨⟨_, Tryz.func185, by kernel_rfl, by kernel_rfl⟩⟩
instance fn186 : FnOk Tryz.prog 186 := ⟨⟨_, Tryz.func186, by kernel_rfl, by kernel_rfl⟩⟩
instance fn187 : FnOk Tryz.prog 187 := ⟨⟨_, Tryz.func187, by kernel_rfl, by kernel_rfl⟩⟩
instance fn188 : FnOk Tryz.prog 188 := ⟨⟨_, Tryz.func188, by kernel_rfl, by kernel_rfl⟩⟩
instance fn189 : FnOk Tryz.prog 189 := ⟨⟨_, Tryz.func189, by kernel_rfl, by kernel_rfl⟩⟩
instance fn190 : FnOk Tryz.prog 190 := ⟨⟨_, Tryz.func190, by kernel_rfl, by kernel_rfl⟩⟩
instance fn191 : FnOk Tryz.prog 191 := ⟨⟨_, Tryz.func191, by kernel_rfl, by kernel_rfl⟩⟩
instance fn192 : FnOk Tryz.prog 192 := ⟨⟨_, Tryz.func192, by kernel_rfl, by kernel_rfl⟩⟩
instance fn193 : FnOk Tryz.prog 193 := ⟨⟨_, Tryz.func193, by kernel_rfl, by kernel_rfl⟩⟩
instance fn194 : FnOk Tryz.prog 194 := ⟨⟨_, Tryz.func194, by kernel_rfl, by kernel_rfl⟩⟩
instance fn195 : FnOk Tryz.prog 195 := ⟨⟨_, Tryz.func195, by kernel_rfl, by kernel_rfl⟩⟩
instance fn196 : FnOk Tryz.prog 196 := ⟨⟨_, Tryz.func196, by kernel_rfl, by kernel_rfl⟩⟩
instance fn197 : FnOk Tryz.prog 197 := ⟨⟨_, Tryz.func197, by kernel_rfl, by kernel_rfl⟩⟩
instance fn198 : FnOk Tryz.prog 198 := ⟨⟨_, Tryz.func198, by kernel_rfl, by kernel_rfl⟩⟩
instance fn199 : FnOk Tryz.prog 199 := ⟨⟨_, Tryz.func199, by kernel_rfl, by kernel_rfl⟩⟩
instance fn200 : FnOk Tryz.prog 200 := ⟨⟨_, Tryz.func200, by kernel_rfl, by kernel_rfl⟩⟩
instance fn201 : FnOk Tryz.prog 201 := ⟨⟨_, Tryz.func201, by kernel_rfl, by kernel_rfl⟩⟩
instance fn202 : FnOk Tryz.prog 202 := ⟨⟨_, Tryz.func202, by kernel_rfl, by kernel_rfl⟩⟩
instance fn203 : FnOk Tryz.prog 203 := ⟨⟨_, Tryz.func203, by kernel_rfl, by kernel_rfl⟩⟩
instance fn204 : FnOk Tryz.prog 204 := ⟨⟨_, Tryz.func204, by kernel_rfl, by kernel_rfl⟩⟩
instance fn205 : FnOk Tryz.prog 205 := ⟨⟨_, Tryz.func205, by kernel_rfl, by kernel_rfl⟩⟩
instance fn206 : FnOk Tryz.prog 206 := ⟨⟨_, Tryz.func206, by kernel_rfl, by kernel_rfl⟩⟩
instance fn207 : FnOk Tryz.prog 207 := ⟨⟨_, Tryz.func207, by kernel_rfl, by kernel_rfl⟩⟩
instance fn208 : FnOk Tryz.prog 208 := ⟨⟨_, Tryz.func208, by kernel_rfl, by kernel_rfl⟩⟩
instance fn209 : FnOk Tryz.prog 209 := ⟨⟨_, Tryz.func209, by kernel_rfl, by kernel_rfl⟩⟩
instance fn210 : FnOk Tryz.prog 210 := ⟨⟨_, Tryz.func210, by kernel_rfl, by kernel_rfl⟩⟩
instance fn211 : FnOk Tryz.prog 211 := ⟨⟨_, Tryz.func211, by kernel_rfl, by kernel_rfl⟩⟩
instance fn212 : FnOk Tryz.prog 212 := ⟨⟨_, Tryz.func212, by kernel_rfl, by kernel_rfl⟩⟩
instance fn213 : FnOk Tryz.prog 213 := ⟨⟨_, Tryz.func213, by kernel_rfl, by kernel_rfl⟩⟩
instance fn214 : FnOk Tryz.prog 214 := ⟨⟨_, Tryz.func214, by kernel_rfl, by kernel_rfl⟩⟩
instance fn215 : FnOk Tryz.prog 215 := ⟨⟨_, Tryz.func215, by kernel_rfl, by kernel_rfl⟩⟩
instance fn216 : FnOk Tryz.prog 216 := ⟨⟨_, Tryz.func216, by kernel_rfl, by kernel_rfl⟩⟩
instance fn217 : FnOk Tryz.prog 217 := ⟨⟨_, Tryz.func217, by kernel_rfl, by kernel_rfl⟩⟩
instance fn218 : FnOk Tryz.prog 218 := ⟨⟨_, Tryz.func218, by kernel_rfl, by kernel_rfl⟩⟩
instance fn219 : FnOk Tryz.prog 219 := ⟨⟨_, Tryz.func219, by kernel_rfl, by kernel_rfl⟩⟩
instance fn220 : FnOk Tryz.prog 220 := ⟨⟨_, Tryz.func220, by kernel_rfl, by kernel_rfl⟩⟩
instance fn221 : FnOk Tryz.prog 221 := ⟨⟨_, Tryz.func221, by kernel_rfl, by kernel_rfl⟩⟩
instance fn222 : FnOk Tryz.prog 222 := ⟨⟨_, Tryz.func222, by kernel_rfl, by kernel_rfl⟩⟩
instance fn223 : FnOk Tryz.prog 223 := ⟨⟨_, Tryz.func223, by kernel_rfl, by kernel_rfl⟩⟩
instance fn224 : FnOk Tryz.prog 224 := ⟨⟨_, Tryz.func224, by kernel_rfl, by kernel_rfl⟩⟩
instance fn225 : FnOk Tryz.prog 225 := ⟨⟨_, Tryz.func225, by kernel_rfl, by kernel_rfl⟩⟩
instance fn226 : FnOk Tryz.prog 226 := ⟨⟨_, Tryz.func226, by kernel_rfl, by kernel_rfl⟩⟩
instance fn227 : FnOk Tryz.prog 227 := ⟨⟨_, Tryz.func227, by kernel_rfl, by kernel_rfl⟩⟩
instance fn228 : FnOk Tryz.prog 228 := ⟨⟨_, Tryz.func228, by kernel_rfl, by kernel_rfl⟩⟩
instance fn229 : FnOk Tryz.prog 229 := ⟨⟨_, Tryz.func229, by kernel_rfl, by kernel_rfl⟩⟩
instance fn230 : FnOk Tryz.prog 230 := ⟨⟨_, Tryz.func230, by kernel_rfl, by kernel_rfl⟩⟩
instance fn231 : FnOk Tryz.prog 231 := ⟨⟨_, Tryz.func231, by kernel_rfl, by kernel_rfl⟩⟩
instance fn232 : FnOk Tryz.prog 232 := ⟨⟨_, Tryz.func232, by kernel_rfl, by kernel_rfl⟩⟩
instance fn233 : FnOk Tryz.prog 233 := ⟨⟨_, Tryz.func233, by kernel_rfl, by kernel_rfl⟩⟩
instance fn234 : FnOk Tryz.prog 234 := ⟨⟨_, Tryz.func234, by kernel_rfl, by kernel_rfl⟩⟩
instance fn235 : FnOk Tryz.prog 235 := ⟨⟨_, Tryz.func235, by kernel_rfl, by kernel_rfl⟩⟩

end Go.Proofs.YtbaidcnalkdhgaaGreat
