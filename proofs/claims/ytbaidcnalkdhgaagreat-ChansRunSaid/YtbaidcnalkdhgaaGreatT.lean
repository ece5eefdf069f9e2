/-
  The type facts and function facts of this seat, printed by a program of ours (gen_types.py) out of the translation; each is checked by the kernel.
-/
import Derived.Test.YtbaidcnalkdhgaaGreatEk
import Derived.Test.YtbaidcnalkdhgaaGreatProg
import Derived.KernelRfl
set_option maxRecDepth 100000
namespace Go.Proofs.YtbaidcnalkdhgaaGreat
open Go Go.Eng

instance mixedOrders : Mixed Tryz.prog := ⟨by kernel_rfl⟩
instance und1 : TUnd Tryz.prog 1 (.func #[] #[] false) := ⟨Tryz.underlying1⟩
theorem inf1 : (Tryz.prog.info? 1).map (fun i => (i.zero, i.size, i.bytes)) = some (some (.nilFunc), 1, 8) := by kernel_rfl
instance ti1 : TInfo Tryz.prog 1 1 8 [.nilFunc] := tinfo_mk inf1 rfl
instance und3 : TUnd Tryz.prog 3 (.int .i64) := ⟨Tryz.underlying3⟩
theorem inf3 : (Tryz.prog.info? 3).map (fun i => (i.zero, i.size, i.bytes)) = some (some (.int .i64 0), 1, 8) := by kernel_rfl
instance ti3 : TInfo Tryz.prog 3 1 8 [.int .i64 0] := tinfo_mk inf3 rfl
instance und4 : TUnd Tryz.prog 4 (.bool) := ⟨Tryz.underlying4⟩
theorem inf4 : (Tryz.prog.info? 4).map (fun i => (i.zero, i.size, i.bytes)) = some (some (.bool false), 1, 1) := by kernel_rfl
instance ti4 : TInfo Tryz.prog 4 1 1 [.bool false] := tinfo_mk inf4 rfl
instance und24 : TUnd Tryz.prog 24 (.slice 43) := ⟨Tryz.underlying24⟩
instance und26 : TUnd Tryz.prog 26 (.pointer 108) := ⟨Tryz.underlying26⟩
instance und28 : TUnd Tryz.prog 28 (.pointer 148) := ⟨Tryz.underlying28⟩
theorem inf28 : (Tryz.prog.info? 28).map (fun i => (i.zero, i.size, i.bytes)) = some (some (.pointer none), 1, 8) := by kernel_rfl
instance ti28 : TInfo Tryz.prog 28 1 8 [.pointer none] := tinfo_mk inf28 rfl
instance und29 : TUnd Tryz.prog 29 (.int .i64) := ⟨Tryz.underlying29⟩
theorem inf29 : (Tryz.prog.info? 29).map (fun i => (i.zero, i.size, i.bytes)) = some (some (.int .i64 0), 1, 8) := by kernel_rfl
instance ti29 : TInfo Tryz.prog 29 1 8 [.int .i64 0] := tinfo_mk inf29 rfl
instance und32 : TUnd Tryz.prog 32 (.slice 3) := ⟨Tryz.underlying32⟩
theorem inf32 : (Tryz.prog.info? 32).map (fun i => (i.zero, i.size, i.bytes)) = some (some (.slice none 0 0), 1, 24) := by kernel_rfl
instance ti32 : TInfo Tryz.prog 32 1 24 [.slice none 0 0] := tinfo_mk inf32 rfl
instance und34 : TUnd Tryz.prog 34 (.pointer 162) := ⟨Tryz.underlying34⟩
theorem inf34 : (Tryz.prog.info? 34).map (fun i => (i.zero, i.size, i.bytes)) = some (some (.pointer none), 1, 8) := by kernel_rfl
instance ti34 : TInfo Tryz.prog 34 1 8 [.pointer none] := tinfo_mk inf34 rfl
instance und36 : TUnd Tryz.prog 36 (.func #[4] #[] false) := ⟨Tryz.underlying36⟩
instance und37 : TUnd Tryz.prog 37 (.func #[34] #[] false) := ⟨Tryz.underlying37⟩
instance und39 : TUnd Tryz.prog 39 (.func #[3, 4] #[] false) := ⟨Tryz.underlying39⟩
instance und43 : TUnd Tryz.prog 43 (.int .u64) := ⟨Tryz.underlying43⟩
theorem inf43 : (Tryz.prog.info? 43).map (fun i => (i.zero, i.size, i.bytes)) = some (some (.int .u64 0), 1, 8) := by kernel_rfl
instance ti43 : TInfo Tryz.prog 43 1 8 [.int .u64 0] := tinfo_mk inf43 rfl
instance und51 : TUnd Tryz.prog 51 (.slice 168) := ⟨Tryz.underlying51⟩
instance und53 : TUnd Tryz.prog 53 (.pointer 61) := ⟨Tryz.underlying53⟩
theorem inf53 : (Tryz.prog.info? 53).map (fun i => (i.zero, i.size, i.bytes)) = some (some (.pointer none), 1, 8) := by kernel_rfl
instance ti53 : TInfo Tryz.prog 53 1 8 [.pointer none] := tinfo_mk inf53 rfl
instance und57 : TUnd Tryz.prog 57 (.slice 28) := ⟨Tryz.underlying57⟩
theorem inf57 : (Tryz.prog.info? 57).map (fun i => (i.zero, i.size, i.bytes)) = some (some (.slice none 0 0), 1, 24) := by kernel_rfl
instance ti57 : TInfo Tryz.prog 57 1 24 [.slice none 0 0] := tinfo_mk inf57 rfl
instance und58 : TUnd Tryz.prog 58 (.slice 34) := ⟨Tryz.underlying58⟩
theorem inf58 : (Tryz.prog.info? 58).map (fun i => (i.zero, i.size, i.bytes)) = some (some (.slice none 0 0), 1, 24) := by kernel_rfl
instance ti58 : TInfo Tryz.prog 58 1 24 [.slice none 0 0] := tinfo_mk inf58 rfl
instance und59 : TUnd Tryz.prog 59 (.slice 100) := ⟨Tryz.underlying59⟩
theorem inf59 : (Tryz.prog.info? 59).map (fun i => (i.zero, i.size, i.bytes)) = some (some (.slice none 0 0), 1, 24) := by kernel_rfl
instance ti59 : TInfo Tryz.prog 59 1 24 [.slice none 0 0] := tinfo_mk inf59 rfl
theorem inf61 : (Tryz.prog.info? 61).map (fun i => (i.zero, i.size, i.bytes)) = some (some (.agg #[.pointer none, .slice none 0 0, .slice none 0 0, .slice none 0 0, .slice none 0 0, .bool false]), 6, 112) := by kernel_rfl
instance ti61 : TInfo Tryz.prog 61 6 112 [.pointer none, .slice none 0 0, .slice none 0 0, .slice none 0 0, .slice none 0 0, .bool false] := tinfo_mk inf61 rfl
instance tf61_0 : TField Tryz.prog 61 0 0 := tfield_mk Tryz.underlying61 rfl rfl (by kernel_rfl)
instance tf61_1 : TField Tryz.prog 61 1 1 := tfield_mk Tryz.underlying61 rfl rfl (by kernel_rfl)
instance tf61_2 : TField Tryz.prog 61 2 2 := tfield_mk Tryz.underlying61 rfl rfl (by kernel_rfl)
instance tf61_3 : TField Tryz.prog 61 3 3 := tfield_mk Tryz.underlying61 rfl rfl (by kernel_rfl)
instance tf61_4 : TField Tryz.prog 61 4 4 := tfield_mk Tryz.underlying61 rfl rfl (by kernel_rfl)
instance tf61_5 : TField Tryz.prog 61 5 5 := tfield_mk Tryz.underlying61 rfl rfl (by kernel_rfl)
instance tpl61 : TPlaces Tryz.prog 61 [(0, 1), (1, 1), (2, 1), (3, 1), (4, 1), (5, 1)] := tplaces_mk Tryz.underlying61 (by kernel_rfl) (by kernel_rfl)
instance und71 : TUnd Tryz.prog 71 (.pointer 175) := ⟨Tryz.underlying71⟩
instance und92 : TUnd Tryz.prog 92 (.slice 125) := ⟨Tryz.underlying92⟩
theorem inf92 : (Tryz.prog.info? 92).map (fun i => (i.zero, i.size, i.bytes)) = some (some (.slice none 0 0), 1, 24) := by kernel_rfl
instance ti92 : TInfo Tryz.prog 92 1 24 [.slice none 0 0] := tinfo_mk inf92 rfl
instance und93 : TUnd Tryz.prog 93 (.slice 171) := ⟨Tryz.underlying93⟩
theorem inf93 : (Tryz.prog.info? 93).map (fun i => (i.zero, i.size, i.bytes)) = some (some (.slice none 0 0), 1, 24) := by kernel_rfl
instance ti93 : TInfo Tryz.prog 93 1 24 [.slice none 0 0] := tinfo_mk inf93 rfl
instance und94 : TUnd Tryz.prog 94 (.slice 4) := ⟨Tryz.underlying94⟩
theorem inf94 : (Tryz.prog.info? 94).map (fun i => (i.zero, i.size, i.bytes)) = some (some (.slice none 0 0), 1, 24) := by kernel_rfl
instance ti94 : TInfo Tryz.prog 94 1 24 [.slice none 0 0] := tinfo_mk inf94 rfl
theorem inf97 : (Tryz.prog.info? 97).map (fun i => (i.zero, i.size, i.bytes)) = some (some (.agg #[.slice none 0 0, .slice none 0 0, .slice none 0 0, .slice none 0 0, .slice none 0 0, .slice none 0 0, .slice none 0 0, .slice none 0 0, .int .i64 0, .slice none 0 0, .int .i64 0, .int .u64 0]), 12, 240) := by kernel_rfl
instance ti97 : TInfo Tryz.prog 97 12 240 [.slice none 0 0, .slice none 0 0, .slice none 0 0, .slice none 0 0, .slice none 0 0, .slice none 0 0, .slice none 0 0, .slice none 0 0, .int .i64 0, .slice none 0 0, .int .i64 0, .int .u64 0] := tinfo_mk inf97 rfl
instance tf97_0 : TField Tryz.prog 97 0 0 := tfield_mk Tryz.underlying97 rfl rfl (by kernel_rfl)
instance tf97_1 : TField Tryz.prog 97 1 1 := tfield_mk Tryz.underlying97 rfl rfl (by kernel_rfl)
instance tf97_2 : TField Tryz.prog 97 2 2 := tfield_mk Tryz.underlying97 rfl rfl (by kernel_rfl)
instance tf97_3 : TField Tryz.prog 97 3 3 := tfield_mk Tryz.underlying97 rfl rfl (by kernel_rfl)
instance tf97_4 : TField Tryz.prog 97 4 4 := tfield_mk Tryz.underlying97 rfl rfl (by kernel_rfl)
instance tf97_5 : TField Tryz.prog 97 5 5 := tfield_mk Tryz.underlying97 rfl rfl (by kernel_rfl)
instance tf97_6 : TField Tryz.prog 97 6 6 := tfield_mk Tryz.underlying97 rfl rfl (by kernel_rfl)
instance tf97_7 : TField Tryz.prog 97 7 7 := tfield_mk Tryz.underlying97 rfl rfl (by kernel_rfl)
instance tf97_11 : TField Tryz.prog 97 11 11 := tfield_mk Tryz.underlying97 rfl rfl (by kernel_rfl)
instance tpl97 : TPlaces Tryz.prog 97 [(0, 1), (1, 1), (2, 1), (3, 1), (4, 1), (5, 1), (6, 1), (7, 1), (8, 1), (9, 1), (10, 1), (11, 1)] := tplaces_mk Tryz.underlying97 (by kernel_rfl) (by kernel_rfl)
instance und100 : TUnd Tryz.prog 100 (.struct #[⟨ "Task", 3, 0, false, "", "", 0⟩, ⟨ "At", 3, 1, false, "", "", 8⟩, ⟨ "Case", 3, 2, false, "", "", 16⟩, ⟨ "V", 3, 3, false, "", "", 24⟩, ⟨ "Ok", 4, 4, false, "", "", 32⟩]) := ⟨Tryz.underlying100⟩
theorem inf100 : (Tryz.prog.info? 100).map (fun i => (i.zero, i.size, i.bytes)) = some (some (.agg #[.int .i64 0, .int .i64 0, .int .i64 0, .int .i64 0, .bool false]), 5, 40) := by kernel_rfl
instance ti100 : TInfo Tryz.prog 100 5 40 [.int .i64 0, .int .i64 0, .int .i64 0, .int .i64 0, .bool false] := tinfo_mk inf100 rfl
instance tf100_0 : TField Tryz.prog 100 0 0 := tfield_mk Tryz.underlying100 rfl rfl (by kernel_rfl)
instance tf100_1 : TField Tryz.prog 100 1 1 := tfield_mk Tryz.underlying100 rfl rfl (by kernel_rfl)
instance tf100_3 : TField Tryz.prog 100 3 3 := tfield_mk Tryz.underlying100 rfl rfl (by kernel_rfl)
instance tf100_4 : TField Tryz.prog 100 4 4 := tfield_mk Tryz.underlying100 rfl rfl (by kernel_rfl)
instance tpl100 : TPlaces Tryz.prog 100 [(0, 1), (1, 1), (2, 1), (3, 1), (4, 1)] := tplaces_mk Tryz.underlying100 (by kernel_rfl) (by kernel_rfl)
instance und106 : TUnd Tryz.prog 106 (.pointer 220) := ⟨Tryz.underlying106⟩
theorem inf108 : (Tryz.prog.info? 108).map (fun i => (i.zero, i.size, i.bytes)) = some (some (.agg #[.pointer none, .slice none 0 0, .pointer none, .int .u64 0]), 4, 48) := by kernel_rfl
instance ti108 : TInfo Tryz.prog 108 4 48 [.pointer none, .slice none 0 0, .pointer none, .int .u64 0] := tinfo_mk inf108 rfl
instance tf108_0 : TField Tryz.prog 108 0 0 := tfield_mk Tryz.underlying108 rfl rfl (by kernel_rfl)
instance tf108_1 : TField Tryz.prog 108 1 1 := tfield_mk Tryz.underlying108 rfl rfl (by kernel_rfl)
instance tf108_2 : TField Tryz.prog 108 2 2 := tfield_mk Tryz.underlying108 rfl rfl (by kernel_rfl)
instance tf108_3 : TField Tryz.prog 108 3 3 := tfield_mk Tryz.underlying108 rfl rfl (by kernel_rfl)
instance tpl108 : TPlaces Tryz.prog 108 [(0, 1), (1, 1), (2, 1), (3, 1)] := tplaces_mk Tryz.underlying108 (by kernel_rfl) (by kernel_rfl)
instance und123 : TUnd Tryz.prog 123 (.slice 271) := ⟨Tryz.underlying123⟩
theorem inf123 : (Tryz.prog.info? 123).map (fun i => (i.zero, i.size, i.bytes)) = some (some (.slice none 0 0), 1, 24) := by kernel_rfl
instance ti123 : TInfo Tryz.prog 123 1 24 [.slice none 0 0] := tinfo_mk inf123 rfl
instance und125 : TUnd Tryz.prog 125 (.struct #[⟨ "Size", 3, 0, false, "", "", 0⟩, ⟨ "Buf", 32, 1, false, "", "", 8⟩, ⟨ "Senders", 123, 2, false, "", "", 32⟩, ⟨ "Receivers", 123, 3, false, "", "", 56⟩, ⟨ "Closed", 4, 4, false, "", "", 80⟩]) := ⟨Tryz.underlying125⟩
theorem inf125 : (Tryz.prog.info? 125).map (fun i => (i.zero, i.size, i.bytes)) = some (some (.agg #[.int .i64 0, .slice none 0 0, .slice none 0 0, .slice none 0 0, .bool false]), 5, 88) := by kernel_rfl
instance ti125 : TInfo Tryz.prog 125 5 88 [.int .i64 0, .slice none 0 0, .slice none 0 0, .slice none 0 0, .bool false] := tinfo_mk inf125 rfl
instance tf125_0 : TField Tryz.prog 125 0 0 := tfield_mk Tryz.underlying125 rfl rfl (by kernel_rfl)
instance tf125_1 : TField Tryz.prog 125 1 1 := tfield_mk Tryz.underlying125 rfl rfl (by kernel_rfl)
instance tf125_2 : TField Tryz.prog 125 2 2 := tfield_mk Tryz.underlying125 rfl rfl (by kernel_rfl)
instance tf125_3 : TField Tryz.prog 125 3 3 := tfield_mk Tryz.underlying125 rfl rfl (by kernel_rfl)
instance tf125_4 : TField Tryz.prog 125 4 4 := tfield_mk Tryz.underlying125 rfl rfl (by kernel_rfl)
instance tpl125 : TPlaces Tryz.prog 125 [(0, 1), (1, 1), (2, 1), (3, 1), (4, 1)] := tplaces_mk Tryz.underlying125 (by kernel_rfl) (by kernel_rfl)
instance und135 : TUnd Tryz.prog 135 (.func #[3] #[] false) := ⟨Tryz.underlying135⟩
theorem inf135 : (Tryz.prog.info? 135).map (fun i => (i.zero, i.size, i.bytes)) = some (some (.nilFunc), 1, 8) := by kernel_rfl
instance ti135 : TInfo Tryz.prog 135 1 8 [.nilFunc] := tinfo_mk inf135 rfl
instance und144 : TUnd Tryz.prog 144 (.pointer 223) := ⟨Tryz.underlying144⟩
instance und145 : TUnd Tryz.prog 145 (.pointer 226) := ⟨Tryz.underlying145⟩
instance und146 : TUnd Tryz.prog 146 (.pointer 229) := ⟨Tryz.underlying146⟩
theorem inf148 : (Tryz.prog.info? 148).map (fun i => (i.zero, i.size, i.bytes)) = some (some (.agg #[.pointer none, .int .i64 0, .pointer none, .pointer none, .pointer none, .bool false]), 6, 48) := by kernel_rfl
instance ti148 : TInfo Tryz.prog 148 6 48 [.pointer none, .int .i64 0, .pointer none, .pointer none, .pointer none, .bool false] := tinfo_mk inf148 rfl
instance tf148_0 : TField Tryz.prog 148 0 0 := tfield_mk Tryz.underlying148 rfl rfl (by kernel_rfl)
instance tf148_1 : TField Tryz.prog 148 1 1 := tfield_mk Tryz.underlying148 rfl rfl (by kernel_rfl)
instance tf148_2 : TField Tryz.prog 148 2 2 := tfield_mk Tryz.underlying148 rfl rfl (by kernel_rfl)
instance tf148_3 : TField Tryz.prog 148 3 3 := tfield_mk Tryz.underlying148 rfl rfl (by kernel_rfl)
instance tf148_4 : TField Tryz.prog 148 4 4 := tfield_mk Tryz.underlying148 rfl rfl (by kernel_rfl)
instance tf148_5 : TField Tryz.prog 148 5 5 := tfield_mk Tryz.underlying148 rfl rfl (by kernel_rfl)
instance tpl148 : TPlaces Tryz.prog 148 [(0, 1), (1, 1), (2, 1), (3, 1), (4, 1), (5, 1)] := tplaces_mk Tryz.underlying148 (by kernel_rfl) (by kernel_rfl)
instance und154 : TUnd Tryz.prog 154 (.struct #[⟨ "k", 71, 0, false, "", "conduit/chans", 0⟩, ⟨ "v", 3, 1, false, "", "conduit/chans", 8⟩, ⟨ "told", 36, 2, false, "", "conduit/chans", 16⟩]) := ⟨Tryz.underlying154⟩
theorem inf154 : (Tryz.prog.info? 154).map (fun i => (i.zero, i.size, i.bytes)) = some (some (.agg #[.pointer none, .int .i64 0, .nilFunc]), 3, 24) := by kernel_rfl
instance ti154 : TInfo Tryz.prog 154 3 24 [.pointer none, .int .i64 0, .nilFunc] := tinfo_mk inf154 rfl
instance tf154_0 : TField Tryz.prog 154 0 0 := tfield_mk Tryz.underlying154 rfl rfl (by kernel_rfl)
instance tf154_1 : TField Tryz.prog 154 1 1 := tfield_mk Tryz.underlying154 rfl rfl (by kernel_rfl)
instance tf154_2 : TField Tryz.prog 154 2 2 := tfield_mk Tryz.underlying154 rfl rfl (by kernel_rfl)
instance tpl154 : TPlaces Tryz.prog 154 [(0, 1), (1, 1), (2, 1)] := tplaces_mk Tryz.underlying154 (by kernel_rfl) (by kernel_rfl)
instance und157 : TUnd Tryz.prog 157 (.struct #[⟨ "k", 71, 0, false, "", "conduit/chans", 0⟩, ⟨ "told", 39, 1, false, "", "conduit/chans", 8⟩]) := ⟨Tryz.underlying157⟩
theorem inf157 : (Tryz.prog.info? 157).map (fun i => (i.zero, i.size, i.bytes)) = some (some (.agg #[.pointer none, .nilFunc]), 2, 16) := by kernel_rfl
instance ti157 : TInfo Tryz.prog 157 2 16 [.pointer none, .nilFunc] := tinfo_mk inf157 rfl
instance tf157_0 : TField Tryz.prog 157 0 0 := tfield_mk Tryz.underlying157 rfl rfl (by kernel_rfl)
instance tf157_1 : TField Tryz.prog 157 1 1 := tfield_mk Tryz.underlying157 rfl rfl (by kernel_rfl)
instance tpl157 : TPlaces Tryz.prog 157 [(0, 1), (1, 1)] := tplaces_mk Tryz.underlying157 (by kernel_rfl) (by kernel_rfl)
theorem inf162 : (Tryz.prog.info? 162).map (fun i => (i.zero, i.size, i.bytes)) = some (some (.agg #[.pointer none, .int .i64 0, .nilFunc, .nilFunc, .bool false, .bool false, .bool false]), 7, 40) := by kernel_rfl
instance ti162 : TInfo Tryz.prog 162 7 40 [.pointer none, .int .i64 0, .nilFunc, .nilFunc, .bool false, .bool false, .bool false] := tinfo_mk inf162 rfl
instance tf162_0 : TField Tryz.prog 162 0 0 := tfield_mk Tryz.underlying162 rfl rfl (by kernel_rfl)
instance tf162_1 : TField Tryz.prog 162 1 1 := tfield_mk Tryz.underlying162 rfl rfl (by kernel_rfl)
instance tf162_2 : TField Tryz.prog 162 2 2 := tfield_mk Tryz.underlying162 rfl rfl (by kernel_rfl)
instance tf162_3 : TField Tryz.prog 162 3 3 := tfield_mk Tryz.underlying162 rfl rfl (by kernel_rfl)
instance tf162_4 : TField Tryz.prog 162 4 4 := tfield_mk Tryz.underlying162 rfl rfl (by kernel_rfl)
instance tf162_5 : TField Tryz.prog 162 5 5 := tfield_mk Tryz.underlying162 rfl rfl (by kernel_rfl)
instance tf162_6 : TField Tryz.prog 162 6 6 := tfield_mk Tryz.underlying162 rfl rfl (by kernel_rfl)
instance tpl162 : TPlaces Tryz.prog 162 [(0, 1), (1, 1), (2, 1), (3, 1), (4, 1), (5, 1), (6, 1)] := tplaces_mk Tryz.underlying162 (by kernel_rfl) (by kernel_rfl)
instance und165 : TUnd Tryz.prog 165 (.slice 247) := ⟨Tryz.underlying165⟩
instance und167 : TUnd Tryz.prog 167 (.struct #[⟨ "Kind", 3, 0, false, "", "", 0⟩, ⟨ "C", 3, 1, false, "", "", 8⟩, ⟨ "V", 3, 2, false, "", "", 16⟩, ⟨ "Cases", 165, 3, false, "", "", 24⟩, ⟨ "Default", 4, 4, false, "", "", 48⟩]) := ⟨Tryz.underlying167⟩
theorem inf167 : (Tryz.prog.info? 167).map (fun i => (i.zero, i.size, i.bytes)) = some (some (.agg #[.int .i64 0, .int .i64 0, .int .i64 0, .slice none 0 0, .bool false]), 5, 56) := by kernel_rfl
instance ti167 : TInfo Tryz.prog 167 5 56 [.int .i64 0, .int .i64 0, .int .i64 0, .slice none 0 0, .bool false] := tinfo_mk inf167 rfl
instance tf167_0 : TField Tryz.prog 167 0 0 := tfield_mk Tryz.underlying167 rfl rfl (by kernel_rfl)
instance tf167_1 : TField Tryz.prog 167 1 1 := tfield_mk Tryz.underlying167 rfl rfl (by kernel_rfl)
instance tf167_2 : TField Tryz.prog 167 2 2 := tfield_mk Tryz.underlying167 rfl rfl (by kernel_rfl)
instance tf167_3 : TField Tryz.prog 167 3 3 := tfield_mk Tryz.underlying167 rfl rfl (by kernel_rfl)
instance tf167_4 : TField Tryz.prog 167 4 4 := tfield_mk Tryz.underlying167 rfl rfl (by kernel_rfl)
instance tpl167 : TPlaces Tryz.prog 167 [(0, 1), (1, 1), (2, 1), (3, 1), (4, 1)] := tplaces_mk Tryz.underlying167 (by kernel_rfl) (by kernel_rfl)
instance und168 : TUnd Tryz.prog 168 (.slice 167) := ⟨Tryz.underlying168⟩
theorem inf168 : (Tryz.prog.info? 168).map (fun i => (i.zero, i.size, i.bytes)) = some (some (.slice none 0 0), 1, 24) := by kernel_rfl
instance ti168 : TInfo Tryz.prog 168 1 24 [.slice none 0 0] := tinfo_mk inf168 rfl
instance und171 : TUnd Tryz.prog 171 (.struct #[⟨ "Case", 3, 0, false, "", "", 0⟩, ⟨ "V", 3, 1, false, "", "", 8⟩, ⟨ "Ok", 4, 2, false, "", "", 16⟩]) := ⟨Tryz.underlying171⟩
theorem inf171 : (Tryz.prog.info? 171).map (fun i => (i.zero, i.size, i.bytes)) = some (some (.agg #[.int .i64 0, .int .i64 0, .bool false]), 3, 24) := by kernel_rfl
instance ti171 : TInfo Tryz.prog 171 3 24 [.int .i64 0, .int .i64 0, .bool false] := tinfo_mk inf171 rfl
instance tf171_0 : TField Tryz.prog 171 0 0 := tfield_mk Tryz.underlying171 rfl rfl (by kernel_rfl)
instance tf171_1 : TField Tryz.prog 171 1 1 := tfield_mk Tryz.underlying171 rfl rfl (by kernel_rfl)
instance tf171_2 : TField Tryz.prog 171 2 2 := tfield_mk Tryz.underlying171 rfl rfl (by kernel_rfl)
instance tpl171 : TPlaces Tryz.prog 171 [(0, 1), (1, 1), (2, 1)] := tplaces_mk Tryz.underlying171 (by kernel_rfl) (by kernel_rfl)
theorem inf175 : (Tryz.prog.info? 175).map (fun i => (i.zero, i.size, i.bytes)) = some (some (.agg #[.nilFunc, .bool false]), 2, 16) := by kernel_rfl
instance ti175 : TInfo Tryz.prog 175 2 16 [.nilFunc, .bool false] := tinfo_mk inf175 rfl
instance tf175_0 : TField Tryz.prog 175 0 0 := tfield_mk Tryz.underlying175 rfl rfl (by kernel_rfl)
instance tf175_1 : TField Tryz.prog 175 1 1 := tfield_mk Tryz.underlying175 rfl rfl (by kernel_rfl)
instance tpl175 : TPlaces Tryz.prog 175 [(0, 1), (1, 1)] := tplaces_mk Tryz.underlying175 (by kernel_rfl) (by kernel_rfl)
instance und180 : TUnd Tryz.prog 180 (.slice 157) := ⟨Tryz.underlying180⟩
theorem inf180 : (Tryz.prog.info? 180).map (fun i => (i.zero, i.size, i.bytes)) = some (some (.slice none 0 0), 1, 24) := by kernel_rfl
instance ti180 : TInfo Tryz.prog 180 1 24 [.slice none 0 0] := tinfo_mk inf180 rfl
instance und182 : TUnd Tryz.prog 182 (.func #[157] #[4] false) := ⟨Tryz.underlying182⟩
instance und185 : TUnd Tryz.prog 185 (.slice 154) := ⟨Tryz.underlying185⟩
theorem inf185 : (Tryz.prog.info? 185).map (fun i => (i.zero, i.size, i.bytes)) = some (some (.slice none 0 0), 1, 24) := by kernel_rfl
instance ti185 : TInfo Tryz.prog 185 1 24 [.slice none 0 0] := tinfo_mk inf185 rfl
instance und187 : TUnd Tryz.prog 187 (.func #[154] #[4] false) := ⟨Tryz.underlying187⟩
theorem inf220 : (Tryz.prog.info? 220).map (fun i => (i.zero, i.size, i.bytes)) = some (some (.agg #[.pointer none]), 1, 8) := by kernel_rfl
instance ti220 : TInfo Tryz.prog 220 1 8 [.pointer none] := tinfo_mk inf220 rfl
instance tf220_0 : TField Tryz.prog 220 0 0 := tfield_mk Tryz.underlying220 rfl rfl (by kernel_rfl)
instance tpl220 : TPlaces Tryz.prog 220 [(0, 1)] := tplaces_mk Tryz.underlying220 (by kernel_rfl) (by kernel_rfl)
theorem inf223 : (Tryz.prog.info? 223).map (fun i => (i.zero, i.size, i.bytes)) = some (some (.agg #[.bool false, .slice none 0 0]), 2, 32) := by kernel_rfl
instance ti223 : TInfo Tryz.prog 223 2 32 [.bool false, .slice none 0 0] := tinfo_mk inf223 rfl
instance tf223_0 : TField Tryz.prog 223 0 0 := tfield_mk Tryz.underlying223 rfl rfl (by kernel_rfl)
instance tf223_1 : TField Tryz.prog 223 1 1 := tfield_mk Tryz.underlying223 rfl rfl (by kernel_rfl)
instance tpl223 : TPlaces Tryz.prog 223 [(0, 1), (1, 1)] := tplaces_mk Tryz.underlying223 (by kernel_rfl) (by kernel_rfl)
theorem inf226 : (Tryz.prog.info? 226).map (fun i => (i.zero, i.size, i.bytes)) = some (some (.agg #[.bool false, .slice none 0 0]), 2, 32) := by kernel_rfl
instance ti226 : TInfo Tryz.prog 226 2 32 [.bool false, .slice none 0 0] := tinfo_mk inf226 rfl
instance tf226_0 : TField Tryz.prog 226 0 0 := tfield_mk Tryz.underlying226 rfl rfl (by kernel_rfl)
instance tf226_1 : TField Tryz.prog 226 1 1 := tfield_mk Tryz.underlying226 rfl rfl (by kernel_rfl)
instance tpl226 : TPlaces Tryz.prog 226 [(0, 1), (1, 1)] := tplaces_mk Tryz.underlying226 (by kernel_rfl) (by kernel_rfl)
theorem inf229 : (Tryz.prog.info? 229).map (fun i => (i.zero, i.size, i.bytes)) = some (some (.agg #[.bool false, .slice none 0 0]), 2, 32) := by kernel_rfl
instance ti229 : TInfo Tryz.prog 229 2 32 [.bool false, .slice none 0 0] := tinfo_mk inf229 rfl
instance tf229_0 : TField Tryz.prog 229 0 0 := tfield_mk Tryz.underlying229 rfl rfl (by kernel_rfl)
instance tf229_1 : TField Tryz.prog 229 1 1 := tfield_mk Tryz.underlying229 rfl rfl (by kernel_rfl)
instance tpl229 : TPlaces Tryz.prog 229 [(0, 1), (1, 1)] := tplaces_mk Tryz.underlying229 (by kernel_rfl) (by kernel_rfl)
instance und234 : TUnd Tryz.prog 234 (.func #[171] #[] false) := ⟨Tryz.underlying234⟩
theorem inf234 : (Tryz.prog.info? 234).map (fun i => (i.zero, i.size, i.bytes)) = some (some (.nilFunc), 1, 8) := by kernel_rfl
instance ti234 : TInfo Tryz.prog 234 1 8 [.nilFunc] := tinfo_mk inf234 rfl
theorem inf247 : (Tryz.prog.info? 247).map (fun i => (i.zero, i.size, i.bytes)) = some (some (.agg #[.bool false, .int .i64 0, .int .i64 0]), 3, 24) := by kernel_rfl
instance ti247 : TInfo Tryz.prog 247 3 24 [.bool false, .int .i64 0, .int .i64 0] := tinfo_mk inf247 rfl
instance tf247_0 : TField Tryz.prog 247 0 0 := tfield_mk Tryz.underlying247 rfl rfl (by kernel_rfl)
instance tf247_1 : TField Tryz.prog 247 1 1 := tfield_mk Tryz.underlying247 rfl rfl (by kernel_rfl)
instance tf247_2 : TField Tryz.prog 247 2 2 := tfield_mk Tryz.underlying247 rfl rfl (by kernel_rfl)
instance tpl247 : TPlaces Tryz.prog 247 [(0, 1), (1, 1), (2, 1)] := tplaces_mk Tryz.underlying247 (by kernel_rfl) (by kernel_rfl)
instance und271 : TUnd Tryz.prog 271 (.struct #[⟨ "task", 3, 0, false, "", "conduit/conduitref16", 0⟩, ⟨ "ticket", 3, 1, false, "", "conduit/conduitref16", 8⟩, ⟨ "which", 3, 2, false, "", "conduit/conduitref16", 16⟩, ⟨ "v", 3, 3, false, "", "conduit/conduitref16", 24⟩]) := ⟨Tryz.underlying271⟩
theorem inf271 : (Tryz.prog.info? 271).map (fun i => (i.zero, i.size, i.bytes)) = some (some (.agg #[.int .i64 0, .int .i64 0, .int .i64 0, .int .i64 0]), 4, 32) := by kernel_rfl
instance ti271 : TInfo Tryz.prog 271 4 32 [.int .i64 0, .int .i64 0, .int .i64 0, .int .i64 0] := tinfo_mk inf271 rfl
instance tf271_0 : TField Tryz.prog 271 0 0 := tfield_mk Tryz.underlying271 rfl rfl (by kernel_rfl)
instance tf271_1 : TField Tryz.prog 271 1 1 := tfield_mk Tryz.underlying271 rfl rfl (by kernel_rfl)
instance tf271_2 : TField Tryz.prog 271 2 2 := tfield_mk Tryz.underlying271 rfl rfl (by kernel_rfl)
instance tf271_3 : TField Tryz.prog 271 3 3 := tfield_mk Tryz.underlying271 rfl rfl (by kernel_rfl)
instance tpl271 : TPlaces Tryz.prog 271 [(0, 1), (1, 1), (2, 1), (3, 1)] := tplaces_mk Tryz.underlying271 (by kernel_rfl) (by kernel_rfl)
instance tfl100 : TFlat Tryz.prog 100 [.i .i64, .i .i64, .i .i64, .i .i64, .b] := tflat_struct Tryz.underlying100 ⟨by decide, rfl, Tryz.underlying3, by decide, rfl, Tryz.underlying3, by decide, rfl, Tryz.underlying3, by decide, rfl, Tryz.underlying3, by decide, rfl, Tryz.underlying4, trivial⟩ (by kernel_rfl) (by kernel_rfl)
instance fn14 : FnOk Tryz.prog 14 := ⟨⟨_, Tryz.func14, by kernel_rfl, by kernel_rfl⟩⟩
instance fn15 : FnOk Tryz.prog 15 := ⟨⟨_, Tryz.func15, by kernel_rfl, by kernel_rfl⟩⟩
instance fn17 : FnOk Tryz.prog 17 := ⟨⟨_, Tryz.func17, by kernel_rfl, by kernel_rfl⟩⟩
instance fn20 : FnOk Tryz.prog 20 := ⟨⟨_, Tryz.func20, by kernel_rfl, by kernel_rfl⟩⟩
instance fn22 : FnOk Tryz.prog 22 := ⟨⟨_, Tryz.func22, by kernel_rfl, by kernel_rfl⟩⟩
instance fn24 : FnOk Tryz.prog 24 := ⟨⟨_, Tryz.func24, by kernel_rfl, by kernel_rfl⟩⟩
instance fn25 : FnOk Tryz.prog 25 := ⟨⟨_, Tryz.func25, by kernel_rfl, by kernel_rfl⟩⟩
instance fn26 : FnOk Tryz.prog 26 := ⟨⟨_, Tryz.func26, by kernel_rfl, by kernel_rfl⟩⟩
instance fn27 : FnOk Tryz.prog 27 := ⟨⟨_, Tryz.func27, by kernel_rfl, by kernel_rfl⟩⟩
instance fn28 : FnOk Tryz.prog 28 := ⟨⟨_, Tryz.func28, by kernel_rfl, by kernel_rfl⟩⟩
instance fn29 : FnOk Tryz.prog 29 := ⟨⟨_, Tryz.func29, by kernel_rfl, by kernel_rfl⟩⟩
instance fn30 : FnOk Tryz.prog 30 := ⟨⟨_, Tryz.func30, by kernel_rfl, by kernel_rfl⟩⟩
instance fn31 : FnOk Tryz.prog 31 := ⟨⟨_, Tryz.func31, by kernel_rfl, by kernel_rfl⟩⟩
instance fn32 : FnOk Tryz.prog 32 := ⟨⟨_, Tryz.func32, by kernel_rfl, by kernel_rfl⟩⟩
instance fn33 : FnOk Tryz.prog 33 := ⟨⟨_, Tryz.func33, by kernel_rfl, by kernel_rfl⟩⟩
instance fn34 : FnOk Tryz.prog 34 := ⟨⟨_, Tryz.func34, by kernel_rfl, by kernel_rfl⟩⟩
instance fn35 : FnOk Tryz.prog 35 := ⟨⟨_, Tryz.func35, by kernel_rfl, by kernel_rfl⟩⟩
instance fn37 : FnOk Tryz.prog 37 := ⟨⟨_, Tryz.func37, by kernel_rfl, by kernel_rfl⟩⟩
instance fn39 : FnOk Tryz.prog 39 := ⟨⟨_, Tryz.func39, by kernel_rfl, by kernel_rfl⟩⟩
instance fn49 : FnOk Tryz.prog 49 := ⟨⟨_, Tryz.func49, by kernel_rfl, by kernel_rfl⟩⟩
instance fn50 : FnOk Tryz.prog 50 := ⟨⟨_, Tryz.func50, by kernel_rfl, by kernel_rfl⟩⟩
instance fn51 : FnOk Tryz.prog 51 := ⟨⟨_, Tryz.func51, by kernel_rfl, by kernel_rfl⟩⟩
instance fn63 : FnOk Tryz.prog 63 := ⟨⟨_, Tryz.func63, by kernel_rfl, by kernel_rfl⟩⟩
instance fn64 : FnOk Tryz.prog 64 := ⟨⟨_, Tryz.func64, by kernel_rfl, by kernel_rfl⟩⟩
instance fn79 : FnOk Tryz.prog 79 := ⟨⟨_, Tryz.func79, by kernel_rfl, by kernel_rfl⟩⟩
instance fn81 : FnOk Tryz.prog 81 := ⟨⟨_, Tryz.func81, by kernel_rfl, by kernel_rfl⟩⟩
instance fn82 : FnOk Tryz.prog 82 := ⟨⟨_, Tryz.func82, by kernel_rfl, by kernel_rfl⟩⟩
instance fn83 : FnOk Tryz.prog 83 := ⟨⟨_, Tryz.func83, by kernel_rfl, by kernel_rfl⟩⟩
instance fn84 : FnOk Tryz.prog 84 := ⟨⟨_, Tryz.func84, by kernel_rfl, by kernel_rfl⟩⟩
instance fn85 : FnOk Tryz.prog 85 := ⟨⟨_, Tryz.func85, by kernel_rfl, by kernel_rfl⟩⟩
instance fn86 : FnOk Tryz.prog 86 := ⟨⟨_, Tryz.func86, by kernel_rfl, by kernel_rfl⟩⟩
instance fn87 : FnOk Tryz.prog 87 := ⟨⟨_, Tryz.func87, by kernel_rfl, by kernel_rfl⟩⟩
instance fn88 : FnOk Tryz.prog 88 := ⟨⟨_, Tryz.func88, by kernel_rfl, by kernel_rfl⟩⟩
instance fn89 : FnOk Tryz.prog 89 := ⟨⟨_, Tryz.func89, by kernel_rfl, by kernel_rfl⟩⟩
instance fn90 : FnOk Tryz.prog 90 := ⟨⟨_, Tryz.func90, by kernel_rfl, by kernel_rfl⟩⟩
instance fn91 : FnOk Tryz.prog 91 := ⟨⟨_, Tryz.func91, by kernel_rfl, by kernel_rfl⟩⟩
instance fn92 : FnOk Tryz.prog 92 := ⟨⟨_, Tryz.func92, by kernel_rfl, by kernel_rfl⟩⟩
instance fn93 : FnOk Tryz.prog 93 := ⟨⟨_, Tryz.func93, by kernel_rfl, by kernel_rfl⟩⟩
instance fn94 : FnOk Tryz.prog 94 := ⟨⟨_, Tryz.func94, by kernel_rfl, by kernel_rfl⟩⟩
instance fn95 : FnOk Tryz.prog 95 := ⟨⟨_, Tryz.func95, by kernel_rfl, by kernel_rfl⟩⟩
instance fn96 : FnOk Tryz.prog 96 := ⟨⟨_, Tryz.func96, by kernel_rfl, by kernel_rfl⟩⟩
instance fn97 : FnOk Tryz.prog 97 := ⟨⟨_, Tryz.func97, by kernel_rfl, by kernel_rfl⟩⟩
instance fn98 : FnOk Tryz.prog 98 := ⟨⟨_, Tryz.func98, by kernel_rfl, by kernel_rfl⟩⟩
instance fn99 : FnOk Tryz.prog 99 := ⟨⟨_, Tryz.func99, by kernel_rfl, by kernel_rfl⟩⟩
instance fn100 : FnOk Tryz.prog 100 := ⟨⟨_, Tryz.func100, by kernel_rfl, by kernel_rfl⟩⟩
instance fn101 : FnOk Tryz.prog 101 := ⟨⟨_, Tryz.func101, by kernel_rfl, by kernel_rfl⟩⟩
instance fn102 : FnOk Tryz.prog 102 := ⟨⟨_, Tryz.func102, by kernel_rfl, by kernel_rfl⟩⟩
instance fn103 : FnOk Tryz.prog 103 := ⟨⟨_, Tryz.func103, by kernel_rfl, by kernel_rfl⟩⟩
instance fn104 : FnOk Tryz.prog 104 := ⟨⟨_, Tryz.func104, by kernel_rfl, by kernel_rfl⟩⟩
instance fn105 : FnOk Tryz.prog 105 := ⟨⟨_, Tryz.func105, by kernel_rfl, by kernel_rfl⟩⟩
instance fn106 : FnOk Tryz.prog 106 := ⟨⟨_, Tryz.func106, by kernel_rfl, by kernel_rfl⟩⟩
instance fn107 : FnOk Tryz.prog 107 := ⟨⟨_, Tryz.func107, by kernel_rfl, by kernel_rfl⟩⟩
instance fn108 : FnOk Tryz.prog 108 := ⟨⟨_, Tryz.func108, by kernel_rfl, by kernel_rfl⟩⟩
instance fn109 : FnOk Tryz.prog 109 := ⟨⟨_, Tryz.func109, by kernel_rfl, by kernel_rfl⟩⟩
instance fn110 : FnOk Tryz.prog 110 := ⟨⟨_, Tryz.func110, by kernel_rfl, by kernel_rfl⟩⟩
instance fn111 : FnOk Tryz.prog 111 := ⟨⟨_, Tryz.func111, by kernel_rfl, by kernel_rfl⟩⟩
instance fn112 : FnOk Tryz.prog 112 := ⟨⟨_, Tryz.func112, by kernel_rfl, by kernel_rfl⟩⟩
instance fn113 : FnOk Tryz.prog 113 := ⟨⟨_, Tryz.func113, by kernel_rfl, by kernel_rfl⟩⟩
instance fn114 : FnOk Tryz.prog 114 := ⟨⟨_, Tryz.func114, by kernel_rfl, by kernel_rfl⟩⟩
instance fn115 : FnOk Tryz.prog 115 := ⟨⟨_, Tryz.func115, by kernel_rfl, by kernel_rfl⟩⟩
instance fn116 : FnOk Tryz.prog 116 := ⟨⟨_, Tryz.func116, by kernel_rfl, by kernel_rfl⟩⟩
instance fn117 : FnOk Tryz.prog 117 := ⟨⟨_, Tryz.func117, by kernel_rfl, by kernel_rfl⟩⟩
instance fn118 : FnOk Tryz.prog 118 := ⟨⟨_, Tryz.func118, by kernel_rfl, by kernel_rfl⟩⟩
instance fn119 : FnOk Tryz.prog 119 := ⟨⟨_, Tryz.func119, by kernel_rfl, by kernel_rfl⟩⟩
instance fn120 : FnOk Tryz.prog 120 := ⟨⟨_, Tryz.func120, by kernel_rfl, by kernel_rfl⟩⟩
instance fn121 : FnOk Tryz.prog 121 := ⟨⟨_, Tryz.func121, by kernel_rfl, by kernel_rfl⟩⟩
instance fn122 : FnOk Tryz.prog 122 := ⟨⟨_, Tryz.func122, by kernel_rfl, by kernel_rfl⟩⟩
instance fn124 : FnOk Tryz.prog 124 := ⟨⟨_, Tryz.func124, by kernel_rfl, by kernel_rfl⟩⟩
instance fn130 : FnOk Tryz.prog 130 := ⟨⟨_, Tryz.func130, by kernel_rfl, by kernel_rfl⟩⟩
instance fn131 : FnOk Tryz.prog 131 := ⟨⟨_, Tryz.func131, by kernel_rfl, by kernel_rfl⟩⟩
instance fn132 : FnOk Tryz.prog 132 := ⟨⟨_, Tryz.func132, by kernel_rfl, by kernel_rfl⟩⟩
instance fn133 : FnOk Tryz.prog 133 := ⟨⟨_, Tryz.func133, by kernel_rfl, by kernel_rfl⟩⟩
instance fn134 : FnOk Tryz.prog 134 := ⟨⟨_, Tryz.func134, by kernel_rfl, by kernel_rfl⟩⟩
instance fn150 : FnOk Tryz.prog 150 := ⟨⟨_, Tryz.func150, by kernel_rfl, by kernel_rfl⟩⟩
instance fn151 : FnOk Tryz.prog 151 := ⟨⟨_, Tryz.func151, by kernel_rfl, by kernel_rfl⟩⟩
instance fn152 : FnOk Tryz.prog 152 := ⟨⟨_, Tryz.func152, by kernel_rfl, by kernel_rfl⟩⟩
instance fn153 : FnOk Tryz.prog 153 := ⟨⟨_, Tryz.func153, by kernel_rfl, by kernel_rfl⟩⟩
instance fn154 : FnOk Tryz.prog 154 := ⟨⟨_, Tryz.func154, by kernel_rfl, by kernel_rfl⟩⟩
instance fn155 : FnOk Tryz.prog 155 := ⟨⟨_, Tryz.func155, by kernel_rfl, by kernel_rfl⟩⟩
instance fn156 : FnOk Tryz.prog 156 := ⟨⟨_, Tryz.func156, by kernel_rfl, by kernel_rfl⟩⟩
instance fn157 : FnOk Tryz.prog 157 := ⟨⟨_, Tryz.func157, by kernel_rfl, by kernel_rfl⟩⟩
instance fn158 : FnOk Tryz.prog 158 := ⟨⟨_, Tryz.func158, by kernel_rfl, by kernel_rfl⟩⟩
instance fn159 : FnOk Tryz.prog 159 := ⟨⟨_, Tryz.func159, by kernel_rfl, by kernel_rfl⟩⟩
instance fn160 : FnOk Tryz.prog 160 := ⟨⟨_, Tryz.func160, by kernel_rfl, by kernel_rfl⟩⟩
instance fn161 : FnOk Tryz.prog 161 := ⟨⟨_, Tryz.func161, by kernel_rfl, by kernel_rfl⟩⟩
instance fn162 : FnOk Tryz.prog 162 := ⟨⟨_, Tryz.func162, by kernel_rfl, by kernel_rfl⟩⟩
instance fn163 : FnOk Tryz.prog 163 := ⟨⟨_, Tryz.func163, by kernel_rfl, by kernel_rfl⟩⟩
instance fn164 : FnOk Tryz.prog 164 := ⟨⟨_, Tryz.func164, by kernel_rfl, by kernel_rfl⟩⟩
instance fn165 : FnOk Tryz.prog 165 := ⟨⟨_, Tryz.func165, by kernel_rfl, by kernel_rfl⟩⟩
instance fn166 : FnOk Tryz.prog 166 := ⟨⟨_, Tryz.func166, by kernel_rfl, by kernel_rfl⟩⟩
instance fn167 : FnOk Tryz.prog 167 := ⟨⟨_, Tryz.func167, by kernel_rfl, by kernel_rfl⟩⟩
instance fn168 : FnOk Tryz.prog 168 := ⟨⟨_, Tryz.func168, by kernel_rfl, by kernel_rfl⟩⟩
instance fn169 : FnOk Tryz.prog 169 := ⟨⟨_, Tryz.func169, by kernel_rfl, by kernel_rfl⟩⟩
instance fn170 : FnOk Tryz.prog 170 := ⟨⟨_, Tryz.func170, by kernel_rfl, by kernel_rfl⟩⟩
instance fn171 : FnOk Tryz.prog 171 := ⟨⟨_, Tryz.func171, by kernel_rfl, by kernel_rfl⟩⟩
instance fn172 : FnOk Tryz.prog 172 := ⟨⟨_, Tryz.func172, by kernel_rfl, by kernel_rfl⟩⟩
instance fn173 : FnOk Tryz.prog 173 := ⟨⟨_, Tryz.func173, by kernel_rfl, by kernel_rfl⟩⟩
instance fn174 : FnOk Tryz.prog 174 := ⟨⟨_, Tryz.func174, by kernel_rfl, by kernel_rfl⟩⟩
instance fn175 : FnOk Tryz.prog 175 := ⟨⟨_, Tryz.func175, by kernel_rfl, by kernel_rfl⟩⟩
instance fn176 : FnOk Tryz.prog 176 := ⟨⟨_, Tryz.func176, by kernel_rfl, by kernel_rfl⟩⟩
instance fn177 : FnOk Tryz.prog 177 := ⟨⟨_, Tryz.func177, by kernel_rfl, by kernel_rfl⟩⟩
instance fn178 : FnOk Tryz.prog 178 := ⟨⟨_, Tryz.func178, by kernel_rfl, by kernel_rfl⟩⟩
instance fn179 : FnOk Tryz.prog 179 := ⟨⟨_, Tryz.func179, by kernel_rfl, by kernel_rfl⟩⟩
instance fn180 : FnOk Tryz.prog 180 := ⟨⟨_, Tryz.func180, by kernel_rfl, by kernel_rfl⟩⟩
instance fn186 : FnOk Tryz.prog 186 := ⟨⟨_, Tryz.func186, by kernel_rfl, by kernel_rfl⟩⟩
instance fn187 : FnOk Tryz.prog 187 := ⟨⟨_, Tryz.func187, by kernel_rfl, by kernel_rfl⟩⟩
instance fn188 : FnOk Tryz.prog 188 := ⟨⟨_, Tryz.func188, by kernel_rfl, by kernel_rfl⟩⟩
instance fn189 : FnOk Tryz.prog 189 := ⟨⟨_, Tryz.func189, by kernel_rfl, by kernel_rfl⟩⟩
instance fn190 : FnOk Tryz.prog 190 := ⟨⟨_, Tryz.func190, by kernel_rfl, by kernel_rfl⟩⟩
instance fn191 : FnOk Tryz.prog 191 := ⟨⟨_, Tryz.func191, by kernel_rfl, by kernel_rfl⟩⟩
instance fn192 : FnOk Tryz.prog 192 := ⟨⟨_, Tryz.func192, by kernel_rfl, by kernel_rfl⟩⟩
instance fn195 : FnOk Tryz.prog 195 := ⟨⟨_, Tryz.func195, by kernel_rfl, by kernel_rfl⟩⟩
instance fn209 : FnOk Tryz.prog 209 := ⟨⟨_, Tryz.func209, by kernel_rfl, by kernel_rfl⟩⟩
instance fn210 : FnOk Tryz.prog 210 := ⟨⟨_, Tryz.func210, by kernel_rfl, by kernel_rfl⟩⟩
instance fn211 : FnOk Tryz.prog 211 := ⟨⟨_, Tryz.func211, by kernel_rfl, by kernel_rfl⟩⟩
instance fn212 : FnOk Tryz.prog 212 := ⟨⟨_, Tryz.func212, by kernel_rfl, by kernel_rfl⟩⟩
instance fn213 : FnOk Tryz.prog 213 := ⟨⟨_, Tryz.func213, by kernel_rfl, by kernel_rfl⟩⟩
instance fn214 : FnOk Tryz.prog 214 := ⟨⟨_, Tryz.func214, by kernel_rfl, by kernel_rfl⟩⟩
instance fn215 : FnOk Tryz.prog 215 := ⟨⟨_, Tryz.func215, by kernel_rfl, by kernel_rfl⟩⟩
instance fn216 : FnOk Tryz.prog 216 := ⟨⟨_, Tryz.func216, by kernel_rfl, by kernel_rfl⟩⟩
instance fn217 : FnOk Tryz.prog 217 := ⟨⟨_, Tryz.func217, by kernel_rfl, by kernel_rfl⟩⟩
instance fn230 : FnOk Tryz.prog 230 := ⟨⟨_, Tryz.func230, by kernel_rfl, by kernel_rfl⟩⟩
instance fn235 : FnOk Tryz.prog 235 := ⟨⟨_, Tryz.func235, by kernel_rfl, by kernel_rfl⟩⟩

end Go.Proofs.YtbaidcnalkdhgaaGreat
