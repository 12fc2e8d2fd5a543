/- What the seat's types and functions are to the walk's rules. -/
import Derived.Test.YtekjkaoibcfgfaaU3
namespace Go.Proofs.Ytekjkaoibcfgfaa
set_option linter.unusedVariables false
set_option linter.unusedSimpArgs false
open Go.RowKit
set_option maxRecDepth 20000
instance : TyI Try.prog 0 (TypeDesc.tuple #[]) 1 false := ⟨Try.underlying0, Try.sizeOf0, Try.isAgg0⟩
instance : TyI Try.prog 1 (TypeDesc.func #[] #[] false) 1 false := ⟨Try.underlying1, Try.sizeOf1, Try.isAgg1⟩
instance : TyI Try.prog 2 (TypeDesc.int Go.IntKind.i64) 1 false := ⟨Try.underlying2, Try.sizeOf2, Try.isAgg2⟩
instance : TyI Try.prog 3 (TypeDesc.int Go.IntKind.i64) 1 false := ⟨Try.underlying3, Try.sizeOf3, Try.isAgg3⟩
instance : TyZ Try.prog 3 [Value.int Go.IntKind.i64 0] := ⟨fun w => ⟨_, Try.zeroValue3 w, rfl⟩⟩
instance : TyI Try.prog 4 TypeDesc.bool 1 false := ⟨Try.underlying4, Try.sizeOf4, Try.isAgg4⟩
instance : TyI Try.prog 5 (TypeDesc.int Go.IntKind.u8) 1 false := ⟨Try.underlying5, Try.sizeOf5, Try.isAgg5⟩
instance : TyI Try.prog 22 (TypeDesc.slice 82) 1 false := ⟨Try.underlying22, Try.sizeOf22, Try.isAgg22⟩
instance : TyZ Try.prog 22 [Value.slice none 0 0] := ⟨fun w => ⟨_, Try.zeroValue22 w, rfl⟩⟩
instance : TyI Try.prog 24 (TypeDesc.struct #[{ name := "Stretches", type := 22, offset := 0, embedded := false, tag := "", pkgPath := "", byteOffset := 0 }]) 1 true := ⟨Try.underlying24, Try.sizeOf24, Try.isAgg24⟩
instance : TyZ Try.prog 24 [Value.slice none 0 0] := ⟨fun w => ⟨_, Try.zeroValue24 w, rfl⟩⟩
instance : TyB Try.prog 24 [(0, 1)] [Value.slice none 0 0] := tyB_struct (zv := Value.agg #[Value.slice none 0 0]) (by kernel_rfl) rfl Try.underlying24 (by kernel_rfl)
instance : TyI Try.prog 27 (TypeDesc.slice 34) 1 false := ⟨Try.underlying27, Try.sizeOf27, Try.isAgg27⟩
instance : TyZ Try.prog 27 [Value.slice none 0 0] := ⟨fun w => ⟨_, Try.zeroValue27 w, rfl⟩⟩
instance : TyI Try.prog 28 (TypeDesc.int Go.IntKind.i64) 1 false := ⟨Try.underlying28, Try.sizeOf28, Try.isAgg28⟩
instance : TyI Try.prog 34 (TypeDesc.struct #[{ name := "Lo", type := 3, offset := 0, embedded := false, tag := "", pkgPath := "", byteOffset := 0 }, { name := "Hi", type := 3, offset := 1, embedded := false, tag := "", pkgPath := "", byteOffset := 8 }]) 2 true := ⟨Try.underlying34, Try.sizeOf34, Try.isAgg34⟩
instance : TyZ Try.prog 34 [Value.int Go.IntKind.i64 0, Value.int Go.IntKind.i64 0] := ⟨fun w => ⟨_, Try.zeroValue34 w, rfl⟩⟩
instance : TyB Try.prog 34 [(0, 1), (1, 1)] [Value.int Go.IntKind.i64 0, Value.int Go.IntKind.i64 0] := tyB_struct (zv := Value.agg #[Value.int Go.IntKind.i64 0, Value.int Go.IntKind.i64 0]) (by kernel_rfl) rfl Try.underlying34 (by kernel_rfl)
instance : TyI Try.prog 42 (TypeDesc.slice 3) 1 false := ⟨Try.underlying42, Try.sizeOf42, Try.isAgg42⟩
instance : TyZ Try.prog 42 [Value.slice none 0 0] := ⟨fun w => ⟨_, Try.zeroValue42 w, rfl⟩⟩
instance : TyI Try.prog 57 (TypeDesc.struct #[{ name := "Stretch", type := 3, offset := 0, embedded := false, tag := "", pkgPath := "", byteOffset := 0 }, { name := "Off", type := 34, offset := 1, embedded := false, tag := "", pkgPath := "", byteOffset := 8 }]) 3 true := ⟨Try.underlying57, Try.sizeOf57, Try.isAgg57⟩
instance : TyZ Try.prog 57 [Value.int Go.IntKind.i64 0, Value.int Go.IntKind.i64 0, Value.int Go.IntKind.i64 0] := ⟨fun w => ⟨_, Try.zeroValue57 w, rfl⟩⟩
instance : TyB Try.prog 57 [(0, 1), (1, 2)] [Value.int Go.IntKind.i64 0, Value.int Go.IntKind.i64 0, Value.int Go.IntKind.i64 0] := tyB_struct (zv := Value.agg #[Value.int Go.IntKind.i64 0, Value.int Go.IntKind.i64 0, Value.int Go.IntKind.i64 0]) (by kernel_rfl) rfl Try.underlying57 (by kernel_rfl)
instance : TyI Try.prog 67 (TypeDesc.slice 73) 1 false := ⟨Try.underlying67, Try.sizeOf67, Try.isAgg67⟩
instance : TyZ Try.prog 67 [Value.slice none 0 0] := ⟨fun w => ⟨_, Try.zeroValue67 w, rfl⟩⟩
instance : TyI Try.prog 73 (TypeDesc.struct #[{ name := "Kind", type := 5, offset := 0, embedded := false, tag := "", pkgPath := "", byteOffset := 0 }, { name := "From", type := 3, offset := 1, embedded := false, tag := "", pkgPath := "", byteOffset := 8 }, { name := "To", type := 3, offset := 2, embedded := false, tag := "", pkgPath := "", byteOffset := 16 }, { name := "Value", type := 34, offset := 3, embedded := false, tag := "", pkgPath := "", byteOffset := 24 }]) 5 true := ⟨Try.underlying73, Try.sizeOf73, Try.isAgg73⟩
instance : TyZ Try.prog 73 [Value.int Go.IntKind.u8 0, Value.int Go.IntKind.i64 0, Value.int Go.IntKind.i64 0, Value.int Go.IntKind.i64 0, Value.int Go.IntKind.i64 0] := ⟨fun w => ⟨_, Try.zeroValue73 w, rfl⟩⟩
instance : TyB Try.prog 73 [(0, 1), (1, 1), (2, 1), (3, 2)] [Value.int Go.IntKind.u8 0, Value.int Go.IntKind.i64 0, Value.int Go.IntKind.i64 0, Value.int Go.IntKind.i64 0, Value.int Go.IntKind.i64 0] := tyB_struct (zv := Value.agg #[Value.int Go.IntKind.u8 0, Value.int Go.IntKind.i64 0, Value.int Go.IntKind.i64 0, Value.int Go.IntKind.i64 0, Value.int Go.IntKind.i64 0]) (by kernel_rfl) rfl Try.underlying73 (by kernel_rfl)
instance : TyI Try.prog 75 (TypeDesc.slice 88) 1 false := ⟨Try.underlying75, Try.sizeOf75, Try.isAgg75⟩
instance : TyI Try.prog 82 (TypeDesc.struct #[{ name := "Id", type := 3, offset := 0, embedded := false, tag := "", pkgPath := "", byteOffset := 0 }, { name := "Long", type := 34, offset := 1, embedded := false, tag := "", pkgPath := "", byteOffset := 8 }, { name := "Fall", type := 34, offset := 3, embedded := false, tag := "", pkgPath := "", byteOffset := 24 }, { name := "Radius", type := 34, offset := 5, embedded := false, tag := "", pkgPath := "", byteOffset := 40 }, { name := "Side", type := 5, offset := 7, embedded := false, tag := "", pkgPath := "", byteOffset := 56 }, { name := "Wall", type := 3, offset := 8, embedded := false, tag := "", pkgPath := "", byteOffset := 64 }]) 9 true := ⟨Try.underlying82, Try.sizeOf82, Try.isAgg82⟩
instance : TyZ Try.prog 82 [Value.int Go.IntKind.i64 0, Value.int Go.IntKind.i64 0, Value.int Go.IntKind.i64 0, Value.int Go.IntKind.i64 0, Value.int Go.IntKind.i64 0, Value.int Go.IntKind.i64 0, Value.int Go.IntKind.i64 0, Value.int Go.IntKind.u8 0, Value.int Go.IntKind.i64 0] := ⟨fun w => ⟨_, Try.zeroValue82 w, rfl⟩⟩
instance : TyB Try.prog 82 [(0, 1), (1, 2), (3, 2), (5, 2), (7, 1), (8, 1)] [Value.int Go.IntKind.i64 0, Value.int Go.IntKind.i64 0, Value.int Go.IntKind.i64 0, Value.int Go.IntKind.i64 0, Value.int Go.IntKind.i64 0, Value.int Go.IntKind.i64 0, Value.int Go.IntKind.i64 0, Value.int Go.IntKind.u8 0, Value.int Go.IntKind.i64 0] := tyB_struct (zv := Value.agg #[Value.int Go.IntKind.i64 0, Value.int Go.IntKind.i64 0, Value.int Go.IntKind.i64 0, Value.int Go.IntKind.i64 0, Value.int Go.IntKind.i64 0, Value.int Go.IntKind.i64 0, Value.int Go.IntKind.i64 0, Value.int Go.IntKind.u8 0, Value.int Go.IntKind.i64 0]) (by kernel_rfl) rfl Try.underlying82 (by kernel_rfl)
instance : TyI Try.prog 83 (TypeDesc.func #[3, 34] #[4] false) 1 false := ⟨Try.underlying83, Try.sizeOf83, Try.isAgg83⟩
instance : TyI Try.prog 88 (TypeDesc.int Go.IntKind.u32) 1 false := ⟨Try.underlying88, Try.sizeOf88, Try.isAgg88⟩
instance : TyI Try.prog 91 (TypeDesc.map 3 4) 1 false := ⟨Try.underlying91, Try.sizeOf91, Try.isAgg91⟩
instance : TyI Try.prog 92 (TypeDesc.pointer 82) 1 false := ⟨Try.underlying92, Try.sizeOf92, Try.isAgg92⟩
instance : TyI Try.prog 96 (TypeDesc.int Go.IntKind.u16) 1 false := ⟨Try.underlying96, Try.sizeOf96, Try.isAgg96⟩
instance : TyI Try.prog 102 (TypeDesc.struct #[{ name := "Track", type := 24, offset := 0, embedded := true, tag := "", pkgPath := "", byteOffset := 0 }]) 1 true := ⟨Try.underlying102, Try.sizeOf102, Try.isAgg102⟩
instance : TyZ Try.prog 102 [Value.slice none 0 0] := ⟨fun w => ⟨_, Try.zeroValue102 w, rfl⟩⟩
instance : TyB Try.prog 102 [(0, 1)] [Value.slice none 0 0] := tyB_struct (zv := Value.agg #[Value.slice none 0 0]) (by kernel_rfl) rfl Try.underlying102 (by kernel_rfl)
instance : TyI Try.prog 117 (TypeDesc.func #[3, 82] #[4] false) 1 false := ⟨Try.underlying117, Try.sizeOf117, Try.isAgg117⟩
instance : TyI Try.prog 123 (TypeDesc.map 3 73) 1 false := ⟨Try.underlying123, Try.sizeOf123, Try.isAgg123⟩
instance : TyZ Try.prog 123 [Value.map none] := ⟨fun w => ⟨_, Try.zeroValue123 w, rfl⟩⟩
instance : TyI Try.prog 131 (TypeDesc.func #[3, 73] #[4] false) 1 false := ⟨Try.underlying131, Try.sizeOf131, Try.isAgg131⟩
instance : TyI Try.prog 138 (TypeDesc.func #[3] #[4] false) 1 false := ⟨Try.underlying138, Try.sizeOf138, Try.isAgg138⟩
instance : TyI Try.prog 139 (TypeDesc.slice 57) 1 false := ⟨Try.underlying139, Try.sizeOf139, Try.isAgg139⟩
instance : TyZ Try.prog 139 [Value.slice none 0 0] := ⟨fun w => ⟨_, Try.zeroValue139 w, rfl⟩⟩
instance : TyI Try.prog 141 (TypeDesc.func #[3, 57] #[4] false) 1 false := ⟨Try.underlying141, Try.sizeOf141, Try.isAgg141⟩
instance : TyI Try.prog 142 (TypeDesc.slice 22) 1 false := ⟨Try.underlying142, Try.sizeOf142, Try.isAgg142⟩
instance : TyZ Try.prog 142 [Value.slice none 0 0] := ⟨fun w => ⟨_, Try.zeroValue142 w, rfl⟩⟩
instance : TyI Try.prog 146 (TypeDesc.func #[131] #[] false) 1 false := ⟨Try.underlying146, Try.sizeOf146, Try.isAgg146⟩
instance : TyI Try.prog 149 (TypeDesc.func #[92] #[97] false) 1 false := ⟨Try.underlying149, Try.sizeOf149, Try.isAgg149⟩
instance : TyI Try.prog 152 (TypeDesc.array 3 151) 3 true := ⟨Try.underlying152, Try.sizeOf152, Try.isAgg152⟩
instance : TyZ Try.prog 152 [Value.nilFunc, Value.nilFunc, Value.nilFunc] := ⟨fun w => ⟨_, Try.zeroValue152 w, rfl⟩⟩
instance : TyBA Try.prog 152 1 [Value.nilFunc, Value.nilFunc, Value.nilFunc] := tyB_array (zv := Value.agg #[Value.nilFunc, Value.nilFunc, Value.nilFunc]) (by kernel_rfl) rfl Try.underlying152 (by kernel_rfl)
instance : TyI Try.prog 154 (TypeDesc.array 13 3) 13 true := ⟨Try.underlying154, Try.sizeOf154, Try.isAgg154⟩
instance : TyZ Try.prog 154 [Value.int Go.IntKind.i64 0, Value.int Go.IntKind.i64 0, Value.int Go.IntKind.i64 0, Value.int Go.IntKind.i64 0, Value.int Go.IntKind.i64 0, Value.int Go.IntKind.i64 0, Value.int Go.IntKind.i64 0, Value.int Go.IntKind.i64 0, Value.int Go.IntKind.i64 0, Value.int Go.IntKind.i64 0, Value.int Go.IntKind.i64 0, Value.int Go.IntKind.i64 0, Value.int Go.IntKind.i64 0] := ⟨fun w => ⟨_, Try.zeroValue154 w, rfl⟩⟩
instance : TyBA Try.prog 154 1 [Value.int Go.IntKind.i64 0, Value.int Go.IntKind.i64 0, Value.int Go.IntKind.i64 0, Value.int Go.IntKind.i64 0, Value.int Go.IntKind.i64 0, Value.int Go.IntKind.i64 0, Value.int Go.IntKind.i64 0, Value.int Go.IntKind.i64 0, Value.int Go.IntKind.i64 0, Value.int Go.IntKind.i64 0, Value.int Go.IntKind.i64 0, Value.int Go.IntKind.i64 0, Value.int Go.IntKind.i64 0] := tyB_array (zv := Value.agg #[Value.int Go.IntKind.i64 0, Value.int Go.IntKind.i64 0, Value.int Go.IntKind.i64 0, Value.int Go.IntKind.i64 0, Value.int Go.IntKind.i64 0, Value.int Go.IntKind.i64 0, Value.int Go.IntKind.i64 0, Value.int Go.IntKind.i64 0, Value.int Go.IntKind.i64 0, Value.int Go.IntKind.i64 0, Value.int Go.IntKind.i64 0, Value.int Go.IntKind.i64 0, Value.int Go.IntKind.i64 0]) (by kernel_rfl) rfl Try.underlying154 (by kernel_rfl)
instance : TyI Try.prog 156 (TypeDesc.array 13 154) 169 true := ⟨Try.underlying156, Try.sizeOf156, Try.isAgg156⟩
instance : TyZ Try.prog 156 (Go.Proofs.Try.zeroCells156.toList) := ⟨fun w => ⟨_, Try.zeroValue156 w, rfl⟩⟩
instance : TyBA Try.prog 156 13 (Go.Proofs.Try.zeroCells156.toList) := tyB_array (zv := Value.agg Go.Proofs.Try.zeroCells156) (by kernel_rfl) rfl Try.underlying156 (by kernel_rfl)
instance : TyI Try.prog 162 (TypeDesc.slice 42) 1 false := ⟨Try.underlying162, Try.sizeOf162, Try.isAgg162⟩
instance : TyZ Try.prog 162 [Value.slice none 0 0] := ⟨fun w => ⟨_, Try.zeroValue162 w, rfl⟩⟩
instance : FoI Try.prog 24 0 0 := foI (T := 24) (m := 0) inferInstance rfl (inferInstance : TyI Try.prog 22 _ _ _) rfl rfl
instance : FoI Try.prog 34 0 0 := foI (T := 34) (m := 0) inferInstance rfl (inferInstance : TyI Try.prog 3 _ _ _) rfl rfl
instance : FoI Try.prog 34 1 1 := foI (T := 34) (m := 1) inferInstance rfl (inferInstance : TyI Try.prog 3 _ _ _) rfl rfl
instance : FoI Try.prog 57 0 0 := foI (T := 57) (m := 0) inferInstance rfl (inferInstance : TyI Try.prog 3 _ _ _) rfl rfl
instance : FoI Try.prog 57 1 1 := foI (T := 57) (m := 1) inferInstance rfl (inferInstance : TyI Try.prog 34 _ _ _) rfl rfl
instance : FoI Try.prog 73 0 0 := foI (T := 73) (m := 0) inferInstance rfl (inferInstance : TyI Try.prog 5 _ _ _) rfl rfl
instance : FoI Try.prog 73 1 1 := foI (T := 73) (m := 1) inferInstance rfl (inferInstance : TyI Try.prog 3 _ _ _) rfl rfl
instance : FoI Try.prog 73 2 2 := foI (T := 73) (m := 2) inferInstance rfl (inferInstance : TyI Try.prog 3 _ _ _) rfl rfl
instance : FoI Try.prog 73 3 3 := foI (T := 73) (m := 3) inferInstance rfl (inferInstance : TyI Try.prog 34 _ _ _) rfl rfl
instance : FoI Try.prog 82 0 0 := foI (T := 82) (m := 0) inferInstance rfl (inferInstance : TyI Try.prog 3 _ _ _) rfl rfl
instance : FoI Try.prog 82 1 1 := foI (T := 82) (m := 1) inferInstance rfl (inferInstance : TyI Try.prog 34 _ _ _) rfl rfl
instance : FoI Try.prog 82 2 3 := foI (T := 82) (m := 2) inferInstance rfl (inferInstance : TyI Try.prog 34 _ _ _) rfl rfl
instance : FoI Try.prog 82 3 5 := foI (T := 82) (m := 3) inferInstance rfl (inferInstance : TyI Try.prog 34 _ _ _) rfl rfl
instance : FoI Try.prog 82 4 7 := foI (T := 82) (m := 4) inferInstance rfl (inferInstance : TyI Try.prog 5 _ _ _) rfl rfl
instance : FoI Try.prog 82 5 8 := foI (T := 82) (m := 5) inferInstance rfl (inferInstance : TyI Try.prog 3 _ _ _) rfl rfl
instance : FoI Try.prog 102 0 0 := foI (T := 102) (m := 0) inferInstance rfl (inferInstance : TyI Try.prog 24 _ _ _) rfl rfl
instance : CallI Try.prog 2 := ⟨Try.call2⟩
instance : CallI Try.prog 3 := ⟨Try.call3⟩
instance : CallI Try.prog 4 := ⟨Try.call4⟩
instance : CallI Try.prog 5 := ⟨Try.call5⟩
instance : CallI Try.prog 6 := ⟨Try.call6⟩
instance : CallI Try.prog 7 := ⟨Try.call7⟩
instance : CallI Try.prog 8 := ⟨Try.call8⟩
instance : CallI Try.prog 9 := ⟨Try.call9⟩
instance : CallI Try.prog 10 := ⟨Try.call10⟩
instance : CallI Try.prog 11 := ⟨Try.call11⟩
instance : CallI Try.prog 12 := ⟨Try.call12⟩
instance : CallI Try.prog 13 := ⟨Try.call13⟩
instance : CallI Try.prog 14 := ⟨Try.call14⟩
instance : CallI Try.prog 15 := ⟨Try.call15⟩
instance : CallI Try.prog 16 := ⟨Try.call16⟩
instance : CallI Try.prog 17 := ⟨Try.call17⟩
instance : CallI Try.prog 18 := ⟨Try.call18⟩
instance : CallI Try.prog 19 := ⟨Try.call19⟩
instance : CallI Try.prog 20 := ⟨Try.call20⟩
instance : CallI Try.prog 21 := ⟨Try.call21⟩
instance : CallI Try.prog 22 := ⟨Try.call22⟩
instance : CallI Try.prog 23 := ⟨Try.call23⟩
instance : CallI Try.prog 24 := ⟨Try.call24⟩
instance : CallI Try.prog 25 := ⟨Try.call25⟩
instance : CallI Try.prog 26 := ⟨Try.call26⟩
instance : CallI Try.prog 27 := ⟨Try.call27⟩
instance : CallI Try.prog 28 := ⟨Try.call28⟩
instance : CallI Try.prog 29 := ⟨Try.call29⟩
instance : CallI Try.prog 30 := ⟨Try.call30⟩
instance : CallI Try.prog 31 := ⟨Try.call31⟩
instance : CallI Try.prog 32 := ⟨Try.call32⟩
instance : CallI Try.prog 33 := ⟨Try.call33⟩
instance : CallI Try.prog 34 := ⟨Try.call34⟩
instance : CallI Try.prog 35 := ⟨Try.call35⟩
instance : CallI Try.prog 36 := ⟨Try.call36⟩
instance : CallI Try.prog 37 := ⟨Try.call37⟩
instance : CallI Try.prog 38 := ⟨Try.call38⟩
instance : CallI Try.prog 39 := ⟨Try.call39⟩
instance : CallI Try.prog 40 := ⟨Try.call40⟩
instance : CallI Try.prog 41 := ⟨Try.call41⟩
instance : CallI Try.prog 42 := ⟨Try.call42⟩
instance : CallI Try.prog 43 := ⟨Try.call43⟩
instance : CallI Try.prog 44 := ⟨Try.call44⟩
instance : CallI Try.prog 45 := ⟨Try.call45⟩
instance : CallI Try.prog 46 := ⟨Try.call46⟩
instance : CallI Try.prog 47 := ⟨Try.call47⟩
instance : CallI Try.prog 48 := ⟨Try.call48⟩
instance : CallI Try.prog 49 := ⟨Try.call49⟩
instance : CallI Try.prog 50 := ⟨Try.call50⟩
instance : CallI Try.prog 51 := ⟨Try.call51⟩
instance : CallI Try.prog 52 := ⟨Try.call52⟩
instance : CallI Try.prog 53 := ⟨Try.call53⟩
instance : CallI Try.prog 54 := ⟨Try.call54⟩
instance : CallI Try.prog 55 := ⟨Try.call55⟩
instance : CallI Try.prog 56 := ⟨Try.call56⟩
instance : CallI Try.prog 57 := ⟨Try.call57⟩
instance : CallI Try.prog 58 := ⟨Try.call58⟩
instance : CallI Try.prog 59 := ⟨Try.call59⟩
instance : CallI Try.prog 60 := ⟨Try.call60⟩
instance : CallI Try.prog 61 := ⟨Try.call61⟩
instance : CallI Try.prog 62 := ⟨Try.call62⟩
instance : CallI Try.prog 63 := ⟨Try.call63⟩
instance : CallI Try.prog 64 := ⟨Try.call64⟩
instance : CallI Try.prog 65 := ⟨Try.call65⟩
instance : CallI Try.prog 66 := ⟨Try.call66⟩
instance : CallI Try.prog 67 := ⟨Try.call67⟩
instance : CallI Try.prog 68 := ⟨Try.call68⟩
instance : CallI Try.prog 69 := ⟨Try.call69⟩
instance : CallI Try.prog 70 := ⟨Try.call70⟩
instance : CallI Try.prog 71 := ⟨Try.call71⟩
instance : CallI Try.prog 72 := ⟨Try.call72⟩
instance : CallI Try.prog 73 := ⟨Try.call73⟩
instance : CallI Try.prog 74 := ⟨Try.call74⟩
instance : CallI Try.prog 75 := ⟨Try.call75⟩
instance : CallI Try.prog 76 := ⟨Try.call76⟩
instance : CallI Try.prog 77 := ⟨Try.call77⟩
instance : CallI Try.prog 78 := ⟨Try.call78⟩
instance : CallI Try.prog 79 := ⟨Try.call79⟩
instance : CallI Try.prog 80 := ⟨Try.call80⟩
instance : CallI Try.prog 81 := ⟨Try.call81⟩
instance : CallI Try.prog 82 := ⟨Try.call82⟩
instance : CallI Try.prog 83 := ⟨Try.call83⟩
instance : CallI Try.prog 84 := ⟨Try.call84⟩
instance : CallI Try.prog 85 := ⟨Try.call85⟩
instance : CallI Try.prog 86 := ⟨Try.call86⟩
instance : CallI Try.prog 87 := ⟨Try.call87⟩
instance : CallI Try.prog 88 := ⟨Try.call88⟩
instance : CallI Try.prog 89 := ⟨Try.call89⟩
instance : CallI Try.prog 90 := ⟨Try.call90⟩
instance : CallI Try.prog 91 := ⟨Try.call91⟩
instance : CallI Try.prog 92 := ⟨Try.call92⟩
instance : CallI Try.prog 93 := ⟨Try.call93⟩
instance : CallI Try.prog 94 := ⟨Try.call94⟩
instance : CallI Try.prog 95 := ⟨Try.call95⟩
instance : CallI Try.prog 96 := ⟨Try.call96⟩
instance : CallI Try.prog 97 := ⟨Try.call97⟩
instance : CallI Try.prog 98 := ⟨Try.call98⟩
instance : CallI Try.prog 99 := ⟨Try.call99⟩
instance : CallI Try.prog 100 := ⟨Try.call100⟩
instance : CallI Try.prog 101 := ⟨Try.call101⟩
instance : CallI Try.prog 102 := ⟨Try.call102⟩
end Go.Proofs.Ytekjkaoibcfgfaa
